/- The legs of a split. No condition. -/
import Derived.Test.YtgehbhkfehmdkaaGreatKFxShV
import Derived.Test.YtgehbhkfehmdkaaGreatKFxShPv
import Derived.Test.YtgehbhkfehmdkaaGreatKFxShLz
import Derived.Test.YtgehbhkfehmdkaaGreatKFxShMu
import Derived.Test.YtgehbhkfehmdkaaGreatKFxShSe
import Derived.Test.YtgehbhkfehmdkaaGreatKFxShIm
import Derived.Test.YtgehbhkfehmdkaaGreatKFxShFx
import Derived.Test.YtgehbhkfehmdkaaGreatKFxShNe
import Derived.Test.YtgehbhkfehmdkaaGreatKFxShPo
import Derived.Test.YtgehbhkfehmdkaaGreatKFxShBo
set_option maxRecDepth 100000
set_option maxHeartbeats 40000000
set_option linter.unusedSimpArgs false
set_option linter.unusedVariables false
namespace Go.Proofs.YtgehbhkfehmdkaaGreat.Sh
section
open Go.RowKit
def spL (pa:Int) (who was is:List Int) (i:Int):List Leg:=mkl i.toNat (fun k => ⟨rd who k,pa,rd is k - rd was k⟩)
def spG (was is:List Int) (i:Int):Int:=ak id (pf is i) - ak id (pf was i)
theorem nr {pa i:Int} {who was is:List Int} (h:0 ≤ i):((spL pa who was is i).length:Int) = i:=by rw [spL,gP];omega
theorem pt {pa i:Int} {who was is:List Int} (h:0 ≤ i):spL pa who was is (i + 1) = spL pa who was is i ++ [⟨rd who i,pa,rd is i - rd was i⟩]:=iU h
theorem vf {was is:List Int} {i:Int} (h:0 ≤ i ∧ i < was.length) (h2:i < is.length):spG was is (i + 1) = spG was is i + (rd is i - rd was i):=by
 unfold spG
 rw [cq ⟨h.1,h2⟩,cq h]
 simp only [id]
 omega
abbrev fW (pa iss:Int) (who was is:List Int):List Leg:=spL pa who was is who.length ++ [⟨iss,pa,-spG was is who.length⟩]
end
section
open Go.RowKit
theorem rR {was is:List Int} {n:Int} (h1:was.length = n) (h2:is.length = n):spG was is n = ak id is - ak id was:=by
 unfold spG
 rw [b8 (by omega),b8 (by omega)]
theorem rS {pa c:Int} {who was is:List Int}:∀ k:Nat,(k:Int) ≤ was.length → (k:Int) ≤ is.length → ak (eR c) (spL pa who was is k) = if pa = c then spG was is k else 0
 | 0,_,_ => by show (0:Int) = if pa = c then (0:Int) else 0;split <;> rfl
 | k + 1,hk,hk2 => by
   have ih:=rS (pa:=pa) (c:=c) (who:=who) (was:=was) (is:=is) k (by omega) (by omega)
   have e:((k + 1:Nat):Int) = (k:Int) + 1:=by omega
   rw [e,pt (by omega),bh,cZ,ih,vf ⟨by omega,by omega⟩ (by omega)]
   unfold eR
   dsimp only
   split <;> omega
theorem wb {pa i:Int} {who was is:List Int} {x:Leg} (h0:0 ≤ i) (h:x ∈ spL pa who was is i):∃ k:Int,(0 ≤ k ∧ k < i) ∧ x = ⟨rd who k,pa,rd is k - rd was k⟩:=by
 obtain ⟨k,hk,rfl⟩:=bj h
 rw [nr h0] at hk
 exact ⟨k,hk,fF (by omega)⟩
theorem wH {pa iss:Int} {who was is:List Int} (hp:ag pa) (hc:ag iss) (hw:∀ x ∈ who,ag x) (hl:was.length = who.length ∧ is.length = who.length) (h40:who.length ≤ 40) (h1:∀ x ∈ was,inP x 0 1000000000000000) (h2:∀ x ∈ is,inP x 0 1000000000000000) (s1:0 ≤ ak id was ∧ ak id was ≤ 1000000000000000) (s2:0 ≤ ak id is ∧ ak id is ≤ 1000000000000000):co (fW pa iss who was is):=by
 have hlen:=nr (pa:=pa) (who:=who) (was:=was) (is:=is) (i:=who.length) (by omega)
 have hg:=rR (was:=was) (is:=is) (n:=who.length) (by omega) (by omega)
 refine ⟨⟨by show (spL pa who was is who.length ++ [_]).length ≤ 160;rw [List.length_append,List.length_cons,List.length_nil];omega,fun x hx => ?_⟩,fun x hx => ?_⟩
 ·rcases List.mem_append.1 hx with hx | hx
  ·obtain ⟨k,hk,rfl⟩:=wb (by omega) hx
   have b1:0 ≤ rd was k ∧ rd was k ≤ 1000000000000000:=h1 _ (az (l:=was) (i:=k) (by omega))
   have b2:0 ≤ rd is k ∧ rd is k ≤ 1000000000000000:=h2 _ (az (l:=is) (i:=k) (by omega))
   exact ⟨hw _ (az hk),hp,by show -1000000000000000 ≤ rd is k - rd was k ∧ rd is k - rd was k ≤ 1000000000000000;omega⟩
  ·rcases List.mem_singleton.1 hx with rfl
   exact ⟨hc,hp,by show -1000000000000000 ≤ -spG was is who.length ∧ -spG was is who.length ≤ 1000000000000000;omega⟩
 ·have e:=rS (pa:=pa) (c:=x.Instr) (who:=who) (was:=was) (is:=is) who.length (by omega) (by omega)
  rw [bf,bh,cZ,e]
  unfold eR
  dsimp only
  split <;> omega
noncomputable def aN (b:Books) (pa n d iss:Int):Books × Int × Int :=
 sel (¬ (BooksOk b ∧ ag pa ∧ ag iss ∧ inP n 1 1000000 ∧ inP d 1 1000000)) (⟨[],[],[],[],[],0⟩,0,1)
 (sel (aa b.Instrs pa = 0 ∨ a9 b.Accounts iss = 0) (b,0,3)
 (sel (aa b.Instrs pa ≠ 2 ∨ a9 b.Accounts iss ≠ 2) (b,0,4)
 (sel (¬ cF b pa) (b,0,8)
 (sel (¬ 0 < ((who b.Accounts b.Bals pa).length:Int)) (b,0,5)
 (sel (¬ cO (ak id (aq b.Accounts b.Bals pa)) n d) (b,0,8)
 (sel (¬ (poR b (fW pa iss (who b.Accounts b.Bals pa) (aq b.Accounts b.Bals pa) (shs (ak id (aq b.Accounts b.Bals pa) * n / d) (aq b.Accounts b.Bals pa)))).2 = 0) (b,0,cj (poR b (fW pa iss (who b.Accounts b.Bals pa) (aq b.Accounts b.Bals pa) (shs (ak id (aq b.Accounts b.Bals pa) * n / d) (aq b.Accounts b.Bals pa)))).2)
 (sel (¬ (scN b.Lots pa (who b.Accounts b.Bals pa) (shs (ak id (aq b.Accounts b.Bals pa) * n / d) (aq b.Accounts b.Bals pa)) ((who b.Accounts b.Bals pa).length:Int).toNat).2 = 0) (b,0,7)
 (⟨b.Accounts,b.Instrs,(poR b (fW pa iss (who b.Accounts b.Bals pa) (aq b.Accounts b.Bals pa) (shs (ak id (aq b.Accounts b.Bals pa) * n / d) (aq b.Accounts b.Bals pa)))).1,(scN b.Lots pa (who b.Accounts b.Bals pa) (shs (ak id (aq b.Accounts b.Bals pa) * n / d) (aq b.Accounts b.Bals pa)) ((who b.Accounts b.Bals pa).length:Int).toNat).1,b.Trades,b.Lot⟩,(ak id (aq b.Accounts b.Bals pa) * n / d),0))))))))
theorem jE {b:Books} {pa n d iss:Int}  (c0:¬ (BooksOk b ∧ ag pa ∧ ag iss ∧ inP n 1 1000000 ∧ inP d 1 1000000)):aN b pa n d iss = (⟨[],[],[],[],[],0⟩,0,1):=by
 rw [aN,al c0]
theorem fZ {b:Books} {pa n d iss:Int} (c0:¬ (¬ (BooksOk b ∧ ag pa ∧ ag iss ∧ inP n 1 1000000 ∧ inP d 1 1000000))) (c1:aa b.Instrs pa = 0 ∨ a9 b.Accounts iss = 0):aN b pa n d iss = (b,0,3):=by
 rw [aN,a8 c0,al c1]
theorem ga {b:Books} {pa n d iss:Int} (c0:¬ (¬ (BooksOk b ∧ ag pa ∧ ag iss ∧ inP n 1 1000000 ∧ inP d 1 1000000))) (c1:¬ (aa b.Instrs pa = 0 ∨ a9 b.Accounts iss = 0)) (c2:aa b.Instrs pa ≠ 2 ∨ a9 b.Accounts iss ≠ 2):aN b pa n d iss = (b,0,4):=by
 rw [aN,a8 c0,a8 c1,al c2]
theorem o7 {b:Books} {pa n d iss:Int} (c0:¬ (¬ (BooksOk b ∧ ag pa ∧ ag iss ∧ inP n 1 1000000 ∧ inP d 1 1000000))) (c1:¬ (aa b.Instrs pa = 0 ∨ a9 b.Accounts iss = 0)) (c2:¬ (aa b.Instrs pa ≠ 2 ∨ a9 b.Accounts iss ≠ 2)) (c3:¬ cF b pa):aN b pa n d iss = (b,0,8):=by
 rw [aN,a8 c0,a8 c1,a8 c2,al c3]
theorem o8 {b:Books} {pa n d iss:Int} (c0:¬ (¬ (BooksOk b ∧ ag pa ∧ ag iss ∧ inP n 1 1000000 ∧ inP d 1 1000000))) (c1:¬ (aa b.Instrs pa = 0 ∨ a9 b.Accounts iss = 0)) (c2:¬ (aa b.Instrs pa ≠ 2 ∨ a9 b.Accounts iss ≠ 2)) (c3:¬ (¬ cF b pa)) (c4:¬ 0 < ((who b.Accounts b.Bals pa).length:Int)):aN b pa n d iss = (b,0,5):=by
 rw [aN,a8 c0,a8 c1,a8 c2,a8 c3,al c4]
theorem o9 {b:Books} {pa n d iss:Int} (c0:¬ (¬ (BooksOk b ∧ ag pa ∧ ag iss ∧ inP n 1 1000000 ∧ inP d 1 1000000))) (c1:¬ (aa b.Instrs pa = 0 ∨ a9 b.Accounts iss = 0)) (c2:¬ (aa b.Instrs pa ≠ 2 ∨ a9 b.Accounts iss ≠ 2)) (c3:¬ (¬ cF b pa)) (c4:¬ (¬ 0 < ((who b.Accounts b.Bals pa).length:Int))) (c5:¬ cO (ak id (aq b.Accounts b.Bals pa)) n d):aN b pa n d iss = (b,0,8):=by
 rw [aN,a8 c0,a8 c1,a8 c2,a8 c3,a8 c4,al c5]
theorem oc {b:Books} {pa n d iss:Int} (c0:¬ (¬ (BooksOk b ∧ ag pa ∧ ag iss ∧ inP n 1 1000000 ∧ inP d 1 1000000))) (c1:¬ (aa b.Instrs pa = 0 ∨ a9 b.Accounts iss = 0)) (c2:¬ (aa b.Instrs pa ≠ 2 ∨ a9 b.Accounts iss ≠ 2)) (c3:¬ (¬ cF b pa)) (c4:¬ (¬ 0 < ((who b.Accounts b.Bals pa).length:Int))) (c5:¬ (¬ cO (ak id (aq b.Accounts b.Bals pa)) n d)) (c6:¬ (poR b (fW pa iss (who b.Accounts b.Bals pa) (aq b.Accounts b.Bals pa) (shs (ak id (aq b.Accounts b.Bals pa) * n / d) (aq b.Accounts b.Bals pa)))).2 = 0):aN b pa n d iss = (b,0,cj (poR b (fW pa iss (who b.Accounts b.Bals pa) (aq b.Accounts b.Bals pa) (shs (ak id (aq b.Accounts b.Bals pa) * n / d) (aq b.Accounts b.Bals pa)))).2):=by
 rw [aN,a8 c0,a8 c1,a8 c2,a8 c3,a8 c4,a8 c5,al c6]
theorem oe {b:Books} {pa n d iss:Int} (c0:¬ (¬ (BooksOk b ∧ ag pa ∧ ag iss ∧ inP n 1 1000000 ∧ inP d 1 1000000))) (c1:¬ (aa b.Instrs pa = 0 ∨ a9 b.Accounts iss = 0)) (c2:¬ (aa b.Instrs pa ≠ 2 ∨ a9 b.Accounts iss ≠ 2)) (c3:¬ (¬ cF b pa)) (c4:¬ (¬ 0 < ((who b.Accounts b.Bals pa).length:Int))) (c5:¬ (¬ cO (ak id (aq b.Accounts b.Bals pa)) n d)) (c6:¬ (¬ (poR b (fW pa iss (who b.Accounts b.Bals pa) (aq b.Accounts b.Bals pa) (shs (ak id (aq b.Accounts b.Bals pa) * n / d) (aq b.Accounts b.Bals pa)))).2 = 0)) (c7:¬ (scN b.Lots pa (who b.Accounts b.Bals pa) (shs (ak id (aq b.Accounts b.Bals pa) * n / d) (aq b.Accounts b.Bals pa)) ((who b.Accounts b.Bals pa).length:Int).toNat).2 = 0):aN b pa n d iss = (b,0,7):=by
 rw [aN,a8 c0,a8 c1,a8 c2,a8 c3,a8 c4,a8 c5,a8 c6,al c7]
theorem og {b:Books} {pa n d iss:Int} (c0:¬ (¬ (BooksOk b ∧ ag pa ∧ ag iss ∧ inP n 1 1000000 ∧ inP d 1 1000000))) (c1:¬ (aa b.Instrs pa = 0 ∨ a9 b.Accounts iss = 0)) (c2:¬ (aa b.Instrs pa ≠ 2 ∨ a9 b.Accounts iss ≠ 2)) (c3:¬ (¬ cF b pa)) (c4:¬ (¬ 0 < ((who b.Accounts b.Bals pa).length:Int))) (c5:¬ (¬ cO (ak id (aq b.Accounts b.Bals pa)) n d)) (c6:¬ (¬ (poR b (fW pa iss (who b.Accounts b.Bals pa) (aq b.Accounts b.Bals pa) (shs (ak id (aq b.Accounts b.Bals pa) * n / d) (aq b.Accounts b.Bals pa)))).2 = 0)) (c7:¬ (¬ (scN b.Lots pa (who b.Accounts b.Bals pa) (shs (ak id (aq b.Accounts b.Bals pa) * n / d) (aq b.Accounts b.Bals pa)) ((who b.Accounts b.Bals pa).length:Int).toNat).2 = 0)):aN b pa n d iss = (⟨b.Accounts,b.Instrs,(poR b (fW pa iss (who b.Accounts b.Bals pa) (aq b.Accounts b.Bals pa) (shs (ak id (aq b.Accounts b.Bals pa) * n / d) (aq b.Accounts b.Bals pa)))).1,(scN b.Lots pa (who b.Accounts b.Bals pa) (shs (ak id (aq b.Accounts b.Bals pa) * n / d) (aq b.Accounts b.Bals pa)) ((who b.Accounts b.Bals pa).length:Int).toNat).1,b.Trades,b.Lot⟩,(ak id (aq b.Accounts b.Bals pa) * n / d),0):=by
 rw [aN,a8 c0,a8 c1,a8 c2,a8 c3,a8 c4,a8 c5,a8 c6,a8 c7]
theorem lr {ba:List Account} {bi:List Instr} {bb:List Bal} {bl:List Lot} {bt:List Trade} {bn:Int} {pa n d iss:Int}:FC Tryz.prog 31 [bkV 0 ⟨ba,bi,bb,bl,bt,bn⟩,I pa,I n,I d,I iss] (bkR ⟨ba,bi,bb,bl,bt,bn⟩) (.tup [bkE 5 (aN ⟨ba,bi,bb,bl,bt,bn⟩ pa n d iss).1,I (aN ⟨ba,bi,bb,bl,bt,bn⟩ pa n d iss).2.1,I (aN ⟨ba,bi,bb,bl,bt,bn⟩ pa n d iss).2.2]) (bkR ⟨ba,bi,bb,bl,bt,bn⟩ ++ bkW (aN ⟨ba,bi,bb,bl,bt,bn⟩ pa n d iss).1):=by
 refine ay tk 195 [.cell 10 _,.tmp 11,.tmp 12] Tryz.func31 (by kernel_rfl) rfl rfl rfl rfl rfl rfl rfl ?_
 by_cases hok:BooksOk ⟨ba,bi,bb,bl,bt,bn⟩
 rotate_left
 ·
  rw [jE (b:=⟨ba,bi,bb,bl,bt,bn⟩) (fun h => hok h.1)]
  repeat' (first
| intro h9;exfalso;contradiction
| apply ap (d:=54) 0 42 2;rfl;rfl;rfl;rfl;rfl
| apply ap (d:=54) 1 74 2;rfl;rfl;rfl;rfl;rfl
| apply ap (d:=54) 2 135 3;rfl;rfl;rfl;rfl;rfl
| apply ap (d:=54) 3 137 5;rfl;rfl;rfl;rfl;rfl
| apply ap (d:=54) 4 103 8;rfl;rfl;rfl;rfl;rfl
| apply yd;rfl
| intro _
| refine nv ?_
| apply wct rfl
| apply ycp;rfl;exact ae;rfl
| fail)
  all_goals exact au [0,1,2,3,4,7,8,9,10,11] rfl rfl rfl rfl rfl rfl
 by_cases hta:ag pa ∧ ag iss ∧ inP n 1 1000000 ∧ inP d 1 1000000
 rotate_left
 ·
  rw [jE (b:=⟨ba,bi,bb,bl,bt,bn⟩) (fun h => hta h.2)]
  repeat' (first
| intro h9;exfalso;contradiction
| intro h9;exact absurd ⟨by assumption,by assumption,by assumption,by assumption⟩ hta
| apply ap (d:=54) 0 42 2;rfl;rfl;rfl;rfl;rfl
| apply ap (d:=54) 1 74 2;rfl;rfl;rfl;rfl;rfl
| apply ap (d:=54) 2 135 3;rfl;rfl;rfl;rfl;rfl
| apply ap (d:=54) 3 137 5;rfl;rfl;rfl;rfl;rfl
| apply ap (d:=54) 4 103 8;rfl;rfl;rfl;rfl;rfl
| apply yd;rfl
| intro _
| refine nv ?_
| apply wct rfl
| apply ycp;rfl;(first | exact ae | exact aG | exact aF);rfl
| fail)
  all_goals exact au [0,1,2,3,4,7,8,9,10,11] rfl rfl rfl rfl rfl rfl
 have hA:=hok.acc
 have hI:=hok.ins
 have hal:=hA.2
 obtain ⟨k1,k2,k3,k4⟩:=id hta
 have hno:∀ x ∈ [pa,iss],ag x:=fun x hx => by simp only [List.mem_cons,List.not_mem_nil,or_false] at hx;rcases hx with rfl | rfl <;> assumption
 dsimp only at hA hI hal
 have c0:¬ ¬ (BooksOk ⟨ba,bi,bb,bl,bt,bn⟩ ∧ ag pa ∧ ag iss ∧ inP n 1 1000000 ∧ inP d 1 1000000):=fun k => k ⟨hok,hta⟩
 by_cases hh:cF ⟨ba,bi,bb,bl,bt,bn⟩ pa ∧ 0 < ((who ba bb pa).length:Int)
 rotate_left
 ·
  have hnn:([]:List Int).length = 0:=rfl
  repeat' (first
| intro h9;exfalso;contradiction
| apply yds;rfl
| apply yd;rfl
| intro _
| refine nv ?_
| apply wct rfl
| apply wcf rfl
| apply aj;rfl
| apply yne;rfl
| refine zdq (id:=3) rfl (by kernel_rfl) [(.p,0),(.p,2),(.p,4),(.p,6),(.t,1),(.t,5),(.o,3),(.o,7),(.p,8),(.p,9)] [] (by kernel_rfl) rfl ?_
| apply ycp;rfl;(first | exact ae | exact aG | exact aF);rfl
| apply ycq;rfl;(first | exact aM | exact aU);rfl
| apply ly;(iterate 10 rfl);exact fg;(iterate 8 rfl)
| apply ycf;rfl;(exact aI (by exact BooksOk.midB (by assumption)));rfl
| apply zcs;(iterate 10 rfl);exact jM;exact fun _ => rfl;exact fun _ => rfl;rfl;rfl;rfl;rfl
| fail)
  all_goals first | (exfalso;exact hh ⟨by assumption,by omega⟩) | skip
  all_goals first
   | (rw [fZ (b:=⟨ba,bi,bb,bl,bt,bn⟩) c0 (by dsimp only;omega)]
      exact au [0,1,2,3,4,9,10,11,12,13] rfl rfl rfl rfl rfl rfl)
   | (rw [ga (b:=⟨ba,bi,bb,bl,bt,bn⟩) c0 (by dsimp only;omega) (by dsimp only;omega)]
      exact au [0,1,2,3,4,9,10,11,12,13] rfl rfl rfl rfl rfl rfl)
   | (rw [o7 (b:=⟨ba,bi,bb,bl,bt,bn⟩) c0 (by dsimp only;omega) (by dsimp only;omega) (by assumption)]
      exact au [0,1,2,3,4,9,10,11,12,13] rfl rfl rfl rfl rfl rfl)
   | (rw [o8 (b:=⟨ba,bi,bb,bl,bt,bn⟩) c0 (by dsimp only;omega) (by dsimp only;omega) (fun k => k (by assumption)) (by dsimp only;omega)]
      exact au [0,1,2,3,4,9,10,11,12,13] rfl rfl rfl rfl rfl rfl)
   | trace_state
 obtain ⟨hhe,hwl⟩:=hh
 by_cases hmd:cO (ak id (aq ba bb pa)) n d
 rotate_left
 ·
  repeat' (first
| intro h9;exfalso;first | contradiction | omega
| apply yds;rfl
| apply yd;rfl
| intro _
| refine nv ?_
| apply wct rfl
| apply wcf rfl
| apply aj;rfl
| apply yne;rfl
| refine zdq (id:=3) rfl (by kernel_rfl) [(.p,0),(.p,2),(.p,4),(.p,6),(.t,1),(.t,5),(.o,3),(.o,7),(.p,8),(.p,9)] [] (by kernel_rfl) rfl ?_
| apply ycp;rfl;(first | exact ae | exact aG | exact aF);rfl
| apply ycq;rfl;(first | exact aM | exact aU);rfl
| apply yc;rfl;(exact gB (by assumption));rfl;exact fun _ => rfl
| apply ly;(iterate 10 rfl);exact fg;(iterate 8 rfl)
| apply ycf;rfl;(exact aI (by exact BooksOk.midB (by assumption)));rfl
| fail)
  all_goals first
   | (rw [fZ (b:=⟨ba,bi,bb,bl,bt,bn⟩) c0 (by dsimp only;omega)]
      exact au [0,1,2,3,4,9,10,11,12,13] rfl rfl rfl rfl rfl rfl)
   | (rw [ga (b:=⟨ba,bi,bb,bl,bt,bn⟩) c0 (by dsimp only;omega) (by dsimp only;omega)]
      exact au [0,1,2,3,4,9,10,11,12,13] rfl rfl rfl rfl rfl rfl)
   | (rw [o9 (b:=⟨ba,bi,bb,bl,bt,bn⟩) c0 (by dsimp only;omega) (by dsimp only;omega) (fun k => k hhe) (fun k => k hwl) hmd]
      exact au [0,1,2,3,4,9,10,11,12,13] rfl rfl rfl rfl rfl rfl)
   | (exfalso;omega)
   | trace_state
 have hall:0 ≤ ak id (aq ba bb pa) * n / d ∧ ak id (aq ba bb pa) * n / d ≤ 1000000000000000:=⟨Int.ediv_nonneg (oY (lO hmd).1 (lO hmd).2.1).1 (by have:=(lO hmd).2.2;omega),hmd.2.2.2⟩
 have hsh:=rg (t:=ak id (aq ba bb pa) * n / d) hhe hwl hall
 dsimp only at hsh
 have hwn:=vr (bb:=bb) (p:=pa) hA
 have hwm:=l8 ba bb pa
 have hsl:=kv (ak id (aq ba bb pa) * n / d) (aq ba bb pa)
 have hwb:=kx ba bb pa
 have hsb:=vb hsh
 have hwx:∀ x ∈ aq ba bb pa,inP x 0 1000000000000000:=hsh.1.2.1
 have hix:∀ x ∈ shs (ak id (aq ba bb pa) * n / d) (aq ba bb pa),inP x 0 1000000000000000:=fun x hx => ⟨(hsb x hx).1,Int.le_trans (hsb x hx).2 hall.2⟩
 have hpn:=jI (pN ba bb (fW pa iss (who ba bb pa) (aq ba bb pa) (shs (ak id (aq ba bb pa) * n / d) (aq ba bb pa))))
 have hlx:(shs (ak id (aq ba bb pa) * n / d) (aq ba bb pa)).length = (who ba bb pa).length ∧ 0 < (who ba bb pa).length ∧ (who ba bb pa).length ≤ 100:=by omega
 have hs1:ak id (shs (ak id (aq ba bb pa) * n / d) (aq ba bb pa)) = (ak id (aq ba bb pa) * n / d):=nq hsh
 have ham:=hhe.2
 unfold ai inP at ham
 dsimp only at ham
 have hmn:0 ≤ ak id (aq ba bb pa):=(lO hmd).1.1
 have hlg:=wH (pa:=pa) (iss:=iss) (who:=(who ba bb pa)) (was:=(aq ba bb pa)) (is:=(shs (ak id (aq ba bb pa) * n / d) (aq ba bb pa))) k1 k2 hwn (by omega) (by omega) hwx hix ⟨hmn,ham.2⟩ (by rw [hs1];exact hall)
 have hpc:=eh hok hlg
 have hge:=rR (was:=(aq ba bb pa)) (is:=(shs (ak id (aq ba bb pa) * n / d) (aq ba bb pa))) (n:=(who ba bb pa).length) (by omega) (by omega)
 rw [hs1] at hge
 have c4:¬ ¬ cF (⟨ba,bi,bb,bl,bt,bn⟩:Books) pa:=fun k => k hhe
 have c5:¬ ¬ 0 < ((who (⟨ba,bi,bb,bl,bt,bn⟩:Books).Accounts (⟨ba,bi,bb,bl,bt,bn⟩:Books).Bals pa).length:Int):=fun k => k hwl
 have c6:¬ ¬ cO (ak id (aq (⟨ba,bi,bb,bl,bt,bn⟩:Books).Accounts (⟨ba,bi,bb,bl,bt,bn⟩:Books).Bals pa)) n d:=fun k => k hmd
 repeat' (first
| intro h9;exfalso;first | contradiction | omega
| apply yds;rfl
| apply yd;rfl
| intro _
| refine nv ?_
| apply wct rfl
| apply wcf rfl
| apply aj;rfl
| apply yne;rfl
| apply aH (α:=Leg) (e:=46);rfl
| refine zdq (id:=3) rfl (by kernel_rfl) [(.p,0),(.p,2),(.p,4),(.p,6),(.t,1),(.t,5),(.o,3),(.o,7),(.p,8),(.p,9)] [] (by kernel_rfl) rfl ?_
| apply ycp;rfl;(first | exact ae | exact aG | exact aF);rfl
| apply ycq;rfl;(first | exact aM | exact aU);rfl
| apply yc;rfl;(exact b5 (by assumption));rfl;exact fun _ => rfl
| apply ly;(iterate 10 rfl);exact fg;(iterate 8 rfl)
| apply ycf;rfl;(first | exact aI (by exact BooksOk.midB (by assumption)) | exact gC (by assumption));rfl
| fail)
 all_goals first
  | (rw [fZ (b:=⟨ba,bi,bb,bl,bt,bn⟩) c0 (by dsimp only;omega)]
     exact au [0,1,2,3,4,9,10,11,12,13] rfl rfl rfl rfl rfl rfl)
  | (rw [ga (b:=⟨ba,bi,bb,bl,bt,bn⟩) c0 (by dsimp only;omega) (by dsimp only;omega)]
     exact au [0,1,2,3,4,9,10,11,12,13] rfl rfl rfl rfl rfl rfl)
  | (exfalso;first | contradiction | omega)
  | skip
 have c1:¬ (aa (⟨ba,bi,bb,bl,bt,bn⟩:Books).Instrs pa = 0 ∨ a9 (⟨ba,bi,bb,bl,bt,bn⟩:Books).Accounts iss = 0):=by dsimp only;omega
 have c2:¬ (aa (⟨ba,bi,bb,bl,bt,bn⟩:Books).Instrs pa ≠ 2 ∨ a9 (⟨ba,bi,bb,bl,bt,bn⟩:Books).Accounts iss ≠ 2):=by dsimp only;omega
 refine wlp (X:=Int × List Leg) [1,4,5,10,15,16,17,19,22] [0,1,2,3,4,5,6,7,8,9,10] (fun x => [(25,I x.1),(24,.c (.row 10 0 x.2.length))]) (fun x => [(10,ow 46 x.2)]) (fun x => (0 ≤ x.1 ∧ x.1 ≤ (who ba bb pa).length) ∧ x.2 = spL pa (who ba bb pa) (aq ba bb pa) (shs (ak id (aq ba bb pa) * n / d) (aq ba bb pa)) x.1) (fun x => ((who ba bb pa).length - x.1).toNat) (0,[]) ⟨by dsimp only;omega,rfl⟩ rfl rfl (fun _ => rfl) (fun _ => rfl) ⟨rfl,rfl,rfl,rfl,rfl,rfl,rfl,rfl⟩ (fun x hx => ?_)
 obtain ⟨i,u⟩:=x
 obtain ⟨h0,hu⟩:=hx
 dsimp only at h0 hu ⊢
 have hpl:=nr (pa:=pa) (who:=(who ba bb pa)) (was:=(aq ba bb pa)) (is:=(shs (ak id (aq ba bb pa) * n / d) (aq ba bb pa))) h0.1
 have hul:(u.length:Int) = i:=by rw [hu];exact hpl
 by_cases hil:i < (who ba bb pa).length
 ·
  have b1:0 ≤ rd (aq ba bb pa) i ∧ rd (aq ba bb pa) i ≤ 1000000000000000:=hwx _ (az ⟨h0.1,by omega⟩)
  have b2:0 ≤ rd (shs (ak id (aq ba bb pa) * n / d) (aq ba bb pa)) i ∧ rd (shs (ak id (aq ba bb pa) * n / d) (aq ba bb pa)) i ≤ 1000000000000000:=hix _ (az ⟨h0.1,by omega⟩)
  have hu2:u ++ [⟨rd (who ba bb pa) i,pa,rd (shs (ak id (aq ba bb pa) * n / d) (aq ba bb pa)) i - rd (aq ba bb pa) i⟩] = spL pa (who ba bb pa) (aq ba bb pa) (shs (ak id (aq ba bb pa) * n / d) (aq ba bb pa)) (i + 1):=by rw [pt h0.1,hu]
  repeat' (first
| intro h9;exfalso;contradiction
| apply yds;rfl
| apply yd;rfl
| intro _
| refine nv ?_
| apply wct rfl
| apply aj;rfl
| apply yar;rfl;omega
| apply yix;rfl;omega
| apply yle;rfl;omega
| apply aH (α:=Leg) (e:=46);rfl
| apply yap;rfl;(((try simp only [lE,lM]);(try dsimp only);omega))
| refine zdq (id:=21) rfl (by kernel_rfl) [(.p,0),(.p,1),(.p,2),(.p,3),(.p,5),(.p,6),(.p,7),(.p,8),(.p,10),(.p,11),(.p,12),(.t,4),(.t,9),(.t,13),(.p,14),(.p,15),(.o,16),(.l,17),(.p,18)] [17] (by kernel_rfl) rfl ?_
| fail)
  all_goals first
   | exact aB (i + 1,u ++ [⟨rd (who ba bb pa) i,pa,rd (shs (ak id (aq ba bb pa) * n / d) (aq ba bb pa)) i - rd (aq ba bb pa) i⟩]) [0,1,2,3,4,5,6,7,8,9,12] ⟨rfl,rfl,rfl,rfl,rfl,rfl,rfl,rfl⟩ ⟨by dsimp only;omega,hu2⟩ (by first | omega | (dsimp only;omega))
   | (exfalso;omega)
   | trace_state
 have hug:u ++ [⟨iss,pa,ak id (aq ba bb pa) - (ak id (aq ba bb pa) * n / d)⟩] = (fW pa iss (who ba bb pa) (aq ba bb pa) (shs (ak id (aq ba bb pa) * n / d) (aq ba bb pa))):=by
  rw [hu,show i = ((who ba bb pa).length:Int) from by omega,show ak id (aq ba bb pa) - (ak id (aq ba bb pa) * n / d) = -spG (aq ba bb pa) (shs (ak id (aq ba bb pa) * n / d) (aq ba bb pa)) (who ba bb pa).length from by omega]
 have hll:(u ++ [(⟨iss,pa,ak id (aq ba bb pa) - (ak id (aq ba bb pa) * n / d)⟩:Leg)]).length ≤ 160:=by rw [hug];exact hlg.1.1
 have hsn:=ll (pN ba bb (fW pa iss (who ba bb pa) (aq ba bb pa) (shs (ak id (aq ba bb pa) * n / d) (aq ba bb pa))))
 rw [show (pN ba bb (fW pa iss (who ba bb pa) (aq ba bb pa) (shs (ak id (aq ba bb pa) * n / d) (aq ba bb pa)))) = pN ba bb (u ++ [⟨iss,pa,ak id (aq ba bb pa) - (ak id (aq ba bb pa) * n / d)⟩]) from by rw [hug]] at hsn
 repeat' (first
| intro h9;exfalso;contradiction
| apply yds;rfl
| apply yd;rfl
| intro _
| refine nv ?_
| apply wcf rfl
| apply ah rfl
| apply aj;rfl
| apply yar;rfl;omega
| apply aH (α:=Leg) (e:=46);rfl
| apply yap;rfl;(((try simp only [lE,lM]);(try dsimp only);omega))
| apply ycf;rfl;(exact aI (by exact BooksOk.midB (by assumption)));rfl
| apply jb  [true,true,true,true,true,false];(iterate 10 rfl);exact cy (by omega);(iterate 6 rfl)
| fail)
 rotate_left
 ·
  have hne:¬ pN ba bb (u ++ [⟨iss,pa,ak id (aq ba bb pa) - (ak id (aq ba bb pa) * n / d)⟩]) = 0:=by assumption
  refine wlp (X:=Unit) [1,5,10,15,19,22,26,27,28] [0,1,2,3,4,5,6,7,8,9,10,11,12,13,14,15,16,17,18] (fun _ => []) (fun _ => []) (fun _ => True) (fun _ => 0) () trivial rfl rfl (fun _ => rfl) (fun _ => rfl) ⟨rfl,rfl,rfl,rfl,rfl,rfl,rfl,rfl⟩ (fun x hx => ?_)
  repeat' (first
| intro h9;exfalso;first | contradiction | omega
| apply yds;rfl
| apply yd;rfl
| intro _
| refine nv ?_
| apply wct rfl
| apply wcf rfl
| apply ah rfl
| apply aj;rfl
| apply yne;rfl
| apply ycf;rfl;(exact aI (by exact BooksOk.midB (by assumption)));rfl
| fail)
  all_goals first
   | (exfalso;omega)
   | (rw [hug] at hne ⊢
      rw [oc (b:=⟨ba,bi,bb,bl,bt,bn⟩) c0 c1 c2 c4 c5 c6 hne,← jJ hpc]
      exact au [0,1,2,3,4,19,20,21,22,23] rfl rfl rfl rfl rfl rfl)
   | trace_state
 have hze:pN ba bb (u ++ [⟨iss,pa,ak id (aq ba bb pa) - (ak id (aq ba bb pa) * n / d)⟩]) = 0:=by assumption
 rw [hug] at hze ⊢
 have c7:¬ ¬ pN ba bb (fW pa iss (who ba bb pa) (aq ba bb pa) (shs (ak id (aq ba bb pa) * n / d) (aq ba bb pa))) = 0:=fun k => k hze
 refine lx (X:=Option (Int × List Lot × Int)) (fun x => match x with | none => True | some y => (1 ≤ y.1 ∧ y.1 ≤ (who ba bb pa).length) ∧ ((y.2.2 = 0 ∧ scN bl pa (who ba bb pa) (shs (ak id (aq ba bb pa) * n / d) (aq ba bb pa)) y.1.toNat = (y.2.1,0)) ∨ (y.2.2 = 7 ∧ ¬ (scN bl pa (who ba bb pa) (shs (ak id (aq ba bb pa) * n / d) (aq ba bb pa)) ((who ba bb pa).length:Int).toNat).2 = 0))) (fun x => match x with | none => ⟨195,5,[(1,I pa),(5,.c (.ptr 5 0 0)),(10,.c (.ptr 6 0 0)),(15,.c (.row 7 0 (who ba bb pa).length)),(19,I (ak id (aq ba bb pa) * n / d)),(22,.c (.row 8 0 (shs (ak id (aq ba bb pa) * n / d) (aq ba bb pa)).length)),(26,.c (.ptr 14 0 0)),(27,I 0),(28,I 0)],[ro 42 ba,ro 74 bi,ro 135 bb,ro 137 bl,ro 103 bt,some ⟨true,30,6,.mx [.row 0 0 ba.length,.row 1 0 bi.length,.row 2 0 bb.length,.row 3 0 bl.length,.row 4 0 bt.length,.sc (.int .i64 bn)]⟩,some ⟨true,30,6,.mx [.sc (.slice none 0 0),.sc (.slice none 0 0),.sc (.slice none 0 0),.sc (.slice none 0 0),.sc (.slice none 0 0),.sc (.int .i64 0)]⟩,ow 3 (who ba bb pa),ow 3 (shs (ak id (aq ba bb pa) * n / d) (aq ba bb pa)),ow 42 ba,ow 74 bi,ow 135 (pL ba bb (fW pa iss (who ba bb pa) (aq ba bb pa) (shs (ak id (aq ba bb pa) * n / d) (aq ba bb pa)))),ow 137 bl,ow 103 bt,some ⟨true,30,6,.mx [.row 9 0 ba.length,.row 10 0 bi.length,.row 11 0 (pL ba bb (fW pa iss (who ba bb pa) (aq ba bb pa) (shs (ak id (aq ba bb pa) * n / d) (aq ba bb pa)))).length,.row 12 0 bl.length,.row 13 0 bt.length,.sc (.int .i64 bn)]⟩]⟩ | some y => ⟨195,5,[(1,I pa),(5,.c (.ptr 5 0 0)),(10,.c (.ptr 6 0 0)),(15,.c (.row 7 0 (who ba bb pa).length)),(19,I (ak id (aq ba bb pa) * n / d)),(22,.c (.row 8 0 (shs (ak id (aq ba bb pa) * n / d) (aq ba bb pa)).length)),(26,.c (.ptr 14 0 0)),(27,I y.2.2),(28,I y.1)],[ro 42 ba,ro 74 bi,ro 135 bb,ro 137 bl,ro 103 bt,some ⟨true,30,6,.mx [.row 0 0 ba.length,.row 1 0 bi.length,.row 2 0 bb.length,.row 3 0 bl.length,.row 4 0 bt.length,.sc (.int .i64 bn)]⟩,some ⟨true,30,6,.mx [.sc (.slice none 0 0),.sc (.slice none 0 0),.sc (.slice none 0 0),.sc (.slice none 0 0),.sc (.slice none 0 0),.sc (.int .i64 0)]⟩,ow 3 (who ba bb pa),ow 3 (shs (ak id (aq ba bb pa) * n / d) (aq ba bb pa)),ow 42 ba,ow 74 bi,ow 135 (pL ba bb (fW pa iss (who ba bb pa) (aq ba bb pa) (shs (ak id (aq ba bb pa) * n / d) (aq ba bb pa)))),ow 137 bl,ow 103 bt,some ⟨true,30,6,.mx [.row 9 0 ba.length,.row 10 0 bi.length,.row 11 0 (pL ba bb (fW pa iss (who ba bb pa) (aq ba bb pa) (shs (ak id (aq ba bb pa) * n / d) (aq ba bb pa)))).length,.row 15 0 y.2.1.length,.row 13 0 bt.length,.sc (.int .i64 bn)]⟩,ow 137 y.2.1]⟩) (fun x => match x with | none => (who ba bb pa).length + 1 | some y => ((who ba bb pa).length - y.1).toNat) none [0,1,2,3,4,5,6,7,9,13,14,18,16,17,19] trivial ⟨rfl,rfl,rfl,rfl,rfl,rfl,rfl,rfl⟩ (fun x hx => ?_)
 cases x with
 | none =>
   dsimp only
   have hS:scN bl pa (who ba bb pa) (shs (ak id (aq ba bb pa) * n / d) (aq ba bb pa)) (0:Int).toNat = (bl,0):=rfl
   by_cases hc:(aY bl (rd (who ba bb pa) 0) pa (rd (shs (ak id (aq ba bb pa) * n / d) (aq ba bb pa)) 0)).2 = 0
   ·
    have hS2:=xb (Int.le_refl 0) hS hc
    repeat' (first
| intro h9;exfalso;contradiction
| apply yds;rfl
| apply yd;rfl
| intro _
| refine nv ?_
| apply wct rfl
| apply wcf rfl
| apply aj;rfl
| apply yne;rfl
| apply yar;rfl;omega
| apply yix;rfl;omega
| apply yle;rfl;omega
| refine zdq (id:=27) rfl (by kernel_rfl) [(.p,0),(.p,2),(.p,3),(.p,4),(.p,6),(.p,7),(.p,8),(.p,9),(.t,1),(.t,5),(.t,10),(.o,11),(.p,12),(.p,13),(.p,14),(.p,15),(.p,16)] [] (by kernel_rfl) rfl ?_
| apply ycf;rfl;exact dq;rfl
| fail)
    all_goals first
     | exact aB (some (0 + 1,(aY bl (rd (who ba bb pa) 0) pa (rd (shs (ak id (aq ba bb pa) * n / d) (aq ba bb pa)) 0)).1,0)) [0,1,2,3,4,5,6,7,8,9,10,11,12,13,14,15] ⟨rfl,rfl,rfl,rfl,rfl,rfl,rfl,rfl⟩ ⟨by dsimp only;omega,.inl ⟨rfl,hS2⟩⟩ (by first | omega | (dsimp only;omega))
     | (exfalso;omega)
     | trace_state
   ·
    have hS2:=xa (n:=(who ba bb pa).length) ⟨Int.le_refl 0,by omega⟩ hS hc
    repeat' (first
| intro h9;exfalso;contradiction
| apply yds;rfl
| apply yd;rfl
| intro _
| refine nv ?_
| apply wct rfl
| apply aj;rfl
| apply yne;rfl
| apply yar;rfl;omega
| apply yix;rfl;omega
| apply yle;rfl;omega
| refine zdq (id:=27) rfl (by kernel_rfl) [(.p,0),(.p,2),(.p,3),(.p,4),(.p,6),(.p,7),(.p,8),(.p,9),(.t,1),(.t,5),(.t,10),(.o,11),(.p,12),(.p,13),(.p,14),(.p,15),(.p,16)] [] (by kernel_rfl) rfl ?_
| apply ycf;rfl;exact dq;rfl
| fail)
    all_goals first
     | exact aB (some (0 + 1,(aY bl (rd (who ba bb pa) 0) pa (rd (shs (ak id (aq ba bb pa) * n / d) (aq ba bb pa)) 0)).1,7)) [0,1,2,3,4,5,6,7,8,9,10,11,12,13,14,15] ⟨rfl,rfl,rfl,rfl,rfl,rfl,rfl,rfl⟩ ⟨by dsimp only;omega,.inr ⟨rfl,hS2⟩⟩ (by first | omega | (dsimp only;omega))
     | (exfalso;omega)
     | trace_state
 | some y =>
   obtain ⟨j,L,cc⟩:=y
   obtain ⟨j0,hj⟩:=hx
   dsimp only at j0 hj ⊢
   rcases hj with ⟨rfl,hS⟩ | ⟨rfl,hbad⟩
   ·
    by_cases hjl:j < (who ba bb pa).length
    ·
     by_cases hc:(aY L (rd (who ba bb pa) j) pa (rd (shs (ak id (aq ba bb pa) * n / d) (aq ba bb pa)) j)).2 = 0
     ·
      have hS2:=xb (by omega) hS hc
      repeat' (first
| intro h9;exfalso;contradiction
| apply yds;rfl
| apply yd;rfl
| intro _
| refine nv ?_
| apply wct rfl
| apply wcf rfl
| apply aj;rfl
| apply yne;rfl
| apply yar;rfl;omega
| apply yix;rfl;omega
| apply yle;rfl;omega
| refine zdq (id:=27) rfl (by kernel_rfl) [(.p,0),(.p,2),(.p,3),(.p,4),(.p,6),(.p,7),(.p,8),(.p,9),(.t,1),(.t,5),(.t,10),(.o,11),(.p,12),(.p,13),(.p,14),(.p,15),(.p,16)] [] (by kernel_rfl) rfl ?_
| apply ycf;rfl;exact dq;rfl
| fail)
      all_goals first
       | exact aB (some (j + 1,(aY L (rd (who ba bb pa) j) pa (rd (shs (ak id (aq ba bb pa) * n / d) (aq ba bb pa)) j)).1,0)) [0,1,2,3,4,5,6,7,8,9,10,11,12,13,14,16] ⟨rfl,rfl,rfl,rfl,rfl,rfl,rfl,rfl⟩ ⟨by dsimp only;omega,.inl ⟨rfl,hS2⟩⟩ (by first | omega | (dsimp only;omega))
       | (exfalso;omega)
       | trace_state
     ·
      have hS2:=xa (n:=(who ba bb pa).length) ⟨by omega,hjl⟩ hS hc
      repeat' (first
| intro h9;exfalso;contradiction
| apply yds;rfl
| apply yd;rfl
| intro _
| refine nv ?_
| apply wct rfl
| apply aj;rfl
| apply yne;rfl
| apply yar;rfl;omega
| apply yix;rfl;omega
| apply yle;rfl;omega
| refine zdq (id:=27) rfl (by kernel_rfl) [(.p,0),(.p,2),(.p,3),(.p,4),(.p,6),(.p,7),(.p,8),(.p,9),(.t,1),(.t,5),(.t,10),(.o,11),(.p,12),(.p,13),(.p,14),(.p,15),(.p,16)] [] (by kernel_rfl) rfl ?_
| apply ycf;rfl;exact dq;rfl
| fail)
      all_goals first
       | exact aB (some (j + 1,(aY L (rd (who ba bb pa) j) pa (rd (shs (ak id (aq ba bb pa) * n / d) (aq ba bb pa)) j)).1,7)) [0,1,2,3,4,5,6,7,8,9,10,11,12,13,14,16] ⟨rfl,rfl,rfl,rfl,rfl,rfl,rfl,rfl⟩ ⟨by dsimp only;omega,.inr ⟨rfl,hS2⟩⟩ (by first | omega | (dsimp only;omega))
       | (exfalso;omega)
       | trace_state
    ·
     have ej:j = ((who ba bb pa).length:Int):=by omega
     subst ej
     have hz:(scN bl pa (who ba bb pa) (shs (ak id (aq ba bb pa) * n / d) (aq ba bb pa)) ((who ba bb pa).length:Int).toNat).2 = 0:=by rw [hS]
     rw [og (b:=⟨ba,bi,bb,bl,bt,bn⟩) c0 c1 c2 c4 c5 c6 c7 (fun k => k hz)]
     repeat' (first
| intro h9;exfalso;contradiction
| apply yds;rfl
| apply yd;rfl
| intro _
| refine nv ?_
| apply wcf rfl
| apply ah rfl
| apply aj;rfl
| apply yne;rfl
| fail)
     all_goals first
      | (rw [show L = (scN bl pa (who ba bb pa) (shs (ak id (aq ba bb pa) * n / d) (aq ba bb pa)) ((who ba bb pa).length:Int).toNat).1 from by rw [hS]]
         exact au [0,1,2,3,4,9,10,11,15,13] rfl rfl rfl rfl rfl rfl)
      | (exfalso;omega)
      | trace_state
   ·
    rw [oe (b:=⟨ba,bi,bb,bl,bt,bn⟩) c0 c1 c2 c4 c5 c6 c7 hbad]
    repeat' (first
| intro h9;exfalso;contradiction
| apply yds;rfl
| apply yd;rfl
| intro _
| refine nv ?_
| apply wct rfl
| apply wcf rfl
| apply ah rfl
| apply aj;rfl
| apply yne;rfl
| apply ycf;rfl;(exact aI (by exact BooksOk.midB (by assumption)));rfl
| fail)
    all_goals first
     | exact au [0,1,2,3,4,16,17,18,19,20] rfl rfl rfl rfl rfl rfl
     | (exfalso;omega)
     | trace_state
end
section
open Go.RowKit
theorem BooksOk.midR {b:Books} (h:BooksOk b):aL b:=⟨by have:=h.acc.2;omega,by have:=h.ins.2;omega,by have:=h.bals.2;omega,by have:=h.lots.1.2;omega,by have:=h.trades.2;omega⟩
theorem wr {l:List Lot} {n a c q k:Int} (h:fD l n a c q k):(opL l n a c q k).length ≤ 120:=by
 have h2:=h.2
 show (cH l ⟨a,c,n + 1,q,k⟩).1.length ≤ 120
 by_cases c1:LotsOk l ∧ jV a c (n + 1) q k
 rotate_left
 ·rw [xR c1] at h2;exact absurd (show (1:Int) = 0 from h2) (by decide)
 by_cases c2:LotsOk (mrg l [⟨a,c,n + 1,q,k⟩])
 rotate_left
 ·rw [xS c1 c2] at h2;exact absurd (show (3:Int) = 0 from h2) (by decide)
 rw [xQ c1 c2]
 exact c2.1.2
theorem eI {b:Books} (m:aL b) {g:List Leg} (h:¬ ¬ (poR b g).2 = 0):(poR b g).1.length ≤ 4294967296:=Nat.le_trans (pc (Classical.not_not.1 h)) (by decide)
theorem nc {l:List Lot} {n a c q k:Int} (h:¬ ¬ fD l n a c q k):(opL l n a c q k).length ≤ 4294967296:=Nat.le_trans (wr (Classical.not_not.1 h)) (by decide)
theorem wc {b:Books} (m:aL b) {r:List Bal} {n:Int} (h:r.length ≤ 4294967296):aL ⟨b.Accounts,b.Instrs,r,b.Lots,b.Trades,n⟩:=⟨m.a1,m.a2,h,m.a4,m.a5⟩
theorem uD {b:Books} (m:aL b) {r:List Bal} {l:List Lot} {n:Int} (h:r.length ≤ 4294967296) (h2:l.length ≤ 4294967296):aL ⟨b.Accounts,b.Instrs,r,l,b.Trades,n⟩:=⟨m.a1,m.a2,h,h2,m.a5⟩
theorem kF {b:Books} {no ki:Int}:aL (aX b no ki).1:=by
 unfold aX
 refine ao (P:=fun R:Books × Int => aL R.1) (fun _ => iq) fun c0 => ?_
 have m:=(Classical.not_not.1 c0).1.midR
 exact ao (P:=fun R:Books × Int => aL R.1) (fun _ => m) fun c1 => ao (P:=fun R:Books × Int => aL R.1) (fun _ => m) fun c2 => ⟨by show (eF b.Accounts ⟨no,ki⟩).length ≤ _;rw [m3];omega,m.a2,m.a3,m.a4,m.a5⟩
theorem mF {b:Books} {no ki:Int}:aL (bm b no ki).1:=by
 unfold bm
 refine ao (P:=fun R:Books × Int => aL R.1) (fun _ => iq) fun c0 => ?_
 have m:=(Classical.not_not.1 c0).1.midR
 exact ao (P:=fun R:Books × Int => aL R.1) (fun _ => m) fun c1 => ao (P:=fun R:Books × Int => aL R.1) (fun _ => m) fun c2 => ⟨m.a1,by show (eH b.Instrs ⟨no,ki⟩).length ≤ _;rw [mi];omega,m.a3,m.a4,m.a5⟩
theorem mG {b:Books} {is ho c q k:Int}:aL (aS b is ho c q k).1:=by
 unfold aS
 refine ao (P:=fun R:Books × Int => aL R.1) (fun _ => iq) fun c0 => ?_
 have m:=(Classical.not_not.1 c0).1.midR
 exact ao (P:=fun R:Books × Int => aL R.1) (fun _ => m) fun c1 => ao (P:=fun R:Books × Int => aL R.1) (fun _ => m) fun c2 => ao (P:=fun R:Books × Int => aL R.1) (fun _ => m) fun c3 => ao (P:=fun R:Books × Int => aL R.1) (fun _ => wc m (eI m c3)) fun c4 => ao (P:=fun R:Books × Int => aL R.1) (fun _ => m) fun c5 => uD m (eI m c3) (nc c5)
theorem o6 {b:Books} {fr to c q way:Int}:aL (b9 b fr to c q way).1:=by
 unfold b9
 refine ao (P:=fun R:Books × Int × Int => aL R.1) (fun _ => iq) fun c0 => ?_
 have m:=(Classical.not_not.1 c0).1.midR
 exact ao (P:=fun R:Books × Int × Int => aL R.1) (fun _ => m) fun c1 => ao (P:=fun R:Books × Int × Int => aL R.1) (fun _ => m) fun c2 => ao (P:=fun R:Books × Int × Int => aL R.1) (fun _ => m) fun c3 => ao (P:=fun R:Books × Int × Int => aL R.1) (fun _ => wc m (eI m c3)) fun c4 => ao (P:=fun R:Books × Int × Int => aL R.1) (fun _ => m) fun c5 => ao (P:=fun R:Books × Int × Int => aL R.1) (fun _ => m) fun c6 => uD m (eI m c3) (nc c6)
theorem mI {b:Books} {no bu se pa qt ca pr:Int}:aL (b6 b no bu se pa qt ca pr).1:=by
 unfold b6
 refine ao (P:=fun R:Books × Int => aL R.1) (fun _ => iq) fun c0 => ?_
 have m:=(Classical.not_not.1 c0).1.midR
 exact ao (P:=fun R:Books × Int => aL R.1) (fun _ => m) fun c1 => ao (P:=fun R:Books × Int => aL R.1) (fun _ => m) fun c2 => ao (P:=fun R:Books × Int => aL R.1) (fun _ => m) fun c3 => ao (P:=fun R:Books × Int => aL R.1) (fun _ => m) fun c4 => ⟨m.a1,m.a2,m.a3,m.a4,by show (rX b.Trades _).length ≤ _;rw [rX,dE (nE _ _)];omega⟩
theorem lF {b:Books} {no:Int}:aL (bk b no).1:=by
 unfold bk
 refine ao (P:=fun R:Books × Int => aL R.1) (fun _ => iq) fun c0 => ?_
 have m:=(Classical.not_not.1 c0).1.midR
 exact ao (P:=fun R:Books × Int => aL R.1) (fun _ => m) fun c1 => ⟨m.a1,m.a2,m.a3,m.a4,by show (upd b.Trades _ _).length ≤ _;rw [aE];exact m.a5⟩
theorem gY {b:Books} {no way:Int}:aL (aw b no way).1:=by
 unfold aw
 refine ao (P:=fun R:Books × Int × Int => aL R.1) (fun _ => iq) fun c0 => ?_
 have m:=(Classical.not_not.1 c0).1.midR
 exact ao (P:=fun R:Books × Int × Int => aL R.1) (fun _ => m) fun c1 => ao (P:=fun R:Books × Int × Int => aL R.1) (fun _ => m) fun c2 => ao (P:=fun R:Books × Int × Int => aL R.1) (fun _ => m) fun c3 => ao (P:=fun R:Books × Int × Int => aL R.1) (fun _ => m) fun c4 => ⟨m.a1,m.a2,eI m c2,nc c4,by show (upd b.Trades _ _).length ≤ _;rw [aE];exact m.a5⟩
theorem s9 {b:Books} {ho de fr to am nu dn:Int}:aL (aZ b ho de fr to am nu dn).1:=by
 unfold aZ
 refine ao (P:=fun R:Books × Int × Int => aL R.1) (fun _ => iq) fun c0 => ?_
 have m:=(Classical.not_not.1 c0).1.midR
 exact ao (P:=fun R:Books × Int × Int => aL R.1) (fun _ => m) fun c1 => ao (P:=fun R:Books × Int × Int => aL R.1) (fun _ => m) fun c2 => ao (P:=fun R:Books × Int × Int => aL R.1) (fun _ => m) fun c3 => ao (P:=fun R:Books × Int × Int => aL R.1) (fun _ => m) fun c4 => wc m (eI m c4)
theorem q9 {b:Books} {pa ca py t:Int}:aL (bH b pa ca py t).1:=by
 unfold bH
 refine ao (P:=fun R:Books × Int × Int => aL R.1) (fun _ => iq) fun c0 => ?_
 have m:=(Classical.not_not.1 c0).1.midR
 exact ao (P:=fun R:Books × Int × Int => aL R.1) (fun _ => m) fun c1 => ao (P:=fun R:Books × Int × Int => aL R.1) (fun _ => m) fun c2 => ao (P:=fun R:Books × Int × Int => aL R.1) (fun _ => m) fun c3 => ao (P:=fun R:Books × Int × Int => aL R.1) (fun _ => m) fun c4 => ao (P:=fun R:Books × Int × Int => aL R.1) (fun _ => m) fun c5 => wc m (eI m c5)
theorem uH {way:Int}:∀ (L:List Int) {s:Books × Int × Int},aL s.1 → aL (L.foldl (stN way) s).1
 | [],_,h => h
 | x :: L,s,h => by
   rw [List.foldl_cons]
   refine uH L ?_
   unfold stN
   exact ao (P:=fun R:Books × Int × Int => aL R.1) (fun _ => ao (P:=fun R:Books × Int × Int => aL R.1) (fun _ => gY) fun _ => h) fun _ => h
theorem q8 {b:Books} {fr to way:Int}:aL (bq b fr to way).1:=by
 unfold bq
 refine ao (P:=fun R:Books × List Leg × Int × Int => aL R.1) (fun _ => iq) fun c0 => ?_
 have m:=(Classical.not_not.1 c0).1.midR
 exact ao (P:=fun R:Books × List Leg × Int × Int => aL R.1) (fun _ => m) fun _ => ao (P:=fun R:Books × List Leg × Int × Int => aL R.1) (fun _ => m) fun _ => ao (P:=fun R:Books × List Leg × Int × Int => aL R.1) (fun _ => m) fun _ => uH _ m
theorem wF {own:List Lot} {sh:List Int}:(scF own sh).length ≤ own.length:=by
 have h:=rK (own:=own) (sh:=sh) (i:=own.length) (by omega)
 unfold scF
 exact ao (P:=fun R:List Lot => R.length ≤ own.length) (fun _ => by rw [aE];omega) fun _ => by omega
theorem n8 {l:List Lot} {a c q:Int}:(aY l a c q).1.length ≤ l.length + 40:=by
 unfold aY
 refine ao (P:=fun R:List Lot × Int => R.1.length ≤ l.length + 40) (fun _ => Nat.zero_le _) fun _ => ao (P:=fun R:List Lot × Int => R.1.length ≤ l.length + 40) (fun _ => Nat.le_add_right _ _) fun _ => ao (P:=fun R:List Lot × Int => R.1.length ≤ l.length + 40) (fun _ => Nat.le_add_right _ _) fun _ => ao (P:=fun R:List Lot × Int => R.1.length ≤ l.length + 40) (fun _ => Nat.le_add_right _ _) fun h => ?_
 have h1:=wF (own:=ab l a c) (sh:=shs q ((ab l a c).map Lot.Qty))
 have h2:=cL (fun x:Lot => ¬ (x.Account = a ∧ x.Instr = c)) l
 show (mrg (bZ l a c) (scF (ab l a c) (shs q ((ab l a c).map Lot.Qty)))).length ≤ _
 rw [rq]
 unfold bZ
 omega
theorem rL {l:List Lot} {pa:Int} {who is:List Int}:∀ k:Nat,(scN l pa who is k).1.length ≤ l.length + 40 * k
 | 0 => Nat.le_refl _
 | k + 1 => by
   have ih:=rL (l:=l) (pa:=pa) (who:=who) (is:=is) k
   have h1:=n8 (l:=(scN l pa who is k).1) (a:=rd who k) (c:=pa) (q:=rd is k)
   unfold scN
   exact ao (P:=fun R:List Lot × Int => R.1.length ≤ l.length + 40 * (k + 1)) (fun _ => ao (P:=fun R:List Lot × Int => R.1.length ≤ l.length + 40 * (k + 1)) (fun _ => by dsimp only;omega) fun _ => by dsimp only;omega) fun _ => by omega
theorem xU {b:Books} {pa:Int} (c0:BooksOk b) {is:List Int}:(scN b.Lots pa (who b.Accounts b.Bals pa) is ((who b.Accounts b.Bals pa).length:Int).toNat).1.length ≤ 4294967296:=by
 have h1:=kx b.Accounts b.Bals pa
 have h2:=c0.acc.2
 have h3:=c0.lots.1.2
 have h4:=rL (l:=b.Lots) (pa:=pa) (who:=who b.Accounts b.Bals pa) (is:=is) ((who b.Accounts b.Bals pa).length:Int).toNat
 omega
theorem mH {b:Books} {pa n d iss:Int}:aL (aN b pa n d iss).1:=by
 unfold aN
 refine ao (P:=fun R:Books × Int × Int => aL R.1) (fun _ => iq) fun c0 => ?_
 have m:=(Classical.not_not.1 c0).1.midR
 exact ao (P:=fun R:Books × Int × Int => aL R.1) (fun _ => m) fun c1 => ao (P:=fun R:Books × Int × Int => aL R.1) (fun _ => m) fun c2 => ao (P:=fun R:Books × Int × Int => aL R.1) (fun _ => m) fun c3 => ao (P:=fun R:Books × Int × Int => aL R.1) (fun _ => m) fun c4 => ao (P:=fun R:Books × Int × Int => aL R.1) (fun _ => m) fun c5 => ao (P:=fun R:Books × Int × Int => aL R.1) (fun _ => m) fun c6 => ao (P:=fun R:Books × Int × Int => aL R.1) (fun _ => m) fun c7 => uD m (eI m c6) (xU (Classical.not_not.1 c0).1)
end
section
open Go.RowKit
noncomputable def jk (k:Int):Int:=pick (k = 1 ∨ k = 2 ∨ k = 7) 2 (pick (k = 6) 1 (pick (k = 8) 3 (pick (k = 10 ∨ k = 11) 4 (pick (k = 3 ∨ k = 4) 5 (pick (k = 5 ∨ k = 9) 7 (-1))))))
theorem dw (k:Int):((k = 1 ∨ k = 2 ∨ k = 7) ∧ jk k = 2) ∨ (k = 6 ∧ jk k = 1) ∨ (k = 8 ∧ jk k = 3) ∨ ((k = 10 ∨ k = 11) ∧ jk k = 4) ∨ ((k = 3 ∨ k = 4) ∧ jk k = 5) ∨ ((k = 5 ∨ k = 9) ∧ jk k = 7) ∨ ((k < 1 ∨ 11 < k) ∧ jk k = -1):=by
 unfold jk
 by_cases h1:k = 1 ∨ k = 2 ∨ k = 7
 ·rw [aJ h1];exact .inl ⟨h1,rfl⟩
 rw [aD h1]
 by_cases h2:k = 6
 ·rw [aJ h2];exact .inr (.inl ⟨h2,rfl⟩)
 rw [aD h2]
 by_cases h3:k = 8
 ·rw [aJ h3];exact .inr (.inr (.inl ⟨h3,rfl⟩))
 rw [aD h3]
 by_cases h4:k = 10 ∨ k = 11
 ·rw [aJ h4];exact .inr (.inr (.inr (.inl ⟨h4,rfl⟩)))
 rw [aD h4]
 by_cases h5:k = 3 ∨ k = 4
 ·rw [aJ h5];exact .inr (.inr (.inr (.inr (.inl ⟨h5,rfl⟩))))
 rw [aD h5]
 by_cases h6:k = 5 ∨ k = 9
 ·rw [aJ h6];exact .inr (.inr (.inr (.inr (.inr (.inl ⟨h6,rfl⟩)))))
 rw [aD h6]
 exact .inr (.inr (.inr (.inr (.inr (.inr ⟨by omega,rfl⟩)))))
theorem tA {k:Int} (h:inP k 1 11):jk k = rd [0,2,2,5,5,7,1,2,3,7,4,4] k:=by
 have:=dw k
 unfold inP at h
 obtain rfl | rfl | rfl | rfl | rfl | rfl | rfl | rfl | rfl | rfl | rfl:k = 1 ∨ k = 2 ∨ k = 3 ∨ k = 4 ∨ k = 5 ∨ k = 6 ∨ k = 7 ∨ k = 8 ∨ k = 9 ∨ k = 10 ∨ k = 11:=by omega
 all_goals simp [rd];omega
def mc (k:Int) (a:List Int):Prop:=(a.length:Int) = jk k ∧ ∀ x ∈ a,inP x 0 1000000000000000
theorem fJ {k:Int}:FC Tryz.prog 212 [I k] ([]) (I (jk k)) ([]):=by
 refine ay tk 10 [.tmp 2] Tryz.func212 (by kernel_rfl) rfl rfl rfl rfl rfl rfl rfl ?_
 have h:=dw k
 by_cases hk:inP k 1 11
 ·
  have q:1 ≤ k ∧ k ≤ 11:=hk
  have hl:[(0:Int),2,2,5,5,7,1,2,3,7,4,4].length = 12:=rfl
  repeat' (first
| intro h9;exfalso;contradiction
| apply yd;rfl
| intro _
| refine nv ?_
| apply wcf rfl
| apply yix;rfl;omega
| apply yle;rfl;omega
| apply aH (α:=Int) (e:=3);rfl
| apply ycp;rfl;exact aF;rfl
| fail)
  all_goals exact cW [] rfl rfl rfl rfl rfl rfl (tA hk)
 ·
  have q:¬ (1 ≤ k ∧ k ≤ 11):=hk
  repeat' (first
| intro h9;exfalso;contradiction
| apply yd;rfl
| intro _
| refine nv ?_
| apply wct rfl
| apply ycp;rfl;exact aF;rfl
| fail)
  all_goals exact cW [] rfl rfl rfl rfl rfl rfl (by omega)
theorem all_of' {a:List Int} {i:Int} {q:Int → Prop} (h:¬ i < a.length) (hall:∀ j:Int,0 ≤ j → j < i → q (rd a j)):∀ x ∈ a,q x:=fun x hx => by
 obtain ⟨n,hn,rfl⟩:=List.getElem_of_mem hx
 have:=hall n (by omega) (by omega)
 simpa [rd,List.getD_eq_getElem?_getD,hn] using this
theorem lu {k:Int} {a:List Int}:FC Tryz.prog 156 [.agg [.sc (.int .i64 k),.row 0 0 a.length]] ([ro 3 a]) (B (dB (mc k a))) ([ro 3 a]):=by
 refine ay tk 31 [.tmp 2] Tryz.func156 (by kernel_rfl) rfl rfl rfl rfl rfl rfl rfl ?_
 refine cw a 0 rfl (fun hl => ?_)
 have hcn:=dw k
 by_cases hn:(a.length:Int) = jk k
 rotate_left
 ·
  repeat' (first
| intro h9;exfalso;contradiction
| apply yds;rfl
| apply yd;rfl
| intro _
| refine nv ?_
| apply wct rfl
| apply aj;rfl
| apply yne;rfl
| refine zdq (id:=1) rfl (by kernel_rfl) [(.p,0),(.t,1),(.o,2),(.p,3),(.p,4),(.p,5),(.p,8),(.t,6),(.p,7),(.t,9),(.o,10),(.p,11),(.p,12)] [] (by kernel_rfl) rfl ?_
| apply yc;rfl;exact fJ;rfl;exact fun _ => rfl
| fail)
  all_goals exact aV [0] rfl rfl rfl rfl rfl rfl (fun h => hn h.1)
 repeat' (first
| intro h9;exfalso;first | contradiction | omega
| apply yds;rfl
| apply yd;rfl
| intro _
| refine nv ?_
| apply wcf rfl
| apply aj;rfl
| apply yne;rfl
| refine zdq (id:=1) rfl (by kernel_rfl) [(.p,0),(.t,1),(.o,2),(.p,3),(.p,4),(.p,5),(.p,8),(.t,6),(.p,7),(.t,9),(.o,10),(.p,11),(.p,12)] [] (by kernel_rfl) rfl ?_
| apply yc;rfl;exact fJ;rfl;exact fun _ => rfl
| fail)
 all_goals skip
 refine wlp (X:=Int) [1] [0,1] (fun i => [(3,I i)]) (fun _ => []) (fun i => 0 ≤ i ∧ i ≤ a.length ∧ ∀ j:Int,0 ≤ j → j < i → inP (rd a j) 0 1000000000000000) (fun i => (a.length - i).toNat) 0 ⟨by omega,by omega,fun j h0 h1 => by omega⟩ rfl rfl (fun _ => rfl) (fun _ => rfl) ⟨rfl,rfl,rfl,rfl,rfl,rfl,rfl,rfl⟩ (fun i hi => ?_)
 obtain ⟨h0,hi,hall⟩:=hi
 repeat' (first
| apply yds;rfl
| apply yd;rfl
| intro _
| refine nv ?_
| apply wct rfl
| apply wcf rfl
| apply ah rfl
| apply aj;rfl
| apply yar;rfl;omega
| apply yix;rfl;omega
| apply yle;rfl;omega
| apply ycp;rfl;exact aA;rfl
| fail)
 all_goals first
  | exact bG [0] rfl rfl rfl rfl rfl rfl ⟨hn,all_of' (by assumption) hall⟩
  | exact aV [0] rfl rfl rfl rfl rfl rfl (fun h => by have q:=h.2 _ (az (l:=a) (i:=i) ⟨h0,by assumption⟩);contradiction)
  | exact aB (i + 1) [0,1] ⟨rfl,rfl,rfl,rfl,rfl,rfl,rfl,rfl⟩ ⟨by omega,by omega,ax hall (by assumption)⟩ (by first | omega | (dsimp only;omega))
  | (exfalso;omega)
  | trace_state
end
section
open Go.RowKit
noncomputable def bV (b:Books) (k:Int) (a:List Int):Books × Int × Int :=
 sel (k = 1) ((aX b (rd a 0) (rd a 1)).1,0,(aX b (rd a 0) (rd a 1)).2)
 (sel (k = 2) ((bm b (rd a 0) (rd a 1)).1,0,(bm b (rd a 0) (rd a 1)).2)
 (sel (k = 3) ((aS b (rd a 0) (rd a 1) (rd a 2) (rd a 3) (rd a 4)).1,0,(aS b (rd a 0) (rd a 1) (rd a 2) (rd a 3) (rd a 4)).2)
 (sel (k = 4) (b9 b (rd a 0) (rd a 1) (rd a 2) (rd a 3) (rd a 4))
 (sel (k = 5) ((b6 b (rd a 0) (rd a 1) (rd a 2) (rd a 3) (rd a 4) (rd a 5) (rd a 6)).1,0,(b6 b (rd a 0) (rd a 1) (rd a 2) (rd a 3) (rd a 4) (rd a 5) (rd a 6)).2)
 (sel (k = 6) ((bk b (rd a 0)).1,0,(bk b (rd a 0)).2)
 (sel (k = 7) (aw b (rd a 0) (rd a 1))
 (sel (k = 8) ((bq b (rd a 0) (rd a 1) (rd a 2)).1,(bq b (rd a 0) (rd a 1) (rd a 2)).2.2.1,(bq b (rd a 0) (rd a 1) (rd a 2)).2.2.2)
 (sel (k = 9) (aZ b (rd a 0) (rd a 1) (rd a 2) (rd a 3) (rd a 4) (rd a 5) (rd a 6))
 (sel (k = 10) (aN b (rd a 0) (rd a 1) (rd a 2) (rd a 3))
 (sel (k = 11) (bH b (rd a 0) (rd a 1) (rd a 2) (rd a 3))
 (⟨[],[],[],[],[],0⟩,0,1)))))))))))
theorem xw {b:Books} {k:Int} {a:List Int}  (c0:k = 1):bV b k a = ((aX b (rd a 0) (rd a 1)).1,0,(aX b (rd a 0) (rd a 1)).2):=by
 rw [bV,al c0]
theorem xy {b:Books} {k:Int} {a:List Int} (c0:¬ (k = 1)) (c1:k = 2):bV b k a = ((bm b (rd a 0) (rd a 1)).1,0,(bm b (rd a 0) (rd a 1)).2):=by
 rw [bV,a8 c0,al c1]
theorem xz {b:Books} {k:Int} {a:List Int} (c0:¬ (k = 1)) (c1:¬ (k = 2)) (c2:k = 3):bV b k a = ((aS b (rd a 0) (rd a 1) (rd a 2) (rd a 3) (rd a 4)).1,0,(aS b (rd a 0) (rd a 1) (rd a 2) (rd a 3) (rd a 4)).2):=by
 rw [bV,a8 c0,a8 c1,al c2]
theorem xA {b:Books} {k:Int} {a:List Int} (c0:¬ (k = 1)) (c1:¬ (k = 2)) (c2:¬ (k = 3)) (c3:k = 4):bV b k a = (b9 b (rd a 0) (rd a 1) (rd a 2) (rd a 3) (rd a 4)):=by
 rw [bV,a8 c0,a8 c1,a8 c2,al c3]
theorem xB {b:Books} {k:Int} {a:List Int} (c0:¬ (k = 1)) (c1:¬ (k = 2)) (c2:¬ (k = 3)) (c3:¬ (k = 4)) (c4:k = 5):bV b k a = ((b6 b (rd a 0) (rd a 1) (rd a 2) (rd a 3) (rd a 4) (rd a 5) (rd a 6)).1,0,(b6 b (rd a 0) (rd a 1) (rd a 2) (rd a 3) (rd a 4) (rd a 5) (rd a 6)).2):=by
 rw [bV,a8 c0,a8 c1,a8 c2,a8 c3,al c4]
theorem xC {b:Books} {k:Int} {a:List Int} (c0:¬ (k = 1)) (c1:¬ (k = 2)) (c2:¬ (k = 3)) (c3:¬ (k = 4)) (c4:¬ (k = 5)) (c5:k = 6):bV b k a = ((bk b (rd a 0)).1,0,(bk b (rd a 0)).2):=by
 rw [bV,a8 c0,a8 c1,a8 c2,a8 c3,a8 c4,al c5]
theorem xD {b:Books} {k:Int} {a:List Int} (c0:¬ (k = 1)) (c1:¬ (k = 2)) (c2:¬ (k = 3)) (c3:¬ (k = 4)) (c4:¬ (k = 5)) (c5:¬ (k = 6)) (c6:k = 7):bV b k a = (aw b (rd a 0) (rd a 1)):=by
 rw [bV,a8 c0,a8 c1,a8 c2,a8 c3,a8 c4,a8 c5,al c6]
theorem xE {b:Books} {k:Int} {a:List Int} (c0:¬ (k = 1)) (c1:¬ (k = 2)) (c2:¬ (k = 3)) (c3:¬ (k = 4)) (c4:¬ (k = 5)) (c5:¬ (k = 6)) (c6:¬ (k = 7)) (c7:k = 8):bV b k a = ((bq b (rd a 0) (rd a 1) (rd a 2)).1,(bq b (rd a 0) (rd a 1) (rd a 2)).2.2.1,(bq b (rd a 0) (rd a 1) (rd a 2)).2.2.2):=by
 rw [bV,a8 c0,a8 c1,a8 c2,a8 c3,a8 c4,a8 c5,a8 c6,al c7]
theorem xF {b:Books} {k:Int} {a:List Int} (c0:¬ (k = 1)) (c1:¬ (k = 2)) (c2:¬ (k = 3)) (c3:¬ (k = 4)) (c4:¬ (k = 5)) (c5:¬ (k = 6)) (c6:¬ (k = 7)) (c7:¬ (k = 8)) (c8:k = 9):bV b k a = (aZ b (rd a 0) (rd a 1) (rd a 2) (rd a 3) (rd a 4) (rd a 5) (rd a 6)):=by
 rw [bV,a8 c0,a8 c1,a8 c2,a8 c3,a8 c4,a8 c5,a8 c6,a8 c7,al c8]
theorem xG {b:Books} {k:Int} {a:List Int} (c0:¬ (k = 1)) (c1:¬ (k = 2)) (c2:¬ (k = 3)) (c3:¬ (k = 4)) (c4:¬ (k = 5)) (c5:¬ (k = 6)) (c6:¬ (k = 7)) (c7:¬ (k = 8)) (c8:¬ (k = 9)) (c9:k = 10):bV b k a = (aN b (rd a 0) (rd a 1) (rd a 2) (rd a 3)):=by
 rw [bV,a8 c0,a8 c1,a8 c2,a8 c3,a8 c4,a8 c5,a8 c6,a8 c7,a8 c8,al c9]
theorem vK {b:Books} {k:Int} {a:List Int} (c0:¬ (k = 1)) (c1:¬ (k = 2)) (c2:¬ (k = 3)) (c3:¬ (k = 4)) (c4:¬ (k = 5)) (c5:¬ (k = 6)) (c6:¬ (k = 7)) (c7:¬ (k = 8)) (c8:¬ (k = 9)) (c9:¬ (k = 10)) (c10:k = 11):bV b k a = (bH b (rd a 0) (rd a 1) (rd a 2) (rd a 3)):=by
 rw [bV,a8 c0,a8 c1,a8 c2,a8 c3,a8 c4,a8 c5,a8 c6,a8 c7,a8 c8,a8 c9,al c10]
noncomputable def dv (b:Books) (k:Int) (a:List Int):Books × Int × Int :=
 sel (¬ (BooksOk b ∧ mc k a)) (⟨[],[],[],[],[],0⟩,1,0)
 (sel (¬ (bV b k a).2.2 = 0) ((bV b k a).1,(bV b k a).2.2,0)
 ((bV b k a).1,(bV b k a).2.2,(bV b k a).2.1))
theorem xv {b:Books} {k:Int} {a:List Int}  (c0:¬ (BooksOk b ∧ mc k a)):dv b k a = (⟨[],[],[],[],[],0⟩,1,0):=by
 rw [dv,al c0]
theorem dX {b:Books} {k:Int} {a:List Int} (c0:¬ (¬ (BooksOk b ∧ mc k a))) (c1:¬ (bV b k a).2.2 = 0):dv b k a = ((bV b k a).1,(bV b k a).2.2,0):=by
 rw [dv,a8 c0,al c1]
theorem dY {b:Books} {k:Int} {a:List Int} (c0:¬ (¬ (BooksOk b ∧ mc k a))) (c1:¬ (¬ (bV b k a).2.2 = 0)):dv b k a = ((bV b k a).1,(bV b k a).2.2,(bV b k a).2.1):=by
 rw [dv,a8 c0,a8 c1]
theorem hZ {ba:List Account} {bi:List Instr} {bb:List Bal} {bl:List Lot} {bt:List Trade} {bn:Int} {k:Int} {a:List Int}:FC Tryz.prog 42 [bkV 0 ⟨ba,bi,bb,bl,bt,bn⟩,.agg [.sc (.int .i64 k),.row 5 0 a.length]] (bkR ⟨ba,bi,bb,bl,bt,bn⟩ ++ [ro 3 a]) (.tup [bkE 6 (dv ⟨ba,bi,bb,bl,bt,bn⟩ k a).1,.agg [.sc (.int .i64 (dv ⟨ba,bi,bb,bl,bt,bn⟩ k a).2.1),.sc (.int .i64 (dv ⟨ba,bi,bb,bl,bt,bn⟩ k a).2.2)]]) (bkR ⟨ba,bi,bb,bl,bt,bn⟩ ++ [ro 3 a] ++ bkW (dv ⟨ba,bi,bb,bl,bt,bn⟩ k a).1):=by
 refine ay tk 242 [.cell 4 _,.cell 5 _] Tryz.func42 (by kernel_rfl) rfl rfl rfl rfl rfl rfl rfl ?_
 by_cases c0:¬ (BooksOk ⟨ba,bi,bb,bl,bt,bn⟩ ∧ mc k a)
 ·
  rw [xv (b:=⟨ba,bi,bb,bl,bt,bn⟩) c0]
  repeat' (first
| intro h9;exfalso;contradiction
| apply ap (d:=10) 0 42 2;rfl;rfl;rfl;rfl;rfl
| apply ap (d:=10) 1 74 2;rfl;rfl;rfl;rfl;rfl
| apply ap (d:=10) 2 135 3;rfl;rfl;rfl;rfl;rfl
| apply ap (d:=10) 3 137 5;rfl;rfl;rfl;rfl;rfl
| apply ap (d:=10) 4 103 8;rfl;rfl;rfl;rfl;rfl
| apply yd;rfl
| intro _
| refine nv ?_
| apply wct rfl
| apply wcf rfl
| apply yeq;rfl
| apply yne;rfl
| refine zdq (id:=7) rfl (by kernel_rfl) [(.p,1),(.p,2),(.p,4),(.p,5),(.t,0),(.t,3),(.t,6),(.o,7),(.p,8),(.p,9),(.p,10),(.l,11),(.p,12)] [11] (by kernel_rfl) rfl ?_
| refine zdq (id:=9) rfl (by kernel_rfl) [(.p,1),(.p,2),(.p,4),(.p,5),(.t,0),(.t,3),(.t,6),(.o,7),(.p,8),(.p,9),(.p,10),(.l,11),(.p,12)] [11] (by kernel_rfl) rfl ?_
| refine zdq (id:=11) rfl (by kernel_rfl) [(.p,1),(.p,2),(.p,4),(.p,5),(.p,7),(.p,8),(.p,10),(.p,11),(.p,13),(.p,14),(.t,0),(.t,3),(.t,6),(.t,9),(.t,12),(.t,15),(.o,16),(.p,17),(.p,18),(.p,19),(.l,20),(.p,21)] [20] (by kernel_rfl) rfl ?_
| refine zdq (id:=13) rfl (by kernel_rfl) [(.p,1),(.p,2),(.p,4),(.p,5),(.p,7),(.p,8),(.p,10),(.p,11),(.p,13),(.p,14),(.t,0),(.t,3),(.t,6),(.t,9),(.t,12),(.t,15),(.o,16),(.p,17),(.p,18),(.p,19),(.p,20),(.l,21),(.p,22),(.p,23)] [21] (by kernel_rfl) rfl ?_
| refine zdq (id:=15) rfl (by kernel_rfl) [(.p,1),(.p,2),(.p,4),(.p,5),(.p,7),(.p,8),(.p,10),(.p,11),(.p,13),(.p,14),(.p,16),(.p,17),(.p,19),(.p,20),(.t,0),(.t,3),(.t,6),(.t,9),(.t,12),(.t,15),(.t,18),(.t,21),(.o,22),(.p,23),(.p,24),(.p,25),(.l,26),(.p,27)] [26] (by kernel_rfl) rfl ?_
| refine zdq (id:=17) rfl (by kernel_rfl) [(.p,1),(.p,2),(.t,0),(.t,3),(.o,4),(.p,5),(.p,6),(.p,7),(.l,8),(.p,9)] [8] (by kernel_rfl) rfl ?_
| refine zdq (id:=19) rfl (by kernel_rfl) [(.p,1),(.p,2),(.p,4),(.p,5),(.t,0),(.t,3),(.t,6),(.o,7),(.p,8),(.p,9),(.p,10),(.p,11),(.l,12),(.p,13),(.p,14)] [12] (by kernel_rfl) rfl ?_
| refine zdq (id:=21) rfl (by kernel_rfl) [(.p,1),(.p,2),(.p,4),(.p,5),(.p,7),(.p,8),(.t,0),(.t,3),(.t,6),(.t,9),(.o,10),(.p,11),(.p,12),(.p,13),(.p,14),(.p,15),(.l,16),(.p,17),(.p,18)] [16] (by kernel_rfl) rfl ?_
| refine zdq (id:=23) rfl (by kernel_rfl) [(.p,1),(.p,2),(.p,4),(.p,5),(.p,7),(.p,8),(.p,10),(.p,11),(.p,13),(.p,14),(.p,16),(.p,17),(.p,19),(.p,20),(.t,0),(.t,3),(.t,6),(.t,9),(.t,12),(.t,15),(.t,18),(.t,21),(.o,22),(.p,23),(.p,24),(.p,25),(.p,26),(.l,27),(.p,28),(.p,29)] [27] (by kernel_rfl) rfl ?_
| refine zdq (id:=25) rfl (by kernel_rfl) [(.p,1),(.p,2),(.p,4),(.p,5),(.p,7),(.p,8),(.p,10),(.p,11),(.t,0),(.t,3),(.t,6),(.t,9),(.t,12),(.o,13),(.p,14),(.p,15),(.p,16),(.p,17),(.l,18),(.p,19),(.p,20)] [18] (by kernel_rfl) rfl ?_
| refine zdq (id:=27) rfl (by kernel_rfl) [(.p,1),(.p,2),(.p,4),(.p,5),(.p,7),(.p,8),(.p,10),(.p,11),(.t,0),(.t,3),(.t,6),(.t,9),(.t,12),(.o,13),(.p,14),(.p,15),(.p,16),(.p,17),(.l,18),(.p,19),(.p,20)] [18] (by kernel_rfl) rfl ?_
| apply ycp;rfl;(first | exact ae | exact lu);rfl
| fail)
  all_goals first | (exfalso;exact c0 ⟨by assumption,by assumption⟩) | exact au [0,1,2,3,4,5,10,11,12,13,14] rfl rfl rfl rfl rfl rfl
 obtain ⟨hok,hco⟩:=Classical.not_not.1 c0
 have hc:=dw k
 have hl:=hco.1
 obtain rfl | rfl | rfl | rfl | rfl | rfl | rfl | rfl | rfl | rfl | rfl:k = 1 ∨ k = 2 ∨ k = 3 ∨ k = 4 ∨ k = 5 ∨ k = 6 ∨ k = 7 ∨ k = 8 ∨ k = 9 ∨ k = 10 ∨ k = 11:=by omega
 have hn:a.length = 2:=by omega
 have e:=xw (b:=⟨ba,bi,bb,bl,bt,bn⟩) (a:=a) rfl
 by_cases c1:(bV ⟨ba,bi,bb,bl,bt,bn⟩ 1 a).2.2 = 0
 rw [dY (b:=⟨ba,bi,bb,bl,bt,bn⟩) c0 (fun h => h c1),e]
 rw [e] at c1
 try dsimp only at c1
 rotate_left
 rw [dX (b:=⟨ba,bi,bb,bl,bt,bn⟩) c0 c1,e]
 rw [e] at c1
 try dsimp only at c1
 rotate_left
 have hn:a.length = 2:=by omega
 have e:=xy (b:=⟨ba,bi,bb,bl,bt,bn⟩) (a:=a) (by decide) rfl
 by_cases c1:(bV ⟨ba,bi,bb,bl,bt,bn⟩ 2 a).2.2 = 0
 rw [dY (b:=⟨ba,bi,bb,bl,bt,bn⟩) c0 (fun h => h c1),e]
 rw [e] at c1
 try dsimp only at c1
 rotate_left
 rw [dX (b:=⟨ba,bi,bb,bl,bt,bn⟩) c0 c1,e]
 rw [e] at c1
 try dsimp only at c1
 rotate_left
 have hn:a.length = 5:=by omega
 have e:=xz (b:=⟨ba,bi,bb,bl,bt,bn⟩) (a:=a) (by decide) (by decide) rfl
 by_cases c1:(bV ⟨ba,bi,bb,bl,bt,bn⟩ 3 a).2.2 = 0
 rw [dY (b:=⟨ba,bi,bb,bl,bt,bn⟩) c0 (fun h => h c1),e]
 rw [e] at c1
 try dsimp only at c1
 rotate_left
 rw [dX (b:=⟨ba,bi,bb,bl,bt,bn⟩) c0 c1,e]
 rw [e] at c1
 try dsimp only at c1
 rotate_left
 have hn:a.length = 5:=by omega
 have e:=xA (b:=⟨ba,bi,bb,bl,bt,bn⟩) (a:=a) (by decide) (by decide) (by decide) rfl
 by_cases c1:(bV ⟨ba,bi,bb,bl,bt,bn⟩ 4 a).2.2 = 0
 rw [dY (b:=⟨ba,bi,bb,bl,bt,bn⟩) c0 (fun h => h c1),e]
 rw [e] at c1
 try dsimp only at c1
 rotate_left
 rw [dX (b:=⟨ba,bi,bb,bl,bt,bn⟩) c0 c1,e]
 rw [e] at c1
 try dsimp only at c1
 rotate_left
 have hn:a.length = 7:=by omega
 have e:=xB (b:=⟨ba,bi,bb,bl,bt,bn⟩) (a:=a) (by decide) (by decide) (by decide) (by decide) rfl
 by_cases c1:(bV ⟨ba,bi,bb,bl,bt,bn⟩ 5 a).2.2 = 0
 rw [dY (b:=⟨ba,bi,bb,bl,bt,bn⟩) c0 (fun h => h c1),e]
 rw [e] at c1
 try dsimp only at c1
 rotate_left
 rw [dX (b:=⟨ba,bi,bb,bl,bt,bn⟩) c0 c1,e]
 rw [e] at c1
 try dsimp only at c1
 rotate_left
 have hn:a.length = 1:=by omega
 have e:=xC (b:=⟨ba,bi,bb,bl,bt,bn⟩) (a:=a) (by decide) (by decide) (by decide) (by decide) (by decide) rfl
 by_cases c1:(bV ⟨ba,bi,bb,bl,bt,bn⟩ 6 a).2.2 = 0
 rw [dY (b:=⟨ba,bi,bb,bl,bt,bn⟩) c0 (fun h => h c1),e]
 rw [e] at c1
 try dsimp only at c1
 rotate_left
 rw [dX (b:=⟨ba,bi,bb,bl,bt,bn⟩) c0 c1,e]
 rw [e] at c1
 try dsimp only at c1
 rotate_left
 have hn:a.length = 2:=by omega
 have e:=xD (b:=⟨ba,bi,bb,bl,bt,bn⟩) (a:=a) (by decide) (by decide) (by decide) (by decide) (by decide) (by decide) rfl
 by_cases c1:(bV ⟨ba,bi,bb,bl,bt,bn⟩ 7 a).2.2 = 0
 rw [dY (b:=⟨ba,bi,bb,bl,bt,bn⟩) c0 (fun h => h c1),e]
 rw [e] at c1
 try dsimp only at c1
 rotate_left
 rw [dX (b:=⟨ba,bi,bb,bl,bt,bn⟩) c0 c1,e]
 rw [e] at c1
 try dsimp only at c1
 rotate_left
 have hn:a.length = 3:=by omega
 have e:=xE (b:=⟨ba,bi,bb,bl,bt,bn⟩) (a:=a) (by decide) (by decide) (by decide) (by decide) (by decide) (by decide) (by decide) rfl
 by_cases c1:(bV ⟨ba,bi,bb,bl,bt,bn⟩ 8 a).2.2 = 0
 rw [dY (b:=⟨ba,bi,bb,bl,bt,bn⟩) c0 (fun h => h c1),e]
 rw [e] at c1
 try dsimp only at c1
 rotate_left
 rw [dX (b:=⟨ba,bi,bb,bl,bt,bn⟩) c0 c1,e]
 rw [e] at c1
 try dsimp only at c1
 rotate_left
 have hn:a.length = 7:=by omega
 have e:=xF (b:=⟨ba,bi,bb,bl,bt,bn⟩) (a:=a) (by decide) (by decide) (by decide) (by decide) (by decide) (by decide) (by decide) (by decide) rfl
 by_cases c1:(bV ⟨ba,bi,bb,bl,bt,bn⟩ 9 a).2.2 = 0
 rw [dY (b:=⟨ba,bi,bb,bl,bt,bn⟩) c0 (fun h => h c1),e]
 rw [e] at c1
 try dsimp only at c1
 rotate_left
 rw [dX (b:=⟨ba,bi,bb,bl,bt,bn⟩) c0 c1,e]
 rw [e] at c1
 try dsimp only at c1
 rotate_left
 have hn:a.length = 4:=by omega
 have e:=xG (b:=⟨ba,bi,bb,bl,bt,bn⟩) (a:=a) (by decide) (by decide) (by decide) (by decide) (by decide) (by decide) (by decide) (by decide) (by decide) rfl
 by_cases c1:(bV ⟨ba,bi,bb,bl,bt,bn⟩ 10 a).2.2 = 0
 rw [dY (b:=⟨ba,bi,bb,bl,bt,bn⟩) c0 (fun h => h c1),e]
 rw [e] at c1
 try dsimp only at c1
 rotate_left
 rw [dX (b:=⟨ba,bi,bb,bl,bt,bn⟩) c0 c1,e]
 rw [e] at c1
 try dsimp only at c1
 rotate_left
 have hn:a.length = 4:=by omega
 have e:=vK (b:=⟨ba,bi,bb,bl,bt,bn⟩) (a:=a) (by decide) (by decide) (by decide) (by decide) (by decide) (by decide) (by decide) (by decide) (by decide) (by decide) rfl
 by_cases c1:(bV ⟨ba,bi,bb,bl,bt,bn⟩ 11 a).2.2 = 0
 rw [dY (b:=⟨ba,bi,bb,bl,bt,bn⟩) c0 (fun h => h c1),e]
 rw [e] at c1
 try dsimp only at c1
 rotate_left
 rw [dX (b:=⟨ba,bi,bb,bl,bt,bn⟩) c0 c1,e]
 rw [e] at c1
 try dsimp only at c1
 rotate_left
 repeat' (first
| intro h9;exfalso;contradiction
| apply yds;rfl
| apply yd;rfl
| intro _
| refine nv ?_
| apply wct rfl
| apply wcf rfl
| apply yeq;rfl
| apply yne;rfl
| apply yix;rfl;omega
| apply yle;rfl;omega
| refine zdq (id:=7) rfl (by kernel_rfl) [(.p,1),(.p,2),(.p,4),(.p,5),(.t,0),(.t,3),(.t,6),(.o,7),(.p,8),(.p,9),(.p,10),(.l,11),(.p,12)] [11] (by kernel_rfl) rfl ?_
| refine zdq (id:=9) rfl (by kernel_rfl) [(.p,1),(.p,2),(.p,4),(.p,5),(.t,0),(.t,3),(.t,6),(.o,7),(.p,8),(.p,9),(.p,10),(.l,11),(.p,12)] [11] (by kernel_rfl) rfl ?_
| refine zdq (id:=11) rfl (by kernel_rfl) [(.p,1),(.p,2),(.p,4),(.p,5),(.p,7),(.p,8),(.p,10),(.p,11),(.p,13),(.p,14),(.t,0),(.t,3),(.t,6),(.t,9),(.t,12),(.t,15),(.o,16),(.p,17),(.p,18),(.p,19),(.l,20),(.p,21)] [20] (by kernel_rfl) rfl ?_
| refine zdq (id:=13) rfl (by kernel_rfl) [(.p,1),(.p,2),(.p,4),(.p,5),(.p,7),(.p,8),(.p,10),(.p,11),(.p,13),(.p,14),(.t,0),(.t,3),(.t,6),(.t,9),(.t,12),(.t,15),(.o,16),(.p,17),(.p,18),(.p,19),(.p,20),(.l,21),(.p,22),(.p,23)] [21] (by kernel_rfl) rfl ?_
| refine zdq (id:=15) rfl (by kernel_rfl) [(.p,1),(.p,2),(.p,4),(.p,5),(.p,7),(.p,8),(.p,10),(.p,11),(.p,13),(.p,14),(.p,16),(.p,17),(.p,19),(.p,20),(.t,0),(.t,3),(.t,6),(.t,9),(.t,12),(.t,15),(.t,18),(.t,21),(.o,22),(.p,23),(.p,24),(.p,25),(.l,26),(.p,27)] [26] (by kernel_rfl) rfl ?_
| refine zdq (id:=17) rfl (by kernel_rfl) [(.p,1),(.p,2),(.t,0),(.t,3),(.o,4),(.p,5),(.p,6),(.p,7),(.l,8),(.p,9)] [8] (by kernel_rfl) rfl ?_
| refine zdq (id:=19) rfl (by kernel_rfl) [(.p,1),(.p,2),(.p,4),(.p,5),(.t,0),(.t,3),(.t,6),(.o,7),(.p,8),(.p,9),(.p,10),(.p,11),(.l,12),(.p,13),(.p,14)] [12] (by kernel_rfl) rfl ?_
| refine zdq (id:=21) rfl (by kernel_rfl) [(.p,1),(.p,2),(.p,4),(.p,5),(.p,7),(.p,8),(.t,0),(.t,3),(.t,6),(.t,9),(.o,10),(.p,11),(.p,12),(.p,13),(.p,14),(.p,15),(.l,16),(.p,17),(.p,18)] [16] (by kernel_rfl) rfl ?_
| refine zdq (id:=23) rfl (by kernel_rfl) [(.p,1),(.p,2),(.p,4),(.p,5),(.p,7),(.p,8),(.p,10),(.p,11),(.p,13),(.p,14),(.p,16),(.p,17),(.p,19),(.p,20),(.t,0),(.t,3),(.t,6),(.t,9),(.t,12),(.t,15),(.t,18),(.t,21),(.o,22),(.p,23),(.p,24),(.p,25),(.p,26),(.l,27),(.p,28),(.p,29)] [27] (by kernel_rfl) rfl ?_
| refine zdq (id:=25) rfl (by kernel_rfl) [(.p,1),(.p,2),(.p,4),(.p,5),(.p,7),(.p,8),(.p,10),(.p,11),(.t,0),(.t,3),(.t,6),(.t,9),(.t,12),(.o,13),(.p,14),(.p,15),(.p,16),(.p,17),(.l,18),(.p,19),(.p,20)] [18] (by kernel_rfl) rfl ?_
| refine zdq (id:=27) rfl (by kernel_rfl) [(.p,1),(.p,2),(.p,4),(.p,5),(.p,7),(.p,8),(.p,10),(.p,11),(.t,0),(.t,3),(.t,6),(.t,9),(.t,12),(.o,13),(.p,14),(.p,15),(.p,16),(.p,17),(.l,18),(.p,19),(.p,20)] [18] (by kernel_rfl) rfl ?_
| apply ycp;rfl;(first | exact ae | exact lu);rfl
| apply ycf;rfl;(first | exact jx | exact lp | exact lq | exact lV | exact ls | exact jW | exact dL | exact nx | exact jK | exact lr | exact ny);rfl
| fail)
 all_goals (exact au [0,1,2,3,4,5,11,12,13,14,15] rfl rfl rfl rfl rfl rfl)
end
section
open Go.RowKit
theorem qU {b:Books} {k:Int} {a:List Int}:aL (bV b k a).1:=by
 unfold bV
 exact ao (P:=fun R:Books × Int × Int => aL R.1) (fun _ => kF) fun _ => ao (P:=fun R:Books × Int × Int => aL R.1) (fun _ => mF) fun _ => ao (P:=fun R:Books × Int × Int => aL R.1) (fun _ => mG) fun _ => ao (P:=fun R:Books × Int × Int => aL R.1) (fun _ => o6) fun _ => ao (P:=fun R:Books × Int × Int => aL R.1) (fun _ => mI) fun _ => ao (P:=fun R:Books × Int × Int => aL R.1) (fun _ => lF) fun _ => ao (P:=fun R:Books × Int × Int => aL R.1) (fun _ => gY) fun _ => ao (P:=fun R:Books × Int × Int => aL R.1) (fun _ => q8) fun _ => ao (P:=fun R:Books × Int × Int => aL R.1) (fun _ => s9) fun _ => ao (P:=fun R:Books × Int × Int => aL R.1) (fun _ => mH) fun _ => ao (P:=fun R:Books × Int × Int => aL R.1) (fun _ => q9) fun _ => iq
theorem qT {b:Books} {k:Int} {a:List Int}:aL (dv b k a).1:=by
 unfold dv
 exact ao (P:=fun R:Books × Int × Int => aL R.1) (fun _ => iq) fun _ => ao (P:=fun R:Books × Int × Int => aL R.1) (fun _ => qU) fun _ => qU
end
end Go.Proofs.YtgehbhkfehmdkaaGreat.Sh
