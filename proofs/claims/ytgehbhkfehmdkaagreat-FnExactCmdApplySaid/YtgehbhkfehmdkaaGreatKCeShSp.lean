/- The legs of a split. No condition. -/
import Derived.Test.YtgehbhkfehmdkaaGreatKCeShV
import Derived.Test.YtgehbhkfehmdkaaGreatKCeShPv
import Derived.Test.YtgehbhkfehmdkaaGreatKCeShLz
import Derived.Test.YtgehbhkfehmdkaaGreatKCeShMu
set_option maxRecDepth 100000
set_option maxHeartbeats 40000000
set_option linter.unusedSimpArgs false
set_option linter.unusedVariables false
namespace Go.Proofs.YtgehbhkfehmdkaaGreat.Sh
section
open Go.RowKit
def spL (pa:Int) (who was is:List Int) (i:Int):List Leg:=mkl i.toNat (fun k => ⟨rd who k,pa,rd is k - rd was k⟩)
def spG (was is:List Int) (i:Int):Int:=ar id (pf is i) - ar id (pf was i)
theorem mY {pa i:Int} {who was is:List Int} (h:0 ≤ i):((spL pa who was is i).length:Int) = i:=by rw [spL,ck];omega
theorem ou {pa i:Int} {who was is:List Int} (h:0 ≤ i):spL pa who was is (i + 1) = spL pa who was is i ++ [⟨rd who i,pa,rd is i - rd was i⟩]:=gZ h
theorem td {was is:List Int} {i:Int} (h:0 ≤ i ∧ i < was.length) (h2:i < is.length):spG was is (i + 1) = spG was is i + (rd is i - rd was i):=by
 unfold spG
 rw [cM ⟨h.1,h2⟩,cM h]
 simp only [id]
 omega
theorem Bv {was is:List Int} {i:Int} (h1:∀ x ∈ was,inP x 0 1000000000000000) (h2:∀ x ∈ is,inP x 0 1000000000000000) (h:0 ≤ i ∧ i ≤ was.length ∧ i ≤ is.length):-2000000000000000 * i ≤ spG was is i ∧ spG was is i ≤ 2000000000000000 * i:=by
 have e1:=tv h1 (i:=i) ⟨h.1,h.2.1⟩
 have e2:=tv h2 (i:=i) ⟨h.1,h.2.2⟩
 unfold spG
 omega
abbrev fC (pa iss:Int) (who was is:List Int):List Leg:=spL pa who was is who.length ++ [⟨iss,pa,-spG was is who.length⟩]
theorem nM {pa iss:Int} {who was is:List Int} (hw:∀ x ∈ was,inP x 0 1000000000000000) (hi:∀ x ∈ is,inP x 0 1000000000000000) (hl:was.length = who.length ∧ is.length = who.length ∧ who.length ≤ 100):FC Tryz.prog 131 [I pa,I iss,.c (.row 0 0 who.length),.c (.row 1 0 was.length),.c (.row 2 0 is.length)] ([ro 3 who,ro 3 was,ro 3 is]) (.c (.row 3 0 (fC pa iss who was is).length)) ([ro 3 who,ro 3 was,ro 3 is,ow 46 (fC pa iss who was is)]):=by
 refine al tk 58 [.tmp 10] Tryz.func131 (by kernel_rfl) rfl rfl rfl rfl rfl rfl rfl ?_
 repeat' (first
| apply yds;rfl
| apply yd;rfl
| refine nv ?_
| apply aG (α:=Leg) (e:=46);rfl
| fail)
 refine wlp (X:=Int × List Leg × Int) [0,1,3,4,16,17] [0,1,2,3] (fun x => [(18,I x.1),(11,.c (.row 3 0 x.2.1.length)),(12,I x.2.2)]) (fun x => [(3,ow 46 x.2.1)]) (fun x => (0 ≤ x.1 ∧ x.1 ≤ who.length) ∧ x.2.1 = spL pa who was is x.1 ∧ x.2.2 = spG was is x.1) (fun x => (who.length - x.1).toNat) (0,[],0) ⟨by dsimp only;omega,rfl,rfl⟩ rfl rfl (fun _ => rfl) (fun _ => rfl) ⟨rfl,rfl,rfl,rfl,rfl,rfl,rfl,rfl⟩ (fun x hx => ?_)
 obtain ⟨i,u,n⟩:=x
 obtain ⟨h0,hu,hn⟩:=hx
 dsimp only at h0 hu hn ⊢
 have hul:=mY (pa:=pa) (who:=who) (was:=was) (is:=is) h0.1
 rw [← hu] at hul
 have hbd:=Bv hw hi (i:=i) ⟨h0.1,by omega,by omega⟩
 rw [← hn] at hbd
 by_cases hil:i < who.length
 ·
  have b1:0 ≤ rd was i ∧ rd was i ≤ 1000000000000000:=hw _ (ax ⟨h0.1,by omega⟩)
  have b2:0 ≤ rd is i ∧ rd is i ≤ 1000000000000000:=hi _ (ax ⟨h0.1,by omega⟩)
  have hu2:u ++ [⟨rd who i,pa,rd is i - rd was i⟩] = spL pa who was is (i + 1):=by rw [ou h0.1,hu]
  have hn2:n + (rd is i - rd was i) = spG was is (i + 1):=by rw [td ⟨h0.1,by omega⟩ (by omega),hn]
  repeat' (first
| intro h9;exfalso;contradiction
| apply yds;rfl
| apply yd;rfl
| intro _
| refine nv ?_
| apply wct rfl
| apply ag;rfl
| apply yar;rfl;omega
| apply yix;rfl;omega
| apply yle;rfl;omega
| apply aG (α:=Leg) (e:=46);rfl
| apply yap;rfl;(((try simp only [lE,lM]);(try dsimp only);omega))
| refine zdq (id:=6) rfl (by kernel_rfl) [(.p,0),(.p,1),(.p,2),(.p,3),(.p,4),(.p,5),(.p,7),(.p,8),(.p,9),(.t,6),(.t,10),(.p,11),(.p,12),(.o,13),(.l,14),(.p,15)] [14] (by kernel_rfl) rfl ?_
| refine zdq (id:=7) rfl (by kernel_rfl) [(.p,0),(.p,1),(.p,2),(.p,3),(.p,5),(.p,6),(.p,7),(.t,4),(.t,8),(.p,9),(.p,10),(.p,11)] [] (by kernel_rfl) rfl ?_
| fail)
  all_goals first
   | exact aA (i + 1,u ++ [⟨rd who i,pa,rd is i - rd was i⟩],n + (rd is i - rd was i)) [0,1,2,5] ⟨rfl,rfl,rfl,rfl,rfl,rfl,rfl,rfl⟩ ⟨by dsimp only;omega,hu2,hn2⟩ (by first | omega | (dsimp only;omega))
   | (exfalso;omega)
   | trace_state
 have ei:i = (who.length:Int):=by omega
 rw [ei] at hu hn
 subst hu
 subst hn
 repeat' (first
| intro h9;exfalso;contradiction
| apply yds;rfl
| apply yd;rfl
| apply tx;rfl;rfl;omega;rfl;rfl
| intro _
| refine nv ?_
| apply wcf rfl
| apply ae rfl
| apply ag;rfl
| apply aG (α:=Leg) (e:=46);rfl
| apply yap;rfl;(((try simp only [lE,lM]);(try dsimp only);omega))
| fail)
 all_goals first
  | exact ai [0,1,2,5] rfl rfl rfl rfl rfl rfl
  | (exfalso;omega)
  | trace_state
end
section
open Go.RowKit
theorem rG {was is:List Int} {n:Int} (h1:was.length = n) (h2:is.length = n):spG was is n = ar id is - ar id was:=by
 unfold spG
 rw [aY (by omega),aY (by omega)]
theorem vm {pa c:Int} {who was is:List Int}:∀ k:Nat,(k:Int) ≤ was.length → (k:Int) ≤ is.length → ar (iE c) (spL pa who was is k) = if pa = c then spG was is k else 0
 | 0,_,_ => by show (0:Int) = if pa = c then (0:Int) else 0;split <;> rfl
 | k + 1,hk,hk2 => by
   have ih:=vm (pa:=pa) (c:=c) (who:=who) (was:=was) (is:=is) k (by omega) (by omega)
   have e:((k + 1:Nat):Int) = (k:Int) + 1:=by omega
   rw [e,ou (by omega),cK,dx,ih,td ⟨by omega,by omega⟩ (by omega)]
   unfold iE
   dsimp only
   split <;> omega
theorem zD {pa i:Int} {who was is:List Int} {x:Leg} (h0:0 ≤ i) (h:x ∈ spL pa who was is i):∃ k:Int,(0 ≤ k ∧ k < i) ∧ x = ⟨rd who k,pa,rd is k - rd was k⟩:=by
 obtain ⟨k,hk,rfl⟩:=bL h
 rw [mY h0] at hk
 exact ⟨k,hk,dr (by omega)⟩
theorem vn {pa iss:Int} {who was is:List Int} (hp:aj pa) (hc:aj iss) (hw:∀ x ∈ who,aj x) (hl:was.length = who.length ∧ is.length = who.length) (h40:who.length ≤ 40) (h1:∀ x ∈ was,inP x 0 1000000000000000) (h2:∀ x ∈ is,inP x 0 1000000000000000) (s1:0 ≤ ar id was ∧ ar id was ≤ 1000000000000000) (s2:0 ≤ ar id is ∧ ar id is ≤ 1000000000000000):dj (fC pa iss who was is):=by
 have hlen:=mY (pa:=pa) (who:=who) (was:=was) (is:=is) (i:=who.length) (by omega)
 have hg:=rG (was:=was) (is:=is) (n:=who.length) (by omega) (by omega)
 refine ⟨⟨by show (spL pa who was is who.length ++ [_]).length ≤ 160;rw [List.length_append,List.length_cons,List.length_nil];omega,fun x hx => ?_⟩,fun x hx => ?_⟩
 ·rcases List.mem_append.1 hx with hx | hx
  ·obtain ⟨k,hk,rfl⟩:=zD (by omega) hx
   have b1:0 ≤ rd was k ∧ rd was k ≤ 1000000000000000:=h1 _ (ax (l:=was) (i:=k) (by omega))
   have b2:0 ≤ rd is k ∧ rd is k ≤ 1000000000000000:=h2 _ (ax (l:=is) (i:=k) (by omega))
   exact ⟨hw _ (ax hk),hp,by show -1000000000000000 ≤ rd is k - rd was k ∧ rd is k - rd was k ≤ 1000000000000000;omega⟩
  ·rcases List.mem_singleton.1 hx with rfl
   exact ⟨hc,hp,by show -1000000000000000 ≤ -spG was is who.length ∧ -spG was is who.length ≤ 1000000000000000;omega⟩
 ·have e:=vm (pa:=pa) (c:=x.Instr) (who:=who) (was:=was) (is:=is) who.length (by omega) (by omega)
  rw [cd,cK,dx,e]
  unfold iE
  dsimp only
  split <;> omega
noncomputable def aO (b:Books) (pa n d iss:Int):Books × Int × Int :=
 sel (¬ (BooksOk b ∧ aj pa ∧ aj iss ∧ inP n 1 1000000 ∧ inP d 1 1000000)) (⟨[],[],[],[],[],0⟩,0,1)
 (sel (ab b.Instrs pa = 0 ∨ a9 b.Accounts iss = 0) (b,0,3)
 (sel (ab b.Instrs pa ≠ 2 ∨ a9 b.Accounts iss ≠ 2) (b,0,4)
 (sel (¬ cN b pa) (b,0,8)
 (sel (¬ 0 < ((who b.Accounts b.Bals pa).length:Int)) (b,0,5)
 (sel (¬ dD (ar id (ao b.Accounts b.Bals pa)) n d) (b,0,8)
 (sel (¬ (poR b (fC pa iss (who b.Accounts b.Bals pa) (ao b.Accounts b.Bals pa) (shs (ar id (ao b.Accounts b.Bals pa) * n / d) (ao b.Accounts b.Bals pa)))).2 = 0) (b,0,cX (poR b (fC pa iss (who b.Accounts b.Bals pa) (ao b.Accounts b.Bals pa) (shs (ar id (ao b.Accounts b.Bals pa) * n / d) (ao b.Accounts b.Bals pa)))).2)
 (sel (¬ (scN b.Lots pa (who b.Accounts b.Bals pa) (shs (ar id (ao b.Accounts b.Bals pa) * n / d) (ao b.Accounts b.Bals pa)) ((who b.Accounts b.Bals pa).length:Int).toNat).2 = 0) (b,0,7)
 (⟨b.Accounts,b.Instrs,(poR b (fC pa iss (who b.Accounts b.Bals pa) (ao b.Accounts b.Bals pa) (shs (ar id (ao b.Accounts b.Bals pa) * n / d) (ao b.Accounts b.Bals pa)))).1,(scN b.Lots pa (who b.Accounts b.Bals pa) (shs (ar id (ao b.Accounts b.Bals pa) * n / d) (ao b.Accounts b.Bals pa)) ((who b.Accounts b.Bals pa).length:Int).toNat).1,b.Trades,b.Lot⟩,(ar id (ao b.Accounts b.Bals pa) * n / d),0))))))))
theorem gn {b:Books} {pa n d iss:Int}  (c0:¬ (BooksOk b ∧ aj pa ∧ aj iss ∧ inP n 1 1000000 ∧ inP d 1 1000000)):aO b pa n d iss = (⟨[],[],[],[],[],0⟩,0,1):=by
 rw [aO,ap c0]
theorem dS {b:Books} {pa n d iss:Int} (c0:¬ (¬ (BooksOk b ∧ aj pa ∧ aj iss ∧ inP n 1 1000000 ∧ inP d 1 1000000))) (c1:ab b.Instrs pa = 0 ∨ a9 b.Accounts iss = 0):aO b pa n d iss = (b,0,3):=by
 rw [aO,a8 c0,ap c1]
theorem dU {b:Books} {pa n d iss:Int} (c0:¬ (¬ (BooksOk b ∧ aj pa ∧ aj iss ∧ inP n 1 1000000 ∧ inP d 1 1000000))) (c1:¬ (ab b.Instrs pa = 0 ∨ a9 b.Accounts iss = 0)) (c2:ab b.Instrs pa ≠ 2 ∨ a9 b.Accounts iss ≠ 2):aO b pa n d iss = (b,0,4):=by
 rw [aO,a8 c0,a8 c1,ap c2]
theorem mg {b:Books} {pa n d iss:Int} (c0:¬ (¬ (BooksOk b ∧ aj pa ∧ aj iss ∧ inP n 1 1000000 ∧ inP d 1 1000000))) (c1:¬ (ab b.Instrs pa = 0 ∨ a9 b.Accounts iss = 0)) (c2:¬ (ab b.Instrs pa ≠ 2 ∨ a9 b.Accounts iss ≠ 2)) (c3:¬ cN b pa):aO b pa n d iss = (b,0,8):=by
 rw [aO,a8 c0,a8 c1,a8 c2,ap c3]
theorem mh {b:Books} {pa n d iss:Int} (c0:¬ (¬ (BooksOk b ∧ aj pa ∧ aj iss ∧ inP n 1 1000000 ∧ inP d 1 1000000))) (c1:¬ (ab b.Instrs pa = 0 ∨ a9 b.Accounts iss = 0)) (c2:¬ (ab b.Instrs pa ≠ 2 ∨ a9 b.Accounts iss ≠ 2)) (c3:¬ (¬ cN b pa)) (c4:¬ 0 < ((who b.Accounts b.Bals pa).length:Int)):aO b pa n d iss = (b,0,5):=by
 rw [aO,a8 c0,a8 c1,a8 c2,a8 c3,ap c4]
theorem mi {b:Books} {pa n d iss:Int} (c0:¬ (¬ (BooksOk b ∧ aj pa ∧ aj iss ∧ inP n 1 1000000 ∧ inP d 1 1000000))) (c1:¬ (ab b.Instrs pa = 0 ∨ a9 b.Accounts iss = 0)) (c2:¬ (ab b.Instrs pa ≠ 2 ∨ a9 b.Accounts iss ≠ 2)) (c3:¬ (¬ cN b pa)) (c4:¬ (¬ 0 < ((who b.Accounts b.Bals pa).length:Int))) (c5:¬ dD (ar id (ao b.Accounts b.Bals pa)) n d):aO b pa n d iss = (b,0,8):=by
 rw [aO,a8 c0,a8 c1,a8 c2,a8 c3,a8 c4,ap c5]
theorem mj {b:Books} {pa n d iss:Int} (c0:¬ (¬ (BooksOk b ∧ aj pa ∧ aj iss ∧ inP n 1 1000000 ∧ inP d 1 1000000))) (c1:¬ (ab b.Instrs pa = 0 ∨ a9 b.Accounts iss = 0)) (c2:¬ (ab b.Instrs pa ≠ 2 ∨ a9 b.Accounts iss ≠ 2)) (c3:¬ (¬ cN b pa)) (c4:¬ (¬ 0 < ((who b.Accounts b.Bals pa).length:Int))) (c5:¬ (¬ dD (ar id (ao b.Accounts b.Bals pa)) n d)) (c6:¬ (poR b (fC pa iss (who b.Accounts b.Bals pa) (ao b.Accounts b.Bals pa) (shs (ar id (ao b.Accounts b.Bals pa) * n / d) (ao b.Accounts b.Bals pa)))).2 = 0):aO b pa n d iss = (b,0,cX (poR b (fC pa iss (who b.Accounts b.Bals pa) (ao b.Accounts b.Bals pa) (shs (ar id (ao b.Accounts b.Bals pa) * n / d) (ao b.Accounts b.Bals pa)))).2):=by
 rw [aO,a8 c0,a8 c1,a8 c2,a8 c3,a8 c4,a8 c5,ap c6]
theorem ml {b:Books} {pa n d iss:Int} (c0:¬ (¬ (BooksOk b ∧ aj pa ∧ aj iss ∧ inP n 1 1000000 ∧ inP d 1 1000000))) (c1:¬ (ab b.Instrs pa = 0 ∨ a9 b.Accounts iss = 0)) (c2:¬ (ab b.Instrs pa ≠ 2 ∨ a9 b.Accounts iss ≠ 2)) (c3:¬ (¬ cN b pa)) (c4:¬ (¬ 0 < ((who b.Accounts b.Bals pa).length:Int))) (c5:¬ (¬ dD (ar id (ao b.Accounts b.Bals pa)) n d)) (c6:¬ (¬ (poR b (fC pa iss (who b.Accounts b.Bals pa) (ao b.Accounts b.Bals pa) (shs (ar id (ao b.Accounts b.Bals pa) * n / d) (ao b.Accounts b.Bals pa)))).2 = 0)) (c7:¬ (scN b.Lots pa (who b.Accounts b.Bals pa) (shs (ar id (ao b.Accounts b.Bals pa) * n / d) (ao b.Accounts b.Bals pa)) ((who b.Accounts b.Bals pa).length:Int).toNat).2 = 0):aO b pa n d iss = (b,0,7):=by
 rw [aO,a8 c0,a8 c1,a8 c2,a8 c3,a8 c4,a8 c5,a8 c6,ap c7]
theorem mm {b:Books} {pa n d iss:Int} (c0:¬ (¬ (BooksOk b ∧ aj pa ∧ aj iss ∧ inP n 1 1000000 ∧ inP d 1 1000000))) (c1:¬ (ab b.Instrs pa = 0 ∨ a9 b.Accounts iss = 0)) (c2:¬ (ab b.Instrs pa ≠ 2 ∨ a9 b.Accounts iss ≠ 2)) (c3:¬ (¬ cN b pa)) (c4:¬ (¬ 0 < ((who b.Accounts b.Bals pa).length:Int))) (c5:¬ (¬ dD (ar id (ao b.Accounts b.Bals pa)) n d)) (c6:¬ (¬ (poR b (fC pa iss (who b.Accounts b.Bals pa) (ao b.Accounts b.Bals pa) (shs (ar id (ao b.Accounts b.Bals pa) * n / d) (ao b.Accounts b.Bals pa)))).2 = 0)) (c7:¬ (¬ (scN b.Lots pa (who b.Accounts b.Bals pa) (shs (ar id (ao b.Accounts b.Bals pa) * n / d) (ao b.Accounts b.Bals pa)) ((who b.Accounts b.Bals pa).length:Int).toNat).2 = 0)):aO b pa n d iss = (⟨b.Accounts,b.Instrs,(poR b (fC pa iss (who b.Accounts b.Bals pa) (ao b.Accounts b.Bals pa) (shs (ar id (ao b.Accounts b.Bals pa) * n / d) (ao b.Accounts b.Bals pa)))).1,(scN b.Lots pa (who b.Accounts b.Bals pa) (shs (ar id (ao b.Accounts b.Bals pa) * n / d) (ao b.Accounts b.Bals pa)) ((who b.Accounts b.Bals pa).length:Int).toNat).1,b.Trades,b.Lot⟩,(ar id (ao b.Accounts b.Bals pa) * n / d),0):=by
 rw [aO,a8 c0,a8 c1,a8 c2,a8 c3,a8 c4,a8 c5,a8 c6,a8 c7]
theorem nE {ba:List Account} {bi:List Instr} {bb:List Bal} {bl:List Lot} {bt:List Trade} {bn:Int} {pa n d iss:Int}:FC Tryz.prog 30 [bkV 0 ⟨ba,bi,bb,bl,bt,bn⟩,I pa,I n,I d,I iss] (bkR ⟨ba,bi,bb,bl,bt,bn⟩) (.tup [bkE 5 (aO ⟨ba,bi,bb,bl,bt,bn⟩ pa n d iss).1,I (aO ⟨ba,bi,bb,bl,bt,bn⟩ pa n d iss).2.1,I (aO ⟨ba,bi,bb,bl,bt,bn⟩ pa n d iss).2.2]) (bkR ⟨ba,bi,bb,bl,bt,bn⟩ ++ bkW (aO ⟨ba,bi,bb,bl,bt,bn⟩ pa n d iss).1):=by
 refine al tk 121 [.cell 10 _,.tmp 11,.tmp 12] Tryz.func30 (by kernel_rfl) rfl rfl rfl rfl rfl rfl rfl ?_
 by_cases hok:BooksOk ⟨ba,bi,bb,bl,bt,bn⟩
 rotate_left
 ·
  rw [gn (b:=⟨ba,bi,bb,bl,bt,bn⟩) (fun h => hok h.1)]
  repeat' (first
| intro h9;exfalso;contradiction
| apply ah (d:=44) 0 42 2;rfl;rfl;rfl;rfl;rfl
| apply ah (d:=44) 1 74 2;rfl;rfl;rfl;rfl;rfl
| apply ah (d:=44) 2 135 3;rfl;rfl;rfl;rfl;rfl
| apply ah (d:=44) 3 137 5;rfl;rfl;rfl;rfl;rfl
| apply ah (d:=44) 4 103 8;rfl;rfl;rfl;rfl;rfl
| apply yd;rfl
| intro _
| refine nv ?_
| apply wct rfl
| apply ycp;rfl;exact aw;rfl
| fail)
  all_goals exact ai [0,1,2,3,4,7,8,9,10,11] rfl rfl rfl rfl rfl rfl
 by_cases hta:aj pa ∧ aj iss ∧ inP n 1 1000000 ∧ inP d 1 1000000
 rotate_left
 ·
  rw [gn (b:=⟨ba,bi,bb,bl,bt,bn⟩) (fun h => hta h.2)]
  repeat' (first
| intro h9;exfalso;contradiction
| intro h9;refine absurd ⟨?_,?_,?_,?_⟩ hta;exact (show ∀ x ∈ [pa,iss],aj x by assumption) _ (.head _);exact (show ∀ x ∈ [pa,iss],aj x by assumption) _ (.tail _ (.head _));assumption;assumption
| apply ah (d:=44) 0 42 2;rfl;rfl;rfl;rfl;rfl
| apply ah (d:=44) 1 74 2;rfl;rfl;rfl;rfl;rfl
| apply ah (d:=44) 2 135 3;rfl;rfl;rfl;rfl;rfl
| apply ah (d:=44) 3 137 5;rfl;rfl;rfl;rfl;rfl
| apply ah (d:=44) 4 103 8;rfl;rfl;rfl;rfl;rfl
| apply yd;rfl
| intro _
| refine nv ?_
| apply wct rfl
| apply aG (α:=Int) (e:=3);rfl
| apply ycp;rfl;(first | exact aw | exact bE | exact aJ);rfl
| fail)
  all_goals exact ai [0,1,2,3,4,8,9,10,11,12] rfl rfl rfl rfl rfl rfl
 have hA:=hok.acc
 have hI:=hok.ins
 have hal:=hA.2
 obtain ⟨k1,k2,k3,k4⟩:=id hta
 have hno:∀ x ∈ [pa,iss],aj x:=fun x hx => by simp only [List.mem_cons,List.not_mem_nil,or_false] at hx;rcases hx with rfl | rfl <;> assumption
 dsimp only at hA hI hal
 have c0:¬ ¬ (BooksOk ⟨ba,bi,bb,bl,bt,bn⟩ ∧ aj pa ∧ aj iss ∧ inP n 1 1000000 ∧ inP d 1 1000000):=fun k => k ⟨hok,hta⟩
 by_cases hh:cN ⟨ba,bi,bb,bl,bt,bn⟩ pa ∧ 0 < ((who ba bb pa).length:Int)
 rotate_left
 ·
  have hnn:([]:List Int).length = 0:=rfl
  repeat' (first
| intro h9;exfalso;contradiction
| apply yds;rfl
| apply yd;rfl
| intro _
| refine nv ?_
| apply wct rfl
| apply wcf rfl
| apply yeq;rfl
| apply yne;rfl
| apply aG (α:=Int) (e:=3);rfl
| apply ycp;rfl;(first | exact aw | exact bE | exact aJ | exact aZ);rfl
| apply ycf;rfl;(exact aH (by exact BooksOk.midB (by assumption)));rfl
| apply j9;(iterate 10 rfl);exact gX;(iterate 8 rfl)
| apply yc;rfl;(first | exact bG | exact bH);rfl;exact fun _ => rfl
| apply zcs;(iterate 10 rfl);exact je;exact fun _ => rfl;exact fun _ => rfl;rfl;rfl;rfl;rfl
| fail)
  all_goals first | (exfalso;exact hh ⟨by assumption,by omega⟩) | skip
  all_goals first
   | (rw [dS (b:=⟨ba,bi,bb,bl,bt,bn⟩) c0 (by dsimp only;omega)]
      exact ai [0,1,2,3,4,8,9,10,11,12] rfl rfl rfl rfl rfl rfl)
   | (rw [dU (b:=⟨ba,bi,bb,bl,bt,bn⟩) c0 (by dsimp only;omega) (by dsimp only;omega)]
      exact ai [0,1,2,3,4,8,9,10,11,12] rfl rfl rfl rfl rfl rfl)
   | (rw [mg (b:=⟨ba,bi,bb,bl,bt,bn⟩) c0 (by dsimp only;omega) (by dsimp only;omega) (by assumption)]
      exact ai [0,1,2,3,4,8,9,10,11,12] rfl rfl rfl rfl rfl rfl)
   | (rw [mh (b:=⟨ba,bi,bb,bl,bt,bn⟩) c0 (by dsimp only;omega) (by dsimp only;omega) (fun k => k (by assumption)) (by dsimp only;omega)]
      exact ai [0,1,2,3,4,8,9,10,11,12] rfl rfl rfl rfl rfl rfl)
   | trace_state
 obtain ⟨hhe,hwl⟩:=hh
 by_cases hmd:dD (ar id (ao ba bb pa)) n d
 rotate_left
 ·
  repeat' (first
| intro h9;exfalso;first | contradiction | omega
| apply yds;rfl
| apply yd;rfl
| intro _
| refine nv ?_
| apply wct rfl
| apply wcf rfl
| apply yeq;rfl
| apply yne;rfl
| apply aG (α:=Int) (e:=3);rfl
| apply ycp;rfl;(first | exact aw | exact bE | exact aJ | exact aZ);rfl
| apply ycf;rfl;(exact aH (by exact BooksOk.midB (by assumption)));rfl
| apply j9;(iterate 10 rfl);exact gX;(iterate 8 rfl)
| apply yc;rfl;(first | exact bG | exact bH | exact jf (by assumption));rfl;exact fun _ => rfl
| fail)
  all_goals first
   | (rw [dS (b:=⟨ba,bi,bb,bl,bt,bn⟩) c0 (by dsimp only;omega)]
      exact ai [0,1,2,3,4,8,9,10,11,12] rfl rfl rfl rfl rfl rfl)
   | (rw [dU (b:=⟨ba,bi,bb,bl,bt,bn⟩) c0 (by dsimp only;omega) (by dsimp only;omega)]
      exact ai [0,1,2,3,4,8,9,10,11,12] rfl rfl rfl rfl rfl rfl)
   | (rw [mi (b:=⟨ba,bi,bb,bl,bt,bn⟩) c0 (by dsimp only;omega) (by dsimp only;omega) (fun k => k hhe) (fun k => k hwl) hmd]
      exact ai [0,1,2,3,4,8,9,10,11,12] rfl rfl rfl rfl rfl rfl)
   | (exfalso;omega)
   | trace_state
 have hall:0 ≤ ar id (ao ba bb pa) * n / d ∧ ar id (ao ba bb pa) * n / d ≤ 1000000000000000:=⟨Int.ediv_nonneg (pX (l6 hmd).1 (l6 hmd).2.1).1 (by have:=(l6 hmd).2.2;omega),hmd.2.2.2⟩
 have hsh:=mS (t:=ar id (ao ba bb pa) * n / d) hhe hwl hall
 dsimp only at hsh
 have hwn:=rM (bb:=bb) (p:=pa) hA
 have hwm:=hG ba bb pa
 have hsl:=gB (ar id (ao ba bb pa) * n / d) (ao ba bb pa)
 have hwb:=iO ba bb pa
 have hsb:=rC hsh
 have hwx:∀ x ∈ ao ba bb pa,inP x 0 1000000000000000:=hsh.1.2.1
 have hix:∀ x ∈ shs (ar id (ao ba bb pa) * n / d) (ao ba bb pa),inP x 0 1000000000000000:=fun x hx => ⟨(hsb x hx).1,Int.le_trans (hsb x hx).2 hall.2⟩
 have hpn:=iV (pN ba bb (fC pa iss (who ba bb pa) (ao ba bb pa) (shs (ar id (ao ba bb pa) * n / d) (ao ba bb pa))))
 have hlx:(shs (ar id (ao ba bb pa) * n / d) (ao ba bb pa)).length = (who ba bb pa).length ∧ 0 < (who ba bb pa).length ∧ (who ba bb pa).length ≤ 100:=by omega
 have hs1:ar id (shs (ar id (ao ba bb pa) * n / d) (ao ba bb pa)) = (ar id (ao ba bb pa) * n / d):=lh hsh
 have ham:=hhe.2
 unfold ak inP at ham
 dsimp only at ham
 have hmn:0 ≤ ar id (ao ba bb pa):=(l6 hmd).1.1
 have hlg:=vn (pa:=pa) (iss:=iss) (who:=(who ba bb pa)) (was:=(ao ba bb pa)) (is:=(shs (ar id (ao ba bb pa) * n / d) (ao ba bb pa))) k1 k2 hwn (by omega) (by omega) hwx hix ⟨hmn,ham.2⟩ (by rw [hs1];exact hall)
 have hpc:=db hok hlg
 have hge:=rG (was:=(ao ba bb pa)) (is:=(shs (ar id (ao ba bb pa) * n / d) (ao ba bb pa))) (n:=(who ba bb pa).length) (by omega) (by omega)
 rw [hs1] at hge
 have c4:¬ ¬ cN (⟨ba,bi,bb,bl,bt,bn⟩:Books) pa:=fun k => k hhe
 have c5:¬ ¬ 0 < ((who (⟨ba,bi,bb,bl,bt,bn⟩:Books).Accounts (⟨ba,bi,bb,bl,bt,bn⟩:Books).Bals pa).length:Int):=fun k => k hwl
 have c6:¬ ¬ dD (ar id (ao (⟨ba,bi,bb,bl,bt,bn⟩:Books).Accounts (⟨ba,bi,bb,bl,bt,bn⟩:Books).Bals pa)) n d:=fun k => k hmd
 repeat' (first
| intro h9;exfalso;first | contradiction | omega
| apply yds;rfl
| apply yd;rfl
| intro _
| refine nv ?_
| apply wct rfl
| apply wcf rfl
| apply yeq;rfl
| apply yne;rfl
| apply aG (α:=Int) (e:=3);rfl
| apply ycp;rfl;(first | exact aw | exact bE | exact aJ | exact aZ);rfl
| apply ycf;rfl;(first | exact aH (by exact BooksOk.midB (by assumption)) | exact jh (by assumption) | exact nM (by assumption) (by assumption) (by omega));rfl
| apply j9;(iterate 10 rfl);exact gX;(iterate 8 rfl)
| apply yc;rfl;(first | exact bG | exact bH | exact dl (by assumption));rfl;exact fun _ => rfl
| apply gc  [true,true,true,true,true,true,true];(iterate 10 rfl);exact cS (by omega);(iterate 6 rfl)
| apply gc  [true,false,false,true,true,true,false,true];(iterate 10 rfl);exact kS (by omega);(iterate 6 rfl)
| fail)
 all_goals first
  | (rw [dS (b:=⟨ba,bi,bb,bl,bt,bn⟩) c0 (by dsimp only;omega)]
     exact ai [0,1,2,3,4,8,9,10,11,12] rfl rfl rfl rfl rfl rfl)
  | (rw [dU (b:=⟨ba,bi,bb,bl,bt,bn⟩) c0 (by dsimp only;omega) (by dsimp only;omega)]
     exact ai [0,1,2,3,4,8,9,10,11,12] rfl rfl rfl rfl rfl rfl)
  | (have c7:¬ pN ba bb (fC pa iss (who ba bb pa) (ao ba bb pa) (shs (ar id (ao ba bb pa) * n / d) (ao ba bb pa))) = 0:=by assumption
     rw [mj (b:=⟨ba,bi,bb,bl,bt,bn⟩) c0 (by dsimp only;omega) (by dsimp only;omega) c4 c5 c6 c7]
     exact ai [0,1,2,3,4,18,19,20,21,22] rfl rfl rfl rfl rfl rfl)
  | (have c7:pN ba bb (fC pa iss (who ba bb pa) (ao ba bb pa) (shs (ar id (ao ba bb pa) * n / d) (ao ba bb pa))) = 0:=by assumption
     have c8:¬ (scN bl pa (who ba bb pa) (shs (ar id (ao ba bb pa) * n / d) (ao ba bb pa)) ((who ba bb pa).length:Int).toNat).2 = 0:=by assumption
     rw [ml (b:=⟨ba,bi,bb,bl,bt,bn⟩) c0 (by dsimp only;omega) (by dsimp only;omega) c4 c5 c6 (fun k => k c7) c8]
     exact ai [0,1,2,3,4,19,20,21,22,23] rfl rfl rfl rfl rfl rfl)
  | (have c7:pN ba bb (fC pa iss (who ba bb pa) (ao ba bb pa) (shs (ar id (ao ba bb pa) * n / d) (ao ba bb pa))) = 0:=by assumption
     have c8:(scN bl pa (who ba bb pa) (shs (ar id (ao ba bb pa) * n / d) (ao ba bb pa)) ((who ba bb pa).length:Int).toNat).2 = 0:=by assumption
     rw [mm (b:=⟨ba,bi,bb,bl,bt,bn⟩) c0 (by dsimp only;omega) (by dsimp only;omega) c4 c5 c6 (fun k => k c7) (fun k => k c8)]
     exact ai [0,1,2,3,4,8,9,18,19,12] rfl rfl rfl rfl rfl rfl)
  | (exfalso;omega)
  | trace_state
theorem oz {ba:List Account} {bi:List Instr} {bb:List Bal} {bl:List Lot} {bt:List Trade} {bn:Int} {pa n d iss:Int}:FC Tryz.prog 31 [bkV 0 ⟨ba,bi,bb,bl,bt,bn⟩,I pa,I n,I d,I iss] (bkR ⟨ba,bi,bb,bl,bt,bn⟩) (.tup [bkE 5 (aO ⟨ba,bi,bb,bl,bt,bn⟩ pa n d iss).1,I (aO ⟨ba,bi,bb,bl,bt,bn⟩ pa n d iss).2.1,I (aO ⟨ba,bi,bb,bl,bt,bn⟩ pa n d iss).2.2]) (bkR ⟨ba,bi,bb,bl,bt,bn⟩ ++ bkW (aO ⟨ba,bi,bb,bl,bt,bn⟩ pa n d iss).1):=by
 refine al tk 195 [.cell 10 _,.tmp 11,.tmp 12] Tryz.func31 (by kernel_rfl) rfl rfl rfl rfl rfl rfl rfl ?_
 by_cases hok:BooksOk ⟨ba,bi,bb,bl,bt,bn⟩
 rotate_left
 ·
  rw [gn (b:=⟨ba,bi,bb,bl,bt,bn⟩) (fun h => hok h.1)]
  repeat' (first
| intro h9;exfalso;contradiction
| apply ah (d:=54) 0 42 2;rfl;rfl;rfl;rfl;rfl
| apply ah (d:=54) 1 74 2;rfl;rfl;rfl;rfl;rfl
| apply ah (d:=54) 2 135 3;rfl;rfl;rfl;rfl;rfl
| apply ah (d:=54) 3 137 5;rfl;rfl;rfl;rfl;rfl
| apply ah (d:=54) 4 103 8;rfl;rfl;rfl;rfl;rfl
| apply yd;rfl
| intro _
| refine nv ?_
| apply wct rfl
| apply ycp;rfl;exact aq;rfl
| fail)
  all_goals exact ai [0,1,2,3,4,7,8,9,10,11] rfl rfl rfl rfl rfl rfl
 by_cases hta:aj pa ∧ aj iss ∧ inP n 1 1000000 ∧ inP d 1 1000000
 rotate_left
 ·
  rw [gn (b:=⟨ba,bi,bb,bl,bt,bn⟩) (fun h => hta h.2)]
  repeat' (first
| intro h9;exfalso;contradiction
| intro h9;exact absurd ⟨by assumption,by assumption,by assumption,by assumption⟩ hta
| apply ah (d:=54) 0 42 2;rfl;rfl;rfl;rfl;rfl
| apply ah (d:=54) 1 74 2;rfl;rfl;rfl;rfl;rfl
| apply ah (d:=54) 2 135 3;rfl;rfl;rfl;rfl;rfl
| apply ah (d:=54) 3 137 5;rfl;rfl;rfl;rfl;rfl
| apply ah (d:=54) 4 103 8;rfl;rfl;rfl;rfl;rfl
| apply yd;rfl
| intro _
| refine nv ?_
| apply wct rfl
| apply ycp;rfl;(first | exact aq | exact aK | exact aI);rfl
| fail)
  all_goals exact ai [0,1,2,3,4,7,8,9,10,11] rfl rfl rfl rfl rfl rfl
 have hA:=hok.acc
 have hI:=hok.ins
 have hal:=hA.2
 obtain ⟨k1,k2,k3,k4⟩:=id hta
 have hno:∀ x ∈ [pa,iss],aj x:=fun x hx => by simp only [List.mem_cons,List.not_mem_nil,or_false] at hx;rcases hx with rfl | rfl <;> assumption
 dsimp only at hA hI hal
 have c0:¬ ¬ (BooksOk ⟨ba,bi,bb,bl,bt,bn⟩ ∧ aj pa ∧ aj iss ∧ inP n 1 1000000 ∧ inP d 1 1000000):=fun k => k ⟨hok,hta⟩
 by_cases hh:cN ⟨ba,bi,bb,bl,bt,bn⟩ pa ∧ 0 < ((who ba bb pa).length:Int)
 rotate_left
 ·
  have hnn:([]:List Int).length = 0:=rfl
  repeat' (first
| intro h9;exfalso;contradiction
| apply yds;rfl
| apply yd;rfl
| intro _
| refine nv ?_
| apply wct rfl
| apply wcf rfl
| apply ag;rfl
| apply yne;rfl
| refine zdq (id:=3) rfl (by kernel_rfl) [(.p,0),(.p,2),(.p,4),(.p,6),(.t,1),(.t,5),(.o,3),(.o,7),(.p,8),(.p,9)] [] (by kernel_rfl) rfl ?_
| apply ycp;rfl;(first | exact aq | exact aK | exact aI);rfl
| apply ycq;rfl;(first | exact aS | exact bc);rfl
| apply j9;(iterate 10 rfl);exact ij;(iterate 8 rfl)
| apply ycf;rfl;(exact aN (by exact BooksOk.midB (by assumption)));rfl
| apply zcs;(iterate 10 rfl);exact mr;exact fun _ => rfl;exact fun _ => rfl;rfl;rfl;rfl;rfl
| fail)
  all_goals first | (exfalso;exact hh ⟨by assumption,by omega⟩) | skip
  all_goals first
   | (rw [dS (b:=⟨ba,bi,bb,bl,bt,bn⟩) c0 (by dsimp only;omega)]
      exact ai [0,1,2,3,4,9,10,11,12,13] rfl rfl rfl rfl rfl rfl)
   | (rw [dU (b:=⟨ba,bi,bb,bl,bt,bn⟩) c0 (by dsimp only;omega) (by dsimp only;omega)]
      exact ai [0,1,2,3,4,9,10,11,12,13] rfl rfl rfl rfl rfl rfl)
   | (rw [mg (b:=⟨ba,bi,bb,bl,bt,bn⟩) c0 (by dsimp only;omega) (by dsimp only;omega) (by assumption)]
      exact ai [0,1,2,3,4,9,10,11,12,13] rfl rfl rfl rfl rfl rfl)
   | (rw [mh (b:=⟨ba,bi,bb,bl,bt,bn⟩) c0 (by dsimp only;omega) (by dsimp only;omega) (fun k => k (by assumption)) (by dsimp only;omega)]
      exact ai [0,1,2,3,4,9,10,11,12,13] rfl rfl rfl rfl rfl rfl)
   | trace_state
 obtain ⟨hhe,hwl⟩:=hh
 by_cases hmd:dD (ar id (ao ba bb pa)) n d
 rotate_left
 ·
  repeat' (first
| intro h9;exfalso;first | contradiction | omega
| apply yds;rfl
| apply yd;rfl
| intro _
| refine nv ?_
| apply wct rfl
| apply wcf rfl
| apply ag;rfl
| apply yne;rfl
| refine zdq (id:=3) rfl (by kernel_rfl) [(.p,0),(.p,2),(.p,4),(.p,6),(.t,1),(.t,5),(.o,3),(.o,7),(.p,8),(.p,9)] [] (by kernel_rfl) rfl ?_
| apply ycp;rfl;(first | exact aq | exact aK | exact aI);rfl
| apply ycq;rfl;(first | exact aS | exact bc);rfl
| apply yc;rfl;(exact jt (by assumption));rfl;exact fun _ => rfl
| apply j9;(iterate 10 rfl);exact ij;(iterate 8 rfl)
| apply ycf;rfl;(exact aN (by exact BooksOk.midB (by assumption)));rfl
| fail)
  all_goals first
   | (rw [dS (b:=⟨ba,bi,bb,bl,bt,bn⟩) c0 (by dsimp only;omega)]
      exact ai [0,1,2,3,4,9,10,11,12,13] rfl rfl rfl rfl rfl rfl)
   | (rw [dU (b:=⟨ba,bi,bb,bl,bt,bn⟩) c0 (by dsimp only;omega) (by dsimp only;omega)]
      exact ai [0,1,2,3,4,9,10,11,12,13] rfl rfl rfl rfl rfl rfl)
   | (rw [mi (b:=⟨ba,bi,bb,bl,bt,bn⟩) c0 (by dsimp only;omega) (by dsimp only;omega) (fun k => k hhe) (fun k => k hwl) hmd]
      exact ai [0,1,2,3,4,9,10,11,12,13] rfl rfl rfl rfl rfl rfl)
   | (exfalso;omega)
   | trace_state
 have hall:0 ≤ ar id (ao ba bb pa) * n / d ∧ ar id (ao ba bb pa) * n / d ≤ 1000000000000000:=⟨Int.ediv_nonneg (pX (l6 hmd).1 (l6 hmd).2.1).1 (by have:=(l6 hmd).2.2;omega),hmd.2.2.2⟩
 have hsh:=mS (t:=ar id (ao ba bb pa) * n / d) hhe hwl hall
 dsimp only at hsh
 have hwn:=rM (bb:=bb) (p:=pa) hA
 have hwm:=hG ba bb pa
 have hsl:=gB (ar id (ao ba bb pa) * n / d) (ao ba bb pa)
 have hwb:=iO ba bb pa
 have hsb:=rC hsh
 have hwx:∀ x ∈ ao ba bb pa,inP x 0 1000000000000000:=hsh.1.2.1
 have hix:∀ x ∈ shs (ar id (ao ba bb pa) * n / d) (ao ba bb pa),inP x 0 1000000000000000:=fun x hx => ⟨(hsb x hx).1,Int.le_trans (hsb x hx).2 hall.2⟩
 have hpn:=iV (pN ba bb (fC pa iss (who ba bb pa) (ao ba bb pa) (shs (ar id (ao ba bb pa) * n / d) (ao ba bb pa))))
 have hlx:(shs (ar id (ao ba bb pa) * n / d) (ao ba bb pa)).length = (who ba bb pa).length ∧ 0 < (who ba bb pa).length ∧ (who ba bb pa).length ≤ 100:=by omega
 have hs1:ar id (shs (ar id (ao ba bb pa) * n / d) (ao ba bb pa)) = (ar id (ao ba bb pa) * n / d):=lh hsh
 have ham:=hhe.2
 unfold ak inP at ham
 dsimp only at ham
 have hmn:0 ≤ ar id (ao ba bb pa):=(l6 hmd).1.1
 have hlg:=vn (pa:=pa) (iss:=iss) (who:=(who ba bb pa)) (was:=(ao ba bb pa)) (is:=(shs (ar id (ao ba bb pa) * n / d) (ao ba bb pa))) k1 k2 hwn (by omega) (by omega) hwx hix ⟨hmn,ham.2⟩ (by rw [hs1];exact hall)
 have hpc:=db hok hlg
 have hge:=rG (was:=(ao ba bb pa)) (is:=(shs (ar id (ao ba bb pa) * n / d) (ao ba bb pa))) (n:=(who ba bb pa).length) (by omega) (by omega)
 rw [hs1] at hge
 have c4:¬ ¬ cN (⟨ba,bi,bb,bl,bt,bn⟩:Books) pa:=fun k => k hhe
 have c5:¬ ¬ 0 < ((who (⟨ba,bi,bb,bl,bt,bn⟩:Books).Accounts (⟨ba,bi,bb,bl,bt,bn⟩:Books).Bals pa).length:Int):=fun k => k hwl
 have c6:¬ ¬ dD (ar id (ao (⟨ba,bi,bb,bl,bt,bn⟩:Books).Accounts (⟨ba,bi,bb,bl,bt,bn⟩:Books).Bals pa)) n d:=fun k => k hmd
 repeat' (first
| intro h9;exfalso;first | contradiction | omega
| apply yds;rfl
| apply yd;rfl
| intro _
| refine nv ?_
| apply wct rfl
| apply wcf rfl
| apply ag;rfl
| apply yne;rfl
| apply aG (α:=Leg) (e:=46);rfl
| refine zdq (id:=3) rfl (by kernel_rfl) [(.p,0),(.p,2),(.p,4),(.p,6),(.t,1),(.t,5),(.o,3),(.o,7),(.p,8),(.p,9)] [] (by kernel_rfl) rfl ?_
| apply ycp;rfl;(first | exact aq | exact aK | exact aI);rfl
| apply ycq;rfl;(first | exact aS | exact bc);rfl
| apply yc;rfl;(exact bF (by assumption));rfl;exact fun _ => rfl
| apply j9;(iterate 10 rfl);exact ij;(iterate 8 rfl)
| apply ycf;rfl;(first | exact aN (by exact BooksOk.midB (by assumption)) | exact ju (by assumption));rfl
| fail)
 all_goals first
  | (rw [dS (b:=⟨ba,bi,bb,bl,bt,bn⟩) c0 (by dsimp only;omega)]
     exact ai [0,1,2,3,4,9,10,11,12,13] rfl rfl rfl rfl rfl rfl)
  | (rw [dU (b:=⟨ba,bi,bb,bl,bt,bn⟩) c0 (by dsimp only;omega) (by dsimp only;omega)]
     exact ai [0,1,2,3,4,9,10,11,12,13] rfl rfl rfl rfl rfl rfl)
  | (exfalso;first | contradiction | omega)
  | skip
 have c1:¬ (ab (⟨ba,bi,bb,bl,bt,bn⟩:Books).Instrs pa = 0 ∨ a9 (⟨ba,bi,bb,bl,bt,bn⟩:Books).Accounts iss = 0):=by dsimp only;omega
 have c2:¬ (ab (⟨ba,bi,bb,bl,bt,bn⟩:Books).Instrs pa ≠ 2 ∨ a9 (⟨ba,bi,bb,bl,bt,bn⟩:Books).Accounts iss ≠ 2):=by dsimp only;omega
 refine wlp (X:=Int × List Leg) [1,4,5,10,15,16,17,19,22] [0,1,2,3,4,5,6,7,8,9,10] (fun x => [(25,I x.1),(24,.c (.row 10 0 x.2.length))]) (fun x => [(10,ow 46 x.2)]) (fun x => (0 ≤ x.1 ∧ x.1 ≤ (who ba bb pa).length) ∧ x.2 = spL pa (who ba bb pa) (ao ba bb pa) (shs (ar id (ao ba bb pa) * n / d) (ao ba bb pa)) x.1) (fun x => ((who ba bb pa).length - x.1).toNat) (0,[]) ⟨by dsimp only;omega,rfl⟩ rfl rfl (fun _ => rfl) (fun _ => rfl) ⟨rfl,rfl,rfl,rfl,rfl,rfl,rfl,rfl⟩ (fun x hx => ?_)
 obtain ⟨i,u⟩:=x
 obtain ⟨h0,hu⟩:=hx
 dsimp only at h0 hu ⊢
 have hpl:=mY (pa:=pa) (who:=(who ba bb pa)) (was:=(ao ba bb pa)) (is:=(shs (ar id (ao ba bb pa) * n / d) (ao ba bb pa))) h0.1
 have hul:(u.length:Int) = i:=by rw [hu];exact hpl
 by_cases hil:i < (who ba bb pa).length
 ·
  have b1:0 ≤ rd (ao ba bb pa) i ∧ rd (ao ba bb pa) i ≤ 1000000000000000:=hwx _ (ax ⟨h0.1,by omega⟩)
  have b2:0 ≤ rd (shs (ar id (ao ba bb pa) * n / d) (ao ba bb pa)) i ∧ rd (shs (ar id (ao ba bb pa) * n / d) (ao ba bb pa)) i ≤ 1000000000000000:=hix _ (ax ⟨h0.1,by omega⟩)
  have hu2:u ++ [⟨rd (who ba bb pa) i,pa,rd (shs (ar id (ao ba bb pa) * n / d) (ao ba bb pa)) i - rd (ao ba bb pa) i⟩] = spL pa (who ba bb pa) (ao ba bb pa) (shs (ar id (ao ba bb pa) * n / d) (ao ba bb pa)) (i + 1):=by rw [ou h0.1,hu]
  repeat' (first
| intro h9;exfalso;contradiction
| apply yds;rfl
| apply yd;rfl
| intro _
| refine nv ?_
| apply wct rfl
| apply ag;rfl
| apply yar;rfl;omega
| apply yix;rfl;omega
| apply yle;rfl;omega
| apply aG (α:=Leg) (e:=46);rfl
| apply yap;rfl;(((try simp only [lE,lM]);(try dsimp only);omega))
| refine zdq (id:=21) rfl (by kernel_rfl) [(.p,0),(.p,1),(.p,2),(.p,3),(.p,5),(.p,6),(.p,7),(.p,8),(.p,10),(.p,11),(.p,12),(.t,4),(.t,9),(.t,13),(.p,14),(.p,15),(.o,16),(.l,17),(.p,18)] [17] (by kernel_rfl) rfl ?_
| fail)
  all_goals first
   | exact aA (i + 1,u ++ [⟨rd (who ba bb pa) i,pa,rd (shs (ar id (ao ba bb pa) * n / d) (ao ba bb pa)) i - rd (ao ba bb pa) i⟩]) [0,1,2,3,4,5,6,7,8,9,12] ⟨rfl,rfl,rfl,rfl,rfl,rfl,rfl,rfl⟩ ⟨by dsimp only;omega,hu2⟩ (by first | omega | (dsimp only;omega))
   | (exfalso;omega)
   | trace_state
 have hug:u ++ [⟨iss,pa,ar id (ao ba bb pa) - (ar id (ao ba bb pa) * n / d)⟩] = (fC pa iss (who ba bb pa) (ao ba bb pa) (shs (ar id (ao ba bb pa) * n / d) (ao ba bb pa))):=by
  rw [hu,show i = ((who ba bb pa).length:Int) from by omega,show ar id (ao ba bb pa) - (ar id (ao ba bb pa) * n / d) = -spG (ao ba bb pa) (shs (ar id (ao ba bb pa) * n / d) (ao ba bb pa)) (who ba bb pa).length from by omega]
 have hll:(u ++ [(⟨iss,pa,ar id (ao ba bb pa) - (ar id (ao ba bb pa) * n / d)⟩:Leg)]).length ≤ 160:=by rw [hug];exact hlg.1.1
 have hsn:=js (pN ba bb (fC pa iss (who ba bb pa) (ao ba bb pa) (shs (ar id (ao ba bb pa) * n / d) (ao ba bb pa))))
 rw [show (pN ba bb (fC pa iss (who ba bb pa) (ao ba bb pa) (shs (ar id (ao ba bb pa) * n / d) (ao ba bb pa)))) = pN ba bb (u ++ [⟨iss,pa,ar id (ao ba bb pa) - (ar id (ao ba bb pa) * n / d)⟩]) from by rw [hug]] at hsn
 repeat' (first
| intro h9;exfalso;contradiction
| apply yds;rfl
| apply yd;rfl
| intro _
| refine nv ?_
| apply wcf rfl
| apply ae rfl
| apply ag;rfl
| apply yar;rfl;omega
| apply aG (α:=Leg) (e:=46);rfl
| apply yap;rfl;(((try simp only [lE,lM]);(try dsimp only);omega))
| apply ycf;rfl;(exact aN (by exact BooksOk.midB (by assumption)));rfl
| apply gc  [true,true,true,true,true,false];(iterate 10 rfl);exact d7 (by omega);(iterate 6 rfl)
| fail)
 rotate_left
 ·
  have hne:¬ pN ba bb (u ++ [⟨iss,pa,ar id (ao ba bb pa) - (ar id (ao ba bb pa) * n / d)⟩]) = 0:=by assumption
  refine wlp (X:=Unit) [1,5,10,15,19,22,26,27,28] [0,1,2,3,4,5,6,7,8,9,10,11,12,13,14,15,16,17,18] (fun _ => []) (fun _ => []) (fun _ => True) (fun _ => 0) () trivial rfl rfl (fun _ => rfl) (fun _ => rfl) ⟨rfl,rfl,rfl,rfl,rfl,rfl,rfl,rfl⟩ (fun x hx => ?_)
  repeat' (first
| intro h9;exfalso;first | contradiction | omega
| apply yds;rfl
| apply yd;rfl
| intro _
| refine nv ?_
| apply wct rfl
| apply wcf rfl
| apply ae rfl
| apply ag;rfl
| apply yne;rfl
| apply ycf;rfl;(exact aN (by exact BooksOk.midB (by assumption)));rfl
| fail)
  all_goals first
   | (exfalso;omega)
   | (rw [hug] at hne ⊢
      rw [mj (b:=⟨ba,bi,bb,bl,bt,bn⟩) c0 c1 c2 c4 c5 c6 hne,← mo hpc]
      exact ai [0,1,2,3,4,19,20,21,22,23] rfl rfl rfl rfl rfl rfl)
   | trace_state
 have hze:pN ba bb (u ++ [⟨iss,pa,ar id (ao ba bb pa) - (ar id (ao ba bb pa) * n / d)⟩]) = 0:=by assumption
 rw [hug] at hze ⊢
 have c7:¬ ¬ pN ba bb (fC pa iss (who ba bb pa) (ao ba bb pa) (shs (ar id (ao ba bb pa) * n / d) (ao ba bb pa))) = 0:=fun k => k hze
 refine dy (X:=Option (Int × List Lot × Int)) (fun x => match x with | none => True | some y => (1 ≤ y.1 ∧ y.1 ≤ (who ba bb pa).length) ∧ ((y.2.2 = 0 ∧ scN bl pa (who ba bb pa) (shs (ar id (ao ba bb pa) * n / d) (ao ba bb pa)) y.1.toNat = (y.2.1,0)) ∨ (y.2.2 = 7 ∧ ¬ (scN bl pa (who ba bb pa) (shs (ar id (ao ba bb pa) * n / d) (ao ba bb pa)) ((who ba bb pa).length:Int).toNat).2 = 0))) (fun x => match x with | none => ⟨195,5,[(1,I pa),(5,.c (.ptr 5 0 0)),(10,.c (.ptr 6 0 0)),(15,.c (.row 7 0 (who ba bb pa).length)),(19,I (ar id (ao ba bb pa) * n / d)),(22,.c (.row 8 0 (shs (ar id (ao ba bb pa) * n / d) (ao ba bb pa)).length)),(26,.c (.ptr 14 0 0)),(27,I 0),(28,I 0)],[ro 42 ba,ro 74 bi,ro 135 bb,ro 137 bl,ro 103 bt,some ⟨true,30,6,.mx [.row 0 0 ba.length,.row 1 0 bi.length,.row 2 0 bb.length,.row 3 0 bl.length,.row 4 0 bt.length,.sc (.int .i64 bn)]⟩,some ⟨true,30,6,.mx [.sc (.slice none 0 0),.sc (.slice none 0 0),.sc (.slice none 0 0),.sc (.slice none 0 0),.sc (.slice none 0 0),.sc (.int .i64 0)]⟩,ow 3 (who ba bb pa),ow 3 (shs (ar id (ao ba bb pa) * n / d) (ao ba bb pa)),ow 42 ba,ow 74 bi,ow 135 (pL ba bb (fC pa iss (who ba bb pa) (ao ba bb pa) (shs (ar id (ao ba bb pa) * n / d) (ao ba bb pa)))),ow 137 bl,ow 103 bt,some ⟨true,30,6,.mx [.row 9 0 ba.length,.row 10 0 bi.length,.row 11 0 (pL ba bb (fC pa iss (who ba bb pa) (ao ba bb pa) (shs (ar id (ao ba bb pa) * n / d) (ao ba bb pa)))).length,.row 12 0 bl.length,.row 13 0 bt.length,.sc (.int .i64 bn)]⟩]⟩ | some y => ⟨195,5,[(1,I pa),(5,.c (.ptr 5 0 0)),(10,.c (.ptr 6 0 0)),(15,.c (.row 7 0 (who ba bb pa).length)),(19,I (ar id (ao ba bb pa) * n / d)),(22,.c (.row 8 0 (shs (ar id (ao ba bb pa) * n / d) (ao ba bb pa)).length)),(26,.c (.ptr 14 0 0)),(27,I y.2.2),(28,I y.1)],[ro 42 ba,ro 74 bi,ro 135 bb,ro 137 bl,ro 103 bt,some ⟨true,30,6,.mx [.row 0 0 ba.length,.row 1 0 bi.length,.row 2 0 bb.length,.row 3 0 bl.length,.row 4 0 bt.length,.sc (.int .i64 bn)]⟩,some ⟨true,30,6,.mx [.sc (.slice none 0 0),.sc (.slice none 0 0),.sc (.slice none 0 0),.sc (.slice none 0 0),.sc (.slice none 0 0),.sc (.int .i64 0)]⟩,ow 3 (who ba bb pa),ow 3 (shs (ar id (ao ba bb pa) * n / d) (ao ba bb pa)),ow 42 ba,ow 74 bi,ow 135 (pL ba bb (fC pa iss (who ba bb pa) (ao ba bb pa) (shs (ar id (ao ba bb pa) * n / d) (ao ba bb pa)))),ow 137 bl,ow 103 bt,some ⟨true,30,6,.mx [.row 9 0 ba.length,.row 10 0 bi.length,.row 11 0 (pL ba bb (fC pa iss (who ba bb pa) (ao ba bb pa) (shs (ar id (ao ba bb pa) * n / d) (ao ba bb pa)))).length,.row 15 0 y.2.1.length,.row 13 0 bt.length,.sc (.int .i64 bn)]⟩,ow 137 y.2.1]⟩) (fun x => match x with | none => (who ba bb pa).length + 1 | some y => ((who ba bb pa).length - y.1).toNat) none [0,1,2,3,4,5,6,7,9,13,14,18,16,17,19] trivial ⟨rfl,rfl,rfl,rfl,rfl,rfl,rfl,rfl⟩ (fun x hx => ?_)
 cases x with
 | none =>
   dsimp only
   have hS:scN bl pa (who ba bb pa) (shs (ar id (ao ba bb pa) * n / d) (ao ba bb pa)) (0:Int).toNat = (bl,0):=rfl
   by_cases hc:(aR bl (rd (who ba bb pa) 0) pa (rd (shs (ar id (ao ba bb pa) * n / d) (ao ba bb pa)) 0)).2 = 0
   ·
    have hS2:=vh (Int.le_refl 0) hS hc
    repeat' (first
| intro h9;exfalso;contradiction
| apply yds;rfl
| apply yd;rfl
| intro _
| refine nv ?_
| apply wct rfl
| apply wcf rfl
| apply ag;rfl
| apply yne;rfl
| apply yar;rfl;omega
| apply yix;rfl;omega
| apply yle;rfl;omega
| refine zdq (id:=27) rfl (by kernel_rfl) [(.p,0),(.p,2),(.p,3),(.p,4),(.p,6),(.p,7),(.p,8),(.p,9),(.t,1),(.t,5),(.t,10),(.o,11),(.p,12),(.p,13),(.p,14),(.p,15),(.p,16)] [] (by kernel_rfl) rfl ?_
| apply ycf;rfl;exact ew;rfl
| fail)
    all_goals first
     | exact aA (some (0 + 1,(aR bl (rd (who ba bb pa) 0) pa (rd (shs (ar id (ao ba bb pa) * n / d) (ao ba bb pa)) 0)).1,0)) [0,1,2,3,4,5,6,7,8,9,10,11,12,13,14,15] ⟨rfl,rfl,rfl,rfl,rfl,rfl,rfl,rfl⟩ ⟨by dsimp only;omega,.inl ⟨rfl,hS2⟩⟩ (by first | omega | (dsimp only;omega))
     | (exfalso;omega)
     | trace_state
   ·
    have hS2:=vg (n:=(who ba bb pa).length) ⟨Int.le_refl 0,by omega⟩ hS hc
    repeat' (first
| intro h9;exfalso;contradiction
| apply yds;rfl
| apply yd;rfl
| intro _
| refine nv ?_
| apply wct rfl
| apply ag;rfl
| apply yne;rfl
| apply yar;rfl;omega
| apply yix;rfl;omega
| apply yle;rfl;omega
| refine zdq (id:=27) rfl (by kernel_rfl) [(.p,0),(.p,2),(.p,3),(.p,4),(.p,6),(.p,7),(.p,8),(.p,9),(.t,1),(.t,5),(.t,10),(.o,11),(.p,12),(.p,13),(.p,14),(.p,15),(.p,16)] [] (by kernel_rfl) rfl ?_
| apply ycf;rfl;exact ew;rfl
| fail)
    all_goals first
     | exact aA (some (0 + 1,(aR bl (rd (who ba bb pa) 0) pa (rd (shs (ar id (ao ba bb pa) * n / d) (ao ba bb pa)) 0)).1,7)) [0,1,2,3,4,5,6,7,8,9,10,11,12,13,14,15] ⟨rfl,rfl,rfl,rfl,rfl,rfl,rfl,rfl⟩ ⟨by dsimp only;omega,.inr ⟨rfl,hS2⟩⟩ (by first | omega | (dsimp only;omega))
     | (exfalso;omega)
     | trace_state
 | some y =>
   obtain ⟨j,L,cc⟩:=y
   obtain ⟨j0,hj⟩:=hx
   dsimp only at j0 hj ⊢
   rcases hj with ⟨rfl,hS⟩ | ⟨rfl,hbad⟩
   ·
    by_cases hjl:j < (who ba bb pa).length
    ·
     by_cases hc:(aR L (rd (who ba bb pa) j) pa (rd (shs (ar id (ao ba bb pa) * n / d) (ao ba bb pa)) j)).2 = 0
     ·
      have hS2:=vh (by omega) hS hc
      repeat' (first
| intro h9;exfalso;contradiction
| apply yds;rfl
| apply yd;rfl
| intro _
| refine nv ?_
| apply wct rfl
| apply wcf rfl
| apply ag;rfl
| apply yne;rfl
| apply yar;rfl;omega
| apply yix;rfl;omega
| apply yle;rfl;omega
| refine zdq (id:=27) rfl (by kernel_rfl) [(.p,0),(.p,2),(.p,3),(.p,4),(.p,6),(.p,7),(.p,8),(.p,9),(.t,1),(.t,5),(.t,10),(.o,11),(.p,12),(.p,13),(.p,14),(.p,15),(.p,16)] [] (by kernel_rfl) rfl ?_
| apply ycf;rfl;exact ew;rfl
| fail)
      all_goals first
       | exact aA (some (j + 1,(aR L (rd (who ba bb pa) j) pa (rd (shs (ar id (ao ba bb pa) * n / d) (ao ba bb pa)) j)).1,0)) [0,1,2,3,4,5,6,7,8,9,10,11,12,13,14,16] ⟨rfl,rfl,rfl,rfl,rfl,rfl,rfl,rfl⟩ ⟨by dsimp only;omega,.inl ⟨rfl,hS2⟩⟩ (by first | omega | (dsimp only;omega))
       | (exfalso;omega)
       | trace_state
     ·
      have hS2:=vg (n:=(who ba bb pa).length) ⟨by omega,hjl⟩ hS hc
      repeat' (first
| intro h9;exfalso;contradiction
| apply yds;rfl
| apply yd;rfl
| intro _
| refine nv ?_
| apply wct rfl
| apply ag;rfl
| apply yne;rfl
| apply yar;rfl;omega
| apply yix;rfl;omega
| apply yle;rfl;omega
| refine zdq (id:=27) rfl (by kernel_rfl) [(.p,0),(.p,2),(.p,3),(.p,4),(.p,6),(.p,7),(.p,8),(.p,9),(.t,1),(.t,5),(.t,10),(.o,11),(.p,12),(.p,13),(.p,14),(.p,15),(.p,16)] [] (by kernel_rfl) rfl ?_
| apply ycf;rfl;exact ew;rfl
| fail)
      all_goals first
       | exact aA (some (j + 1,(aR L (rd (who ba bb pa) j) pa (rd (shs (ar id (ao ba bb pa) * n / d) (ao ba bb pa)) j)).1,7)) [0,1,2,3,4,5,6,7,8,9,10,11,12,13,14,16] ⟨rfl,rfl,rfl,rfl,rfl,rfl,rfl,rfl⟩ ⟨by dsimp only;omega,.inr ⟨rfl,hS2⟩⟩ (by first | omega | (dsimp only;omega))
       | (exfalso;omega)
       | trace_state
    ·
     have ej:j = ((who ba bb pa).length:Int):=by omega
     subst ej
     have hz:(scN bl pa (who ba bb pa) (shs (ar id (ao ba bb pa) * n / d) (ao ba bb pa)) ((who ba bb pa).length:Int).toNat).2 = 0:=by rw [hS]
     rw [mm (b:=⟨ba,bi,bb,bl,bt,bn⟩) c0 c1 c2 c4 c5 c6 c7 (fun k => k hz)]
     repeat' (first
| intro h9;exfalso;contradiction
| apply yds;rfl
| apply yd;rfl
| intro _
| refine nv ?_
| apply wcf rfl
| apply ae rfl
| apply ag;rfl
| apply yne;rfl
| fail)
     all_goals first
      | (rw [show L = (scN bl pa (who ba bb pa) (shs (ar id (ao ba bb pa) * n / d) (ao ba bb pa)) ((who ba bb pa).length:Int).toNat).1 from by rw [hS]]
         exact ai [0,1,2,3,4,9,10,11,15,13] rfl rfl rfl rfl rfl rfl)
      | (exfalso;omega)
      | trace_state
   ·
    rw [ml (b:=⟨ba,bi,bb,bl,bt,bn⟩) c0 c1 c2 c4 c5 c6 c7 hbad]
    repeat' (first
| intro h9;exfalso;contradiction
| apply yds;rfl
| apply yd;rfl
| intro _
| refine nv ?_
| apply wct rfl
| apply wcf rfl
| apply ae rfl
| apply ag;rfl
| apply yne;rfl
| apply ycf;rfl;(exact aN (by exact BooksOk.midB (by assumption)));rfl
| fail)
    all_goals first
     | exact ai [0,1,2,3,4,16,17,18,19,20] rfl rfl rfl rfl rfl rfl
     | (exfalso;omega)
     | trace_state
end
end Go.Proofs.YtgehbhkfehmdkaaGreat.Sh
