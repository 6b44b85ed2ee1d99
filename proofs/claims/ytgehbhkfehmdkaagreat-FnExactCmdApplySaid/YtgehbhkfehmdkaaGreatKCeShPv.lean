/- What is paid: legs. No condition. -/
import Derived.Test.YtgehbhkfehmdkaaGreatKCeShSu
import Derived.Test.YtgehbhkfehmdkaaGreatKCeShPn
import Derived.Test.YtgehbhkfehmdkaaGreatKCeShFx
import Derived.Test.YtgehbhkfehmdkaaGreatKCeShV
set_option maxRecDepth 100000
set_option maxHeartbeats 40000000
set_option linter.unusedSimpArgs false
set_option linter.unusedVariables false
namespace Go.Proofs.YtgehbhkfehmdkaaGreat.Sh
section
open Go.RowKit
theorem vi:∀ (l:List Int) (k:Nat) (x:Int),k < l.length → ar id (l.set k x) = ar id l - l.getD k 0 + x
 | [],_,_,h => absurd h (Nat.not_lt_zero _)
 | a :: l,0,x,_ => by
   rw [List.set_cons_zero,bY,bY,List.getD_cons_zero]
   simp only [id]
   omega
 | a :: l,k + 1,x,h => by
   have ih:=vi l k x (by simpa using h)
   rw [List.set_cons_succ,bY,bY,List.getD_cons_succ,ih]
   simp only [id]
   omega
theorem Bi {l:List Int} {i:Int} (h:0 ≤ i ∧ i < l.length):rd l i = l.getD i.toNat 0:=by
 unfold rd
 rw [List.getD_eq_getElem?_getD,List.getD_eq_getElem?_getD,List.getElem?_eq_getElem (by omega:i.toNat < l.length)]
 rfl
theorem zi {o:List Int} {i:Int} (h:0 ≤ i ∧ i < o.length):ar id (inc o i) = ar id o + 1:=by
 unfold inc upd
 rw [vi _ _ _ (by omega),Bi h]
 omega
theorem sA {t:Int} {ws:List Int}:∀ k:Nat,(k:Int) ≤ ws.length → ar id (j5 t ws k) = ar id (eB t ws) + k
 | 0,_ => by show ar id (eB t ws) = _;omega
 | k + 1,hk => by
   have ih:=sA (t:=t) (ws:=ws) k (by omega)
   have hr:=jS (t:=t) (ws:=ws) (k:=k) ⟨by omega,by omega⟩
   have e:((k + 1:Nat):Int) = (k:Int) + 1:=by omega
   have e2:j5 t ws ((k:Int) + 1) = inc (j5 t ws k) (rd (dH t ws) k):=jI ⟨by omega,by omega⟩
   rw [e,e2,zi (by rw [gY];exact hr),ih]
   omega
theorem lh {t:Int} {ws:List Int} (h:shareable t ws):ar id (shs t ws) = t:=by
 have hm:=h.more
 have e:=sA (t:=t) (ws:=ws) (cD t ws).toNat (by omega)
 rw [show (((cD t ws).toNat:Nat):Int) = cD t ws from by omega] at e
 have e2:j5 t ws (cD t ws) = shs t ws:=rfl
 rw [e2] at e
 have e3:cD t ws = t - ar id (eB t ws):=rfl
 omega
theorem yG {t:Int} {ws:List Int} (h:shareable t ws):∀ x ∈ shs t ws,0 ≤ x:=fun x hx => by
 obtain ⟨j,hj,rfl⟩:=bL hx
 rw [gB] at hj
 have hm:=h.more
 have:=mT h (cD t ws).toNat (by omega) j hj.1 hj.2
 rw [show (((cD t ws).toNat:Nat):Int) = cD t ws from by omega] at this
 exact this.1
theorem rC {t:Int} {ws:List Int} (h:shareable t ws):∀ x ∈ shs t ws,0 ≤ x ∧ x ≤ t:=fun x hx => ⟨yG h x hx,by have:=lp (yG h) hx;rw [lh h] at this;exact this⟩
def pyL (cash:Int) (who sh:List Int) (i:Int):List Leg:=mkl i.toNat (fun k => ⟨rd who k,cash,rd sh k⟩)
theorem mV {cash i:Int} {who sh:List Int} (h:0 ≤ i):((pyL cash who sh i).length:Int) = i:=by rw [pyL,ck];omega
theorem od {cash i:Int} {who sh:List Int} (h:0 ≤ i):pyL cash who sh (i + 1) = pyL cash who sh i ++ [⟨rd who i,cash,rd sh i⟩]:=gZ h
theorem vb {cash c:Int} {who sh:List Int}:∀ k:Nat,(k:Int) ≤ sh.length → ar (iE c) (pyL cash who sh k) = if cash = c then ar id (pf sh k) else 0
 | 0,_ => by show (0:Int) = if cash = c then (0:Int) else 0;split <;> rfl
 | k + 1,hk => by
   have ih:=vb (cash:=cash) (c:=c) (who:=who) (sh:=sh) k (by omega)
   have e:((k + 1:Nat):Int) = (k:Int) + 1:=by omega
   rw [e,od (by omega),cK,dx,ih,cM ⟨by omega,by omega⟩]
   unfold iE
   simp only [id]
   split <;> omega
theorem zC {cash i:Int} {who sh:List Int} {x:Leg} (h0:0 ≤ i) (h:x ∈ pyL cash who sh i):∃ k:Int,(0 ≤ k ∧ k < i) ∧ x = ⟨rd who k,cash,rd sh k⟩:=by
 obtain ⟨k,hk,rfl⟩:=bL h
 rw [mV h0] at hk
 exact ⟨k,hk,dr (by omega)⟩
abbrev j6 (payer cash t:Int) (who sh:List Int):List Leg:=⟨payer,cash,-t⟩ :: pyL cash who sh who.length
theorem v7 {payer cash t:Int} {who sh:List Int} (hp:aj payer) (hc:aj cash) (ht:0 ≤ t ∧ t ≤ 1000000000000000) (hw:∀ x ∈ who,aj x) (hl:sh.length = who.length) (h40:who.length ≤ 40) (hs:∀ x ∈ sh,0 ≤ x ∧ x ≤ t) (hsum:ar id sh = t):dj (j6 payer cash t who sh):=by
 have hlen:=mV (cash:=cash) (who:=who) (sh:=sh) (i:=who.length) (by omega)
 refine ⟨⟨by show (pyL cash who sh who.length).length + 1 ≤ 160;omega,fun x hx => ?_⟩,fun x hx => ?_⟩
 ·rcases List.mem_cons.1 hx with rfl | hx
  ·exact ⟨hp,hc,by show -1000000000000000 ≤ -t ∧ -t ≤ 1000000000000000;omega⟩
  ·obtain ⟨k,hk,rfl⟩:=zC (by omega) hx
   have h2:=hs _ (ax (l:=sh) (i:=k) (by omega))
   exact ⟨hw _ (ax hk),hc,by show -1000000000000000 ≤ rd sh k ∧ rd sh k ≤ 1000000000000000;omega⟩
 ·have e:=vb (cash:=cash) (c:=x.Instr) (who:=who) (sh:=sh) who.length (by omega)
  rw [aY (by omega),hsum] at e
  rw [cd,bY,e]
  unfold iE
  dsimp only
  split <;> omega
theorem rM {ba:List Account} {bb:List Bal} {p:Int} (ha:aL ba):∀ x ∈ who ba bb p,aj x:=fun x hx => by
 unfold who at hx
 obtain ⟨a,h1,rfl⟩:=List.mem_map.1 hx
 obtain ⟨i,hi,rfl⟩:=bL (flt_mem.1 h1).1
 exact (ha.1 i hi.1 hi.2).1
theorem mS {b:Books} {p t:Int} (h:cN b p) (hw:0 < ((who b.Accounts b.Bals p).length:Int)) (ht:inP t 0 1000000000000000):shareable t (ao b.Accounts b.Bals p):=by
 have hr:=sW (ba:=b.Accounts) (p:=p) h.1.bals
 have hl:=hG b.Accounts b.Bals p
 have h1:=iO b.Accounts b.Bals p
 have h2:=h.1.acc.2
 have hm:rd (ao b.Accounts b.Bals p) 0 ∈ ao b.Accounts b.Bals p:=ax ⟨Int.le_refl 0,by omega⟩
 have h3:=(hr _ hm).1
 have h4:=lp (fun x hx => Int.le_of_lt (hr x hx).1) hm
 have h5:=h.2
 unfold ak inP at h5
 exact ⟨⟨⟨by omega,by omega⟩,fun x hx => ⟨Int.le_of_lt (hr x hx).1,(hr x hx).2⟩,⟨by omega,h5.2⟩⟩,ht⟩
end
section
open Go.RowKit
noncomputable def bI (b:Books) (pa ca py t:Int):Books × Int × Int :=
 sel (¬ (BooksOk b ∧ aj pa ∧ aj ca ∧ aj py ∧ inP t 0 1000000000000000)) (⟨[],[],[],[],[],0⟩,0,1)
 (sel (ab b.Instrs pa = 0 ∨ ab b.Instrs ca = 0 ∨ a9 b.Accounts py = 0) (b,0,3)
 (sel (ab b.Instrs pa ≠ 2 ∨ ab b.Instrs ca ≠ 1 ∨ a9 b.Accounts py ≠ 2) (b,0,4)
 (sel (¬ cN b pa) (b,0,8)
 (sel (¬ 0 < ((who b.Accounts b.Bals pa).length:Int)) (b,0,5)
 (sel (¬ (poR b (j6 py ca t (who b.Accounts b.Bals pa) (shs t (ao b.Accounts b.Bals pa)))).2 = 0) (b,0,cX (poR b (j6 py ca t (who b.Accounts b.Bals pa) (shs t (ao b.Accounts b.Bals pa)))).2)
 (⟨b.Accounts,b.Instrs,(poR b (j6 py ca t (who b.Accounts b.Bals pa) (shs t (ao b.Accounts b.Bals pa)))).1,b.Lots,b.Trades,b.Lot⟩,((who b.Accounts b.Bals pa).length:Int),0))))))
theorem jE {b:Books} {pa ca py t:Int}  (c0:¬ (BooksOk b ∧ aj pa ∧ aj ca ∧ aj py ∧ inP t 0 1000000000000000)):bI b pa ca py t = (⟨[],[],[],[],[],0⟩,0,1):=by
 rw [bI,ap c0]
theorem jF {b:Books} {pa ca py t:Int} (c0:¬ (¬ (BooksOk b ∧ aj pa ∧ aj ca ∧ aj py ∧ inP t 0 1000000000000000))) (c1:ab b.Instrs pa = 0 ∨ ab b.Instrs ca = 0 ∨ a9 b.Accounts py = 0):bI b pa ca py t = (b,0,3):=by
 rw [bI,a8 c0,ap c1]
theorem jG {b:Books} {pa ca py t:Int} (c0:¬ (¬ (BooksOk b ∧ aj pa ∧ aj ca ∧ aj py ∧ inP t 0 1000000000000000))) (c1:¬ (ab b.Instrs pa = 0 ∨ ab b.Instrs ca = 0 ∨ a9 b.Accounts py = 0)) (c2:ab b.Instrs pa ≠ 2 ∨ ab b.Instrs ca ≠ 1 ∨ a9 b.Accounts py ≠ 2):bI b pa ca py t = (b,0,4):=by
 rw [bI,a8 c0,a8 c1,ap c2]
theorem pE {b:Books} {pa ca py t:Int} (c0:¬ (¬ (BooksOk b ∧ aj pa ∧ aj ca ∧ aj py ∧ inP t 0 1000000000000000))) (c1:¬ (ab b.Instrs pa = 0 ∨ ab b.Instrs ca = 0 ∨ a9 b.Accounts py = 0)) (c2:¬ (ab b.Instrs pa ≠ 2 ∨ ab b.Instrs ca ≠ 1 ∨ a9 b.Accounts py ≠ 2)) (c3:¬ cN b pa):bI b pa ca py t = (b,0,8):=by
 rw [bI,a8 c0,a8 c1,a8 c2,ap c3]
theorem pF {b:Books} {pa ca py t:Int} (c0:¬ (¬ (BooksOk b ∧ aj pa ∧ aj ca ∧ aj py ∧ inP t 0 1000000000000000))) (c1:¬ (ab b.Instrs pa = 0 ∨ ab b.Instrs ca = 0 ∨ a9 b.Accounts py = 0)) (c2:¬ (ab b.Instrs pa ≠ 2 ∨ ab b.Instrs ca ≠ 1 ∨ a9 b.Accounts py ≠ 2)) (c3:¬ (¬ cN b pa)) (c4:¬ 0 < ((who b.Accounts b.Bals pa).length:Int)):bI b pa ca py t = (b,0,5):=by
 rw [bI,a8 c0,a8 c1,a8 c2,a8 c3,ap c4]
theorem pG {b:Books} {pa ca py t:Int} (c0:¬ (¬ (BooksOk b ∧ aj pa ∧ aj ca ∧ aj py ∧ inP t 0 1000000000000000))) (c1:¬ (ab b.Instrs pa = 0 ∨ ab b.Instrs ca = 0 ∨ a9 b.Accounts py = 0)) (c2:¬ (ab b.Instrs pa ≠ 2 ∨ ab b.Instrs ca ≠ 1 ∨ a9 b.Accounts py ≠ 2)) (c3:¬ (¬ cN b pa)) (c4:¬ (¬ 0 < ((who b.Accounts b.Bals pa).length:Int))) (c5:¬ (poR b (j6 py ca t (who b.Accounts b.Bals pa) (shs t (ao b.Accounts b.Bals pa)))).2 = 0):bI b pa ca py t = (b,0,cX (poR b (j6 py ca t (who b.Accounts b.Bals pa) (shs t (ao b.Accounts b.Bals pa)))).2):=by
 rw [bI,a8 c0,a8 c1,a8 c2,a8 c3,a8 c4,ap c5]
theorem pH {b:Books} {pa ca py t:Int} (c0:¬ (¬ (BooksOk b ∧ aj pa ∧ aj ca ∧ aj py ∧ inP t 0 1000000000000000))) (c1:¬ (ab b.Instrs pa = 0 ∨ ab b.Instrs ca = 0 ∨ a9 b.Accounts py = 0)) (c2:¬ (ab b.Instrs pa ≠ 2 ∨ ab b.Instrs ca ≠ 1 ∨ a9 b.Accounts py ≠ 2)) (c3:¬ (¬ cN b pa)) (c4:¬ (¬ 0 < ((who b.Accounts b.Bals pa).length:Int))) (c5:¬ (¬ (poR b (j6 py ca t (who b.Accounts b.Bals pa) (shs t (ao b.Accounts b.Bals pa)))).2 = 0)):bI b pa ca py t = (⟨b.Accounts,b.Instrs,(poR b (j6 py ca t (who b.Accounts b.Bals pa) (shs t (ao b.Accounts b.Bals pa)))).1,b.Lots,b.Trades,b.Lot⟩,((who b.Accounts b.Bals pa).length:Int),0):=by
 rw [bI,a8 c0,a8 c1,a8 c2,a8 c3,a8 c4,a8 c5]
theorem qF {ba:List Account} {bi:List Instr} {bb:List Bal} {bl:List Lot} {bt:List Trade} {bn:Int} {pa ca py t:Int}:FC Tryz.prog 59 [bkV 0 ⟨ba,bi,bb,bl,bt,bn⟩,I pa,I ca,I py,I t] (bkR ⟨ba,bi,bb,bl,bt,bn⟩) (.tup [bkE 5 (bI ⟨ba,bi,bb,bl,bt,bn⟩ pa ca py t).1,I (bI ⟨ba,bi,bb,bl,bt,bn⟩ pa ca py t).2.1,I (bI ⟨ba,bi,bb,bl,bt,bn⟩ pa ca py t).2.2]) (bkR ⟨ba,bi,bb,bl,bt,bn⟩ ++ bkW (bI ⟨ba,bi,bb,bl,bt,bn⟩ pa ca py t).1):=by
 refine al tk 130 [.cell 10 _,.tmp 11,.tmp 12] Tryz.func59 (by kernel_rfl) rfl rfl rfl rfl rfl rfl rfl ?_
 by_cases hok:BooksOk ⟨ba,bi,bb,bl,bt,bn⟩
 rotate_left
 ·
  rw [jE (b:=⟨ba,bi,bb,bl,bt,bn⟩) (fun h => hok h.1)]
  repeat' (first
| intro h9;exfalso;contradiction
| apply ah (d:=40) 0 42 2;rfl;rfl;rfl;rfl;rfl
| apply ah (d:=40) 1 74 2;rfl;rfl;rfl;rfl;rfl
| apply ah (d:=40) 2 135 3;rfl;rfl;rfl;rfl;rfl
| apply ah (d:=40) 3 137 5;rfl;rfl;rfl;rfl;rfl
| apply ah (d:=40) 4 103 8;rfl;rfl;rfl;rfl;rfl
| apply yd;rfl
| intro _
| refine nv ?_
| apply wct rfl
| apply ycp;rfl;exact aw;rfl
| fail)
  all_goals (exact ai [0,1,2,3,4,7,8,9,10,11] rfl rfl rfl rfl rfl rfl)
 by_cases hta:aj pa ∧ aj ca ∧ aj py ∧ inP t 0 1000000000000000
 rotate_left
 ·
  rw [jE (b:=⟨ba,bi,bb,bl,bt,bn⟩) (fun h => hta h.2)]
  repeat' (first
| intro h9;exfalso;contradiction
| intro h9;refine absurd ⟨?_,?_,?_,?_⟩ hta;exact (show ∀ x ∈ [pa,ca,py],aj x by assumption) _ (.head _);exact (show ∀ x ∈ [pa,ca,py],aj x by assumption) _ (.tail _ (.head _));exact (show ∀ x ∈ [pa,ca,py],aj x by assumption) _ (.tail _ (.tail _ (.head _)));assumption
| apply ah (d:=40) 0 42 2;rfl;rfl;rfl;rfl;rfl
| apply ah (d:=40) 1 74 2;rfl;rfl;rfl;rfl;rfl
| apply ah (d:=40) 2 135 3;rfl;rfl;rfl;rfl;rfl
| apply ah (d:=40) 3 137 5;rfl;rfl;rfl;rfl;rfl
| apply ah (d:=40) 4 103 8;rfl;rfl;rfl;rfl;rfl
| apply yd;rfl
| intro _
| refine nv ?_
| apply wct rfl
| apply aG (α:=Int) (e:=3);rfl
| apply ycp;rfl;(first | exact aw | exact bE | exact aJ);rfl
| fail)
  all_goals (exact ai [0,1,2,3,4,8,9,10,11,12] rfl rfl rfl rfl rfl rfl)
 have hA:=hok.acc
 have hI:=hok.ins
 have hal:=hA.2
 obtain ⟨k1,k2,k3,k4⟩:=id hta
 have hno:∀ x ∈ [pa,ca,py],aj x:=fun x hx => by simp only [List.mem_cons,List.not_mem_nil,or_false] at hx;rcases hx with rfl | rfl | rfl <;> assumption
 dsimp only at hA hI hal
 have c0:¬ ¬ (BooksOk ⟨ba,bi,bb,bl,bt,bn⟩ ∧ aj pa ∧ aj ca ∧ aj py ∧ inP t 0 1000000000000000):=fun k => k ⟨hok,hta⟩
 by_cases hh:cN ⟨ba,bi,bb,bl,bt,bn⟩ pa ∧ 0 < ((who ba bb pa).length:Int)
 rotate_left
 ·
  have hnn:([]:List Int).length = 0:=rfl
  repeat' (first
| intro h9;exfalso;contradiction
| apply yds;rfl
| apply yd;rfl
| intro _
| refine nv ?_
| apply wct rfl
| apply wcf rfl
| apply ag;rfl
| apply yne;rfl
| apply aG (α:=Int) (e:=3);rfl
| apply ycp;rfl;(first | exact aw | exact bE | exact aJ | exact aZ);rfl
| apply ycf;rfl;(exact aH (by exact BooksOk.midB (by assumption)));rfl
| apply j9;(iterate 10 rfl);exact gX;(iterate 8 rfl)
| apply yc;rfl;(first | exact bG | exact bH);rfl;exact fun _ => rfl
| fail)
  all_goals first | (exfalso;exact hh ⟨by assumption,by omega⟩) | skip
  all_goals first
   | (rw [jF (b:=⟨ba,bi,bb,bl,bt,bn⟩) c0 (by dsimp only;omega)]
      first | exact ai [0,1,2,3,4,8,9,10,11,12] rfl rfl rfl rfl rfl rfl)
   | (rw [jG (b:=⟨ba,bi,bb,bl,bt,bn⟩) c0 (by dsimp only;omega) (by dsimp only;omega)]
      first | exact ai [0,1,2,3,4,8,9,10,11,12] rfl rfl rfl rfl rfl rfl)
   | (rw [pE (b:=⟨ba,bi,bb,bl,bt,bn⟩) c0 (by dsimp only;omega) (by dsimp only;omega) (by assumption)]
      first | exact ai [0,1,2,3,4,8,9,10,11,12] rfl rfl rfl rfl rfl rfl)
   | (rw [pF (b:=⟨ba,bi,bb,bl,bt,bn⟩) c0 (by dsimp only;omega) (by dsimp only;omega) (fun k => k (by assumption)) (by dsimp only;omega)]
      first | exact ai [0,1,2,3,4,8,9,10,11,12] rfl rfl rfl rfl rfl rfl)
   | trace_state
 obtain ⟨hhe,hwl⟩:=hh
 have hsh:=mS (t:=t) hhe hwl k4
 dsimp only at hsh
 have hwn:=rM (bb:=bb) (p:=pa) hA
 have hwm:=hG ba bb pa
 have hsl:=gB t (ao ba bb pa)
 have hwb:=iO ba bb pa
 have hsb:=rC hsh
 have hlg:=v7 (payer:=py) (cash:=ca) k3 k2 k4 hwn (by omega) (by omega) hsb (lh hsh)
 have hpc:=db hok hlg
 have hpn:=iV (pN ba bb (j6 py ca t (who ba bb pa) (shs t (ao ba bb pa))))
 have hsn:=js (pN ba bb (j6 py ca t (who ba bb pa) (shs t (ao ba bb pa))))
 have htb:0 ≤ t ∧ t ≤ 1000000000000000:=k4
 repeat' (first
| intro h9;exfalso;first | contradiction | omega
| apply yds;rfl
| apply yd;rfl
| intro _
| refine nv ?_
| apply wct rfl
| apply wcf rfl
| apply ag;rfl
| apply yne;rfl
| apply tx;rfl;rfl;omega;rfl;rfl
| apply aG (α:=Int) (e:=3);rfl
| apply aG (α:=Leg) (e:=46);rfl
| apply ycp;rfl;(first | exact aw | exact bE | exact aJ | exact aZ);rfl
| apply ycf;rfl;(first | exact aH (by exact BooksOk.midB (by assumption)) | exact jh (by assumption));rfl
| apply j9;(iterate 10 rfl);exact gX;(iterate 8 rfl)
| apply yc;rfl;(first | exact bG | exact bH);rfl;exact fun _ => rfl
| fail)
 all_goals first
  | (rw [jF (b:=⟨ba,bi,bb,bl,bt,bn⟩) c0 (by dsimp only;omega)]
     (first | exact ai [0,1,2,3,4,8,9,10,11,12] rfl rfl rfl rfl rfl rfl))
  | (rw [jG (b:=⟨ba,bi,bb,bl,bt,bn⟩) c0 (by dsimp only;omega) (by dsimp only;omega)]
     (first | exact ai [0,1,2,3,4,8,9,10,11,12] rfl rfl rfl rfl rfl rfl))
  | (exfalso;first | contradiction | omega)
  | skip
 refine wlp (X:=Int × List Leg) [2,5,10,13,14,18,102,103] [0,1,2,3,4,5,6,7,8,9,10,11,12,13,14,15,16,17] (fun x => [(104,I x.1),(20,.c (.row 17 0 x.2.length))]) (fun x => [(17,ow 46 x.2)]) (fun x => (0 ≤ x.1 ∧ x.1 ≤ (who ba bb pa).length) ∧ x.2 = ⟨py,ca,-t⟩ :: pyL ca (who ba bb pa) (shs t (ao ba bb pa)) x.1) (fun x => ((who ba bb pa).length - x.1).toNat) (0,[⟨py,ca,-t⟩]) ⟨by dsimp only;omega,rfl⟩ rfl rfl (fun _ => rfl) (fun _ => rfl) ⟨rfl,rfl,rfl,rfl,rfl,rfl,rfl,rfl⟩ (fun x hx => ?_)
 obtain ⟨i,u⟩:=x
 obtain ⟨h0,hu⟩:=hx
 dsimp only at h0 hu ⊢
 have hpl:=mV (cash:=ca) (who:=(who ba bb pa)) (sh:=(shs t (ao ba bb pa))) h0.1
 have hul:(u.length:Int) = i + 1:=by rw [hu,List.length_cons];omega
 by_cases hil:i < (who ba bb pa).length
 ·
  have hu2:u ++ [⟨rd (who ba bb pa) i,ca,rd (shs t (ao ba bb pa)) i⟩] = ⟨py,ca,-t⟩ :: pyL ca (who ba bb pa) (shs t (ao ba bb pa)) (i + 1):=by rw [hu,od h0.1];rfl
  repeat' (first
| intro h9;exfalso;contradiction
| apply yds;rfl
| apply yd;rfl
| intro _
| refine nv ?_
| apply wct rfl
| apply ag;rfl
| apply yar;rfl;omega
| apply yix;rfl;omega
| apply yle;rfl;omega
| apply aG (α:=Leg) (e:=46);rfl
| apply yap;rfl;(((try simp only [lE,lM]);(try dsimp only);omega))
| fail)
  all_goals first
   | exact aA (i + 1,u ++ [⟨rd (who ba bb pa) i,ca,rd (shs t (ao ba bb pa)) i⟩]) [0,1,2,3,4,5,6,7,8,9,10,11,12,13,14,15,16,19] ⟨rfl,rfl,rfl,rfl,rfl,rfl,rfl,rfl⟩ ⟨by dsimp only;omega,hu2⟩ (by first | omega | (dsimp only;omega))
   | (exfalso;omega)
   | trace_state
 have hug:u = j6 py ca t (who ba bb pa) (shs t (ao ba bb pa)):=by rw [hu,show i = ((who ba bb pa).length:Int) from by omega]
 subst hug
 have c1:¬ (ab (⟨ba,bi,bb,bl,bt,bn⟩:Books).Instrs pa = 0 ∨ ab (⟨ba,bi,bb,bl,bt,bn⟩:Books).Instrs ca = 0 ∨ a9 (⟨ba,bi,bb,bl,bt,bn⟩:Books).Accounts py = 0):=by dsimp only;omega
 have c2:¬ (ab (⟨ba,bi,bb,bl,bt,bn⟩:Books).Instrs pa ≠ 2 ∨ ab (⟨ba,bi,bb,bl,bt,bn⟩:Books).Instrs ca ≠ 1 ∨ a9 (⟨ba,bi,bb,bl,bt,bn⟩:Books).Accounts py ≠ 2):=by dsimp only;omega
 repeat' (first
| intro h9;exfalso;first | contradiction | omega
| apply yds;rfl
| apply yd;rfl
| intro _
| refine nv ?_
| apply wct rfl
| apply wcf rfl
| apply ae rfl
| apply ag;rfl
| apply yne;rfl
| apply ycf;rfl;(exact aH (by exact BooksOk.midB (by assumption)));rfl
| apply gc  [true,true,true,true,true,true,true];(iterate 10 rfl);exact cS (by omega);(iterate 6 rfl)
| fail)
 all_goals first
  | (exfalso;omega)
  | (have c5:pN ba bb (j6 py ca t (who ba bb pa) (shs t (ao ba bb pa))) = 0:=by assumption
     rw [pH (b:=⟨ba,bi,bb,bl,bt,bn⟩) c0 c1 c2 (fun k => k hhe) (fun k => k hwl) (fun k => k c5)]
     first | exact ai [0,1,2,3,4,8,9,18,11,12] rfl rfl rfl rfl rfl rfl)
  | (have c5:¬ pN ba bb (j6 py ca t (who ba bb pa) (shs t (ao ba bb pa))) = 0:=by assumption
     rw [pG (b:=⟨ba,bi,bb,bl,bt,bn⟩) c0 c1 c2 (fun k => k hhe) (fun k => k hwl) c5]
     first | exact ai [0,1,2,3,4,18,19,20,21,22] rfl rfl rfl rfl rfl rfl)
  | trace_state
theorem rJ {ba:List Account} {bi:List Instr} {bb:List Bal} {bl:List Lot} {bt:List Trade} {bn:Int} {pa ca py t:Int}:FC Tryz.prog 60 [bkV 0 ⟨ba,bi,bb,bl,bt,bn⟩,I pa,I ca,I py,I t] (bkR ⟨ba,bi,bb,bl,bt,bn⟩) (.tup [bkE 5 (bI ⟨ba,bi,bb,bl,bt,bn⟩ pa ca py t).1,I (bI ⟨ba,bi,bb,bl,bt,bn⟩ pa ca py t).2.1,I (bI ⟨ba,bi,bb,bl,bt,bn⟩ pa ca py t).2.2]) (bkR ⟨ba,bi,bb,bl,bt,bn⟩ ++ bkW (bI ⟨ba,bi,bb,bl,bt,bn⟩ pa ca py t).1):=by
 refine al tk 153 [.cell 10 _,.tmp 11,.tmp 12] Tryz.func60 (by kernel_rfl) rfl rfl rfl rfl rfl rfl rfl ?_
 by_cases hok:BooksOk ⟨ba,bi,bb,bl,bt,bn⟩
 rotate_left
 ·
  rw [jE (b:=⟨ba,bi,bb,bl,bt,bn⟩) (fun h => hok h.1)]
  repeat' (first
| intro h9;exfalso;contradiction
| apply ah (d:=49) 0 42 2;rfl;rfl;rfl;rfl;rfl
| apply ah (d:=49) 1 74 2;rfl;rfl;rfl;rfl;rfl
| apply ah (d:=49) 2 135 3;rfl;rfl;rfl;rfl;rfl
| apply ah (d:=49) 3 137 5;rfl;rfl;rfl;rfl;rfl
| apply ah (d:=49) 4 103 8;rfl;rfl;rfl;rfl;rfl
| apply yd;rfl
| intro _
| refine nv ?_
| apply wct rfl
| apply ycp;rfl;exact aq;rfl
| fail)
  all_goals (exact ai [0,1,2,3,4,7,8,9,10,11] rfl rfl rfl rfl rfl rfl)
 by_cases hta:aj pa ∧ aj ca ∧ aj py ∧ inP t 0 1000000000000000
 rotate_left
 ·
  rw [jE (b:=⟨ba,bi,bb,bl,bt,bn⟩) (fun h => hta h.2)]
  repeat' (first
| intro h9;exfalso;contradiction
| intro h9;exact absurd ⟨by assumption,by assumption,by assumption,by assumption⟩ hta
| apply ah (d:=49) 0 42 2;rfl;rfl;rfl;rfl;rfl
| apply ah (d:=49) 1 74 2;rfl;rfl;rfl;rfl;rfl
| apply ah (d:=49) 2 135 3;rfl;rfl;rfl;rfl;rfl
| apply ah (d:=49) 3 137 5;rfl;rfl;rfl;rfl;rfl
| apply ah (d:=49) 4 103 8;rfl;rfl;rfl;rfl;rfl
| apply yd;rfl
| intro _
| refine nv ?_
| apply wct rfl
| apply ycp;rfl;(first | exact aq | exact aK | exact aC);rfl
| fail)
  all_goals (exact ai [0,1,2,3,4,7,8,9,10,11] rfl rfl rfl rfl rfl rfl)
 have hA:=hok.acc
 have hI:=hok.ins
 have hal:=hA.2
 obtain ⟨k1,k2,k3,k4⟩:=id hta
 have hno:∀ x ∈ [pa,ca,py],aj x:=fun x hx => by simp only [List.mem_cons,List.not_mem_nil,or_false] at hx;rcases hx with rfl | rfl | rfl <;> assumption
 dsimp only at hA hI hal
 have c0:¬ ¬ (BooksOk ⟨ba,bi,bb,bl,bt,bn⟩ ∧ aj pa ∧ aj ca ∧ aj py ∧ inP t 0 1000000000000000):=fun k => k ⟨hok,hta⟩
 by_cases hh:cN ⟨ba,bi,bb,bl,bt,bn⟩ pa ∧ 0 < ((who ba bb pa).length:Int)
 rotate_left
 ·
  have hnn:([]:List Int).length = 0:=rfl
  repeat' (first
| intro h9;exfalso;contradiction
| apply yds;rfl
| apply yd;rfl
| intro _
| refine nv ?_
| apply wct rfl
| apply wcf rfl
| apply ag;rfl
| apply yne;rfl
| refine zdq (id:=3) rfl (by kernel_rfl) [(.p,0),(.p,2),(.p,4),(.p,6),(.p,8),(.p,10),(.t,1),(.t,5),(.t,9),(.o,3),(.o,7),(.o,11),(.p,12),(.p,13),(.p,14)] [] (by kernel_rfl) rfl ?_
| apply ycp;rfl;(first | exact aq | exact aK | exact aC);rfl
| apply ycq;rfl;(first | exact aS | exact bc);rfl
| apply j9;(iterate 10 rfl);exact ij;(iterate 8 rfl)
| apply ycf;rfl;(exact aN (by exact BooksOk.midB (by assumption)));rfl
| fail)
  all_goals first | (exfalso;exact hh ⟨by assumption,by omega⟩) | skip
  all_goals first
   | (rw [jF (b:=⟨ba,bi,bb,bl,bt,bn⟩) c0 (by dsimp only;omega)]
      first | exact ai [0,1,2,3,4,9,10,11,12,13] rfl rfl rfl rfl rfl rfl)
   | (rw [jG (b:=⟨ba,bi,bb,bl,bt,bn⟩) c0 (by dsimp only;omega) (by dsimp only;omega)]
      first | exact ai [0,1,2,3,4,9,10,11,12,13] rfl rfl rfl rfl rfl rfl)
   | (rw [pE (b:=⟨ba,bi,bb,bl,bt,bn⟩) c0 (by dsimp only;omega) (by dsimp only;omega) (by assumption)]
      first | exact ai [0,1,2,3,4,9,10,11,12,13] rfl rfl rfl rfl rfl rfl)
   | (rw [pF (b:=⟨ba,bi,bb,bl,bt,bn⟩) c0 (by dsimp only;omega) (by dsimp only;omega) (fun k => k (by assumption)) (by dsimp only;omega)]
      first | exact ai [0,1,2,3,4,9,10,11,12,13] rfl rfl rfl rfl rfl rfl)
   | trace_state
 obtain ⟨hhe,hwl⟩:=hh
 have hsh:=mS (t:=t) hhe hwl k4
 dsimp only at hsh
 have hwn:=rM (bb:=bb) (p:=pa) hA
 have hwm:=hG ba bb pa
 have hsl:=gB t (ao ba bb pa)
 have hwb:=iO ba bb pa
 have hsb:=rC hsh
 have hlg:=v7 (payer:=py) (cash:=ca) k3 k2 k4 hwn (by omega) (by omega) hsb (lh hsh)
 have hpc:=db hok hlg
 have hpn:=iV (pN ba bb (j6 py ca t (who ba bb pa) (shs t (ao ba bb pa))))
 have hsn:=js (pN ba bb (j6 py ca t (who ba bb pa) (shs t (ao ba bb pa))))
 have htb:0 ≤ t ∧ t ≤ 1000000000000000:=k4
 repeat' (first
| intro h9;exfalso;first | contradiction | omega
| apply yds;rfl
| apply yd;rfl
| intro _
| refine nv ?_
| apply wct rfl
| apply wcf rfl
| apply ag;rfl
| apply yne;rfl
| apply tx;rfl;rfl;omega;rfl;rfl
| apply aG (α:=Leg) (e:=46);rfl
| refine zdq (id:=3) rfl (by kernel_rfl) [(.p,0),(.p,2),(.p,4),(.p,6),(.p,8),(.p,10),(.t,1),(.t,5),(.t,9),(.o,3),(.o,7),(.o,11),(.p,12),(.p,13),(.p,14)] [] (by kernel_rfl) rfl ?_
| apply ycp;rfl;(first | exact aq | exact aK | exact aC);rfl
| apply ycq;rfl;(first | exact aS | exact bc);rfl
| apply j9;(iterate 10 rfl);exact ij;(iterate 8 rfl)
| apply ycf;rfl;(first | exact aN (by exact BooksOk.midB (by assumption)) | exact ju (by assumption));rfl
| fail)
 all_goals first
  | (rw [jF (b:=⟨ba,bi,bb,bl,bt,bn⟩) c0 (by dsimp only;omega)]
     (first | exact ai [0,1,2,3,4,9,10,11,12,13] rfl rfl rfl rfl rfl rfl))
  | (rw [jG (b:=⟨ba,bi,bb,bl,bt,bn⟩) c0 (by dsimp only;omega) (by dsimp only;omega)]
     (first | exact ai [0,1,2,3,4,9,10,11,12,13] rfl rfl rfl rfl rfl rfl))
  | (exfalso;first | contradiction | omega)
  | skip
 refine wlp (X:=Int × List Leg) [2,5,10,16,20] [0,1,2,3,4,5,6,7,8,9,10] (fun x => [(23,I x.1),(22,.c (.row 10 0 x.2.length))]) (fun x => [(10,ow 46 x.2)]) (fun x => (0 ≤ x.1 ∧ x.1 ≤ (who ba bb pa).length) ∧ x.2 = ⟨py,ca,-t⟩ :: pyL ca (who ba bb pa) (shs t (ao ba bb pa)) x.1) (fun x => ((who ba bb pa).length - x.1).toNat) (0,[⟨py,ca,-t⟩]) ⟨by dsimp only;omega,rfl⟩ rfl rfl (fun _ => rfl) (fun _ => rfl) ⟨rfl,rfl,rfl,rfl,rfl,rfl,rfl,rfl⟩ (fun x hx => ?_)
 obtain ⟨i,u⟩:=x
 obtain ⟨h0,hu⟩:=hx
 dsimp only at h0 hu ⊢
 have hpl:=mV (cash:=ca) (who:=(who ba bb pa)) (sh:=(shs t (ao ba bb pa))) h0.1
 have hul:(u.length:Int) = i + 1:=by rw [hu,List.length_cons];omega
 by_cases hil:i < (who ba bb pa).length
 ·
  have hu2:u ++ [⟨rd (who ba bb pa) i,ca,rd (shs t (ao ba bb pa)) i⟩] = ⟨py,ca,-t⟩ :: pyL ca (who ba bb pa) (shs t (ao ba bb pa)) (i + 1):=by rw [hu,od h0.1];rfl
  repeat' (first
| intro h9;exfalso;contradiction
| apply yds;rfl
| apply yd;rfl
| intro _
| refine nv ?_
| apply wct rfl
| apply ag;rfl
| apply yar;rfl;omega
| apply yix;rfl;omega
| apply yle;rfl;omega
| apply aG (α:=Leg) (e:=46);rfl
| apply yap;rfl;(((try simp only [lE,lM]);(try dsimp only);omega))
| refine zdq (id:=18) rfl (by kernel_rfl) [(.p,0),(.p,1),(.p,2),(.p,3),(.p,5),(.p,6),(.p,7),(.p,8),(.t,4),(.t,9),(.p,10),(.o,11),(.l,12),(.p,13)] [12] (by kernel_rfl) rfl ?_
| fail)
  all_goals first
   | exact aA (i + 1,u ++ [⟨rd (who ba bb pa) i,ca,rd (shs t (ao ba bb pa)) i⟩]) [0,1,2,3,4,5,6,7,8,9,12] ⟨rfl,rfl,rfl,rfl,rfl,rfl,rfl,rfl⟩ ⟨by dsimp only;omega,hu2⟩ (by first | omega | (dsimp only;omega))
   | (exfalso;omega)
   | trace_state
 have hug:u = j6 py ca t (who ba bb pa) (shs t (ao ba bb pa)):=by rw [hu,show i = ((who ba bb pa).length:Int) from by omega]
 subst hug
 have c1:¬ (ab (⟨ba,bi,bb,bl,bt,bn⟩:Books).Instrs pa = 0 ∨ ab (⟨ba,bi,bb,bl,bt,bn⟩:Books).Instrs ca = 0 ∨ a9 (⟨ba,bi,bb,bl,bt,bn⟩:Books).Accounts py = 0):=by dsimp only;omega
 have c2:¬ (ab (⟨ba,bi,bb,bl,bt,bn⟩:Books).Instrs pa ≠ 2 ∨ ab (⟨ba,bi,bb,bl,bt,bn⟩:Books).Instrs ca ≠ 1 ∨ a9 (⟨ba,bi,bb,bl,bt,bn⟩:Books).Accounts py ≠ 2):=by dsimp only;omega
 repeat' (first
| intro h9;exfalso;first | contradiction | omega
| apply yds;rfl
| apply yd;rfl
| intro _
| refine nv ?_
| apply wct rfl
| apply wcf rfl
| apply ae rfl
| apply ag;rfl
| apply yne;rfl
| apply ycf;rfl;(exact aN (by exact BooksOk.midB (by assumption)));rfl
| apply gc  [true,true,true,true,true,false];(iterate 10 rfl);exact d7 (by omega);(iterate 6 rfl)
| fail)
 all_goals first
  | (exfalso;omega)
  | (have c5:pN ba bb (j6 py ca t (who ba bb pa) (shs t (ao ba bb pa))) = 0:=by assumption
     rw [pH (b:=⟨ba,bi,bb,bl,bt,bn⟩) c0 c1 c2 (fun k => k hhe) (fun k => k hwl) (fun k => k c5)]
     first | exact ai [0,1,2,3,4,11,12,16,14,15] rfl rfl rfl rfl rfl rfl)
  | (have c5:¬ pN ba bb (j6 py ca t (who ba bb pa) (shs t (ao ba bb pa))) = 0:=by assumption
     rw [pG (b:=⟨ba,bi,bb,bl,bt,bn⟩) c0 c1 c2 (fun k => k hhe) (fun k => k hwl) c5,← mo hpc]
     first | exact ai [0,1,2,3,4,17,18,19,20,21] rfl rfl rfl rfl rfl rfl)
  | trace_state
end
end Go.Proofs.YtgehbhkfehmdkaaGreat.Sh
