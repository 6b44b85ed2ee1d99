/- What is paid: legs. No condition. -/
import Derived.Test.YtgehbhkfehmdkaaGreatKFxShV
import Derived.Test.YtgehbhkfehmdkaaGreatKFxShWe
import Derived.Test.YtgehbhkfehmdkaaGreatKFxShHe
import Derived.Test.YtgehbhkfehmdkaaGreatKFxShFx
set_option maxRecDepth 100000
set_option maxHeartbeats 40000000
set_option linter.unusedSimpArgs false
set_option linter.unusedVariables false
namespace Go.Proofs.YtgehbhkfehmdkaaGreat.Sh
section
open Go.RowKit
theorem rO:∀ (l:List Int) (k:Nat) (x:Int),k < l.length → ak id (l.set k x) = ak id l - l.getD k 0 + x
 | [],_,_,h => absurd h (Nat.not_lt_zero _)
 | a :: l,0,x,_ => by
   rw [List.set_cons_zero,bp,bp,List.getD_cons_zero]
   simp only [id]
   omega
 | a :: l,k + 1,x,h => by
   have ih:=rO l k x (by simpa using h)
   rw [List.set_cons_succ,bp,bp,List.getD_cons_succ,ih]
   simp only [id]
   omega
theorem y7 {l:List Int} {i:Int} (h:0 ≤ i ∧ i < l.length):rd l i = l.getD i.toNat 0:=by
 unfold rd
 rw [List.getD_eq_getElem?_getD,List.getD_eq_getElem?_getD,List.getElem?_eq_getElem (by omega:i.toNat < l.length)]
 rfl
theorem vP {o:List Int} {i:Int} (h:0 ≤ i ∧ i < o.length):ak id (inc o i) = ak id o + 1:=by
 unfold inc upd
 rw [rO _ _ _ (by omega),y7 h]
 omega
theorem oM {t:Int} {ws:List Int}:∀ k:Nat,(k:Int) ≤ ws.length → ak id (gU t ws k) = ak id (er t ws) + k
 | 0,_ => by show ak id (er t ws) = _;omega
 | k + 1,hk => by
   have ih:=oM (t:=t) (ws:=ws) k (by omega)
   have hr:=js (t:=t) (ws:=ws) (k:=k) ⟨by omega,by omega⟩
   have e:((k + 1:Nat):Int) = (k:Int) + 1:=by omega
   have e2:gU t ws ((k:Int) + 1) = inc (gU t ws k) (rd (fa t ws) k):=jo ⟨by omega,by omega⟩
   rw [e,e2,vP (by rw [gp];exact hr),ih]
   omega
theorem nq {t:Int} {ws:List Int} (h:shareable t ws):ak id (shs t ws) = t:=by
 have hm:=h.more
 have e:=oM (t:=t) (ws:=ws) (cR t ws).toNat (by omega)
 rw [show (((cR t ws).toNat:Nat):Int) = cR t ws from by omega] at e
 have e2:gU t ws (cR t ws) = shs t ws:=rfl
 rw [e2] at e
 have e3:cR t ws = t - ak id (er t ws):=rfl
 omega
theorem vc {t:Int} {ws:List Int} (h:shareable t ws):∀ x ∈ shs t ws,0 ≤ x:=fun x hx => by
 obtain ⟨j,hj,rfl⟩:=bj hx
 rw [kv] at hj
 have hm:=h.more
 have:=mX h (cR t ws).toNat (by omega) j hj.1 hj.2
 rw [show (((cR t ws).toNat:Nat):Int) = cR t ws from by omega] at this
 exact this.1
theorem vb {t:Int} {ws:List Int} (h:shareable t ws):∀ x ∈ shs t ws,0 ≤ x ∧ x ≤ t:=fun x hx => ⟨vc h x hx,by have:=j8 (vc h) hx;rw [nq h] at this;exact this⟩
def pyL (cash:Int) (who sh:List Int) (i:Int):List Leg:=mkl i.toNat (fun k => ⟨rd who k,cash,rd sh k⟩)
theorem nh {cash i:Int} {who sh:List Int} (h:0 ≤ i):((pyL cash who sh i).length:Int) = i:=by rw [pyL,gP];omega
theorem pe {cash i:Int} {who sh:List Int} (h:0 ≤ i):pyL cash who sh (i + 1) = pyL cash who sh i ++ [⟨rd who i,cash,rd sh i⟩]:=iU h
theorem rF {cash c:Int} {who sh:List Int}:∀ k:Nat,(k:Int) ≤ sh.length → ak (eR c) (pyL cash who sh k) = if cash = c then ak id (pf sh k) else 0
 | 0,_ => by show (0:Int) = if cash = c then (0:Int) else 0;split <;> rfl
 | k + 1,hk => by
   have ih:=rF (cash:=cash) (c:=c) (who:=who) (sh:=sh) k (by omega)
   have e:((k + 1:Nat):Int) = (k:Int) + 1:=by omega
   rw [e,pe (by omega),bh,cZ,ih,cq ⟨by omega,by omega⟩]
   unfold eR
   simp only [id]
   split <;> omega
theorem wa {cash i:Int} {who sh:List Int} {x:Leg} (h0:0 ≤ i) (h:x ∈ pyL cash who sh i):∃ k:Int,(0 ≤ k ∧ k < i) ∧ x = ⟨rd who k,cash,rd sh k⟩:=by
 obtain ⟨k,hk,rfl⟩:=bj h
 rw [nh h0] at hk
 exact ⟨k,hk,fF (by omega)⟩
abbrev jq (payer cash t:Int) (who sh:List Int):List Leg:=⟨payer,cash,-t⟩ :: pyL cash who sh who.length
theorem wv {payer cash t:Int} {who sh:List Int} (hp:ag payer) (hc:ag cash) (ht:0 ≤ t ∧ t ≤ 1000000000000000) (hw:∀ x ∈ who,ag x) (hl:sh.length = who.length) (h40:who.length ≤ 40) (hs:∀ x ∈ sh,0 ≤ x ∧ x ≤ t) (hsum:ak id sh = t):co (jq payer cash t who sh):=by
 have hlen:=nh (cash:=cash) (who:=who) (sh:=sh) (i:=who.length) (by omega)
 refine ⟨⟨by show (pyL cash who sh who.length).length + 1 ≤ 160;omega,fun x hx => ?_⟩,fun x hx => ?_⟩
 ·rcases List.mem_cons.1 hx with rfl | hx
  ·exact ⟨hp,hc,by show -1000000000000000 ≤ -t ∧ -t ≤ 1000000000000000;omega⟩
  ·obtain ⟨k,hk,rfl⟩:=wa (by omega) hx
   have h2:=hs _ (az (l:=sh) (i:=k) (by omega))
   exact ⟨hw _ (az hk),hc,by show -1000000000000000 ≤ rd sh k ∧ rd sh k ≤ 1000000000000000;omega⟩
 ·have e:=rF (cash:=cash) (c:=x.Instr) (who:=who) (sh:=sh) who.length (by omega)
  rw [b8 (by omega),hsum] at e
  rw [bf,bp,e]
  unfold eR
  dsimp only
  split <;> omega
theorem vr {ba:List Account} {bb:List Bal} {p:Int} (ha:aO ba):∀ x ∈ who ba bb p,ag x:=fun x hx => by
 unfold who at hx
 obtain ⟨a,h1,rfl⟩:=List.mem_map.1 hx
 obtain ⟨i,hi,rfl⟩:=bj (flt_mem.1 h1).1
 exact (ha.1 i hi.1 hi.2).1
theorem rg {b:Books} {p t:Int} (h:cF b p) (hw:0 < ((who b.Accounts b.Bals p).length:Int)) (ht:inP t 0 1000000000000000):shareable t (aq b.Accounts b.Bals p):=by
 have hr:=uE (ba:=b.Accounts) (p:=p) h.1.bals
 have hl:=l8 b.Accounts b.Bals p
 have h1:=kx b.Accounts b.Bals p
 have h2:=h.1.acc.2
 have hm:rd (aq b.Accounts b.Bals p) 0 ∈ aq b.Accounts b.Bals p:=az ⟨Int.le_refl 0,by omega⟩
 have h3:=(hr _ hm).1
 have h4:=j8 (fun x hx => Int.le_of_lt (hr x hx).1) hm
 have h5:=h.2
 unfold ai inP at h5
 exact ⟨⟨⟨by omega,by omega⟩,fun x hx => ⟨Int.le_of_lt (hr x hx).1,(hr x hx).2⟩,⟨by omega,h5.2⟩⟩,ht⟩
end
section
open Go.RowKit
noncomputable def bH (b:Books) (pa ca py t:Int):Books × Int × Int :=
 sel (¬ (BooksOk b ∧ ag pa ∧ ag ca ∧ ag py ∧ inP t 0 1000000000000000)) (⟨[],[],[],[],[],0⟩,0,1)
 (sel (aa b.Instrs pa = 0 ∨ aa b.Instrs ca = 0 ∨ a9 b.Accounts py = 0) (b,0,3)
 (sel (aa b.Instrs pa ≠ 2 ∨ aa b.Instrs ca ≠ 1 ∨ a9 b.Accounts py ≠ 2) (b,0,4)
 (sel (¬ cF b pa) (b,0,8)
 (sel (¬ 0 < ((who b.Accounts b.Bals pa).length:Int)) (b,0,5)
 (sel (¬ (poR b (jq py ca t (who b.Accounts b.Bals pa) (shs t (aq b.Accounts b.Bals pa)))).2 = 0) (b,0,cj (poR b (jq py ca t (who b.Accounts b.Bals pa) (shs t (aq b.Accounts b.Bals pa)))).2)
 (⟨b.Accounts,b.Instrs,(poR b (jq py ca t (who b.Accounts b.Bals pa) (shs t (aq b.Accounts b.Bals pa)))).1,b.Lots,b.Trades,b.Lot⟩,((who b.Accounts b.Bals pa).length:Int),0))))))
theorem m7 {b:Books} {pa ca py t:Int}  (c0:¬ (BooksOk b ∧ ag pa ∧ ag ca ∧ ag py ∧ inP t 0 1000000000000000)):bH b pa ca py t = (⟨[],[],[],[],[],0⟩,0,1):=by
 rw [bH,al c0]
theorem m8 {b:Books} {pa ca py t:Int} (c0:¬ (¬ (BooksOk b ∧ ag pa ∧ ag ca ∧ ag py ∧ inP t 0 1000000000000000))) (c1:aa b.Instrs pa = 0 ∨ aa b.Instrs ca = 0 ∨ a9 b.Accounts py = 0):bH b pa ca py t = (b,0,3):=by
 rw [bH,a8 c0,al c1]
theorem m9 {b:Books} {pa ca py t:Int} (c0:¬ (¬ (BooksOk b ∧ ag pa ∧ ag ca ∧ ag py ∧ inP t 0 1000000000000000))) (c1:¬ (aa b.Instrs pa = 0 ∨ aa b.Instrs ca = 0 ∨ a9 b.Accounts py = 0)) (c2:aa b.Instrs pa ≠ 2 ∨ aa b.Instrs ca ≠ 1 ∨ a9 b.Accounts py ≠ 2):bH b pa ca py t = (b,0,4):=by
 rw [bH,a8 c0,a8 c1,al c2]
theorem sj {b:Books} {pa ca py t:Int} (c0:¬ (¬ (BooksOk b ∧ ag pa ∧ ag ca ∧ ag py ∧ inP t 0 1000000000000000))) (c1:¬ (aa b.Instrs pa = 0 ∨ aa b.Instrs ca = 0 ∨ a9 b.Accounts py = 0)) (c2:¬ (aa b.Instrs pa ≠ 2 ∨ aa b.Instrs ca ≠ 1 ∨ a9 b.Accounts py ≠ 2)) (c3:¬ cF b pa):bH b pa ca py t = (b,0,8):=by
 rw [bH,a8 c0,a8 c1,a8 c2,al c3]
theorem sk {b:Books} {pa ca py t:Int} (c0:¬ (¬ (BooksOk b ∧ ag pa ∧ ag ca ∧ ag py ∧ inP t 0 1000000000000000))) (c1:¬ (aa b.Instrs pa = 0 ∨ aa b.Instrs ca = 0 ∨ a9 b.Accounts py = 0)) (c2:¬ (aa b.Instrs pa ≠ 2 ∨ aa b.Instrs ca ≠ 1 ∨ a9 b.Accounts py ≠ 2)) (c3:¬ (¬ cF b pa)) (c4:¬ 0 < ((who b.Accounts b.Bals pa).length:Int)):bH b pa ca py t = (b,0,5):=by
 rw [bH,a8 c0,a8 c1,a8 c2,a8 c3,al c4]
theorem sn {b:Books} {pa ca py t:Int} (c0:¬ (¬ (BooksOk b ∧ ag pa ∧ ag ca ∧ ag py ∧ inP t 0 1000000000000000))) (c1:¬ (aa b.Instrs pa = 0 ∨ aa b.Instrs ca = 0 ∨ a9 b.Accounts py = 0)) (c2:¬ (aa b.Instrs pa ≠ 2 ∨ aa b.Instrs ca ≠ 1 ∨ a9 b.Accounts py ≠ 2)) (c3:¬ (¬ cF b pa)) (c4:¬ (¬ 0 < ((who b.Accounts b.Bals pa).length:Int))) (c5:¬ (poR b (jq py ca t (who b.Accounts b.Bals pa) (shs t (aq b.Accounts b.Bals pa)))).2 = 0):bH b pa ca py t = (b,0,cj (poR b (jq py ca t (who b.Accounts b.Bals pa) (shs t (aq b.Accounts b.Bals pa)))).2):=by
 rw [bH,a8 c0,a8 c1,a8 c2,a8 c3,a8 c4,al c5]
theorem sp {b:Books} {pa ca py t:Int} (c0:¬ (¬ (BooksOk b ∧ ag pa ∧ ag ca ∧ ag py ∧ inP t 0 1000000000000000))) (c1:¬ (aa b.Instrs pa = 0 ∨ aa b.Instrs ca = 0 ∨ a9 b.Accounts py = 0)) (c2:¬ (aa b.Instrs pa ≠ 2 ∨ aa b.Instrs ca ≠ 1 ∨ a9 b.Accounts py ≠ 2)) (c3:¬ (¬ cF b pa)) (c4:¬ (¬ 0 < ((who b.Accounts b.Bals pa).length:Int))) (c5:¬ (¬ (poR b (jq py ca t (who b.Accounts b.Bals pa) (shs t (aq b.Accounts b.Bals pa)))).2 = 0)):bH b pa ca py t = (⟨b.Accounts,b.Instrs,(poR b (jq py ca t (who b.Accounts b.Bals pa) (shs t (aq b.Accounts b.Bals pa)))).1,b.Lots,b.Trades,b.Lot⟩,((who b.Accounts b.Bals pa).length:Int),0):=by
 rw [bH,a8 c0,a8 c1,a8 c2,a8 c3,a8 c4,a8 c5]
theorem ny {ba:List Account} {bi:List Instr} {bb:List Bal} {bl:List Lot} {bt:List Trade} {bn:Int} {pa ca py t:Int}:FC Tryz.prog 60 [bkV 0 ⟨ba,bi,bb,bl,bt,bn⟩,I pa,I ca,I py,I t] (bkR ⟨ba,bi,bb,bl,bt,bn⟩) (.tup [bkE 5 (bH ⟨ba,bi,bb,bl,bt,bn⟩ pa ca py t).1,I (bH ⟨ba,bi,bb,bl,bt,bn⟩ pa ca py t).2.1,I (bH ⟨ba,bi,bb,bl,bt,bn⟩ pa ca py t).2.2]) (bkR ⟨ba,bi,bb,bl,bt,bn⟩ ++ bkW (bH ⟨ba,bi,bb,bl,bt,bn⟩ pa ca py t).1):=by
 refine ay tk 153 [.cell 10 _,.tmp 11,.tmp 12] Tryz.func60 (by kernel_rfl) rfl rfl rfl rfl rfl rfl rfl ?_
 by_cases hok:BooksOk ⟨ba,bi,bb,bl,bt,bn⟩
 rotate_left
 ·
  rw [m7 (b:=⟨ba,bi,bb,bl,bt,bn⟩) (fun h => hok h.1)]
  repeat' (first
| intro h9;exfalso;contradiction
| apply ap (d:=49) 0 42 2;rfl;rfl;rfl;rfl;rfl
| apply ap (d:=49) 1 74 2;rfl;rfl;rfl;rfl;rfl
| apply ap (d:=49) 2 135 3;rfl;rfl;rfl;rfl;rfl
| apply ap (d:=49) 3 137 5;rfl;rfl;rfl;rfl;rfl
| apply ap (d:=49) 4 103 8;rfl;rfl;rfl;rfl;rfl
| apply yd;rfl
| intro _
| refine nv ?_
| apply wct rfl
| apply ycp;rfl;exact ae;rfl
| fail)
  all_goals (exact au [0,1,2,3,4,7,8,9,10,11] rfl rfl rfl rfl rfl rfl)
 by_cases hta:ag pa ∧ ag ca ∧ ag py ∧ inP t 0 1000000000000000
 rotate_left
 ·
  rw [m7 (b:=⟨ba,bi,bb,bl,bt,bn⟩) (fun h => hta h.2)]
  repeat' (first
| intro h9;exfalso;contradiction
| intro h9;exact absurd ⟨by assumption,by assumption,by assumption,by assumption⟩ hta
| apply ap (d:=49) 0 42 2;rfl;rfl;rfl;rfl;rfl
| apply ap (d:=49) 1 74 2;rfl;rfl;rfl;rfl;rfl
| apply ap (d:=49) 2 135 3;rfl;rfl;rfl;rfl;rfl
| apply ap (d:=49) 3 137 5;rfl;rfl;rfl;rfl;rfl
| apply ap (d:=49) 4 103 8;rfl;rfl;rfl;rfl;rfl
| apply yd;rfl
| intro _
| refine nv ?_
| apply wct rfl
| apply ycp;rfl;(first | exact ae | exact aG | exact aA);rfl
| fail)
  all_goals (exact au [0,1,2,3,4,7,8,9,10,11] rfl rfl rfl rfl rfl rfl)
 have hA:=hok.acc
 have hI:=hok.ins
 have hal:=hA.2
 obtain ⟨k1,k2,k3,k4⟩:=id hta
 have hno:∀ x ∈ [pa,ca,py],ag x:=fun x hx => by simp only [List.mem_cons,List.not_mem_nil,or_false] at hx;rcases hx with rfl | rfl | rfl <;> assumption
 dsimp only at hA hI hal
 have c0:¬ ¬ (BooksOk ⟨ba,bi,bb,bl,bt,bn⟩ ∧ ag pa ∧ ag ca ∧ ag py ∧ inP t 0 1000000000000000):=fun k => k ⟨hok,hta⟩
 by_cases hh:cF ⟨ba,bi,bb,bl,bt,bn⟩ pa ∧ 0 < ((who ba bb pa).length:Int)
 rotate_left
 ·
  have hnn:([]:List Int).length = 0:=rfl
  repeat' (first
| intro h9;exfalso;contradiction
| apply yds;rfl
| apply yd;rfl
| intro _
| refine nv ?_
| apply wct rfl
| apply wcf rfl
| apply aj;rfl
| apply yne;rfl
| refine zdq (id:=3) rfl (by kernel_rfl) [(.p,0),(.p,2),(.p,4),(.p,6),(.p,8),(.p,10),(.t,1),(.t,5),(.t,9),(.o,3),(.o,7),(.o,11),(.p,12),(.p,13),(.p,14)] [] (by kernel_rfl) rfl ?_
| apply ycp;rfl;(first | exact ae | exact aG | exact aA);rfl
| apply ycq;rfl;(first | exact aM | exact aU);rfl
| apply ly;(iterate 10 rfl);exact fg;(iterate 8 rfl)
| apply ycf;rfl;(exact aI (by exact BooksOk.midB (by assumption)));rfl
| fail)
  all_goals first | (exfalso;exact hh ⟨by assumption,by omega⟩) | skip
  all_goals first
   | (rw [m8 (b:=⟨ba,bi,bb,bl,bt,bn⟩) c0 (by dsimp only;omega)]
      first | exact au [0,1,2,3,4,9,10,11,12,13] rfl rfl rfl rfl rfl rfl)
   | (rw [m9 (b:=⟨ba,bi,bb,bl,bt,bn⟩) c0 (by dsimp only;omega) (by dsimp only;omega)]
      first | exact au [0,1,2,3,4,9,10,11,12,13] rfl rfl rfl rfl rfl rfl)
   | (rw [sj (b:=⟨ba,bi,bb,bl,bt,bn⟩) c0 (by dsimp only;omega) (by dsimp only;omega) (by assumption)]
      first | exact au [0,1,2,3,4,9,10,11,12,13] rfl rfl rfl rfl rfl rfl)
   | (rw [sk (b:=⟨ba,bi,bb,bl,bt,bn⟩) c0 (by dsimp only;omega) (by dsimp only;omega) (fun k => k (by assumption)) (by dsimp only;omega)]
      first | exact au [0,1,2,3,4,9,10,11,12,13] rfl rfl rfl rfl rfl rfl)
   | trace_state
 obtain ⟨hhe,hwl⟩:=hh
 have hsh:=rg (t:=t) hhe hwl k4
 dsimp only at hsh
 have hwn:=vr (bb:=bb) (p:=pa) hA
 have hwm:=l8 ba bb pa
 have hsl:=kv t (aq ba bb pa)
 have hwb:=kx ba bb pa
 have hsb:=vb hsh
 have hlg:=wv (payer:=py) (cash:=ca) k3 k2 k4 hwn (by omega) (by omega) hsb (nq hsh)
 have hpc:=eh hok hlg
 have hpn:=jI (pN ba bb (jq py ca t (who ba bb pa) (shs t (aq ba bb pa))))
 have hsn:=ll (pN ba bb (jq py ca t (who ba bb pa) (shs t (aq ba bb pa))))
 have htb:0 ≤ t ∧ t ≤ 1000000000000000:=k4
 repeat' (first
| intro h9;exfalso;first | contradiction | omega
| apply yds;rfl
| apply yd;rfl
| intro _
| refine nv ?_
| apply wct rfl
| apply wcf rfl
| apply aj;rfl
| apply yne;rfl
| apply vu;rfl;rfl;omega;rfl;rfl
| apply aH (α:=Leg) (e:=46);rfl
| refine zdq (id:=3) rfl (by kernel_rfl) [(.p,0),(.p,2),(.p,4),(.p,6),(.p,8),(.p,10),(.t,1),(.t,5),(.t,9),(.o,3),(.o,7),(.o,11),(.p,12),(.p,13),(.p,14)] [] (by kernel_rfl) rfl ?_
| apply ycp;rfl;(first | exact ae | exact aG | exact aA);rfl
| apply ycq;rfl;(first | exact aM | exact aU);rfl
| apply ly;(iterate 10 rfl);exact fg;(iterate 8 rfl)
| apply ycf;rfl;(first | exact aI (by exact BooksOk.midB (by assumption)) | exact gC (by assumption));rfl
| fail)
 all_goals first
  | (rw [m8 (b:=⟨ba,bi,bb,bl,bt,bn⟩) c0 (by dsimp only;omega)]
     (first | exact au [0,1,2,3,4,9,10,11,12,13] rfl rfl rfl rfl rfl rfl))
  | (rw [m9 (b:=⟨ba,bi,bb,bl,bt,bn⟩) c0 (by dsimp only;omega) (by dsimp only;omega)]
     (first | exact au [0,1,2,3,4,9,10,11,12,13] rfl rfl rfl rfl rfl rfl))
  | (exfalso;first | contradiction | omega)
  | skip
 refine wlp (X:=Int × List Leg) [2,5,10,16,20] [0,1,2,3,4,5,6,7,8,9,10] (fun x => [(23,I x.1),(22,.c (.row 10 0 x.2.length))]) (fun x => [(10,ow 46 x.2)]) (fun x => (0 ≤ x.1 ∧ x.1 ≤ (who ba bb pa).length) ∧ x.2 = ⟨py,ca,-t⟩ :: pyL ca (who ba bb pa) (shs t (aq ba bb pa)) x.1) (fun x => ((who ba bb pa).length - x.1).toNat) (0,[⟨py,ca,-t⟩]) ⟨by dsimp only;omega,rfl⟩ rfl rfl (fun _ => rfl) (fun _ => rfl) ⟨rfl,rfl,rfl,rfl,rfl,rfl,rfl,rfl⟩ (fun x hx => ?_)
 obtain ⟨i,u⟩:=x
 obtain ⟨h0,hu⟩:=hx
 dsimp only at h0 hu ⊢
 have hpl:=nh (cash:=ca) (who:=(who ba bb pa)) (sh:=(shs t (aq ba bb pa))) h0.1
 have hul:(u.length:Int) = i + 1:=by rw [hu,List.length_cons];omega
 by_cases hil:i < (who ba bb pa).length
 ·
  have hu2:u ++ [⟨rd (who ba bb pa) i,ca,rd (shs t (aq ba bb pa)) i⟩] = ⟨py,ca,-t⟩ :: pyL ca (who ba bb pa) (shs t (aq ba bb pa)) (i + 1):=by rw [hu,pe h0.1];rfl
  repeat' (first
| intro h9;exfalso;contradiction
| apply yds;rfl
| apply yd;rfl
| intro _
| refine nv ?_
| apply wct rfl
| apply aj;rfl
| apply yar;rfl;omega
| apply yix;rfl;omega
| apply yle;rfl;omega
| apply aH (α:=Leg) (e:=46);rfl
| apply yap;rfl;(((try simp only [lE,lM]);(try dsimp only);omega))
| refine zdq (id:=18) rfl (by kernel_rfl) [(.p,0),(.p,1),(.p,2),(.p,3),(.p,5),(.p,6),(.p,7),(.p,8),(.t,4),(.t,9),(.p,10),(.o,11),(.l,12),(.p,13)] [12] (by kernel_rfl) rfl ?_
| fail)
  all_goals first
   | exact aB (i + 1,u ++ [⟨rd (who ba bb pa) i,ca,rd (shs t (aq ba bb pa)) i⟩]) [0,1,2,3,4,5,6,7,8,9,12] ⟨rfl,rfl,rfl,rfl,rfl,rfl,rfl,rfl⟩ ⟨by dsimp only;omega,hu2⟩ (by first | omega | (dsimp only;omega))
   | (exfalso;omega)
   | trace_state
 have hug:u = jq py ca t (who ba bb pa) (shs t (aq ba bb pa)):=by rw [hu,show i = ((who ba bb pa).length:Int) from by omega]
 subst hug
 have c1:¬ (aa (⟨ba,bi,bb,bl,bt,bn⟩:Books).Instrs pa = 0 ∨ aa (⟨ba,bi,bb,bl,bt,bn⟩:Books).Instrs ca = 0 ∨ a9 (⟨ba,bi,bb,bl,bt,bn⟩:Books).Accounts py = 0):=by dsimp only;omega
 have c2:¬ (aa (⟨ba,bi,bb,bl,bt,bn⟩:Books).Instrs pa ≠ 2 ∨ aa (⟨ba,bi,bb,bl,bt,bn⟩:Books).Instrs ca ≠ 1 ∨ a9 (⟨ba,bi,bb,bl,bt,bn⟩:Books).Accounts py ≠ 2):=by dsimp only;omega
 repeat' (first
| intro h9;exfalso;first | contradiction | omega
| apply yds;rfl
| apply yd;rfl
| intro _
| refine nv ?_
| apply wct rfl
| apply wcf rfl
| apply ah rfl
| apply aj;rfl
| apply yne;rfl
| apply ycf;rfl;(exact aI (by exact BooksOk.midB (by assumption)));rfl
| apply jb  [true,true,true,true,true,false];(iterate 10 rfl);exact cy (by omega);(iterate 6 rfl)
| fail)
 all_goals first
  | (exfalso;omega)
  | (have c5:pN ba bb (jq py ca t (who ba bb pa) (shs t (aq ba bb pa))) = 0:=by assumption
     rw [sp (b:=⟨ba,bi,bb,bl,bt,bn⟩) c0 c1 c2 (fun k => k hhe) (fun k => k hwl) (fun k => k c5)]
     first | exact au [0,1,2,3,4,11,12,16,14,15] rfl rfl rfl rfl rfl rfl)
  | (have c5:¬ pN ba bb (jq py ca t (who ba bb pa) (shs t (aq ba bb pa))) = 0:=by assumption
     rw [sn (b:=⟨ba,bi,bb,bl,bt,bn⟩) c0 c1 c2 (fun k => k hhe) (fun k => k hwl) c5,← jJ hpc]
     first | exact au [0,1,2,3,4,17,18,19,20,21] rfl rfl rfl rfl rfl rfl)
  | trace_state
end
end Go.Proofs.YtgehbhkfehmdkaaGreat.Sh
