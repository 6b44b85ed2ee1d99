/- What is paid: legs. No condition. -/
import Derived.Test.YtgehbhkfehmdkaaGreatKUShSu
import Derived.Test.YtgehbhkfehmdkaaGreatKUShPn
import Derived.Test.YtgehbhkfehmdkaaGreatKUShFx
import Derived.Test.YtgehbhkfehmdkaaGreatKUShV
set_option maxRecDepth 100000
set_option maxHeartbeats 40000000
set_option linter.unusedSimpArgs false
set_option linter.unusedVariables false
namespace Go.Proofs.YtgehbhkfehmdkaaGreat.Sh
section
open Go.RowKit
theorem vZ:∀ (l:List Int) (k:Nat) (x:Int),k < l.length → ao id (l.set k x) = ao id l - l.getD k 0 + x
 | [],_,_,h => absurd h (Nat.not_lt_zero _)
 | a :: l,0,x,_ => by
   rw [List.set_cons_zero,aT,aT,List.getD_cons_zero]
   simp only [id]
   omega
 | a :: l,k + 1,x,h => by
   have ih:=vZ l k x (by simpa using h)
   rw [List.set_cons_succ,aT,aT,List.getD_cons_succ,ih]
   simp only [id]
   omega
theorem BP {l:List Int} {i:Int} (h:0 ≤ i ∧ i < l.length):rd l i = l.getD i.toNat 0:=by
 unfold rd
 rw [List.getD_eq_getElem?_getD,List.getD_eq_getElem?_getD,List.getElem?_eq_getElem (by omega:i.toNat < l.length)]
 rfl
theorem zP {o:List Int} {i:Int} (h:0 ≤ i ∧ i < o.length):ao id (inc o i) = ao id o + 1:=by
 unfold inc upd
 rw [vZ _ _ _ (by omega),BP h]
 omega
theorem t4 {t:Int} {ws:List Int}:∀ k:Nat,(k:Int) ≤ ws.length → ao id (jJ t ws k) = ao id (fx t ws) + k
 | 0,_ => by show ao id (fx t ws) = _;omega
 | k + 1,hk => by
   have ih:=t4 (t:=t) (ws:=ws) k (by omega)
   have hr:=l4 (t:=t) (ws:=ws) (k:=k) ⟨by omega,by omega⟩
   have e:((k + 1:Nat):Int) = (k:Int) + 1:=by omega
   have e2:jJ t ws ((k:Int) + 1) = inc (jJ t ws k) (rd (dY t ws) k):=kR ⟨by omega,by omega⟩
   rw [e,e2,zP (by rw [iW];exact hr),ih]
   omega
theorem mE {t:Int} {ws:List Int} (h:shareable t ws):ao id (shs t ws) = t:=by
 have hm:=h.more
 have e:=t4 (t:=t) (ws:=ws) (cF t ws).toNat (by omega)
 rw [show (((cF t ws).toNat:Nat):Int) = cF t ws from by omega] at e
 have e2:jJ t ws (cF t ws) = shs t ws:=rfl
 rw [e2] at e
 have e3:cF t ws = t - ao id (fx t ws):=rfl
 omega
theorem uN {t:Int} {ws:List Int} (h:shareable t ws):∀ x ∈ shs t ws,0 ≤ x:=fun x hx => by
 obtain ⟨j,hj,rfl⟩:=bw hx
 rw [iB] at hj
 have hm:=h.more
 have:=ou h (cF t ws).toNat (by omega) j hj.1 hj.2
 rw [show (((cF t ws).toNat:Nat):Int) = cF t ws from by omega] at this
 exact this.1
theorem uM {t:Int} {ws:List Int} (h:shareable t ws):∀ x ∈ shs t ws,0 ≤ x ∧ x ≤ t:=fun x hx => ⟨uN h x hx,by have:=mM (uN h) hx;rw [mE h] at this;exact this⟩
def pyL (cash:Int) (who sh:List Int) (i:Int):List Leg:=mkl i.toNat (fun k => ⟨rd who k,cash,rd sh k⟩)
theorem oB {cash i:Int} {who sh:List Int} (h:0 ≤ i):((pyL cash who sh i).length:Int) = i:=by rw [pyL,ce];omega
theorem mB {cash i:Int} {who sh:List Int} (h:0 ≤ i):pyL cash who sh (i + 1) = pyL cash who sh i ++ [⟨rd who i,cash,rd sh i⟩]:=iY h
theorem vR {cash c:Int} {who sh:List Int}:∀ k:Nat,(k:Int) ≤ sh.length → ao (iJ c) (pyL cash who sh k) = if cash = c then ao id (pf sh k) else 0
 | 0,_ => by show (0:Int) = if cash = c then (0:Int) else 0;split <;> rfl
 | k + 1,hk => by
   have ih:=vR (cash:=cash) (c:=c) (who:=who) (sh:=sh) k (by omega)
   have e:((k + 1:Nat):Int) = (k:Int) + 1:=by omega
   rw [e,mB (by omega),bk,cT,ih,bU ⟨by omega,by omega⟩]
   unfold iJ
   simp only [id]
   split <;> omega
theorem mt {cash i:Int} {who sh:List Int} {x:Leg} (h0:0 ≤ i) (h:x ∈ pyL cash who sh i):∃ k:Int,(0 ≤ k ∧ k < i) ∧ x = ⟨rd who k,cash,rd sh k⟩:=by
 obtain ⟨k,hk,rfl⟩:=bw h
 rw [oB h0] at hk
 exact ⟨k,hk,dC (by omega)⟩
abbrev jr (payer cash t:Int) (who sh:List Int):List Leg:=⟨payer,cash,-t⟩ :: pyL cash who sh who.length
theorem vN {payer cash t:Int} {who sh:List Int} (hp:aj payer) (hc:aj cash) (ht:0 ≤ t ∧ t ≤ 1000000000000000) (hw:∀ x ∈ who,aj x) (hl:sh.length = who.length) (h40:who.length ≤ 40) (hs:∀ x ∈ sh,0 ≤ x ∧ x ≤ t) (hsum:ao id sh = t):d4 (jr payer cash t who sh):=by
 have hlen:=oB (cash:=cash) (who:=who) (sh:=sh) (i:=who.length) (by omega)
 refine ⟨⟨by show (pyL cash who sh who.length).length + 1 ≤ 160;omega,fun x hx => ?_⟩,fun x hx => ?_⟩
 ·rcases List.mem_cons.1 hx with rfl | hx
  ·exact ⟨hp,hc,by show -1000000000000000 ≤ -t ∧ -t ≤ 1000000000000000;omega⟩
  ·obtain ⟨k,hk,rfl⟩:=mt (by omega) hx
   have h2:=hs _ (aA (l:=sh) (i:=k) (by omega))
   exact ⟨hw _ (aA hk),hc,by show -1000000000000000 ≤ rd sh k ∧ rd sh k ≤ 1000000000000000;omega⟩
 ·have e:=vR (cash:=cash) (c:=x.Instr) (who:=who) (sh:=sh) who.length (by omega)
  rw [b6 (by omega),hsum] at e
  rw [bD,aT,e]
  unfold iJ
  dsimp only
  split <;> omega
theorem v3 {ba:List Account} {bb:List Bal} {p:Int} (ha:aU ba):∀ x ∈ who ba bb p,aj x:=fun x hx => by
 unfold who at hx
 obtain ⟨a,h1,rfl⟩:=List.mem_map.1 hx
 obtain ⟨i,hi,rfl⟩:=bw (flt_mem.1 h1).1
 exact (ha.1 i hi.1 hi.2).1
theorem om {b:Books} {p t:Int} (h:cy b p) (hw:0 < ((who b.Accounts b.Bals p).length:Int)) (ht:inP t 0 1000000000000000):shareable t (aw b.Accounts b.Bals p):=by
 have hr:=tl (ba:=b.Accounts) (p:=p) h.1.bals
 have hl:=fU b.Accounts b.Bals p
 have h1:=l6 b.Accounts b.Bals p
 have h2:=h.1.acc.2
 have hm:rd (aw b.Accounts b.Bals p) 0 ∈ aw b.Accounts b.Bals p:=aA ⟨Int.le_refl 0,by omega⟩
 have h3:=(hr _ hm).1
 have h4:=mM (fun x hx => Int.le_of_lt (hr x hx).1) hm
 have h5:=h.2
 unfold aq inP at h5
 exact ⟨⟨⟨by omega,by omega⟩,fun x hx => ⟨Int.le_of_lt (hr x hx).1,(hr x hx).2⟩,⟨by omega,h5.2⟩⟩,ht⟩
end
section
open Go.RowKit
noncomputable def aS (b:Books) (pa ca py t:Int):Books × Int × Int :=
 sel (¬ (BooksOk b ∧ aj pa ∧ aj ca ∧ aj py ∧ inP t 0 1000000000000000)) (⟨[],[],[],[],[],0⟩,0,1)
 (sel (aa b.Instrs pa = 0 ∨ aa b.Instrs ca = 0 ∨ a9 b.Accounts py = 0) (b,0,3)
 (sel (aa b.Instrs pa ≠ 2 ∨ aa b.Instrs ca ≠ 1 ∨ a9 b.Accounts py ≠ 2) (b,0,4)
 (sel (¬ cy b pa) (b,0,8)
 (sel (¬ 0 < ((who b.Accounts b.Bals pa).length:Int)) (b,0,5)
 (sel (¬ (poR b (jr py ca t (who b.Accounts b.Bals pa) (shs t (aw b.Accounts b.Bals pa)))).2 = 0) (b,0,cX (poR b (jr py ca t (who b.Accounts b.Bals pa) (shs t (aw b.Accounts b.Bals pa)))).2)
 (⟨b.Accounts,b.Instrs,(poR b (jr py ca t (who b.Accounts b.Bals pa) (shs t (aw b.Accounts b.Bals pa)))).1,b.Lots,b.Trades,b.Lot⟩,((who b.Accounts b.Bals pa).length:Int),0))))))
theorem iR {b:Books} {pa ca py t:Int}  (c0:¬ (BooksOk b ∧ aj pa ∧ aj ca ∧ aj py ∧ inP t 0 1000000000000000)):aS b pa ca py t = (⟨[],[],[],[],[],0⟩,0,1):=by
 rw [aS,au c0]
theorem iS {b:Books} {pa ca py t:Int} (c0:¬ (¬ (BooksOk b ∧ aj pa ∧ aj ca ∧ aj py ∧ inP t 0 1000000000000000))) (c1:aa b.Instrs pa = 0 ∨ aa b.Instrs ca = 0 ∨ a9 b.Accounts py = 0):aS b pa ca py t = (b,0,3):=by
 rw [aS,ab c0,au c1]
theorem iT {b:Books} {pa ca py t:Int} (c0:¬ (¬ (BooksOk b ∧ aj pa ∧ aj ca ∧ aj py ∧ inP t 0 1000000000000000))) (c1:¬ (aa b.Instrs pa = 0 ∨ aa b.Instrs ca = 0 ∨ a9 b.Accounts py = 0)) (c2:aa b.Instrs pa ≠ 2 ∨ aa b.Instrs ca ≠ 1 ∨ a9 b.Accounts py ≠ 2):aS b pa ca py t = (b,0,4):=by
 rw [aS,ab c0,ab c1,au c2]
theorem n8 {b:Books} {pa ca py t:Int} (c0:¬ (¬ (BooksOk b ∧ aj pa ∧ aj ca ∧ aj py ∧ inP t 0 1000000000000000))) (c1:¬ (aa b.Instrs pa = 0 ∨ aa b.Instrs ca = 0 ∨ a9 b.Accounts py = 0)) (c2:¬ (aa b.Instrs pa ≠ 2 ∨ aa b.Instrs ca ≠ 1 ∨ a9 b.Accounts py ≠ 2)) (c3:¬ cy b pa):aS b pa ca py t = (b,0,8):=by
 rw [aS,ab c0,ab c1,ab c2,au c3]
theorem n9 {b:Books} {pa ca py t:Int} (c0:¬ (¬ (BooksOk b ∧ aj pa ∧ aj ca ∧ aj py ∧ inP t 0 1000000000000000))) (c1:¬ (aa b.Instrs pa = 0 ∨ aa b.Instrs ca = 0 ∨ a9 b.Accounts py = 0)) (c2:¬ (aa b.Instrs pa ≠ 2 ∨ aa b.Instrs ca ≠ 1 ∨ a9 b.Accounts py ≠ 2)) (c3:¬ (¬ cy b pa)) (c4:¬ 0 < ((who b.Accounts b.Bals pa).length:Int)):aS b pa ca py t = (b,0,5):=by
 rw [aS,ab c0,ab c1,ab c2,ab c3,au c4]
theorem nc {b:Books} {pa ca py t:Int} (c0:¬ (¬ (BooksOk b ∧ aj pa ∧ aj ca ∧ aj py ∧ inP t 0 1000000000000000))) (c1:¬ (aa b.Instrs pa = 0 ∨ aa b.Instrs ca = 0 ∨ a9 b.Accounts py = 0)) (c2:¬ (aa b.Instrs pa ≠ 2 ∨ aa b.Instrs ca ≠ 1 ∨ a9 b.Accounts py ≠ 2)) (c3:¬ (¬ cy b pa)) (c4:¬ (¬ 0 < ((who b.Accounts b.Bals pa).length:Int))) (c5:¬ (poR b (jr py ca t (who b.Accounts b.Bals pa) (shs t (aw b.Accounts b.Bals pa)))).2 = 0):aS b pa ca py t = (b,0,cX (poR b (jr py ca t (who b.Accounts b.Bals pa) (shs t (aw b.Accounts b.Bals pa)))).2):=by
 rw [aS,ab c0,ab c1,ab c2,ab c3,ab c4,au c5]
theorem nd {b:Books} {pa ca py t:Int} (c0:¬ (¬ (BooksOk b ∧ aj pa ∧ aj ca ∧ aj py ∧ inP t 0 1000000000000000))) (c1:¬ (aa b.Instrs pa = 0 ∨ aa b.Instrs ca = 0 ∨ a9 b.Accounts py = 0)) (c2:¬ (aa b.Instrs pa ≠ 2 ∨ aa b.Instrs ca ≠ 1 ∨ a9 b.Accounts py ≠ 2)) (c3:¬ (¬ cy b pa)) (c4:¬ (¬ 0 < ((who b.Accounts b.Bals pa).length:Int))) (c5:¬ (¬ (poR b (jr py ca t (who b.Accounts b.Bals pa) (shs t (aw b.Accounts b.Bals pa)))).2 = 0)):aS b pa ca py t = (⟨b.Accounts,b.Instrs,(poR b (jr py ca t (who b.Accounts b.Bals pa) (shs t (aw b.Accounts b.Bals pa)))).1,b.Lots,b.Trades,b.Lot⟩,((who b.Accounts b.Bals pa).length:Int),0):=by
 rw [aS,ab c0,ab c1,ab c2,ab c3,ab c4,ab c5]
theorem rn {ba:List Account} {bi:List Instr} {bb:List Bal} {bl:List Lot} {bt:List Trade} {bn:Int} {pa ca py t:Int}:FC Tryz.prog 59 [bkV 0 ⟨ba,bi,bb,bl,bt,bn⟩,I pa,I ca,I py,I t] (bkR ⟨ba,bi,bb,bl,bt,bn⟩) (.tup [bkE 5 (aS ⟨ba,bi,bb,bl,bt,bn⟩ pa ca py t).1,I (aS ⟨ba,bi,bb,bl,bt,bn⟩ pa ca py t).2.1,I (aS ⟨ba,bi,bb,bl,bt,bn⟩ pa ca py t).2.2]) (bkR ⟨ba,bi,bb,bl,bt,bn⟩ ++ bkW (aS ⟨ba,bi,bb,bl,bt,bn⟩ pa ca py t).1):=by
 refine ax tk 130 [.cell 10 _,.tmp 11,.tmp 12] Tryz.func59 (by kernel_rfl) rfl rfl rfl rfl rfl rfl rfl ?_
 by_cases hok:BooksOk ⟨ba,bi,bb,bl,bt,bn⟩
 rotate_left
 ·
  rw [iR (b:=⟨ba,bi,bb,bl,bt,bn⟩) (fun h => hok h.1)]
  repeat' (first
| intro h9;exfalso;contradiction
| apply al (d:=40) 0 42 2;rfl;rfl;rfl;rfl;rfl
| apply al (d:=40) 1 74 2;rfl;rfl;rfl;rfl;rfl
| apply al (d:=40) 2 135 3;rfl;rfl;rfl;rfl;rfl
| apply al (d:=40) 3 137 5;rfl;rfl;rfl;rfl;rfl
| apply al (d:=40) 4 103 8;rfl;rfl;rfl;rfl;rfl
| apply yd;rfl
| intro _
| refine nv ?_
| apply wct rfl
| apply ycp;rfl;exact aM;rfl
| fail)
  all_goals (exact ak [0,1,2,3,4,7,8,9,10,11] rfl rfl rfl rfl rfl rfl)
 by_cases hta:aj pa ∧ aj ca ∧ aj py ∧ inP t 0 1000000000000000
 rotate_left
 ·
  rw [iR (b:=⟨ba,bi,bb,bl,bt,bn⟩) (fun h => hta h.2)]
  repeat' (first
| intro h9;exfalso;contradiction
| intro h9;refine absurd ⟨?_,?_,?_,?_⟩ hta;exact (show ∀ x ∈ [pa,ca,py],aj x by assumption) _ (.head _);exact (show ∀ x ∈ [pa,ca,py],aj x by assumption) _ (.tail _ (.head _));exact (show ∀ x ∈ [pa,ca,py],aj x by assumption) _ (.tail _ (.tail _ (.head _)));assumption
| apply al (d:=40) 0 42 2;rfl;rfl;rfl;rfl;rfl
| apply al (d:=40) 1 74 2;rfl;rfl;rfl;rfl;rfl
| apply al (d:=40) 2 135 3;rfl;rfl;rfl;rfl;rfl
| apply al (d:=40) 3 137 5;rfl;rfl;rfl;rfl;rfl
| apply al (d:=40) 4 103 8;rfl;rfl;rfl;rfl;rfl
| apply yd;rfl
| intro _
| refine nv ?_
| apply wct rfl
| apply aH (α:=Int) (e:=3);rfl
| apply ycp;rfl;(first | exact aM | exact dy | exact bm);rfl
| fail)
  all_goals (exact ak [0,1,2,3,4,8,9,10,11,12] rfl rfl rfl rfl rfl rfl)
 have hA:=hok.acc
 have hI:=hok.ins
 have hal:=hA.2
 obtain ⟨k1,k2,k3,k4⟩:=id hta
 have hno:∀ x ∈ [pa,ca,py],aj x:=fun x hx => by simp only [List.mem_cons,List.not_mem_nil,or_false] at hx;rcases hx with rfl | rfl | rfl <;> assumption
 dsimp only at hA hI hal
 have c0:¬ ¬ (BooksOk ⟨ba,bi,bb,bl,bt,bn⟩ ∧ aj pa ∧ aj ca ∧ aj py ∧ inP t 0 1000000000000000):=fun k => k ⟨hok,hta⟩
 by_cases hh:cy ⟨ba,bi,bb,bl,bt,bn⟩ pa ∧ 0 < ((who ba bb pa).length:Int)
 rotate_left
 ·
  have hnn:([]:List Int).length = 0:=rfl
  repeat' (first
| intro h9;exfalso;contradiction
| apply yds;rfl
| apply yd;rfl
| intro _
| refine nv ?_
| apply wct rfl
| apply wcf rfl
| apply ai;rfl
| apply yne;rfl
| apply aH (α:=Int) (e:=3);rfl
| apply ycp;rfl;(first | exact aM | exact dy | exact bm | exact cM);rfl
| apply ycf;rfl;(exact bG (by exact BooksOk.midB (by assumption)));rfl
| apply mT;(iterate 10 rfl);exact ng;(iterate 8 rfl)
| apply yc;rfl;(first | exact dh | exact d6);rfl;exact fun _ => rfl
| fail)
  all_goals first | (exfalso;exact hh ⟨by assumption,by omega⟩) | skip
  all_goals first
   | (rw [iS (b:=⟨ba,bi,bb,bl,bt,bn⟩) c0 (by dsimp only;omega)]
      first | exact ak [0,1,2,3,4,8,9,10,11,12] rfl rfl rfl rfl rfl rfl)
   | (rw [iT (b:=⟨ba,bi,bb,bl,bt,bn⟩) c0 (by dsimp only;omega) (by dsimp only;omega)]
      first | exact ak [0,1,2,3,4,8,9,10,11,12] rfl rfl rfl rfl rfl rfl)
   | (rw [n8 (b:=⟨ba,bi,bb,bl,bt,bn⟩) c0 (by dsimp only;omega) (by dsimp only;omega) (by assumption)]
      first | exact ak [0,1,2,3,4,8,9,10,11,12] rfl rfl rfl rfl rfl rfl)
   | (rw [n9 (b:=⟨ba,bi,bb,bl,bt,bn⟩) c0 (by dsimp only;omega) (by dsimp only;omega) (fun k => k (by assumption)) (by dsimp only;omega)]
      first | exact ak [0,1,2,3,4,8,9,10,11,12] rfl rfl rfl rfl rfl rfl)
   | trace_state
 obtain ⟨hhe,hwl⟩:=hh
 have hsh:=om (t:=t) hhe hwl k4
 dsimp only at hsh
 have hwn:=v3 (bb:=bb) (p:=pa) hA
 have hwm:=fU ba bb pa
 have hsl:=iB t (aw ba bb pa)
 have hwb:=l6 ba bb pa
 have hsb:=uM hsh
 have hlg:=vN (payer:=py) (cash:=ca) k3 k2 k4 hwn (by omega) (by omega) hsb (mE hsh)
 have hpc:=dX hok hlg
 have hpn:=ix (pN ba bb (jr py ca t (who ba bb pa) (shs t (aw ba bb pa))))
 have hsn:=lp (pN ba bb (jr py ca t (who ba bb pa) (shs t (aw ba bb pa))))
 have htb:0 ≤ t ∧ t ≤ 1000000000000000:=k4
 repeat' (first
| intro h9;exfalso;first | contradiction | omega
| apply yds;rfl
| apply yd;rfl
| intro _
| refine nv ?_
| apply wct rfl
| apply wcf rfl
| apply ai;rfl
| apply yne;rfl
| apply v4;rfl;rfl;omega;rfl;rfl
| apply aH (α:=Int) (e:=3);rfl
| apply aH (α:=Leg) (e:=46);rfl
| apply ycp;rfl;(first | exact aM | exact dy | exact bm | exact cM);rfl
| apply ycf;rfl;(first | exact bG (by exact BooksOk.midB (by assumption)) | exact sZ (by assumption));rfl
| apply mT;(iterate 10 rfl);exact ng;(iterate 8 rfl)
| apply yc;rfl;(first | exact dh | exact d6);rfl;exact fun _ => rfl
| fail)
 all_goals first
  | (rw [iS (b:=⟨ba,bi,bb,bl,bt,bn⟩) c0 (by dsimp only;omega)]
     (first | exact ak [0,1,2,3,4,8,9,10,11,12] rfl rfl rfl rfl rfl rfl))
  | (rw [iT (b:=⟨ba,bi,bb,bl,bt,bn⟩) c0 (by dsimp only;omega) (by dsimp only;omega)]
     (first | exact ak [0,1,2,3,4,8,9,10,11,12] rfl rfl rfl rfl rfl rfl))
  | (exfalso;first | contradiction | omega)
  | skip
 refine wlp (X:=Int × List Leg) [2,5,10,13,14,18,102,103] [0,1,2,3,4,5,6,7,8,9,10,11,12,13,14,15,16,17] (fun x => [(104,I x.1),(20,.c (.row 17 0 x.2.length))]) (fun x => [(17,ow 46 x.2)]) (fun x => (0 ≤ x.1 ∧ x.1 ≤ (who ba bb pa).length) ∧ x.2 = ⟨py,ca,-t⟩ :: pyL ca (who ba bb pa) (shs t (aw ba bb pa)) x.1) (fun x => ((who ba bb pa).length - x.1).toNat) (0,[⟨py,ca,-t⟩]) ⟨by dsimp only;omega,rfl⟩ rfl rfl (fun _ => rfl) (fun _ => rfl) ⟨rfl,rfl,rfl,rfl,rfl,rfl,rfl,rfl⟩ (fun x hx => ?_)
 obtain ⟨i,u⟩:=x
 obtain ⟨h0,hu⟩:=hx
 dsimp only at h0 hu ⊢
 have hpl:=oB (cash:=ca) (who:=(who ba bb pa)) (sh:=(shs t (aw ba bb pa))) h0.1
 have hul:(u.length:Int) = i + 1:=by rw [hu,List.length_cons];omega
 by_cases hil:i < (who ba bb pa).length
 ·
  have hu2:u ++ [⟨rd (who ba bb pa) i,ca,rd (shs t (aw ba bb pa)) i⟩] = ⟨py,ca,-t⟩ :: pyL ca (who ba bb pa) (shs t (aw ba bb pa)) (i + 1):=by rw [hu,mB h0.1];rfl
  repeat' (first
| intro h9;exfalso;contradiction
| apply yds;rfl
| apply yd;rfl
| intro _
| refine nv ?_
| apply wct rfl
| apply ai;rfl
| apply yar;rfl;omega
| apply yix;rfl;omega
| apply yle;rfl;omega
| apply aH (α:=Leg) (e:=46);rfl
| apply yap;rfl;(((try simp only [lE,lM]);(try dsimp only);omega))
| fail)
  all_goals first
   | exact aB (i + 1,u ++ [⟨rd (who ba bb pa) i,ca,rd (shs t (aw ba bb pa)) i⟩]) [0,1,2,3,4,5,6,7,8,9,10,11,12,13,14,15,16,19] ⟨rfl,rfl,rfl,rfl,rfl,rfl,rfl,rfl⟩ ⟨by dsimp only;omega,hu2⟩ (by first | omega | (dsimp only;omega))
   | (exfalso;omega)
   | trace_state
 have hug:u = jr py ca t (who ba bb pa) (shs t (aw ba bb pa)):=by rw [hu,show i = ((who ba bb pa).length:Int) from by omega]
 subst hug
 have c1:¬ (aa (⟨ba,bi,bb,bl,bt,bn⟩:Books).Instrs pa = 0 ∨ aa (⟨ba,bi,bb,bl,bt,bn⟩:Books).Instrs ca = 0 ∨ a9 (⟨ba,bi,bb,bl,bt,bn⟩:Books).Accounts py = 0):=by dsimp only;omega
 have c2:¬ (aa (⟨ba,bi,bb,bl,bt,bn⟩:Books).Instrs pa ≠ 2 ∨ aa (⟨ba,bi,bb,bl,bt,bn⟩:Books).Instrs ca ≠ 1 ∨ a9 (⟨ba,bi,bb,bl,bt,bn⟩:Books).Accounts py ≠ 2):=by dsimp only;omega
 repeat' (first
| intro h9;exfalso;first | contradiction | omega
| apply yds;rfl
| apply yd;rfl
| intro _
| refine nv ?_
| apply wct rfl
| apply wcf rfl
| apply ah rfl
| apply ai;rfl
| apply yne;rfl
| apply ycf;rfl;(exact bG (by exact BooksOk.midB (by assumption)));rfl
| apply jd  [true,true,true,true,true,true,true];(iterate 10 rfl);exact ef (by omega);(iterate 6 rfl)
| fail)
 all_goals first
  | (exfalso;omega)
  | (have c5:pN ba bb (jr py ca t (who ba bb pa) (shs t (aw ba bb pa))) = 0:=by assumption
     rw [nd (b:=⟨ba,bi,bb,bl,bt,bn⟩) c0 c1 c2 (fun k => k hhe) (fun k => k hwl) (fun k => k c5)]
     first | exact ak [0,1,2,3,4,8,9,18,11,12] rfl rfl rfl rfl rfl rfl)
  | (have c5:¬ pN ba bb (jr py ca t (who ba bb pa) (shs t (aw ba bb pa))) = 0:=by assumption
     rw [nc (b:=⟨ba,bi,bb,bl,bt,bn⟩) c0 c1 c2 (fun k => k hhe) (fun k => k hwl) c5]
     first | exact ak [0,1,2,3,4,18,19,20,21,22] rfl rfl rfl rfl rfl rfl)
  | trace_state
theorem mF {ba:List Account} {bi:List Instr} {bb:List Bal} {bl:List Lot} {bt:List Trade} {bn:Int} {pa ca py t:Int}:FC Tryz.prog 60 [bkV 0 ⟨ba,bi,bb,bl,bt,bn⟩,I pa,I ca,I py,I t] (bkR ⟨ba,bi,bb,bl,bt,bn⟩) (.tup [bkE 5 (aS ⟨ba,bi,bb,bl,bt,bn⟩ pa ca py t).1,I (aS ⟨ba,bi,bb,bl,bt,bn⟩ pa ca py t).2.1,I (aS ⟨ba,bi,bb,bl,bt,bn⟩ pa ca py t).2.2]) (bkR ⟨ba,bi,bb,bl,bt,bn⟩ ++ bkW (aS ⟨ba,bi,bb,bl,bt,bn⟩ pa ca py t).1):=by
 refine ax tk 153 [.cell 10 _,.tmp 11,.tmp 12] Tryz.func60 (by kernel_rfl) rfl rfl rfl rfl rfl rfl rfl ?_
 by_cases hok:BooksOk ⟨ba,bi,bb,bl,bt,bn⟩
 rotate_left
 ·
  rw [iR (b:=⟨ba,bi,bb,bl,bt,bn⟩) (fun h => hok h.1)]
  repeat' (first
| intro h9;exfalso;contradiction
| apply al (d:=49) 0 42 2;rfl;rfl;rfl;rfl;rfl
| apply al (d:=49) 1 74 2;rfl;rfl;rfl;rfl;rfl
| apply al (d:=49) 2 135 3;rfl;rfl;rfl;rfl;rfl
| apply al (d:=49) 3 137 5;rfl;rfl;rfl;rfl;rfl
| apply al (d:=49) 4 103 8;rfl;rfl;rfl;rfl;rfl
| apply yd;rfl
| intro _
| refine nv ?_
| apply wct rfl
| apply ycp;rfl;exact ap;rfl
| fail)
  all_goals (exact ak [0,1,2,3,4,7,8,9,10,11] rfl rfl rfl rfl rfl rfl)
 by_cases hta:aj pa ∧ aj ca ∧ aj py ∧ inP t 0 1000000000000000
 rotate_left
 ·
  rw [iR (b:=⟨ba,bi,bb,bl,bt,bn⟩) (fun h => hta h.2)]
  repeat' (first
| intro h9;exfalso;contradiction
| intro h9;exact absurd ⟨by assumption,by assumption,by assumption,by assumption⟩ hta
| apply al (d:=49) 0 42 2;rfl;rfl;rfl;rfl;rfl
| apply al (d:=49) 1 74 2;rfl;rfl;rfl;rfl;rfl
| apply al (d:=49) 2 135 3;rfl;rfl;rfl;rfl;rfl
| apply al (d:=49) 3 137 5;rfl;rfl;rfl;rfl;rfl
| apply al (d:=49) 4 103 8;rfl;rfl;rfl;rfl;rfl
| apply yd;rfl
| intro _
| refine nv ?_
| apply wct rfl
| apply ycp;rfl;(first | exact ap | exact aQ | exact aJ);rfl
| fail)
  all_goals (exact ak [0,1,2,3,4,7,8,9,10,11] rfl rfl rfl rfl rfl rfl)
 have hA:=hok.acc
 have hI:=hok.ins
 have hal:=hA.2
 obtain ⟨k1,k2,k3,k4⟩:=id hta
 have hno:∀ x ∈ [pa,ca,py],aj x:=fun x hx => by simp only [List.mem_cons,List.not_mem_nil,or_false] at hx;rcases hx with rfl | rfl | rfl <;> assumption
 dsimp only at hA hI hal
 have c0:¬ ¬ (BooksOk ⟨ba,bi,bb,bl,bt,bn⟩ ∧ aj pa ∧ aj ca ∧ aj py ∧ inP t 0 1000000000000000):=fun k => k ⟨hok,hta⟩
 by_cases hh:cy ⟨ba,bi,bb,bl,bt,bn⟩ pa ∧ 0 < ((who ba bb pa).length:Int)
 rotate_left
 ·
  have hnn:([]:List Int).length = 0:=rfl
  repeat' (first
| intro h9;exfalso;contradiction
| apply yds;rfl
| apply yd;rfl
| intro _
| refine nv ?_
| apply wct rfl
| apply wcf rfl
| apply ai;rfl
| apply yne;rfl
| refine zdq (id:=3) rfl (by kernel_rfl) [(.p,0),(.p,2),(.p,4),(.p,6),(.p,8),(.p,10),(.t,1),(.t,5),(.t,9),(.o,3),(.o,7),(.o,11),(.p,12),(.p,13),(.p,14)] [] (by kernel_rfl) rfl ?_
| apply ycp;rfl;(first | exact ap | exact aQ | exact aJ);rfl
| apply ycq;rfl;(first | exact aX | exact b8);rfl
| apply mT;(iterate 10 rfl);exact jb;(iterate 8 rfl)
| apply ycf;rfl;(exact aR (by exact BooksOk.midB (by assumption)));rfl
| fail)
  all_goals first | (exfalso;exact hh ⟨by assumption,by omega⟩) | skip
  all_goals first
   | (rw [iS (b:=⟨ba,bi,bb,bl,bt,bn⟩) c0 (by dsimp only;omega)]
      first | exact ak [0,1,2,3,4,9,10,11,12,13] rfl rfl rfl rfl rfl rfl)
   | (rw [iT (b:=⟨ba,bi,bb,bl,bt,bn⟩) c0 (by dsimp only;omega) (by dsimp only;omega)]
      first | exact ak [0,1,2,3,4,9,10,11,12,13] rfl rfl rfl rfl rfl rfl)
   | (rw [n8 (b:=⟨ba,bi,bb,bl,bt,bn⟩) c0 (by dsimp only;omega) (by dsimp only;omega) (by assumption)]
      first | exact ak [0,1,2,3,4,9,10,11,12,13] rfl rfl rfl rfl rfl rfl)
   | (rw [n9 (b:=⟨ba,bi,bb,bl,bt,bn⟩) c0 (by dsimp only;omega) (by dsimp only;omega) (fun k => k (by assumption)) (by dsimp only;omega)]
      first | exact ak [0,1,2,3,4,9,10,11,12,13] rfl rfl rfl rfl rfl rfl)
   | trace_state
 obtain ⟨hhe,hwl⟩:=hh
 have hsh:=om (t:=t) hhe hwl k4
 dsimp only at hsh
 have hwn:=v3 (bb:=bb) (p:=pa) hA
 have hwm:=fU ba bb pa
 have hsl:=iB t (aw ba bb pa)
 have hwb:=l6 ba bb pa
 have hsb:=uM hsh
 have hlg:=vN (payer:=py) (cash:=ca) k3 k2 k4 hwn (by omega) (by omega) hsb (mE hsh)
 have hpc:=dX hok hlg
 have hpn:=ix (pN ba bb (jr py ca t (who ba bb pa) (shs t (aw ba bb pa))))
 have hsn:=lp (pN ba bb (jr py ca t (who ba bb pa) (shs t (aw ba bb pa))))
 have htb:0 ≤ t ∧ t ≤ 1000000000000000:=k4
 repeat' (first
| intro h9;exfalso;first | contradiction | omega
| apply yds;rfl
| apply yd;rfl
| intro _
| refine nv ?_
| apply wct rfl
| apply wcf rfl
| apply ai;rfl
| apply yne;rfl
| apply v4;rfl;rfl;omega;rfl;rfl
| apply aH (α:=Leg) (e:=46);rfl
| refine zdq (id:=3) rfl (by kernel_rfl) [(.p,0),(.p,2),(.p,4),(.p,6),(.p,8),(.p,10),(.t,1),(.t,5),(.t,9),(.o,3),(.o,7),(.o,11),(.p,12),(.p,13),(.p,14)] [] (by kernel_rfl) rfl ?_
| apply ycp;rfl;(first | exact ap | exact aQ | exact aJ);rfl
| apply ycq;rfl;(first | exact aX | exact b8);rfl
| apply mT;(iterate 10 rfl);exact jb;(iterate 8 rfl)
| apply ycf;rfl;(first | exact aR (by exact BooksOk.midB (by assumption)) | exact kF (by assumption));rfl
| fail)
 all_goals first
  | (rw [iS (b:=⟨ba,bi,bb,bl,bt,bn⟩) c0 (by dsimp only;omega)]
     (first | exact ak [0,1,2,3,4,9,10,11,12,13] rfl rfl rfl rfl rfl rfl))
  | (rw [iT (b:=⟨ba,bi,bb,bl,bt,bn⟩) c0 (by dsimp only;omega) (by dsimp only;omega)]
     (first | exact ak [0,1,2,3,4,9,10,11,12,13] rfl rfl rfl rfl rfl rfl))
  | (exfalso;first | contradiction | omega)
  | skip
 refine wlp (X:=Int × List Leg) [2,5,10,16,20] [0,1,2,3,4,5,6,7,8,9,10] (fun x => [(23,I x.1),(22,.c (.row 10 0 x.2.length))]) (fun x => [(10,ow 46 x.2)]) (fun x => (0 ≤ x.1 ∧ x.1 ≤ (who ba bb pa).length) ∧ x.2 = ⟨py,ca,-t⟩ :: pyL ca (who ba bb pa) (shs t (aw ba bb pa)) x.1) (fun x => ((who ba bb pa).length - x.1).toNat) (0,[⟨py,ca,-t⟩]) ⟨by dsimp only;omega,rfl⟩ rfl rfl (fun _ => rfl) (fun _ => rfl) ⟨rfl,rfl,rfl,rfl,rfl,rfl,rfl,rfl⟩ (fun x hx => ?_)
 obtain ⟨i,u⟩:=x
 obtain ⟨h0,hu⟩:=hx
 dsimp only at h0 hu ⊢
 have hpl:=oB (cash:=ca) (who:=(who ba bb pa)) (sh:=(shs t (aw ba bb pa))) h0.1
 have hul:(u.length:Int) = i + 1:=by rw [hu,List.length_cons];omega
 by_cases hil:i < (who ba bb pa).length
 ·
  have hu2:u ++ [⟨rd (who ba bb pa) i,ca,rd (shs t (aw ba bb pa)) i⟩] = ⟨py,ca,-t⟩ :: pyL ca (who ba bb pa) (shs t (aw ba bb pa)) (i + 1):=by rw [hu,mB h0.1];rfl
  repeat' (first
| intro h9;exfalso;contradiction
| apply yds;rfl
| apply yd;rfl
| intro _
| refine nv ?_
| apply wct rfl
| apply ai;rfl
| apply yar;rfl;omega
| apply yix;rfl;omega
| apply yle;rfl;omega
| apply aH (α:=Leg) (e:=46);rfl
| apply yap;rfl;(((try simp only [lE,lM]);(try dsimp only);omega))
| refine zdq (id:=18) rfl (by kernel_rfl) [(.p,0),(.p,1),(.p,2),(.p,3),(.p,5),(.p,6),(.p,7),(.p,8),(.t,4),(.t,9),(.p,10),(.o,11),(.l,12),(.p,13)] [12] (by kernel_rfl) rfl ?_
| fail)
  all_goals first
   | exact aB (i + 1,u ++ [⟨rd (who ba bb pa) i,ca,rd (shs t (aw ba bb pa)) i⟩]) [0,1,2,3,4,5,6,7,8,9,12] ⟨rfl,rfl,rfl,rfl,rfl,rfl,rfl,rfl⟩ ⟨by dsimp only;omega,hu2⟩ (by first | omega | (dsimp only;omega))
   | (exfalso;omega)
   | trace_state
 have hug:u = jr py ca t (who ba bb pa) (shs t (aw ba bb pa)):=by rw [hu,show i = ((who ba bb pa).length:Int) from by omega]
 subst hug
 have c1:¬ (aa (⟨ba,bi,bb,bl,bt,bn⟩:Books).Instrs pa = 0 ∨ aa (⟨ba,bi,bb,bl,bt,bn⟩:Books).Instrs ca = 0 ∨ a9 (⟨ba,bi,bb,bl,bt,bn⟩:Books).Accounts py = 0):=by dsimp only;omega
 have c2:¬ (aa (⟨ba,bi,bb,bl,bt,bn⟩:Books).Instrs pa ≠ 2 ∨ aa (⟨ba,bi,bb,bl,bt,bn⟩:Books).Instrs ca ≠ 1 ∨ a9 (⟨ba,bi,bb,bl,bt,bn⟩:Books).Accounts py ≠ 2):=by dsimp only;omega
 repeat' (first
| intro h9;exfalso;first | contradiction | omega
| apply yds;rfl
| apply yd;rfl
| intro _
| refine nv ?_
| apply wct rfl
| apply wcf rfl
| apply ah rfl
| apply ai;rfl
| apply yne;rfl
| apply ycf;rfl;(exact aR (by exact BooksOk.midB (by assumption)));rfl
| apply jd  [true,true,true,true,true,false];(iterate 10 rfl);exact db (by omega);(iterate 6 rfl)
| fail)
 all_goals first
  | (exfalso;omega)
  | (have c5:pN ba bb (jr py ca t (who ba bb pa) (shs t (aw ba bb pa))) = 0:=by assumption
     rw [nd (b:=⟨ba,bi,bb,bl,bt,bn⟩) c0 c1 c2 (fun k => k hhe) (fun k => k hwl) (fun k => k c5)]
     first | exact ak [0,1,2,3,4,11,12,16,14,15] rfl rfl rfl rfl rfl rfl)
  | (have c5:¬ pN ba bb (jr py ca t (who ba bb pa) (shs t (aw ba bb pa))) = 0:=by assumption
     rw [nc (b:=⟨ba,bi,bb,bl,bt,bn⟩) c0 c1 c2 (fun k => k hhe) (fun k => k hwl) c5,← nM hpc]
     first | exact ak [0,1,2,3,4,17,18,19,20,21] rfl rfl rfl rfl rfl rfl)
  | trace_state
end
end Go.Proofs.YtgehbhkfehmdkaaGreat.Sh
