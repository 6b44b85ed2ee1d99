/- Numbers as bytes. No condition. -/
import Derived.Test.YtgehbhkfehmdkaaGreatKUShV
import Derived.Test.YtgehbhkfehmdkaaGreatKUShSl
import Derived.Test.YtgehbhkfehmdkaaGreatKUShBo
set_option maxRecDepth 100000
set_option maxHeartbeats 40000000
set_option linter.unusedSimpArgs false
set_option linter.unusedVariables false
namespace Go.Proofs.YtgehbhkfehmdkaaGreat.Sh
section
open Go.RowKit
theorem uq {l:List Int} (hq:(∀ x ∈ l,-1000000000000000 ≤ x ∧ x ≤ 1000000000000000) ∧ l.length ≤ 1000):FC Tryz.prog 139 [.c (.row 0 0 l.length)] ([ro 3 l]) (I (ao id l)) ([ro 3 l]):=by
 refine ax tk 17 [.tmp 2] Tryz.func139 (by kernel_rfl) rfl rfl rfl rfl rfl rfl rfl ?_
 repeat' (first
| apply yds;rfl
| apply yd;rfl
| refine nv ?_
| fail)
 refine wlp (X:=Int × Int) [6,7] [0] (fun x => [(8,I x.1),(3,I x.2)]) (fun _ => []) (fun x => (0 ≤ x.1 ∧ x.1 ≤ l.length) ∧ x.2 = ao id (pf l x.1)) (fun x => (l.length - x.1).toNat) (0,0) ⟨by dsimp only;omega,rfl⟩ rfl rfl (fun _ => rfl) (fun _ => rfl) ⟨rfl,rfl,rfl,rfl,rfl,rfl,rfl,rfl⟩ (fun x hx => ?_)
 obtain ⟨i,n⟩:=x
 obtain ⟨h0,hn⟩:=hx
 dsimp only at h0 hn ⊢
 have hbd:=fY (f:=id) hq.1 h0
 rw [← hn] at hbd
 have hm:=fun (h:i < l.length) => hq.1 _ (aA ⟨h0.1,h⟩)
 repeat' (first
| apply yds;rfl
| apply yd;rfl
| apply yar;rfl;(have h1:=hm (by assumption);have h2:=hq.2;omega)
| intro _
| refine nv ?_
| apply wct rfl
| apply wcf rfl
| apply ah rfl
| apply ai;rfl
| apply yix;rfl;omega
| apply yle;rfl;omega
| fail)
 ·rename_i h
  exact aB (i + 1,_) [0] ⟨rfl,rfl,rfl,rfl,rfl,rfl,rfl,rfl⟩ ⟨by dsimp only;omega,by dsimp only;rw [bU ⟨h0.1,h⟩,hn];rfl⟩ (by first | omega | (dsimp only;omega))
 ·rename_i h
  rw [b6 h] at hn
  exact du [0] rfl rfl rfl rfl rfl rfl hn.symm
end
section
open Go.RowKit
theorem pC:∀ {l m:List Int},l.Pairwise (· < ·) → m.Pairwise (· < ·) → (∀ x,x ∈ l ↔ x ∈ m) → l = m
 | [],[],_,_,_ => rfl
 | [],y :: m,_,_,h => absurd ((h y).2 (by simp)) (by simp)
 | x :: l,[],_,_,h => absurd ((h x).1 (by simp)) (by simp)
 | x :: l,y :: m,hl,hm,h => by
   rw [List.pairwise_cons] at hl hm
   have hx:=(h x).1 (by simp)
   have hy:=(h y).2 (by simp)
   rw [List.mem_cons] at hx hy
   have e:x = y:=by
    rcases hx with hx | hx
    ·exact hx
    ·rcases hy with hy | hy
     ·exact hy.symm
     ·have h1:=hm.1 x hx
      have h2:=hl.1 y hy
      omega
   subst e
   congr 1
   refine pC hl.2 hm.2 (fun z => ⟨fun hz => ?_,fun hz => ?_⟩)
   ·have h1:=(h z).1 (by simp [hz])
    rw [List.mem_cons] at h1
    rcases h1 with h1 | h1
    ·have:=hl.1 z hz;omega
    ·exact h1
   ·have h1:=(h z).2 (by simp [hz])
    rw [List.mem_cons] at h1
    rcases h1 with h1 | h1
    ·have:=hm.1 z hz;omega
    ·exact h1
theorem tv {α:Type} [Enc α] {R:α → α → Prop} {l:List α} (h:∀ i j:Int,0 ≤ i → i < j → j < l.length → R (rd l i) (rd l j)):l.Pairwise R:=by
 rw [List.pairwise_iff_getElem]
 intro i j hi hj hij
 have:=h i j (by omega) (by omega) (by omega)
 simpa [rd,List.getD_eq_getElem?_getD,hi,hj] using this
theorem ue {l:List Account} (h:aU l):l.Pairwise (fun a b => a.No < b.No):=by
 refine tv fun i j h0 hij hj => ?_
 obtain ⟨n,rfl⟩:∃ n:Nat,j = i + 1 + n:=⟨(j - i - 1).toNat,by omega⟩
 induction n with
 | zero =>
   have:=(h.1 (i + 1 + (0:Nat)) (by omega) hj).2.2 (by omega)
   rwa [show i + 1 + ((0:Nat):Int) - 1 = i from by omega] at this
 | succ n ih =>
   have h1:=(h.1 (i + 1 + (n + 1:Nat)) (by omega) hj).2.2 (by omega)
   rw [show i + 1 + ((n + 1:Nat):Int) - 1 = i + 1 + (n:Int) from by omega] at h1
   have:=ih (by omega) (by omega)
   omega
theorem BA {l:List Instr} (h:bH l):l.Pairwise (fun a b => a.No < b.No):=by
 refine tv fun i j h0 hij hj => ?_
 obtain ⟨n,rfl⟩:∃ n:Nat,j = i + 1 + n:=⟨(j - i - 1).toNat,by omega⟩
 induction n with
 | zero =>
   have:=(h.1 (i + 1 + (0:Nat)) (by omega) hj).2.2 (by omega)
   rwa [show i + 1 + ((0:Nat):Int) - 1 = i from by omega] at this
 | succ n ih =>
   have h1:=(h.1 (i + 1 + (n + 1:Nat)) (by omega) hj).2.2 (by omega)
   rw [show i + 1 + ((n + 1:Nat):Int) - 1 = i + 1 + (n:Int) from by omega] at h1
   have:=ih (by omega) (by omega)
   omega
theorem Bd {l:List Bal} (h:BSd l):l.Pairwise (fun x y => bef x.Account x.Instr y.Account y.Instr):=tv fun i j h0 hij hj => h.lt h0 hij hj
theorem ip {l:List Account} (h:aU l) {a:Account} (ha:a ∈ l):a9 l a.No = a.Kind:=by
 obtain ⟨i,hi,rfl⟩:=bw ha
 refine jg hi (fun j h0 h1 e => ?_) rfl
 have:=List.pairwise_iff_getElem.1 (ue h) j.toNat i.toNat (by omega) (by omega) (by omega)
 have e1:l[j.toNat]'(by omega) = rd l j:=by simp [rd,List.getD_eq_getElem?_getD,show j.toNat < l.length from by omega]
 have e2:l[i.toNat]'(by omega) = rd l i:=by simp [rd,List.getD_eq_getElem?_getD,show i.toNat < l.length from by omega]
 rw [e1,e2] at this
 omega
theorem ly {l:List Account} {n:Int} (h:a9 l n ≠ 0):∃ a ∈ l,a.No = n ∧ a.Kind = a9 l n:=by
 unfold a9 at *
 cases hf:l.find? (fun x => decide (x.No = n)) with
 | none => rw [hf] at h;exact absurd rfl h
 | some a =>
   rw [hf] at h
   exact ⟨a,List.mem_of_find?_eq_some hf,by simpa using List.find?_some hf,rfl⟩
theorem qw {l:List Bal} (h:BSd l) {x:Bal} (hx:x ∈ l):aL l x.Account x.Instr = x.Amount:=by
 obtain ⟨i,hi,rfl⟩:=bw hx
 refine mb hi (fun j h0 h1 e => ?_) ⟨rfl,rfl⟩
 have:=h.lt h0 h1 hi.2
 unfold bef at this
 omega
theorem oM {l:List Bal} {a c:Int} (h:aL l a c ≠ 0):∃ x ∈ l,x.Account = a ∧ x.Instr = c ∧ x.Amount = aL l a c:=by
 unfold aL at *
 cases hf:l.find? (fun x => decide (x.Account = a ∧ x.Instr = c)) with
 | none => rw [hf] at h;exact absurd rfl h
 | some x =>
   rw [hf] at h
   have:=List.find?_some hf
   simp only [decide_eq_true_eq] at this
   exact ⟨x,List.mem_of_find?_eq_some hf,this.1,this.2,rfl⟩
noncomputable def who (ba:List Account) (bb:List Bal) (p:Int):List Int:=(flt (fun a => a.Kind = 1 ∧ aL bb a.No p > 0) ba).map Account.No
noncomputable def aw (ba:List Account) (bb:List Bal) (p:Int):List Int:=(who ba bb p).map (fun n => aL bb n p)
noncomputable def vt (ba:List Account) (bb:List Bal) (p:Int):List Bal:=flt (fun x => x.Instr = p ∧ x.Amount > 0 ∧ a9 ba x.Account = 1) bb
theorem qH {ba:List Account} {bb:List Bal} {p:Int} (ha:aU ba) (hb:BSd bb):(vt ba bb p).map Bal.Account = who ba bb p:=by
 refine pC ?_ ?_ (fun n => ?_)
 ·rw [List.pairwise_map]
  have h1:(vt ba bb p).Pairwise (fun x y => bef x.Account x.Instr y.Account y.Instr):=(Bd hb).filter _
  refine h1.imp_of_mem ?_
  intro x y hx hy h
  have e1:=(flt_mem.1 hx).2.1
  have e2:=(flt_mem.1 hy).2.1
  unfold bef at h
  omega
 ·unfold who
  rw [List.pairwise_map]
  exact (ue ha).filter _
 ·unfold who vt
  simp only [List.mem_map]
  constructor
  ·rintro ⟨x,hx,rfl⟩
   obtain ⟨h1,h2,h3,h4⟩:=flt_mem.1 hx
   obtain ⟨a,ha1,ha2,ha3⟩:=ly (l:=ba) (n:=x.Account) (by omega)
   refine ⟨a,flt_mem.2 ⟨ha1,by omega,?_⟩,ha2⟩
   rw [ha2,← h2,qw hb h1]
   exact h3
  ·rintro ⟨a,hx,rfl⟩
   obtain ⟨h1,h2,h3⟩:=flt_mem.1 hx
   obtain ⟨x,hx1,hx2,hx3,hx4⟩:=oM (l:=bb) (a:=a.No) (c:=p) (by omega)
   exact ⟨x,flt_mem.2 ⟨hx1,hx3,by omega,by rw [hx2,ip ha h1];exact h2⟩,hx2⟩
theorem uo {ba:List Account} {bb:List Bal} {p:Int} (ha:aU ba) (hb:BSd bb):(vt ba bb p).map Bal.Amount = aw ba bb p:=by
 rw [aw,← qH ha hb,List.map_map]
 refine List.map_congr_left (fun x hx => ?_)
 obtain ⟨h1,h2,_⟩:=flt_mem.1 hx
 show x.Amount = aL bb x.Account p
 rw [← h2,qw hb h1]
theorem l6 (ba:List Account) (bb:List Bal) (p:Int):(who ba bb p).length ≤ ba.length:=by
 unfold who
 rw [List.length_map]
 exact cV _ _
theorem fU (ba:List Account) (bb:List Bal) (p:Int):(aw ba bb p).length = (who ba bb p).length:=by simp [aw]
theorem tl {ba:List Account} {bb:List Bal} {p:Int} (hb:BalsOk bb):∀ x ∈ aw ba bb p,0 < x ∧ x ≤ 1000000000000000:=by
 intro x hx
 unfold aw who at hx
 simp only [List.mem_map] at hx
 obtain ⟨n,⟨a,ha,rfl⟩,rfl⟩:=hx
 have h1:=(flt_mem.1 ha).2.2
 obtain ⟨y,hy,_,_,e⟩:=oM (l:=bb) (a:=a.No) (c:=p) (by omega)
 obtain ⟨i,hi,rfl⟩:=bw hy
 have h2:=(hb.1 i hi.1 hi.2).2.2.1
 unfold aq inP at h2
 omega
def cy (b:Books) (p:Int):Prop:=BooksOk b ∧ aq (ao id (aw b.Accounts b.Bals p))
theorem A3 {ba:List Account} {bb:List Bal} {p:Int} (ha:aU ba) (hb:BalsOk bb):(∀ x ∈ aw ba bb p,-1000000000000000 ≤ x ∧ x ≤ 1000000000000000) ∧ (aw ba bb p).length ≤ 1000 :=
 ⟨fun x hx => by have:=tl hb x hx;omega,by rw [fU];have:=l6 ba bb p;have:=ha.2;omega⟩
theorem qG (ba:List Account) (bb:List Bal) (p:Int) (i:Int):(flt (fun x => x.Instr = p ∧ x.Amount > 0 ∧ a9 ba x.Account = 1) (pf bb i)).length ≤ bb.length:=Nat.le_trans (cV _ _) (by simp only [pf,List.length_take];omega)
theorem ng {ba:List Account} {bi:List Instr} {bb:List Bal} {bl:List Lot} {bt:List Trade} {bn:Int} {p:Int}:FC Tryz.prog 32 [bkV 0 ⟨ba,bi,bb,bl,bt,bn⟩,I p] (bkR ⟨ba,bi,bb,bl,bt,bn⟩) (sel (cy ⟨ba,bi,bb,bl,bt,bn⟩ p) (.tup [.c (.row 5 0 (who ba bb p).length),.c (.row 6 0 (aw ba bb p).length),I (ao id (aw ba bb p)),B true]) (.tup [.c (.row 5 0 ([]:List Int).length),.c (.row 6 0 ([]:List Int).length),I 0,B false])) (sel (cy ⟨ba,bi,bb,bl,bt,bn⟩ p) (bkR ⟨ba,bi,bb,bl,bt,bn⟩ ++ [ow 3 (who ba bb p),ow 3 (aw ba bb p)]) (bkR ⟨ba,bi,bb,bl,bt,bn⟩ ++ [ow 3 ([]:List Int),ow 3 ([]:List Int)])):=by
 refine ax tk 61 [.tmp 4,.tmp 5,.tmp 6,.tmp 7] Tryz.func32 (by kernel_rfl) rfl rfl rfl rfl rfl rfl rfl ?_
 repeat' (first
| apply yds;rfl
| apply yd;rfl
| apply fZ (d:=4) 3 1;rfl;rfl;rfl
| apply fZ (d:=5) 3 1;rfl;rfl;rfl
| intro _
| refine nv ?_
| apply wct rfl
| apply wcf rfl
| apply aH (α:=Int) (e:=3);rfl
| apply ycp;rfl;exact aM;rfl
| fail)
 rotate_left
 ·rename_i h
  exact bQ (fun k => h k.1) [0,1,2,3,4,8,9] rfl rfl rfl rfl rfl rfl
 rename_i hok
 have hlb:=hok.bals.2
 dsimp only at hlb
 refine wlp (X:=Int × List Int × List Int) [1,2,19,20] [0,1,2,3,4,5,8,9] (fun x => [(21,I x.1),(8,.c (.row 6 0 x.2.1.length)),(9,.c (.row 7 0 x.2.2.length))]) (fun x => [(6,ow 3 x.2.1),(7,ow 3 x.2.2)]) (fun x => (0 ≤ x.1 ∧ x.1 ≤ bb.length) ∧ x.2.1 = (flt (fun x => x.Instr = p ∧ x.Amount > 0 ∧ a9 ba x.Account = 1) (pf bb x.1)).map Bal.Account ∧ x.2.2 = (flt (fun x => x.Instr = p ∧ x.Amount > 0 ∧ a9 ba x.Account = 1) (pf bb x.1)).map Bal.Amount) (fun x => (bb.length - x.1).toNat) (0,[],[]) ⟨by dsimp only;omega,rfl,rfl⟩ rfl rfl (fun _ => rfl) (fun _ => rfl) ⟨rfl,rfl,rfl,rfl,rfl,rfl,rfl,rfl⟩ (fun x hx => ?_)
 obtain ⟨i,u,v⟩:=x
 obtain ⟨h0,hu,hv⟩:=hx
 dsimp only at h0 hu hv ⊢
 have hul:u.length ≤ 160:=by rw [hu,List.length_map];have:=qG ba bb p i;omega
 have hvl:v.length ≤ 160:=by rw [hv,List.length_map];have:=qG ba bb p i;omega
 repeat' (first
| apply yds;rfl
| apply yd;rfl
| intro _
| refine nv ?_
| apply wct rfl
| apply wcf rfl
| apply ah rfl
| apply ai;rfl
| apply yar;rfl;omega
| apply yix;rfl;omega
| apply yle;rfl;omega
| apply aH (α:=Int) (e:=3);rfl
| apply yap;rfl;(((try simp only [lE,lM]);(try dsimp only);omega))
| apply yc;rfl;exact d7;rfl;exact fun _ => rfl
| fail)
 all_goals first
  | exact aB (i + 1,u ++ [(rd bb i).Account],v ++ [(rd bb i).Amount]) [0,1,2,3,4,5,10,12] ⟨rfl,rfl,rfl,rfl,rfl,rfl,rfl,rfl⟩ ⟨by dsimp only;omega,by dsimp only;rw [bz ⟨h0.1,by assumption⟩,dN (p:=fun x:Bal => x.Instr = p ∧ x.Amount > 0 ∧ a9 ba x.Account = 1) ⟨by assumption,by assumption,by assumption⟩,List.map_append,hu];rfl,by dsimp only;rw [bz ⟨h0.1,by assumption⟩,dN (p:=fun x:Bal => x.Instr = p ∧ x.Amount > 0 ∧ a9 ba x.Account = 1) ⟨by assumption,by assumption,by assumption⟩,List.map_append,hv];rfl⟩ (by first | omega | (dsimp only;omega))
  | exact aB (i + 1,u,v) [0,1,2,3,4,5,6,7] ⟨rfl,rfl,rfl,rfl,rfl,rfl,rfl,rfl⟩ ⟨by dsimp only;omega,by dsimp only;rw [bz ⟨h0.1,by assumption⟩,dm (p:=fun x:Bal => x.Instr = p ∧ x.Amount > 0 ∧ a9 ba x.Account = 1) (fun e => by obtain ⟨e1,e2,e3⟩:=e;contradiction),List.append_nil,hu],by dsimp only;rw [bz ⟨h0.1,by assumption⟩,dm (p:=fun x:Bal => x.Instr = p ∧ x.Amount > 0 ∧ a9 ba x.Account = 1) (fun e => by obtain ⟨e1,e2,e3⟩:=e;contradiction),List.append_nil,hv]⟩ (by first | omega | (dsimp only;omega))
  | skip
 rename_i h
 rw [b6 h] at hu hv
 replace hu:=hu.trans (qH hok.acc hok.bals.sd)
 replace hv:=hv.trans (uo hok.acc hok.bals.sd)
 subst hu
 subst hv
 have hq:(∀ x ∈ aw ba bb p,-1000000000000000 ≤ x ∧ x ≤ 1000000000000000) ∧ (aw ba bb p).length ≤ 1000:=A3 (p:=p) hok.acc hok.bals
 repeat' (first
| apply yds;rfl
| apply yd;rfl
| apply fZ (d:=4) 3 1;rfl;rfl;rfl
| apply fZ (d:=5) 3 1;rfl;rfl;rfl
| intro _
| refine nv ?_
| apply wct rfl
| apply wcf rfl
| apply ycp;rfl;exact dU;rfl
| apply yc;rfl;(exact uq (by assumption));rfl;exact fun _ => rfl
| fail)
 all_goals first
  | exact iH ⟨hok,by assumption⟩ [0,1,2,3,4,6,7] rfl rfl rfl rfl rfl rfl
  | exact bQ (fun k => absurd k.2 (by assumption)) [0,1,2,3,4,8,9] rfl rfl rfl rfl rfl rfl
theorem jb {ba:List Account} {bi:List Instr} {bb:List Bal} {bl:List Lot} {bt:List Trade} {bn:Int} {p:Int}:FC Tryz.prog 134 [bkV 0 ⟨ba,bi,bb,bl,bt,bn⟩,I p] (bkR ⟨ba,bi,bb,bl,bt,bn⟩) (sel (cy ⟨ba,bi,bb,bl,bt,bn⟩ p) (.tup [.c (.row 5 0 (who ba bb p).length),.c (.row 6 0 (aw ba bb p).length),I (ao id (aw ba bb p)),B true]) (.tup [.c (.row 5 0 ([]:List Int).length),.c (.row 6 0 ([]:List Int).length),I 0,B false])) (sel (cy ⟨ba,bi,bb,bl,bt,bn⟩ p) (bkR ⟨ba,bi,bb,bl,bt,bn⟩ ++ [ow 3 (who ba bb p),ow 3 (aw ba bb p)]) (bkR ⟨ba,bi,bb,bl,bt,bn⟩ ++ [ow 3 ([]:List Int),ow 3 ([]:List Int)])):=by
 refine ax tk 72 [.tmp 4,.tmp 5,.tmp 6,.tmp 7] Tryz.func134 (by kernel_rfl) rfl rfl rfl rfl rfl rfl rfl ?_
 repeat' (first
| apply yds;rfl
| apply yd;rfl
| intro _
| refine nv ?_
| apply wct rfl
| apply wcf rfl
| apply aH (α:=Int) (e:=3);rfl
| apply ycp;rfl;exact ap;rfl
| fail)
 rotate_left
 ·rename_i h
  exact bQ (fun k => h k.1) [0,1,2,3,4,6,7] rfl rfl rfl rfl rfl rfl
 rename_i hok
 have hla:=hok.acc.2
 dsimp only at hla
 have hbr:=fun x (hx:x ∈ bb) => (by obtain ⟨i,hi,rfl⟩:=bw hx;exact (hok.bals.1 i hi.1 hi.2).2.2.1:aq x.Amount)
 have hbo:∀ n,-1000000000000000 ≤ aL bb n p ∧ aL bb n p ≤ 1000000000000000:=fun n => by
  by_cases e:aL bb n p = 0
  ·omega
  ·obtain ⟨x,hx,_,_,e2⟩:=oM e
   have:=hbr x hx
   unfold aq inP at this
   omega
 refine wlp (X:=Int × List Int × List Int × Int) [1,2] [0,1,2,3,4,5,6,7] (fun x => [(11,I x.1),(8,.c (.row 6 0 x.2.1.length)),(9,.c (.row 7 0 x.2.2.1.length)),(10,I x.2.2.2)]) (fun x => [(6,ow 3 x.2.1),(7,ow 3 x.2.2.1)]) (fun x => (0 ≤ x.1 ∧ x.1 ≤ ba.length) ∧ x.2.1 = (flt (fun a => a.Kind = 1 ∧ aL bb a.No p > 0) (pf ba x.1)).map Account.No ∧ x.2.2.1 = x.2.1.map (fun n => aL bb n p) ∧ x.2.2.2 = ao id x.2.2.1 ∧ -1000000000000000 * x.1 ≤ x.2.2.2 ∧ x.2.2.2 ≤ 1000000000000000 * x.1) (fun x => (ba.length - x.1).toNat) (0,[],[],0) ⟨by dsimp only;omega,rfl,rfl,rfl,by dsimp only;omega,by dsimp only;omega⟩ rfl rfl (fun _ => rfl) (fun _ => rfl) ⟨rfl,rfl,rfl,rfl,rfl,rfl,rfl,rfl⟩ (fun x hx => ?_)
 obtain ⟨i,u,v,n⟩:=x
 obtain ⟨h0,hu,hv,hn,hn1,hn2⟩:=hx
 dsimp only at h0 hu hv hn hn1 hn2 ⊢
 have hul:u.length ≤ 20:=by
  rw [hu,List.length_map]
  have h1:=cV (fun a => a.Kind = 1 ∧ aL bb a.No p > 0) (pf ba i)
  have h2:=bS h0
  omega
 have hvl:v.length ≤ 20:=by rw [hv,List.length_map];exact hul
 have hbi:=hbo (rd ba i).No
 repeat' (first
| apply yds;rfl
| apply yd;rfl
| intro _
| refine nv ?_
| apply wct rfl
| apply wcf rfl
| apply ah rfl
| apply ai;rfl
| apply yar;rfl;omega
| apply yix;rfl;omega
| apply yle;rfl;omega
| apply aH (α:=Int) (e:=3);rfl
| apply yap;rfl;(((try simp only [lE,lM]);(try dsimp only);omega))
| refine zdq (id:=8) rfl (by kernel_rfl) [(.p,0),(.p,2),(.p,4),(.p,8),(.t,1),(.t,3),(.p,5),(.p,6),(.t,7),(.o,9),(.p,10)] [] (by kernel_rfl) rfl ?_
| apply ycp;rfl;exact bL;rfl
| apply yc;rfl;exact fK;rfl;exact fun _ => rfl
| fail)
 all_goals first
  | exact aB (i + 1,u ++ [(rd ba i).No],v ++ [aL bb (rd ba i).No p],n + aL bb (rd ba i).No p) [0,1,2,3,4,5,9,11] ⟨rfl,rfl,rfl,rfl,rfl,rfl,rfl,rfl⟩ ⟨by dsimp only;omega,by dsimp only;rw [bz ⟨h0.1,by assumption⟩,dN (p:=fun a:Account => a.Kind = 1 ∧ aL bb a.No p > 0) ⟨by assumption,by assumption⟩,List.map_append,hu];rfl,by dsimp only;rw [List.map_append,hv];rfl,by dsimp only;rw [bk,cT,hn];rfl,by dsimp only;omega,by dsimp only;omega⟩ (by first | omega | (dsimp only;omega))
  | exact aB (i + 1,u,v,n) [0,1,2,3,4,5,6,7] ⟨rfl,rfl,rfl,rfl,rfl,rfl,rfl,rfl⟩ ⟨by dsimp only;omega,by dsimp only;rw [bz ⟨h0.1,by assumption⟩,dm (p:=fun a:Account => a.Kind = 1 ∧ aL bb a.No p > 0) (fun e => by obtain ⟨e1,e2⟩:=e;contradiction),List.append_nil,hu],hv,hn,by dsimp only;omega,by dsimp only;omega⟩ (by first | omega | (dsimp only;omega))
  | skip
 all_goals
  rename_i h hk
  rw [b6 h] at hu
  have hu2:u = who ba bb p:=hu
  have hv2:v = aw ba bb p:=by rw [hv,hu2];rfl
  subst hn
  subst hu2
  subst hv2
  first
  | exact iH ⟨hok,hk⟩ [0,1,2,3,4,6,7] rfl rfl rfl rfl rfl rfl
  | exact bQ (fun k => hk k.2) [0,1,2,3,4,8,9] rfl rfl rfl rfl rfl rfl
end
end Go.Proofs.YtgehbhkfehmdkaaGreat.Sh
