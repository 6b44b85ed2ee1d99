/- Who holds a paper. No condition. -/
import Derived.Test.YtgehbhkfehmdkaaGreatKFxShV
import Derived.Test.YtgehbhkfehmdkaaGreatKFxShPa
import Derived.Test.YtgehbhkfehmdkaaGreatKFxShBo
set_option maxRecDepth 100000
set_option maxHeartbeats 40000000
set_option linter.unusedSimpArgs false
set_option linter.unusedVariables false
namespace Go.Proofs.YtgehbhkfehmdkaaGreat.Sh
open Go.RowKit
theorem rE {α:Type} [Enc α] {R:α → α → Prop} {l:List α} (h:∀ i j:Int,0 ≤ i → i < j → j < l.length → R (rd l i) (rd l j)):l.Pairwise R:=by
 rw [List.pairwise_iff_getElem]
 intro i j hi hj hij
 have:=h i j (by omega) (by omega) (by omega)
 simpa [rd,List.getD_eq_getElem?_getD,hi,hj] using this
theorem xm {l:List Account} (h:aO l):l.Pairwise (fun a b => a.No < b.No):=by
 refine rE fun i j h0 hij hj => ?_
 obtain ⟨n,rfl⟩:∃ n:Nat,j = i + 1 + n:=⟨(j - i - 1).toNat,by omega⟩
 induction n with
 | zero =>
   have:=(h.1 (i + 1 + (0:Nat)) (by omega) hj).2.2 (by omega)
   rwa [show i + 1 + ((0:Nat):Int) - 1 = i from by omega] at this
 | succ n ih =>
   have h1:=(h.1 (i + 1 + (n + 1:Nat)) (by omega) hj).2.2 (by omega)
   rw [show i + 1 + ((n + 1:Nat):Int) - 1 = i + 1 + (n:Int) from by omega] at h1
   have:=ih (by omega) (by omega)
   omega
theorem xP {l:List Instr} (h:bA l):l.Pairwise (fun a b => a.No < b.No):=by
 refine rE fun i j h0 hij hj => ?_
 obtain ⟨n,rfl⟩:∃ n:Nat,j = i + 1 + n:=⟨(j - i - 1).toNat,by omega⟩
 induction n with
 | zero =>
   have:=(h.1 (i + 1 + (0:Nat)) (by omega) hj).2.2 (by omega)
   rwa [show i + 1 + ((0:Nat):Int) - 1 = i from by omega] at this
 | succ n ih =>
   have h1:=(h.1 (i + 1 + (n + 1:Nat)) (by omega) hj).2.2 (by omega)
   rw [show i + 1 + ((n + 1:Nat):Int) - 1 = i + 1 + (n:Int) from by omega] at h1
   have:=ih (by omega) (by omega)
   omega
theorem jB {l:List Account} (h:aO l) {a:Account} (ha:a ∈ l):a9 l a.No = a.Kind:=by
 obtain ⟨i,hi,rfl⟩:=bj ha
 refine fm hi (fun j h0 h1 e => ?_) rfl
 have:=List.pairwise_iff_getElem.1 (xm h) j.toNat i.toNat (by omega) (by omega) (by omega)
 have e1:l[j.toNat]'(by omega) = rd l j:=by simp [rd,List.getD_eq_getElem?_getD,show j.toNat < l.length from by omega]
 have e2:l[i.toNat]'(by omega) = rd l i:=by simp [rd,List.getD_eq_getElem?_getD,show i.toNat < l.length from by omega]
 rw [e1,e2] at this
 omega
theorem pQ {l:List Account} {n:Int} (h:a9 l n ≠ 0):∃ a ∈ l,a.No = n ∧ a.Kind = a9 l n:=by
 unfold a9 at *
 cases hf:l.find? (fun x => decide (x.No = n)) with
 | none => rw [hf] at h;exact absurd rfl h
 | some a =>
   rw [hf] at h
   exact ⟨a,List.mem_of_find?_eq_some hf,by simpa using List.find?_some hf,rfl⟩
theorem nM {l:List Bal} {a c:Int} (h:aK l a c ≠ 0):∃ x ∈ l,x.Account = a ∧ x.Instr = c ∧ x.Amount = aK l a c:=by
 unfold aK at *
 cases hf:l.find? (fun x => decide (x.Account = a ∧ x.Instr = c)) with
 | none => rw [hf] at h;exact absurd rfl h
 | some x =>
   rw [hf] at h
   have:=List.find?_some hf
   simp only [decide_eq_true_eq] at this
   exact ⟨x,List.mem_of_find?_eq_some hf,this.1,this.2,rfl⟩
noncomputable def who (ba:List Account) (bb:List Bal) (p:Int):List Int:=(flt (fun a => a.Kind = 1 ∧ aK bb a.No p > 0) ba).map Account.No
noncomputable def aq (ba:List Account) (bb:List Bal) (p:Int):List Int:=(who ba bb p).map (fun n => aK bb n p)
theorem kx (ba:List Account) (bb:List Bal) (p:Int):(who ba bb p).length ≤ ba.length:=by
 unfold who
 rw [List.length_map]
 exact cL _ _
theorem l8 (ba:List Account) (bb:List Bal) (p:Int):(aq ba bb p).length = (who ba bb p).length:=by simp [aq]
theorem uE {ba:List Account} {bb:List Bal} {p:Int} (hb:BalsOk bb):∀ x ∈ aq ba bb p,0 < x ∧ x ≤ 1000000000000000:=by
 intro x hx
 unfold aq who at hx
 simp only [List.mem_map] at hx
 obtain ⟨n,⟨a,ha,rfl⟩,rfl⟩:=hx
 have h1:=(flt_mem.1 ha).2.2
 obtain ⟨y,hy,_,_,e⟩:=nM (l:=bb) (a:=a.No) (c:=p) (by omega)
 obtain ⟨i,hi,rfl⟩:=bj hy
 have h2:=(hb.1 i hi.1 hi.2).2.2.1
 unfold ai inP at h2
 omega
def cF (b:Books) (p:Int):Prop:=BooksOk b ∧ ai (ak id (aq b.Accounts b.Bals p))
theorem fg {ba:List Account} {bi:List Instr} {bb:List Bal} {bl:List Lot} {bt:List Trade} {bn:Int} {p:Int}:FC Tryz.prog 134 [bkV 0 ⟨ba,bi,bb,bl,bt,bn⟩,I p] (bkR ⟨ba,bi,bb,bl,bt,bn⟩) (sel (cF ⟨ba,bi,bb,bl,bt,bn⟩ p) (.tup [.c (.row 5 0 (who ba bb p).length),.c (.row 6 0 (aq ba bb p).length),I (ak id (aq ba bb p)),B true]) (.tup [.c (.row 5 0 ([]:List Int).length),.c (.row 6 0 ([]:List Int).length),I 0,B false])) (sel (cF ⟨ba,bi,bb,bl,bt,bn⟩ p) (bkR ⟨ba,bi,bb,bl,bt,bn⟩ ++ [ow 3 (who ba bb p),ow 3 (aq ba bb p)]) (bkR ⟨ba,bi,bb,bl,bt,bn⟩ ++ [ow 3 ([]:List Int),ow 3 ([]:List Int)])):=by
 refine ay tk 72 [.tmp 4,.tmp 5,.tmp 6,.tmp 7] Tryz.func134 (by kernel_rfl) rfl rfl rfl rfl rfl rfl rfl ?_
 repeat' (first
| apply yds;rfl
| apply yd;rfl
| intro _
| refine nv ?_
| apply wct rfl
| apply wcf rfl
| apply aH (α:=Int) (e:=3);rfl
| apply ycp;rfl;exact ae;rfl
| fail)
 rotate_left
 ·rename_i h
  exact cD (fun k => h k.1) [0,1,2,3,4,6,7] rfl rfl rfl rfl rfl rfl
 rename_i hok
 have hla:=hok.acc.2
 dsimp only at hla
 have hbr:=fun x (hx:x ∈ bb) => (by obtain ⟨i,hi,rfl⟩:=bj hx;exact (hok.bals.1 i hi.1 hi.2).2.2.1:ai x.Amount)
 have hbo:∀ n,-1000000000000000 ≤ aK bb n p ∧ aK bb n p ≤ 1000000000000000:=fun n => by
  by_cases e:aK bb n p = 0
  ·omega
  ·obtain ⟨x,hx,_,_,e2⟩:=nM e
   have:=hbr x hx
   unfold ai inP at this
   omega
 refine wlp (X:=Int × List Int × List Int × Int) [1,2] [0,1,2,3,4,5,6,7] (fun x => [(11,I x.1),(8,.c (.row 6 0 x.2.1.length)),(9,.c (.row 7 0 x.2.2.1.length)),(10,I x.2.2.2)]) (fun x => [(6,ow 3 x.2.1),(7,ow 3 x.2.2.1)]) (fun x => (0 ≤ x.1 ∧ x.1 ≤ ba.length) ∧ x.2.1 = (flt (fun a => a.Kind = 1 ∧ aK bb a.No p > 0) (pf ba x.1)).map Account.No ∧ x.2.2.1 = x.2.1.map (fun n => aK bb n p) ∧ x.2.2.2 = ak id x.2.2.1 ∧ -1000000000000000 * x.1 ≤ x.2.2.2 ∧ x.2.2.2 ≤ 1000000000000000 * x.1) (fun x => (ba.length - x.1).toNat) (0,[],[],0) ⟨by dsimp only;omega,rfl,rfl,rfl,by dsimp only;omega,by dsimp only;omega⟩ rfl rfl (fun _ => rfl) (fun _ => rfl) ⟨rfl,rfl,rfl,rfl,rfl,rfl,rfl,rfl⟩ (fun x hx => ?_)
 obtain ⟨i,u,v,n⟩:=x
 obtain ⟨h0,hu,hv,hn,hn1,hn2⟩:=hx
 dsimp only at h0 hu hv hn hn1 hn2 ⊢
 have hul:u.length ≤ 20:=by
  rw [hu,List.length_map]
  have h1:=cL (fun a => a.Kind = 1 ∧ aK bb a.No p > 0) (pf ba i)
  have h2:=bO h0
  omega
 have hvl:v.length ≤ 20:=by rw [hv,List.length_map];exact hul
 have hbi:=hbo (rd ba i).No
 repeat' (first
| apply yds;rfl
| apply yd;rfl
| intro _
| refine nv ?_
| apply wct rfl
| apply wcf rfl
| apply ah rfl
| apply aj;rfl
| apply yar;rfl;omega
| apply yix;rfl;omega
| apply yle;rfl;omega
| apply aH (α:=Int) (e:=3);rfl
| apply yap;rfl;(((try simp only [lE,lM]);(try dsimp only);omega))
| refine zdq (id:=8) rfl (by kernel_rfl) [(.p,0),(.p,2),(.p,4),(.p,8),(.t,1),(.t,3),(.p,5),(.p,6),(.t,7),(.o,9),(.p,10)] [] (by kernel_rfl) rfl ?_
| apply ycp;rfl;exact bz;rfl
| apply yc;rfl;exact dz;rfl;exact fun _ => rfl
| fail)
 all_goals first
  | exact aB (i + 1,u ++ [(rd ba i).No],v ++ [aK bb (rd ba i).No p],n + aK bb (rd ba i).No p) [0,1,2,3,4,5,9,11] ⟨rfl,rfl,rfl,rfl,rfl,rfl,rfl,rfl⟩ ⟨by dsimp only;omega,by dsimp only;rw [bB ⟨h0.1,by assumption⟩,dM (p:=fun a:Account => a.Kind = 1 ∧ aK bb a.No p > 0) ⟨by assumption,by assumption⟩,List.map_append,hu];rfl,by dsimp only;rw [List.map_append,hv];rfl,by dsimp only;rw [bh,cZ,hn];rfl,by dsimp only;omega,by dsimp only;omega⟩ (by first | omega | (dsimp only;omega))
  | exact aB (i + 1,u,v,n) [0,1,2,3,4,5,6,7] ⟨rfl,rfl,rfl,rfl,rfl,rfl,rfl,rfl⟩ ⟨by dsimp only;omega,by dsimp only;rw [bB ⟨h0.1,by assumption⟩,dj (p:=fun a:Account => a.Kind = 1 ∧ aK bb a.No p > 0) (fun e => by obtain ⟨e1,e2⟩:=e;contradiction),List.append_nil,hu],hv,hn,by dsimp only;omega,by dsimp only;omega⟩ (by first | omega | (dsimp only;omega))
  | skip
 all_goals
  rename_i h hk
  rw [b8 h] at hu
  have hu2:u = who ba bb p:=hu
  have hv2:v = aq ba bb p:=by rw [hv,hu2];rfl
  subst hn
  subst hu2
  subst hv2
  first
  | exact jl ⟨hok,hk⟩ [0,1,2,3,4,6,7] rfl rfl rfl rfl rfl rfl
  | exact cD (fun k => hk k.2) [0,1,2,3,4,8,9] rfl rfl rfl rfl rfl rfl
end Go.Proofs.YtgehbhkfehmdkaaGreat.Sh
