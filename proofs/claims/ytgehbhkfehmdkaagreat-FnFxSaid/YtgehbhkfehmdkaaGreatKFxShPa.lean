/- Lists: what is found first, what is added up, what comes ahead. No condition. -/
import Derived.Test.YtgehbhkfehmdkaaGreatKFxShX
import Derived.Test.YtgehbhkfehmdkaaGreatKFxShV
set_option maxRecDepth 100000
set_option maxHeartbeats 40000000
set_option linter.unusedSectionVars false
set_option linter.unusedSimpArgs false
set_option linter.unusedVariables false
namespace Go.Proofs.YtgehbhkfehmdkaaGreat.Sh
section
open Go.RowKit
section
variable {α:Type} [Enc α]
def pf {α:Type} (l:List α) (i:Int):List α:=l.take i.toNat
theorem wy (l:List α):pf l 0 = []:=rfl
theorem bL {l:List α} {i:Int} (h:0 ≤ i ∧ i < l.length):pf l (i + 1) = pf l i ++ [rd l i]:=by
 have h1:i.toNat < l.length:=by omega
 unfold pf
 rw [show (i + 1).toNat = i.toNat + 1 from by omega,List.take_add_one]
 simp [rd,List.getD_eq_getElem?_getD,h1]
theorem b8 {l:List α} {i:Int} (h:¬ i < l.length):pf l i = l:=List.take_of_length_le (by omega)
theorem bO {l:List α} {i:Int} (h:0 ≤ i ∧ i ≤ l.length):((pf l i).length:Int) = i:=by
 simp only [pf,List.length_take]
 omega
theorem az {l:List α} {i:Int} (h:0 ≤ i ∧ i < l.length):rd l i ∈ l:=by
 have h1:i.toNat < l.length:=by omega
 simp only [rd,List.getD_eq_getElem?_getD,List.getElem?_eq_getElem h1,Option.getD_some]
 exact List.getElem_mem h1
theorem bj {l:List α} {x:α} (h:x ∈ l):∃ i:Int,(0 ≤ i ∧ i < l.length) ∧ rd l i = x:=by
 obtain ⟨n,hn,rfl⟩:=List.getElem_of_mem h
 exact ⟨n,⟨by omega,by omega⟩,by simp [rd,List.getD_eq_getElem?_getD,hn]⟩
theorem all_rd {l:List α} {p:α → Prop}:(∀ i:Int,0 ≤ i → i < l.length → p (rd l i)) ↔ ∀ x ∈ l,p x :=
 ⟨fun h x hx => by obtain ⟨i,hi,rfl⟩:=bj hx;exact h i hi.1 hi.2,fun h i h0 h1 => h _ (az ⟨h0,h1⟩)⟩
theorem rH {l:List α} {i j:Int} (h:0 ≤ j ∧ j < i):rd (pf l i) j = rd l j:=by
 unfold rd pf
 rw [List.getD_eq_getElem?_getD,List.getD_eq_getElem?_getD,List.getElem?_take_of_lt (by omega)]
theorem mP {l:List α} {p:α → Bool} {i:Int} (h0:0 ≤ i ∧ i < l.length) (hb:∀ j:Int,0 ≤ j → j < i → ¬ p (rd l j) = true) (hp:p (rd l i) = true):l.find? p = some (rd l i):=by
 have h1:i.toNat < l.length:=by omega
 have e1:l[i.toNat] = rd l i:=by simp [rd,List.getD_eq_getElem?_getD,h1]
 rw [List.find?_eq_some_iff_getElem]
 refine ⟨hp,i.toNat,h1,e1,fun j hj => ?_⟩
 have:=hb j (by omega) (by omega)
 have e2:rd l (j:Int) = l[j]:=by simp [rd,List.getD_eq_getElem?_getD,show j < l.length from by omega]
 rw [e2] at this
 simpa using this
theorem mQ {l:List α} {p:α → Bool} {i:Int} (hi:¬ i < l.length) (hb:∀ j:Int,0 ≤ j → j < i → ¬ p (rd l j) = true):l.find? p = none:=by
 rw [List.find?_eq_none]
 intro x hx
 obtain ⟨j,hj,rfl⟩:=bj hx
 exact hb j hj.1 (by omega)
def ak {α:Type} (f:α → Int) (l:List α):Int:=(l.map f).sum
theorem fh (f:α → Int):ak f [] = 0:=rfl
theorem bh (f:α → Int) (a b:List α):ak f (a ++ b) = ak f a + ak f b:=by simp [ak]
theorem cZ (f:α → Int) (x:α):ak f [x] = f x:=by simp [ak]
theorem bp (f:α → Int) (x:α) (l:List α):ak f (x :: l) = f x + ak f l:=by simp [ak]
theorem cq {f:α → Int} {l:List α} {i:Int} (h:0 ≤ i ∧ i < l.length):ak f (pf l (i + 1)) = ak f (pf l i) + f (rd l i):=by rw [bL h,bh,cZ]
theorem rU {f:α → Int} {l:List α} {M:Int} (h:∀ x ∈ l,f x ≤ M):ak f l ≤ l.length * M:=by
 induction l with
 | nil => simp [ak]
 | cons x l ih =>
   rw [bp,List.length_cons]
   have h1:=h x (by simp)
   have h2:=ih (fun y hy => h y (by simp [hy]))
   have:((l.length + 1:Nat):Int) * M = l.length * M + M:=by push_cast;rw [Int.add_mul];omega
   omega
theorem rT {f:α → Int} {l:List α} {M:Int} (h:∀ x ∈ l,M ≤ f x):l.length * M ≤ ak f l:=by
 induction l with
 | nil => simp [ak]
 | cons x l ih =>
   rw [bp,List.length_cons]
   have h1:=h x (by simp)
   have h2:=ih (fun y hy => h y (by simp [hy]))
   have:((l.length + 1:Nat):Int) * M = l.length * M + M:=by push_cast;rw [Int.add_mul];omega
   omega
theorem eC {f:α → Int} {l:List α} {i:Int} (h:∀ x ∈ l,-1000000000000000 ≤ f x ∧ f x ≤ 1000000000000000) (hi:0 ≤ i ∧ i ≤ l.length):-1000000000000000 * i ≤ ak f (pf l i) ∧ ak f (pf l i) ≤ 1000000000000000 * i:=by
 have hm:∀ x ∈ pf l i,x ∈ l:=fun x hx => List.mem_of_mem_take hx
 have h1:=rU (M:=1000000000000000) (fun x hx => (h x (hm x hx)).2)
 have h2:=rT (M:=-1000000000000000) (fun x hx => (h x (hm x hx)).1)
 rw [bO hi] at h1 h2
 omega
theorem eQ {f:α → Int} {l:List α} (h:∀ x ∈ l,0 ≤ f x):0 ≤ ak f l:=by
 have:=rT (M:=0) h
 simpa using this
end
def a9 (l:List Account) (no:Int):Int:=match l.find? (fun x => decide (x.No = no)) with
 | some x => x.Kind
 | none => 0
def aa (l:List Instr) (no:Int):Int:=match l.find? (fun x => decide (x.No = no)) with
 | some x => x.Kind
 | none => 0
theorem fm {l:List Account} {no i:Int} (h0:0 ≤ i ∧ i < l.length) (hb:∀ j:Int,0 ≤ j → j < i → (rd l j).No ≠ no) (h:(rd l i).No = no):a9 l no = (rd l i).Kind:=by
 rw [a9,mP h0 (fun j h1 h2 => by simpa using hb j h1 h2) (by simpa using h)]
theorem ib {l:List Account} {no i:Int} (h0:¬ i < l.length) (hb:∀ j:Int,0 ≤ j → j < i → (rd l j).No ≠ no):a9 l no = 0:=by
 rw [a9,mQ h0 (fun j h1 h2 => by simpa using hb j h1 h2)]
theorem fA {l:List Instr} {no i:Int} (h0:0 ≤ i ∧ i < l.length) (hb:∀ j:Int,0 ≤ j → j < i → (rd l j).No ≠ no) (h:(rd l i).No = no):aa l no = (rd l i).Kind:=by
 rw [aa,mP h0 (fun j h1 h2 => by simpa using hb j h1 h2) (by simpa using h)]
theorem ip {l:List Instr} {no i:Int} (h0:¬ i < l.length) (hb:∀ j:Int,0 ≤ j → j < i → (rd l j).No ≠ no):aa l no = 0:=by
 rw [aa,mQ h0 (fun j h1 h2 => by simpa using hb j h1 h2)]
def jO (c:Int) (x:Bal):Int:=if x.Instr = c then x.Amount else 0
def bJ (l:List Bal) (c:Int):Int:=ak (jO c) l
def aK (l:List Bal) (a c:Int):Int:=match l.find? (fun x => decide (x.Account = a ∧ x.Instr = c)) with
 | some x => x.Amount
 | none => 0
theorem kC {l:List Bal} {a c i:Int} (h0:0 ≤ i ∧ i < l.length) (hb:∀ j:Int,0 ≤ j → j < i → ¬ ((rd l j).Account = a ∧ (rd l j).Instr = c)) (h:(rd l i).Account = a ∧ (rd l i).Instr = c):aK l a c = (rd l i).Amount:=by
 rw [aK,mP h0 (fun j h1 h2 => by simpa using hb j h1 h2) (by simpa using h)]
theorem nN {l:List Bal} {a c i:Int} (h0:¬ i < l.length) (hb:∀ j:Int,0 ≤ j → j < i → ¬ ((rd l j).Account = a ∧ (rd l j).Instr = c)):aK l a c = 0:=by
 rw [aK,mQ h0 (fun j h1 h2 => by simpa using hb j h1 h2)]
def BSd (l:List Bal):Prop:=∀ i:Int,0 < i → i < l.length → bef (rd l (i - 1)).Account (rd l (i - 1)).Instr (rd l i).Account (rd l i).Instr
theorem BalsOk.sd {l:List Bal} (h:BalsOk l):BSd l:=fun i h0 h1 => (h.1 i (by omega) h1).2.2.2.2 h0
theorem ji {a b c d e f:Int} (h:bef a b c d) (k:bef c d e f):bef a b e f:=by unfold bef at *;omega
theorem BSd.lt {l:List Bal} (h:BSd l) {i j:Int} (h0:0 ≤ i) (hij:i < j) (hj:j < l.length):bef (rd l i).Account (rd l i).Instr (rd l j).Account (rd l j).Instr:=by
 obtain ⟨n,rfl⟩:∃ n:Nat,j = i + 1 + n:=⟨(j - i - 1).toNat,by omega⟩
 induction n with
 | zero =>
   have:=h (i + 1 + (0:Nat)) (by omega) hj
   rwa [show i + 1 + ((0:Nat):Int) - 1 = i from by omega] at this
 | succ n ih =>
   have h1:=h (i + 1 + (n + 1:Nat)) (by omega) hj
   rw [show i + 1 + ((n + 1:Nat):Int) - 1 = i + 1 + (n:Int) from by omega] at h1
   exact ji (ih (by omega) (by omega)) h1
instance (a b c d:Int):Decidable (bef a b c d):=by unfold bef;infer_instance
theorem tW {α:Type} [Enc α] {l:List α} {p:α → Bool} {i:Int} (h0:0 ≤ i ∧ i ≤ l.length) (hb:∀ j:Int,0 ≤ j → j < i → ¬ p (rd l j) = true) (hi:i < l.length → p (rd l i) = true):((l.findIdx p:Nat):Int) = i:=by
 have hg:∀ (j:Nat) (hj:j < l.length),rd l (j:Int) = l[j]:=fun j hj => by simp [rd,List.getD_eq_getElem?_getD,hj]
 have hle:=List.findIdx_le_length (xs:=l) (p:=p)
 rcases Nat.lt_trichotomy (l.findIdx p) i.toNat with h | h | h
 ·have h1:l.findIdx p < l.length:=by omega
  have h2:=List.findIdx_getElem (w:=h1)
  rw [← hg _ h1] at h2
  exact absurd h2 (hb _ (by omega) (by omega))
 ·omega
 ·have h1:i.toNat < l.length:=by omega
  have h2:=List.not_of_lt_findIdx h
  rw [← hg _ h1,show ((i.toNat:Nat):Int) = i from by omega] at h2
  rw [hi (by omega)] at h2
  simp at h2
def bIx (l:List Bal) (a c:Int):Int:=(l.findIdx (fun x => decide (¬ bef x.Account x.Instr a c)):Nat)
def ic (l:List Bal) (a c:Int):Prop:=∃ x ∈ l,x.Account = a ∧ x.Instr = c
theorem jd {l:List Bal} {a c i:Int} (h0:0 ≤ i ∧ i ≤ l.length) (hb:∀ j:Int,0 ≤ j → j < i → bef (rd l j).Account (rd l j).Instr a c) (hi:i < l.length → ¬ bef (rd l i).Account (rd l i).Instr a c):bIx l a c = i :=
 tW h0 (fun j h1 h2 => by simpa using hb j h1 h2) (fun h => by simpa using hi h)
theorem dI (l:List Bal) (a c:Int):0 ≤ bIx l a c ∧ bIx l a c ≤ l.length:=⟨by unfold bIx;omega,by unfold bIx;have:=List.findIdx_le_length (xs:=l) (p:=fun x => decide (¬ bef x.Account x.Instr a c));omega⟩
theorem mB {l:List Bal} {a c j:Int} (h0:0 ≤ j) (h:j < bIx l a c):bef (rd l j).Account (rd l j).Instr a c:=by
 have h1:j.toNat < l.findIdx (fun x => decide (¬ bef x.Account x.Instr a c)):=by unfold bIx at h;omega
 have h2:=List.not_of_lt_findIdx h1
 have hl:j.toNat < l.length:=by have:=List.findIdx_le_length (xs:=l) (p:=fun x => decide (¬ bef x.Account x.Instr a c));omega
 have e:l[j.toNat] = rd l j:=by simp [rd,List.getD_eq_getElem?_getD,hl]
 rw [e] at h2
 simpa using h2
theorem tf {l:List Bal} {a c:Int} (h:bIx l a c < l.length):¬ bef (rd l (bIx l a c)).Account (rd l (bIx l a c)).Instr a c:=by
 have h1:l.findIdx (fun x => decide (¬ bef x.Account x.Instr a c)) < l.length:=by unfold bIx at h;omega
 have h2:=List.findIdx_getElem (w:=h1)
 have e:l[l.findIdx (fun x => decide (¬ bef x.Account x.Instr a c))] = rd l (bIx l a c):=by
  show _ = l.getD ((l.findIdx (fun x => decide (¬ bef x.Account x.Instr a c)):Nat):Int).toNat _
  rw [Int.toNat_natCast,List.getD_eq_getElem?_getD,List.getElem?_eq_getElem h1]
  rfl
 rw [e] at h2
 simpa using h2
theorem gM {l:List Bal} (hs:BSd l) {a c:Int} (h:ic l a c):bIx l a c < l.length ∧ (rd l (bIx l a c)).Account = a ∧ (rd l (bIx l a c)).Instr = c:=by
 obtain ⟨x,hx,h1,h2⟩:=h
 obtain ⟨j,hj,rfl⟩:=bj hx
 have e:bIx l a c = j:=jd ⟨hj.1,by omega⟩ (fun k h3 h4 => by have:=hs.lt h3 h4 hj.2;rwa [h1,h2] at this) (fun _ => by rw [h1,h2];unfold bef;omega)
 rw [e]
 exact ⟨hj.2,h1,h2⟩
theorem qO {l:List Bal} (hs:BSd l) {a c i:Int} (h0:0 ≤ i ∧ i < l.length) (hb:∀ j:Int,0 ≤ j → j < i → bef (rd l j).Account (rd l j).Instr a c) (hi:¬ bef (rd l i).Account (rd l i).Instr a c):ic l a c ↔ (rd l i).Account = a ∧ (rd l i).Instr = c:=by
 constructor
 ·intro h
  obtain ⟨h1,h2⟩:=gM hs h
  rwa [jd ⟨h0.1,by omega⟩ hb (fun _ => hi)] at h2
 ·intro h
  exact ⟨_,az h0,h⟩
theorem vA {l:List Bal} {a c i:Int} (h0:¬ i < l.length) (hb:∀ j:Int,0 ≤ j → j < i → bef (rd l j).Account (rd l j).Instr a c):¬ ic l a c:=by
 rintro ⟨x,hx,h1,h2⟩
 obtain ⟨j,hj,rfl⟩:=bj hx
 have:=hb j hj.1 (by omega)
 rw [h1,h2] at this
 unfold bef at this
 omega
theorem m4 {l:List Bal} (hs:BSd l) {a c:Int} (h:ic l a c):aK l a c = (rd l (bIx l a c)).Amount:=by
 obtain ⟨h1,h2⟩:=gM hs h
 exact kC ⟨(dI l a c).1,h1⟩ (fun j h3 h4 => by have:=mB h3 h4;unfold bef at this;omega) h2
theorem jh {l:List Bal} {a c:Int} (h:¬ ic l a c):aK l a c = 0:=by
 rw [nN (i:=l.length) (by omega)]
 intro j h1 h2 h3
 exact h ⟨_,az ⟨h1,h2⟩,h3⟩
theorem iD {l:List Bal} (h:BalsOk l) (c:Int):∀ x ∈ l,-1000000000000000 ≤ jO c x ∧ jO c x ≤ 1000000000000000:=by
 intro x hx
 obtain ⟨i,hi,rfl⟩:=bj hx
 have:=(h.1 i hi.1 hi.2).2.2.1
 unfold ai inP at this
 unfold jO
 split <;> omega
theorem fp {l:List Bal} {c i:Int} (h:0 ≤ i ∧ i < l.length):bJ (pf l (i + 1)) c = bJ (pf l i) c + jO c (rd l i):=cq h
theorem kB {c:Int} {x:Bal} (h:x.Instr = c):jO c x = x.Amount:=if_pos h
theorem mC {c:Int} {x:Bal} (h:¬ x.Instr = c):jO c x = 0:=if_neg h
end
section
open Go.RowKit
theorem cT {l:List Account} {no:Int}:FC Tryz.prog 138 [.c (.row 0 0 l.length),I no] ([ro 42 l]) (I (a9 l no)) ([ro 42 l]):=by
 refine ay tk 20 [.tmp 4] Tryz.func138 (by kernel_rfl) rfl rfl rfl rfl rfl rfl rfl ?_
 refine cw l 0 rfl (fun hl => ?_)
 repeat' (first
| apply yds;rfl
| apply yd;rfl
| refine nv ?_
| fail)
 refine wlp (X:=Int) [1,7,8] [0] (fun i => [(9,I i)]) (fun _ => []) (fun i => 0 ≤ i ∧ i ≤ l.length ∧ ∀ j:Int,0 ≤ j → j < i → (rd l j).No ≠ no) (fun i => (l.length - i).toNat) 0 ⟨by omega,by omega,fun j h0 h1 => by omega⟩ rfl rfl (fun _ => rfl) (fun _ => rfl) ⟨rfl,rfl,rfl,rfl,rfl,rfl,rfl,rfl⟩ (fun i hi => ?_)
 obtain ⟨h0,hi,hall⟩:=hi
 repeat' (first
| apply yds;rfl
| apply yd;rfl
| intro _
| refine nv ?_
| apply wct rfl
| apply wcf rfl
| apply ah rfl
| apply aj;rfl
| apply yar;rfl;omega
| apply yix;rfl;omega
| apply yle;rfl;omega
| fail)
 all_goals first
  | exact cW [0] rfl rfl rfl rfl rfl rfl (fm ⟨by omega,by omega⟩ hall (by assumption))
  | exact cW [0] rfl rfl rfl rfl rfl rfl (ib (by assumption) hall)
  | exact aB (i + 1) [0] ⟨rfl,rfl,rfl,rfl,rfl,rfl,rfl,rfl⟩ ⟨by omega,by omega,ax hall (by assumption)⟩ (by first | omega | (dsimp only;omega))
theorem cM {l:List Instr} {no:Int}:FC Tryz.prog 235 [.c (.row 0 0 l.length),I no] ([ro 74 l]) (I (aa l no)) ([ro 74 l]):=by
 refine ay tk 20 [.tmp 4] Tryz.func235 (by kernel_rfl) rfl rfl rfl rfl rfl rfl rfl ?_
 refine cw l 0 rfl (fun hl => ?_)
 repeat' (first
| apply yds;rfl
| apply yd;rfl
| refine nv ?_
| fail)
 refine wlp (X:=Int) [1,7,8] [0] (fun i => [(9,I i)]) (fun _ => []) (fun i => 0 ≤ i ∧ i ≤ l.length ∧ ∀ j:Int,0 ≤ j → j < i → (rd l j).No ≠ no) (fun i => (l.length - i).toNat) 0 ⟨by omega,by omega,fun j h0 h1 => by omega⟩ rfl rfl (fun _ => rfl) (fun _ => rfl) ⟨rfl,rfl,rfl,rfl,rfl,rfl,rfl,rfl⟩ (fun i hi => ?_)
 obtain ⟨h0,hi,hall⟩:=hi
 repeat' (first
| apply yds;rfl
| apply yd;rfl
| intro _
| refine nv ?_
| apply wct rfl
| apply wcf rfl
| apply ah rfl
| apply aj;rfl
| apply yar;rfl;omega
| apply yix;rfl;omega
| apply yle;rfl;omega
| fail)
 all_goals first
  | exact cW [0] rfl rfl rfl rfl rfl rfl (fA ⟨by omega,by omega⟩ hall (by assumption))
  | exact cW [0] rfl rfl rfl rfl rfl rfl (ip (by assumption) hall)
  | exact aB (i + 1) [0] ⟨rfl,rfl,rfl,rfl,rfl,rfl,rfl,rfl⟩ ⟨by omega,by omega,ax hall (by assumption)⟩ (by first | omega | (dsimp only;omega))
theorem aM {l:List Account} {no:Int}:FC Tryz.prog 133 [.c (.row 0 0 l.length),I no] ([ro 42 l]) (I (pick (aO l) (a9 l no) 0)) ([ro 42 l]):=by
 refine ay tk 28 [.tmp 4] Tryz.func133 (by kernel_rfl) rfl rfl rfl rfl rfl rfl rfl ?_
 refine cw l 0 rfl (fun hl => ?_)
 repeat' (first
| apply yd;rfl
| refine nv ?_
| fail)
 refine wlp (X:=Int) [0,1] [0] (fun i => [(5,I i)]) (fun _ => []) (fun i => 0 ≤ i ∧ i ≤ l.length ∧ ∀ j:Int,0 ≤ j → j < i → (rd l j).No ≠ no) (fun i => (l.length - i).toNat) 0 ⟨by omega,by omega,fun j h0 h1 => by omega⟩ rfl rfl (fun _ => rfl) (fun _ => rfl) ⟨rfl,rfl,rfl,rfl,rfl,rfl,rfl,rfl⟩ (fun i hi => ?_)
 obtain ⟨h0,hi,hall⟩:=hi
 repeat' (first
| apply yds;rfl
| apply yd;rfl
| intro _
| refine nv ?_
| apply wct rfl
| apply wcf rfl
| apply ah rfl
| apply aj;rfl
| apply yar;rfl;omega
| apply yix;rfl;omega
| apply yle;rfl;omega
| apply ycp;rfl;exact bP;rfl
| fail)
 all_goals first
  | exact cW [0] rfl rfl rfl rfl rfl rfl (by rw [aJ (by assumption)];exact fm ⟨by omega,by omega⟩ hall (by assumption))
  | exact cW [0] rfl rfl rfl rfl rfl rfl (by rw [aD (by assumption)])
  | exact cW [0] rfl rfl rfl rfl rfl rfl (by rw [ib (by assumption) hall];unfold pick;split <;> rfl)
  | exact aB (i + 1) [0] ⟨rfl,rfl,rfl,rfl,rfl,rfl,rfl,rfl⟩ ⟨by omega,by omega,ax hall (by assumption)⟩ (by first | omega | (dsimp only;omega))
theorem aU {l:List Instr} {no:Int}:FC Tryz.prog 52 [.c (.row 0 0 l.length),I no] ([ro 74 l]) (I (pick (bA l) (aa l no) 0)) ([ro 74 l]):=by
 refine ay tk 28 [.tmp 4] Tryz.func52 (by kernel_rfl) rfl rfl rfl rfl rfl rfl rfl ?_
 refine cw l 0 rfl (fun hl => ?_)
 repeat' (first
| apply yd;rfl
| refine nv ?_
| fail)
 refine wlp (X:=Int) [0,1] [0] (fun i => [(5,I i)]) (fun _ => []) (fun i => 0 ≤ i ∧ i ≤ l.length ∧ ∀ j:Int,0 ≤ j → j < i → (rd l j).No ≠ no) (fun i => (l.length - i).toNat) 0 ⟨by omega,by omega,fun j h0 h1 => by omega⟩ rfl rfl (fun _ => rfl) (fun _ => rfl) ⟨rfl,rfl,rfl,rfl,rfl,rfl,rfl,rfl⟩ (fun i hi => ?_)
 obtain ⟨h0,hi,hall⟩:=hi
 repeat' (first
| apply yds;rfl
| apply yd;rfl
| intro _
| refine nv ?_
| apply wct rfl
| apply wcf rfl
| apply ah rfl
| apply aj;rfl
| apply yar;rfl;omega
| apply yix;rfl;omega
| apply yle;rfl;omega
| apply ycp;rfl;exact cg;rfl
| fail)
 all_goals first
  | exact cW [0] rfl rfl rfl rfl rfl rfl (by rw [aJ (by assumption)];exact fA ⟨by omega,by omega⟩ hall (by assumption))
  | exact cW [0] rfl rfl rfl rfl rfl rfl (by rw [aD (by assumption)])
  | exact cW [0] rfl rfl rfl rfl rfl rfl (by rw [ip (by assumption) hall];unfold pick;split <;> rfl)
  | exact aB (i + 1) [0] ⟨rfl,rfl,rfl,rfl,rfl,rfl,rfl,rfl⟩ ⟨by omega,by omega,ax hall (by assumption)⟩ (by first | omega | (dsimp only;omega))
theorem mT {l:List Bal} {c:Int} (hok:BalsOk l):FC Tryz.prog 164 [.c (.row 0 0 l.length),I c] ([ro 135 l]) (I (bJ l c)) ([ro 135 l]):=by
 refine ay tk 24 [.tmp 4] Tryz.func164 (by kernel_rfl) rfl rfl rfl rfl rfl rfl rfl ?_
 have hl:=hok.2
 repeat' (first
| apply yds;rfl
| apply yd;rfl
| refine nv ?_
| fail)
 refine wlp (X:=Int × Int) [1,8,9] [0] (fun x => [(10,I x.1),(5,I x.2)]) (fun _ => []) (fun x => 0 ≤ x.1 ∧ x.1 ≤ l.length ∧ x.2 = bJ (pf l x.1) c) (fun x => (l.length - x.1).toNat) (0,0) ⟨by dsimp only;omega,by dsimp only;omega,rfl⟩ rfl rfl (fun _ => rfl) (fun _ => rfl) ⟨rfl,rfl,rfl,rfl,rfl,rfl,rfl,rfl⟩ (fun x hx => ?_)
 obtain ⟨i,n⟩:=x
 obtain ⟨h0,hi,hn⟩:=hx
 dsimp only at h0 hi hn ⊢
 have hb:=eC (iD hok c) ⟨h0,hi⟩
 have hs:=fun h => fp (l:=l) (c:=c) (i:=i) ⟨h0,h⟩
 have hb2:=fun (h:i < l.length) => iD hok c _ (az ⟨h0,h⟩)
 rw [show ak (jO c) (pf l i) = n from hn.symm] at hb
 have hb3:=fun (h:i < l.length) (e:(rd l i).Instr = c) => (kB e ▸ hb2 h:-1000000000000000 ≤ (rd l i).Amount ∧ (rd l i).Amount ≤ 1000000000000000)
 repeat' (first
| apply yds;rfl
| apply yd;rfl
| intro _
| refine nv ?_
| apply wct rfl
| apply wcf rfl
| apply ah rfl
| apply aj;rfl
| apply yar;rfl;omega
| apply yix;rfl;omega
| apply yle;rfl;omega
| fail)
 ·rename_i h e
  have:=hb3 h e
  repeat' (first
| fail)
  exact aB (i + 1,_) [0] ⟨rfl,rfl,rfl,rfl,rfl,rfl,rfl,rfl⟩ ⟨by dsimp only;omega,by dsimp only;omega,by dsimp only;rw [hs h,kB e,hn]⟩ (by first | omega | (dsimp only;omega))
 ·rename_i h e
  exact aB (i + 1,_) [0] ⟨rfl,rfl,rfl,rfl,rfl,rfl,rfl,rfl⟩ ⟨by dsimp only;omega,by dsimp only;omega,by dsimp only;rw [hs h,mC e,hn,Int.add_zero]⟩ (by first | omega | (dsimp only;omega))
 ·rename_i h
  exact cW [0] rfl rfl rfl rfl rfl rfl (by rw [hn,b8 h])
theorem i7 {x:Int}:FC Tryz.prog 321 [I x,B true] ([]) (sel (ai x) (.tup [I x,B true]) (.tup [I 0,B false])) (sel (ai x) [] []):=by
 refine ay tk 14 [.tmp 4,.tmp 5] Tryz.func321 (by kernel_rfl) rfl rfl rfl rfl rfl rfl rfl ?_
 repeat' (first
| apply yds;rfl
| intro _
| refine nv ?_
| apply wct rfl
| apply wcf rfl
| apply ycp;rfl;exact bz;rfl
| fail)
 all_goals first | exact jl (by assumption) [] rfl rfl rfl rfl rfl rfl | exact cD (by assumption) [] rfl rfl rfl rfl rfl rfl
theorem i6 {x:Int}:FC Tryz.prog 321 [I x,B false] ([]) (.tup [I 0,B false]) ([]):=by
 refine ay tk 14 [.tmp 4,.tmp 5] Tryz.func321 (by kernel_rfl) rfl rfl rfl rfl rfl rfl rfl ?_
 repeat' (first
| apply yds;rfl
| refine nv ?_
| apply wct rfl
| fail)
 all_goals exact au [] rfl rfl rfl rfl rfl rfl
theorem dz {l:List Bal} {a c:Int}:FC Tryz.prog 170 [.c (.row 0 0 l.length),I a,I c] ([ro 135 l]) (I (aK l a c)) ([ro 135 l]):=by
 refine ay tk 35 [.tmp 6] Tryz.func170 (by kernel_rfl) rfl rfl rfl rfl rfl rfl rfl ?_
 refine cw l 0 rfl (fun hl => ?_)
 repeat' (first
| apply yd;rfl
| refine nv ?_
| fail)
 refine wlp (X:=Int) [0,1,2] [0] (fun i => [(7,I i)]) (fun _ => []) (fun i => 0 ≤ i ∧ i ≤ l.length ∧ ∀ j:Int,0 ≤ j → j < i → ¬ ((rd l j).Account = a ∧ (rd l j).Instr = c)) (fun i => (l.length - i).toNat) 0 ⟨by omega,by omega,fun j h0 h1 => by omega⟩ rfl rfl (fun _ => rfl) (fun _ => rfl) ⟨rfl,rfl,rfl,rfl,rfl,rfl,rfl,rfl⟩ (fun i hi => ?_)
 obtain ⟨h0,hi,hall⟩:=hi
 repeat' (first
| apply yds;rfl
| apply yd;rfl
| intro _
| refine nv ?_
| apply wct rfl
| apply wcf rfl
| apply ah rfl
| apply aj;rfl
| apply yar;rfl;omega
| apply yix;rfl;omega
| apply yle;rfl;omega
| fail)
 all_goals first
  | exact cW [0] rfl rfl rfl rfl rfl rfl (kC ⟨by omega,by omega⟩ hall ⟨by assumption,by assumption⟩)
  | exact cW [0] rfl rfl rfl rfl rfl rfl (nN (by assumption) hall)
  | exact aB (i + 1) [0] ⟨rfl,rfl,rfl,rfl,rfl,rfl,rfl,rfl⟩ ⟨by omega,by omega,ax hall (fun e => by first | exact absurd e.1 (by assumption) | exact absurd e.2 (by assumption))⟩ (by first | omega | (dsimp only;omega))
theorem gO {a b c d:Int} (h:gc a b c d ≥ 0):¬ bef a b c d:=fun k => by have:=byBoth_lt.2 k;omega
theorem byBoth_eq {a b c d:Int}:gc a b c d = 0 ↔ a = c ∧ b = d:=by
 unfold gc
 by_cases h:bef a b c d
 ·rw [aJ h]
  unfold bef at h
  constructor
  ·intro h1;omega
  ·intro h1;omega
 ·rw [aD h]
  by_cases h2:a = c ∧ b = d
  ·rw [aJ h2];simp [h2]
  ·rw [aD h2]
   constructor
   ·intro h1;omega
   ·intro h1;exact absurd h1 h2
theorem ea {l:List Bal} {a c:Int} (hs:BSd l):FC Tryz.prog 229 [.c (.row 0 0 l.length),I a,I c] ([ro 135 l]) (sel (ic l a c) (.tup [I (bIx l a c),B true]) (.tup [I (bIx l a c),B false])) (sel (ic l a c) [ro 135 l] [ro 135 l]):=by
 refine ay tk 33 [.tmp 6,.tmp 7] Tryz.func229 (by kernel_rfl) rfl rfl rfl rfl rfl rfl rfl ?_
 refine cw l 0 rfl (fun hl => ?_)
 repeat' (first
| apply yds;rfl
| refine nv ?_
| fail)
 refine wlp (X:=Int) [0,1,2,11,12] [0] (fun i => [(13,I i)]) (fun _ => []) (fun i => 0 ≤ i ∧ i ≤ l.length ∧ ∀ j:Int,0 ≤ j → j < i → bef (rd l j).Account (rd l j).Instr a c) (fun i => (l.length - i).toNat) 0 ⟨by omega,by omega,fun j h0 h1 => by omega⟩ rfl rfl (fun _ => rfl) (fun _ => rfl) ⟨rfl,rfl,rfl,rfl,rfl,rfl,rfl,rfl⟩ (fun i hi => ?_)
 obtain ⟨h0,hi,hall⟩:=hi
 repeat' (first
| apply yds;rfl
| apply yd;rfl
| intro _
| refine nv ?_
| apply wct rfl
| apply wcf rfl
| apply ah rfl
| apply aj;rfl
| apply yar;rfl;omega
| apply yix;rfl;omega
| apply yle;rfl;omega
| apply yc;rfl;exact gn;rfl;exact fun _ => rfl
| fail)
 ·rename_i h1 h2 h3
  rw [jd ⟨by omega,by omega⟩ hall (fun _ => gO h2)]
  exact jl ((qO hs ⟨h0,h1⟩ hall (gO h2)).2 (byBoth_eq.1 h3)) [0] rfl rfl rfl rfl rfl rfl
 ·rename_i h1 h2 h3
  rw [jd ⟨by omega,by omega⟩ hall (fun _ => gO h2)]
  exact cD (fun k => h3 (byBoth_eq.2 ((qO hs ⟨h0,h1⟩ hall (gO h2)).1 k))) [0] rfl rfl rfl rfl rfl rfl
 ·rename_i h1 h2
  exact aB (i + 1) [0] ⟨rfl,rfl,rfl,rfl,rfl,rfl,rfl,rfl⟩ ⟨by omega,by omega,ax hall (byBoth_lt.1 (by omega))⟩ (by first | omega | (dsimp only;omega))
 ·rename_i h1
  rw [jd (i:=l.length) ⟨by omega,by omega⟩ (fun j h2 h3 => hall j h2 (by omega)) (fun h => by omega)]
  exact cD (vA h1 hall) [0] rfl rfl rfl rfl rfl rfl
theorem fx {l:List Bal} {a c:Int} (hs:BSd l):FC Tryz.prog 118 [.c (.row 0 0 l.length),I a,I c] ([ro 135 l]) (I (aK l a c)) ([ro 135 l]):=by
 refine ay tk 23 [.tmp 6] Tryz.func118 (by kernel_rfl) rfl rfl rfl rfl rfl rfl rfl ?_
 have hb:=dI l a c
 repeat' (first
| apply yds;rfl
| apply yd;rfl
| intro _
| refine nv ?_
| apply wct rfl
| apply wcf rfl
| apply zcs;(iterate 10 rfl);exact ea (by assumption);exact fun _ => rfl;exact fun _ => rfl;rfl;rfl;rfl;rfl
| fail)
 ·rename_i h
  have h1:=(gM hs h).1
  repeat' (first
| apply yd;rfl
| refine nv ?_
| apply yix;rfl;omega
| apply yle;rfl;omega
| fail)
  exact cW [0] rfl rfl rfl rfl rfl rfl (m4 hs h)
 ·rename_i h
  exact cW [0] rfl rfl rfl rfl rfl rfl (jh h)
end
section
open Go.RowKit
noncomputable def flt {α:Type} (p:α → Prop) (l:List α):List α:=l.filter (fun x => dB (p x))
noncomputable def fIx {α:Type} (l:List α) (q:α → Prop):Int:=(l.findIdx (fun x => dB (q x)):Nat)
section
variable {α:Type} [Enc α] {l:List α} {p q:α → Prop}
theorem mJ {p:Prop}:dB p = true ↔ p:=⟨oy,kM⟩
theorem cK (l:List α) (q:α → Prop):0 ≤ fIx l q ∧ fIx l q ≤ l.length:=⟨by unfold fIx;omega,by unfold fIx;have:=List.findIdx_le_length (xs:=l) (p:=fun x => dB (q x));omega⟩
theorem ii {i:Int} (h0:0 ≤ i ∧ i < l.length) (hb:∀ j:Int,0 ≤ j → j < i → ¬ q (rd l j)) (hi:q (rd l i)):fIx l q = i:=tW ⟨h0.1,by omega⟩ (fun j h1 h2 => by rw [mJ];exact hb j h1 h2) (fun _ => kM hi)
theorem ij (h:∃ x ∈ l,q x):fIx l q < l.length:=by
 obtain ⟨x,hx,hq⟩:=h
 have:l.findIdx (fun x => dB (q x)) < l.length:=List.findIdx_lt_length_of_exists ⟨x,hx,kM hq⟩
 unfold fIx
 omega
theorem ig (h:∃ x ∈ l,q x):q (rd l (fIx l q)):=by
 have h1:=ij h
 have h1':l.findIdx (fun x => dB (q x)) < l.length:=by unfold fIx at h1;omega
 have h2:=List.findIdx_getElem (w:=h1')
 have e:l[l.findIdx (fun x => dB (q x))] = rd l (fIx l q):=by
  show _ = l.getD ((l.findIdx (fun x => dB (q x)):Nat):Int).toNat _
  rw [Int.toNat_natCast,List.getD_eq_getElem?_getD,List.getElem?_eq_getElem h1']
  rfl
 rw [e] at h2
 exact oy h2
theorem fw {j:Int} (h0:0 ≤ j) (h:j < fIx l q):¬ q (rd l j):=by
 have h1:j.toNat < l.findIdx (fun x => dB (q x)):=by unfold fIx at h;omega
 have h2:=List.not_of_lt_findIdx h1
 have hl:j.toNat < l.length:=by have:=List.findIdx_le_length (xs:=l) (p:=fun x => dB (q x));omega
 have e:l[j.toNat] = rd l j:=by simp [rd,List.getD_eq_getElem?_getD,hl]
 rw [e] at h2
 exact tD (by simpa using h2)
theorem hJ {i:Int} (hi:¬ i < l.length) (h:∀ j:Int,0 ≤ j → j < i → ¬ q (rd l j)):¬ ∃ x ∈ l,q x:=by
 rintro ⟨x,hx,hq⟩
 obtain ⟨j,hj,rfl⟩:=bj hx
 exact h j hj.1 (by omega) hq
theorem aQ (a b:List α):flt p (a ++ b) = flt p a ++ flt p b:=List.filter_append _ _
theorem dM {x:α} (h:p x):flt p [x] = [x]:=by simp [flt,kM h]
theorem dj {x:α} (h:¬ p x):flt p [x] = []:=by simp [flt,qc h]
theorem cL (p:α → Prop) (l:List α):(flt p l).length ≤ l.length:=List.length_filter_le _ _
theorem mS (h:∀ x ∈ l,¬ q x):flt (fun x => ¬ q x) l = l:=List.filter_eq_self.2 fun x hx => kM (h x hx)
theorem flt_mem {x:α}:x ∈ flt p l ↔ x ∈ l ∧ p x:=by simp [flt,mJ]
theorem bB {i:Int} (h:0 ≤ i ∧ i < l.length):flt p (pf l (i + 1)) = flt p (pf l i) ++ flt p [rd l i]:=by rw [bL h,aQ]
structure DfI (l:List α) (q:α → Prop) (i j:Int) (xs:List α):Prop where
 bnd:0 ≤ i ∧ i < j ∧ j ≤ l.length
 len:xs.length = l.length
 pre:xs.take i.toNat = flt (fun x => ¬ q x) (pf l j)
 suf:xs.drop j.toNat = l.drop j.toNat
theorem DfI.init (h:∃ x ∈ l,q x):DfI l q (fIx l q) (fIx l q + 1) l:=by
 have h1:=ij h
 have h2:=cK l q
 refine ⟨⟨h2.1,by omega,by omega⟩,rfl,?_,rfl⟩
 rw [bB ⟨h2.1,h1⟩,dj (fun k => k (ig h)),List.append_nil]
 refine (mS fun x hx => ?_).symm
 obtain ⟨j,hj,rfl⟩:=bj (l:=pf l (fIx l q)) hx
 rw [bO ⟨h2.1,by omega⟩] at hj
 rw [rH hj]
 exact fw hj.1 hj.2
theorem DfI.rd {i j:Int} {xs:List α} (h:DfI l q i j xs) (hj:j < l.length):Sh.rd xs j = Sh.rd l j:=by
 have h1:=h.suf
 have h2:=h.bnd
 have e1:=d4 (l:=xs) (i:=j) ⟨by omega,by rw [h.len];exact hj⟩
 have e2:=d4 (l:=l) (i:=j) ⟨by omega,hj⟩
 rw [e1,e2] at h1
 exact (List.cons.inj h1).1
theorem DfI.skip {i j:Int} {xs:List α} (h:DfI l q i j xs) (hj:j < l.length) (hq:q (Sh.rd xs j)):DfI l q i (j + 1) xs:=by
 have h2:=h.bnd
 refine ⟨⟨h2.1,by omega,by omega⟩,h.len,?_,?_⟩
 ·rw [bB ⟨by omega,hj⟩,dj (fun k => k (by rw [← h.rd hj];exact hq)),List.append_nil]
  exact h.pre
 ·have e1:=d4 (l:=xs) (i:=j) ⟨by omega,by rw [h.len];exact hj⟩
  have e2:=d4 (l:=l) (i:=j) ⟨by omega,hj⟩
  have h1:=h.suf
  rw [e1,e2] at h1
  exact (List.cons.inj h1).2
theorem DfI.keep {i j:Int} {xs:List α} (h:DfI l q i j xs) (hj:j < l.length) (hq:¬ q (Sh.rd xs j)):DfI l q (i + 1) (j + 1) (upd xs i (Sh.rd xs j)):=by
 have h2:=h.bnd
 have hlen:=h.len
 refine ⟨⟨by omega,by omega,by omega⟩,by rw [aE];exact h.len,?_,?_⟩
 ·rw [bB ⟨by omega,hj⟩,dM (p:=fun x => ¬ q x) (by rw [← h.rd hj];exact hq),← h.pre,show (i + 1).toNat = i.toNat + 1 from by omega,List.take_add_one,upd,List.take_set_of_le (Nat.le_refl _),List.getElem?_set_self (by omega),h.rd hj]
  rfl
 ·have e1:=d4 (l:=xs) (i:=j) ⟨by omega,by rw [h.len];exact hj⟩
  have e2:=d4 (l:=l) (i:=j) ⟨by omega,hj⟩
  have h1:=h.suf
  rw [e1,e2] at h1
  rw [← (List.cons.inj h1).2,upd,List.drop_set_of_lt (by omega)]
theorem DfI.fin {i j:Int} {xs:List α} (h:DfI l q i j xs) (hj:¬ j < l.length):xs.take i.toNat = flt (fun x => ¬ q x) l:=by rw [h.pre,b8 hj]
theorem DfI.len2 {i j:Int} {xs:List α} (h:DfI l q i j xs) (hj:¬ j < l.length):i.toNat = (flt (fun x => ¬ q x) l).length:=by
 rw [← h.fin hj,List.length_take]
 have:=h.bnd
 have:=h.len
 omega
end
end
end Go.Proofs.YtgehbhkfehmdkaaGreat.Sh
