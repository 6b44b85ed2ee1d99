/- Lists: what is found first, what is added up, what comes ahead. No condition. -/
import Derived.Test.YtgehbhkfehmdkaaGreatKCeShX
import Derived.Test.YtgehbhkfehmdkaaGreatKCeShSl
import Derived.Test.YtgehbhkfehmdkaaGreatKCeShV
set_option maxRecDepth 100000
set_option maxHeartbeats 40000000
set_option linter.unusedSectionVars false
set_option linter.unusedSimpArgs false
set_option linter.unusedVariables false
namespace Go.Proofs.YtgehbhkfehmdkaaGreat.Sh
section
open Go.RowKit
section
variable {α:Type} [Enc α]
def pf {α:Type} (l:List α) (i:Int):List α:=l.take i.toNat
theorem v8 (l:List α):pf l 0 = []:=rfl
theorem ce {l:List α} {i:Int} (h:0 ≤ i ∧ i < l.length):pf l (i + 1) = pf l i ++ [rd l i]:=by
 have h1:i.toNat < l.length:=by omega
 unfold pf
 rw [show (i + 1).toNat = i.toNat + 1 from by omega,List.take_add_one]
 simp [rd,List.getD_eq_getElem?_getD,h1]
theorem aY {l:List α} {i:Int} (h:¬ i < l.length):pf l i = l:=List.take_of_length_le (by omega)
theorem bU {l:List α} {i:Int} (h:0 ≤ i ∧ i ≤ l.length):((pf l i).length:Int) = i:=by
 simp only [pf,List.length_take]
 omega
theorem ax {l:List α} {i:Int} (h:0 ≤ i ∧ i < l.length):rd l i ∈ l:=by
 have h1:i.toNat < l.length:=by omega
 simp only [rd,List.getD_eq_getElem?_getD,List.getElem?_eq_getElem h1,Option.getD_some]
 exact List.getElem_mem h1
theorem bL {l:List α} {x:α} (h:x ∈ l):∃ i:Int,(0 ≤ i ∧ i < l.length) ∧ rd l i = x:=by
 obtain ⟨n,hn,rfl⟩:=List.getElem_of_mem h
 exact ⟨n,⟨by omega,by omega⟩,by simp [rd,List.getD_eq_getElem?_getD,hn]⟩
theorem all_rd {l:List α} {p:α → Prop}:(∀ i:Int,0 ≤ i → i < l.length → p (rd l i)) ↔ ∀ x ∈ l,p x :=
 ⟨fun h x hx => by obtain ⟨i,hi,rfl⟩:=bL hx;exact h i hi.1 hi.2,fun h i h0 h1 => h _ (ax ⟨h0,h1⟩)⟩
theorem vd {l:List α} {i j:Int} (h:0 ≤ j ∧ j < i):rd (pf l i) j = rd l j:=by
 unfold rd pf
 rw [List.getD_eq_getElem?_getD,List.getD_eq_getElem?_getD,List.getElem?_take_of_lt (by omega)]
theorem qA {l:List α} {p:α → Bool} {i:Int} (h0:0 ≤ i ∧ i < l.length) (hb:∀ j:Int,0 ≤ j → j < i → ¬ p (rd l j) = true) (hp:p (rd l i) = true):l.find? p = some (rd l i):=by
 have h1:i.toNat < l.length:=by omega
 have e1:l[i.toNat] = rd l i:=by simp [rd,List.getD_eq_getElem?_getD,h1]
 rw [List.find?_eq_some_iff_getElem]
 refine ⟨hp,i.toNat,h1,e1,fun j hj => ?_⟩
 have:=hb j (by omega) (by omega)
 have e2:rd l (j:Int) = l[j]:=by simp [rd,List.getD_eq_getElem?_getD,show j < l.length from by omega]
 rw [e2] at this
 simpa using this
theorem qC {l:List α} {p:α → Bool} {i:Int} (hi:¬ i < l.length) (hb:∀ j:Int,0 ≤ j → j < i → ¬ p (rd l j) = true):l.find? p = none:=by
 rw [List.find?_eq_none]
 intro x hx
 obtain ⟨j,hj,rfl⟩:=bL hx
 exact hb j hj.1 (by omega)
def ar {α:Type} (f:α → Int) (l:List α):Int:=(l.map f).sum
theorem yJ (f:α → Int):ar f [] = 0:=rfl
theorem cK (f:α → Int) (a b:List α):ar f (a ++ b) = ar f a + ar f b:=by simp [ar]
theorem dx (f:α → Int) (x:α):ar f [x] = f x:=by simp [ar]
theorem bY (f:α → Int) (x:α) (l:List α):ar f (x :: l) = f x + ar f l:=by simp [ar]
theorem cM {f:α → Int} {l:List α} {i:Int} (h:0 ≤ i ∧ i < l.length):ar f (pf l (i + 1)) = ar f (pf l i) + f (rd l i):=by rw [ce h,cK,dx]
theorem vr {f:α → Int} {l:List α} {M:Int} (h:∀ x ∈ l,f x ≤ M):ar f l ≤ l.length * M:=by
 induction l with
 | nil => simp [ar]
 | cons x l ih =>
   rw [bY,List.length_cons]
   have h1:=h x (by simp)
   have h2:=ih (fun y hy => h y (by simp [hy]))
   have:((l.length + 1:Nat):Int) * M = l.length * M + M:=by push_cast;rw [Int.add_mul];omega
   omega
theorem vq {f:α → Int} {l:List α} {M:Int} (h:∀ x ∈ l,M ≤ f x):l.length * M ≤ ar f l:=by
 induction l with
 | nil => simp [ar]
 | cons x l ih =>
   rw [bY,List.length_cons]
   have h1:=h x (by simp)
   have h2:=ih (fun y hy => h y (by simp [hy]))
   have:((l.length + 1:Nat):Int) * M = l.length * M + M:=by push_cast;rw [Int.add_mul];omega
   omega
theorem eV {f:α → Int} {l:List α} {i:Int} (h:∀ x ∈ l,-1000000000000000 ≤ f x ∧ f x ≤ 1000000000000000) (hi:0 ≤ i ∧ i ≤ l.length):-1000000000000000 * i ≤ ar f (pf l i) ∧ ar f (pf l i) ≤ 1000000000000000 * i:=by
 have hm:∀ x ∈ pf l i,x ∈ l:=fun x hx => List.mem_of_mem_take hx
 have h1:=vr (M:=1000000000000000) (fun x hx => (h x (hm x hx)).2)
 have h2:=vq (M:=-1000000000000000) (fun x hx => (h x (hm x hx)).1)
 rw [bU hi] at h1 h2
 omega
theorem gI {f:α → Int} {l:List α} (h:∀ x ∈ l,0 ≤ f x):0 ≤ ar f l:=by
 have:=vq (M:=0) h
 simpa using this
end
def a9 (l:List Account) (no:Int):Int:=match l.find? (fun x => decide (x.No = no)) with
 | some x => x.Kind
 | none => 0
def ab (l:List Instr) (no:Int):Int:=match l.find? (fun x => decide (x.No = no)) with
 | some x => x.Kind
 | none => 0
theorem im {l:List Account} {no i:Int} (h0:0 ≤ i ∧ i < l.length) (hb:∀ j:Int,0 ≤ j → j < i → (rd l j).No ≠ no) (h:(rd l i).No = no):a9 l no = (rd l i).Kind:=by
 rw [a9,qA h0 (fun j h1 h2 => by simpa using hb j h1 h2) (by simpa using h)]
theorem km {l:List Account} {no i:Int} (h0:¬ i < l.length) (hb:∀ j:Int,0 ≤ j → j < i → (rd l j).No ≠ no):a9 l no = 0:=by
 rw [a9,qC h0 (fun j h1 h2 => by simpa using hb j h1 h2)]
theorem ku {l:List Instr} {no i:Int} (h0:0 ≤ i ∧ i < l.length) (hb:∀ j:Int,0 ≤ j → j < i → (rd l j).No ≠ no) (h:(rd l i).No = no):ab l no = (rd l i).Kind:=by
 rw [ab,qA h0 (fun j h1 h2 => by simpa using hb j h1 h2) (by simpa using h)]
theorem kv {l:List Instr} {no i:Int} (h0:¬ i < l.length) (hb:∀ j:Int,0 ≤ j → j < i → (rd l j).No ≠ no):ab l no = 0:=by
 rw [ab,qC h0 (fun j h1 h2 => by simpa using hb j h1 h2)]
def qm (c:Int) (x:Bal):Int:=if x.Instr = c then x.Amount else 0
def dI (l:List Bal) (c:Int):Int:=ar (qm c) l
def aW (l:List Bal) (a c:Int):Int:=match l.find? (fun x => decide (x.Account = a ∧ x.Instr = c)) with
 | some x => x.Amount
 | none => 0
theorem kJ {l:List Bal} {a c i:Int} (h0:0 ≤ i ∧ i < l.length) (hb:∀ j:Int,0 ≤ j → j < i → ¬ ((rd l j).Account = a ∧ (rd l j).Instr = c)) (h:(rd l i).Account = a ∧ (rd l i).Instr = c):aW l a c = (rd l i).Amount:=by
 rw [aW,qA h0 (fun j h1 h2 => by simpa using hb j h1 h2) (by simpa using h)]
theorem rU {l:List Bal} {a c i:Int} (h0:¬ i < l.length) (hb:∀ j:Int,0 ≤ j → j < i → ¬ ((rd l j).Account = a ∧ (rd l j).Instr = c)):aW l a c = 0:=by
 rw [aW,qC h0 (fun j h1 h2 => by simpa using hb j h1 h2)]
def BSd (l:List Bal):Prop:=∀ i:Int,0 < i → i < l.length → bef (rd l (i - 1)).Account (rd l (i - 1)).Instr (rd l i).Account (rd l i).Instr
theorem BalsOk.sd {l:List Bal} (h:BalsOk l):BSd l:=fun i h0 h1 => (h.1 i (by omega) h1).2.2.2.2 h0
theorem lB {a b c d e f:Int} (h:bef a b c d) (k:bef c d e f):bef a b e f:=by unfold bef at *;omega
theorem BSd.lt {l:List Bal} (h:BSd l) {i j:Int} (h0:0 ≤ i) (hij:i < j) (hj:j < l.length):bef (rd l i).Account (rd l i).Instr (rd l j).Account (rd l j).Instr:=by
 obtain ⟨n,rfl⟩:∃ n:Nat,j = i + 1 + n:=⟨(j - i - 1).toNat,by omega⟩
 induction n with
 | zero =>
   have:=h (i + 1 + (0:Nat)) (by omega) hj
   rwa [show i + 1 + ((0:Nat):Int) - 1 = i from by omega] at this
 | succ n ih =>
   have h1:=h (i + 1 + (n + 1:Nat)) (by omega) hj
   rw [show i + 1 + ((n + 1:Nat):Int) - 1 = i + 1 + (n:Int) from by omega] at h1
   exact lB (ih (by omega) (by omega)) h1
instance (a b c d:Int):Decidable (bef a b c d):=by unfold bef;infer_instance
theorem xi {α:Type} [Enc α] {l:List α} {p:α → Bool} {i:Int} (h0:0 ≤ i ∧ i ≤ l.length) (hb:∀ j:Int,0 ≤ j → j < i → ¬ p (rd l j) = true) (hi:i < l.length → p (rd l i) = true):((l.findIdx p:Nat):Int) = i:=by
 have hg:∀ (j:Nat) (hj:j < l.length),rd l (j:Int) = l[j]:=fun j hj => by simp [rd,List.getD_eq_getElem?_getD,hj]
 have hle:=List.findIdx_le_length (xs:=l) (p:=p)
 rcases Nat.lt_trichotomy (l.findIdx p) i.toNat with h | h | h
 ·have h1:l.findIdx p < l.length:=by omega
  have h2:=List.findIdx_getElem (w:=h1)
  rw [← hg _ h1] at h2
  exact absurd h2 (hb _ (by omega) (by omega))
 ·omega
 ·have h1:i.toNat < l.length:=by omega
  have h2:=List.not_of_lt_findIdx h
  rw [← hg _ h1,show ((i.toNat:Nat):Int) = i from by omega] at h2
  rw [hi (by omega)] at h2
  simp at h2
def bIx (l:List Bal) (a c:Int):Int:=(l.findIdx (fun x => decide (¬ bef x.Account x.Instr a c)):Nat)
def kH (l:List Bal) (a c:Int):Prop:=∃ x ∈ l,x.Account = a ∧ x.Instr = c
theorem lx {l:List Bal} {a c i:Int} (h0:0 ≤ i ∧ i ≤ l.length) (hb:∀ j:Int,0 ≤ j → j < i → bef (rd l j).Account (rd l j).Instr a c) (hi:i < l.length → ¬ bef (rd l i).Account (rd l i).Instr a c):bIx l a c = i :=
 xi h0 (fun j h1 h2 => by simpa using hb j h1 h2) (fun h => by simpa using hi h)
theorem eX (l:List Bal) (a c:Int):0 ≤ bIx l a c ∧ bIx l a c ≤ l.length:=⟨by unfold bIx;omega,by unfold bIx;have:=List.findIdx_le_length (xs:=l) (p:=fun x => decide (¬ bef x.Account x.Instr a c));omega⟩
theorem ql {l:List Bal} {a c j:Int} (h0:0 ≤ j) (h:j < bIx l a c):bef (rd l j).Account (rd l j).Instr a c:=by
 have h1:j.toNat < l.findIdx (fun x => decide (¬ bef x.Account x.Instr a c)):=by unfold bIx at h;omega
 have h2:=List.not_of_lt_findIdx h1
 have hl:j.toNat < l.length:=by have:=List.findIdx_le_length (xs:=l) (p:=fun x => decide (¬ bef x.Account x.Instr a c));omega
 have e:l[j.toNat] = rd l j:=by simp [rd,List.getD_eq_getElem?_getD,hl]
 rw [e] at h2
 simpa using h2
theorem wB {l:List Bal} {a c:Int} (h:bIx l a c < l.length):¬ bef (rd l (bIx l a c)).Account (rd l (bIx l a c)).Instr a c:=by
 have h1:l.findIdx (fun x => decide (¬ bef x.Account x.Instr a c)) < l.length:=by unfold bIx at h;omega
 have h2:=List.findIdx_getElem (w:=h1)
 have e:l[l.findIdx (fun x => decide (¬ bef x.Account x.Instr a c))] = rd l (bIx l a c):=by
  show _ = l.getD ((l.findIdx (fun x => decide (¬ bef x.Account x.Instr a c)):Nat):Int).toNat _
  rw [Int.toNat_natCast,List.getD_eq_getElem?_getD,List.getElem?_eq_getElem h1]
  rfl
 rw [e] at h2
 simpa using h2
theorem jC {l:List Bal} (hs:BSd l) {a c:Int} (h:kH l a c):bIx l a c < l.length ∧ (rd l (bIx l a c)).Account = a ∧ (rd l (bIx l a c)).Instr = c:=by
 obtain ⟨x,hx,h1,h2⟩:=h
 obtain ⟨j,hj,rfl⟩:=bL hx
 have e:bIx l a c = j:=lx ⟨hj.1,by omega⟩ (fun k h3 h4 => by have:=hs.lt h3 h4 hj.2;rwa [h1,h2] at this) (fun _ => by rw [h1,h2];unfold bef;omega)
 rw [e]
 exact ⟨hj.2,h1,h2⟩
theorem uu {l:List Bal} (hs:BSd l) {a c i:Int} (h0:0 ≤ i ∧ i < l.length) (hb:∀ j:Int,0 ≤ j → j < i → bef (rd l j).Account (rd l j).Instr a c) (hi:¬ bef (rd l i).Account (rd l i).Instr a c):kH l a c ↔ (rd l i).Account = a ∧ (rd l i).Instr = c:=by
 constructor
 ·intro h
  obtain ⟨h1,h2⟩:=jC hs h
  rwa [lx ⟨h0.1,by omega⟩ hb (fun _ => hi)] at h2
 ·intro h
  exact ⟨_,ax h0,h⟩
theorem yX {l:List Bal} {a c i:Int} (h0:¬ i < l.length) (hb:∀ j:Int,0 ≤ j → j < i → bef (rd l j).Account (rd l j).Instr a c):¬ kH l a c:=by
 rintro ⟨x,hx,h1,h2⟩
 obtain ⟨j,hj,rfl⟩:=bL hx
 have:=hb j hj.1 (by omega)
 rw [h1,h2] at this
 unfold bef at this
 omega
theorem pt {l:List Bal} (hs:BSd l) {a c:Int} (h:kH l a c):aW l a c = (rd l (bIx l a c)).Amount:=by
 obtain ⟨h1,h2⟩:=jC hs h
 exact kJ ⟨(eX l a c).1,h1⟩ (fun j h3 h4 => by have:=ql h3 h4;unfold bef at this;omega) h2
theorem pv {l:List Bal} {a c:Int} (h:¬ kH l a c):aW l a c = 0:=by
 rw [rU (i:=l.length) (by omega)]
 intro j h1 h2 h3
 exact h ⟨_,ax ⟨h1,h2⟩,h3⟩
theorem kI {l:List Bal} (h:BalsOk l) (c:Int):∀ x ∈ l,-1000000000000000 ≤ qm c x ∧ qm c x ≤ 1000000000000000:=by
 intro x hx
 obtain ⟨i,hi,rfl⟩:=bL hx
 have:=(h.1 i hi.1 hi.2).2.2.1
 unfold ak inP at this
 unfold qm
 split <;> omega
theorem ip {l:List Bal} {c i:Int} (h:0 ≤ i ∧ i < l.length):dI (pf l (i + 1)) c = dI (pf l i) c + qm c (rd l i):=cM h
theorem qn {c:Int} {x:Bal} (h:x.Instr = c):qm c x = x.Amount:=if_pos h
theorem wD {c:Int} {x:Bal} (h:¬ x.Instr = c):qm c x = 0:=if_neg h
end
section
open Go.RowKit
theorem cZ {l:List Account} {no:Int}:FC Tryz.prog 138 [.c (.row 0 0 l.length),I no] ([ro 42 l]) (I (a9 l no)) ([ro 42 l]):=by
 refine al tk 20 [.tmp 4] Tryz.func138 (by kernel_rfl) rfl rfl rfl rfl rfl rfl rfl ?_
 refine cj l 0 rfl (fun hl => ?_)
 repeat' (first
| apply yds;rfl
| apply yd;rfl
| refine nv ?_
| fail)
 refine wlp (X:=Int) [1,7,8] [0] (fun i => [(9,I i)]) (fun _ => []) (fun i => 0 ≤ i ∧ i ≤ l.length ∧ ∀ j:Int,0 ≤ j → j < i → (rd l j).No ≠ no) (fun i => (l.length - i).toNat) 0 ⟨by omega,by omega,fun j h0 h1 => by omega⟩ rfl rfl (fun _ => rfl) (fun _ => rfl) ⟨rfl,rfl,rfl,rfl,rfl,rfl,rfl,rfl⟩ (fun i hi => ?_)
 obtain ⟨h0,hi,hall⟩:=hi
 repeat' (first
| apply yds;rfl
| apply yd;rfl
| intro _
| refine nv ?_
| apply wct rfl
| apply wcf rfl
| apply ae rfl
| apply ag;rfl
| apply yar;rfl;omega
| apply yix;rfl;omega
| apply yle;rfl;omega
| fail)
 all_goals first
  | exact bO [0] rfl rfl rfl rfl rfl rfl (im ⟨by omega,by omega⟩ hall (by assumption))
  | exact bO [0] rfl rfl rfl rfl rfl rfl (km (by assumption) hall)
  | exact aA (i + 1) [0] ⟨rfl,rfl,rfl,rfl,rfl,rfl,rfl,rfl⟩ ⟨by omega,by omega,ay hall (by assumption)⟩ (by first | omega | (dsimp only;omega))
theorem dm {l:List Instr} {no:Int}:FC Tryz.prog 235 [.c (.row 0 0 l.length),I no] ([ro 74 l]) (I (ab l no)) ([ro 74 l]):=by
 refine al tk 20 [.tmp 4] Tryz.func235 (by kernel_rfl) rfl rfl rfl rfl rfl rfl rfl ?_
 refine cj l 0 rfl (fun hl => ?_)
 repeat' (first
| apply yds;rfl
| apply yd;rfl
| refine nv ?_
| fail)
 refine wlp (X:=Int) [1,7,8] [0] (fun i => [(9,I i)]) (fun _ => []) (fun i => 0 ≤ i ∧ i ≤ l.length ∧ ∀ j:Int,0 ≤ j → j < i → (rd l j).No ≠ no) (fun i => (l.length - i).toNat) 0 ⟨by omega,by omega,fun j h0 h1 => by omega⟩ rfl rfl (fun _ => rfl) (fun _ => rfl) ⟨rfl,rfl,rfl,rfl,rfl,rfl,rfl,rfl⟩ (fun i hi => ?_)
 obtain ⟨h0,hi,hall⟩:=hi
 repeat' (first
| apply yds;rfl
| apply yd;rfl
| intro _
| refine nv ?_
| apply wct rfl
| apply wcf rfl
| apply ae rfl
| apply ag;rfl
| apply yar;rfl;omega
| apply yix;rfl;omega
| apply yle;rfl;omega
| fail)
 all_goals first
  | exact bO [0] rfl rfl rfl rfl rfl rfl (ku ⟨by omega,by omega⟩ hall (by assumption))
  | exact bO [0] rfl rfl rfl rfl rfl rfl (kv (by assumption) hall)
  | exact aA (i + 1) [0] ⟨rfl,rfl,rfl,rfl,rfl,rfl,rfl,rfl⟩ ⟨by omega,by omega,ay hall (by assumption)⟩ (by first | omega | (dsimp only;omega))
theorem aS {l:List Account} {no:Int}:FC Tryz.prog 133 [.c (.row 0 0 l.length),I no] ([ro 42 l]) (I (pick (aL l) (a9 l no) 0)) ([ro 42 l]):=by
 refine al tk 28 [.tmp 4] Tryz.func133 (by kernel_rfl) rfl rfl rfl rfl rfl rfl rfl ?_
 refine cj l 0 rfl (fun hl => ?_)
 repeat' (first
| apply yd;rfl
| refine nv ?_
| fail)
 refine wlp (X:=Int) [0,1] [0] (fun i => [(5,I i)]) (fun _ => []) (fun i => 0 ≤ i ∧ i ≤ l.length ∧ ∀ j:Int,0 ≤ j → j < i → (rd l j).No ≠ no) (fun i => (l.length - i).toNat) 0 ⟨by omega,by omega,fun j h0 h1 => by omega⟩ rfl rfl (fun _ => rfl) (fun _ => rfl) ⟨rfl,rfl,rfl,rfl,rfl,rfl,rfl,rfl⟩ (fun i hi => ?_)
 obtain ⟨h0,hi,hall⟩:=hi
 repeat' (first
| apply yds;rfl
| apply yd;rfl
| intro _
| refine nv ?_
| apply wct rfl
| apply wcf rfl
| apply ae rfl
| apply ag;rfl
| apply yar;rfl;omega
| apply yix;rfl;omega
| apply yle;rfl;omega
| apply ycp;rfl;exact cq;rfl
| fail)
 all_goals first
  | exact bO [0] rfl rfl rfl rfl rfl rfl (by rw [aD (by assumption)];exact im ⟨by omega,by omega⟩ hall (by assumption))
  | exact bO [0] rfl rfl rfl rfl rfl rfl (by rw [aB (by assumption)])
  | exact bO [0] rfl rfl rfl rfl rfl rfl (by rw [km (by assumption) hall];unfold pick;split <;> rfl)
  | exact aA (i + 1) [0] ⟨rfl,rfl,rfl,rfl,rfl,rfl,rfl,rfl⟩ ⟨by omega,by omega,ay hall (by assumption)⟩ (by first | omega | (dsimp only;omega))
theorem bc {l:List Instr} {no:Int}:FC Tryz.prog 52 [.c (.row 0 0 l.length),I no] ([ro 74 l]) (I (pick (bq l) (ab l no) 0)) ([ro 74 l]):=by
 refine al tk 28 [.tmp 4] Tryz.func52 (by kernel_rfl) rfl rfl rfl rfl rfl rfl rfl ?_
 refine cj l 0 rfl (fun hl => ?_)
 repeat' (first
| apply yd;rfl
| refine nv ?_
| fail)
 refine wlp (X:=Int) [0,1] [0] (fun i => [(5,I i)]) (fun _ => []) (fun i => 0 ≤ i ∧ i ≤ l.length ∧ ∀ j:Int,0 ≤ j → j < i → (rd l j).No ≠ no) (fun i => (l.length - i).toNat) 0 ⟨by omega,by omega,fun j h0 h1 => by omega⟩ rfl rfl (fun _ => rfl) (fun _ => rfl) ⟨rfl,rfl,rfl,rfl,rfl,rfl,rfl,rfl⟩ (fun i hi => ?_)
 obtain ⟨h0,hi,hall⟩:=hi
 repeat' (first
| apply yds;rfl
| apply yd;rfl
| intro _
| refine nv ?_
| apply wct rfl
| apply wcf rfl
| apply ae rfl
| apply ag;rfl
| apply yar;rfl;omega
| apply yix;rfl;omega
| apply yle;rfl;omega
| apply ycp;rfl;exact cW;rfl
| fail)
 all_goals first
  | exact bO [0] rfl rfl rfl rfl rfl rfl (by rw [aD (by assumption)];exact ku ⟨by omega,by omega⟩ hall (by assumption))
  | exact bO [0] rfl rfl rfl rfl rfl rfl (by rw [aB (by assumption)])
  | exact bO [0] rfl rfl rfl rfl rfl rfl (by rw [kv (by assumption) hall];unfold pick;split <;> rfl)
  | exact aA (i + 1) [0] ⟨rfl,rfl,rfl,rfl,rfl,rfl,rfl,rfl⟩ ⟨by omega,by omega,ay hall (by assumption)⟩ (by first | omega | (dsimp only;omega))
theorem qK {l:List Bal} {c:Int} (hok:BalsOk l):FC Tryz.prog 164 [.c (.row 0 0 l.length),I c] ([ro 135 l]) (I (dI l c)) ([ro 135 l]):=by
 refine al tk 24 [.tmp 4] Tryz.func164 (by kernel_rfl) rfl rfl rfl rfl rfl rfl rfl ?_
 have hl:=hok.2
 repeat' (first
| apply yds;rfl
| apply yd;rfl
| refine nv ?_
| fail)
 refine wlp (X:=Int × Int) [1,8,9] [0] (fun x => [(10,I x.1),(5,I x.2)]) (fun _ => []) (fun x => 0 ≤ x.1 ∧ x.1 ≤ l.length ∧ x.2 = dI (pf l x.1) c) (fun x => (l.length - x.1).toNat) (0,0) ⟨by dsimp only;omega,by dsimp only;omega,rfl⟩ rfl rfl (fun _ => rfl) (fun _ => rfl) ⟨rfl,rfl,rfl,rfl,rfl,rfl,rfl,rfl⟩ (fun x hx => ?_)
 obtain ⟨i,n⟩:=x
 obtain ⟨h0,hi,hn⟩:=hx
 dsimp only at h0 hi hn ⊢
 have hb:=eV (kI hok c) ⟨h0,hi⟩
 have hs:=fun h => ip (l:=l) (c:=c) (i:=i) ⟨h0,h⟩
 have hb2:=fun (h:i < l.length) => kI hok c _ (ax ⟨h0,h⟩)
 rw [show ar (qm c) (pf l i) = n from hn.symm] at hb
 have hb3:=fun (h:i < l.length) (e:(rd l i).Instr = c) => (qn e ▸ hb2 h:-1000000000000000 ≤ (rd l i).Amount ∧ (rd l i).Amount ≤ 1000000000000000)
 repeat' (first
| apply yds;rfl
| apply yd;rfl
| intro _
| refine nv ?_
| apply wct rfl
| apply wcf rfl
| apply ae rfl
| apply ag;rfl
| apply yar;rfl;omega
| apply yix;rfl;omega
| apply yle;rfl;omega
| fail)
 ·rename_i h e
  have:=hb3 h e
  repeat' (first
| fail)
  exact aA (i + 1,_) [0] ⟨rfl,rfl,rfl,rfl,rfl,rfl,rfl,rfl⟩ ⟨by dsimp only;omega,by dsimp only;omega,by dsimp only;rw [hs h,qn e,hn]⟩ (by first | omega | (dsimp only;omega))
 ·rename_i h e
  exact aA (i + 1,_) [0] ⟨rfl,rfl,rfl,rfl,rfl,rfl,rfl,rfl⟩ ⟨by dsimp only;omega,by dsimp only;omega,by dsimp only;rw [hs h,wD e,hn,Int.add_zero]⟩ (by first | omega | (dsimp only;omega))
 ·rename_i h
  exact bO [0] rfl rfl rfl rfl rfl rfl (by rw [hn,aY h])
theorem kh {x:Int}:FC Tryz.prog 321 [I x,B true] ([]) (sel (ak x) (.tup [I x,B true]) (.tup [I 0,B false])) (sel (ak x) [] []):=by
 refine al tk 14 [.tmp 4,.tmp 5] Tryz.func321 (by kernel_rfl) rfl rfl rfl rfl rfl rfl rfl ?_
 repeat' (first
| apply yds;rfl
| intro _
| refine nv ?_
| apply wct rfl
| apply wcf rfl
| apply ycp;rfl;exact cg;rfl
| fail)
 all_goals first | exact gM (by assumption) [] rfl rfl rfl rfl rfl rfl | exact bS (by assumption) [] rfl rfl rfl rfl rfl rfl
theorem kg {x:Int}:FC Tryz.prog 321 [I x,B false] ([]) (.tup [I 0,B false]) ([]):=by
 refine al tk 14 [.tmp 4,.tmp 5] Tryz.func321 (by kernel_rfl) rfl rfl rfl rfl rfl rfl rfl ?_
 repeat' (first
| apply yds;rfl
| refine nv ?_
| apply wct rfl
| fail)
 all_goals exact ai [] rfl rfl rfl rfl rfl rfl
theorem ik {l:List Bal} {a c:Int}:FC Tryz.prog 170 [.c (.row 0 0 l.length),I a,I c] ([ro 135 l]) (I (aW l a c)) ([ro 135 l]):=by
 refine al tk 35 [.tmp 6] Tryz.func170 (by kernel_rfl) rfl rfl rfl rfl rfl rfl rfl ?_
 refine cj l 0 rfl (fun hl => ?_)
 repeat' (first
| apply yd;rfl
| refine nv ?_
| fail)
 refine wlp (X:=Int) [0,1,2] [0] (fun i => [(7,I i)]) (fun _ => []) (fun i => 0 ≤ i ∧ i ≤ l.length ∧ ∀ j:Int,0 ≤ j → j < i → ¬ ((rd l j).Account = a ∧ (rd l j).Instr = c)) (fun i => (l.length - i).toNat) 0 ⟨by omega,by omega,fun j h0 h1 => by omega⟩ rfl rfl (fun _ => rfl) (fun _ => rfl) ⟨rfl,rfl,rfl,rfl,rfl,rfl,rfl,rfl⟩ (fun i hi => ?_)
 obtain ⟨h0,hi,hall⟩:=hi
 repeat' (first
| apply yds;rfl
| apply yd;rfl
| intro _
| refine nv ?_
| apply wct rfl
| apply wcf rfl
| apply ae rfl
| apply ag;rfl
| apply yar;rfl;omega
| apply yix;rfl;omega
| apply yle;rfl;omega
| fail)
 all_goals first
  | exact bO [0] rfl rfl rfl rfl rfl rfl (kJ ⟨by omega,by omega⟩ hall ⟨by assumption,by assumption⟩)
  | exact bO [0] rfl rfl rfl rfl rfl rfl (rU (by assumption) hall)
  | exact aA (i + 1) [0] ⟨rfl,rfl,rfl,rfl,rfl,rfl,rfl,rfl⟩ ⟨by omega,by omega,ay hall (fun e => by first | exact absurd e.1 (by assumption) | exact absurd e.2 (by assumption))⟩ (by first | omega | (dsimp only;omega))
theorem jH {a b c d:Int} (h:dC a b c d ≥ 0):¬ bef a b c d:=fun k => by have:=byBoth_lt.2 k;omega
theorem byBoth_eq {a b c d:Int}:dC a b c d = 0 ↔ a = c ∧ b = d:=by
 unfold dC
 by_cases h:bef a b c d
 ·rw [aD h]
  unfold bef at h
  constructor
  ·intro h1;omega
  ·intro h1;omega
 ·rw [aB h]
  by_cases h2:a = c ∧ b = d
  ·rw [aD h2];simp [h2]
  ·rw [aB h2]
   constructor
   ·intro h1;omega
   ·intro h1;exact absurd h1 h2
theorem fI {l:List Bal} {a c:Int} (hs:BSd l):FC Tryz.prog 229 [.c (.row 0 0 l.length),I a,I c] ([ro 135 l]) (sel (kH l a c) (.tup [I (bIx l a c),B true]) (.tup [I (bIx l a c),B false])) (sel (kH l a c) [ro 135 l] [ro 135 l]):=by
 refine al tk 33 [.tmp 6,.tmp 7] Tryz.func229 (by kernel_rfl) rfl rfl rfl rfl rfl rfl rfl ?_
 refine cj l 0 rfl (fun hl => ?_)
 repeat' (first
| apply yds;rfl
| refine nv ?_
| fail)
 refine wlp (X:=Int) [0,1,2,11,12] [0] (fun i => [(13,I i)]) (fun _ => []) (fun i => 0 ≤ i ∧ i ≤ l.length ∧ ∀ j:Int,0 ≤ j → j < i → bef (rd l j).Account (rd l j).Instr a c) (fun i => (l.length - i).toNat) 0 ⟨by omega,by omega,fun j h0 h1 => by omega⟩ rfl rfl (fun _ => rfl) (fun _ => rfl) ⟨rfl,rfl,rfl,rfl,rfl,rfl,rfl,rfl⟩ (fun i hi => ?_)
 obtain ⟨h0,hi,hall⟩:=hi
 repeat' (first
| apply yds;rfl
| apply yd;rfl
| intro _
| refine nv ?_
| apply wct rfl
| apply wcf rfl
| apply ae rfl
| apply ag;rfl
| apply yar;rfl;omega
| apply yix;rfl;omega
| apply yle;rfl;omega
| apply yc;rfl;exact gq;rfl;exact fun _ => rfl
| fail)
 ·rename_i h1 h2 h3
  rw [lx ⟨by omega,by omega⟩ hall (fun _ => jH h2)]
  exact gM ((uu hs ⟨h0,h1⟩ hall (jH h2)).2 (byBoth_eq.1 h3)) [0] rfl rfl rfl rfl rfl rfl
 ·rename_i h1 h2 h3
  rw [lx ⟨by omega,by omega⟩ hall (fun _ => jH h2)]
  exact bS (fun k => h3 (byBoth_eq.2 ((uu hs ⟨h0,h1⟩ hall (jH h2)).1 k))) [0] rfl rfl rfl rfl rfl rfl
 ·rename_i h1 h2
  exact aA (i + 1) [0] ⟨rfl,rfl,rfl,rfl,rfl,rfl,rfl,rfl⟩ ⟨by omega,by omega,ay hall (byBoth_lt.1 (by omega))⟩ (by first | omega | (dsimp only;omega))
 ·rename_i h1
  rw [lx (i:=l.length) ⟨by omega,by omega⟩ (fun j h2 h3 => hall j h2 (by omega)) (fun h => by omega)]
  exact bS (yX h1 hall) [0] rfl rfl rfl rfl rfl rfl
theorem kr {l:List Bal} {a c:Int} (hs:BSd l):FC Tryz.prog 118 [.c (.row 0 0 l.length),I a,I c] ([ro 135 l]) (I (aW l a c)) ([ro 135 l]):=by
 refine al tk 23 [.tmp 6] Tryz.func118 (by kernel_rfl) rfl rfl rfl rfl rfl rfl rfl ?_
 have hb:=eX l a c
 repeat' (first
| apply yds;rfl
| apply yd;rfl
| intro _
| refine nv ?_
| apply wct rfl
| apply wcf rfl
| apply zcs;(iterate 10 rfl);exact fI (by assumption);exact fun _ => rfl;exact fun _ => rfl;rfl;rfl;rfl;rfl
| fail)
 ·rename_i h
  have h1:=(jC hs h).1
  repeat' (first
| apply yd;rfl
| refine nv ?_
| apply yix;rfl;omega
| apply yle;rfl;omega
| fail)
  exact bO [0] rfl rfl rfl rfl rfl rfl (pt hs h)
 ·rename_i h
  exact bO [0] rfl rfl rfl rfl rfl rfl (pv h)
end
section
open Go.RowKit
noncomputable def flt {α:Type} (p:α → Prop) (l:List α):List α:=l.filter (fun x => dB (p x))
noncomputable def fIx {α:Type} (l:List α) (q:α → Prop):Int:=(l.findIdx (fun x => dB (q x)):Nat)
section
variable {α:Type} [Enc α] {l:List α} {p q:α → Prop}
theorem qw {p:Prop}:dB p = true ↔ p:=⟨x2,oO⟩
theorem bW (l:List α) (q:α → Prop):0 ≤ fIx l q ∧ fIx l q ≤ l.length:=⟨by unfold fIx;omega,by unfold fIx;have:=List.findIdx_le_length (xs:=l) (p:=fun x => dB (q x));omega⟩
theorem dZ {i:Int} (h0:0 ≤ i ∧ i < l.length) (hb:∀ j:Int,0 ≤ j → j < i → ¬ q (rd l j)) (hi:q (rd l i)):fIx l q = i:=xi ⟨h0.1,by omega⟩ (fun j h1 h2 => by rw [qw];exact hb j h1 h2) (fun _ => oO hi)
theorem gN (h:∃ x ∈ l,q x):fIx l q < l.length:=by
 obtain ⟨x,hx,hq⟩:=h
 have:l.findIdx (fun x => dB (q x)) < l.length:=List.findIdx_lt_length_of_exists ⟨x,hx,oO hq⟩
 unfold fIx
 omega
theorem ko (h:∃ x ∈ l,q x):q (rd l (fIx l q)):=by
 have h1:=gN h
 have h1':l.findIdx (fun x => dB (q x)) < l.length:=by unfold fIx at h1;omega
 have h2:=List.findIdx_getElem (w:=h1')
 have e:l[l.findIdx (fun x => dB (q x))] = rd l (fIx l q):=by
  show _ = l.getD ((l.findIdx (fun x => dB (q x)):Nat):Int).toNat _
  rw [Int.toNat_natCast,List.getD_eq_getElem?_getD,List.getElem?_eq_getElem h1']
  rfl
 rw [e] at h2
 exact x2 h2
theorem iy {j:Int} (h0:0 ≤ j) (h:j < fIx l q):¬ q (rd l j):=by
 have h1:j.toNat < l.findIdx (fun x => dB (q x)):=by unfold fIx at h;omega
 have h2:=List.not_of_lt_findIdx h1
 have hl:j.toNat < l.length:=by have:=List.findIdx_le_length (xs:=l) (p:=fun x => dB (q x));omega
 have e:l[j.toNat] = rd l j:=by simp [rd,List.getD_eq_getElem?_getD,hl]
 rw [e] at h2
 exact x1 (by simpa using h2)
theorem eS {i:Int} (hi:¬ i < l.length) (h:∀ j:Int,0 ≤ j → j < i → ¬ q (rd l j)):¬ ∃ x ∈ l,q x:=by
 rintro ⟨x,hx,hq⟩
 obtain ⟨j,hj,rfl⟩:=bL hx
 exact h j hj.1 (by omega) hq
theorem bK (a b:List α):flt p (a ++ b) = flt p a ++ flt p b:=List.filter_append _ _
theorem fG {x:α} (h:p x):flt p [x] = [x]:=by simp [flt,oO h]
theorem eR {x:α} (h:¬ p x):flt p [x] = []:=by simp [flt,tJ h]
theorem cO (p:α → Prop) (l:List α):(flt p l).length ≤ l.length:=List.length_filter_le _ _
theorem iA (h:∀ x ∈ l,¬ q x):flt (fun x => ¬ q x) l = l:=List.filter_eq_self.2 fun x hx => oO (h x hx)
theorem flt_mem {x:α}:x ∈ flt p l ↔ x ∈ l ∧ p x:=by simp [flt,qw]
theorem bB {i:Int} (h:0 ≤ i ∧ i < l.length):flt p (pf l (i + 1)) = flt p (pf l i) ++ flt p [rd l i]:=by rw [ce h,bK]
structure DfI (l:List α) (q:α → Prop) (i j:Int) (xs:List α):Prop where
 bnd:0 ≤ i ∧ i < j ∧ j ≤ l.length
 len:xs.length = l.length
 pre:xs.take i.toNat = flt (fun x => ¬ q x) (pf l j)
 suf:xs.drop j.toNat = l.drop j.toNat
theorem DfI.init (h:∃ x ∈ l,q x):DfI l q (fIx l q) (fIx l q + 1) l:=by
 have h1:=gN h
 have h2:=bW l q
 refine ⟨⟨h2.1,by omega,by omega⟩,rfl,?_,rfl⟩
 rw [bB ⟨h2.1,h1⟩,eR (fun k => k (ko h)),List.append_nil]
 refine (iA fun x hx => ?_).symm
 obtain ⟨j,hj,rfl⟩:=bL (l:=pf l (fIx l q)) hx
 rw [bU ⟨h2.1,by omega⟩] at hj
 rw [vd hj]
 exact iy hj.1 hj.2
theorem DfI.rd {i j:Int} {xs:List α} (h:DfI l q i j xs) (hj:j < l.length):Sh.rd xs j = Sh.rd l j:=by
 have h1:=h.suf
 have h2:=h.bnd
 have e1:=dz (l:=xs) (i:=j) ⟨by omega,by rw [h.len];exact hj⟩
 have e2:=dz (l:=l) (i:=j) ⟨by omega,hj⟩
 rw [e1,e2] at h1
 exact (List.cons.inj h1).1
theorem DfI.skip {i j:Int} {xs:List α} (h:DfI l q i j xs) (hj:j < l.length) (hq:q (Sh.rd xs j)):DfI l q i (j + 1) xs:=by
 have h2:=h.bnd
 refine ⟨⟨h2.1,by omega,by omega⟩,h.len,?_,?_⟩
 ·rw [bB ⟨by omega,hj⟩,eR (fun k => k (by rw [← h.rd hj];exact hq)),List.append_nil]
  exact h.pre
 ·have e1:=dz (l:=xs) (i:=j) ⟨by omega,by rw [h.len];exact hj⟩
  have e2:=dz (l:=l) (i:=j) ⟨by omega,hj⟩
  have h1:=h.suf
  rw [e1,e2] at h1
  exact (List.cons.inj h1).2
theorem DfI.keep {i j:Int} {xs:List α} (h:DfI l q i j xs) (hj:j < l.length) (hq:¬ q (Sh.rd xs j)):DfI l q (i + 1) (j + 1) (upd xs i (Sh.rd xs j)):=by
 have h2:=h.bnd
 have hlen:=h.len
 refine ⟨⟨by omega,by omega,by omega⟩,by rw [aF];exact h.len,?_,?_⟩
 ·rw [bB ⟨by omega,hj⟩,fG (p:=fun x => ¬ q x) (by rw [← h.rd hj];exact hq),← h.pre,show (i + 1).toNat = i.toNat + 1 from by omega,List.take_add_one,upd,List.take_set_of_le (Nat.le_refl _),List.getElem?_set_self (by omega),h.rd hj]
  rfl
 ·have e1:=dz (l:=xs) (i:=j) ⟨by omega,by rw [h.len];exact hj⟩
  have e2:=dz (l:=l) (i:=j) ⟨by omega,hj⟩
  have h1:=h.suf
  rw [e1,e2] at h1
  rw [← (List.cons.inj h1).2,upd,List.drop_set_of_lt (by omega)]
theorem DfI.fin {i j:Int} {xs:List α} (h:DfI l q i j xs) (hj:¬ j < l.length):xs.take i.toNat = flt (fun x => ¬ q x) l:=by rw [h.pre,aY hj]
theorem DfI.len2 {i j:Int} {xs:List α} (h:DfI l q i j xs) (hj:¬ j < l.length):i.toNat = (flt (fun x => ¬ q x) l).length:=by
 rw [← h.fin hj,List.length_take]
 have:=h.bnd
 have:=h.len
 omega
end
end
end Go.Proofs.YtgehbhkfehmdkaaGreat.Sh
