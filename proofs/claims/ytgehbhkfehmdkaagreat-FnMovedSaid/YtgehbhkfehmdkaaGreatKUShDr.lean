/- A region that draws its order, in which two things may be made: both orders. No condition. -/
import Derived.Test.YtgehbhkfehmdkaaGreatKUShM
set_option linter.unusedSimpArgs false
set_option linter.unusedVariables false
namespace Go.Proofs.YtgehbhkfehmdkaaGreat.Sh
section
open Go.RowKit Go.Proofs.YtgehbhkfehmdkaaGreatW
def sL (ops:Array Oper) (ds:List Nat):List (Sk × Nat) → Array Bool → Option (Array Bool)
 | [],l => some l
 | (k,i) :: r,l => match (ops[i]?).isSome && (match k with
  | .p => PrintLast.anyB .any ops l (l.setIfInBounds i true) i
  | .t => PrintLast.takeB .any ops ds l (l.setIfInBounds i true) i
  | _ => false) with
  | true => sL ops ds r (l.setIfInBounds i true)
  | false => none
def qz (A B:St → Prop):Exit → St → Prop
 | .normal,st => A st ∧ B st
 | _,_ => False
theorem oe {A B:St → Prop} {st:St} (h1:A st) (h2:B st):qz A B .normal st:=⟨h1,h2⟩
section
variable {P:Program} {ops:Array Oper} {Q Q0:Exit → St → Prop} {h1:AH} {ds:List Nat} {Γ:Ctx} {ρ1:Pl} {w1:World}
theorem Cg (hH:Holds Γ ρ1 h1 w1) {l':Array Bool} {n:Nat} {ks:List (Sk × Oper)} {st:St} (h:WS P ops Q0 h1 ks st) (K:∀ st' ρ' a' w',Q0 .normal st' → Rel Γ ρ' st' a' w' → Ext ρ1 ρ' ∧ Same w1 w' → PrintLast.wpAnyLast P .any ops (dQ Q Γ) (Same w1) ds n l' a' w') :
  ∀ (s:List (Sk × Nat)) (l:Array Bool),ks = s.map (fun p => (p.1,opn ops p.2)) → sL ops ds s l = some l' → ∀ {ρ a w},Rel Γ ρ st a w → Ext ρ1 ρ ∧ Same w1 w →
   PrintLast.wpAnyLast P .any ops (dQ Q Γ) (Same w1) ds (n + s.length) l a w:=by
 induction h with
 | nil h =>
   intro s l e hc ρ a w hr hS
   cases s with
   | nil =>
     cases hc
     exact K _ _ _ _ h hr hS
   | cons o s => cases e
 | ghost g _ ih =>
   intro s l e hc ρ a w hr hS
   obtain ⟨st',ρ',hk',hx,hr'⟩:=g Γ ρ a w hr
   exact ih st' hk' s l e hc hr' ⟨hS.1.trans hx,hS.2⟩
 | @off k o ks st hd hg _ ih =>
   intro s l e hc ρ a w hr hS
   cases s with
   | nil => cases e
   | cons p s =>
     obtain ⟨k',i⟩:=p
     simp only [List.map_cons,List.cons.injEq,Prod.mk.injEq] at e
     obtain ⟨⟨rfl,e1⟩,e2⟩:=e
     unfold sL at hc
     split at hc
     ·rename_i hb
      simp only [Bool.and_eq_true] at hb
      obtain ⟨hi,hk⟩:=hb
      have ho:ops[i]? = some o:=by
       obtain ⟨o',ho'⟩:=Option.isSome_iff_exists.1 hi
       rw [e1,opn,ho']
       rfl
      have hw:=bf hg hr.env
      cases k with
      | p => exact PrintLast.pure_ _ ho rfl hk (fun _ _ _ h => h) (Or.inr ⟨hw,rfl⟩) rfl (ih s _ e2 hc (hr.undef_ o.dst hd) hS)
      | t => exact PrintLast.take_ _ ho rfl hk (fun _ _ _ h => h) (Or.inr ⟨hw,rfl⟩) hS.2 rfl (ih s _ e2 hc (hr.undef_ o.dst hd) hS)
      | o => cases hk
      | l => cases hk
     ·cases hc
 | @p o ks st v hd hg ho' _ ih =>
   intro s l e hc ρ a w hr hS
   cases s with
   | nil => cases e
   | cons p s =>
     obtain ⟨k',i⟩:=p
     simp only [List.map_cons,List.cons.injEq,Prod.mk.injEq] at e
     obtain ⟨⟨rfl,e1⟩,e2⟩:=e
     unfold sL at hc
     split at hc
     ·rename_i hb
      simp only [Bool.and_eq_true] at hb
      obtain ⟨hi,hk⟩:=hb
      have ho:ops[i]? = some o:=by
       obtain ⟨o',ho'⟩:=Option.isSome_iff_exists.1 hi
       rw [e1,opn,ho']
       rfl
      have hw:=bf hg hr.env
      obtain ⟨v',hv,hv2⟩:=ho' Γ ρ a w hr
      exact PrintLast.pure_ _ ho rfl hk (fun _ _ _ h => h) (Or.inl ⟨hw,hv2⟩) rfl (ih s _ e2 hc (hr.put st.h o.dst hd v v' (Ext.refl _) hr.len hr.holds hv) hS)
     ·cases hc
 | @t o ks st v hd hg ho' _ ih =>
   intro s l e hc ρ a w hr hS
   cases s with
   | nil => cases e
   | cons p s =>
     obtain ⟨k',i⟩:=p
     simp only [List.map_cons,List.cons.injEq,Prod.mk.injEq] at e
     obtain ⟨⟨rfl,e1⟩,e2⟩:=e
     unfold sL at hc
     split at hc
     ·rename_i hb
      simp only [Bool.and_eq_true] at hb
      obtain ⟨hi,hk⟩:=hb
      have ho:ops[i]? = some o:=by
       obtain ⟨o',ho'⟩:=Option.isSome_iff_exists.1 hi
       rw [e1,opn,ho']
       rfl
      have hw:=bf hg hr.env
      obtain ⟨v',hv,hv2⟩:=ho' Γ ρ1 ρ a w w1 hS.1 hr hH
      exact PrintLast.take_ _ ho rfl hk (fun _ _ _ h => h) (Or.inl ⟨hw,fun w hw => hv2 w hw⟩) hS.2 rfl (ih s _ e2 hc (hr.put st.h o.dst hd v v' (Ext.refl _) hr.len hr.holds hv) hS)
     ·cases hc
 | @o o ks st Kp hd hg h2 _ ih =>
   intro s l e hc
   cases s with
   | nil => cases e
   | cons p s =>
     obtain ⟨k',i⟩:=p
     simp only [List.map_cons,List.cons.injEq,Prod.mk.injEq] at e
     obtain ⟨⟨rfl,e1⟩,e2⟩:=e
     simp [sL] at hc
 | @l o ks st Kp hd hg h2 _ ih =>
   intro s l e hc
   cases s with
   | nil => cases e
   | cons p s =>
     obtain ⟨k',i⟩:=p
     simp only [List.map_cons,List.cons.injEq,Prod.mk.injEq] at e
     obtain ⟨⟨rfl,e1⟩,e2⟩:=e
     simp [sL] at hc
theorem CU {n:Nat} {l':Array Bool} {o:Oper} {ks kks:List (Sk × Oper)} {st:St} (h:WS P ops Q h1 kks st):kks = (.o,o) :: ks → ∀ {ρ a w},Rel Γ ρ st a w → Ext ρ1 ρ ∧ Same w1 w →
  (∀ st' ρ' a' w',WS P ops Q h1 ks st' → Rel Γ ρ' st' a' w' → Ext ρ1 ρ' ∧ Same w1 w' → PrintLast.wpAnyLast P .any ops (dQ Q Γ) (Same w1) ds n l' a' w') →
  ∀ K:Act → World → Prop,Shut (∀ a' w',Same w1 w' → (Same w1 w' → PrintLast.wpAnyLast P .any ops (dQ Q Γ) (Same w1) ds n l' a' w') → K a' w') → if Region.wanted o (yielded ops a.tmps) = true then Oper.wp P o a w K (dQ Q Γ) else K (a.put o.dst undef) w:=by
 induction h with
 | nil h => intro e;cases e
 | ghost g _ ih =>
   intro e ρ a w hr hS hc
   obtain ⟨st',ρ',hk',hx,hr'⟩:=g Γ ρ a w hr
   exact ih st' hk' e hr' ⟨hS.1.trans hx,hS.2⟩ hc
 | @off k o' ks' st hd hg hw' _ =>
   intro e ρ a w hr hS hc K hK
   cases e
   have hw:=bf hg hr.env
   rw [if_neg (by rw [hw];decide)]
   exact hK.out _ _ hS.2 (fun _ => hc _ _ _ _ hw' (hr.undef_ _ hd) hS)
 | p _ _ _ _ _ => intro e;cases e
 | t _ _ _ _ _ => intro e;cases e
 | @o o' ks' st Kp hd hg h2 hn _ =>
   intro e ρ a w hr hS hc K hK
   cases e
   have hw:=bf hg hr.env
   rw [if_pos hw]
   exact h2 Γ ρ a w hr K (dQ Q Γ) (fun st' ρ' a' w' hk' hr' hx hs' => hK.out _ _ (hS.2.trans hs') (fun hs'' => hc st' ρ' a' w' (hn st' hk') hr' ⟨hS.1.trans hx,hs''⟩))
 | l _ _ _ _ _ => intro e;cases e
theorem WS.monoQ' {Q1 Q2:Exit → St → Prop} (hq:∀ x,Q1 .normal x → Q2 .normal x) {ks:List (Sk × Oper)} {st:St} (h:WS P ops Q1 h1 ks st):WS P ops Q2 h1 ks st:=by
 induction h with
 | nil h => exact .nil (hq _ h)
 | ghost g _ ih => exact .ghost g ih
 | off hd hg _ ih => exact .off hd hg ih
 | p hd hg ho _ ih => exact .p hd hg ho ih
 | t hd hg ho _ ih => exact .t hd hg ho ih
 | o hd hg ho _ ih => exact .o hd hg ho ih
 | l hd hg ho _ ih => exact .l hd hg ho ih
theorem WS.monoQ {A B A' B':St → Prop} {ks:List (Sk × Oper)} {st:St} (h:WS P ops (qz A B) h1 ks st) (hq:∀ x,A x ∧ B x → A' x ∧ B' x):WS P ops (qz A' B') h1 ks st:=WS.monoQ' (fun x hx => hq x hx) h
def Bk (ops:Array Oper) (ds:List Nat) (s0:List (Sk × Nat)) (i j:Nat) (s1 s2:List (Sk × Nat)):Bool :=
 match sL ops ds s0 (Array.replicate ops.size false) with
 | none => false
 | some l => (Region.ready .any ops l == [i,j]) && (ops[i]?).isSome && (ops[j]?).isSome && !ds.contains i && !ds.contains j && chk ops ds true s1 (l.setIfInBounds i true) && chk ops ds true s2 (l.setIfInBounds j true) && (s0.length + 1 + s1.length == ops.size) && (s1.length == s2.length)
theorem zq {id:Nat} {l:List Oper} {st:St} (hm:P.follows .mixedOrders = true) (s0:List (Sk × Nat)) (i j:Nat) (s1 s2:List (Sk × Nat)) (ds:List Nat) (hc:Bk l.toArray ds s0 i j s1 s2 = true)
  (h:WS P l.toArray (qz (WS P l.toArray Q st.h (((.o,i) :: s1).map (fun p => (p.1,opn l.toArray p.2)))) (WS P l.toArray Q st.h (((.o,j) :: s2).map (fun p => (p.1,opn l.toArray p.2))))) st.h (s0.map (fun p => (p.1,opn l.toArray p.2))) st):W P (Code.region id l.toArray true) Q st:=fun Γ ρ a w hr => by
 unfold Bk at hc
 split at hc
 ·cases hc
 rename_i l0 hl0
 simp only [Bool.and_eq_true,beq_iff_eq,Bool.not_eq_true'] at hc
 obtain ⟨⟨⟨⟨⟨⟨⟨⟨c1,c2⟩,c3⟩,c4⟩,c5⟩,c6⟩,c7⟩,c8⟩,c9⟩:=hc
 have hHd:=hr.drew.holds
 have hoi:l.toArray[i]? = some (opn l.toArray i):=by
  obtain ⟨o',ho'⟩:=Option.isSome_iff_exists.1 c2
  rw [opn,ho']
  rfl
 have hoj:l.toArray[j]? = some (opn l.toArray j):=by
  obtain ⟨o',ho'⟩:=Option.isSome_iff_exists.1 c3
  rw [opn,ho']
  rfl
 have h2:PrintLast.wpAnyLast P .any l.toArray (dQ Q Γ) (Same w.drew) ds (s1.length + 1 + s0.length) (Array.replicate l.toArray.size false) a w.drew:=by
  refine Cg (Q0:=qz (WS P l.toArray Q st.h (((.o,i) :: s1).map (fun p => (p.1,opn l.toArray p.2)))) (WS P l.toArray Q st.h (((.o,j) :: s2).map (fun p => (p.1,opn l.toArray p.2))))) hHd (l':=l0) (n:=s1.length + 1) h (fun st' ρ' a' w' hq hr' hS' => ?_) s0 _ rfl hl0 hr.drew ⟨Ext.refl _,Same.refl _⟩
  refine PrintLast.two_ (l0.setIfInBounds i true) (l0.setIfInBounds j true) hoi hoj rfl rfl (by rw [c1];simp) (by simpa using c4) (by simpa using c5) ?_ ?_
  ·exact CU (n:=s1.length) (ρ1:=ρ) (w1:=w.drew) hq.1 rfl hr' hS' (fun st2 ρ2 a2 w2 hw hr2 hS2 => s5 hHd s1 true _ c6 hw hr2 (fun _ => hS2))
  ·exact CU (n:=s1.length) (ρ1:=ρ) (w1:=w.drew) hq.2 rfl hr' hS' (fun st2 ρ2 a2 w2 hw hr2 hS2 => by rw [c9];exact s5 hHd s2 true _ c7 hw hr2 (fun _ => hS2))
 have e:s1.length + 1 + s0.length = l.toArray.size:=by omega
 exact PrintLast.start_ (ds:=ds) (S:=Same w.drew) _ hm e.symm rfl (Same.refl _) (fun _ => by rw [← e] at h2;exact h2)
theorem AG {id:Nat} {l l' L0 L1 L2:List Oper} {st:St} (hl:rj l = some l') (hm:P.follows .mixedOrders = true) (s0:List (Sk × Nat)) (i j:Nat) (s1 s2:List (Sk × Nat)) (ds:List Nat) (hc:Bk l'.toArray ds s0 i j s1 s2 = true) (hL0:gq l' s0 = some L0) (hL1:gq l' ((.o,i) :: s1) = some L1) (hL2:gq l' ((.o,j) :: s2) = some L2)
  (h:ZZ P l'.toArray (qz (fun x => ZZ P l'.toArray Q st.h (((.o,i) :: s1).map (·.1)) L1 x) (fun x => ZZ P l'.toArray Q st.h (((.o,j) :: s2).map (·.1)) L2 x)) st.h (s0.map (·.1)) L0 st):WW P (Code.region id l.toArray true) Q st:=⟨by
 rw [mg hl]
 refine zq hm s0 i j s1 s2 ds hc ?_
 have h':=h.out.out
 rw [← i7 hL0,je] at h'
 refine WS.monoQ h' fun x hx => ⟨?_,?_⟩
 ·have q:=hx.1.out.out
  rw [← i7 hL1,je] at q
  exact q
 ·have q:=hx.2.out.out
  rw [← i7 hL2,je] at q
  exact q⟩
end
end
section
open Go.RowKit Go.Proofs.YtgehbhkfehmdkaaGreatW
inductive Tr where
 | nil
 | one (k:Sk) (i:Nat) (t:Tr)
 | two (k:Sk) (i:Nat) (a:Tr) (k':Sk) (j:Nat) (b:Tr)
 | three (k:Sk) (i:Nat) (a:Tr) (k':Sk) (j:Nat) (b:Tr) (k2:Sk) (m:Nat) (c:Tr)
def Tr.depth:Tr → Nat
 | .nil => 0
 | .one _ _ t => t.depth + 1
 | .two _ _ a _ _ _ => a.depth + 1
 | .three _ _ a _ _ _ _ _ _ => a.depth + 1
def gu (ds:List Nat) (k:Sk) (i:Nat):Bool:=match k with | .o => !ds.contains i | .l => ds.contains i | _ => false
def phB (ph:Bool) (k:Sk):Bool:=ph && (match k with | .l => false | _ => true)
def jI (ops:Array Oper) (ds:List Nat):Bool → Tr → Array Bool → Bool
 | _,.nil,l => Region.ready .any ops l == []
 | ph,.one k i t,l => (ops[i]?).isSome && (match k with
   | .p => PrintLast.anyB .any ops l (l.setIfInBounds i true) i
   | .t => ph && PrintLast.takeB .any ops ds l (l.setIfInBounds i true) i
   | .o => (Region.ready .any ops l == [i]) && gu ds .o i
   | .l => (Region.ready .any ops l == [i]) && gu ds .l i) && jI ops ds (phB ph k) t (l.setIfInBounds i true)
 | ph,.two k i a k' j b,l => (ops[i]?).isSome && (ops[j]?).isSome && (Region.ready .any ops l == [i,j]) && gu ds k i && gu ds k' j && Nat.beq a.depth b.depth && jI ops ds (phB ph k) a (l.setIfInBounds i true) && jI ops ds (phB ph k') b (l.setIfInBounds j true)
 | ph,.three k i a k' j b k2 m c,l => (ops[i]?).isSome && (ops[j]?).isSome && (ops[m]?).isSome && (Region.ready .any ops l == [i,j,m]) && gu ds k i && gu ds k' j && gu ds k2 m && Nat.beq a.depth b.depth && Nat.beq a.depth c.depth && jI ops ds (phB ph k) a (l.setIfInBounds i true) && jI ops ds (phB ph k') b (l.setIfInBounds j true) && jI ops ds (phB ph k2) c (l.setIfInBounds m true)
def nQ (A:St → Prop):Exit → St → Prop
 | .normal,st => A st
 | _,_ => False
theorem uC {A:St → Prop} {st:St} (h:A st):nQ A .normal st:=h
def TZ (P:Program) (ops:Array Oper) (Q:Exit → St → Prop) (h1:AH):Tr → St → Prop
 | .nil,st => Q .normal st
 | .one k i t,st => WS P ops (nQ (TZ P ops Q h1 t)) h1 [(k,opn ops i)] st
 | .two k i a k' j b,st => WS P ops (nQ (TZ P ops Q h1 a)) h1 [(k,opn ops i)] st ∧ WS P ops (nQ (TZ P ops Q h1 b)) h1 [(k',opn ops j)] st
 | .three k i a k' j b k2 m c,st => WS P ops (nQ (TZ P ops Q h1 a)) h1 [(k,opn ops i)] st ∧ WS P ops (nQ (TZ P ops Q h1 b)) h1 [(k',opn ops j)] st ∧ WS P ops (nQ (TZ P ops Q h1 c)) h1 [(k2,opn ops m)] st
section
variable {P:Program} {ops:Array Oper} {Q Q0:Exit → St → Prop} {h1:AH} {ds:List Nat} {Γ:Ctx} {ρ1:Pl} {w1:World} {A:St → Prop}
theorem kM {ks:List (Sk × Oper)} {st:St} (h:WS P ops (nQ A) h1 ks st):ks = [] → ∀ {ρ a w},Rel Γ ρ st a w → ∃ st' ρ',Ext ρ ρ' ∧ Rel Γ ρ' st' a w ∧ A st':=by
 induction h with
 | nil h => intro _ ρ a w hr;exact ⟨_,ρ,Ext.refl _,hr,h⟩
 | ghost g _ ih =>
   intro e ρ a w hr
   obtain ⟨st',ρ',hk',hx,hr'⟩:=g Γ ρ a w hr
   obtain ⟨st',ρ2,h1,h2,h3⟩:=ih st' hk' e hr'
   exact ⟨st',ρ2,hx.trans h1,h2,h3⟩
 | off _ _ _ _ => intro e;cases e
 | p _ _ _ _ _ => intro e;cases e
 | t _ _ _ _ _ => intro e;cases e
 | o _ _ _ _ _ => intro e;cases e
 | l _ _ _ _ _ => intro e;cases e
theorem CS {n:Nat} {l l':Array Bool} {i:Nat} {o:Oper} {ph:Bool} (ho:ops[i]? = some o) (hk:PrintLast.anyB .any ops l l' i = true) {kks:List (Sk × Oper)} {st:St} (h:WS P ops (nQ A) h1 kks st):kks = [(.p,o)] → ∀ {ρ a w},Rel Γ ρ st a w → (ph = true → Ext ρ1 ρ ∧ Same w1 w) →
  (∀ st' ρ' a' w',A st' → Rel Γ ρ' st' a' w' → (ph = true → Ext ρ1 ρ' ∧ Same w1 w') → PrintLast.wpAnyLast P .any ops (dQ Q Γ) (Same w1) ds n l' a' w') → PrintLast.wpAnyLast P .any ops (dQ Q Γ) (Same w1) ds (n + 1) l a w:=by
 induction h with
 | nil h => intro e;cases e
 | ghost g _ ih =>
   intro e ρ a w hr hS hc
   obtain ⟨st',ρ',hk',hx,hr'⟩:=g Γ ρ a w hr
   exact ih st' hk' e hr' (fun h => ⟨(hS h).1.trans hx,(hS h).2⟩) hc
 | @off k o' ks' st hd hg hn _ =>
   intro e ρ a w hr hS hc
   cases e
   have hw:=bf hg hr.env
   obtain ⟨st',ρ',k1,k2,k3⟩:=kM hn rfl (hr.undef_ _ hd)
   exact PrintLast.pure_ _ ho rfl hk (fun _ _ _ h => h) (Or.inr ⟨hw,rfl⟩) rfl (hc _ _ _ _ k3 k2 (fun h => ⟨(hS h).1.trans k1,(hS h).2⟩))
 | @p o' ks st v hd hg ho' hn _ =>
   intro e ρ a w hr hS hc
   cases e
   have hw:=bf hg hr.env
   obtain ⟨v',hv,hv2⟩:=ho' Γ ρ a w hr
   obtain ⟨st',ρ',k1,k2,k3⟩:=kM hn rfl (hr.put st.h o.dst hd v v' (Ext.refl _) hr.len hr.holds hv)
   exact PrintLast.pure_ _ ho rfl hk (fun _ _ _ h => h) (Or.inl ⟨hw,hv2⟩) rfl (hc _ _ _ _ k3 k2 (fun h => ⟨(hS h).1.trans k1,(hS h).2⟩))
 | t _ _ _ _ _ => intro e;cases e
 | o _ _ _ _ _ => intro e;cases e
 | l _ _ _ _ _ => intro e;cases e
theorem CT (hH:Holds Γ ρ1 h1 w1) {n:Nat} {l l':Array Bool} {i:Nat} {o:Oper} (ho:ops[i]? = some o) (hk:PrintLast.takeB .any ops ds l l' i = true) {kks:List (Sk × Oper)} {st:St} (h:WS P ops (nQ A) h1 kks st):kks = [(.t,o)] → ∀ {ρ a w},Rel Γ ρ st a w → Ext ρ1 ρ ∧ Same w1 w →
  (∀ st' ρ' a' w',A st' → Rel Γ ρ' st' a' w' → Ext ρ1 ρ' ∧ Same w1 w' → PrintLast.wpAnyLast P .any ops (dQ Q Γ) (Same w1) ds n l' a' w') → PrintLast.wpAnyLast P .any ops (dQ Q Γ) (Same w1) ds (n + 1) l a w:=by
 induction h with
 | nil h => intro e;cases e
 | ghost g _ ih =>
   intro e ρ a w hr hS hc
   obtain ⟨st',ρ',hk',hx,hr'⟩:=g Γ ρ a w hr
   exact ih st' hk' e hr' ⟨hS.1.trans hx,hS.2⟩ hc
 | @off k o' ks' st hd hg hn _ =>
   intro e ρ a w hr hS hc
   cases e
   have hw:=bf hg hr.env
   obtain ⟨st',ρ',k1,k2,k3⟩:=kM hn rfl (hr.undef_ _ hd)
   exact PrintLast.take_ _ ho rfl hk (fun _ _ _ h => h) (Or.inr ⟨hw,rfl⟩) hS.2 rfl (hc _ _ _ _ k3 k2 ⟨hS.1.trans k1,hS.2⟩)
 | p _ _ _ _ _ => intro e;cases e
 | @t o' ks st v hd hg ho' hn _ =>
   intro e ρ a w hr hS hc
   cases e
   have hw:=bf hg hr.env
   obtain ⟨v',hv,hv2⟩:=ho' Γ ρ1 ρ a w w1 hS.1 hr hH
   obtain ⟨st',ρ',k1,k2,k3⟩:=kM hn rfl (hr.put st.h o.dst hd v v' (Ext.refl _) hr.len hr.holds hv)
   exact PrintLast.take_ _ ho rfl hk (fun _ _ _ h => h) (Or.inl ⟨hw,fun w hw => hv2 w hw⟩) hS.2 rfl (hc _ _ _ _ k3 k2 ⟨hS.1.trans k1,hS.2⟩)
 | o _ _ _ _ _ => intro e;cases e
 | l _ _ _ _ _ => intro e;cases e
theorem CR {o:Oper} {kks:List (Sk × Oper)} {st:St} {ph:Bool} (h:WS P ops (nQ A) h1 kks st):kks = [(.o,o)] → ∀ {ρ a w},Rel Γ ρ st a w → (ph = true → Ext ρ1 ρ ∧ Same w1 w) →
  ∀ K:Act → World → Prop,(∀ st' ρ' a' w',A st' → Rel Γ ρ' st' a' w' → Same w w' → (ph = true → Ext ρ1 ρ' ∧ Same w1 w') → K a' w') → if Region.wanted o (yielded ops a.tmps) = true then Oper.wp P o a w K (dQ Q Γ) else K (a.put o.dst undef) w:=by
 induction h with
 | nil h => intro e;cases e
 | ghost g _ ih =>
   intro e ρ a w hr hS K hc
   obtain ⟨st',ρ',hk',hx,hr'⟩:=g Γ ρ a w hr
   exact ih st' hk' e hr' (fun h => ⟨(hS h).1.trans hx,(hS h).2⟩) K hc
 | @off k o' ks' st hd hg hn _ =>
   intro e ρ a w hr hS K hc
   cases e
   have hw:=bf hg hr.env
   rw [if_neg (by rw [hw];decide)]
   obtain ⟨st',ρ',k1,k2,k3⟩:=kM hn rfl (hr.undef_ _ hd)
   exact hc _ _ _ _ k3 k2 (Same.refl _) (fun h => ⟨(hS h).1.trans k1,(hS h).2⟩)
 | p _ _ _ _ _ => intro e;cases e
 | t _ _ _ _ _ => intro e;cases e
 | @o o' ks' st Kp hd hg h2 hn _ =>
   intro e ρ a w hr hS K hc
   cases e
   have hw:=bf hg hr.env
   rw [if_pos hw]
   exact h2 Γ ρ a w hr K (dQ Q Γ) (fun st' ρ' a' w' hk' hr' hx hs' => by
    obtain ⟨st2,ρ2,k1,k2,k3⟩:=kM (hn st' hk') rfl hr'
    exact hc _ _ _ _ k3 k2 hs' (fun h => ⟨((hS h).1.trans hx).trans k1,(hS h).2.trans hs'⟩))
 | l _ _ _ _ _ => intro e;cases e
theorem CQ {o:Oper} {kks:List (Sk × Oper)} {st:St} (h:WS P ops (nQ A) h1 kks st):kks = [(.l,o)] → ∀ {ρ a w},Rel Γ ρ st a w →
  ∀ K:Act → World → Prop,(∀ st' ρ' a' w',A st' → Rel Γ ρ' st' a' w' → K a' w') → if Region.wanted o (yielded ops a.tmps) = true then Oper.wp P o a w K (dQ Q Γ) else K (a.put o.dst undef) w:=by
 induction h with
 | nil h => intro e;cases e
 | ghost g _ ih =>
   intro e ρ a w hr K hc
   obtain ⟨st',ρ',hk',hx,hr'⟩:=g Γ ρ a w hr
   exact ih st' hk' e hr' K hc
 | @off k o' ks' st hd hg hn _ =>
   intro e ρ a w hr K hc
   cases e
   have hw:=bf hg hr.env
   rw [if_neg (by rw [hw];decide)]
   obtain ⟨st',ρ',k1,k2,k3⟩:=kM hn rfl (hr.undef_ _ hd)
   exact hc _ _ _ _ k3 k2
 | p _ _ _ _ _ => intro e;cases e
 | t _ _ _ _ _ => intro e;cases e
 | o _ _ _ _ _ => intro e;cases e
 | @l o' ks' st Kp hd hg h2 hn _ =>
   intro e ρ a w hr K hc
   cases e
   have hw:=bf hg hr.env
   rw [if_pos hw]
   exact h2 Γ ρ a w hr K (dQ Q Γ) (fun st' ρ' a' w' hk' hr' => by
    obtain ⟨st2,ρ2,k1,k2,k3⟩:=kM (hn st' hk') rfl hr'
    exact hc _ _ _ _ k3 k2)
theorem jx {k:Sk} {i:Nat} {n:Nat} {ph:Bool} {l:Array Bool} {st:St} (ho:(ops[i]?).isSome = true) (hk:gu ds k i = true) (h:WS P ops (nQ A) h1 [(k,opn ops i)] st) {ρ:Pl} {a:Act} {w:World} (hr:Rel Γ ρ st a w) (hS:ph = true → Ext ρ1 ρ ∧ Same w1 w)
  (hc:∀ st' ρ' a' w',A st' → Rel Γ ρ' st' a' w' → (phB ph k = true → Ext ρ1 ρ' ∧ Same w1 w') → PrintLast.wpAnyLast P .any ops (dQ Q Γ) (Same w1) ds n (l.setIfInBounds i true) a' w') :
  wpOp P ops (dQ Q Γ) i (fun a' w' => (i ∉ ds → Same w1 w → Same w1 w') ∧ PrintLast.wpAnyLast P .any ops (dQ Q Γ) (Same w1) ds n (l.setIfInBounds i true) a' w') a w:=by
 have ho':ops[i]? = some (opn ops i):=by
  obtain ⟨o',ho'⟩:=Option.isSome_iff_exists.1 ho
  rw [opn,ho']
  rfl
 refine wpOp_step ho' (fun K' hK => ?_)
 cases k with
 | p => cases hk
 | t => cases hk
 | o =>
   refine CR (ph:=ph) h rfl hr hS K' (fun st' ρ' a' w' h1 h2 h3 h4 => hK a' w' ⟨fun _ h => h.trans h3,hc st' ρ' a' w' h1 h2 (fun hp => h4 ?_)⟩)
   unfold phB at hp
   simpa using hp
 | l =>
   refine CQ h rfl hr K' (fun st' ρ' a' w' h1 h2 => hK a' w' ⟨fun hn => absurd ?_ hn,hc st' ρ' a' w' h1 h2 (fun hp => ?_)⟩)
   ·unfold gu at hk
    simpa using hk
   ·unfold phB at hp
    simp at hp
theorem CM (hH:Holds Γ ρ1 h1 w1):∀ (t:Tr) (ph:Bool) (l:Array Bool) {st:St},jI ops ds ph t l = true → TZ P ops Q h1 t st → ∀ {ρ a w},Rel Γ ρ st a w → (ph = true → Ext ρ1 ρ ∧ Same w1 w) →
  PrintLast.wpAnyLast P .any ops (dQ Q Γ) (Same w1) ds t.depth l a w:=by
 intro t
 induction t with
 | nil =>
   intro ph l st hc h ρ a w hr hS
   exact PrintLast.done_ hc ⟨_,ρ,h,hr⟩
 | one k i t ih =>
   intro ph l st hc h ρ a w hr hS
   simp only [jI,Bool.and_eq_true] at hc
   obtain ⟨⟨hi,hk⟩,hrest⟩:=hc
   have ho:ops[i]? = some (opn ops i):=by
    obtain ⟨o',ho'⟩:=Option.isSome_iff_exists.1 hi
    rw [opn,ho']
    rfl
   cases k with
   | p => exact CS (ph:=ph) ho hk h rfl hr hS (fun st' ρ' a' w' c1 c2 c3 => ih _ _ hrest c1 c2 (fun hp => c3 (by unfold phB at hp;simpa using hp)))
   | t =>
     simp only [Bool.and_eq_true] at hk
     exact CT hH ho hk.2 h rfl hr (hS hk.1) (fun st' ρ' a' w' c1 c2 c3 => ih _ _ hrest c1 c2 (fun _ => c3))
   | o =>
     simp only [Bool.and_eq_true,beq_iff_eq] at hk
     refine PrintLast.wpAnyLast_all hk.1 (by simp) (fun j hj => ?_)
     cases List.mem_singleton.1 hj
     exact jx (ph:=ph) hi hk.2 h hr hS (fun st' ρ' a' w' c1 c2 c3 => ih _ _ hrest c1 c2 c3)
   | l =>
     simp only [Bool.and_eq_true,beq_iff_eq] at hk
     refine PrintLast.wpAnyLast_all hk.1 (by simp) (fun j hj => ?_)
     cases List.mem_singleton.1 hj
     exact jx (ph:=ph) hi hk.2 h hr hS (fun st' ρ' a' w' c1 c2 c3 => ih _ _ hrest c1 c2 c3)
 | two k i t k' j t' ih ih' =>
   intro ph l st hc h ρ a w hr hS
   simp only [jI,Bool.and_eq_true] at hc
   obtain ⟨⟨⟨⟨⟨⟨⟨hi,hj⟩,hrd⟩,hk⟩,hk'⟩,hd⟩,hrest⟩,hrest'⟩:=hc
   have hd':=Nat.eq_of_beq_eq_true hd
   simp only [beq_iff_eq] at hrd
   refine PrintLast.wpAnyLast_all hrd (by simp) (fun x hx => ?_)
   rcases List.mem_cons.1 hx with rfl | hx
   ·exact jx (ph:=ph) hi hk h.1 hr hS (fun st' ρ' a' w' c1 c2 c3 => ih _ _ hrest c1 c2 c3)
   ·cases List.mem_singleton.1 hx
    rw [hd']
    exact jx (ph:=ph) hj hk' h.2 hr hS (fun st' ρ' a' w' c1 c2 c3 => ih' _ _ hrest' c1 c2 c3)
 | three k i t k' j t' k2 m t2 ih ih' ih2 =>
   intro ph l st hc h ρ a w hr hS
   simp only [jI,Bool.and_eq_true] at hc
   obtain ⟨⟨⟨⟨⟨⟨⟨⟨⟨⟨⟨hi,hj⟩,hm⟩,hrd⟩,hk⟩,hk'⟩,hk2⟩,hd⟩,hd2⟩,hrest⟩,hrest'⟩,hrest2⟩:=hc
   have hd':=Nat.eq_of_beq_eq_true hd
   have hd2':=Nat.eq_of_beq_eq_true hd2
   simp only [beq_iff_eq] at hrd
   refine PrintLast.wpAnyLast_all hrd (by simp) (fun x hx => ?_)
   rcases List.mem_cons.1 hx with rfl | hx
   ·exact jx (ph:=ph) hi hk h.1 hr hS (fun st' ρ' a' w' c1 c2 c3 => ih _ _ hrest c1 c2 c3)
   ·rcases List.mem_cons.1 hx with rfl | hx
    ·rw [hd']
     exact jx (ph:=ph) hj hk' h.2.1 hr hS (fun st' ρ' a' w' c1 c2 c3 => ih' _ _ hrest' c1 c2 c3)
    ·cases List.mem_singleton.1 hx
     rw [hd2']
     exact jx (ph:=ph) hm hk2 h.2.2 hr hS (fun st' ρ' a' w' c1 c2 c3 => ih2 _ _ hrest2 c1 c2 c3)
theorem zr {id:Nat} {l:List Oper} {st:St} (hm:P.follows .mixedOrders = true) (t:Tr) (ds:List Nat) (hc:(Nat.beq t.depth l.toArray.size && jI l.toArray ds true t (Array.replicate l.toArray.size false)) = true)
  (h:TZ P l.toArray Q st.h t st):W P (Code.region id l.toArray true) Q st:=fun Γ ρ a w hr => by
 simp only [Bool.and_eq_true] at hc
 have e:=Nat.eq_of_beq_eq_true hc.1
 have hHd:=hr.drew.holds
 have h2:=CM (ds:=ds) (w1:=w.drew) hHd t true _ hc.2 h hr.drew (fun _ => ⟨Ext.refl _,Same.refl _⟩)
 rw [e] at h2
 exact PrintLast.start_ (ds:=ds) (S:=Same w.drew) _ hm rfl rfl (Same.refl _) (fun _ => h2)
structure ZT (P:Program) (ops:Array Oper) (Q:Exit → St → Prop) (h1:AH) (t:Tr) (st:St):Prop where
 out:TZ P ops Q h1 t st
theorem ua {id:Nat} {l l':List Oper} {st:St} (hl:rj l = some l') (hm:P.follows .mixedOrders = true) (t:Tr) (ds:List Nat) (hc:(Nat.beq t.depth l'.toArray.size && jI l'.toArray ds true t (Array.replicate l'.toArray.size false)) = true)
  (h:ZT P l'.toArray Q st.h t st):WW P (Code.region id l.toArray true) Q st:=⟨by
 rw [mg hl]
 exact zr hm t ds hc h.out⟩
def pA (n:Nat) (qs:List QO) (L:Nat):List Nat:=(List.range n).filter (fun i => match qs[i]? with | some y => !L.testBit i && kL y.dep L | none => false)
def eqL:List Nat → List Nat → Bool
 | [],[] => true
 | x :: a,y :: b => Nat.beq x y && eqL a b
 | _,_ => false
theorem ke:∀ {a b:List Nat},eqL a b = true → a = b
 | [],[],_ => rfl
 | x :: a,y :: b,h => by
   simp only [eqL,Bool.and_eq_true] at h
   rw [Nat.eq_of_beq_eq_true h.1,ke h.2]
 | [],_ :: _,h => by cases h
 | _ :: _,[],h => by cases h
theorem jt {ops:Array Oper} {listed:Array Bool} {L:Nat} (h:LS ops listed L):Region.ready .any ops listed = pA ops.size (qos ops) L:=by
 unfold Region.ready pA
 refine List.filter_congr (fun i hi => ?_)
 have hlt:=List.mem_range.1 hi
 have ho:ops[i]? = some ops[i]:=Array.getElem?_eq_getElem hlt
 rw [ho,rJ ho,h.un hlt]
 simp only [Option.map_some,Option.getD_some,qo]
 rw [mc h.lm]
def jz (n:Nat) (ops:Array Oper) (qs:List QO) (ds:List Nat):Bool → Tr → Nat → Bool
 | _,.nil,L => eqL (pA n qs L) []
 | ph,.one k i t,L => (match k with
   | .p => (pA n qs L).contains i
   | .t => (pA n qs L).contains i && ph && ds.all (fun d => L.testBit d || PrintLast.Region.reachB .any ops i ops.size d)
   | .o => eqL (pA n qs L) [i] && gu ds .o i
   | .l => eqL (pA n qs L) [i] && gu ds .l i) && jz n ops qs ds (phB ph k) t (L ||| (1 <<< i))
 | ph,.two k i a k' j b,L => eqL (pA n qs L) [i,j] && gu ds k i && gu ds k' j && Nat.beq a.depth b.depth && jz n ops qs ds (phB ph k) a (L ||| (1 <<< i)) && jz n ops qs ds (phB ph k') b (L ||| (1 <<< j))
 | ph,.three k i a k' j b k2 m c,L => eqL (pA n qs L) [i,j,m] && gu ds k i && gu ds k' j && gu ds k2 m && Nat.beq a.depth b.depth && Nat.beq a.depth c.depth && jz n ops qs ds (phB ph k) a (L ||| (1 <<< i)) && jz n ops qs ds (phB ph k') b (L ||| (1 <<< j)) && jz n ops qs ds (phB ph k2) c (L ||| (1 <<< m))
theorem kW {ops:Array Oper} {listed:Array Bool} {L:Nat} (h:LS ops listed L) {i:Nat} (hi:i ∈ pA ops.size (qos ops) L):(ops[i]?).isSome = true ∧ LS ops (listed.setIfInBounds i true) (L ||| (1 <<< i)):=by
 rw [← jt h] at hi
 obtain ⟨o,h1,h2,h3⟩:=(j5 h).1 hi
 exact ⟨by rw [h1];rfl,h.step h1 h3⟩
theorem xE {ops:Array Oper} {ds:List Nat} (hn:Region.noSelect ops = true) (hs:tV (qos ops) = true):∀ (t:Tr) (ph:Bool) {listed:Array Bool} {L:Nat},LS ops listed L → jz ops.size ops (qos ops) ds ph t L = true → jI ops ds ph t listed = true:=by
 intro t
 induction t with
 | nil =>
   intro ph listed L h hc
   unfold jz at hc
   have:=ke hc
   rw [← jt h] at this
   simp [jI,this]
 | one k i t ih =>
   intro ph listed L h hc
   simp only [jz,Bool.and_eq_true] at hc
   obtain ⟨h2,h3⟩:=hc
   have hin:i ∈ pA ops.size (qos ops) L:=by
    cases k with
    | p => exact List.contains_iff_mem.1 h2
    | t =>
      simp only [Bool.and_eq_true] at h2
      exact List.contains_iff_mem.1 h2.1.1
    | o =>
      simp only [Bool.and_eq_true] at h2
      rw [ke h2.1]
      simp
    | l =>
      simp only [Bool.and_eq_true] at h2
      rw [ke h2.1]
      simp
   obtain ⟨q1,q2⟩:=kW h hin
   have hr:=ih _ q2 h3
   have hin':=hin
   rw [← jt h] at hin'
   obtain ⟨o,ho,hu,hd⟩:=(j5 h).1 hin'
   have hready:(Region.ready .any ops listed).contains i = true:=List.contains_iff_mem.2 hin'
   have hfree:=vp h hs ho hd
   simp only [jI,Bool.and_eq_true]
   refine ⟨⟨q1,?_⟩,hr⟩
   cases k with
   | p => simp only [PrintLast.anyB,hn,hfree,hready,Bool.and_self,beq_self_eq_true]
   | t =>
     simp only [Bool.and_eq_true] at h2
     have hl:PrintLast.Region.lastB .any ops listed ds i = true:=by
      unfold PrintLast.Region.lastB
      rw [List.all_eq_true]
      intro d hdd
      have:=List.all_eq_true.1 h2.2 d hdd
      rcases Bool.or_eq_true_iff.1 this with e | e
      ·have e2:=h.lm d
       rw [e] at e2
       have:listed.getD d true = true:=by
        rw [Array.getD_eq_getD_getElem?] at e2 ⊢
        cases hq:listed[d]? with
        | none => rfl
        | some b => rw [hq] at e2;exact e2
       rw [this]
       rfl
      ·rw [e,Bool.or_true]
     simp only [PrintLast.takeB,hn,hfree,hready,qA h,hl,h2.1.2,Bool.and_self,beq_self_eq_true]
   | o =>
     simp only [Bool.and_eq_true] at h2
     have e:=ke h2.1
     rw [← jt h] at e
     simp only [Bool.and_eq_true,beq_iff_eq]
     exact ⟨e,h2.2⟩
   | l =>
     simp only [Bool.and_eq_true] at h2
     have e:=ke h2.1
     rw [← jt h] at e
     simp only [Bool.and_eq_true,beq_iff_eq]
     exact ⟨e,h2.2⟩
 | two k i a k' j b ih ih' =>
   intro ph listed L h hc
   simp only [jz,Bool.and_eq_true] at hc
   obtain ⟨⟨⟨⟨⟨hr,hk⟩,hk'⟩,hd⟩,ha⟩,hb⟩:=hc
   have e:=ke hr
   obtain ⟨q1,q2⟩:=kW h (i:=i) (by rw [e];simp)
   obtain ⟨q3,q4⟩:=kW h (i:=j) (by rw [e];simp)
   rw [← jt h] at e
   simp only [jI,Bool.and_eq_true,beq_iff_eq]
   exact ⟨⟨⟨⟨⟨⟨⟨q1,q3⟩,e⟩,hk⟩,hk'⟩,hd⟩,ih _ q2 ha⟩,ih' _ q4 hb⟩
 | three k i a k' j b k2 m c ih ih' ih2 =>
   intro ph listed L h hc
   simp only [jz,Bool.and_eq_true] at hc
   obtain ⟨⟨⟨⟨⟨⟨⟨⟨hr,hk⟩,hk'⟩,hk2⟩,hd⟩,hd2⟩,ha⟩,hb⟩,hcc⟩:=hc
   have e:=ke hr
   obtain ⟨q1,q2⟩:=kW h (i:=i) (by rw [e];simp)
   obtain ⟨q3,q4⟩:=kW h (i:=j) (by rw [e];simp)
   obtain ⟨q5,q6⟩:=kW h (i:=m) (by rw [e];simp)
   rw [← jt h] at e
   simp only [jI,Bool.and_eq_true,beq_iff_eq]
   exact ⟨⟨⟨⟨⟨⟨⟨⟨⟨⟨⟨q1,q3⟩,q5⟩,e⟩,hk⟩,hk'⟩,hk2⟩,hd⟩,hd2⟩,ih _ q2 ha⟩,ih' _ q4 hb⟩,ih2 _ q6 hcc⟩
def tB (ops:Array Oper) (ds:List Nat) (t:Tr):Bool:=Nat.beq t.depth ops.size && Region.noSelect ops && tV (qos ops) && jz ops.size ops (qos ops) ds true t 0
theorem CL {ops:Array Oper} {ds:List Nat} {t:Tr} (h:tB ops ds t = true):(Nat.beq t.depth ops.size && jI ops ds true t (Array.replicate ops.size false)) = true:=by
 unfold tB at h
 simp only [Bool.and_eq_true] at h ⊢
 exact ⟨h.1.1.1,xE h.1.1.2 h.1.2 t true ⟨LM.zero _,by simp,fun j o _ hb => by simp at hb⟩ h.2⟩
theorem Cl {id:Nat} {l l':List Oper} {st:St} (hl:rj l = some l') (hm:P.follows .mixedOrders = true) (t:Tr) (ds:List Nat) (hc:tB l'.toArray ds t = true)
  (h:ZT P l'.toArray Q st.h t st):WW P (Code.region id l.toArray true) Q st:=ua hl hm t ds (CL hc) h
theorem zt0 {st:St} (h:Q .normal st):ZT P ops Q h1 .nil st:=⟨h⟩
theorem zt1 {l:List Oper} {k:Sk} {i:Nat} {t:Tr} {L:List Oper} {st:St} (hL:gq l [(k,i)] = some L) (h:ZZ P l.toArray (nQ (fun x => ZT P l.toArray Q h1 t x)) h1 [k] L st):ZT P l.toArray Q h1 (.one k i t) st:=⟨by
 have h':=h.out.out
 rw [← i7 hL] at h'
 have h2:WS P l.toArray (nQ (fun x => ZT P l.toArray Q h1 t x)) h1 [(k,opn l.toArray i)] st:=h'
 exact WS.monoQ' (fun x hx => hx.out) h2⟩
theorem zt2 {l:List Oper} {k k':Sk} {i j:Nat} {t t':Tr} {L L':List Oper} {st:St} (hL:gq l [(k,i)] = some L) (hL':gq l [(k',j)] = some L') (h:ZZ P l.toArray (nQ (fun x => ZT P l.toArray Q h1 t x)) h1 [k] L st) (h':ZZ P l.toArray (nQ (fun x => ZT P l.toArray Q h1 t' x)) h1 [k'] L' st):ZT P l.toArray Q h1 (.two k i t k' j t') st:=⟨(zt1 (t:=t) hL h).out,(zt1 (t:=t') hL' h').out⟩
theorem zt3 {l:List Oper} {k k' k2:Sk} {i j m:Nat} {t t' t2:Tr} {L L' L2:List Oper} {st:St} (hL:gq l [(k,i)] = some L) (hL':gq l [(k',j)] = some L') (hL2:gq l [(k2,m)] = some L2) (h:ZZ P l.toArray (nQ (fun x => ZT P l.toArray Q h1 t x)) h1 [k] L st) (h':ZZ P l.toArray (nQ (fun x => ZT P l.toArray Q h1 t' x)) h1 [k'] L' st) (h2:ZZ P l.toArray (nQ (fun x => ZT P l.toArray Q h1 t2 x)) h1 [k2] L2 st):ZT P l.toArray Q h1 (.three k i t k' j t' k2 m t2) st:=⟨(zt1 (t:=t) hL h).out,(zt1 (t:=t') hL' h').out,(zt1 (t:=t2) hL2 h2).out⟩
def jQ (st2:St):Exit → St → Prop
 | .normal,st => ∃ m,Conv st st2 m
 | _,_ => False
theorem D2 {N k:Nat} {e e2:List (Nat × AV)} {h h2:AH} (ns m:List Nat) (he:yG e ns = some e2) (hh:fH (bP m h) = some h2) (hc:Conv ⟨N,k,e,h⟩ ⟨N,k,e2,h2⟩ m):jQ ⟨N,k,e2,h2⟩ .normal ⟨N,k,e,h⟩:=⟨m,hc⟩
def tyL:AH → List Nat
 | [] => []
 | none :: r => 0 :: tyL r
 | some o :: r => (o.ty + 1) :: tyL r
def AS (h:AH):List Nat → List Nat
 | [] => []
 | i :: r => (match h[i]? with | some (some o) => o.ty + 1 | _ => 0) :: AS h r
theorem pe {N k N2 k2:Nat} {e e2:List (Nat × AV)} {h h2:AH} (m:List Nat) (hq:eqL (tyL h2) (AS h m) = true) (hc:Conv ⟨N,k,e,h⟩ ⟨N2,k2,e2,h2⟩ m):jQ ⟨N2,k2,e2,h2⟩ .normal ⟨N,k,e,h⟩:=⟨m,hc⟩
theorem CP {id:Nat} {l:List Oper} {y:Code} {st st2:St} (h1:WW P (Code.region id l.toArray true) (jQ st2) st) (h2:WW P y Q st2):WW P ((Code.region id l.toArray true).seq y) Q st:=CV ⟨xc (fun e st' hh => by
 cases e with
 | normal =>
   obtain ⟨m,hc⟩:=hh
   exact ⟨B6 st2 m hc h2.out⟩
 | _ => exact hh.elim) h1.out⟩
end
end
end Go.Proofs.YtgehbhkfehmdkaaGreat.Sh
