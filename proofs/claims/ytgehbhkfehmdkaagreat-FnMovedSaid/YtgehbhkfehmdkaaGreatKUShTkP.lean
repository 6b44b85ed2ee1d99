/- Lots that are taken: what is left of each pair. No condition. -/
import Derived.Test.YtgehbhkfehmdkaaGreatKUShIsP
set_option linter.unusedSimpArgs false
set_option linter.unusedVariables false
namespace Go.Proofs.YtgehbhkfehmdkaaGreat.Sh
open Go.RowKit
theorem uW:∀ {l:List Lot} {q:Int},LG l → 0 ≤ q → q ≤ sQ l → sQ (tkq l q).1 = sQ l - q ∧ sC (tkq l q).1 = sC l - (tkq l q).2
 | [],q,h,h0,h1 => by
   have h2:sQ ([]:List Lot) = 0:=rfl
   have:q = 0:=by omega
   subst this
   exact ⟨rfl,rfl⟩
 | x :: r,q,h,h0,h1 => by
   have hc:=h.cons
   have h1':=h1
   rw [kX] at h1'
   by_cases c1:q ≤ 0
   ·rw [pK c1];dsimp only;omega
   by_cases c2:x.Qty ≤ q
   ·rw [uU (by omega) c2]
    have:=uW (l:=r) (q:=q - x.Qty) hc.2 (by omega) (by omega)
    rw [kX,mC];dsimp only;omega
   ·rw [uV (by omega) c2]
    dsimp only
    rw [kX,kX,mC,mC]
    dsimp only [reL];omega
theorem AA {own:List Lot} {q way:Int} (h:LG own) (hq:0 ≤ q) (hn:q ≤ sQ own) (h1:1 ≤ sQ own):sQ (tkL own q way) = sQ own - q ∧ sC (tkL own q way) = sC own - tkC own q way:=by
 unfold tkL tkC
 by_cases h3:way = 3
 ·rw [au h3,aK h3]
  by_cases h4:sQ own = q
  ·rw [au h4,h4,pu (by omega)]
   have e1:sQ ([]:List Lot) = 0:=rfl
   have e2:sC ([]:List Lot) = 0:=rfl
   omega
  ·rw [ab h4,kX,mC]
   have e1:sQ ([]:List Lot) = 0:=rfl
   have e2:sC ([]:List Lot) = 0:=rfl
   dsimp only [reL];omega
 ·rw [ab h3,aC h3]
  by_cases h2:way = 2
  ·rw [au h2,aK h2,rN,pB]
   have:=uW (l:=own.reverse) (q:=q) h.rev hq (by rw [rN];exact hn)
   rwa [rN,pB] at this
  ·rw [ab h2,aC h2]
   exact uW h hq hn
theorem we {p:Lot → Prop} (hp:∀ x q k,p x → p (reL x q k)) {own:List Lot} {q way:Int} (h:∀ x ∈ own,p x) (hn:0 < (own.length:Int)):∀ x ∈ tkL own q way,p x:=by
 unfold tkL
 by_cases h3:way = 3
 ·rw [au h3]
  by_cases h4:sQ own = q
  ·rw [au h4];intro x hx;cases hx
  ·rw [ab h4]
   intro x hx
   rw [List.mem_singleton] at hx
   subst hx
   exact hp _ _ _ (h (rd own 0) (aA ⟨by omega,hn⟩))
 ·rw [ab h3]
  by_cases h2:way = 2
  ·rw [au h2]
   intro x hx
   exact tZ (p:=p) hp (fun y hy => h y (List.mem_reverse.1 hy)) x (List.mem_reverse.1 hx)
  ·rw [ab h2]
   exact tZ (p:=p) hp h
section
variable {l:List Lot} {a c q way:Int}
theorem wc (h:tN l a c q way = 0):LotsOk l ∧ inP q 1 1000000000000000 ∧ q ≤ sQ (ae l a c) ∧ tL l a c q way = mrg (aY l a c) (tkL (ae l a c) q way) ∧ tC l a c q way = tkC (ae l a c) q way:=by
 unfold tN at h
 by_cases h1:LotsOk l ∧ inP q 1 1000000000000000 ∧ inP way 1 3
 rotate_left
 ·rw [zX h1] at h;exact absurd (show (1:Int) = 0 from h) (by decide)
 by_cases h2:sQ (ae l a c) < q
 ·rw [zY h1 h2] at h;exact absurd (show (2:Int) = 0 from h) (by decide)
 unfold tL tC
 rw [zW h1 h2]
 exact ⟨h1.1,h1.2.1,by omega,rfl,rfl⟩
theorem yv {p:Lot → Prop} {m:List Lot} (h:∀ x ∈ m,¬ p x):flt p m = []:=by
 cases hh:flt p m with
 | nil => rfl
 | cons x r =>
   have:x ∈ flt p m:=by rw [hh];simp
   exact absurd (flt_mem.1 this).2 (h x (flt_mem.1 this).1)
theorem yu {p:Lot → Prop}:∀ {m:List Lot},(∀ x ∈ m,p x) → flt p m = m
 | [],_ => rfl
 | x :: r,h => by
   have h1:=yu (p:=p) (m:=r) (fun y hy => h y (by simp [hy]))
   rw [show (x :: r) = [x] ++ r from rfl,aV,h1,dN (h x (by simp))]
theorem yp (f:Lot → Int) (l:List Lot) (a c u v:Int):ao f (ae (aY l a c) u v) = if a = u ∧ c = v then 0 else ao f (ae l u v):=by
 split
 ·rename_i h
  rw [show ae (aY l a c) u v = [] from yv (fun x hx e => (lotsNot_mem.1 hx).2 ⟨e.1.trans h.1.symm,e.2.trans h.2.symm⟩),ec]
 ·rename_i h
  congr 1
  induction l with
  | nil => rfl
  | cons x r ih =>
    have e1:aY (x :: r) a c = aY [x] a c ++ aY r a c:=aV [x] r
    have e2:ae (x :: r) u v = ae [x] u v ++ ae r u v:=di [x] r u v
    rw [e1,di,e2,ih]
    congr 1
    by_cases k:x.Account = a ∧ x.Instr = c
    ·rw [show aY [x] a c = [] from dm (p:=fun y:Lot => ¬ (y.Account = a ∧ y.Instr = c)) (fun q => q k),show ae [x] u v = [] from dm (p:=fun y:Lot => y.Account = u ∧ y.Instr = v) (fun e => h ⟨k.1.symm.trans e.1,k.2.symm.trans e.2⟩)]
     rfl
    ·rw [show aY [x] a c = [x] from dN (p:=fun y:Lot => ¬ (y.Account = a ∧ y.Instr = c)) k]
theorem mR (h:tN l a c q way = 0) (u v:Int):sQ (ae (tL l a c q way) u v) = sQ (ae l u v) - (if a = u ∧ c = v then q else 0) ∧ sC (ae (tL l a c q way) u v) = sC (ae l u v) - (if a = u ∧ c = v then tC l a c q way else 0):=by
 obtain ⟨h1,h2,h3,h4,h5⟩:=wc h
 unfold inP at h2
 have hLG:LG (ae l a c):=h1.LG.flt _
 have hs:=AA (own:=ae l a c) (q:=q) (way:=way) hLG (by omega) h3 (by omega)
 have hn:0 < ((ae l a c).length:Int):=by
  cases hh:ae l a c with
  | nil => rw [hh] at h3;have e1:sQ ([]:List Lot) = 0:=rfl;omega
  | cons x r => simp only [List.length_cons];omega
 have hall:∀ x ∈ tkL (ae l a c) q way,x.Account = a ∧ x.Instr = c:=we (p:=fun x => x.Account = a ∧ x.Instr = c) (fun x q k h => h) (fun x hx => (lotsOf_mem.1 hx).2) hn
 rw [h4,h5]
 unfold sQ sC
 rw [fq,fq,yp,yp]
 by_cases k:a = u ∧ c = v
 ·obtain ⟨rfl,rfl⟩:=k
  rw [if_pos ⟨rfl,rfl⟩,if_pos ⟨rfl,rfl⟩,if_pos ⟨rfl,rfl⟩,if_pos ⟨rfl,rfl⟩,show ae (tkL (ae l a c) q way) a c = tkL (ae l a c) q way from yu hall]
  unfold sQ sC at hs
  omega
 ·rw [if_neg k,if_neg k,if_neg k,if_neg k,show ae (tkL (ae l a c) q way) u v = [] from yv (fun x hx e => k ⟨(hall x hx).1.symm.trans e.1,(hall x hx).2.symm.trans e.2⟩),ec,ec]
  omega
theorem wd {ba:List Account} {bi:List Instr} {bn:Int} (h:tN l a c q way = 0) (hr:∀ x ∈ l,pl ba bi bn x):∀ x ∈ tL l a c q way,pl ba bi bn x:=by
 obtain ⟨h1,h2,h3,h4,h5⟩:=wc h
 unfold inP at h2
 have hn:0 < ((ae l a c).length:Int):=by
  cases hh:ae l a c with
  | nil => rw [hh] at h3;have e1:sQ ([]:List Lot) = 0:=rfl;omega
  | cons x r => simp only [List.length_cons];omega
 rw [h4]
 intro x hx
 rcases mrg_mem.1 hx with k | k
 ·exact hr x (lotsNot_mem.1 k).1
 ·exact we (p:=pl ba bi bn) (fun x q k h => h) (fun y hy => hr y (lotsOf_mem.1 hy).1) hn x k
end
section
variable {b r:Books} {fr to c q way cost how:Int}
structure MovDone (b:Books) (fr to c q way:Int) (r:Books) (cost:Int):Prop where
 ok:BooksOk b
 kq:inP q 1 1000000000000000
 k1:a9 b.Accounts fr = 1
 k2:a9 b.Accounts to = 1
 k3:aa b.Instrs c ≠ 0
 ne:fr ≠ to
 po:(poR b (b9 fr to c q)).2 = 0
 kr:(aa b.Instrs c ≠ 2 ∧ cost = 0 ∧ r = ⟨b.Accounts,b.Instrs,(poR b (b9 fr to c q)).1,b.Lots,b.Trades,b.Lot⟩) ∨ (aa b.Instrs c = 2 ∧ tN b.Lots fr c q way = 0 ∧ dW (tL b.Lots fr c q way) b.Lot to c q (tC b.Lots fr c q way) ∧ cost = tC b.Lots fr c q way ∧ r = ⟨b.Accounts,b.Instrs,(poR b (b9 fr to c q)).1,opL (tL b.Lots fr c q way) b.Lot to c q (tC b.Lots fr c q way),b.Trades,b.Lot + 1⟩)
theorem wL (h:aN b fr to c q way = (r,cost,how)):(how = 0 ∧ MovDone b fr to c q way r cost) ∨ (how ≠ 0 ∧ ((how = 1 ∧ r = ⟨[],[],[],[],[],0⟩) ∨ r = b)):=by
 by_cases c0:¬ (BooksOk b ∧ aj fr ∧ aj to ∧ aj c ∧ inP q 1 1000000000000000 ∧ inP way 1 3)
 ·rw [gQ c0] at h
  simp only [Prod.mk.injEq] at h
  exact .inr ⟨by omega,.inl ⟨h.2.2.symm,h.1.symm⟩⟩
 by_cases c1:a9 b.Accounts fr = 0 ∨ a9 b.Accounts to = 0 ∨ aa b.Instrs c = 0
 ·rw [lC c0 c1] at h
  simp only [Prod.mk.injEq] at h
  exact .inr ⟨by omega,.inr h.1.symm⟩
 by_cases c2:a9 b.Accounts fr ≠ 1 ∨ a9 b.Accounts to ≠ 1 ∨ fr = to
 ·rw [lD c0 c1 c2] at h
  simp only [Prod.mk.injEq] at h
  exact .inr ⟨by omega,.inr h.1.symm⟩
 by_cases c3:¬ (poR b (b9 fr to c q)).2 = 0
 ·rw [lF c0 c1 c2 c3] at h
  simp only [Prod.mk.injEq] at h
  refine .inr ⟨?_,.inr h.1.symm⟩
  rw [← h.2.2]
  rcases ix (poR b (b9 fr to c q)).2 with k | k
  ·exact absurd k c3
  ·exact k
 obtain ⟨k1,_,_,_,k2,_⟩:=Classical.not_not.1 c0
 have c3':=Classical.not_not.1 c3
 by_cases c4:aa b.Instrs c ≠ 2
 ·rw [lG c0 c1 c2 c3 c4] at h
  simp only [Prod.mk.injEq] at h
  exact .inl ⟨h.2.2.symm,k1,k2,by omega,by omega,by omega,by omega,c3',.inl ⟨c4,h.2.1.symm,h.1.symm⟩⟩
 by_cases c5:¬ tN b.Lots fr c q way = 0
 ·rw [lH c0 c1 c2 c3 c4 c5] at h
  simp only [Prod.mk.injEq] at h
  exact .inr ⟨by omega,.inr h.1.symm⟩
 by_cases c6:¬ dW (tL b.Lots fr c q way) b.Lot to c q (tC b.Lots fr c q way)
 ·rw [lI c0 c1 c2 c3 c4 c5 c6] at h
  simp only [Prod.mk.injEq] at h
  exact .inr ⟨by omega,.inr h.1.symm⟩
 rw [lJ c0 c1 c2 c3 c4 c5 c6] at h
 simp only [Prod.mk.injEq] at h
 exact .inl ⟨h.2.2.symm,k1,k2,by omega,by omega,by omega,by omega,c3',.inr ⟨by omega,Classical.not_not.1 c5,Classical.not_not.1 c6,h.2.1.symm,h.1.symm⟩⟩
theorem MovDone.posted (h:MovDone b fr to c q way r cost):Posted b (b9 fr to c q) r.Bals:=by
 have h1:=h.ok.post h.po (fun x hx => by
  have k1:=h.k1
  have k2:=h.k2
  have k3:=h.k3
  simp only [b9,List.mem_cons,List.not_mem_nil,or_false] at hx
  rcases hx with rfl | rfl <;> dsimp only <;> omega)
 rcases h.kr with ⟨_,_,e⟩ | ⟨_,_,_,_,e⟩ <;> (rw [e];exact h1)
theorem MovDone.bal (h:MovDone b fr to c q way r cost):aL r.Bals fr c = aL b.Bals fr c - q ∧ aL r.Bals to c = aL b.Bals to c + q:=by
 have:=h.ne
 rw [h.posted.of,h.posted.of,kS,kS]
 omega
theorem MovDone.lots (h:MovDone b fr to c q way r cost):sC (ae r.Lots fr c) = sC (ae b.Lots fr c) - cost ∧ sC (ae r.Lots to c) = sC (ae b.Lots to c) + cost:=by
 have:=h.ne
 rcases h.kr with ⟨_,h2,e⟩ | ⟨_,h3,h4,h5,e⟩
 ·rw [e,h2];dsimp only;omega
 ·obtain ⟨_,_,_,_,e2⟩:=nL h4
  have t1:=(mR h3 fr c).2
  have t2:=(mR h3 to c).2
  rw [if_pos ⟨rfl,rfl⟩] at t1
  rw [if_neg (fun e => this e.1)] at t2
  rw [e,e2,h5]
  dsimp only
  unfold sC at *
  rw [fq,fq,fM,fM,if_neg (fun e => this e.1.symm),if_pos ⟨rfl,rfl⟩,t1,t2]
  dsimp only
  omega
theorem MovDone.cbd (h:MovDone b fr to c q way r cost):0 ≤ cost ∧ cost ≤ 1000000000000000:=by
 rcases h.kr with ⟨_,h2,e⟩ | ⟨_,h3,h4,h5,e⟩
 ·omega
 ·have:=(nL h4).2.2.1
  unfold jq inP at this
  omega
theorem MovDone.next (h:MovDone b fr to c q way r cost):BooksOk r:=by
 have h1:=h.posted
 rcases h.kr with ⟨h2,_,e⟩ | ⟨h2,h0,h3,_,e⟩
 ·subst e
  refine h.ok.turn h1 (fun x hx => ?_)
  simp only [b9,List.mem_cons,List.not_mem_nil,or_false] at hx
  rcases hx with rfl | rfl <;> exact h2
 ·obtain ⟨k1,k2,k3,k4,k5⟩:=nL h3
  rw [k5] at e
  subst e
  have hn:=h.ok.lot
  unfold inP at hn
  refine h.ok.posted h1 k4 h.ok.trades ⟨by omega,by omega⟩ (fun x hx => ?_) (fun a d ha hd => ?_) h.ok.tR
  ·rcases mrg_mem.1 hx with q | q
   ·have:=wd h0 h.ok.lR.1 x q
    exact ⟨this.1,this.2.1,by have:=this.2.2;omega⟩
   ·rw [List.mem_singleton] at q
    subst q
    exact ⟨h.k2,h2,Int.le_refl _⟩
  ·have t1:=(mR h0 a d).1
   unfold sQ at *
   rw [fq,fM,kS,t1]
   dsimp only
   omega
end
end Go.Proofs.YtgehbhkfehmdkaaGreat.Sh
