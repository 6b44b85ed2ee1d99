/- What is issued: what it leaves. No condition. -/
import Derived.Test.YtgehbhkfehmdkaaGreatKUShDrX
import Derived.Test.YtgehbhkfehmdkaaGreatKUShIm
set_option linter.unusedSimpArgs false
set_option linter.unusedVariables false
namespace Go.Proofs.YtgehbhkfehmdkaaGreat.Sh
open Go.RowKit
theorem x1 {α:Type} [Enc α] {f:α → Int} {l m:List α} (h:l.Perm m):ao f l = ao f m:=by
 induction h with
 | nil => rfl
 | cons x _ ih => rw [aT,aT,ih]
 | swap x y l => rw [aT,aT,aT,aT];omega
 | trans _ _ h1 h2 => rw [h1,h2]
theorem xU {α:Type} {p:α → Prop} {l m:List α} (h:l.Perm m):(flt p l).Perm (flt p m):=h.filter _
theorem fq (f:Lot → Int) (l m:List Lot) (a c:Int):ao f (ae (mrg l m) a c) = ao f (ae l a c) + ao f (ae m a c):=by
 have h:(ae (mrg l m) a c).Perm (ae (l ++ m) a c):=xU (iZ l m)
 rw [x1 h,di,bk]
theorem fM (f:Lot → Int) (x:Lot) (a c:Int):ao f (ae [x] a c) = if x.Account = a ∧ x.Instr = c then f x else 0:=by
 split
 ·rename_i h
  rw [show ae [x] a c = [x] from dN (p:=fun y:Lot => y.Account = a ∧ y.Instr = c) h,cT]
 ·rename_i h
  rw [show ae [x] a c = [] from dm (p:=fun y:Lot => y.Account = a ∧ y.Instr = c) h,ec]
theorem kS (a e c n x y:Int):fA (b9 a e c n) x y = (if a = x ∧ c = y then -n else 0) + (if e = x ∧ c = y then n else 0):=by
 simp only [b9,hG,nm]
 omega
theorem nL {l:List Lot} {n a c q k:Int} (h:dW l n a c q k):n < 1000000000 ∧ LotsOk l ∧ jq a c (n + 1) q k ∧ LotsOk (mrg l [⟨a,c,n + 1,q,k⟩]) ∧ opL l n a c q k = mrg l [⟨a,c,n + 1,q,k⟩]:=by
 obtain ⟨h0,h⟩:=h
 by_cases h1:LotsOk l ∧ jq (⟨a,c,n + 1,q,k⟩:Lot).Account (⟨a,c,n + 1,q,k⟩:Lot).Instr (⟨a,c,n + 1,q,k⟩:Lot).No (⟨a,c,n + 1,q,k⟩:Lot).Qty (⟨a,c,n + 1,q,k⟩:Lot).Cost
 rotate_left
 ·rw [yg h1] at h;exact absurd (show (1:Int) = 0 from h) (by decide)
 by_cases h2:LotsOk (mrg l [⟨a,c,n + 1,q,k⟩])
 rotate_left
 ·rw [yi h1 h2] at h;exact absurd (show (3:Int) = 0 from h) (by decide)
 exact ⟨by omega,h1.1,h1.2,h2,by rw [opL,yf h1 h2]⟩
section
variable {b r:Books} {is ho c q k how:Int}
structure IssDone (b:Books) (is ho c q k:Int) (r:Books):Prop where
 ok:BooksOk b
 kq:inP q 1 1000000000000000
 k1:a9 b.Accounts is = 2
 k2:a9 b.Accounts ho = 1
 k3:aa b.Instrs c ≠ 0
 po:(poR b (b9 is ho c q)).2 = 0
 kr:(aa b.Instrs c ≠ 2 ∧ r = ⟨b.Accounts,b.Instrs,(poR b (b9 is ho c q)).1,b.Lots,b.Trades,b.Lot⟩) ∨ (aa b.Instrs c = 2 ∧ dW b.Lots b.Lot ho c q k ∧ r = ⟨b.Accounts,b.Instrs,(poR b (b9 is ho c q)).1,opL b.Lots b.Lot ho c q k,b.Trades,b.Lot + 1⟩)
theorem wG (h:aF b is ho c q k = (r,how)):(how = 0 ∧ IssDone b is ho c q k r) ∨ (how ≠ 0 ∧ ((how = 1 ∧ r = ⟨[],[],[],[],[],0⟩) ∨ r = b)):=by
 by_cases c0:¬ (BooksOk b ∧ aj is ∧ aj ho ∧ aj c ∧ inP q 1 1000000000000000 ∧ inP k 0 1000000000000000)
 ·rw [fS c0] at h
  simp only [Prod.mk.injEq] at h
  exact .inr ⟨by omega,.inl ⟨h.2.symm,h.1.symm⟩⟩
 by_cases c1:a9 b.Accounts is = 0 ∨ a9 b.Accounts ho = 0 ∨ aa b.Instrs c = 0
 ·rw [jN c0 c1] at h
  simp only [Prod.mk.injEq] at h
  exact .inr ⟨by omega,.inr h.1.symm⟩
 by_cases c2:a9 b.Accounts is ≠ 2 ∨ a9 b.Accounts ho ≠ 1 ∨ (k ≠ 0 ∧ aa b.Instrs c = 1)
 ·rw [jO c0 c1 c2] at h
  simp only [Prod.mk.injEq] at h
  exact .inr ⟨by omega,.inr h.1.symm⟩
 by_cases c3:¬ (poR b (b9 is ho c q)).2 = 0
 ·rw [jP c0 c1 c2 c3] at h
  simp only [Prod.mk.injEq] at h
  refine .inr ⟨?_,.inr h.1.symm⟩
  rw [← h.2]
  rcases ix (poR b (b9 is ho c q)).2 with k | k
  ·exact absurd k c3
  ·exact k
 obtain ⟨k1,_,_,_,k2,_⟩:=Classical.not_not.1 c0
 have c3':=Classical.not_not.1 c3
 by_cases c4:aa b.Instrs c ≠ 2
 ·rw [jR c0 c1 c2 c3 c4] at h
  simp only [Prod.mk.injEq] at h
  exact .inl ⟨h.2.symm,k1,k2,by omega,by omega,by omega,c3',.inl ⟨c4,h.1.symm⟩⟩
 by_cases c5:¬ dW b.Lots b.Lot ho c q k
 ·rw [jS c0 c1 c2 c3 c4 c5] at h
  simp only [Prod.mk.injEq] at h
  exact .inr ⟨by omega,.inr h.1.symm⟩
 rw [jT c0 c1 c2 c3 c4 c5] at h
 simp only [Prod.mk.injEq] at h
 exact .inl ⟨h.2.symm,k1,k2,by omega,by omega,by omega,c3',.inr ⟨by omega,Classical.not_not.1 c5,h.1.symm⟩⟩
theorem IssDone.posted (h:IssDone b is ho c q k r):Posted b (b9 is ho c q) r.Bals:=by
 have h1:=h.ok.post h.po (fun x hx => by
  have k1:=h.k1
  have k2:=h.k2
  have k3:=h.k3
  simp only [b9,List.mem_cons,List.not_mem_nil,or_false] at hx
  rcases hx with rfl | rfl <;> dsimp only <;> omega)
 rcases h.kr with ⟨_,e⟩ | ⟨_,_,e⟩ <;> (rw [e];exact h1)
theorem IssDone.ne (h:IssDone b is ho c q k r):is ≠ ho:=fun e => by
 have k1:=h.k1
 rw [e,h.k2] at k1
 cases k1
theorem IssDone.bal (h:IssDone b is ho c q k r):aL r.Bals ho c = aL b.Bals ho c + q ∧ aL r.Bals is c = aL b.Bals is c - q:=by
 have:=h.ne
 rw [h.posted.of,h.posted.of,kS,kS,if_neg (fun e => this e.1),if_pos ⟨rfl,rfl⟩,if_pos ⟨rfl,rfl⟩,if_neg (fun e => this e.1.symm)]
 omega
theorem IssDone.lots (h:IssDone b is ho c q k r):(aa b.Instrs c ≠ 2 ∧ r.Lots = b.Lots ∧ r.Lot = b.Lot) ∨ (aa b.Instrs c = 2 ∧ r.Lots.length = b.Lots.length + 1 ∧ r.Lot = b.Lot + 1 ∧ sC (ae r.Lots ho c) = sC (ae b.Lots ho c) + k):=by
 rcases h.kr with ⟨h1,e⟩ | ⟨h1,h2,e⟩
 ·rw [e];exact .inl ⟨h1,rfl,rfl⟩
 ·obtain ⟨_,_,_,_,e2⟩:=nL h2
  rw [e,e2]
  refine .inr ⟨h1,by rw [oy];rfl,rfl,?_⟩
  show ao Lot.Cost _ = _
  rw [fq,fM,if_pos ⟨rfl,rfl⟩]
  rfl
theorem IssDone.next (h:IssDone b is ho c q k r):BooksOk r:=by
 have h1:=h.posted
 rcases h.kr with ⟨h2,e⟩ | ⟨h2,h3,e⟩
 ·subst e
  refine h.ok.turn h1 (fun x hx => ?_)
  simp only [b9,List.mem_cons,List.not_mem_nil,or_false] at hx
  rcases hx with rfl | rfl <;> exact h2
 ·obtain ⟨k1,k2,k3,k4,k5⟩:=nL h3
  rw [k5] at e
  subst e
  have hn:=h.ok.lot
  unfold inP at hn
  refine h.ok.posted h1 k4 h.ok.trades ⟨by omega,by omega⟩ (fun x hx => ?_) (fun a d ha hd => ?_) h.ok.tR
  ·rcases mrg_mem.1 hx with q | q
   ·have:=h.ok.lR.1 x q
    exact ⟨this.1,this.2.1,by have:=this.2.2;omega⟩
   ·rw [List.mem_singleton] at q
    subst q
    exact ⟨h.k2,h2,Int.le_refl _⟩
  ·show ao Lot.Qty _ = ao Lot.Qty _ + _
   rw [fq,fM,kS,if_neg (c:=is = a ∧ c = d) (fun e => by
    have:=h.k1
    rw [e.1,ha] at this
    cases this)]
   dsimp only
   omega
end
end Go.Proofs.YtgehbhkfehmdkaaGreat.Sh
