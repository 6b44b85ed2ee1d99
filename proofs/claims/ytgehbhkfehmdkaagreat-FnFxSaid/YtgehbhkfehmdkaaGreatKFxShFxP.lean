/- Changes wu a desk: what they leave. No condition. -/
import Derived.Test.YtgehbhkfehmdkaaGreatKFxShKp
import Derived.Test.YtgehbhkfehmdkaaGreatKFxShFx
set_option linter.unusedSimpArgs false
set_option linter.unusedVariables false
namespace Go.Proofs.YtgehbhkfehmdkaaGreat.Sh
open Go.RowKit
section
variable {b r:Books} {ho de fr to am nu dn got how:Int}
structure FxDone (b:Books) (ho de fr to am nu dn:Int) (r:Books) (got:Int):Prop where
 ok:BooksOk b
 ar:d8 ho de fr to am nu dn
 k1:a9 b.Accounts ho = 1
 k2:a9 b.Accounts de = 3
 k3:aa b.Instrs fr = 1
 k4:aa b.Instrs to = 1
 ne:fr ≠ to
 md:cO am nu dn
 po:(poR b (bY ho de fr to am got)).2 = 0
 kr:r = ⟨b.Accounts,b.Instrs,(poR b (bY ho de fr to am got)).1,b.Lots,b.Trades,b.Lot⟩
 kg:got = am * nu / dn
theorem tS (h:aZ b ho de fr to am nu dn = (r,got,how)):(how = 0 ∧ FxDone b ho de fr to am nu dn r got) ∨ (how ≠ 0 ∧ ((how = 1 ∧ r = ⟨[],[],[],[],[],0⟩) ∨ r = b)):=by
 by_cases c0:¬ (BooksOk b ∧ d8 ho de fr to am nu dn)
 ·rw [fY c0] at h
  simp only [Prod.mk.injEq] at h
  exact .inr ⟨by omega,.inl ⟨h.2.2.symm,h.1.symm⟩⟩
 by_cases c1:a9 b.Accounts ho = 0 ∨ a9 b.Accounts de = 0 ∨ aa b.Instrs fr = 0 ∨ aa b.Instrs to = 0
 ·rw [kG c0 c1] at h
  simp only [Prod.mk.injEq] at h
  exact .inr ⟨by omega,.inr h.1.symm⟩
 by_cases c2:a9 b.Accounts ho ≠ 1 ∨ a9 b.Accounts de ≠ 3 ∨ aa b.Instrs fr ≠ 1 ∨ aa b.Instrs to ≠ 1 ∨ fr = to
 ·rw [kH c0 c1 c2] at h
  simp only [Prod.mk.injEq] at h
  exact .inr ⟨by omega,.inr h.1.symm⟩
 by_cases c3:¬ cO am nu dn
 ·rw [kI c0 c1 c2 c3] at h
  simp only [Prod.mk.injEq] at h
  exact .inr ⟨by omega,.inr h.1.symm⟩
 by_cases c4:¬ (poR b (bY ho de fr to am (am * nu / dn))).2 = 0
 ·rw [kJ c0 c1 c2 c3 c4] at h
  simp only [Prod.mk.injEq] at h
  refine .inr ⟨?_,.inr h.1.symm⟩
  rw [← h.2.2]
  rcases jI (poR b (bY ho de fr to am (am * nu / dn))).2 with k | k
  ·exact absurd k c4
  ·exact k
 rw [kK c0 c1 c2 c3 c4] at h
 simp only [Prod.mk.injEq] at h
 obtain ⟨h1,rfl,h3⟩:=h
 obtain ⟨k1,k2⟩:=Classical.not_not.1 c0
 exact .inl ⟨h3.symm,⟨k1,k2,by omega,by omega,by omega,by omega,by omega,Classical.not_not.1 c3,Classical.not_not.1 c4,h1.symm,rfl⟩⟩
def fxT (ho de fr to am got n c:Int):Int:=if n = ho ∧ c = fr then -am else if n = ho ∧ c = to then got else if n = de ∧ c = fr then am else if n = de ∧ c = to then -got else 0
theorem FxDone.posted (h:FxDone b ho de fr to am nu dn r got):Posted b (bY ho de fr to am got) r.Bals:=by
 have h1:=h.kr
 subst h1
 have k:_ ∧ _ ∧ _ ∧ _:=⟨h.k1,h.k2,h.k3,h.k4⟩
 refine h.ok.post h.po (fun x hx => ?_)
 simp only [bY,List.mem_cons,List.not_mem_nil,or_false] at hx
 obtain ⟨k1,k2,k3,k4⟩:=k
 rcases hx with rfl | rfl | rfl | rfl <;> dsimp only <;> omega
theorem FxDone.bal (h:FxDone b ho de fr to am nu dn r got) (n c:Int):aK r.Bals n c = aK b.Bals n c + fxT ho de fr to am got n c:=by
 rw [h.posted.of]
 have k1:=h.k1
 have k2:=h.k2
 have k3:=h.ne
 have k4:ho ≠ de:=fun e => by rw [e,k2] at k1;cases k1
 unfold fxT
 simp only [bY,l5,mj]
 by_cases e1:n = ho ∧ c = fr
 ·rw [if_pos e1,if_pos ⟨e1.1.symm,e1.2.symm⟩,if_neg (fun q => k4 (by omega)),if_neg (fun q => k3 (by omega)),if_neg (fun q => k3 (by omega))]
  omega
 rw [if_neg e1,if_neg (fun q => e1 ⟨q.1.symm,q.2.symm⟩)]
 by_cases e2:n = ho ∧ c = to
 ·rw [if_pos e2,if_neg (fun q => k4 (by omega)),if_neg (fun q => k4 (by omega)),if_pos ⟨e2.1.symm,e2.2.symm⟩]
  omega
 rw [if_neg e2,if_neg (c:=ho = n ∧ to = c) (fun q => e2 ⟨q.1.symm,q.2.symm⟩)]
 by_cases e3:n = de ∧ c = fr
 ·rw [if_pos e3,if_pos ⟨e3.1.symm,e3.2.symm⟩,if_neg (fun q => k3 (by omega))]
  omega
 rw [if_neg e3,if_neg (fun q => e3 ⟨q.1.symm,q.2.symm⟩)]
 by_cases e4:n = de ∧ c = to
 ·rw [if_pos e4,if_pos ⟨e4.1.symm,e4.2.symm⟩]
  omega
 rw [if_neg e4,if_neg (fun q => e4 ⟨q.1.symm,q.2.symm⟩)]
 omega
theorem FxDone.next (h:FxDone b ho de fr to am nu dn r got):BooksOk r:=by
 have h1:=h.posted
 have h2:=h.kr
 subst h2
 refine h.ok.turn h1 (fun x hx => ?_)
 have k3:=h.k3
 have k4:=h.k4
 simp only [bY,List.mem_cons,List.not_mem_nil,or_false] at hx
 rcases hx with rfl | rfl | rfl | rfl <;> dsimp only <;> omega
end
end Go.Proofs.YtgehbhkfehmdkaaGreat.Sh
