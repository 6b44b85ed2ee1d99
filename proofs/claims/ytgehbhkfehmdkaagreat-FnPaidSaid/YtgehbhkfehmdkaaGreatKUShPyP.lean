/- What is paid: what it leaves. No condition. -/
import Derived.Test.YtgehbhkfehmdkaaGreatKUShDrX
import Derived.Test.YtgehbhkfehmdkaaGreatKUShPv
set_option linter.unusedSimpArgs false
set_option linter.unusedVariables false
namespace Go.Proofs.YtgehbhkfehmdkaaGreat.Sh
open Go.RowKit
section
variable {b r:Books} {pa ca py t many how:Int}
noncomputable abbrev pyG (b:Books) (pa ca py t:Int):List Leg:=jr py ca t (who b.Accounts b.Bals pa) (shs t (aw b.Accounts b.Bals pa))
structure PayDone (b:Books) (pa ca py t:Int) (r:Books) (many:Int):Prop where
 ok:BooksOk b
 kt:inP t 0 1000000000000000
 k1:aa b.Instrs pa = 2
 k2:aa b.Instrs ca = 1
 k3:a9 b.Accounts py = 2
 held:cy b pa
 ks:0 < ((who b.Accounts b.Bals pa).length:Int)
 po:(poR b (pyG b pa ca py t)).2 = 0
 kr:r = ⟨b.Accounts,b.Instrs,(poR b (pyG b pa ca py t)).1,b.Lots,b.Trades,b.Lot⟩
 km:many = (who b.Accounts b.Bals pa).length
theorem wR (h:aS b pa ca py t = (r,many,how)):(how = 0 ∧ PayDone b pa ca py t r many) ∨ (how ≠ 0 ∧ ((how = 1 ∧ r = ⟨[],[],[],[],[],0⟩) ∨ r = b)):=by
 by_cases c0:¬ (BooksOk b ∧ aj pa ∧ aj ca ∧ aj py ∧ inP t 0 1000000000000000)
 ·rw [iR c0] at h
  simp only [Prod.mk.injEq] at h
  exact .inr ⟨by omega,.inl ⟨h.2.2.symm,h.1.symm⟩⟩
 by_cases c1:aa b.Instrs pa = 0 ∨ aa b.Instrs ca = 0 ∨ a9 b.Accounts py = 0
 ·rw [iS c0 c1] at h
  simp only [Prod.mk.injEq] at h
  exact .inr ⟨by omega,.inr h.1.symm⟩
 by_cases c2:aa b.Instrs pa ≠ 2 ∨ aa b.Instrs ca ≠ 1 ∨ a9 b.Accounts py ≠ 2
 ·rw [iT c0 c1 c2] at h
  simp only [Prod.mk.injEq] at h
  exact .inr ⟨by omega,.inr h.1.symm⟩
 by_cases c3:¬ cy b pa
 ·rw [n8 c0 c1 c2 c3] at h
  simp only [Prod.mk.injEq] at h
  exact .inr ⟨by omega,.inr h.1.symm⟩
 by_cases c4:¬ 0 < ((who b.Accounts b.Bals pa).length:Int)
 ·rw [n9 c0 c1 c2 c3 c4] at h
  simp only [Prod.mk.injEq] at h
  exact .inr ⟨by omega,.inr h.1.symm⟩
 by_cases c5:¬ (poR b (pyG b pa ca py t)).2 = 0
 ·rw [nc c0 c1 c2 c3 c4 c5] at h
  simp only [Prod.mk.injEq] at h
  refine .inr ⟨?_,.inr h.1.symm⟩
  rw [← h.2.2]
  rcases ix (poR b (pyG b pa ca py t)).2 with k | k
  ·exact absurd k c5
  ·exact k
 rw [nd c0 c1 c2 c3 c4 c5] at h
 simp only [Prod.mk.injEq] at h
 obtain ⟨k1,_,_,_,k2⟩:=Classical.not_not.1 c0
 exact .inl ⟨h.2.2.symm,k1,k2,by omega,by omega,by omega,Classical.not_not.1 c3,Classical.not_not.1 c4,Classical.not_not.1 c5,h.1.symm,h.2.1.symm⟩
theorem pP {b:Books} (hb:BooksOk b) {p x:Int} (h:x ∈ who b.Accounts b.Bals p):a9 b.Accounts x = 1:=by
 unfold who at h
 obtain ⟨a,h1,rfl⟩:=List.mem_map.1 h
 rw [ip hb.acc (flt_mem.1 h1).1]
 exact (flt_mem.1 h1).2.1
theorem PayDone.legs (h:PayDone b pa ca py t r many):∀ x ∈ pyG b pa ca py t,x.Instr = ca ∧ a9 b.Accounts x.Account ≠ 0:=fun x hx => by
 rcases List.mem_cons.1 hx with rfl | hx
 ·exact ⟨rfl,by show a9 b.Accounts py ≠ 0;rw [h.k3];decide⟩
 ·obtain ⟨k,hk,rfl⟩:=mt (by omega) hx
  exact ⟨rfl,by show a9 b.Accounts (rd _ k) ≠ 0;rw [pP h.ok (aA hk)];decide⟩
theorem PayDone.posted (h:PayDone b pa ca py t r many):Posted b (pyG b pa ca py t) r.Bals:=by
 have h1:=h.ok.post h.po (fun x hx => ⟨(h.legs x hx).2,by rw [(h.legs x hx).1,h.k2];decide⟩)
 have e:=h.kr
 subst e
 exact h1
theorem PayDone.next (h:PayDone b pa ca py t r many):BooksOk r:=by
 have h1:=h.posted
 have h2:=h.kr
 subst h2
 exact h.ok.turn h1 (fun x hx => by rw [(h.legs x hx).1,h.k2];decide)
noncomputable def pyT (b:Books) (pa ca t n:Int):Int:=fA (pyL ca (who b.Accounts b.Bals pa) (shs t (aw b.Accounts b.Bals pa)) (who b.Accounts b.Bals pa).length) n ca
theorem AT {ca:Int} {wh sh:List Int} {n:Int} (h:¬ n ∈ wh):fA (pyL ca wh sh wh.length) n ca = 0:=by
 unfold fA ao
 rw [List.map_congr_left (g:=fun _ => (0:Int)) (fun x hx => if_neg (fun e => by
  obtain ⟨k,hk,rfl⟩:=mt (by omega) hx
  exact h (by rw [← e.1];exact aA hk)))]
 induction pyL ca wh sh wh.length with
 | nil => rfl
 | cons y l ih => simpa using ih
theorem PayDone.bal (h:PayDone b pa ca py t r many) (n:Int):aL r.Bals n ca = aL b.Bals n ca + ((if py = n then -t else 0) + pyT b pa ca t n):=by
 rw [h.posted.of,hG]
 congr 2
 by_cases e:py = n
 ·rw [if_pos ⟨e,rfl⟩,if_pos e]
 ·rw [if_neg (fun q => e q.1),if_neg e]
theorem PayDone.payer (h:PayDone b pa ca py t r many):pyT b pa ca t py = 0:=AT (fun q => by
 have:=pP h.ok q
 rw [h.k3] at this
 cases this)
theorem PayDone.sh (h:PayDone b pa ca py t r many):shareable t (aw b.Accounts b.Bals pa):=om h.held h.ks h.kt
theorem PayDone.nn (h:PayDone b pa ca py t r many) (n:Int):0 ≤ pyT b pa ca t n ∧ (0 < pyT b pa ca t n → n ∈ who b.Accounts b.Bals pa):=by
 refine ⟨fu (fun x hx => ?_),fun q => Classical.byContradiction fun k => ?_⟩
 ·obtain ⟨k,hk,rfl⟩:=mt (by omega) hx
  dsimp only
  split
  ·exact uN h.sh _ (aA (by rw [iB,fU];exact hk))
  ·omega
 ·rw [pyT,AT k] at q
  omega
theorem tX {l:List Account} (hl:l.Pairwise (fun a b => a.No < b.No)) (c:Int):∀ g:List Leg,(∀ x ∈ g,x.Instr = c ∧ ∃ a ∈ l,a.No = x.Account) → ao (fun a => fA g a.No c) l = ao Leg.Amount g
 | [],h0 => by
   show ao (fun a:Account => fA [] a.No c) l = 0
   clear hl h0
   induction l with
   | nil => rfl
   | cons y l ih =>
     rw [aT,ih]
     rfl
 | x :: g,h => by
   have ih:=tX hl c g (fun y hy => h y (List.mem_cons_of_mem _ hy))
   have e1:ao (fun a:Account => fA (x :: g) a.No c) l = ao (fun a:Account => if x.Account = a.No ∧ x.Instr = c then x.Amount else 0) l + ao (fun a:Account => fA g a.No c) l:=by
    clear ih h hl
    induction l with
    | nil => rfl
    | cons y l ih =>
      rw [aT,aT,aT,ih,hG]
      omega
   rw [e1,ih,aT]
   congr 1
   obtain ⟨h1,a,ha,h2⟩:=h x (by simp)
   clear ih e1 h
   induction l with
   | nil => simp at ha
   | cons y l ih =>
     rw [List.pairwise_cons] at hl
     rw [aT]
     by_cases e:x.Account = y.No
     ·rw [if_pos ⟨e,h1⟩]
      have:ao (fun a:Account => if x.Account = a.No ∧ x.Instr = c then x.Amount else 0) l = 0:=by
       unfold ao
       rw [List.map_congr_left (g:=fun _ => (0:Int)) (fun z hz => if_neg (fun q => by have:=hl.1 z hz;omega))]
       clear ih ha hl
       induction l with
       | nil => rfl
       | cons y l ih => simpa using ih
      omega
     ·rw [if_neg (fun q => e q.1),ih hl.2]
      ·omega
      ·rcases List.mem_cons.1 ha with rfl | q
       ·exact absurd h2.symm e
       ·exact q
theorem Al {ca:Int} {wh sh:List Int} (h:sh.length = wh.length):ao Leg.Amount (pyL ca wh sh wh.length) = ao id sh:=by
 have key:∀ k:Nat,(k:Int) ≤ sh.length → ao Leg.Amount (pyL ca wh sh k) = ao id (pf sh k):=fun k => by
  induction k with
  | zero => intro _;rfl
  | succ k ih =>
    intro hk
    have e:((k + 1:Nat):Int) = (k:Int) + 1:=by omega
    rw [e,mB (by omega),bk,cT,ih (by omega),bU ⟨by omega,by omega⟩]
    rfl
 have:=key wh.length (by omega)
 rwa [b6 (by omega)] at this
noncomputable def pyS (b:Books) (pa ca py t i:Int):Int:=ao (fun a:Account => if a.No = py then 0 else pyT b pa ca t a.No) (pf b.Accounts i)
theorem yL {i:Int} (h:0 ≤ i ∧ i < b.Accounts.length):pyS b pa ca py t (i + 1) = pyS b pa ca py t i + (if (rd b.Accounts i).No = py then 0 else pyT b pa ca t (rd b.Accounts i).No):=bU h
theorem PayDone.total (h:PayDone b pa ca py t r many):pyS b pa ca py t b.Accounts.length = t:=by
 unfold pyS
 rw [b6 (by omega)]
 have e:ao (fun a:Account => if a.No = py then 0 else pyT b pa ca t a.No) b.Accounts = ao (fun a:Account => pyT b pa ca t a.No) b.Accounts:=by
  unfold ao
  congr 1
  refine List.map_congr_left (fun a _ => ?_)
  split
  ·rename_i q
   rw [q,h.payer]
  ·rfl
 rw [e]
 show ao (fun a:Account => fA _ a.No ca) b.Accounts = t
 rw [tX (ue h.ok.acc) ca _ (fun x hx => ?_),Al (by rw [iB,fU]),mE h.sh]
 obtain ⟨k,hk,rfl⟩:=mt (by omega) hx
 refine ⟨rfl,?_⟩
 have hm:=aA (l:=who b.Accounts b.Bals pa) hk
 have:=pP h.ok hm
 obtain ⟨a,h1,h2,_⟩:=ly (l:=b.Accounts) (n:=rd (who b.Accounts b.Bals pa) k) (by rw [this];decide)
 exact ⟨a,h1,h2⟩
theorem PayDone.part (h:PayDone b pa ca py t r many) {i:Int} (hi:0 ≤ i ∧ i ≤ b.Accounts.length):0 ≤ pyS b pa ca py t i ∧ pyS b pa ca py t i ≤ t:=by
 have hnn:∀ a:Account,0 ≤ (if a.No = py then 0 else pyT b pa ca t a.No):=fun a => by
  split
  ·omega
  ·exact (h.nn a.No).1
 refine ⟨fu (fun a _ => hnn a),?_⟩
 have e:=h.total
 unfold pyS at e ⊢
 rw [b6 (by omega)] at e
 have h2:ao (fun a:Account => if a.No = py then 0 else pyT b pa ca t a.No) b.Accounts = ao (fun a:Account => if a.No = py then 0 else pyT b pa ca t a.No) (pf b.Accounts i) + ao (fun a:Account => if a.No = py then 0 else pyT b pa ca t a.No) (b.Accounts.drop i.toNat):=by
  rw [← bk]
  congr 1
  exact (List.take_append_drop _ _).symm
 have h3:0 ≤ ao (fun a:Account => if a.No = py then 0 else pyT b pa ca t a.No) (b.Accounts.drop i.toNat):=fu (fun a _ => hnn a)
 omega
end
end Go.Proofs.YtgehbhkfehmdkaaGreat.Sh
