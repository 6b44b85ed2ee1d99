/- The draw of a law. No condition. -/
import Derived.Test.YtgehbhkfehmdkaaGreatKUShV
import Derived.Test.YtgehbhkfehmdkaaGreatKUShRu
import Derived.Test.YtgehbhkfehmdkaaGreatKUShDrX
import Derived.Test.YtgehbhkfehmdkaaGreatKUShSeP
import Derived.Test.YtgehbhkfehmdkaaGreatKUShSo
import Derived.Test.YtgehbhkfehmdkaaGreatKUShTs
set_option maxRecDepth 100000
set_option maxHeartbeats 40000000
set_option linter.unusedSimpArgs false
set_option linter.unusedVariables false
namespace Go.Proofs.YtgehbhkfehmdkaaGreat.Sh
section
open Go.RowKit
theorem m6 {cb:List By} (hl:cb.length ≤ 1048576):FE Tryz.prog 75 [.c (.row 0 0 cb.length)] ([ro 5 cb]) (fun v9 h9 => ∃ (r:Books) (n0 n1 n2 n3 n4 n5 n6:Int),(True) ∧ v9 = .tup [bkE 1 r,I n0,I n1,I n2,I n3,I n4,I n5,I n6] ∧ h9 = [ro 5 cb] ++ bkW r):=by
 refine dl tk 39 [.cell 2 _,.tmp 3,.tmp 4,.tmp 5,.tmp 6,.tmp 7,.tmp 8,.tmp 9] Tryz.func75 (by kernel_rfl) rfl rfl rfl rfl rfl rfl rfl ?_
 have hc:=cU 5
 repeat' (first
| apply yds;rfl
| apply yd;rfl
| refine zo (id:=2) rfl (by kernel_rfl) [(.p,1),(.p,2),(.p,4),(.p,5),(.p,7),(.p,8),(.p,10),(.p,11),(.p,13),(.p,14),(.p,16),(.p,17),(.p,19),(.p,20),(.t,0),(.t,3),(.t,6),(.t,9),(.t,12),(.t,15),(.t,18),(.t,21),(.l,22),(.p,23),(.p,24),(.p,25),(.p,26),(.p,27),(.p,28),(.p,29)] 1 (by kernel_rfl) rfl rfl ?_
| apply xp;rfl;exact tk;rfl;rfl;rfl;rfl
| apply xix;rfl;exact tk;(iterate 7 rfl);omega;rfl;rfl
| apply xle;rfl;exact tk;(iterate 6 rfl);omega;rfl;rfl;rfl;rfl
| apply xlv;rfl;exact tk;(iterate 11 rfl)
| apply xst;rfl;exact tk;rfl;rfl;rfl;rfl;rfl
| apply zm
| refine nv ?_
| apply zce false [];(iterate 10 rfl);exact fk (by omega) (by omega);rfl;rfl;rintro _ _ ⟨r,a,hq,rfl,rfl⟩ <;> refine ⟨_,_,rfl,rfl,?_⟩
| fail)
 all_goals exact df [0,2,3,4,5,6] ⟨r,_,_,_,_,_,_,_,trivial,rfl,rfl⟩ rfl rfl rfl rfl rfl rfl
end
section
open Go.RowKit
theorem xS {α:Type} [Enc α] {p:α → Prop} {m:List α} (h:∀ x ∈ m,¬ p x):flt p m = []:=by
 cases hh:flt p m with
 | nil => rfl
 | cons x r =>
   have:x ∈ flt p m:=by rw [hh];simp
   exact absurd (flt_mem.1 this).2 (h x (flt_mem.1 this).1)
section
variable {l:List Trade} {x:Trade}
theorem trPut_mem {y:Trade}:y ∈ fv l x ↔ y ∈ l ∨ y = x:=by
 unfold fv ins
 rw [List.mem_append,List.mem_cons]
 have:y ∈ l ↔ y ∈ l.take (dR l x.No).toNat ∨ y ∈ l.drop (dR l x.No).toNat:=by
  rw [← List.mem_append,List.take_append_drop]
 rw [this]
 constructor
 ·rintro (h | h | h)
  ·exact .inl (.inl h)
  ·exact .inr h
  ·exact .inl (.inr h)
 ·rintro ((h | h) | h)
  ·exact .inl h
  ·exact .inr (.inr h)
  ·exact .inr (.inl h)
theorem z9 (h:dS l) (hn:¬ ∃ t ∈ l,t.No = x.No) (hl:¬ 30 ≤ l.length) (hf:aj x.No ∧ aj x.Buyer ∧ aj x.Seller ∧ aj x.Paper ∧ aj x.Cash ∧ x.Buyer ≠ x.Seller ∧ inP x.Qty 1 1000000000000000 ∧ inP x.Price 0 1000000000000000 ∧ inP x.State 1 3):dS (fv l x):=by
 have hk:=l5 l x.No
 have hlen:(fv l x).length = l.length + 1:=cZ hk
 refine ⟨fun i h0 h1 => ?_,by rw [hlen];omega⟩
 have hne:∀ j:Int,0 ≤ j → j < l.length → (rd l j).No ≠ x.No:=fun j h2 h3 e => hn ⟨_,aA ⟨h2,h3⟩,e⟩
 rw [hlen] at h1
 have hi:rd (fv l x) i = if i < dR l x.No then rd l i else if i = dR l x.No then x else rd l (i - 1):=lV hk h0
 have hp:0 < i → rd (fv l x) (i - 1) = if i - 1 < dR l x.No then rd l (i - 1) else if i - 1 = dR l x.No then x else rd l (i - 1 - 1):=fun h3 => lV hk (by omega)
 unfold rY
 by_cases c1:i < dR l x.No
 ·rw [if_pos c1] at hi
  have:=h.1 i h0 (by omega)
  unfold rY at this
  rw [hi]
  refine ⟨this.1,this.2.1,this.2.2.1,this.2.2.2.1,this.2.2.2.2.1,this.2.2.2.2.2.1,this.2.2.2.2.2.2.1,this.2.2.2.2.2.2.2.1,this.2.2.2.2.2.2.2.2.1,fun h3 => ?_⟩
  rw [hp h3,if_pos (by omega)]
  exact this.2.2.2.2.2.2.2.2.2 h3
 rw [if_neg c1] at hi
 by_cases c2:i = dR l x.No
 ·rw [if_pos c2] at hi
  rw [hi]
  refine ⟨hf.1,hf.2.1,hf.2.2.1,hf.2.2.2.1,hf.2.2.2.2.1,hf.2.2.2.2.2.1,hf.2.2.2.2.2.2.1,hf.2.2.2.2.2.2.2.1,hf.2.2.2.2.2.2.2.2,fun h3 => ?_⟩
  rw [hp h3,if_pos (by omega)]
  exact pM (l:=l) (no:=x.No) (by omega) (by omega)
 ·rw [if_neg c2] at hi
  have:=h.1 (i - 1) (by omega) (by omega)
  unfold rY at this
  rw [hi]
  refine ⟨this.1,this.2.1,this.2.2.1,this.2.2.2.1,this.2.2.2.2.1,this.2.2.2.2.2.1,this.2.2.2.2.2.2.1,this.2.2.2.2.2.2.2.1,this.2.2.2.2.2.2.2.2.1,fun h3 => ?_⟩
  rw [hp h3,if_neg (by omega)]
  by_cases c3:i - 1 = dR l x.No
  ·rw [if_pos c3]
   have h4:=rZ (l:=l) (no:=x.No) (by omega)
   have h5:=hne (dR l x.No) hk.1 (by omega)
   rw [c3]
   omega
  ·rw [if_neg c3]
   exact this.2.2.2.2.2.2.2.2.2 (by omega)
theorem z8 (hn:¬ ∃ t ∈ l,t.No = x.No):d8 (fv l x) x.No ∧ tAt (fv l x) x.No = dR l x.No ∧ rd (fv l x) (dR l x.No) = x:=by
 have hk:=l5 l x.No
 have hlen:(fv l x).length = l.length + 1:=cZ hk
 have e:rd (fv l x) (dR l x.No) = x:=by
  show rd (ins l (dR l x.No) x) _ = x
  rw [lV hk hk.1,if_neg (by omega),if_pos rfl]
 refine ⟨⟨x,trPut_mem.2 (.inr rfl),rfl⟩,?_,e⟩
 refine fD (q:=fun t:Trade => t.No = x.No) ⟨hk.1,by rw [hlen];omega⟩ (fun j h3 h4 h5 => ?_) (by rw [e])
 have h6:rd (fv l x) j = rd l j:=by
  show rd (ins l (dR l x.No) x) j = _
  rw [lV hk h3,if_pos h4]
 rw [h6] at h5
 exact hn ⟨_,aA ⟨h3,by omega⟩,h5⟩
theorem uX (hn:¬ ∃ t ∈ l,t.No = x.No) (hs:x.State = 1):tOs (fv l x) x.No x.No = [x.No]:=by
 have h1:∀ m:List Trade,(∀ y ∈ m,y ∈ l) → flt (fun t:Trade => t.State = 1 ∧ inP t.No x.No x.No) m = []:=fun m hm => xS (fun y hy k => hn ⟨y,hm y hy,by have:=k.2;unfold inP at this;omega⟩)
 unfold tOs fv ins
 rw [aV,show (x :: List.drop (dR l x.No).toNat l) = [x] ++ List.drop (dR l x.No).toNat l from rfl,aV,h1 _ (fun y hy => List.mem_of_mem_take hy),h1 _ (fun y hy => List.mem_of_mem_drop hy),dN (p:=fun t:Trade => t.State = 1 ∧ inP t.No x.No x.No) ⟨hs,by unfold inP;omega⟩]
 rfl
end
theorem z6 {l:List Trade} {no:Int} (h:∀ t ∈ l,t.No = no → t.State ≠ 1):tOs l no no = []:=by
 unfold tOs
 rw [xS (fun t ht k => h t ht (by have:=k.2;unfold inP at this;omega) k.1)]
 rfl
section
variable {b r:Books} {no bu se pa qt ca pr how:Int}
structure TrdDone (b:Books) (no bu se pa qt ca pr:Int) (r:Books):Prop where
 ok:BooksOk b
 ka:fN no bu se pa qt ca pr
 kn:¬ ∃ t ∈ b.Trades,t.No = no
 k4:¬ (a9 b.Accounts bu ≠ 1 ∨ a9 b.Accounts se ≠ 1 ∨ bu = se ∨ aa b.Instrs pa ≠ 2 ∨ aa b.Instrs ca ≠ 1)
 kl:¬ 30 ≤ b.Trades.length
 kr:r = ⟨b.Accounts,b.Instrs,b.Bals,b.Lots,fv b.Trades ⟨no,bu,se,pa,qt,ca,pr,1⟩,b.Lot⟩
theorem x4 (h:a8 b no bu se pa qt ca pr = (r,how)):(how = 0 ∧ TrdDone b no bu se pa qt ca pr r) ∨ (how ≠ 0 ∧ ((how = 1 ∧ r = ⟨[],[],[],[],[],0⟩) ∨ r = b)):=by
 by_cases c0:BooksOk b ∧ fN no bu se pa qt ca pr
 rotate_left
 ·rw [rc c0] at h
  simp only [Prod.mk.injEq] at h
  exact .inr ⟨by omega,.inl ⟨h.2.symm,h.1.symm⟩⟩
 by_cases c1:∃ t ∈ b.Trades,t.No = no
 ·rw [zC c0 c1] at h
  simp only [Prod.mk.injEq] at h
  exact .inr ⟨by omega,.inr h.1.symm⟩
 by_cases c2:a9 b.Accounts bu = 0 ∨ a9 b.Accounts se = 0 ∨ aa b.Instrs pa = 0 ∨ aa b.Instrs ca = 0
 ·rw [Bg c0 c1 c2] at h
  simp only [Prod.mk.injEq] at h
  exact .inr ⟨by omega,.inr h.1.symm⟩
 by_cases c3:a9 b.Accounts bu ≠ 1 ∨ a9 b.Accounts se ≠ 1 ∨ bu = se ∨ aa b.Instrs pa ≠ 2 ∨ aa b.Instrs ca ≠ 1
 ·rw [Bh c0 c1 c2 c3] at h
  simp only [Prod.mk.injEq] at h
  exact .inr ⟨by omega,.inr h.1.symm⟩
 by_cases c4:30 ≤ b.Trades.length
 ·rw [Bi c0 c1 c3 c4] at h
  simp only [Prod.mk.injEq] at h
  exact .inr ⟨by omega,.inr h.1.symm⟩
 rw [zA c0 c1 c3 c4 rfl] at h
 simp only [Prod.mk.injEq] at h
 exact .inl ⟨h.2.symm,c0.1,c0.2,c1,c3,c4,h.1.symm⟩
theorem TrdDone.next (h:TrdDone b no bu se pa qt ca pr r):BooksOk r:=by
 have hk:=h.ok
 have k4:=h.k4
 obtain ⟨ka,kq,kp⟩:=h.ka
 rw [h.kr]
 refine ⟨hk.acc,hk.ins,hk.bals,hk.lots,z9 hk.trades h.kn h.kl ⟨ka no (by simp),ka bu (by simp),ka se (by simp),ka pa (by simp),ka ca (by simp),by dsimp only;omega,kq,kp,⟨Int.le_refl 1,by dsimp only;omega⟩⟩,hk.lot,hk.bR,hk.lR,fun t ht => ?_⟩
 rcases trPut_mem.1 ht with q | q
 ·exact hk.tR t q
 ·subst q
  exact ⟨by dsimp only;omega,by dsimp only;omega,by dsimp only;omega,by dsimp only;omega⟩
theorem TrdDone.at_ (h:TrdDone b no bu se pa qt ca pr r):d8 r.Trades no ∧ rd r.Trades (tAt r.Trades no) = ⟨no,bu,se,pa,qt,ca,pr,1⟩:=by
 have:=z8 (l:=b.Trades) (x:=⟨no,bu,se,pa,qt,ca,pr,1⟩) h.kn
 rw [h.kr]
 refine ⟨this.1,?_⟩
 dsimp only at this ⊢
 rw [this.2.1,this.2.2]
theorem TrdDone.opn (h:TrdDone b no bu se pa qt ca pr r):d9 r.Trades no:=⟨h.at_.1,by rw [h.at_.2]⟩
theorem TrdDone.gone (h:TrdDone b no bu se pa qt ca pr r):(az r no).2 = 0 ∧ (az r no).1 = ⟨r.Accounts,r.Instrs,r.Bals,r.Lots,upd r.Trades (tAt r.Trades no) (stT (rd r.Trades (tAt r.Trades no)) 3),r.Lot⟩:=by
 rw [jk (fun k => k ⟨h.next,h.ka.1 no (by simp)⟩) (fun k => k h.opn)]
 exact ⟨rfl,rfl⟩
theorem TrdDone.goneOk (h:TrdDone b no bu se pa qt ca pr r):BooksOk (az r no).1:=by
 rw [h.gone.2]
 exact h.next.state (oG h.at_.1).1 ⟨by decide,by decide⟩
theorem TrdDone.again (h:TrdDone b no bu se pa qt ca pr r):(a8 (az r no).1 no bu se pa qt ca pr).2 = 2 ∧ (ag (az r no).1 no 1).2.2 = 6 ∧ tOs (az r no).1.Trades no no = []:=by
 have hg:=h.goneOk
 have hs:=u7 (s:=3) h.at_.1 (by decide)
 have ha:=s4 (s:=3) h.at_.1
 have e:(az r no).1.Trades = upd r.Trades (tAt r.Trades no) (stT (rd r.Trades (tAt r.Trades no)) 3):=by rw [h.gone.2]
 rw [← e] at hs ha
 refine ⟨?_,?_,?_⟩
 ·rw [zC ⟨hg,h.ka⟩ ha.1]
 ·rw [dH (fun k => k ⟨hg,h.ka.1 no (by simp),⟨by decide,by decide⟩⟩) hs.1]
  exact hs.2
 ·refine z6 (fun t ht k => ?_)
  obtain ⟨j,hj,rfl⟩:=bw ht
  by_cases c:j = tAt r.Trades no
  ·rw [c,ha.2.2]
   show (3:Int) ≠ 1
   decide
  ·exfalso
   rw [e,aG] at hj
   have hat:=oG h.at_.1
   rw [e,(mS hat.1 hj.1).1] at k
   -- two places of one number in a row that is sorted
   have hp:=h.next.trades
   have hlt:∀ i j:Int,0 ≤ i → i < j → j < r.Trades.length → (rd r.Trades i).No < (rd r.Trades j).No:=fun i j h0 h1 h2 => by
    obtain ⟨n,hn⟩:∃ n:Nat,j = i + 1 + n:=⟨(j - i - 1).toNat,by omega⟩
    subst hn
    induction n with
    | zero =>
      have:=(hp.1 (i + 1 + (0:Nat)) (by omega) h2).2.2.2.2.2.2.2.2.2 (by omega)
      rw [show i + 1 + ((0:Nat):Int) - 1 = i by omega] at this
      exact this
    | succ n ih =>
      have:=(hp.1 (i + 1 + ((n + 1:Nat):Int)) (by omega) h2).2.2.2.2.2.2.2.2.2 (by omega)
      rw [show i + 1 + ((n + 1:Nat):Int) - 1 = i + 1 + (n:Int) by omega] at this
      have:=ih (by omega) (by omega)
      omega
   rcases Int.lt_or_lt_of_ne c with q | q
   ·have:=hlt j (tAt r.Trades no) hj.1 q hat.1.2
    omega
   ·have:=hlt (tAt r.Trades no) j hat.1.1 q hj.2
    omega
theorem TrdDone.os (h:TrdDone b no bu se pa qt ca pr r):tOs r.Trades no no = [no]:=by
 rw [h.kr]
 exact uX (x:=⟨no,bu,se,pa,qt,ca,pr,1⟩) h.kn rfl
end
end
end Go.Proofs.YtgehbhkfehmdkaaGreat.Sh
