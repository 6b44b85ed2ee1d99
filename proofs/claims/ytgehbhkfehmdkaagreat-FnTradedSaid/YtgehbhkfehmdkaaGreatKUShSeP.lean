/- A trade that is settled, one that is called off: what they leave. No condition. -/
import Derived.Test.YtgehbhkfehmdkaaGreatKUShTkP
import Derived.Test.YtgehbhkfehmdkaaGreatKUShSe
import Derived.Test.YtgehbhkfehmdkaaGreatKUShLo
set_option linter.unusedSimpArgs false
set_option linter.unusedVariables false
namespace Go.Proofs.YtgehbhkfehmdkaaGreat.Sh
open Go.RowKit
section
variable {l:List Trade} {no s:Int}
theorem oG (h:d8 l no):(0 ≤ tAt l no ∧ tAt l no < l.length) ∧ (rd l (tAt l no)).No = no:=⟨⟨(bY l _).1,gf h⟩,kf h⟩
theorem mS {i:Int} (hi:0 ≤ i ∧ i < l.length) {j:Int} (hj:0 ≤ j):(rd (upd l i (stT (rd l i) s)) j).No = (rd l j).No ∧ (rd (upd l i (stT (rd l i) s)) j).Buyer = (rd l j).Buyer ∧ (rd (upd l i (stT (rd l i) s)) j).Seller = (rd l j).Seller ∧ (rd (upd l i (stT (rd l i) s)) j).Paper = (rd l j).Paper ∧ (rd (upd l i (stT (rd l i) s)) j).Qty = (rd l j).Qty ∧ (rd (upd l i (stT (rd l i) s)) j).Cash = (rd l j).Cash ∧ (rd (upd l i (stT (rd l i) s)) j).Price = (rd l j).Price ∧ (rd (upd l i (stT (rd l i) s)) j).State = if j = i then s else (rd l j).State:=by
 rw [yN hi hj]
 by_cases e:j = i
 ·subst e
  rw [if_pos rfl,if_pos rfl]
  exact ⟨rfl,rfl,rfl,rfl,rfl,rfl,rfl,rfl⟩
 ·rw [if_neg e,if_neg e]
  exact ⟨rfl,rfl,rfl,rfl,rfl,rfl,rfl,rfl⟩
theorem s4 (h:d8 l no):d8 (upd l (tAt l no) (stT (rd l (tAt l no)) s)) no ∧ tAt (upd l (tAt l no) (stT (rd l (tAt l no)) s)) no = tAt l no ∧ rd (upd l (tAt l no) (stT (rd l (tAt l no)) s)) (tAt l no) = stT (rd l (tAt l no)) s:=by
 obtain ⟨h1,h2⟩:=oG h
 have e:rd (upd l (tAt l no) (stT (rd l (tAt l no)) s)) (tAt l no) = stT (rd l (tAt l no)) s:=An h1
 have hl:(upd l (tAt l no) (stT (rd l (tAt l no)) s)).length = l.length:=aG _ _ _
 refine ⟨⟨rd (upd l (tAt l no) (stT (rd l (tAt l no)) s)) (tAt l no),aA ⟨h1.1,by rw [hl];exact h1.2⟩,by rw [e];exact h2⟩,?_,e⟩
 refine fD (q:=fun t:Trade => t.No = no) ⟨h1.1,by rw [hl];exact h1.2⟩ (fun j h3 h4 => ?_) (by rw [e];exact h2)
 rw [(mS h1 h3).1]
 exact ir (q:=fun t:Trade => t.No = no) h3 h4
theorem zb {i:Int} (hi:0 ≤ i ∧ i < l.length) (h:dS l) (hs:inP s 1 3):dS (upd l i (stT (rd l i) s)):=by
 refine ⟨fun j h0 h1 => ?_,by rw [aG];exact h.2⟩
 rw [aG] at h1
 have h2:=h.1 j h0 h1
 obtain ⟨e1,e2,e3,e4,e5,e6,e7,e8⟩:=mS (l:=l) (s:=s) hi h0
 unfold rY at *
 rw [e1,e2,e3,e4,e5,e6,e7,e8]
 refine ⟨h2.1,h2.2.1,h2.2.2.1,h2.2.2.2.1,h2.2.2.2.2.1,h2.2.2.2.2.2.1,h2.2.2.2.2.2.2.1,h2.2.2.2.2.2.2.2.1,?_,fun h3 => ?_⟩
 ·split
  ·exact hs
  ·exact h2.2.2.2.2.2.2.2.2.1
 ·rw [(mS (l:=l) (s:=s) hi (show 0 ≤ j - 1 by omega)).1]
  exact h2.2.2.2.2.2.2.2.2.2 h3
theorem ze {ba:List Account} {bi:List Instr} {i:Int} (hi:0 ≤ i ∧ i < l.length) (h:ij ba bi l):ij ba bi (upd l i (stT (rd l i) s)):=fun t ht => by
 obtain ⟨j,hj,rfl⟩:=bw ht
 rw [aG] at hj
 obtain ⟨e1,e2,e3,e4,e5,e6,e7,e8⟩:=mS (l:=l) (s:=s) hi hj.1
 rw [e2,e3,e4,e6]
 exact h _ (aA hj)
theorem u7 (h:d8 l no) (hs:s ≠ 1):¬ d9 (upd l (tAt l no) (stT (rd l (tAt l no)) s)) no ∧ oC (upd l (tAt l no) (stT (rd l (tAt l no)) s)) no = 6:=by
 obtain ⟨h1,h2,h3⟩:=s4 (s:=s) h
 refine ⟨fun k => ?_,aK h1⟩
 have:=k.2
 rw [h2,h3] at this
 exact hs this
end
theorem BooksOk.state {b:Books} (h:BooksOk b) {i s:Int} (hi:0 ≤ i ∧ i < b.Trades.length) (hs:inP s 1 3):BooksOk ⟨b.Accounts,b.Instrs,b.Bals,b.Lots,upd b.Trades i (stT (rd b.Trades i) s),b.Lot⟩ :=
 ⟨h.acc,h.ins,h.bals,h.lots,zb hi h.trades hs,h.lot,h.bR,h.lR,ze hi h.tR⟩
theorem BooksOk.trd {b:Books} (h:BooksOk b) {i:Int} (hi:0 ≤ i ∧ i < b.Trades.length):rY b.Trades i ∧ a9 b.Accounts (rd b.Trades i).Buyer = 1 ∧ a9 b.Accounts (rd b.Trades i).Seller = 1 ∧ aa b.Instrs (rd b.Trades i).Paper = 2 ∧ aa b.Instrs (rd b.Trades i).Cash = 1:=⟨h.trades.1 i hi.1 hi.2,h.tR _ (aA hi)⟩
theorem mq (t:Trade) (x y:Int):fA (bE t) x y = (if t.Buyer = x ∧ t.Cash = y then -t.Price else 0) + ((if t.Seller = x ∧ t.Cash = y then t.Price else 0) + ((if t.Seller = x ∧ t.Paper = y then -t.Qty else 0) + (if t.Buyer = x ∧ t.Paper = y then t.Qty else 0))):=by
 simp only [bE,hG,nm]
 omega
section
variable {b r:Books} {no way gain how:Int}
structure SetDone (b:Books) (no way:Int) (t:Trade) (r:Books) (gain:Int):Prop where
 ok:BooksOk b
 kn:aj no
 kw:inP way 1 3
 op:d9 b.Trades no
 kt:t = rd b.Trades (tAt b.Trades no)
 po:(poR b (bE t)).2 = 0
 tk:tN b.Lots t.Seller t.Paper t.Qty way = 0
 ol:dW (tL b.Lots t.Seller t.Paper t.Qty way) b.Lot t.Buyer t.Paper t.Qty t.Price
 kr:r = ⟨b.Accounts,b.Instrs,(poR b (bE t)).1,opL (tL b.Lots t.Seller t.Paper t.Qty way) b.Lot t.Buyer t.Paper t.Qty t.Price,upd b.Trades (tAt b.Trades no) (stT t 2),b.Lot + 1⟩
 kg:gain = t.Price - tC b.Lots t.Seller t.Paper t.Qty way
theorem wW (h:ag b no way = (r,gain,how)):(how = 0 ∧ SetDone b no way (rd b.Trades (tAt b.Trades no)) r gain) ∨ (how ≠ 0 ∧ ((how = 1 ∧ r = ⟨[],[],[],[],[],0⟩) ∨ r = b)):=by
 by_cases c0:¬ (BooksOk b ∧ aj no ∧ inP way 1 3)
 ·rw [dG c0] at h
  simp only [Prod.mk.injEq] at h
  exact .inr ⟨by omega,.inl ⟨h.2.2.symm,h.1.symm⟩⟩
 by_cases c1:¬ d9 b.Trades no
 ·rw [dH c0 c1] at h
  simp only [Prod.mk.injEq] at h
  have:=qL b.Trades no
  exact .inr ⟨by omega,.inr h.1.symm⟩
 by_cases c2:¬ (poR b (bE (rd b.Trades (tAt b.Trades no)))).2 = 0
 ·rw [dI c0 c1 c2] at h
  simp only [Prod.mk.injEq] at h
  refine .inr ⟨?_,.inr h.1.symm⟩
  rw [← h.2.2]
  rcases ix (poR b (bE (rd b.Trades (tAt b.Trades no)))).2 with k | k
  ·exact absurd k c2
  ·exact k
 by_cases c3:¬ tN b.Lots (rd b.Trades (tAt b.Trades no)).Seller (rd b.Trades (tAt b.Trades no)).Paper (rd b.Trades (tAt b.Trades no)).Qty way = 0
 ·rw [gx c0 c1 c2 c3] at h
  simp only [Prod.mk.injEq] at h
  exact .inr ⟨by omega,.inr h.1.symm⟩
 by_cases c4:¬ dW (tL b.Lots (rd b.Trades (tAt b.Trades no)).Seller (rd b.Trades (tAt b.Trades no)).Paper (rd b.Trades (tAt b.Trades no)).Qty way) b.Lot (rd b.Trades (tAt b.Trades no)).Buyer (rd b.Trades (tAt b.Trades no)).Paper (rd b.Trades (tAt b.Trades no)).Qty (rd b.Trades (tAt b.Trades no)).Price
 ·rw [gy c0 c1 c2 c3 c4] at h
  simp only [Prod.mk.injEq] at h
  exact .inr ⟨by omega,.inr h.1.symm⟩
 rw [gz c0 c1 c2 c3 c4] at h
 simp only [Prod.mk.injEq] at h
 obtain ⟨k1,k2,k3⟩:=Classical.not_not.1 c0
 exact .inl ⟨h.2.2.symm,k1,k2,k3,Classical.not_not.1 c1,rfl,Classical.not_not.1 c2,Classical.not_not.1 c3,Classical.not_not.1 c4,h.1.symm,h.2.1.symm⟩
variable {t:Trade}
theorem SetDone.at_ (h:SetDone b no way t r gain):(0 ≤ tAt b.Trades no ∧ tAt b.Trades no < b.Trades.length) ∧ t.No = no:=by
 have:=oG h.op.1
 rw [h.kt]
 exact this
theorem SetDone.frm (h:SetDone b no way t r gain):(aj t.Buyer ∧ aj t.Seller ∧ aj t.Paper ∧ aj t.Cash ∧ t.Buyer ≠ t.Seller ∧ inP t.Qty 1 1000000000000000 ∧ inP t.Price 0 1000000000000000) ∧ a9 b.Accounts t.Buyer = 1 ∧ a9 b.Accounts t.Seller = 1 ∧ aa b.Instrs t.Paper = 2 ∧ aa b.Instrs t.Cash = 1:=by
 have:=h.ok.trd h.at_.1
 rw [← h.kt] at this
 unfold rY at this
 rw [← h.kt] at this
 obtain ⟨⟨k1,k2,k3,k4,k5,k6,k7,k8,k9⟩,k⟩:=this
 exact ⟨⟨k2,k3,k4,k5,k6,k7,k8⟩,k⟩
theorem SetDone.pc (h:SetDone b no way t r gain):t.Paper ≠ t.Cash:=fun e => by
 have:=h.frm.2.2.2
 rw [e] at this
 omega
theorem SetDone.posted (h:SetDone b no way t r gain):Posted b (bE t) r.Bals:=by
 have hf:=h.frm
 have h1:=h.ok.post h.po (fun x hx => by
  simp only [bE,List.mem_cons,List.not_mem_nil,or_false] at hx
  rcases hx with rfl | rfl | rfl | rfl <;> dsimp only <;> omega)
 rw [h.kr]
 exact h1
theorem SetDone.bal (h:SetDone b no way t r gain):aL r.Bals t.Buyer t.Paper = aL b.Bals t.Buyer t.Paper + t.Qty ∧ aL r.Bals t.Seller t.Cash = aL b.Bals t.Seller t.Cash + t.Price ∧ aL r.Bals t.Seller t.Paper = aL b.Bals t.Seller t.Paper - t.Qty ∧ aL r.Bals t.Buyer t.Cash = aL b.Bals t.Buyer t.Cash - t.Price:=by
 have h1:=h.pc
 have h2:=h.frm.1.2.2.2.2.1
 rw [h.posted.of,h.posted.of,h.posted.of,h.posted.of,mq,mq,mq,mq]
 omega
theorem SetDone.cost (h:SetDone b no way t r gain):sC (ae b.Lots t.Seller t.Paper) - sC (ae r.Lots t.Seller t.Paper) = t.Price - gain:=by
 have h2:=h.frm.1.2.2.2.2.1
 obtain ⟨_,_,_,_,e2⟩:=nL h.ol
 have t1:=(mR h.tk t.Seller t.Paper).2
 rw [if_pos ⟨rfl,rfl⟩] at t1
 rw [h.kr,e2,h.kg]
 dsimp only
 unfold sC at *
 rw [fq,fM,if_neg (fun e => h2 e.1),t1]
 omega
theorem SetDone.next (h:SetDone b no way t r gain):BooksOk r:=by
 have h1:=h.posted
 have hf:=h.frm
 obtain ⟨k1,k2,k3,k4,k5⟩:=nL h.ol
 have hn:=h.ok.lot
 unfold inP at hn
 have e:=h.kr
 rw [k5] at e
 have ht1:dS (upd b.Trades (tAt b.Trades no) (stT t 2)):=by rw [h.kt];exact zb h.at_.1 h.ok.trades ⟨by decide,by decide⟩
 have ht2:ij b.Accounts b.Instrs (upd b.Trades (tAt b.Trades no) (stT t 2)):=by rw [h.kt];exact ze h.at_.1 h.ok.tR
 rw [e] at h1 ⊢
 refine h.ok.posted h1 k4 ht1 ⟨by omega,by omega⟩ (fun x hx => ?_) (fun a d ha hd => ?_) ht2
 ·rcases mrg_mem.1 hx with q | q
  ·have:=wd h.tk h.ok.lR.1 x q
   exact ⟨this.1,this.2.1,by have:=this.2.2;omega⟩
  ·rw [List.mem_singleton] at q
   subst q
   exact ⟨hf.2.1,hf.2.2.2.1,Int.le_refl _⟩
 ·have t1:=(mR h.tk a d).1
  unfold sQ at *
  rw [fq,fM,mq,t1]
  have hc:¬ t.Cash = d:=fun e => by
   have:=hf.2.2.2.2
   rw [e,hd] at this
   cases this
  dsimp only
  omega
theorem SetDone.shut (h:SetDone b no way t r gain):(ag r no way).2.2 = 6 ∧ (az r no).2 = 6 ∧ d8 r.Trades no ∧ (rd r.Trades (tAt r.Trades no)).State = 2:=by
 have hk:=h.next
 have e:r.Trades = upd b.Trades (tAt b.Trades no) (stT (rd b.Trades (tAt b.Trades no)) 2):=by rw [h.kr,← h.kt]
 have h1:=u7 (s:=2) h.op.1 (by decide)
 have h2:=s4 (s:=2) h.op.1
 rw [← e] at h1 h2
 refine ⟨?_,?_,h2.1,?_⟩
 ·rw [dH (fun k => k ⟨hk,h.kn,h.kw⟩) h1.1];exact h1.2
 ·rw [ji (fun k => k ⟨hk,h.kn⟩) h1.1];exact h1.2
 ·rw [h2.2.1,h2.2.2];rfl
end
end Go.Proofs.YtgehbhkfehmdkaaGreat.Sh
