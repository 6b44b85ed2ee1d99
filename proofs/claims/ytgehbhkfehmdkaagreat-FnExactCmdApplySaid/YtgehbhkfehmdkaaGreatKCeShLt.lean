/- Lots: two rows as one, what is taken. No condition. -/
import Derived.Test.YtgehbhkfehmdkaaGreatKCeShLo
import Derived.Test.YtgehbhkfehmdkaaGreatKCeShSo
set_option linter.unusedSectionVars false
set_option linter.unusedSimpArgs false
set_option linter.unusedVariables false
namespace Go.Proofs.YtgehbhkfehmdkaaGreat.Sh
section
open Go.RowKit
def lb2 (x y:Lot):Prop:=f7 x.Account x.Instr x.No y.Account y.Instr y.No
theorem zA (x:Lot):¬ lb2 x x:=by unfold lb2 f7 bef;omega
theorem tY {x y z:Lot} (h:lb2 x y) (k:lb2 y z):lb2 x z:=kw h k
theorem yp {α:Type} {R:α → α → Prop} (hi:∀ x,¬ R x x) (ht:∀ {x y z},R x y → R y z → R x z):∀ {l m:List α},l.Pairwise R → m.Pairwise R → (∀ x,x ∈ l ↔ x ∈ m) → l = m
 | [],[],_,_,_ => rfl
 | [],y :: m,_,_,h => absurd ((h y).2 (by simp)) (by simp)
 | x :: l,[],_,_,h => absurd ((h x).1 (by simp)) (by simp)
 | x :: l,y :: m,hl,hm,h => by
   rw [List.pairwise_cons] at hl hm
   have hx:=(h x).1 (by simp)
   have hy:=(h y).2 (by simp)
   rw [List.mem_cons] at hx hy
   have e:x = y:=by
    rcases hx with hx | hx
    ·exact hx
    ·rcases hy with hy | hy
     ·exact hy.symm
     ·exact absurd (ht (hm.1 x hx) (hl.1 y hy)) (hi y)
   subst e
   congr 1
   refine yp hi ht hl.2 hm.2 (fun z => ⟨fun hz => ?_,fun hz => ?_⟩)
   ·have h1:=(h z).1 (by simp [hz])
    rw [List.mem_cons] at h1
    rcases h1 with rfl | h1
    ·exact absurd (hl.1 z hz) (hi z)
    ·exact h1
   ·have h1:=(h z).2 (by simp [hz])
    rw [List.mem_cons] at h1
    rcases h1 with rfl | h1
    ·exact absurd (hm.1 z hz) (hi z)
    ·exact h1
noncomputable def mrg:List Lot → List Lot → List Lot
 | [],b => b
 | x :: a,[] => x :: a
 | x :: a,y :: b => sel (lb2 x y) (x :: mrg a (y :: b)) (y :: mrg (x :: a) b)
termination_by a b => a.length + b.length
theorem jL (b:List Lot):mrg [] b = b:=by rw [mrg]
theorem jo (a:List Lot):mrg a [] = a:=by cases a <;> rw [mrg]
theorem uW {x y:Lot} {a b:List Lot} (h:lb2 x y):mrg (x :: a) (y :: b) = x :: mrg a (y :: b):=by rw [mrg,ap h]
theorem uX {x y:Lot} {a b:List Lot} (h:¬ lb2 x y):mrg (x :: a) (y :: b) = y :: mrg (x :: a) b:=by rw [mrg,a8 h]
theorem jp:∀ (a b:List Lot),(mrg a b).Perm (a ++ b)
 | [],b => by rw [jL];exact .refl _
 | x :: a,[] => by rw [jo,List.append_nil]
 | x :: a,y :: b => by
   by_cases h:lb2 x y
   ·rw [uW h]
    exact (jp a (y :: b)).cons x
   ·rw [uX h]
    exact ((jp (x :: a) b).cons y).trans List.perm_middle.symm
termination_by a b => a.length + b.length
theorem rf (a b:List Lot):(mrg a b).length = a.length + b.length:=by rw [(jp a b).length_eq,List.length_append]
theorem mrg_mem {a b:List Lot} {x:Lot}:x ∈ mrg a b ↔ x ∈ a ∨ x ∈ b:=by rw [(jp a b).mem_iff,List.mem_append]
def wo (a b:List Lot):Prop:=∀ x ∈ a,∀ y ∈ b,lb2 x y ∨ lb2 y x
theorem u6:∀ {a b:List Lot},a.Pairwise lb2 → b.Pairwise lb2 → wo a b → (mrg a b).Pairwise lb2
 | [],b,_,hb,_ => by rw [jL];exact hb
 | x :: a,[],ha,_,_ => by rw [jo];exact ha
 | x :: a,y :: b,ha,hb,hd => by
   have ha':=List.pairwise_cons.1 ha
   have hb':=List.pairwise_cons.1 hb
   by_cases h:lb2 x y
   ·rw [uW h,List.pairwise_cons]
    refine ⟨fun z hz => ?_,u6 ha'.2 hb (fun u hu v hv => hd u (by simp [hu]) v hv)⟩
    rcases mrg_mem.1 hz with hz | hz
    ·exact ha'.1 z hz
    ·rcases List.mem_cons.1 hz with rfl | hz
     ·exact h
     ·exact tY h (hb'.1 z hz)
   ·have h2:lb2 y x:=(hd x (by simp) y (by simp)).resolve_left h
    rw [uX h,List.pairwise_cons]
    refine ⟨fun z hz => ?_,u6 ha hb'.2 (fun u hu v hv => hd u hu v (by simp [hv]))⟩
    rcases mrg_mem.1 hz with hz | hz
    ·rcases List.mem_cons.1 hz with rfl | hz
     ·exact h2
     ·exact tY h2 (ha'.1 z hz)
    ·exact hb'.1 z hz
termination_by a b => a.length + b.length
theorem yI {a b b' s:List Lot} (hs:s.Perm (a ++ b')) (hb:b'.Perm b) (hp:s.Pairwise (fun x y => ¬ lb2 y x)) (ha:a.Pairwise lb2) (hb2:b.Pairwise lb2) (hd:wo a b):s = mrg a b:=by
 have h1:s.Perm (mrg a b):=(hs.trans (List.Perm.append_left a hb)).trans (jp a b).symm
 have h2:=u6 ha hb2 hd
 have hsym:s.Pairwise (fun x y => lb2 x y ∨ lb2 y x):=(h1.symm.pairwise (h2.imp fun h => .inl h) (fun h => h.symm))
 refine yp zA tY ?_ h2 (fun x => h1.mem_iff)
 have:=hsym.and hp
 exact this.imp fun h => h.1.resolve_right h.2
theorem zG (l:List Lot) (x:Lot):mrg l [x] = ins l (fIx l (fun y => ¬ lb2 y x)) x:=by
 unfold ins fIx
 rw [Int.toNat_natCast]
 induction l with
 | nil => rw [jL];rfl
 | cons y l ih =>
   by_cases h:lb2 y x
   ·rw [uW h,ih,List.findIdx_cons,tJ (p:=¬ lb2 y x) (fun k => k h)]
    rfl
   ·rw [uX h,jo,List.findIdx_cons,oO (p:=¬ lb2 y x) h]
    rfl
theorem LSd.pw {l:List Lot} (h:LSd l l.length):l.Pairwise lb2:=by
 rw [List.pairwise_iff_getElem]
 intro i j hi hj hij
 have:=h.lt (i:=i) (j:=j) (by omega) (by omega) (by omega)
 simpa [lb2,rd,List.getD_eq_getElem?_getD,hi,hj] using this
theorem LotsOk.pw {l:List Lot} (h:LotsOk l):l.Pairwise lb2:=LSd.pw (fun i h0 h1 => (h.1.1 i (by omega) h1).2 h0)
def reL (l:Lot) (q k:Int):Lot:=⟨l.Account,l.Instr,l.No,q,k⟩
def tkq:List Lot → Int → List Lot × Int
 | [],_ => ([],0)
 | l :: r,q => if q ≤ 0 then (l :: r,0) else if l.Qty ≤ q then ((tkq r (q - l.Qty)).1,l.Cost + (tkq r (q - l.Qty)).2) else (reL l (l.Qty - q) (l.Cost - l.Cost * q / l.Qty) :: r,l.Cost * q / l.Qty)
theorem pn {l:List Lot} {q:Int} (h:q ≤ 0):tkq l q = (l,0):=by
 cases l with
 | nil => rfl
 | cons x r => rw [tkq,if_pos h]
theorem wb {l:Lot} {r:List Lot} {q:Int} (h:0 < q) (h2:l.Qty ≤ q):tkq (l :: r) q = ((tkq r (q - l.Qty)).1,l.Cost + (tkq r (q - l.Qty)).2):=by
 rw [tkq,if_neg (by omega),if_pos h2]
theorem wc {l:Lot} {r:List Lot} {q:Int} (h:0 < q) (h2:¬ l.Qty ≤ q):tkq (l :: r) q = (reL l (l.Qty - q) (l.Cost - l.Cost * q / l.Qty) :: r,l.Cost * q / l.Qty):=by
 rw [tkq,if_neg (by omega),if_neg h2]
def LG (l:List Lot):Prop:=∀ x ∈ l,(1 ≤ x.Qty ∧ x.Qty ≤ 1000000000000000) ∧ 0 ≤ x.Cost ∧ x.Cost ≤ 1000000000000000
theorem dh {k q n:Int} (hk:0 ≤ k) (hq:0 ≤ q) (hn:q ≤ n) (h1:1 ≤ n):0 ≤ k * q / n ∧ k * q / n ≤ k:=by
 refine ⟨Int.ediv_nonneg (Int.mul_nonneg hk hq) (by omega),?_⟩
 have h2:k * q ≤ k * n:=Int.mul_le_mul_of_nonneg_left hn hk
 have h3:=Int.ediv_le_ediv (c:=n) (by omega) h2
 rwa [Int.mul_ediv_cancel _ (by omega)] at h3
theorem sY {k n:Int} (h1:1 ≤ n):k * n / n = k:=Int.mul_ediv_cancel _ (by omega)
theorem LG.cons {x:Lot} {r:List Lot} (h:LG (x :: r)):((1 ≤ x.Qty ∧ x.Qty ≤ 1000000000000000) ∧ 0 ≤ x.Cost ∧ x.Cost ≤ 1000000000000000) ∧ LG r:=⟨h x (by simp),fun y hy => h y (by simp [hy])⟩
theorem A5 (x:Lot) (r:List Lot):sC (x :: r) = x.Cost + sC r:=bY _ _ _
theorem A6 (x:Lot) (r:List Lot):sQ (x :: r) = x.Qty + sQ r:=bY _ _ _
theorem LG.sC_nn {l:List Lot} (h:LG l):0 ≤ sC l:=gI (fun x hx => (h x hx).2.1)
theorem LG.sQ_nn {l:List Lot} (h:LG l):0 ≤ sQ l:=gI (fun x hx => by have:=(h x hx).1.1;omega)
theorem eO:∀ {l:List Lot} {q:Int},LG l → 0 ≤ (tkq l q).2 ∧ (tkq l q).2 ≤ sC l
 | [],q,_ => by simp [tkq,sC,ar]
 | x :: r,q,h => by
   have hc:=h.cons
   have hs:=hc.2.sC_nn
   rw [A5]
   by_cases h1:q ≤ 0
   ·rw [pn h1];dsimp only;omega
   by_cases h2:x.Qty ≤ q
   ·rw [wb (by omega) h2]
    have:=eO (q:=q - x.Qty) hc.2
    dsimp only;omega
   ·rw [wc (by omega) h2]
    have:=dh (k:=x.Cost) (q:=q) (n:=x.Qty) (by omega) (by omega) (by omega) (by omega)
    dsimp only;omega
theorem yN {R:Lot → Lot → Prop} (hR:∀ x y q k,R x y → R (reL x q k) y):∀ {l:List Lot} {q:Int},l.Pairwise R → (tkq l q).1.Pairwise R
 | [],q,h => by simp [tkq]
 | x :: r,q,h => by
   have hc:=List.pairwise_cons.1 h
   by_cases h1:q ≤ 0
   ·rw [pn h1];exact h
   by_cases h2:x.Qty ≤ q
   ·rw [wb (by omega) h2]
    exact yN hR hc.2
   ·rw [wc (by omega) h2]
    exact List.pairwise_cons.2 ⟨fun y hy => hR _ _ _ _ (hc.1 y hy),hc.2⟩
theorem yM {p:Lot → Prop} (hp:∀ x q k,p x → p (reL x q k)):∀ {l:List Lot} {q:Int},(∀ x ∈ l,p x) → ∀ x ∈ (tkq l q).1,p x
 | [],q,h => by simp [tkq]
 | x :: r,q,h => by
   by_cases h1:q ≤ 0
   ·rw [pn h1];exact h
   by_cases h2:x.Qty ≤ q
   ·rw [wb (by omega) h2]
    exact yM hp (fun y hy => h y (by simp [hy]))
   ·rw [wc (by omega) h2]
    intro y hy
    rcases List.mem_cons.1 hy with rfl | hy
    ·exact hp _ _ _ (h x (by simp))
    ·exact h y (by simp [hy])
theorem oI:∀ (l:List Lot) (q:Int),(tkq l q).1.length ≤ l.length
 | [],q => by simp [tkq]
 | x :: r,q => by
   by_cases h1:q ≤ 0
   ·rw [pn h1];exact Nat.le_refl _
   by_cases h2:x.Qty ≤ q
   ·rw [wb (by omega) h2]
    have:=oI r (q - x.Qty)
    simp only [List.length_cons];omega
   ·rw [wc (by omega) h2]
    simp
noncomputable def tkL (own:List Lot) (q way:Int):List Lot :=
 sel (way = 3) (sel (sQ own = q) [] [reL (rd own 0) (sQ own - q) (sC own - sC own * q / sQ own)]) (sel (way = 2) (tkq own.reverse q).1.reverse (tkq own q).1)
noncomputable def tkC (own:List Lot) (q way:Int):Int :=
 pick (way = 3) (sC own * q / sQ own) (pick (way = 2) (tkq own.reverse q).2 (tkq own q).2)
theorem LG.rev {l:List Lot} (h:LG l):LG l.reverse:=fun x hx => h x (List.mem_reverse.1 hx)
theorem ui (l:List Lot):sC l.reverse = sC l:=by
 unfold sC ar
 rw [List.map_reverse,List.sum_reverse]
theorem Bn (l:List Lot):sQ l.reverse = sQ l:=by
 unfold sQ ar
 rw [List.map_reverse,List.sum_reverse]
theorem Bx {own:List Lot} {q way:Int} (h:LG own) (hq:0 ≤ q ∧ q ≤ sQ own) (h1:1 ≤ sQ own):0 ≤ tkC own q way ∧ tkC own q way ≤ sC own:=by
 unfold tkC
 by_cases h3:way = 3
 ·rw [aD h3]
  exact dh h.sC_nn hq.1 hq.2 h1
 ·rw [aB h3]
  by_cases h2:way = 2
  ·rw [aD h2,← ui]
   exact eO h.rev
  ·rw [aB h2]
   exact eO h
theorem BA {own:List Lot} {q way:Int} (h:own.Pairwise lb2):(tkL own q way).Pairwise lb2:=by
 unfold tkL
 by_cases h3:way = 3
 ·rw [ap h3]
  by_cases h4:sQ own = q
  ·rw [ap h4];exact .nil
  ·rw [a8 h4];simp
 ·rw [a8 h3]
  by_cases h2:way = 2
  ·rw [ap h2,List.pairwise_reverse]
   exact yN (R:=fun x y => lb2 y x) (fun x y q k h => h) (List.pairwise_reverse.2 h)
  ·rw [a8 h2]
   exact yN (fun x y q k h => h) h
theorem Bz {own:List Lot} {q way a c:Int} (h:∀ x ∈ own,x.Account = a ∧ x.Instr = c) (hn:0 < (own.length:Int)):∀ x ∈ tkL own q way,x.Account = a ∧ x.Instr = c:=by
 unfold tkL
 by_cases h3:way = 3
 ·rw [ap h3]
  by_cases h4:sQ own = q
  ·rw [ap h4];intro x hx;cases hx
  ·rw [a8 h4]
   intro x hx
   rw [List.mem_singleton] at hx
   subst hx
   exact h (rd own 0) (ax ⟨by omega,hn⟩)
 ·rw [a8 h3]
  by_cases h2:way = 2
  ·rw [ap h2]
   intro x hx
   exact yM (p:=fun x => x.Account = a ∧ x.Instr = c) (fun x q k h => h) (fun y hy => h y (List.mem_reverse.1 hy)) x (List.mem_reverse.1 hx)
  ·rw [a8 h2]
   exact yM (p:=fun x => x.Account = a ∧ x.Instr = c) (fun x q k h => h) h
theorem vv {own:List Lot} {q way:Int} (hn:0 < (own.length:Int)):(tkL own q way).length ≤ own.length:=by
 unfold tkL
 by_cases h3:way = 3
 ·rw [ap h3]
  by_cases h4:sQ own = q
  ·rw [ap h4];simp
  ·rw [a8 h4];simp only [List.length_cons,List.length_nil];omega
 ·rw [a8 h3]
  by_cases h2:way = 2
  ·rw [ap h2,List.length_reverse]
   have:=oI own.reverse q
   rwa [List.length_reverse] at this
  ·rw [a8 h2]
   exact oI _ _
theorem lotsOf_mem {l:List Lot} {a c:Int} {x:Lot}:x ∈ aa l a c ↔ x ∈ l ∧ x.Account = a ∧ x.Instr = c:=flt_mem
theorem lotsNot_mem {l:List Lot} {a c:Int} {x:Lot}:x ∈ bh l a c ↔ x ∈ l ∧ ¬ (x.Account = a ∧ x.Instr = c):=flt_mem
theorem wA {l b:List Lot} {a c:Int} (h:∀ x ∈ b,x.Account = a ∧ x.Instr = c):wo (bh l a c) b:=fun x hx y hy => by
 have h1:=(lotsNot_mem.1 hx).2
 have h2:=h y hy
 unfold lb2 f7 bef
 omega
theorem pW {l:List Lot} {a c:Int} (h:l.Pairwise lb2):(aa l a c).Pairwise lb2:=h.filter _
theorem tZ {l:List Lot} {a c:Int} (h:l.Pairwise lb2):(bh l a c).Pairwise lb2:=h.filter _
theorem LotsOk.LG {l:List Lot} (h:LotsOk l):LG l:=fun x hx => by
 obtain ⟨i,hi,rfl⟩:=bL hx
 have:=(h.1.1 i hi.1 hi.2).1
 unfold kY inP at this
 omega
theorem LG.flt {l:List Lot} (h:LG l) (p:Lot → Prop):LG (flt p l):=fun x hx => h x (flt_mem.1 hx).1
theorem LotsOk.own {l:List Lot} (h:LotsOk l) (a c:Int):(0 ≤ sQ (aa l a c) ∧ sQ (aa l a c) ≤ 1000000000000000) ∧ 0 ≤ sC (aa l a c) ∧ sC (aa l a c) ≤ 1000000000000000:=by
 have hg:=h.LG.flt (fun x => x.Account = a ∧ x.Instr = c)
 have h1:=hg.sQ_nn
 have h2:=hg.sC_nn
 by_cases e:aa l a c = []
 ·rw [e];decide
 ·obtain ⟨x,hx⟩:=List.exists_mem_of_ne_nil _ e
  obtain ⟨hx1,hx2,hx3⟩:=lotsOf_mem.1 hx
  have:=h.2 x hx1
  rw [hx2,hx3] at this
  unfold ak inP at this
  exact ⟨⟨h1,by omega⟩,h2,by omega⟩
theorem ry {l:List Lot} (h:1 ≤ sQ l):0 < (l.length:Int):=by
 cases l with
 | nil => simp [sQ,ar] at h
 | cons x r => simp only [List.length_cons];omega
end
section
open Go.RowKit
def lP (n:Nat):List Int:=mkl n (fun i => i)
theorem ef (n:Nat):(lP n).length = n:=ck _ _
theorem er {n:Nat} {i:Int} (h:0 ≤ i ∧ i < n):rd (lP n) i = i:=dr h
theorem zm (n:Nat):DS (lP n) 0 n:=fun i j h0 h1 h2 => by rw [er ⟨h0,by omega⟩,er ⟨by omega,h2⟩];omega
theorem qP (g:Int → Int) (n:Nat):∃ l,Mv (lP n) l 0 n ∧ RS g l 0 n:=yH (by omega) (by rw [ef];omega) (zm n)
noncomputable def f9 (g:Int → Int) (n:Nat):List Int:=Classical.choose (qP g n)
theorem l9 (g:Int → Int) (n:Nat):Mv (lP n) (f9 g n) 0 n:=(Classical.choose_spec (qP g n)).1
theorem jM (g:Int → Int) (n:Nat):RS g (f9 g n) 0 n:=(Classical.choose_spec (qP g n)).2
theorem l8 (g:Int → Int) (n:Nat):(f9 g n).length = n:=by rw [(l9 g n).len,ef]
theorem rm {g:Int → Int} {n:Nat} {l:List Int} (h:Mv (lP n) l 0 n) (k:RS g l 0 n):l = f9 g n:=RS.uniq (by omega) (by rw [ef];omega) h (l9 g n) k (jM g n)
theorem fO {g:Int → Int} {n:Nat} {i:Int} (h:0 ≤ i ∧ i < n):0 ≤ rd (f9 g n) i ∧ rd (f9 g n) i < n:=by
 obtain ⟨j,hj,e⟩:=(l9 g n).to i h.1 h.2
 rw [e,er hj]
 exact hj
theorem yi {g:Int → Int} {n:Nat} {v:Int} (h:0 ≤ v ∧ v < n):∃ i:Int,(0 ≤ i ∧ i < n) ∧ rd (f9 g n) i = v:=by
 obtain ⟨j,hj,e⟩:=(l9 g n).from_ v h.1 h.2
 rw [er h] at e
 exact ⟨j,hj,e.symm⟩
theorem ue {g g':Int → Int} {n:Nat} (h:∀ i:Int,0 ≤ i → i < n → g i = g' i):f9 g n = f9 g' n:=by
 refine rm (l9 g n) (fun i j h0 h1 h2 => ?_)
 have:=jM g n i j h0 h1 h2
 have r1:=fO (g:=g) (n:=n) (i:=i) ⟨h0,by omega⟩
 have r2:=fO (g:=g) (n:=n) (i:=j) ⟨by omega,h2⟩
 unfold so at *
 rw [← h _ r1.1 r1.2,← h _ r2.1 r2.2]
 exact this
theorem ug {α:Type} [Enc α] {l:List α} {k p:Int} {x:α} (h:0 ≤ k ∧ k ≤ l.length) (hp:0 ≤ p):rd (ins l k x) p = if p < k then rd l p else if p = k then x else rd l (p - 1):=by
 unfold rd ins
 rw [List.getD_eq_getElem?_getD,List.getD_eq_getElem?_getD,List.getD_eq_getElem?_getD,List.getElem?_append]
 by_cases h1:p < k
 ·rw [if_pos (by rw [List.length_take];omega),if_pos h1,List.getElem?_take_of_lt (by omega)]
 ·rw [if_neg (by rw [List.length_take];omega),if_neg h1]
  have e:p.toNat - (List.take k.toNat l).length = (p - k).toNat:=by rw [List.length_take];omega
  rw [e]
  by_cases h2:p = k
  ·subst h2
   rw [if_pos rfl,Int.sub_self]
   rfl
  ·rw [if_neg h2,show (p - k).toNat = (p - k - 1).toNat + 1 from by omega,List.getElem?_cons_succ,List.getElem?_drop]
   congr 2
   omega
theorem w5 {g:Int → Int} {n:Nat} {k:Int} (hk:0 ≤ k ∧ k ≤ n) (h1:k = 0 ∨ ¬ g (rd (f9 g n) (k - 1)) < g n) (h2:∀ p:Int,k ≤ p → p < n → g (rd (f9 g n) p) < g n):ins (f9 g n) k n = f9 g (n + 1):=by
 have hl:=l8 g n
 have hil:((ins (f9 g n) k (n:Int)).length:Int) = n + 1:=by rw [bZ (by omega)];omega
 have ev:∀ p:Int,0 ≤ p → rd (ins (f9 g n) k (n:Int)) p = if p < k then rd (f9 g n) p else if p = k then (n:Int) else rd (f9 g n) (p - 1):=fun p hp => ug (by omega) hp
 refine rm ⟨by rw [ef];omega,fun i h0 h1' => ?_,fun i h0 h1' => ?_,fun i h0 h1' => ?_⟩ (fun i j h0 h1' h2' => ?_)
 ·unfold rd
  rw [List.getD_eq_getElem?_getD,List.getD_eq_getElem?_getD,List.getElem?_eq_none (by omega),List.getElem?_eq_none (by rw [ef];omega)]
 ·rw [ev i h0]
  by_cases c1:i < k
  ·rw [if_pos c1]
   have:=fO (g:=g) (n:=n) (i:=i) ⟨h0,by omega⟩
   exact ⟨rd (f9 g n) i,by omega,(er ⟨this.1,by omega⟩).symm⟩
  ·rw [if_neg c1]
   by_cases c2:i = k
   ·rw [if_pos c2]
    exact ⟨n,by omega,(er ⟨by omega,by omega⟩).symm⟩
   ·rw [if_neg c2]
    have:=fO (g:=g) (n:=n) (i:=i - 1) ⟨by omega,by omega⟩
    exact ⟨rd (f9 g n) (i - 1),by omega,(er ⟨this.1,by omega⟩).symm⟩
 ·rw [er ⟨h0,by omega⟩]
  by_cases e:i = n
  ·exact ⟨k,by omega,by rw [ev k hk.1,if_neg (by omega),if_pos rfl,e]⟩
  ·obtain ⟨p,hp,e2⟩:=yi (g:=g) (n:=n) (v:=i) ⟨h0,by omega⟩
   by_cases c:p < k
   ·exact ⟨p,by omega,by rw [ev p hp.1,if_pos c,e2]⟩
   ·exact ⟨p + 1,by omega,by rw [ev _ (by omega),if_neg (by omega),if_neg (by omega),show p + 1 - 1 = p from by omega,e2]⟩
 ·have hbef:∀ p:Int,0 ≤ p → p < k → so g (rd (f9 g n) p) n:=fun p p0 p1 => by
   have r:=fO (g:=g) (n:=n) (i:=k - 1) ⟨by omega,by omega⟩
   have hk1:so g (rd (f9 g n) (k - 1)) n:=by
    unfold so
    rcases h1 with h | h <;> omega
   by_cases e:p = k - 1
   ·rw [e];exact hk1
   ·exact fk (jM g n p (k - 1) p0 (by omega) (by omega)) hk1
  rw [ev i h0,ev j (by omega)]
  by_cases c1:i < k
  ·rw [if_pos c1]
   by_cases d1:j < k
   ·rw [if_pos d1];exact jM g n i j h0 h1' (by omega)
   ·rw [if_neg d1]
    by_cases d2:j = k
    ·rw [if_pos d2];exact hbef i h0 c1
    ·rw [if_neg d2];exact jM g n i (j - 1) h0 (by omega) (by omega)
  ·rw [if_neg c1]
   by_cases c2:i = k
   ·rw [if_pos c2,if_neg (by omega),if_neg (by omega)]
    exact .inl (h2 (j - 1) (by omega) (by omega))
   ·rw [if_neg c2,if_neg (by omega),if_neg (by omega)]
    exact jM g n (i - 1) (j - 1) (by omega) (by omega) (by omega)
def m4 (ws:List Int):Prop:=inP ws.length 1 40 ∧ (∀ x ∈ ws,inP x 0 1000000000000000) ∧ inP (ar id ws) 1 1000000000000000
def shareable (t:Int) (ws:List Int):Prop:=m4 ws ∧ inP t 0 1000000000000000
def shQ (t:Int) (ws:List Int) (w:Int):Int:=t * w / ar id ws
def shG (t:Int) (ws:List Int) (i:Int):Int:=t * rd ws i % ar id ws
def eB (t:Int) (ws:List Int):List Int:=ws.map (shQ t ws)
def cD (t:Int) (ws:List Int):Int:=t - ar id (eB t ws)
noncomputable def dH (t:Int) (ws:List Int):List Int:=f9 (shG t ws) ws.length
def inc (o:List Int) (i:Int):List Int:=upd o i (rd o i + 1)
noncomputable def shs (t:Int) (ws:List Int):List Int:=(pf (dH t ws) (cD t ws)).foldl inc (eB t ws)
theorem yF (t W:Int) (hW:0 < W):∀ ws:List Int,W * ar id (ws.map (fun w => t * w / W)) + ar id (ws.map (fun w => t * w % W)) = t * ar id ws
 | [] => by simp [ar]
 | w :: ws => by
   have ih:=yF t W hW ws
   have h1:=(jb (t * w) W hW).1
   rw [List.map_cons,List.map_cons,bY,bY,bY]
   simp only [id]
   rw [Int.mul_add,Int.mul_add,← ih]
   have:W * (t * w / W) + t * w % W = t * w:=h1.symm
   omega
theorem lp {ws:List Int} (h:∀ x ∈ ws,0 ≤ x) {w:Int} (hw:w ∈ ws):w ≤ ar id ws:=by
 induction ws with
 | nil => cases hw
 | cons x ws ih =>
   rw [bY]
   have h1:0 ≤ ar id ws:=gI (fun y hy => h y (by simp [hy]))
   have h2:=h x (by simp)
   rcases List.mem_cons.1 hw with rfl | hw
   ·simp only [id];omega
   ·have:=ih (fun y hy => h y (by simp [hy])) hw
    simp only [id] at *;omega
section
variable {t:Int} {ws:List Int} (h:shareable t ws)
include h
theorem shareable.W:1 ≤ ar id ws ∧ ar id ws ≤ 1000000000000000:=h.1.2.2
theorem shareable.w {w:Int} (hw:w ∈ ws):(0 ≤ w ∧ w ≤ ar id ws) ∧ w ≤ 1000000000000000:=⟨⟨(h.1.2.1 w hw).1,lp (fun x hx => (h.1.2.1 x hx).1) hw⟩,(h.1.2.1 w hw).2⟩
theorem shareable.q {w:Int} (hw:w ∈ ws):0 ≤ t * w / ar id ws ∧ t * w / ar id ws ≤ t:=by
 have h1:=h.w hw
 have h2:=h.W
 exact dh h.2.1 h1.1.1 h1.1.2 h2.1
theorem shareable.more:0 ≤ cD t ws ∧ cD t ws ≤ ws.length:=by
 have h2:=h.W
 have h1:=yF t (ar id ws) (by omega) ws
 have h3:0 ≤ ar id (ws.map (fun w => t * w % ar id ws)):=gI (fun x hx => by
  obtain ⟨w,_,rfl⟩:=List.mem_map.1 hx
  exact Int.emod_nonneg _ (by omega))
 have h4:=vr (f:=id) (l:=ws.map (fun w => t * w % ar id ws)) (M:=ar id ws) (fun x hx => by
  obtain ⟨w,_,rfl⟩:=List.mem_map.1 hx
  exact Int.le_of_lt (Int.emod_lt_of_pos _ (by omega)))
 rw [List.length_map] at h4
 have e:cD t ws = t - ar id (ws.map (fun w => t * w / ar id ws)):=rfl
 rw [e]
 generalize ar id (ws.map (fun w => t * w / ar id ws)) = S at *
 generalize ar id (ws.map (fun w => t * w % ar id ws)) = R at *
 generalize ar id ws = W at *
 have h5:W * (t - S) = R:=by rw [Int.mul_sub,Int.mul_comm W t];omega
 constructor
 ·by_cases k:0 ≤ t - S
  ·exact k
  ·exfalso
   have:W * (t - S) ≤ W * (-1):=Int.mul_le_mul_of_nonneg_left (by omega) (by omega)
   omega
 ·by_cases k:t - S ≤ ws.length
  ·exact k
  ·exfalso
   have:W * (ws.length + 1) ≤ W * (t - S):=Int.mul_le_mul_of_nonneg_left (by omega) (by omega)
   rw [Int.mul_add,Int.mul_comm W (ws.length:Int)] at this
   omega
end
theorem du (t:Int) (ws:List Int):(eB t ws).length = ws.length:=by simp [eB]
theorem jR (t:Int) (ws:List Int):(dH t ws).length = ws.length:=l8 _ _
theorem zh (o:List Int) (i:Int):(inc o i).length = o.length:=aF _ _ _
theorem sB (q:List Int):∀ l:List Int,(l.foldl inc q).length = q.length:=fun l => by
 induction l generalizing q with
 | nil => rfl
 | cons x l ih => rw [List.foldl_cons,ih,zh]
theorem gB (t:Int) (ws:List Int):(shs t ws).length = ws.length:=by rw [shs,sB,du]
theorem vM {q o:List Int} {k:Int} (h:0 ≤ k ∧ k < o.length):(pf o (k + 1)).foldl inc q = inc ((pf o k).foldl inc q) (rd o k):=by
 rw [ce h,List.foldl_append]
 rfl
end
end Go.Proofs.YtgehbhkfehmdkaaGreat.Sh
