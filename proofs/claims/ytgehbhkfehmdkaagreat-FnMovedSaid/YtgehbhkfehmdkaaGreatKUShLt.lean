/- Lots: two rows as one, what is taken. No condition. -/
import Derived.Test.YtgehbhkfehmdkaaGreatKUShLo
import Derived.Test.YtgehbhkfehmdkaaGreatKUShSrt
import Derived.Shelf.Lay
import Derived.Ground.SlsfProg
import Derived.Tactics
import Derived.Deep.QuietTactic
set_option linter.unusedSectionVars false
set_option linter.unusedSimpArgs false
set_option linter.unusedVariables false
namespace Go.Proofs.YtgehbhkfehmdkaaGreat.Sh
section
open Go.RowKit
def lb2 (x y:Lot):Prop:=gj x.Account x.Instr x.No y.Account y.Instr y.No
theorem zU (x:Lot):¬ lb2 x x:=by unfold lb2 gj bef;omega
theorem ux {x y z:Lot} (h:lb2 x y) (k:lb2 y z):lb2 x z:=lQ h k
theorem yJ {α:Type} {R:α → α → Prop} (hi:∀ x,¬ R x x) (ht:∀ {x y z},R x y → R y z → R x z):∀ {l m:List α},l.Pairwise R → m.Pairwise R → (∀ x,x ∈ l ↔ x ∈ m) → l = m
 | [],[],_,_,_ => rfl
 | [],y :: m,_,_,h => absurd ((h y).2 (by simp)) (by simp)
 | x :: l,[],_,_,h => absurd ((h x).1 (by simp)) (by simp)
 | x :: l,y :: m,hl,hm,h => by
   rw [List.pairwise_cons] at hl hm
   have hx:=(h x).1 (by simp)
   have hy:=(h y).2 (by simp)
   rw [List.mem_cons] at hx hy
   have e:x = y:=by
    rcases hx with hx | hx
    ·exact hx
    ·rcases hy with hy | hy
     ·exact hy.symm
     ·exact absurd (ht (hm.1 x hx) (hl.1 y hy)) (hi y)
   subst e
   congr 1
   refine yJ hi ht hl.2 hm.2 (fun z => ⟨fun hz => ?_,fun hz => ?_⟩)
   ·have h1:=(h z).1 (by simp [hz])
    rw [List.mem_cons] at h1
    rcases h1 with rfl | h1
    ·exact absurd (hl.1 z hz) (hi z)
    ·exact h1
   ·have h1:=(h z).2 (by simp [hz])
    rw [List.mem_cons] at h1
    rcases h1 with rfl | h1
    ·exact absurd (hm.1 z hz) (hi z)
    ·exact h1
noncomputable def mrg:List Lot → List Lot → List Lot
 | [],b => b
 | x :: a,[] => x :: a
 | x :: a,y :: b => sel (lb2 x y) (x :: mrg a (y :: b)) (y :: mrg (x :: a) b)
termination_by a b => a.length + b.length
theorem kT (b:List Lot):mrg [] b = b:=by rw [mrg]
theorem kx (a:List Lot):mrg a [] = a:=by cases a <;> rw [mrg]
theorem vD {x y:Lot} {a b:List Lot} (h:lb2 x y):mrg (x :: a) (y :: b) = x :: mrg a (y :: b):=by rw [mrg,au h]
theorem vE {x y:Lot} {a b:List Lot} (h:¬ lb2 x y):mrg (x :: a) (y :: b) = y :: mrg (x :: a) b:=by rw [mrg,ab h]
theorem iZ:∀ (a b:List Lot),(mrg a b).Perm (a ++ b)
 | [],b => by rw [kT];exact .refl _
 | x :: a,[] => by rw [kx,List.append_nil]
 | x :: a,y :: b => by
   by_cases h:lb2 x y
   ·rw [vD h]
    exact (iZ a (y :: b)).cons x
   ·rw [vE h]
    exact ((iZ (x :: a) b).cons y).trans List.perm_middle.symm
termination_by a b => a.length + b.length
theorem oy (a b:List Lot):(mrg a b).length = a.length + b.length:=by rw [(iZ a b).length_eq,List.length_append]
theorem mrg_mem {a b:List Lot} {x:Lot}:x ∈ mrg a b ↔ x ∈ a ∨ x ∈ b:=by rw [(iZ a b).mem_iff,List.mem_append]
def x7 (a b:List Lot):Prop:=∀ x ∈ a,∀ y ∈ b,lb2 x y ∨ lb2 y x
theorem uB:∀ {a b:List Lot},a.Pairwise lb2 → b.Pairwise lb2 → x7 a b → (mrg a b).Pairwise lb2
 | [],b,_,hb,_ => by rw [kT];exact hb
 | x :: a,[],ha,_,_ => by rw [kx];exact ha
 | x :: a,y :: b,ha,hb,hd => by
   have ha':=List.pairwise_cons.1 ha
   have hb':=List.pairwise_cons.1 hb
   by_cases h:lb2 x y
   ·rw [vD h,List.pairwise_cons]
    refine ⟨fun z hz => ?_,uB ha'.2 hb (fun u hu v hv => hd u (by simp [hu]) v hv)⟩
    rcases mrg_mem.1 hz with hz | hz
    ·exact ha'.1 z hz
    ·rcases List.mem_cons.1 hz with rfl | hz
     ·exact h
     ·exact ux h (hb'.1 z hz)
   ·have h2:lb2 y x:=(hd x (by simp) y (by simp)).resolve_left h
    rw [vE h,List.pairwise_cons]
    refine ⟨fun z hz => ?_,uB ha hb'.2 (fun u hu v hv => hd u hu v (by simp [hv]))⟩
    rcases mrg_mem.1 hz with hz | hz
    ·rcases List.mem_cons.1 hz with rfl | hz
     ·exact h2
     ·exact ux h2 (ha'.1 z hz)
    ·exact hb'.1 z hz
termination_by a b => a.length + b.length
theorem yZ {a b b' s:List Lot} (hs:s.Perm (a ++ b')) (hb:b'.Perm b) (hp:s.Pairwise (fun x y => ¬ lb2 y x)) (ha:a.Pairwise lb2) (hb2:b.Pairwise lb2) (hd:x7 a b):s = mrg a b:=by
 have h1:s.Perm (mrg a b):=(hs.trans (List.Perm.append_left a hb)).trans (iZ a b).symm
 have h2:=uB ha hb2 hd
 have hsym:s.Pairwise (fun x y => lb2 x y ∨ lb2 y x):=(h1.symm.pairwise (h2.imp fun h => .inl h) (fun h => h.symm))
 refine yJ zU ux ?_ h2 (fun x => h1.mem_iff)
 have:=hsym.and hp
 exact this.imp fun h => h.1.resolve_right h.2
theorem A2 (l:List Lot) (x:Lot):mrg l [x] = ins l (fIx l (fun y => ¬ lb2 y x)) x:=by
 unfold ins fIx
 rw [Int.toNat_natCast]
 induction l with
 | nil => rw [kT];rfl
 | cons y l ih =>
   by_cases h:lb2 y x
   ·rw [vD h,ih,List.findIdx_cons,rf (p:=¬ lb2 y x) (fun k => k h)]
    rfl
   ·rw [vE h,kx,List.findIdx_cons,nR (p:=¬ lb2 y x) h]
    rfl
theorem LSd.pw {l:List Lot} (h:LSd l l.length):l.Pairwise lb2:=by
 rw [List.pairwise_iff_getElem]
 intro i j hi hj hij
 have:=h.lt (i:=i) (j:=j) (by omega) (by omega) (by omega)
 simpa [lb2,rd,List.getD_eq_getElem?_getD,hi,hj] using this
theorem LotsOk.pw {l:List Lot} (h:LotsOk l):l.Pairwise lb2:=LSd.pw (fun i h0 h1 => (h.1.1 i (by omega) h1).2 h0)
def reL (l:Lot) (q k:Int):Lot:=⟨l.Account,l.Instr,l.No,q,k⟩
def tkq:List Lot → Int → List Lot × Int
 | [],_ => ([],0)
 | l :: r,q => if q ≤ 0 then (l :: r,0) else if l.Qty ≤ q then ((tkq r (q - l.Qty)).1,l.Cost + (tkq r (q - l.Qty)).2) else (reL l (l.Qty - q) (l.Cost - l.Cost * q / l.Qty) :: r,l.Cost * q / l.Qty)
theorem pK {l:List Lot} {q:Int} (h:q ≤ 0):tkq l q = (l,0):=by
 cases l with
 | nil => rfl
 | cons x r => rw [tkq,if_pos h]
theorem uU {l:Lot} {r:List Lot} {q:Int} (h:0 < q) (h2:l.Qty ≤ q):tkq (l :: r) q = ((tkq r (q - l.Qty)).1,l.Cost + (tkq r (q - l.Qty)).2):=by
 rw [tkq,if_neg (by omega),if_pos h2]
theorem uV {l:Lot} {r:List Lot} {q:Int} (h:0 < q) (h2:¬ l.Qty ≤ q):tkq (l :: r) q = (reL l (l.Qty - q) (l.Cost - l.Cost * q / l.Qty) :: r,l.Cost * q / l.Qty):=by
 rw [tkq,if_neg (by omega),if_neg h2]
def LG (l:List Lot):Prop:=∀ x ∈ l,(1 ≤ x.Qty ∧ x.Qty ≤ 1000000000000000) ∧ 0 ≤ x.Cost ∧ x.Cost ≤ 1000000000000000
theorem dq {k q n:Int} (hk:0 ≤ k) (hq:0 ≤ q) (hn:q ≤ n) (h1:1 ≤ n):0 ≤ k * q / n ∧ k * q / n ≤ k:=by
 refine ⟨Int.ediv_nonneg (Int.mul_nonneg hk hq) (by omega),?_⟩
 have h2:k * q ≤ k * n:=Int.mul_le_mul_of_nonneg_left hn hk
 have h3:=Int.ediv_le_ediv (c:=n) (by omega) h2
 rwa [Int.mul_ediv_cancel _ (by omega)] at h3
theorem pu {k n:Int} (h1:1 ≤ n):k * n / n = k:=Int.mul_ediv_cancel _ (by omega)
theorem LG.cons {x:Lot} {r:List Lot} (h:LG (x :: r)):((1 ≤ x.Qty ∧ x.Qty ≤ 1000000000000000) ∧ 0 ≤ x.Cost ∧ x.Cost ≤ 1000000000000000) ∧ LG r:=⟨h x (by simp),fun y hy => h y (by simp [hy])⟩
theorem mC (x:Lot) (r:List Lot):sC (x :: r) = x.Cost + sC r:=aT _ _ _
theorem kX (x:Lot) (r:List Lot):sQ (x :: r) = x.Qty + sQ r:=aT _ _ _
theorem LG.sC_nn {l:List Lot} (h:LG l):0 ≤ sC l:=fu (fun x hx => (h x hx).2.1)
theorem LG.sQ_nn {l:List Lot} (h:LG l):0 ≤ sQ l:=fu (fun x hx => by have:=(h x hx).1.1;omega)
theorem fR:∀ {l:List Lot} {q:Int},LG l → 0 ≤ (tkq l q).2 ∧ (tkq l q).2 ≤ sC l
 | [],q,_ => by simp [tkq,sC,ao]
 | x :: r,q,h => by
   have hc:=h.cons
   have hs:=hc.2.sC_nn
   rw [mC]
   by_cases h1:q ≤ 0
   ·rw [pK h1];dsimp only;omega
   by_cases h2:x.Qty ≤ q
   ·rw [uU (by omega) h2]
    have:=fR (q:=q - x.Qty) hc.2
    dsimp only;omega
   ·rw [uV (by omega) h2]
    have:=dq (k:=x.Cost) (q:=q) (n:=x.Qty) (by omega) (by omega) (by omega) (by omega)
    dsimp only;omega
theorem z7 {R:Lot → Lot → Prop} (hR:∀ x y q k,R x y → R (reL x q k) y):∀ {l:List Lot} {q:Int},l.Pairwise R → (tkq l q).1.Pairwise R
 | [],q,h => by simp [tkq]
 | x :: r,q,h => by
   have hc:=List.pairwise_cons.1 h
   by_cases h1:q ≤ 0
   ·rw [pK h1];exact h
   by_cases h2:x.Qty ≤ q
   ·rw [uU (by omega) h2]
    exact z7 hR hc.2
   ·rw [uV (by omega) h2]
    exact List.pairwise_cons.2 ⟨fun y hy => hR _ _ _ _ (hc.1 y hy),hc.2⟩
theorem tZ {p:Lot → Prop} (hp:∀ x q k,p x → p (reL x q k)):∀ {l:List Lot} {q:Int},(∀ x ∈ l,p x) → ∀ x ∈ (tkq l q).1,p x
 | [],q,h => by simp [tkq]
 | x :: r,q,h => by
   by_cases h1:q ≤ 0
   ·rw [pK h1];exact h
   by_cases h2:x.Qty ≤ q
   ·rw [uU (by omega) h2]
    exact tZ hp (fun y hy => h y (by simp [hy]))
   ·rw [uV (by omega) h2]
    intro y hy
    rcases List.mem_cons.1 hy with rfl | hy
    ·exact hp _ _ _ (h x (by simp))
    ·exact h y (by simp [hy])
theorem pJ:∀ (l:List Lot) (q:Int),(tkq l q).1.length ≤ l.length
 | [],q => by simp [tkq]
 | x :: r,q => by
   by_cases h1:q ≤ 0
   ·rw [pK h1];exact Nat.le_refl _
   by_cases h2:x.Qty ≤ q
   ·rw [uU (by omega) h2]
    have:=pJ r (q - x.Qty)
    simp only [List.length_cons];omega
   ·rw [uV (by omega) h2]
    simp
noncomputable def tkL (own:List Lot) (q way:Int):List Lot :=
 sel (way = 3) (sel (sQ own = q) [] [reL (rd own 0) (sQ own - q) (sC own - sC own * q / sQ own)]) (sel (way = 2) (tkq own.reverse q).1.reverse (tkq own q).1)
noncomputable def tkC (own:List Lot) (q way:Int):Int :=
 pick (way = 3) (sC own * q / sQ own) (pick (way = 2) (tkq own.reverse q).2 (tkq own q).2)
theorem LG.rev {l:List Lot} (h:LG l):LG l.reverse:=fun x hx => h x (List.mem_reverse.1 hx)
theorem pB (l:List Lot):sC l.reverse = sC l:=by
 unfold sC ao
 rw [List.map_reverse,List.sum_reverse]
theorem rN (l:List Lot):sQ l.reverse = sQ l:=by
 unfold sQ ao
 rw [List.map_reverse,List.sum_reverse]
theorem C7 {own:List Lot} {q way:Int} (h:LG own) (hq:0 ≤ q ∧ q ≤ sQ own) (h1:1 ≤ sQ own):0 ≤ tkC own q way ∧ tkC own q way ≤ sC own:=by
 unfold tkC
 by_cases h3:way = 3
 ·rw [aK h3]
  exact dq h.sC_nn hq.1 hq.2 h1
 ·rw [aC h3]
  by_cases h2:way = 2
  ·rw [aK h2,← pB]
   exact fR h.rev
  ·rw [aC h2]
   exact fR h
theorem C9 {own:List Lot} {q way:Int} (h:own.Pairwise lb2):(tkL own q way).Pairwise lb2:=by
 unfold tkL
 by_cases h3:way = 3
 ·rw [au h3]
  by_cases h4:sQ own = q
  ·rw [au h4];exact .nil
  ·rw [ab h4];simp
 ·rw [ab h3]
  by_cases h2:way = 2
  ·rw [au h2,List.pairwise_reverse]
   exact z7 (R:=fun x y => lb2 y x) (fun x y q k h => h) (List.pairwise_reverse.2 h)
  ·rw [ab h2]
   exact z7 (fun x y q k h => h) h
theorem C8 {own:List Lot} {q way a c:Int} (h:∀ x ∈ own,x.Account = a ∧ x.Instr = c) (hn:0 < (own.length:Int)):∀ x ∈ tkL own q way,x.Account = a ∧ x.Instr = c:=by
 unfold tkL
 by_cases h3:way = 3
 ·rw [au h3]
  by_cases h4:sQ own = q
  ·rw [au h4];intro x hx;cases hx
  ·rw [ab h4]
   intro x hx
   rw [List.mem_singleton] at hx
   subst hx
   exact h (rd own 0) (aA ⟨by omega,hn⟩)
 ·rw [ab h3]
  by_cases h2:way = 2
  ·rw [au h2]
   intro x hx
   exact tZ (p:=fun x => x.Account = a ∧ x.Instr = c) (fun x q k h => h) (fun y hy => h y (List.mem_reverse.1 hy)) x (List.mem_reverse.1 hx)
  ·rw [ab h2]
   exact tZ (p:=fun x => x.Account = a ∧ x.Instr = c) (fun x q k h => h) h
theorem wg {own:List Lot} {q way:Int} (hn:0 < (own.length:Int)):(tkL own q way).length ≤ own.length:=by
 unfold tkL
 by_cases h3:way = 3
 ·rw [au h3]
  by_cases h4:sQ own = q
  ·rw [au h4];simp
  ·rw [ab h4];simp only [List.length_cons,List.length_nil];omega
 ·rw [ab h3]
  by_cases h2:way = 2
  ·rw [au h2,List.length_reverse]
   have:=pJ own.reverse q
   rwa [List.length_reverse] at this
  ·rw [ab h2]
   exact pJ _ _
theorem lotsOf_mem {l:List Lot} {a c:Int} {x:Lot}:x ∈ ae l a c ↔ x ∈ l ∧ x.Account = a ∧ x.Instr = c:=flt_mem
theorem lotsNot_mem {l:List Lot} {a c:Int} {x:Lot}:x ∈ aY l a c ↔ x ∈ l ∧ ¬ (x.Account = a ∧ x.Instr = c):=flt_mem
theorem xh {l b:List Lot} {a c:Int} (h:∀ x ∈ b,x.Account = a ∧ x.Instr = c):x7 (aY l a c) b:=fun x hx y hy => by
 have h1:=(lotsNot_mem.1 hx).2
 have h2:=h y hy
 unfold lb2 gj bef
 omega
theorem qK {l:List Lot} {a c:Int} (h:l.Pairwise lb2):(ae l a c).Pairwise lb2:=h.filter _
theorem uy {l:List Lot} {a c:Int} (h:l.Pairwise lb2):(aY l a c).Pairwise lb2:=h.filter _
theorem LotsOk.LG {l:List Lot} (h:LotsOk l):LG l:=fun x hx => by
 obtain ⟨i,hi,rfl⟩:=bw hx
 have:=(h.1.1 i hi.1 hi.2).1
 unfold jq inP at this
 omega
theorem LG.flt {l:List Lot} (h:LG l) (p:Lot → Prop):LG (flt p l):=fun x hx => h x (flt_mem.1 hx).1
theorem LotsOk.own {l:List Lot} (h:LotsOk l) (a c:Int):(0 ≤ sQ (ae l a c) ∧ sQ (ae l a c) ≤ 1000000000000000) ∧ 0 ≤ sC (ae l a c) ∧ sC (ae l a c) ≤ 1000000000000000:=by
 have hg:=h.LG.flt (fun x => x.Account = a ∧ x.Instr = c)
 have h1:=hg.sQ_nn
 have h2:=hg.sC_nn
 by_cases e:ae l a c = []
 ·rw [e];decide
 ·obtain ⟨x,hx⟩:=List.exists_mem_of_ne_nil _ e
  obtain ⟨hx1,hx2,hx3⟩:=lotsOf_mem.1 hx
  have:=h.2 x hx1
  rw [hx2,hx3] at this
  unfold aq inP at this
  exact ⟨⟨h1,by omega⟩,h2,by omega⟩
theorem rM {l:List Lot} (h:1 ≤ sQ l):0 < (l.length:Int):=by
 cases l with
 | nil => simp [sQ,ao] at h
 | cons x r => simp only [List.length_cons];omega
end
section
open Go.RowKit Go.Shelf Go.Sort Go.Lib
shelf_lay_g SlLaysF0.n6 Slsf 6 at Tryz 323 as laysSortLot
theorem re (a b c d:Int) (W:World):Calls Tryz.prog 227 #[.int .i64 a,.int .i64 b,.int .i64 c,.int .i64 d] W fun e w' => e = .returned (.int .i64 (dO a b c d)) ∧ ∃ q os',w' = grow (W.drewN q) os':=by
 go_enter Tryz.func227,Tryz.ntmps227
 go_wp2
 all_goals
  go_ret
  refine ⟨?_,0,#[],by rw [grow_empty];rfl⟩
  (try simp only [beq_iff_eq,beq_eq_false_iff_ne,ne_eq,decide_eq_true_eq,decide_eq_false_iff_not] at *)
  first
  | (rw [show dO a b c d = -1 from aK (by unfold bef;omega)];rfl)
  | (rw [show dO a b c d = 0 from (aC (by unfold bef;omega)).trans (aK (by omega))];rfl)
  | (rw [show dO a b c d = 1 from (aC (by unfold bef;omega)).trans (aC (by omega))];rfl)
theorem wJ {x y:Lot}:hJ x.Account x.Instr x.No y.Account y.Instr y.No = if dO x.Account x.Instr y.Account y.Instr ≠ 0 then dO x.Account x.Instr y.Account y.Instr else if x.No < y.No then -1 else if x.No > y.No then 1 else 0:=by
 have h1:=byBoth_lt (a:=x.Account) (b:=x.Instr) (c:=y.Account) (d:=y.Instr)
 have h2:=byBoth_eq (a:=x.Account) (b:=x.Instr) (c:=y.Account) (d:=y.Instr)
 unfold hJ dO at *
 by_cases hb:bef x.Account x.Instr y.Account y.Instr
 ·rw [aK hb,aK (p:=gj _ _ _ _ _ _) (.inl hb)]
  rfl
 ·rw [aC hb]
  by_cases he:x.Account = y.Account ∧ x.Instr = y.Instr
  ·rw [aK he,if_neg (by decide)]
   by_cases hn:x.No < y.No
   ·rw [if_pos hn,aK (p:=gj _ _ _ _ _ _) (.inr ⟨he.1,he.2,hn⟩)]
   ·rw [if_neg hn,aC (p:=gj _ _ _ _ _ _) (by rintro (h | h);exact hb h;omega)]
    by_cases hg:x.No > y.No
    ·rw [if_pos hg,aC (by omega)]
    ·rw [if_neg hg,aK ⟨he.1,he.2,by omega⟩]
  ·rw [aC he,if_pos (by decide),aC (p:=gj _ _ _ _ _ _) (by rintro (h | h);exact hb h;exact he ⟨h.1,h.2.1⟩),aC (fun h => he ⟨h.1,h.2.1⟩)]
theorem u5 (W:World) (X Y:Obj) (q:Nat) (os:Array Obj):(grow (((W.alloc X).alloc Y).drewN q) os).heap = (W.heap.push X).push Y ++ os:=rfl
theorem zH (W:World) (A B:Array Value) (t u:TypeId) (q:Nat) (os:Array Obj) {j:Nat} {v:Value} (h:A[j]? = some v):(grow (((W.alloc (.cells A t)).alloc (.cells B u)).drewN q) os).cell? ⟨W.heap.size,j,none⟩ = some v:=by
 have e:(grow (((W.alloc (.cells A t)).alloc (.cells B u)).drewN q) os).heap[W.heap.size]? = some (.cells A t):=by
  rw [u5]
  simp [Array.getElem?_append,Array.getElem?_push,Array.getElem_push]
  intro h
  omega
 unfold World.cell?
 rw [show (⟨W.heap.size,j,none⟩:Addr).block = W.heap.size from rfl,e]
 exact h
theorem zI (W:World) (A B:Array Value) (t u:TypeId) (q:Nat) (os:Array Obj) {j:Nat} {v:Value} (h:B[j]? = some v):(grow (((W.alloc (.cells A t)).alloc (.cells B u)).drewN q) os).cell? ⟨W.heap.size + 1,j,none⟩ = some v:=by
 have e:(grow (((W.alloc (.cells A t)).alloc (.cells B u)).drewN q) os).heap[W.heap.size + 1]? = some (.cells B u):=by
  rw [u5]
  simp [Array.getElem?_append,Array.getElem?_push,Array.getElem_push]
 unfold World.cell?
 rw [show (⟨W.heap.size + 1,j,none⟩:Addr).block = W.heap.size + 1 from rfl,e]
 exact h
theorem xZ (W:World) (A B:Obj) (q:Nat) (os:Array Obj):∃ q' os',grow (((W.alloc A).alloc B).drewN q) os = grow (W.drewN q') os':=by
 refine ⟨q,#[A,B] ++ os,?_⟩
 have e:(W.heap.push A).push B ++ os = W.heap ++ (#[A,B] ++ os):=by
  apply Array.ext'
  simp
 show ({ heap:=(W.heap.push A).push B ++ os,tape:=W.tape,drawn:=W.drawn + q,os:=W.os,output:=W.output }:World) = { heap:=W.heap ++ (#[A,B] ++ os),tape:=W.tape,drawn:=W.drawn + q,os:=W.os,output:=W.output }
 rw [e]
theorem nX (x y:Lot) (W:World):Calls Tryz.prog 251 #[.agg #[.int .i64 x.Account,.int .i64 x.Instr,.int .i64 x.No,.int .i64 x.Qty,.int .i64 x.Cost],.agg #[.int .i64 y.Account,.int .i64 y.Instr,.int .i64 y.No,.int .i64 y.Qty,.int .i64 y.Cost]] W fun e w' => e = .returned (.int .i64 (hJ x.Account x.Instr x.No y.Account y.Instr y.No)) ∧ ∃ q os',w' = grow (W.drewN q) os':=by
 rw [wJ]
 have hcon:=fun W' => re x.Account x.Instr y.Account y.Instr W'
 generalize dO x.Account x.Instr y.Account y.Instr = r at hcon ⊢
 have hx:=fun q os => zH W #[.int .i64 x.Account,.int .i64 x.Instr,.int .i64 x.No,.int .i64 x.Qty,.int .i64 x.Cost] #[.int .i64 y.Account,.int .i64 y.Instr,.int .i64 y.No,.int .i64 y.Qty,.int .i64 y.Cost] 137 137 q os (j:=2) rfl
 have hy:=fun q os => zI W #[.int .i64 x.Account,.int .i64 x.Instr,.int .i64 x.No,.int .i64 x.Qty,.int .i64 x.Cost] #[.int .i64 y.Account,.int .i64 y.Instr,.int .i64 y.No,.int .i64 y.Qty,.int .i64 y.Cost] 137 137 q os (j:=2) rfl
 go_enter Tryz.func251,Tryz.ntmps251
 go_wp2_with (go_at_call 227;refine (hcon _).mono ?_;rintro e w' ⟨rfl,q,os,rfl⟩)
 all_goals
  go_ret
  first
  | (exfalso;simp only [bne_iff_ne,ne_eq,bne_eq_false_iff_eq] at *;omega)
  | exact ⟨rfl,xZ _ _ _ _ _⟩
theorem C6:SWO (ltOf fun x y:Lot => hJ x.Account x.Instr x.No y.Account y.Instr y.No) where
 irrefl x:=by unfold ltOf;rw [decide_eq_false_iff_not,lotCmp_lt];unfold gj bef;omega
 trans x y z h1 h2:=by unfold ltOf at *;rw [decide_eq_true_eq,lotCmp_lt] at *;exact lQ h1 h2
 ntrans x y z h1 h2:=by unfold ltOf at *;rw [decide_eq_false_iff_not,lotCmp_lt] at *;unfold gj bef at *;omega
instance:Inhabited Lot:=⟨⟨0,0,0,0,0⟩⟩
theorem wF:∀ w,(isAgg (laysSortLot_ren.t 24)).run Tryz.prog w = .ok true w:=fun w => fG tk (t:=137) rfl w
theorem uO:∀ w,(Go.sizeOf (laysSortLot_ren.t 24)).run Tryz.prog w = .ok (Enc.sz Lot) w:=fun w => cN tk (t:=137) rfl w
theorem l9 {l S:List Lot} (hl:l.length ≤ 4000000) (hS:∀ d:List Lot,d.Perm l → d.Pairwise (fun x y => ¬ lb2 y x) → d = S):FC Tryz.prog 323 [.c (.row 0 0 l.length),.c (.fn 251 [])] [ow 137 l] (.tup []) [ow 137 S] :=
 zL laysSortLot wF uO (oR (f:=323) Tryz.func323 (by kernel_rfl) rfl) 137 (fun x y:Lot => hJ x.Account x.Instr x.No y.Account y.Instr y.No) C6 251 (enters_of Tryz.func251 (by kernel_rfl) rfl) (fun w x y => nX x y w) hl
  (fun d h1 h2 => hS d h1 (h2.imp fun {x y} h => by unfold ltOf at h;rw [decide_eq_false_iff_not,lotCmp_lt] at h;exact h))
end
end Go.Proofs.YtgehbhkfehmdkaaGreat.Sh
