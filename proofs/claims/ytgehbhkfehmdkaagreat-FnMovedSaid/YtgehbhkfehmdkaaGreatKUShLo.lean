/- Lots that are right. No condition. -/
import Derived.Test.YtgehbhkfehmdkaaGreatKUShV
import Derived.Test.YtgehbhkfehmdkaaGreatKUShSl
import Derived.Test.YtgehbhkfehmdkaaGreatKUShM
set_option maxRecDepth 100000
set_option maxHeartbeats 40000000
set_option linter.unusedSimpArgs false
set_option linter.unusedVariables false
namespace Go.Proofs.YtgehbhkfehmdkaaGreat.Sh
section
open Go.RowKit
def jq (a c n q k:Int):Prop:=aj a ∧ aj c ∧ inP n 1 1000000000 ∧ inP q 1 1000000000000000 ∧ inP k 0 1000000000000000
def gj (a c n a' c' n':Int):Prop:=bef a c a' c' ∨ a = a' ∧ c = c' ∧ n < n'
noncomputable def hJ (a c n a' c' n':Int):Int:=pick (gj a c n a' c' n') (-1) (pick (a = a' ∧ c = c' ∧ n = n') 0 1)
theorem lotCmp_lt {a c n a' c' n':Int}:hJ a c n a' c' n' < 0 ↔ gj a c n a' c' n':=by
 unfold hJ
 by_cases h:gj a c n a' c' n'
 ·rw [aK h];simp [h]
 ·rw [aC h]
  by_cases h2:a = a' ∧ c = c' ∧ n = n'
  ·rw [aK h2];simp [h]
  ·rw [aC h2];simp [h]
def vI (x:Int):Option AO:=some ⟨false,3,1,.mx [.sc (.int .i64 x)]⟩
noncomputable def ae (l:List Lot) (a c:Int):List Lot:=flt (fun x => x.Account = a ∧ x.Instr = c) l
def sQ (l:List Lot):Int:=ao Lot.Qty l
def sC (l:List Lot):Int:=ao Lot.Cost l
structure LQ (l:List Lot):Prop where
 q:∀ x ∈ l,0 ≤ x.Qty ∧ x.Qty ≤ 1000000000000000
 c:∀ x ∈ l,0 ≤ x.Cost ∧ x.Cost ≤ 1000000000000000
 len:l.length ≤ 1000
theorem LQ.flt {l:List Lot} (h:LQ l) (p:Lot → Prop):LQ (flt p l):=⟨fun x hx => h.q x (flt_mem.1 hx).1,fun x hx => h.c x (flt_mem.1 hx).1,Nat.le_trans (cV _ _) h.len⟩
theorem LQ.of {l:List Lot} (h:LQ l) {a c:Int}:LQ (ae l a c):=h.flt _
theorem p7 {a c n q k u v:Int}:FC Tryz.prog 309 [.agg [.sc (.int .i64 a),.sc (.int .i64 c),.sc (.int .i64 n),.sc (.int .i64 q),.sc (.int .i64 k)],I u,I v] ([]) (B (dB (a = u ∧ c = v))) ([]):=by
 refine ax tk 17 [.tmp 6] Tryz.func309 (by kernel_rfl) rfl rfl rfl rfl rfl rfl rfl ?_
 repeat' (first
| apply yds;rfl
| intro _
| refine nv ?_
| apply yeq;rfl
| fail)
 all_goals first | exact bF [] rfl rfl rfl rfl rfl rfl ⟨by assumption,by assumption⟩ | exact b5 [] rfl rfl rfl rfl rfl rfl (fun e => by first | exact absurd e.1 (by assumption) | exact absurd e.2 (by assumption))
theorem rt {a c n q k:Int}:FC Tryz.prog 250 [.agg [.sc (.int .i64 a),.sc (.int .i64 c),.sc (.int .i64 n),.sc (.int .i64 q),.sc (.int .i64 k)]] ([]) (B (dB (jq a c n q k))) ([]):=by
 refine ax tk 26 [.tmp 2] Tryz.func250 (by kernel_rfl) rfl rfl rfl rfl rfl rfl rfl ?_
 repeat' (first
| apply yds;rfl
| intro _
| refine nv ?_
| apply ycp;rfl;(first | exact cQ | exact bm);rfl
| fail)
 all_goals first | exact bF [] rfl rfl rfl rfl rfl rfl ⟨by assumption,by assumption,by assumption,by assumption,by assumption⟩ | exact b5 [] rfl rfl rfl rfl rfl rfl (fun e => by obtain ⟨e1,e2,e3,e4,e5⟩:=e;contradiction)
theorem eE {a c n q k a' c' n' q' k':Int}:FC Tryz.prog 251 [.agg [.sc (.int .i64 a),.sc (.int .i64 c),.sc (.int .i64 n),.sc (.int .i64 q),.sc (.int .i64 k)],.agg [.sc (.int .i64 a'),.sc (.int .i64 c'),.sc (.int .i64 n'),.sc (.int .i64 q'),.sc (.int .i64 k')]] ([]) (I (hJ a c n a' c' n')) ([]):=by
 refine ax tk 31 [.tmp 4] Tryz.func251 (by kernel_rfl) rfl rfl rfl rfl rfl rfl rfl ?_
 repeat' (first
| apply yds;rfl
| apply yd;rfl
| intro _
| refine nv ?_
| apply wct rfl
| apply wcf rfl
| apply ai;rfl
| apply yne;rfl
| apply yc;rfl;exact kj;rfl;exact fun _ => rfl
| fail)
 all_goals exact du [] rfl rfl rfl rfl rfl rfl (by
  have h1:=byBoth_lt (a:=a) (b:=c) (c:=a') (d:=c')
  have h2:=byBoth_eq (a:=a) (b:=c) (c:=a') (d:=c')
  unfold hJ dO at *
  by_cases hb:bef a c a' c'
  ·rw [aK (p:=gj _ _ _ _ _ _) (.inl hb)]
   rw [aK hb] at *
   try omega
  ·rw [aC hb] at *
   by_cases he:a = a' ∧ c = c'
   ·rw [aK he] at *
    first
    | omega
    | (rw [aK (p:=gj _ _ _ _ _ _) (.inr ⟨he.1,he.2,by omega⟩)])
    | (rw [aC (p:=gj _ _ _ _ _ _) (by rintro (h | h) <;> first | exact hb h | omega)];first | exact aK ⟨he.1,he.2,by omega⟩ | exact aC (by omega))
   ·rw [aC he] at *
    first
    | omega
    | (rw [aC (p:=gj _ _ _ _ _ _) (by rintro (h | h) <;> first | exact hb h | exact he ⟨h.1,h.2.1⟩),aC (fun h => he ⟨h.1,h.2.1⟩)]))
theorem li {a c n q k u v:Int}:FC Tryz.prog 308 [.agg [.sc (.int .i64 a),.sc (.int .i64 c),.sc (.int .i64 n),.sc (.int .i64 q),.sc (.int .i64 k)],.c (.ptr 0 0 0),.c (.ptr 1 0 0)] ([vI u,vI v]) (B (dB (¬ (a = u ∧ c = v)))) ([vI u,vI v]):=by
 refine ax tk 10 [.tmp 4] Tryz.func308 (by kernel_rfl) rfl rfl rfl rfl rfl rfl rfl ?_
 repeat' (first
| apply yds;rfl
| intro _
| refine nv ?_
| apply ycp;rfl;exact p7;rfl
| fail)
 all_goals first | exact bF [0,1] rfl rfl rfl rfl rfl rfl (by assumption) | exact b5 [0,1] rfl rfl rfl rfl rfl rfl (fun h => h (by assumption))
theorem j7 {l:List Lot} {u v:Int}:FC Tryz.prog 310 [.c (.row 0 0 l.length),.c (.fn 308 [(1,0,0),(2,0,0)])] ([ro 137 l,vI u,vI v]) (sel (∃ x ∈ l,¬ (x.Account = u ∧ x.Instr = v)) (I (fIx l (fun x => ¬ (x.Account = u ∧ x.Instr = v)))) (I (-1))) (sel (∃ x ∈ l,¬ (x.Account = u ∧ x.Instr = v)) [ro 137 l,vI u,vI v] [ro 137 l,vI u,vI v]):=by
 refine ax tk 19 [.tmp 4] Tryz.func310 (by kernel_rfl) rfl rfl rfl rfl rfl rfl rfl ?_
 refine bX l 0 rfl (fun hl => ?_)
 repeat' (first
| apply yds;rfl
| apply yd;rfl
| refine nv ?_
| fail)
 refine wlp (X:=Int) [0,1,7] [0,1,2] (fun i => [(8,I i)]) (fun _ => []) (fun i => 0 ≤ i ∧ i ≤ l.length ∧ ∀ j:Int,0 ≤ j → j < i → ¬ (fun x => ¬ (x.Account = u ∧ x.Instr = v)) (rd l j)) (fun i => (l.length - i).toNat) 0 ⟨by omega,by omega,fun j h0 h1 => by omega⟩ rfl rfl (fun _ => rfl) (fun _ => rfl) ⟨rfl,rfl,rfl,rfl,rfl,rfl,rfl,rfl⟩ (fun i hi => ?_)
 obtain ⟨h0,hi,hall⟩:=hi
 skip
 repeat' (first
| apply yds;rfl
| apply yd;rfl
| apply ycp;rfl;exact li;rfl
| intro _
| refine nv ?_
| apply wct rfl
| apply wcf rfl
| apply ah rfl
| apply ai;rfl
| apply yar;rfl;omega
| apply yix;rfl;omega
| apply yle;rfl;omega
| fail)
 all_goals first
  | (refine dP (X':=I i) (hs':=[ro 137 l,vI u,vI v]) [0,1,2] rfl rfl rfl rfl rfl rfl ?_ ?_
     ·rw [au ⟨rd l i,aA ⟨by omega,by omega⟩,by assumption⟩,fD ⟨by omega,by omega⟩ hall (by assumption)]
     ·rw [au ⟨rd l i,aA ⟨by omega,by omega⟩,by assumption⟩])
  | exact bQ (iw (by assumption) hall) [0,1,2] rfl rfl rfl rfl rfl rfl
  | exact aB (i + 1) [0,1,2] ⟨rfl,rfl,rfl,rfl,rfl,rfl,rfl,rfl⟩ ⟨by omega,by omega,aD hall (by assumption)⟩ (by first | omega | (dsimp only;omega))
theorem iL {l:List Lot} {u v:Int} (hl:l.length ≤ 1000000):FC Tryz.prog 307 [.c (.row 0 0 l.length),.c (.fn 308 [(1,0,0),(2,0,0)])] ([ow 137 l,vI u,vI v]) (.c (.row 0 0 (flt (fun x => ¬ (¬ (x.Account = u ∧ x.Instr = v))) l).length)) ([ow 137 (flt (fun x => ¬ (¬ (x.Account = u ∧ x.Instr = v))) l),vI u,vI v]):=by
 refine ax tk 42 [.tmp 4] Tryz.func307 (by kernel_rfl) rfl rfl rfl rfl rfl rfl rfl ?_
 repeat' (first
| apply yds;rfl
| apply yd;rfl
| intro _
| refine nv ?_
| apply wct rfl
| apply wcf rfl
| apply ai;rfl
| apply yar;rfl;omega
| apply zcs;(iterate 10 rfl);exact j7;exact fun _ => rfl;exact fun _ => rfl;rfl;rfl;rfl;rfl
| fail)
 ·rename_i hex hm
  have:=bY l (fun x => ¬ (x.Account = u ∧ x.Instr = v))
  exfalso;omega
 ·rename_i hex hm
  have hn:=gf hex
  have hn2:=bY l (fun x => ¬ (x.Account = u ∧ x.Instr = v))
  repeat' (first
| apply yd;rfl
| refine nv ?_
| apply yar;rfl;omega
| fail)
  refine wlp (X:=Int × Int × List Lot) [0,1] [0,1,2] (fun x => [(5,I x.1),(6,I x.2.1)]) (fun x => [(0,ow 137 x.2.2)]) (fun x => DfI l (fun x => ¬ (x.Account = u ∧ x.Instr = v)) x.1 x.2.1 x.2.2) (fun x => (l.length - x.2.1).toNat) (fIx l (fun x => ¬ (x.Account = u ∧ x.Instr = v)),fIx l (fun x => ¬ (x.Account = u ∧ x.Instr = v)) + 1,l) (DfI.init hex) rfl rfl (fun _ => rfl) (fun _ => rfl) ⟨rfl,rfl,rfl,rfl,rfl,rfl,rfl,rfl⟩ (fun x hx => ?_)
  obtain ⟨i,j,xs⟩:=x
  dsimp only at hx ⊢
  obtain ⟨h0,h1,h2⟩:=hx.bnd
  have hlen:=hx.len
  repeat' (first
| apply yds;rfl
| apply yd;rfl
| apply ycp;rfl;exact li;rfl
| intro _
| refine nv ?_
| apply wct rfl
| apply wcf rfl
| apply ah rfl
| apply ai;rfl
| apply yar;rfl;omega
| apply yix;rfl;omega
| apply yle;rfl;omega
| apply zse;rfl;exact tk;(iterate 6 rfl);omega;rfl;rfl;rfl;rfl;rfl
| apply mU;rfl;exact tk;(iterate 8 rfl);omega;rfl;rfl
| fail)
  ·rename_i h3 h4
   exact aB (i,j + 1,xs) [0,1,2] ⟨rfl,rfl,rfl,rfl,rfl,rfl,rfl,rfl⟩ (hx.skip (by omega) h4) (by first | omega | (dsimp only;omega))
  ·rename_i h3 h4
   exact aB (i + 1,j + 1,upd xs i (rd xs j)) [0,1,2] ⟨rfl,rfl,rfl,rfl,rfl,rfl,rfl,rfl⟩ (hx.keep (by omega) h4) (by first | omega | (dsimp only;omega))
  ·refine Cj rfl tk rfl rfl rfl rfl rfl rfl rfl (by omega) rfl rfl ?_
   repeat' (first
| apply yds;rfl
| apply yd;rfl
| refine nv ?_
| apply mU;rfl;exact tk;(iterate 8 rfl);omega;rfl;rfl
| fail)
   exact dP (X':=.c (.row 0 0 (i.toNat - Int.toNat 0))) (hs':=[ow 137 (xs.take i.toNat),vI u,vI v]) [0,1,2] rfl rfl rfl rfl rfl rfl (by rw [← hx.len2 (by assumption)];rfl) (by rw [hx.fin (by assumption)])
 ·rename_i hex hm
  exact dP (X':=.c (.row 0 0 l.length)) (hs':=[ow 137 l,vI u,vI v]) [0,1,2] rfl rfl rfl rfl rfl rfl (by rw [mi (fun x hx k => hex ⟨x,hx,k⟩)]) (by rw [mi (fun x hx k => hex ⟨x,hx,k⟩)])
 ·exfalso;omega
theorem xR {α:Type} {p:α → Prop} {l:List α}:flt (fun x => ¬ ¬ p x) l = flt p l:=by
 simp only [Classical.not_not]
theorem dx {l:List Lot} {a c:Int} (hl:l.length ≤ 1000000):FC Tryz.prog 249 [.c (.row 0 0 l.length),I a,I c] ([ro 137 l]) (.c (.row 1 0 (ae l a c).length)) ([ro 137 l,ow 137 (ae l a c)]):=by
 refine ax tk 11 [.tmp 6] Tryz.func249 (by kernel_rfl) rfl rfl rfl rfl rfl rfl rfl ?_
 repeat' (first
| apply yds;rfl
| apply yd;rfl
| refine nv ?_
| apply ycf;rfl;exact cL (by omega);rfl
| apply ycw  [true];rfl;(exact iL (by omega));rfl
| fail)
 all_goals exact dP (X':=.c (.row 1 0 (flt (fun x => ¬ ¬ (x.Account = a ∧ x.Instr = c)) l).length)) (hs':=[ro 137 l,ow 137 (flt (fun x => ¬ ¬ (x.Account = a ∧ x.Instr = c)) l)]) [0,3] rfl rfl rfl rfl rfl rfl (by rw [xR];rfl) (by rw [xR];rfl)
theorem rD {l:List Lot} (h:LQ l) {i:Int} (hi:0 ≤ i ∧ i ≤ l.length):(0 ≤ sQ (pf l i) ∧ sQ (pf l i) ≤ 1000000000000000 * i) ∧ 0 ≤ sC (pf l i) ∧ sC (pf l i) ≤ 1000000000000000 * i:=by
 have hm:∀ x ∈ pf l i,x ∈ l:=fun x hx => List.mem_of_mem_take hx
 have h1:=fY (f:=Lot.Qty) (l:=l) (fun x hx => by have:=h.q x hx;omega) hi
 have h2:=fY (f:=Lot.Cost) (l:=l) (fun x hx => by have:=h.c x hx;omega) hi
 have h3:=fu (f:=Lot.Qty) (l:=pf l i) (fun x hx => (h.q x (hm x hx)).1)
 have h4:=fu (f:=Lot.Cost) (l:=pf l i) (fun x hx => (h.c x (hm x hx)).1)
 unfold sQ sC
 omega
theorem cz {l:List Lot} (hq:LQ l):FC Tryz.prog 141 [.c (.row 0 0 l.length)] ([ro 137 l]) (.tup [I (sQ l),I (sC l)]) ([ro 137 l]):=by
 refine ax tk 25 [.tmp 2,.tmp 3] Tryz.func141 (by kernel_rfl) rfl rfl rfl rfl rfl rfl rfl ?_
 have hl:=hq.len
 repeat' (first
| apply yds;rfl
| refine nv ?_
| fail)
 refine wlp (X:=Int × Int × Int) [8,9] [0] (fun x => [(10,I x.1),(4,I x.2.1),(5,I x.2.2)]) (fun _ => []) (fun x => (0 ≤ x.1 ∧ x.1 ≤ l.length) ∧ x.2.1 = sQ (pf l x.1) ∧ x.2.2 = sC (pf l x.1)) (fun x => (l.length - x.1).toNat) (0,0,0) ⟨by dsimp only;omega,rfl,rfl⟩ rfl rfl (fun _ => rfl) (fun _ => rfl) ⟨rfl,rfl,rfl,rfl,rfl,rfl,rfl,rfl⟩ (fun x hx => ?_)
 obtain ⟨i,a,b⟩:=x
 obtain ⟨h0,ha,hb⟩:=hx
 dsimp only at h0 ha hb ⊢
 have hbd:=rD hq h0
 rw [← ha,← hb] at hbd
 have hm:=fun (h:i < l.length) => hq.q _ (aA ⟨h0.1,h⟩)
 have hm2:=fun (h:i < l.length) => hq.c _ (aA ⟨h0.1,h⟩)
 repeat' (first
| apply yds;rfl
| apply yd;rfl
| intro _
| refine nv ?_
| apply wct rfl
| apply wcf rfl
| apply ah rfl
| apply ai;rfl
| apply yar;rfl;omega
| apply yix;rfl;omega
| apply yle;rfl;omega
| fail)
 ·rename_i h
  have h1:=hm h
  have h2:=hm2 h
  repeat' (first
| fail)
  exact aB (i + 1,_,_) [0] ⟨rfl,rfl,rfl,rfl,rfl,rfl,rfl,rfl⟩ ⟨by dsimp only;omega,by dsimp only;rw [sQ,bU ⟨h0.1,h⟩,ha];rfl,by dsimp only;rw [sC,bU ⟨h0.1,h⟩,hb];rfl⟩ (by first | omega | (dsimp only;omega))
 ·rename_i h
  rw [b6 h] at ha hb
  exact dP (X':=.tup [I a,I b]) (hs':=[ro 137 l]) [0] rfl rfl rfl rfl rfl rfl (by rw [ha,hb]) rfl
theorem pZ {a c n q k:Int} {l:List Lot} (hq:LQ l):FC Tryz.prog 253 [.agg [.sc (.int .i64 a),.sc (.int .i64 c),.sc (.int .i64 n),.sc (.int .i64 q),.sc (.int .i64 k)],.c (.ptr 0 0 0)] ([some ⟨false,27,1,.mx [.row 1 0 l.length]⟩,ro 137 l]) (B (dB (¬ (aq (sQ (ae l a c)) ∧ aq (sC (ae l a c)))))) ([some ⟨false,27,1,.mx [.row 1 0 l.length]⟩,ro 137 l]):=by
 refine ax tk 24 [.tmp 3] Tryz.func253 (by kernel_rfl) rfl rfl rfl rfl rfl rfl rfl ?_
 have hl:=hq.len
 repeat' (first
| apply yds;rfl
| apply yd;rfl
| intro _
| refine nv ?_
| apply ycf;rfl;exact dx (by omega);rfl
| apply yc;rfl;exact cz (by first | assumption | exact LQ.of (by assumption));rfl;exact fun _ => rfl
| apply ycp;rfl;exact dU;rfl
| fail)
 all_goals first | exact bF [0,1] rfl rfl rfl rfl rfl rfl (fun h => by first | exact absurd h.1 (by assumption) | exact absurd h.2 (by assumption)) | exact b5 [0,1] rfl rfl rfl rfl rfl rfl (fun h => h ⟨by assumption,by assumption⟩)
theorem j8 {l:List Lot}  (hq:LQ l):FC Tryz.prog 310 [.c (.row 0 0 l.length),.c (.fn 253 [(1,0,0)])] ([ro 137 l,some ⟨false,27,1,.mx [.row 0 0 l.length]⟩]) (sel (∃ x ∈ l,¬ (aq (sQ (ae l x.Account x.Instr)) ∧ aq (sC (ae l x.Account x.Instr)))) (I (fIx l (fun x => ¬ (aq (sQ (ae l x.Account x.Instr)) ∧ aq (sC (ae l x.Account x.Instr)))))) (I (-1))) (sel (∃ x ∈ l,¬ (aq (sQ (ae l x.Account x.Instr)) ∧ aq (sC (ae l x.Account x.Instr)))) [ro 137 l,some ⟨false,27,1,.mx [.row 0 0 l.length]⟩] [ro 137 l,some ⟨false,27,1,.mx [.row 0 0 l.length]⟩]):=by
 refine ax tk 19 [.tmp 4] Tryz.func310 (by kernel_rfl) rfl rfl rfl rfl rfl rfl rfl ?_
 refine bX l 0 rfl (fun hl => ?_)
 repeat' (first
| apply yds;rfl
| apply yd;rfl
| refine nv ?_
| fail)
 refine wlp (X:=Int) [0,1,7] [0,1] (fun i => [(8,I i)]) (fun _ => []) (fun i => 0 ≤ i ∧ i ≤ l.length ∧ ∀ j:Int,0 ≤ j → j < i → ¬ (fun x => ¬ (aq (sQ (ae l x.Account x.Instr)) ∧ aq (sC (ae l x.Account x.Instr)))) (rd l j)) (fun i => (l.length - i).toNat) 0 ⟨by omega,by omega,fun j h0 h1 => by omega⟩ rfl rfl (fun _ => rfl) (fun _ => rfl) ⟨rfl,rfl,rfl,rfl,rfl,rfl,rfl,rfl⟩ (fun i hi => ?_)
 obtain ⟨h0,hi,hall⟩:=hi
 skip
 repeat' (first
| apply yds;rfl
| apply yd;rfl
| apply ycp;rfl;exact pZ (by assumption);rfl
| intro _
| refine nv ?_
| apply wct rfl
| apply wcf rfl
| apply ah rfl
| apply ai;rfl
| apply yar;rfl;omega
| apply yix;rfl;omega
| apply yle;rfl;omega
| fail)
 all_goals first
  | (refine dP (X':=I i) (hs':=[ro 137 l,some ⟨false,27,1,.mx [.row 0 0 l.length]⟩]) [0,1] rfl rfl rfl rfl rfl rfl ?_ ?_
     ·rw [au ⟨rd l i,aA ⟨by omega,by omega⟩,by assumption⟩,fD ⟨by omega,by omega⟩ hall (by assumption)]
     ·rw [au ⟨rd l i,aA ⟨by omega,by omega⟩,by assumption⟩])
  | exact bQ (iw (by assumption) hall) [0,1] rfl rfl rfl rfl rfl rfl
  | exact aB (i + 1) [0,1] ⟨rfl,rfl,rfl,rfl,rfl,rfl,rfl,rfl⟩ ⟨by omega,by omega,aD hall (by assumption)⟩ (by first | omega | (dsimp only;omega))
theorem ib {l:List Lot}  (hq:LQ l):FC Tryz.prog 252 [.c (.row 0 0 l.length),.c (.fn 253 [(1,0,0)])] ([ro 137 l,some ⟨false,27,1,.mx [.row 0 0 l.length]⟩]) (B (dB (∃ x ∈ l,¬ (aq (sQ (ae l x.Account x.Instr)) ∧ aq (sC (ae l x.Account x.Instr)))))) ([ro 137 l,some ⟨false,27,1,.mx [.row 0 0 l.length]⟩]):=by
 refine ax tk 9 [.tmp 4] Tryz.func252 (by kernel_rfl) rfl rfl rfl rfl rfl rfl rfl ?_
 have hn:=bY l (fun x => ¬ (aq (sQ (ae l x.Account x.Instr)) ∧ aq (sC (ae l x.Account x.Instr))))
 repeat' (first
| apply yds;rfl
| apply yd;rfl
| intro _
| refine nv ?_
| apply ai;rfl
| apply zcs;(iterate 10 rfl);(exact j8 (by assumption));exact fun _ => rfl;exact fun _ => rfl;rfl;rfl;rfl;rfl
| fail)
 all_goals first
  | exact bF [0,1] rfl rfl rfl rfl rfl rfl (by assumption)
  | exact b5 [0,1] rfl rfl rfl rfl rfl rfl (by assumption)
  | (exfalso;omega)
def mr (l:List Lot) (i:Int):Prop:=jq (rd l i).Account (rd l i).Instr (rd l i).No (rd l i).Qty (rd l i).Cost ∧ (0 < i → gj (rd l (i - 1)).Account (rd l (i - 1)).Instr (rd l (i - 1)).No (rd l i).Account (rd l i).Instr (rd l i).No)
def LotsOk (l:List Lot):Prop:=((∀ i:Int,0 ≤ i → i < l.length → mr l i) ∧ l.length ≤ 120) ∧ ∀ x ∈ l,aq (sQ (ae l x.Account x.Instr)) ∧ aq (sC (ae l x.Account x.Instr))
theorem rB {l:List Lot} (h:∀ i:Int,0 ≤ i → i < l.length → mr l i) (hl:l.length ≤ 120):LQ l :=
 ⟨fun x hx => by obtain ⟨i,hi,rfl⟩:=bw hx;have:=(h i hi.1 hi.2).1.2.2.2.1;unfold inP at this;omega,fun x hx => by obtain ⟨i,hi,rfl⟩:=bw hx;have:=(h i hi.1 hi.2).1.2.2.2.2;unfold inP at this;omega,by omega⟩
theorem LotsOk.q {l:List Lot} (h:LotsOk l):LQ l:=rB h.1.1 h.1.2
theorem bZ {l:List Lot}:FC Tryz.prog 147 [.c (.row 0 0 l.length)] ([ro 137 l]) (B (dB (LotsOk l))) ([ro 137 l]):=by
 refine ax tk 37 [.tmp 2] Tryz.func147 (by kernel_rfl) rfl rfl rfl rfl rfl rfl rfl ?_
 refine bX l 0 rfl (fun hl => ?_)
 repeat' (first
| apply yds;rfl
| refine nv ?_
| fail)
 refine wlp (X:=Int) [1,5,6] [0,1] (fun i => [(7,I i)]) (fun _ => []) (fun i => 0 ≤ i ∧ i ≤ l.length ∧ ∀ j:Int,0 ≤ j → j < i → mr l j) (fun i => (l.length - i).toNat) 0 ⟨by omega,by omega,fun j h0 h1 => by omega⟩ rfl rfl (fun _ => rfl) (fun _ => rfl) ⟨rfl,rfl,rfl,rfl,rfl,rfl,rfl,rfl⟩ (fun i hi => ?_)
 obtain ⟨h0,hi,hall⟩:=hi
 repeat' (first
| apply yds;rfl
| apply yd;rfl
| intro _
| refine nv ?_
| apply wct rfl
| apply wcf rfl
| apply ah rfl
| apply ai;rfl
| apply yar;rfl;omega
| apply yix;rfl;omega
| apply yle;rfl;omega
| refine zdq (id:=4) rfl (by kernel_rfl) [(.t,0),(.o,1),(.p,2),(.p,3),(.p,4),(.p,5),(.p,6),(.p,8),(.p,9),(.t,7),(.p,10),(.t,11),(.t,12),(.o,13),(.p,14),(.p,15),(.p,16)] [] (by kernel_rfl) rfl ?_
| apply ycp;rfl;exact rt;rfl
| apply yc;rfl;exact eE;rfl;exact fun _ => rfl
| fail)
 all_goals first
  | exact b5 [0] rfl rfl rfl rfl rfl rfl (fun h => absurd h.1.2 (by omega))
  | exact b5 [0] rfl rfl rfl rfl rfl rfl (fun h => by
     obtain ⟨g0,g1⟩:=h.1.1 i (by omega) (by omega)
     first | contradiction | (have:=lotCmp_lt.2 (g1 (by omega));omega))
  | exact aB (i + 1) [0,1] ⟨rfl,rfl,rfl,rfl,rfl,rfl,rfl,rfl⟩ ⟨by omega,by omega,aD hall ⟨by assumption,fun _ => by first | omega | exact lotCmp_lt.1 (by omega)⟩⟩ (by first | omega | (dsimp only;omega))
  | skip
 rename_i h1 h2
 have hall':=fun (j:Int) (k0:0 ≤ j) (k1:j < l.length) => hall j k0 (by omega)
 have hq:=rB hall' (by omega)
 repeat' (first
| apply yds;rfl
| intro _
| refine nv ?_
| apply ycp;rfl;(exact ib (by assumption));rfl
| fail)
 all_goals first
  | (rename_i h3;exact b5 [0] rfl rfl rfl rfl rfl rfl (fun h => by obtain ⟨x,hx,hn⟩:=h3;exact hn (h.2 x hx)))
  | (rename_i h3;exact bF [0] rfl rfl rfl rfl rfl rfl ⟨⟨hall',by omega⟩,fun x hx => Classical.byContradiction fun hn => h3 ⟨x,hx,hn⟩⟩)
end
section
open Go.RowKit
noncomputable def aY (l:List Lot) (a c:Int):List Lot:=flt (fun x => ¬ (x.Account = a ∧ x.Instr = c)) l
theorem di (a b:List Lot) (u v:Int):ae (a ++ b) u v = ae a u v ++ ae b u v:=aV a b
theorem pm (x:Lot):ae [x] x.Account x.Instr = [x]:=dN (p:=fun y:Lot => y.Account = x.Account ∧ y.Instr = x.Instr) ⟨rfl,rfl⟩
noncomputable def gF (f:Lot → Int) (l:List Lot) (i:Int):Int:=ao f (ae (pf l (i + 1)) (rd l i).Account (rd l i).Instr)
theorem lQ {a c n a' c' n' a2 c2 n2:Int} (h:gj a c n a' c' n') (k:gj a' c' n' a2 c2 n2):gj a c n a2 c2 n2:=by unfold gj bef at *;omega
def LSd (l:List Lot) (m:Int):Prop:=∀ i:Int,0 < i → i < m → gj (rd l (i - 1)).Account (rd l (i - 1)).Instr (rd l (i - 1)).No (rd l i).Account (rd l i).Instr (rd l i).No
theorem LSd.lt {l:List Lot} {m:Int} (h:LSd l m) {i j:Int} (h0:0 ≤ i) (hij:i < j) (hj:j < m):gj (rd l i).Account (rd l i).Instr (rd l i).No (rd l j).Account (rd l j).Instr (rd l j).No:=by
 obtain ⟨n,rfl⟩:∃ n:Nat,j = i + 1 + n:=⟨(j - i - 1).toNat,by omega⟩
 induction n with
 | zero =>
   have:=h (i + 1 + (0:Nat)) (by omega) hj
   rwa [show i + 1 + ((0:Nat):Int) - 1 = i from by omega] at this
 | succ n ih =>
   have h1:=h (i + 1 + (n + 1:Nat)) (by omega) hj
   rw [show i + 1 + ((n + 1:Nat):Int) - 1 = i + 1 + (n:Int) from by omega] at h1
   exact lQ (ih (by omega) (by omega)) h1
theorem vr {f:Lot → Int} {l:List Lot} {i:Int} (h:0 ≤ i ∧ i < l.length):gF f l i = ao f (ae (pf l i) (rd l i).Account (rd l i).Instr) + f (rd l i):=by
 rw [gF,cg h,di,pm,bk,cT]
theorem vq {f:Lot → Int} {l:List Lot} {i:Int} (h:0 < i ∧ i < l.length) (ha:(rd l i).Account = (rd l (i - 1)).Account) (hc:(rd l i).Instr = (rd l (i - 1)).Instr):gF f l i = gF f l (i - 1) + f (rd l i):=by
 rw [vr ⟨by omega,h.2⟩,gF,ha,hc,show i - 1 + 1 = i from by omega]
theorem xX {f:Lot → Int} {l:List Lot} {i:Int} (h:0 ≤ i ∧ i < l.length) (hs:LSd l (i + 1)) (hn:i = 0 ∨ ¬ (rd l i).Account = (rd l (i - 1)).Account ∨ ¬ (rd l i).Instr = (rd l (i - 1)).Instr):gF f l i = f (rd l i):=by
 rw [vr h]
 have:ae (pf l i) (rd l i).Account (rd l i).Instr = []:=by
  unfold ae flt
  rw [List.filter_eq_nil_iff]
  intro x hx
  obtain ⟨j,hj,rfl⟩:=bw (l:=pf l i) hx
  rw [bS ⟨h.1,by omega⟩] at hj
  rw [vT hj,rg]
  rintro ⟨e1,e2⟩
  rcases hn with hn | hn
  ·omega
  have h1:=hs.lt (i:=i - 1) (j:=i) (by omega) (by omega) (by omega)
  by_cases e:j = i - 1
  ·subst e
   rcases hn with hn | hn
   ·exact hn e1.symm
   ·exact hn e2.symm
  ·have h2:=hs.lt (i:=j) (j:=i - 1) hj.1 (by omega) (by omega)
   unfold gj bef at h1 h2
   omega
 rw [this,ec,Int.zero_add]
theorem AK {f:Lot → Int} {l:List Lot} (hf:∀ x ∈ l,0 ≤ f x) {i:Int} (h:0 ≤ i ∧ i < l.length):0 ≤ gF f l i ∧ gF f l i ≤ ao f (ae l (rd l i).Account (rd l i).Instr):=by
 have hm:∀ x ∈ ae (pf l (i + 1)) (rd l i).Account (rd l i).Instr,0 ≤ f x:=fun x hx => hf x (List.mem_of_mem_take (flt_mem.1 hx).1)
 refine ⟨fu hm,?_⟩
 have e:l = pf l (i + 1) ++ l.drop (i + 1).toNat:=(List.take_append_drop _ _).symm
 have h2:ao f (ae l (rd l i).Account (rd l i).Instr) = ao f (ae (pf l (i + 1)) (rd l i).Account (rd l i).Instr) + ao f (ae (l.drop (i + 1).toNat) (rd l i).Account (rd l i).Instr):=by
  rw [← bk,← di,← e]
 have h3:0 ≤ ao f (ae (l.drop (i + 1).toNat) (rd l i).Account (rd l i).Instr):=fu fun x hx => hf x (List.mem_of_mem_drop (flt_mem.1 hx).1)
 rw [h2,gF]
 omega
theorem xW {f:Lot → Int} {l:List Lot} {x:Lot} (hx:x ∈ l):∃ i:Int,(0 ≤ i ∧ i < l.length) ∧ gF f l i = ao f (ae l x.Account x.Instr):=by
 suffices H:∀ n:Nat,∀ i:Int,0 ≤ i → i < l.length → (l.length - i).toNat = n → (rd l i).Account = x.Account → (rd l i).Instr = x.Instr → ∃ i:Int,(0 ≤ i ∧ i < l.length) ∧ gF f l i = ao f (ae l x.Account x.Instr) by
  obtain ⟨i,hi,rfl⟩:=bw hx
  exact H _ i hi.1 hi.2 rfl rfl rfl
 intro n
 induction n using Nat.strongRecOn with
 | _ n ih =>
   intro i h0 h1 hn ha hc
   by_cases hex:∃ j:Int,i < j ∧ j < l.length ∧ (rd l j).Account = x.Account ∧ (rd l j).Instr = x.Instr
   ·obtain ⟨j,k1,k2,k3,k4⟩:=hex
    exact ih _ (by omega) j (by omega) k2 rfl k3 k4
   ·refine ⟨i,⟨h0,h1⟩,?_⟩
    have e:l = pf l (i + 1) ++ l.drop (i + 1).toNat:=(List.take_append_drop _ _).symm
    have h3:ae (l.drop (i + 1).toNat) x.Account x.Instr = []:=by
     unfold ae flt
     rw [List.filter_eq_nil_iff]
     intro y hy
     obtain ⟨j,hj,rfl⟩:=bw (l:=l.drop (i + 1).toNat) hy
     rw [List.length_drop] at hj
     have e2:rd (l.drop (i + 1).toNat) j = rd l (i + 1 + j):=by
      unfold rd
      rw [List.getD_eq_getElem?_getD,List.getD_eq_getElem?_getD,List.getElem?_drop]
      congr 2
      omega
     rw [e2,rg]
     rintro ⟨e3,e4⟩
     exact hex ⟨i + 1 + j,by omega,by omega,e3,e4⟩
    have h2:ae l x.Account x.Instr = ae (pf l (i + 1)) x.Account x.Instr ++ ae (l.drop (i + 1).toNat) x.Account x.Instr:=by
     rw [← di,← e]
    rw [gF,ha,hc,h2,h3,List.append_nil]
theorem th {l:List Lot} (h:∀ i:Int,0 ≤ i → i < l.length → mr l i) (hl:l.length ≤ 120):LotsOk l ↔ ∀ i:Int,0 ≤ i → i < l.length → aq (gF Lot.Qty l i) ∧ aq (gF Lot.Cost l i):=by
 have hq:=rB h hl
 constructor
 ·intro hk i h0 h1
  have k1:=hk.2 _ (aA ⟨h0,h1⟩)
  have k2:=AK (f:=Lot.Qty) (fun x hx => (hq.q x hx).1) ⟨h0,h1⟩
  have k3:=AK (f:=Lot.Cost) (fun x hx => (hq.c x hx).1) ⟨h0,h1⟩
  unfold aq inP sQ sC at *
  omega
 ·intro hk
  refine ⟨⟨h,hl⟩,fun x hx => ?_⟩
  obtain ⟨i,hi,e1⟩:=xW (f:=Lot.Qty) hx
  obtain ⟨j,hj,e2⟩:=xW (f:=Lot.Cost) hx
  unfold sQ sC
  rw [← e1,← e2]
  exact ⟨(hk i hi.1 hi.2).1,(hk j hj.1 hj.2).2⟩
structure LRun (l:List Lot) (i q c:Int):Prop where
 bnd:0 ≤ i ∧ i ≤ l.length
 at_:∀ j:Int,0 ≤ j → j < i → mr l j
 ok:∀ j:Int,0 ≤ j → j < i → aq (gF Lot.Qty l j) ∧ aq (gF Lot.Cost l j)
 qE:0 < i → q = gF Lot.Qty l (i - 1)
 cE:0 < i → c = gF Lot.Cost l (i - 1)
 z:i = 0 → q = 0 ∧ c = 0
theorem LRun.sd {l:List Lot} {i q c:Int} (h:LRun l i q c) (ha:mr l i):LSd l (i + 1):=fun j h0 h1 => by
 by_cases e:j = i
 ·subst e
  exact ha.2 h0
 ·exact (h.at_ j (by omega) (by omega)).2 h0
theorem LRun.num {l:List Lot} {i q c:Int} (h:LRun l i q c):(-1000000000000000 ≤ q ∧ q ≤ 1000000000000000) ∧ -1000000000000000 ≤ c ∧ c ≤ 1000000000000000:=by
 by_cases e:i = 0
 ·have:=h.z e
  omega
 ·have h1:=h.ok (i - 1) (by have:=h.bnd;omega) (by omega)
  rw [h.qE (by have:=h.bnd;omega),h.cE (by have:=h.bnd;omega)]
  exact h1
theorem LRun.new {l:List Lot} {i q c:Int} (h:LRun l i q c) (hi:i < l.length) (ha:mr l i) (hn:i = 0 ∨ ¬ (rd l i).Account = (rd l (i - 1)).Account ∨ ¬ (rd l i).Instr = (rd l (i - 1)).Instr):gF Lot.Qty l i = (rd l i).Qty ∧ gF Lot.Cost l i = (rd l i).Cost :=
 ⟨xX ⟨h.bnd.1,hi⟩ (h.sd ha) hn,xX ⟨h.bnd.1,hi⟩ (h.sd ha) hn⟩
theorem LRun.same {l:List Lot} {i q c:Int} (h:LRun l i q c) (hi:i < l.length) (h0:¬ i = 0) (h1:(rd l i).Account = (rd l (i - 1)).Account) (h2:(rd l i).Instr = (rd l (i - 1)).Instr):gF Lot.Qty l i = q + (rd l i).Qty ∧ gF Lot.Cost l i = c + (rd l i).Cost:=by
 have:=h.bnd
 rw [h.qE (by omega),h.cE (by omega)]
 exact ⟨vq ⟨by omega,hi⟩ h1 h2,vq ⟨by omega,hi⟩ h1 h2⟩
theorem LRun.step {l:List Lot} {i q c q' c':Int} (h:LRun l i q c) (hi:i < l.length) (ha:mr l i) (hq:gF Lot.Qty l i = q' ∧ gF Lot.Cost l i = c') (k1:aq q') (k2:aq c'):LRun l (i + 1) q' c':=by
 have:=h.bnd
 refine ⟨by omega,aD h.at_ ha,aD h.ok (by rw [hq.1,hq.2];exact ⟨k1,k2⟩),fun _ => ?_,fun _ => ?_,fun e => by omega⟩
 ·rw [show i + 1 - 1 = i from by omega];exact hq.1.symm
 ·rw [show i + 1 - 1 = i from by omega];exact hq.2.symm
theorem LRun.fin {l:List Lot} {i q c:Int} (h:LRun l i q c) (hi:¬ i < l.length) (hl:l.length ≤ 120):LotsOk l:=(th (fun j h0 h1 => h.at_ j h0 (by omega)) hl).2 (fun j h0 h1 => h.ok j h0 (by omega))
theorem LRun.bad {l:List Lot} {i q' c':Int} (hi:0 ≤ i ∧ i < l.length) (hq:gF Lot.Qty l i = q' ∧ gF Lot.Cost l i = c') (k:¬ aq q' ∨ ¬ aq c'):¬ LotsOk l:=fun hk => by
 have:=(th hk.1.1 hk.1.2).1 hk i hi.1 hi.2
 rw [hq.1,hq.2] at this
 rcases k with k | k
 ·exact k this.1
 ·exact k this.2
theorem lv {a c n q k a' c' n' q' k':Int}:FC Tryz.prog 287 [.agg [.sc (.int .i64 a),.sc (.int .i64 c),.sc (.int .i64 n),.sc (.int .i64 q),.sc (.int .i64 k)],.agg [.sc (.int .i64 a'),.sc (.int .i64 c'),.sc (.int .i64 n'),.sc (.int .i64 q'),.sc (.int .i64 k')]] ([]) (B (dB (gj a c n a' c' n'))) ([]):=by
 refine ax tk 35 [.tmp 4] Tryz.func287 (by kernel_rfl) rfl rfl rfl rfl rfl rfl rfl ?_
 repeat' (first
| apply yds;rfl
| intro _
| refine nv ?_
| apply ai;rfl
| apply ycp;rfl;exact iP;rfl
| fail)
 all_goals first | exact bF [] rfl rfl rfl rfl rfl rfl (.inl (by assumption)) | exact bF [] rfl rfl rfl rfl rfl rfl (.inr ⟨by assumption,by assumption,by assumption⟩) | exact b5 [] rfl rfl rfl rfl rfl rfl (by rintro (h | h) <;> first | contradiction | (obtain ⟨e1,e2,e3⟩:=h;contradiction))
theorem gP {a c n q k:Int}:FC Tryz.prog 286 [.agg [.sc (.int .i64 a),.sc (.int .i64 c),.sc (.int .i64 n),.sc (.int .i64 q),.sc (.int .i64 k)]] ([]) (B (dB (jq a c n q k))) ([]):=by
 refine ax tk 26 [.tmp 2] Tryz.func286 (by kernel_rfl) rfl rfl rfl rfl rfl rfl rfl ?_
 repeat' (first
| apply yds;rfl
| intro _
| refine nv ?_
| apply ycp;rfl;(first | exact aQ | exact aO | exact aJ);rfl
| fail)
 all_goals first | exact bF [] rfl rfl rfl rfl rfl rfl ⟨by assumption,by assumption,by assumption,by assumption,by assumption⟩ | exact b5 [] rfl rfl rfl rfl rfl rfl (fun e => by obtain ⟨e1,e2,e3,e4,e5⟩:=e;contradiction)
theorem bB {l:List Lot}:FC Tryz.prog 220 [.c (.row 0 0 l.length)] ([ro 137 l]) (B (dB (LotsOk l))) ([ro 137 l]):=by
 refine ax tk 77 [.tmp 2] Tryz.func220 (by kernel_rfl) rfl rfl rfl rfl rfl rfl rfl ?_
 refine bX l 0 rfl (fun hl => ?_)
 repeat' (first
| apply yds;rfl
| apply yd;rfl
| intro _
| refine nv ?_
| apply wct rfl
| apply wcf rfl
| apply ai;rfl
| fail)
 ·exact b5 [0] rfl rfl rfl rfl rfl rfl (fun h => absurd h.1.2 (by omega))
 rename_i hl2
 refine wlp (X:=Int × Int × Int) [0] [0] (fun x => [(5,I x.1),(3,I x.2.1),(4,I x.2.2)]) (fun _ => []) (fun x => LRun l x.1 x.2.1 x.2.2) (fun x => (l.length - x.1).toNat) (0,0,0) ⟨by dsimp only;omega,fun j h0 h1 => by dsimp only at h1;omega,fun j h0 h1 => by dsimp only at h1;omega,fun h => by dsimp only at h;omega,fun h => by dsimp only at h;omega,fun _ => ⟨rfl,rfl⟩⟩ rfl rfl (fun _ => rfl) (fun _ => rfl) ⟨rfl,rfl,rfl,rfl,rfl,rfl,rfl,rfl⟩ (fun x hx => ?_)
 obtain ⟨i,q,c⟩:=x
 dsimp only at hx ⊢
 have hb:=hx.bnd
 have hnum:=hx.num
 have hf:=fun (h:jq (rd l i).Account (rd l i).Instr (rd l i).No (rd l i).Qty (rd l i).Cost) => (⟨h.2.2.2.1,h.2.2.2.2⟩:inP (rd l i).Qty 1 1000000000000000 ∧ inP (rd l i).Cost 0 1000000000000000)
 repeat' (first
| apply yds;rfl
| apply yd;rfl
| apply yar;rfl;(have hf1:=hf (by assumption);unfold inP at hf1;omega)
| intro _
| refine nv ?_
| apply wct rfl
| apply wcf rfl
| apply ah rfl
| apply ai;rfl
| apply yne;rfl
| apply yix;rfl;omega
| apply yle;rfl;omega
| refine zdq (id:=8) rfl (by kernel_rfl) [(.t,0),(.o,1),(.p,2),(.p,3),(.p,4),(.p,5),(.p,6),(.p,7),(.p,8),(.p,9),(.p,10),(.t,11),(.t,12),(.o,13),(.p,14),(.p,15),(.p,16)] [] (by kernel_rfl) rfl ?_
| refine zdq (id:=10) rfl (by kernel_rfl) [(.p,0),(.p,1),(.p,2),(.p,3),(.p,5),(.p,6),(.p,7),(.p,8),(.p,9),(.t,4),(.t,10),(.p,11),(.p,12),(.p,13),(.p,14),(.p,16),(.p,17),(.p,18),(.p,19),(.p,20),(.t,15),(.t,21),(.p,22),(.p,23)] [] (by kernel_rfl) rfl ?_
| apply ycp;rfl;(first | exact gP | exact lv | exact bL);rfl
| fail)
 all_goals first
  | exact b5 [0] rfl rfl rfl rfl rfl rfl (fun h => by
     obtain ⟨g0,g1⟩:=h.1.1 i (by omega) (by omega)
     first | contradiction | exact absurd (g1 (by omega)) (by assumption))
  | exact bF [0] rfl rfl rfl rfl rfl rfl (hx.fin (by assumption) (by omega))
  | (exfalso;omega)
  | (have hi':i < l.length:=by assumption
     have ha:mr l i:=⟨by assumption,fun h => by first | assumption | omega⟩
     first
     | (have hq:=hx.new hi' ha (by first | exact .inl (by omega) | exact .inr (.inl (by assumption)) | exact .inr (.inr (by assumption)))
        rw [← Int.zero_add (rd l i).Qty,← Int.zero_add (rd l i).Cost] at hq
        first
        | exact aB (i + 1,_,_) [0] ⟨rfl,rfl,rfl,rfl,rfl,rfl,rfl,rfl⟩ (hx.step hi' ha hq (by assumption) (by assumption)) (by first | omega | (dsimp only;omega))
        | exact b5 [0] rfl rfl rfl rfl rfl rfl (LRun.bad ⟨by omega,hi'⟩ hq (by first | exact .inl (by assumption) | exact .inr (by assumption))))
     | (have hq:=hx.same hi' (by omega) (by assumption) (by assumption)
        first
        | exact aB (i + 1,_,_) [0] ⟨rfl,rfl,rfl,rfl,rfl,rfl,rfl,rfl⟩ (hx.step hi' ha hq (by assumption) (by assumption)) (by first | omega | (dsimp only;omega))
        | exact b5 [0] rfl rfl rfl rfl rfl rfl (LRun.bad ⟨by omega,hi'⟩ hq (by first | exact .inl (by assumption) | exact .inr (by assumption)))))
theorem bW {l:List Lot} {a c:Int} (hl:l.length ≤ 1000000):FC Tryz.prog 247 [.c (.row 0 0 l.length),I a,I c] ([ro 137 l]) (.tup [.c (.row 1 0 (ae l a c).length),.c (.row 2 0 (aY l a c).length)]) ([ro 137 l,ow 137 (ae l a c),ow 137 (aY l a c)]):=by
 refine ax tk 51 [.tmp 6,.tmp 7] Tryz.func247 (by kernel_rfl) rfl rfl rfl rfl rfl rfl rfl ?_
 repeat' (first
| apply yds;rfl
| apply yd;rfl
| refine nv ?_
| apply aH (α:=Lot) (e:=137);rfl
| fail)
 refine wlp (X:=Int × List Lot × List Lot) [0,1,2] [0,1,2] (fun x => [(10,I x.1),(8,.c (.row 1 0 x.2.1.length)),(9,.c (.row 2 0 x.2.2.length))]) (fun x => [(1,ow 137 x.2.1),(2,ow 137 x.2.2)]) (fun x => (0 ≤ x.1 ∧ x.1 ≤ l.length) ∧ x.2.1 = ae (pf l x.1) a c ∧ x.2.2 = aY (pf l x.1) a c) (fun x => (l.length - x.1).toNat) (0,[],[]) ⟨by dsimp only;omega,rfl,rfl⟩ rfl rfl (fun _ => rfl) (fun _ => rfl) ⟨rfl,rfl,rfl,rfl,rfl,rfl,rfl,rfl⟩ (fun x hx => ?_)
 obtain ⟨i,u,v⟩:=x
 obtain ⟨h0,hu,hv⟩:=hx
 dsimp only at h0 hu hv ⊢
 have hpl:=bS h0
 have hul:u.length ≤ 1000000:=by rw [hu];have:=cV (fun x => x.Account = a ∧ x.Instr = c) (pf l i);unfold ae;omega
 have hvl:v.length ≤ 1000000:=by rw [hv];have:=cV (fun x => ¬ (x.Account = a ∧ x.Instr = c)) (pf l i);unfold aY;omega
 have hy:=fun (h:i < l.length) (e:(rd l i).Account = a ∧ (rd l i).Instr = c) => (⟨by rw [hu,ae,ae,bz ⟨h0.1,h⟩,dN (p:=fun x:Lot => x.Account = a ∧ x.Instr = c) e],by rw [hv,aY,aY,bz ⟨h0.1,h⟩,dm (p:=fun x:Lot => ¬ (x.Account = a ∧ x.Instr = c)) (fun k => k e),List.append_nil]⟩:u ++ [rd l i] = ae (pf l (i + 1)) a c ∧ v = aY (pf l (i + 1)) a c)
 have hn:=fun (h:i < l.length) (e:¬ ((rd l i).Account = a ∧ (rd l i).Instr = c)) => (⟨by rw [hu,ae,ae,bz ⟨h0.1,h⟩,dm (p:=fun x:Lot => x.Account = a ∧ x.Instr = c) e,List.append_nil],by rw [hv,aY,aY,bz ⟨h0.1,h⟩,dN (p:=fun x:Lot => ¬ (x.Account = a ∧ x.Instr = c)) e]⟩:u = ae (pf l (i + 1)) a c ∧ v ++ [rd l i] = aY (pf l (i + 1)) a c)
 repeat' (first
| apply yds;rfl
| apply yd;rfl
| intro _
| refine nv ?_
| apply wct rfl
| apply wcf rfl
| apply ah rfl
| apply ai;rfl
| apply yar;rfl;omega
| apply yix;rfl;omega
| apply yle;rfl;omega
| apply aH (α:=Lot) (e:=137);rfl
| apply yap;rfl;(((try simp only [lE,lM]);(try dsimp only);omega))
| fail)
 all_goals first
  | exact aB (i + 1,u ++ [rd l i],v) [0,4,2] ⟨rfl,rfl,rfl,rfl,rfl,rfl,rfl,rfl⟩ ⟨by dsimp only;omega,hy (by assumption) ⟨by assumption,by assumption⟩⟩ (by first | omega | (dsimp only;omega))
  | exact aB (i + 1,u,v ++ [rd l i]) [0,1,4] ⟨rfl,rfl,rfl,rfl,rfl,rfl,rfl,rfl⟩ ⟨by dsimp only;omega,hn (by assumption) (fun e => by first | exact absurd e.1 (by assumption) | exact absurd e.2 (by assumption))⟩ (by first | omega | (dsimp only;omega))
  | (rename_i h
     rw [b6 h] at hu hv
     subst hu
     subst hv
     exact ak [0,1,2] rfl rfl rfl rfl rfl rfl)
theorem eu {l:List Lot} (hq:LQ l):FC Tryz.prog 289 [.c (.row 0 0 l.length)] ([ro 137 l]) (I (sQ l)) ([ro 137 l]):=by
 refine ax tk 19 [.tmp 2] Tryz.func289 (by kernel_rfl) rfl rfl rfl rfl rfl rfl rfl ?_
 have hl:=hq.len
 repeat' (first
| apply yd;rfl
| refine nv ?_
| fail)
 refine wlp (X:=Int × Int) [0] [0] (fun x => [(4,I x.1),(3,I x.2)]) (fun _ => []) (fun x => (0 ≤ x.1 ∧ x.1 ≤ l.length) ∧ x.2 = sQ (pf l x.1)) (fun x => (l.length - x.1).toNat) (0,0) ⟨by dsimp only;omega,rfl⟩ rfl rfl (fun _ => rfl) (fun _ => rfl) ⟨rfl,rfl,rfl,rfl,rfl,rfl,rfl,rfl⟩ (fun x hx => ?_)
 obtain ⟨i,n⟩:=x
 obtain ⟨h0,hn⟩:=hx
 dsimp only at h0 hn ⊢
 have hbd:=(rD hq h0).1
 rw [← hn] at hbd
 have hm:=fun (h:i < l.length) => hq.q _ (aA ⟨h0.1,h⟩)
 repeat' (first
| apply yds;rfl
| apply yd;rfl
| apply yar;rfl;(have h1:=hm (by assumption);omega)
| intro _
| refine nv ?_
| apply wct rfl
| apply wcf rfl
| apply ah rfl
| apply ai;rfl
| apply yix;rfl;omega
| apply yle;rfl;omega
| fail)
 ·rename_i h
  exact aB (i + 1,_) [0] ⟨rfl,rfl,rfl,rfl,rfl,rfl,rfl,rfl⟩ ⟨by dsimp only;omega,by dsimp only;rw [sQ,bU ⟨h0.1,h⟩,hn];rfl⟩ (by first | omega | (dsimp only;omega))
 ·rename_i h
  rw [b6 h] at hn
  exact du [0] rfl rfl rfl rfl rfl rfl hn.symm
theorem kG {l:List Lot} (hq:LQ l):FC Tryz.prog 143 [.c (.row 0 0 l.length)] ([ro 137 l]) (I (sC l)) ([ro 137 l]):=by
 refine ax tk 19 [.tmp 2] Tryz.func143 (by kernel_rfl) rfl rfl rfl rfl rfl rfl rfl ?_
 have hl:=hq.len
 repeat' (first
| apply yd;rfl
| refine nv ?_
| fail)
 refine wlp (X:=Int × Int) [0] [0] (fun x => [(4,I x.1),(3,I x.2)]) (fun _ => []) (fun x => (0 ≤ x.1 ∧ x.1 ≤ l.length) ∧ x.2 = sC (pf l x.1)) (fun x => (l.length - x.1).toNat) (0,0) ⟨by dsimp only;omega,rfl⟩ rfl rfl (fun _ => rfl) (fun _ => rfl) ⟨rfl,rfl,rfl,rfl,rfl,rfl,rfl,rfl⟩ (fun x hx => ?_)
 obtain ⟨i,n⟩:=x
 obtain ⟨h0,hn⟩:=hx
 dsimp only at h0 hn ⊢
 have hbd:=(rD hq h0).2
 rw [← hn] at hbd
 have hm:=fun (h:i < l.length) => hq.c _ (aA ⟨h0.1,h⟩)
 repeat' (first
| apply yds;rfl
| apply yd;rfl
| apply yar;rfl;(have h1:=hm (by assumption);omega)
| intro _
| refine nv ?_
| apply wct rfl
| apply wcf rfl
| apply ah rfl
| apply ai;rfl
| apply yix;rfl;omega
| apply yle;rfl;omega
| fail)
 ·rename_i h
  exact aB (i + 1,_) [0] ⟨rfl,rfl,rfl,rfl,rfl,rfl,rfl,rfl⟩ ⟨by dsimp only;omega,by dsimp only;rw [sC,bU ⟨h0.1,h⟩,hn];rfl⟩ (by first | omega | (dsimp only;omega))
 ·rename_i h
  rw [b6 h] at hn
  exact du [0] rfl rfl rfl rfl rfl rfl hn.symm
end
section
open Go.RowKit
theorem yN {α:Type} [Enc α] {l:List α} {i j:Int} {x:α} (h:0 ≤ i ∧ i < l.length) (hj:0 ≤ j):rd (upd l i x) j = if j = i then x else rd l j:=by
 unfold rd upd
 rw [List.getD_eq_getElem?_getD,List.getD_eq_getElem?_getD,List.getElem?_set]
 by_cases e:j = i
 ·subst e
  rw [if_pos rfl,if_pos (by omega),if_pos rfl]
  rfl
 ·rw [if_neg (by omega),if_neg e]
theorem An {α:Type} [Enc α] {l:List α} {i:Int} {x:α} (h:0 ≤ i ∧ i < l.length):rd (upd l i x) i = x:=by rw [yN h h.1,if_pos rfl]
theorem lK {α:Type} [Enc α] {l m:List α} (hl:l.length = m.length) (h:∀ j:Int,0 ≤ j → j < l.length → rd l j = rd m j):l = m:=by
 refine List.ext_getElem hl (fun i h1 h2 => ?_)
 have:=h i (by omega) (by omega)
 simpa [rd,List.getD_eq_getElem?_getD,h1,h2] using this
end
section
open Go.RowKit
structure Books where
 Accounts:List Account
 Instrs:List Instr
 Bals:List Bal
 Lots:List Lot
 Trades:List Trade
 Lot:Int
def bkV (n:Nat):Books → AV
 | ⟨a,i,b,l,t,x⟩ => .agg [.row n 0 a.length,.row (n + 1) 0 i.length,.row (n + 2) 0 b.length,.row (n + 3) 0 l.length,.row (n + 4) 0 t.length,.sc (.int .i64 x)]
def bkR:Books → AH
 | ⟨a,i,b,l,t,_⟩ => [ro 42 a,ro 74 i,ro 135 b,ro 137 l,ro 103 t]
def bkO:Books → AH
 | ⟨a,i,b,l,t,_⟩ => [ow 42 a,ow 74 i,ow 135 b,ow 137 l,ow 103 t]
structure Small (b:Books):Prop where
 a1:b.Accounts.length ≤ 1048576
 a2:b.Instrs.length ≤ 1048576
 a3:b.Bals.length ≤ 1048576
 a4:b.Lots.length ≤ 1048576
 a5:b.Trades.length ≤ 1048576
structure MidL (na ni nb nl nt:Nat):Prop where
 a1:na ≤ 4294967296
 a2:ni ≤ 4294967296
 a3:nb ≤ 4294967296
 a4:nl ≤ 4294967296
 a5:nt ≤ 4294967296
theorem Small.mid {b:Books} (h:Small b):MidL b.Accounts.length b.Instrs.length b.Bals.length b.Lots.length b.Trades.length:=⟨by have:=h.a1;omega,by have:=h.a2;omega,by have:=h.a3;omega,by have:=h.a4;omega,by have:=h.a5;omega⟩
end
end Go.Proofs.YtgehbhkfehmdkaaGreat.Sh
