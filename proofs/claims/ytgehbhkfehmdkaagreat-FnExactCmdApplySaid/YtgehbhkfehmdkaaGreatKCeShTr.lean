/- Copies of books, trades. No condition. -/
import Derived.Test.YtgehbhkfehmdkaaGreatKCeShV
import Derived.Test.YtgehbhkfehmdkaaGreatKCeShB1
set_option maxRecDepth 100000
set_option maxHeartbeats 40000000
set_option linter.unusedSimpArgs false
set_option linter.unusedVariables false
namespace Go.Proofs.YtgehbhkfehmdkaaGreat.Sh
section
open Go.RowKit
structure MidB (b:Books):Prop where
 a1:b.Accounts.length ≤ 4194304
 a2:b.Instrs.length ≤ 4194304
 a3:b.Bals.length ≤ 4194304
 a4:b.Lots.length ≤ 4194304
 a5:b.Trades.length ≤ 4194304
theorem Small.midB {b:Books} (h:Small b):MidB b:=⟨by have:=h.a1;omega,by have:=h.a2;omega,by have:=h.a3;omega,by have:=h.a4;omega,by have:=h.a5;omega⟩
theorem BooksOk.midB {b:Books} (h:BooksOk b):MidB b:=⟨by have:=h.acc.2;omega,by have:=h.ins.2;omega,by have:=h.bals.2;omega,by have:=h.lots.1.2;omega,by have:=h.trades.2;omega⟩
def bkE (n:Nat) (b:Books):AV:=.agg [.row n 0 b.Accounts.length,.row (n + 1) 0 b.Instrs.length,.row (n + 2) 0 b.Bals.length,.row (n + 3) 0 b.Lots.length,.row (n + 4) 0 b.Trades.length,.sc (.int .i64 b.Lot)]
def bkW (b:Books):AH:=[ow 42 b.Accounts,ow 74 b.Instrs,ow 135 b.Bals,ow 137 b.Lots,ow 103 b.Trades]
theorem aH {ba:List Account} {bi:List Instr} {bb:List Bal} {bl:List Lot} {bt:List Trade} {bn:Int} (hs:MidB ⟨ba,bi,bb,bl,bt,bn⟩):FC Tryz.prog 96 [bkV 0 ⟨ba,bi,bb,bl,bt,bn⟩] (bkR ⟨ba,bi,bb,bl,bt,bn⟩) (bkV 5 ⟨ba,bi,bb,bl,bt,bn⟩) (bkR ⟨ba,bi,bb,bl,bt,bn⟩ ++ bkO ⟨ba,bi,bb,bl,bt,bn⟩):=by
 refine al tk 21 [.cell 2 _] Tryz.func96 (by kernel_rfl) rfl rfl rfl rfl rfl rfl rfl ?_
 obtain ⟨h1,h2,h3,h4,h5⟩:=hs
 dsimp only at h1 h2 h3 h4 h5
 repeat' (first
| apply yds;rfl
| refine nv ?_
| refine zdq (id:=1) rfl (by kernel_rfl) [(.p,0),(.p,3),(.p,6),(.p,9),(.p,12),(.p,15),(.t,1),(.t,4),(.t,7),(.t,10),(.t,13),(.t,16),(.o,2),(.o,5),(.o,8),(.o,11),(.o,14),(.p,17),(.l,18)] [18] (by kernel_rfl) rfl ?_
| apply ycf;rfl;(first | exact dv (by omega) | exact dP (by omega) | exact bX (by omega) | exact bj (by omega) | exact kC (by omega));rfl
| fail)
 all_goals exact ai [0,1,2,3,4,7,8,9,10,11] rfl rfl rfl rfl rfl rfl
theorem aN {ba:List Account} {bi:List Instr} {bb:List Bal} {bl:List Lot} {bt:List Trade} {bn:Int} (hs:MidB ⟨ba,bi,bb,bl,bt,bn⟩):FC Tryz.prog 102 [bkV 0 ⟨ba,bi,bb,bl,bt,bn⟩] (bkR ⟨ba,bi,bb,bl,bt,bn⟩) (bkV 5 ⟨ba,bi,bb,bl,bt,bn⟩) (bkR ⟨ba,bi,bb,bl,bt,bn⟩ ++ bkO ⟨ba,bi,bb,bl,bt,bn⟩):=by
 refine al tk 33 [.cell 2 _] Tryz.func102 (by kernel_rfl) rfl rfl rfl rfl rfl rfl rfl ?_
 obtain ⟨h1,h2,h3,h4,h5⟩:=hs
 dsimp only at h1 h2 h3 h4 h5
 repeat' (first
| apply yds;rfl
| refine nv ?_
| apply aG (α:=Account) (e:=42);rfl
| apply aG (α:=Instr) (e:=74);rfl
| apply aG (α:=Bal) (e:=135);rfl
| apply aG (α:=Lot) (e:=137);rfl
| apply aG (α:=Trade) (e:=103);rfl
| apply yap;rfl;(((try simp only [lE,lM]);(try dsimp only);omega))
| fail)
 all_goals exact ai [0,1,2,3,4,9,11,13,15,17] rfl rfl rfl rfl rfl rfl
theorem bG {ba:List Account} {bi:List Instr} {bb:List Bal} {bl:List Lot} {bt:List Trade} {bn:Int} {no:Int}:FC Tryz.prog 127 [.c (.ptr 0 0 0),I no] ([bkY 1 ⟨ba,bi,bb,bl,bt,bn⟩] ++ bkR ⟨ba,bi,bb,bl,bt,bn⟩) (I (a9 ba no)) ([bkY 1 ⟨ba,bi,bb,bl,bt,bn⟩] ++ bkR ⟨ba,bi,bb,bl,bt,bn⟩):=by
 refine al tk 11 [.tmp 4] Tryz.func127 (by kernel_rfl) rfl rfl rfl rfl rfl rfl rfl ?_
 repeat' (first
| apply yds;rfl
| apply yd;rfl
| refine nv ?_
| apply yc;rfl;exact cZ;rfl;exact fun _ => rfl
| fail)
 all_goals exact ai [0,1,2,3,4,5] rfl rfl rfl rfl rfl rfl
theorem bH {ba:List Account} {bi:List Instr} {bb:List Bal} {bl:List Lot} {bt:List Trade} {bn:Int} {no:Int}:FC Tryz.prog 128 [.c (.ptr 0 0 0),I no] ([bkY 1 ⟨ba,bi,bb,bl,bt,bn⟩] ++ bkR ⟨ba,bi,bb,bl,bt,bn⟩) (I (ab bi no)) ([bkY 1 ⟨ba,bi,bb,bl,bt,bn⟩] ++ bkR ⟨ba,bi,bb,bl,bt,bn⟩):=by
 refine al tk 11 [.tmp 4] Tryz.func128 (by kernel_rfl) rfl rfl rfl rfl rfl rfl rfl ?_
 repeat' (first
| apply yds;rfl
| apply yd;rfl
| refine nv ?_
| apply yc;rfl;exact dm;rfl;exact fun _ => rfl
| fail)
 all_goals exact ai [0,1,2,3,4,5] rfl rfl rfl rfl rfl rfl
theorem aZ {ba:List Account} {bi:List Instr} {bb:List Bal} {bl:List Lot} {bt:List Trade} {bn:Int} {no:Int}:FC Tryz.prog 126 [.c (.ptr 0 0 0),I no] ([bkY 1 ⟨ba,bi,bb,bl,bt,bn⟩] ++ bkR ⟨ba,bi,bb,bl,bt,bn⟩) (B (dB (ab bi no ≠ 0))) ([bkY 1 ⟨ba,bi,bb,bl,bt,bn⟩] ++ bkR ⟨ba,bi,bb,bl,bt,bn⟩):=by
 refine al tk 12 [.tmp 4] Tryz.func126 (by kernel_rfl) rfl rfl rfl rfl rfl rfl rfl ?_
 repeat' (first
| apply yds;rfl
| apply yd;rfl
| intro _
| refine nv ?_
| apply yne;rfl
| apply yc;rfl;exact dm;rfl;exact fun _ => rfl
| fail)
 all_goals first | exact bp [0,1,2,3,4,5] rfl rfl rfl rfl rfl rfl (by assumption) | exact aQ [0,1,2,3,4,5] rfl rfl rfl rfl rfl rfl (fun k => k (by assumption))
theorem qM {n:Int}:FC Tryz.prog 214 [I n] ([]) (B (dB (¬ aj n))) ([]):=by
 refine al tk 6 [.tmp 2] Tryz.func214 (by kernel_rfl) rfl rfl rfl rfl rfl rfl rfl ?_
 repeat' (first
| apply yds;rfl
| apply yd;rfl
| intro _
| refine nv ?_
| apply ycp;rfl;exact bQ;rfl
| fail)
 all_goals first | exact bp [] rfl rfl rfl rfl rfl rfl (by assumption) | exact aQ [] rfl rfl rfl rfl rfl rfl (fun k => k (by assumption))
theorem gU {l:List Int}:FC Tryz.prog 261 [.c (.row 0 0 l.length),.c (.fn 214 [])] ([ro 3 l]) (sel (∃ x ∈ l,¬ aj x) (I (fIx l (fun x => ¬ aj x))) (I (-1))) (sel (∃ x ∈ l,¬ aj x) [ro 3 l] [ro 3 l]):=by
 refine al tk 19 [.tmp 4] Tryz.func261 (by kernel_rfl) rfl rfl rfl rfl rfl rfl rfl ?_
 refine cj l 0 rfl (fun hl => ?_)
 repeat' (first
| apply yds;rfl
| apply yd;rfl
| refine nv ?_
| fail)
 refine wlp (X:=Int) [0,1,7] [0] (fun i => [(8,I i)]) (fun _ => []) (fun i => 0 ≤ i ∧ i ≤ l.length ∧ ∀ j:Int,0 ≤ j → j < i → ¬ (fun x => ¬ aj x) (rd l j)) (fun i => (l.length - i).toNat) 0 ⟨by omega,by omega,fun j h0 h1 => by omega⟩ rfl rfl (fun _ => rfl) (fun _ => rfl) ⟨rfl,rfl,rfl,rfl,rfl,rfl,rfl,rfl⟩ (fun i hi => ?_)
 obtain ⟨h0,hi,hall⟩:=hi
 skip
 repeat' (first
| apply yds;rfl
| apply yd;rfl
| apply ycp;rfl;exact qM;rfl
| intro _
| refine nv ?_
| apply wct rfl
| apply wcf rfl
| apply ae rfl
| apply ag;rfl
| apply yar;rfl;omega
| apply yix;rfl;omega
| apply yle;rfl;omega
| fail)
 all_goals first
  | (refine cy (X':=I i) (hs':=[ro 3 l]) [0] rfl rfl rfl rfl rfl rfl ?_ ?_
     ·rw [ap ⟨rd l i,ax ⟨by omega,by omega⟩,by assumption⟩,dZ ⟨by omega,by omega⟩ hall (by assumption)]
     ·rw [ap ⟨rd l i,ax ⟨by omega,by omega⟩,by assumption⟩])
  | exact bS (eS (by assumption) hall) [0] rfl rfl rfl rfl rfl rfl
  | exact aA (i + 1) [0] ⟨rfl,rfl,rfl,rfl,rfl,rfl,rfl,rfl⟩ ⟨by omega,by omega,ay hall (by assumption)⟩ (by first | omega | (dsimp only;omega))
theorem fy {l:List Int}:FC Tryz.prog 161 [.c (.row 0 0 l.length),.c (.fn 214 [])] ([ro 3 l]) (B (dB (∃ x ∈ l,¬ aj x))) ([ro 3 l]):=by
 refine al tk 9 [.tmp 4] Tryz.func161 (by kernel_rfl) rfl rfl rfl rfl rfl rfl rfl ?_
 have hn:=bW l (fun x => ¬ aj x)
 repeat' (first
| apply yds;rfl
| apply yd;rfl
| intro _
| refine nv ?_
| apply ag;rfl
| apply zcs;(iterate 10 rfl);exact gU;exact fun _ => rfl;exact fun _ => rfl;rfl;rfl;rfl;rfl
| fail)
 all_goals first
  | exact bp [0] rfl rfl rfl rfl rfl rfl (by assumption)
  | exact aQ [0] rfl rfl rfl rfl rfl rfl (by assumption)
  | (exfalso;omega)
theorem bE {l:List Int}:FC Tryz.prog 94 [.c (.row 0 0 l.length)] ([ro 3 l]) (B (dB (∀ x ∈ l,aj x))) ([ro 3 l]):=by
 refine al tk 6 [.tmp 2] Tryz.func94 (by kernel_rfl) rfl rfl rfl rfl rfl rfl rfl ?_
 repeat' (first
| apply yds;rfl
| apply yd;rfl
| intro _
| refine nv ?_
| apply ycp;rfl;exact fy;rfl
| fail)
 all_goals first | exact bp [0] rfl rfl rfl rfl rfl rfl (fun x hx => Classical.byContradiction fun k => absurd (⟨x,hx,k⟩:∃ x ∈ l,¬ aj x) (by assumption)) | exact aQ [0] rfl rfl rfl rfl rfl rfl (fun h => by obtain ⟨x,hx,k⟩:∃ x ∈ l,¬ aj x:=(by assumption);exact k (h x hx))
theorem nN {no bu se pa qt ca pr st u:Int}:FC Tryz.prog 277 [.agg [.sc (.int .i64 no),.sc (.int .i64 bu),.sc (.int .i64 se),.sc (.int .i64 pa),.sc (.int .i64 qt),.sc (.int .i64 ca),.sc (.int .i64 pr),.sc (.int .i64 st)],.c (.ptr 0 0 0)] ([vI u]) (B (dB (no = u))) ([vI u]):=by
 refine al tk 8 [.tmp 3] Tryz.func277 (by kernel_rfl) rfl rfl rfl rfl rfl rfl rfl ?_
 repeat' (first
| apply yds;rfl
| apply yd;rfl
| intro _
| refine nv ?_
| apply yeq;rfl
| fail)
 all_goals first | exact bp [0] rfl rfl rfl rfl rfl rfl (by assumption) | exact aQ [0] rfl rfl rfl rfl rfl rfl (by assumption)
theorem gf {l:List Trade} {no:Int}:FC Tryz.prog 276 [.c (.row 0 0 l.length),.c (.fn 277 [(1,0,0)])] ([ro 103 l,vI no]) (sel (∃ x ∈ l,x.No = no) (I (fIx l (fun x => x.No = no))) (I (-1))) (sel (∃ x ∈ l,x.No = no) [ro 103 l,vI no] [ro 103 l,vI no]):=by
 refine al tk 19 [.tmp 4] Tryz.func276 (by kernel_rfl) rfl rfl rfl rfl rfl rfl rfl ?_
 refine cj l 0 rfl (fun hl => ?_)
 repeat' (first
| apply yds;rfl
| apply yd;rfl
| refine nv ?_
| fail)
 refine wlp (X:=Int) [0,1,7] [0,1] (fun i => [(8,I i)]) (fun _ => []) (fun i => 0 ≤ i ∧ i ≤ l.length ∧ ∀ j:Int,0 ≤ j → j < i → ¬ (fun x => x.No = no) (rd l j)) (fun i => (l.length - i).toNat) 0 ⟨by omega,by omega,fun j h0 h1 => by omega⟩ rfl rfl (fun _ => rfl) (fun _ => rfl) ⟨rfl,rfl,rfl,rfl,rfl,rfl,rfl,rfl⟩ (fun i hi => ?_)
 obtain ⟨h0,hi,hall⟩:=hi
 skip
 repeat' (first
| apply yds;rfl
| apply yd;rfl
| apply ycp;rfl;exact nN;rfl
| intro _
| refine nv ?_
| apply wct rfl
| apply wcf rfl
| apply ae rfl
| apply ag;rfl
| apply yar;rfl;omega
| apply yix;rfl;omega
| apply yle;rfl;omega
| fail)
 all_goals first
  | (refine cy (X':=I i) (hs':=[ro 103 l,vI no]) [0,1] rfl rfl rfl rfl rfl rfl ?_ ?_
     ·rw [ap ⟨rd l i,ax ⟨by omega,by omega⟩,by assumption⟩,dZ ⟨by omega,by omega⟩ hall (by assumption)]
     ·rw [ap ⟨rd l i,ax ⟨by omega,by omega⟩,by assumption⟩])
  | exact bS (eS (by assumption) hall) [0,1] rfl rfl rfl rfl rfl rfl
  | exact aA (i + 1) [0,1] ⟨rfl,rfl,rfl,rfl,rfl,rfl,rfl,rfl⟩ ⟨by omega,by omega,ay hall (by assumption)⟩ (by first | omega | (dsimp only;omega))
theorem iC {ba:List Account} {bi:List Instr} {bb:List Bal} {bl:List Lot} {bt:List Trade} {bn:Int} {no:Int}:FC Tryz.prog 202 [bkV 0 ⟨ba,bi,bb,bl,bt,bn⟩,I no] (bkR ⟨ba,bi,bb,bl,bt,bn⟩) (sel (∃ t ∈ bt,t.No = no) (I (fIx bt (fun t => t.No = no))) (I (-1))) (sel (∃ t ∈ bt,t.No = no) (bkR ⟨ba,bi,bb,bl,bt,bn⟩) (bkR ⟨ba,bi,bb,bl,bt,bn⟩)):=by
 refine al tk 9 [.tmp 4] Tryz.func202 (by kernel_rfl) rfl rfl rfl rfl rfl rfl rfl ?_
 repeat' (first
| apply yds;rfl
| apply yd;rfl
| intro _
| refine nv ?_
| apply zcs;(iterate 10 rfl);exact gf;exact fun _ => rfl;exact fun _ => rfl;rfl;rfl;rfl;rfl
| fail)
 all_goals first | exact gM (by assumption) [0,1,2,3,4] rfl rfl rfl rfl rfl rfl | exact bS (by assumption) [0,1,2,3,4] rfl rfl rfl rfl rfl rfl
theorem jy {ba:List Account} {bi:List Instr} {bb:List Bal} {bl:List Lot} {bt:List Trade} {bn:Int} {no:Int}:FC Tryz.prog 201 [bkV 0 ⟨ba,bi,bb,bl,bt,bn⟩,I no] (bkR ⟨ba,bi,bb,bl,bt,bn⟩) (sel (∃ t ∈ bt,t.No = no) (I (fIx bt (fun t => t.No = no))) (I (-1))) (sel (∃ t ∈ bt,t.No = no) (bkR ⟨ba,bi,bb,bl,bt,bn⟩) (bkR ⟨ba,bi,bb,bl,bt,bn⟩)):=by
 refine al tk 22 [.tmp 4] Tryz.func201 (by kernel_rfl) rfl rfl rfl rfl rfl rfl rfl ?_
 refine cj bt 4 rfl (fun hl => ?_)
 repeat' (first
| apply yds;rfl
| apply yd;rfl
| refine nv ?_
| fail)
 refine wlp (X:=Int) [1,2] [0,1,2,3,4,5] (fun i => [(5,I i)]) (fun _ => []) (fun i => 0 ≤ i ∧ i ≤ bt.length ∧ ∀ j:Int,0 ≤ j → j < i → ¬ (rd bt j).No = no) (fun i => (bt.length - i).toNat) 0 ⟨by omega,by omega,fun j h0 h1 => by omega⟩ rfl rfl (fun _ => rfl) (fun _ => rfl) ⟨rfl,rfl,rfl,rfl,rfl,rfl,rfl,rfl⟩ (fun i hi => ?_)
 obtain ⟨h0,hi,hall⟩:=hi
 repeat' (first
| apply yds;rfl
| apply yd;rfl
| intro _
| refine nv ?_
| apply wct rfl
| apply wcf rfl
| apply ae rfl
| apply ag;rfl
| apply yar;rfl;omega
| apply yix;rfl;omega
| apply yle;rfl;omega
| fail)
 all_goals first
  | (refine cy (X':=I i) (hs':=bkR ⟨ba,bi,bb,bl,bt,bn⟩) [0,1,2,3,4] rfl rfl rfl rfl rfl rfl ?_ ?_
     ·rw [ap ⟨rd bt i,ax ⟨by omega,by omega⟩,by assumption⟩,dZ ⟨by omega,by omega⟩ hall (by assumption)]
     ·rw [ap ⟨rd bt i,ax ⟨by omega,by omega⟩,by assumption⟩])
  | exact bS (eS (by assumption) hall) [0,1,2,3,4] rfl rfl rfl rfl rfl rfl
  | exact aA (i + 1) [0,1,2,3,4,5] ⟨rfl,rfl,rfl,rfl,rfl,rfl,rfl,rfl⟩ ⟨by omega,by omega,ay hall (by assumption)⟩ (by first | omega | (dsimp only;omega))
theorem qy {α:Type} {l:List α} {q:α → Prop} (h:∀ x ∈ l,¬ q x):fIx l q = l.length:=by
 unfold fIx
 rw [List.findIdx_eq_length.2 (fun x hx => tJ (h x hx))]
noncomputable def jV (l:List Trade) (no:Int):Int:=fIx l (fun t => ¬ t.No < no)
noncomputable def vx (l:List Trade) (x:Trade):List Trade:=ins l (jV l x.No) x
theorem n0 (l:List Trade) (no:Int):0 ≤ jV l no ∧ jV l no ≤ l.length:=bW _ _
theorem tr {l:List Trade} {no j:Int} (h0:0 ≤ j) (h:j < jV l no):(rd l j).No < no:=by
 have:=iy h0 h
 omega
theorem vw {l:List Trade} {no:Int} (h:jV l no < l.length):¬ (rd l (jV l no)).No < no:=by
 have hn:=n0 l no
 by_cases hx:∃ t ∈ l,¬ t.No < no
 ·exact ko hx
 ·exfalso
  have h1:=qy (l:=l) (q:=fun t => ¬ t.No < no) (fun x hm k => hx ⟨x,hm,k⟩)
  unfold jV at h
  omega
section
variable {P:Program} {T:TB} {ops:Array Oper} {Q:Exit → St → Prop} {h1:AH} {ks:List Sk} {l:List Oper}
theorem ah {N k d n:Nat} {e:List (Nat × AV)} {h h':AH} {cs cs':List AC} (q:Nat) (t sz:Nat) (hz:Nat.blt 0 sz = true) (hx:lk d e = some (.agg cs)) (hq:cs[q]? = some (.sc (.slice none 0 0))) (hh:lw h (some ⟨true,t,sz,.fl []⟩) = some (n,h')) (hc:vG (cs.set q (.row n 0 0)) = some cs') (hn:ZZ P ops Q h1 ks l ⟨N,k,(d,.agg cs') :: e,h'⟩):ZZ P ops Q h1 ks l ⟨N,k,e,h⟩:=by
 obtain ⟨h2,h3⟩:=fq hh
 rw [← mO hc] at hn
 subst h2;subst h3
 exact CD (tO (st:=⟨N,k,e,h⟩) t (Nat.blt_eq.mp hz) hx hq) hn
end
def fZ (no bu se pa qt ca pr:Int):Prop:=(∀ x ∈ [no,bu,se,pa,ca],aj x) ∧ inP qt 1 1000000000000000 ∧ inP pr 0 1000000000000000
noncomputable def b8 (b:Books) (no bu se pa qt ca pr:Int):Books × Int :=
 sel (¬ (BooksOk b ∧ fZ no bu se pa qt ca pr)) (⟨[],[],[],[],[],0⟩,1)
 (sel (∃ t ∈ b.Trades,t.No = no) (b,2)
 (sel (a9 b.Accounts bu = 0 ∨ a9 b.Accounts se = 0 ∨ ab b.Instrs pa = 0 ∨ ab b.Instrs ca = 0) (b,3)
 (sel (a9 b.Accounts bu ≠ 1 ∨ a9 b.Accounts se ≠ 1 ∨ bu = se ∨ ab b.Instrs pa ≠ 2 ∨ ab b.Instrs ca ≠ 1) (b,4)
 (sel (30 ≤ b.Trades.length) (b,7) ({ b with Trades:=vx b.Trades ⟨no,bu,se,pa,qt,ca,pr,1⟩ },0)))))
section
variable {b:Books} {no bu se pa qt ca pr:Int}
theorem tI (h:¬ (BooksOk b ∧ fZ no bu se pa qt ca pr)):b8 b no bu se pa qt ca pr = (⟨[],[],[],[],[],0⟩,1):=by rw [b8,ap h]
theorem BR (h:BooksOk b ∧ fZ no bu se pa qt ca pr) (h2:∃ t ∈ b.Trades,t.No = no):b8 b no bu se pa qt ca pr = (b,2):=by rw [b8,a8 (fun k => k h),ap h2]
theorem BS (h:BooksOk b ∧ fZ no bu se pa qt ca pr) (h2:¬ ∃ t ∈ b.Trades,t.No = no) (h3:a9 b.Accounts bu = 0 ∨ a9 b.Accounts se = 0 ∨ ab b.Instrs pa = 0 ∨ ab b.Instrs ca = 0):b8 b no bu se pa qt ca pr = (b,3):=by rw [b8,a8 (fun k => k h),a8 h2,ap h3]
theorem BT (h:BooksOk b ∧ fZ no bu se pa qt ca pr) (h2:¬ ∃ t ∈ b.Trades,t.No = no) (h3:¬ (a9 b.Accounts bu = 0 ∨ a9 b.Accounts se = 0 ∨ ab b.Instrs pa = 0 ∨ ab b.Instrs ca = 0)) (h4:a9 b.Accounts bu ≠ 1 ∨ a9 b.Accounts se ≠ 1 ∨ bu = se ∨ ab b.Instrs pa ≠ 2 ∨ ab b.Instrs ca ≠ 1):b8 b no bu se pa qt ca pr = (b,4):=by rw [b8,a8 (fun k => k h),a8 h2,a8 h3,ap h4]
theorem BU (h:BooksOk b ∧ fZ no bu se pa qt ca pr) (h2:¬ ∃ t ∈ b.Trades,t.No = no) (h4:¬ (a9 b.Accounts bu ≠ 1 ∨ a9 b.Accounts se ≠ 1 ∨ bu = se ∨ ab b.Instrs pa ≠ 2 ∨ ab b.Instrs ca ≠ 1)) (h5:30 ≤ b.Trades.length):b8 b no bu se pa qt ca pr = (b,7):=by rw [b8,a8 (fun k => k h),a8 h2,a8 (by omega),a8 h4,ap h5]
theorem AR (h:BooksOk b ∧ fZ no bu se pa qt ca pr) (h2:¬ ∃ t ∈ b.Trades,t.No = no) (h4:¬ (a9 b.Accounts bu ≠ 1 ∨ a9 b.Accounts se ≠ 1 ∨ bu = se ∨ ab b.Instrs pa ≠ 2 ∨ ab b.Instrs ca ≠ 1)) (h5:¬ 30 ≤ b.Trades.length) {r:List Trade} (hr:r = vx b.Trades ⟨no,bu,se,pa,qt,ca,pr,1⟩):b8 b no bu se pa qt ca pr = ({ b with Trades:=r },0):=by rw [b8,a8 (fun k => k h),a8 h2,a8 (by omega),a8 h4,a8 h5,hr]
end
theorem nF {ba:List Account} {bi:List Instr} {bb:List Bal} {bl:List Lot} {bt:List Trade} {bn:Int} {no bu se pa qt ca pr:Int}:FC Tryz.prog 76 [bkV 0 ⟨ba,bi,bb,bl,bt,bn⟩,I no,I bu,I se,I pa,I qt,I ca,I pr] (bkR ⟨ba,bi,bb,bl,bt,bn⟩) (.tup [bkE 5 (b8 ⟨ba,bi,bb,bl,bt,bn⟩ no bu se pa qt ca pr).1,I (b8 ⟨ba,bi,bb,bl,bt,bn⟩ no bu se pa qt ca pr).2]) (bkR ⟨ba,bi,bb,bl,bt,bn⟩ ++ bkW (b8 ⟨ba,bi,bb,bl,bt,bn⟩ no bu se pa qt ca pr).1):=by
 refine al tk 135 [.cell 16 _,.tmp 17] Tryz.func76 (by kernel_rfl) rfl rfl rfl rfl rfl rfl rfl ?_
 refine cj bt 4 rfl (fun hl => ?_)
 have hnn:=bW bt (fun t => t.No = no)
 repeat' (first
| apply ah (d:=43) 0 42 2;rfl;rfl;rfl;rfl;rfl
| apply ah (d:=43) 1 74 2;rfl;rfl;rfl;rfl;rfl
| apply ah (d:=43) 2 135 3;rfl;rfl;rfl;rfl;rfl
| apply ah (d:=43) 3 137 5;rfl;rfl;rfl;rfl;rfl
| apply ah (d:=43) 4 103 8;rfl;rfl;rfl;rfl;rfl
| apply yd;rfl
| intro _
| refine nv ?_
| apply wct rfl
| apply wcf rfl
| apply ag;rfl
| apply yne;rfl
| apply aG (α:=Int) (e:=3);rfl
| apply ycp;rfl;(first | exact aw | exact bE | exact aJ | exact aZ);rfl
| apply ycf;rfl;exact aH (by exact BooksOk.midB (by assumption));rfl
| apply zcs;(iterate 10 rfl);exact iC;exact fun _ => rfl;exact fun _ => rfl;rfl;rfl;rfl;rfl
| apply yc;rfl;(first | exact bG | exact bH);rfl;exact fun _ => rfl
| fail)
 all_goals first
  | (exfalso;omega)
  | (rw [tI (b:=⟨ba,bi,bb,bl,bt,bn⟩) (fun h => by obtain ⟨h1,h2,h3,h4⟩:=h;first | exact absurd h1 (by assumption) | exact absurd h2 (by assumption) | exact absurd h3 (by assumption) | exact absurd h4 (by assumption))]
     first | exact ai [0,1,2,3,4,7,8,9,10,11] rfl rfl rfl rfl rfl rfl | exact ai [0,1,2,3,4,8,9,10,11,12] rfl rfl rfl rfl rfl rfl)
  | (have hk:∃ t ∈ bt,t.No = no:=by assumption
     rw [BR (b:=⟨ba,bi,bb,bl,bt,bn⟩) ⟨by assumption,by assumption,by assumption,by assumption⟩ hk]
     exact ai [0,1,2,3,4,8,9,10,11,12] rfl rfl rfl rfl rfl rfl)
  | (rw [BS (b:=⟨ba,bi,bb,bl,bt,bn⟩) ⟨by assumption,by assumption,by assumption,by assumption⟩ (by assumption) (by dsimp only;omega)]
     exact ai [0,1,2,3,4,8,9,10,11,12] rfl rfl rfl rfl rfl rfl)
  | (rw [BT (b:=⟨ba,bi,bb,bl,bt,bn⟩) ⟨by assumption,by assumption,by assumption,by assumption⟩ (by assumption) (by dsimp only;omega) (by dsimp only;omega)]
     exact ai [0,1,2,3,4,8,9,10,11,12] rfl rfl rfl rfl rfl rfl)
  | (rw [BU (b:=⟨ba,bi,bb,bl,bt,bn⟩) ⟨by assumption,by assumption,by assumption,by assumption⟩ (by assumption) (by dsimp only;omega) (by dsimp only;omega)]
     exact ai [0,1,2,3,4,8,9,10,11,12] rfl rfl rfl rfl rfl rfl)
  | skip
 have hi2:=n0 bt no
 refine wlp (X:=Int) [1,2,3,4,5,6,7,8,16,18] [0,1,2,3,4,5,6,7,8,9,10,11,12,13] (fun i => [(19,I i)]) (fun _ => []) (fun i => 0 ≤ i ∧ i ≤ jV bt no) (fun i => (bt.length - i).toNat) 0 ⟨by omega,by omega⟩ rfl rfl (fun _ => rfl) (fun _ => rfl) ⟨rfl,rfl,rfl,rfl,rfl,rfl,rfl,rfl⟩ (fun i hi => ?_)
 obtain ⟨h0,hi⟩:=hi
 have hb:=fun h => tr (l:=bt) (no:=no) h0 h
 have ha:=vw (l:=bt) (no:=no)
 repeat' (first
| apply yds;rfl
| apply yd;rfl
| intro _
| refine nv ?_
| apply wct rfl
| apply wcf rfl
| apply ae rfl
| apply ag;rfl
| apply yar;rfl;omega
| apply yix;rfl;omega
| apply yle;rfl;omega
| apply aG (α:=Trade) (e:=103);rfl
| apply ycw  [true,true];rfl;exact jT (by omega) (by omega);rfl
| fail)
 all_goals first
  | (have e:i = jV bt no:=by omega
     rw [AR (b:=⟨ba,bi,bb,bl,bt,bn⟩) (r:=ins bt i ⟨no,bu,se,pa,qt,ca,pr,1⟩) ⟨by assumption,by assumption,by assumption,by assumption⟩ (by assumption) (by dsimp only;omega) (by dsimp only;omega) (by rw [e];rfl)]
     exact ai [0,1,2,3,4,8,9,10,11,15] rfl rfl rfl rfl rfl rfl)
  | exact aA (i + 1) [0,1,2,3,4,5,6,7,8,9,10,11,12,13] ⟨rfl,rfl,rfl,rfl,rfl,rfl,rfl,rfl⟩ ⟨by omega,by have e:i ≠ jV bt no:=fun e => ha (by omega) (e ▸ (by assumption));omega⟩ (by first | omega | (dsimp only;omega))
end
section
open Go.RowKit
theorem wd {no bu se pa qt ca pr:Int} (h1:aj no) (h2:aj bu) (h3:aj se) (h4:aj pa) (h5:inP qt 1 1000000000000000) (h6:aj ca) (h7:inP pr 0 1000000000000000):fZ no bu se pa qt ca pr:=⟨fun x hx => by simp only [List.mem_cons,List.not_mem_nil,or_false] at hx;rcases hx with rfl | rfl | rfl | rfl | rfl <;> assumption,h5,h7⟩
theorem we {no bu se pa qt ca pr:Int} (h:fZ no bu se pa qt ca pr):aj no ∧ aj bu ∧ aj se ∧ aj pa ∧ inP qt 1 1000000000000000 ∧ aj ca ∧ inP pr 0 1000000000000000:=⟨h.1 _ (by simp),h.1 _ (by simp),h.1 _ (by simp),h.1 _ (by simp),h.2.1,h.1 _ (by simp),h.2.2⟩
theorem Bh {l:List Trade} {i k:Int} {x:Trade} (h:0 ≤ k ∧ k < i) (hi:i < l.length):ins (pf l i) k x ++ [rd l i] = ins (pf l (i + 1)) k x:=by
 rw [ce ⟨by omega,hi⟩]
 have h1:k.toNat ≤ (pf l i).length:=by have:=bU (l:=l) (i:=i) ⟨by omega,by omega⟩;omega
 unfold ins
 rw [List.take_append_of_le_length h1,List.drop_append_of_le_length h1]
 simp
theorem zW {l:List Trade} {i:Int} {x:Trade} (h:0 ≤ i ∧ i < l.length):pf l i ++ [x] ++ [rd l i] = ins (pf l (i + 1)) i x:=by
 rw [ce h]
 have h1:(pf l i).length = i.toNat:=by have:=bU (l:=l) (i:=i) ⟨by omega,by omega⟩;omega
 unfold ins
 rw [← h1,List.take_left,List.drop_left]
 simp
theorem zX {l:List Trade} {i:Int} {x:Trade} (h:0 ≤ i ∧ ¬ i < l.length):pf l i ++ [x] = ins l l.length x:=by
 rw [aY h.2,d8 rfl]
theorem oA {ba:List Account} {bi:List Instr} {bb:List Bal} {bl:List Lot} {bt:List Trade} {bn:Int} {no bu se pa qt ca pr:Int}:FC Tryz.prog 77 [bkV 0 ⟨ba,bi,bb,bl,bt,bn⟩,I no,I bu,I se,I pa,I qt,I ca,I pr] (bkR ⟨ba,bi,bb,bl,bt,bn⟩) (.tup [bkE 5 (b8 ⟨ba,bi,bb,bl,bt,bn⟩ no bu se pa qt ca pr).1,I (b8 ⟨ba,bi,bb,bl,bt,bn⟩ no bu se pa qt ca pr).2]) (bkR ⟨ba,bi,bb,bl,bt,bn⟩ ++ bkW (b8 ⟨ba,bi,bb,bl,bt,bn⟩ no bu se pa qt ca pr).1):=by
 refine al tk 182 [.cell 16 _,.tmp 17] Tryz.func77 (by kernel_rfl) rfl rfl rfl rfl rfl rfl rfl ?_
 by_cases hok:BooksOk ⟨ba,bi,bb,bl,bt,bn⟩
 rotate_left
 ·
  repeat' (first
| intro h9;exfalso;contradiction
| apply ah (d:=65) 0 42 2;rfl;rfl;rfl;rfl;rfl
| apply ah (d:=65) 1 74 2;rfl;rfl;rfl;rfl;rfl
| apply ah (d:=65) 2 135 3;rfl;rfl;rfl;rfl;rfl
| apply ah (d:=65) 3 137 5;rfl;rfl;rfl;rfl;rfl
| apply ah (d:=65) 4 103 8;rfl;rfl;rfl;rfl;rfl
| apply yd;rfl
| intro _
| refine nv ?_
| apply wct rfl
| apply ycp;rfl;exact aq;rfl
| fail)
  all_goals first
   | (rw [tI (b:=⟨ba,bi,bb,bl,bt,bn⟩) (fun h => hok h.1)]
      exact ai [0,1,2,3,4,7,8,9,10,11] rfl rfl rfl rfl rfl rfl)
 by_cases hta:fZ no bu se pa qt ca pr
 rotate_left
 ·
  repeat' (first
| intro h9;exfalso;contradiction
| intro h9;exact absurd (wd (by assumption) (by assumption) (by assumption) (by assumption) (by assumption) (by assumption) h9) hta
| apply ah (d:=65) 0 42 2;rfl;rfl;rfl;rfl;rfl
| apply ah (d:=65) 1 74 2;rfl;rfl;rfl;rfl;rfl
| apply ah (d:=65) 2 135 3;rfl;rfl;rfl;rfl;rfl
| apply ah (d:=65) 3 137 5;rfl;rfl;rfl;rfl;rfl
| apply ah (d:=65) 4 103 8;rfl;rfl;rfl;rfl;rfl
| apply yd;rfl
| intro _
| refine nv ?_
| apply wct rfl
| apply ycp;rfl;(first | exact aq | exact aK | exact aC);rfl
| fail)
  all_goals first
   | (rw [tI (b:=⟨ba,bi,bb,bl,bt,bn⟩) (fun h => hta h.2)]
      exact ai [0,1,2,3,4,7,8,9,10,11] rfl rfl rfl rfl rfl rfl)
 have hA:=hok.acc
 have hI:=hok.ins
 have hl:=hok.trades.2
 dsimp only at hA hI hl
 obtain ⟨k1,k2,k3,k4,k5,k6,k7⟩:=we hta
 have hnn:=bW bt (fun t => t.No = no)
 have hbb:BooksOk ⟨ba,bi,bb,bl,bt,bn⟩ ∧ fZ no bu se pa qt ca pr:=⟨hok,hta⟩
 repeat' (first
| intro h9;exfalso;first | contradiction | omega
| apply yds;rfl
| apply yd;rfl
| intro _
| refine nv ?_
| apply wct rfl
| apply wcf rfl
| apply ag;rfl
| apply yne;rfl
| apply aG (α:=Trade) (e:=103);rfl
| refine zdq (id:=4) rfl (by kernel_rfl) [(.p,0),(.p,2),(.p,4),(.p,6),(.t,1),(.t,5),(.o,3),(.o,7),(.p,8),(.p,9)] [] (by kernel_rfl) rfl ?_
| refine zdq (id:=5) rfl (by kernel_rfl) [(.p,0),(.p,2),(.p,4),(.p,6),(.t,1),(.t,5),(.o,3),(.o,7),(.p,8),(.p,9)] [] (by kernel_rfl) rfl ?_
| apply ycp;rfl;(first | exact aq | exact aK | exact aC);rfl
| apply ycf;rfl;exact aN (by exact BooksOk.midB (by assumption));rfl
| apply ycq;rfl;(first | exact aS | exact bc);rfl
| apply zcs;(iterate 10 rfl);exact jy;exact fun _ => rfl;exact fun _ => rfl;rfl;rfl;rfl;rfl
| fail)
 all_goals first
  | (have hk:∃ t ∈ bt,t.No = no:=by assumption
     rw [BR (b:=⟨ba,bi,bb,bl,bt,bn⟩) hbb hk]
     exact ai [0,1,2,3,4,7,8,9,10,11] rfl rfl rfl rfl rfl rfl)
  | (rw [BS (b:=⟨ba,bi,bb,bl,bt,bn⟩) hbb (by assumption) (by dsimp only;omega)]
     exact ai [0,1,2,3,4,7,8,9,10,11] rfl rfl rfl rfl rfl rfl)
  | (rw [BT (b:=⟨ba,bi,bb,bl,bt,bn⟩) hbb (by assumption) (by dsimp only;omega) (by dsimp only;omega)]
     exact ai [0,1,2,3,4,7,8,9,10,11] rfl rfl rfl rfl rfl rfl)
  | (rw [BU (b:=⟨ba,bi,bb,bl,bt,bn⟩) hbb (by assumption) (by dsimp only;omega) (by dsimp only;omega)]
     exact ai [0,1,2,3,4,7,8,9,10,11] rfl rfl rfl rfl rfl rfl)
  | skip
 all_goals
  have hne:∀ j:Int,0 ≤ j → j < bt.length → (rd bt j).No ≠ no:=fun j h0 h1 e => (by assumption:¬ ∃ t,t ∈ bt ∧ t.No = no) ⟨_,ax ⟨h0,h1⟩,e⟩
  have hK:=n0 bt no
  have hKa:=vw (l:=bt) (no:=no)
  refine wlp (X:=Int × Bool × List Trade) [1,8,16,18,23] [0,1,2,3,4,5,6,7,8,9,10,11,12,13,14] (fun x => [(26,I x.1),(25,B x.2.1),(24,.c (.row 14 0 x.2.2.length))]) (fun x => [(14,ow 103 x.2.2)]) (fun x => (0 ≤ x.1 ∧ x.1 ≤ bt.length) ∧ (x.2.1 = false → x.1 ≤ jV bt no ∧ x.2.2 = pf bt x.1) ∧ (x.2.1 = true → jV bt no < x.1 ∧ x.2.2 = ins (pf bt x.1) (jV bt no) ⟨no,bu,se,pa,qt,ca,pr,1⟩)) (fun x => (bt.length - x.1).toNat) (0,false,[]) ⟨⟨by dsimp only;omega,by dsimp only;omega⟩,fun _ => ⟨hK.1,rfl⟩,fun h => by cases h⟩ rfl rfl (fun _ => rfl) (fun _ => rfl) ⟨rfl,rfl,rfl,rfl,rfl,rfl,rfl,rfl⟩ (fun x hx => ?_)
  obtain ⟨i,put,xs⟩:=x
  obtain ⟨h0,hf,ht⟩:=hx
  dsimp only at h0 hf ht ⊢
  have hb:=fun h => tr (l:=bt) (no:=no) h0.1 h
  have hnei:=hne i h0.1
  have hpl:=bU h0
  cases put
  ·obtain ⟨h1,h2⟩:=hf rfl
   have hxl:xs.length ≤ 30:=by rw [h2];omega
   clear hf ht
   repeat' (first
| apply yds;rfl
| apply yd;rfl
| intro _
| refine nv ?_
| apply wct rfl
| apply wcf rfl
| apply ae rfl
| apply ag;rfl
| apply yar;rfl;omega
| apply yix;rfl;omega
| apply yle;rfl;omega
| apply aG (α:=Trade) (e:=103);rfl
| apply yap;rfl;(((try simp only [lE,lM]);(try dsimp only);omega))
| fail)
   all_goals first
    | (rename_i hi hgt
       have e:jV bt no = i:=by omega
       exact aA (i + 1,true,xs ++ [⟨no,bu,se,pa,qt,ca,pr,1⟩] ++ [rd bt i]) [0,1,2,3,4,5,6,7,8,9,10,11,12,13,18] ⟨rfl,rfl,rfl,rfl,rfl,rfl,rfl,rfl⟩ ⟨⟨by dsimp only;omega,by dsimp only;omega⟩,fun h => (by cases h),fun _ => ⟨by dsimp only;omega,by dsimp only;rw [h2,zW ⟨h0.1,hi⟩,e]⟩⟩ (by first | omega | (dsimp only;omega)))
    | (rename_i hi hgt
       have e:i ≠ jV bt no:=fun e => by
        have q1:=hKa (by omega)
        rw [← e] at q1
        have q2:=hnei hi
        omega
       exact aA (i + 1,false,xs ++ [rd bt i]) [0,1,2,3,4,5,6,7,8,9,10,11,12,13,16] ⟨rfl,rfl,rfl,rfl,rfl,rfl,rfl,rfl⟩ ⟨⟨by dsimp only;omega,by dsimp only;omega⟩,fun _ => ⟨by dsimp only;omega,by dsimp only;rw [h2,ce ⟨h0.1,hi⟩]⟩,fun h => (by cases h)⟩ (by first | omega | (dsimp only;omega)))
    | (rename_i hi
       rw [AR (b:=⟨ba,bi,bb,bl,bt,bn⟩) (r:=xs ++ [⟨no,bu,se,pa,qt,ca,pr,1⟩]) hbb (by assumption) (by dsimp only;omega) (by dsimp only;omega) (by rw [h2,zX ⟨h0.1,hi⟩,← show jV bt no = bt.length from by omega];rfl)]
       exact ai [0,1,2,3,4,7,8,9,10,16] rfl rfl rfl rfl rfl rfl)
  ·obtain ⟨h1,h2⟩:=ht rfl
   have hxl:xs.length ≤ 31:=by rw [h2,bZ ⟨by omega,by omega⟩];omega
   clear hf ht
   repeat' (first
| apply yds;rfl
| apply yd;rfl
| intro _
| refine nv ?_
| apply wct rfl
| apply wcf rfl
| apply ae rfl
| apply ag;rfl
| apply yar;rfl;omega
| apply yix;rfl;omega
| apply yle;rfl;omega
| apply aG (α:=Trade) (e:=103);rfl
| apply yap;rfl;(((try simp only [lE,lM]);(try dsimp only);omega))
| fail)
   all_goals first
    | (rename_i hi
       exact aA (i + 1,true,xs ++ [rd bt i]) [0,1,2,3,4,5,6,7,8,9,10,11,12,13,16] ⟨rfl,rfl,rfl,rfl,rfl,rfl,rfl,rfl⟩ ⟨⟨by dsimp only;omega,by dsimp only;omega⟩,fun h => (by cases h),fun _ => ⟨by dsimp only;omega,by dsimp only;rw [h2,Bh ⟨hK.1,h1⟩ hi]⟩⟩ (by first | omega | (dsimp only;omega)))
    | (rename_i hi
       rw [AR (b:=⟨ba,bi,bb,bl,bt,bn⟩) (r:=xs) hbb (by assumption) (by dsimp only;omega) (by dsimp only;omega) (by rw [h2,aY hi];rfl)]
       exact ai [0,1,2,3,4,7,8,9,10,14] rfl rfl rfl rfl rfl rfl)
end
end Go.Proofs.YtgehbhkfehmdkaaGreat.Sh
