/- Books that are right. No condition. -/
import Derived.Test.YtgehbhkfehmdkaaGreatKFxShV
import Derived.Test.YtgehbhkfehmdkaaGreatKFxShLo
set_option maxRecDepth 100000
set_option maxHeartbeats 40000000
set_option linter.unusedSimpArgs false
set_option linter.unusedVariables false
namespace Go.Proofs.YtgehbhkfehmdkaaGreat.Sh
section
open Go.RowKit
def tj (ba:List Account) (bi:List Instr) (bb:List Bal) (x:Bal):Prop:=a9 ba x.Account ≠ 0 ∧ aa bi x.Instr ≠ 0 ∧ ¬ (a9 ba x.Account = 1 ∧ x.Amount < 0) ∧ bJ bb x.Instr = 0
def rp (ba:List Account) (bi:List Instr) (bn:Int) (x:Lot):Prop:=a9 ba x.Account = 1 ∧ aa bi x.Instr = 2 ∧ x.No ≤ bn
def lc (bb:List Bal) (bl:List Lot) (a:Account) (x:Instr):Prop:=a.Kind = 1 → x.Kind = 2 → sQ (ab bl a.No x.No) = aK bb a.No x.No
def trF (ba:List Account) (bi:List Instr) (bu se pa ca:Int):Prop:=a9 ba bu = 1 ∧ a9 ba se = 1 ∧ aa bi pa = 2 ∧ aa bi ca = 1
def pS (ba:List Account) (bi:List Instr) (bb:List Bal):Prop:=∀ x ∈ bb,tj ba bi bb x
def qn (ba:List Account) (bi:List Instr) (bb:List Bal) (bl:List Lot) (bn:Int):Prop:=(∀ x ∈ bl,rp ba bi bn x) ∧ ∀ a ∈ ba,∀ x ∈ bi,lc bb bl a x
def ja (ba:List Account) (bi:List Instr) (bt:List Trade):Prop:=∀ t ∈ bt,trF ba bi t.Buyer t.Seller t.Paper t.Cash
structure BooksOk (b:Books):Prop where
 acc:aO b.Accounts
 ins:bA b.Instrs
 bals:BalsOk b.Bals
 lots:LotsOk b.Lots
 trades:fX b.Trades
 lot:inP b.Lot 0 1000000000
 bR:pS b.Accounts b.Instrs b.Bals
 lR:qn b.Accounts b.Instrs b.Bals b.Lots b.Lot
 tR:ja b.Accounts b.Instrs b.Trades
def bkY (n:Nat):Books → Option AO
 | ⟨a,i,b,l,t,x⟩ => some ⟨false,30,6,.mx [.row n 0 a.length,.row (n + 1) 0 i.length,.row (n + 2) 0 b.length,.row (n + 3) 0 l.length,.row (n + 4) 0 t.length,.sc (.int .i64 x)]⟩
theorem nw {l:List Bal} {c:Int}:FC Tryz.prog 288 [.c (.row 0 0 l.length),I c] ([ro 135 l]) (sel (BalsOk l ∧ ai (bJ l c)) (.tup [I (bJ l c),B true]) (.tup [I 0,B false])) (sel (BalsOk l ∧ ai (bJ l c)) [ro 135 l] [ro 135 l]):=by
 refine ay tk 38 [.tmp 4,.tmp 5] Tryz.func288 (by kernel_rfl) rfl rfl rfl rfl rfl rfl rfl ?_
 refine cw l 0 rfl (fun hl => ?_)
 repeat' (first
| apply yds;rfl
| apply yd;rfl
| refine nv ?_
| fail)
 refine wlp (X:=Int × Int) [0,1] [0] (fun x => [(7,I x.1),(6,I x.2)]) (fun _ => []) (fun x => 0 ≤ x.1 ∧ x.1 ≤ l.length ∧ (0 < x.1 → BalsOk l) ∧ x.2 = bJ (pf l x.1) c) (fun x => (l.length - x.1).toNat) (0,0) ⟨by dsimp only;omega,by dsimp only;omega,fun h => absurd h (by dsimp only;omega),rfl⟩ rfl rfl (fun _ => rfl) (fun _ => rfl) ⟨rfl,rfl,rfl,rfl,rfl,rfl,rfl,rfl⟩ (fun x hx => ?_)
 obtain ⟨i,n⟩:=x
 obtain ⟨h0,hi,hok,hn⟩:=hx
 dsimp only at h0 hi hok hn ⊢
 have hb:=fun (hk:BalsOk l) => eC (iD hk c) ⟨h0,hi⟩
 rw [show ak (jO c) (pf l i) = n from hn.symm] at hb
 have hb3:=fun (hk:BalsOk l) (h:i < l.length) (e:(rd l i).Instr = c) => (kB e ▸ iD hk c _ (az ⟨h0,h⟩):-1000000000000000 ≤ (rd l i).Amount ∧ (rd l i).Amount ≤ 1000000000000000)
 repeat' (first
| apply yds;rfl
| apply yd;rfl
| apply yar;rfl;(have h1:=hb3 (by assumption) (by assumption) (by assumption);have h2:=hb (by assumption);have h3:=(by assumption:BalsOk l).2;omega)
| intro _
| refine nv ?_
| apply wct rfl
| apply wcf rfl
| apply ah rfl
| apply aj;rfl
| apply yar;rfl;omega
| apply yix;rfl;omega
| apply yle;rfl;omega
| apply ycp;rfl;exact cx;rfl
| apply yc;rfl;exact i6;rfl;exact fun _ => rfl
| apply zcs;(iterate 10 rfl);exact i7;exact fun _ => rfl;exact fun _ => rfl;rfl;rfl;rfl;rfl
| fail)
 all_goals first
  | (exfalso;contradiction)
  | (rename_i hk h e
     exact aB (i + 1,_) [0] ⟨rfl,rfl,rfl,rfl,rfl,rfl,rfl,rfl⟩ ⟨by dsimp only;omega,by dsimp only;omega,fun _ => by assumption,by dsimp only;rw [fp ⟨h0,by assumption⟩,kB (by assumption),hn]⟩ (by first | omega | (dsimp only;omega)))
  | exact aB (i + 1,_) [0] ⟨rfl,rfl,rfl,rfl,rfl,rfl,rfl,rfl⟩ ⟨by dsimp only;omega,by dsimp only;omega,fun _ => by assumption,by dsimp only;rw [fp ⟨h0,by assumption⟩,mC (by assumption),hn,Int.add_zero]⟩ (by first | omega | (dsimp only;omega))
  | exact cD (fun h => by first | exact absurd h.1 (by assumption) | (have e:=hn.trans (congrArg (fun x => bJ x c) (b8 (by assumption)));have:=h.2;rw [← e] at this;contradiction)) [0] rfl rfl rfl rfl rfl rfl
  | (have e:=hn.trans (congrArg (fun x => bJ x c) (b8 (by assumption)))
     rw [← show n = bJ l c from e]
     exact jl ⟨by assumption,by assumption⟩ [0] rfl rfl rfl rfl rfl rfl)
theorem kU {ba:List Account} {bi:List Instr} {bb:List Bal} {bl:List Lot} {bt:List Trade} {bn:Int} (hok:BalsOk bb):FC Tryz.prog 149 [bkV 0 ⟨ba,bi,bb,bl,bt,bn⟩] (bkR ⟨ba,bi,bb,bl,bt,bn⟩) (B (dB (pS ba bi bb))) (bkR ⟨ba,bi,bb,bl,bt,bn⟩):=by
 refine ay tk 46 [.tmp 2] Tryz.func149 (by kernel_rfl) rfl rfl rfl rfl rfl rfl rfl ?_
 have hl:=hok.2
 repeat' (first
| apply yds;rfl
| refine nv ?_
| fail)
 refine wlp (X:=Int) [1,7,8] [0,1,2,3,4,5] (fun i => [(9,I i)]) (fun _ => []) (fun i => 0 ≤ i ∧ i ≤ bb.length ∧ ∀ j:Int,0 ≤ j → j < i → tj ba bi bb (rd bb j)) (fun i => (bb.length - i).toNat) 0 ⟨by omega,by omega,fun j h0 h1 => by omega⟩ rfl rfl (fun _ => rfl) (fun _ => rfl) ⟨rfl,rfl,rfl,rfl,rfl,rfl,rfl,rfl⟩ (fun i hi => ?_)
 obtain ⟨h0,hi,hall⟩:=hi
 repeat' (first
| apply yds;rfl
| apply yd;rfl
| intro _
| refine nv ?_
| apply wct rfl
| apply wcf rfl
| apply ah rfl
| apply aj;rfl
| apply yne;rfl
| apply yar;rfl;omega
| apply yix;rfl;omega
| apply yle;rfl;omega
| apply yc;rfl;(first | exact cT | exact cM | exact mT (by assumption));rfl;exact fun _ => rfl
| fail)
 all_goals first
  | (exfalso;contradiction)
  | exact aV [0,1,2,3,4] rfl rfl rfl rfl rfl rfl (fun h => by
     obtain ⟨e1,e2,e3,e4⟩:=h _ (az ⟨h0,by assumption⟩)
     first | contradiction | exact e3 ⟨by assumption,by assumption⟩)
  | exact bG [0,1,2,3,4] rfl rfl rfl rfl rfl rfl (all_rd.1 (fun j h0 h1 => hall j h0 (by omega)))
  | exact aB (i + 1) [0,1,2,3,4,5] ⟨rfl,rfl,rfl,rfl,rfl,rfl,rfl,rfl⟩ ⟨by omega,by omega,ax hall ⟨by assumption,by assumption,fun e => by first | exact absurd e.1 (by assumption) | exact absurd e.2 (by assumption),by assumption⟩⟩ (by first | omega | (dsimp only;omega))
theorem pC {ba:List Account} {bi:List Instr} {bb:List Bal} {bl:List Lot} {bt:List Trade} {bn:Int} (hAc:aO ba) (hIn:bA bi) (hok:BalsOk bb):FC Tryz.prog 222 [bkV 0 ⟨ba,bi,bb,bl,bt,bn⟩] (bkR ⟨ba,bi,bb,bl,bt,bn⟩) (B (dB (pS ba bi bb))) (bkR ⟨ba,bi,bb,bl,bt,bn⟩):=by
 refine ay tk 58 [.tmp 2] Tryz.func222 (by kernel_rfl) rfl rfl rfl rfl rfl rfl rfl ?_
 have hl:=hok.2
 repeat' (first
| apply yds;rfl
| apply yd;rfl
| refine nv ?_
| fail)
 refine wlp (X:=Int) [1] [0,1,2,3,4,5] (fun i => [(3,I i)]) (fun _ => []) (fun i => 0 ≤ i ∧ i ≤ bb.length ∧ ∀ j:Int,0 ≤ j → j < i → tj ba bi bb (rd bb j)) (fun i => (bb.length - i).toNat) 0 ⟨by omega,by omega,fun j h0 h1 => by omega⟩ rfl rfl (fun _ => rfl) (fun _ => rfl) ⟨rfl,rfl,rfl,rfl,rfl,rfl,rfl,rfl⟩ (fun i hi => ?_)
 obtain ⟨h0,hi,hall⟩:=hi
 repeat' (first
| apply yds;rfl
| apply yd;rfl
| intro _
| refine nv ?_
| apply wct rfl
| apply wcf rfl
| apply ah rfl
| apply aj;rfl
| apply yne;rfl
| apply yar;rfl;omega
| apply yix;rfl;omega
| apply yle;rfl;omega
| apply ycq;rfl;(first | exact aM | exact aU);rfl
| apply zcs;(iterate 10 rfl);exact nw;exact fun _ => rfl;exact fun _ => rfl;rfl;rfl;rfl;rfl
| fail)
 all_goals first
  | (exfalso;contradiction)
  | exact aV [0,1,2,3,4] rfl rfl rfl rfl rfl rfl (fun h => by
     obtain ⟨e1,e2,e3,e4⟩:=h _ (az ⟨h0,by assumption⟩)
     first | contradiction | exact e3 ⟨by assumption,by assumption⟩ | (rename_i k;exact k ⟨hok,by rw [e4];unfold ai inP;omega⟩))
  | exact bG [0,1,2,3,4] rfl rfl rfl rfl rfl rfl (all_rd.1 (fun j h0 h1 => hall j h0 (by omega)))
  | exact aB (i + 1) [0,1,2,3,4,5] ⟨rfl,rfl,rfl,rfl,rfl,rfl,rfl,rfl⟩ ⟨by omega,by omega,ax hall ⟨by assumption,by assumption,fun e => by first | exact absurd e.1 (by assumption) | exact absurd e.2 (by assumption),by assumption⟩⟩ (by first | omega | (dsimp only;omega))
theorem kW {ba:List Account} {bi:List Instr} {bb:List Bal} {bl:List Lot} {bt:List Trade} {bn:Int} (hok:BalsOk bb) (hlo:LotsOk bl):FC Tryz.prog 150 [bkV 0 ⟨ba,bi,bb,bl,bt,bn⟩] (bkR ⟨ba,bi,bb,bl,bt,bn⟩) (B (dB (qn ba bi bb bl bn))) (bkR ⟨ba,bi,bb,bl,bt,bn⟩):=by
 refine ay tk 84 [.tmp 2] Tryz.func150 (by kernel_rfl) rfl rfl rfl rfl rfl rfl rfl ?_
 have hsd:=hok.sd
 have hq:=hlo.q
 have hlq:=hq.len
 refine cw ba 0 rfl (fun hla => ?_)
 refine cw bi 1 rfl (fun hli => ?_)
 repeat' (first
| apply yds;rfl
| refine nv ?_
| fail)
 refine wlp (X:=Int) [1,12,13] [0,1,2,3,4,5] (fun i => [(14,I i)]) (fun _ => []) (fun i => 0 ≤ i ∧ i ≤ bl.length ∧ ∀ j:Int,0 ≤ j → j < i → rp ba bi bn (rd bl j)) (fun i => (bl.length - i).toNat) 0 ⟨by omega,by omega,fun j h0 h1 => by omega⟩ rfl rfl (fun _ => rfl) (fun _ => rfl) ⟨rfl,rfl,rfl,rfl,rfl,rfl,rfl,rfl⟩ (fun i hi => ?_)
 obtain ⟨h0,hi,hall⟩:=hi
 repeat' (first
| apply yds;rfl
| apply yd;rfl
| intro _
| refine nv ?_
| apply wct rfl
| apply wcf rfl
| apply ah rfl
| apply aj;rfl
| apply yne;rfl
| apply yar;rfl;omega
| apply yix;rfl;omega
| apply yle;rfl;omega
| apply yc;rfl;(first | exact cT | exact cM);rfl;exact fun _ => rfl
| fail)
 all_goals first
  | (exfalso;contradiction)
  | exact aV [0,1,2,3,4] rfl rfl rfl rfl rfl rfl (fun h => by
     obtain ⟨e1,e2,e3⟩:=h.1 _ (az ⟨h0,by assumption⟩)
     first | contradiction | omega)
  | exact aB (i + 1) [0,1,2,3,4,5] ⟨rfl,rfl,rfl,rfl,rfl,rfl,rfl,rfl⟩ ⟨by omega,by omega,ax hall ⟨by assumption,by assumption,by omega⟩⟩ (by first | omega | (dsimp only;omega))
  | skip
 have h1:=all_rd.1 (fun j h0 h1 => hall j h0 (by omega))
 clear hall h0 hi
 refine wlp (X:=Int) [1,41,42] [0,1,2,3,4,5] (fun i => [(43,I i)]) (fun _ => []) (fun i => 0 ≤ i ∧ i ≤ ba.length ∧ ∀ j:Int,0 ≤ j → j < i → ∀ x ∈ bi,lc bb bl (rd ba j) x) (fun i => (ba.length - i).toNat) 0 ⟨by omega,by omega,fun j h0 h1 => by omega⟩ rfl rfl (fun _ => rfl) (fun _ => rfl) ⟨rfl,rfl,rfl,rfl,rfl,rfl,rfl,rfl⟩ (fun i hi => ?_)
 obtain ⟨h0,hi,hall⟩:=hi
 repeat' (first
| apply yds;rfl
| apply yd;rfl
| intro _
| refine nv ?_
| apply wct rfl
| apply wcf rfl
| apply ah rfl
| apply aj;rfl
| apply yix;rfl;omega
| apply yle;rfl;omega
| fail)
 ·rename_i hlt
  refine wlp (X:=Int) [1,6,41,42,43,48,49] [0,1,2,3,4,5,6] (fun k => [(50,I k)]) (fun _ => []) (fun k => 0 ≤ k ∧ k ≤ bi.length ∧ ∀ j:Int,0 ≤ j → j < k → lc bb bl (rd ba i) (rd bi j)) (fun k => (bi.length - k).toNat) 0 ⟨by omega,by omega,fun j h0 h1 => by omega⟩ rfl rfl (fun _ => rfl) (fun _ => rfl) ⟨rfl,rfl,rfl,rfl,rfl,rfl,rfl,rfl⟩ (fun k hk => ?_)
  obtain ⟨k0,kk,kall⟩:=hk
  repeat' (first
| apply yds;rfl
| apply yd;rfl
| intro _
| refine nv ?_
| apply wct rfl
| apply wcf rfl
| apply ah rfl
| apply aj;rfl
| apply yne;rfl
| apply yar;rfl;omega
| apply yix;rfl;omega
| apply yle;rfl;omega
| apply yc;rfl;(first | exact iP (by first | assumption | exact LQ.of (by assumption)) | exact fx (by assumption));rfl;exact fun _ => rfl
| apply ycf;rfl;exact jG (by omega);rfl
| fail)
  all_goals first
   | exact aB (k + 1) [0,1,2,3,4,5,6] ⟨rfl,rfl,rfl,rfl,rfl,rfl,rfl,rfl⟩ ⟨by omega,by omega,ax kall (fun e1 e2 => by first | assumption | exact absurd e1 (by assumption) | exact absurd e2 (by assumption))⟩ (by first | omega | (dsimp only;omega))
   | exact aV [0,1,2,3,4] rfl rfl rfl rfl rfl rfl (fun h => absurd (h.2 _ (az ⟨h0,hlt⟩) _ (az ⟨k0,by assumption⟩) (by assumption) (by assumption)) (by assumption))
   | exact aB (i + 1) [0,1,2,3,4,5] ⟨rfl,rfl,rfl,rfl,rfl,rfl,rfl,rfl⟩ ⟨by omega,by omega,ax hall (all_rd.1 (fun j h0 h1 => kall j h0 (by omega)))⟩ (by first | omega | (dsimp only;omega))
 ·exact bG [0,1,2,3,4] rfl rfl rfl rfl rfl rfl ⟨h1,all_rd.1 (fun j h0 h1 => hall j h0 (by omega))⟩
theorem pD {ba:List Account} {bi:List Instr} {bb:List Bal} {bl:List Lot} {bt:List Trade} {bn:Int} (hAc:aO ba) (hIn:bA bi) (hok:BalsOk bb) (hlo:LotsOk bl):FC Tryz.prog 223 [bkV 0 ⟨ba,bi,bb,bl,bt,bn⟩] (bkR ⟨ba,bi,bb,bl,bt,bn⟩) (B (dB (qn ba bi bb bl bn))) (bkR ⟨ba,bi,bb,bl,bt,bn⟩):=by
 refine ay tk 108 [.tmp 2] Tryz.func223 (by kernel_rfl) rfl rfl rfl rfl rfl rfl rfl ?_
 have hsd:=hok.sd
 have hq:=hlo.q
 have hlq:=hq.len
 refine cw ba 0 rfl (fun hla => ?_)
 refine cw bi 1 rfl (fun hli => ?_)
 repeat' (first
| apply yds;rfl
| apply yd;rfl
| refine nv ?_
| fail)
 refine wlp (X:=Int) [1] [0,1,2,3,4,5] (fun i => [(3,I i)]) (fun _ => []) (fun i => 0 ≤ i ∧ i ≤ bl.length ∧ ∀ j:Int,0 ≤ j → j < i → rp ba bi bn (rd bl j)) (fun i => (bl.length - i).toNat) 0 ⟨by omega,by omega,fun j h0 h1 => by omega⟩ rfl rfl (fun _ => rfl) (fun _ => rfl) ⟨rfl,rfl,rfl,rfl,rfl,rfl,rfl,rfl⟩ (fun i hi => ?_)
 obtain ⟨h0,hi,hall⟩:=hi
 repeat' (first
| apply yds;rfl
| apply yd;rfl
| intro _
| refine nv ?_
| apply wct rfl
| apply wcf rfl
| apply ah rfl
| apply aj;rfl
| apply yne;rfl
| apply yar;rfl;omega
| apply yix;rfl;omega
| apply yle;rfl;omega
| apply ycq;rfl;(first | exact aM | exact aU);rfl
| fail)
 all_goals first
  | (exfalso;contradiction)
  | exact aV [0,1,2,3,4] rfl rfl rfl rfl rfl rfl (fun h => by
     obtain ⟨e1,e2,e3⟩:=h.1 _ (az ⟨h0,by assumption⟩)
     first | contradiction | omega)
  | exact aB (i + 1) [0,1,2,3,4,5] ⟨rfl,rfl,rfl,rfl,rfl,rfl,rfl,rfl⟩ ⟨by omega,by omega,ax hall ⟨by assumption,by assumption,by omega⟩⟩ (by first | omega | (dsimp only;omega))
  | skip
 have h1:=all_rd.1 (fun j h0 h1 => hall j h0 (by omega))
 clear hall h0 hi
 refine wlp (X:=Int) [1] [0,1,2,3,4,5] (fun i => [(5,I i)]) (fun _ => []) (fun i => 0 ≤ i ∧ i ≤ ba.length ∧ ∀ j:Int,0 ≤ j → j < i → ∀ x ∈ bi,lc bb bl (rd ba j) x) (fun i => (ba.length - i).toNat) 0 ⟨by omega,by omega,fun j h0 h1 => by omega⟩ rfl rfl (fun _ => rfl) (fun _ => rfl) ⟨rfl,rfl,rfl,rfl,rfl,rfl,rfl,rfl⟩ (fun i hi => ?_)
 obtain ⟨h0,hi,hall⟩:=hi
 repeat' (first
| apply yds;rfl
| apply yd;rfl
| intro _
| refine nv ?_
| apply wct rfl
| apply wcf rfl
| apply ah rfl
| apply aj;rfl
| fail)
 ·rename_i hlt
  refine wlp (X:=Int) [1,5] [0,1,2,3,4,5] (fun k => [(6,I k)]) (fun _ => []) (fun k => 0 ≤ k ∧ k ≤ bi.length ∧ ∀ j:Int,0 ≤ j → j < k → lc bb bl (rd ba i) (rd bi j)) (fun k => (bi.length - k).toNat) 0 ⟨by omega,by omega,fun j h0 h1 => by omega⟩ rfl rfl (fun _ => rfl) (fun _ => rfl) ⟨rfl,rfl,rfl,rfl,rfl,rfl,rfl,rfl⟩ (fun k hk => ?_)
  obtain ⟨k0,kk,kall⟩:=hk
  repeat' (first
| apply yds;rfl
| apply yd;rfl
| intro _
| refine nv ?_
| apply wct rfl
| apply wcf rfl
| apply ah rfl
| apply aj;rfl
| apply yne;rfl
| apply yar;rfl;omega
| apply yix;rfl;omega
| apply yle;rfl;omega
| refine zdq (id:=14) rfl (by kernel_rfl) [(.p,0),(.p,2),(.p,4),(.p,8),(.p,10),(.t,1),(.t,3),(.p,5),(.p,6),(.t,7),(.t,9),(.p,11),(.p,12),(.t,13),(.o,14),(.p,15),(.p,16),(.p,17),(.p,18),(.p,19)] [] (by kernel_rfl) rfl ?_
| refine zdq (id:=15) rfl (by kernel_rfl) [(.p,0),(.p,2),(.p,4),(.p,6),(.p,10),(.p,12),(.t,3),(.t,5),(.p,7),(.p,8),(.t,9),(.t,11),(.p,13),(.p,14),(.t,15),(.o,1),(.o,16),(.p,17)] [] (by kernel_rfl) rfl ?_
| apply yc;rfl;(first | exact db (by first | assumption | exact LQ.of (by assumption)) | exact dz);rfl;exact fun _ => rfl
| apply ycf;rfl;exact bT (by omega);rfl
| fail)
  all_goals first
   | exact aB (k + 1) [0,1,2,3,4,5] ⟨rfl,rfl,rfl,rfl,rfl,rfl,rfl,rfl⟩ ⟨by omega,by omega,ax kall (fun e1 e2 => by first | assumption | exact absurd e1 (by assumption) | exact absurd e2 (by assumption))⟩ (by first | omega | (dsimp only;omega))
   | exact aV [0,1,2,3,4] rfl rfl rfl rfl rfl rfl (fun h => absurd (h.2 _ (az ⟨h0,hlt⟩) _ (az ⟨k0,by assumption⟩) (by assumption) (by assumption)) (by assumption))
   | exact aB (i + 1) [0,1,2,3,4,5] ⟨rfl,rfl,rfl,rfl,rfl,rfl,rfl,rfl⟩ ⟨by omega,by omega,ax hall (all_rd.1 (fun j h0 h1 => kall j h0 (by omega)))⟩ (by first | omega | (dsimp only;omega))
 ·exact bG [0,1,2,3,4] rfl rfl rfl rfl rfl rfl ⟨h1,all_rd.1 (fun j h0 h1 => hall j h0 (by omega))⟩
theorem im {ba:List Account} {bi:List Instr} {bb:List Bal} {bl:List Lot} {bt:List Trade} {bn:Int} {no bu se pa qt ca pr st:Int}:FC Tryz.prog 255 [.agg [.sc (.int .i64 no),.sc (.int .i64 bu),.sc (.int .i64 se),.sc (.int .i64 pa),.sc (.int .i64 qt),.sc (.int .i64 ca),.sc (.int .i64 pr),.sc (.int .i64 st)],.c (.ptr 0 0 0)] ([bkY 1 ⟨ba,bi,bb,bl,bt,bn⟩] ++ bkR ⟨ba,bi,bb,bl,bt,bn⟩) (B (dB (¬ trF ba bi bu se pa ca))) ([bkY 1 ⟨ba,bi,bb,bl,bt,bn⟩] ++ bkR ⟨ba,bi,bb,bl,bt,bn⟩):=by
 refine ay tk 34 [.tmp 3] Tryz.func255 (by kernel_rfl) rfl rfl rfl rfl rfl rfl rfl ?_
 repeat' (first
| apply yds;rfl
| intro _
| refine nv ?_
| apply yne;rfl
| apply yc;rfl;(first | exact cT | exact cM);rfl;exact fun _ => rfl
| fail)
 all_goals first
  | exact bG [0,1,2,3,4,5] rfl rfl rfl rfl rfl rfl (fun e => by obtain ⟨e1,e2,e3,e4⟩:=e;contradiction)
  | exact aV [0,1,2,3,4,5] rfl rfl rfl rfl rfl rfl (fun h => h ⟨by assumption,by assumption,by assumption,by assumption⟩)
theorem eE {l:List Trade} {ba:List Account} {bi:List Instr} {bb:List Bal} {bl:List Lot} {bn:Int}:FC Tryz.prog 276 [.c (.row 0 0 l.length),.c (.fn 255 [(1,0,0)])] ([ro 103 l,some ⟨false,30,6,.mx [.row 2 0 ba.length,.row 3 0 bi.length,.row 4 0 bb.length,.row 5 0 bl.length,.row 0 0 l.length,.sc (.int .i64 bn)]⟩,ro 42 ba,ro 74 bi,ro 135 bb,ro 137 bl]) (sel (∃ x ∈ l,¬ trF ba bi x.Buyer x.Seller x.Paper x.Cash) (I (fIx l (fun x => ¬ trF ba bi x.Buyer x.Seller x.Paper x.Cash))) (I (-1))) (sel (∃ x ∈ l,¬ trF ba bi x.Buyer x.Seller x.Paper x.Cash) [ro 103 l,some ⟨false,30,6,.mx [.row 2 0 ba.length,.row 3 0 bi.length,.row 4 0 bb.length,.row 5 0 bl.length,.row 0 0 l.length,.sc (.int .i64 bn)]⟩,ro 42 ba,ro 74 bi,ro 135 bb,ro 137 bl] [ro 103 l,some ⟨false,30,6,.mx [.row 2 0 ba.length,.row 3 0 bi.length,.row 4 0 bb.length,.row 5 0 bl.length,.row 0 0 l.length,.sc (.int .i64 bn)]⟩,ro 42 ba,ro 74 bi,ro 135 bb,ro 137 bl]):=by
 refine ay tk 19 [.tmp 4] Tryz.func276 (by kernel_rfl) rfl rfl rfl rfl rfl rfl rfl ?_
 refine cw l 0 rfl (fun hl => ?_)
 repeat' (first
| apply yds;rfl
| apply yd;rfl
| refine nv ?_
| fail)
 refine wlp (X:=Int) [0,1,7] [0,1,2,3,4,5] (fun i => [(8,I i)]) (fun _ => []) (fun i => 0 ≤ i ∧ i ≤ l.length ∧ ∀ j:Int,0 ≤ j → j < i → ¬ (fun x => ¬ trF ba bi x.Buyer x.Seller x.Paper x.Cash) (rd l j)) (fun i => (l.length - i).toNat) 0 ⟨by omega,by omega,fun j h0 h1 => by omega⟩ rfl rfl (fun _ => rfl) (fun _ => rfl) ⟨rfl,rfl,rfl,rfl,rfl,rfl,rfl,rfl⟩ (fun i hi => ?_)
 obtain ⟨h0,hi,hall⟩:=hi
 skip
 repeat' (first
| apply yds;rfl
| apply yd;rfl
| apply ycp;rfl;exact im;rfl
| intro _
| refine nv ?_
| apply wct rfl
| apply wcf rfl
| apply ah rfl
| apply aj;rfl
| apply yar;rfl;omega
| apply yix;rfl;omega
| apply yle;rfl;omega
| fail)
 all_goals first
  | (refine fv (X':=I i) (hs':=[ro 103 l,some ⟨false,30,6,.mx [.row 2 0 ba.length,.row 3 0 bi.length,.row 4 0 bb.length,.row 5 0 bl.length,.row 0 0 l.length,.sc (.int .i64 bn)]⟩,ro 42 ba,ro 74 bi,ro 135 bb,ro 137 bl]) [0,1,2,3,4,5] rfl rfl rfl rfl rfl rfl ?_ ?_
     ·rw [al ⟨rd l i,az ⟨by omega,by omega⟩,by assumption⟩,ii ⟨by omega,by omega⟩ hall (by assumption)]
     ·rw [al ⟨rd l i,az ⟨by omega,by omega⟩,by assumption⟩])
  | exact cD (hJ (by assumption) hall) [0,1,2,3,4,5] rfl rfl rfl rfl rfl rfl
  | exact aB (i + 1) [0,1,2,3,4,5] ⟨rfl,rfl,rfl,rfl,rfl,rfl,rfl,rfl⟩ ⟨by omega,by omega,ax hall (by assumption)⟩ (by first | omega | (dsimp only;omega))
theorem dK {l:List Trade} {ba:List Account} {bi:List Instr} {bb:List Bal} {bl:List Lot} {bn:Int}:FC Tryz.prog 254 [.c (.row 0 0 l.length),.c (.fn 255 [(1,0,0)])] ([ro 103 l,some ⟨false,30,6,.mx [.row 2 0 ba.length,.row 3 0 bi.length,.row 4 0 bb.length,.row 5 0 bl.length,.row 0 0 l.length,.sc (.int .i64 bn)]⟩,ro 42 ba,ro 74 bi,ro 135 bb,ro 137 bl]) (B (dB (∃ x ∈ l,¬ trF ba bi x.Buyer x.Seller x.Paper x.Cash))) ([ro 103 l,some ⟨false,30,6,.mx [.row 2 0 ba.length,.row 3 0 bi.length,.row 4 0 bb.length,.row 5 0 bl.length,.row 0 0 l.length,.sc (.int .i64 bn)]⟩,ro 42 ba,ro 74 bi,ro 135 bb,ro 137 bl]):=by
 refine ay tk 9 [.tmp 4] Tryz.func254 (by kernel_rfl) rfl rfl rfl rfl rfl rfl rfl ?_
 have hn:=cK l (fun x => ¬ trF ba bi x.Buyer x.Seller x.Paper x.Cash)
 repeat' (first
| apply yds;rfl
| apply yd;rfl
| intro _
| refine nv ?_
| apply aj;rfl
| apply zcs;(iterate 10 rfl);exact eE;exact fun _ => rfl;exact fun _ => rfl;rfl;rfl;rfl;rfl
| fail)
 all_goals first
  | exact bG [0,1,2,3,4,5] rfl rfl rfl rfl rfl rfl (by assumption)
  | exact aV [0,1,2,3,4,5] rfl rfl rfl rfl rfl rfl (by assumption)
  | (exfalso;omega)
theorem jn {ba:List Account} {bi:List Instr} {bb:List Bal} {bl:List Lot} {bt:List Trade} {bn:Int}:FC Tryz.prog 151 [bkV 0 ⟨ba,bi,bb,bl,bt,bn⟩] (bkR ⟨ba,bi,bb,bl,bt,bn⟩) (B (dB (ja ba bi bt))) (bkR ⟨ba,bi,bb,bl,bt,bn⟩):=by
 refine ay tk 8 [.tmp 2] Tryz.func151 (by kernel_rfl) rfl rfl rfl rfl rfl rfl rfl ?_
 repeat' (first
| apply yds;rfl
| intro _
| refine nv ?_
| apply ycp;rfl;exact dK;rfl
| fail)
 all_goals first
  | exact aV [0,1,2,3,4] rfl rfl rfl rfl rfl rfl (fun h => by rename_i k;obtain ⟨x,hx,hn⟩:=k;exact hn (h x hx))
  | exact bG [0,1,2,3,4] rfl rfl rfl rfl rfl rfl (fun x hx => Classical.byContradiction fun hn => by rename_i k;exact k ⟨x,hx,hn⟩)
theorem dQ {ba:List Account} {bi:List Instr} {bb:List Bal} {bl:List Lot} {bt:List Trade} {bn:Int}:FC Tryz.prog 38 [bkV 0 ⟨ba,bi,bb,bl,bt,bn⟩] (bkR ⟨ba,bi,bb,bl,bt,bn⟩) (B (dB (BooksOk ⟨ba,bi,bb,bl,bt,bn⟩))) (bkR ⟨ba,bi,bb,bl,bt,bn⟩):=by
 refine ay tk 47 [.tmp 2] Tryz.func38 (by kernel_rfl) rfl rfl rfl rfl rfl rfl rfl ?_
 repeat' (first
| apply yds;rfl
| apply yd;rfl
| intro _
| refine nv ?_
| apply wct rfl
| apply wcf rfl
| apply ycp;rfl;(first | exact jP | exact lI | exact dG | exact oJ | exact lK | exact d5 | exact kU (by assumption) | exact kW (by assumption) (by assumption) | exact jn);rfl
| fail)
 all_goals first
  | exact bG [0,1,2,3,4] rfl rfl rfl rfl rfl rfl ⟨by assumption,by assumption,by assumption,by assumption,by assumption,by assumption,by assumption,by assumption,by assumption⟩
  | exact aV [0,1,2,3,4] rfl rfl rfl rfl rfl rfl (fun h => by obtain ⟨e1,e2,e3,e4,e5,e6,e7,e8,e9⟩:=h;contradiction)
theorem ae {ba:List Account} {bi:List Instr} {bb:List Bal} {bl:List Lot} {bt:List Trade} {bn:Int}:FC Tryz.prog 98 [bkV 0 ⟨ba,bi,bb,bl,bt,bn⟩] (bkR ⟨ba,bi,bb,bl,bt,bn⟩) (B (dB (BooksOk ⟨ba,bi,bb,bl,bt,bn⟩))) (bkR ⟨ba,bi,bb,bl,bt,bn⟩):=by
 refine ay tk 91 [.tmp 2] Tryz.func98 (by kernel_rfl) rfl rfl rfl rfl rfl rfl rfl ?_
 refine cw bt 4 rfl (fun hlt => ?_)
 repeat' (first
| apply yds;rfl
| apply yd;rfl
| intro _
| refine nv ?_
| apply wct rfl
| apply wcf rfl
| apply ycp;rfl;(first | exact bP | exact cg | exact cx | exact bg | exact lX | exact aF | exact pC (by assumption) (by assumption) (by assumption) | exact pD (by assumption) (by assumption) (by assumption) (by assumption));rfl
| fail)
 all_goals first
  | exact aV [0,1,2,3,4] rfl rfl rfl rfl rfl rfl (fun h => by obtain ⟨e1,e2,e3,e4,e5,e6,e7,e8,e9⟩:=h;contradiction)
  | skip
 refine wlp (X:=Int) [1] [0,1,2,3,4,5] (fun i => [(3,I i)]) (fun _ => []) (fun i => 0 ≤ i ∧ i ≤ bt.length ∧ ∀ j:Int,0 ≤ j → j < i → trF ba bi (rd bt j).Buyer (rd bt j).Seller (rd bt j).Paper (rd bt j).Cash) (fun i => (bt.length - i).toNat) 0 ⟨by omega,by omega,fun j h0 h1 => by omega⟩ rfl rfl (fun _ => rfl) (fun _ => rfl) ⟨rfl,rfl,rfl,rfl,rfl,rfl,rfl,rfl⟩ (fun i hi => ?_)
 obtain ⟨h0,hi,hall⟩:=hi
 repeat' (first
| apply yds;rfl
| apply yd;rfl
| intro _
| refine nv ?_
| apply wct rfl
| apply wcf rfl
| apply ah rfl
| apply aj;rfl
| apply yne;rfl
| apply yar;rfl;omega
| apply yix;rfl;omega
| apply yle;rfl;omega
| apply ycq;rfl;(first | exact aM | exact aU);rfl
| fail)
 all_goals first
  | (exfalso;contradiction)
  | exact aV [0,1,2,3,4] rfl rfl rfl rfl rfl rfl (fun h => by
     have h':ja ba bi bt:=h.tR
     obtain ⟨e1,e2,e3,e4⟩:=h' _ (az ⟨h0,by assumption⟩)
     contradiction)
  | exact bG [0,1,2,3,4] rfl rfl rfl rfl rfl rfl ⟨by assumption,by assumption,by assumption,by assumption,by assumption,by assumption,by assumption,by assumption,(all_rd (l:=bt) (p:=fun x:Trade => trF ba bi x.Buyer x.Seller x.Paper x.Cash)).1 (fun j h0 h1 => hall j h0 (by omega))⟩
  | exact aB (i + 1) [0,1,2,3,4,5] ⟨rfl,rfl,rfl,rfl,rfl,rfl,rfl,rfl⟩ ⟨by omega,by omega,ax hall ⟨by assumption,by assumption,by assumption,by assumption⟩⟩ (by first | omega | (dsimp only;omega))
end
section
open Go.RowKit
structure MidB (b:Books):Prop where
 a1:b.Accounts.length ≤ 4194304
 a2:b.Instrs.length ≤ 4194304
 a3:b.Bals.length ≤ 4194304
 a4:b.Lots.length ≤ 4194304
 a5:b.Trades.length ≤ 4194304
theorem Small.midB {b:Books} (h:Small b):MidB b:=⟨by have:=h.a1;omega,by have:=h.a2;omega,by have:=h.a3;omega,by have:=h.a4;omega,by have:=h.a5;omega⟩
theorem BooksOk.midB {b:Books} (h:BooksOk b):MidB b:=⟨by have:=h.acc.2;omega,by have:=h.ins.2;omega,by have:=h.bals.2;omega,by have:=h.lots.1.2;omega,by have:=h.trades.2;omega⟩
def bkE (n:Nat) (b:Books):AV:=.agg [.row n 0 b.Accounts.length,.row (n + 1) 0 b.Instrs.length,.row (n + 2) 0 b.Bals.length,.row (n + 3) 0 b.Lots.length,.row (n + 4) 0 b.Trades.length,.sc (.int .i64 b.Lot)]
def bkW (b:Books):AH:=[ow 42 b.Accounts,ow 74 b.Instrs,ow 135 b.Bals,ow 137 b.Lots,ow 103 b.Trades]
theorem jT {ba:List Account} {bi:List Instr} {bb:List Bal} {bl:List Lot} {bt:List Trade} {bn:Int} (hs:MidB ⟨ba,bi,bb,bl,bt,bn⟩):FC Tryz.prog 96 [bkV 0 ⟨ba,bi,bb,bl,bt,bn⟩] (bkR ⟨ba,bi,bb,bl,bt,bn⟩) (bkV 5 ⟨ba,bi,bb,bl,bt,bn⟩) (bkR ⟨ba,bi,bb,bl,bt,bn⟩ ++ bkO ⟨ba,bi,bb,bl,bt,bn⟩):=by
 refine ay tk 21 [.cell 2 _] Tryz.func96 (by kernel_rfl) rfl rfl rfl rfl rfl rfl rfl ?_
 obtain ⟨h1,h2,h3,h4,h5⟩:=hs
 dsimp only at h1 h2 h3 h4 h5
 repeat' (first
| apply yds;rfl
| refine nv ?_
| refine zdq (id:=1) rfl (by kernel_rfl) [(.p,0),(.p,3),(.p,6),(.p,9),(.p,12),(.p,15),(.t,1),(.t,4),(.t,7),(.t,10),(.t,13),(.t,16),(.o,2),(.o,5),(.o,8),(.o,11),(.o,14),(.p,17),(.l,18)] [18] (by kernel_rfl) rfl ?_
| apply ycf;rfl;(first | exact gz (by omega) | exact iv (by omega) | exact bI (by omega) | exact fb (by omega) | exact iw (by omega));rfl
| fail)
 all_goals exact au [0,1,2,3,4,7,8,9,10,11] rfl rfl rfl rfl rfl rfl
theorem aI {ba:List Account} {bi:List Instr} {bb:List Bal} {bl:List Lot} {bt:List Trade} {bn:Int} (hs:MidB ⟨ba,bi,bb,bl,bt,bn⟩):FC Tryz.prog 102 [bkV 0 ⟨ba,bi,bb,bl,bt,bn⟩] (bkR ⟨ba,bi,bb,bl,bt,bn⟩) (bkV 5 ⟨ba,bi,bb,bl,bt,bn⟩) (bkR ⟨ba,bi,bb,bl,bt,bn⟩ ++ bkO ⟨ba,bi,bb,bl,bt,bn⟩):=by
 refine ay tk 33 [.cell 2 _] Tryz.func102 (by kernel_rfl) rfl rfl rfl rfl rfl rfl rfl ?_
 obtain ⟨h1,h2,h3,h4,h5⟩:=hs
 dsimp only at h1 h2 h3 h4 h5
 repeat' (first
| apply yds;rfl
| refine nv ?_
| apply aH (α:=Account) (e:=42);rfl
| apply aH (α:=Instr) (e:=74);rfl
| apply aH (α:=Bal) (e:=135);rfl
| apply aH (α:=Lot) (e:=137);rfl
| apply aH (α:=Trade) (e:=103);rfl
| apply yap;rfl;(((try simp only [lE,lM]);(try dsimp only);omega))
| fail)
 all_goals exact au [0,1,2,3,4,9,11,13,15,17] rfl rfl rfl rfl rfl rfl
theorem jR {ba:List Account} {bi:List Instr} {bb:List Bal} {bl:List Lot} {bt:List Trade} {bn:Int} {no:Int}:FC Tryz.prog 127 [.c (.ptr 0 0 0),I no] ([bkY 1 ⟨ba,bi,bb,bl,bt,bn⟩] ++ bkR ⟨ba,bi,bb,bl,bt,bn⟩) (I (a9 ba no)) ([bkY 1 ⟨ba,bi,bb,bl,bt,bn⟩] ++ bkR ⟨ba,bi,bb,bl,bt,bn⟩):=by
 refine ay tk 11 [.tmp 4] Tryz.func127 (by kernel_rfl) rfl rfl rfl rfl rfl rfl rfl ?_
 repeat' (first
| apply yds;rfl
| apply yd;rfl
| refine nv ?_
| apply yc;rfl;exact cT;rfl;exact fun _ => rfl
| fail)
 all_goals exact au [0,1,2,3,4,5] rfl rfl rfl rfl rfl rfl
theorem jm {ba:List Account} {bi:List Instr} {bb:List Bal} {bl:List Lot} {bt:List Trade} {bn:Int} {no:Int}:FC Tryz.prog 128 [.c (.ptr 0 0 0),I no] ([bkY 1 ⟨ba,bi,bb,bl,bt,bn⟩] ++ bkR ⟨ba,bi,bb,bl,bt,bn⟩) (I (aa bi no)) ([bkY 1 ⟨ba,bi,bb,bl,bt,bn⟩] ++ bkR ⟨ba,bi,bb,bl,bt,bn⟩):=by
 refine ay tk 11 [.tmp 4] Tryz.func128 (by kernel_rfl) rfl rfl rfl rfl rfl rfl rfl ?_
 repeat' (first
| apply yds;rfl
| apply yd;rfl
| refine nv ?_
| apply yc;rfl;exact cM;rfl;exact fun _ => rfl
| fail)
 all_goals exact au [0,1,2,3,4,5] rfl rfl rfl rfl rfl rfl
theorem il {ba:List Account} {bi:List Instr} {bb:List Bal} {bl:List Lot} {bt:List Trade} {bn:Int} {no:Int}:FC Tryz.prog 126 [.c (.ptr 0 0 0),I no] ([bkY 1 ⟨ba,bi,bb,bl,bt,bn⟩] ++ bkR ⟨ba,bi,bb,bl,bt,bn⟩) (B (dB (aa bi no ≠ 0))) ([bkY 1 ⟨ba,bi,bb,bl,bt,bn⟩] ++ bkR ⟨ba,bi,bb,bl,bt,bn⟩):=by
 refine ay tk 12 [.tmp 4] Tryz.func126 (by kernel_rfl) rfl rfl rfl rfl rfl rfl rfl ?_
 repeat' (first
| apply yds;rfl
| apply yd;rfl
| intro _
| refine nv ?_
| apply yne;rfl
| apply yc;rfl;exact cM;rfl;exact fun _ => rfl
| fail)
 all_goals first | exact bG [0,1,2,3,4,5] rfl rfl rfl rfl rfl rfl (by assumption) | exact aV [0,1,2,3,4,5] rfl rfl rfl rfl rfl rfl (fun k => k (by assumption))
theorem mV {n:Int}:FC Tryz.prog 214 [I n] ([]) (B (dB (¬ ag n))) ([]):=by
 refine ay tk 6 [.tmp 2] Tryz.func214 (by kernel_rfl) rfl rfl rfl rfl rfl rfl rfl ?_
 repeat' (first
| apply yds;rfl
| apply yd;rfl
| intro _
| refine nv ?_
| apply ycp;rfl;exact dx;rfl
| fail)
 all_goals first | exact bG [] rfl rfl rfl rfl rfl rfl (by assumption) | exact aV [] rfl rfl rfl rfl rfl rfl (fun k => k (by assumption))
theorem eV {l:List Int}:FC Tryz.prog 261 [.c (.row 0 0 l.length),.c (.fn 214 [])] ([ro 3 l]) (sel (∃ x ∈ l,¬ ag x) (I (fIx l (fun x => ¬ ag x))) (I (-1))) (sel (∃ x ∈ l,¬ ag x) [ro 3 l] [ro 3 l]):=by
 refine ay tk 19 [.tmp 4] Tryz.func261 (by kernel_rfl) rfl rfl rfl rfl rfl rfl rfl ?_
 refine cw l 0 rfl (fun hl => ?_)
 repeat' (first
| apply yds;rfl
| apply yd;rfl
| refine nv ?_
| fail)
 refine wlp (X:=Int) [0,1,7] [0] (fun i => [(8,I i)]) (fun _ => []) (fun i => 0 ≤ i ∧ i ≤ l.length ∧ ∀ j:Int,0 ≤ j → j < i → ¬ (fun x => ¬ ag x) (rd l j)) (fun i => (l.length - i).toNat) 0 ⟨by omega,by omega,fun j h0 h1 => by omega⟩ rfl rfl (fun _ => rfl) (fun _ => rfl) ⟨rfl,rfl,rfl,rfl,rfl,rfl,rfl,rfl⟩ (fun i hi => ?_)
 obtain ⟨h0,hi,hall⟩:=hi
 skip
 repeat' (first
| apply yds;rfl
| apply yd;rfl
| apply ycp;rfl;exact mV;rfl
| intro _
| refine nv ?_
| apply wct rfl
| apply wcf rfl
| apply ah rfl
| apply aj;rfl
| apply yar;rfl;omega
| apply yix;rfl;omega
| apply yle;rfl;omega
| fail)
 all_goals first
  | (refine fv (X':=I i) (hs':=[ro 3 l]) [0] rfl rfl rfl rfl rfl rfl ?_ ?_
     ·rw [al ⟨rd l i,az ⟨by omega,by omega⟩,by assumption⟩,ii ⟨by omega,by omega⟩ hall (by assumption)]
     ·rw [al ⟨rd l i,az ⟨by omega,by omega⟩,by assumption⟩])
  | exact cD (hJ (by assumption) hall) [0] rfl rfl rfl rfl rfl rfl
  | exact aB (i + 1) [0] ⟨rfl,rfl,rfl,rfl,rfl,rfl,rfl,rfl⟩ ⟨by omega,by omega,ax hall (by assumption)⟩ (by first | omega | (dsimp only;omega))
theorem dR {l:List Int}:FC Tryz.prog 161 [.c (.row 0 0 l.length),.c (.fn 214 [])] ([ro 3 l]) (B (dB (∃ x ∈ l,¬ ag x))) ([ro 3 l]):=by
 refine ay tk 9 [.tmp 4] Tryz.func161 (by kernel_rfl) rfl rfl rfl rfl rfl rfl rfl ?_
 have hn:=cK l (fun x => ¬ ag x)
 repeat' (first
| apply yds;rfl
| apply yd;rfl
| intro _
| refine nv ?_
| apply aj;rfl
| apply zcs;(iterate 10 rfl);exact eV;exact fun _ => rfl;exact fun _ => rfl;rfl;rfl;rfl;rfl
| fail)
 all_goals first
  | exact bG [0] rfl rfl rfl rfl rfl rfl (by assumption)
  | exact aV [0] rfl rfl rfl rfl rfl rfl (by assumption)
  | (exfalso;omega)
theorem kX {l:List Int}:FC Tryz.prog 94 [.c (.row 0 0 l.length)] ([ro 3 l]) (B (dB (∀ x ∈ l,ag x))) ([ro 3 l]):=by
 refine ay tk 6 [.tmp 2] Tryz.func94 (by kernel_rfl) rfl rfl rfl rfl rfl rfl rfl ?_
 repeat' (first
| apply yds;rfl
| apply yd;rfl
| intro _
| refine nv ?_
| apply ycp;rfl;exact dR;rfl
| fail)
 all_goals first | exact bG [0] rfl rfl rfl rfl rfl rfl (fun x hx => Classical.byContradiction fun k => absurd (⟨x,hx,k⟩:∃ x ∈ l,¬ ag x) (by assumption)) | exact aV [0] rfl rfl rfl rfl rfl rfl (fun h => by obtain ⟨x,hx,k⟩:∃ x ∈ l,¬ ag x:=(by assumption);exact k (h x hx))
theorem gH {ba:List Account} {bi:List Instr} {bb:List Bal} {bl:List Lot} {bt:List Trade} {bn:Int} {no:Int}:FC Tryz.prog 201 [bkV 0 ⟨ba,bi,bb,bl,bt,bn⟩,I no] (bkR ⟨ba,bi,bb,bl,bt,bn⟩) (sel (∃ t ∈ bt,t.No = no) (I (fIx bt (fun t => t.No = no))) (I (-1))) (sel (∃ t ∈ bt,t.No = no) (bkR ⟨ba,bi,bb,bl,bt,bn⟩) (bkR ⟨ba,bi,bb,bl,bt,bn⟩)):=by
 refine ay tk 22 [.tmp 4] Tryz.func201 (by kernel_rfl) rfl rfl rfl rfl rfl rfl rfl ?_
 refine cw bt 4 rfl (fun hl => ?_)
 repeat' (first
| apply yds;rfl
| apply yd;rfl
| refine nv ?_
| fail)
 refine wlp (X:=Int) [1,2] [0,1,2,3,4,5] (fun i => [(5,I i)]) (fun _ => []) (fun i => 0 ≤ i ∧ i ≤ bt.length ∧ ∀ j:Int,0 ≤ j → j < i → ¬ (rd bt j).No = no) (fun i => (bt.length - i).toNat) 0 ⟨by omega,by omega,fun j h0 h1 => by omega⟩ rfl rfl (fun _ => rfl) (fun _ => rfl) ⟨rfl,rfl,rfl,rfl,rfl,rfl,rfl,rfl⟩ (fun i hi => ?_)
 obtain ⟨h0,hi,hall⟩:=hi
 repeat' (first
| apply yds;rfl
| apply yd;rfl
| intro _
| refine nv ?_
| apply wct rfl
| apply wcf rfl
| apply ah rfl
| apply aj;rfl
| apply yar;rfl;omega
| apply yix;rfl;omega
| apply yle;rfl;omega
| fail)
 all_goals first
  | (refine fv (X':=I i) (hs':=bkR ⟨ba,bi,bb,bl,bt,bn⟩) [0,1,2,3,4] rfl rfl rfl rfl rfl rfl ?_ ?_
     ·rw [al ⟨rd bt i,az ⟨by omega,by omega⟩,by assumption⟩,ii ⟨by omega,by omega⟩ hall (by assumption)]
     ·rw [al ⟨rd bt i,az ⟨by omega,by omega⟩,by assumption⟩])
  | exact cD (hJ (by assumption) hall) [0,1,2,3,4] rfl rfl rfl rfl rfl rfl
  | exact aB (i + 1) [0,1,2,3,4,5] ⟨rfl,rfl,rfl,rfl,rfl,rfl,rfl,rfl⟩ ⟨by omega,by omega,ax hall (by assumption)⟩ (by first | omega | (dsimp only;omega))
theorem mM {α:Type} {l:List α} {q:α → Prop} (h:∀ x ∈ l,¬ q x):fIx l q = l.length:=by
 unfold fIx
 rw [List.findIdx_eq_length.2 (fun x hx => qc (h x hx))]
noncomputable def jz (l:List Trade) (no:Int):Int:=fIx l (fun t => ¬ t.No < no)
noncomputable def rX (l:List Trade) (x:Trade):List Trade:=ins l (jz l x.No) x
theorem nE (l:List Trade) (no:Int):0 ≤ jz l no ∧ jz l no ≤ l.length:=cK _ _
theorem vj {l:List Trade} {no j:Int} (h0:0 ≤ j) (h:j < jz l no):(rd l j).No < no:=by
 have:=fw h0 h
 omega
theorem wP {l:List Trade} {no:Int} (h:jz l no < l.length):¬ (rd l (jz l no)).No < no:=by
 have hn:=nE l no
 by_cases hx:∃ t ∈ l,¬ t.No < no
 ·exact ig hx
 ·exfalso
  have h1:=mM (l:=l) (q:=fun t => ¬ t.No < no) (fun x hm k => hx ⟨x,hm,k⟩)
  unfold jz at h
  omega
section
variable {P:Program} {T:TB} {ops:Array Oper} {Q:Exit → St → Prop} {h1:AH} {ks:List Sk} {l:List Oper}
theorem ap {N k d n:Nat} {e:List (Nat × AV)} {h h':AH} {cs cs':List AC} (q:Nat) (t sz:Nat) (hz:Nat.blt 0 sz = true) (hx:lk d e = some (.agg cs)) (hq:cs[q]? = some (.sc (.slice none 0 0))) (hh:iC h (some ⟨true,t,sz,.fl []⟩) = some (n,h')) (hc:qe (cs.set q (.row n 0 0)) = some cs') (hn:ZZ P ops Q h1 ks l ⟨N,k,(d,.agg cs') :: e,h'⟩):ZZ P ops Q h1 ks l ⟨N,k,e,h⟩:=by
 obtain ⟨h2,h3⟩:=dA hh
 rw [← iL hc] at hn
 subst h2;subst h3
 exact zw (qg (st:=⟨N,k,e,h⟩) t (Nat.blt_eq.mp hz) hx hq) hn
end
def eD (no bu se pa qt ca pr:Int):Prop:=(∀ x ∈ [no,bu,se,pa,ca],ag x) ∧ inP qt 1 1000000000000000 ∧ inP pr 0 1000000000000000
noncomputable def b6 (b:Books) (no bu se pa qt ca pr:Int):Books × Int :=
 sel (¬ (BooksOk b ∧ eD no bu se pa qt ca pr)) (⟨[],[],[],[],[],0⟩,1)
 (sel (∃ t ∈ b.Trades,t.No = no) (b,2)
 (sel (a9 b.Accounts bu = 0 ∨ a9 b.Accounts se = 0 ∨ aa b.Instrs pa = 0 ∨ aa b.Instrs ca = 0) (b,3)
 (sel (a9 b.Accounts bu ≠ 1 ∨ a9 b.Accounts se ≠ 1 ∨ bu = se ∨ aa b.Instrs pa ≠ 2 ∨ aa b.Instrs ca ≠ 1) (b,4)
 (sel (30 ≤ b.Trades.length) (b,7) ({ b with Trades:=rX b.Trades ⟨no,bu,se,pa,qt,ca,pr,1⟩ },0)))))
section
variable {b:Books} {no bu se pa qt ca pr:Int}
theorem tw (h:¬ (BooksOk b ∧ eD no bu se pa qt ca pr)):b6 b no bu se pa qt ca pr = (⟨[],[],[],[],[],0⟩,1):=by rw [b6,al h]
theorem zy (h:BooksOk b ∧ eD no bu se pa qt ca pr) (h2:∃ t ∈ b.Trades,t.No = no):b6 b no bu se pa qt ca pr = (b,2):=by rw [b6,a8 (fun k => k h),al h2]
theorem zz (h:BooksOk b ∧ eD no bu se pa qt ca pr) (h2:¬ ∃ t ∈ b.Trades,t.No = no) (h3:a9 b.Accounts bu = 0 ∨ a9 b.Accounts se = 0 ∨ aa b.Instrs pa = 0 ∨ aa b.Instrs ca = 0):b6 b no bu se pa qt ca pr = (b,3):=by rw [b6,a8 (fun k => k h),a8 h2,al h3]
theorem zA (h:BooksOk b ∧ eD no bu se pa qt ca pr) (h2:¬ ∃ t ∈ b.Trades,t.No = no) (h3:¬ (a9 b.Accounts bu = 0 ∨ a9 b.Accounts se = 0 ∨ aa b.Instrs pa = 0 ∨ aa b.Instrs ca = 0)) (h4:a9 b.Accounts bu ≠ 1 ∨ a9 b.Accounts se ≠ 1 ∨ bu = se ∨ aa b.Instrs pa ≠ 2 ∨ aa b.Instrs ca ≠ 1):b6 b no bu se pa qt ca pr = (b,4):=by rw [b6,a8 (fun k => k h),a8 h2,a8 h3,al h4]
theorem zC (h:BooksOk b ∧ eD no bu se pa qt ca pr) (h2:¬ ∃ t ∈ b.Trades,t.No = no) (h4:¬ (a9 b.Accounts bu ≠ 1 ∨ a9 b.Accounts se ≠ 1 ∨ bu = se ∨ aa b.Instrs pa ≠ 2 ∨ aa b.Instrs ca ≠ 1)) (h5:30 ≤ b.Trades.length):b6 b no bu se pa qt ca pr = (b,7):=by rw [b6,a8 (fun k => k h),a8 h2,a8 (by omega),a8 h4,al h5]
theorem yJ (h:BooksOk b ∧ eD no bu se pa qt ca pr) (h2:¬ ∃ t ∈ b.Trades,t.No = no) (h4:¬ (a9 b.Accounts bu ≠ 1 ∨ a9 b.Accounts se ≠ 1 ∨ bu = se ∨ aa b.Instrs pa ≠ 2 ∨ aa b.Instrs ca ≠ 1)) (h5:¬ 30 ≤ b.Trades.length) {r:List Trade} (hr:r = rX b.Trades ⟨no,bu,se,pa,qt,ca,pr,1⟩):b6 b no bu se pa qt ca pr = ({ b with Trades:=r },0):=by rw [b6,a8 (fun k => k h),a8 h2,a8 (by omega),a8 h4,a8 h5,hr]
end
end
section
open Go.RowKit Go.Proofs.YtgehbhkfehmdkaaGreatW
theorem zQ {P:Program} {c:Code} {Q:Exit → St → Prop} {st st':St} (g:Ghost st st') (h:WW P c Q st'):WW P c Q st:=⟨fun Γ ρ a w hr => by
 obtain ⟨ρ',hx,hr'⟩:=g Γ ρ a w hr
 exact h.out Γ ρ' a w hr'⟩
end
end Go.Proofs.YtgehbhkfehmdkaaGreat.Sh
