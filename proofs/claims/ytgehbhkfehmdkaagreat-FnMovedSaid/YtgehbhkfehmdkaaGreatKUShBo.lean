/- Books that are right. No condition. -/
import Derived.Test.YtgehbhkfehmdkaaGreatKUShV
import Derived.Test.YtgehbhkfehmdkaaGreatKUShLo
set_option maxRecDepth 100000
set_option maxHeartbeats 40000000
set_option linter.unusedSimpArgs false
set_option linter.unusedVariables false
namespace Go.Proofs.YtgehbhkfehmdkaaGreat.Sh
section
open Go.RowKit
def xl (ba:List Account) (bi:List Instr) (bb:List Bal) (x:Bal):Prop:=a9 ba x.Account ≠ 0 ∧ aa bi x.Instr ≠ 0 ∧ ¬ (a9 ba x.Account = 1 ∧ x.Amount < 0) ∧ bV bb x.Instr = 0
def pl (ba:List Account) (bi:List Instr) (bn:Int) (x:Lot):Prop:=a9 ba x.Account = 1 ∧ aa bi x.Instr = 2 ∧ x.No ≤ bn
def pt (bb:List Bal) (bl:List Lot) (a:Account) (x:Instr):Prop:=a.Kind = 1 → x.Kind = 2 → sQ (ae bl a.No x.No) = aL bb a.No x.No
def trF (ba:List Account) (bi:List Instr) (bu se pa ca:Int):Prop:=a9 ba bu = 1 ∧ a9 ba se = 1 ∧ aa bi pa = 2 ∧ aa bi ca = 1
def uf (ba:List Account) (bi:List Instr) (bb:List Bal):Prop:=∀ x ∈ bb,xl ba bi bb x
def uz (ba:List Account) (bi:List Instr) (bb:List Bal) (bl:List Lot) (bn:Int):Prop:=(∀ x ∈ bl,pl ba bi bn x) ∧ ∀ a ∈ ba,∀ x ∈ bi,pt bb bl a x
def ij (ba:List Account) (bi:List Instr) (bt:List Trade):Prop:=∀ t ∈ bt,trF ba bi t.Buyer t.Seller t.Paper t.Cash
structure BooksOk (b:Books):Prop where
 acc:aU b.Accounts
 ins:bH b.Instrs
 bals:BalsOk b.Bals
 lots:LotsOk b.Lots
 trades:dS b.Trades
 lot:inP b.Lot 0 1000000000
 bR:uf b.Accounts b.Instrs b.Bals
 lR:uz b.Accounts b.Instrs b.Bals b.Lots b.Lot
 tR:ij b.Accounts b.Instrs b.Trades
def bkY (n:Nat):Books → Option AO
 | ⟨a,i,b,l,t,x⟩ => some ⟨false,30,6,.mx [.row n 0 a.length,.row (n + 1) 0 i.length,.row (n + 2) 0 b.length,.row (n + 3) 0 l.length,.row (n + 4) 0 t.length,.sc (.int .i64 x)]⟩
theorem rU {l:List Bal} {c:Int}:FC Tryz.prog 288 [.c (.row 0 0 l.length),I c] ([ro 135 l]) (sel (BalsOk l ∧ aq (bV l c)) (.tup [I (bV l c),B true]) (.tup [I 0,B false])) (sel (BalsOk l ∧ aq (bV l c)) [ro 135 l] [ro 135 l]):=by
 refine ax tk 38 [.tmp 4,.tmp 5] Tryz.func288 (by kernel_rfl) rfl rfl rfl rfl rfl rfl rfl ?_
 refine bX l 0 rfl (fun hl => ?_)
 repeat' (first
| apply yds;rfl
| apply yd;rfl
| refine nv ?_
| fail)
 refine wlp (X:=Int × Int) [0,1] [0] (fun x => [(7,I x.1),(6,I x.2)]) (fun _ => []) (fun x => 0 ≤ x.1 ∧ x.1 ≤ l.length ∧ (0 < x.1 → BalsOk l) ∧ x.2 = bV (pf l x.1) c) (fun x => (l.length - x.1).toNat) (0,0) ⟨by dsimp only;omega,by dsimp only;omega,fun h => absurd h (by dsimp only;omega),rfl⟩ rfl rfl (fun _ => rfl) (fun _ => rfl) ⟨rfl,rfl,rfl,rfl,rfl,rfl,rfl,rfl⟩ (fun x hx => ?_)
 obtain ⟨i,n⟩:=x
 obtain ⟨h0,hi,hok,hn⟩:=hx
 dsimp only at h0 hi hok hn ⊢
 have hb:=fun (hk:BalsOk l) => fY (ma hk c) ⟨h0,hi⟩
 rw [show ao (nP c) (pf l i) = n from hn.symm] at hb
 have hb3:=fun (hk:BalsOk l) (h:i < l.length) (e:(rd l i).Instr = c) => (oL e ▸ ma hk c _ (aA ⟨h0,h⟩):-1000000000000000 ≤ (rd l i).Amount ∧ (rd l i).Amount ≤ 1000000000000000)
 repeat' (first
| apply yds;rfl
| apply yd;rfl
| apply yar;rfl;(have h1:=hb3 (by assumption) (by assumption) (by assumption);have h2:=hb (by assumption);have h3:=(by assumption:BalsOk l).2;omega)
| intro _
| refine nv ?_
| apply wct rfl
| apply wcf rfl
| apply ah rfl
| apply ai;rfl
| apply yar;rfl;omega
| apply yix;rfl;omega
| apply yle;rfl;omega
| apply ycp;rfl;exact da;rfl
| apply yc;rfl;exact ls;rfl;exact fun _ => rfl
| apply zcs;(iterate 10 rfl);exact lu;exact fun _ => rfl;exact fun _ => rfl;rfl;rfl;rfl;rfl
| fail)
 all_goals first
  | (exfalso;contradiction)
  | (rename_i hk h e
     exact aB (i + 1,_) [0] ⟨rfl,rfl,rfl,rfl,rfl,rfl,rfl,rfl⟩ ⟨by dsimp only;omega,by dsimp only;omega,fun _ => by assumption,by dsimp only;rw [jh ⟨h0,by assumption⟩,oL (by assumption),hn]⟩ (by first | omega | (dsimp only;omega)))
  | exact aB (i + 1,_) [0] ⟨rfl,rfl,rfl,rfl,rfl,rfl,rfl,rfl⟩ ⟨by dsimp only;omega,by dsimp only;omega,fun _ => by assumption,by dsimp only;rw [jh ⟨h0,by assumption⟩,qW (by assumption),hn,Int.add_zero]⟩ (by first | omega | (dsimp only;omega))
  | exact bQ (fun h => by first | exact absurd h.1 (by assumption) | (have e:=hn.trans (congrArg (fun x => bV x c) (b6 (by assumption)));have:=h.2;rw [← e] at this;contradiction)) [0] rfl rfl rfl rfl rfl rfl
  | (have e:=hn.trans (congrArg (fun x => bV x c) (b6 (by assumption)))
     rw [← show n = bV l c from e]
     exact iH ⟨by assumption,by assumption⟩ [0] rfl rfl rfl rfl rfl rfl)
theorem p6 {ba:List Account} {bi:List Instr} {bb:List Bal} {bl:List Lot} {bt:List Trade} {bn:Int} (hok:BalsOk bb):FC Tryz.prog 149 [bkV 0 ⟨ba,bi,bb,bl,bt,bn⟩] (bkR ⟨ba,bi,bb,bl,bt,bn⟩) (B (dB (uf ba bi bb))) (bkR ⟨ba,bi,bb,bl,bt,bn⟩):=by
 refine ax tk 46 [.tmp 2] Tryz.func149 (by kernel_rfl) rfl rfl rfl rfl rfl rfl rfl ?_
 have hl:=hok.2
 repeat' (first
| apply yds;rfl
| refine nv ?_
| fail)
 refine wlp (X:=Int) [1,7,8] [0,1,2,3,4,5] (fun i => [(9,I i)]) (fun _ => []) (fun i => 0 ≤ i ∧ i ≤ bb.length ∧ ∀ j:Int,0 ≤ j → j < i → xl ba bi bb (rd bb j)) (fun i => (bb.length - i).toNat) 0 ⟨by omega,by omega,fun j h0 h1 => by omega⟩ rfl rfl (fun _ => rfl) (fun _ => rfl) ⟨rfl,rfl,rfl,rfl,rfl,rfl,rfl,rfl⟩ (fun i hi => ?_)
 obtain ⟨h0,hi,hall⟩:=hi
 repeat' (first
| apply yds;rfl
| apply yd;rfl
| intro _
| refine nv ?_
| apply wct rfl
| apply wcf rfl
| apply ah rfl
| apply ai;rfl
| apply yne;rfl
| apply yar;rfl;omega
| apply yix;rfl;omega
| apply yle;rfl;omega
| apply yc;rfl;(first | exact d7 | exact dw | exact rr (by assumption));rfl;exact fun _ => rfl
| fail)
 all_goals first
  | (exfalso;contradiction)
  | exact b5 [0,1,2,3,4] rfl rfl rfl rfl rfl rfl (fun h => by
     obtain ⟨e1,e2,e3,e4⟩:=h _ (aA ⟨h0,by assumption⟩)
     first | contradiction | exact e3 ⟨by assumption,by assumption⟩)
  | exact bF [0,1,2,3,4] rfl rfl rfl rfl rfl rfl (all_rd.1 (fun j h0 h1 => hall j h0 (by omega)))
  | exact aB (i + 1) [0,1,2,3,4,5] ⟨rfl,rfl,rfl,rfl,rfl,rfl,rfl,rfl⟩ ⟨by omega,by omega,aD hall ⟨by assumption,by assumption,fun e => by first | exact absurd e.1 (by assumption) | exact absurd e.2 (by assumption),by assumption⟩⟩ (by first | omega | (dsimp only;omega))
theorem tS {ba:List Account} {bi:List Instr} {bb:List Bal} {bl:List Lot} {bt:List Trade} {bn:Int} (hAc:aU ba) (hIn:bH bi) (hok:BalsOk bb):FC Tryz.prog 222 [bkV 0 ⟨ba,bi,bb,bl,bt,bn⟩] (bkR ⟨ba,bi,bb,bl,bt,bn⟩) (B (dB (uf ba bi bb))) (bkR ⟨ba,bi,bb,bl,bt,bn⟩):=by
 refine ax tk 58 [.tmp 2] Tryz.func222 (by kernel_rfl) rfl rfl rfl rfl rfl rfl rfl ?_
 have hl:=hok.2
 repeat' (first
| apply yds;rfl
| apply yd;rfl
| refine nv ?_
| fail)
 refine wlp (X:=Int) [1] [0,1,2,3,4,5] (fun i => [(3,I i)]) (fun _ => []) (fun i => 0 ≤ i ∧ i ≤ bb.length ∧ ∀ j:Int,0 ≤ j → j < i → xl ba bi bb (rd bb j)) (fun i => (bb.length - i).toNat) 0 ⟨by omega,by omega,fun j h0 h1 => by omega⟩ rfl rfl (fun _ => rfl) (fun _ => rfl) ⟨rfl,rfl,rfl,rfl,rfl,rfl,rfl,rfl⟩ (fun i hi => ?_)
 obtain ⟨h0,hi,hall⟩:=hi
 repeat' (first
| apply yds;rfl
| apply yd;rfl
| intro _
| refine nv ?_
| apply wct rfl
| apply wcf rfl
| apply ah rfl
| apply ai;rfl
| apply yne;rfl
| apply yar;rfl;omega
| apply yix;rfl;omega
| apply yle;rfl;omega
| apply ycq;rfl;(first | exact aX | exact b8);rfl
| apply zcs;(iterate 10 rfl);exact rU;exact fun _ => rfl;exact fun _ => rfl;rfl;rfl;rfl;rfl
| fail)
 all_goals first
  | (exfalso;contradiction)
  | exact b5 [0,1,2,3,4] rfl rfl rfl rfl rfl rfl (fun h => by
     obtain ⟨e1,e2,e3,e4⟩:=h _ (aA ⟨h0,by assumption⟩)
     first | contradiction | exact e3 ⟨by assumption,by assumption⟩ | (rename_i k;exact k ⟨hok,by rw [e4];unfold aq inP;omega⟩))
  | exact bF [0,1,2,3,4] rfl rfl rfl rfl rfl rfl (all_rd.1 (fun j h0 h1 => hall j h0 (by omega)))
  | exact aB (i + 1) [0,1,2,3,4,5] ⟨rfl,rfl,rfl,rfl,rfl,rfl,rfl,rfl⟩ ⟨by omega,by omega,aD hall ⟨by assumption,by assumption,fun e => by first | exact absurd e.1 (by assumption) | exact absurd e.2 (by assumption),by assumption⟩⟩ (by first | omega | (dsimp only;omega))
theorem p8 {ba:List Account} {bi:List Instr} {bb:List Bal} {bl:List Lot} {bt:List Trade} {bn:Int} (hok:BalsOk bb) (hlo:LotsOk bl):FC Tryz.prog 150 [bkV 0 ⟨ba,bi,bb,bl,bt,bn⟩] (bkR ⟨ba,bi,bb,bl,bt,bn⟩) (B (dB (uz ba bi bb bl bn))) (bkR ⟨ba,bi,bb,bl,bt,bn⟩):=by
 refine ax tk 84 [.tmp 2] Tryz.func150 (by kernel_rfl) rfl rfl rfl rfl rfl rfl rfl ?_
 have hsd:=hok.sd
 have hq:=hlo.q
 have hlq:=hq.len
 refine bX ba 0 rfl (fun hla => ?_)
 refine bX bi 1 rfl (fun hli => ?_)
 repeat' (first
| apply yds;rfl
| refine nv ?_
| fail)
 refine wlp (X:=Int) [1,12,13] [0,1,2,3,4,5] (fun i => [(14,I i)]) (fun _ => []) (fun i => 0 ≤ i ∧ i ≤ bl.length ∧ ∀ j:Int,0 ≤ j → j < i → pl ba bi bn (rd bl j)) (fun i => (bl.length - i).toNat) 0 ⟨by omega,by omega,fun j h0 h1 => by omega⟩ rfl rfl (fun _ => rfl) (fun _ => rfl) ⟨rfl,rfl,rfl,rfl,rfl,rfl,rfl,rfl⟩ (fun i hi => ?_)
 obtain ⟨h0,hi,hall⟩:=hi
 repeat' (first
| apply yds;rfl
| apply yd;rfl
| intro _
| refine nv ?_
| apply wct rfl
| apply wcf rfl
| apply ah rfl
| apply ai;rfl
| apply yne;rfl
| apply yar;rfl;omega
| apply yix;rfl;omega
| apply yle;rfl;omega
| apply yc;rfl;(first | exact d7 | exact dw);rfl;exact fun _ => rfl
| fail)
 all_goals first
  | (exfalso;contradiction)
  | exact b5 [0,1,2,3,4] rfl rfl rfl rfl rfl rfl (fun h => by
     obtain ⟨e1,e2,e3⟩:=h.1 _ (aA ⟨h0,by assumption⟩)
     first | contradiction | omega)
  | exact aB (i + 1) [0,1,2,3,4,5] ⟨rfl,rfl,rfl,rfl,rfl,rfl,rfl,rfl⟩ ⟨by omega,by omega,aD hall ⟨by assumption,by assumption,by omega⟩⟩ (by first | omega | (dsimp only;omega))
  | skip
 have h1:=all_rd.1 (fun j h0 h1 => hall j h0 (by omega))
 clear hall h0 hi
 refine wlp (X:=Int) [1,41,42] [0,1,2,3,4,5] (fun i => [(43,I i)]) (fun _ => []) (fun i => 0 ≤ i ∧ i ≤ ba.length ∧ ∀ j:Int,0 ≤ j → j < i → ∀ x ∈ bi,pt bb bl (rd ba j) x) (fun i => (ba.length - i).toNat) 0 ⟨by omega,by omega,fun j h0 h1 => by omega⟩ rfl rfl (fun _ => rfl) (fun _ => rfl) ⟨rfl,rfl,rfl,rfl,rfl,rfl,rfl,rfl⟩ (fun i hi => ?_)
 obtain ⟨h0,hi,hall⟩:=hi
 repeat' (first
| apply yds;rfl
| apply yd;rfl
| intro _
| refine nv ?_
| apply wct rfl
| apply wcf rfl
| apply ah rfl
| apply ai;rfl
| apply yix;rfl;omega
| apply yle;rfl;omega
| fail)
 ·rename_i hlt
  refine wlp (X:=Int) [1,6,41,42,43,48,49] [0,1,2,3,4,5,6] (fun k => [(50,I k)]) (fun _ => []) (fun k => 0 ≤ k ∧ k ≤ bi.length ∧ ∀ j:Int,0 ≤ j → j < k → pt bb bl (rd ba i) (rd bi j)) (fun k => (bi.length - k).toNat) 0 ⟨by omega,by omega,fun j h0 h1 => by omega⟩ rfl rfl (fun _ => rfl) (fun _ => rfl) ⟨rfl,rfl,rfl,rfl,rfl,rfl,rfl,rfl⟩ (fun k hk => ?_)
  obtain ⟨k0,kk,kall⟩:=hk
  repeat' (first
| apply yds;rfl
| apply yd;rfl
| intro _
| refine nv ?_
| apply wct rfl
| apply wcf rfl
| apply ah rfl
| apply ai;rfl
| apply yne;rfl
| apply yar;rfl;omega
| apply yix;rfl;omega
| apply yle;rfl;omega
| apply yc;rfl;(first | exact cz (by first | assumption | exact LQ.of (by assumption)) | exact jm (by assumption));rfl;exact fun _ => rfl
| apply ycf;rfl;exact dx (by omega);rfl
| fail)
  all_goals first
   | exact aB (k + 1) [0,1,2,3,4,5,6] ⟨rfl,rfl,rfl,rfl,rfl,rfl,rfl,rfl⟩ ⟨by omega,by omega,aD kall (fun e1 e2 => by first | assumption | exact absurd e1 (by assumption) | exact absurd e2 (by assumption))⟩ (by first | omega | (dsimp only;omega))
   | exact b5 [0,1,2,3,4] rfl rfl rfl rfl rfl rfl (fun h => absurd (h.2 _ (aA ⟨h0,hlt⟩) _ (aA ⟨k0,by assumption⟩) (by assumption) (by assumption)) (by assumption))
   | exact aB (i + 1) [0,1,2,3,4,5] ⟨rfl,rfl,rfl,rfl,rfl,rfl,rfl,rfl⟩ ⟨by omega,by omega,aD hall (all_rd.1 (fun j h0 h1 => kall j h0 (by omega)))⟩ (by first | omega | (dsimp only;omega))
 ·exact bF [0,1,2,3,4] rfl rfl rfl rfl rfl rfl ⟨h1,all_rd.1 (fun j h0 h1 => hall j h0 (by omega))⟩
theorem tT {ba:List Account} {bi:List Instr} {bb:List Bal} {bl:List Lot} {bt:List Trade} {bn:Int} (hAc:aU ba) (hIn:bH bi) (hok:BalsOk bb) (hlo:LotsOk bl):FC Tryz.prog 223 [bkV 0 ⟨ba,bi,bb,bl,bt,bn⟩] (bkR ⟨ba,bi,bb,bl,bt,bn⟩) (B (dB (uz ba bi bb bl bn))) (bkR ⟨ba,bi,bb,bl,bt,bn⟩):=by
 refine ax tk 108 [.tmp 2] Tryz.func223 (by kernel_rfl) rfl rfl rfl rfl rfl rfl rfl ?_
 have hsd:=hok.sd
 have hq:=hlo.q
 have hlq:=hq.len
 refine bX ba 0 rfl (fun hla => ?_)
 refine bX bi 1 rfl (fun hli => ?_)
 repeat' (first
| apply yds;rfl
| apply yd;rfl
| refine nv ?_
| fail)
 refine wlp (X:=Int) [1] [0,1,2,3,4,5] (fun i => [(3,I i)]) (fun _ => []) (fun i => 0 ≤ i ∧ i ≤ bl.length ∧ ∀ j:Int,0 ≤ j → j < i → pl ba bi bn (rd bl j)) (fun i => (bl.length - i).toNat) 0 ⟨by omega,by omega,fun j h0 h1 => by omega⟩ rfl rfl (fun _ => rfl) (fun _ => rfl) ⟨rfl,rfl,rfl,rfl,rfl,rfl,rfl,rfl⟩ (fun i hi => ?_)
 obtain ⟨h0,hi,hall⟩:=hi
 repeat' (first
| apply yds;rfl
| apply yd;rfl
| intro _
| refine nv ?_
| apply wct rfl
| apply wcf rfl
| apply ah rfl
| apply ai;rfl
| apply yne;rfl
| apply yar;rfl;omega
| apply yix;rfl;omega
| apply yle;rfl;omega
| apply ycq;rfl;(first | exact aX | exact b8);rfl
| fail)
 all_goals first
  | (exfalso;contradiction)
  | exact b5 [0,1,2,3,4] rfl rfl rfl rfl rfl rfl (fun h => by
     obtain ⟨e1,e2,e3⟩:=h.1 _ (aA ⟨h0,by assumption⟩)
     first | contradiction | omega)
  | exact aB (i + 1) [0,1,2,3,4,5] ⟨rfl,rfl,rfl,rfl,rfl,rfl,rfl,rfl⟩ ⟨by omega,by omega,aD hall ⟨by assumption,by assumption,by omega⟩⟩ (by first | omega | (dsimp only;omega))
  | skip
 have h1:=all_rd.1 (fun j h0 h1 => hall j h0 (by omega))
 clear hall h0 hi
 refine wlp (X:=Int) [1] [0,1,2,3,4,5] (fun i => [(5,I i)]) (fun _ => []) (fun i => 0 ≤ i ∧ i ≤ ba.length ∧ ∀ j:Int,0 ≤ j → j < i → ∀ x ∈ bi,pt bb bl (rd ba j) x) (fun i => (ba.length - i).toNat) 0 ⟨by omega,by omega,fun j h0 h1 => by omega⟩ rfl rfl (fun _ => rfl) (fun _ => rfl) ⟨rfl,rfl,rfl,rfl,rfl,rfl,rfl,rfl⟩ (fun i hi => ?_)
 obtain ⟨h0,hi,hall⟩:=hi
 repeat' (first
| apply yds;rfl
| apply yd;rfl
| intro _
| refine nv ?_
| apply wct rfl
| apply wcf rfl
| apply ah rfl
| apply ai;rfl
| fail)
 ·rename_i hlt
  refine wlp (X:=Int) [1,5] [0,1,2,3,4,5] (fun k => [(6,I k)]) (fun _ => []) (fun k => 0 ≤ k ∧ k ≤ bi.length ∧ ∀ j:Int,0 ≤ j → j < k → pt bb bl (rd ba i) (rd bi j)) (fun k => (bi.length - k).toNat) 0 ⟨by omega,by omega,fun j h0 h1 => by omega⟩ rfl rfl (fun _ => rfl) (fun _ => rfl) ⟨rfl,rfl,rfl,rfl,rfl,rfl,rfl,rfl⟩ (fun k hk => ?_)
  obtain ⟨k0,kk,kall⟩:=hk
  repeat' (first
| apply yds;rfl
| apply yd;rfl
| intro _
| refine nv ?_
| apply wct rfl
| apply wcf rfl
| apply ah rfl
| apply ai;rfl
| apply yne;rfl
| apply yar;rfl;omega
| apply yix;rfl;omega
| apply yle;rfl;omega
| refine zdq (id:=14) rfl (by kernel_rfl) [(.p,0),(.p,2),(.p,4),(.p,8),(.p,10),(.t,1),(.t,3),(.p,5),(.p,6),(.t,7),(.t,9),(.p,11),(.p,12),(.t,13),(.o,14),(.p,15),(.p,16),(.p,17),(.p,18),(.p,19)] [] (by kernel_rfl) rfl ?_
| refine zdq (id:=15) rfl (by kernel_rfl) [(.p,0),(.p,2),(.p,4),(.p,6),(.p,10),(.p,12),(.t,3),(.t,5),(.p,7),(.p,8),(.t,9),(.t,11),(.p,13),(.p,14),(.t,15),(.o,1),(.o,16),(.p,17)] [] (by kernel_rfl) rfl ?_
| apply yc;rfl;(first | exact eu (by first | assumption | exact LQ.of (by assumption)) | exact fK);rfl;exact fun _ => rfl
| apply ycf;rfl;exact bW (by omega);rfl
| fail)
  all_goals first
   | exact aB (k + 1) [0,1,2,3,4,5] ⟨rfl,rfl,rfl,rfl,rfl,rfl,rfl,rfl⟩ ⟨by omega,by omega,aD kall (fun e1 e2 => by first | assumption | exact absurd e1 (by assumption) | exact absurd e2 (by assumption))⟩ (by first | omega | (dsimp only;omega))
   | exact b5 [0,1,2,3,4] rfl rfl rfl rfl rfl rfl (fun h => absurd (h.2 _ (aA ⟨h0,hlt⟩) _ (aA ⟨k0,by assumption⟩) (by assumption) (by assumption)) (by assumption))
   | exact aB (i + 1) [0,1,2,3,4,5] ⟨rfl,rfl,rfl,rfl,rfl,rfl,rfl,rfl⟩ ⟨by omega,by omega,aD hall (all_rd.1 (fun j h0 h1 => kall j h0 (by omega)))⟩ (by first | omega | (dsimp only;omega))
 ·exact bF [0,1,2,3,4] rfl rfl rfl rfl rfl rfl ⟨h1,all_rd.1 (fun j h0 h1 => hall j h0 (by omega))⟩
theorem lN {ba:List Account} {bi:List Instr} {bb:List Bal} {bl:List Lot} {bt:List Trade} {bn:Int} {no bu se pa qt ca pr st:Int}:FC Tryz.prog 255 [.agg [.sc (.int .i64 no),.sc (.int .i64 bu),.sc (.int .i64 se),.sc (.int .i64 pa),.sc (.int .i64 qt),.sc (.int .i64 ca),.sc (.int .i64 pr),.sc (.int .i64 st)],.c (.ptr 0 0 0)] ([bkY 1 ⟨ba,bi,bb,bl,bt,bn⟩] ++ bkR ⟨ba,bi,bb,bl,bt,bn⟩) (B (dB (¬ trF ba bi bu se pa ca))) ([bkY 1 ⟨ba,bi,bb,bl,bt,bn⟩] ++ bkR ⟨ba,bi,bb,bl,bt,bn⟩):=by
 refine ax tk 34 [.tmp 3] Tryz.func255 (by kernel_rfl) rfl rfl rfl rfl rfl rfl rfl ?_
 repeat' (first
| apply yds;rfl
| intro _
| refine nv ?_
| apply yne;rfl
| apply yc;rfl;(first | exact d7 | exact dw);rfl;exact fun _ => rfl
| fail)
 all_goals first
  | exact bF [0,1,2,3,4,5] rfl rfl rfl rfl rfl rfl (fun e => by obtain ⟨e1,e2,e3,e4⟩:=e;contradiction)
  | exact b5 [0,1,2,3,4,5] rfl rfl rfl rfl rfl rfl (fun h => h ⟨by assumption,by assumption,by assumption,by assumption⟩)
theorem il {l:List Trade} {ba:List Account} {bi:List Instr} {bb:List Bal} {bl:List Lot} {bn:Int}:FC Tryz.prog 276 [.c (.row 0 0 l.length),.c (.fn 255 [(1,0,0)])] ([ro 103 l,some ⟨false,30,6,.mx [.row 2 0 ba.length,.row 3 0 bi.length,.row 4 0 bb.length,.row 5 0 bl.length,.row 0 0 l.length,.sc (.int .i64 bn)]⟩,ro 42 ba,ro 74 bi,ro 135 bb,ro 137 bl]) (sel (∃ x ∈ l,¬ trF ba bi x.Buyer x.Seller x.Paper x.Cash) (I (fIx l (fun x => ¬ trF ba bi x.Buyer x.Seller x.Paper x.Cash))) (I (-1))) (sel (∃ x ∈ l,¬ trF ba bi x.Buyer x.Seller x.Paper x.Cash) [ro 103 l,some ⟨false,30,6,.mx [.row 2 0 ba.length,.row 3 0 bi.length,.row 4 0 bb.length,.row 5 0 bl.length,.row 0 0 l.length,.sc (.int .i64 bn)]⟩,ro 42 ba,ro 74 bi,ro 135 bb,ro 137 bl] [ro 103 l,some ⟨false,30,6,.mx [.row 2 0 ba.length,.row 3 0 bi.length,.row 4 0 bb.length,.row 5 0 bl.length,.row 0 0 l.length,.sc (.int .i64 bn)]⟩,ro 42 ba,ro 74 bi,ro 135 bb,ro 137 bl]):=by
 refine ax tk 19 [.tmp 4] Tryz.func276 (by kernel_rfl) rfl rfl rfl rfl rfl rfl rfl ?_
 refine bX l 0 rfl (fun hl => ?_)
 repeat' (first
| apply yds;rfl
| apply yd;rfl
| refine nv ?_
| fail)
 refine wlp (X:=Int) [0,1,7] [0,1,2,3,4,5] (fun i => [(8,I i)]) (fun _ => []) (fun i => 0 ≤ i ∧ i ≤ l.length ∧ ∀ j:Int,0 ≤ j → j < i → ¬ (fun x => ¬ trF ba bi x.Buyer x.Seller x.Paper x.Cash) (rd l j)) (fun i => (l.length - i).toNat) 0 ⟨by omega,by omega,fun j h0 h1 => by omega⟩ rfl rfl (fun _ => rfl) (fun _ => rfl) ⟨rfl,rfl,rfl,rfl,rfl,rfl,rfl,rfl⟩ (fun i hi => ?_)
 obtain ⟨h0,hi,hall⟩:=hi
 skip
 repeat' (first
| apply yds;rfl
| apply yd;rfl
| apply ycp;rfl;exact lN;rfl
| intro _
| refine nv ?_
| apply wct rfl
| apply wcf rfl
| apply ah rfl
| apply ai;rfl
| apply yar;rfl;omega
| apply yix;rfl;omega
| apply yle;rfl;omega
| fail)
 all_goals first
  | (refine dP (X':=I i) (hs':=[ro 103 l,some ⟨false,30,6,.mx [.row 2 0 ba.length,.row 3 0 bi.length,.row 4 0 bb.length,.row 5 0 bl.length,.row 0 0 l.length,.sc (.int .i64 bn)]⟩,ro 42 ba,ro 74 bi,ro 135 bb,ro 137 bl]) [0,1,2,3,4,5] rfl rfl rfl rfl rfl rfl ?_ ?_
     ·rw [au ⟨rd l i,aA ⟨by omega,by omega⟩,by assumption⟩,fD ⟨by omega,by omega⟩ hall (by assumption)]
     ·rw [au ⟨rd l i,aA ⟨by omega,by omega⟩,by assumption⟩])
  | exact bQ (iw (by assumption) hall) [0,1,2,3,4,5] rfl rfl rfl rfl rfl rfl
  | exact aB (i + 1) [0,1,2,3,4,5] ⟨rfl,rfl,rfl,rfl,rfl,rfl,rfl,rfl⟩ ⟨by omega,by omega,aD hall (by assumption)⟩ (by first | omega | (dsimp only;omega))
theorem gm {l:List Trade} {ba:List Account} {bi:List Instr} {bb:List Bal} {bl:List Lot} {bn:Int}:FC Tryz.prog 254 [.c (.row 0 0 l.length),.c (.fn 255 [(1,0,0)])] ([ro 103 l,some ⟨false,30,6,.mx [.row 2 0 ba.length,.row 3 0 bi.length,.row 4 0 bb.length,.row 5 0 bl.length,.row 0 0 l.length,.sc (.int .i64 bn)]⟩,ro 42 ba,ro 74 bi,ro 135 bb,ro 137 bl]) (B (dB (∃ x ∈ l,¬ trF ba bi x.Buyer x.Seller x.Paper x.Cash))) ([ro 103 l,some ⟨false,30,6,.mx [.row 2 0 ba.length,.row 3 0 bi.length,.row 4 0 bb.length,.row 5 0 bl.length,.row 0 0 l.length,.sc (.int .i64 bn)]⟩,ro 42 ba,ro 74 bi,ro 135 bb,ro 137 bl]):=by
 refine ax tk 9 [.tmp 4] Tryz.func254 (by kernel_rfl) rfl rfl rfl rfl rfl rfl rfl ?_
 have hn:=bY l (fun x => ¬ trF ba bi x.Buyer x.Seller x.Paper x.Cash)
 repeat' (first
| apply yds;rfl
| apply yd;rfl
| intro _
| refine nv ?_
| apply ai;rfl
| apply zcs;(iterate 10 rfl);exact il;exact fun _ => rfl;exact fun _ => rfl;rfl;rfl;rfl;rfl
| fail)
 all_goals first
  | exact bF [0,1,2,3,4,5] rfl rfl rfl rfl rfl rfl (by assumption)
  | exact b5 [0,1,2,3,4,5] rfl rfl rfl rfl rfl rfl (by assumption)
  | (exfalso;omega)
theorem nj {ba:List Account} {bi:List Instr} {bb:List Bal} {bl:List Lot} {bt:List Trade} {bn:Int}:FC Tryz.prog 151 [bkV 0 ⟨ba,bi,bb,bl,bt,bn⟩] (bkR ⟨ba,bi,bb,bl,bt,bn⟩) (B (dB (ij ba bi bt))) (bkR ⟨ba,bi,bb,bl,bt,bn⟩):=by
 refine ax tk 8 [.tmp 2] Tryz.func151 (by kernel_rfl) rfl rfl rfl rfl rfl rfl rfl ?_
 repeat' (first
| apply yds;rfl
| intro _
| refine nv ?_
| apply ycp;rfl;exact gm;rfl
| fail)
 all_goals first
  | exact b5 [0,1,2,3,4] rfl rfl rfl rfl rfl rfl (fun h => by rename_i k;obtain ⟨x,hx,hn⟩:=k;exact hn (h x hx))
  | exact bF [0,1,2,3,4] rfl rfl rfl rfl rfl rfl (fun x hx => Classical.byContradiction fun hn => by rename_i k;exact k ⟨x,hx,hn⟩)
theorem aM {ba:List Account} {bi:List Instr} {bb:List Bal} {bl:List Lot} {bt:List Trade} {bn:Int}:FC Tryz.prog 38 [bkV 0 ⟨ba,bi,bb,bl,bt,bn⟩] (bkR ⟨ba,bi,bb,bl,bt,bn⟩) (B (dB (BooksOk ⟨ba,bi,bb,bl,bt,bn⟩))) (bkR ⟨ba,bi,bb,bl,bt,bn⟩):=by
 refine ax tk 47 [.tmp 2] Tryz.func38 (by kernel_rfl) rfl rfl rfl rfl rfl rfl rfl ?_
 repeat' (first
| apply yds;rfl
| apply yd;rfl
| intro _
| refine nv ?_
| apply wct rfl
| apply wcf rfl
| apply ycp;rfl;(first | exact nT | exact pY | exact fT | exact bZ | exact q8 | exact bm | exact p6 (by assumption) | exact p8 (by assumption) (by assumption) | exact nj);rfl
| fail)
 all_goals first
  | exact bF [0,1,2,3,4] rfl rfl rfl rfl rfl rfl ⟨by assumption,by assumption,by assumption,by assumption,by assumption,by assumption,by assumption,by assumption,by assumption⟩
  | exact b5 [0,1,2,3,4] rfl rfl rfl rfl rfl rfl (fun h => by obtain ⟨e1,e2,e3,e4,e5,e6,e7,e8,e9⟩:=h;contradiction)
theorem ap {ba:List Account} {bi:List Instr} {bb:List Bal} {bl:List Lot} {bt:List Trade} {bn:Int}:FC Tryz.prog 98 [bkV 0 ⟨ba,bi,bb,bl,bt,bn⟩] (bkR ⟨ba,bi,bb,bl,bt,bn⟩) (B (dB (BooksOk ⟨ba,bi,bb,bl,bt,bn⟩))) (bkR ⟨ba,bi,bb,bl,bt,bn⟩):=by
 refine ax tk 91 [.tmp 2] Tryz.func98 (by kernel_rfl) rfl rfl rfl rfl rfl rfl rfl ?_
 refine bX bt 4 rfl (fun hlt => ?_)
 repeat' (first
| apply yds;rfl
| apply yd;rfl
| intro _
| refine nv ?_
| apply wct rfl
| apply wcf rfl
| apply ycp;rfl;(first | exact co | exact cW | exact da | exact bB | exact qn | exact aO | exact tS (by assumption) (by assumption) (by assumption) | exact tT (by assumption) (by assumption) (by assumption) (by assumption));rfl
| fail)
 all_goals first
  | exact b5 [0,1,2,3,4] rfl rfl rfl rfl rfl rfl (fun h => by obtain ⟨e1,e2,e3,e4,e5,e6,e7,e8,e9⟩:=h;contradiction)
  | skip
 refine wlp (X:=Int) [1] [0,1,2,3,4,5] (fun i => [(3,I i)]) (fun _ => []) (fun i => 0 ≤ i ∧ i ≤ bt.length ∧ ∀ j:Int,0 ≤ j → j < i → trF ba bi (rd bt j).Buyer (rd bt j).Seller (rd bt j).Paper (rd bt j).Cash) (fun i => (bt.length - i).toNat) 0 ⟨by omega,by omega,fun j h0 h1 => by omega⟩ rfl rfl (fun _ => rfl) (fun _ => rfl) ⟨rfl,rfl,rfl,rfl,rfl,rfl,rfl,rfl⟩ (fun i hi => ?_)
 obtain ⟨h0,hi,hall⟩:=hi
 repeat' (first
| apply yds;rfl
| apply yd;rfl
| intro _
| refine nv ?_
| apply wct rfl
| apply wcf rfl
| apply ah rfl
| apply ai;rfl
| apply yne;rfl
| apply yar;rfl;omega
| apply yix;rfl;omega
| apply yle;rfl;omega
| apply ycq;rfl;(first | exact aX | exact b8);rfl
| fail)
 all_goals first
  | (exfalso;contradiction)
  | exact b5 [0,1,2,3,4] rfl rfl rfl rfl rfl rfl (fun h => by
     have h':ij ba bi bt:=h.tR
     obtain ⟨e1,e2,e3,e4⟩:=h' _ (aA ⟨h0,by assumption⟩)
     contradiction)
  | exact bF [0,1,2,3,4] rfl rfl rfl rfl rfl rfl ⟨by assumption,by assumption,by assumption,by assumption,by assumption,by assumption,by assumption,by assumption,(all_rd (l:=bt) (p:=fun x:Trade => trF ba bi x.Buyer x.Seller x.Paper x.Cash)).1 (fun j h0 h1 => hall j h0 (by omega))⟩
  | exact aB (i + 1) [0,1,2,3,4,5] ⟨rfl,rfl,rfl,rfl,rfl,rfl,rfl,rfl⟩ ⟨by omega,by omega,aD hall ⟨by assumption,by assumption,by assumption,by assumption⟩⟩ (by first | omega | (dsimp only;omega))
end
section
open Go.RowKit
structure MidB (b:Books):Prop where
 a1:b.Accounts.length ≤ 4194304
 a2:b.Instrs.length ≤ 4194304
 a3:b.Bals.length ≤ 4194304
 a4:b.Lots.length ≤ 4194304
 a5:b.Trades.length ≤ 4194304
theorem Small.midB {b:Books} (h:Small b):MidB b:=⟨by have:=h.a1;omega,by have:=h.a2;omega,by have:=h.a3;omega,by have:=h.a4;omega,by have:=h.a5;omega⟩
theorem BooksOk.midB {b:Books} (h:BooksOk b):MidB b:=⟨by have:=h.acc.2;omega,by have:=h.ins.2;omega,by have:=h.bals.2;omega,by have:=h.lots.1.2;omega,by have:=h.trades.2;omega⟩
def bkE (n:Nat) (b:Books):AV:=.agg [.row n 0 b.Accounts.length,.row (n + 1) 0 b.Instrs.length,.row (n + 2) 0 b.Bals.length,.row (n + 3) 0 b.Lots.length,.row (n + 4) 0 b.Trades.length,.sc (.int .i64 b.Lot)]
def bkW (b:Books):AH:=[ow 42 b.Accounts,ow 74 b.Instrs,ow 135 b.Bals,ow 137 b.Lots,ow 103 b.Trades]
theorem bG {ba:List Account} {bi:List Instr} {bb:List Bal} {bl:List Lot} {bt:List Trade} {bn:Int} (hs:MidB ⟨ba,bi,bb,bl,bt,bn⟩):FC Tryz.prog 96 [bkV 0 ⟨ba,bi,bb,bl,bt,bn⟩] (bkR ⟨ba,bi,bb,bl,bt,bn⟩) (bkV 5 ⟨ba,bi,bb,bl,bt,bn⟩) (bkR ⟨ba,bi,bb,bl,bt,bn⟩ ++ bkO ⟨ba,bi,bb,bl,bt,bn⟩):=by
 refine ax tk 21 [.cell 2 _] Tryz.func96 (by kernel_rfl) rfl rfl rfl rfl rfl rfl rfl ?_
 obtain ⟨h1,h2,h3,h4,h5⟩:=hs
 dsimp only at h1 h2 h3 h4 h5
 repeat' (first
| apply yds;rfl
| refine nv ?_
| refine zdq (id:=1) rfl (by kernel_rfl) [(.p,0),(.p,3),(.p,6),(.p,9),(.p,12),(.p,15),(.t,1),(.t,4),(.t,7),(.t,10),(.t,13),(.t,16),(.o,2),(.o,5),(.o,8),(.o,11),(.o,14),(.p,17),(.l,18)] [18] (by kernel_rfl) rfl ?_
| apply ycf;rfl;(first | exact kA (by omega) | exact lX (by omega) | exact bT (by omega) | exact cL (by omega) | exact lY (by omega));rfl
| fail)
 all_goals exact ak [0,1,2,3,4,7,8,9,10,11] rfl rfl rfl rfl rfl rfl
theorem aR {ba:List Account} {bi:List Instr} {bb:List Bal} {bl:List Lot} {bt:List Trade} {bn:Int} (hs:MidB ⟨ba,bi,bb,bl,bt,bn⟩):FC Tryz.prog 102 [bkV 0 ⟨ba,bi,bb,bl,bt,bn⟩] (bkR ⟨ba,bi,bb,bl,bt,bn⟩) (bkV 5 ⟨ba,bi,bb,bl,bt,bn⟩) (bkR ⟨ba,bi,bb,bl,bt,bn⟩ ++ bkO ⟨ba,bi,bb,bl,bt,bn⟩):=by
 refine ax tk 33 [.cell 2 _] Tryz.func102 (by kernel_rfl) rfl rfl rfl rfl rfl rfl rfl ?_
 obtain ⟨h1,h2,h3,h4,h5⟩:=hs
 dsimp only at h1 h2 h3 h4 h5
 repeat' (first
| apply yds;rfl
| refine nv ?_
| apply aH (α:=Account) (e:=42);rfl
| apply aH (α:=Instr) (e:=74);rfl
| apply aH (α:=Bal) (e:=135);rfl
| apply aH (α:=Lot) (e:=137);rfl
| apply aH (α:=Trade) (e:=103);rfl
| apply yap;rfl;(((try simp only [lE,lM]);(try dsimp only);omega))
| fail)
 all_goals exact ak [0,1,2,3,4,9,11,13,15,17] rfl rfl rfl rfl rfl rfl
theorem dh {ba:List Account} {bi:List Instr} {bb:List Bal} {bl:List Lot} {bt:List Trade} {bn:Int} {no:Int}:FC Tryz.prog 127 [.c (.ptr 0 0 0),I no] ([bkY 1 ⟨ba,bi,bb,bl,bt,bn⟩] ++ bkR ⟨ba,bi,bb,bl,bt,bn⟩) (I (a9 ba no)) ([bkY 1 ⟨ba,bi,bb,bl,bt,bn⟩] ++ bkR ⟨ba,bi,bb,bl,bt,bn⟩):=by
 refine ax tk 11 [.tmp 4] Tryz.func127 (by kernel_rfl) rfl rfl rfl rfl rfl rfl rfl ?_
 repeat' (first
| apply yds;rfl
| apply yd;rfl
| refine nv ?_
| apply yc;rfl;exact d7;rfl;exact fun _ => rfl
| fail)
 all_goals exact ak [0,1,2,3,4,5] rfl rfl rfl rfl rfl rfl
theorem d6 {ba:List Account} {bi:List Instr} {bb:List Bal} {bl:List Lot} {bt:List Trade} {bn:Int} {no:Int}:FC Tryz.prog 128 [.c (.ptr 0 0 0),I no] ([bkY 1 ⟨ba,bi,bb,bl,bt,bn⟩] ++ bkR ⟨ba,bi,bb,bl,bt,bn⟩) (I (aa bi no)) ([bkY 1 ⟨ba,bi,bb,bl,bt,bn⟩] ++ bkR ⟨ba,bi,bb,bl,bt,bn⟩):=by
 refine ax tk 11 [.tmp 4] Tryz.func128 (by kernel_rfl) rfl rfl rfl rfl rfl rfl rfl ?_
 repeat' (first
| apply yds;rfl
| apply yd;rfl
| refine nv ?_
| apply yc;rfl;exact dw;rfl;exact fun _ => rfl
| fail)
 all_goals exact ak [0,1,2,3,4,5] rfl rfl rfl rfl rfl rfl
theorem cM {ba:List Account} {bi:List Instr} {bb:List Bal} {bl:List Lot} {bt:List Trade} {bn:Int} {no:Int}:FC Tryz.prog 126 [.c (.ptr 0 0 0),I no] ([bkY 1 ⟨ba,bi,bb,bl,bt,bn⟩] ++ bkR ⟨ba,bi,bb,bl,bt,bn⟩) (B (dB (aa bi no ≠ 0))) ([bkY 1 ⟨ba,bi,bb,bl,bt,bn⟩] ++ bkR ⟨ba,bi,bb,bl,bt,bn⟩):=by
 refine ax tk 12 [.tmp 4] Tryz.func126 (by kernel_rfl) rfl rfl rfl rfl rfl rfl rfl ?_
 repeat' (first
| apply yds;rfl
| apply yd;rfl
| intro _
| refine nv ?_
| apply yne;rfl
| apply yc;rfl;exact dw;rfl;exact fun _ => rfl
| fail)
 all_goals first | exact bF [0,1,2,3,4,5] rfl rfl rfl rfl rfl rfl (by assumption) | exact b5 [0,1,2,3,4,5] rfl rfl rfl rfl rfl rfl (fun k => k (by assumption))
theorem rx {n:Int}:FC Tryz.prog 214 [I n] ([]) (B (dB (¬ aj n))) ([]):=by
 refine ax tk 6 [.tmp 2] Tryz.func214 (by kernel_rfl) rfl rfl rfl rfl rfl rfl rfl ?_
 repeat' (first
| apply yds;rfl
| apply yd;rfl
| intro _
| refine nv ?_
| apply ycp;rfl;exact cQ;rfl
| fail)
 all_goals first | exact bF [] rfl rfl rfl rfl rfl rfl (by assumption) | exact b5 [] rfl rfl rfl rfl rfl rfl (fun k => k (by assumption))
theorem iN {l:List Int}:FC Tryz.prog 261 [.c (.row 0 0 l.length),.c (.fn 214 [])] ([ro 3 l]) (sel (∃ x ∈ l,¬ aj x) (I (fIx l (fun x => ¬ aj x))) (I (-1))) (sel (∃ x ∈ l,¬ aj x) [ro 3 l] [ro 3 l]):=by
 refine ax tk 19 [.tmp 4] Tryz.func261 (by kernel_rfl) rfl rfl rfl rfl rfl rfl rfl ?_
 refine bX l 0 rfl (fun hl => ?_)
 repeat' (first
| apply yds;rfl
| apply yd;rfl
| refine nv ?_
| fail)
 refine wlp (X:=Int) [0,1,7] [0] (fun i => [(8,I i)]) (fun _ => []) (fun i => 0 ≤ i ∧ i ≤ l.length ∧ ∀ j:Int,0 ≤ j → j < i → ¬ (fun x => ¬ aj x) (rd l j)) (fun i => (l.length - i).toNat) 0 ⟨by omega,by omega,fun j h0 h1 => by omega⟩ rfl rfl (fun _ => rfl) (fun _ => rfl) ⟨rfl,rfl,rfl,rfl,rfl,rfl,rfl,rfl⟩ (fun i hi => ?_)
 obtain ⟨h0,hi,hall⟩:=hi
 skip
 repeat' (first
| apply yds;rfl
| apply yd;rfl
| apply ycp;rfl;exact rx;rfl
| intro _
| refine nv ?_
| apply wct rfl
| apply wcf rfl
| apply ah rfl
| apply ai;rfl
| apply yar;rfl;omega
| apply yix;rfl;omega
| apply yle;rfl;omega
| fail)
 all_goals first
  | (refine dP (X':=I i) (hs':=[ro 3 l]) [0] rfl rfl rfl rfl rfl rfl ?_ ?_
     ·rw [au ⟨rd l i,aA ⟨by omega,by omega⟩,by assumption⟩,fD ⟨by omega,by omega⟩ hall (by assumption)]
     ·rw [au ⟨rd l i,aA ⟨by omega,by omega⟩,by assumption⟩])
  | exact bQ (iw (by assumption) hall) [0] rfl rfl rfl rfl rfl rfl
  | exact aB (i + 1) [0] ⟨rfl,rfl,rfl,rfl,rfl,rfl,rfl,rfl⟩ ⟨by omega,by omega,aD hall (by assumption)⟩ (by first | omega | (dsimp only;omega))
theorem gO {l:List Int}:FC Tryz.prog 161 [.c (.row 0 0 l.length),.c (.fn 214 [])] ([ro 3 l]) (B (dB (∃ x ∈ l,¬ aj x))) ([ro 3 l]):=by
 refine ax tk 9 [.tmp 4] Tryz.func161 (by kernel_rfl) rfl rfl rfl rfl rfl rfl rfl ?_
 have hn:=bY l (fun x => ¬ aj x)
 repeat' (first
| apply yds;rfl
| apply yd;rfl
| intro _
| refine nv ?_
| apply ai;rfl
| apply zcs;(iterate 10 rfl);exact iN;exact fun _ => rfl;exact fun _ => rfl;rfl;rfl;rfl;rfl
| fail)
 all_goals first
  | exact bF [0] rfl rfl rfl rfl rfl rfl (by assumption)
  | exact b5 [0] rfl rfl rfl rfl rfl rfl (by assumption)
  | (exfalso;omega)
theorem dy {l:List Int}:FC Tryz.prog 94 [.c (.row 0 0 l.length)] ([ro 3 l]) (B (dB (∀ x ∈ l,aj x))) ([ro 3 l]):=by
 refine ax tk 6 [.tmp 2] Tryz.func94 (by kernel_rfl) rfl rfl rfl rfl rfl rfl rfl ?_
 repeat' (first
| apply yds;rfl
| apply yd;rfl
| intro _
| refine nv ?_
| apply ycp;rfl;exact gO;rfl
| fail)
 all_goals first | exact bF [0] rfl rfl rfl rfl rfl rfl (fun x hx => Classical.byContradiction fun k => absurd (⟨x,hx,k⟩:∃ x ∈ l,¬ aj x) (by assumption)) | exact b5 [0] rfl rfl rfl rfl rfl rfl (fun h => by obtain ⟨x,hx,k⟩:∃ x ∈ l,¬ aj x:=(by assumption);exact k (h x hx))
theorem p9 {no bu se pa qt ca pr st u:Int}:FC Tryz.prog 277 [.agg [.sc (.int .i64 no),.sc (.int .i64 bu),.sc (.int .i64 se),.sc (.int .i64 pa),.sc (.int .i64 qt),.sc (.int .i64 ca),.sc (.int .i64 pr),.sc (.int .i64 st)],.c (.ptr 0 0 0)] ([vI u]) (B (dB (no = u))) ([vI u]):=by
 refine ax tk 8 [.tmp 3] Tryz.func277 (by kernel_rfl) rfl rfl rfl rfl rfl rfl rfl ?_
 repeat' (first
| apply yds;rfl
| apply yd;rfl
| intro _
| refine nv ?_
| apply yeq;rfl
| fail)
 all_goals first | exact bF [0] rfl rfl rfl rfl rfl rfl (by assumption) | exact b5 [0] rfl rfl rfl rfl rfl rfl (by assumption)
theorem ik {l:List Trade} {no:Int}:FC Tryz.prog 276 [.c (.row 0 0 l.length),.c (.fn 277 [(1,0,0)])] ([ro 103 l,vI no]) (sel (∃ x ∈ l,x.No = no) (I (fIx l (fun x => x.No = no))) (I (-1))) (sel (∃ x ∈ l,x.No = no) [ro 103 l,vI no] [ro 103 l,vI no]):=by
 refine ax tk 19 [.tmp 4] Tryz.func276 (by kernel_rfl) rfl rfl rfl rfl rfl rfl rfl ?_
 refine bX l 0 rfl (fun hl => ?_)
 repeat' (first
| apply yds;rfl
| apply yd;rfl
| refine nv ?_
| fail)
 refine wlp (X:=Int) [0,1,7] [0,1] (fun i => [(8,I i)]) (fun _ => []) (fun i => 0 ≤ i ∧ i ≤ l.length ∧ ∀ j:Int,0 ≤ j → j < i → ¬ (fun x => x.No = no) (rd l j)) (fun i => (l.length - i).toNat) 0 ⟨by omega,by omega,fun j h0 h1 => by omega⟩ rfl rfl (fun _ => rfl) (fun _ => rfl) ⟨rfl,rfl,rfl,rfl,rfl,rfl,rfl,rfl⟩ (fun i hi => ?_)
 obtain ⟨h0,hi,hall⟩:=hi
 skip
 repeat' (first
| apply yds;rfl
| apply yd;rfl
| apply ycp;rfl;exact p9;rfl
| intro _
| refine nv ?_
| apply wct rfl
| apply wcf rfl
| apply ah rfl
| apply ai;rfl
| apply yar;rfl;omega
| apply yix;rfl;omega
| apply yle;rfl;omega
| fail)
 all_goals first
  | (refine dP (X':=I i) (hs':=[ro 103 l,vI no]) [0,1] rfl rfl rfl rfl rfl rfl ?_ ?_
     ·rw [au ⟨rd l i,aA ⟨by omega,by omega⟩,by assumption⟩,fD ⟨by omega,by omega⟩ hall (by assumption)]
     ·rw [au ⟨rd l i,aA ⟨by omega,by omega⟩,by assumption⟩])
  | exact bQ (iw (by assumption) hall) [0,1] rfl rfl rfl rfl rfl rfl
  | exact aB (i + 1) [0,1] ⟨rfl,rfl,rfl,rfl,rfl,rfl,rfl,rfl⟩ ⟨by omega,by omega,aD hall (by assumption)⟩ (by first | omega | (dsimp only;omega))
theorem eF {ba:List Account} {bi:List Instr} {bb:List Bal} {bl:List Lot} {bt:List Trade} {bn:Int} {no:Int}:FC Tryz.prog 202 [bkV 0 ⟨ba,bi,bb,bl,bt,bn⟩,I no] (bkR ⟨ba,bi,bb,bl,bt,bn⟩) (sel (∃ t ∈ bt,t.No = no) (I (fIx bt (fun t => t.No = no))) (I (-1))) (sel (∃ t ∈ bt,t.No = no) (bkR ⟨ba,bi,bb,bl,bt,bn⟩) (bkR ⟨ba,bi,bb,bl,bt,bn⟩)):=by
 refine ax tk 9 [.tmp 4] Tryz.func202 (by kernel_rfl) rfl rfl rfl rfl rfl rfl rfl ?_
 repeat' (first
| apply yds;rfl
| apply yd;rfl
| intro _
| refine nv ?_
| apply zcs;(iterate 10 rfl);exact ik;exact fun _ => rfl;exact fun _ => rfl;rfl;rfl;rfl;rfl
| fail)
 all_goals first | exact iH (by assumption) [0,1,2,3,4] rfl rfl rfl rfl rfl rfl | exact bQ (by assumption) [0,1,2,3,4] rfl rfl rfl rfl rfl rfl
theorem fX {ba:List Account} {bi:List Instr} {bb:List Bal} {bl:List Lot} {bt:List Trade} {bn:Int} {no:Int}:FC Tryz.prog 201 [bkV 0 ⟨ba,bi,bb,bl,bt,bn⟩,I no] (bkR ⟨ba,bi,bb,bl,bt,bn⟩) (sel (∃ t ∈ bt,t.No = no) (I (fIx bt (fun t => t.No = no))) (I (-1))) (sel (∃ t ∈ bt,t.No = no) (bkR ⟨ba,bi,bb,bl,bt,bn⟩) (bkR ⟨ba,bi,bb,bl,bt,bn⟩)):=by
 refine ax tk 22 [.tmp 4] Tryz.func201 (by kernel_rfl) rfl rfl rfl rfl rfl rfl rfl ?_
 refine bX bt 4 rfl (fun hl => ?_)
 repeat' (first
| apply yds;rfl
| apply yd;rfl
| refine nv ?_
| fail)
 refine wlp (X:=Int) [1,2] [0,1,2,3,4,5] (fun i => [(5,I i)]) (fun _ => []) (fun i => 0 ≤ i ∧ i ≤ bt.length ∧ ∀ j:Int,0 ≤ j → j < i → ¬ (rd bt j).No = no) (fun i => (bt.length - i).toNat) 0 ⟨by omega,by omega,fun j h0 h1 => by omega⟩ rfl rfl (fun _ => rfl) (fun _ => rfl) ⟨rfl,rfl,rfl,rfl,rfl,rfl,rfl,rfl⟩ (fun i hi => ?_)
 obtain ⟨h0,hi,hall⟩:=hi
 repeat' (first
| apply yds;rfl
| apply yd;rfl
| intro _
| refine nv ?_
| apply wct rfl
| apply wcf rfl
| apply ah rfl
| apply ai;rfl
| apply yar;rfl;omega
| apply yix;rfl;omega
| apply yle;rfl;omega
| fail)
 all_goals first
  | (refine dP (X':=I i) (hs':=bkR ⟨ba,bi,bb,bl,bt,bn⟩) [0,1,2,3,4] rfl rfl rfl rfl rfl rfl ?_ ?_
     ·rw [au ⟨rd bt i,aA ⟨by omega,by omega⟩,by assumption⟩,fD ⟨by omega,by omega⟩ hall (by assumption)]
     ·rw [au ⟨rd bt i,aA ⟨by omega,by omega⟩,by assumption⟩])
  | exact bQ (iw (by assumption) hall) [0,1,2,3,4] rfl rfl rfl rfl rfl rfl
  | exact aB (i + 1) [0,1,2,3,4,5] ⟨rfl,rfl,rfl,rfl,rfl,rfl,rfl,rfl⟩ ⟨by omega,by omega,aD hall (by assumption)⟩ (by first | omega | (dsimp only;omega))
theorem ri {α:Type} {l:List α} {q:α → Prop} (h:∀ x ∈ l,¬ q x):fIx l q = l.length:=by
 unfold fIx
 rw [List.findIdx_eq_length.2 (fun x hx => rf (h x hx))]
noncomputable def dR (l:List Trade) (no:Int):Int:=fIx l (fun t => ¬ t.No < no)
noncomputable def fv (l:List Trade) (x:Trade):List Trade:=ins l (dR l x.No) x
theorem l5 (l:List Trade) (no:Int):0 ≤ dR l no ∧ dR l no ≤ l.length:=bY _ _
theorem pM {l:List Trade} {no j:Int} (h0:0 ≤ j) (h:j < dR l no):(rd l j).No < no:=by
 have:=ir h0 h
 omega
theorem rZ {l:List Trade} {no:Int} (h:dR l no < l.length):¬ (rd l (dR l no)).No < no:=by
 have hn:=l5 l no
 by_cases hx:∃ t ∈ l,¬ t.No < no
 ·exact kf hx
 ·exfalso
  have h1:=ri (l:=l) (q:=fun t => ¬ t.No < no) (fun x hm k => hx ⟨x,hm,k⟩)
  unfold dR at h
  omega
section
variable {P:Program} {T:TB} {ops:Array Oper} {Q:Exit → St → Prop} {h1:AH} {ks:List Sk} {l:List Oper}
theorem al {N k d n:Nat} {e:List (Nat × AV)} {h h':AH} {cs cs':List AC} (q:Nat) (t sz:Nat) (hz:Nat.blt 0 sz = true) (hx:lk d e = some (.agg cs)) (hq:cs[q]? = some (.sc (.slice none 0 0))) (hh:m9 h (some ⟨true,t,sz,.fl []⟩) = some (n,h')) (hc:uk (cs.set q (.row n 0 0)) = some cs') (hn:ZZ P ops Q h1 ks l ⟨N,k,(d,.agg cs') :: e,h'⟩):ZZ P ops Q h1 ks l ⟨N,k,e,h⟩:=by
 obtain ⟨h2,h3⟩:=fO hh
 rw [← me hc] at hn
 subst h2;subst h3
 exact CZ (um (st:=⟨N,k,e,h⟩) t (Nat.blt_eq.mp hz) hx hq) hn
end
def fN (no bu se pa qt ca pr:Int):Prop:=(∀ x ∈ [no,bu,se,pa,ca],aj x) ∧ inP qt 1 1000000000000000 ∧ inP pr 0 1000000000000000
noncomputable def a8 (b:Books) (no bu se pa qt ca pr:Int):Books × Int :=
 sel (¬ (BooksOk b ∧ fN no bu se pa qt ca pr)) (⟨[],[],[],[],[],0⟩,1)
 (sel (∃ t ∈ b.Trades,t.No = no) (b,2)
 (sel (a9 b.Accounts bu = 0 ∨ a9 b.Accounts se = 0 ∨ aa b.Instrs pa = 0 ∨ aa b.Instrs ca = 0) (b,3)
 (sel (a9 b.Accounts bu ≠ 1 ∨ a9 b.Accounts se ≠ 1 ∨ bu = se ∨ aa b.Instrs pa ≠ 2 ∨ aa b.Instrs ca ≠ 1) (b,4)
 (sel (30 ≤ b.Trades.length) (b,7) ({ b with Trades:=fv b.Trades ⟨no,bu,se,pa,qt,ca,pr,1⟩ },0)))))
section
variable {b:Books} {no bu se pa qt ca pr:Int}
theorem rc (h:¬ (BooksOk b ∧ fN no bu se pa qt ca pr)):a8 b no bu se pa qt ca pr = (⟨[],[],[],[],[],0⟩,1):=by rw [a8,au h]
theorem zC (h:BooksOk b ∧ fN no bu se pa qt ca pr) (h2:∃ t ∈ b.Trades,t.No = no):a8 b no bu se pa qt ca pr = (b,2):=by rw [a8,ab (fun k => k h),au h2]
theorem Bg (h:BooksOk b ∧ fN no bu se pa qt ca pr) (h2:¬ ∃ t ∈ b.Trades,t.No = no) (h3:a9 b.Accounts bu = 0 ∨ a9 b.Accounts se = 0 ∨ aa b.Instrs pa = 0 ∨ aa b.Instrs ca = 0):a8 b no bu se pa qt ca pr = (b,3):=by rw [a8,ab (fun k => k h),ab h2,au h3]
theorem Bh (h:BooksOk b ∧ fN no bu se pa qt ca pr) (h2:¬ ∃ t ∈ b.Trades,t.No = no) (h3:¬ (a9 b.Accounts bu = 0 ∨ a9 b.Accounts se = 0 ∨ aa b.Instrs pa = 0 ∨ aa b.Instrs ca = 0)) (h4:a9 b.Accounts bu ≠ 1 ∨ a9 b.Accounts se ≠ 1 ∨ bu = se ∨ aa b.Instrs pa ≠ 2 ∨ aa b.Instrs ca ≠ 1):a8 b no bu se pa qt ca pr = (b,4):=by rw [a8,ab (fun k => k h),ab h2,ab h3,au h4]
theorem Bi (h:BooksOk b ∧ fN no bu se pa qt ca pr) (h2:¬ ∃ t ∈ b.Trades,t.No = no) (h4:¬ (a9 b.Accounts bu ≠ 1 ∨ a9 b.Accounts se ≠ 1 ∨ bu = se ∨ aa b.Instrs pa ≠ 2 ∨ aa b.Instrs ca ≠ 1)) (h5:30 ≤ b.Trades.length):a8 b no bu se pa qt ca pr = (b,7):=by rw [a8,ab (fun k => k h),ab h2,ab (by omega),ab h4,au h5]
theorem zA (h:BooksOk b ∧ fN no bu se pa qt ca pr) (h2:¬ ∃ t ∈ b.Trades,t.No = no) (h4:¬ (a9 b.Accounts bu ≠ 1 ∨ a9 b.Accounts se ≠ 1 ∨ bu = se ∨ aa b.Instrs pa ≠ 2 ∨ aa b.Instrs ca ≠ 1)) (h5:¬ 30 ≤ b.Trades.length) {r:List Trade} (hr:r = fv b.Trades ⟨no,bu,se,pa,qt,ca,pr,1⟩):a8 b no bu se pa qt ca pr = ({ b with Trades:=r },0):=by rw [a8,ab (fun k => k h),ab h2,ab (by omega),ab h4,ab h5,hr]
end
theorem kh {ba:List Account} {bi:List Instr} {bb:List Bal} {bl:List Lot} {bt:List Trade} {bn:Int} {no bu se pa qt ca pr:Int}:FC Tryz.prog 76 [bkV 0 ⟨ba,bi,bb,bl,bt,bn⟩,I no,I bu,I se,I pa,I qt,I ca,I pr] (bkR ⟨ba,bi,bb,bl,bt,bn⟩) (.tup [bkE 5 (a8 ⟨ba,bi,bb,bl,bt,bn⟩ no bu se pa qt ca pr).1,I (a8 ⟨ba,bi,bb,bl,bt,bn⟩ no bu se pa qt ca pr).2]) (bkR ⟨ba,bi,bb,bl,bt,bn⟩ ++ bkW (a8 ⟨ba,bi,bb,bl,bt,bn⟩ no bu se pa qt ca pr).1):=by
 refine ax tk 135 [.cell 16 _,.tmp 17] Tryz.func76 (by kernel_rfl) rfl rfl rfl rfl rfl rfl rfl ?_
 refine bX bt 4 rfl (fun hl => ?_)
 have hnn:=bY bt (fun t => t.No = no)
 repeat' (first
| apply al (d:=43) 0 42 2;rfl;rfl;rfl;rfl;rfl
| apply al (d:=43) 1 74 2;rfl;rfl;rfl;rfl;rfl
| apply al (d:=43) 2 135 3;rfl;rfl;rfl;rfl;rfl
| apply al (d:=43) 3 137 5;rfl;rfl;rfl;rfl;rfl
| apply al (d:=43) 4 103 8;rfl;rfl;rfl;rfl;rfl
| apply yd;rfl
| intro _
| refine nv ?_
| apply wct rfl
| apply wcf rfl
| apply ai;rfl
| apply yne;rfl
| apply aH (α:=Int) (e:=3);rfl
| apply ycp;rfl;(first | exact aM | exact dy | exact bm | exact cM);rfl
| apply ycf;rfl;exact bG (by exact BooksOk.midB (by assumption));rfl
| apply zcs;(iterate 10 rfl);exact eF;exact fun _ => rfl;exact fun _ => rfl;rfl;rfl;rfl;rfl
| apply yc;rfl;(first | exact dh | exact d6);rfl;exact fun _ => rfl
| fail)
 all_goals first
  | (exfalso;omega)
  | (rw [rc (b:=⟨ba,bi,bb,bl,bt,bn⟩) (fun h => by obtain ⟨h1,h2,h3,h4⟩:=h;first | exact absurd h1 (by assumption) | exact absurd h2 (by assumption) | exact absurd h3 (by assumption) | exact absurd h4 (by assumption))]
     first | exact ak [0,1,2,3,4,7,8,9,10,11] rfl rfl rfl rfl rfl rfl | exact ak [0,1,2,3,4,8,9,10,11,12] rfl rfl rfl rfl rfl rfl)
  | (have hk:∃ t ∈ bt,t.No = no:=by assumption
     rw [zC (b:=⟨ba,bi,bb,bl,bt,bn⟩) ⟨by assumption,by assumption,by assumption,by assumption⟩ hk]
     exact ak [0,1,2,3,4,8,9,10,11,12] rfl rfl rfl rfl rfl rfl)
  | (rw [Bg (b:=⟨ba,bi,bb,bl,bt,bn⟩) ⟨by assumption,by assumption,by assumption,by assumption⟩ (by assumption) (by dsimp only;omega)]
     exact ak [0,1,2,3,4,8,9,10,11,12] rfl rfl rfl rfl rfl rfl)
  | (rw [Bh (b:=⟨ba,bi,bb,bl,bt,bn⟩) ⟨by assumption,by assumption,by assumption,by assumption⟩ (by assumption) (by dsimp only;omega) (by dsimp only;omega)]
     exact ak [0,1,2,3,4,8,9,10,11,12] rfl rfl rfl rfl rfl rfl)
  | (rw [Bi (b:=⟨ba,bi,bb,bl,bt,bn⟩) ⟨by assumption,by assumption,by assumption,by assumption⟩ (by assumption) (by dsimp only;omega) (by dsimp only;omega)]
     exact ak [0,1,2,3,4,8,9,10,11,12] rfl rfl rfl rfl rfl rfl)
  | skip
 have hi2:=l5 bt no
 refine wlp (X:=Int) [1,2,3,4,5,6,7,8,16,18] [0,1,2,3,4,5,6,7,8,9,10,11,12,13] (fun i => [(19,I i)]) (fun _ => []) (fun i => 0 ≤ i ∧ i ≤ dR bt no) (fun i => (bt.length - i).toNat) 0 ⟨by omega,by omega⟩ rfl rfl (fun _ => rfl) (fun _ => rfl) ⟨rfl,rfl,rfl,rfl,rfl,rfl,rfl,rfl⟩ (fun i hi => ?_)
 obtain ⟨h0,hi⟩:=hi
 have hb:=fun h => pM (l:=bt) (no:=no) h0 h
 have ha:=rZ (l:=bt) (no:=no)
 repeat' (first
| apply yds;rfl
| apply yd;rfl
| intro _
| refine nv ?_
| apply wct rfl
| apply wcf rfl
| apply ah rfl
| apply ai;rfl
| apply yar;rfl;omega
| apply yix;rfl;omega
| apply yle;rfl;omega
| apply aH (α:=Trade) (e:=103);rfl
| apply ycw  [true,true];rfl;exact l8 (by omega) (by omega);rfl
| fail)
 all_goals first
  | (have e:i = dR bt no:=by omega
     rw [zA (b:=⟨ba,bi,bb,bl,bt,bn⟩) (r:=ins bt i ⟨no,bu,se,pa,qt,ca,pr,1⟩) ⟨by assumption,by assumption,by assumption,by assumption⟩ (by assumption) (by dsimp only;omega) (by dsimp only;omega) (by rw [e];rfl)]
     exact ak [0,1,2,3,4,8,9,10,11,15] rfl rfl rfl rfl rfl rfl)
  | exact aB (i + 1) [0,1,2,3,4,5,6,7,8,9,10,11,12,13] ⟨rfl,rfl,rfl,rfl,rfl,rfl,rfl,rfl⟩ ⟨by omega,by have e:i ≠ dR bt no:=fun e => ha (by omega) (e ▸ (by assumption));omega⟩ (by first | omega | (dsimp only;omega))
end
section
open Go.RowKit Go.Proofs.YtgehbhkfehmdkaaGreatW
theorem De {P:Program} {c:Code} {Q:Exit → St → Prop} {st st':St} (g:Ghost st st') (h:WW P c Q st'):WW P c Q st:=⟨fun Γ ρ a w hr => by
 obtain ⟨ρ',hx,hr'⟩:=g Γ ρ a w hr
 exact h.out Γ ρ' a w hr'⟩
end
end Go.Proofs.YtgehbhkfehmdkaaGreat.Sh
