/- The laws' own functions uf books. No condition. -/
import Derived.Test.YtgehbhkfehmdkaaGreatKCeShV
import Derived.Test.YtgehbhkfehmdkaaGreatKCeShY
import Derived.Test.YtgehbhkfehmdkaaGreatKCeShLo
set_option maxRecDepth 100000
set_option maxHeartbeats 40000000
set_option linter.unusedSimpArgs false
set_option linter.unusedVariables false
namespace Go.Proofs.YtgehbhkfehmdkaaGreat.Sh
section
open Go.RowKit
structure Books where
 Accounts:List Account
 Instrs:List Instr
 Bals:List Bal
 Lots:List Lot
 Trades:List Trade
 Lot:Int
def bkV (n:Nat):Books → AV
 | ⟨a,i,b,l,t,x⟩ => .agg [.row n 0 a.length,.row (n + 1) 0 i.length,.row (n + 2) 0 b.length,.row (n + 3) 0 l.length,.row (n + 4) 0 t.length,.sc (.int .i64 x)]
def bkR:Books → AH
 | ⟨a,i,b,l,t,_⟩ => [ro 42 a,ro 74 i,ro 135 b,ro 137 l,ro 103 t]
def bkO:Books → AH
 | ⟨a,i,b,l,t,_⟩ => [ow 42 a,ow 74 i,ow 135 b,ow 137 l,ow 103 t]
def bkL:Books → AH
 | ⟨a,i,b,l,t,_⟩ => [ro 245 a,ro 247 i,ro 249 b,ro 251 l,ro 253 t]
structure Small (b:Books):Prop where
 a1:b.Accounts.length ≤ 1048576
 a2:b.Instrs.length ≤ 1048576
 a3:b.Bals.length ≤ 1048576
 a4:b.Lots.length ≤ 1048576
 a5:b.Trades.length ≤ 1048576
theorem eh {ba:List Account} {bi:List Instr} {bb:List Bal} {bl:List Lot} {bt:List Trade} {bn:Int} (hs:Small ⟨ba,bi,bb,bl,bt,bn⟩):FC Tryz.prog 63 [bkV 0 ⟨ba,bi,bb,bl,bt,bn⟩] (bkL ⟨ba,bi,bb,bl,bt,bn⟩) (bkV 5 ⟨ba,bi,bb,bl,bt,bn⟩) (bkL ⟨ba,bi,bb,bl,bt,bn⟩ ++ bkO ⟨ba,bi,bb,bl,bt,bn⟩):=by
 refine al tk 28 [.cell 2 _] Tryz.func63 (by kernel_rfl) rfl rfl rfl rfl rfl rfl rfl ?_
 obtain ⟨h1,h2,h3,h4,h5⟩:=hs
 dsimp only at h1 h2 h3 h4 h5
 repeat' (first
| apply yds;rfl
| apply yd;rfl
| refine nv ?_
| apply ycf;rfl;(first | exact mG (by omega) | exact pc (by omega) | exact sL (by omega) | exact sN (by omega) | exact pd (by omega));rfl
| fail)
 all_goals exact ai [0,1,2,3,4,8,9,10,11,12] rfl rfl rfl rfl rfl rfl
def mL (left:Int):Books → Int
 | ⟨a,i,b,l,t,_⟩ =>
   if szN left a.length < 0 then -1
   else if szN (szN left a.length) i.length < 0 then -1
   else if szN (szN (szN left a.length) i.length) b.length < 0 then -1
   else if szN (szN (szN (szN left a.length) i.length) b.length) l.length < 0 then -1
   else if szN (szN (szN (szN (szN left a.length) i.length) b.length) l.length) t.length < 0 then -1
   else szN (szN (szN (szN (szN left a.length) i.length) b.length) l.length) t.length
theorem oH {x:Int} {n:Nat} (h:0 ≤ x):szN x n ≤ x ∧ (¬ szN x n < 0 → szN x n = x - n):=by
 unfold szN
 split <;> omega
theorem tp {left:Int} {a:List Account} {i:List Instr} {b:List Bal} {l:List Lot} {t:List Trade} {x:Int} (h:0 ≤ left ∧ left ≤ 1048576) (hn:¬ mL left ⟨a,i,b,l,t,x⟩ < 0):(0 ≤ mL left ⟨a,i,b,l,t,x⟩ ∧ mL left ⟨a,i,b,l,t,x⟩ ≤ 1048576) ∧ Small ⟨a,i,b,l,t,x⟩:=by
 simp only [mL] at *
 split at hn
 ·omega
 rename_i n1
 split at hn
 ·omega
 rename_i n2
 split at hn
 ·omega
 rename_i n3
 split at hn
 ·omega
 rename_i n4
 split at hn
 ·omega
 rename_i n5
 rw [if_neg n1,if_neg n2,if_neg n3,if_neg n4,if_neg n5]
 have q1:=oH (x:=left) (n:=a.length) (by omega)
 generalize szN left a.length = y1 at *
 have q2:=oH (x:=y1) (n:=i.length) (by omega)
 generalize szN y1 i.length = y2 at *
 have q3:=oH (x:=y2) (n:=b.length) (by omega)
 generalize szN y2 b.length = y3 at *
 have q4:=oH (x:=y3) (n:=l.length) (by omega)
 generalize szN y3 l.length = y4 at *
 have q5:=oH (x:=y4) (n:=t.length) (by omega)
 generalize szN y4 t.length = y5 at *
 have r1:=q1.2 n1
 have r2:=q2.2 n2
 have r3:=q3.2 n3
 have r4:=q4.2 n4
 have r5:=q5.2 n5
 exact ⟨⟨by omega,by omega⟩,by dsimp only;omega,by dsimp only;omega,by dsimp only;omega,by dsimp only;omega,by dsimp only;omega⟩
theorem CN {left:Int} {a:List Account} {i:List Instr} {b:List Bal} {l:List Lot} {t:List Trade} {x:Int} (h:0 ≤ left ∧ left ≤ 1048576) (hn:¬ mL left ⟨a,i,b,l,t,x⟩ < 0):0 ≤ mL left ⟨a,i,b,l,t,x⟩ ∧ mL left ⟨a,i,b,l,t,x⟩ ≤ 1048576:=(tp h hn).1
theorem CO {left:Int} {a:List Account} {i:List Instr} {b:List Bal} {l:List Lot} {t:List Trade} {x:Int} (h:0 ≤ left ∧ left ≤ 1048576) (hn:¬ mL left ⟨a,i,b,l,t,x⟩ < 0):Small ⟨a,i,b,l,t,x⟩:=(tp h hn).2
theorem iD {ba:List Account} {bi:List Instr} {bb:List Bal} {bl:List Lot} {bt:List Trade} {bn:Int} {left:Int} (hl:0 ≤ left ∧ left ≤ 1048576):FC Tryz.prog 62 [bkV 0 ⟨ba,bi,bb,bl,bt,bn⟩,I left] (bkL ⟨ba,bi,bb,bl,bt,bn⟩) (I (mL left ⟨ba,bi,bb,bl,bt,bn⟩)) (bkL ⟨ba,bi,bb,bl,bt,bn⟩):=by
 refine al tk 36 [.tmp 4] Tryz.func62 (by kernel_rfl) rfl rfl rfl rfl rfl rfl rfl ?_
 repeat' (first
| apply yds;rfl
| apply yd;rfl
| intro _
| refine nv ?_
| apply wct rfl
| apply wcf rfl
| apply ag;rfl
| apply yc;rfl;(first | exact mF (by repeat' omega) | exact p9 (by repeat' (first | omega | apply szr)) | exact sI (by repeat' (first | omega | apply szr)) | exact sK (by repeat' (first | omega | apply szr)) | exact pb (by repeat' (first | omega | apply szr)));rfl;exact fun _ => rfl
| fail)
 all_goals exact bO [0,1,2,3,4] rfl rfl rfl rfl rfl rfl (by simp only [mL];(repeat' split) <;> omega)
theorem qQ {ca:List Account} {ci:List Instr} {cb:List Bal} {cl:List Lot} {ct:List Trade} {cn:Int} {ba:List Account} {bi:List Instr} {bb:List Bal} {bl:List Lot} {bt:List Trade} {bn:Int}:FC Tryz.prog 64 [bkV 0 ⟨ba,bi,bb,bl,bt,bn⟩,bkV 5 ⟨ca,ci,cb,cl,ct,cn⟩] (bkR ⟨ba,bi,bb,bl,bt,bn⟩ ++ bkR ⟨ca,ci,cb,cl,ct,cn⟩) (B (dB ((⟨ba,bi,bb,bl,bt,bn⟩:Books) = ⟨ca,ci,cb,cl,ct,cn⟩))) (bkR ⟨ba,bi,bb,bl,bt,bn⟩ ++ bkR ⟨ca,ci,cb,cl,ct,cn⟩):=by
 refine al tk 40 [.tmp 4] Tryz.func64 (by kernel_rfl) rfl rfl rfl rfl rfl rfl rfl ?_
 repeat' (first
| apply yds;rfl
| apply yd;rfl
| intro _
| refine nv ?_
| apply wct rfl
| apply wcf rfl
| apply yne;rfl
| apply ycp;rfl;(first | exact mA | exact oW | exact sF | exact sH | exact oX);rfl
| fail)
 all_goals first | exact bp [0,1,2,3,4,5,6,7,8,9] rfl rfl rfl rfl rfl rfl (by simp_all) | exact aQ [0,1,2,3,4,5,6,7,8,9] rfl rfl rfl rfl rfl rfl (by simp_all)
def xU (k:Int) (na ni nb nl nt:Nat) (x:Int):Books:=⟨dd na k,eL ni (k + 2 * na),ke nb (k + 2 * na + 2 * ni),kf nl (k + 2 * na + 2 * ni + 3 * nb),eM nt (k + 2 * na + 2 * ni + 3 * nb + 5 * nl),x⟩
def pe (k:Int) (na ni nb nl nt:Nat):Int:=k + 2 * na + 2 * ni + 3 * nb + 5 * nl + 8 * nt
theorem B9 {k:Int} {na ni nb nl nt:Nat} (h:0 ≤ k):¬ pe k na ni nb nl nt < 0:=by
 simp only [pe]
 omega
structure Lens (na ni nb nl nt:Nat) (b:Books):Prop where
 l1:na = b.Accounts.length
 l2:ni = b.Instrs.length
 l3:nb = b.Bals.length
 l4:nl = b.Lots.length
 l5:nt = b.Trades.length
theorem Lens.mk' {k:Int} {na ni nb nl nt:Nat} {x:Int}:Lens na ni nb nl nt (xU k na ni nb nl nt x):=⟨(eK _ _).symm,(gu _ _).symm,(jJ _ _).symm,(jK _ _).symm,(gv _ _).symm⟩
structure MidL (na ni nb nl nt:Nat):Prop where
 a1:na ≤ 4294967296
 a2:ni ≤ 4294967296
 a3:nb ≤ 4294967296
 a4:nl ≤ 4294967296
 a5:nt ≤ 4294967296
theorem Small.mid {b:Books} (h:Small b):MidL b.Accounts.length b.Instrs.length b.Bals.length b.Lots.length b.Trades.length:=⟨by have:=h.a1;omega,by have:=h.a2;omega,by have:=h.a3;omega,by have:=h.a4;omega,by have:=h.a5;omega⟩
theorem nS {ba:List Account} {bi:List Instr} {bb:List Bal} {bl:List Lot} {bt:List Trade} {bn:Int} {k:Int} (hk:0 ≤ k ∧ k ≤ 1048576) (hs:MidL ba.length bi.length bb.length bl.length bt.length):FC Tryz.prog 65 [bkV 0 ⟨ba,bi,bb,bl,bt,bn⟩,I k] (bkO ⟨ba,bi,bb,bl,bt,bn⟩) (I (pe k ba.length bi.length bb.length bl.length bt.length)) (bkO (xU k ba.length bi.length bb.length bl.length bt.length bn)):=by
 refine al tk 26 [.tmp 4] Tryz.func65 (by kernel_rfl) rfl rfl rfl rfl rfl rfl rfl ?_
 obtain ⟨h1,h2,h3,h4,h5⟩:=hs
 repeat' (first
| apply yds;rfl
| apply yd;rfl
| refine nv ?_
| apply ycw  [true];rfl;(first | exact kW (by omega) (by omega) | exact mD (by omega) (by omega) | exact p6 (by omega) (by omega) | exact p8 (by omega) (by omega) | exact mE (by omega) (by omega));rfl
| fail)
 all_goals exact bO [0,1,2,3,4] rfl rfl rfl rfl rfl rfl rfl
theorem nR {ba:List Account} {bi:List Instr} {bb:List Bal} {bl:List Lot} {bt:List Trade} {bn:Int} {k:Int} {na ni nb nl nt:Nat} (hk:0 ≤ k ∧ k ≤ 1048576) (hs:MidL na ni nb nl nt) (hn:Lens na ni nb nl nt ⟨ba,bi,bb,bl,bt,bn⟩):FC Tryz.prog 66 [.agg [.row 0 0 na,.row 1 0 ni,.row 2 0 nb,.row 3 0 nl,.row 4 0 nt,.sc (.int .i64 bn)],I k] (bkR ⟨ba,bi,bb,bl,bt,bn⟩) (I (pick (⟨ba,bi,bb,bl,bt,bn⟩ = xU k na ni nb nl nt bn) (pe k na ni nb nl nt) (-1))) (bkR ⟨ba,bi,bb,bl,bt,bn⟩):=by
 refine al tk 36 [.tmp 4] Tryz.func66 (by kernel_rfl) rfl rfl rfl rfl rfl rfl rfl ?_
 obtain ⟨h1,h2,h3,h4,h5⟩:=hs
 obtain ⟨n1,n2,n3,n4,n5⟩:=hn
 dsimp only at n1 n2 n3 n4 n5
 subst n1;subst n2;subst n3;subst n4;subst n5
 repeat' (first
| apply yds;rfl
| apply yd;rfl
| intro _
| refine nv ?_
| apply wct rfl
| apply wcf rfl
| apply ag;rfl
| apply ycq;rfl;(first | exact kV (by omega) (by omega) (by simp only [eK]) | exact mB (by omega) (by omega) (by simp only [gu]) | exact oY (by omega) (by omega) (by simp only [jJ]) | exact oZ (by omega) (by omega) (by simp only [jK]) | exact mC (by omega) (by omega) (by simp only [gv]));rfl
| fail)
 all_goals first
  | (exfalso;omega)
  | exact bO [0,1,2,3,4] rfl rfl rfl rfl rfl rfl (by rw [aD (by simp only [xU,Books.mk.injEq,and_true];exact ⟨by assumption,by assumption,by assumption,by assumption,by assumption⟩)];simp only [pe])
  | exact bO [0,1,2,3,4] rfl rfl rfl rfl rfl rfl (aB (fun e => by simp only [xU,Books.mk.injEq,and_true] at e;obtain ⟨e1,e2,e3,e4,e5⟩:=e;contradiction))
end
section
open Go.RowKit
def wF (ba:List Account) (bi:List Instr) (bb:List Bal) (x:Bal):Prop:=a9 ba x.Account ≠ 0 ∧ ab bi x.Instr ≠ 0 ∧ ¬ (a9 ba x.Account = 1 ∧ x.Amount < 0) ∧ dI bb x.Instr = 0
def xR (ba:List Account) (bi:List Instr) (bn:Int) (x:Lot):Prop:=a9 ba x.Account = 1 ∧ ab bi x.Instr = 2 ∧ x.No ≤ bn
def o9 (bb:List Bal) (bl:List Lot) (a:Account) (x:Instr):Prop:=a.Kind = 1 → x.Kind = 2 → sQ (aa bl a.No x.No) = aW bb a.No x.No
def trF (ba:List Account) (bi:List Instr) (bu se pa ca:Int):Prop:=a9 ba bu = 1 ∧ a9 ba se = 1 ∧ ab bi pa = 2 ∧ ab bi ca = 1
def tF (ba:List Account) (bi:List Instr) (bb:List Bal):Prop:=∀ x ∈ bb,wF ba bi bb x
def u5 (ba:List Account) (bi:List Instr) (bb:List Bal) (bl:List Lot) (bn:Int):Prop:=(∀ x ∈ bl,xR ba bi bn x) ∧ ∀ a ∈ ba,∀ x ∈ bi,o9 bb bl a x
def oJ (ba:List Account) (bi:List Instr) (bt:List Trade):Prop:=∀ t ∈ bt,trF ba bi t.Buyer t.Seller t.Paper t.Cash
structure BooksOk (b:Books):Prop where
 acc:aL b.Accounts
 ins:bq b.Instrs
 bals:BalsOk b.Bals
 lots:LotsOk b.Lots
 trades:kF b.Trades
 lot:inP b.Lot 0 1000000000
 bR:tF b.Accounts b.Instrs b.Bals
 lR:u5 b.Accounts b.Instrs b.Bals b.Lots b.Lot
 tR:oJ b.Accounts b.Instrs b.Trades
def bkY (n:Nat):Books → Option AO
 | ⟨a,i,b,l,t,x⟩ => some ⟨false,30,6,.mx [.row n 0 a.length,.row (n + 1) 0 i.length,.row (n + 2) 0 b.length,.row (n + 3) 0 l.length,.row (n + 4) 0 t.length,.sc (.int .i64 x)]⟩
theorem rH {l:List Bal} {c:Int}:FC Tryz.prog 288 [.c (.row 0 0 l.length),I c] ([ro 135 l]) (sel (BalsOk l ∧ ak (dI l c)) (.tup [I (dI l c),B true]) (.tup [I 0,B false])) (sel (BalsOk l ∧ ak (dI l c)) [ro 135 l] [ro 135 l]):=by
 refine al tk 38 [.tmp 4,.tmp 5] Tryz.func288 (by kernel_rfl) rfl rfl rfl rfl rfl rfl rfl ?_
 refine cj l 0 rfl (fun hl => ?_)
 repeat' (first
| apply yds;rfl
| apply yd;rfl
| refine nv ?_
| fail)
 refine wlp (X:=Int × Int) [0,1] [0] (fun x => [(7,I x.1),(6,I x.2)]) (fun _ => []) (fun x => 0 ≤ x.1 ∧ x.1 ≤ l.length ∧ (0 < x.1 → BalsOk l) ∧ x.2 = dI (pf l x.1) c) (fun x => (l.length - x.1).toNat) (0,0) ⟨by dsimp only;omega,by dsimp only;omega,fun h => absurd h (by dsimp only;omega),rfl⟩ rfl rfl (fun _ => rfl) (fun _ => rfl) ⟨rfl,rfl,rfl,rfl,rfl,rfl,rfl,rfl⟩ (fun x hx => ?_)
 obtain ⟨i,n⟩:=x
 obtain ⟨h0,hi,hok,hn⟩:=hx
 dsimp only at h0 hi hok hn ⊢
 have hb:=fun (hk:BalsOk l) => eV (kI hk c) ⟨h0,hi⟩
 rw [show ar (qm c) (pf l i) = n from hn.symm] at hb
 have hb3:=fun (hk:BalsOk l) (h:i < l.length) (e:(rd l i).Instr = c) => (qn e ▸ kI hk c _ (ax ⟨h0,h⟩):-1000000000000000 ≤ (rd l i).Amount ∧ (rd l i).Amount ≤ 1000000000000000)
 repeat' (first
| apply yds;rfl
| apply yd;rfl
| apply yar;rfl;(have h1:=hb3 (by assumption) (by assumption) (by assumption);have h2:=hb (by assumption);have h3:=(by assumption:BalsOk l).2;omega)
| intro _
| refine nv ?_
| apply wct rfl
| apply wcf rfl
| apply ae rfl
| apply ag;rfl
| apply yar;rfl;omega
| apply yix;rfl;omega
| apply yle;rfl;omega
| apply ycp;rfl;exact eT;rfl
| apply yc;rfl;exact kg;rfl;exact fun _ => rfl
| apply zcs;(iterate 10 rfl);exact kh;exact fun _ => rfl;exact fun _ => rfl;rfl;rfl;rfl;rfl
| fail)
 all_goals first
  | (exfalso;contradiction)
  | (rename_i hk h e
     exact aA (i + 1,_) [0] ⟨rfl,rfl,rfl,rfl,rfl,rfl,rfl,rfl⟩ ⟨by dsimp only;omega,by dsimp only;omega,fun _ => by assumption,by dsimp only;rw [ip ⟨h0,by assumption⟩,qn (by assumption),hn]⟩ (by first | omega | (dsimp only;omega)))
  | exact aA (i + 1,_) [0] ⟨rfl,rfl,rfl,rfl,rfl,rfl,rfl,rfl⟩ ⟨by dsimp only;omega,by dsimp only;omega,fun _ => by assumption,by dsimp only;rw [ip ⟨h0,by assumption⟩,wD (by assumption),hn,Int.add_zero]⟩ (by first | omega | (dsimp only;omega))
  | exact bS (fun h => by first | exact absurd h.1 (by assumption) | (have e:=hn.trans (congrArg (fun x => dI x c) (aY (by assumption)));have:=h.2;rw [← e] at this;contradiction)) [0] rfl rfl rfl rfl rfl rfl
  | (have e:=hn.trans (congrArg (fun x => dI x c) (aY (by assumption)))
     rw [← show n = dI l c from e]
     exact gM ⟨by assumption,by assumption⟩ [0] rfl rfl rfl rfl rfl rfl)
theorem nJ {ba:List Account} {bi:List Instr} {bb:List Bal} {bl:List Lot} {bt:List Trade} {bn:Int} (hok:BalsOk bb):FC Tryz.prog 149 [bkV 0 ⟨ba,bi,bb,bl,bt,bn⟩] (bkR ⟨ba,bi,bb,bl,bt,bn⟩) (B (dB (tF ba bi bb))) (bkR ⟨ba,bi,bb,bl,bt,bn⟩):=by
 refine al tk 46 [.tmp 2] Tryz.func149 (by kernel_rfl) rfl rfl rfl rfl rfl rfl rfl ?_
 have hl:=hok.2
 repeat' (first
| apply yds;rfl
| refine nv ?_
| fail)
 refine wlp (X:=Int) [1,7,8] [0,1,2,3,4,5] (fun i => [(9,I i)]) (fun _ => []) (fun i => 0 ≤ i ∧ i ≤ bb.length ∧ ∀ j:Int,0 ≤ j → j < i → wF ba bi bb (rd bb j)) (fun i => (bb.length - i).toNat) 0 ⟨by omega,by omega,fun j h0 h1 => by omega⟩ rfl rfl (fun _ => rfl) (fun _ => rfl) ⟨rfl,rfl,rfl,rfl,rfl,rfl,rfl,rfl⟩ (fun i hi => ?_)
 obtain ⟨h0,hi,hall⟩:=hi
 repeat' (first
| apply yds;rfl
| apply yd;rfl
| intro _
| refine nv ?_
| apply wct rfl
| apply wcf rfl
| apply ae rfl
| apply ag;rfl
| apply yne;rfl
| apply yar;rfl;omega
| apply yix;rfl;omega
| apply yle;rfl;omega
| apply yc;rfl;(first | exact cZ | exact dm | exact qK (by assumption));rfl;exact fun _ => rfl
| fail)
 all_goals first
  | (exfalso;contradiction)
  | exact aQ [0,1,2,3,4] rfl rfl rfl rfl rfl rfl (fun h => by
     obtain ⟨e1,e2,e3,e4⟩:=h _ (ax ⟨h0,by assumption⟩)
     first | contradiction | exact e3 ⟨by assumption,by assumption⟩)
  | exact bp [0,1,2,3,4] rfl rfl rfl rfl rfl rfl (all_rd.1 (fun j h0 h1 => hall j h0 (by omega)))
  | exact aA (i + 1) [0,1,2,3,4,5] ⟨rfl,rfl,rfl,rfl,rfl,rfl,rfl,rfl⟩ ⟨by omega,by omega,ay hall ⟨by assumption,by assumption,fun e => by first | exact absurd e.1 (by assumption) | exact absurd e.2 (by assumption),by assumption⟩⟩ (by first | omega | (dsimp only;omega))
theorem th {ba:List Account} {bi:List Instr} {bb:List Bal} {bl:List Lot} {bt:List Trade} {bn:Int} (hAc:aL ba) (hIn:bq bi) (hok:BalsOk bb):FC Tryz.prog 222 [bkV 0 ⟨ba,bi,bb,bl,bt,bn⟩] (bkR ⟨ba,bi,bb,bl,bt,bn⟩) (B (dB (tF ba bi bb))) (bkR ⟨ba,bi,bb,bl,bt,bn⟩):=by
 refine al tk 58 [.tmp 2] Tryz.func222 (by kernel_rfl) rfl rfl rfl rfl rfl rfl rfl ?_
 have hl:=hok.2
 repeat' (first
| apply yds;rfl
| apply yd;rfl
| refine nv ?_
| fail)
 refine wlp (X:=Int) [1] [0,1,2,3,4,5] (fun i => [(3,I i)]) (fun _ => []) (fun i => 0 ≤ i ∧ i ≤ bb.length ∧ ∀ j:Int,0 ≤ j → j < i → wF ba bi bb (rd bb j)) (fun i => (bb.length - i).toNat) 0 ⟨by omega,by omega,fun j h0 h1 => by omega⟩ rfl rfl (fun _ => rfl) (fun _ => rfl) ⟨rfl,rfl,rfl,rfl,rfl,rfl,rfl,rfl⟩ (fun i hi => ?_)
 obtain ⟨h0,hi,hall⟩:=hi
 repeat' (first
| apply yds;rfl
| apply yd;rfl
| intro _
| refine nv ?_
| apply wct rfl
| apply wcf rfl
| apply ae rfl
| apply ag;rfl
| apply yne;rfl
| apply yar;rfl;omega
| apply yix;rfl;omega
| apply yle;rfl;omega
| apply ycq;rfl;(first | exact aS | exact bc);rfl
| apply zcs;(iterate 10 rfl);exact rH;exact fun _ => rfl;exact fun _ => rfl;rfl;rfl;rfl;rfl
| fail)
 all_goals first
  | (exfalso;contradiction)
  | exact aQ [0,1,2,3,4] rfl rfl rfl rfl rfl rfl (fun h => by
     obtain ⟨e1,e2,e3,e4⟩:=h _ (ax ⟨h0,by assumption⟩)
     first | contradiction | exact e3 ⟨by assumption,by assumption⟩ | (rename_i k;exact k ⟨hok,by rw [e4];unfold ak inP;omega⟩))
  | exact bp [0,1,2,3,4] rfl rfl rfl rfl rfl rfl (all_rd.1 (fun j h0 h1 => hall j h0 (by omega)))
  | exact aA (i + 1) [0,1,2,3,4,5] ⟨rfl,rfl,rfl,rfl,rfl,rfl,rfl,rfl⟩ ⟨by omega,by omega,ay hall ⟨by assumption,by assumption,fun e => by first | exact absurd e.1 (by assumption) | exact absurd e.2 (by assumption),by assumption⟩⟩ (by first | omega | (dsimp only;omega))
theorem nL {ba:List Account} {bi:List Instr} {bb:List Bal} {bl:List Lot} {bt:List Trade} {bn:Int} (hok:BalsOk bb) (hlo:LotsOk bl):FC Tryz.prog 150 [bkV 0 ⟨ba,bi,bb,bl,bt,bn⟩] (bkR ⟨ba,bi,bb,bl,bt,bn⟩) (B (dB (u5 ba bi bb bl bn))) (bkR ⟨ba,bi,bb,bl,bt,bn⟩):=by
 refine al tk 84 [.tmp 2] Tryz.func150 (by kernel_rfl) rfl rfl rfl rfl rfl rfl rfl ?_
 have hsd:=hok.sd
 have hq:=hlo.q
 have hlq:=hq.len
 refine cj ba 0 rfl (fun hla => ?_)
 refine cj bi 1 rfl (fun hli => ?_)
 repeat' (first
| apply yds;rfl
| refine nv ?_
| fail)
 refine wlp (X:=Int) [1,12,13] [0,1,2,3,4,5] (fun i => [(14,I i)]) (fun _ => []) (fun i => 0 ≤ i ∧ i ≤ bl.length ∧ ∀ j:Int,0 ≤ j → j < i → xR ba bi bn (rd bl j)) (fun i => (bl.length - i).toNat) 0 ⟨by omega,by omega,fun j h0 h1 => by omega⟩ rfl rfl (fun _ => rfl) (fun _ => rfl) ⟨rfl,rfl,rfl,rfl,rfl,rfl,rfl,rfl⟩ (fun i hi => ?_)
 obtain ⟨h0,hi,hall⟩:=hi
 repeat' (first
| apply yds;rfl
| apply yd;rfl
| intro _
| refine nv ?_
| apply wct rfl
| apply wcf rfl
| apply ae rfl
| apply ag;rfl
| apply yne;rfl
| apply yar;rfl;omega
| apply yix;rfl;omega
| apply yle;rfl;omega
| apply yc;rfl;(first | exact cZ | exact dm);rfl;exact fun _ => rfl
| fail)
 all_goals first
  | (exfalso;contradiction)
  | exact aQ [0,1,2,3,4] rfl rfl rfl rfl rfl rfl (fun h => by
     obtain ⟨e1,e2,e3⟩:=h.1 _ (ax ⟨h0,by assumption⟩)
     first | contradiction | omega)
  | exact aA (i + 1) [0,1,2,3,4,5] ⟨rfl,rfl,rfl,rfl,rfl,rfl,rfl,rfl⟩ ⟨by omega,by omega,ay hall ⟨by assumption,by assumption,by omega⟩⟩ (by first | omega | (dsimp only;omega))
  | skip
 have h1:=all_rd.1 (fun j h0 h1 => hall j h0 (by omega))
 clear hall h0 hi
 refine wlp (X:=Int) [1,41,42] [0,1,2,3,4,5] (fun i => [(43,I i)]) (fun _ => []) (fun i => 0 ≤ i ∧ i ≤ ba.length ∧ ∀ j:Int,0 ≤ j → j < i → ∀ x ∈ bi,o9 bb bl (rd ba j) x) (fun i => (ba.length - i).toNat) 0 ⟨by omega,by omega,fun j h0 h1 => by omega⟩ rfl rfl (fun _ => rfl) (fun _ => rfl) ⟨rfl,rfl,rfl,rfl,rfl,rfl,rfl,rfl⟩ (fun i hi => ?_)
 obtain ⟨h0,hi,hall⟩:=hi
 repeat' (first
| apply yds;rfl
| apply yd;rfl
| intro _
| refine nv ?_
| apply wct rfl
| apply wcf rfl
| apply ae rfl
| apply ag;rfl
| apply yix;rfl;omega
| apply yle;rfl;omega
| fail)
 ·rename_i hlt
  refine wlp (X:=Int) [1,6,41,42,43,48,49] [0,1,2,3,4,5,6] (fun k => [(50,I k)]) (fun _ => []) (fun k => 0 ≤ k ∧ k ≤ bi.length ∧ ∀ j:Int,0 ≤ j → j < k → o9 bb bl (rd ba i) (rd bi j)) (fun k => (bi.length - k).toNat) 0 ⟨by omega,by omega,fun j h0 h1 => by omega⟩ rfl rfl (fun _ => rfl) (fun _ => rfl) ⟨rfl,rfl,rfl,rfl,rfl,rfl,rfl,rfl⟩ (fun k hk => ?_)
  obtain ⟨k0,kk,kall⟩:=hk
  repeat' (first
| apply yds;rfl
| apply yd;rfl
| intro _
| refine nv ?_
| apply wct rfl
| apply wcf rfl
| apply ae rfl
| apply ag;rfl
| apply yne;rfl
| apply yar;rfl;omega
| apply yix;rfl;omega
| apply yle;rfl;omega
| apply yc;rfl;(first | exact cU (by first | assumption | exact LQ.of (by assumption)) | exact kr (by assumption));rfl;exact fun _ => rfl
| apply ycf;rfl;exact cJ (by omega);rfl
| fail)
  all_goals first
   | exact aA (k + 1) [0,1,2,3,4,5,6] ⟨rfl,rfl,rfl,rfl,rfl,rfl,rfl,rfl⟩ ⟨by omega,by omega,ay kall (fun e1 e2 => by first | assumption | exact absurd e1 (by assumption) | exact absurd e2 (by assumption))⟩ (by first | omega | (dsimp only;omega))
   | exact aQ [0,1,2,3,4] rfl rfl rfl rfl rfl rfl (fun h => absurd (h.2 _ (ax ⟨h0,hlt⟩) _ (ax ⟨k0,by assumption⟩) (by assumption) (by assumption)) (by assumption))
   | exact aA (i + 1) [0,1,2,3,4,5] ⟨rfl,rfl,rfl,rfl,rfl,rfl,rfl,rfl⟩ ⟨by omega,by omega,ay hall (all_rd.1 (fun j h0 h1 => kall j h0 (by omega)))⟩ (by first | omega | (dsimp only;omega))
 ·exact bp [0,1,2,3,4] rfl rfl rfl rfl rfl rfl ⟨h1,all_rd.1 (fun j h0 h1 => hall j h0 (by omega))⟩
theorem tj {ba:List Account} {bi:List Instr} {bb:List Bal} {bl:List Lot} {bt:List Trade} {bn:Int} (hAc:aL ba) (hIn:bq bi) (hok:BalsOk bb) (hlo:LotsOk bl):FC Tryz.prog 223 [bkV 0 ⟨ba,bi,bb,bl,bt,bn⟩] (bkR ⟨ba,bi,bb,bl,bt,bn⟩) (B (dB (u5 ba bi bb bl bn))) (bkR ⟨ba,bi,bb,bl,bt,bn⟩):=by
 refine al tk 108 [.tmp 2] Tryz.func223 (by kernel_rfl) rfl rfl rfl rfl rfl rfl rfl ?_
 have hsd:=hok.sd
 have hq:=hlo.q
 have hlq:=hq.len
 refine cj ba 0 rfl (fun hla => ?_)
 refine cj bi 1 rfl (fun hli => ?_)
 repeat' (first
| apply yds;rfl
| apply yd;rfl
| refine nv ?_
| fail)
 refine wlp (X:=Int) [1] [0,1,2,3,4,5] (fun i => [(3,I i)]) (fun _ => []) (fun i => 0 ≤ i ∧ i ≤ bl.length ∧ ∀ j:Int,0 ≤ j → j < i → xR ba bi bn (rd bl j)) (fun i => (bl.length - i).toNat) 0 ⟨by omega,by omega,fun j h0 h1 => by omega⟩ rfl rfl (fun _ => rfl) (fun _ => rfl) ⟨rfl,rfl,rfl,rfl,rfl,rfl,rfl,rfl⟩ (fun i hi => ?_)
 obtain ⟨h0,hi,hall⟩:=hi
 repeat' (first
| apply yds;rfl
| apply yd;rfl
| intro _
| refine nv ?_
| apply wct rfl
| apply wcf rfl
| apply ae rfl
| apply ag;rfl
| apply yne;rfl
| apply yar;rfl;omega
| apply yix;rfl;omega
| apply yle;rfl;omega
| apply ycq;rfl;(first | exact aS | exact bc);rfl
| fail)
 all_goals first
  | (exfalso;contradiction)
  | exact aQ [0,1,2,3,4] rfl rfl rfl rfl rfl rfl (fun h => by
     obtain ⟨e1,e2,e3⟩:=h.1 _ (ax ⟨h0,by assumption⟩)
     first | contradiction | omega)
  | exact aA (i + 1) [0,1,2,3,4,5] ⟨rfl,rfl,rfl,rfl,rfl,rfl,rfl,rfl⟩ ⟨by omega,by omega,ay hall ⟨by assumption,by assumption,by omega⟩⟩ (by first | omega | (dsimp only;omega))
  | skip
 have h1:=all_rd.1 (fun j h0 h1 => hall j h0 (by omega))
 clear hall h0 hi
 refine wlp (X:=Int) [1] [0,1,2,3,4,5] (fun i => [(5,I i)]) (fun _ => []) (fun i => 0 ≤ i ∧ i ≤ ba.length ∧ ∀ j:Int,0 ≤ j → j < i → ∀ x ∈ bi,o9 bb bl (rd ba j) x) (fun i => (ba.length - i).toNat) 0 ⟨by omega,by omega,fun j h0 h1 => by omega⟩ rfl rfl (fun _ => rfl) (fun _ => rfl) ⟨rfl,rfl,rfl,rfl,rfl,rfl,rfl,rfl⟩ (fun i hi => ?_)
 obtain ⟨h0,hi,hall⟩:=hi
 repeat' (first
| apply yds;rfl
| apply yd;rfl
| intro _
| refine nv ?_
| apply wct rfl
| apply wcf rfl
| apply ae rfl
| apply ag;rfl
| fail)
 ·rename_i hlt
  refine wlp (X:=Int) [1,5] [0,1,2,3,4,5] (fun k => [(6,I k)]) (fun _ => []) (fun k => 0 ≤ k ∧ k ≤ bi.length ∧ ∀ j:Int,0 ≤ j → j < k → o9 bb bl (rd ba i) (rd bi j)) (fun k => (bi.length - k).toNat) 0 ⟨by omega,by omega,fun j h0 h1 => by omega⟩ rfl rfl (fun _ => rfl) (fun _ => rfl) ⟨rfl,rfl,rfl,rfl,rfl,rfl,rfl,rfl⟩ (fun k hk => ?_)
  obtain ⟨k0,kk,kall⟩:=hk
  repeat' (first
| apply yds;rfl
| apply yd;rfl
| intro _
| refine nv ?_
| apply wct rfl
| apply wcf rfl
| apply ae rfl
| apply ag;rfl
| apply yne;rfl
| apply yar;rfl;omega
| apply yix;rfl;omega
| apply yle;rfl;omega
| refine zdq (id:=14) rfl (by kernel_rfl) [(.p,0),(.p,2),(.p,4),(.p,8),(.p,10),(.t,1),(.t,3),(.p,5),(.p,6),(.t,7),(.t,9),(.p,11),(.p,12),(.t,13),(.o,14),(.p,15),(.p,16),(.p,17),(.p,18),(.p,19)] [] (by kernel_rfl) rfl ?_
| refine zdq (id:=15) rfl (by kernel_rfl) [(.p,0),(.p,2),(.p,4),(.p,6),(.p,10),(.p,12),(.t,3),(.t,5),(.p,7),(.p,8),(.t,9),(.t,11),(.p,13),(.p,14),(.t,15),(.o,1),(.o,16),(.p,17)] [] (by kernel_rfl) rfl ?_
| apply yc;rfl;(first | exact dQ (by first | assumption | exact LQ.of (by assumption)) | exact ik);rfl;exact fun _ => rfl
| apply ycf;rfl;exact cG (by omega);rfl
| fail)
  all_goals first
   | exact aA (k + 1) [0,1,2,3,4,5] ⟨rfl,rfl,rfl,rfl,rfl,rfl,rfl,rfl⟩ ⟨by omega,by omega,ay kall (fun e1 e2 => by first | assumption | exact absurd e1 (by assumption) | exact absurd e2 (by assumption))⟩ (by first | omega | (dsimp only;omega))
   | exact aQ [0,1,2,3,4] rfl rfl rfl rfl rfl rfl (fun h => absurd (h.2 _ (ax ⟨h0,hlt⟩) _ (ax ⟨k0,by assumption⟩) (by assumption) (by assumption)) (by assumption))
   | exact aA (i + 1) [0,1,2,3,4,5] ⟨rfl,rfl,rfl,rfl,rfl,rfl,rfl,rfl⟩ ⟨by omega,by omega,ay hall (all_rd.1 (fun j h0 h1 => kall j h0 (by omega)))⟩ (by first | omega | (dsimp only;omega))
 ·exact bp [0,1,2,3,4] rfl rfl rfl rfl rfl rfl ⟨h1,all_rd.1 (fun j h0 h1 => hall j h0 (by omega))⟩
theorem kt {ba:List Account} {bi:List Instr} {bb:List Bal} {bl:List Lot} {bt:List Trade} {bn:Int} {no bu se pa qt ca pr st:Int}:FC Tryz.prog 255 [.agg [.sc (.int .i64 no),.sc (.int .i64 bu),.sc (.int .i64 se),.sc (.int .i64 pa),.sc (.int .i64 qt),.sc (.int .i64 ca),.sc (.int .i64 pr),.sc (.int .i64 st)],.c (.ptr 0 0 0)] ([bkY 1 ⟨ba,bi,bb,bl,bt,bn⟩] ++ bkR ⟨ba,bi,bb,bl,bt,bn⟩) (B (dB (¬ trF ba bi bu se pa ca))) ([bkY 1 ⟨ba,bi,bb,bl,bt,bn⟩] ++ bkR ⟨ba,bi,bb,bl,bt,bn⟩):=by
 refine al tk 34 [.tmp 3] Tryz.func255 (by kernel_rfl) rfl rfl rfl rfl rfl rfl rfl ?_
 repeat' (first
| apply yds;rfl
| intro _
| refine nv ?_
| apply yne;rfl
| apply yc;rfl;(first | exact cZ | exact dm);rfl;exact fun _ => rfl
| fail)
 all_goals first
  | exact bp [0,1,2,3,4,5] rfl rfl rfl rfl rfl rfl (fun e => by obtain ⟨e1,e2,e3,e4⟩:=e;contradiction)
  | exact aQ [0,1,2,3,4,5] rfl rfl rfl rfl rfl rfl (fun h => h ⟨by assumption,by assumption,by assumption,by assumption⟩)
theorem gh {l:List Trade} {ba:List Account} {bi:List Instr} {bb:List Bal} {bl:List Lot} {bn:Int}:FC Tryz.prog 276 [.c (.row 0 0 l.length),.c (.fn 255 [(1,0,0)])] ([ro 103 l,some ⟨false,30,6,.mx [.row 2 0 ba.length,.row 3 0 bi.length,.row 4 0 bb.length,.row 5 0 bl.length,.row 0 0 l.length,.sc (.int .i64 bn)]⟩,ro 42 ba,ro 74 bi,ro 135 bb,ro 137 bl]) (sel (∃ x ∈ l,¬ trF ba bi x.Buyer x.Seller x.Paper x.Cash) (I (fIx l (fun x => ¬ trF ba bi x.Buyer x.Seller x.Paper x.Cash))) (I (-1))) (sel (∃ x ∈ l,¬ trF ba bi x.Buyer x.Seller x.Paper x.Cash) [ro 103 l,some ⟨false,30,6,.mx [.row 2 0 ba.length,.row 3 0 bi.length,.row 4 0 bb.length,.row 5 0 bl.length,.row 0 0 l.length,.sc (.int .i64 bn)]⟩,ro 42 ba,ro 74 bi,ro 135 bb,ro 137 bl] [ro 103 l,some ⟨false,30,6,.mx [.row 2 0 ba.length,.row 3 0 bi.length,.row 4 0 bb.length,.row 5 0 bl.length,.row 0 0 l.length,.sc (.int .i64 bn)]⟩,ro 42 ba,ro 74 bi,ro 135 bb,ro 137 bl]):=by
 refine al tk 19 [.tmp 4] Tryz.func276 (by kernel_rfl) rfl rfl rfl rfl rfl rfl rfl ?_
 refine cj l 0 rfl (fun hl => ?_)
 repeat' (first
| apply yds;rfl
| apply yd;rfl
| refine nv ?_
| fail)
 refine wlp (X:=Int) [0,1,7] [0,1,2,3,4,5] (fun i => [(8,I i)]) (fun _ => []) (fun i => 0 ≤ i ∧ i ≤ l.length ∧ ∀ j:Int,0 ≤ j → j < i → ¬ (fun x => ¬ trF ba bi x.Buyer x.Seller x.Paper x.Cash) (rd l j)) (fun i => (l.length - i).toNat) 0 ⟨by omega,by omega,fun j h0 h1 => by omega⟩ rfl rfl (fun _ => rfl) (fun _ => rfl) ⟨rfl,rfl,rfl,rfl,rfl,rfl,rfl,rfl⟩ (fun i hi => ?_)
 obtain ⟨h0,hi,hall⟩:=hi
 skip
 repeat' (first
| apply yds;rfl
| apply yd;rfl
| apply ycp;rfl;exact kt;rfl
| intro _
| refine nv ?_
| apply wct rfl
| apply wcf rfl
| apply ae rfl
| apply ag;rfl
| apply yar;rfl;omega
| apply yix;rfl;omega
| apply yle;rfl;omega
| fail)
 all_goals first
  | (refine cy (X':=I i) (hs':=[ro 103 l,some ⟨false,30,6,.mx [.row 2 0 ba.length,.row 3 0 bi.length,.row 4 0 bb.length,.row 5 0 bl.length,.row 0 0 l.length,.sc (.int .i64 bn)]⟩,ro 42 ba,ro 74 bi,ro 135 bb,ro 137 bl]) [0,1,2,3,4,5] rfl rfl rfl rfl rfl rfl ?_ ?_
     ·rw [ap ⟨rd l i,ax ⟨by omega,by omega⟩,by assumption⟩,dZ ⟨by omega,by omega⟩ hall (by assumption)]
     ·rw [ap ⟨rd l i,ax ⟨by omega,by omega⟩,by assumption⟩])
  | exact bS (eS (by assumption) hall) [0,1,2,3,4,5] rfl rfl rfl rfl rfl rfl
  | exact aA (i + 1) [0,1,2,3,4,5] ⟨rfl,rfl,rfl,rfl,rfl,rfl,rfl,rfl⟩ ⟨by omega,by omega,ay hall (by assumption)⟩ (by first | omega | (dsimp only;omega))
theorem fc {l:List Trade} {ba:List Account} {bi:List Instr} {bb:List Bal} {bl:List Lot} {bn:Int}:FC Tryz.prog 254 [.c (.row 0 0 l.length),.c (.fn 255 [(1,0,0)])] ([ro 103 l,some ⟨false,30,6,.mx [.row 2 0 ba.length,.row 3 0 bi.length,.row 4 0 bb.length,.row 5 0 bl.length,.row 0 0 l.length,.sc (.int .i64 bn)]⟩,ro 42 ba,ro 74 bi,ro 135 bb,ro 137 bl]) (B (dB (∃ x ∈ l,¬ trF ba bi x.Buyer x.Seller x.Paper x.Cash))) ([ro 103 l,some ⟨false,30,6,.mx [.row 2 0 ba.length,.row 3 0 bi.length,.row 4 0 bb.length,.row 5 0 bl.length,.row 0 0 l.length,.sc (.int .i64 bn)]⟩,ro 42 ba,ro 74 bi,ro 135 bb,ro 137 bl]):=by
 refine al tk 9 [.tmp 4] Tryz.func254 (by kernel_rfl) rfl rfl rfl rfl rfl rfl rfl ?_
 have hn:=bW l (fun x => ¬ trF ba bi x.Buyer x.Seller x.Paper x.Cash)
 repeat' (first
| apply yds;rfl
| apply yd;rfl
| intro _
| refine nv ?_
| apply ag;rfl
| apply zcs;(iterate 10 rfl);exact gh;exact fun _ => rfl;exact fun _ => rfl;rfl;rfl;rfl;rfl
| fail)
 all_goals first
  | exact bp [0,1,2,3,4,5] rfl rfl rfl rfl rfl rfl (by assumption)
  | exact aQ [0,1,2,3,4,5] rfl rfl rfl rfl rfl rfl (by assumption)
  | (exfalso;omega)
theorem lH {ba:List Account} {bi:List Instr} {bb:List Bal} {bl:List Lot} {bt:List Trade} {bn:Int}:FC Tryz.prog 151 [bkV 0 ⟨ba,bi,bb,bl,bt,bn⟩] (bkR ⟨ba,bi,bb,bl,bt,bn⟩) (B (dB (oJ ba bi bt))) (bkR ⟨ba,bi,bb,bl,bt,bn⟩):=by
 refine al tk 8 [.tmp 2] Tryz.func151 (by kernel_rfl) rfl rfl rfl rfl rfl rfl rfl ?_
 repeat' (first
| apply yds;rfl
| intro _
| refine nv ?_
| apply ycp;rfl;exact fc;rfl
| fail)
 all_goals first
  | exact aQ [0,1,2,3,4] rfl rfl rfl rfl rfl rfl (fun h => by rename_i k;obtain ⟨x,hx,hn⟩:=k;exact hn (h x hx))
  | exact bp [0,1,2,3,4] rfl rfl rfl rfl rfl rfl (fun x hx => Classical.byContradiction fun hn => by rename_i k;exact k ⟨x,hx,hn⟩)
theorem aw {ba:List Account} {bi:List Instr} {bb:List Bal} {bl:List Lot} {bt:List Trade} {bn:Int}:FC Tryz.prog 38 [bkV 0 ⟨ba,bi,bb,bl,bt,bn⟩] (bkR ⟨ba,bi,bb,bl,bt,bn⟩) (B (dB (BooksOk ⟨ba,bi,bb,bl,bt,bn⟩))) (bkR ⟨ba,bi,bb,bl,bt,bn⟩):=by
 refine al tk 47 [.tmp 2] Tryz.func38 (by kernel_rfl) rfl rfl rfl rfl rfl rfl rfl ?_
 repeat' (first
| apply yds;rfl
| apply yd;rfl
| intro _
| refine nv ?_
| apply wct rfl
| apply wcf rfl
| apply ycp;rfl;(first | exact dJ | exact eI | exact gp | exact bD | exact oT | exact aJ | exact nJ (by assumption) | exact nL (by assumption) (by assumption) | exact lH);rfl
| fail)
 all_goals first
  | exact bp [0,1,2,3,4] rfl rfl rfl rfl rfl rfl ⟨by assumption,by assumption,by assumption,by assumption,by assumption,by assumption,by assumption,by assumption,by assumption⟩
  | exact aQ [0,1,2,3,4] rfl rfl rfl rfl rfl rfl (fun h => by obtain ⟨e1,e2,e3,e4,e5,e6,e7,e8,e9⟩:=h;contradiction)
theorem aq {ba:List Account} {bi:List Instr} {bb:List Bal} {bl:List Lot} {bt:List Trade} {bn:Int}:FC Tryz.prog 98 [bkV 0 ⟨ba,bi,bb,bl,bt,bn⟩] (bkR ⟨ba,bi,bb,bl,bt,bn⟩) (B (dB (BooksOk ⟨ba,bi,bb,bl,bt,bn⟩))) (bkR ⟨ba,bi,bb,bl,bt,bn⟩):=by
 refine al tk 91 [.tmp 2] Tryz.func98 (by kernel_rfl) rfl rfl rfl rfl rfl rfl rfl ?_
 refine cj bt 4 rfl (fun hlt => ?_)
 repeat' (first
| apply yds;rfl
| apply yd;rfl
| intro _
| refine nv ?_
| apply wct rfl
| apply wcf rfl
| apply ycp;rfl;(first | exact cq | exact cW | exact eT | exact bJ | exact pm | exact aI | exact th (by assumption) (by assumption) (by assumption) | exact tj (by assumption) (by assumption) (by assumption) (by assumption));rfl
| fail)
 all_goals first
  | exact aQ [0,1,2,3,4] rfl rfl rfl rfl rfl rfl (fun h => by obtain ⟨e1,e2,e3,e4,e5,e6,e7,e8,e9⟩:=h;contradiction)
  | skip
 refine wlp (X:=Int) [1] [0,1,2,3,4,5] (fun i => [(3,I i)]) (fun _ => []) (fun i => 0 ≤ i ∧ i ≤ bt.length ∧ ∀ j:Int,0 ≤ j → j < i → trF ba bi (rd bt j).Buyer (rd bt j).Seller (rd bt j).Paper (rd bt j).Cash) (fun i => (bt.length - i).toNat) 0 ⟨by omega,by omega,fun j h0 h1 => by omega⟩ rfl rfl (fun _ => rfl) (fun _ => rfl) ⟨rfl,rfl,rfl,rfl,rfl,rfl,rfl,rfl⟩ (fun i hi => ?_)
 obtain ⟨h0,hi,hall⟩:=hi
 repeat' (first
| apply yds;rfl
| apply yd;rfl
| intro _
| refine nv ?_
| apply wct rfl
| apply wcf rfl
| apply ae rfl
| apply ag;rfl
| apply yne;rfl
| apply yar;rfl;omega
| apply yix;rfl;omega
| apply yle;rfl;omega
| apply ycq;rfl;(first | exact aS | exact bc);rfl
| fail)
 all_goals first
  | (exfalso;contradiction)
  | exact aQ [0,1,2,3,4] rfl rfl rfl rfl rfl rfl (fun h => by
     have h':oJ ba bi bt:=h.tR
     obtain ⟨e1,e2,e3,e4⟩:=h' _ (ax ⟨h0,by assumption⟩)
     contradiction)
  | exact bp [0,1,2,3,4] rfl rfl rfl rfl rfl rfl ⟨by assumption,by assumption,by assumption,by assumption,by assumption,by assumption,by assumption,by assumption,(all_rd (l:=bt) (p:=fun x:Trade => trF ba bi x.Buyer x.Seller x.Paper x.Cash)).1 (fun j h0 h1 => hall j h0 (by omega))⟩
  | exact aA (i + 1) [0,1,2,3,4,5] ⟨rfl,rfl,rfl,rfl,rfl,rfl,rfl,rfl⟩ ⟨by omega,by omega,ay hall ⟨by assumption,by assumption,by assumption,by assumption⟩⟩ (by first | omega | (dsimp only;omega))
end
end Go.Proofs.YtgehbhkfehmdkaaGreat.Sh
