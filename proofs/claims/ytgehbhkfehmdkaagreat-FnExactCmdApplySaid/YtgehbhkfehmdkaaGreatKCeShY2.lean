/- The laws' own functions uf rows of numbers and of bytes. No condition. -/
import Derived.Test.YtgehbhkfehmdkaaGreatKCeShV
import Derived.Test.YtgehbhkfehmdkaaGreatKCeShY
import Derived.Test.YtgehbhkfehmdkaaGreatKCeShU
import Derived.Test.YtgehbhkfehmdkaaGreatKCeShMi
set_option maxRecDepth 100000
set_option maxHeartbeats 40000000
set_option linter.unusedSimpArgs false
set_option linter.unusedVariables false
namespace Go.Proofs.YtgehbhkfehmdkaaGreat.Sh
section
open Go.RowKit
theorem sM {l:List Int} (hl:l.length ≤ 1048576):FC Tryz.prog 208 [.c (.row 0 0 l.length)] ([ro 3 l]) (.c (.row 1 0 l.length)) ([ro 3 l,ow 3 l]):=by
 refine al tk 22 [.tmp 2] Tryz.func208 (by kernel_rfl) rfl rfl rfl rfl rfl rfl rfl ?_
 repeat' (first
| apply yds;rfl
| apply yd;rfl
| refine nv ?_
| apply zmk (α:=Int) (e:=3);rfl;exact tk;(iterate 8 rfl);(refine ⟨?_,?_,?_⟩ <;> first | omega | (dsimp only;omega));rfl;rfl;rfl
| fail)
 refine wlp (X:=Int × List Int) [0,3] [0,1] (fun p => [(4,I p.1)]) (fun p => [(1,ow 3 p.2)]) (fun p => (0 ≤ p.1 ∧ p.1 ≤ l.length) ∧ p.2.length = l.length ∧ ∀ j:Int,0 ≤ j → j < p.1 → rd p.2 j = rd l j) (fun p => (l.length - p.1).toNat) (0,List.replicate l.length Enc.z) ⟨by dsimp only;omega,by simp,fun j h0 h1 => by dsimp only at h1;omega⟩ rfl rfl (fun _ => rfl) (fun _ => rfl) ⟨rfl,rfl,rfl,rfl,rfl,rfl,rfl,rfl⟩ (fun p hp => ?_)
 obtain ⟨i,xs⟩:=p
 obtain ⟨h0,hlen,hall⟩:=hp
 dsimp only at h0 hlen hall ⊢
 repeat' (first
| apply yds;rfl
| apply yd;rfl
| intro _
| refine nv ?_
| apply wct rfl
| apply wcf rfl
| apply ae rfl
| apply ag;rfl
| apply yar;rfl;omega
| apply yix;rfl;omega
| apply yle;rfl;omega
| apply zse;rfl;exact tk;(iterate 6 rfl);omega;rfl;rfl;rfl;rfl;rfl
| fail)
 all_goals first
  | (obtain rfl:xs = l:=bw hlen (fun j h1 h2 => hall j h1 (by omega))
     exact ai [0,1] rfl rfl rfl rfl rfl rfl)
  | exact aA (i + 1,upd xs i (rd l i)) [0,1] ⟨rfl,rfl,rfl,rfl,rfl,rfl,rfl,rfl⟩ ⟨by dsimp only;omega,by simp [aF,hlen],fun j h1 h2 => by
     dsimp only at h2 ⊢
     rw [iK (by omega) h1]
     split
     ·rename_i e;rw [e]
     ·exact hall j h1 (by omega)⟩ (by first | omega | (dsimp only;omega))
theorem sG {l m:List Int}:FC Tryz.prog 209 [.c (.row 0 0 l.length),.c (.row 1 0 m.length)] ([ro 3 l,ro 3 m]) (B (dB (l = m))) ([ro 3 l,ro 3 m]):=by
 refine al tk 26 [.tmp 4] Tryz.func209 (by kernel_rfl) rfl rfl rfl rfl rfl rfl rfl ?_
 refine cj l 0 rfl (fun hl => ?_)
 repeat' (first
| apply yds;rfl
| apply yd;rfl
| intro _
| refine nv ?_
| apply wct rfl
| apply wcf rfl
| apply yne;rfl
| fail)
 ·rename_i hne
  exact aQ [0,1] rfl rfl rfl rfl rfl rfl (fun e => hne (by rw [e]))
 ·rename_i hlen
  refine wlp (X:=Int) [0,1] [0,1] (fun i => [(5,I i)]) (fun _ => []) (fun i => 0 ≤ i ∧ i ≤ l.length ∧ ∀ j:Int,0 ≤ j → j < i → rd l j = rd m j) (fun i => (l.length - i).toNat) 0 ⟨by omega,by omega,fun j h0 h1 => by omega⟩ rfl rfl (fun _ => rfl) (fun _ => rfl) ⟨rfl,rfl,rfl,rfl,rfl,rfl,rfl,rfl⟩ (fun i hi => ?_)
  obtain ⟨h0,hi,hall⟩:=hi
  repeat' (first
| apply yds;rfl
| apply yd;rfl
| intro _
| refine nv ?_
| apply wct rfl
| apply wcf rfl
| apply ae rfl
| apply ag;rfl
| apply yne;rfl
| apply yar;rfl;omega
| apply yix;rfl;omega
| apply yle;rfl;omega
| refine zdq (id:=6) rfl (by kernel_rfl) [(.p,0),(.p,1),(.p,2),(.p,4),(.p,5),(.p,6),(.t,3),(.t,7),(.p,8)] [] (by kernel_rfl) rfl ?_
| fail)
  all_goals first
   | exact bp [0,1] rfl rfl rfl rfl rfl rfl (bw (by omega) (fun j h1 h2 => hall j h1 (by omega)))
   | exact aQ [0,1] rfl rfl rfl rfl rfl rfl (fun e => by subst e;contradiction)
   | exact aA (i + 1) [0,1] ⟨rfl,rfl,rfl,rfl,rfl,rfl,rfl,rfl⟩ ⟨by omega,by omega,ay hall (by first | assumption | (generalize rd l i = x at *;generalize rd m i = y at *;cases x;cases y;simp_all))⟩ (by first | omega | (dsimp only;omega))
def nY (n:Nat) (k:Int):List Int:=(List.range n).map (fun (j:Nat) => k + j)
theorem vV (n:Nat) (k:Int):(nY n k).length = n:=by simp [nY]
theorem yt {n:Nat} {k j:Int} (h:0 ≤ j ∧ j < n):rd (nY n k) j = k + j:=by
 obtain ⟨i,rfl⟩:=Int.eq_ofNat_of_zero_le h.1
 have h1:i < n:=by omega
 simp [rd,nY,List.getD_eq_getElem?_getD,h1]
theorem p7 {l:List Int} {k:Int} (hk:0 ≤ k ∧ k ≤ 1099511627776) (hl:l.length ≤ 4294967296):FC Tryz.prog 210 [.c (.row 0 0 l.length),I k] ([ow 3 l]) (I (k + l.length)) ([ow 3 (nY l.length k)]):=by
 refine al tk 19 [.tmp 4] Tryz.func210 (by kernel_rfl) rfl rfl rfl rfl rfl rfl rfl ?_
 repeat' (first
| apply yd;rfl
| refine nv ?_
| fail)
 refine wlp (X:=Int × Int × List Int) [0] [0] (fun p => [(1,I p.2.1),(5,I p.1)]) (fun p => [(0,ow 3 p.2.2)]) (fun p => (0 ≤ p.1 ∧ p.1 ≤ l.length) ∧ p.2.1 = k + p.1 ∧ p.2.2.length = l.length ∧ ∀ j:Int,0 ≤ j → j < p.1 → rd p.2.2 j = k + j) (fun p => (l.length - p.1).toNat) (0,k,l) ⟨by dsimp only;omega,by dsimp only;omega,rfl,fun j h0 h1 => by dsimp only at h1;omega⟩ rfl rfl (fun _ => rfl) (fun _ => rfl) ⟨rfl,rfl,rfl,rfl,rfl,rfl,rfl,rfl⟩ (fun p hp => ?_)
 obtain ⟨i,kk,xs⟩:=p
 obtain ⟨h0,hkk,hlen,hall⟩:=hp
 dsimp only at h0 hkk hlen hall ⊢
 repeat' (first
| apply yds;rfl
| apply yd;rfl
| intro _
| refine nv ?_
| apply wct rfl
| apply wcf rfl
| apply ae rfl
| apply ag;rfl
| apply yar;rfl;omega
| apply yix;rfl;omega
| apply zse;rfl;exact tk;(iterate 6 rfl);omega;rfl;rfl;rfl;rfl;rfl
| fail)
 all_goals first
  | (obtain rfl:xs = nY l.length k:=bw (by rw [hlen,vV]) (fun j h1 h2 => by rw [hall j h1 (by omega),yt (by omega)])
     exact bO [0] rfl rfl rfl rfl rfl rfl (by omega))
  | exact aA (i + 1,kk + 1,upd xs i (kk)) [0] ⟨rfl,rfl,rfl,rfl,rfl,rfl,rfl,rfl⟩ ⟨by dsimp only;omega,by dsimp only;omega,by simp [aF,hlen],fun j h1 h2 => by
     dsimp only at h2 ⊢
     rw [iK (by omega) h1]
     split
     ·rename_i e
      subst e
      rw [hkk]
     ·exact hall j h1 (by omega)⟩ (by first | omega | (dsimp only;omega))
theorem sJ {l:List Int} {left:Int} (hl:0 ≤ left ∧ left ≤ 1048576):FC Tryz.prog 207 [.c (.row 0 0 l.length),I left] ([ro 3 l]) (I (szN left l.length)) ([ro 3 l]):=by
 refine al tk 12 [.tmp 4] Tryz.func207 (by kernel_rfl) rfl rfl rfl rfl rfl rfl rfl ?_
 refine cj l 0 rfl (fun hlen => ?_)
 repeat' (first
| apply yds;rfl
| apply yd;rfl
| intro _
| refine nv ?_
| apply wct rfl
| apply wcf rfl
| apply ag;rfl
| apply yar;rfl;omega
| fail)
 all_goals exact bO [0] rfl rfl rfl rfl rfl rfl (by unfold szN;split <;> omega)
end
section
open Go.RowKit
theorem Ab {x:Int} {n:Nat} (h:szN x n < 0):szN x n = -1:=by
 unfold szN at *
 by_cases q:x - (n:Int) < 0
 ·rw [if_pos q]
 ·rw [if_neg q] at h;exact absurd h q
theorem nT {k left:Int} {a:List Int} (hl:0 ≤ left ∧ left ≤ 1048576):FC Tryz.prog 81 [.agg [.sc (.int .i64 k),.row 0 0 a.length],I left] ([ro 3 a]) (I (szN left a.length)) ([ro 3 a]):=by
 refine al tk 12 [.tmp 4] Tryz.func81 (by kernel_rfl) rfl rfl rfl rfl rfl rfl rfl ?_
 repeat' (first
| apply yds;rfl
| apply yd;rfl
| intro _
| refine nv ?_
| apply wct rfl
| apply wcf rfl
| apply ag;rfl
| apply yc;rfl;exact sJ (by repeat' omega);rfl;exact fun _ => rfl
| fail)
 all_goals first | exact ai [0] rfl rfl rfl rfl rfl rfl | exact bO [0] rfl rfl rfl rfl rfl rfl (Ab (by assumption))
theorem fK {k:Int} {a:List Int} (hl:a.length ≤ 1048576):FC Tryz.prog 82 [.agg [.sc (.int .i64 k),.row 0 0 a.length]] ([ro 3 a]) (.agg [.sc (.int .i64 k),.row 1 0 a.length]) ([ro 3 a,ow 3 a]):=by
 refine al tk 12 [.cell 2 _] Tryz.func82 (by kernel_rfl) rfl rfl rfl rfl rfl rfl rfl ?_
 repeat' (first
| apply yds;rfl
| apply yd;rfl
| refine nv ?_
| apply ycf;rfl;exact sM (by omega);rfl
| fail)
 all_goals exact ai [0,4] rfl rfl rfl rfl rfl rfl
theorem tU {k j:Int} {a b:List Int}:FC Tryz.prog 84 [.agg [.sc (.int .i64 k),.row 0 0 a.length],.agg [.sc (.int .i64 j),.row 1 0 b.length]] ([ro 3 a,ro 3 b]) (B (dB (k = j ∧ a = b))) ([ro 3 a,ro 3 b]):=by
 refine al tk 16 [.tmp 4] Tryz.func84 (by kernel_rfl) rfl rfl rfl rfl rfl rfl rfl ?_
 repeat' (first
| apply yds;rfl
| apply yd;rfl
| intro _
| refine nv ?_
| apply wct rfl
| apply wcf rfl
| apply yne;rfl
| apply ycp;rfl;exact sG;rfl
| fail)
 all_goals first | exact bp [0,1] rfl rfl rfl rfl rfl rfl ⟨by assumption,by assumption⟩ | exact aQ [0,1] rfl rfl rfl rfl rfl rfl (fun h => absurd h.1 (by assumption)) | exact aQ [0,1] rfl rfl rfl rfl rfl rfl (fun h => absurd h.2 (by assumption))
theorem qU {j k:Int} {a:List Int} (hk:0 ≤ k ∧ k ≤ 1099511627776) (hl:a.length ≤ 4294967296):FC Tryz.prog 85 [.agg [.sc (.int .i64 j),.row 0 0 a.length],I k] ([ow 3 a]) (I (k + a.length)) ([ow 3 (nY a.length k)]):=by
 refine al tk 10 [.tmp 4] Tryz.func85 (by kernel_rfl) rfl rfl rfl rfl rfl rfl rfl ?_
 repeat' (first
| apply yds;rfl
| apply yd;rfl
| refine nv ?_
| apply ycw  [true];rfl;exact p7 (by omega) (by omega);rfl
| fail)
 all_goals exact ai [0] rfl rfl rfl rfl rfl rfl
theorem qS {c v d u:Int}:FC Tryz.prog 83 [.agg [.sc (.int .i64 c),.sc (.int .i64 v)],.agg [.sc (.int .i64 d),.sc (.int .i64 u)]] ([]) (B (dB (c = d ∧ v = u))) ([]):=by
 refine al tk 15 [.tmp 4] Tryz.func83 (by kernel_rfl) rfl rfl rfl rfl rfl rfl rfl ?_
 repeat' (first
| apply yds;rfl
| apply yd;rfl
| intro _
| refine nv ?_
| apply wct rfl
| apply wcf rfl
| apply yne;rfl
| fail)
 all_goals first | exact bp [] rfl rfl rfl rfl rfl rfl ⟨by assumption,by assumption⟩ | exact aQ [] rfl rfl rfl rfl rfl rfl (fun h => absurd h.1 (by assumption)) | exact aQ [] rfl rfl rfl rfl rfl rfl (fun h => absurd h.2 (by assumption))
end
section
open Go.RowKit
theorem Al {P:Program} {f:FuncId} {args:List AV} {hs hs0:AH} {R:Books × Int × Int} {ra:List Account} {ri:List Instr} {rb:List Bal} {rl:List Lot} {rt:List Trade} {rn c0 c1:Int} (h:FC P f args hs (.tup [bkE 6 R.1,.agg [.sc (.int .i64 R.2.1),.sc (.int .i64 R.2.2)]]) (hs0 ++ bkW R.1)) (e:R = (⟨ra,ri,rb,rl,rt,rn⟩,c0,c1)):FC P f args hs (.tup [bkV 6 ⟨ra,ri,rb,rl,rt,rn⟩,.agg [.sc (.int .i64 c0),.sc (.int .i64 c1)]]) (hs0 ++ bkO ⟨ra,ri,rb,rl,rt,rn⟩):=by
 subst e
 exact h
theorem dK {ba:List Account} {bi:List Instr} {bb:List Bal} {bl:List Lot} {bt:List Trade} {bn:Int} {k:Int} {a:List Int} {ra:List Account} {ri:List Instr} {rb:List Bal} {rl:List Lot} {rt:List Trade} {rn c0 c1:Int} (e:eQ ⟨ba,bi,bb,bl,bt,bn⟩ k a = (⟨ra,ri,rb,rl,rt,rn⟩,c0,c1)):FC Tryz.prog 41 [bkV 0 ⟨ba,bi,bb,bl,bt,bn⟩,.agg [.sc (.int .i64 k),.row 5 0 a.length]] (bkR ⟨ba,bi,bb,bl,bt,bn⟩ ++ [ro 3 a]) (.tup [bkV 6 ⟨ra,ri,rb,rl,rt,rn⟩,.agg [.sc (.int .i64 c0),.sc (.int .i64 c1)]]) (bkR ⟨ba,bi,bb,bl,bt,bn⟩ ++ [ro 3 a] ++ bkO ⟨ra,ri,rb,rl,rt,rn⟩):=Al oR e
theorem mJ {ba:List Account} {bi:List Instr} {bb:List Bal} {bl:List Lot} {bt:List Trade} {bn:Int} {k:Int} {a:List Int} {ra:List Account} {ri:List Instr} {rb:List Bal} {rl:List Lot} {rt:List Trade} {rn c0 c1:Int} (e:eQ ⟨ba,bi,bb,bl,bt,bn⟩ k a = (⟨ra,ri,rb,rl,rt,rn⟩,c0,c1)):FC Tryz.prog 42 [bkV 0 ⟨ba,bi,bb,bl,bt,bn⟩,.agg [.sc (.int .i64 k),.row 5 0 a.length]] (bkR ⟨ba,bi,bb,bl,bt,bn⟩ ++ [ro 3 a]) (.tup [bkV 6 ⟨ra,ri,rb,rl,rt,rn⟩,.agg [.sc (.int .i64 c0),.sc (.int .i64 c1)]]) (bkR ⟨ba,bi,bb,bl,bt,bn⟩ ++ [ro 3 a] ++ bkO ⟨ra,ri,rb,rl,rt,rn⟩):=Al pl e
def fRg (i:Nat):Code → Option Code
 | .region j l b => match Nat.beq i j with
   | true => some (.region j l b)
   | false => none
 | .seq x y => match fRg i x with
   | some c => some c
   | none => fRg i y
 | .cond _ x y => match fRg i x with
   | some c => some c
   | none => fRg i y
 | .loop x => fRg i x
 | .block _ x => fRg i x
 | _ => none
theorem CE {ba:List Account} {bi:List Instr} {bb:List Bal} {bl:List Lot} {bt:List Trade} {bn:Int} {k:Int} {a:List Int} {ra:List Account} {ri:List Instr} {rb:List Bal} {rl:List Lot} {rt:List Trade} {rn c0 c1:Int} (s1:Small ⟨ba,bi,bb,bl,bt,bn⟩) (s5:a.length ≤ 1048576) (hr:eQ ⟨ba,bi,bb,bl,bt,bn⟩ k a = (⟨ra,ri,rb,rl,rt,rn⟩,c0,c1)) (b c:Code) (hb:(Go.Proofs.Tryz.f15).body = some b) (hc:fRg 8 b = some c):WW Tryz.prog c (jQ ⟨122,6,[(2,.c (.ptr 6 0 0)),(3,.c (.ptr 7 0 0)),(4,.c (.sc (.bool false))),(6,.c (.ptr 19 0 0)),(7,.c (.ptr 20 0 0))],bkL ⟨ba,bi,bb,bl,bt,bn⟩ ++ [ro 3 a,some ⟨true,95,6,.mx [.row 0 0 ba.length,.row 1 0 bi.length,.row 2 0 bb.length,.row 3 0 bl.length,.row 4 0 bt.length,.sc (.int .i64 bn)]⟩,some ⟨true,113,2,.mx [.sc (.int .i64 k),.row 5 0 a.length]⟩,ow 42 ba,ow 74 bi,ow 135 bb,ow 137 bl,ow 103 bt,ow 3 a,ow 42 ra,ow 74 ri,ow 135 rb,ow 137 rl,ow 103 rt,some ⟨true,30,6,.mx [.row 14 0 ra.length,.row 15 0 ri.length,.row 16 0 rb.length,.row 17 0 rl.length,.row 18 0 rt.length,.sc (.int .i64 rn)]⟩,some ⟨true,66,2,.mx [.sc (.int .i64 c0),.sc (.int .i64 c1)]⟩]⟩) ⟨122,6,[(2,.c (.ptr 6 0 0)),(3,.c (.ptr 7 0 0)),(4,.c (.sc (.bool false)))],bkL ⟨ba,bi,bb,bl,bt,bn⟩ ++ [ro 3 a,some ⟨true,95,6,.mx [.row 0 0 ba.length,.row 1 0 bi.length,.row 2 0 bb.length,.row 3 0 bl.length,.row 4 0 bt.length,.sc (.int .i64 bn)]⟩,some ⟨true,113,2,.mx [.sc (.int .i64 k),.row 5 0 a.length]⟩]⟩:=by
 cases hb
 cases hc
 repeat' (first
| (with_reducible apply yd);rfl
| (with_reducible apply d6 (m:=[0,1,2,3,4,5,6,7,8,9,10,11,12,13,14,15,16,17,18,19,20]));rfl;exact ⟨rfl,rfl,rfl,rfl,rfl,rfl,rfl,rfl⟩
| (with_reducible apply d6 (m:=[0,1,2,3,4,5,6,7,8,9,10,11,12,13,14,15,16,17,18,20,19]));rfl;exact ⟨rfl,rfl,rfl,rfl,rfl,rfl,rfl,rfl⟩
| (with_reducible apply d6 (m:=[0,1,2,3,4,5,6,7,8,9,10,11,12,13,15,16,17,18,19,14,20]));rfl;exact ⟨rfl,rfl,rfl,rfl,rfl,rfl,rfl,rfl⟩
| (with_reducible apply d6 (m:=[0,1,2,3,4,5,6,7,8,9,10,11,12,13,16,17,18,19,20,14,15]));rfl;exact ⟨rfl,rfl,rfl,rfl,rfl,rfl,rfl,rfl⟩
| (with_reducible apply d6 (m:=[0,1,2,3,4,5,6,7,8,9,10,11,12,13,15,16,17,18,19,20,14]));rfl;exact ⟨rfl,rfl,rfl,rfl,rfl,rfl,rfl,rfl⟩
| (with_reducible apply d6 (m:=[0,1,2,3,4,5,6,7,8,9,10,11,12,13,16,17,18,19,20,15,14]));rfl;exact ⟨rfl,rfl,rfl,rfl,rfl,rfl,rfl,rfl⟩
| (with_reducible apply d6 (m:=[0,1,2,3,4,5,6,7,8,9,10,11,12,14,15,16,17,18,19,13,20]));rfl;exact ⟨rfl,rfl,rfl,rfl,rfl,rfl,rfl,rfl⟩
| (with_reducible apply d6 (m:=[0,1,2,3,4,5,6,7,8,9,10,11,12,14,16,17,18,19,20,13,15]));rfl;exact ⟨rfl,rfl,rfl,rfl,rfl,rfl,rfl,rfl⟩
| (with_reducible apply d6 (m:=[0,1,2,3,4,5,6,7,8,9,10,11,12,15,16,17,18,19,20,13,14]));rfl;exact ⟨rfl,rfl,rfl,rfl,rfl,rfl,rfl,rfl⟩
| (with_reducible apply d6 (m:=[0,1,2,3,4,5,6,7,8,9,10,11,12,14,15,16,17,18,19,20,13]));rfl;exact ⟨rfl,rfl,rfl,rfl,rfl,rfl,rfl,rfl⟩
| (with_reducible apply d6 (m:=[0,1,2,3,4,5,6,7,8,9,10,11,12,14,16,17,18,19,20,15,13]));rfl;exact ⟨rfl,rfl,rfl,rfl,rfl,rfl,rfl,rfl⟩
| (with_reducible apply d6 (m:=[0,1,2,3,4,5,6,7,8,9,10,11,12,15,16,17,18,19,20,14,13]));rfl;exact ⟨rfl,rfl,rfl,rfl,rfl,rfl,rfl,rfl⟩
| (with_reducible apply d6 (m:=[0,1,2,3,4,5,6,7,9,10,11,12,13,14,15,16,17,18,19,8,20]));rfl;exact ⟨rfl,rfl,rfl,rfl,rfl,rfl,rfl,rfl⟩
| (with_reducible apply d6 (m:=[0,1,2,3,4,5,6,7,9,10,11,12,13,14,16,17,18,19,20,8,15]));rfl;exact ⟨rfl,rfl,rfl,rfl,rfl,rfl,rfl,rfl⟩
| (with_reducible apply d6 (m:=[0,1,2,3,4,5,6,7,9,10,11,12,13,15,16,17,18,19,20,8,14]));rfl;exact ⟨rfl,rfl,rfl,rfl,rfl,rfl,rfl,rfl⟩
| (with_reducible apply d6 (m:=[0,1,2,3,4,5,6,7,10,11,12,13,14,15,16,17,18,19,20,8,9]));rfl;exact ⟨rfl,rfl,rfl,rfl,rfl,rfl,rfl,rfl⟩
| (with_reducible apply d6 (m:=[0,1,2,3,4,5,6,7,9,10,11,12,13,14,15,16,17,18,19,20,8]));rfl;exact ⟨rfl,rfl,rfl,rfl,rfl,rfl,rfl,rfl⟩
| (with_reducible apply d6 (m:=[0,1,2,3,4,5,6,7,9,10,11,12,13,14,16,17,18,19,20,15,8]));rfl;exact ⟨rfl,rfl,rfl,rfl,rfl,rfl,rfl,rfl⟩
| (with_reducible apply d6 (m:=[0,1,2,3,4,5,6,7,9,10,11,12,13,15,16,17,18,19,20,14,8]));rfl;exact ⟨rfl,rfl,rfl,rfl,rfl,rfl,rfl,rfl⟩
| (with_reducible apply d6 (m:=[0,1,2,3,4,5,6,7,10,11,12,13,14,15,16,17,18,19,20,9,8]));rfl;exact ⟨rfl,rfl,rfl,rfl,rfl,rfl,rfl,rfl⟩
| refine nv ?_
| refine CB (id:=8) rfl (by kernel_rfl) (.one .t 0 (.one .t 2 (.three .o 1 (.three .o 3 (.three .o 4 (.one .p 5 (.one .p 6 (.one .p 7 (.two .o 8 (.one .o 9 (.one .l 10 (.one .l 11 .nil))) .o 9 (.one .o 8 (.one .l 10 (.one .l 11 .nil))))))) .o 8 (.two .o 4 (.one .p 5 (.one .p 6 (.one .p 7 (.one .o 9 (.one .l 10 (.one .l 11 .nil)))))) .o 9 (.one .o 4 (.one .p 5 (.one .p 6 (.one .p 7 (.one .l 10 (.one .l 11 .nil))))))) .o 9 (.two .o 4 (.one .p 5 (.one .p 6 (.one .p 7 (.one .o 8 (.one .l 10 (.one .l 11 .nil)))))) .o 8 (.one .o 4 (.one .p 5 (.one .p 6 (.one .p 7 (.one .l 10 (.one .l 11 .nil)))))))) .o 8 (.two .o 3 (.two .o 4 (.one .p 5 (.one .p 6 (.one .p 7 (.one .o 9 (.one .l 10 (.one .l 11 .nil)))))) .o 9 (.one .o 4 (.one .p 5 (.one .p 6 (.one .p 7 (.one .l 10 (.one .l 11 .nil))))))) .o 9 (.one .o 3 (.one .o 4 (.one .p 5 (.one .p 6 (.one .p 7 (.one .l 10 (.one .l 11 .nil)))))))) .o 9 (.two .o 3 (.two .o 4 (.one .p 5 (.one .p 6 (.one .p 7 (.one .o 8 (.one .l 10 (.one .l 11 .nil)))))) .o 8 (.one .o 4 (.one .p 5 (.one .p 6 (.one .p 7 (.one .l 10 (.one .l 11 .nil))))))) .o 8 (.one .o 3 (.one .o 4 (.one .p 5 (.one .p 6 (.one .p 7 (.one .l 10 (.one .l 11 .nil))))))))) .o 8 (.two .o 1 (.two .o 3 (.two .o 4 (.one .p 5 (.one .p 6 (.one .p 7 (.one .o 9 (.one .l 10 (.one .l 11 .nil)))))) .o 9 (.one .o 4 (.one .p 5 (.one .p 6 (.one .p 7 (.one .l 10 (.one .l 11 .nil))))))) .o 9 (.one .o 3 (.one .o 4 (.one .p 5 (.one .p 6 (.one .p 7 (.one .l 10 (.one .l 11 .nil)))))))) .o 9 (.one .o 1 (.one .o 3 (.one .o 4 (.one .p 5 (.one .p 6 (.one .p 7 (.one .l 10 (.one .l 11 .nil))))))))) .o 9 (.two .o 1 (.two .o 3 (.two .o 4 (.one .p 5 (.one .p 6 (.one .p 7 (.one .o 8 (.one .l 10 (.one .l 11 .nil)))))) .o 8 (.one .o 4 (.one .p 5 (.one .p 6 (.one .p 7 (.one .l 10 (.one .l 11 .nil))))))) .o 8 (.one .o 3 (.one .o 4 (.one .p 5 (.one .p 6 (.one .p 7 (.one .l 10 (.one .l 11 .nil)))))))) .o 8 (.one .o 1 (.one .o 3 (.one .o 4 (.one .p 5 (.one .p 6 (.one .p 7 (.one .l 10 (.one .l 11 .nil)))))))))))) [10,11] (by kernel_rfl) ?_
| (with_reducible apply zt1);rfl
| (with_reducible apply zt2);rfl;rfl
| (with_reducible apply zt3);rfl;rfl;rfl
| with_reducible apply zt0
| with_reducible apply rg
| (with_reducible apply ycf);rfl;(first | exact eh (by assumption) | exact fK (by omega) | exact mJ (by assumption));rfl
| fail)
end
end Go.Proofs.YtgehbhkfehmdkaaGreat.Sh
