/- The law FnExactCmdApply, walked. No condition. -/
import Derived.Test.YtgehbhkfehmdkaaGreatKCeShV
import Derived.Test.YtgehbhkfehmdkaaGreatKCeShLw3
set_option maxRecDepth 100000
set_option maxHeartbeats 40000000
set_option linter.unusedSimpArgs false
set_option linter.unusedVariables false
namespace Go.Proofs.YtgehbhkfehmdkaaGreat.Sh
open Go.RowKit
noncomputable def zz:Code:=((Go.Proofs.Tryz.f15).body).getD .skip
theorem AW {ba:List Account} {bi:List Instr} {bb:List Bal} {bl:List Lot} {bt:List Trade} {bn:Int} {k:Int} {a:List Int} {ra:List Account} {ri:List Instr} {rb:List Bal} {rl:List Lot} {rt:List Trade} {rn c0 c1:Int} (s1:Small ⟨ba,bi,bb,bl,bt,bn⟩) (s5:a.length ≤ 1048576) (hr:eQ ⟨ba,bi,bb,bl,bt,bn⟩ k a = (⟨ra,ri,rb,rl,rt,rn⟩,c0,c1)) (c:Code) (hc:fRg 8 zz = some c):WW Tryz.prog c (jQ ⟨122,6,[(2,.c (.ptr 6 0 0)),(3,.c (.ptr 7 0 0)),(4,.c (.sc (.bool false))),(6,.c (.ptr 19 0 0)),(7,.c (.ptr 20 0 0))],bkL ⟨ba,bi,bb,bl,bt,bn⟩ ++ [ro 3 a,some ⟨true,95,6,.mx [.row 0 0 ba.length,.row 1 0 bi.length,.row 2 0 bb.length,.row 3 0 bl.length,.row 4 0 bt.length,.sc (.int .i64 bn)]⟩,some ⟨true,113,2,.mx [.sc (.int .i64 k),.row 5 0 a.length]⟩,ow 42 ba,ow 74 bi,ow 135 bb,ow 137 bl,ow 103 bt,ow 3 a,ow 42 ra,ow 74 ri,ow 135 rb,ow 137 rl,ow 103 rt,some ⟨true,30,6,.mx [.row 14 0 ra.length,.row 15 0 ri.length,.row 16 0 rb.length,.row 17 0 rl.length,.row 18 0 rt.length,.sc (.int .i64 rn)]⟩,some ⟨true,66,2,.mx [.sc (.int .i64 c0),.sc (.int .i64 c1)]⟩]⟩) ⟨122,6,[(2,.c (.ptr 6 0 0)),(3,.c (.ptr 7 0 0)),(4,.c (.sc (.bool false)))],bkL ⟨ba,bi,bb,bl,bt,bn⟩ ++ [ro 3 a,some ⟨true,95,6,.mx [.row 0 0 ba.length,.row 1 0 bi.length,.row 2 0 bb.length,.row 3 0 bl.length,.row 4 0 bt.length,.sc (.int .i64 bn)]⟩,some ⟨true,113,2,.mx [.sc (.int .i64 k),.row 5 0 a.length]⟩]⟩:=CE s1 s5 hr zz c (by kernel_rfl) hc
theorem z5 {ba:List Account} {bi:List Instr} {bb:List Bal} {bl:List Lot} {bt:List Trade} {bn:Int} {k:Int} {a:List Int} {ra:List Account} {ri:List Instr} {rb:List Bal} {rl:List Lot} {rt:List Trade} {rn c0 c1:Int} {ga:List Account} {gi:List Instr} {gb:List Bal} {gl:List Lot} {gt:List Trade} {u v:Int} (s1:Small ⟨ba,bi,bb,bl,bt,bn⟩) (s5:a.length ≤ 1048576) (hr:eQ ⟨ba,bi,bb,bl,bt,bn⟩ k a = (⟨ra,ri,rb,rl,rt,rn⟩,c0,c1)) (c:Code) (hc:fRg 31 zz = some c):WW Tryz.prog c (jQ ⟨122,6,[(4,.c (.sc (.bool false))),(6,.c (.ptr 13 0 0)),(7,.c (.ptr 14 0 0)),(10,.c (.ptr 20 0 0)),(13,I u),(14,I v),(15,.c (.ptr 32 0 0)),(16,.c (.ptr 33 0 0))],bkL ⟨ba,bi,bb,bl,bt,bn⟩ ++ [ro 3 a,some ⟨true,95,6,.mx [.row 0 0 ba.length,.row 1 0 bi.length,.row 2 0 bb.length,.row 3 0 bl.length,.row 4 0 bt.length,.sc (.int .i64 bn)]⟩,some ⟨true,113,2,.mx [.sc (.int .i64 k),.row 5 0 a.length]⟩,ow 42 ra,ow 74 ri,ow 135 rb,ow 137 rl,ow 103 rt,some ⟨true,30,6,.mx [.row 8 0 ra.length,.row 9 0 ri.length,.row 10 0 rb.length,.row 11 0 rl.length,.row 12 0 rt.length,.sc (.int .i64 rn)]⟩,some ⟨true,66,2,.mx [.sc (.int .i64 c0),.sc (.int .i64 c1)]⟩,ow 42 ga,ow 74 gi,ow 135 gb,ow 137 gl,ow 103 gt,some ⟨true,30,6,.mx [.row 15 0 ra.length,.row 16 0 ri.length,.row 17 0 rb.length,.row 18 0 rl.length,.row 19 0 rt.length,.sc (.int .i64 rn)]⟩,ow 42 ba,ow 74 bi,ow 135 bb,ow 137 bl,ow 103 bt,ow 3 a,ow 42 ra,ow 74 ri,ow 135 rb,ow 137 rl,ow 103 rt,some ⟨true,30,6,.mx [.row 27 0 ra.length,.row 28 0 ri.length,.row 29 0 rb.length,.row 30 0 rl.length,.row 31 0 rt.length,.sc (.int .i64 rn)]⟩,some ⟨true,66,2,.mx [.sc (.int .i64 c0),.sc (.int .i64 c1)]⟩]⟩) ⟨122,6,[(2,.c (.ptr 6 0 0)),(3,.c (.ptr 7 0 0)),(4,.c (.sc (.bool false))),(6,.c (.ptr 13 0 0)),(7,.c (.ptr 14 0 0)),(10,.c (.ptr 20 0 0)),(13,I u),(14,I v)],bkL ⟨ba,bi,bb,bl,bt,bn⟩ ++ [ro 3 a,some ⟨true,95,6,.mx [.row 0 0 ba.length,.row 1 0 bi.length,.row 2 0 bb.length,.row 3 0 bl.length,.row 4 0 bt.length,.sc (.int .i64 bn)]⟩,some ⟨true,113,2,.mx [.sc (.int .i64 k),.row 5 0 a.length]⟩,ow 42 ra,ow 74 ri,ow 135 rb,ow 137 rl,ow 103 rt,some ⟨true,30,6,.mx [.row 8 0 ra.length,.row 9 0 ri.length,.row 10 0 rb.length,.row 11 0 rl.length,.row 12 0 rt.length,.sc (.int .i64 rn)]⟩,some ⟨true,66,2,.mx [.sc (.int .i64 c0),.sc (.int .i64 c1)]⟩,ow 42 ga,ow 74 gi,ow 135 gb,ow 137 gl,ow 103 gt,some ⟨true,30,6,.mx [.row 15 0 ra.length,.row 16 0 ri.length,.row 17 0 rb.length,.row 18 0 rl.length,.row 19 0 rt.length,.sc (.int .i64 rn)]⟩]⟩:=BV s1 s5 hr zz c (by kernel_rfl) hc
theorem BI {P:Program} {Q:Exit → St → Prop} {id:Nat} {l:List Oper} {y:Code} {st st1 st2:St} (m:List Nat) (hc:Conv st st1 m) (h1:WW P (Code.region id l.toArray true) (jQ st2) st1) (hy:WW P y Q st2):WW P ((Code.region id l.toArray true).seq y) Q st:=⟨tD _ m hc (AE h1 hy).out⟩
theorem jm {ba:List Account} {bi:List Instr} {bb:List Bal} {bl:List Lot} {bt:List Trade} {bn:Int} {k:Int} {a:List Int}:FC Tryz.prog 15 [bkV 0 ⟨ba,bi,bb,bl,bt,bn⟩,.agg [.sc (.int .i64 k),.row 5 0 a.length]] (bkL ⟨ba,bi,bb,bl,bt,bn⟩ ++ [ro 3 a]) (B true) (bkL ⟨ba,bi,bb,bl,bt,bn⟩ ++ [ro 3 a]):=by
 refine al tk 122 [.tmp 4] Tryz.func15 (by kernel_rfl) rfl rfl rfl rfl rfl rfl rfl ?_
 by_cases n1:mL 1048576 ⟨ba,bi,bb,bl,bt,bn⟩ < 0
 ·
  repeat' (first
| intro h9;exfalso;contradiction
| (with_reducible apply yds);rfl
| (with_reducible apply yd);rfl
| intro _
| refine nv ?_
| apply wct rfl
| (with_reducible apply ag);rfl
| (with_reducible apply yc);rfl;(exact iD (by omega));rfl;exact fun _ => rfl
| fail)
  all_goals exact ai [0,1,2,3,4,5] rfl rfl rfl rfl rfl rfl
 have s4:=CN (by omega) n1
 by_cases n2:szN (mL 1048576 ⟨ba,bi,bb,bl,bt,bn⟩) a.length < 0
 ·
  repeat' (first
| intro h9;exfalso;contradiction
| (with_reducible apply yds);rfl
| (with_reducible apply yd);rfl
| intro _
| refine nv ?_
| apply wct rfl
| apply wcf rfl
| (with_reducible apply ag);rfl
| (with_reducible apply yc);rfl;(first | exact iD (by omega) | exact nT (by omega));rfl;exact fun _ => rfl
| fail)
  all_goals exact ai [0,1,2,3,4,5] rfl rfl rfl rfl rfl rfl
 have s1:=CO (by omega) n1
 have s2:=s1.mid
 have s5:a.length ≤ 1048576:=by unfold szN at n2;split at n2 <;> omega
 obtain ⟨⟨ra,ri,rb,rl,rt,rn⟩,c0,c1,hr⟩:∃ r c0 c1,eQ ⟨ba,bi,bb,bl,bt,bn⟩ k a = (r,c0,c1):=⟨_,_,_,rfl⟩
 have s3:=zb (b:=⟨ba,bi,bb,bl,bt,bn⟩) (k:=k) (a:=a)
 rw [hr] at s3
 obtain ⟨q1,q2,q3,q4,q5⟩:=id s1
 have hmk:0 ≤ pe 1 ba.length bi.length bb.length bl.length bt.length ∧ pe 1 ba.length bi.length bb.length bl.length bt.length ≤ 1099511627776 - 10000000:=by
  dsimp only at q1 q2 q3 q4 q5
  unfold pe
  omega
 clear q1 q2 q3 q4 q5
 have hmk2:=B9 (k:=1) (na:=ra.length) (ni:=ri.length) (nb:=rb.length) (nl:=rl.length) (nt:=rt.length) (by decide)
 unfold aV at s3
 dsimp only at s2 s3
 repeat' (first
| intro h9;exfalso;first | contradiction | omega
| (with_reducible apply yds);rfl
| (with_reducible apply yd);rfl
| (with_reducible apply BJ (id:=8) (ns:=[2,3,4]) (m:=[0,1,2,3,4,5,6,7]));rfl;rfl;exact ⟨rfl,rfl,rfl,rfl,rfl,rfl,rfl,rfl⟩;exact AW s1 s5 hr _ (by kernel_rfl)
| refine BI (id:=31) [0,1,2,3,4,5,6,7,14,15,16,17,18,19,20,29,30,31,32,33,34] ?_ (z5 (ga:=dd ra.length 1) (gi:=eL ri.length (1 + 2 * ra.length)) (gb:=ke rb.length (1 + 2 * ra.length + 2 * ri.length)) (gl:=kf rl.length (1 + 2 * ra.length + 2 * ri.length + 3 * rb.length)) (gt:=eM rt.length (1 + 2 * ra.length + 2 * ri.length + 3 * rb.length + 5 * rl.length)) (u:=pe 1 ra.length ri.length rb.length rl.length rt.length) (v:=pe 1 ra.length ri.length rb.length rl.length rt.length) s1 s5 hr _ (by kernel_rfl)) ?_;exact ⟨rfl,rfl,rfl,rfl,rfl,rfl,rfl,rfl⟩
| intro h9;exact (h9 (And.intro rfl rfl)).elim
| intro _
| refine nv ?_
| apply wcf rfl
| (with_reducible apply ag);rfl
| (with_reducible apply yne);rfl
| refine zdq (id:=14) rfl (by kernel_rfl) [(.t,0),(.t,1),(.o,2),(.o,3),(.p,4)] [] (by kernel_rfl) rfl ?_
| refine zdq (id:=16) rfl (by kernel_rfl) [(.t,0),(.t,1),(.o,2),(.o,3),(.p,4)] [] (by kernel_rfl) rfl ?_
| (with_reducible apply yc);rfl;(first | exact iD (by omega) | exact nT (by omega));rfl;exact fun _ => rfl
| (with_reducible apply ycf);rfl;(first | exact eh (by assumption) | exact fK (by omega) | exact dK (by assumption));rfl
| (with_reducible apply ycp);rfl;(first | exact qQ | exact qS | exact tU);rfl
| (with_reducible apply ycw  [true,true,true,true,true]);rfl;exact nS (by omega) (by assumption);rfl
| (with_reducible apply ycw  [true]);rfl;exact qU (by omega) (by omega);rfl
| (with_reducible apply ycq);rfl;exact nR (by omega) (by assumption) (by exact Lens.mk');rfl
| fail)
 all_goals exact ai [0,1,2,3,4,5] rfl rfl rfl rfl rfl rfl
 all_goals trace_state
end Go.Proofs.YtgehbhkfehmdkaaGreat.Sh
