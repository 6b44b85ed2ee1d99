/- A region of the law FnExactCmdApply: the program's call again, one branch. No condition. -/
import Derived.Test.YtgehbhkfehmdkaaGreatKCeShV
import Derived.Test.YtgehbhkfehmdkaaGreatKCeShY2
set_option maxRecDepth 100000
set_option maxHeartbeats 40000000
set_option linter.unusedSimpArgs false
set_option linter.unusedVariables false
namespace Go.Proofs.YtgehbhkfehmdkaaGreat.Sh
open Go.RowKit
def fRl (i:Nat) (b:Code):Option (List Oper):=match fRg i b with
 | some (.region _ l _) => qz l.toList
 | _ => none
theorem D4 {P:Program} {ops:Array Oper} {Q:Exit → St → Prop} {h1:AH} {k k' k2:Sk} {i j m:Nat} {t t' t2:Tr} {st:St} (a:ZT P ops Q h1 (.one k i t) st) (b:ZT P ops Q h1 (.one k' j t') st) (c:ZT P ops Q h1 (.one k2 m t2) st):ZT P ops Q h1 (.three k i t k' j t' k2 m t2) st:=⟨a.out,b.out,c.out⟩
theorem AS {ba:List Account} {bi:List Instr} {bb:List Bal} {bl:List Lot} {bt:List Trade} {bn:Int} {k:Int} {a:List Int} {ra:List Account} {ri:List Instr} {rb:List Bal} {rl:List Lot} {rt:List Trade} {rn c0 c1:Int} {ga:List Account} {gi:List Instr} {gb:List Bal} {gl:List Lot} {gt:List Trade} {u v:Int} (s1:Small ⟨ba,bi,bb,bl,bt,bn⟩) (s5:a.length ≤ 1048576) (hr:eQ ⟨ba,bi,bb,bl,bt,bn⟩ k a = (⟨ra,ri,rb,rl,rt,rn⟩,c0,c1)) (b:Code) (l:List Oper) (hb:(Go.Proofs.Tryz.f15).body = some b) (hc:fRl 31 b = some l):ZT Tryz.prog l.toArray (jQ ⟨122,6,[(4,.c (.sc (.bool false))),(6,.c (.ptr 13 0 0)),(7,.c (.ptr 14 0 0)),(10,.c (.ptr 20 0 0)),(13,I u),(14,I v),(15,.c (.ptr 32 0 0)),(16,.c (.ptr 33 0 0))],bkL ⟨ba,bi,bb,bl,bt,bn⟩ ++ [ro 3 a,some ⟨true,95,6,.mx [.row 0 0 ba.length,.row 1 0 bi.length,.row 2 0 bb.length,.row 3 0 bl.length,.row 4 0 bt.length,.sc (.int .i64 bn)]⟩,some ⟨true,113,2,.mx [.sc (.int .i64 k),.row 5 0 a.length]⟩,ow 42 ra,ow 74 ri,ow 135 rb,ow 137 rl,ow 103 rt,some ⟨true,30,6,.mx [.row 8 0 ra.length,.row 9 0 ri.length,.row 10 0 rb.length,.row 11 0 rl.length,.row 12 0 rt.length,.sc (.int .i64 rn)]⟩,some ⟨true,66,2,.mx [.sc (.int .i64 c0),.sc (.int .i64 c1)]⟩,ow 42 ga,ow 74 gi,ow 135 gb,ow 137 gl,ow 103 gt,some ⟨true,30,6,.mx [.row 15 0 ra.length,.row 16 0 ri.length,.row 17 0 rb.length,.row 18 0 rl.length,.row 19 0 rt.length,.sc (.int .i64 rn)]⟩,ow 42 ba,ow 74 bi,ow 135 bb,ow 137 bl,ow 103 bt,ow 3 a,ow 42 ra,ow 74 ri,ow 135 rb,ow 137 rl,ow 103 rt,some ⟨true,30,6,.mx [.row 27 0 ra.length,.row 28 0 ri.length,.row 29 0 rb.length,.row 30 0 rl.length,.row 31 0 rt.length,.sc (.int .i64 rn)]⟩,some ⟨true,66,2,.mx [.sc (.int .i64 c0),.sc (.int .i64 c1)]⟩]⟩) (bkL ⟨ba,bi,bb,bl,bt,bn⟩ ++ [ro 3 a,some ⟨true,95,6,.mx [.row 0 0 ba.length,.row 1 0 bi.length,.row 2 0 bb.length,.row 3 0 bl.length,.row 4 0 bt.length,.sc (.int .i64 bn)]⟩,some ⟨true,113,2,.mx [.sc (.int .i64 k),.row 5 0 a.length]⟩,ow 42 ra,ow 74 ri,ow 135 rb,ow 137 rl,ow 103 rt,some ⟨true,30,6,.mx [.row 8 0 ra.length,.row 9 0 ri.length,.row 10 0 rb.length,.row 11 0 rl.length,.row 12 0 rt.length,.sc (.int .i64 rn)]⟩,some ⟨true,66,2,.mx [.sc (.int .i64 c0),.sc (.int .i64 c1)]⟩,ow 42 ga,ow 74 gi,ow 135 gb,ow 137 gl,ow 103 gt,some ⟨true,30,6,.mx [.row 15 0 ra.length,.row 16 0 ri.length,.row 17 0 rb.length,.row 18 0 rl.length,.row 19 0 rt.length,.sc (.int .i64 rn)]⟩]) (.one .o 1 (.three .o 3 (.three .o 4 (.one .p 5 (.one .p 6 (.one .p 7 (.two .o 8 (.one .o 9 (.one .l 10 (.one .l 11 .nil))) .o 9 (.one .o 8 (.one .l 10 (.one .l 11 .nil))))))) .o 8 (.two .o 4 (.one .p 5 (.one .p 6 (.one .p 7 (.one .o 9 (.one .l 10 (.one .l 11 .nil)))))) .o 9 (.one .o 4 (.one .p 5 (.one .p 6 (.one .p 7 (.one .l 10 (.one .l 11 .nil))))))) .o 9 (.two .o 4 (.one .p 5 (.one .p 6 (.one .p 7 (.one .o 8 (.one .l 10 (.one .l 11 .nil)))))) .o 8 (.one .o 4 (.one .p 5 (.one .p 6 (.one .p 7 (.one .l 10 (.one .l 11 .nil)))))))) .o 8 (.two .o 3 (.two .o 4 (.one .p 5 (.one .p 6 (.one .p 7 (.one .o 9 (.one .l 10 (.one .l 11 .nil)))))) .o 9 (.one .o 4 (.one .p 5 (.one .p 6 (.one .p 7 (.one .l 10 (.one .l 11 .nil))))))) .o 9 (.one .o 3 (.one .o 4 (.one .p 5 (.one .p 6 (.one .p 7 (.one .l 10 (.one .l 11 .nil)))))))) .o 9 (.two .o 3 (.two .o 4 (.one .p 5 (.one .p 6 (.one .p 7 (.one .o 8 (.one .l 10 (.one .l 11 .nil)))))) .o 8 (.one .o 4 (.one .p 5 (.one .p 6 (.one .p 7 (.one .l 10 (.one .l 11 .nil))))))) .o 8 (.one .o 3 (.one .o 4 (.one .p 5 (.one .p 6 (.one .p 7 (.one .l 10 (.one .l 11 .nil)))))))))) ⟨122,6,[(99,.agg [.sc (.int .i64 k),.row 5 0 a.length]),(97,.agg [.row 0 0 ba.length,.row 1 0 bi.length,.row 2 0 bb.length,.row 3 0 bl.length,.row 4 0 bt.length,.sc (.int .i64 bn)]),(2,.c (.ptr 6 0 0)),(3,.c (.ptr 7 0 0)),(4,.c (.sc (.bool false))),(6,.c (.ptr 13 0 0)),(7,.c (.ptr 14 0 0)),(10,.c (.ptr 20 0 0)),(13,I u),(14,I v)],bkL ⟨ba,bi,bb,bl,bt,bn⟩ ++ [ro 3 a,some ⟨true,95,6,.mx [.row 0 0 ba.length,.row 1 0 bi.length,.row 2 0 bb.length,.row 3 0 bl.length,.row 4 0 bt.length,.sc (.int .i64 bn)]⟩,some ⟨true,113,2,.mx [.sc (.int .i64 k),.row 5 0 a.length]⟩,ow 42 ra,ow 74 ri,ow 135 rb,ow 137 rl,ow 103 rt,some ⟨true,30,6,.mx [.row 8 0 ra.length,.row 9 0 ri.length,.row 10 0 rb.length,.row 11 0 rl.length,.row 12 0 rt.length,.sc (.int .i64 rn)]⟩,some ⟨true,66,2,.mx [.sc (.int .i64 c0),.sc (.int .i64 c1)]⟩,ow 42 ga,ow 74 gi,ow 135 gb,ow 137 gl,ow 103 gt,some ⟨true,30,6,.mx [.row 15 0 ra.length,.row 16 0 ri.length,.row 17 0 rb.length,.row 18 0 rl.length,.row 19 0 rt.length,.sc (.int .i64 rn)]⟩]⟩:=by
 cases hb
 cases hc
 repeat' (first
| (with_reducible apply yd);rfl
| (with_reducible apply d6 (m:=[0,1,2,3,4,5,6,7,8,9,10,11,12,13,14,15,16,17,18,19,20,21,22,23,24,25,26,27,28,29,30,31,32,33]));rfl;exact ⟨rfl,rfl,rfl,rfl,rfl,rfl,rfl,rfl⟩
| (with_reducible apply d6 (m:=[0,1,2,3,4,5,6,7,8,9,10,11,12,13,14,15,16,17,18,19,20,21,22,23,24,25,26,27,28,29,30,31,33,32]));rfl;exact ⟨rfl,rfl,rfl,rfl,rfl,rfl,rfl,rfl⟩
| (with_reducible apply d6 (m:=[0,1,2,3,4,5,6,7,8,9,10,11,12,13,14,15,16,17,18,19,20,21,22,23,24,25,26,28,29,30,31,32,27,33]));rfl;exact ⟨rfl,rfl,rfl,rfl,rfl,rfl,rfl,rfl⟩
| (with_reducible apply d6 (m:=[0,1,2,3,4,5,6,7,8,9,10,11,12,13,14,15,16,17,18,19,20,21,22,23,24,25,26,29,30,31,32,33,27,28]));rfl;exact ⟨rfl,rfl,rfl,rfl,rfl,rfl,rfl,rfl⟩
| (with_reducible apply d6 (m:=[0,1,2,3,4,5,6,7,8,9,10,11,12,13,14,15,16,17,18,19,20,21,22,23,24,25,26,28,29,30,31,32,33,27]));rfl;exact ⟨rfl,rfl,rfl,rfl,rfl,rfl,rfl,rfl⟩
| (with_reducible apply d6 (m:=[0,1,2,3,4,5,6,7,8,9,10,11,12,13,14,15,16,17,18,19,20,21,22,23,24,25,26,29,30,31,32,33,28,27]));rfl;exact ⟨rfl,rfl,rfl,rfl,rfl,rfl,rfl,rfl⟩
| (with_reducible apply d6 (m:=[0,1,2,3,4,5,6,7,8,9,10,11,12,13,14,15,16,17,18,19,20,21,22,23,24,25,27,28,29,30,31,32,26,33]));rfl;exact ⟨rfl,rfl,rfl,rfl,rfl,rfl,rfl,rfl⟩
| (with_reducible apply d6 (m:=[0,1,2,3,4,5,6,7,8,9,10,11,12,13,14,15,16,17,18,19,20,21,22,23,24,25,27,29,30,31,32,33,26,28]));rfl;exact ⟨rfl,rfl,rfl,rfl,rfl,rfl,rfl,rfl⟩
| (with_reducible apply d6 (m:=[0,1,2,3,4,5,6,7,8,9,10,11,12,13,14,15,16,17,18,19,20,21,22,23,24,25,28,29,30,31,32,33,26,27]));rfl;exact ⟨rfl,rfl,rfl,rfl,rfl,rfl,rfl,rfl⟩
| (with_reducible apply d6 (m:=[0,1,2,3,4,5,6,7,8,9,10,11,12,13,14,15,16,17,18,19,20,21,22,23,24,25,27,28,29,30,31,32,33,26]));rfl;exact ⟨rfl,rfl,rfl,rfl,rfl,rfl,rfl,rfl⟩
| (with_reducible apply d6 (m:=[0,1,2,3,4,5,6,7,8,9,10,11,12,13,14,15,16,17,18,19,20,21,22,23,24,25,27,29,30,31,32,33,28,26]));rfl;exact ⟨rfl,rfl,rfl,rfl,rfl,rfl,rfl,rfl⟩
| (with_reducible apply d6 (m:=[0,1,2,3,4,5,6,7,8,9,10,11,12,13,14,15,16,17,18,19,20,21,22,23,24,25,28,29,30,31,32,33,27,26]));rfl;exact ⟨rfl,rfl,rfl,rfl,rfl,rfl,rfl,rfl⟩
| refine nv ?_
| (with_reducible apply zt1);rfl
| (with_reducible apply zt2);rfl;rfl
| (with_reducible apply zt3);rfl;rfl;rfl
| with_reducible apply zt0
| with_reducible apply rg
| (with_reducible apply ycf);rfl;(first | exact eh (by assumption) | exact fK (by omega) | exact dK (by assumption));rfl
| fail)
end Go.Proofs.YtgehbhkfehmdkaaGreat.Sh
