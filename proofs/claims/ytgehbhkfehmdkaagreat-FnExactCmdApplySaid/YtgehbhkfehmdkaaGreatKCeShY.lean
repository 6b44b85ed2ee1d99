/- The laws' own functions uf rows. No condition. -/
import Derived.Test.YtgehbhkfehmdkaaGreatKCeShV
import Derived.Test.YtgehbhkfehmdkaaGreatKCeShN
set_option maxRecDepth 100000
set_option maxHeartbeats 40000000
set_option linter.unusedSimpArgs false
set_option linter.unusedVariables false
namespace Go.Proofs.YtgehbhkfehmdkaaGreat.Sh
open Go.RowKit
theorem iK {α:Type} [Enc α] {l:List α} {i j:Int} {x:α} (h:0 ≤ i ∧ i < l.length) (hj:0 ≤ j):rd (upd l i x) j = if j = i then x else rd l j:=by
 unfold rd upd
 rw [List.getD_eq_getElem?_getD,List.getD_eq_getElem?_getD,List.getElem?_set]
 by_cases e:j = i
 ·subst e
  rw [if_pos rfl,if_pos (by omega),if_pos rfl]
  rfl
 ·rw [if_neg (by omega),if_neg e]
theorem oh {α:Type} [Enc α] {l:List α} {i j:Int} {x:α} (h:0 ≤ i ∧ i < l.length) (hj:0 ≤ j):rd (l.set i.toNat x) j = if j = i then x else rd l j:=iK h hj
theorem ld {α:Type} [Enc α] {l:List α} {i:Int} {x:α} (h:0 ≤ i ∧ i < l.length):rd (upd l i x) i = x:=by rw [iK h h.1,if_pos rfl]
theorem lv {α:Type} (l:List α) (i:Int) (x y:α):upd (upd l i x) i y = upd l i y:=by simp [upd]
theorem bw {α:Type} [Enc α] {l m:List α} (hl:l.length = m.length) (h:∀ j:Int,0 ≤ j → j < l.length → rd l j = rd m j):l = m:=by
 refine List.ext_getElem hl (fun i h1 h2 => ?_)
 have:=h i (by omega) (by omega)
 simpa [rd,List.getD_eq_getElem?_getD,h1,h2] using this
theorem nU {a0 a1:Int}:FC Tryz.prog 265 [.agg [.sc (.int .i64 a0),.sc (.int .i64 a1)]] ([]) (.agg [.sc (.int .i64 a0),.sc (.int .i64 a1)]) ([]):=by
 refine al tk 11 [.cell 2 _] Tryz.func265 (by kernel_rfl) rfl rfl rfl rfl rfl rfl rfl ?_
 repeat' (first
| apply yds;rfl
| apply yd;rfl
| refine nv ?_
| fail)
 all_goals exact ai [] rfl rfl rfl rfl rfl rfl
theorem mG {l:List Account} (hl:l.length ≤ 1048576):FC Tryz.prog 180 [.c (.row 0 0 l.length)] ([ro 245 l]) (.c (.row 1 0 l.length)) ([ro 245 l,ow 42 l]):=by
 refine al tk 23 [.tmp 2] Tryz.func180 (by kernel_rfl) rfl rfl rfl rfl rfl rfl rfl ?_
 repeat' (first
| apply yds;rfl
| apply yd;rfl
| refine nv ?_
| apply zmk (α:=Account) (e:=42);rfl;exact tk;(iterate 8 rfl);(refine ⟨?_,?_,?_⟩ <;> first | omega | (dsimp only;omega));rfl;rfl;rfl
| fail)
 refine dy (X:=Int × List Account) (fun p => 0 ≤ p.1 ∧ p.1 ≤ l.length ∧ p.2.length = l.length ∧ ∀ j:Int,0 ≤ j → j < p.1 → rd p.2 j = rd l j) (fun p => ⟨23,1,[(0,.c (.row 0 0 l.length)),(3,.c (.row 1 0 l.length)),(4,I p.1)],[ro 245 l,ow 42 p.2]⟩) (fun p => (l.length - p.1).toNat) (0,List.replicate l.length Enc.z) [0,1] ⟨by dsimp only;omega,by dsimp only;omega,by simp,fun j h0 h1 => by dsimp only at h1;omega⟩ ⟨rfl,rfl,rfl,rfl,rfl,rfl,rfl,rfl⟩ (fun p hp => ?_)
 obtain ⟨i,xs⟩:=p
 obtain ⟨h0,hi,hlen,hall⟩:=hp
 dsimp only at h0 hi hlen hall ⊢
 repeat' (first
| apply yds;rfl
| apply yd;rfl
| intro _
| refine nv ?_
| apply wct rfl
| apply wcf rfl
| apply ae rfl
| apply ag;rfl
| apply yar;rfl;omega
| apply yix;rfl;omega
| apply yle;rfl;omega
| apply zse;rfl;exact tk;(iterate 6 rfl);omega;rfl;rfl;rfl;rfl;rfl
| apply yc;rfl;exact nU;rfl;exact fun _ => rfl
| fail)
 all_goals first
  | (obtain rfl:xs = l:=bw hlen (fun j h1 h2 => hall j h1 (by omega))
     exact ai [0,1] rfl rfl rfl rfl rfl rfl)
  | exact ⟨(i + 1,upd xs i (rd l i)),[0,1],⟨by dsimp only;omega,by dsimp only;omega,by simp [aF,hlen],fun j h1 h2 => by
     dsimp only at h2 ⊢
     rw [iK (by omega) h1]
     split
     ·rename_i e;rw [e]
     ·exact hall j h1 (by omega)⟩,by dsimp only;omega,rfl,rfl,rfl,rfl,rfl,rfl,rfl,rfl⟩
theorem qV {a0 a1:Int}:FC Tryz.prog 266 [.agg [.sc (.int .i64 a0),.sc (.int .i64 a1)]] ([]) (.agg [.sc (.int .i64 a0),.sc (.int .i64 a1)]) ([]):=by
 refine al tk 11 [.cell 2 _] Tryz.func266 (by kernel_rfl) rfl rfl rfl rfl rfl rfl rfl ?_
 repeat' (first
| apply yds;rfl
| apply yd;rfl
| refine nv ?_
| fail)
 all_goals exact ai [] rfl rfl rfl rfl rfl rfl
theorem pc {l:List Instr} (hl:l.length ≤ 1048576):FC Tryz.prog 181 [.c (.row 0 0 l.length)] ([ro 247 l]) (.c (.row 1 0 l.length)) ([ro 247 l,ow 74 l]):=by
 refine al tk 23 [.tmp 2] Tryz.func181 (by kernel_rfl) rfl rfl rfl rfl rfl rfl rfl ?_
 repeat' (first
| apply yds;rfl
| apply yd;rfl
| refine nv ?_
| apply zmk (α:=Instr) (e:=74);rfl;exact tk;(iterate 8 rfl);(refine ⟨?_,?_,?_⟩ <;> first | omega | (dsimp only;omega));rfl;rfl;rfl
| fail)
 refine dy (X:=Int × List Instr) (fun p => 0 ≤ p.1 ∧ p.1 ≤ l.length ∧ p.2.length = l.length ∧ ∀ j:Int,0 ≤ j → j < p.1 → rd p.2 j = rd l j) (fun p => ⟨23,1,[(0,.c (.row 0 0 l.length)),(3,.c (.row 1 0 l.length)),(4,I p.1)],[ro 247 l,ow 74 p.2]⟩) (fun p => (l.length - p.1).toNat) (0,List.replicate l.length Enc.z) [0,1] ⟨by dsimp only;omega,by dsimp only;omega,by simp,fun j h0 h1 => by dsimp only at h1;omega⟩ ⟨rfl,rfl,rfl,rfl,rfl,rfl,rfl,rfl⟩ (fun p hp => ?_)
 obtain ⟨i,xs⟩:=p
 obtain ⟨h0,hi,hlen,hall⟩:=hp
 dsimp only at h0 hi hlen hall ⊢
 repeat' (first
| apply yds;rfl
| apply yd;rfl
| intro _
| refine nv ?_
| apply wct rfl
| apply wcf rfl
| apply ae rfl
| apply ag;rfl
| apply yar;rfl;omega
| apply yix;rfl;omega
| apply yle;rfl;omega
| apply zse;rfl;exact tk;(iterate 6 rfl);omega;rfl;rfl;rfl;rfl;rfl
| apply yc;rfl;exact qV;rfl;exact fun _ => rfl
| fail)
 all_goals first
  | (obtain rfl:xs = l:=bw hlen (fun j h1 h2 => hall j h1 (by omega))
     exact ai [0,1] rfl rfl rfl rfl rfl rfl)
  | exact ⟨(i + 1,upd xs i (rd l i)),[0,1],⟨by dsimp only;omega,by dsimp only;omega,by simp [aF,hlen],fun j h1 h2 => by
     dsimp only at h2 ⊢
     rw [iK (by omega) h1]
     split
     ·rename_i e;rw [e]
     ·exact hall j h1 (by omega)⟩,by dsimp only;omega,rfl,rfl,rfl,rfl,rfl,rfl,rfl,rfl⟩
theorem tW {a0 a1 a2:Int}:FC Tryz.prog 267 [.agg [.sc (.int .i64 a0),.sc (.int .i64 a1),.sc (.int .i64 a2)]] ([]) (.agg [.sc (.int .i64 a0),.sc (.int .i64 a1),.sc (.int .i64 a2)]) ([]):=by
 refine al tk 14 [.cell 2 _] Tryz.func267 (by kernel_rfl) rfl rfl rfl rfl rfl rfl rfl ?_
 repeat' (first
| apply yds;rfl
| apply yd;rfl
| refine nv ?_
| fail)
 all_goals exact ai [] rfl rfl rfl rfl rfl rfl
theorem sL {l:List Bal} (hl:l.length ≤ 1048576):FC Tryz.prog 182 [.c (.row 0 0 l.length)] ([ro 249 l]) (.c (.row 1 0 l.length)) ([ro 249 l,ow 135 l]):=by
 refine al tk 23 [.tmp 2] Tryz.func182 (by kernel_rfl) rfl rfl rfl rfl rfl rfl rfl ?_
 repeat' (first
| apply yds;rfl
| apply yd;rfl
| refine nv ?_
| apply zmk (α:=Bal) (e:=135);rfl;exact tk;(iterate 8 rfl);(refine ⟨?_,?_,?_⟩ <;> first | omega | (dsimp only;omega));rfl;rfl;rfl
| fail)
 refine dy (X:=Int × List Bal) (fun p => 0 ≤ p.1 ∧ p.1 ≤ l.length ∧ p.2.length = l.length ∧ ∀ j:Int,0 ≤ j → j < p.1 → rd p.2 j = rd l j) (fun p => ⟨23,1,[(0,.c (.row 0 0 l.length)),(3,.c (.row 1 0 l.length)),(4,I p.1)],[ro 249 l,ow 135 p.2]⟩) (fun p => (l.length - p.1).toNat) (0,List.replicate l.length Enc.z) [0,1] ⟨by dsimp only;omega,by dsimp only;omega,by simp,fun j h0 h1 => by dsimp only at h1;omega⟩ ⟨rfl,rfl,rfl,rfl,rfl,rfl,rfl,rfl⟩ (fun p hp => ?_)
 obtain ⟨i,xs⟩:=p
 obtain ⟨h0,hi,hlen,hall⟩:=hp
 dsimp only at h0 hi hlen hall ⊢
 repeat' (first
| apply yds;rfl
| apply yd;rfl
| intro _
| refine nv ?_
| apply wct rfl
| apply wcf rfl
| apply ae rfl
| apply ag;rfl
| apply yar;rfl;omega
| apply yix;rfl;omega
| apply yle;rfl;omega
| apply zse;rfl;exact tk;(iterate 6 rfl);omega;rfl;rfl;rfl;rfl;rfl
| apply yc;rfl;exact tW;rfl;exact fun _ => rfl
| fail)
 all_goals first
  | (obtain rfl:xs = l:=bw hlen (fun j h1 h2 => hall j h1 (by omega))
     exact ai [0,1] rfl rfl rfl rfl rfl rfl)
  | exact ⟨(i + 1,upd xs i (rd l i)),[0,1],⟨by dsimp only;omega,by dsimp only;omega,by simp [aF,hlen],fun j h1 h2 => by
     dsimp only at h2 ⊢
     rw [iK (by omega) h1]
     split
     ·rename_i e;rw [e]
     ·exact hall j h1 (by omega)⟩,by dsimp only;omega,rfl,rfl,rfl,rfl,rfl,rfl,rfl,rfl⟩
theorem tX {a0 a1 a2 a3 a4:Int}:FC Tryz.prog 268 [.agg [.sc (.int .i64 a0),.sc (.int .i64 a1),.sc (.int .i64 a2),.sc (.int .i64 a3),.sc (.int .i64 a4)]] ([]) (.agg [.sc (.int .i64 a0),.sc (.int .i64 a1),.sc (.int .i64 a2),.sc (.int .i64 a3),.sc (.int .i64 a4)]) ([]):=by
 refine al tk 20 [.cell 2 _] Tryz.func268 (by kernel_rfl) rfl rfl rfl rfl rfl rfl rfl ?_
 repeat' (first
| apply yds;rfl
| apply yd;rfl
| refine nv ?_
| fail)
 all_goals exact ai [] rfl rfl rfl rfl rfl rfl
theorem sN {l:List Lot} (hl:l.length ≤ 1048576):FC Tryz.prog 183 [.c (.row 0 0 l.length)] ([ro 251 l]) (.c (.row 1 0 l.length)) ([ro 251 l,ow 137 l]):=by
 refine al tk 23 [.tmp 2] Tryz.func183 (by kernel_rfl) rfl rfl rfl rfl rfl rfl rfl ?_
 repeat' (first
| apply yds;rfl
| apply yd;rfl
| refine nv ?_
| apply zmk (α:=Lot) (e:=137);rfl;exact tk;(iterate 8 rfl);(refine ⟨?_,?_,?_⟩ <;> first | omega | (dsimp only;omega));rfl;rfl;rfl
| fail)
 refine dy (X:=Int × List Lot) (fun p => 0 ≤ p.1 ∧ p.1 ≤ l.length ∧ p.2.length = l.length ∧ ∀ j:Int,0 ≤ j → j < p.1 → rd p.2 j = rd l j) (fun p => ⟨23,1,[(0,.c (.row 0 0 l.length)),(3,.c (.row 1 0 l.length)),(4,I p.1)],[ro 251 l,ow 137 p.2]⟩) (fun p => (l.length - p.1).toNat) (0,List.replicate l.length Enc.z) [0,1] ⟨by dsimp only;omega,by dsimp only;omega,by simp,fun j h0 h1 => by dsimp only at h1;omega⟩ ⟨rfl,rfl,rfl,rfl,rfl,rfl,rfl,rfl⟩ (fun p hp => ?_)
 obtain ⟨i,xs⟩:=p
 obtain ⟨h0,hi,hlen,hall⟩:=hp
 dsimp only at h0 hi hlen hall ⊢
 repeat' (first
| apply yds;rfl
| apply yd;rfl
| intro _
| refine nv ?_
| apply wct rfl
| apply wcf rfl
| apply ae rfl
| apply ag;rfl
| apply yar;rfl;omega
| apply yix;rfl;omega
| apply yle;rfl;omega
| apply zse;rfl;exact tk;(iterate 6 rfl);omega;rfl;rfl;rfl;rfl;rfl
| apply yc;rfl;exact tX;rfl;exact fun _ => rfl
| fail)
 all_goals first
  | (obtain rfl:xs = l:=bw hlen (fun j h1 h2 => hall j h1 (by omega))
     exact ai [0,1] rfl rfl rfl rfl rfl rfl)
  | exact ⟨(i + 1,upd xs i (rd l i)),[0,1],⟨by dsimp only;omega,by dsimp only;omega,by simp [aF,hlen],fun j h1 h2 => by
     dsimp only at h2 ⊢
     rw [iK (by omega) h1]
     split
     ·rename_i e;rw [e]
     ·exact hall j h1 (by omega)⟩,by dsimp only;omega,rfl,rfl,rfl,rfl,rfl,rfl,rfl,rfl⟩
theorem qW {a0 a1 a2 a3 a4 a5 a6 a7:Int}:FC Tryz.prog 269 [.agg [.sc (.int .i64 a0),.sc (.int .i64 a1),.sc (.int .i64 a2),.sc (.int .i64 a3),.sc (.int .i64 a4),.sc (.int .i64 a5),.sc (.int .i64 a6),.sc (.int .i64 a7)]] ([]) (.agg [.sc (.int .i64 a0),.sc (.int .i64 a1),.sc (.int .i64 a2),.sc (.int .i64 a3),.sc (.int .i64 a4),.sc (.int .i64 a5),.sc (.int .i64 a6),.sc (.int .i64 a7)]) ([]):=by
 refine al tk 29 [.cell 2 _] Tryz.func269 (by kernel_rfl) rfl rfl rfl rfl rfl rfl rfl ?_
 repeat' (first
| apply yds;rfl
| apply yd;rfl
| refine nv ?_
| fail)
 all_goals exact ai [] rfl rfl rfl rfl rfl rfl
theorem pd {l:List Trade} (hl:l.length ≤ 1048576):FC Tryz.prog 184 [.c (.row 0 0 l.length)] ([ro 253 l]) (.c (.row 1 0 l.length)) ([ro 253 l,ow 103 l]):=by
 refine al tk 23 [.tmp 2] Tryz.func184 (by kernel_rfl) rfl rfl rfl rfl rfl rfl rfl ?_
 repeat' (first
| apply yds;rfl
| apply yd;rfl
| refine nv ?_
| apply zmk (α:=Trade) (e:=103);rfl;exact tk;(iterate 8 rfl);(refine ⟨?_,?_,?_⟩ <;> first | omega | (dsimp only;omega));rfl;rfl;rfl
| fail)
 refine dy (X:=Int × List Trade) (fun p => 0 ≤ p.1 ∧ p.1 ≤ l.length ∧ p.2.length = l.length ∧ ∀ j:Int,0 ≤ j → j < p.1 → rd p.2 j = rd l j) (fun p => ⟨23,1,[(0,.c (.row 0 0 l.length)),(3,.c (.row 1 0 l.length)),(4,I p.1)],[ro 253 l,ow 103 p.2]⟩) (fun p => (l.length - p.1).toNat) (0,List.replicate l.length Enc.z) [0,1] ⟨by dsimp only;omega,by dsimp only;omega,by simp,fun j h0 h1 => by dsimp only at h1;omega⟩ ⟨rfl,rfl,rfl,rfl,rfl,rfl,rfl,rfl⟩ (fun p hp => ?_)
 obtain ⟨i,xs⟩:=p
 obtain ⟨h0,hi,hlen,hall⟩:=hp
 dsimp only at h0 hi hlen hall ⊢
 repeat' (first
| apply yds;rfl
| apply yd;rfl
| intro _
| refine nv ?_
| apply wct rfl
| apply wcf rfl
| apply ae rfl
| apply ag;rfl
| apply yar;rfl;omega
| apply yix;rfl;omega
| apply yle;rfl;omega
| apply zse;rfl;exact tk;(iterate 6 rfl);omega;rfl;rfl;rfl;rfl;rfl
| apply yc;rfl;exact qW;rfl;exact fun _ => rfl
| fail)
 all_goals first
  | (obtain rfl:xs = l:=bw hlen (fun j h1 h2 => hall j h1 (by omega))
     exact ai [0,1] rfl rfl rfl rfl rfl rfl)
  | exact ⟨(i + 1,upd xs i (rd l i)),[0,1],⟨by dsimp only;omega,by dsimp only;omega,by simp [aF,hlen],fun j h1 h2 => by
     dsimp only at h2 ⊢
     rw [iK (by omega) h1]
     split
     ·rename_i e;rw [e]
     ·exact hall j h1 (by omega)⟩,by dsimp only;omega,rfl,rfl,rfl,rfl,rfl,rfl,rfl,rfl⟩
def szN (left:Int) (n:Nat):Int:=if left - n < 0 then -1 else left - n
theorem szr {x:Int} {n:Nat} (h:0 ≤ x ∧ x ≤ 1048576) (hn:¬ szN x n < 0):0 ≤ szN x n ∧ szN x n ≤ 1048576:=by
 unfold szN at *
 split at hn
 ·omega
 ·rename_i h1
  rw [if_neg h1]
  omega
theorem mF {l:List Account} {left:Int} (hl:0 ≤ left ∧ left ≤ 1048576):FC Tryz.prog 175 [.c (.row 0 0 l.length),I left] ([ro 245 l]) (I (szN left l.length)) ([ro 245 l]):=by
 refine al tk 12 [.tmp 4] Tryz.func175 (by kernel_rfl) rfl rfl rfl rfl rfl rfl rfl ?_
 refine cj l 0 rfl (fun hlen => ?_)
 repeat' (first
| apply yds;rfl
| apply yd;rfl
| intro _
| refine nv ?_
| apply wct rfl
| apply wcf rfl
| apply ag;rfl
| apply yar;rfl;omega
| fail)
 all_goals exact bO [0] rfl rfl rfl rfl rfl rfl (by unfold szN;split <;> omega)
theorem nP {a0 a1 b0 b1:Int}:FC Tryz.prog 270 [.agg [.sc (.int .i64 a0),.sc (.int .i64 a1)],.agg [.sc (.int .i64 b0),.sc (.int .i64 b1)]] ([]) (B (dB (a0 = b0 ∧ a1 = b1))) ([]):=by
 refine al tk 15 [.tmp 4] Tryz.func270 (by kernel_rfl) rfl rfl rfl rfl rfl rfl rfl ?_
 repeat' (first
| apply yds;rfl
| apply yd;rfl
| intro _
| refine nv ?_
| apply wct rfl
| apply wcf rfl
| apply yne;rfl
| fail)
 all_goals first | exact bp [] rfl rfl rfl rfl rfl rfl (by simp_all) | exact aQ [] rfl rfl rfl rfl rfl rfl (by simp_all)
theorem mA {l m:List Account}:FC Tryz.prog 185 [.c (.row 0 0 l.length),.c (.row 1 0 m.length)] ([ro 42 l,ro 42 m]) (B (dB (l = m))) ([ro 42 l,ro 42 m]):=by
 refine al tk 27 [.tmp 4] Tryz.func185 (by kernel_rfl) rfl rfl rfl rfl rfl rfl rfl ?_
 refine cj l 0 rfl (fun hl => ?_)
 repeat' (first
| apply yds;rfl
| apply yd;rfl
| intro _
| refine nv ?_
| apply wct rfl
| apply wcf rfl
| apply yne;rfl
| fail)
 ·rename_i hne
  exact aQ [0,1] rfl rfl rfl rfl rfl rfl (fun e => hne (by rw [e]))
 ·rename_i hlen
  refine dy (X:=Int) (fun i => 0 ≤ i ∧ i ≤ l.length ∧ ∀ j:Int,0 ≤ j → j < i → rd l j = rd m j) (fun i => ⟨27,2,[(0,.c (.row 0 0 l.length)),(1,.c (.row 1 0 m.length)),(5,I i)],[ro 42 l,ro 42 m]⟩) (fun i => (l.length - i).toNat) 0 [0,1] ⟨by omega,by omega,fun j h0 h1 => by omega⟩ ⟨rfl,rfl,rfl,rfl,rfl,rfl,rfl,rfl⟩ (fun i hi => ?_)
  obtain ⟨h0,hi,hall⟩:=hi
  repeat' (first
| apply yds;rfl
| apply yd;rfl
| intro _
| refine nv ?_
| apply wct rfl
| apply wcf rfl
| apply ae rfl
| apply ag;rfl
| apply yar;rfl;omega
| apply yix;rfl;omega
| apply yle;rfl;omega
| refine zdq (id:=6) rfl (by kernel_rfl) [(.p,0),(.p,1),(.p,2),(.p,4),(.p,5),(.p,6),(.t,3),(.t,7),(.o,8),(.p,9)] [] (by kernel_rfl) rfl ?_
| apply ycp;rfl;exact nP;rfl
| fail)
  all_goals first
   | exact bp [0,1] rfl rfl rfl rfl rfl rfl (bw (by omega) (fun j h1 h2 => hall j h1 (by omega)))
   | exact aQ [0,1] rfl rfl rfl rfl rfl rfl (fun e => by subst e;simp_all)
   | exact ⟨i + 1,[0,1],⟨by omega,by omega,ay hall (by rename_i h;obtain ⟨e0,e1⟩:=h;generalize rd l i = x at *;generalize rd m i = y at *;cases x;cases y;simp_all)⟩,by dsimp only;omega,rfl,rfl,rfl,rfl,rfl,rfl,rfl,rfl⟩
theorem p9 {l:List Instr} {left:Int} (hl:0 ≤ left ∧ left ≤ 1048576):FC Tryz.prog 176 [.c (.row 0 0 l.length),I left] ([ro 247 l]) (I (szN left l.length)) ([ro 247 l]):=by
 refine al tk 12 [.tmp 4] Tryz.func176 (by kernel_rfl) rfl rfl rfl rfl rfl rfl rfl ?_
 refine cj l 0 rfl (fun hlen => ?_)
 repeat' (first
| apply yds;rfl
| apply yd;rfl
| intro _
| refine nv ?_
| apply wct rfl
| apply wcf rfl
| apply ag;rfl
| apply yar;rfl;omega
| fail)
 all_goals exact bO [0] rfl rfl rfl rfl rfl rfl (by unfold szN;split <;> omega)
theorem qR {a0 a1 b0 b1:Int}:FC Tryz.prog 271 [.agg [.sc (.int .i64 a0),.sc (.int .i64 a1)],.agg [.sc (.int .i64 b0),.sc (.int .i64 b1)]] ([]) (B (dB (a0 = b0 ∧ a1 = b1))) ([]):=by
 refine al tk 15 [.tmp 4] Tryz.func271 (by kernel_rfl) rfl rfl rfl rfl rfl rfl rfl ?_
 repeat' (first
| apply yds;rfl
| apply yd;rfl
| intro _
| refine nv ?_
| apply wct rfl
| apply wcf rfl
| apply yne;rfl
| fail)
 all_goals first | exact bp [] rfl rfl rfl rfl rfl rfl (by simp_all) | exact aQ [] rfl rfl rfl rfl rfl rfl (by simp_all)
theorem oW {l m:List Instr}:FC Tryz.prog 186 [.c (.row 0 0 l.length),.c (.row 1 0 m.length)] ([ro 74 l,ro 74 m]) (B (dB (l = m))) ([ro 74 l,ro 74 m]):=by
 refine al tk 27 [.tmp 4] Tryz.func186 (by kernel_rfl) rfl rfl rfl rfl rfl rfl rfl ?_
 refine cj l 0 rfl (fun hl => ?_)
 repeat' (first
| apply yds;rfl
| apply yd;rfl
| intro _
| refine nv ?_
| apply wct rfl
| apply wcf rfl
| apply yne;rfl
| fail)
 ·rename_i hne
  exact aQ [0,1] rfl rfl rfl rfl rfl rfl (fun e => hne (by rw [e]))
 ·rename_i hlen
  refine dy (X:=Int) (fun i => 0 ≤ i ∧ i ≤ l.length ∧ ∀ j:Int,0 ≤ j → j < i → rd l j = rd m j) (fun i => ⟨27,2,[(0,.c (.row 0 0 l.length)),(1,.c (.row 1 0 m.length)),(5,I i)],[ro 74 l,ro 74 m]⟩) (fun i => (l.length - i).toNat) 0 [0,1] ⟨by omega,by omega,fun j h0 h1 => by omega⟩ ⟨rfl,rfl,rfl,rfl,rfl,rfl,rfl,rfl⟩ (fun i hi => ?_)
  obtain ⟨h0,hi,hall⟩:=hi
  repeat' (first
| apply yds;rfl
| apply yd;rfl
| intro _
| refine nv ?_
| apply wct rfl
| apply wcf rfl
| apply ae rfl
| apply ag;rfl
| apply yar;rfl;omega
| apply yix;rfl;omega
| apply yle;rfl;omega
| refine zdq (id:=6) rfl (by kernel_rfl) [(.p,0),(.p,1),(.p,2),(.p,4),(.p,5),(.p,6),(.t,3),(.t,7),(.o,8),(.p,9)] [] (by kernel_rfl) rfl ?_
| apply ycp;rfl;exact qR;rfl
| fail)
  all_goals first
   | exact bp [0,1] rfl rfl rfl rfl rfl rfl (bw (by omega) (fun j h1 h2 => hall j h1 (by omega)))
   | exact aQ [0,1] rfl rfl rfl rfl rfl rfl (fun e => by subst e;simp_all)
   | exact ⟨i + 1,[0,1],⟨by omega,by omega,ay hall (by rename_i h;obtain ⟨e0,e1⟩:=h;generalize rd l i = x at *;generalize rd m i = y at *;cases x;cases y;simp_all)⟩,by dsimp only;omega,rfl,rfl,rfl,rfl,rfl,rfl,rfl,rfl⟩
theorem sI {l:List Bal} {left:Int} (hl:0 ≤ left ∧ left ≤ 1048576):FC Tryz.prog 177 [.c (.row 0 0 l.length),I left] ([ro 249 l]) (I (szN left l.length)) ([ro 249 l]):=by
 refine al tk 12 [.tmp 4] Tryz.func177 (by kernel_rfl) rfl rfl rfl rfl rfl rfl rfl ?_
 refine cj l 0 rfl (fun hlen => ?_)
 repeat' (first
| apply yds;rfl
| apply yd;rfl
| intro _
| refine nv ?_
| apply wct rfl
| apply wcf rfl
| apply ag;rfl
| apply yar;rfl;omega
| fail)
 all_goals exact bO [0] rfl rfl rfl rfl rfl rfl (by unfold szN;split <;> omega)
theorem tT {a0 a1 a2 b0 b1 b2:Int}:FC Tryz.prog 272 [.agg [.sc (.int .i64 a0),.sc (.int .i64 a1),.sc (.int .i64 a2)],.agg [.sc (.int .i64 b0),.sc (.int .i64 b1),.sc (.int .i64 b2)]] ([]) (B (dB (a0 = b0 ∧ a1 = b1 ∧ a2 = b2))) ([]):=by
 refine al tk 20 [.tmp 4] Tryz.func272 (by kernel_rfl) rfl rfl rfl rfl rfl rfl rfl ?_
 repeat' (first
| apply yds;rfl
| apply yd;rfl
| intro _
| refine nv ?_
| apply wct rfl
| apply wcf rfl
| apply yne;rfl
| fail)
 all_goals first | exact bp [] rfl rfl rfl rfl rfl rfl (by simp_all) | exact aQ [] rfl rfl rfl rfl rfl rfl (by simp_all)
theorem sF {l m:List Bal}:FC Tryz.prog 187 [.c (.row 0 0 l.length),.c (.row 1 0 m.length)] ([ro 135 l,ro 135 m]) (B (dB (l = m))) ([ro 135 l,ro 135 m]):=by
 refine al tk 27 [.tmp 4] Tryz.func187 (by kernel_rfl) rfl rfl rfl rfl rfl rfl rfl ?_
 refine cj l 0 rfl (fun hl => ?_)
 repeat' (first
| apply yds;rfl
| apply yd;rfl
| intro _
| refine nv ?_
| apply wct rfl
| apply wcf rfl
| apply yne;rfl
| fail)
 ·rename_i hne
  exact aQ [0,1] rfl rfl rfl rfl rfl rfl (fun e => hne (by rw [e]))
 ·rename_i hlen
  refine dy (X:=Int) (fun i => 0 ≤ i ∧ i ≤ l.length ∧ ∀ j:Int,0 ≤ j → j < i → rd l j = rd m j) (fun i => ⟨27,2,[(0,.c (.row 0 0 l.length)),(1,.c (.row 1 0 m.length)),(5,I i)],[ro 135 l,ro 135 m]⟩) (fun i => (l.length - i).toNat) 0 [0,1] ⟨by omega,by omega,fun j h0 h1 => by omega⟩ ⟨rfl,rfl,rfl,rfl,rfl,rfl,rfl,rfl⟩ (fun i hi => ?_)
  obtain ⟨h0,hi,hall⟩:=hi
  repeat' (first
| apply yds;rfl
| apply yd;rfl
| intro _
| refine nv ?_
| apply wct rfl
| apply wcf rfl
| apply ae rfl
| apply ag;rfl
| apply yar;rfl;omega
| apply yix;rfl;omega
| apply yle;rfl;omega
| refine zdq (id:=6) rfl (by kernel_rfl) [(.p,0),(.p,1),(.p,2),(.p,4),(.p,5),(.p,6),(.t,3),(.t,7),(.o,8),(.p,9)] [] (by kernel_rfl) rfl ?_
| apply ycp;rfl;exact tT;rfl
| fail)
  all_goals first
   | exact bp [0,1] rfl rfl rfl rfl rfl rfl (bw (by omega) (fun j h1 h2 => hall j h1 (by omega)))
   | exact aQ [0,1] rfl rfl rfl rfl rfl rfl (fun e => by subst e;simp_all)
   | exact ⟨i + 1,[0,1],⟨by omega,by omega,ay hall (by rename_i h;obtain ⟨e0,e1,e2⟩:=h;generalize rd l i = x at *;generalize rd m i = y at *;cases x;cases y;simp_all)⟩,by dsimp only;omega,rfl,rfl,rfl,rfl,rfl,rfl,rfl,rfl⟩
theorem sK {l:List Lot} {left:Int} (hl:0 ≤ left ∧ left ≤ 1048576):FC Tryz.prog 178 [.c (.row 0 0 l.length),I left] ([ro 251 l]) (I (szN left l.length)) ([ro 251 l]):=by
 refine al tk 12 [.tmp 4] Tryz.func178 (by kernel_rfl) rfl rfl rfl rfl rfl rfl rfl ?_
 refine cj l 0 rfl (fun hlen => ?_)
 repeat' (first
| apply yds;rfl
| apply yd;rfl
| intro _
| refine nv ?_
| apply wct rfl
| apply wcf rfl
| apply ag;rfl
| apply yar;rfl;omega
| fail)
 all_goals exact bO [0] rfl rfl rfl rfl rfl rfl (by unfold szN;split <;> omega)
theorem tV {a0 a1 a2 a3 a4 b0 b1 b2 b3 b4:Int}:FC Tryz.prog 273 [.agg [.sc (.int .i64 a0),.sc (.int .i64 a1),.sc (.int .i64 a2),.sc (.int .i64 a3),.sc (.int .i64 a4)],.agg [.sc (.int .i64 b0),.sc (.int .i64 b1),.sc (.int .i64 b2),.sc (.int .i64 b3),.sc (.int .i64 b4)]] ([]) (B (dB (a0 = b0 ∧ a1 = b1 ∧ a2 = b2 ∧ a3 = b3 ∧ a4 = b4))) ([]):=by
 refine al tk 30 [.tmp 4] Tryz.func273 (by kernel_rfl) rfl rfl rfl rfl rfl rfl rfl ?_
 repeat' (first
| apply yds;rfl
| apply yd;rfl
| intro _
| refine nv ?_
| apply wct rfl
| apply wcf rfl
| apply yne;rfl
| fail)
 all_goals first | exact bp [] rfl rfl rfl rfl rfl rfl (by simp_all) | exact aQ [] rfl rfl rfl rfl rfl rfl (by simp_all)
theorem sH {l m:List Lot}:FC Tryz.prog 188 [.c (.row 0 0 l.length),.c (.row 1 0 m.length)] ([ro 137 l,ro 137 m]) (B (dB (l = m))) ([ro 137 l,ro 137 m]):=by
 refine al tk 27 [.tmp 4] Tryz.func188 (by kernel_rfl) rfl rfl rfl rfl rfl rfl rfl ?_
 refine cj l 0 rfl (fun hl => ?_)
 repeat' (first
| apply yds;rfl
| apply yd;rfl
| intro _
| refine nv ?_
| apply wct rfl
| apply wcf rfl
| apply yne;rfl
| fail)
 ·rename_i hne
  exact aQ [0,1] rfl rfl rfl rfl rfl rfl (fun e => hne (by rw [e]))
 ·rename_i hlen
  refine dy (X:=Int) (fun i => 0 ≤ i ∧ i ≤ l.length ∧ ∀ j:Int,0 ≤ j → j < i → rd l j = rd m j) (fun i => ⟨27,2,[(0,.c (.row 0 0 l.length)),(1,.c (.row 1 0 m.length)),(5,I i)],[ro 137 l,ro 137 m]⟩) (fun i => (l.length - i).toNat) 0 [0,1] ⟨by omega,by omega,fun j h0 h1 => by omega⟩ ⟨rfl,rfl,rfl,rfl,rfl,rfl,rfl,rfl⟩ (fun i hi => ?_)
  obtain ⟨h0,hi,hall⟩:=hi
  repeat' (first
| apply yds;rfl
| apply yd;rfl
| intro _
| refine nv ?_
| apply wct rfl
| apply wcf rfl
| apply ae rfl
| apply ag;rfl
| apply yar;rfl;omega
| apply yix;rfl;omega
| apply yle;rfl;omega
| refine zdq (id:=6) rfl (by kernel_rfl) [(.p,0),(.p,1),(.p,2),(.p,4),(.p,5),(.p,6),(.t,3),(.t,7),(.o,8),(.p,9)] [] (by kernel_rfl) rfl ?_
| apply ycp;rfl;exact tV;rfl
| fail)
  all_goals first
   | exact bp [0,1] rfl rfl rfl rfl rfl rfl (bw (by omega) (fun j h1 h2 => hall j h1 (by omega)))
   | exact aQ [0,1] rfl rfl rfl rfl rfl rfl (fun e => by subst e;simp_all)
   | exact ⟨i + 1,[0,1],⟨by omega,by omega,ay hall (by rename_i h;obtain ⟨e0,e1,e2,e3,e4⟩:=h;generalize rd l i = x at *;generalize rd m i = y at *;cases x;cases y;simp_all)⟩,by dsimp only;omega,rfl,rfl,rfl,rfl,rfl,rfl,rfl,rfl⟩
theorem pb {l:List Trade} {left:Int} (hl:0 ≤ left ∧ left ≤ 1048576):FC Tryz.prog 179 [.c (.row 0 0 l.length),I left] ([ro 253 l]) (I (szN left l.length)) ([ro 253 l]):=by
 refine al tk 12 [.tmp 4] Tryz.func179 (by kernel_rfl) rfl rfl rfl rfl rfl rfl rfl ?_
 refine cj l 0 rfl (fun hlen => ?_)
 repeat' (first
| apply yds;rfl
| apply yd;rfl
| intro _
| refine nv ?_
| apply wct rfl
| apply wcf rfl
| apply ag;rfl
| apply yar;rfl;omega
| fail)
 all_goals exact bO [0] rfl rfl rfl rfl rfl rfl (by unfold szN;split <;> omega)
theorem qT {a0 a1 a2 a3 a4 a5 a6 a7 b0 b1 b2 b3 b4 b5 b6 b7:Int}:FC Tryz.prog 274 [.agg [.sc (.int .i64 a0),.sc (.int .i64 a1),.sc (.int .i64 a2),.sc (.int .i64 a3),.sc (.int .i64 a4),.sc (.int .i64 a5),.sc (.int .i64 a6),.sc (.int .i64 a7)],.agg [.sc (.int .i64 b0),.sc (.int .i64 b1),.sc (.int .i64 b2),.sc (.int .i64 b3),.sc (.int .i64 b4),.sc (.int .i64 b5),.sc (.int .i64 b6),.sc (.int .i64 b7)]] ([]) (B (dB (a0 = b0 ∧ a1 = b1 ∧ a2 = b2 ∧ a3 = b3 ∧ a4 = b4 ∧ a5 = b5 ∧ a6 = b6 ∧ a7 = b7))) ([]):=by
 refine al tk 45 [.tmp 4] Tryz.func274 (by kernel_rfl) rfl rfl rfl rfl rfl rfl rfl ?_
 repeat' (first
| apply yds;rfl
| apply yd;rfl
| intro _
| refine nv ?_
| apply wct rfl
| apply wcf rfl
| apply yne;rfl
| fail)
 all_goals first | exact bp [] rfl rfl rfl rfl rfl rfl (by simp_all) | exact aQ [] rfl rfl rfl rfl rfl rfl (by simp_all)
theorem oX {l m:List Trade}:FC Tryz.prog 189 [.c (.row 0 0 l.length),.c (.row 1 0 m.length)] ([ro 103 l,ro 103 m]) (B (dB (l = m))) ([ro 103 l,ro 103 m]):=by
 refine al tk 27 [.tmp 4] Tryz.func189 (by kernel_rfl) rfl rfl rfl rfl rfl rfl rfl ?_
 refine cj l 0 rfl (fun hl => ?_)
 repeat' (first
| apply yds;rfl
| apply yd;rfl
| intro _
| refine nv ?_
| apply wct rfl
| apply wcf rfl
| apply yne;rfl
| fail)
 ·rename_i hne
  exact aQ [0,1] rfl rfl rfl rfl rfl rfl (fun e => hne (by rw [e]))
 ·rename_i hlen
  refine dy (X:=Int) (fun i => 0 ≤ i ∧ i ≤ l.length ∧ ∀ j:Int,0 ≤ j → j < i → rd l j = rd m j) (fun i => ⟨27,2,[(0,.c (.row 0 0 l.length)),(1,.c (.row 1 0 m.length)),(5,I i)],[ro 103 l,ro 103 m]⟩) (fun i => (l.length - i).toNat) 0 [0,1] ⟨by omega,by omega,fun j h0 h1 => by omega⟩ ⟨rfl,rfl,rfl,rfl,rfl,rfl,rfl,rfl⟩ (fun i hi => ?_)
  obtain ⟨h0,hi,hall⟩:=hi
  repeat' (first
| apply yds;rfl
| apply yd;rfl
| intro _
| refine nv ?_
| apply wct rfl
| apply wcf rfl
| apply ae rfl
| apply ag;rfl
| apply yar;rfl;omega
| apply yix;rfl;omega
| apply yle;rfl;omega
| refine zdq (id:=6) rfl (by kernel_rfl) [(.p,0),(.p,1),(.p,2),(.p,4),(.p,5),(.p,6),(.t,3),(.t,7),(.o,8),(.p,9)] [] (by kernel_rfl) rfl ?_
| apply ycp;rfl;exact qT;rfl
| fail)
  all_goals first
   | exact bp [0,1] rfl rfl rfl rfl rfl rfl (bw (by omega) (fun j h1 h2 => hall j h1 (by omega)))
   | exact aQ [0,1] rfl rfl rfl rfl rfl rfl (fun e => by subst e;simp_all)
   | exact ⟨i + 1,[0,1],⟨by omega,by omega,ay hall (by rename_i h;obtain ⟨e0,e1,e2,e3,e4,e5,e6,e7⟩:=h;generalize rd l i = x at *;generalize rd m i = y at *;cases x;cases y;simp_all)⟩,by dsimp only;omega,rfl,rfl,rfl,rfl,rfl,rfl,rfl,rfl⟩
def dd (n:Nat) (k:Int):List Account:=(List.range n).map (fun (j:Nat) => ⟨k + 2 * j,k + 2 * j + 1⟩)
theorem eK (n:Nat) (k:Int):(dd n k).length = n:=by simp [dd]
theorem iJ {n:Nat} {k j:Int} (h:0 ≤ j ∧ j < n):rd (dd n k) j = ⟨k + 2 * j,k + 2 * j + 1⟩:=by
 obtain ⟨i,rfl⟩:=Int.eq_ofNat_of_zero_le h.1
 have h1:i < n:=by omega
 simp [rd,dd,List.getD_eq_getElem?_getD,h1]
theorem kW {l:List Account} {k:Int} (hk:0 ≤ k ∧ k ≤ 1099511627776) (hl:l.length ≤ 4294967296):FC Tryz.prog 190 [.c (.row 0 0 l.length),I k] ([ow 42 l]) (I (k + 2 * l.length)) ([ow 42 (dd l.length k)]):=by
 refine al tk 27 [.tmp 4] Tryz.func190 (by kernel_rfl) rfl rfl rfl rfl rfl rfl rfl ?_
 repeat' (first
| apply yd;rfl
| refine nv ?_
| fail)
 refine dy (X:=Int × Int × List Account) (fun p => 0 ≤ p.1 ∧ p.1 ≤ l.length ∧ p.2.1 = k + 2 * p.1 ∧ p.2.2.length = l.length ∧ ∀ j:Int,0 ≤ j → j < p.1 → rd p.2.2 j = ⟨k + 2 * j,k + 2 * j + 1⟩) (fun p => ⟨27,1,[(0,.c (.row 0 0 l.length)),(1,I p.2.1),(5,I p.1)],[ow 42 p.2.2]⟩) (fun p => (l.length - p.1).toNat) (0,k,l) [0] ⟨by dsimp only;omega,by dsimp only;omega,by dsimp only;omega,rfl,fun j h0 h1 => by dsimp only at h1;omega⟩ ⟨rfl,rfl,rfl,rfl,rfl,rfl,rfl,rfl⟩ (fun p hp => ?_)
 obtain ⟨i,kk,xs⟩:=p
 obtain ⟨h0,hi,hkk,hlen,hall⟩:=hp
 dsimp only at h0 hi hkk hlen hall ⊢
 repeat' (first
| apply yds;rfl
| apply yd;rfl
| apply zse;rfl;exact tk;(iterate 6 rfl);(simp only [aF];omega);rfl;rfl;((rw [ld (by omega)];dsimp only [Enc.enc];rfl));((rw [lv];rfl));rfl
| intro _
| refine nv ?_
| apply wct rfl
| apply wcf rfl
| apply ae rfl
| apply ag;rfl
| apply yar;rfl;omega
| apply yix;rfl;omega
| apply zse;rfl;exact tk;(iterate 6 rfl);omega;rfl;rfl;rfl;rfl;rfl
| fail)
 all_goals first
  | (obtain rfl:xs = dd l.length k:=bw (by rw [hlen,eK]) (fun j h1 h2 => by rw [hall j h1 (by omega),iJ (by omega)])
     exact bO [0] rfl rfl rfl rfl rfl rfl (by omega))
  | exact ⟨(i + 1,_,_),[0],⟨by dsimp only;omega,by dsimp only;omega,by dsimp only;omega,by simp [aF,hlen],fun j h1 h2 => by
     dsimp only at h2 ⊢
     rw [oh (by omega) h1]
     split
     ·rename_i e
      subst e
      (congr 1 <;> omega)
     ·exact hall j h1 (by omega)⟩,by dsimp only;omega,rfl,rfl,rfl,rfl,rfl,rfl,rfl,rfl⟩
def eL (n:Nat) (k:Int):List Instr:=(List.range n).map (fun (j:Nat) => ⟨k + 2 * j,k + 2 * j + 1⟩)
theorem gu (n:Nat) (k:Int):(eL n k).length = n:=by simp [eL]
theorem kA {n:Nat} {k j:Int} (h:0 ≤ j ∧ j < n):rd (eL n k) j = ⟨k + 2 * j,k + 2 * j + 1⟩:=by
 obtain ⟨i,rfl⟩:=Int.eq_ofNat_of_zero_le h.1
 have h1:i < n:=by omega
 simp [rd,eL,List.getD_eq_getElem?_getD,h1]
theorem mD {l:List Instr} {k:Int} (hk:0 ≤ k ∧ k ≤ 1099511627776) (hl:l.length ≤ 4294967296):FC Tryz.prog 191 [.c (.row 0 0 l.length),I k] ([ow 74 l]) (I (k + 2 * l.length)) ([ow 74 (eL l.length k)]):=by
 refine al tk 27 [.tmp 4] Tryz.func191 (by kernel_rfl) rfl rfl rfl rfl rfl rfl rfl ?_
 repeat' (first
| apply yd;rfl
| refine nv ?_
| fail)
 refine dy (X:=Int × Int × List Instr) (fun p => 0 ≤ p.1 ∧ p.1 ≤ l.length ∧ p.2.1 = k + 2 * p.1 ∧ p.2.2.length = l.length ∧ ∀ j:Int,0 ≤ j → j < p.1 → rd p.2.2 j = ⟨k + 2 * j,k + 2 * j + 1⟩) (fun p => ⟨27,1,[(0,.c (.row 0 0 l.length)),(1,I p.2.1),(5,I p.1)],[ow 74 p.2.2]⟩) (fun p => (l.length - p.1).toNat) (0,k,l) [0] ⟨by dsimp only;omega,by dsimp only;omega,by dsimp only;omega,rfl,fun j h0 h1 => by dsimp only at h1;omega⟩ ⟨rfl,rfl,rfl,rfl,rfl,rfl,rfl,rfl⟩ (fun p hp => ?_)
 obtain ⟨i,kk,xs⟩:=p
 obtain ⟨h0,hi,hkk,hlen,hall⟩:=hp
 dsimp only at h0 hi hkk hlen hall ⊢
 repeat' (first
| apply yds;rfl
| apply yd;rfl
| apply zse;rfl;exact tk;(iterate 6 rfl);(simp only [aF];omega);rfl;rfl;((rw [ld (by omega)];dsimp only [Enc.enc];rfl));((rw [lv];rfl));rfl
| intro _
| refine nv ?_
| apply wct rfl
| apply wcf rfl
| apply ae rfl
| apply ag;rfl
| apply yar;rfl;omega
| apply yix;rfl;omega
| apply zse;rfl;exact tk;(iterate 6 rfl);omega;rfl;rfl;rfl;rfl;rfl
| fail)
 all_goals first
  | (obtain rfl:xs = eL l.length k:=bw (by rw [hlen,gu]) (fun j h1 h2 => by rw [hall j h1 (by omega),kA (by omega)])
     exact bO [0] rfl rfl rfl rfl rfl rfl (by omega))
  | exact ⟨(i + 1,_,_),[0],⟨by dsimp only;omega,by dsimp only;omega,by dsimp only;omega,by simp [aF,hlen],fun j h1 h2 => by
     dsimp only at h2 ⊢
     rw [oh (by omega) h1]
     split
     ·rename_i e
      subst e
      (congr 1 <;> omega)
     ·exact hall j h1 (by omega)⟩,by dsimp only;omega,rfl,rfl,rfl,rfl,rfl,rfl,rfl,rfl⟩
def ke (n:Nat) (k:Int):List Bal:=(List.range n).map (fun (j:Nat) => ⟨k + 3 * j,k + 3 * j + 1,k + 3 * j + 2⟩)
theorem jJ (n:Nat) (k:Int):(ke n k).length = n:=by simp [ke]
theorem oe {n:Nat} {k j:Int} (h:0 ≤ j ∧ j < n):rd (ke n k) j = ⟨k + 3 * j,k + 3 * j + 1,k + 3 * j + 2⟩:=by
 obtain ⟨i,rfl⟩:=Int.eq_ofNat_of_zero_le h.1
 have h1:i < n:=by omega
 simp [rd,ke,List.getD_eq_getElem?_getD,h1]
theorem p6 {l:List Bal} {k:Int} (hk:0 ≤ k ∧ k ≤ 1099511627776) (hl:l.length ≤ 4294967296):FC Tryz.prog 192 [.c (.row 0 0 l.length),I k] ([ow 135 l]) (I (k + 3 * l.length)) ([ow 135 (ke l.length k)]):=by
 refine al tk 34 [.tmp 4] Tryz.func192 (by kernel_rfl) rfl rfl rfl rfl rfl rfl rfl ?_
 repeat' (first
| apply yd;rfl
| refine nv ?_
| fail)
 refine dy (X:=Int × Int × List Bal) (fun p => 0 ≤ p.1 ∧ p.1 ≤ l.length ∧ p.2.1 = k + 3 * p.1 ∧ p.2.2.length = l.length ∧ ∀ j:Int,0 ≤ j → j < p.1 → rd p.2.2 j = ⟨k + 3 * j,k + 3 * j + 1,k + 3 * j + 2⟩) (fun p => ⟨34,1,[(0,.c (.row 0 0 l.length)),(1,I p.2.1),(5,I p.1)],[ow 135 p.2.2]⟩) (fun p => (l.length - p.1).toNat) (0,k,l) [0] ⟨by dsimp only;omega,by dsimp only;omega,by dsimp only;omega,rfl,fun j h0 h1 => by dsimp only at h1;omega⟩ ⟨rfl,rfl,rfl,rfl,rfl,rfl,rfl,rfl⟩ (fun p hp => ?_)
 obtain ⟨i,kk,xs⟩:=p
 obtain ⟨h0,hi,hkk,hlen,hall⟩:=hp
 dsimp only at h0 hi hkk hlen hall ⊢
 repeat' (first
| apply yds;rfl
| apply yd;rfl
| apply zse;rfl;exact tk;(iterate 6 rfl);(simp only [aF];omega);rfl;rfl;((rw [ld (by omega)];dsimp only [Enc.enc];rfl));((rw [lv];rfl));rfl
| intro _
| refine nv ?_
| apply wct rfl
| apply wcf rfl
| apply ae rfl
| apply ag;rfl
| apply yar;rfl;omega
| apply yix;rfl;omega
| apply zse;rfl;exact tk;(iterate 6 rfl);omega;rfl;rfl;rfl;rfl;rfl
| fail)
 all_goals first
  | (obtain rfl:xs = ke l.length k:=bw (by rw [hlen,jJ]) (fun j h1 h2 => by rw [hall j h1 (by omega),oe (by omega)])
     exact bO [0] rfl rfl rfl rfl rfl rfl (by omega))
  | exact ⟨(i + 1,_,_),[0],⟨by dsimp only;omega,by dsimp only;omega,by dsimp only;omega,by simp [aF,hlen],fun j h1 h2 => by
     dsimp only at h2 ⊢
     rw [oh (by omega) h1]
     split
     ·rename_i e
      subst e
      (congr 1 <;> omega)
     ·exact hall j h1 (by omega)⟩,by dsimp only;omega,rfl,rfl,rfl,rfl,rfl,rfl,rfl,rfl⟩
def kf (n:Nat) (k:Int):List Lot:=(List.range n).map (fun (j:Nat) => ⟨k + 5 * j,k + 5 * j + 1,k + 5 * j + 2,k + 5 * j + 3,k + 5 * j + 4⟩)
theorem jK (n:Nat) (k:Int):(kf n k).length = n:=by simp [kf]
theorem og {n:Nat} {k j:Int} (h:0 ≤ j ∧ j < n):rd (kf n k) j = ⟨k + 5 * j,k + 5 * j + 1,k + 5 * j + 2,k + 5 * j + 3,k + 5 * j + 4⟩:=by
 obtain ⟨i,rfl⟩:=Int.eq_ofNat_of_zero_le h.1
 have h1:i < n:=by omega
 simp [rd,kf,List.getD_eq_getElem?_getD,h1]
theorem p8 {l:List Lot} {k:Int} (hk:0 ≤ k ∧ k ≤ 1099511627776) (hl:l.length ≤ 4294967296):FC Tryz.prog 193 [.c (.row 0 0 l.length),I k] ([ow 137 l]) (I (k + 5 * l.length)) ([ow 137 (kf l.length k)]):=by
 refine al tk 48 [.tmp 4] Tryz.func193 (by kernel_rfl) rfl rfl rfl rfl rfl rfl rfl ?_
 repeat' (first
| apply yd;rfl
| refine nv ?_
| fail)
 refine dy (X:=Int × Int × List Lot) (fun p => 0 ≤ p.1 ∧ p.1 ≤ l.length ∧ p.2.1 = k + 5 * p.1 ∧ p.2.2.length = l.length ∧ ∀ j:Int,0 ≤ j → j < p.1 → rd p.2.2 j = ⟨k + 5 * j,k + 5 * j + 1,k + 5 * j + 2,k + 5 * j + 3,k + 5 * j + 4⟩) (fun p => ⟨48,1,[(0,.c (.row 0 0 l.length)),(1,I p.2.1),(5,I p.1)],[ow 137 p.2.2]⟩) (fun p => (l.length - p.1).toNat) (0,k,l) [0] ⟨by dsimp only;omega,by dsimp only;omega,by dsimp only;omega,rfl,fun j h0 h1 => by dsimp only at h1;omega⟩ ⟨rfl,rfl,rfl,rfl,rfl,rfl,rfl,rfl⟩ (fun p hp => ?_)
 obtain ⟨i,kk,xs⟩:=p
 obtain ⟨h0,hi,hkk,hlen,hall⟩:=hp
 dsimp only at h0 hi hkk hlen hall ⊢
 repeat' (first
| apply yds;rfl
| apply yd;rfl
| apply zse;rfl;exact tk;(iterate 6 rfl);(simp only [aF];omega);rfl;rfl;((rw [ld (by omega)];dsimp only [Enc.enc];rfl));((rw [lv];rfl));rfl
| intro _
| refine nv ?_
| apply wct rfl
| apply wcf rfl
| apply ae rfl
| apply ag;rfl
| apply yar;rfl;omega
| apply yix;rfl;omega
| apply zse;rfl;exact tk;(iterate 6 rfl);omega;rfl;rfl;rfl;rfl;rfl
| fail)
 all_goals first
  | (obtain rfl:xs = kf l.length k:=bw (by rw [hlen,jK]) (fun j h1 h2 => by rw [hall j h1 (by omega),og (by omega)])
     exact bO [0] rfl rfl rfl rfl rfl rfl (by omega))
  | exact ⟨(i + 1,_,_),[0],⟨by dsimp only;omega,by dsimp only;omega,by dsimp only;omega,by simp [aF,hlen],fun j h1 h2 => by
     dsimp only at h2 ⊢
     rw [oh (by omega) h1]
     split
     ·rename_i e
      subst e
      (congr 1 <;> omega)
     ·exact hall j h1 (by omega)⟩,by dsimp only;omega,rfl,rfl,rfl,rfl,rfl,rfl,rfl,rfl⟩
def eM (n:Nat) (k:Int):List Trade:=(List.range n).map (fun (j:Nat) => ⟨k + 8 * j,k + 8 * j + 1,k + 8 * j + 2,k + 8 * j + 3,k + 8 * j + 4,k + 8 * j + 5,k + 8 * j + 6,k + 8 * j + 7⟩)
theorem gv (n:Nat) (k:Int):(eM n k).length = n:=by simp [eM]
theorem kB {n:Nat} {k j:Int} (h:0 ≤ j ∧ j < n):rd (eM n k) j = ⟨k + 8 * j,k + 8 * j + 1,k + 8 * j + 2,k + 8 * j + 3,k + 8 * j + 4,k + 8 * j + 5,k + 8 * j + 6,k + 8 * j + 7⟩:=by
 obtain ⟨i,rfl⟩:=Int.eq_ofNat_of_zero_le h.1
 have h1:i < n:=by omega
 simp [rd,eM,List.getD_eq_getElem?_getD,h1]
theorem mE {l:List Trade} {k:Int} (hk:0 ≤ k ∧ k ≤ 1099511627776) (hl:l.length ≤ 4294967296):FC Tryz.prog 194 [.c (.row 0 0 l.length),I k] ([ow 103 l]) (I (k + 8 * l.length)) ([ow 103 (eM l.length k)]):=by
 refine al tk 69 [.tmp 4] Tryz.func194 (by kernel_rfl) rfl rfl rfl rfl rfl rfl rfl ?_
 repeat' (first
| apply yd;rfl
| refine nv ?_
| fail)
 refine dy (X:=Int × Int × List Trade) (fun p => 0 ≤ p.1 ∧ p.1 ≤ l.length ∧ p.2.1 = k + 8 * p.1 ∧ p.2.2.length = l.length ∧ ∀ j:Int,0 ≤ j → j < p.1 → rd p.2.2 j = ⟨k + 8 * j,k + 8 * j + 1,k + 8 * j + 2,k + 8 * j + 3,k + 8 * j + 4,k + 8 * j + 5,k + 8 * j + 6,k + 8 * j + 7⟩) (fun p => ⟨69,1,[(0,.c (.row 0 0 l.length)),(1,I p.2.1),(5,I p.1)],[ow 103 p.2.2]⟩) (fun p => (l.length - p.1).toNat) (0,k,l) [0] ⟨by dsimp only;omega,by dsimp only;omega,by dsimp only;omega,rfl,fun j h0 h1 => by dsimp only at h1;omega⟩ ⟨rfl,rfl,rfl,rfl,rfl,rfl,rfl,rfl⟩ (fun p hp => ?_)
 obtain ⟨i,kk,xs⟩:=p
 obtain ⟨h0,hi,hkk,hlen,hall⟩:=hp
 dsimp only at h0 hi hkk hlen hall ⊢
 repeat' (first
| apply yds;rfl
| apply yd;rfl
| apply zse;rfl;exact tk;(iterate 6 rfl);(simp only [aF];omega);rfl;rfl;((rw [ld (by omega)];dsimp only [Enc.enc];rfl));((rw [lv];rfl));rfl
| intro _
| refine nv ?_
| apply wct rfl
| apply wcf rfl
| apply ae rfl
| apply ag;rfl
| apply yar;rfl;omega
| apply yix;rfl;omega
| apply zse;rfl;exact tk;(iterate 6 rfl);omega;rfl;rfl;rfl;rfl;rfl
| fail)
 all_goals first
  | (obtain rfl:xs = eM l.length k:=bw (by rw [hlen,gv]) (fun j h1 h2 => by rw [hall j h1 (by omega),kB (by omega)])
     exact bO [0] rfl rfl rfl rfl rfl rfl (by omega))
  | exact ⟨(i + 1,_,_),[0],⟨by dsimp only;omega,by dsimp only;omega,by dsimp only;omega,by simp [aF,hlen],fun j h1 h2 => by
     dsimp only at h2 ⊢
     rw [oh (by omega) h1]
     split
     ·rename_i e
      subst e
      (congr 1 <;> omega)
     ·exact hall j h1 (by omega)⟩,by dsimp only;omega,rfl,rfl,rfl,rfl,rfl,rfl,rfl,rfl⟩
theorem kV {l:List Account} {k:Int} {n:Nat} (hk:0 ≤ k ∧ k ≤ 1099511627776) (hl:l.length ≤ 4294967296) (hn:n = l.length):FC Tryz.prog 195 [.c (.row 0 0 n),I k] ([ro 42 l]) (I (pick (l = dd n k) (k + 2 * n) (-1))) ([ro 42 l]):=by
 refine al tk 31 [.tmp 4] Tryz.func195 (by kernel_rfl) rfl rfl rfl rfl rfl rfl rfl ?_
 subst hn
 repeat' (first
| apply yd;rfl
| refine nv ?_
| fail)
 refine dy (X:=Int × Int) (fun p => 0 ≤ p.1 ∧ p.1 ≤ l.length ∧ p.2 = k + 2 * p.1 ∧ ∀ j:Int,0 ≤ j → j < p.1 → rd l j = ⟨k + 2 * j,k + 2 * j + 1⟩) (fun p => ⟨31,1,[(0,.c (.row 0 0 l.length)),(1,I p.2),(5,I p.1)],[ro 42 l]⟩) (fun p => (l.length - p.1).toNat) (0,k) [0] ⟨by dsimp only;omega,by dsimp only;omega,by dsimp only;omega,fun j h0 h1 => by dsimp only at h1;omega⟩ ⟨rfl,rfl,rfl,rfl,rfl,rfl,rfl,rfl⟩ (fun p hp => ?_)
 obtain ⟨i,kk⟩:=p
 obtain ⟨h0,hi,hkk,hall⟩:=hp
 dsimp only at h0 hi hkk hall ⊢
 repeat' (first
| apply yds;rfl
| apply yd;rfl
| intro _
| refine nv ?_
| apply wct rfl
| apply wcf rfl
| apply ae rfl
| apply ag;rfl
| apply yne;rfl
| apply yar;rfl;omega
| apply yix;rfl;omega
| apply yle;rfl;omega
| fail)
 all_goals first
  | exact bO [0] rfl rfl rfl rfl rfl rfl (by
     rw [aD (bw (by rw [eK]) (fun j h1 h2 => by rw [hall j h1 (by omega),iJ (by omega)]))]
     omega)
  | exact bO [0] rfl rfl rfl rfl rfl rfl (aB (fun e => by
     have he:rd l i = rd (dd l.length k) i:=by rw [← e]
     rw [iJ (by omega)] at he
     have e0:=congrArg Account.No he
     have e1:=congrArg Account.Kind he
     dsimp only at *
     omega))
  | exact ⟨(i + 1,_),[0],⟨by dsimp only;omega,by dsimp only;omega,by dsimp only;omega,ay hall (by
     generalize rd l i = x at *
     cases x
     dsimp only at *
     congr 1 <;> omega)⟩,by dsimp only;omega,rfl,rfl,rfl,rfl,rfl,rfl,rfl,rfl⟩
theorem mB {l:List Instr} {k:Int} {n:Nat} (hk:0 ≤ k ∧ k ≤ 1099511627776) (hl:l.length ≤ 4294967296) (hn:n = l.length):FC Tryz.prog 196 [.c (.row 0 0 n),I k] ([ro 74 l]) (I (pick (l = eL n k) (k + 2 * n) (-1))) ([ro 74 l]):=by
 refine al tk 31 [.tmp 4] Tryz.func196 (by kernel_rfl) rfl rfl rfl rfl rfl rfl rfl ?_
 subst hn
 repeat' (first
| apply yd;rfl
| refine nv ?_
| fail)
 refine dy (X:=Int × Int) (fun p => 0 ≤ p.1 ∧ p.1 ≤ l.length ∧ p.2 = k + 2 * p.1 ∧ ∀ j:Int,0 ≤ j → j < p.1 → rd l j = ⟨k + 2 * j,k + 2 * j + 1⟩) (fun p => ⟨31,1,[(0,.c (.row 0 0 l.length)),(1,I p.2),(5,I p.1)],[ro 74 l]⟩) (fun p => (l.length - p.1).toNat) (0,k) [0] ⟨by dsimp only;omega,by dsimp only;omega,by dsimp only;omega,fun j h0 h1 => by dsimp only at h1;omega⟩ ⟨rfl,rfl,rfl,rfl,rfl,rfl,rfl,rfl⟩ (fun p hp => ?_)
 obtain ⟨i,kk⟩:=p
 obtain ⟨h0,hi,hkk,hall⟩:=hp
 dsimp only at h0 hi hkk hall ⊢
 repeat' (first
| apply yds;rfl
| apply yd;rfl
| intro _
| refine nv ?_
| apply wct rfl
| apply wcf rfl
| apply ae rfl
| apply ag;rfl
| apply yne;rfl
| apply yar;rfl;omega
| apply yix;rfl;omega
| apply yle;rfl;omega
| fail)
 all_goals first
  | exact bO [0] rfl rfl rfl rfl rfl rfl (by
     rw [aD (bw (by rw [gu]) (fun j h1 h2 => by rw [hall j h1 (by omega),kA (by omega)]))]
     omega)
  | exact bO [0] rfl rfl rfl rfl rfl rfl (aB (fun e => by
     have he:rd l i = rd (eL l.length k) i:=by rw [← e]
     rw [kA (by omega)] at he
     have e0:=congrArg Instr.No he
     have e1:=congrArg Instr.Kind he
     dsimp only at *
     omega))
  | exact ⟨(i + 1,_),[0],⟨by dsimp only;omega,by dsimp only;omega,by dsimp only;omega,ay hall (by
     generalize rd l i = x at *
     cases x
     dsimp only at *
     congr 1 <;> omega)⟩,by dsimp only;omega,rfl,rfl,rfl,rfl,rfl,rfl,rfl,rfl⟩
theorem oY {l:List Bal} {k:Int} {n:Nat} (hk:0 ≤ k ∧ k ≤ 1099511627776) (hl:l.length ≤ 4294967296) (hn:n = l.length):FC Tryz.prog 197 [.c (.row 0 0 n),I k] ([ro 135 l]) (I (pick (l = ke n k) (k + 3 * n) (-1))) ([ro 135 l]):=by
 refine al tk 40 [.tmp 4] Tryz.func197 (by kernel_rfl) rfl rfl rfl rfl rfl rfl rfl ?_
 subst hn
 repeat' (first
| apply yd;rfl
| refine nv ?_
| fail)
 refine dy (X:=Int × Int) (fun p => 0 ≤ p.1 ∧ p.1 ≤ l.length ∧ p.2 = k + 3 * p.1 ∧ ∀ j:Int,0 ≤ j → j < p.1 → rd l j = ⟨k + 3 * j,k + 3 * j + 1,k + 3 * j + 2⟩) (fun p => ⟨40,1,[(0,.c (.row 0 0 l.length)),(1,I p.2),(5,I p.1)],[ro 135 l]⟩) (fun p => (l.length - p.1).toNat) (0,k) [0] ⟨by dsimp only;omega,by dsimp only;omega,by dsimp only;omega,fun j h0 h1 => by dsimp only at h1;omega⟩ ⟨rfl,rfl,rfl,rfl,rfl,rfl,rfl,rfl⟩ (fun p hp => ?_)
 obtain ⟨i,kk⟩:=p
 obtain ⟨h0,hi,hkk,hall⟩:=hp
 dsimp only at h0 hi hkk hall ⊢
 repeat' (first
| apply yds;rfl
| apply yd;rfl
| intro _
| refine nv ?_
| apply wct rfl
| apply wcf rfl
| apply ae rfl
| apply ag;rfl
| apply yne;rfl
| apply yar;rfl;omega
| apply yix;rfl;omega
| apply yle;rfl;omega
| fail)
 all_goals first
  | exact bO [0] rfl rfl rfl rfl rfl rfl (by
     rw [aD (bw (by rw [jJ]) (fun j h1 h2 => by rw [hall j h1 (by omega),oe (by omega)]))]
     omega)
  | exact bO [0] rfl rfl rfl rfl rfl rfl (aB (fun e => by
     have he:rd l i = rd (ke l.length k) i:=by rw [← e]
     rw [oe (by omega)] at he
     have e0:=congrArg Bal.Account he
     have e1:=congrArg Bal.Instr he
     have e2:=congrArg Bal.Amount he
     dsimp only at *
     omega))
  | exact ⟨(i + 1,_),[0],⟨by dsimp only;omega,by dsimp only;omega,by dsimp only;omega,ay hall (by
     generalize rd l i = x at *
     cases x
     dsimp only at *
     congr 1 <;> omega)⟩,by dsimp only;omega,rfl,rfl,rfl,rfl,rfl,rfl,rfl,rfl⟩
theorem oZ {l:List Lot} {k:Int} {n:Nat} (hk:0 ≤ k ∧ k ≤ 1099511627776) (hl:l.length ≤ 4294967296) (hn:n = l.length):FC Tryz.prog 198 [.c (.row 0 0 n),I k] ([ro 137 l]) (I (pick (l = kf n k) (k + 5 * n) (-1))) ([ro 137 l]):=by
 refine al tk 58 [.tmp 4] Tryz.func198 (by kernel_rfl) rfl rfl rfl rfl rfl rfl rfl ?_
 subst hn
 repeat' (first
| apply yd;rfl
| refine nv ?_
| fail)
 refine dy (X:=Int × Int) (fun p => 0 ≤ p.1 ∧ p.1 ≤ l.length ∧ p.2 = k + 5 * p.1 ∧ ∀ j:Int,0 ≤ j → j < p.1 → rd l j = ⟨k + 5 * j,k + 5 * j + 1,k + 5 * j + 2,k + 5 * j + 3,k + 5 * j + 4⟩) (fun p => ⟨58,1,[(0,.c (.row 0 0 l.length)),(1,I p.2),(5,I p.1)],[ro 137 l]⟩) (fun p => (l.length - p.1).toNat) (0,k) [0] ⟨by dsimp only;omega,by dsimp only;omega,by dsimp only;omega,fun j h0 h1 => by dsimp only at h1;omega⟩ ⟨rfl,rfl,rfl,rfl,rfl,rfl,rfl,rfl⟩ (fun p hp => ?_)
 obtain ⟨i,kk⟩:=p
 obtain ⟨h0,hi,hkk,hall⟩:=hp
 dsimp only at h0 hi hkk hall ⊢
 repeat' (first
| apply yds;rfl
| apply yd;rfl
| intro _
| refine nv ?_
| apply wct rfl
| apply wcf rfl
| apply ae rfl
| apply ag;rfl
| apply yne;rfl
| apply yar;rfl;omega
| apply yix;rfl;omega
| apply yle;rfl;omega
| fail)
 all_goals first
  | exact bO [0] rfl rfl rfl rfl rfl rfl (by
     rw [aD (bw (by rw [jK]) (fun j h1 h2 => by rw [hall j h1 (by omega),og (by omega)]))]
     omega)
  | exact bO [0] rfl rfl rfl rfl rfl rfl (aB (fun e => by
     have he:rd l i = rd (kf l.length k) i:=by rw [← e]
     rw [og (by omega)] at he
     have e0:=congrArg Lot.Account he
     have e1:=congrArg Lot.Instr he
     have e2:=congrArg Lot.No he
     have e3:=congrArg Lot.Qty he
     have e4:=congrArg Lot.Cost he
     dsimp only at *
     omega))
  | exact ⟨(i + 1,_),[0],⟨by dsimp only;omega,by dsimp only;omega,by dsimp only;omega,ay hall (by
     generalize rd l i = x at *
     cases x
     dsimp only at *
     congr 1 <;> omega)⟩,by dsimp only;omega,rfl,rfl,rfl,rfl,rfl,rfl,rfl,rfl⟩
theorem mC {l:List Trade} {k:Int} {n:Nat} (hk:0 ≤ k ∧ k ≤ 1099511627776) (hl:l.length ≤ 4294967296) (hn:n = l.length):FC Tryz.prog 199 [.c (.row 0 0 n),I k] ([ro 103 l]) (I (pick (l = eM n k) (k + 8 * n) (-1))) ([ro 103 l]):=by
 refine al tk 85 [.tmp 4] Tryz.func199 (by kernel_rfl) rfl rfl rfl rfl rfl rfl rfl ?_
 subst hn
 repeat' (first
| apply yd;rfl
| refine nv ?_
| fail)
 refine dy (X:=Int × Int) (fun p => 0 ≤ p.1 ∧ p.1 ≤ l.length ∧ p.2 = k + 8 * p.1 ∧ ∀ j:Int,0 ≤ j → j < p.1 → rd l j = ⟨k + 8 * j,k + 8 * j + 1,k + 8 * j + 2,k + 8 * j + 3,k + 8 * j + 4,k + 8 * j + 5,k + 8 * j + 6,k + 8 * j + 7⟩) (fun p => ⟨85,1,[(0,.c (.row 0 0 l.length)),(1,I p.2),(5,I p.1)],[ro 103 l]⟩) (fun p => (l.length - p.1).toNat) (0,k) [0] ⟨by dsimp only;omega,by dsimp only;omega,by dsimp only;omega,fun j h0 h1 => by dsimp only at h1;omega⟩ ⟨rfl,rfl,rfl,rfl,rfl,rfl,rfl,rfl⟩ (fun p hp => ?_)
 obtain ⟨i,kk⟩:=p
 obtain ⟨h0,hi,hkk,hall⟩:=hp
 dsimp only at h0 hi hkk hall ⊢
 repeat' (first
| apply yds;rfl
| apply yd;rfl
| intro _
| refine nv ?_
| apply wct rfl
| apply wcf rfl
| apply ae rfl
| apply ag;rfl
| apply yne;rfl
| apply yar;rfl;omega
| apply yix;rfl;omega
| apply yle;rfl;omega
| fail)
 all_goals first
  | exact bO [0] rfl rfl rfl rfl rfl rfl (by
     rw [aD (bw (by rw [gv]) (fun j h1 h2 => by rw [hall j h1 (by omega),kB (by omega)]))]
     omega)
  | exact bO [0] rfl rfl rfl rfl rfl rfl (aB (fun e => by
     have he:rd l i = rd (eM l.length k) i:=by rw [← e]
     rw [kB (by omega)] at he
     have e0:=congrArg Trade.No he
     have e1:=congrArg Trade.Buyer he
     have e2:=congrArg Trade.Seller he
     have e3:=congrArg Trade.Paper he
     have e4:=congrArg Trade.Qty he
     have e5:=congrArg Trade.Cash he
     have e6:=congrArg Trade.Price he
     have e7:=congrArg Trade.State he
     dsimp only at *
     omega))
  | exact ⟨(i + 1,_),[0],⟨by dsimp only;omega,by dsimp only;omega,by dsimp only;omega,ay hall (by
     generalize rd l i = x at *
     cases x
     dsimp only at *
     congr 1 <;> omega)⟩,by dsimp only;omega,rfl,rfl,rfl,rfl,rfl,rfl,rfl,rfl⟩
end Go.Proofs.YtgehbhkfehmdkaaGreat.Sh
