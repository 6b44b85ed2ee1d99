/- slices.Clone, slices.Insert, slices.Delete. No condition. -/
import Derived.Test.YtgehbhkfehmdkaaGreatKCeShV
import Derived.Test.YtgehbhkfehmdkaaGreatKCeShU
set_option maxRecDepth 100000
set_option maxHeartbeats 40000000
set_option linter.unusedSimpArgs false
set_option linter.unusedVariables false
namespace Go.Proofs.YtgehbhkfehmdkaaGreat.Sh
open Go.RowKit
def ins {α:Type} (l:List α) (i:Int) (x:α):List α:=l.take i.toNat ++ x :: l.drop i.toNat
def del {α:Type} (l:List α) (i:Int):List α:=l.take i.toNat ++ l.drop (i.toNat + 1)
theorem bZ {α:Type} {l:List α} {i:Int} {x:α} (h:0 ≤ i ∧ i ≤ l.length):(ins l i x).length = l.length + 1:=by
 simp only [ins,List.length_append,List.length_cons,List.length_take,List.length_drop]
 omega
theorem uC {α:Type} {l:List α} {i:Int} (h:0 ≤ i ∧ i < l.length):(del l i).length = l.length - 1:=by
 simp only [del,List.length_append,List.length_take,List.length_drop]
 omega
theorem d8 {α:Type} {l:List α} {i:Int} {x:α} (h:i = l.length):ins l i x = l ++ [x]:=by
 subst h
 simp [ins]
theorem lK {α:Type} {l:List α} {i:Int} {x:α} (h:0 ≤ i ∧ i < l.length):l.take (i + 1).toNat ++ (l.drop i.toNat).take (l.length - i.toNat) ++ l.drop ((i + 1).toNat + (l.length - i.toNat)) = l.take (i.toNat + 1) ++ l.drop i.toNat:=by
 have e1:(l.drop i.toNat).take (l.length - i.toNat) = l.drop i.toNat:=List.take_of_length_le (by rw [List.length_drop];omega)
 have e2:l.drop ((i + 1).toNat + (l.length - i.toNat)) = []:=List.drop_eq_nil_of_le (by omega)
 rw [e1,e2,List.append_nil,show (i + 1).toNat = i.toNat + 1 from by omega]
theorem lL {α:Type} {l:List α} {i:Int} {x:α} (h:0 ≤ i ∧ i < l.length):(l.take (i.toNat + 1) ++ l.drop i.toNat).take i.toNat ++ ([x].drop 0).take 1 ++ (l.take (i.toNat + 1) ++ l.drop i.toNat).drop (i.toNat + 1) = ins l i x:=by
 have h1:(l.take (i.toNat + 1)).length = i.toNat + 1:=by rw [List.length_take];omega
 have e1:(l.take (i.toNat + 1) ++ l.drop i.toNat).take i.toNat = l.take i.toNat:=by
  rw [List.take_append_of_le_length (by omega),List.take_take,Nat.min_eq_left (by omega)]
 have e2:(l.take (i.toNat + 1) ++ l.drop i.toNat).drop (i.toNat + 1) = l.drop i.toNat:=by
  have:=List.drop_left (l₁:=l.take (i.toNat + 1)) (l₂:=l.drop i.toNat)
  rwa [h1] at this
 rw [e1,e2]
 simp [ins]
theorem lN {α:Type} {l:List α} {i:Int} {x z:α} {m:Nat} (h:0 ≤ i ∧ i < l.length) (hm:m = l.length + 1 - i.toNat):(l.take i.toNat ++ List.replicate m z).take i.toNat ++ ([x].drop 0).take 1 ++ (l.take i.toNat ++ List.replicate m z).drop (i.toNat + 1) = l.take i.toNat ++ x :: List.replicate (l.length - i.toNat) z:=by
 have h1:(l.take i.toNat).length = i.toNat:=by rw [List.length_take];omega
 have h2:(l.take i.toNat ++ List.replicate m z).take i.toNat = l.take i.toNat:=by
  have:=List.take_left (l₁:=l.take i.toNat) (l₂:=List.replicate m z)
  rwa [h1] at this
 have h3:(l.take i.toNat ++ List.replicate m z).drop (i.toNat + 1) = List.replicate (l.length - i.toNat) z:=by
  rw [← List.drop_drop,show (l.take i.toNat ++ List.replicate m z).drop i.toNat = List.replicate m z from by
   have:=List.drop_left (l₁:=l.take i.toNat) (l₂:=List.replicate m z)
   rwa [h1] at this,List.drop_replicate]
  congr 1
  omega
 rw [h2,h3]
 simp
theorem lO {α:Type} {l:List α} {i:Int} {x z:α} (h:0 ≤ i ∧ i < l.length):(l.take i.toNat ++ x :: List.replicate (l.length - i.toNat) z).take (i + 1).toNat ++ (l.drop i.toNat).take (l.length - i.toNat) ++ (l.take i.toNat ++ x :: List.replicate (l.length - i.toNat) z).drop ((i + 1).toNat + (l.length - i.toNat)) = ins l i x:=by
 have h1:(l.take i.toNat).length = i.toNat:=by rw [List.length_take];omega
 have h2:(l.take i.toNat ++ x :: List.replicate (l.length - i.toNat) z).take (i + 1).toNat = l.take i.toNat ++ [x]:=by
  have:=List.take_left (l₁:=l.take i.toNat ++ [x]) (l₂:=List.replicate (l.length - i.toNat) z)
  rw [List.length_append,h1] at this
  rw [show (i + 1).toNat = i.toNat + [x].length from by show _ = i.toNat + 1;omega]
  rw [← this]
  simp
 have e1:(l.drop i.toNat).take (l.length - i.toNat) = l.drop i.toNat:=List.take_of_length_le (by rw [List.length_drop];omega)
 have e2:(l.take i.toNat ++ x :: List.replicate (l.length - i.toNat) z).drop ((i + 1).toNat + (l.length - i.toNat)) = []:=List.drop_eq_nil_of_le (by simp only [List.length_append,List.length_cons,List.length_replicate,h1];omega)
 rw [h2,e1,e2,List.append_nil]
 simp [ins]
theorem BY {α:Type} {l:List α} {i:Int} (h:0 ≤ i ∧ i < l.length):(l.take i.toNat ++ (l.drop (i + 1).toNat).take (l.length - (i + 1).toNat) ++ l.drop (i.toNat + (l.length - (i + 1).toNat))).take (i.toNat + (l.length - (i + 1).toNat)) = del l i:=by
 have h1:(l.take i.toNat).length = i.toNat:=by rw [List.length_take];omega
 have h2:(l.drop (i + 1).toNat).take (l.length - (i + 1).toNat) = l.drop (i.toNat + 1):=by
  rw [show (i + 1).toNat = i.toNat + 1 from by omega,List.take_of_length_le (by rw [List.length_drop];omega)]
 have h3:(l.take i.toNat ++ l.drop (i.toNat + 1)).length = i.toNat + (l.length - (i + 1).toNat):=by
  rw [List.length_append,h1,List.length_drop]
  omega
 rw [h2,← h3,List.take_left]
 rfl
theorem dv {l:List Account} (hl:l.length ≤ 4194304):FC Tryz.prog 215 [.c (.row 0 0 l.length)] ([ro 42 l]) (.c (.row 1 0 l.length)) ([ro 42 l,ow 42 l]):=by
 refine al tk 8 [.tmp 2] Tryz.func215 (by kernel_rfl) rfl rfl rfl rfl rfl rfl rfl ?_
 repeat' (first
| apply yd;rfl
| apply zen;rfl;exact tk;(iterate 7 rfl)
| apply d5 (d:=2) 42 2;rfl;rfl;rfl
| intro _
| refine nv ?_
| apply wct rfl
| apply wcf rfl
| apply aG (α:=Account) (e:=42);rfl
| apply yap;rfl;(((try simp only [lE,lM]);(try dsimp only);omega))
| fail)
 ·rename_i hn
  obtain rfl:l = []:=List.length_eq_zero_iff.1 hn
  exact ai [0,2] rfl rfl rfl rfl rfl rfl
 ·exact ai [0,3] rfl rfl rfl rfl rfl rfl
theorem dP {l:List Instr} (hl:l.length ≤ 4194304):FC Tryz.prog 216 [.c (.row 0 0 l.length)] ([ro 74 l]) (.c (.row 1 0 l.length)) ([ro 74 l,ow 74 l]):=by
 refine al tk 8 [.tmp 2] Tryz.func216 (by kernel_rfl) rfl rfl rfl rfl rfl rfl rfl ?_
 repeat' (first
| apply yd;rfl
| apply zen;rfl;exact tk;(iterate 7 rfl)
| apply d5 (d:=2) 74 2;rfl;rfl;rfl
| intro _
| refine nv ?_
| apply wct rfl
| apply wcf rfl
| apply aG (α:=Instr) (e:=74);rfl
| apply yap;rfl;(((try simp only [lE,lM]);(try dsimp only);omega))
| fail)
 ·rename_i hn
  obtain rfl:l = []:=List.length_eq_zero_iff.1 hn
  exact ai [0,2] rfl rfl rfl rfl rfl rfl
 ·exact ai [0,3] rfl rfl rfl rfl rfl rfl
theorem bX {l:List Bal} (hl:l.length ≤ 4194304):FC Tryz.prog 117 [.c (.row 0 0 l.length)] ([ro 135 l]) (.c (.row 1 0 l.length)) ([ro 135 l,ow 135 l]):=by
 refine al tk 8 [.tmp 2] Tryz.func117 (by kernel_rfl) rfl rfl rfl rfl rfl rfl rfl ?_
 repeat' (first
| apply yd;rfl
| apply zen;rfl;exact tk;(iterate 7 rfl)
| apply d5 (d:=2) 135 3;rfl;rfl;rfl
| intro _
| refine nv ?_
| apply wct rfl
| apply wcf rfl
| apply aG (α:=Bal) (e:=135);rfl
| apply yap;rfl;(((try simp only [lE,lM]);(try dsimp only);omega))
| fail)
 ·rename_i hn
  obtain rfl:l = []:=List.length_eq_zero_iff.1 hn
  exact ai [0,2] rfl rfl rfl rfl rfl rfl
 ·exact ai [0,3] rfl rfl rfl rfl rfl rfl
theorem bj {l:List Lot} (hl:l.length ≤ 4194304):FC Tryz.prog 217 [.c (.row 0 0 l.length)] ([ro 137 l]) (.c (.row 1 0 l.length)) ([ro 137 l,ow 137 l]):=by
 refine al tk 8 [.tmp 2] Tryz.func217 (by kernel_rfl) rfl rfl rfl rfl rfl rfl rfl ?_
 repeat' (first
| apply yd;rfl
| apply zen;rfl;exact tk;(iterate 7 rfl)
| apply d5 (d:=2) 137 5;rfl;rfl;rfl
| intro _
| refine nv ?_
| apply wct rfl
| apply wcf rfl
| apply aG (α:=Lot) (e:=137);rfl
| apply yap;rfl;(((try simp only [lE,lM]);(try dsimp only);omega))
| fail)
 ·rename_i hn
  obtain rfl:l = []:=List.length_eq_zero_iff.1 hn
  exact ai [0,2] rfl rfl rfl rfl rfl rfl
 ·exact ai [0,3] rfl rfl rfl rfl rfl rfl
theorem kC {l:List Trade} (hl:l.length ≤ 4194304):FC Tryz.prog 218 [.c (.row 0 0 l.length)] ([ro 103 l]) (.c (.row 1 0 l.length)) ([ro 103 l,ow 103 l]):=by
 refine al tk 8 [.tmp 2] Tryz.func218 (by kernel_rfl) rfl rfl rfl rfl rfl rfl rfl ?_
 repeat' (first
| apply yd;rfl
| apply zen;rfl;exact tk;(iterate 7 rfl)
| apply d5 (d:=2) 103 8;rfl;rfl;rfl
| intro _
| refine nv ?_
| apply wct rfl
| apply wcf rfl
| apply aG (α:=Trade) (e:=103);rfl
| apply yap;rfl;(((try simp only [lE,lM]);(try dsimp only);omega))
| fail)
 ·rename_i hn
  obtain rfl:l = []:=List.length_eq_zero_iff.1 hn
  exact ai [0,2] rfl rfl rfl rfl rfl rfl
 ·exact ai [0,3] rfl rfl rfl rfl rfl rfl
theorem eC {l:List Account} {i:Int} {x:Account} (hi:0 ≤ i ∧ i ≤ l.length) (hl:l.length ≤ 4194304):FC Tryz.prog 331 [.c (.row 0 0 l.length),I i,.c (.row 1 0 [x].length)] ([ow 42 l,ow 42 [x]]) (.c (.row 2 0 (ins l i x).length)) ([none,none,ow 42 (ins l i x)]):=by
 refine al tk 95 [.tmp 6] Tryz.func331 (by kernel_rfl) rfl rfl rfl rfl rfl rfl rfl ?_
 have h1:[x].length = 1:=rfl
 repeat' (first
| apply yds;rfl
| apply yd;rfl
| apply wm (t:=24) (tR:=4);rfl;exact tk;rfl;exact fun args w => run_callFunc_extern Tryz.func341 (by kernel_rfl) (by kernel_rfl) (by kernel_rfl) (e:=Extern.SlicesOverlaps.overlaps #[24,24] #[4]) (by kernel_rfl) args w;(iterate 8 rfl);(refine ⟨by decide,by omega,by omega⟩);rfl;rfl
| apply qf (α:=Account) 30;rfl;exact tk;(iterate 13 rfl);(refine ⟨by omega,by omega,by dsimp only;omega,by omega⟩);rfl;rfl;rfl
| apply wn 30;rfl;exact tk;(iterate 7 rfl);omega;rfl;rfl
| intro _
| refine nv ?_
| apply wct rfl
| apply wcf rfl
| apply ag;rfl
| apply yar;rfl;omega
| apply yap;rfl;(((try simp only [lE,lM]);(try dsimp only);omega))
| apply wi;rfl;exact tk;(iterate 7 rfl)
| apply wj;rfl;rfl;rfl;rfl;rfl
| refine zdq (id:=15) rfl (by kernel_rfl) [(.p,0),(.p,1),(.p,2),(.p,3),(.p,4),(.p,5),(.p,6),(.p,7),(.l,8)] [8] (by kernel_rfl) rfl ?_
| apply fh;rfl;exact tk;(iterate 8 rfl);omega;rfl;rfl
| fail)
 all_goals first | (exfalso;simp only [List.length_cons,List.length_nil] at *;omega) | skip
 ·exact cy (X':=.c (.row 2 0 (l ++ [x]).length)) (hs':=[none,none,ow 42 (l ++ [x])]) [0,1,2] rfl rfl rfl rfl rfl rfl (by rw [d8 (by assumption)]) (by rw [d8 (by assumption)])
 ·refine fD _ 1 rfl tk rfl rfl rfl rfl rfl rfl rfl rfl rfl rfl ⟨by show min [x].length _ = 1;have:Int.toNat 0 = 0:=rfl;omega,by omega,by simp only [List.length_append,List.length_take,List.length_replicate];have:Int.toNat 0 = 0:=rfl;omega,by omega⟩ (lN ⟨by omega,by omega⟩ (by omega)) rfl rfl rfl ?_
  repeat' (first
| apply yds;rfl
| refine nv ?_
| apply yar;rfl;omega
| refine zdq (id:=11) rfl (by kernel_rfl) [(.p,0),(.p,1),(.p,2),(.p,3),(.p,4),(.p,5),(.p,6),(.p,7),(.l,8)] [8] (by kernel_rfl) rfl ?_
| apply fh;rfl;exact tk;(iterate 8 rfl);omega;rfl;rfl
| fail)
  refine fD (ins l i x) (l.length - i.toNat) rfl tk rfl rfl rfl rfl rfl rfl rfl rfl rfl rfl ⟨by show min _ _ = _;have:Int.toNat 0 = 0:=rfl;omega,by omega,by simp only [List.length_append,List.length_take,List.length_cons,List.length_nil,List.length_replicate];omega,by omega⟩ (lO ⟨by omega,by omega⟩) rfl rfl rfl ?_
  repeat' (first
| apply yds;rfl
| refine nv ?_
| fail)
  exact cy (X':=.c (.row 2 0 (i.toNat - Int.toNat 0 + (↑l.length + ↑[x].length - i).toNat))) (hs':=[none,none,ow 42 (ins l i x)]) [0,1,2] rfl rfl rfl rfl rfl rfl (by rw [show i.toNat - Int.toNat 0 + (↑l.length + ↑[x].length - i).toNat = (ins l i x).length from by rw [bZ (by omega)];have:Int.toNat 0 = 0:=rfl;omega]) rfl
 ·refine fD _ (l.length - i.toNat) rfl tk rfl rfl rfl rfl rfl rfl rfl rfl rfl rfl ⟨by show min _ _ = _;omega,by omega,by omega,by omega⟩ (lK (x:=x) ⟨by omega,by omega⟩) rfl rfl rfl ?_
  repeat' (first
| apply yds;rfl
| apply yd;rfl
| refine nv ?_
| apply fh;rfl;exact tk;(iterate 8 rfl);omega;rfl;rfl
| fail)
  refine fD (ins l i x) 1 rfl tk rfl rfl rfl rfl rfl rfl rfl rfl rfl rfl ⟨by show min [x].length _ = 1;omega,by omega,by simp only [List.length_append,List.length_take,List.length_drop];omega,by omega⟩ (lL ⟨by omega,by omega⟩) rfl rfl rfl ?_
  repeat' (first
| apply yds;rfl
| refine nv ?_
| fail)
  exact cy (X':=.c (.row 2 0 (↑l.length + ↑[x].length:Int).toNat)) (hs':=[none,none,ow 42 (ins l i x)]) [0,1,0] rfl rfl rfl rfl rfl rfl (by rw [show (↑l.length + ↑[x].length:Int).toNat = (ins l i x).length from by rw [bZ (by omega)];omega]) rfl
theorem fj {l:List Instr} {i:Int} {x:Instr} (hi:0 ≤ i ∧ i ≤ l.length) (hl:l.length ≤ 4194304):FC Tryz.prog 332 [.c (.row 0 0 l.length),I i,.c (.row 1 0 [x].length)] ([ow 74 l,ow 74 [x]]) (.c (.row 2 0 (ins l i x).length)) ([none,none,ow 74 (ins l i x)]):=by
 refine al tk 95 [.tmp 6] Tryz.func332 (by kernel_rfl) rfl rfl rfl rfl rfl rfl rfl ?_
 have h1:[x].length = 1:=rfl
 repeat' (first
| apply yds;rfl
| apply yd;rfl
| apply wm (t:=25) (tR:=4);rfl;exact tk;rfl;exact fun args w => run_callFunc_extern Tryz.func343 (by kernel_rfl) (by kernel_rfl) (by kernel_rfl) (e:=Extern.SlicesOverlaps.overlaps #[25,25] #[4]) (by kernel_rfl) args w;(iterate 8 rfl);(refine ⟨by decide,by omega,by omega⟩);rfl;rfl
| apply qf (α:=Instr) 30;rfl;exact tk;(iterate 13 rfl);(refine ⟨by omega,by omega,by dsimp only;omega,by omega⟩);rfl;rfl;rfl
| apply wn 30;rfl;exact tk;(iterate 7 rfl);omega;rfl;rfl
| intro _
| refine nv ?_
| apply wct rfl
| apply wcf rfl
| apply ag;rfl
| apply yar;rfl;omega
| apply yap;rfl;(((try simp only [lE,lM]);(try dsimp only);omega))
| apply wi;rfl;exact tk;(iterate 7 rfl)
| apply wj;rfl;rfl;rfl;rfl;rfl
| refine zdq (id:=15) rfl (by kernel_rfl) [(.p,0),(.p,1),(.p,2),(.p,3),(.p,4),(.p,5),(.p,6),(.p,7),(.l,8)] [8] (by kernel_rfl) rfl ?_
| apply fh;rfl;exact tk;(iterate 8 rfl);omega;rfl;rfl
| fail)
 all_goals first | (exfalso;simp only [List.length_cons,List.length_nil] at *;omega) | skip
 ·exact cy (X':=.c (.row 2 0 (l ++ [x]).length)) (hs':=[none,none,ow 74 (l ++ [x])]) [0,1,2] rfl rfl rfl rfl rfl rfl (by rw [d8 (by assumption)]) (by rw [d8 (by assumption)])
 ·refine fD _ 1 rfl tk rfl rfl rfl rfl rfl rfl rfl rfl rfl rfl ⟨by show min [x].length _ = 1;have:Int.toNat 0 = 0:=rfl;omega,by omega,by simp only [List.length_append,List.length_take,List.length_replicate];have:Int.toNat 0 = 0:=rfl;omega,by omega⟩ (lN ⟨by omega,by omega⟩ (by omega)) rfl rfl rfl ?_
  repeat' (first
| apply yds;rfl
| refine nv ?_
| apply yar;rfl;omega
| refine zdq (id:=11) rfl (by kernel_rfl) [(.p,0),(.p,1),(.p,2),(.p,3),(.p,4),(.p,5),(.p,6),(.p,7),(.l,8)] [8] (by kernel_rfl) rfl ?_
| apply fh;rfl;exact tk;(iterate 8 rfl);omega;rfl;rfl
| fail)
  refine fD (ins l i x) (l.length - i.toNat) rfl tk rfl rfl rfl rfl rfl rfl rfl rfl rfl rfl ⟨by show min _ _ = _;have:Int.toNat 0 = 0:=rfl;omega,by omega,by simp only [List.length_append,List.length_take,List.length_cons,List.length_nil,List.length_replicate];omega,by omega⟩ (lO ⟨by omega,by omega⟩) rfl rfl rfl ?_
  repeat' (first
| apply yds;rfl
| refine nv ?_
| fail)
  exact cy (X':=.c (.row 2 0 (i.toNat - Int.toNat 0 + (↑l.length + ↑[x].length - i).toNat))) (hs':=[none,none,ow 74 (ins l i x)]) [0,1,2] rfl rfl rfl rfl rfl rfl (by rw [show i.toNat - Int.toNat 0 + (↑l.length + ↑[x].length - i).toNat = (ins l i x).length from by rw [bZ (by omega)];have:Int.toNat 0 = 0:=rfl;omega]) rfl
 ·refine fD _ (l.length - i.toNat) rfl tk rfl rfl rfl rfl rfl rfl rfl rfl rfl rfl ⟨by show min _ _ = _;omega,by omega,by omega,by omega⟩ (lK (x:=x) ⟨by omega,by omega⟩) rfl rfl rfl ?_
  repeat' (first
| apply yds;rfl
| apply yd;rfl
| refine nv ?_
| apply fh;rfl;exact tk;(iterate 8 rfl);omega;rfl;rfl
| fail)
  refine fD (ins l i x) 1 rfl tk rfl rfl rfl rfl rfl rfl rfl rfl rfl rfl ⟨by show min [x].length _ = 1;omega,by omega,by simp only [List.length_append,List.length_take,List.length_drop];omega,by omega⟩ (lL ⟨by omega,by omega⟩) rfl rfl rfl ?_
  repeat' (first
| apply yds;rfl
| refine nv ?_
| fail)
  exact cy (X':=.c (.row 2 0 (↑l.length + ↑[x].length:Int).toNat)) (hs':=[none,none,ow 74 (ins l i x)]) [0,1,0] rfl rfl rfl rfl rfl rfl (by rw [show (↑l.length + ↑[x].length:Int).toNat = (ins l i x).length from by rw [bZ (by omega)];omega]) rfl
theorem gD {l:List Bal} {i:Int} {x:Bal} (hi:0 ≤ i ∧ i ≤ l.length) (hl:l.length ≤ 4194304):FC Tryz.prog 231 [.c (.row 0 0 l.length),I i,.c (.row 1 0 [x].length)] ([ow 135 l,ow 135 [x]]) (.c (.row 2 0 (ins l i x).length)) ([none,none,ow 135 (ins l i x)]):=by
 refine al tk 95 [.tmp 6] Tryz.func231 (by kernel_rfl) rfl rfl rfl rfl rfl rfl rfl ?_
 have h1:[x].length = 1:=rfl
 repeat' (first
| apply yds;rfl
| apply yd;rfl
| apply wm (t:=26) (tR:=4);rfl;exact tk;rfl;exact fun args w => run_callFunc_extern Tryz.func295 (by kernel_rfl) (by kernel_rfl) (by kernel_rfl) (e:=Extern.SlicesOverlaps.overlaps #[26,26] #[4]) (by kernel_rfl) args w;(iterate 8 rfl);(refine ⟨by decide,by omega,by omega⟩);rfl;rfl
| apply qf (α:=Bal) 30;rfl;exact tk;(iterate 13 rfl);(refine ⟨by omega,by omega,by dsimp only;omega,by omega⟩);rfl;rfl;rfl
| apply wn 30;rfl;exact tk;(iterate 7 rfl);omega;rfl;rfl
| intro _
| refine nv ?_
| apply wct rfl
| apply wcf rfl
| apply ag;rfl
| apply yar;rfl;omega
| apply yap;rfl;(((try simp only [lE,lM]);(try dsimp only);omega))
| apply wi;rfl;exact tk;(iterate 7 rfl)
| apply wj;rfl;rfl;rfl;rfl;rfl
| refine zdq (id:=15) rfl (by kernel_rfl) [(.p,0),(.p,1),(.p,2),(.p,3),(.p,4),(.p,5),(.p,6),(.p,7),(.l,8)] [8] (by kernel_rfl) rfl ?_
| apply fh;rfl;exact tk;(iterate 8 rfl);omega;rfl;rfl
| fail)
 all_goals first | (exfalso;simp only [List.length_cons,List.length_nil] at *;omega) | skip
 ·exact cy (X':=.c (.row 2 0 (l ++ [x]).length)) (hs':=[none,none,ow 135 (l ++ [x])]) [0,1,2] rfl rfl rfl rfl rfl rfl (by rw [d8 (by assumption)]) (by rw [d8 (by assumption)])
 ·refine fD _ 1 rfl tk rfl rfl rfl rfl rfl rfl rfl rfl rfl rfl ⟨by show min [x].length _ = 1;have:Int.toNat 0 = 0:=rfl;omega,by omega,by simp only [List.length_append,List.length_take,List.length_replicate];have:Int.toNat 0 = 0:=rfl;omega,by omega⟩ (lN ⟨by omega,by omega⟩ (by omega)) rfl rfl rfl ?_
  repeat' (first
| apply yds;rfl
| refine nv ?_
| apply yar;rfl;omega
| refine zdq (id:=11) rfl (by kernel_rfl) [(.p,0),(.p,1),(.p,2),(.p,3),(.p,4),(.p,5),(.p,6),(.p,7),(.l,8)] [8] (by kernel_rfl) rfl ?_
| apply fh;rfl;exact tk;(iterate 8 rfl);omega;rfl;rfl
| fail)
  refine fD (ins l i x) (l.length - i.toNat) rfl tk rfl rfl rfl rfl rfl rfl rfl rfl rfl rfl ⟨by show min _ _ = _;have:Int.toNat 0 = 0:=rfl;omega,by omega,by simp only [List.length_append,List.length_take,List.length_cons,List.length_nil,List.length_replicate];omega,by omega⟩ (lO ⟨by omega,by omega⟩) rfl rfl rfl ?_
  repeat' (first
| apply yds;rfl
| refine nv ?_
| fail)
  exact cy (X':=.c (.row 2 0 (i.toNat - Int.toNat 0 + (↑l.length + ↑[x].length - i).toNat))) (hs':=[none,none,ow 135 (ins l i x)]) [0,1,2] rfl rfl rfl rfl rfl rfl (by rw [show i.toNat - Int.toNat 0 + (↑l.length + ↑[x].length - i).toNat = (ins l i x).length from by rw [bZ (by omega)];have:Int.toNat 0 = 0:=rfl;omega]) rfl
 ·refine fD _ (l.length - i.toNat) rfl tk rfl rfl rfl rfl rfl rfl rfl rfl rfl rfl ⟨by show min _ _ = _;omega,by omega,by omega,by omega⟩ (lK (x:=x) ⟨by omega,by omega⟩) rfl rfl rfl ?_
  repeat' (first
| apply yds;rfl
| apply yd;rfl
| refine nv ?_
| apply fh;rfl;exact tk;(iterate 8 rfl);omega;rfl;rfl
| fail)
  refine fD (ins l i x) 1 rfl tk rfl rfl rfl rfl rfl rfl rfl rfl rfl rfl ⟨by show min [x].length _ = 1;omega,by omega,by simp only [List.length_append,List.length_take,List.length_drop];omega,by omega⟩ (lL ⟨by omega,by omega⟩) rfl rfl rfl ?_
  repeat' (first
| apply yds;rfl
| refine nv ?_
| fail)
  exact cy (X':=.c (.row 2 0 (↑l.length + ↑[x].length:Int).toNat)) (hs':=[none,none,ow 135 (ins l i x)]) [0,1,0] rfl rfl rfl rfl rfl rfl (by rw [show (↑l.length + ↑[x].length:Int).toNat = (ins l i x).length from by rw [bZ (by omega)];omega]) rfl
theorem li {l:List Leg} {i:Int} {x:Leg} (hi:0 ≤ i ∧ i ≤ l.length) (hl:l.length ≤ 4194304):FC Tryz.prog 233 [.c (.row 0 0 l.length),I i,.c (.row 1 0 [x].length)] ([ow 46 l,ow 46 [x]]) (.c (.row 2 0 (ins l i x).length)) ([none,none,ow 46 (ins l i x)]):=by
 refine al tk 95 [.tmp 6] Tryz.func233 (by kernel_rfl) rfl rfl rfl rfl rfl rfl rfl ?_
 have h1:[x].length = 1:=rfl
 repeat' (first
| apply yds;rfl
| apply yd;rfl
| apply wm (t:=33) (tR:=4);rfl;exact tk;rfl;exact fun args w => run_callFunc_extern Tryz.func297 (by kernel_rfl) (by kernel_rfl) (by kernel_rfl) (e:=Extern.SlicesOverlaps.overlaps #[33,33] #[4]) (by kernel_rfl) args w;(iterate 8 rfl);(refine ⟨by decide,by omega,by omega⟩);rfl;rfl
| apply qf (α:=Leg) 30;rfl;exact tk;(iterate 13 rfl);(refine ⟨by omega,by omega,by dsimp only;omega,by omega⟩);rfl;rfl;rfl
| apply wn 30;rfl;exact tk;(iterate 7 rfl);omega;rfl;rfl
| intro _
| refine nv ?_
| apply wct rfl
| apply wcf rfl
| apply ag;rfl
| apply yar;rfl;omega
| apply yap;rfl;(((try simp only [lE,lM]);(try dsimp only);omega))
| apply wi;rfl;exact tk;(iterate 7 rfl)
| apply wj;rfl;rfl;rfl;rfl;rfl
| refine zdq (id:=15) rfl (by kernel_rfl) [(.p,0),(.p,1),(.p,2),(.p,3),(.p,4),(.p,5),(.p,6),(.p,7),(.l,8)] [8] (by kernel_rfl) rfl ?_
| apply fh;rfl;exact tk;(iterate 8 rfl);omega;rfl;rfl
| fail)
 all_goals first | (exfalso;simp only [List.length_cons,List.length_nil] at *;omega) | skip
 ·exact cy (X':=.c (.row 2 0 (l ++ [x]).length)) (hs':=[none,none,ow 46 (l ++ [x])]) [0,1,2] rfl rfl rfl rfl rfl rfl (by rw [d8 (by assumption)]) (by rw [d8 (by assumption)])
 ·refine fD _ 1 rfl tk rfl rfl rfl rfl rfl rfl rfl rfl rfl rfl ⟨by show min [x].length _ = 1;have:Int.toNat 0 = 0:=rfl;omega,by omega,by simp only [List.length_append,List.length_take,List.length_replicate];have:Int.toNat 0 = 0:=rfl;omega,by omega⟩ (lN ⟨by omega,by omega⟩ (by omega)) rfl rfl rfl ?_
  repeat' (first
| apply yds;rfl
| refine nv ?_
| apply yar;rfl;omega
| refine zdq (id:=11) rfl (by kernel_rfl) [(.p,0),(.p,1),(.p,2),(.p,3),(.p,4),(.p,5),(.p,6),(.p,7),(.l,8)] [8] (by kernel_rfl) rfl ?_
| apply fh;rfl;exact tk;(iterate 8 rfl);omega;rfl;rfl
| fail)
  refine fD (ins l i x) (l.length - i.toNat) rfl tk rfl rfl rfl rfl rfl rfl rfl rfl rfl rfl ⟨by show min _ _ = _;have:Int.toNat 0 = 0:=rfl;omega,by omega,by simp only [List.length_append,List.length_take,List.length_cons,List.length_nil,List.length_replicate];omega,by omega⟩ (lO ⟨by omega,by omega⟩) rfl rfl rfl ?_
  repeat' (first
| apply yds;rfl
| refine nv ?_
| fail)
  exact cy (X':=.c (.row 2 0 (i.toNat - Int.toNat 0 + (↑l.length + ↑[x].length - i).toNat))) (hs':=[none,none,ow 46 (ins l i x)]) [0,1,2] rfl rfl rfl rfl rfl rfl (by rw [show i.toNat - Int.toNat 0 + (↑l.length + ↑[x].length - i).toNat = (ins l i x).length from by rw [bZ (by omega)];have:Int.toNat 0 = 0:=rfl;omega]) rfl
 ·refine fD _ (l.length - i.toNat) rfl tk rfl rfl rfl rfl rfl rfl rfl rfl rfl rfl ⟨by show min _ _ = _;omega,by omega,by omega,by omega⟩ (lK (x:=x) ⟨by omega,by omega⟩) rfl rfl rfl ?_
  repeat' (first
| apply yds;rfl
| apply yd;rfl
| refine nv ?_
| apply fh;rfl;exact tk;(iterate 8 rfl);omega;rfl;rfl
| fail)
  refine fD (ins l i x) 1 rfl tk rfl rfl rfl rfl rfl rfl rfl rfl rfl rfl ⟨by show min [x].length _ = 1;omega,by omega,by simp only [List.length_append,List.length_take,List.length_drop];omega,by omega⟩ (lL ⟨by omega,by omega⟩) rfl rfl rfl ?_
  repeat' (first
| apply yds;rfl
| refine nv ?_
| fail)
  exact cy (X':=.c (.row 2 0 (↑l.length + ↑[x].length:Int).toNat)) (hs':=[none,none,ow 46 (ins l i x)]) [0,1,0] rfl rfl rfl rfl rfl rfl (by rw [show (↑l.length + ↑[x].length:Int).toNat = (ins l i x).length from by rw [bZ (by omega)];omega]) rfl
theorem gE {l:List Lot} {i:Int} {x:Lot} (hi:0 ≤ i ∧ i ≤ l.length) (hl:l.length ≤ 4194304):FC Tryz.prog 294 [.c (.row 0 0 l.length),I i,.c (.row 1 0 [x].length)] ([ow 137 l,ow 137 [x]]) (.c (.row 2 0 (ins l i x).length)) ([none,none,ow 137 (ins l i x)]):=by
 refine al tk 95 [.tmp 6] Tryz.func294 (by kernel_rfl) rfl rfl rfl rfl rfl rfl rfl ?_
 have h1:[x].length = 1:=rfl
 repeat' (first
| apply yds;rfl
| apply yd;rfl
| apply wm (t:=27) (tR:=4);rfl;exact tk;rfl;exact fun args w => run_callFunc_extern Tryz.func324 (by kernel_rfl) (by kernel_rfl) (by kernel_rfl) (e:=Extern.SlicesOverlaps.overlaps #[27,27] #[4]) (by kernel_rfl) args w;(iterate 8 rfl);(refine ⟨by decide,by omega,by omega⟩);rfl;rfl
| apply qf (α:=Lot) 30;rfl;exact tk;(iterate 13 rfl);(refine ⟨by omega,by omega,by dsimp only;omega,by omega⟩);rfl;rfl;rfl
| apply wn 30;rfl;exact tk;(iterate 7 rfl);omega;rfl;rfl
| intro _
| refine nv ?_
| apply wct rfl
| apply wcf rfl
| apply ag;rfl
| apply yar;rfl;omega
| apply yap;rfl;(((try simp only [lE,lM]);(try dsimp only);omega))
| apply wi;rfl;exact tk;(iterate 7 rfl)
| apply wj;rfl;rfl;rfl;rfl;rfl
| refine zdq (id:=15) rfl (by kernel_rfl) [(.p,0),(.p,1),(.p,2),(.p,3),(.p,4),(.p,5),(.p,6),(.p,7),(.l,8)] [8] (by kernel_rfl) rfl ?_
| apply fh;rfl;exact tk;(iterate 8 rfl);omega;rfl;rfl
| fail)
 all_goals first | (exfalso;simp only [List.length_cons,List.length_nil] at *;omega) | skip
 ·exact cy (X':=.c (.row 2 0 (l ++ [x]).length)) (hs':=[none,none,ow 137 (l ++ [x])]) [0,1,2] rfl rfl rfl rfl rfl rfl (by rw [d8 (by assumption)]) (by rw [d8 (by assumption)])
 ·refine fD _ 1 rfl tk rfl rfl rfl rfl rfl rfl rfl rfl rfl rfl ⟨by show min [x].length _ = 1;have:Int.toNat 0 = 0:=rfl;omega,by omega,by simp only [List.length_append,List.length_take,List.length_replicate];have:Int.toNat 0 = 0:=rfl;omega,by omega⟩ (lN ⟨by omega,by omega⟩ (by omega)) rfl rfl rfl ?_
  repeat' (first
| apply yds;rfl
| refine nv ?_
| apply yar;rfl;omega
| refine zdq (id:=11) rfl (by kernel_rfl) [(.p,0),(.p,1),(.p,2),(.p,3),(.p,4),(.p,5),(.p,6),(.p,7),(.l,8)] [8] (by kernel_rfl) rfl ?_
| apply fh;rfl;exact tk;(iterate 8 rfl);omega;rfl;rfl
| fail)
  refine fD (ins l i x) (l.length - i.toNat) rfl tk rfl rfl rfl rfl rfl rfl rfl rfl rfl rfl ⟨by show min _ _ = _;have:Int.toNat 0 = 0:=rfl;omega,by omega,by simp only [List.length_append,List.length_take,List.length_cons,List.length_nil,List.length_replicate];omega,by omega⟩ (lO ⟨by omega,by omega⟩) rfl rfl rfl ?_
  repeat' (first
| apply yds;rfl
| refine nv ?_
| fail)
  exact cy (X':=.c (.row 2 0 (i.toNat - Int.toNat 0 + (↑l.length + ↑[x].length - i).toNat))) (hs':=[none,none,ow 137 (ins l i x)]) [0,1,2] rfl rfl rfl rfl rfl rfl (by rw [show i.toNat - Int.toNat 0 + (↑l.length + ↑[x].length - i).toNat = (ins l i x).length from by rw [bZ (by omega)];have:Int.toNat 0 = 0:=rfl;omega]) rfl
 ·refine fD _ (l.length - i.toNat) rfl tk rfl rfl rfl rfl rfl rfl rfl rfl rfl rfl ⟨by show min _ _ = _;omega,by omega,by omega,by omega⟩ (lK (x:=x) ⟨by omega,by omega⟩) rfl rfl rfl ?_
  repeat' (first
| apply yds;rfl
| apply yd;rfl
| refine nv ?_
| apply fh;rfl;exact tk;(iterate 8 rfl);omega;rfl;rfl
| fail)
  refine fD (ins l i x) 1 rfl tk rfl rfl rfl rfl rfl rfl rfl rfl rfl rfl ⟨by show min [x].length _ = 1;omega,by omega,by simp only [List.length_append,List.length_take,List.length_drop];omega,by omega⟩ (lL ⟨by omega,by omega⟩) rfl rfl rfl ?_
  repeat' (first
| apply yds;rfl
| refine nv ?_
| fail)
  exact cy (X':=.c (.row 2 0 (↑l.length + ↑[x].length:Int).toNat)) (hs':=[none,none,ow 137 (ins l i x)]) [0,1,0] rfl rfl rfl rfl rfl rfl (by rw [show (↑l.length + ↑[x].length:Int).toNat = (ins l i x).length from by rw [bZ (by omega)];omega]) rfl
theorem jT {l:List Trade} {i:Int} {x:Trade} (hi:0 ≤ i ∧ i ≤ l.length) (hl:l.length ≤ 4194304):FC Tryz.prog 203 [.c (.row 0 0 l.length),I i,.c (.row 1 0 [x].length)] ([ow 103 l,ow 103 [x]]) (.c (.row 2 0 (ins l i x).length)) ([none,none,ow 103 (ins l i x)]):=by
 refine al tk 95 [.tmp 6] Tryz.func203 (by kernel_rfl) rfl rfl rfl rfl rfl rfl rfl ?_
 have h1:[x].length = 1:=rfl
 repeat' (first
| apply yds;rfl
| apply yd;rfl
| apply wm (t:=28) (tR:=4);rfl;exact tk;rfl;exact fun args w => run_callFunc_extern Tryz.func278 (by kernel_rfl) (by kernel_rfl) (by kernel_rfl) (e:=Extern.SlicesOverlaps.overlaps #[28,28] #[4]) (by kernel_rfl) args w;(iterate 8 rfl);(refine ⟨by decide,by omega,by omega⟩);rfl;rfl
| apply qf (α:=Trade) 30;rfl;exact tk;(iterate 13 rfl);(refine ⟨by omega,by omega,by dsimp only;omega,by omega⟩);rfl;rfl;rfl
| apply wn 30;rfl;exact tk;(iterate 7 rfl);omega;rfl;rfl
| intro _
| refine nv ?_
| apply wct rfl
| apply wcf rfl
| apply ag;rfl
| apply yar;rfl;omega
| apply yap;rfl;(((try simp only [lE,lM]);(try dsimp only);omega))
| apply wi;rfl;exact tk;(iterate 7 rfl)
| apply wj;rfl;rfl;rfl;rfl;rfl
| refine zdq (id:=15) rfl (by kernel_rfl) [(.p,0),(.p,1),(.p,2),(.p,3),(.p,4),(.p,5),(.p,6),(.p,7),(.l,8)] [8] (by kernel_rfl) rfl ?_
| apply fh;rfl;exact tk;(iterate 8 rfl);omega;rfl;rfl
| fail)
 all_goals first | (exfalso;simp only [List.length_cons,List.length_nil] at *;omega) | skip
 ·exact cy (X':=.c (.row 2 0 (l ++ [x]).length)) (hs':=[none,none,ow 103 (l ++ [x])]) [0,1,2] rfl rfl rfl rfl rfl rfl (by rw [d8 (by assumption)]) (by rw [d8 (by assumption)])
 ·refine fD _ 1 rfl tk rfl rfl rfl rfl rfl rfl rfl rfl rfl rfl ⟨by show min [x].length _ = 1;have:Int.toNat 0 = 0:=rfl;omega,by omega,by simp only [List.length_append,List.length_take,List.length_replicate];have:Int.toNat 0 = 0:=rfl;omega,by omega⟩ (lN ⟨by omega,by omega⟩ (by omega)) rfl rfl rfl ?_
  repeat' (first
| apply yds;rfl
| refine nv ?_
| apply yar;rfl;omega
| refine zdq (id:=11) rfl (by kernel_rfl) [(.p,0),(.p,1),(.p,2),(.p,3),(.p,4),(.p,5),(.p,6),(.p,7),(.l,8)] [8] (by kernel_rfl) rfl ?_
| apply fh;rfl;exact tk;(iterate 8 rfl);omega;rfl;rfl
| fail)
  refine fD (ins l i x) (l.length - i.toNat) rfl tk rfl rfl rfl rfl rfl rfl rfl rfl rfl rfl ⟨by show min _ _ = _;have:Int.toNat 0 = 0:=rfl;omega,by omega,by simp only [List.length_append,List.length_take,List.length_cons,List.length_nil,List.length_replicate];omega,by omega⟩ (lO ⟨by omega,by omega⟩) rfl rfl rfl ?_
  repeat' (first
| apply yds;rfl
| refine nv ?_
| fail)
  exact cy (X':=.c (.row 2 0 (i.toNat - Int.toNat 0 + (↑l.length + ↑[x].length - i).toNat))) (hs':=[none,none,ow 103 (ins l i x)]) [0,1,2] rfl rfl rfl rfl rfl rfl (by rw [show i.toNat - Int.toNat 0 + (↑l.length + ↑[x].length - i).toNat = (ins l i x).length from by rw [bZ (by omega)];have:Int.toNat 0 = 0:=rfl;omega]) rfl
 ·refine fD _ (l.length - i.toNat) rfl tk rfl rfl rfl rfl rfl rfl rfl rfl rfl rfl ⟨by show min _ _ = _;omega,by omega,by omega,by omega⟩ (lK (x:=x) ⟨by omega,by omega⟩) rfl rfl rfl ?_
  repeat' (first
| apply yds;rfl
| apply yd;rfl
| refine nv ?_
| apply fh;rfl;exact tk;(iterate 8 rfl);omega;rfl;rfl
| fail)
  refine fD (ins l i x) 1 rfl tk rfl rfl rfl rfl rfl rfl rfl rfl rfl rfl ⟨by show min [x].length _ = 1;omega,by omega,by simp only [List.length_append,List.length_take,List.length_drop];omega,by omega⟩ (lL ⟨by omega,by omega⟩) rfl rfl rfl ?_
  repeat' (first
| apply yds;rfl
| refine nv ?_
| fail)
  exact cy (X':=.c (.row 2 0 (↑l.length + ↑[x].length:Int).toNat)) (hs':=[none,none,ow 103 (ins l i x)]) [0,1,0] rfl rfl rfl rfl rfl rfl (by rw [show (↑l.length + ↑[x].length:Int).toNat = (ins l i x).length from by rw [bZ (by omega)];omega]) rfl
theorem gC {l:List Bal} {i:Int} (hi:0 ≤ i ∧ i < l.length) (hl:l.length ≤ 4194304):FC Tryz.prog 230 [.c (.row 0 0 l.length),I i,I (i + 1)] ([ow 135 l]) (.c (.row 0 0 (del l i).length)) ([ow 135 (del l i)]):=by
 refine al tk 33 [.tmp 6] Tryz.func230 (by kernel_rfl) rfl rfl rfl rfl rfl rfl rfl ?_
 repeat' (first
| apply yds;rfl
| apply yd;rfl
| intro _
| refine nv ?_
| apply wct rfl
| apply wcf rfl
| apply yeq;rfl
| apply D2;rfl;exact tk;(iterate 7 rfl);omega;rfl;rfl
| refine zdq (id:=5) rfl (by kernel_rfl) [(.p,0),(.p,1),(.p,2),(.p,3),(.p,4),(.p,5),(.l,6),(.p,7)] [6] (by kernel_rfl) rfl ?_
| apply fh;rfl;exact tk;(iterate 8 rfl);omega;rfl;rfl
| fail)
 all_goals first | (exfalso;omega) | skip
 obtain ⟨zs,hz⟩:∃ zs,l.take i.toNat ++ (l.drop (i + 1).toNat).take (l.length - (i + 1).toNat) ++ l.drop (i.toNat + (l.length - (i + 1).toNat)) = zs:=⟨_,rfl⟩
 have hzl:zs.length = l.length:=by rw [← hz];simp only [List.length_append,List.length_take,List.length_drop];omega
 have h0:Int.toNat 0 = 0:=rfl
 refine CX zs rfl tk rfl rfl rfl rfl rfl rfl rfl rfl ⟨by omega,by omega⟩ hz rfl rfl rfl ?_
 repeat' (first
| apply yds;rfl
| apply yd;rfl
| refine nv ?_
| apply D3;rfl;exact tk;(iterate 8 rfl);(simp only [List.length_map] at *;omega);rfl;rfl
| fail)
 refine Ai rfl tk rfl rfl rfl rfl rfl rfl rfl (by omega) rfl rfl ?_
 repeat' (first
| apply yds;rfl
| refine nv ?_
| fail)
 exact cy (X':=.c (.row 0 0 (i.toNat - Int.toNat 0 + ((↑l.length:Int).toNat - (i + 1).toNat)))) (hs':=[ow 135 (zs.take (i.toNat + (l.length - (i + 1).toNat)))]) [0] rfl rfl rfl rfl rfl rfl (by rw [show i.toNat - Int.toNat 0 + ((↑l.length:Int).toNat - (i + 1).toNat) = (del l i).length from by rw [uC (by omega)];omega]) (by rw [← hz,BY (by omega)])
end Go.Proofs.YtgehbhkfehmdkaaGreat.Sh
