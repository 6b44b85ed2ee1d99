/- slices.Clone, slices.Insert, slices.Delete. No condition. -/
import Derived.Test.YtgehbhkfehmdkaaGreatKUShV
import Derived.Test.YtgehbhkfehmdkaaGreatKUShU
set_option maxRecDepth 100000
set_option maxHeartbeats 40000000
set_option linter.unusedSectionVars false
set_option linter.unusedSimpArgs false
set_option linter.unusedVariables false
namespace Go.Proofs.YtgehbhkfehmdkaaGreat.Sh
section
open Go.RowKit
def ins {α:Type} (l:List α) (i:Int) (x:α):List α:=l.take i.toNat ++ x :: l.drop i.toNat
def del {α:Type} (l:List α) (i:Int):List α:=l.take i.toNat ++ l.drop (i.toNat + 1)
theorem cZ {α:Type} {l:List α} {i:Int} {x:α} (h:0 ≤ i ∧ i ≤ l.length):(ins l i x).length = l.length + 1:=by
 simp only [ins,List.length_append,List.length_cons,List.length_take,List.length_drop]
 omega
theorem vh {α:Type} {l:List α} {i:Int} (h:0 ≤ i ∧ i < l.length):(del l i).length = l.length - 1:=by
 simp only [del,List.length_append,List.length_take,List.length_drop]
 omega
theorem gA {α:Type} {l:List α} {i:Int} {x:α} (h:i = l.length):ins l i x = l ++ [x]:=by
 subst h
 simp [ins]
theorem ur {α:Type} {l:List α} {i:Int} {x:α} (h:0 ≤ i ∧ i < l.length):l.take (i + 1).toNat ++ (l.drop i.toNat).take (l.length - i.toNat) ++ l.drop ((i + 1).toNat + (l.length - i.toNat)) = l.take (i.toNat + 1) ++ l.drop i.toNat:=by
 have e1:(l.drop i.toNat).take (l.length - i.toNat) = l.drop i.toNat:=List.take_of_length_le (by rw [List.length_drop];omega)
 have e2:l.drop ((i + 1).toNat + (l.length - i.toNat)) = []:=List.drop_eq_nil_of_le (by omega)
 rw [e1,e2,List.append_nil,show (i + 1).toNat = i.toNat + 1 from by omega]
theorem ut {α:Type} {l:List α} {i:Int} {x:α} (h:0 ≤ i ∧ i < l.length):(l.take (i.toNat + 1) ++ l.drop i.toNat).take i.toNat ++ ([x].drop 0).take 1 ++ (l.take (i.toNat + 1) ++ l.drop i.toNat).drop (i.toNat + 1) = ins l i x:=by
 have h1:(l.take (i.toNat + 1)).length = i.toNat + 1:=by rw [List.length_take];omega
 have e1:(l.take (i.toNat + 1) ++ l.drop i.toNat).take i.toNat = l.take i.toNat:=by
  rw [List.take_append_of_le_length (by omega),List.take_take,Nat.min_eq_left (by omega)]
 have e2:(l.take (i.toNat + 1) ++ l.drop i.toNat).drop (i.toNat + 1) = l.drop i.toNat:=by
  have:=List.drop_left (l₁:=l.take (i.toNat + 1)) (l₂:=l.drop i.toNat)
  rwa [h1] at this
 rw [e1,e2]
 simp [ins]
theorem uu {α:Type} {l:List α} {i:Int} {x z:α} {m:Nat} (h:0 ≤ i ∧ i < l.length) (hm:m = l.length + 1 - i.toNat):(l.take i.toNat ++ List.replicate m z).take i.toNat ++ ([x].drop 0).take 1 ++ (l.take i.toNat ++ List.replicate m z).drop (i.toNat + 1) = l.take i.toNat ++ x :: List.replicate (l.length - i.toNat) z:=by
 have h1:(l.take i.toNat).length = i.toNat:=by rw [List.length_take];omega
 have h2:(l.take i.toNat ++ List.replicate m z).take i.toNat = l.take i.toNat:=by
  have:=List.take_left (l₁:=l.take i.toNat) (l₂:=List.replicate m z)
  rwa [h1] at this
 have h3:(l.take i.toNat ++ List.replicate m z).drop (i.toNat + 1) = List.replicate (l.length - i.toNat) z:=by
  rw [← List.drop_drop,show (l.take i.toNat ++ List.replicate m z).drop i.toNat = List.replicate m z from by
   have:=List.drop_left (l₁:=l.take i.toNat) (l₂:=List.replicate m z)
   rwa [h1] at this,List.drop_replicate]
  congr 1
  omega
 rw [h2,h3]
 simp
theorem uv {α:Type} {l:List α} {i:Int} {x z:α} (h:0 ≤ i ∧ i < l.length):(l.take i.toNat ++ x :: List.replicate (l.length - i.toNat) z).take (i + 1).toNat ++ (l.drop i.toNat).take (l.length - i.toNat) ++ (l.take i.toNat ++ x :: List.replicate (l.length - i.toNat) z).drop ((i + 1).toNat + (l.length - i.toNat)) = ins l i x:=by
 have h1:(l.take i.toNat).length = i.toNat:=by rw [List.length_take];omega
 have h2:(l.take i.toNat ++ x :: List.replicate (l.length - i.toNat) z).take (i + 1).toNat = l.take i.toNat ++ [x]:=by
  have:=List.take_left (l₁:=l.take i.toNat ++ [x]) (l₂:=List.replicate (l.length - i.toNat) z)
  rw [List.length_append,h1] at this
  rw [show (i + 1).toNat = i.toNat + [x].length from by show _ = i.toNat + 1;omega]
  rw [← this]
  simp
 have e1:(l.drop i.toNat).take (l.length - i.toNat) = l.drop i.toNat:=List.take_of_length_le (by rw [List.length_drop];omega)
 have e2:(l.take i.toNat ++ x :: List.replicate (l.length - i.toNat) z).drop ((i + 1).toNat + (l.length - i.toNat)) = []:=List.drop_eq_nil_of_le (by simp only [List.length_append,List.length_cons,List.length_replicate,h1];omega)
 rw [h2,e1,e2,List.append_nil]
 simp [ins]
theorem Cu {α:Type} {l:List α} {i:Int} (h:0 ≤ i ∧ i < l.length):(l.take i.toNat ++ (l.drop (i + 1).toNat).take (l.length - (i + 1).toNat) ++ l.drop (i.toNat + (l.length - (i + 1).toNat))).take (i.toNat + (l.length - (i + 1).toNat)) = del l i:=by
 have h1:(l.take i.toNat).length = i.toNat:=by rw [List.length_take];omega
 have h2:(l.drop (i + 1).toNat).take (l.length - (i + 1).toNat) = l.drop (i.toNat + 1):=by
  rw [show (i + 1).toNat = i.toNat + 1 from by omega,List.take_of_length_le (by rw [List.length_drop];omega)]
 have h3:(l.take i.toNat ++ l.drop (i.toNat + 1)).length = i.toNat + (l.length - (i + 1).toNat):=by
  rw [List.length_append,h1,List.length_drop]
  omega
 rw [h2,← h3,List.take_left]
 rfl
theorem kA {l:List Account} (hl:l.length ≤ 4194304):FC Tryz.prog 215 [.c (.row 0 0 l.length)] ([ro 42 l]) (.c (.row 1 0 l.length)) ([ro 42 l,ow 42 l]):=by
 refine ax tk 8 [.tmp 2] Tryz.func215 (by kernel_rfl) rfl rfl rfl rfl rfl rfl rfl ?_
 repeat' (first
| apply yd;rfl
| apply zen;rfl;exact tk;(iterate 7 rfl)
| apply fZ (d:=2) 42 2;rfl;rfl;rfl
| intro _
| refine nv ?_
| apply wct rfl
| apply wcf rfl
| apply aH (α:=Account) (e:=42);rfl
| apply yap;rfl;(((try simp only [lE,lM]);(try dsimp only);omega))
| fail)
 ·rename_i hn
  obtain rfl:l = []:=List.length_eq_zero_iff.1 hn
  exact ak [0,2] rfl rfl rfl rfl rfl rfl
 ·exact ak [0,3] rfl rfl rfl rfl rfl rfl
theorem lX {l:List Instr} (hl:l.length ≤ 4194304):FC Tryz.prog 216 [.c (.row 0 0 l.length)] ([ro 74 l]) (.c (.row 1 0 l.length)) ([ro 74 l,ow 74 l]):=by
 refine ax tk 8 [.tmp 2] Tryz.func216 (by kernel_rfl) rfl rfl rfl rfl rfl rfl rfl ?_
 repeat' (first
| apply yd;rfl
| apply zen;rfl;exact tk;(iterate 7 rfl)
| apply fZ (d:=2) 74 2;rfl;rfl;rfl
| intro _
| refine nv ?_
| apply wct rfl
| apply wcf rfl
| apply aH (α:=Instr) (e:=74);rfl
| apply yap;rfl;(((try simp only [lE,lM]);(try dsimp only);omega))
| fail)
 ·rename_i hn
  obtain rfl:l = []:=List.length_eq_zero_iff.1 hn
  exact ak [0,2] rfl rfl rfl rfl rfl rfl
 ·exact ak [0,3] rfl rfl rfl rfl rfl rfl
theorem bT {l:List Bal} (hl:l.length ≤ 4194304):FC Tryz.prog 117 [.c (.row 0 0 l.length)] ([ro 135 l]) (.c (.row 1 0 l.length)) ([ro 135 l,ow 135 l]):=by
 refine ax tk 8 [.tmp 2] Tryz.func117 (by kernel_rfl) rfl rfl rfl rfl rfl rfl rfl ?_
 repeat' (first
| apply yd;rfl
| apply zen;rfl;exact tk;(iterate 7 rfl)
| apply fZ (d:=2) 135 3;rfl;rfl;rfl
| intro _
| refine nv ?_
| apply wct rfl
| apply wcf rfl
| apply aH (α:=Bal) (e:=135);rfl
| apply yap;rfl;(((try simp only [lE,lM]);(try dsimp only);omega))
| fail)
 ·rename_i hn
  obtain rfl:l = []:=List.length_eq_zero_iff.1 hn
  exact ak [0,2] rfl rfl rfl rfl rfl rfl
 ·exact ak [0,3] rfl rfl rfl rfl rfl rfl
theorem cL {l:List Lot} (hl:l.length ≤ 4194304):FC Tryz.prog 217 [.c (.row 0 0 l.length)] ([ro 137 l]) (.c (.row 1 0 l.length)) ([ro 137 l,ow 137 l]):=by
 refine ax tk 8 [.tmp 2] Tryz.func217 (by kernel_rfl) rfl rfl rfl rfl rfl rfl rfl ?_
 repeat' (first
| apply yd;rfl
| apply zen;rfl;exact tk;(iterate 7 rfl)
| apply fZ (d:=2) 137 5;rfl;rfl;rfl
| intro _
| refine nv ?_
| apply wct rfl
| apply wcf rfl
| apply aH (α:=Lot) (e:=137);rfl
| apply yap;rfl;(((try simp only [lE,lM]);(try dsimp only);omega))
| fail)
 ·rename_i hn
  obtain rfl:l = []:=List.length_eq_zero_iff.1 hn
  exact ak [0,2] rfl rfl rfl rfl rfl rfl
 ·exact ak [0,3] rfl rfl rfl rfl rfl rfl
theorem lY {l:List Trade} (hl:l.length ≤ 4194304):FC Tryz.prog 218 [.c (.row 0 0 l.length)] ([ro 103 l]) (.c (.row 1 0 l.length)) ([ro 103 l,ow 103 l]):=by
 refine ax tk 8 [.tmp 2] Tryz.func218 (by kernel_rfl) rfl rfl rfl rfl rfl rfl rfl ?_
 repeat' (first
| apply yd;rfl
| apply zen;rfl;exact tk;(iterate 7 rfl)
| apply fZ (d:=2) 103 8;rfl;rfl;rfl
| intro _
| refine nv ?_
| apply wct rfl
| apply wcf rfl
| apply aH (α:=Trade) (e:=103);rfl
| apply yap;rfl;(((try simp only [lE,lM]);(try dsimp only);omega))
| fail)
 ·rename_i hn
  obtain rfl:l = []:=List.length_eq_zero_iff.1 hn
  exact ak [0,2] rfl rfl rfl rfl rfl rfl
 ·exact ak [0,3] rfl rfl rfl rfl rfl rfl
theorem iD {l:List Bal} {i:Int} {x:Bal} (hi:0 ≤ i ∧ i ≤ l.length) (hl:l.length ≤ 4194304):FC Tryz.prog 231 [.c (.row 0 0 l.length),I i,.c (.row 1 0 [x].length)] ([ow 135 l,ow 135 [x]]) (.c (.row 2 0 (ins l i x).length)) ([none,none,ow 135 (ins l i x)]):=by
 refine ax tk 95 [.tmp 6] Tryz.func231 (by kernel_rfl) rfl rfl rfl rfl rfl rfl rfl ?_
 have h1:[x].length = 1:=rfl
 repeat' (first
| apply yds;rfl
| apply yd;rfl
| apply Cn (t:=26) (tR:=4);rfl;exact tk;rfl;exact fun args w => run_callFunc_extern Tryz.func295 (by kernel_rfl) (by kernel_rfl) (by kernel_rfl) (e:=Extern.SlicesOverlaps.overlaps #[26,26] #[4]) (by kernel_rfl) args w;(iterate 8 rfl);(refine ⟨by decide,by omega,by omega⟩);rfl;rfl
| apply zn (α:=Bal) 30;rfl;exact tk;(iterate 13 rfl);(refine ⟨by omega,by omega,by dsimp only;omega,by omega⟩);rfl;rfl;rfl
| apply Co 30;rfl;exact tk;(iterate 7 rfl);omega;rfl;rfl
| intro _
| refine nv ?_
| apply wct rfl
| apply wcf rfl
| apply ai;rfl
| apply yar;rfl;omega
| apply yap;rfl;(((try simp only [lE,lM]);(try dsimp only);omega))
| apply Ci;rfl;exact tk;(iterate 7 rfl)
| apply Ck;rfl;rfl;rfl;rfl;rfl
| refine zdq (id:=15) rfl (by kernel_rfl) [(.p,0),(.p,1),(.p,2),(.p,3),(.p,4),(.p,5),(.p,6),(.p,7),(.l,8)] [8] (by kernel_rfl) rfl ?_
| apply mU;rfl;exact tk;(iterate 8 rfl);omega;rfl;rfl
| fail)
 all_goals first | (exfalso;simp only [List.length_cons,List.length_nil] at *;omega) | skip
 ·exact dP (X':=.c (.row 2 0 (l ++ [x]).length)) (hs':=[none,none,ow 135 (l ++ [x])]) [0,1,2] rfl rfl rfl rfl rfl rfl (by rw [gA (by assumption)]) (by rw [gA (by assumption)])
 ·refine o7 _ 1 rfl tk rfl rfl rfl rfl rfl rfl rfl rfl rfl rfl ⟨by show min [x].length _ = 1;have:Int.toNat 0 = 0:=rfl;omega,by omega,by simp only [List.length_append,List.length_take,List.length_replicate];have:Int.toNat 0 = 0:=rfl;omega,by omega⟩ (uu ⟨by omega,by omega⟩ (by omega)) rfl rfl rfl ?_
  repeat' (first
| apply yds;rfl
| refine nv ?_
| apply yar;rfl;omega
| refine zdq (id:=11) rfl (by kernel_rfl) [(.p,0),(.p,1),(.p,2),(.p,3),(.p,4),(.p,5),(.p,6),(.p,7),(.l,8)] [8] (by kernel_rfl) rfl ?_
| apply mU;rfl;exact tk;(iterate 8 rfl);omega;rfl;rfl
| fail)
  refine o7 (ins l i x) (l.length - i.toNat) rfl tk rfl rfl rfl rfl rfl rfl rfl rfl rfl rfl ⟨by show min _ _ = _;have:Int.toNat 0 = 0:=rfl;omega,by omega,by simp only [List.length_append,List.length_take,List.length_cons,List.length_nil,List.length_replicate];omega,by omega⟩ (uv ⟨by omega,by omega⟩) rfl rfl rfl ?_
  repeat' (first
| apply yds;rfl
| refine nv ?_
| fail)
  exact dP (X':=.c (.row 2 0 (i.toNat - Int.toNat 0 + (↑l.length + ↑[x].length - i).toNat))) (hs':=[none,none,ow 135 (ins l i x)]) [0,1,2] rfl rfl rfl rfl rfl rfl (by rw [show i.toNat - Int.toNat 0 + (↑l.length + ↑[x].length - i).toNat = (ins l i x).length from by rw [cZ (by omega)];have:Int.toNat 0 = 0:=rfl;omega]) rfl
 ·refine o7 _ (l.length - i.toNat) rfl tk rfl rfl rfl rfl rfl rfl rfl rfl rfl rfl ⟨by show min _ _ = _;omega,by omega,by omega,by omega⟩ (ur (x:=x) ⟨by omega,by omega⟩) rfl rfl rfl ?_
  repeat' (first
| apply yds;rfl
| apply yd;rfl
| refine nv ?_
| apply mU;rfl;exact tk;(iterate 8 rfl);omega;rfl;rfl
| fail)
  refine o7 (ins l i x) 1 rfl tk rfl rfl rfl rfl rfl rfl rfl rfl rfl rfl ⟨by show min [x].length _ = 1;omega,by omega,by simp only [List.length_append,List.length_take,List.length_drop];omega,by omega⟩ (ut ⟨by omega,by omega⟩) rfl rfl rfl ?_
  repeat' (first
| apply yds;rfl
| refine nv ?_
| fail)
  exact dP (X':=.c (.row 2 0 (↑l.length + ↑[x].length:Int).toNat)) (hs':=[none,none,ow 135 (ins l i x)]) [0,1,0] rfl rfl rfl rfl rfl rfl (by rw [show (↑l.length + ↑[x].length:Int).toNat = (ins l i x).length from by rw [cZ (by omega)];omega]) rfl
theorem iE {l:List Lot} {i:Int} {x:Lot} (hi:0 ≤ i ∧ i ≤ l.length) (hl:l.length ≤ 4194304):FC Tryz.prog 294 [.c (.row 0 0 l.length),I i,.c (.row 1 0 [x].length)] ([ow 137 l,ow 137 [x]]) (.c (.row 2 0 (ins l i x).length)) ([none,none,ow 137 (ins l i x)]):=by
 refine ax tk 95 [.tmp 6] Tryz.func294 (by kernel_rfl) rfl rfl rfl rfl rfl rfl rfl ?_
 have h1:[x].length = 1:=rfl
 repeat' (first
| apply yds;rfl
| apply yd;rfl
| apply Cn (t:=27) (tR:=4);rfl;exact tk;rfl;exact fun args w => run_callFunc_extern Tryz.func324 (by kernel_rfl) (by kernel_rfl) (by kernel_rfl) (e:=Extern.SlicesOverlaps.overlaps #[27,27] #[4]) (by kernel_rfl) args w;(iterate 8 rfl);(refine ⟨by decide,by omega,by omega⟩);rfl;rfl
| apply zn (α:=Lot) 30;rfl;exact tk;(iterate 13 rfl);(refine ⟨by omega,by omega,by dsimp only;omega,by omega⟩);rfl;rfl;rfl
| apply Co 30;rfl;exact tk;(iterate 7 rfl);omega;rfl;rfl
| intro _
| refine nv ?_
| apply wct rfl
| apply wcf rfl
| apply ai;rfl
| apply yar;rfl;omega
| apply yap;rfl;(((try simp only [lE,lM]);(try dsimp only);omega))
| apply Ci;rfl;exact tk;(iterate 7 rfl)
| apply Ck;rfl;rfl;rfl;rfl;rfl
| refine zdq (id:=15) rfl (by kernel_rfl) [(.p,0),(.p,1),(.p,2),(.p,3),(.p,4),(.p,5),(.p,6),(.p,7),(.l,8)] [8] (by kernel_rfl) rfl ?_
| apply mU;rfl;exact tk;(iterate 8 rfl);omega;rfl;rfl
| fail)
 all_goals first | (exfalso;simp only [List.length_cons,List.length_nil] at *;omega) | skip
 ·exact dP (X':=.c (.row 2 0 (l ++ [x]).length)) (hs':=[none,none,ow 137 (l ++ [x])]) [0,1,2] rfl rfl rfl rfl rfl rfl (by rw [gA (by assumption)]) (by rw [gA (by assumption)])
 ·refine o7 _ 1 rfl tk rfl rfl rfl rfl rfl rfl rfl rfl rfl rfl ⟨by show min [x].length _ = 1;have:Int.toNat 0 = 0:=rfl;omega,by omega,by simp only [List.length_append,List.length_take,List.length_replicate];have:Int.toNat 0 = 0:=rfl;omega,by omega⟩ (uu ⟨by omega,by omega⟩ (by omega)) rfl rfl rfl ?_
  repeat' (first
| apply yds;rfl
| refine nv ?_
| apply yar;rfl;omega
| refine zdq (id:=11) rfl (by kernel_rfl) [(.p,0),(.p,1),(.p,2),(.p,3),(.p,4),(.p,5),(.p,6),(.p,7),(.l,8)] [8] (by kernel_rfl) rfl ?_
| apply mU;rfl;exact tk;(iterate 8 rfl);omega;rfl;rfl
| fail)
  refine o7 (ins l i x) (l.length - i.toNat) rfl tk rfl rfl rfl rfl rfl rfl rfl rfl rfl rfl ⟨by show min _ _ = _;have:Int.toNat 0 = 0:=rfl;omega,by omega,by simp only [List.length_append,List.length_take,List.length_cons,List.length_nil,List.length_replicate];omega,by omega⟩ (uv ⟨by omega,by omega⟩) rfl rfl rfl ?_
  repeat' (first
| apply yds;rfl
| refine nv ?_
| fail)
  exact dP (X':=.c (.row 2 0 (i.toNat - Int.toNat 0 + (↑l.length + ↑[x].length - i).toNat))) (hs':=[none,none,ow 137 (ins l i x)]) [0,1,2] rfl rfl rfl rfl rfl rfl (by rw [show i.toNat - Int.toNat 0 + (↑l.length + ↑[x].length - i).toNat = (ins l i x).length from by rw [cZ (by omega)];have:Int.toNat 0 = 0:=rfl;omega]) rfl
 ·refine o7 _ (l.length - i.toNat) rfl tk rfl rfl rfl rfl rfl rfl rfl rfl rfl rfl ⟨by show min _ _ = _;omega,by omega,by omega,by omega⟩ (ur (x:=x) ⟨by omega,by omega⟩) rfl rfl rfl ?_
  repeat' (first
| apply yds;rfl
| apply yd;rfl
| refine nv ?_
| apply mU;rfl;exact tk;(iterate 8 rfl);omega;rfl;rfl
| fail)
  refine o7 (ins l i x) 1 rfl tk rfl rfl rfl rfl rfl rfl rfl rfl rfl rfl ⟨by show min [x].length _ = 1;omega,by omega,by simp only [List.length_append,List.length_take,List.length_drop];omega,by omega⟩ (ut ⟨by omega,by omega⟩) rfl rfl rfl ?_
  repeat' (first
| apply yds;rfl
| refine nv ?_
| fail)
  exact dP (X':=.c (.row 2 0 (↑l.length + ↑[x].length:Int).toNat)) (hs':=[none,none,ow 137 (ins l i x)]) [0,1,0] rfl rfl rfl rfl rfl rfl (by rw [show (↑l.length + ↑[x].length:Int).toNat = (ins l i x).length from by rw [cZ (by omega)];omega]) rfl
theorem l8 {l:List Trade} {i:Int} {x:Trade} (hi:0 ≤ i ∧ i ≤ l.length) (hl:l.length ≤ 4194304):FC Tryz.prog 203 [.c (.row 0 0 l.length),I i,.c (.row 1 0 [x].length)] ([ow 103 l,ow 103 [x]]) (.c (.row 2 0 (ins l i x).length)) ([none,none,ow 103 (ins l i x)]):=by
 refine ax tk 95 [.tmp 6] Tryz.func203 (by kernel_rfl) rfl rfl rfl rfl rfl rfl rfl ?_
 have h1:[x].length = 1:=rfl
 repeat' (first
| apply yds;rfl
| apply yd;rfl
| apply Cn (t:=28) (tR:=4);rfl;exact tk;rfl;exact fun args w => run_callFunc_extern Tryz.func278 (by kernel_rfl) (by kernel_rfl) (by kernel_rfl) (e:=Extern.SlicesOverlaps.overlaps #[28,28] #[4]) (by kernel_rfl) args w;(iterate 8 rfl);(refine ⟨by decide,by omega,by omega⟩);rfl;rfl
| apply zn (α:=Trade) 30;rfl;exact tk;(iterate 13 rfl);(refine ⟨by omega,by omega,by dsimp only;omega,by omega⟩);rfl;rfl;rfl
| apply Co 30;rfl;exact tk;(iterate 7 rfl);omega;rfl;rfl
| intro _
| refine nv ?_
| apply wct rfl
| apply wcf rfl
| apply ai;rfl
| apply yar;rfl;omega
| apply yap;rfl;(((try simp only [lE,lM]);(try dsimp only);omega))
| apply Ci;rfl;exact tk;(iterate 7 rfl)
| apply Ck;rfl;rfl;rfl;rfl;rfl
| refine zdq (id:=15) rfl (by kernel_rfl) [(.p,0),(.p,1),(.p,2),(.p,3),(.p,4),(.p,5),(.p,6),(.p,7),(.l,8)] [8] (by kernel_rfl) rfl ?_
| apply mU;rfl;exact tk;(iterate 8 rfl);omega;rfl;rfl
| fail)
 all_goals first | (exfalso;simp only [List.length_cons,List.length_nil] at *;omega) | skip
 ·exact dP (X':=.c (.row 2 0 (l ++ [x]).length)) (hs':=[none,none,ow 103 (l ++ [x])]) [0,1,2] rfl rfl rfl rfl rfl rfl (by rw [gA (by assumption)]) (by rw [gA (by assumption)])
 ·refine o7 _ 1 rfl tk rfl rfl rfl rfl rfl rfl rfl rfl rfl rfl ⟨by show min [x].length _ = 1;have:Int.toNat 0 = 0:=rfl;omega,by omega,by simp only [List.length_append,List.length_take,List.length_replicate];have:Int.toNat 0 = 0:=rfl;omega,by omega⟩ (uu ⟨by omega,by omega⟩ (by omega)) rfl rfl rfl ?_
  repeat' (first
| apply yds;rfl
| refine nv ?_
| apply yar;rfl;omega
| refine zdq (id:=11) rfl (by kernel_rfl) [(.p,0),(.p,1),(.p,2),(.p,3),(.p,4),(.p,5),(.p,6),(.p,7),(.l,8)] [8] (by kernel_rfl) rfl ?_
| apply mU;rfl;exact tk;(iterate 8 rfl);omega;rfl;rfl
| fail)
  refine o7 (ins l i x) (l.length - i.toNat) rfl tk rfl rfl rfl rfl rfl rfl rfl rfl rfl rfl ⟨by show min _ _ = _;have:Int.toNat 0 = 0:=rfl;omega,by omega,by simp only [List.length_append,List.length_take,List.length_cons,List.length_nil,List.length_replicate];omega,by omega⟩ (uv ⟨by omega,by omega⟩) rfl rfl rfl ?_
  repeat' (first
| apply yds;rfl
| refine nv ?_
| fail)
  exact dP (X':=.c (.row 2 0 (i.toNat - Int.toNat 0 + (↑l.length + ↑[x].length - i).toNat))) (hs':=[none,none,ow 103 (ins l i x)]) [0,1,2] rfl rfl rfl rfl rfl rfl (by rw [show i.toNat - Int.toNat 0 + (↑l.length + ↑[x].length - i).toNat = (ins l i x).length from by rw [cZ (by omega)];have:Int.toNat 0 = 0:=rfl;omega]) rfl
 ·refine o7 _ (l.length - i.toNat) rfl tk rfl rfl rfl rfl rfl rfl rfl rfl rfl rfl ⟨by show min _ _ = _;omega,by omega,by omega,by omega⟩ (ur (x:=x) ⟨by omega,by omega⟩) rfl rfl rfl ?_
  repeat' (first
| apply yds;rfl
| apply yd;rfl
| refine nv ?_
| apply mU;rfl;exact tk;(iterate 8 rfl);omega;rfl;rfl
| fail)
  refine o7 (ins l i x) 1 rfl tk rfl rfl rfl rfl rfl rfl rfl rfl rfl rfl ⟨by show min [x].length _ = 1;omega,by omega,by simp only [List.length_append,List.length_take,List.length_drop];omega,by omega⟩ (ut ⟨by omega,by omega⟩) rfl rfl rfl ?_
  repeat' (first
| apply yds;rfl
| refine nv ?_
| fail)
  exact dP (X':=.c (.row 2 0 (↑l.length + ↑[x].length:Int).toNat)) (hs':=[none,none,ow 103 (ins l i x)]) [0,1,0] rfl rfl rfl rfl rfl rfl (by rw [show (↑l.length + ↑[x].length:Int).toNat = (ins l i x).length from by rw [cZ (by omega)];omega]) rfl
theorem iC {l:List Bal} {i:Int} (hi:0 ≤ i ∧ i < l.length) (hl:l.length ≤ 4194304):FC Tryz.prog 230 [.c (.row 0 0 l.length),I i,I (i + 1)] ([ow 135 l]) (.c (.row 0 0 (del l i).length)) ([ow 135 (del l i)]):=by
 refine ax tk 33 [.tmp 6] Tryz.func230 (by kernel_rfl) rfl rfl rfl rfl rfl rfl rfl ?_
 repeat' (first
| apply yds;rfl
| apply yd;rfl
| intro _
| refine nv ?_
| apply wct rfl
| apply wcf rfl
| apply yeq;rfl
| apply Ds;rfl;exact tk;(iterate 7 rfl);omega;rfl;rfl
| refine zdq (id:=5) rfl (by kernel_rfl) [(.p,0),(.p,1),(.p,2),(.p,3),(.p,4),(.p,5),(.l,6),(.p,7)] [6] (by kernel_rfl) rfl ?_
| apply mU;rfl;exact tk;(iterate 8 rfl);omega;rfl;rfl
| fail)
 all_goals first | (exfalso;omega) | skip
 obtain ⟨zs,hz⟩:∃ zs,l.take i.toNat ++ (l.drop (i + 1).toNat).take (l.length - (i + 1).toNat) ++ l.drop (i.toNat + (l.length - (i + 1).toNat)) = zs:=⟨_,rfl⟩
 have hzl:zs.length = l.length:=by rw [← hz];simp only [List.length_append,List.length_take,List.length_drop];omega
 have h0:Int.toNat 0 = 0:=rfl
 refine Dk zs rfl tk rfl rfl rfl rfl rfl rfl rfl rfl ⟨by omega,by omega⟩ hz rfl rfl rfl ?_
 repeat' (first
| apply yds;rfl
| apply yd;rfl
| refine nv ?_
| apply Dt;rfl;exact tk;(iterate 8 rfl);(simp only [List.length_map] at *;omega);rfl;rfl
| fail)
 refine Cj rfl tk rfl rfl rfl rfl rfl rfl rfl (by omega) rfl rfl ?_
 repeat' (first
| apply yds;rfl
| refine nv ?_
| fail)
 exact dP (X':=.c (.row 0 0 (i.toNat - Int.toNat 0 + ((↑l.length:Int).toNat - (i + 1).toNat)))) (hs':=[ow 135 (zs.take (i.toNat + (l.length - (i + 1).toNat)))]) [0] rfl rfl rfl rfl rfl rfl (by rw [show i.toNat - Int.toNat 0 + ((↑l.length:Int).toNat - (i + 1).toNat) = (del l i).length from by rw [vh (by omega)];omega]) (by rw [← hz,Cu (by omega)])
end
section
open Go.RowKit
section
variable {α:Type} [Enc α]
def pf {α:Type} (l:List α) (i:Int):List α:=l.take i.toNat
theorem Aj (l:List α):pf l 0 = []:=rfl
theorem cg {l:List α} {i:Int} (h:0 ≤ i ∧ i < l.length):pf l (i + 1) = pf l i ++ [rd l i]:=by
 have h1:i.toNat < l.length:=by omega
 unfold pf
 rw [show (i + 1).toNat = i.toNat + 1 from by omega,List.take_add_one]
 simp [rd,List.getD_eq_getElem?_getD,h1]
theorem b6 {l:List α} {i:Int} (h:¬ i < l.length):pf l i = l:=List.take_of_length_le (by omega)
theorem bS {l:List α} {i:Int} (h:0 ≤ i ∧ i ≤ l.length):((pf l i).length:Int) = i:=by
 simp only [pf,List.length_take]
 omega
theorem aA {l:List α} {i:Int} (h:0 ≤ i ∧ i < l.length):rd l i ∈ l:=by
 have h1:i.toNat < l.length:=by omega
 simp only [rd,List.getD_eq_getElem?_getD,List.getElem?_eq_getElem h1,Option.getD_some]
 exact List.getElem_mem h1
theorem bw {l:List α} {x:α} (h:x ∈ l):∃ i:Int,(0 ≤ i ∧ i < l.length) ∧ rd l i = x:=by
 obtain ⟨n,hn,rfl⟩:=List.getElem_of_mem h
 exact ⟨n,⟨by omega,by omega⟩,by simp [rd,List.getD_eq_getElem?_getD,hn]⟩
theorem all_rd {l:List α} {p:α → Prop}:(∀ i:Int,0 ≤ i → i < l.length → p (rd l i)) ↔ ∀ x ∈ l,p x :=
 ⟨fun h x hx => by obtain ⟨i,hi,rfl⟩:=bw hx;exact h i hi.1 hi.2,fun h i h0 h1 => h _ (aA ⟨h0,h1⟩)⟩
theorem vT {l:List α} {i j:Int} (h:0 ≤ j ∧ j < i):rd (pf l i) j = rd l j:=by
 unfold rd pf
 rw [List.getD_eq_getElem?_getD,List.getD_eq_getElem?_getD,List.getElem?_take_of_lt (by omega)]
theorem rl {l:List α} {p:α → Bool} {i:Int} (h0:0 ≤ i ∧ i < l.length) (hb:∀ j:Int,0 ≤ j → j < i → ¬ p (rd l j) = true) (hp:p (rd l i) = true):l.find? p = some (rd l i):=by
 have h1:i.toNat < l.length:=by omega
 have e1:l[i.toNat] = rd l i:=by simp [rd,List.getD_eq_getElem?_getD,h1]
 rw [List.find?_eq_some_iff_getElem]
 refine ⟨hp,i.toNat,h1,e1,fun j hj => ?_⟩
 have:=hb j (by omega) (by omega)
 have e2:rd l (j:Int) = l[j]:=by simp [rd,List.getD_eq_getElem?_getD,show j < l.length from by omega]
 rw [e2] at this
 simpa using this
theorem rm {l:List α} {p:α → Bool} {i:Int} (hi:¬ i < l.length) (hb:∀ j:Int,0 ≤ j → j < i → ¬ p (rd l j) = true):l.find? p = none:=by
 rw [List.find?_eq_none]
 intro x hx
 obtain ⟨j,hj,rfl⟩:=bw hx
 exact hb j hj.1 (by omega)
def ao {α:Type} (f:α → Int) (l:List α):Int:=(l.map f).sum
theorem ec (f:α → Int):ao f [] = 0:=rfl
theorem bk (f:α → Int) (a b:List α):ao f (a ++ b) = ao f a + ao f b:=by simp [ao]
theorem cT (f:α → Int) (x:α):ao f [x] = f x:=by simp [ao]
theorem aT (f:α → Int) (x:α) (l:List α):ao f (x :: l) = f x + ao f l:=by simp [ao]
theorem bU {f:α → Int} {l:List α} {i:Int} (h:0 ≤ i ∧ i < l.length):ao f (pf l (i + 1)) = ao f (pf l i) + f (rd l i):=by rw [cg h,bk,cT]
theorem wa {f:α → Int} {l:List α} {M:Int} (h:∀ x ∈ l,f x ≤ M):ao f l ≤ l.length * M:=by
 induction l with
 | nil => simp [ao]
 | cons x l ih =>
   rw [aT,List.length_cons]
   have h1:=h x (by simp)
   have h2:=ih (fun y hy => h y (by simp [hy]))
   have:((l.length + 1:Nat):Int) * M = l.length * M + M:=by push_cast;rw [Int.add_mul];omega
   omega
theorem w9 {f:α → Int} {l:List α} {M:Int} (h:∀ x ∈ l,M ≤ f x):l.length * M ≤ ao f l:=by
 induction l with
 | nil => simp [ao]
 | cons x l ih =>
   rw [aT,List.length_cons]
   have h1:=h x (by simp)
   have h2:=ih (fun y hy => h y (by simp [hy]))
   have:((l.length + 1:Nat):Int) * M = l.length * M + M:=by push_cast;rw [Int.add_mul];omega
   omega
theorem fY {f:α → Int} {l:List α} {i:Int} (h:∀ x ∈ l,-1000000000000000 ≤ f x ∧ f x ≤ 1000000000000000) (hi:0 ≤ i ∧ i ≤ l.length):-1000000000000000 * i ≤ ao f (pf l i) ∧ ao f (pf l i) ≤ 1000000000000000 * i:=by
 have hm:∀ x ∈ pf l i,x ∈ l:=fun x hx => List.mem_of_mem_take hx
 have h1:=wa (M:=1000000000000000) (fun x hx => (h x (hm x hx)).2)
 have h2:=w9 (M:=-1000000000000000) (fun x hx => (h x (hm x hx)).1)
 rw [bS hi] at h1 h2
 omega
theorem fu {f:α → Int} {l:List α} (h:∀ x ∈ l,0 ≤ f x):0 ≤ ao f l:=by
 have:=w9 (M:=0) h
 simpa using this
end
def a9 (l:List Account) (no:Int):Int:=match l.find? (fun x => decide (x.No = no)) with
 | some x => x.Kind
 | none => 0
def aa (l:List Instr) (no:Int):Int:=match l.find? (fun x => decide (x.No = no)) with
 | some x => x.Kind
 | none => 0
theorem jg {l:List Account} {no i:Int} (h0:0 ≤ i ∧ i < l.length) (hb:∀ j:Int,0 ≤ j → j < i → (rd l j).No ≠ no) (h:(rd l i).No = no):a9 l no = (rd l i).Kind:=by
 rw [a9,rl h0 (fun j h1 h2 => by simpa using hb j h1 h2) (by simpa using h)]
theorem lA {l:List Account} {no i:Int} (h0:¬ i < l.length) (hb:∀ j:Int,0 ≤ j → j < i → (rd l j).No ≠ no):a9 l no = 0:=by
 rw [a9,rm h0 (fun j h1 h2 => by simpa using hb j h1 h2)]
theorem jp {l:List Instr} {no i:Int} (h0:0 ≤ i ∧ i < l.length) (hb:∀ j:Int,0 ≤ j → j < i → (rd l j).No ≠ no) (h:(rd l i).No = no):aa l no = (rd l i).Kind:=by
 rw [aa,rl h0 (fun j h1 h2 => by simpa using hb j h1 h2) (by simpa using h)]
theorem lP {l:List Instr} {no i:Int} (h0:¬ i < l.length) (hb:∀ j:Int,0 ≤ j → j < i → (rd l j).No ≠ no):aa l no = 0:=by
 rw [aa,rm h0 (fun j h1 h2 => by simpa using hb j h1 h2)]
def nP (c:Int) (x:Bal):Int:=if x.Instr = c then x.Amount else 0
def bV (l:List Bal) (c:Int):Int:=ao (nP c) l
def aL (l:List Bal) (a c:Int):Int:=match l.find? (fun x => decide (x.Account = a ∧ x.Instr = c)) with
 | some x => x.Amount
 | none => 0
theorem mb {l:List Bal} {a c i:Int} (h0:0 ≤ i ∧ i < l.length) (hb:∀ j:Int,0 ≤ j → j < i → ¬ ((rd l j).Account = a ∧ (rd l j).Instr = c)) (h:(rd l i).Account = a ∧ (rd l i).Instr = c):aL l a c = (rd l i).Amount:=by
 rw [aL,rl h0 (fun j h1 h2 => by simpa using hb j h1 h2) (by simpa using h)]
theorem sg {l:List Bal} {a c i:Int} (h0:¬ i < l.length) (hb:∀ j:Int,0 ≤ j → j < i → ¬ ((rd l j).Account = a ∧ (rd l j).Instr = c)):aL l a c = 0:=by
 rw [aL,rm h0 (fun j h1 h2 => by simpa using hb j h1 h2)]
def BSd (l:List Bal):Prop:=∀ i:Int,0 < i → i < l.length → bef (rd l (i - 1)).Account (rd l (i - 1)).Instr (rd l i).Account (rd l i).Instr
theorem BalsOk.sd {l:List Bal} (h:BalsOk l):BSd l:=fun i h0 h1 => (h.1 i (by omega) h1).2.2.2.2 h0
theorem n7 {a b c d e f:Int} (h:bef a b c d) (k:bef c d e f):bef a b e f:=by unfold bef at *;omega
theorem BSd.lt {l:List Bal} (h:BSd l) {i j:Int} (h0:0 ≤ i) (hij:i < j) (hj:j < l.length):bef (rd l i).Account (rd l i).Instr (rd l j).Account (rd l j).Instr:=by
 obtain ⟨n,rfl⟩:∃ n:Nat,j = i + 1 + n:=⟨(j - i - 1).toNat,by omega⟩
 induction n with
 | zero =>
   have:=h (i + 1 + (0:Nat)) (by omega) hj
   rwa [show i + 1 + ((0:Nat):Int) - 1 = i from by omega] at this
 | succ n ih =>
   have h1:=h (i + 1 + (n + 1:Nat)) (by omega) hj
   rw [show i + 1 + ((n + 1:Nat):Int) - 1 = i + 1 + (n:Int) from by omega] at h1
   exact n7 (ih (by omega) (by omega)) h1
instance (a b c d:Int):Decidable (bef a b c d):=by unfold bef;infer_instance
theorem y0 {α:Type} [Enc α] {l:List α} {p:α → Bool} {i:Int} (h0:0 ≤ i ∧ i ≤ l.length) (hb:∀ j:Int,0 ≤ j → j < i → ¬ p (rd l j) = true) (hi:i < l.length → p (rd l i) = true):((l.findIdx p:Nat):Int) = i:=by
 have hg:∀ (j:Nat) (hj:j < l.length),rd l (j:Int) = l[j]:=fun j hj => by simp [rd,List.getD_eq_getElem?_getD,hj]
 have hle:=List.findIdx_le_length (xs:=l) (p:=p)
 rcases Nat.lt_trichotomy (l.findIdx p) i.toNat with h | h | h
 ·have h1:l.findIdx p < l.length:=by omega
  have h2:=List.findIdx_getElem (w:=h1)
  rw [← hg _ h1] at h2
  exact absurd h2 (hb _ (by omega) (by omega))
 ·omega
 ·have h1:i.toNat < l.length:=by omega
  have h2:=List.not_of_lt_findIdx h
  rw [← hg _ h1,show ((i.toNat:Nat):Int) = i from by omega] at h2
  rw [hi (by omega)] at h2
  simp at h2
def bIx (l:List Bal) (a c:Int):Int:=(l.findIdx (fun x => decide (¬ bef x.Account x.Instr a c)):Nat)
def lB (l:List Bal) (a c:Int):Prop:=∃ x ∈ l,x.Account = a ∧ x.Instr = c
theorem mW {l:List Bal} {a c i:Int} (h0:0 ≤ i ∧ i ≤ l.length) (hb:∀ j:Int,0 ≤ j → j < i → bef (rd l j).Account (rd l j).Instr a c) (hi:i < l.length → ¬ bef (rd l i).Account (rd l i).Instr a c):bIx l a c = i :=
 y0 h0 (fun j h1 h2 => by simpa using hb j h1 h2) (fun h => by simpa using hi h)
theorem gc (l:List Bal) (a c:Int):0 ≤ bIx l a c ∧ bIx l a c ≤ l.length:=⟨by unfold bIx;omega,by unfold bIx;have:=List.findIdx_le_length (xs:=l) (p:=fun x => decide (¬ bef x.Account x.Instr a c));omega⟩
theorem qV {l:List Bal} {a c j:Int} (h0:0 ≤ j) (h:j < bIx l a c):bef (rd l j).Account (rd l j).Instr a c:=by
 have h1:j.toNat < l.findIdx (fun x => decide (¬ bef x.Account x.Instr a c)):=by unfold bIx at h;omega
 have h2:=List.not_of_lt_findIdx h1
 have hl:j.toNat < l.length:=by have:=List.findIdx_le_length (xs:=l) (p:=fun x => decide (¬ bef x.Account x.Instr a c));omega
 have e:l[j.toNat] = rd l j:=by simp [rd,List.getD_eq_getElem?_getD,hl]
 rw [e] at h2
 simpa using h2
theorem xi {l:List Bal} {a c:Int} (h:bIx l a c < l.length):¬ bef (rd l (bIx l a c)).Account (rd l (bIx l a c)).Instr a c:=by
 have h1:l.findIdx (fun x => decide (¬ bef x.Account x.Instr a c)) < l.length:=by unfold bIx at h;omega
 have h2:=List.findIdx_getElem (w:=h1)
 have e:l[l.findIdx (fun x => decide (¬ bef x.Account x.Instr a c))] = rd l (bIx l a c):=by
  show _ = l.getD ((l.findIdx (fun x => decide (¬ bef x.Account x.Instr a c)):Nat):Int).toNat _
  rw [Int.toNat_natCast,List.getD_eq_getElem?_getD,List.getElem?_eq_getElem h1]
  rfl
 rw [e] at h2
 simpa using h2
theorem kO {l:List Bal} (hs:BSd l) {a c:Int} (h:lB l a c):bIx l a c < l.length ∧ (rd l (bIx l a c)).Account = a ∧ (rd l (bIx l a c)).Instr = c:=by
 obtain ⟨x,hx,h1,h2⟩:=h
 obtain ⟨j,hj,rfl⟩:=bw hx
 have e:bIx l a c = j:=mW ⟨hj.1,by omega⟩ (fun k h3 h4 => by have:=hs.lt h3 h4 hj.2;rwa [h1,h2] at this) (fun _ => by rw [h1,h2];unfold bef;omega)
 rw [e]
 exact ⟨hj.2,h1,h2⟩
theorem va {l:List Bal} (hs:BSd l) {a c i:Int} (h0:0 ≤ i ∧ i < l.length) (hb:∀ j:Int,0 ≤ j → j < i → bef (rd l j).Account (rd l j).Instr a c) (hi:¬ bef (rd l i).Account (rd l i).Instr a c):lB l a c ↔ (rd l i).Account = a ∧ (rd l i).Instr = c:=by
 constructor
 ·intro h
  obtain ⟨h1,h2⟩:=kO hs h
  rwa [mW ⟨h0.1,by omega⟩ hb (fun _ => hi)] at h2
 ·intro h
  exact ⟨_,aA h0,h⟩
theorem zv {l:List Bal} {a c i:Int} (h0:¬ i < l.length) (hb:∀ j:Int,0 ≤ j → j < i → bef (rd l j).Account (rd l j).Instr a c):¬ lB l a c:=by
 rintro ⟨x,hx,h1,h2⟩
 obtain ⟨j,hj,rfl⟩:=bw hx
 have:=hb j hj.1 (by omega)
 rw [h1,h2] at this
 unfold bef at this
 omega
theorem qv {l:List Bal} (hs:BSd l) {a c:Int} (h:lB l a c):aL l a c = (rd l (bIx l a c)).Amount:=by
 obtain ⟨h1,h2⟩:=kO hs h
 exact mb ⟨(gc l a c).1,h1⟩ (fun j h3 h4 => by have:=qV h3 h4;unfold bef at this;omega) h2
theorem mZ {l:List Bal} {a c:Int} (h:¬ lB l a c):aL l a c = 0:=by
 rw [sg (i:=l.length) (by omega)]
 intro j h1 h2 h3
 exact h ⟨_,aA ⟨h1,h2⟩,h3⟩
theorem ma {l:List Bal} (h:BalsOk l) (c:Int):∀ x ∈ l,-1000000000000000 ≤ nP c x ∧ nP c x ≤ 1000000000000000:=by
 intro x hx
 obtain ⟨i,hi,rfl⟩:=bw hx
 have:=(h.1 i hi.1 hi.2).2.2.1
 unfold aq inP at this
 unfold nP
 split <;> omega
theorem jh {l:List Bal} {c i:Int} (h:0 ≤ i ∧ i < l.length):bV (pf l (i + 1)) c = bV (pf l i) c + nP c (rd l i):=bU h
theorem oL {c:Int} {x:Bal} (h:x.Instr = c):nP c x = x.Amount:=if_pos h
theorem qW {c:Int} {x:Bal} (h:¬ x.Instr = c):nP c x = 0:=if_neg h
end
section
open Go.RowKit
theorem d7 {l:List Account} {no:Int}:FC Tryz.prog 138 [.c (.row 0 0 l.length),I no] ([ro 42 l]) (I (a9 l no)) ([ro 42 l]):=by
 refine ax tk 20 [.tmp 4] Tryz.func138 (by kernel_rfl) rfl rfl rfl rfl rfl rfl rfl ?_
 refine bX l 0 rfl (fun hl => ?_)
 repeat' (first
| apply yds;rfl
| apply yd;rfl
| refine nv ?_
| fail)
 refine wlp (X:=Int) [1,7,8] [0] (fun i => [(9,I i)]) (fun _ => []) (fun i => 0 ≤ i ∧ i ≤ l.length ∧ ∀ j:Int,0 ≤ j → j < i → (rd l j).No ≠ no) (fun i => (l.length - i).toNat) 0 ⟨by omega,by omega,fun j h0 h1 => by omega⟩ rfl rfl (fun _ => rfl) (fun _ => rfl) ⟨rfl,rfl,rfl,rfl,rfl,rfl,rfl,rfl⟩ (fun i hi => ?_)
 obtain ⟨h0,hi,hall⟩:=hi
 repeat' (first
| apply yds;rfl
| apply yd;rfl
| intro _
| refine nv ?_
| apply wct rfl
| apply wcf rfl
| apply ah rfl
| apply ai;rfl
| apply yar;rfl;omega
| apply yix;rfl;omega
| apply yle;rfl;omega
| fail)
 all_goals first
  | exact du [0] rfl rfl rfl rfl rfl rfl (jg ⟨by omega,by omega⟩ hall (by assumption))
  | exact du [0] rfl rfl rfl rfl rfl rfl (lA (by assumption) hall)
  | exact aB (i + 1) [0] ⟨rfl,rfl,rfl,rfl,rfl,rfl,rfl,rfl⟩ ⟨by omega,by omega,aD hall (by assumption)⟩ (by first | omega | (dsimp only;omega))
theorem dw {l:List Instr} {no:Int}:FC Tryz.prog 235 [.c (.row 0 0 l.length),I no] ([ro 74 l]) (I (aa l no)) ([ro 74 l]):=by
 refine ax tk 20 [.tmp 4] Tryz.func235 (by kernel_rfl) rfl rfl rfl rfl rfl rfl rfl ?_
 refine bX l 0 rfl (fun hl => ?_)
 repeat' (first
| apply yds;rfl
| apply yd;rfl
| refine nv ?_
| fail)
 refine wlp (X:=Int) [1,7,8] [0] (fun i => [(9,I i)]) (fun _ => []) (fun i => 0 ≤ i ∧ i ≤ l.length ∧ ∀ j:Int,0 ≤ j → j < i → (rd l j).No ≠ no) (fun i => (l.length - i).toNat) 0 ⟨by omega,by omega,fun j h0 h1 => by omega⟩ rfl rfl (fun _ => rfl) (fun _ => rfl) ⟨rfl,rfl,rfl,rfl,rfl,rfl,rfl,rfl⟩ (fun i hi => ?_)
 obtain ⟨h0,hi,hall⟩:=hi
 repeat' (first
| apply yds;rfl
| apply yd;rfl
| intro _
| refine nv ?_
| apply wct rfl
| apply wcf rfl
| apply ah rfl
| apply ai;rfl
| apply yar;rfl;omega
| apply yix;rfl;omega
| apply yle;rfl;omega
| fail)
 all_goals first
  | exact du [0] rfl rfl rfl rfl rfl rfl (jp ⟨by omega,by omega⟩ hall (by assumption))
  | exact du [0] rfl rfl rfl rfl rfl rfl (lP (by assumption) hall)
  | exact aB (i + 1) [0] ⟨rfl,rfl,rfl,rfl,rfl,rfl,rfl,rfl⟩ ⟨by omega,by omega,aD hall (by assumption)⟩ (by first | omega | (dsimp only;omega))
theorem aX {l:List Account} {no:Int}:FC Tryz.prog 133 [.c (.row 0 0 l.length),I no] ([ro 42 l]) (I (pick (aU l) (a9 l no) 0)) ([ro 42 l]):=by
 refine ax tk 28 [.tmp 4] Tryz.func133 (by kernel_rfl) rfl rfl rfl rfl rfl rfl rfl ?_
 refine bX l 0 rfl (fun hl => ?_)
 repeat' (first
| apply yd;rfl
| refine nv ?_
| fail)
 refine wlp (X:=Int) [0,1] [0] (fun i => [(5,I i)]) (fun _ => []) (fun i => 0 ≤ i ∧ i ≤ l.length ∧ ∀ j:Int,0 ≤ j → j < i → (rd l j).No ≠ no) (fun i => (l.length - i).toNat) 0 ⟨by omega,by omega,fun j h0 h1 => by omega⟩ rfl rfl (fun _ => rfl) (fun _ => rfl) ⟨rfl,rfl,rfl,rfl,rfl,rfl,rfl,rfl⟩ (fun i hi => ?_)
 obtain ⟨h0,hi,hall⟩:=hi
 repeat' (first
| apply yds;rfl
| apply yd;rfl
| intro _
| refine nv ?_
| apply wct rfl
| apply wcf rfl
| apply ah rfl
| apply ai;rfl
| apply yar;rfl;omega
| apply yix;rfl;omega
| apply yle;rfl;omega
| apply ycp;rfl;exact co;rfl
| fail)
 all_goals first
  | exact du [0] rfl rfl rfl rfl rfl rfl (by rw [aK (by assumption)];exact jg ⟨by omega,by omega⟩ hall (by assumption))
  | exact du [0] rfl rfl rfl rfl rfl rfl (by rw [aC (by assumption)])
  | exact du [0] rfl rfl rfl rfl rfl rfl (by rw [lA (by assumption) hall];unfold pick;split <;> rfl)
  | exact aB (i + 1) [0] ⟨rfl,rfl,rfl,rfl,rfl,rfl,rfl,rfl⟩ ⟨by omega,by omega,aD hall (by assumption)⟩ (by first | omega | (dsimp only;omega))
theorem b8 {l:List Instr} {no:Int}:FC Tryz.prog 52 [.c (.row 0 0 l.length),I no] ([ro 74 l]) (I (pick (bH l) (aa l no) 0)) ([ro 74 l]):=by
 refine ax tk 28 [.tmp 4] Tryz.func52 (by kernel_rfl) rfl rfl rfl rfl rfl rfl rfl ?_
 refine bX l 0 rfl (fun hl => ?_)
 repeat' (first
| apply yd;rfl
| refine nv ?_
| fail)
 refine wlp (X:=Int) [0,1] [0] (fun i => [(5,I i)]) (fun _ => []) (fun i => 0 ≤ i ∧ i ≤ l.length ∧ ∀ j:Int,0 ≤ j → j < i → (rd l j).No ≠ no) (fun i => (l.length - i).toNat) 0 ⟨by omega,by omega,fun j h0 h1 => by omega⟩ rfl rfl (fun _ => rfl) (fun _ => rfl) ⟨rfl,rfl,rfl,rfl,rfl,rfl,rfl,rfl⟩ (fun i hi => ?_)
 obtain ⟨h0,hi,hall⟩:=hi
 repeat' (first
| apply yds;rfl
| apply yd;rfl
| intro _
| refine nv ?_
| apply wct rfl
| apply wcf rfl
| apply ah rfl
| apply ai;rfl
| apply yar;rfl;omega
| apply yix;rfl;omega
| apply yle;rfl;omega
| apply ycp;rfl;exact cW;rfl
| fail)
 all_goals first
  | exact du [0] rfl rfl rfl rfl rfl rfl (by rw [aK (by assumption)];exact jp ⟨by omega,by omega⟩ hall (by assumption))
  | exact du [0] rfl rfl rfl rfl rfl rfl (by rw [aC (by assumption)])
  | exact du [0] rfl rfl rfl rfl rfl rfl (by rw [lP (by assumption) hall];unfold pick;split <;> rfl)
  | exact aB (i + 1) [0] ⟨rfl,rfl,rfl,rfl,rfl,rfl,rfl,rfl⟩ ⟨by omega,by omega,aD hall (by assumption)⟩ (by first | omega | (dsimp only;omega))
theorem rr {l:List Bal} {c:Int} (hok:BalsOk l):FC Tryz.prog 164 [.c (.row 0 0 l.length),I c] ([ro 135 l]) (I (bV l c)) ([ro 135 l]):=by
 refine ax tk 24 [.tmp 4] Tryz.func164 (by kernel_rfl) rfl rfl rfl rfl rfl rfl rfl ?_
 have hl:=hok.2
 repeat' (first
| apply yds;rfl
| apply yd;rfl
| refine nv ?_
| fail)
 refine wlp (X:=Int × Int) [1,8,9] [0] (fun x => [(10,I x.1),(5,I x.2)]) (fun _ => []) (fun x => 0 ≤ x.1 ∧ x.1 ≤ l.length ∧ x.2 = bV (pf l x.1) c) (fun x => (l.length - x.1).toNat) (0,0) ⟨by dsimp only;omega,by dsimp only;omega,rfl⟩ rfl rfl (fun _ => rfl) (fun _ => rfl) ⟨rfl,rfl,rfl,rfl,rfl,rfl,rfl,rfl⟩ (fun x hx => ?_)
 obtain ⟨i,n⟩:=x
 obtain ⟨h0,hi,hn⟩:=hx
 dsimp only at h0 hi hn ⊢
 have hb:=fY (ma hok c) ⟨h0,hi⟩
 have hs:=fun h => jh (l:=l) (c:=c) (i:=i) ⟨h0,h⟩
 have hb2:=fun (h:i < l.length) => ma hok c _ (aA ⟨h0,h⟩)
 rw [show ao (nP c) (pf l i) = n from hn.symm] at hb
 have hb3:=fun (h:i < l.length) (e:(rd l i).Instr = c) => (oL e ▸ hb2 h:-1000000000000000 ≤ (rd l i).Amount ∧ (rd l i).Amount ≤ 1000000000000000)
 repeat' (first
| apply yds;rfl
| apply yd;rfl
| intro _
| refine nv ?_
| apply wct rfl
| apply wcf rfl
| apply ah rfl
| apply ai;rfl
| apply yar;rfl;omega
| apply yix;rfl;omega
| apply yle;rfl;omega
| fail)
 ·rename_i h e
  have:=hb3 h e
  repeat' (first
| fail)
  exact aB (i + 1,_) [0] ⟨rfl,rfl,rfl,rfl,rfl,rfl,rfl,rfl⟩ ⟨by dsimp only;omega,by dsimp only;omega,by dsimp only;rw [hs h,oL e,hn]⟩ (by first | omega | (dsimp only;omega))
 ·rename_i h e
  exact aB (i + 1,_) [0] ⟨rfl,rfl,rfl,rfl,rfl,rfl,rfl,rfl⟩ ⟨by dsimp only;omega,by dsimp only;omega,by dsimp only;rw [hs h,qW e,hn,Int.add_zero]⟩ (by first | omega | (dsimp only;omega))
 ·rename_i h
  exact du [0] rfl rfl rfl rfl rfl rfl (by rw [hn,b6 h])
theorem lu {x:Int}:FC Tryz.prog 321 [I x,B true] ([]) (sel (aq x) (.tup [I x,B true]) (.tup [I 0,B false])) (sel (aq x) [] []):=by
 refine ax tk 14 [.tmp 4,.tmp 5] Tryz.func321 (by kernel_rfl) rfl rfl rfl rfl rfl rfl rfl ?_
 repeat' (first
| apply yds;rfl
| intro _
| refine nv ?_
| apply wct rfl
| apply wcf rfl
| apply ycp;rfl;exact bL;rfl
| fail)
 all_goals first | exact iH (by assumption) [] rfl rfl rfl rfl rfl rfl | exact bQ (by assumption) [] rfl rfl rfl rfl rfl rfl
theorem ls {x:Int}:FC Tryz.prog 321 [I x,B false] ([]) (.tup [I 0,B false]) ([]):=by
 refine ax tk 14 [.tmp 4,.tmp 5] Tryz.func321 (by kernel_rfl) rfl rfl rfl rfl rfl rfl rfl ?_
 repeat' (first
| apply yds;rfl
| refine nv ?_
| apply wct rfl
| fail)
 all_goals exact ak [] rfl rfl rfl rfl rfl rfl
theorem fK {l:List Bal} {a c:Int}:FC Tryz.prog 170 [.c (.row 0 0 l.length),I a,I c] ([ro 135 l]) (I (aL l a c)) ([ro 135 l]):=by
 refine ax tk 35 [.tmp 6] Tryz.func170 (by kernel_rfl) rfl rfl rfl rfl rfl rfl rfl ?_
 refine bX l 0 rfl (fun hl => ?_)
 repeat' (first
| apply yd;rfl
| refine nv ?_
| fail)
 refine wlp (X:=Int) [0,1,2] [0] (fun i => [(7,I i)]) (fun _ => []) (fun i => 0 ≤ i ∧ i ≤ l.length ∧ ∀ j:Int,0 ≤ j → j < i → ¬ ((rd l j).Account = a ∧ (rd l j).Instr = c)) (fun i => (l.length - i).toNat) 0 ⟨by omega,by omega,fun j h0 h1 => by omega⟩ rfl rfl (fun _ => rfl) (fun _ => rfl) ⟨rfl,rfl,rfl,rfl,rfl,rfl,rfl,rfl⟩ (fun i hi => ?_)
 obtain ⟨h0,hi,hall⟩:=hi
 repeat' (first
| apply yds;rfl
| apply yd;rfl
| intro _
| refine nv ?_
| apply wct rfl
| apply wcf rfl
| apply ah rfl
| apply ai;rfl
| apply yar;rfl;omega
| apply yix;rfl;omega
| apply yle;rfl;omega
| fail)
 all_goals first
  | exact du [0] rfl rfl rfl rfl rfl rfl (mb ⟨by omega,by omega⟩ hall ⟨by assumption,by assumption⟩)
  | exact du [0] rfl rfl rfl rfl rfl rfl (sg (by assumption) hall)
  | exact aB (i + 1) [0] ⟨rfl,rfl,rfl,rfl,rfl,rfl,rfl,rfl⟩ ⟨by omega,by omega,aD hall (fun e => by first | exact absurd e.1 (by assumption) | exact absurd e.2 (by assumption))⟩ (by first | omega | (dsimp only;omega))
theorem kQ {a b c d:Int} (h:dO a b c d ≥ 0):¬ bef a b c d:=fun k => by have:=byBoth_lt.2 k;omega
theorem byBoth_eq {a b c d:Int}:dO a b c d = 0 ↔ a = c ∧ b = d:=by
 unfold dO
 by_cases h:bef a b c d
 ·rw [aK h]
  unfold bef at h
  constructor
  ·intro h1;omega
  ·intro h1;omega
 ·rw [aC h]
  by_cases h2:a = c ∧ b = d
  ·rw [aK h2];simp [h2]
  ·rw [aC h2]
   constructor
   ·intro h1;omega
   ·intro h1;exact absurd h1 h2
theorem gW {l:List Bal} {a c:Int} (hs:BSd l):FC Tryz.prog 229 [.c (.row 0 0 l.length),I a,I c] ([ro 135 l]) (sel (lB l a c) (.tup [I (bIx l a c),B true]) (.tup [I (bIx l a c),B false])) (sel (lB l a c) [ro 135 l] [ro 135 l]):=by
 refine ax tk 33 [.tmp 6,.tmp 7] Tryz.func229 (by kernel_rfl) rfl rfl rfl rfl rfl rfl rfl ?_
 refine bX l 0 rfl (fun hl => ?_)
 repeat' (first
| apply yds;rfl
| refine nv ?_
| fail)
 refine wlp (X:=Int) [0,1,2,11,12] [0] (fun i => [(13,I i)]) (fun _ => []) (fun i => 0 ≤ i ∧ i ≤ l.length ∧ ∀ j:Int,0 ≤ j → j < i → bef (rd l j).Account (rd l j).Instr a c) (fun i => (l.length - i).toNat) 0 ⟨by omega,by omega,fun j h0 h1 => by omega⟩ rfl rfl (fun _ => rfl) (fun _ => rfl) ⟨rfl,rfl,rfl,rfl,rfl,rfl,rfl,rfl⟩ (fun i hi => ?_)
 obtain ⟨h0,hi,hall⟩:=hi
 repeat' (first
| apply yds;rfl
| apply yd;rfl
| intro _
| refine nv ?_
| apply wct rfl
| apply wcf rfl
| apply ah rfl
| apply ai;rfl
| apply yar;rfl;omega
| apply yix;rfl;omega
| apply yle;rfl;omega
| apply yc;rfl;exact kj;rfl;exact fun _ => rfl
| fail)
 ·rename_i h1 h2 h3
  rw [mW ⟨by omega,by omega⟩ hall (fun _ => kQ h2)]
  exact iH ((va hs ⟨h0,h1⟩ hall (kQ h2)).2 (byBoth_eq.1 h3)) [0] rfl rfl rfl rfl rfl rfl
 ·rename_i h1 h2 h3
  rw [mW ⟨by omega,by omega⟩ hall (fun _ => kQ h2)]
  exact bQ (fun k => h3 (byBoth_eq.2 ((va hs ⟨h0,h1⟩ hall (kQ h2)).1 k))) [0] rfl rfl rfl rfl rfl rfl
 ·rename_i h1 h2
  exact aB (i + 1) [0] ⟨rfl,rfl,rfl,rfl,rfl,rfl,rfl,rfl⟩ ⟨by omega,by omega,aD hall (byBoth_lt.1 (by omega))⟩ (by first | omega | (dsimp only;omega))
 ·rename_i h1
  rw [mW (i:=l.length) ⟨by omega,by omega⟩ (fun j h2 h3 => hall j h2 (by omega)) (fun h => by omega)]
  exact bQ (zv h1 hall) [0] rfl rfl rfl rfl rfl rfl
theorem jm {l:List Bal} {a c:Int} (hs:BSd l):FC Tryz.prog 118 [.c (.row 0 0 l.length),I a,I c] ([ro 135 l]) (I (aL l a c)) ([ro 135 l]):=by
 refine ax tk 23 [.tmp 6] Tryz.func118 (by kernel_rfl) rfl rfl rfl rfl rfl rfl rfl ?_
 have hb:=gc l a c
 repeat' (first
| apply yds;rfl
| apply yd;rfl
| intro _
| refine nv ?_
| apply wct rfl
| apply wcf rfl
| apply zcs;(iterate 10 rfl);exact gW (by assumption);exact fun _ => rfl;exact fun _ => rfl;rfl;rfl;rfl;rfl
| fail)
 ·rename_i h
  have h1:=(kO hs h).1
  repeat' (first
| apply yd;rfl
| refine nv ?_
| apply yix;rfl;omega
| apply yle;rfl;omega
| fail)
  exact du [0] rfl rfl rfl rfl rfl rfl (qv hs h)
 ·rename_i h
  exact du [0] rfl rfl rfl rfl rfl rfl (mZ h)
end
section
open Go.RowKit
noncomputable def flt {α:Type} (p:α → Prop) (l:List α):List α:=l.filter (fun x => dB (p x))
noncomputable def fIx {α:Type} (l:List α) (q:α → Prop):Int:=(l.findIdx (fun x => dB (q x)):Nat)
section
variable {α:Type} [Enc α] {l:List α} {p q:α → Prop}
theorem rg {p:Prop}:dB p = true ↔ p:=⟨sM,nR⟩
theorem bY (l:List α) (q:α → Prop):0 ≤ fIx l q ∧ fIx l q ≤ l.length:=⟨by unfold fIx;omega,by unfold fIx;have:=List.findIdx_le_length (xs:=l) (p:=fun x => dB (q x));omega⟩
theorem fD {i:Int} (h0:0 ≤ i ∧ i < l.length) (hb:∀ j:Int,0 ≤ j → j < i → ¬ q (rd l j)) (hi:q (rd l i)):fIx l q = i:=y0 ⟨h0.1,by omega⟩ (fun j h1 h2 => by rw [rg];exact hb j h1 h2) (fun _ => nR hi)
theorem gf (h:∃ x ∈ l,q x):fIx l q < l.length:=by
 obtain ⟨x,hx,hq⟩:=h
 have:l.findIdx (fun x => dB (q x)) < l.length:=List.findIdx_lt_length_of_exists ⟨x,hx,nR hq⟩
 unfold fIx
 omega
theorem kf (h:∃ x ∈ l,q x):q (rd l (fIx l q)):=by
 have h1:=gf h
 have h1':l.findIdx (fun x => dB (q x)) < l.length:=by unfold fIx at h1;omega
 have h2:=List.findIdx_getElem (w:=h1')
 have e:l[l.findIdx (fun x => dB (q x))] = rd l (fIx l q):=by
  show _ = l.getD ((l.findIdx (fun x => dB (q x)):Nat):Int).toNat _
  rw [Int.toNat_natCast,List.getD_eq_getElem?_getD,List.getElem?_eq_getElem h1']
  rfl
 rw [e] at h2
 exact sM h2
theorem ir {j:Int} (h0:0 ≤ j) (h:j < fIx l q):¬ q (rd l j):=by
 have h1:j.toNat < l.findIdx (fun x => dB (q x)):=by unfold fIx at h;omega
 have h2:=List.not_of_lt_findIdx h1
 have hl:j.toNat < l.length:=by have:=List.findIdx_le_length (xs:=l) (p:=fun x => dB (q x));omega
 have e:l[j.toNat] = rd l j:=by simp [rd,List.getD_eq_getElem?_getD,hl]
 rw [e] at h2
 exact xG (by simpa using h2)
theorem iw {i:Int} (hi:¬ i < l.length) (h:∀ j:Int,0 ≤ j → j < i → ¬ q (rd l j)):¬ ∃ x ∈ l,q x:=by
 rintro ⟨x,hx,hq⟩
 obtain ⟨j,hj,rfl⟩:=bw hx
 exact h j hj.1 (by omega) hq
theorem aV (a b:List α):flt p (a ++ b) = flt p a ++ flt p b:=List.filter_append _ _
theorem dN {x:α} (h:p x):flt p [x] = [x]:=by simp [flt,nR h]
theorem dm {x:α} (h:¬ p x):flt p [x] = []:=by simp [flt,rf h]
theorem cV (p:α → Prop) (l:List α):(flt p l).length ≤ l.length:=List.length_filter_le _ _
theorem mi (h:∀ x ∈ l,¬ q x):flt (fun x => ¬ q x) l = l:=List.filter_eq_self.2 fun x hx => nR (h x hx)
theorem flt_mem {x:α}:x ∈ flt p l ↔ x ∈ l ∧ p x:=by simp [flt,rg]
theorem bz {i:Int} (h:0 ≤ i ∧ i < l.length):flt p (pf l (i + 1)) = flt p (pf l i) ++ flt p [rd l i]:=by rw [cg h,aV]
structure DfI (l:List α) (q:α → Prop) (i j:Int) (xs:List α):Prop where
 bnd:0 ≤ i ∧ i < j ∧ j ≤ l.length
 len:xs.length = l.length
 pre:xs.take i.toNat = flt (fun x => ¬ q x) (pf l j)
 suf:xs.drop j.toNat = l.drop j.toNat
theorem DfI.init (h:∃ x ∈ l,q x):DfI l q (fIx l q) (fIx l q + 1) l:=by
 have h1:=gf h
 have h2:=bY l q
 refine ⟨⟨h2.1,by omega,by omega⟩,rfl,?_,rfl⟩
 rw [bz ⟨h2.1,h1⟩,dm (fun k => k (kf h)),List.append_nil]
 refine (mi fun x hx => ?_).symm
 obtain ⟨j,hj,rfl⟩:=bw (l:=pf l (fIx l q)) hx
 rw [bS ⟨h2.1,by omega⟩] at hj
 rw [vT hj]
 exact ir hj.1 hj.2
theorem DfI.rd {i j:Int} {xs:List α} (h:DfI l q i j xs) (hj:j < l.length):Sh.rd xs j = Sh.rd l j:=by
 have h1:=h.suf
 have h2:=h.bnd
 have e1:=dJ (l:=xs) (i:=j) ⟨by omega,by rw [h.len];exact hj⟩
 have e2:=dJ (l:=l) (i:=j) ⟨by omega,hj⟩
 rw [e1,e2] at h1
 exact (List.cons.inj h1).1
theorem DfI.skip {i j:Int} {xs:List α} (h:DfI l q i j xs) (hj:j < l.length) (hq:q (Sh.rd xs j)):DfI l q i (j + 1) xs:=by
 have h2:=h.bnd
 refine ⟨⟨h2.1,by omega,by omega⟩,h.len,?_,?_⟩
 ·rw [bz ⟨by omega,hj⟩,dm (fun k => k (by rw [← h.rd hj];exact hq)),List.append_nil]
  exact h.pre
 ·have e1:=dJ (l:=xs) (i:=j) ⟨by omega,by rw [h.len];exact hj⟩
  have e2:=dJ (l:=l) (i:=j) ⟨by omega,hj⟩
  have h1:=h.suf
  rw [e1,e2] at h1
  exact (List.cons.inj h1).2
theorem DfI.keep {i j:Int} {xs:List α} (h:DfI l q i j xs) (hj:j < l.length) (hq:¬ q (Sh.rd xs j)):DfI l q (i + 1) (j + 1) (upd xs i (Sh.rd xs j)):=by
 have h2:=h.bnd
 have hlen:=h.len
 refine ⟨⟨by omega,by omega,by omega⟩,by rw [aG];exact h.len,?_,?_⟩
 ·rw [bz ⟨by omega,hj⟩,dN (p:=fun x => ¬ q x) (by rw [← h.rd hj];exact hq),← h.pre,show (i + 1).toNat = i.toNat + 1 from by omega,List.take_add_one,upd,List.take_set_of_le (Nat.le_refl _),List.getElem?_set_self (by omega),h.rd hj]
  rfl
 ·have e1:=dJ (l:=xs) (i:=j) ⟨by omega,by rw [h.len];exact hj⟩
  have e2:=dJ (l:=l) (i:=j) ⟨by omega,hj⟩
  have h1:=h.suf
  rw [e1,e2] at h1
  rw [← (List.cons.inj h1).2,upd,List.drop_set_of_lt (by omega)]
theorem DfI.fin {i j:Int} {xs:List α} (h:DfI l q i j xs) (hj:¬ j < l.length):xs.take i.toNat = flt (fun x => ¬ q x) l:=by rw [h.pre,b6 hj]
theorem DfI.len2 {i j:Int} {xs:List α} (h:DfI l q i j xs) (hj:¬ j < l.length):i.toNat = (flt (fun x => ¬ q x) l).length:=by
 rw [← h.fin hj,List.length_take]
 have:=h.bnd
 have:=h.len
 omega
end
end
end Go.Proofs.YtgehbhkfehmdkaaGreat.Sh
