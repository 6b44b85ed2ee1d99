/- slices.Clone, slices.Insert, slices.Delete. No condition. -/
import Derived.Test.YtgehbhkfehmdkaaGreatKSpShU
import Derived.Test.YtgehbhkfehmdkaaGreatKSpShX
namespace Go.Proofs.YtgehbhkfehmdkaaGreat.Sh
open Go.RowKit
set_option linter.unusedVariables false
set_option linter.unusedSimpArgs false
def ins {α : Type} (l : List α) (i : Int) (x : α) : List α := l.take i.toNat ++ x :: l.drop i.toNat
def del {α : Type} (l : List α) (i : Int) : List α := l.take i.toNat ++ l.drop (i.toNat + 1)
theorem ins_len {α : Type} {l : List α} {i : Int} {x : α} (h : 0 ≤ i ∧ i ≤ l.length) : (ins l i x).length = l.length + 1 := by
  simp only [ins, List.length_append, List.length_cons, List.length_take, List.length_drop]
  omega
theorem del_len {α : Type} {l : List α} {i : Int} (h : 0 ≤ i ∧ i < l.length) : (del l i).length = l.length - 1 := by
  simp only [del, List.length_append, List.length_take, List.length_drop]
  omega
theorem ins_end {α : Type} {l : List α} {i : Int} {x : α} (h : i = l.length) : ins l i x = l ++ [x] := by
  subst h
  simp [ins]
theorem ins_c1 {α : Type} {l : List α} {i : Int} {x : α} (h : 0 ≤ i ∧ i < l.length) : l.take (i + 1).toNat ++ (l.drop i.toNat).take (l.length - i.toNat) ++ l.drop ((i + 1).toNat + (l.length - i.toNat)) = l.take (i.toNat + 1) ++ l.drop i.toNat := by
  have e1 : (l.drop i.toNat).take (l.length - i.toNat) = l.drop i.toNat := List.take_of_length_le (by rw [List.length_drop]; omega)
  have e2 : l.drop ((i + 1).toNat + (l.length - i.toNat)) = [] := List.drop_eq_nil_of_le (by omega)
  rw [e1, e2, List.append_nil, show (i + 1).toNat = i.toNat + 1 from by omega]
theorem ins_c2 {α : Type} {l : List α} {i : Int} {x : α} (h : 0 ≤ i ∧ i < l.length) : (l.take (i.toNat + 1) ++ l.drop i.toNat).take i.toNat ++ ([x].drop 0).take 1 ++ (l.take (i.toNat + 1) ++ l.drop i.toNat).drop (i.toNat + 1) = ins l i x := by
  have h1 : (l.take (i.toNat + 1)).length = i.toNat + 1 := by rw [List.length_take]; omega
  have e1 : (l.take (i.toNat + 1) ++ l.drop i.toNat).take i.toNat = l.take i.toNat := by
    rw [List.take_append_of_le_length (by omega), List.take_take, Nat.min_eq_left (by omega)]
  have e2 : (l.take (i.toNat + 1) ++ l.drop i.toNat).drop (i.toNat + 1) = l.drop i.toNat := by
    have := List.drop_left (l₁ := l.take (i.toNat + 1)) (l₂ := l.drop i.toNat)
    rwa [h1] at this
  rw [e1, e2]
  simp [ins]
theorem ins_g1 {α : Type} {l : List α} {i : Int} {x z : α} {m : Nat} (h : 0 ≤ i ∧ i < l.length) (hm : m = l.length + 1 - i.toNat) : (l.take i.toNat ++ List.replicate m z).take i.toNat ++ ([x].drop 0).take 1 ++ (l.take i.toNat ++ List.replicate m z).drop (i.toNat + 1) = l.take i.toNat ++ x :: List.replicate (l.length - i.toNat) z := by
  have h1 : (l.take i.toNat).length = i.toNat := by rw [List.length_take]; omega
  have h2 : (l.take i.toNat ++ List.replicate m z).take i.toNat = l.take i.toNat := by
    have := List.take_left (l₁ := l.take i.toNat) (l₂ := List.replicate m z)
    rwa [h1] at this
  have h3 : (l.take i.toNat ++ List.replicate m z).drop (i.toNat + 1) = List.replicate (l.length - i.toNat) z := by
    rw [← List.drop_drop, show (l.take i.toNat ++ List.replicate m z).drop i.toNat = List.replicate m z from by
      have := List.drop_left (l₁ := l.take i.toNat) (l₂ := List.replicate m z)
      rwa [h1] at this, List.drop_replicate]
    congr 1
    omega
  rw [h2, h3]
  simp
theorem ins_g2 {α : Type} {l : List α} {i : Int} {x z : α} (h : 0 ≤ i ∧ i < l.length) : (l.take i.toNat ++ x :: List.replicate (l.length - i.toNat) z).take (i + 1).toNat ++ (l.drop i.toNat).take (l.length - i.toNat) ++ (l.take i.toNat ++ x :: List.replicate (l.length - i.toNat) z).drop ((i + 1).toNat + (l.length - i.toNat)) = ins l i x := by
  have h1 : (l.take i.toNat).length = i.toNat := by rw [List.length_take]; omega
  have h2 : (l.take i.toNat ++ x :: List.replicate (l.length - i.toNat) z).take (i + 1).toNat = l.take i.toNat ++ [x] := by
    have := List.take_left (l₁ := l.take i.toNat ++ [x]) (l₂ := List.replicate (l.length - i.toNat) z)
    rw [List.length_append, h1] at this
    rw [show (i + 1).toNat = i.toNat + [x].length from by show _ = i.toNat + 1; omega]
    rw [← this]
    simp
  have e1 : (l.drop i.toNat).take (l.length - i.toNat) = l.drop i.toNat := List.take_of_length_le (by rw [List.length_drop]; omega)
  have e2 : (l.take i.toNat ++ x :: List.replicate (l.length - i.toNat) z).drop ((i + 1).toNat + (l.length - i.toNat)) = [] := List.drop_eq_nil_of_le (by simp only [List.length_append, List.length_cons, List.length_replicate, h1]; omega)
  rw [h2, e1, e2, List.append_nil]
  simp [ins]
theorem del_c {α : Type} {l : List α} {i : Int} (h : 0 ≤ i ∧ i < l.length) : (l.take i.toNat ++ (l.drop (i + 1).toNat).take (l.length - (i + 1).toNat) ++ l.drop (i.toNat + (l.length - (i + 1).toNat))).take (i.toNat + (l.length - (i + 1).toNat)) = del l i := by
  have h1 : (l.take i.toNat).length = i.toNat := by rw [List.length_take]; omega
  have h2 : (l.drop (i + 1).toNat).take (l.length - (i + 1).toNat) = l.drop (i.toNat + 1) := by
    rw [show (i + 1).toNat = i.toNat + 1 from by omega, List.take_of_length_le (by rw [List.length_drop]; omega)]
  have h3 : (l.take i.toNat ++ l.drop (i.toNat + 1)).length = i.toNat + (l.length - (i + 1).toNat) := by
    rw [List.length_append, h1, List.length_drop]
    omega
  rw [h2, ← h3, List.take_left]
  rfl
set_option maxHeartbeats 4000000 in
theorem slices_Clone_Account {l : List Account} (hl : l.length ≤ 4194304) : FC Tryz.prog 215 [.c (.row 0 0 l.length)] ([ro 42 l]) (.c (.row 1 0 l.length)) ([ro 42 l, ow 42 l]) := by
  refine fent tk 8 [.tmp 2] Tryz.func215 (by kernel_rfl) rfl rfl rfl rfl rfl rfl rfl ?_
  repeat' (first
 | (with_reducible apply zd); rfl; exact tk; rfl
 | (with_reducible apply zen); rfl; exact tk; (iterate 7 rfl)
 | (with_reducible apply znila (d := 2) 42 2); rfl; rfl; rfl
 | (with_reducible first | intro _ | apply wseq | apply zreg | apply thenQ_n | apply thenQ_r | apply thenQ_e | apply znil | apply wret | apply bodyQ_r | apply wblk | apply blkQ_n | apply blkQ_r | apply wskip | apply wexit)
 | apply wct rfl
 | apply wcf rfl
 | (with_reducible apply zlit (α := Account) (e := 42)); rfl; exact tk; (iterate 13 rfl)
 | (with_reducible apply zap); rfl; exact tk; (iterate 10 rfl); (first | omega | ((try simp only [List.length_append, List.length_cons, List.length_nil, List.length_map]); (try dsimp only); omega)); rfl; rfl; rfl; rfl; rfl
 | fail)
  · rename_i hn
    obtain rfl : l = [] := List.length_eq_zero_iff.1 hn
    exact endV [0, 2] rfl rfl rfl rfl rfl rfl
  · exact endV [0, 3] rfl rfl rfl rfl rfl rfl
set_option maxHeartbeats 4000000 in
theorem slices_Clone_Instr {l : List Instr} (hl : l.length ≤ 4194304) : FC Tryz.prog 216 [.c (.row 0 0 l.length)] ([ro 74 l]) (.c (.row 1 0 l.length)) ([ro 74 l, ow 74 l]) := by
  refine fent tk 8 [.tmp 2] Tryz.func216 (by kernel_rfl) rfl rfl rfl rfl rfl rfl rfl ?_
  repeat' (first
 | (with_reducible apply zd); rfl; exact tk; rfl
 | (with_reducible apply zen); rfl; exact tk; (iterate 7 rfl)
 | (with_reducible apply znila (d := 2) 74 2); rfl; rfl; rfl
 | (with_reducible first | intro _ | apply wseq | apply zreg | apply thenQ_n | apply thenQ_r | apply thenQ_e | apply znil | apply wret | apply bodyQ_r | apply wblk | apply blkQ_n | apply blkQ_r | apply wskip | apply wexit)
 | apply wct rfl
 | apply wcf rfl
 | (with_reducible apply zlit (α := Instr) (e := 74)); rfl; exact tk; (iterate 13 rfl)
 | (with_reducible apply zap); rfl; exact tk; (iterate 10 rfl); (first | omega | ((try simp only [List.length_append, List.length_cons, List.length_nil, List.length_map]); (try dsimp only); omega)); rfl; rfl; rfl; rfl; rfl
 | fail)
  · rename_i hn
    obtain rfl : l = [] := List.length_eq_zero_iff.1 hn
    exact endV [0, 2] rfl rfl rfl rfl rfl rfl
  · exact endV [0, 3] rfl rfl rfl rfl rfl rfl
set_option maxHeartbeats 4000000 in
theorem slices_Clone_Bal {l : List Bal} (hl : l.length ≤ 4194304) : FC Tryz.prog 117 [.c (.row 0 0 l.length)] ([ro 135 l]) (.c (.row 1 0 l.length)) ([ro 135 l, ow 135 l]) := by
  refine fent tk 8 [.tmp 2] Tryz.func117 (by kernel_rfl) rfl rfl rfl rfl rfl rfl rfl ?_
  repeat' (first
 | (with_reducible apply zd); rfl; exact tk; rfl
 | (with_reducible apply zen); rfl; exact tk; (iterate 7 rfl)
 | (with_reducible apply znila (d := 2) 135 3); rfl; rfl; rfl
 | (with_reducible first | intro _ | apply wseq | apply zreg | apply thenQ_n | apply thenQ_r | apply thenQ_e | apply znil | apply wret | apply bodyQ_r | apply wblk | apply blkQ_n | apply blkQ_r | apply wskip | apply wexit)
 | apply wct rfl
 | apply wcf rfl
 | (with_reducible apply zlit (α := Bal) (e := 135)); rfl; exact tk; (iterate 13 rfl)
 | (with_reducible apply zap); rfl; exact tk; (iterate 10 rfl); (first | omega | ((try simp only [List.length_append, List.length_cons, List.length_nil, List.length_map]); (try dsimp only); omega)); rfl; rfl; rfl; rfl; rfl
 | fail)
  · rename_i hn
    obtain rfl : l = [] := List.length_eq_zero_iff.1 hn
    exact endV [0, 2] rfl rfl rfl rfl rfl rfl
  · exact endV [0, 3] rfl rfl rfl rfl rfl rfl
set_option maxHeartbeats 4000000 in
theorem slices_Clone_Lot {l : List Lot} (hl : l.length ≤ 4194304) : FC Tryz.prog 217 [.c (.row 0 0 l.length)] ([ro 137 l]) (.c (.row 1 0 l.length)) ([ro 137 l, ow 137 l]) := by
  refine fent tk 8 [.tmp 2] Tryz.func217 (by kernel_rfl) rfl rfl rfl rfl rfl rfl rfl ?_
  repeat' (first
 | (with_reducible apply zd); rfl; exact tk; rfl
 | (with_reducible apply zen); rfl; exact tk; (iterate 7 rfl)
 | (with_reducible apply znila (d := 2) 137 5); rfl; rfl; rfl
 | (with_reducible first | intro _ | apply wseq | apply zreg | apply thenQ_n | apply thenQ_r | apply thenQ_e | apply znil | apply wret | apply bodyQ_r | apply wblk | apply blkQ_n | apply blkQ_r | apply wskip | apply wexit)
 | apply wct rfl
 | apply wcf rfl
 | (with_reducible apply zlit (α := Lot) (e := 137)); rfl; exact tk; (iterate 13 rfl)
 | (with_reducible apply zap); rfl; exact tk; (iterate 10 rfl); (first | omega | ((try simp only [List.length_append, List.length_cons, List.length_nil, List.length_map]); (try dsimp only); omega)); rfl; rfl; rfl; rfl; rfl
 | fail)
  · rename_i hn
    obtain rfl : l = [] := List.length_eq_zero_iff.1 hn
    exact endV [0, 2] rfl rfl rfl rfl rfl rfl
  · exact endV [0, 3] rfl rfl rfl rfl rfl rfl
set_option maxHeartbeats 4000000 in
theorem slices_Clone_Trade {l : List Trade} (hl : l.length ≤ 4194304) : FC Tryz.prog 218 [.c (.row 0 0 l.length)] ([ro 103 l]) (.c (.row 1 0 l.length)) ([ro 103 l, ow 103 l]) := by
  refine fent tk 8 [.tmp 2] Tryz.func218 (by kernel_rfl) rfl rfl rfl rfl rfl rfl rfl ?_
  repeat' (first
 | (with_reducible apply zd); rfl; exact tk; rfl
 | (with_reducible apply zen); rfl; exact tk; (iterate 7 rfl)
 | (with_reducible apply znila (d := 2) 103 8); rfl; rfl; rfl
 | (with_reducible first | intro _ | apply wseq | apply zreg | apply thenQ_n | apply thenQ_r | apply thenQ_e | apply znil | apply wret | apply bodyQ_r | apply wblk | apply blkQ_n | apply blkQ_r | apply wskip | apply wexit)
 | apply wct rfl
 | apply wcf rfl
 | (with_reducible apply zlit (α := Trade) (e := 103)); rfl; exact tk; (iterate 13 rfl)
 | (with_reducible apply zap); rfl; exact tk; (iterate 10 rfl); (first | omega | ((try simp only [List.length_append, List.length_cons, List.length_nil, List.length_map]); (try dsimp only); omega)); rfl; rfl; rfl; rfl; rfl
 | fail)
  · rename_i hn
    obtain rfl : l = [] := List.length_eq_zero_iff.1 hn
    exact endV [0, 2] rfl rfl rfl rfl rfl rfl
  · exact endV [0, 3] rfl rfl rfl rfl rfl rfl
set_option maxHeartbeats 4000000 in
theorem slices_Insert_Bal {l : List Bal} {i : Int} {x : Bal} (hi : 0 ≤ i ∧ i ≤ l.length) (hl : l.length ≤ 4194304) : FC Tryz.prog 231 [.c (.row 0 0 l.length), I i, .c (.row 1 0 [x].length)] ([ow 135 l, ow 135 [x]]) (.c (.row 2 0 (ins l i x).length)) ([none, none, ow 135 (ins l i x)]) := by
  refine fent tk 95 [.tmp 6] Tryz.func231 (by kernel_rfl) rfl rfl rfl rfl rfl rfl rfl ?_
  have h1 : [x].length = 1 := rfl
  repeat' (first
 | (with_reducible apply zds); exact tk; rfl; rfl; rfl; rfl; rfl
 | (with_reducible apply zd); rfl; exact tk; rfl
 | (with_reducible apply zovl (t := 26) (tR := 4)); rfl; exact tk; rfl; exact fun args w => run_callFunc_extern Tryz.func295 (by kernel_rfl) (by kernel_rfl) (by kernel_rfl) (e := Extern.SlicesOverlaps.overlaps #[26, 26] #[4]) (by kernel_rfl) args w; (iterate 8 rfl); (refine ⟨by decide, by omega, by omega⟩); rfl; rfl
 | (with_reducible apply zappz (α := Bal) 30); rfl; exact tk; (iterate 13 rfl); (refine ⟨by omega, by omega, by dsimp only; omega, by omega⟩); rfl; rfl; rfl
 | (with_reducible apply zslc 30); rfl; exact tk; (iterate 7 rfl); omega; rfl; rfl
 | (with_reducible first | intro _ | apply wseq | apply zreg | apply thenQ_n | apply thenQ_r | apply thenQ_e | apply znil | apply wret | apply bodyQ_r | apply wblk | apply blkQ_n | apply blkQ_r | apply wskip | apply wexit)
 | apply wct rfl
 | apply wcf rfl
 | (with_reducible apply zcmp); rfl; exact tk; rfl; rfl; rfl
 | (with_reducible apply zar); rfl; rfl; rfl; rfl; (first | omega | ((try simp only [List.length_append, List.length_cons, List.length_nil, List.length_map]); (try dsimp only); omega)); rfl; rfl
 | (with_reducible apply zap); rfl; exact tk; (iterate 10 rfl); (first | omega | ((try simp only [List.length_append, List.length_cons, List.length_nil, List.length_map]); (try dsimp only); omega)); rfl; rfl; rfl; rfl; rfl
 | (with_reducible apply zcap); rfl; exact tk; (iterate 7 rfl)
 | (with_reducible apply zcpg); rfl; rfl; rfl; rfl; rfl
 | refine zdq (id := 15) rfl (by kernel_rfl) [(.p, 0), (.p, 1), (.p, 2), (.p, 3), (.p, 4), (.p, 5), (.p, 6), (.p, 7), (.l, 8)] [8] (by kernel_rfl) rfl ?_
 | (with_reducible apply zslr); rfl; exact tk; (iterate 8 rfl); omega; rfl; rfl
 | fail)
  all_goals first | (exfalso; simp only [List.length_cons, List.length_nil] at *; omega) | skip
  · exact endG (X' := .c (.row 2 0 (l ++ [x]).length)) (hs' := [none, none, ow 135 (l ++ [x])]) [0, 1, 2] rfl rfl rfl rfl rfl rfl (by rw [ins_end (by assumption)]) (by rw [ins_end (by assumption)])
  · refine zcpy _ 1 rfl tk rfl rfl rfl rfl rfl rfl rfl rfl rfl rfl ⟨by show min [x].length _ = 1; have : Int.toNat 0 = 0 := rfl; omega, by omega, by simp only [List.length_append, List.length_take, List.length_replicate]; have : Int.toNat 0 = 0 := rfl; omega, by omega⟩ (ins_g1 ⟨by omega, by omega⟩ (by omega)) rfl rfl rfl ?_
    repeat' (first
 | (with_reducible apply zds); exact tk; rfl; rfl; rfl; rfl; rfl
 | (with_reducible first | intro _ | apply wseq | apply zreg | apply thenQ_n | apply thenQ_r | apply thenQ_e | apply znil | apply wret | apply bodyQ_r | apply wblk | apply blkQ_n | apply blkQ_r | apply wskip | apply wexit)
 | (with_reducible apply zar); rfl; rfl; rfl; rfl; (first | omega | ((try simp only [List.length_append, List.length_cons, List.length_nil, List.length_map]); (try dsimp only); omega)); rfl; rfl
 | refine zdq (id := 11) rfl (by kernel_rfl) [(.p, 0), (.p, 1), (.p, 2), (.p, 3), (.p, 4), (.p, 5), (.p, 6), (.p, 7), (.l, 8)] [8] (by kernel_rfl) rfl ?_
 | (with_reducible apply zslr); rfl; exact tk; (iterate 8 rfl); omega; rfl; rfl
 | fail)
    refine zcpy (ins l i x) (l.length - i.toNat) rfl tk rfl rfl rfl rfl rfl rfl rfl rfl rfl rfl ⟨by show min _ _ = _; have : Int.toNat 0 = 0 := rfl; omega, by omega, by simp only [List.length_append, List.length_take, List.length_cons, List.length_nil, List.length_replicate]; omega, by omega⟩ (ins_g2 ⟨by omega, by omega⟩) rfl rfl rfl ?_
    repeat' (first
 | (with_reducible apply zds); exact tk; rfl; rfl; rfl; rfl; rfl
 | (with_reducible first | intro _ | apply wseq | apply zreg | apply thenQ_n | apply thenQ_r | apply thenQ_e | apply znil | apply wret | apply bodyQ_r | apply wblk | apply blkQ_n | apply blkQ_r | apply wskip | apply wexit)
 | fail)
    exact endG (X' := .c (.row 2 0 (i.toNat - Int.toNat 0 + (↑l.length + ↑[x].length - i).toNat))) (hs' := [none, none, ow 135 (ins l i x)]) [0, 1, 2] rfl rfl rfl rfl rfl rfl (by rw [show i.toNat - Int.toNat 0 + (↑l.length + ↑[x].length - i).toNat = (ins l i x).length from by rw [ins_len (by omega)]; have : Int.toNat 0 = 0 := rfl; omega]) rfl
  · refine zcpy _ (l.length - i.toNat) rfl tk rfl rfl rfl rfl rfl rfl rfl rfl rfl rfl ⟨by show min _ _ = _; omega, by omega, by omega, by omega⟩ (ins_c1 (x := x) ⟨by omega, by omega⟩) rfl rfl rfl ?_
    repeat' (first
 | (with_reducible apply zds); exact tk; rfl; rfl; rfl; rfl; rfl
 | (with_reducible apply zd); rfl; exact tk; rfl
 | (with_reducible first | intro _ | apply wseq | apply zreg | apply thenQ_n | apply thenQ_r | apply thenQ_e | apply znil | apply wret | apply bodyQ_r | apply wblk | apply blkQ_n | apply blkQ_r | apply wskip | apply wexit)
 | (with_reducible apply zslr); rfl; exact tk; (iterate 8 rfl); omega; rfl; rfl
 | fail)
    refine zcpy (ins l i x) 1 rfl tk rfl rfl rfl rfl rfl rfl rfl rfl rfl rfl ⟨by show min [x].length _ = 1; omega, by omega, by simp only [List.length_append, List.length_take, List.length_drop]; omega, by omega⟩ (ins_c2 ⟨by omega, by omega⟩) rfl rfl rfl ?_
    repeat' (first
 | (with_reducible apply zds); exact tk; rfl; rfl; rfl; rfl; rfl
 | (with_reducible first | intro _ | apply wseq | apply zreg | apply thenQ_n | apply thenQ_r | apply thenQ_e | apply znil | apply wret | apply bodyQ_r | apply wblk | apply blkQ_n | apply blkQ_r | apply wskip | apply wexit)
 | fail)
    exact endG (X' := .c (.row 2 0 (↑l.length + ↑[x].length : Int).toNat)) (hs' := [none, none, ow 135 (ins l i x)]) [0, 1, 0] rfl rfl rfl rfl rfl rfl (by rw [show (↑l.length + ↑[x].length : Int).toNat = (ins l i x).length from by rw [ins_len (by omega)]; omega]) rfl
set_option maxHeartbeats 4000000 in
theorem slices_Delete_Bal {l : List Bal} {i : Int} (hi : 0 ≤ i ∧ i < l.length) (hl : l.length ≤ 4194304) : FC Tryz.prog 230 [.c (.row 0 0 l.length), I i, I (i + 1)] ([ow 135 l]) (.c (.row 0 0 (del l i).length)) ([ow 135 (del l i)]) := by
  refine fent tk 33 [.tmp 6] Tryz.func230 (by kernel_rfl) rfl rfl rfl rfl rfl rfl rfl ?_
  repeat' (first
 | (with_reducible apply zds); exact tk; rfl; rfl; rfl; rfl; rfl
 | (with_reducible apply zd); rfl; exact tk; rfl
 | (with_reducible first | intro _ | apply wseq | apply zreg | apply thenQ_n | apply thenQ_r | apply thenQ_e | apply znil | apply wret | apply bodyQ_r | apply wblk | apply blkQ_n | apply blkQ_r | apply wskip | apply wexit)
 | apply wct rfl
 | apply wcf rfl
 | (with_reducible apply zeq); rfl; exact tk; rfl; rfl; rfl; rfl
 | (with_reducible apply zsl3); rfl; exact tk; (iterate 7 rfl); omega; rfl; rfl
 | refine zdq (id := 5) rfl (by kernel_rfl) [(.p, 0), (.p, 1), (.p, 2), (.p, 3), (.p, 4), (.p, 5), (.l, 6), (.p, 7)] [6] (by kernel_rfl) rfl ?_
 | (with_reducible apply zslr); rfl; exact tk; (iterate 8 rfl); omega; rfl; rfl
 | fail)
  all_goals first | (exfalso; omega) | skip
  obtain ⟨zs, hz⟩ : ∃ zs, l.take i.toNat ++ (l.drop (i + 1).toNat).take (l.length - (i + 1).toNat) ++ l.drop (i.toNat + (l.length - (i + 1).toNat)) = zs := ⟨_, rfl⟩
  have hzl : zs.length = l.length := by rw [← hz]; simp only [List.length_append, List.length_take, List.length_drop]; omega
  have h0 : Int.toNat 0 = 0 := rfl
  refine zapi zs rfl tk rfl rfl rfl rfl rfl rfl rfl rfl ⟨by omega, by omega⟩ hz rfl rfl rfl ?_
  repeat' (first
 | (with_reducible apply zds); exact tk; rfl; rfl; rfl; rfl; rfl
 | (with_reducible apply zd); rfl; exact tk; rfl
 | (with_reducible first | intro _ | apply wseq | apply zreg | apply thenQ_n | apply thenQ_r | apply thenQ_e | apply znil | apply wret | apply bodyQ_r | apply wblk | apply blkQ_n | apply blkQ_r | apply wskip | apply wexit)
 | (with_reducible apply zslx); rfl; exact tk; (iterate 8 rfl); (simp only [List.length_map] at *; omega); rfl; rfl
 | fail)
  refine zclr rfl tk rfl rfl rfl rfl rfl rfl rfl (by omega) rfl rfl ?_
  repeat' (first
 | (with_reducible apply zds); exact tk; rfl; rfl; rfl; rfl; rfl
 | (with_reducible first | intro _ | apply wseq | apply zreg | apply thenQ_n | apply thenQ_r | apply thenQ_e | apply znil | apply wret | apply bodyQ_r | apply wblk | apply blkQ_n | apply blkQ_r | apply wskip | apply wexit)
 | fail)
  exact endG (X' := .c (.row 0 0 (i.toNat - Int.toNat 0 + ((↑l.length : Int).toNat - (i + 1).toNat)))) (hs' := [ow 135 (zs.take (i.toNat + (l.length - (i + 1).toNat)))]) [0] rfl rfl rfl rfl rfl rfl (by rw [show i.toNat - Int.toNat 0 + ((↑l.length : Int).toNat - (i + 1).toNat) = (del l i).length from by rw [del_len (by omega)]; omega]) (by rw [← hz, del_c (by omega)])
end Go.Proofs.YtgehbhkfehmdkaaGreat.Sh
namespace Go.Proofs.YtgehbhkfehmdkaaGreat.Sh
open Go.RowKit
set_option linter.unusedVariables false
set_option linter.unusedSimpArgs false
set_option linter.unusedSectionVars false
section
variable {α : Type} [Enc α]
def pf {α : Type} (l : List α) (i : Int) : List α := l.take i.toNat
theorem pf_succ {l : List α} {i : Int} (h : 0 ≤ i ∧ i < l.length) : pf l (i + 1) = pf l i ++ [rd l i] := by
  have h1 : i.toNat < l.length := by omega
  unfold pf
  rw [show (i + 1).toNat = i.toNat + 1 from by omega, List.take_add_one]
  simp [rd, List.getD_eq_getElem?_getD, h1]
theorem pf_all {l : List α} {i : Int} (h : ¬ i < l.length) : pf l i = l := List.take_of_length_le (by omega)
theorem pf_len {l : List α} {i : Int} (h : 0 ≤ i ∧ i ≤ l.length) : ((pf l i).length : Int) = i := by
  simp only [pf, List.length_take]
  omega
theorem rd_mem {l : List α} {i : Int} (h : 0 ≤ i ∧ i < l.length) : rd l i ∈ l := by
  have h1 : i.toNat < l.length := by omega
  simp only [rd, List.getD_eq_getElem?_getD, List.getElem?_eq_getElem h1, Option.getD_some]
  exact List.getElem_mem h1
theorem mem_rd {l : List α} {x : α} (h : x ∈ l) : ∃ i : Int, (0 ≤ i ∧ i < l.length) ∧ rd l i = x := by
  obtain ⟨n, hn, rfl⟩ := List.getElem_of_mem h
  exact ⟨n, ⟨by omega, by omega⟩, by simp [rd, List.getD_eq_getElem?_getD, hn]⟩
theorem all_rd {l : List α} {p : α → Prop} : (∀ i : Int, 0 ≤ i → i < l.length → p (rd l i)) ↔ ∀ x ∈ l, p x :=
  ⟨fun h x hx => by obtain ⟨i, hi, rfl⟩ := mem_rd hx; exact h i hi.1 hi.2, fun h i h0 h1 => h _ (rd_mem ⟨h0, h1⟩)⟩
theorem rd_pf {l : List α} {i j : Int} (h : 0 ≤ j ∧ j < i) : rd (pf l i) j = rd l j := by
  unfold rd pf
  rw [List.getD_eq_getElem?_getD, List.getD_eq_getElem?_getD, List.getElem?_take_of_lt (by omega)]
theorem find_at {l : List α} {p : α → Bool} {i : Int} (h0 : 0 ≤ i ∧ i < l.length) (hb : ∀ j : Int, 0 ≤ j → j < i → ¬ p (rd l j) = true) (hp : p (rd l i) = true) : l.find? p = some (rd l i) := by
  have h1 : i.toNat < l.length := by omega
  have e1 : l[i.toNat] = rd l i := by simp [rd, List.getD_eq_getElem?_getD, h1]
  rw [List.find?_eq_some_iff_getElem]
  refine ⟨hp, i.toNat, h1, e1, fun j hj => ?_⟩
  have := hb j (by omega) (by omega)
  have e2 : rd l (j : Int) = l[j] := by simp [rd, List.getD_eq_getElem?_getD, show j < l.length from by omega]
  rw [e2] at this
  simpa using this
theorem find_no {l : List α} {p : α → Bool} {i : Int} (hi : ¬ i < l.length) (hb : ∀ j : Int, 0 ≤ j → j < i → ¬ p (rd l j) = true) : l.find? p = none := by
  rw [List.find?_eq_none]
  intro x hx
  obtain ⟨j, hj, rfl⟩ := mem_rd hx
  exact hb j hj.1 (by omega)
def sumF {α : Type} (f : α → Int) (l : List α) : Int := (l.map f).sum
theorem sumF_nil (f : α → Int) : sumF f [] = 0 := rfl
theorem sumF_append (f : α → Int) (a b : List α) : sumF f (a ++ b) = sumF f a + sumF f b := by simp [sumF]
theorem sumF_one (f : α → Int) (x : α) : sumF f [x] = f x := by simp [sumF]
theorem sumF_cons (f : α → Int) (x : α) (l : List α) : sumF f (x :: l) = f x + sumF f l := by simp [sumF]
theorem sumF_succ {f : α → Int} {l : List α} {i : Int} (h : 0 ≤ i ∧ i < l.length) : sumF f (pf l (i + 1)) = sumF f (pf l i) + f (rd l i) := by rw [pf_succ h, sumF_append, sumF_one]
theorem sumF_le {f : α → Int} {l : List α} {M : Int} (h : ∀ x ∈ l, f x ≤ M) : sumF f l ≤ l.length * M := by
  induction l with
  | nil => simp [sumF]
  | cons x l ih =>
    rw [sumF_cons, List.length_cons]
    have h1 := h x (by simp)
    have h2 := ih (fun y hy => h y (by simp [hy]))
    have : ((l.length + 1 : Nat) : Int) * M = l.length * M + M := by push_cast; rw [Int.add_mul]; omega
    omega
theorem sumF_ge {f : α → Int} {l : List α} {M : Int} (h : ∀ x ∈ l, M ≤ f x) : l.length * M ≤ sumF f l := by
  induction l with
  | nil => simp [sumF]
  | cons x l ih =>
    rw [sumF_cons, List.length_cons]
    have h1 := h x (by simp)
    have h2 := ih (fun y hy => h y (by simp [hy]))
    have : ((l.length + 1 : Nat) : Int) * M = l.length * M + M := by push_cast; rw [Int.add_mul]; omega
    omega
theorem sumF_bnd {f : α → Int} {l : List α} {i : Int} (h : ∀ x ∈ l, -1000000000000000 ≤ f x ∧ f x ≤ 1000000000000000) (hi : 0 ≤ i ∧ i ≤ l.length) : -1000000000000000 * i ≤ sumF f (pf l i) ∧ sumF f (pf l i) ≤ 1000000000000000 * i := by
  have hm : ∀ x ∈ pf l i, x ∈ l := fun x hx => List.mem_of_mem_take hx
  have h1 := sumF_le (M := 1000000000000000) (fun x hx => (h x (hm x hx)).2)
  have h2 := sumF_ge (M := -1000000000000000) (fun x hx => (h x (hm x hx)).1)
  rw [pf_len hi] at h1 h2
  omega
theorem sumF_nn {f : α → Int} {l : List α} (h : ∀ x ∈ l, 0 ≤ f x) : 0 ≤ sumF f l := by
  have := sumF_ge (M := 0) h
  simpa using this
end
def accKind (l : List Account) (no : Int) : Int := match l.find? (fun x => decide (x.No = no)) with
  | some x => x.Kind
  | none => 0
def insKind (l : List Instr) (no : Int) : Int := match l.find? (fun x => decide (x.No = no)) with
  | some x => x.Kind
  | none => 0
theorem accKind_at {l : List Account} {no i : Int} (h0 : 0 ≤ i ∧ i < l.length) (hb : ∀ j : Int, 0 ≤ j → j < i → (rd l j).No ≠ no) (h : (rd l i).No = no) : accKind l no = (rd l i).Kind := by
  rw [accKind, find_at h0 (fun j h1 h2 => by simpa using hb j h1 h2) (by simpa using h)]
theorem accKind_no {l : List Account} {no i : Int} (h0 : ¬ i < l.length) (hb : ∀ j : Int, 0 ≤ j → j < i → (rd l j).No ≠ no) : accKind l no = 0 := by
  rw [accKind, find_no h0 (fun j h1 h2 => by simpa using hb j h1 h2)]
theorem insKind_at {l : List Instr} {no i : Int} (h0 : 0 ≤ i ∧ i < l.length) (hb : ∀ j : Int, 0 ≤ j → j < i → (rd l j).No ≠ no) (h : (rd l i).No = no) : insKind l no = (rd l i).Kind := by
  rw [insKind, find_at h0 (fun j h1 h2 => by simpa using hb j h1 h2) (by simpa using h)]
theorem insKind_no {l : List Instr} {no i : Int} (h0 : ¬ i < l.length) (hb : ∀ j : Int, 0 ≤ j → j < i → (rd l j).No ≠ no) : insKind l no = 0 := by
  rw [insKind, find_no h0 (fun j h1 h2 => by simpa using hb j h1 h2)]
def balF (c : Int) (x : Bal) : Int := if x.Instr = c then x.Amount else 0
def balsSum (l : List Bal) (c : Int) : Int := sumF (balF c) l
def balOf (l : List Bal) (a c : Int) : Int := match l.find? (fun x => decide (x.Account = a ∧ x.Instr = c)) with
  | some x => x.Amount
  | none => 0
theorem balOf_at {l : List Bal} {a c i : Int} (h0 : 0 ≤ i ∧ i < l.length) (hb : ∀ j : Int, 0 ≤ j → j < i → ¬ ((rd l j).Account = a ∧ (rd l j).Instr = c)) (h : (rd l i).Account = a ∧ (rd l i).Instr = c) : balOf l a c = (rd l i).Amount := by
  rw [balOf, find_at h0 (fun j h1 h2 => by simpa using hb j h1 h2) (by simpa using h)]
theorem balOf_no {l : List Bal} {a c i : Int} (h0 : ¬ i < l.length) (hb : ∀ j : Int, 0 ≤ j → j < i → ¬ ((rd l j).Account = a ∧ (rd l j).Instr = c)) : balOf l a c = 0 := by
  rw [balOf, find_no h0 (fun j h1 h2 => by simpa using hb j h1 h2)]
def BSd (l : List Bal) : Prop := ∀ i : Int, 0 < i → i < l.length → bef (rd l (i - 1)).Account (rd l (i - 1)).Instr (rd l i).Account (rd l i).Instr
theorem BalsOk.sd {l : List Bal} (h : BalsOk l) : BSd l := fun i h0 h1 => (h.1 i (by omega) h1).2.2.2.2 h0
theorem bef_trans {a b c d e f : Int} (h : bef a b c d) (k : bef c d e f) : bef a b e f := by unfold bef at *; omega
theorem BSd.lt {l : List Bal} (h : BSd l) {i j : Int} (h0 : 0 ≤ i) (hij : i < j) (hj : j < l.length) : bef (rd l i).Account (rd l i).Instr (rd l j).Account (rd l j).Instr := by
  obtain ⟨n, rfl⟩ : ∃ n : Nat, j = i + 1 + n := ⟨(j - i - 1).toNat, by omega⟩
  induction n with
  | zero =>
    have := h (i + 1 + (0 : Nat)) (by omega) hj
    rwa [show i + 1 + ((0 : Nat) : Int) - 1 = i from by omega] at this
  | succ n ih =>
    have h1 := h (i + 1 + (n + 1 : Nat)) (by omega) hj
    rw [show i + 1 + ((n + 1 : Nat) : Int) - 1 = i + 1 + (n : Int) from by omega] at h1
    exact bef_trans (ih (by omega) (by omega)) h1
instance (a b c d : Int) : Decidable (bef a b c d) := by unfold bef; infer_instance
theorem idx_eq {α : Type} [Enc α] {l : List α} {p : α → Bool} {i : Int} (h0 : 0 ≤ i ∧ i ≤ l.length) (hb : ∀ j : Int, 0 ≤ j → j < i → ¬ p (rd l j) = true) (hi : i < l.length → p (rd l i) = true) : ((l.findIdx p : Nat) : Int) = i := by
  have hg : ∀ (j : Nat) (hj : j < l.length), rd l (j : Int) = l[j] := fun j hj => by simp [rd, List.getD_eq_getElem?_getD, hj]
  have hle := List.findIdx_le_length (xs := l) (p := p)
  rcases Nat.lt_trichotomy (l.findIdx p) i.toNat with h | h | h
  · have h1 : l.findIdx p < l.length := by omega
    have h2 := List.findIdx_getElem (w := h1)
    rw [← hg _ h1] at h2
    exact absurd h2 (hb _ (by omega) (by omega))
  · omega
  · have h1 : i.toNat < l.length := by omega
    have h2 := List.not_of_lt_findIdx h
    rw [← hg _ h1, show ((i.toNat : Nat) : Int) = i from by omega] at h2
    rw [hi (by omega)] at h2
    simp at h2
def bIx (l : List Bal) (a c : Int) : Int := (l.findIdx (fun x => decide (¬ bef x.Account x.Instr a c)) : Nat)
def bHas (l : List Bal) (a c : Int) : Prop := ∃ x ∈ l, x.Account = a ∧ x.Instr = c
theorem bIx_eq {l : List Bal} {a c i : Int} (h0 : 0 ≤ i ∧ i ≤ l.length) (hb : ∀ j : Int, 0 ≤ j → j < i → bef (rd l j).Account (rd l j).Instr a c) (hi : i < l.length → ¬ bef (rd l i).Account (rd l i).Instr a c) : bIx l a c = i :=
  idx_eq h0 (fun j h1 h2 => by simpa using hb j h1 h2) (fun h => by simpa using hi h)
theorem bIx_nn (l : List Bal) (a c : Int) : 0 ≤ bIx l a c ∧ bIx l a c ≤ l.length := ⟨by unfold bIx; omega, by unfold bIx; have := List.findIdx_le_length (xs := l) (p := fun x => decide (¬ bef x.Account x.Instr a c)); omega⟩
theorem bIx_lt {l : List Bal} {a c j : Int} (h0 : 0 ≤ j) (h : j < bIx l a c) : bef (rd l j).Account (rd l j).Instr a c := by
  have h1 : j.toNat < l.findIdx (fun x => decide (¬ bef x.Account x.Instr a c)) := by unfold bIx at h; omega
  have h2 := List.not_of_lt_findIdx h1
  have hl : j.toNat < l.length := by have := List.findIdx_le_length (xs := l) (p := fun x => decide (¬ bef x.Account x.Instr a c)); omega
  have e : l[j.toNat] = rd l j := by simp [rd, List.getD_eq_getElem?_getD, hl]
  rw [e] at h2
  simpa using h2
theorem bIx_at {l : List Bal} {a c : Int} (h : bIx l a c < l.length) : ¬ bef (rd l (bIx l a c)).Account (rd l (bIx l a c)).Instr a c := by
  have h1 : l.findIdx (fun x => decide (¬ bef x.Account x.Instr a c)) < l.length := by unfold bIx at h; omega
  have h2 := List.findIdx_getElem (w := h1)
  have e : l[l.findIdx (fun x => decide (¬ bef x.Account x.Instr a c))] = rd l (bIx l a c) := by
    show _ = l.getD ((l.findIdx (fun x => decide (¬ bef x.Account x.Instr a c)) : Nat) : Int).toNat _
    rw [Int.toNat_natCast, List.getD_eq_getElem?_getD, List.getElem?_eq_getElem h1]
    rfl
  rw [e] at h2
  simpa using h2
theorem bHas_ix {l : List Bal} (hs : BSd l) {a c : Int} (h : bHas l a c) : bIx l a c < l.length ∧ (rd l (bIx l a c)).Account = a ∧ (rd l (bIx l a c)).Instr = c := by
  obtain ⟨x, hx, h1, h2⟩ := h
  obtain ⟨j, hj, rfl⟩ := mem_rd hx
  have e : bIx l a c = j := bIx_eq ⟨hj.1, by omega⟩ (fun k h3 h4 => by have := hs.lt h3 h4 hj.2; rwa [h1, h2] at this) (fun _ => by rw [h1, h2]; unfold bef; omega)
  rw [e]
  exact ⟨hj.2, h1, h2⟩
theorem bHas_at {l : List Bal} (hs : BSd l) {a c i : Int} (h0 : 0 ≤ i ∧ i < l.length) (hb : ∀ j : Int, 0 ≤ j → j < i → bef (rd l j).Account (rd l j).Instr a c) (hi : ¬ bef (rd l i).Account (rd l i).Instr a c) : bHas l a c ↔ (rd l i).Account = a ∧ (rd l i).Instr = c := by
  constructor
  · intro h
    obtain ⟨h1, h2⟩ := bHas_ix hs h
    rwa [bIx_eq ⟨h0.1, by omega⟩ hb (fun _ => hi)] at h2
  · intro h
    exact ⟨_, rd_mem h0, h⟩
theorem bHas_no {l : List Bal} {a c i : Int} (h0 : ¬ i < l.length) (hb : ∀ j : Int, 0 ≤ j → j < i → bef (rd l j).Account (rd l j).Instr a c) : ¬ bHas l a c := by
  rintro ⟨x, hx, h1, h2⟩
  obtain ⟨j, hj, rfl⟩ := mem_rd hx
  have := hb j hj.1 (by omega)
  rw [h1, h2] at this
  unfold bef at this
  omega
theorem balOf_has {l : List Bal} (hs : BSd l) {a c : Int} (h : bHas l a c) : balOf l a c = (rd l (bIx l a c)).Amount := by
  obtain ⟨h1, h2⟩ := bHas_ix hs h
  exact balOf_at ⟨(bIx_nn l a c).1, h1⟩ (fun j h3 h4 => by have := bIx_lt h3 h4; unfold bef at this; omega) h2
theorem balOf_not {l : List Bal} {a c : Int} (h : ¬ bHas l a c) : balOf l a c = 0 := by
  rw [balOf_no (i := l.length) (by omega)]
  intro j h1 h2 h3
  exact h ⟨_, rd_mem ⟨h1, h2⟩, h3⟩
theorem balF_bnd {l : List Bal} (h : BalsOk l) (c : Int) : ∀ x ∈ l, -1000000000000000 ≤ balF c x ∧ balF c x ≤ 1000000000000000 := by
  intro x hx
  obtain ⟨i, hi, rfl⟩ := mem_rd hx
  have := (h.1 i hi.1 hi.2).2.2.1
  unfold amountOk inP at this
  unfold balF
  split <;> omega
theorem balsSum_step {l : List Bal} {c i : Int} (h : 0 ≤ i ∧ i < l.length) : balsSum (pf l (i + 1)) c = balsSum (pf l i) c + balF c (rd l i) := sumF_succ h
theorem balF_y {c : Int} {x : Bal} (h : x.Instr = c) : balF c x = x.Amount := if_pos h
theorem balF_n {c : Int} {x : Bal} (h : ¬ x.Instr = c) : balF c x = 0 := if_neg h
end Go.Proofs.YtgehbhkfehmdkaaGreat.Sh
