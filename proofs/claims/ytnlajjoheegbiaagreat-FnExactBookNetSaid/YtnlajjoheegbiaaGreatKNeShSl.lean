/- slices.Clone, slices.Insert, slices.Delete. No condition. -/
import Derived.Test.YtnlajjoheegbiaaGreatKNeShU
namespace Go.Proofs.YtnlajjoheegbiaaGreat.Sh
open Go.RowKit
set_option linter.unusedVariables false
set_option linter.unusedSimpArgs false
def ins {α : Type} (l : List α) (i : Int) (x : α) : List α := l.take i.toNat ++ x :: l.drop i.toNat
def del {α : Type} (l : List α) (i : Int) : List α := l.take i.toNat ++ l.drop (i.toNat + 1)
theorem ins_len {α : Type} {l : List α} {i : Int} {x : α} (h : 0 ≤ i ∧ i ≤ l.length) : (ins l i x).length = l.length + 1 := by
  simp only [ins, List.length_append, List.length_cons, List.length_take, List.length_drop]
  omega
theorem del_len {α : Type} {l : List α} {i : Int} (h : 0 ≤ i ∧ i < l.length) : (del l i).length = l.length - 1 := by
  simp only [del, List.length_append, List.length_take, List.length_drop]
  omega
theorem ins_end {α : Type} {l : List α} {i : Int} {x : α} (h : i = l.length) : ins l i x = l ++ [x] := by
  subst h
  simp [ins]
theorem ins_c1 {α : Type} {l : List α} {i : Int} {x : α} (h : 0 ≤ i ∧ i < l.length) : l.take (i + 1).toNat ++ (l.drop i.toNat).take (l.length - i.toNat) ++ l.drop ((i + 1).toNat + (l.length - i.toNat)) = l.take (i.toNat + 1) ++ l.drop i.toNat := by
  have e1 : (l.drop i.toNat).take (l.length - i.toNat) = l.drop i.toNat := List.take_of_length_le (by rw [List.length_drop]; omega)
  have e2 : l.drop ((i + 1).toNat + (l.length - i.toNat)) = [] := List.drop_eq_nil_of_le (by omega)
  rw [e1, e2, List.append_nil, show (i + 1).toNat = i.toNat + 1 from by omega]
theorem ins_c2 {α : Type} {l : List α} {i : Int} {x : α} (h : 0 ≤ i ∧ i < l.length) : (l.take (i.toNat + 1) ++ l.drop i.toNat).take i.toNat ++ ([x].drop 0).take 1 ++ (l.take (i.toNat + 1) ++ l.drop i.toNat).drop (i.toNat + 1) = ins l i x := by
  have h1 : (l.take (i.toNat + 1)).length = i.toNat + 1 := by rw [List.length_take]; omega
  have e1 : (l.take (i.toNat + 1) ++ l.drop i.toNat).take i.toNat = l.take i.toNat := by
    rw [List.take_append_of_le_length (by omega), List.take_take, Nat.min_eq_left (by omega)]
  have e2 : (l.take (i.toNat + 1) ++ l.drop i.toNat).drop (i.toNat + 1) = l.drop i.toNat := by
    have := List.drop_left (l₁ := l.take (i.toNat + 1)) (l₂ := l.drop i.toNat)
    rwa [h1] at this
  rw [e1, e2]
  simp [ins]
theorem ins_g1 {α : Type} {l : List α} {i : Int} {x z : α} {m : Nat} (h : 0 ≤ i ∧ i < l.length) (hm : m = l.length + 1 - i.toNat) : (l.take i.toNat ++ List.replicate m z).take i.toNat ++ ([x].drop 0).take 1 ++ (l.take i.toNat ++ List.replicate m z).drop (i.toNat + 1) = l.take i.toNat ++ x :: List.replicate (l.length - i.toNat) z := by
  have h1 : (l.take i.toNat).length = i.toNat := by rw [List.length_take]; omega
  have h2 : (l.take i.toNat ++ List.replicate m z).take i.toNat = l.take i.toNat := by
    have := List.take_left (l₁ := l.take i.toNat) (l₂ := List.replicate m z)
    rwa [h1] at this
  have h3 : (l.take i.toNat ++ List.replicate m z).drop (i.toNat + 1) = List.replicate (l.length - i.toNat) z := by
    rw [← List.drop_drop, show (l.take i.toNat ++ List.replicate m z).drop i.toNat = List.replicate m z from by
      have := List.drop_left (l₁ := l.take i.toNat) (l₂ := List.replicate m z)
      rwa [h1] at this, List.drop_replicate]
    congr 1
    omega
  rw [h2, h3]
  simp
theorem ins_g2 {α : Type} {l : List α} {i : Int} {x z : α} (h : 0 ≤ i ∧ i < l.length) : (l.take i.toNat ++ x :: List.replicate (l.length - i.toNat) z).take (i + 1).toNat ++ (l.drop i.toNat).take (l.length - i.toNat) ++ (l.take i.toNat ++ x :: List.replicate (l.length - i.toNat) z).drop ((i + 1).toNat + (l.length - i.toNat)) = ins l i x := by
  have h1 : (l.take i.toNat).length = i.toNat := by rw [List.length_take]; omega
  have h2 : (l.take i.toNat ++ x :: List.replicate (l.length - i.toNat) z).take (i + 1).toNat = l.take i.toNat ++ [x] := by
    have := List.take_left (l₁ := l.take i.toNat ++ [x]) (l₂ := List.replicate (l.length - i.toNat) z)
    rw [List.length_append, h1] at this
    rw [show (i + 1).toNat = i.toNat + [x].length from by show _ = i.toNat + 1; omega]
    rw [← this]
    simp
  have e1 : (l.drop i.toNat).take (l.length - i.toNat) = l.drop i.toNat := List.take_of_length_le (by rw [List.length_drop]; omega)
  have e2 : (l.take i.toNat ++ x :: List.replicate (l.length - i.toNat) z).drop ((i + 1).toNat + (l.length - i.toNat)) = [] := List.drop_eq_nil_of_le (by simp only [List.length_append, List.length_cons, List.length_replicate, h1]; omega)
  rw [h2, e1, e2, List.append_nil]
  simp [ins]
theorem del_c {α : Type} {l : List α} {i : Int} (h : 0 ≤ i ∧ i < l.length) : (l.take i.toNat ++ (l.drop (i + 1).toNat).take (l.length - (i + 1).toNat) ++ l.drop (i.toNat + (l.length - (i + 1).toNat))).take (i.toNat + (l.length - (i + 1).toNat)) = del l i := by
  have h1 : (l.take i.toNat).length = i.toNat := by rw [List.length_take]; omega
  have h2 : (l.drop (i + 1).toNat).take (l.length - (i + 1).toNat) = l.drop (i.toNat + 1) := by
    rw [show (i + 1).toNat = i.toNat + 1 from by omega, List.take_of_length_le (by rw [List.length_drop]; omega)]
  have h3 : (l.take i.toNat ++ l.drop (i.toNat + 1)).length = i.toNat + (l.length - (i + 1).toNat) := by
    rw [List.length_append, h1, List.length_drop]
    omega
  rw [h2, ← h3, List.take_left]
  rfl
set_option maxHeartbeats 4000000 in
theorem slices_Clone_Account {l : List Account} (hl : l.length ≤ 4194304) : FC Tryz.prog 171 [.c (.row 0 0 l.length)] ([ro 94 l]) (.c (.row 1 0 l.length)) ([ro 94 l, ow 94 l]) := by
  refine fent tk 8 [.tmp 2] Tryz.func171 (by kernel_rfl) rfl rfl rfl rfl rfl rfl rfl ?_
  repeat' (first
 | (with_reducible apply zd); rfl; exact tk; rfl
 | (with_reducible apply zen); rfl; exact tk; (iterate 7 rfl)
 | (with_reducible apply znila (d := 2) 94 2); rfl; rfl; rfl
 | (with_reducible first | intro _ | apply wseq | apply zreg | apply thenQ_n | apply thenQ_r | apply thenQ_e | apply znil | apply wret | apply bodyQ_r | apply wblk | apply blkQ_n | apply blkQ_r | apply wskip | apply wexit)
 | apply wct rfl
 | apply wcf rfl
 | (with_reducible apply zlit (α := Account) (e := 94)); rfl; exact tk; (iterate 13 rfl)
 | (with_reducible apply zap); rfl; exact tk; (iterate 10 rfl); (first | omega | ((try simp only [List.length_append, List.length_cons, List.length_nil, List.length_map]); (try dsimp only); omega)); rfl; rfl; rfl; rfl; rfl
 | fail)
  · rename_i hn
    obtain rfl : l = [] := List.length_eq_zero_iff.1 hn
    exact endV [0, 2] rfl rfl rfl rfl rfl rfl
  · exact endV [0, 3] rfl rfl rfl rfl rfl rfl
set_option maxHeartbeats 4000000 in
theorem slices_Clone_Instr {l : List Instr} (hl : l.length ≤ 4194304) : FC Tryz.prog 172 [.c (.row 0 0 l.length)] ([ro 95 l]) (.c (.row 1 0 l.length)) ([ro 95 l, ow 95 l]) := by
  refine fent tk 8 [.tmp 2] Tryz.func172 (by kernel_rfl) rfl rfl rfl rfl rfl rfl rfl ?_
  repeat' (first
 | (with_reducible apply zd); rfl; exact tk; rfl
 | (with_reducible apply zen); rfl; exact tk; (iterate 7 rfl)
 | (with_reducible apply znila (d := 2) 95 2); rfl; rfl; rfl
 | (with_reducible first | intro _ | apply wseq | apply zreg | apply thenQ_n | apply thenQ_r | apply thenQ_e | apply znil | apply wret | apply bodyQ_r | apply wblk | apply blkQ_n | apply blkQ_r | apply wskip | apply wexit)
 | apply wct rfl
 | apply wcf rfl
 | (with_reducible apply zlit (α := Instr) (e := 95)); rfl; exact tk; (iterate 13 rfl)
 | (with_reducible apply zap); rfl; exact tk; (iterate 10 rfl); (first | omega | ((try simp only [List.length_append, List.length_cons, List.length_nil, List.length_map]); (try dsimp only); omega)); rfl; rfl; rfl; rfl; rfl
 | fail)
  · rename_i hn
    obtain rfl : l = [] := List.length_eq_zero_iff.1 hn
    exact endV [0, 2] rfl rfl rfl rfl rfl rfl
  · exact endV [0, 3] rfl rfl rfl rfl rfl rfl
set_option maxHeartbeats 4000000 in
theorem slices_Clone_Bal {l : List Bal} (hl : l.length ≤ 4194304) : FC Tryz.prog 173 [.c (.row 0 0 l.length)] ([ro 97 l]) (.c (.row 1 0 l.length)) ([ro 97 l, ow 97 l]) := by
  refine fent tk 8 [.tmp 2] Tryz.func173 (by kernel_rfl) rfl rfl rfl rfl rfl rfl rfl ?_
  repeat' (first
 | (with_reducible apply zd); rfl; exact tk; rfl
 | (with_reducible apply zen); rfl; exact tk; (iterate 7 rfl)
 | (with_reducible apply znila (d := 2) 97 3); rfl; rfl; rfl
 | (with_reducible first | intro _ | apply wseq | apply zreg | apply thenQ_n | apply thenQ_r | apply thenQ_e | apply znil | apply wret | apply bodyQ_r | apply wblk | apply blkQ_n | apply blkQ_r | apply wskip | apply wexit)
 | apply wct rfl
 | apply wcf rfl
 | (with_reducible apply zlit (α := Bal) (e := 97)); rfl; exact tk; (iterate 13 rfl)
 | (with_reducible apply zap); rfl; exact tk; (iterate 10 rfl); (first | omega | ((try simp only [List.length_append, List.length_cons, List.length_nil, List.length_map]); (try dsimp only); omega)); rfl; rfl; rfl; rfl; rfl
 | fail)
  · rename_i hn
    obtain rfl : l = [] := List.length_eq_zero_iff.1 hn
    exact endV [0, 2] rfl rfl rfl rfl rfl rfl
  · exact endV [0, 3] rfl rfl rfl rfl rfl rfl
set_option maxHeartbeats 4000000 in
theorem slices_Clone_Lot {l : List Lot} (hl : l.length ≤ 4194304) : FC Tryz.prog 174 [.c (.row 0 0 l.length)] ([ro 99 l]) (.c (.row 1 0 l.length)) ([ro 99 l, ow 99 l]) := by
  refine fent tk 8 [.tmp 2] Tryz.func174 (by kernel_rfl) rfl rfl rfl rfl rfl rfl rfl ?_
  repeat' (first
 | (with_reducible apply zd); rfl; exact tk; rfl
 | (with_reducible apply zen); rfl; exact tk; (iterate 7 rfl)
 | (with_reducible apply znila (d := 2) 99 5); rfl; rfl; rfl
 | (with_reducible first | intro _ | apply wseq | apply zreg | apply thenQ_n | apply thenQ_r | apply thenQ_e | apply znil | apply wret | apply bodyQ_r | apply wblk | apply blkQ_n | apply blkQ_r | apply wskip | apply wexit)
 | apply wct rfl
 | apply wcf rfl
 | (with_reducible apply zlit (α := Lot) (e := 99)); rfl; exact tk; (iterate 13 rfl)
 | (with_reducible apply zap); rfl; exact tk; (iterate 10 rfl); (first | omega | ((try simp only [List.length_append, List.length_cons, List.length_nil, List.length_map]); (try dsimp only); omega)); rfl; rfl; rfl; rfl; rfl
 | fail)
  · rename_i hn
    obtain rfl : l = [] := List.length_eq_zero_iff.1 hn
    exact endV [0, 2] rfl rfl rfl rfl rfl rfl
  · exact endV [0, 3] rfl rfl rfl rfl rfl rfl
set_option maxHeartbeats 4000000 in
theorem slices_Clone_Trade {l : List Trade} (hl : l.length ≤ 4194304) : FC Tryz.prog 175 [.c (.row 0 0 l.length)] ([ro 101 l]) (.c (.row 1 0 l.length)) ([ro 101 l, ow 101 l]) := by
  refine fent tk 8 [.tmp 2] Tryz.func175 (by kernel_rfl) rfl rfl rfl rfl rfl rfl rfl ?_
  repeat' (first
 | (with_reducible apply zd); rfl; exact tk; rfl
 | (with_reducible apply zen); rfl; exact tk; (iterate 7 rfl)
 | (with_reducible apply znila (d := 2) 101 8); rfl; rfl; rfl
 | (with_reducible first | intro _ | apply wseq | apply zreg | apply thenQ_n | apply thenQ_r | apply thenQ_e | apply znil | apply wret | apply bodyQ_r | apply wblk | apply blkQ_n | apply blkQ_r | apply wskip | apply wexit)
 | apply wct rfl
 | apply wcf rfl
 | (with_reducible apply zlit (α := Trade) (e := 101)); rfl; exact tk; (iterate 13 rfl)
 | (with_reducible apply zap); rfl; exact tk; (iterate 10 rfl); (first | omega | ((try simp only [List.length_append, List.length_cons, List.length_nil, List.length_map]); (try dsimp only); omega)); rfl; rfl; rfl; rfl; rfl
 | fail)
  · rename_i hn
    obtain rfl : l = [] := List.length_eq_zero_iff.1 hn
    exact endV [0, 2] rfl rfl rfl rfl rfl rfl
  · exact endV [0, 3] rfl rfl rfl rfl rfl rfl
set_option maxHeartbeats 4000000 in
theorem slices_Insert_Bal {l : List Bal} {i : Int} {x : Bal} (hi : 0 ≤ i ∧ i ≤ l.length) (hl : l.length ≤ 4194304) : FC Tryz.prog 269 [.c (.row 0 0 l.length), I i, .c (.row 1 0 [x].length)] ([ow 97 l, ow 97 [x]]) (.c (.row 2 0 (ins l i x).length)) ([none, none, ow 97 (ins l i x)]) := by
  refine fent tk 95 [.tmp 6] Tryz.func269 (by kernel_rfl) rfl rfl rfl rfl rfl rfl rfl ?_
  have h1 : [x].length = 1 := rfl
  repeat' (first
 | (with_reducible apply zds); exact tk; rfl; rfl; rfl; rfl; rfl
 | (with_reducible apply zd); rfl; exact tk; rfl
 | (with_reducible apply zovl (t := 35) (tR := 4)); rfl; exact tk; rfl; exact fun args w => run_callFunc_extern Tryz.func280 (by kernel_rfl) (by kernel_rfl) (by kernel_rfl) (e := Extern.SlicesOverlaps.overlaps #[35, 35] #[4]) (by kernel_rfl) args w; (iterate 8 rfl); (refine ⟨by decide, by omega, by omega⟩); rfl; rfl
 | (with_reducible apply zappz (α := Bal) 30); rfl; exact tk; (iterate 13 rfl); (refine ⟨by omega, by omega, by dsimp only; omega, by omega⟩); rfl; rfl; rfl
 | (with_reducible apply zslc 30); rfl; exact tk; (iterate 7 rfl); omega; rfl; rfl
 | (with_reducible first | intro _ | apply wseq | apply zreg | apply thenQ_n | apply thenQ_r | apply thenQ_e | apply znil | apply wret | apply bodyQ_r | apply wblk | apply blkQ_n | apply blkQ_r | apply wskip | apply wexit)
 | apply wct rfl
 | apply wcf rfl
 | (with_reducible apply zcmp); rfl; exact tk; rfl; rfl; rfl
 | (with_reducible apply zar); rfl; rfl; rfl; rfl; (first | omega | ((try simp only [List.length_append, List.length_cons, List.length_nil, List.length_map]); (try dsimp only); omega)); rfl; rfl
 | (with_reducible apply zap); rfl; exact tk; (iterate 10 rfl); (first | omega | ((try simp only [List.length_append, List.length_cons, List.length_nil, List.length_map]); (try dsimp only); omega)); rfl; rfl; rfl; rfl; rfl
 | (with_reducible apply zcap); rfl; exact tk; (iterate 7 rfl)
 | (with_reducible apply zcpg); rfl; rfl; rfl; rfl; rfl
 | refine zdq (id := 15) rfl (by kernel_rfl) [(.p, 0), (.p, 1), (.p, 2), (.p, 3), (.p, 4), (.p, 5), (.p, 6), (.p, 7), (.l, 8)] [8] (by kernel_rfl) rfl ?_
 | (with_reducible apply zslr); rfl; exact tk; (iterate 8 rfl); omega; rfl; rfl
 | fail)
  all_goals first | (exfalso; simp only [List.length_cons, List.length_nil] at *; omega) | skip
  · exact endG (X' := .c (.row 2 0 (l ++ [x]).length)) (hs' := [none, none, ow 97 (l ++ [x])]) [0, 1, 2] rfl rfl rfl rfl rfl rfl (by rw [ins_end (by assumption)]) (by rw [ins_end (by assumption)])
  · refine zcpy _ 1 rfl tk rfl rfl rfl rfl rfl rfl rfl rfl rfl rfl ⟨by show min [x].length _ = 1; have : Int.toNat 0 = 0 := rfl; omega, by omega, by simp only [List.length_append, List.length_take, List.length_replicate]; have : Int.toNat 0 = 0 := rfl; omega, by omega⟩ (ins_g1 ⟨by omega, by omega⟩ (by omega)) rfl rfl rfl ?_
    repeat' (first
 | (with_reducible apply zds); exact tk; rfl; rfl; rfl; rfl; rfl
 | (with_reducible first | intro _ | apply wseq | apply zreg | apply thenQ_n | apply thenQ_r | apply thenQ_e | apply znil | apply wret | apply bodyQ_r | apply wblk | apply blkQ_n | apply blkQ_r | apply wskip | apply wexit)
 | (with_reducible apply zar); rfl; rfl; rfl; rfl; (first | omega | ((try simp only [List.length_append, List.length_cons, List.length_nil, List.length_map]); (try dsimp only); omega)); rfl; rfl
 | refine zdq (id := 11) rfl (by kernel_rfl) [(.p, 0), (.p, 1), (.p, 2), (.p, 3), (.p, 4), (.p, 5), (.p, 6), (.p, 7), (.l, 8)] [8] (by kernel_rfl) rfl ?_
 | (with_reducible apply zslr); rfl; exact tk; (iterate 8 rfl); omega; rfl; rfl
 | fail)
    refine zcpy (ins l i x) (l.length - i.toNat) rfl tk rfl rfl rfl rfl rfl rfl rfl rfl rfl rfl ⟨by show min _ _ = _; have : Int.toNat 0 = 0 := rfl; omega, by omega, by simp only [List.length_append, List.length_take, List.length_cons, List.length_nil, List.length_replicate]; omega, by omega⟩ (ins_g2 ⟨by omega, by omega⟩) rfl rfl rfl ?_
    repeat' (first
 | (with_reducible apply zds); exact tk; rfl; rfl; rfl; rfl; rfl
 | (with_reducible first | intro _ | apply wseq | apply zreg | apply thenQ_n | apply thenQ_r | apply thenQ_e | apply znil | apply wret | apply bodyQ_r | apply wblk | apply blkQ_n | apply blkQ_r | apply wskip | apply wexit)
 | fail)
    exact endG (X' := .c (.row 2 0 (i.toNat - Int.toNat 0 + (↑l.length + ↑[x].length - i).toNat))) (hs' := [none, none, ow 97 (ins l i x)]) [0, 1, 2] rfl rfl rfl rfl rfl rfl (by rw [show i.toNat - Int.toNat 0 + (↑l.length + ↑[x].length - i).toNat = (ins l i x).length from by rw [ins_len (by omega)]; have : Int.toNat 0 = 0 := rfl; omega]) rfl
  · refine zcpy _ (l.length - i.toNat) rfl tk rfl rfl rfl rfl rfl rfl rfl rfl rfl rfl ⟨by show min _ _ = _; omega, by omega, by omega, by omega⟩ (ins_c1 (x := x) ⟨by omega, by omega⟩) rfl rfl rfl ?_
    repeat' (first
 | (with_reducible apply zds); exact tk; rfl; rfl; rfl; rfl; rfl
 | (with_reducible apply zd); rfl; exact tk; rfl
 | (with_reducible first | intro _ | apply wseq | apply zreg | apply thenQ_n | apply thenQ_r | apply thenQ_e | apply znil | apply wret | apply bodyQ_r | apply wblk | apply blkQ_n | apply blkQ_r | apply wskip | apply wexit)
 | (with_reducible apply zslr); rfl; exact tk; (iterate 8 rfl); omega; rfl; rfl
 | fail)
    refine zcpy (ins l i x) 1 rfl tk rfl rfl rfl rfl rfl rfl rfl rfl rfl rfl ⟨by show min [x].length _ = 1; omega, by omega, by simp only [List.length_append, List.length_take, List.length_drop]; omega, by omega⟩ (ins_c2 ⟨by omega, by omega⟩) rfl rfl rfl ?_
    repeat' (first
 | (with_reducible apply zds); exact tk; rfl; rfl; rfl; rfl; rfl
 | (with_reducible first | intro _ | apply wseq | apply zreg | apply thenQ_n | apply thenQ_r | apply thenQ_e | apply znil | apply wret | apply bodyQ_r | apply wblk | apply blkQ_n | apply blkQ_r | apply wskip | apply wexit)
 | fail)
    exact endG (X' := .c (.row 2 0 (↑l.length + ↑[x].length : Int).toNat)) (hs' := [none, none, ow 97 (ins l i x)]) [0, 1, 0] rfl rfl rfl rfl rfl rfl (by rw [show (↑l.length + ↑[x].length : Int).toNat = (ins l i x).length from by rw [ins_len (by omega)]; omega]) rfl
set_option maxHeartbeats 4000000 in
theorem slices_Insert_Leg {l : List Leg} {i : Int} {x : Leg} (hi : 0 ≤ i ∧ i ≤ l.length) (hl : l.length ≤ 4194304) : FC Tryz.prog 168 [.c (.row 0 0 l.length), I i, .c (.row 1 0 [x].length)] ([ow 117 l, ow 117 [x]]) (.c (.row 2 0 (ins l i x).length)) ([none, none, ow 117 (ins l i x)]) := by
  refine fent tk 95 [.tmp 6] Tryz.func168 (by kernel_rfl) rfl rfl rfl rfl rfl rfl rfl ?_
  have h1 : [x].length = 1 := rfl
  repeat' (first
 | (with_reducible apply zds); exact tk; rfl; rfl; rfl; rfl; rfl
 | (with_reducible apply zd); rfl; exact tk; rfl
 | (with_reducible apply zovl (t := 47) (tR := 4)); rfl; exact tk; rfl; exact fun args w => run_callFunc_extern Tryz.func226 (by kernel_rfl) (by kernel_rfl) (by kernel_rfl) (e := Extern.SlicesOverlaps.overlaps #[47, 47] #[4]) (by kernel_rfl) args w; (iterate 8 rfl); (refine ⟨by decide, by omega, by omega⟩); rfl; rfl
 | (with_reducible apply zappz (α := Leg) 30); rfl; exact tk; (iterate 13 rfl); (refine ⟨by omega, by omega, by dsimp only; omega, by omega⟩); rfl; rfl; rfl
 | (with_reducible apply zslc 30); rfl; exact tk; (iterate 7 rfl); omega; rfl; rfl
 | (with_reducible first | intro _ | apply wseq | apply zreg | apply thenQ_n | apply thenQ_r | apply thenQ_e | apply znil | apply wret | apply bodyQ_r | apply wblk | apply blkQ_n | apply blkQ_r | apply wskip | apply wexit)
 | apply wct rfl
 | apply wcf rfl
 | (with_reducible apply zcmp); rfl; exact tk; rfl; rfl; rfl
 | (with_reducible apply zar); rfl; rfl; rfl; rfl; (first | omega | ((try simp only [List.length_append, List.length_cons, List.length_nil, List.length_map]); (try dsimp only); omega)); rfl; rfl
 | (with_reducible apply zap); rfl; exact tk; (iterate 10 rfl); (first | omega | ((try simp only [List.length_append, List.length_cons, List.length_nil, List.length_map]); (try dsimp only); omega)); rfl; rfl; rfl; rfl; rfl
 | (with_reducible apply zcap); rfl; exact tk; (iterate 7 rfl)
 | (with_reducible apply zcpg); rfl; rfl; rfl; rfl; rfl
 | refine zdq (id := 15) rfl (by kernel_rfl) [(.p, 0), (.p, 1), (.p, 2), (.p, 3), (.p, 4), (.p, 5), (.p, 6), (.p, 7), (.l, 8)] [8] (by kernel_rfl) rfl ?_
 | (with_reducible apply zslr); rfl; exact tk; (iterate 8 rfl); omega; rfl; rfl
 | fail)
  all_goals first | (exfalso; simp only [List.length_cons, List.length_nil] at *; omega) | skip
  · exact endG (X' := .c (.row 2 0 (l ++ [x]).length)) (hs' := [none, none, ow 117 (l ++ [x])]) [0, 1, 2] rfl rfl rfl rfl rfl rfl (by rw [ins_end (by assumption)]) (by rw [ins_end (by assumption)])
  · refine zcpy _ 1 rfl tk rfl rfl rfl rfl rfl rfl rfl rfl rfl rfl ⟨by show min [x].length _ = 1; have : Int.toNat 0 = 0 := rfl; omega, by omega, by simp only [List.length_append, List.length_take, List.length_replicate]; have : Int.toNat 0 = 0 := rfl; omega, by omega⟩ (ins_g1 ⟨by omega, by omega⟩ (by omega)) rfl rfl rfl ?_
    repeat' (first
 | (with_reducible apply zds); exact tk; rfl; rfl; rfl; rfl; rfl
 | (with_reducible first | intro _ | apply wseq | apply zreg | apply thenQ_n | apply thenQ_r | apply thenQ_e | apply znil | apply wret | apply bodyQ_r | apply wblk | apply blkQ_n | apply blkQ_r | apply wskip | apply wexit)
 | (with_reducible apply zar); rfl; rfl; rfl; rfl; (first | omega | ((try simp only [List.length_append, List.length_cons, List.length_nil, List.length_map]); (try dsimp only); omega)); rfl; rfl
 | refine zdq (id := 11) rfl (by kernel_rfl) [(.p, 0), (.p, 1), (.p, 2), (.p, 3), (.p, 4), (.p, 5), (.p, 6), (.p, 7), (.l, 8)] [8] (by kernel_rfl) rfl ?_
 | (with_reducible apply zslr); rfl; exact tk; (iterate 8 rfl); omega; rfl; rfl
 | fail)
    refine zcpy (ins l i x) (l.length - i.toNat) rfl tk rfl rfl rfl rfl rfl rfl rfl rfl rfl rfl ⟨by show min _ _ = _; have : Int.toNat 0 = 0 := rfl; omega, by omega, by simp only [List.length_append, List.length_take, List.length_cons, List.length_nil, List.length_replicate]; omega, by omega⟩ (ins_g2 ⟨by omega, by omega⟩) rfl rfl rfl ?_
    repeat' (first
 | (with_reducible apply zds); exact tk; rfl; rfl; rfl; rfl; rfl
 | (with_reducible first | intro _ | apply wseq | apply zreg | apply thenQ_n | apply thenQ_r | apply thenQ_e | apply znil | apply wret | apply bodyQ_r | apply wblk | apply blkQ_n | apply blkQ_r | apply wskip | apply wexit)
 | fail)
    exact endG (X' := .c (.row 2 0 (i.toNat - Int.toNat 0 + (↑l.length + ↑[x].length - i).toNat))) (hs' := [none, none, ow 117 (ins l i x)]) [0, 1, 2] rfl rfl rfl rfl rfl rfl (by rw [show i.toNat - Int.toNat 0 + (↑l.length + ↑[x].length - i).toNat = (ins l i x).length from by rw [ins_len (by omega)]; have : Int.toNat 0 = 0 := rfl; omega]) rfl
  · refine zcpy _ (l.length - i.toNat) rfl tk rfl rfl rfl rfl rfl rfl rfl rfl rfl rfl ⟨by show min _ _ = _; omega, by omega, by omega, by omega⟩ (ins_c1 (x := x) ⟨by omega, by omega⟩) rfl rfl rfl ?_
    repeat' (first
 | (with_reducible apply zds); exact tk; rfl; rfl; rfl; rfl; rfl
 | (with_reducible apply zd); rfl; exact tk; rfl
 | (with_reducible first | intro _ | apply wseq | apply zreg | apply thenQ_n | apply thenQ_r | apply thenQ_e | apply znil | apply wret | apply bodyQ_r | apply wblk | apply blkQ_n | apply blkQ_r | apply wskip | apply wexit)
 | (with_reducible apply zslr); rfl; exact tk; (iterate 8 rfl); omega; rfl; rfl
 | fail)
    refine zcpy (ins l i x) 1 rfl tk rfl rfl rfl rfl rfl rfl rfl rfl rfl rfl ⟨by show min [x].length _ = 1; omega, by omega, by simp only [List.length_append, List.length_take, List.length_drop]; omega, by omega⟩ (ins_c2 ⟨by omega, by omega⟩) rfl rfl rfl ?_
    repeat' (first
 | (with_reducible apply zds); exact tk; rfl; rfl; rfl; rfl; rfl
 | (with_reducible first | intro _ | apply wseq | apply zreg | apply thenQ_n | apply thenQ_r | apply thenQ_e | apply znil | apply wret | apply bodyQ_r | apply wblk | apply blkQ_n | apply blkQ_r | apply wskip | apply wexit)
 | fail)
    exact endG (X' := .c (.row 2 0 (↑l.length + ↑[x].length : Int).toNat)) (hs' := [none, none, ow 117 (ins l i x)]) [0, 1, 0] rfl rfl rfl rfl rfl rfl (by rw [show (↑l.length + ↑[x].length : Int).toNat = (ins l i x).length from by rw [ins_len (by omega)]; omega]) rfl
set_option maxHeartbeats 4000000 in
theorem slices_Insert_Lot {l : List Lot} {i : Int} {x : Lot} (hi : 0 ≤ i ∧ i ≤ l.length) (hl : l.length ≤ 4194304) : FC Tryz.prog 247 [.c (.row 0 0 l.length), I i, .c (.row 1 0 [x].length)] ([ow 99 l, ow 99 [x]]) (.c (.row 2 0 (ins l i x).length)) ([none, none, ow 99 (ins l i x)]) := by
  refine fent tk 95 [.tmp 6] Tryz.func247 (by kernel_rfl) rfl rfl rfl rfl rfl rfl rfl ?_
  have h1 : [x].length = 1 := rfl
  repeat' (first
 | (with_reducible apply zds); exact tk; rfl; rfl; rfl; rfl; rfl
 | (with_reducible apply zd); rfl; exact tk; rfl
 | (with_reducible apply zovl (t := 36) (tR := 4)); rfl; exact tk; rfl; exact fun args w => run_callFunc_extern Tryz.func275 (by kernel_rfl) (by kernel_rfl) (by kernel_rfl) (e := Extern.SlicesOverlaps.overlaps #[36, 36] #[4]) (by kernel_rfl) args w; (iterate 8 rfl); (refine ⟨by decide, by omega, by omega⟩); rfl; rfl
 | (with_reducible apply zappz (α := Lot) 30); rfl; exact tk; (iterate 13 rfl); (refine ⟨by omega, by omega, by dsimp only; omega, by omega⟩); rfl; rfl; rfl
 | (with_reducible apply zslc 30); rfl; exact tk; (iterate 7 rfl); omega; rfl; rfl
 | (with_reducible first | intro _ | apply wseq | apply zreg | apply thenQ_n | apply thenQ_r | apply thenQ_e | apply znil | apply wret | apply bodyQ_r | apply wblk | apply blkQ_n | apply blkQ_r | apply wskip | apply wexit)
 | apply wct rfl
 | apply wcf rfl
 | (with_reducible apply zcmp); rfl; exact tk; rfl; rfl; rfl
 | (with_reducible apply zar); rfl; rfl; rfl; rfl; (first | omega | ((try simp only [List.length_append, List.length_cons, List.length_nil, List.length_map]); (try dsimp only); omega)); rfl; rfl
 | (with_reducible apply zap); rfl; exact tk; (iterate 10 rfl); (first | omega | ((try simp only [List.length_append, List.length_cons, List.length_nil, List.length_map]); (try dsimp only); omega)); rfl; rfl; rfl; rfl; rfl
 | (with_reducible apply zcap); rfl; exact tk; (iterate 7 rfl)
 | (with_reducible apply zcpg); rfl; rfl; rfl; rfl; rfl
 | refine zdq (id := 15) rfl (by kernel_rfl) [(.p, 0), (.p, 1), (.p, 2), (.p, 3), (.p, 4), (.p, 5), (.p, 6), (.p, 7), (.l, 8)] [8] (by kernel_rfl) rfl ?_
 | (with_reducible apply zslr); rfl; exact tk; (iterate 8 rfl); omega; rfl; rfl
 | fail)
  all_goals first | (exfalso; simp only [List.length_cons, List.length_nil] at *; omega) | skip
  · exact endG (X' := .c (.row 2 0 (l ++ [x]).length)) (hs' := [none, none, ow 99 (l ++ [x])]) [0, 1, 2] rfl rfl rfl rfl rfl rfl (by rw [ins_end (by assumption)]) (by rw [ins_end (by assumption)])
  · refine zcpy _ 1 rfl tk rfl rfl rfl rfl rfl rfl rfl rfl rfl rfl ⟨by show min [x].length _ = 1; have : Int.toNat 0 = 0 := rfl; omega, by omega, by simp only [List.length_append, List.length_take, List.length_replicate]; have : Int.toNat 0 = 0 := rfl; omega, by omega⟩ (ins_g1 ⟨by omega, by omega⟩ (by omega)) rfl rfl rfl ?_
    repeat' (first
 | (with_reducible apply zds); exact tk; rfl; rfl; rfl; rfl; rfl
 | (with_reducible first | intro _ | apply wseq | apply zreg | apply thenQ_n | apply thenQ_r | apply thenQ_e | apply znil | apply wret | apply bodyQ_r | apply wblk | apply blkQ_n | apply blkQ_r | apply wskip | apply wexit)
 | (with_reducible apply zar); rfl; rfl; rfl; rfl; (first | omega | ((try simp only [List.length_append, List.length_cons, List.length_nil, List.length_map]); (try dsimp only); omega)); rfl; rfl
 | refine zdq (id := 11) rfl (by kernel_rfl) [(.p, 0), (.p, 1), (.p, 2), (.p, 3), (.p, 4), (.p, 5), (.p, 6), (.p, 7), (.l, 8)] [8] (by kernel_rfl) rfl ?_
 | (with_reducible apply zslr); rfl; exact tk; (iterate 8 rfl); omega; rfl; rfl
 | fail)
    refine zcpy (ins l i x) (l.length - i.toNat) rfl tk rfl rfl rfl rfl rfl rfl rfl rfl rfl rfl ⟨by show min _ _ = _; have : Int.toNat 0 = 0 := rfl; omega, by omega, by simp only [List.length_append, List.length_take, List.length_cons, List.length_nil, List.length_replicate]; omega, by omega⟩ (ins_g2 ⟨by omega, by omega⟩) rfl rfl rfl ?_
    repeat' (first
 | (with_reducible apply zds); exact tk; rfl; rfl; rfl; rfl; rfl
 | (with_reducible first | intro _ | apply wseq | apply zreg | apply thenQ_n | apply thenQ_r | apply thenQ_e | apply znil | apply wret | apply bodyQ_r | apply wblk | apply blkQ_n | apply blkQ_r | apply wskip | apply wexit)
 | fail)
    exact endG (X' := .c (.row 2 0 (i.toNat - Int.toNat 0 + (↑l.length + ↑[x].length - i).toNat))) (hs' := [none, none, ow 99 (ins l i x)]) [0, 1, 2] rfl rfl rfl rfl rfl rfl (by rw [show i.toNat - Int.toNat 0 + (↑l.length + ↑[x].length - i).toNat = (ins l i x).length from by rw [ins_len (by omega)]; have : Int.toNat 0 = 0 := rfl; omega]) rfl
  · refine zcpy _ (l.length - i.toNat) rfl tk rfl rfl rfl rfl rfl rfl rfl rfl rfl rfl ⟨by show min _ _ = _; omega, by omega, by omega, by omega⟩ (ins_c1 (x := x) ⟨by omega, by omega⟩) rfl rfl rfl ?_
    repeat' (first
 | (with_reducible apply zds); exact tk; rfl; rfl; rfl; rfl; rfl
 | (with_reducible apply zd); rfl; exact tk; rfl
 | (with_reducible first | intro _ | apply wseq | apply zreg | apply thenQ_n | apply thenQ_r | apply thenQ_e | apply znil | apply wret | apply bodyQ_r | apply wblk | apply blkQ_n | apply blkQ_r | apply wskip | apply wexit)
 | (with_reducible apply zslr); rfl; exact tk; (iterate 8 rfl); omega; rfl; rfl
 | fail)
    refine zcpy (ins l i x) 1 rfl tk rfl rfl rfl rfl rfl rfl rfl rfl rfl rfl ⟨by show min [x].length _ = 1; omega, by omega, by simp only [List.length_append, List.length_take, List.length_drop]; omega, by omega⟩ (ins_c2 ⟨by omega, by omega⟩) rfl rfl rfl ?_
    repeat' (first
 | (with_reducible apply zds); exact tk; rfl; rfl; rfl; rfl; rfl
 | (with_reducible first | intro _ | apply wseq | apply zreg | apply thenQ_n | apply thenQ_r | apply thenQ_e | apply znil | apply wret | apply bodyQ_r | apply wblk | apply blkQ_n | apply blkQ_r | apply wskip | apply wexit)
 | fail)
    exact endG (X' := .c (.row 2 0 (↑l.length + ↑[x].length : Int).toNat)) (hs' := [none, none, ow 99 (ins l i x)]) [0, 1, 0] rfl rfl rfl rfl rfl rfl (by rw [show (↑l.length + ↑[x].length : Int).toNat = (ins l i x).length from by rw [ins_len (by omega)]; omega]) rfl
set_option maxHeartbeats 4000000 in
theorem slices_Delete_Bal {l : List Bal} {i : Int} (hi : 0 ≤ i ∧ i < l.length) (hl : l.length ≤ 4194304) : FC Tryz.prog 268 [.c (.row 0 0 l.length), I i, I (i + 1)] ([ow 97 l]) (.c (.row 0 0 (del l i).length)) ([ow 97 (del l i)]) := by
  refine fent tk 33 [.tmp 6] Tryz.func268 (by kernel_rfl) rfl rfl rfl rfl rfl rfl rfl ?_
  repeat' (first
 | (with_reducible apply zds); exact tk; rfl; rfl; rfl; rfl; rfl
 | (with_reducible apply zd); rfl; exact tk; rfl
 | (with_reducible first | intro _ | apply wseq | apply zreg | apply thenQ_n | apply thenQ_r | apply thenQ_e | apply znil | apply wret | apply bodyQ_r | apply wblk | apply blkQ_n | apply blkQ_r | apply wskip | apply wexit)
 | apply wct rfl
 | apply wcf rfl
 | (with_reducible apply zeq); rfl; exact tk; rfl; rfl; rfl; rfl
 | (with_reducible apply zsl3); rfl; exact tk; (iterate 7 rfl); omega; rfl; rfl
 | refine zdq (id := 5) rfl (by kernel_rfl) [(.p, 0), (.p, 1), (.p, 2), (.p, 3), (.p, 4), (.p, 5), (.l, 6), (.p, 7)] [6] (by kernel_rfl) rfl ?_
 | (with_reducible apply zslr); rfl; exact tk; (iterate 8 rfl); omega; rfl; rfl
 | fail)
  all_goals first | (exfalso; omega) | skip
  obtain ⟨zs, hz⟩ : ∃ zs, l.take i.toNat ++ (l.drop (i + 1).toNat).take (l.length - (i + 1).toNat) ++ l.drop (i.toNat + (l.length - (i + 1).toNat)) = zs := ⟨_, rfl⟩
  have hzl : zs.length = l.length := by rw [← hz]; simp only [List.length_append, List.length_take, List.length_drop]; omega
  have h0 : Int.toNat 0 = 0 := rfl
  refine zapi zs rfl tk rfl rfl rfl rfl rfl rfl rfl rfl ⟨by omega, by omega⟩ hz rfl rfl rfl ?_
  repeat' (first
 | (with_reducible apply zds); exact tk; rfl; rfl; rfl; rfl; rfl
 | (with_reducible apply zd); rfl; exact tk; rfl
 | (with_reducible first | intro _ | apply wseq | apply zreg | apply thenQ_n | apply thenQ_r | apply thenQ_e | apply znil | apply wret | apply bodyQ_r | apply wblk | apply blkQ_n | apply blkQ_r | apply wskip | apply wexit)
 | (with_reducible apply zslx); rfl; exact tk; (iterate 8 rfl); (simp only [List.length_map] at *; omega); rfl; rfl
 | fail)
  refine zclr rfl tk rfl rfl rfl rfl rfl rfl rfl (by omega) rfl rfl ?_
  repeat' (first
 | (with_reducible apply zds); exact tk; rfl; rfl; rfl; rfl; rfl
 | (with_reducible first | intro _ | apply wseq | apply zreg | apply thenQ_n | apply thenQ_r | apply thenQ_e | apply znil | apply wret | apply bodyQ_r | apply wblk | apply blkQ_n | apply blkQ_r | apply wskip | apply wexit)
 | fail)
  exact endG (X' := .c (.row 0 0 (i.toNat - Int.toNat 0 + ((↑l.length : Int).toNat - (i + 1).toNat)))) (hs' := [ow 97 (zs.take (i.toNat + (l.length - (i + 1).toNat)))]) [0] rfl rfl rfl rfl rfl rfl (by rw [show i.toNat - Int.toNat 0 + ((↑l.length : Int).toNat - (i + 1).toNat) = (del l i).length from by rw [del_len (by omega)]; omega]) (by rw [← hz, del_c (by omega)])
end Go.Proofs.YtnlajjoheegbiaaGreat.Sh
