/- slices.Clone, slices.Insert, slices.Delete. No condition. -/
import Derived.Test.YtnlajjoheegbiaaShU
namespace Go.Proofs.Ytnlajjoheegbiaa.Sh
open Go.RowKit
set_option linter.unusedVariables false
set_option linter.unusedSimpArgs false
def ins {α : Type} (l : List α) (i : Int) (x : α) : List α := l.take i.toNat ++ x :: l.drop i.toNat
def del {α : Type} (l : List α) (i : Int) : List α := l.take i.toNat ++ l.drop (i.toNat + 1)
theorem ins_len {α : Type} {l : List α} {i : Int} {x : α} (h : 0 ≤ i ∧ i ≤ l.length) : (ins l i x).length = l.length + 1 := by
  simp only [ins, List.length_append, List.length_cons, List.length_take, List.length_drop]
  omega
theorem del_len {α : Type} {l : List α} {i : Int} (h : 0 ≤ i ∧ i < l.length) : (del l i).length = l.length - 1 := by
  simp only [del, List.length_append, List.length_take, List.length_drop]
  omega
theorem ins_end {α : Type} {l : List α} {i : Int} {x : α} (h : i = l.length) : ins l i x = l ++ [x] := by
  subst h
  simp [ins]
theorem ins_c1 {α : Type} {l : List α} {i : Int} {x : α} (h : 0 ≤ i ∧ i < l.length) : l.take (i + 1).toNat ++ (l.drop i.toNat).take (l.length - i.toNat) ++ l.drop ((i + 1).toNat + (l.length - i.toNat)) = l.take (i.toNat + 1) ++ l.drop i.toNat := by
  have e1 : (l.drop i.toNat).take (l.length - i.toNat) = l.drop i.toNat := List.take_of_length_le (by rw [List.length_drop]; omega)
  have e2 : l.drop ((i + 1).toNat + (l.length - i.toNat)) = [] := List.drop_eq_nil_of_le (by omega)
  rw [e1, e2, List.append_nil, show (i + 1).toNat = i.toNat + 1 from by omega]
theorem ins_c2 {α : Type} {l : List α} {i : Int} {x : α} (h : 0 ≤ i ∧ i < l.length) : (l.take (i.toNat + 1) ++ l.drop i.toNat).take i.toNat ++ ([x].drop 0).take 1 ++ (l.take (i.toNat + 1) ++ l.drop i.toNat).drop (i.toNat + 1) = ins l i x := by
  have h1 : (l.take (i.toNat + 1)).length = i.toNat + 1 := by rw [List.length_take]; omega
  have e1 : (l.take (i.toNat + 1) ++ l.drop i.toNat).take i.toNat = l.take i.toNat := by
    rw [List.take_append_of_le_length (by omega), List.take_take, Nat.min_eq_left (by omega)]
  have e2 : (l.take (i.toNat + 1) ++ l.drop i.toNat).drop (i.toNat + 1) = l.drop i.toNat := by
    have := List.drop_left (l₁ := l.take (i.toNat + 1)) (l₂ := l.drop i.toNat)
    rwa [h1] at this
  rw [e1, e2]
  simp [ins]
theorem ins_g1 {α : Type} {l : List α} {i : Int} {x z : α} {m : Nat} (h : 0 ≤ i ∧ i < l.length) (hm : m = l.length + 1 - i.toNat) : (l.take i.toNat ++ List.replicate m z).take i.toNat ++ ([x].drop 0).take 1 ++ (l.take i.toNat ++ List.replicate m z).drop (i.toNat + 1) = l.take i.toNat ++ x :: List.replicate (l.length - i.toNat) z := by
  have h1 : (l.take i.toNat).length = i.toNat := by rw [List.length_take]; omega
  have h2 : (l.take i.toNat ++ List.replicate m z).take i.toNat = l.take i.toNat := by
    have := List.take_left (l₁ := l.take i.toNat) (l₂ := List.replicate m z)
    rwa [h1] at this
  have h3 : (l.take i.toNat ++ List.replicate m z).drop (i.toNat + 1) = List.replicate (l.length - i.toNat) z := by
    rw [← List.drop_drop, show (l.take i.toNat ++ List.replicate m z).drop i.toNat = List.replicate m z from by
      have := List.drop_left (l₁ := l.take i.toNat) (l₂ := List.replicate m z)
      rwa [h1] at this, List.drop_replicate]
    congr 1
    omega
  rw [h2, h3]
  simp
theorem ins_g2 {α : Type} {l : List α} {i : Int} {x z : α} (h : 0 ≤ i ∧ i < l.length) : (l.take i.toNat ++ x :: List.replicate (l.length - i.toNat) z).take (i + 1).toNat ++ (l.drop i.toNat).take (l.length - i.toNat) ++ (l.take i.toNat ++ x :: List.replicate (l.length - i.toNat) z).drop ((i + 1).toNat + (l.length - i.toNat)) = ins l i x := by
  have h1 : (l.take i.toNat).length = i.toNat := by rw [List.length_take]; omega
  have h2 : (l.take i.toNat ++ x :: List.replicate (l.length - i.toNat) z).take (i + 1).toNat = l.take i.toNat ++ [x] := by
    have := List.take_left (l₁ := l.take i.toNat ++ [x]) (l₂ := List.replicate (l.length - i.toNat) z)
    rw [List.length_append, h1] at this
    rw [show (i + 1).toNat = i.toNat + [x].length from by show _ = i.toNat + 1; omega]
    rw [← this]
    simp
  have e1 : (l.drop i.toNat).take (l.length - i.toNat) = l.drop i.toNat := List.take_of_length_le (by rw [List.length_drop]; omega)
  have e2 : (l.take i.toNat ++ x :: List.replicate (l.length - i.toNat) z).drop ((i + 1).toNat + (l.length - i.toNat)) = [] := List.drop_eq_nil_of_le (by simp only [List.length_append, List.length_cons, List.length_replicate, h1]; omega)
  rw [h2, e1, e2, List.append_nil]
  simp [ins]
theorem del_c {α : Type} {l : List α} {i : Int} (h : 0 ≤ i ∧ i < l.length) : (l.take i.toNat ++ (l.drop (i + 1).toNat).take (l.length - (i + 1).toNat) ++ l.drop (i.toNat + (l.length - (i + 1).toNat))).take (i.toNat + (l.length - (i + 1).toNat)) = del l i := by
  have h1 : (l.take i.toNat).length = i.toNat := by rw [List.length_take]; omega
  have h2 : (l.drop (i + 1).toNat).take (l.length - (i + 1).toNat) = l.drop (i.toNat + 1) := by
    rw [show (i + 1).toNat = i.toNat + 1 from by omega, List.take_of_length_le (by rw [List.length_drop]; omega)]
  have h3 : (l.take i.toNat ++ l.drop (i.toNat + 1)).length = i.toNat + (l.length - (i + 1).toNat) := by
    rw [List.length_append, h1, List.length_drop]
    omega
  rw [h2, ← h3, List.take_left]
  rfl
set_option maxHeartbeats 4000000 in
theorem slices_Clone_Lot {l : List Lot} (hl : l.length ≤ 4194304) : FC Try.prog 126 [.c (.row 0 0 l.length)] ([ro 90 l]) (.c (.row 1 0 l.length)) ([ro 90 l, ow 90 l]) := by
  refine fent tk 8 [.tmp 2] Try.func126 (by kernel_rfl) rfl rfl rfl rfl rfl rfl rfl ?_
  repeat' (first
    | (with_reducible apply zds); exact tk; rfl; rfl; rfl; rfl; rfl
    | (with_reducible apply zd); rfl; exact tk; rfl
    | (with_reducible apply zen); rfl; exact tk; rfl; rfl; rfl; rfl; rfl; rfl; rfl
    | (with_reducible apply znila (d := 2) 90 5); rfl; rfl; rfl
    | (with_reducible first | intro _ | apply wseq | apply zreg | apply thenQ_n | apply thenQ_r | apply thenQ_e | apply znil | apply wret | apply bodyQ_r | apply wblk | apply blkQ_n | apply blkQ_r | apply wskip | apply wexit)
    | apply wct rfl
    | apply wcf rfl
    | (with_reducible apply zeq); rfl; exact tk; rfl; rfl; rfl; rfl
    | (with_reducible apply zlit (α := Lot) (e := 90)); rfl; exact tk; rfl; rfl; rfl; rfl; rfl; rfl; rfl; rfl; rfl; rfl; rfl; rfl; rfl
    | (with_reducible apply zap); rfl; exact tk; rfl; rfl; rfl; rfl; rfl; rfl; rfl; rfl; rfl; rfl; (first | omega | ((try simp only [List.length_append, List.length_cons, List.length_nil, List.length_map]); (try dsimp only); omega)); rfl; rfl; rfl; rfl; rfl
    | fail)
  · rename_i hn
    obtain rfl : l = [] := List.length_eq_zero_iff.1 hn
    exact endV [0, 2] rfl rfl rfl rfl rfl rfl
  · exact endV [0, 3] rfl rfl rfl rfl rfl rfl
end Go.Proofs.Ytnlajjoheegbiaa.Sh
