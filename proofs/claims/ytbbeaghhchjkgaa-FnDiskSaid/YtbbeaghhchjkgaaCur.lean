/- Draws: what a cursor gives. No condition. -/
import Derived.Test.YtbbeaghhchjkgaaSepC
import Derived.Test.YtbbeaghhchjkgaaDkMovS
namespace Go.Proofs.Ytbbeaghhchjkgaa.Cu
open Go.RowKit Go.Proofs.YtbbeaghhchjkgaaW Go.Proofs.YtbbeaghhchjkgaaW.PrintWords Go.Proofs.Ytbbeaghhchjkgaa.Sp Go.Proofs.Ytbbeaghhchjkgaa.Ty
set_option linter.unusedVariables false
set_option linter.unusedSimpArgs false
attribute [local go_sem ↓] Go.wp_at_zero Go.wp_at_succ
attribute [local go_sem] World.cell?_alloc_lt
theorem and255 (x : Int) : 0 ≤ bits .and .i64 x 255 ∧ bits .and .i64 x 255 ≤ 255 := by
  have h2 : (BitVec.ofInt 64 255).toNat = 255 := by decide
  have h3 := @Nat.and_le_right (BitVec.ofInt 64 x).toNat 255
  have h : bits .and .i64 x 255 = IntKind.i64.wrap ((BitVec.ofInt 64 x &&& BitVec.ofInt 64 255).toNat : Int) := rfl
  rw [h, BitVec.toNat_and, h2, IntKind.wrap_i64]
  omega
theorem atByte {w : World} {A : Option Addr} {n : Nat} {xs : List Int} (h : Kd.C (Kd.int .u8) w A n xs) (k : Nat) (hk : k < n) : ∃ ad, A = some ad ∧ w.cell? (ad.add k) = some (.int .u8 (xs.getD k 0)) := by
  obtain ⟨ad, c, e, _, hK, hc0⟩ := Kd.C_get h 0 (k : Int) (by omega) (by omega)
  rw [Int.toNat_natCast] at hK hc0
  have hc : ∀ j u, c[j]? = some u → w.cell? (ad.add (k * 1 + j)) = some u := hc0
  obtain rfl := (flatInt .u8).op _ _ _ hK
  have := hc 0 _ rfl
  rw [Nat.mul_one, Nat.add_zero] at this
  exact ⟨ad, e, this⟩
set_option maxRecDepth 100000 in
set_option maxHeartbeats 1000000 in
theorem cur_Byte (w0 w : World) (M : List Ob) (g cp : Nat) (A : Option Addr) (bs : List Int) (hs : Sep w0 w (Ob.cur g A bs.length cp :: M)) (hC : Kd.C (Kd.int .u8) w0 A bs.length bs) :
    Calls Try.prog 96 #[.pointer (some ⟨g, 0, none⟩)] w fun e w' => ∃ x : Int, e = .returned (.int .i64 x) ∧ (0 ≤ x ∧ x ≤ 255) ∧ Sep w0 w' (Ob.cur g A bs.length cp :: M) := by
  obtain ⟨i, h, hi, hs⟩ := hs.openCur
  have HS := Aside0.mk hs
  have HC := Aside0.mk hC
  have hm := Kd.C_max hC
  have F := HS.out.facts
  simp only [facts_cons, facts_nil, fact_box, fact_row, fact_gone, cellsAt_cons, cellsAt_nil, Nat.zero_add, Nat.reduceAdd, true_and, and_true] at F
  have hu := Try.underlying118
  clear hs hC
  go_enter Try.func96, Try.ntmps96
  by_cases hlt : i < (bs.length : Int)
  · obtain ⟨j, hj⟩ := Int.eq_ofNat_of_zero_le hi
    subst hj
    have p1 : j < bs.length := by omega
    have c1 : decide ((j : Int) < (bs.length : Int)) = true := decide_eq_true hlt
    have c2 : decide (j < bs.length) = true := decide_eq_true p1
    go_wp2
    have hs := HS.out.set 0 rfl 2 (.int .i64 (wrap64 (wrap64 (h * 6364136223846793005) + 1442695040888963407)))
    simp only [List.set_cons_zero, List.setIfInBounds_toArray, List.set_cons_succ] at hs
    generalize wrap64 (wrap64 (h * 6364136223846793005) + 1442695040888963407) = h2 at hs ⊢
    generalize w.setCell _ _ = w2 at hs ⊢
    replace HS := Aside0.mk hs
    clear hs
    (try simp only [List.cons_append, List.nil_append, List.set_cons_zero, List.set_cons_succ, size_al, size_set] at HS); replace F := HS.out.facts; simp only [facts_cons, facts_nil, fact_box, fact_row, fact_gone, cellsAt_cons, cellsAt_nil, Nat.zero_add, Nat.reduceAdd, true_and, and_true] at F
    go_quiet (fail)
    replace HS := Aside0.mk (HS.out.drewN nq)
    generalize hW_ : w2.drewN nq = w3 at HS ⊢
    clear hW_
    (try simp only [List.cons_append, List.nil_append, List.set_cons_zero, List.set_cons_succ, size_al, size_set] at HS); replace F := HS.out.facts; simp only [facts_cons, facts_nil, fact_box, fact_row, fact_gone, cellsAt_cons, cellsAt_nil, Nat.zero_add, Nat.reduceAdd, true_and, and_true] at F
    obtain ⟨b0, b1⟩ := and255 (bits BinOp.xor IntKind.i64 (h2 / 8589934592) (h2 / 35184372088832))
    generalize bits BinOp.and IntKind.i64 (bits BinOp.xor IntKind.i64 (h2 / 8589934592) (h2 / 35184372088832)) 255 = x at b0 b1 ⊢
    go_wp2
    go_quiet (fail)
    replace HS := Aside0.mk (HS.out.drewN nq)
    generalize hW_ : w3.drewN nq = w4 at HS ⊢
    clear hW_
    (try simp only [List.cons_append, List.nil_append, List.set_cons_zero, List.set_cons_succ, size_al, size_set] at HS); replace F := HS.out.facts; simp only [facts_cons, facts_nil, fact_box, fact_row, fact_gone, cellsAt_cons, cellsAt_nil, Nat.zero_add, Nat.reduceAdd, true_and, and_true] at F
    obtain ⟨ad, rfl, x0⟩ := atByte (Kd.C_below HC.out HS.out.old) j p1
    go_wp2
    go_quiet (fail)
    replace HS := Aside0.mk (HS.out.drewN nq)
    generalize hW_ : w4.drewN nq = w5 at HS ⊢
    clear hW_ x0
    (try simp only [List.cons_append, List.nil_append, List.set_cons_zero, List.set_cons_succ, size_al, size_set] at HS); replace F := HS.out.facts; simp only [facts_cons, facts_nil, fact_box, fact_row, fact_gone, cellsAt_cons, cellsAt_nil, Nat.zero_add, Nat.reduceAdd, true_and, and_true] at F
    go_wp2
    go_ret
    have hj1 : wrap64 ((j : Int) + 1) = (j : Int) + 1 := by unfold wrap64; omega
    refine ⟨_, rfl, and255 _, ?_⟩
    have hs := HS.out.set 0 rfl 1 (.int .i64 ((j : Int) + 1))
    simp only [List.set_cons_zero, List.setIfInBounds_toArray, List.set_cons_succ] at hs
    exact hs.closeCur (by omega)
  · have c1 : decide (i < (bs.length : Int)) = false := decide_eq_false hlt
    go_wp2
    have hs := HS.out.set 0 rfl 2 (.int .i64 (wrap64 (wrap64 (h * 6364136223846793005) + 1442695040888963407)))
    simp only [List.set_cons_zero, List.setIfInBounds_toArray, List.set_cons_succ] at hs
    generalize wrap64 (wrap64 (h * 6364136223846793005) + 1442695040888963407) = h2 at hs ⊢
    generalize w.setCell _ _ = w2 at hs ⊢
    replace HS := Aside0.mk hs
    clear hs
    (try simp only [List.cons_append, List.nil_append, List.set_cons_zero, List.set_cons_succ, size_al, size_set] at HS); replace F := HS.out.facts; simp only [facts_cons, facts_nil, fact_box, fact_row, fact_gone, cellsAt_cons, cellsAt_nil, Nat.zero_add, Nat.reduceAdd, true_and, and_true] at F
    go_quiet (fail)
    replace HS := Aside0.mk (HS.out.drewN nq)
    generalize hW_ : w2.drewN nq = w3 at HS ⊢
    clear hW_
    (try simp only [List.cons_append, List.nil_append, List.set_cons_zero, List.set_cons_succ, size_al, size_set] at HS); replace F := HS.out.facts; simp only [facts_cons, facts_nil, fact_box, fact_row, fact_gone, cellsAt_cons, cellsAt_nil, Nat.zero_add, Nat.reduceAdd, true_and, and_true] at F
    obtain ⟨b0, b1⟩ := and255 (bits BinOp.xor IntKind.i64 (h2 / 8589934592) (h2 / 35184372088832))
    generalize bits BinOp.and IntKind.i64 (bits BinOp.xor IntKind.i64 (h2 / 8589934592) (h2 / 35184372088832)) 255 = x at b0 b1 ⊢
    go_wp2
    go_quiet (fail)
    replace HS := Aside0.mk (HS.out.drewN nq)
    generalize hW_ : w3.drewN nq = w4 at HS ⊢
    clear hW_
    (try simp only [List.cons_append, List.nil_append, List.set_cons_zero, List.set_cons_succ, size_al, size_set] at HS); replace F := HS.out.facts; simp only [facts_cons, facts_nil, fact_box, fact_row, fact_gone, cellsAt_cons, cellsAt_nil, Nat.zero_add, Nat.reduceAdd, true_and, and_true] at F
    go_wp2
    go_ret
    exact ⟨x, rfl, ⟨b0, b1⟩, HS.out.closeCur hi⟩
end Go.Proofs.Ytbbeaghhchjkgaa.Cu
