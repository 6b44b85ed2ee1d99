/- Lots are sorted. No condition. -/
import Derived.Test.YtgehbhkfehmdkaaGreatKSpShSrt
import Derived.Test.YtgehbhkfehmdkaaGreatKSpShLt
import Derived.Shelf.Lay
import Derived.Ground.SlsfProg
import Derived.Tactics
import Derived.Deep.QuietTactic
namespace Go.Proofs.YtgehbhkfehmdkaaGreat.Sh
open Go.RowKit Go.Shelf Go.Sort Go.Lib
set_option linter.unusedVariables false
set_option linter.unusedSimpArgs false
shelf_lay_g SlLaysF0.n6 Slsf 6 at Tryz 323 as laysSortLot
theorem byBoth_calls (a b c d : Int) (W : World) : Calls Tryz.prog 227 #[.int .i64 a, .int .i64 b, .int .i64 c, .int .i64 d] W fun e w' => e = .returned (.int .i64 (byBoth a b c d)) ∧ ∃ q os', w' = grow (W.drewN q) os' := by
  go_enter Tryz.func227, Tryz.ntmps227
  go_wp2
  all_goals
    go_ret
    refine ⟨?_, 0, #[], by rw [grow_empty]; rfl⟩
    (try simp only [beq_iff_eq, beq_eq_false_iff_ne, ne_eq, decide_eq_true_eq, decide_eq_false_iff_not] at *)
    first
    | (rw [show byBoth a b c d = -1 from pick_t (by unfold bef; omega)]; rfl)
    | (rw [show byBoth a b c d = 0 from (pick_f (by unfold bef; omega)).trans (pick_t (by omega))]; rfl)
    | (rw [show byBoth a b c d = 1 from (pick_f (by unfold bef; omega)).trans (pick_f (by omega))]; rfl)
theorem lotCmp_of {x y : Lot} : lotCmp x.Account x.Instr x.No y.Account y.Instr y.No = if byBoth x.Account x.Instr y.Account y.Instr ≠ 0 then byBoth x.Account x.Instr y.Account y.Instr else if x.No < y.No then -1 else if x.No > y.No then 1 else 0 := by
  have h1 := byBoth_lt (a := x.Account) (b := x.Instr) (c := y.Account) (d := y.Instr)
  have h2 := byBoth_eq (a := x.Account) (b := x.Instr) (c := y.Account) (d := y.Instr)
  unfold lotCmp byBoth at *
  by_cases hb : bef x.Account x.Instr y.Account y.Instr
  · rw [pick_t hb, pick_t (p := lbef _ _ _ _ _ _) (.inl hb)]
    rfl
  · rw [pick_f hb]
    by_cases he : x.Account = y.Account ∧ x.Instr = y.Instr
    · rw [pick_t he, if_neg (by decide)]
      by_cases hn : x.No < y.No
      · rw [if_pos hn, pick_t (p := lbef _ _ _ _ _ _) (.inr ⟨he.1, he.2, hn⟩)]
      · rw [if_neg hn, pick_f (p := lbef _ _ _ _ _ _) (by rintro (h | h); exact hb h; omega)]
        by_cases hg : x.No > y.No
        · rw [if_pos hg, pick_f (by omega)]
        · rw [if_neg hg, pick_t ⟨he.1, he.2, by omega⟩]
    · rw [pick_f he, if_pos (by decide), pick_f (p := lbef _ _ _ _ _ _) (by rintro (h | h); exact hb h; exact he ⟨h.1, h.2.1⟩), pick_f (fun h => he ⟨h.1, h.2.1⟩)]
theorem two_heap (W : World) (X Y : Obj) (q : Nat) (os : Array Obj) : (grow (((W.alloc X).alloc Y).drewN q) os).heap = (W.heap.push X).push Y ++ os := rfl
theorem cells_x (W : World) (A B : Array Value) (t u : TypeId) (q : Nat) (os : Array Obj) {j : Nat} {v : Value} (h : A[j]? = some v) : (grow (((W.alloc (.cells A t)).alloc (.cells B u)).drewN q) os).cell? ⟨W.heap.size, j, none⟩ = some v := by
  have e : (grow (((W.alloc (.cells A t)).alloc (.cells B u)).drewN q) os).heap[W.heap.size]? = some (.cells A t) := by
    rw [two_heap]
    simp [Array.getElem?_append, Array.getElem?_push, Array.getElem_push]
    intro h
    omega
  unfold World.cell?
  rw [show (⟨W.heap.size, j, none⟩ : Addr).block = W.heap.size from rfl, e]
  exact h
theorem cells_y (W : World) (A B : Array Value) (t u : TypeId) (q : Nat) (os : Array Obj) {j : Nat} {v : Value} (h : B[j]? = some v) : (grow (((W.alloc (.cells A t)).alloc (.cells B u)).drewN q) os).cell? ⟨W.heap.size + 1, j, none⟩ = some v := by
  have e : (grow (((W.alloc (.cells A t)).alloc (.cells B u)).drewN q) os).heap[W.heap.size + 1]? = some (.cells B u) := by
    rw [two_heap]
    simp [Array.getElem?_append, Array.getElem?_push, Array.getElem_push]
  unfold World.cell?
  rw [show (⟨W.heap.size + 1, j, none⟩ : Addr).block = W.heap.size + 1 from rfl, e]
  exact h
theorem grow_two (W : World) (A B : Obj) (q : Nat) (os : Array Obj) : ∃ q' os', grow (((W.alloc A).alloc B).drewN q) os = grow (W.drewN q') os' := by
  refine ⟨q, #[A, B] ++ os, ?_⟩
  have e : (W.heap.push A).push B ++ os = W.heap ++ (#[A, B] ++ os) := by
    apply Array.ext'
    simp
  show ({ heap := (W.heap.push A).push B ++ os, tape := W.tape, drawn := W.drawn + q, os := W.os, output := W.output } : World) = { heap := W.heap ++ (#[A, B] ++ os), tape := W.tape, drawn := W.drawn + q, os := W.os, output := W.output }
  rw [e]
theorem lotBefore_calls (x y : Lot) (W : World) : Calls Tryz.prog 251 #[.agg #[.int .i64 x.Account, .int .i64 x.Instr, .int .i64 x.No, .int .i64 x.Qty, .int .i64 x.Cost], .agg #[.int .i64 y.Account, .int .i64 y.Instr, .int .i64 y.No, .int .i64 y.Qty, .int .i64 y.Cost]] W fun e w' => e = .returned (.int .i64 (lotCmp x.Account x.Instr x.No y.Account y.Instr y.No)) ∧ ∃ q os', w' = grow (W.drewN q) os' := by
  rw [lotCmp_of]
  have hcon := fun W' => byBoth_calls x.Account x.Instr y.Account y.Instr W'
  generalize byBoth x.Account x.Instr y.Account y.Instr = r at hcon ⊢
  have hx := fun q os => cells_x W #[.int .i64 x.Account, .int .i64 x.Instr, .int .i64 x.No, .int .i64 x.Qty, .int .i64 x.Cost] #[.int .i64 y.Account, .int .i64 y.Instr, .int .i64 y.No, .int .i64 y.Qty, .int .i64 y.Cost] 137 137 q os (j := 2) rfl
  have hy := fun q os => cells_y W #[.int .i64 x.Account, .int .i64 x.Instr, .int .i64 x.No, .int .i64 x.Qty, .int .i64 x.Cost] #[.int .i64 y.Account, .int .i64 y.Instr, .int .i64 y.No, .int .i64 y.Qty, .int .i64 y.Cost] 137 137 q os (j := 2) rfl
  go_enter Tryz.func251, Tryz.ntmps251
  go_wp2_with (go_at_call 227; refine (hcon _).mono ?_; rintro e w' ⟨rfl, q, os, rfl⟩)
  all_goals
    go_ret
    first
    | (exfalso; simp only [bne_iff_ne, ne_eq, bne_eq_false_iff_eq] at *; omega)
    | exact ⟨rfl, grow_two _ _ _ _ _⟩
theorem swoLot : SWO (ltOf fun x y : Lot => lotCmp x.Account x.Instr x.No y.Account y.Instr y.No) where
  irrefl x := by unfold ltOf; rw [decide_eq_false_iff_not, lotCmp_lt]; unfold lbef bef; omega
  trans x y z h1 h2 := by unfold ltOf at *; rw [decide_eq_true_eq, lotCmp_lt] at *; exact lbef_trans h1 h2
  ntrans x y z h1 h2 := by unfold ltOf at *; rw [decide_eq_false_iff_not, lotCmp_lt] at *; unfold lbef bef at *; omega
instance : Inhabited Lot := ⟨⟨0, 0, 0, 0, 0⟩⟩
theorem isAgg_lot : ∀ w, (isAgg (laysSortLot_ren.t 24)).run Tryz.prog w = .ok true w := fun w => run_isAgg tk (t := 137) rfl w
theorem sizeOf_lot : ∀ w, (Go.sizeOf (laysSortLot_ren.t 24)).run Tryz.prog w = .ok (Enc.sz Lot) w := fun w => run_size tk (t := 137) rfl w
theorem slices_SortFunc_Lot {l S : List Lot} (hl : l.length ≤ 4000000) (hS : ∀ d : List Lot, d.Perm l → d.Pairwise (fun x y => ¬ lb2 y x) → d = S) : FC Tryz.prog 323 [.c (.row 0 0 l.length), .c (.fn 251 [])] [ow 137 l] (.tup []) [ow 137 S] :=
  fc_sort laysSortLot isAgg_lot sizeOf_lot (enters (f := 323) Tryz.func323 (by kernel_rfl) rfl) 137 (fun x y : Lot => lotCmp x.Account x.Instr x.No y.Account y.Instr y.No) swoLot 251 (enters_of Tryz.func251 (by kernel_rfl) rfl) (fun w x y => lotBefore_calls x y w) hl
    (fun d h1 h2 => hS d h1 (h2.imp fun {x y} h => by unfold ltOf at h; rw [decide_eq_false_iff_not, lotCmp_lt] at h; exact h))
end Go.Proofs.YtgehbhkfehmdkaaGreat.Sh
