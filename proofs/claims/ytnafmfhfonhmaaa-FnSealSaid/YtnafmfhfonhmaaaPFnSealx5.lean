-- Made by wip/printx.py: the kit's print of law FnSeal, with functions proved by hand put in. Not trusted: Lean checks it.
import Derived.Test.YtnafmfhfonhmaaaPFnSealx0
import Derived.Test.YtnafmfhfonhmaaaPFnSealx1
import Derived.Test.YtnafmfhfonhmaaaPFnSealx2
import Derived.Test.YtnafmfhfonhmaaaPFnSealx3
import Derived.Test.YtnafmfhfonhmaaaPFnSealx4
namespace Go.Proofs.Ytnafmfhfonhmaaa.PFnSeal
open Go.RowKit Go.Proofs.YtnafmfhfonhmaaaW.PrintWords Go.Proofs.YtnafmfhfonhmaaaW.PrintLast Go.Proofs.YtnafmfhfonhmaaaW.PrintMore
attribute [local go_sem] max2_int min2_int max_two min_two max_three min_three max_four min_four   -- for this text's walks alone
set_option linter.unusedVariables false
set_option linter.unusedSimpArgs false

/-! ### laws_FnSeal: function 17 -/
def laws_FnSeal.j0 : Nat → List Int → List Int → Int → Bool → Option (Bool)
  | 0, _, _, _, _ => none
  | k + 1, x0, x4, x9, x70 => if x70 = true then (some false) else ((laws_at.f x0 1).bind fun t230 => (if (wrap64 ((x4.length : Int) - x9)) = 0 then (none) else (if 0 ≤ (wrap64 (x9 + (Int.tmod (wrap64 (t230 * 13)) (wrap64 ((x4.length : Int) - x9))))) then (if (wrap64 (x9 + (Int.tmod (wrap64 (t230 * 13)) (wrap64 ((x4.length : Int) - x9))))) < (x4.length : Int) then ((laws_at.f x0 2).bind fun t232 => ((impl_Unseal.f k (x4.set ((wrap64 (x9 + (Int.tmod (wrap64 (t230 * 13)) (wrap64 ((x4.length : Int) - x9))))) : Int).toNat (Go.bits .xor .u8 (rd x4 (wrap64 (x9 + (Int.tmod (wrap64 (t230 * 13)) (wrap64 ((x4.length : Int) - x9)))))) ((wrap64 (1 + (Int.tmod t232 255))) % 256))) 0).bind fun bt234 => (some (bt234.2.2 == 3)))) else (none)) else (none))))
def laws_FnSeal.f (k : Nat) (l0 : List Int) : Option (Bool) := (laws_big.f l0).bind fun t208 => (if t208 = true then (some true) else ((spec_DrawSeal.f k l0).bind fun t209 => ((impl_Seal.f k t209).bind fun bt212 => (if (t209.length : Int) > 9000 then (if bt212.2 = true then (some false) else (some ((bt212.1.length : Int) == 0))) else ((some (([1, 2] : List Int) : List Int)).bind fun y216 => (if y216.length + bt212.1.length < 140737488355328 then ((impl_Unseal.f k (y216 ++ bt212.1) 2).bind fun bt222 => ((impl_PutNum.f k (t209.length : Int)).bind fun t227 => (if bt212.2 = true then (if bt222.2.2 = 0 then (if (strOfNums bt222.1).toList = (strOfNums t209).toList then (if bt222.2.1 = (wrap64 ((bt212.1.length : Int) + 2)) then (laws_FnSeal.j0 k l0 bt212.1 (t227.length : Int) (decide ((bt212.1.length : Int) ≤ (t227.length : Int)))) else (laws_FnSeal.j0 k l0 bt212.1 (t227.length : Int) true)) else (laws_FnSeal.j0 k l0 bt212.1 (t227.length : Int) true)) else (laws_FnSeal.j0 k l0 bt212.1 (t227.length : Int) true)) else (laws_FnSeal.j0 k l0 bt212.1 (t227.length : Int) true)))) else (none)))))))
theorem laws_FnSeal.mono_l : ∀ k, (∀ y0 y1 y2 y3, LeO (laws_FnSeal.j0 k y0 y1 y2 y3) (laws_FnSeal.j0 (k + 1) y0 y1 y2 y3))
  | 0 => fun _ _ _ _ r h => by simp [laws_FnSeal.j0] at h
  | k + 1 => by
    have ih0 := laws_FnSeal.mono_l k
    · intro y0 y1 y2 y3
      unfold laws_FnSeal.j0
      repeat' first
      | (with_reducible exact ih0 _ _ _ _)
      | (with_reducible exact impl_PutNum.mono _ _)
      | (with_reducible exact impl_Seal.mono _ _)
      | (with_reducible exact impl_Unseal.mono _ _ _)
      | (with_reducible exact spec_DrawSeal.mono _ _)
      | (with_reducible exact LeO.refl _)
      | (with_reducible exact LeO.none _)
      | (with_reducible refine LeO.ite ?_ ?_)
      | (with_reducible refine LeO.bind ?_ (fun _ => ?_))
      | exact ih0 _ _ _ _
      | exact impl_PutNum.mono _ _
      | exact impl_Seal.mono _ _
      | exact impl_Unseal.mono _ _ _
      | exact spec_DrawSeal.mono _ _
      | exact LeO.none _
      | refine LeO.ite ?_ ?_
      | refine LeO.bind ?_ (fun _ => ?_)
theorem laws_FnSeal.mono : ∀ a0 k, LeO (laws_FnSeal.f k a0) (laws_FnSeal.f (k + 1) a0) := by
  intro a0 k
  have ih0 := laws_FnSeal.mono_l k
  unfold laws_FnSeal.f
  repeat' first
      | (with_reducible exact ih0 _ _ _ _)
      | (with_reducible exact impl_PutNum.mono _ _)
      | (with_reducible exact impl_Seal.mono _ _)
      | (with_reducible exact impl_Unseal.mono _ _ _)
      | (with_reducible exact spec_DrawSeal.mono _ _)
      | (with_reducible exact LeO.refl _)
      | (with_reducible exact LeO.none _)
      | (with_reducible refine LeO.ite ?_ ?_)
      | (with_reducible refine LeO.bind ?_ (fun _ => ?_))
      | exact ih0 _ _ _ _
      | exact impl_PutNum.mono _ _
      | exact impl_Seal.mono _ _
      | exact impl_Unseal.mono _ _ _
      | exact spec_DrawSeal.mono _ _
      | exact LeO.none _
      | refine LeO.ite ?_ ?_
      | refine LeO.bind ?_ (fun _ => ?_)
def laws_FnSeal.T12 : Bool × List (List Nat × List Nat) := (true, [([], []), ([], []), ([], []), ([], []), ([2, 3], [2, 3]), ([4], [4]), ([], []), ([6], [6]), ([7], [7]), ([8], [8]), ([9], [9]), ([5, 10], [5, 10]), ([0, 1, 0, 1, 2, 3, 4, 5, 6, 7, 8, 9, 10, 11], [0, 1]), ([12, 11, 7, 0, 1, 2, 3, 4, 5, 6, 7, 8, 9, 10, 11], [11, 12])])
def laws_FnSeal.B12 : List Nat := [0, 0, 0, 0, 12, 28, 0, 64, 192, 448, 960, 2044, 4095, 8191]
theorem laws_FnSeal.tab12 : rtab .any (opsOf Try.f17 12) = laws_FnSeal.T12 := by kernel_rfl
theorem laws_FnSeal.bits12 : waitsOk laws_FnSeal.T12.2 laws_FnSeal.B12 = true := by kernel_rfl
set_option maxHeartbeats 8000000 in
set_option maxRecDepth 100000 in
theorem laws_FnSeal.calls (k : Nat) (A0 : Option Addr) (c0 : Nat) (l0 : List Int) (r : Bool) (w : World) (hr0 : Kd.C (Kd.int .u8) w A0 l0.length l0) (hc0 : l0.length ≤ c0) (h : laws_FnSeal.f k l0 = some r) :
    Calls Try.prog 17 #[.slice A0 l0.length c0] w fun e w' => e = .returned (.bool r) ∧ Below w.heap.size w w' := by
  have HR0 := Aside0.mk hr0
  have HC0 := Aside0.mk hc0
  clear hr0 hc0
  have HB := Aside0.mk (Below.refl w.heap.size w)
  have H : ((laws_big.f l0).bind fun t208 => (if t208 = true then (some true) else ((spec_DrawSeal.f k l0).bind fun t209 => ((impl_Seal.f k t209).bind fun bt212 => (if (t209.length : Int) > 9000 then (if bt212.2 = true then (some false) else (some ((bt212.1.length : Int) == 0))) else ((some (([1, 2] : List Int) : List Int)).bind fun y216 => (if y216.length + bt212.1.length < 140737488355328 then ((impl_Unseal.f k (y216 ++ bt212.1) 2).bind fun bt222 => ((impl_PutNum.f k (t209.length : Int)).bind fun t227 => (if bt212.2 = true then (if bt222.2.2 = 0 then (if (strOfNums bt222.1).toList = (strOfNums t209).toList then (if bt222.2.1 = (wrap64 ((bt212.1.length : Int) + 2)) then (laws_FnSeal.j0 k l0 bt212.1 (t227.length : Int) (decide ((bt212.1.length : Int) ≤ (t227.length : Int)))) else (laws_FnSeal.j0 k l0 bt212.1 (t227.length : Int) true)) else (laws_FnSeal.j0 k l0 bt212.1 (t227.length : Int) true)) else (laws_FnSeal.j0 k l0 bt212.1 (t227.length : Int) true)) else (laws_FnSeal.j0 k l0 bt212.1 (t227.length : Int) true)))) else (none)))))))) = some r := h
  clear h
  replace H := Option.bind_eq_some_iff.mp H
  obtain ⟨t208, A20, H⟩ := H
  replace H : (if t208 = true then (some true) else ((spec_DrawSeal.f k l0).bind fun t209 => ((impl_Seal.f k t209).bind fun bt212 => (if (t209.length : Int) > 9000 then (if bt212.2 = true then (some false) else (some ((bt212.1.length : Int) == 0))) else ((some (([1, 2] : List Int) : List Int)).bind fun y216 => (if y216.length + bt212.1.length < 140737488355328 then ((impl_Unseal.f k (y216 ++ bt212.1) 2).bind fun bt222 => ((impl_PutNum.f k (t209.length : Int)).bind fun t227 => (if bt212.2 = true then (if bt222.2.2 = 0 then (if (strOfNums bt222.1).toList = (strOfNums t209).toList then (if bt222.2.1 = (wrap64 ((bt212.1.length : Int) + 2)) then (laws_FnSeal.j0 k l0 bt212.1 (t227.length : Int) (decide ((bt212.1.length : Int) ≤ (t227.length : Int)))) else (laws_FnSeal.j0 k l0 bt212.1 (t227.length : Int) true)) else (laws_FnSeal.j0 k l0 bt212.1 (t227.length : Int) true)) else (laws_FnSeal.j0 k l0 bt212.1 (t227.length : Int) true)) else (laws_FnSeal.j0 k l0 bt212.1 (t227.length : Int) true)))) else (none))))))) = some r := H
  have A2 := Aside0.mk A20
  clear A20
  by_cases c3 : t208 = true
  · subst c3
    have H1 : (some true) = some r := by rw [if_pos rfl] at H; exact H
    clear H
    have H := H1
    clear H1
    obtain rfl := Option.some.inj H
    go_enter Try.func17, Try.ntmps17
    go_wp2_with (first | ((with_reducible refine gate_callee (f := 60) rfl ?_); refine goesL_ (some 15) rfl rfl Try.func60 (by kernel_rfl) rfl #[.slice A0 l0.length c0] rfl (by (try simp only [List.map_toArray, List.map_cons, List.map_nil]); first | done | rfl | (simp only [List.length_drop, List.length_take]; rfl)) ?_; (with_reducible refine (laws_big.calls _ _ l0 true _ ?side1 ?side2 A2.out).mono ?_); (case side1 => repeat (first | exact HR0.out | (with_reducible refine Kd.C_alloc ?_ _) | (with_reducible refine Kd.C_drewN ?_ _) | (with_reducible refine Kd.C_drew ?_))); (case side2 => exact HC0.out); rintro e w' ⟨rfl, ⟨nd, rfl⟩⟩; refine ⟨_, rfl, ?_⟩))
    go_ret
    exact ⟨by first | rfl | (simp [errW_none, errW_some] <;> rfl) | (simp [*, errW_none, errW_some] <;> rfl), by repeat (first | (with_reducible first | exact HB.out | apply below_alloc | apply pw_below_drewN | apply below_drew1) | exact HB.out)⟩
  · replace c3 := Bool.eq_false_iff.mpr c3
    subst c3
    have H1 : ((spec_DrawSeal.f k l0).bind fun t209 => ((impl_Seal.f k t209).bind fun bt212 => (if (t209.length : Int) > 9000 then (if bt212.2 = true then (some false) else (some ((bt212.1.length : Int) == 0))) else ((some (([1, 2] : List Int) : List Int)).bind fun y216 => (if y216.length + bt212.1.length < 140737488355328 then ((impl_Unseal.f k (y216 ++ bt212.1) 2).bind fun bt222 => ((impl_PutNum.f k (t209.length : Int)).bind fun t227 => (if bt212.2 = true then (if bt222.2.2 = 0 then (if (strOfNums bt222.1).toList = (strOfNums t209).toList then (if bt222.2.1 = (wrap64 ((bt212.1.length : Int) + 2)) then (laws_FnSeal.j0 k l0 bt212.1 (t227.length : Int) (decide ((bt212.1.length : Int) ≤ (t227.length : Int)))) else (laws_FnSeal.j0 k l0 bt212.1 (t227.length : Int) true)) else (laws_FnSeal.j0 k l0 bt212.1 (t227.length : Int) true)) else (laws_FnSeal.j0 k l0 bt212.1 (t227.length : Int) true)) else (laws_FnSeal.j0 k l0 bt212.1 (t227.length : Int) true)))) else (none)))))) = some r := by rw [if_neg (show ¬ (false = true) by decide)] at H; exact H
    clear H
    have H := H1
    clear H1
    replace H := Option.bind_eq_some_iff.mp H
    obtain ⟨t209, A40, H⟩ := H
    replace H : ((impl_Seal.f k t209).bind fun bt212 => (if (t209.length : Int) > 9000 then (if bt212.2 = true then (some false) else (some ((bt212.1.length : Int) == 0))) else ((some (([1, 2] : List Int) : List Int)).bind fun y216 => (if y216.length + bt212.1.length < 140737488355328 then ((impl_Unseal.f k (y216 ++ bt212.1) 2).bind fun bt222 => ((impl_PutNum.f k (t209.length : Int)).bind fun t227 => (if bt212.2 = true then (if bt222.2.2 = 0 then (if (strOfNums bt222.1).toList = (strOfNums t209).toList then (if bt222.2.1 = (wrap64 ((bt212.1.length : Int) + 2)) then (laws_FnSeal.j0 k l0 bt212.1 (t227.length : Int) (decide ((bt212.1.length : Int) ≤ (t227.length : Int)))) else (laws_FnSeal.j0 k l0 bt212.1 (t227.length : Int) true)) else (laws_FnSeal.j0 k l0 bt212.1 (t227.length : Int) true)) else (laws_FnSeal.j0 k l0 bt212.1 (t227.length : Int) true)) else (laws_FnSeal.j0 k l0 bt212.1 (t227.length : Int) true)))) else (none))))) = some r := H
    have A4 := Aside0.mk A40
    clear A40
    replace H := Option.bind_eq_some_iff.mp H
    obtain ⟨⟨t212, t215⟩, A50, H⟩ := H
    replace H : (if (t209.length : Int) > 9000 then (if t215 = true then (some false) else (some ((t212.length : Int) == 0))) else ((some (([1, 2] : List Int) : List Int)).bind fun y216 => (if y216.length + t212.length < 140737488355328 then ((impl_Unseal.f k (y216 ++ t212) 2).bind fun bt222 => ((impl_PutNum.f k (t209.length : Int)).bind fun t227 => (if t215 = true then (if bt222.2.2 = 0 then (if (strOfNums bt222.1).toList = (strOfNums t209).toList then (if bt222.2.1 = (wrap64 ((t212.length : Int) + 2)) then (laws_FnSeal.j0 k l0 t212 (t227.length : Int) (decide ((t212.length : Int) ≤ (t227.length : Int)))) else (laws_FnSeal.j0 k l0 t212 (t227.length : Int) true)) else (laws_FnSeal.j0 k l0 t212 (t227.length : Int) true)) else (laws_FnSeal.j0 k l0 t212 (t227.length : Int) true)) else (laws_FnSeal.j0 k l0 t212 (t227.length : Int) true)))) else (none)))) = some r := H
    have A5 := Aside0.mk A50
    clear A50
    by_cases c6 : (t209.length : Int) > 9000
    · rw [if_pos c6] at H
      have c6b0 : decide (9000 < (t209.length : Int)) = true := decide_eq_true c6
      have c6b1 : decide (9000 < t209.length) = true := decide_eq_true (by omega)
      clear c6
      by_cases c7 : t215 = true
      · subst c7
        have H1 : (some false) = some r := by rw [if_pos rfl] at H; exact H
        clear H
        have H := H1
        clear H1
        obtain rfl := Option.some.inj H
        go_enter Try.func17, Try.ntmps17
        go_wp2_with (first | ((with_reducible refine gate_callee (f := 60) rfl ?_); refine goesL_ (some 15) rfl rfl Try.func60 (by kernel_rfl) rfl #[.slice A0 l0.length c0] rfl (by (try simp only [List.map_toArray, List.map_cons, List.map_nil]); first | done | rfl | (simp only [List.length_drop, List.length_take]; rfl)) ?_; (with_reducible refine (laws_big.calls _ _ l0 false _ ?side1 ?side2 A2.out).mono ?_); (case side1 => repeat (first | exact HR0.out | (with_reducible refine Kd.C_alloc ?_ _) | (with_reducible refine Kd.C_drewN ?_ _) | (with_reducible refine Kd.C_drew ?_))); (case side2 => exact HC0.out); rintro e w' ⟨rfl, ⟨nd, rfl⟩⟩; refine ⟨_, rfl, ?_⟩) | ((with_reducible refine gate_callee (f := 64) rfl ?_); refine goesL_ (some 17) rfl rfl Try.func64 (by kernel_rfl) rfl #[.slice A0 l0.length c0] rfl (by (try simp only [List.map_toArray, List.map_cons, List.map_nil]); first | done | rfl | (simp only [List.length_drop, List.length_take]; rfl)) ?_; (with_reducible refine (spec_DrawSeal.calls k _ _ l0 t209 _ ?side1 ?side2 A4.out).mono ?_); (case side1 => repeat (first | exact HR0.out | (with_reducible refine Kd.C_alloc ?_ _) | (with_reducible refine Kd.C_drewN ?_ _) | (with_reducible refine Kd.C_drew ?_))); (case side2 => exact HC0.out); rintro e w8 ⟨v210, rfl, ho0, hb⟩; refine ⟨_, rfl, ?_⟩; have n0_ := Aside0.mk (Kd.R_lower ho0 (below_size (by repeat (first | (with_reducible first | exact HB.out | apply below_alloc | apply pw_below_drewN | apply below_drew1) | exact HB.out)))); have n1_ := Aside0.mk (below_step (by repeat (first | (with_reducible first | exact HB.out | apply below_alloc | apply pw_below_drewN | apply below_drew1) | exact HB.out)) hb); clear HB; have HO211 := n0_; have HB := n1_; clear n0_ n1_; (try clear hb); (try clear hb2); (try clear hk); (try clear hi); (try clear ho0); obtain ⟨Ao9, co9, eo9⟩ := Kd.R_slice HO211.out; subst eo9) | ((with_reducible refine gate_callee (f := 45) rfl ?_); refine goesL_ (some 20) rfl rfl Try.func45 (by kernel_rfl) rfl #[.slice Ao9 t209.length co9] rfl (by (try simp only [List.map_toArray, List.map_cons, List.map_nil]); first | done | rfl | (simp only [List.length_drop, List.length_take]; rfl)) ?_; (with_reducible refine (impl_Seal.calls k (fun k_ => some k_ = (.slice Ao9 t209.length co9 : Value).ownBlock) _ _ t209 t212 true _ ?side1 A5.out).mono ?_); (case side1 => exact Kd.R_V (Kd.R_tight rfl (HO211.out))); rintro e w10 ⟨v213, rfl, ho0, hb⟩; refine ⟨_, rfl, ?_⟩; have n0_ := Aside0.mk (Kd.R_elder' (by (with_reducible repeat (first | apply Kd.R_alloc | apply Kd.R_drewN | apply Kd.R_drew)); exact HO211.out) (Kd.R_base ho0) hb); have n1_ := Aside0.mk (Kd.R_lower (Kd.R_new' (Kd.R_mono (ok' := fun k_ => True) ho0 (fun _ hk_ => trivial)) (Kd.R_lt (by (with_reducible repeat (first | apply Kd.R_alloc | apply Kd.R_drewN | apply Kd.R_drew)); exact HO211.out))) (below_size (by repeat (first | (with_reducible first | exact HB.out | apply below_alloc | apply pw_below_drewN | apply below_drew1) | exact HB.out)))); have n2_ := Aside0.mk (below_step (by repeat (first | (with_reducible first | exact HB.out | apply below_alloc | apply pw_below_drewN | apply below_drew1) | exact HB.out)) hb); clear HO211; clear HB; have HO211 := n0_; have HO214 := n1_; have HB := n2_; clear n0_ n1_ n2_; (try clear hb); (try clear hb2); (try clear hk); (try clear hi); (try clear ho0)))
        go_ret
        exact ⟨by first | rfl | (simp [errW_none, errW_some] <;> rfl) | (simp [*, errW_none, errW_some] <;> rfl), by repeat (first | (with_reducible first | exact HB.out | apply below_alloc | apply pw_below_drewN | apply below_drew1) | exact HB.out)⟩
      · replace c7 := Bool.eq_false_iff.mpr c7
        subst c7
        have H1 : (some ((t212.length : Int) == 0)) = some r := by rw [if_neg (show ¬ (false = true) by decide)] at H; exact H
        clear H
        have H := H1
        clear H1
        obtain rfl := Option.some.inj H
        go_enter Try.func17, Try.ntmps17
        go_wp2_with (first | ((with_reducible refine gate_callee (f := 60) rfl ?_); refine goesL_ (some 15) rfl rfl Try.func60 (by kernel_rfl) rfl #[.slice A0 l0.length c0] rfl (by (try simp only [List.map_toArray, List.map_cons, List.map_nil]); first | done | rfl | (simp only [List.length_drop, List.length_take]; rfl)) ?_; (with_reducible refine (laws_big.calls _ _ l0 false _ ?side1 ?side2 A2.out).mono ?_); (case side1 => repeat (first | exact HR0.out | (with_reducible refine Kd.C_alloc ?_ _) | (with_reducible refine Kd.C_drewN ?_ _) | (with_reducible refine Kd.C_drew ?_))); (case side2 => exact HC0.out); rintro e w' ⟨rfl, ⟨nd, rfl⟩⟩; refine ⟨_, rfl, ?_⟩) | ((with_reducible refine gate_callee (f := 64) rfl ?_); refine goesL_ (some 17) rfl rfl Try.func64 (by kernel_rfl) rfl #[.slice A0 l0.length c0] rfl (by (try simp only [List.map_toArray, List.map_cons, List.map_nil]); first | done | rfl | (simp only [List.length_drop, List.length_take]; rfl)) ?_; (with_reducible refine (spec_DrawSeal.calls k _ _ l0 t209 _ ?side1 ?side2 A4.out).mono ?_); (case side1 => repeat (first | exact HR0.out | (with_reducible refine Kd.C_alloc ?_ _) | (with_reducible refine Kd.C_drewN ?_ _) | (with_reducible refine Kd.C_drew ?_))); (case side2 => exact HC0.out); rintro e w11 ⟨v210, rfl, ho0, hb⟩; refine ⟨_, rfl, ?_⟩; have n0_ := Aside0.mk (Kd.R_lower ho0 (below_size (by repeat (first | (with_reducible first | exact HB.out | apply below_alloc | apply pw_below_drewN | apply below_drew1) | exact HB.out)))); have n1_ := Aside0.mk (below_step (by repeat (first | (with_reducible first | exact HB.out | apply below_alloc | apply pw_below_drewN | apply below_drew1) | exact HB.out)) hb); clear HB; have HO211 := n0_; have HB := n1_; clear n0_ n1_; (try clear hb); (try clear hb2); (try clear hk); (try clear hi); (try clear ho0); obtain ⟨Ao12, co12, eo12⟩ := Kd.R_slice HO211.out; subst eo12) | ((with_reducible refine gate_callee (f := 45) rfl ?_); refine goesL_ (some 20) rfl rfl Try.func45 (by kernel_rfl) rfl #[.slice Ao12 t209.length co12] rfl (by (try simp only [List.map_toArray, List.map_cons, List.map_nil]); first | done | rfl | (simp only [List.length_drop, List.length_take]; rfl)) ?_; (with_reducible refine (impl_Seal.calls k (fun k_ => some k_ = (.slice Ao12 t209.length co12 : Value).ownBlock) _ _ t209 t212 false _ ?side1 A5.out).mono ?_); (case side1 => exact Kd.R_V (Kd.R_tight rfl (HO211.out))); rintro e w13 ⟨v213, rfl, ho0, hb⟩; refine ⟨_, rfl, ?_⟩; have n0_ := Aside0.mk (Kd.R_elder' (by (with_reducible repeat (first | apply Kd.R_alloc | apply Kd.R_drewN | apply Kd.R_drew)); exact HO211.out) (Kd.R_base ho0) hb); have n1_ := Aside0.mk (Kd.R_lower (Kd.R_new' (Kd.R_mono (ok' := fun k_ => True) ho0 (fun _ hk_ => trivial)) (Kd.R_lt (by (with_reducible repeat (first | apply Kd.R_alloc | apply Kd.R_drewN | apply Kd.R_drew)); exact HO211.out))) (below_size (by repeat (first | (with_reducible first | exact HB.out | apply below_alloc | apply pw_below_drewN | apply below_drew1) | exact HB.out)))); have n2_ := Aside0.mk (below_step (by repeat (first | (with_reducible first | exact HB.out | apply below_alloc | apply pw_below_drewN | apply below_drew1) | exact HB.out)) hb); clear HO211; clear HB; have HO211 := n0_; have HO214 := n1_; have HB := n2_; clear n0_ n1_ n2_; (try clear hb); (try clear hb2); (try clear hk); (try clear hi); (try clear ho0); obtain ⟨Ao14, co14, eo14⟩ := Kd.R_slice HO214.out; subst eo14))
        go_ret
        exact ⟨by first | rfl | (simp [errW_none, errW_some] <;> rfl) | (simp [*, errW_none, errW_some] <;> rfl), by repeat (first | (with_reducible first | exact HB.out | apply below_alloc | apply pw_below_drewN | apply below_drew1) | exact HB.out)⟩
    · rw [if_neg c6] at H
      have c6b0 : decide (9000 < (t209.length : Int)) = false := decide_eq_false c6
      have c6b1 : decide (9000 < t209.length) = false := decide_eq_false (by omega)
      clear c6
      obtain ⟨y216, hy216⟩ : ∃ y_ : List Int, y_ = (([1, 2] : List Int)) := ⟨_, rfl⟩
      replace H : (if y216.length + t212.length < 140737488355328 then ((impl_Unseal.f k (y216 ++ t212) 2).bind fun bt222 => ((impl_PutNum.f k (t209.length : Int)).bind fun t227 => (if t215 = true then (if bt222.2.2 = 0 then (if (strOfNums bt222.1).toList = (strOfNums t209).toList then (if bt222.2.1 = (wrap64 ((t212.length : Int) + 2)) then (laws_FnSeal.j0 k l0 t212 (t227.length : Int) (decide ((t212.length : Int) ≤ (t227.length : Int)))) else (laws_FnSeal.j0 k l0 t212 (t227.length : Int) true)) else (laws_FnSeal.j0 k l0 t212 (t227.length : Int) true)) else (laws_FnSeal.j0 k l0 t212 (t227.length : Int) true)) else (laws_FnSeal.j0 k l0 t212 (t227.length : Int) true)))) else (none)) = some r := by first | (rw [hy216]; with_reducible exact H) | (have H2_ := (Option.bind_some _ _).symm.trans H; rw [hy216]; with_reducible exact H2_) | (have H2_ := (Option.bind_some _ _).symm.trans H; with_reducible exact H2_) | with_reducible exact H | (rw [hy216]; exact H) | exact H
      have Ny216 := Aside0.mk hy216
      clear hy216
      by_cases c15 : y216.length + t212.length < 140737488355328
      · rw [if_pos c15] at H
        have LMc15 := Aside0.mk c15
        clear c15
        obtain ⟨y219, hy219⟩ : ∃ y_ : List Int, y_ = (y216 ++ t212) := ⟨_, rfl⟩
        replace H : ((impl_Unseal.f k y219 2).bind fun bt222 => ((impl_PutNum.f k (t209.length : Int)).bind fun t227 => (if t215 = true then (if bt222.2.2 = 0 then (if (strOfNums bt222.1).toList = (strOfNums t209).toList then (if bt222.2.1 = (wrap64 ((t212.length : Int) + 2)) then (laws_FnSeal.j0 k l0 t212 (t227.length : Int) (decide ((t212.length : Int) ≤ (t227.length : Int)))) else (laws_FnSeal.j0 k l0 t212 (t227.length : Int) true)) else (laws_FnSeal.j0 k l0 t212 (t227.length : Int) true)) else (laws_FnSeal.j0 k l0 t212 (t227.length : Int) true)) else (laws_FnSeal.j0 k l0 t212 (t227.length : Int) true)))) = some r := by first | (rw [hy219]; with_reducible exact H) | (have H2_ := (Option.bind_some _ _).symm.trans H; rw [hy219]; with_reducible exact H2_) | (have H2_ := (Option.bind_some _ _).symm.trans H; with_reducible exact H2_) | with_reducible exact H | (rw [hy219]; exact H) | exact H
        have Ny219 := Aside0.mk hy219
        clear hy219
        replace H := Option.bind_eq_some_iff.mp H
        obtain ⟨⟨t222, t223, t224⟩, A160, H⟩ := H
        replace H : ((impl_PutNum.f k (t209.length : Int)).bind fun t227 => (if t215 = true then (if t224 = 0 then (if (strOfNums t222).toList = (strOfNums t209).toList then (if t223 = (wrap64 ((t212.length : Int) + 2)) then (laws_FnSeal.j0 k l0 t212 (t227.length : Int) (decide ((t212.length : Int) ≤ (t227.length : Int)))) else (laws_FnSeal.j0 k l0 t212 (t227.length : Int) true)) else (laws_FnSeal.j0 k l0 t212 (t227.length : Int) true)) else (laws_FnSeal.j0 k l0 t212 (t227.length : Int) true)) else (laws_FnSeal.j0 k l0 t212 (t227.length : Int) true))) = some r := H
        have A16 := Aside0.mk A160
        clear A160
        replace H := Option.bind_eq_some_iff.mp H
        obtain ⟨t227, A170, H⟩ := H
        replace H : (if t215 = true then (if t224 = 0 then (if (strOfNums t222).toList = (strOfNums t209).toList then (if t223 = (wrap64 ((t212.length : Int) + 2)) then (laws_FnSeal.j0 k l0 t212 (t227.length : Int) (decide ((t212.length : Int) ≤ (t227.length : Int)))) else (laws_FnSeal.j0 k l0 t212 (t227.length : Int) true)) else (laws_FnSeal.j0 k l0 t212 (t227.length : Int) true)) else (laws_FnSeal.j0 k l0 t212 (t227.length : Int) true)) else (laws_FnSeal.j0 k l0 t212 (t227.length : Int) true)) = some r := H
        have A17 := Aside0.mk A170
        clear A170
        have HC18 := Aside0.mk H
        clear H
        go_enter Try.func17, Try.ntmps17
        go_upto_region 9 with (first | ((with_reducible refine gate_callee (f := 60) rfl ?_); refine goesL_ (some 15) rfl rfl Try.func60 (by kernel_rfl) rfl #[.slice A0 l0.length c0] rfl (by (try simp only [List.map_toArray, List.map_cons, List.map_nil]); first | done | rfl | (simp only [List.length_drop, List.length_take]; rfl)) ?_; (with_reducible refine (laws_big.calls _ _ l0 false _ ?side1 ?side2 A2.out).mono ?_); (case side1 => repeat (first | exact HR0.out | (with_reducible refine Kd.C_alloc ?_ _) | (with_reducible refine Kd.C_drewN ?_ _) | (with_reducible refine Kd.C_drew ?_))); (case side2 => exact HC0.out); rintro e w' ⟨rfl, ⟨nd, rfl⟩⟩; refine ⟨_, rfl, ?_⟩) | ((with_reducible refine gate_callee (f := 64) rfl ?_); refine goesL_ (some 17) rfl rfl Try.func64 (by kernel_rfl) rfl #[.slice A0 l0.length c0] rfl (by (try simp only [List.map_toArray, List.map_cons, List.map_nil]); first | done | rfl | (simp only [List.length_drop, List.length_take]; rfl)) ?_; (with_reducible refine (spec_DrawSeal.calls k _ _ l0 t209 _ ?side1 ?side2 A4.out).mono ?_); (case side1 => repeat (first | exact HR0.out | (with_reducible refine Kd.C_alloc ?_ _) | (with_reducible refine Kd.C_drewN ?_ _) | (with_reducible refine Kd.C_drew ?_))); (case side2 => exact HC0.out); rintro e w19 ⟨v210, rfl, ho0, hb⟩; refine ⟨_, rfl, ?_⟩; have n0_ := Aside0.mk (Kd.R_lower ho0 (below_size (by repeat (first | (with_reducible first | exact HB.out | apply below_alloc | apply pw_below_drewN | apply below_drew1) | exact HB.out)))); have n1_ := Aside0.mk (below_step (by repeat (first | (with_reducible first | exact HB.out | apply below_alloc | apply pw_below_drewN | apply below_drew1) | exact HB.out)) hb); clear HB; have HO211 := n0_; have HB := n1_; clear n0_ n1_; (try clear hb); (try clear hb2); (try clear hk); (try clear hi); (try clear ho0); obtain ⟨Ao20, co20, eo20⟩ := Kd.R_slice HO211.out; subst eo20) | ((with_reducible refine gate_callee (f := 45) rfl ?_); refine goesL_ (some 20) rfl rfl Try.func45 (by kernel_rfl) rfl #[.slice Ao20 t209.length co20] rfl (by (try simp only [List.map_toArray, List.map_cons, List.map_nil]); first | done | rfl | (simp only [List.length_drop, List.length_take]; rfl)) ?_; (with_reducible refine (impl_Seal.calls k (fun k_ => some k_ = (.slice Ao20 t209.length co20 : Value).ownBlock) _ _ t209 t212 t215 _ ?side1 A5.out).mono ?_); (case side1 => exact Kd.R_V (Kd.R_tight rfl (HO211.out))); rintro e w21 ⟨v213, rfl, ho0, hb⟩; refine ⟨_, rfl, ?_⟩; have n0_ := Aside0.mk (Kd.R_elder' (by (with_reducible repeat (first | apply Kd.R_alloc | apply Kd.R_drewN | apply Kd.R_drew)); exact HO211.out) (Kd.R_base ho0) hb); have n1_ := Aside0.mk (Kd.R_lower (Kd.R_new' (Kd.R_mono (ok' := fun k_ => True) ho0 (fun _ hk_ => trivial)) (Kd.R_lt (by (with_reducible repeat (first | apply Kd.R_alloc | apply Kd.R_drewN | apply Kd.R_drew)); exact HO211.out))) (below_size (by repeat (first | (with_reducible first | exact HB.out | apply below_alloc | apply pw_below_drewN | apply below_drew1) | exact HB.out)))); have n2_ := Aside0.mk (below_step (by repeat (first | (with_reducible first | exact HB.out | apply below_alloc | apply pw_below_drewN | apply below_drew1) | exact HB.out)) hb); clear HO211; clear HB; have HO211 := n0_; have HO214 := n1_; have HB := n2_; clear n0_ n1_ n2_; (try clear hb); (try clear hb2); (try clear hk); (try clear hi); (try clear ho0)) | ((with_reducible refine gate_dst (N := 34) rfl ?_); (try (refine gate_guard (by rfl) ?_; dsimp only)); refine Kd.R_lit (Kd.int .u8) _ 5 ?hg (N := 34) ?hd (xs := ([1, 2] : List Int)) (inner := [.int .u8 1, .int .u8 2]) (ok := fun _ => True) (okp := fun _ => True) ?hr ?hp (fun _ hk => hk) trivial (Below.refl _ _) (Nat.le_refl _) (by simp) ?_; (case hd => rfl); (case hg => rfl); (case hr => first | (go_simp; done) | (go_simp; rfl)); (case hp => exact (Reps.one (show Kd.M (Kd.int .u8) _ _ _ 1 [.int .u8 1] from rfl) (Reps.one (show Kd.M (Kd.int .u8) _ _ _ 2 [.int .u8 2] from rfl) (Reps.none _ _)))); intro v217 w22 ho23 hb hg_ hnew_; clear hg_ hnew_; (first | rw [← Ny216.out] at ho23 | (simp only [Int.reduceToNat] at ho23; rw [← Ny216.out] at ho23)); have n0_ := Aside0.mk (Kd.R_elder' (by (with_reducible repeat (first | apply Kd.R_alloc | apply Kd.R_drewN | apply Kd.R_drew)); exact HO211.out) (Kd.R_base ho23) hb); have n1_ := Aside0.mk (Kd.R_elder' (by (with_reducible repeat (first | apply Kd.R_alloc | apply Kd.R_drewN | apply Kd.R_drew)); exact HO214.out) (Kd.R_base ho23) hb); have n2_ := Aside0.mk (Kd.R_lower (Kd.R_new' (Kd.R_new' ho23 (Kd.R_lt (by (with_reducible repeat (first | apply Kd.R_alloc | apply Kd.R_drewN | apply Kd.R_drew)); exact HO211.out))) (Kd.R_lt (by (with_reducible repeat (first | apply Kd.R_alloc | apply Kd.R_drewN | apply Kd.R_drew)); exact HO214.out))) (below_size (by repeat (first | (with_reducible first | exact HB.out | apply below_alloc | apply pw_below_drewN | apply below_drew1) | exact HB.out)))); have n3_ := Aside0.mk (below_step (by repeat (first | (with_reducible first | exact HB.out | apply below_alloc | apply pw_below_drewN | apply below_drew1) | exact HB.out)) hb); clear HO211; clear HO214; clear HB; have HO211 := n0_; have HO214 := n1_; have HO218 := n2_; have HB := n3_; clear n0_ n1_ n2_ n3_; clear hb ho23; obtain ⟨Ao25, co25, eo25⟩ := Kd.R_slice HO214.out; subst eo25) | ((with_reducible refine gate_builtin (b := .append) (xs := #[.tmp 34, .tmp 35]) rfl ?_); (try (refine gate_guard (by rfl) ?_; dsimp only)); at_builtin; refine Kd.R_append_rows (Kd.int .u8) (w0 := w) w.heap.size rfl (.tmp 34) (.tmp 35) 24 5 (.int .u8 0) 1 rfl Try.underlying24 info5 rfl (by decide) (by omega) v217 y216 t212 _ _ _ (fun k_ => some k_ ≠ (.slice Ao20 t209.length co20 : Value).ownBlock ∧ some k_ ≠ (.slice Ao25 t212.length co25 : Value).ownBlock) (fun _ => False) rfl rfl ?aO ?aR (fun _ _ h => h) (fun _ h => h.elim) ?aF ?aB ?aS ?aL ?_; (case aR => repeat (first | exact (Kd.R_reads' HO214.out).2.2 | (with_reducible refine Kd.C_alloc ?_ _) | (with_reducible refine Kd.C_drewN ?_ _) | (with_reducible refine Kd.C_drew ?_))); (case aB => exact (by repeat (first | (with_reducible first | exact HB.out | apply below_alloc | apply pw_below_drewN | apply below_drew1) | exact HB.out))); (case aF => exact (fun k_ hk => ⟨Kd.fresh' (Kd.R_lt (by (with_reducible repeat (first | apply Kd.R_alloc | apply Kd.R_drewN | apply Kd.R_drew)); exact HO211.out)) k_ hk, Kd.fresh' (Kd.R_lt (by (with_reducible repeat (first | apply Kd.R_alloc | apply Kd.R_drewN | apply Kd.R_drew)); exact HO214.out)) k_ hk⟩)); (case aO => exact (by (with_reducible repeat (first | apply Kd.R_alloc | apply Kd.R_drewN | apply Kd.R_drew)); exact Kd.R_mono HO218.out (fun _ hk => ⟨hk.1.2, hk.2⟩))); (case aS => exact (below_size (by repeat (first | (with_reducible first | exact HB.out | apply below_alloc | apply pw_below_drewN | apply below_drew1) | exact HB.out)))); (case aL => have := LMc15.out; omega); intro v220 w24 ho hb hg hat; rw [← Ny219.out] at ho; have n0_ := Aside0.mk (Kd.R_after (ok := (fun k_ => some k_ ≠ (.slice Ao25 t212.length co25 : Value).ownBlock)) (by (with_reducible repeat (first | apply Kd.R_alloc | apply Kd.R_drewN | apply Kd.R_drew)); exact Kd.R_mono HO211.out (fun _ hk => ⟨hk.1.2, hk.2⟩)) hg hat); have n1_ := Aside0.mk (Kd.R_after (ok := (fun k_ => some k_ ≠ (.slice Ao20 t209.length co20 : Value).ownBlock)) (by (with_reducible repeat (first | apply Kd.R_alloc | apply Kd.R_drewN | apply Kd.R_drew)); exact Kd.R_mono HO214.out (fun _ hk => ⟨hk.1.2, hk.2⟩)) hg hat); have n2_ := Aside0.mk (hb); have n3_ := Aside0.mk (ho); clear HO211; clear HO214; clear HB; clear HO218; have HO211 := n0_; have HO214 := n1_; have HB := n2_; have HO221 := n3_; clear n0_ n1_ n2_ n3_; clear ho hb hg hat; obtain ⟨Ao26, co26, eo26⟩ := Kd.R_slice HO221.out; subst eo26) | ((with_reducible refine gate_callee (f := 53) rfl ?_); refine goesL_ (some 37) rfl rfl Try.func53 (by kernel_rfl) rfl #[.slice Ao26 y219.length co26, .int .i64 2] rfl (by (try simp only [List.map_toArray, List.map_cons, List.map_nil]); first | done | rfl | (simp only [List.length_drop, List.length_take]; rfl)) ?_; (with_reducible refine (impl_Unseal.calls k _ _ y219 2 t222 t223 t224 _ ?side1 ?side2 A16.out).mono ?_); (case side1 => repeat (first | exact (Kd.R_reads' HO221.out).2.2 | (with_reducible refine Kd.C_alloc ?_ _) | (with_reducible refine Kd.C_drewN ?_ _) | (with_reducible refine Kd.C_drew ?_))); (case side2 => exact (Kd.R_reads' HO221.out).2.1); rintro e w27 ⟨v225, rfl, ho0, hb⟩; refine ⟨_, rfl, ?_⟩; have n0_ := Aside0.mk (Kd.R_elder' (by (with_reducible repeat (first | apply Kd.R_alloc | apply Kd.R_drewN | apply Kd.R_drew)); exact HO211.out) (Kd.R_base ho0) hb); have n1_ := Aside0.mk (Kd.R_elder' (by (with_reducible repeat (first | apply Kd.R_alloc | apply Kd.R_drewN | apply Kd.R_drew)); exact HO214.out) (Kd.R_base ho0) hb); have n2_ := Aside0.mk (Kd.R_elder' (by (with_reducible repeat (first | apply Kd.R_alloc | apply Kd.R_drewN | apply Kd.R_drew)); exact HO221.out) (Kd.R_base ho0) hb); have n3_ := Aside0.mk (Kd.R_lower (Kd.R_new' (Kd.R_new' (Kd.R_new' ho0 (Kd.R_lt (by (with_reducible repeat (first | apply Kd.R_alloc | apply Kd.R_drewN | apply Kd.R_drew)); exact HO211.out))) (Kd.R_lt (by (with_reducible repeat (first | apply Kd.R_alloc | apply Kd.R_drewN | apply Kd.R_drew)); exact HO214.out))) (Kd.R_lt (by (with_reducible repeat (first | apply Kd.R_alloc | apply Kd.R_drewN | apply Kd.R_drew)); exact HO221.out))) (below_size (by repeat (first | (with_reducible first | exact HB.out | apply below_alloc | apply pw_below_drewN | apply below_drew1) | exact HB.out)))); have n4_ := Aside0.mk (below_step (by repeat (first | (with_reducible first | exact HB.out | apply below_alloc | apply pw_below_drewN | apply below_drew1) | exact HB.out)) hb); clear HO211; clear HO214; clear HO221; clear HB; have HO211 := n0_; have HO214 := n1_; have HO221 := n2_; have HO226 := n3_; have HB := n4_; clear n0_ n1_ n2_ n3_ n4_; (try clear hb); (try clear hb2); (try clear hk); (try clear hi); (try clear ho0)) | ((with_reducible refine gate_callee (f := 26) rfl ?_); refine goesL_ (some 43) rfl rfl Try.func26 (by kernel_rfl) rfl #[.int .i64 (t209.length : Int)] rfl (by (try simp only [List.map_toArray, List.map_cons, List.map_nil]); first | done | rfl | (simp only [List.length_drop, List.length_take]; rfl)) ?_; (with_reducible refine (impl_PutNum.calls k (t209.length : Int) t227 _ A17.out).mono ?_); rintro e w28 ⟨v228, rfl, ho0, hb⟩; refine ⟨_, rfl, ?_⟩; have n0_ := Aside0.mk (Kd.R_elder' (by (with_reducible repeat (first | apply Kd.R_alloc | apply Kd.R_drewN | apply Kd.R_drew)); exact HO211.out) (Kd.R_base ho0) hb); have n1_ := Aside0.mk (Kd.R_elder' (by (with_reducible repeat (first | apply Kd.R_alloc | apply Kd.R_drewN | apply Kd.R_drew)); exact HO214.out) (Kd.R_base ho0) hb); have n2_ := Aside0.mk (Kd.R_elder' (by (with_reducible repeat (first | apply Kd.R_alloc | apply Kd.R_drewN | apply Kd.R_drew)); exact HO221.out) (Kd.R_base ho0) hb); have n3_ := Aside0.mk (Kd.R_elder' (by (with_reducible repeat (first | apply Kd.R_alloc | apply Kd.R_drewN | apply Kd.R_drew)); exact HO226.out) (Kd.R_base ho0) hb); have n4_ := Aside0.mk (Kd.R_lower (Kd.R_new' (Kd.R_new' (Kd.R_new' (Kd.R_new' ho0 (Kd.R_lt (by (with_reducible repeat (first | apply Kd.R_alloc | apply Kd.R_drewN | apply Kd.R_drew)); exact HO211.out))) (Kd.R_lt (by (with_reducible repeat (first | apply Kd.R_alloc | apply Kd.R_drewN | apply Kd.R_drew)); exact HO214.out))) (Kd.R_lt (by (with_reducible repeat (first | apply Kd.R_alloc | apply Kd.R_drewN | apply Kd.R_drew)); exact HO221.out))) (Kd.R_lt (by (with_reducible repeat (first | apply Kd.R_alloc | apply Kd.R_drewN | apply Kd.R_drew)); exact HO226.out))) (below_size (by repeat (first | (with_reducible first | exact HB.out | apply below_alloc | apply pw_below_drewN | apply below_drew1) | exact HB.out)))); have n5_ := Aside0.mk (below_step (by repeat (first | (with_reducible first | exact HB.out | apply below_alloc | apply pw_below_drewN | apply below_drew1) | exact HB.out)) hb); clear HO211; clear HO214; clear HO221; clear HO226; clear HB; have HO211 := n0_; have HO214 := n1_; have HO221 := n2_; have HO226 := n3_; have HO229 := n4_; have HB := n5_; clear n0_ n1_ n2_ n3_ n4_ n5_; (try clear hb); (try clear hb2); (try clear hk); (try clear hi); (try clear ho0); obtain ⟨Ao29, co29, eo29⟩ := Kd.R_slice HO229.out; subst eo29))
        (try simp only [Act.put, List.setIfInBounds_toArray, List.set_cons_zero, List.set_cons_succ])
        go_cut [70] (fun v70 wc => ∃ (kq : Nat) (x70_17 : Bool), v70 = .bool x70_17 ∧ Aside0 (laws_FnSeal.j0 kq l0 t212 (t227.length : Int) x70_17 = some r) ∧ Aside0 (kq ≤ k) ∧ Aside0 (Kd.R (Kd.int .u8) 5 wc w.heap.size (fun _ => True) (.slice Ao25 t212.length co25) t212) ∧ Aside0 (Below w.heap.size w wc))
        case first =>
          have H := HC18.out
          clear HC18
          by_cases c30 : t215 = true
          · subst c30
            have H1 : (if t224 = 0 then (if (strOfNums t222).toList = (strOfNums t209).toList then (if t223 = (wrap64 ((t212.length : Int) + 2)) then (laws_FnSeal.j0 k l0 t212 (t227.length : Int) (decide ((t212.length : Int) ≤ (t227.length : Int)))) else (laws_FnSeal.j0 k l0 t212 (t227.length : Int) true)) else (laws_FnSeal.j0 k l0 t212 (t227.length : Int) true)) else (laws_FnSeal.j0 k l0 t212 (t227.length : Int) true)) = some r := by rw [if_pos rfl] at H; exact H
            clear H
            have H := H1
            clear H1
            by_cases c31 : t224 = 0
            · rw [if_pos c31] at H
              have c31b0 : (t224 == 0) = true := beq_iff_eq.mpr c31
              have c31b1 : (t224 != 0) = false := bne_eq_false_iff_eq.mpr c31
              clear c31
              (first | rw [c31b0] | (simp only [i64_w, i32_w]; rw [c31b0]) | skip)
              by_cases c32 : (strOfNums t222).toList = (strOfNums t209).toList
              · rw [if_pos c32] at H
                have c32b0 : ((strOfNums t222).toList == (strOfNums t209).toList) = true := beq_iff_eq.mpr c32
                have c32b1 : ((strOfNums t222).toList != (strOfNums t209).toList) = false := bne_eq_false_iff_eq.mpr c32
                clear c32
                by_cases c33 : t223 = (wrap64 ((t212.length : Int) + 2))
                · rw [if_pos c33] at H
                  have c33b0 : (t223 == (wrap64 ((t212.length : Int) + 2))) = true := beq_iff_eq.mpr c33
                  have c33b1 : (t223 != (wrap64 ((t212.length : Int) + 2))) = false := bne_eq_false_iff_eq.mpr c33
                  clear c33
                  have H' := Aside0.mk H
                  clear H
                  have hcv34 := own_string (P := Try.prog) Try.underlying24 Try.underlying5 Try.underlying9 (Kd.own_of_R HO226.out)
                  have hcv35 := own_string (P := Try.prog) Try.underlying24 Try.underlying5 Try.underlying9 (Kd.own_of_R HO211.out)
                  go_wp2
                  go_meet
                  case rel => exact ⟨_, (decide ((t212.length : Int) ≤ (t227.length : Int))), (by first | rfl | (simp; done) | (simp [*]; done)), H', ⟨by first | omega | exact Nat.le_refl _⟩, ⟨by (with_reducible repeat (first | apply Kd.R_alloc | apply Kd.R_drewN | apply Kd.R_drew)); exact Kd.R_mono HO214.out (fun _ hk => trivial)⟩, ⟨by repeat (first | (with_reducible first | exact HB.out | apply below_alloc | apply pw_below_drewN | apply below_drew1) | exact HB.out)⟩⟩
                · rw [if_neg c33] at H
                  have c33b0 : (t223 == (wrap64 ((t212.length : Int) + 2))) = false := beq_eq_false_iff_ne.mpr c33
                  have c33b1 : (t223 != (wrap64 ((t212.length : Int) + 2))) = true := bne_iff_ne.mpr c33
                  have H' := Aside0.mk H
                  clear H
                  have hcv36 := own_string (P := Try.prog) Try.underlying24 Try.underlying5 Try.underlying9 (Kd.own_of_R HO226.out)
                  have hcv37 := own_string (P := Try.prog) Try.underlying24 Try.underlying5 Try.underlying9 (Kd.own_of_R HO211.out)
                  go_wp2
                  go_meet
                  case rel => exact ⟨_, (true), (by first | rfl | (simp; done) | (simp [*]; done)), H', ⟨by first | omega | exact Nat.le_refl _⟩, ⟨by (with_reducible repeat (first | apply Kd.R_alloc | apply Kd.R_drewN | apply Kd.R_drew)); exact Kd.R_mono HO214.out (fun _ hk => trivial)⟩, ⟨by repeat (first | (with_reducible first | exact HB.out | apply below_alloc | apply pw_below_drewN | apply below_drew1) | exact HB.out)⟩⟩
              · rw [if_neg c32] at H
                have c32b0 : ((strOfNums t222).toList == (strOfNums t209).toList) = false := beq_eq_false_iff_ne.mpr c32
                have c32b1 : ((strOfNums t222).toList != (strOfNums t209).toList) = true := bne_iff_ne.mpr c32
                have H' := Aside0.mk H
                clear H
                have hcv38 := own_string (P := Try.prog) Try.underlying24 Try.underlying5 Try.underlying9 (Kd.own_of_R HO226.out)
                have hcv39 := own_string (P := Try.prog) Try.underlying24 Try.underlying5 Try.underlying9 (Kd.own_of_R HO211.out)
                go_wp2
                go_meet
                case rel => exact ⟨_, (true), (by first | rfl | (simp; done) | (simp [*]; done)), H', ⟨by first | omega | exact Nat.le_refl _⟩, ⟨by (with_reducible repeat (first | apply Kd.R_alloc | apply Kd.R_drewN | apply Kd.R_drew)); exact Kd.R_mono HO214.out (fun _ hk => trivial)⟩, ⟨by repeat (first | (with_reducible first | exact HB.out | apply below_alloc | apply pw_below_drewN | apply below_drew1) | exact HB.out)⟩⟩
            · rw [if_neg c31] at H
              have c31b0 : (t224 == 0) = false := beq_eq_false_iff_ne.mpr c31
              have c31b1 : (t224 != 0) = true := bne_iff_ne.mpr c31
              (first | rw [c31b0] | (simp only [i64_w, i32_w]; rw [c31b0]) | skip)
              have H' := Aside0.mk H
              clear H
              go_wp2
              go_meet
              case rel => exact ⟨_, (true), (by first | rfl | (simp; done) | (simp [*]; done)), H', ⟨by first | omega | exact Nat.le_refl _⟩, ⟨by (with_reducible repeat (first | apply Kd.R_alloc | apply Kd.R_drewN | apply Kd.R_drew)); exact Kd.R_mono HO214.out (fun _ hk => trivial)⟩, ⟨by repeat (first | (with_reducible first | exact HB.out | apply below_alloc | apply pw_below_drewN | apply below_drew1) | exact HB.out)⟩⟩
          · replace c30 := Bool.eq_false_iff.mpr c30
            subst c30
            have H1 : (laws_FnSeal.j0 k l0 t212 (t227.length : Int) true) = some r := by rw [if_neg (show ¬ (false = true) by decide)] at H; exact H
            clear H
            have H := H1
            clear H1
            have H' := Aside0.mk H
            clear H
            go_wp2
            go_meet
            case rel => exact ⟨_, (true), (by first | rfl | (simp; done) | (simp [*]; done)), H', ⟨by first | omega | exact Nat.le_refl _⟩, ⟨by (with_reducible repeat (first | apply Kd.R_alloc | apply Kd.R_drewN | apply Kd.R_drew)); exact Kd.R_mono HO214.out (fun _ hk => trivial)⟩, ⟨by repeat (first | (with_reducible first | exact HB.out | apply below_alloc | apply pw_below_drewN | apply below_drew1) | exact HB.out)⟩⟩
        case rest =>
          clear HC18
          try clear c1
          try clear c2
          try clear p2
          try clear c3
          try clear hcv3
          try clear c4
          try clear c5
          try clear c6
          try clear c6b0
          try clear c6b1
          try clear p6
          try clear c7
          try clear c15
          try clear c17
          try clear c26
          try clear c30
          try clear c31
          try clear c31b0
          try clear c31b1
          try clear c32
          try clear c32b0
          try clear c32b1
          try clear c33
          try clear c33b0
          try clear c33b1
          try clear hcv34
          try clear hcv35
          try clear hcv36
          try clear hcv37
          try clear hcv38
          try clear hcv39
          obtain ⟨kq, x70_17, rfl, HA, HJ17, HO_4, HB⟩ := hcut
          cases kq with
          | zero => exact absurd HA.out (by simp [laws_FnSeal.j0])
          | succ kj17 =>
            have H := HA.out
            clear HA
            simp only [laws_FnSeal.j0] at H
            by_cases c40 : x70_17 = true
            · subst c40
              have H1 : (some false) = some r := by rw [if_pos rfl] at H; exact H
              clear H
              have H := H1
              clear H1
              obtain rfl := Option.some.inj H
              go_wp2
              go_ret
              exact ⟨by first | rfl | (simp [errW_none, errW_some] <;> rfl) | (simp [*, errW_none, errW_some] <;> rfl), by repeat (first | (with_reducible first | exact HB.out | apply below_alloc | apply pw_below_drewN | apply below_drew1) | exact HB.out)⟩
            · replace c40 := Bool.eq_false_iff.mpr c40
              subst c40
              have H1 : ((laws_at.f l0 1).bind fun t230 => (if (wrap64 ((t212.length : Int) - (t227.length : Int))) = 0 then (none) else (if 0 ≤ (wrap64 ((t227.length : Int) + (Int.tmod (wrap64 (t230 * 13)) (wrap64 ((t212.length : Int) - (t227.length : Int)))))) then (if (wrap64 ((t227.length : Int) + (Int.tmod (wrap64 (t230 * 13)) (wrap64 ((t212.length : Int) - (t227.length : Int)))))) < (t212.length : Int) then ((laws_at.f l0 2).bind fun t232 => ((impl_Unseal.f kj17 (t212.set ((wrap64 ((t227.length : Int) + (Int.tmod (wrap64 (t230 * 13)) (wrap64 ((t212.length : Int) - (t227.length : Int)))))) : Int).toNat (Go.bits .xor .u8 (rd t212 (wrap64 ((t227.length : Int) + (Int.tmod (wrap64 (t230 * 13)) (wrap64 ((t212.length : Int) - (t227.length : Int))))))) ((wrap64 (1 + (Int.tmod t232 255))) % 256))) 0).bind fun bt234 => (some (bt234.2.2 == 3)))) else (none)) else (none)))) = some r := by rw [if_neg (show ¬ (false = true) by decide)] at H; exact H
              clear H
              have H := H1
              clear H1
              replace H := Option.bind_eq_some_iff.mp H
              obtain ⟨t230, A410, H⟩ := H
              replace H : (if (wrap64 ((t212.length : Int) - (t227.length : Int))) = 0 then (none) else (if 0 ≤ (wrap64 ((t227.length : Int) + (Int.tmod (wrap64 (t230 * 13)) (wrap64 ((t212.length : Int) - (t227.length : Int)))))) then (if (wrap64 ((t227.length : Int) + (Int.tmod (wrap64 (t230 * 13)) (wrap64 ((t212.length : Int) - (t227.length : Int)))))) < (t212.length : Int) then ((laws_at.f l0 2).bind fun t232 => ((impl_Unseal.f kj17 (t212.set ((wrap64 ((t227.length : Int) + (Int.tmod (wrap64 (t230 * 13)) (wrap64 ((t212.length : Int) - (t227.length : Int)))))) : Int).toNat (Go.bits .xor .u8 (rd t212 (wrap64 ((t227.length : Int) + (Int.tmod (wrap64 (t230 * 13)) (wrap64 ((t212.length : Int) - (t227.length : Int))))))) ((wrap64 (1 + (Int.tmod t232 255))) % 256))) 0).bind fun bt234 => (some (bt234.2.2 == 3)))) else (none)) else (none))) = some r := H
              have A41 := Aside0.mk A410
              clear A410
              by_cases c42 : (wrap64 ((t212.length : Int) - (t227.length : Int))) = 0
              · rw [if_pos c42] at H
                exact absurd H (by simp)
              · rw [if_neg c42] at H
                have c42b0 : ((wrap64 ((t212.length : Int) - (t227.length : Int))) == 0) = false := beq_eq_false_iff_ne.mpr c42
                have c42b1 : ((wrap64 ((t212.length : Int) - (t227.length : Int))) != 0) = true := bne_iff_ne.mpr c42
                obtain ⟨ji43, hji43⟩ : ∃ j_ : Int, (wrap64 ((t227.length : Int) + (Int.tmod (wrap64 (t230 * 13)) (wrap64 ((t212.length : Int) - (t227.length : Int)))))) = j_ := ⟨_, rfl⟩
                replace H : (if 0 ≤ (ji43) then (if (ji43) < (t212.length : Int) then ((laws_at.f l0 2).bind fun t232 => ((impl_Unseal.f kj17 (t212.set ((ji43) : Int).toNat (Go.bits .xor .u8 (rd t212 (ji43)) ((wrap64 (1 + (Int.tmod t232 255))) % 256))) 0).bind fun bt234 => (some (bt234.2.2 == 3)))) else (none)) else (none)) = some r := by first | (rw [hji43] at H; exact H) | (simp only [hji43] at H ⊢; exact H)
                (try rw [hji43] at A41)
                have hji43w : (IntKind.i64.wrap ((t227.length : Int) + (Int.tmod (wrap64 (t230 * 13)) (wrap64 ((t212.length : Int) - (t227.length : Int)))))) = ji43 := (i64_w _).trans hji43
                by_cases c44 : 0 ≤ (ji43)
                · rw [if_pos c44] at H
                  have c44b0 : decide (0 ≤ (ji43)) = true := decide_eq_true c44
                  clear c44
                  by_cases c45 : (ji43) < (t212.length : Int)
                  · rw [if_pos c45] at H
                    have c45b0 : decide ((ji43) < (t212.length : Int)) = true := decide_eq_true c45
                    clear c45
                    replace H := Option.bind_eq_some_iff.mp H
                    obtain ⟨t232, A460, H⟩ := H
                    replace H : ((impl_Unseal.f kj17 (t212.set ((ji43) : Int).toNat (Go.bits .xor .u8 (rd t212 (ji43)) ((wrap64 (1 + (Int.tmod t232 255))) % 256))) 0).bind fun bt234 => (some (bt234.2.2 == 3))) = some r := H
                    have A46 := Aside0.mk A460
                    clear A460
                    obtain ⟨y233, hy233⟩ : ∃ y_ : List Int, y_ = (t212.set ((ji43) : Int).toNat (Go.bits .xor .u8 (rd t212 (ji43)) ((wrap64 (1 + (Int.tmod t232 255))) % 256))) := ⟨_, rfl⟩
                    replace H : ((impl_Unseal.f kj17 y233 0).bind fun bt234 => (some (bt234.2.2 == 3))) = some r := by first | (rw [hy233]; with_reducible exact H) | (have H2_ := (Option.bind_some _ _).symm.trans H; rw [hy233]; with_reducible exact H2_) | (have H2_ := (Option.bind_some _ _).symm.trans H; with_reducible exact H2_) | with_reducible exact H | (rw [hy233]; exact H) | exact H
                    have Ny233 := Aside0.mk hy233
                    clear hy233
                    replace H := Option.bind_eq_some_iff.mp H
                    obtain ⟨⟨t234, t235, t236⟩, A480, H⟩ := H
                    replace H : (some (t236 == 3)) = some r := H
                    have A48 := Aside0.mk A480
                    clear A480
                    obtain rfl := Option.some.inj H
                    try go_wp2_with (first | ((with_reducible refine gate_callee (f := 62) rfl ?_); refine goesL_ (some 73) rfl rfl Try.func62 (by kernel_rfl) rfl #[.slice A0 l0.length c0, .int .i64 1] rfl (by (try simp only [List.map_toArray, List.map_cons, List.map_nil]); first | done | rfl | (simp only [List.length_drop, List.length_take]; rfl)) ?_; (with_reducible refine (laws_at.calls _ _ l0 1 t230 _ ?side1 ?side2 A41.out).mono ?_); (case side1 => repeat (first | exact (Kd.C_below HR0.out HB.out) | (with_reducible refine Kd.C_alloc ?_ _) | (with_reducible refine Kd.C_drewN ?_ _) | (with_reducible refine Kd.C_drew ?_))); (case side2 => exact HC0.out); rintro e w' ⟨rfl, ⟨nd, rfl⟩⟩; refine ⟨_, rfl, ?_⟩; (try (rw [drewN_self wc]; generalize hq_ : World.drewN wc _ = wc; have n0_ : Aside0 (Kd.R (Kd.int .u8) 5 wc w.heap.size (fun _ => True) (.slice Ao25 t212.length co25) t212) := ⟨by rw [← hq_]; exact (by (with_reducible repeat (first | apply Kd.R_alloc | apply Kd.R_drewN | apply Kd.R_drew)); exact HO_4.out)⟩; have n1_ : Aside0 (Below w.heap.size w wc) := ⟨by rw [← hq_]; exact (by repeat (first | (with_reducible first | exact HB.out | apply below_alloc | apply pw_below_drewN | apply below_drew1) | exact HB.out))⟩; clear HO_4 HB hq_; have HO_4 := n0_; have HB := n1_; clear n0_ n1_))))
                    have n0_ := Aside0.mk (Kd.R_drew HO_4.out)
                    have n1_ := Aside0.mk (below_drew1 HB.out)
                    clear HO_4
                    clear HB
                    have HO_4 := n0_
                    have HB := n1_
                    clear n0_ n1_
                    have p231 : 0 ≤ ((ji43) : Int) := of_decide_eq_true (by first | (with_reducible assumption) | assumption)
                    have q231 : (ji43) < (t212.length : Int) := of_decide_eq_true (by first | (with_reducible assumption) | assumption)
                    obtain ⟨ad231, e231, hx231_0⟩ := Kd.at_int (Kd.R_reads' HO_4.out).2.2 (ji43) p231 q231
                    cases e231
                    replace p231 := eq_true p231
                    replace q231 := eq_true q231
                    refine start_ (n := 14) (S := fun w' => w'.cell? (ad231.add ((ji43)).toNat) = some (.int .u8 (rd t212 (ji43)))) (ds := [13]) #[false, false, false, false, false, false, false, false, false, false, false, false, false, false] (by kernel_rfl) rfl rfl (hx231_0) (fun hHeld => ?_); refine with_tabW laws_FnSeal.tab12 laws_FnSeal.bits12 (fun HT_ HW_ => ?_)
                    generalize wc.drew = w49 at HO_4 HB hx231_0 hHeld ⊢
                    refine pure_ (i := 0) (N := some 81) (v := ?_) (a' := ?_) #[true, false, false, false, false, false, false, false, false, false, false, false, false, false] rfl rfl (any_of HT_.out (by kernel_rfl)) (fun _ _ _ h => h) (Or.inl ⟨by rfl, ?_⟩) ?_ ?_
                    rotate_left
                    · intro w'
                      go_simp
                      with_reducible rfl
                    rotate_left
                    · simp only [Act.put, List.setIfInBounds_toArray, List.set_cons_zero, List.set_cons_succ, i64_w, i32_w]
                      rfl
                    refine pure_ (i := 1) (N := some 82) (v := ?_) (a' := ?_) #[true, true, false, false, false, false, false, false, false, false, false, false, false, false] rfl rfl (any_of HT_.out (by kernel_rfl)) (fun _ _ _ h => h) (Or.inl ⟨by rfl, ?_⟩) ?_ ?_
                    rotate_left
                    · intro w'
                      go_simp
                      with_reducible rfl
                    rotate_left
                    · simp only [Act.put, List.setIfInBounds_toArray, List.set_cons_zero, List.set_cons_succ, i64_w, i32_w]
                      rfl
                    refine pure_ (i := 2) (N := some 83) (v := ?_) (a' := ?_) #[true, true, true, false, false, false, false, false, false, false, false, false, false, false] rfl rfl (any_of HT_.out (by kernel_rfl)) (fun _ _ _ h => h) (Or.inl ⟨by rfl, ?_⟩) ?_ ?_
                    rotate_left
                    · intro w'
                      go_simp
                      with_reducible rfl
                    rotate_left
                    · simp only [Act.put, List.setIfInBounds_toArray, List.set_cons_zero, List.set_cons_succ, i64_w, i32_w]
                      rfl
                    refine pure_ (i := 3) (N := some 84) (v := ?_) (a' := ?_) #[true, true, true, true, false, false, false, false, false, false, false, false, false, false] rfl rfl (any_of HT_.out (by kernel_rfl)) (fun _ _ _ h => h) (Or.inl ⟨by rfl, ?_⟩) ?_ ?_
                    rotate_left
                    · intro w'
                      go_simp
                      with_reducible rfl
                    rotate_left
                    · simp only [Act.put, List.setIfInBounds_toArray, List.set_cons_zero, List.set_cons_succ, i64_w, i32_w]
                      rfl
                    refine pure_ (i := 4) (N := some 85) (v := ?_) (a' := ?_) #[true, true, true, true, true, false, false, false, false, false, false, false, false, false] rfl rfl (any_of HT_.out (by kernel_rfl)) (fun _ _ _ h => h) (Or.inl ⟨by rfl, ?_⟩) ?_ ?_
                    rotate_left
                    · intro w'
                      go_simp
                      with_reducible rfl
                    rotate_left
                    · simp only [Act.put, List.setIfInBounds_toArray, List.set_cons_zero, List.set_cons_succ, i64_w, i32_w]
                      rfl
                    refine pure_ (i := 6) (N := some 87) (v := ?_) (a' := ?_) #[true, true, true, true, true, false, true, false, false, false, false, false, false, false] rfl rfl (any_of HT_.out (by kernel_rfl)) (fun _ _ _ h => h) (Or.inl ⟨by rfl, ?_⟩) ?_ ?_
                    rotate_left
                    · intro w'
                      go_simp
                      with_reducible rfl
                    rotate_left
                    · simp only [Act.put, List.setIfInBounds_toArray, List.set_cons_zero, List.set_cons_succ, i64_w, i32_w]
                      rfl
                    refine take_ (i := 5) (N := some 86) (v := ?_) (a' := ?_) #[true, true, true, true, true, true, true, false, false, false, false, false, false, false] rfl rfl (take_ofW HT_.out HW_.out (by kernel_rfl)) (fun _ _ _ h => h) (Or.inl ⟨by rfl, ?_⟩) hHeld ?_ ?_
                    rotate_left
                    · intro w' s0
                      go_simp
                      with_reducible rfl
                    rotate_left
                    · simp only [Act.put, List.setIfInBounds_toArray, List.set_cons_zero, List.set_cons_succ, i64_w, i32_w]
                      rfl
                    refine one_ (i := 7) (N := some 88) #[true, true, true, true, true, true, true, true, false, false, false, false, false, false] rfl rfl (one_of HT_.out (by kernel_rfl)) (by decide) (fun K hK => ?_)
                    refine goes_ Try.func62 (by kernel_rfl) rfl #[.slice A0 l0.length c0, .int .i64 2] (by rfl) rfl rfl (by (try simp only [List.map_toArray, List.map_cons, List.map_nil]); first | done | rfl | (simp only [List.length_drop, List.length_take]; rfl)) ?_
                    with_reducible refine (laws_at.calls _ _ l0 2 t232 _ ?side1 ?side2 A46.out).mono ?_
                    (case side1 => repeat (first | exact (Kd.C_below HR0.out HB.out) | (with_reducible refine Kd.C_alloc ?_ _) | (with_reducible refine Kd.C_drewN ?_ _) | (with_reducible refine Kd.C_drew ?_)))
                    (case side2 => exact HC0.out)
                    rintro e w' ⟨rfl, ⟨nd, rfl⟩⟩
                    refine ⟨_, rfl, ?_⟩
                    have p47 : 0 ≤ ((ji43) : Int) := of_decide_eq_true (by first | (with_reducible assumption) | assumption)
                    have q47 : ((ji43) : Int) < ((t212.length : Int) : Int) := of_decide_eq_true (by first | (with_reducible assumption) | assumption)
                    obtain ⟨go47, co47, eo47, gb47, gl47, cl47, HG47⟩ := Kd.R_form HO_4.out (by omega)
                    (first | cases eo47 | (injection eo47 with ea_ en_ ec_; (first | subst ea_ | (injection ea_ with ea_; subst ea_)); subst ec_; clear en_))
                    have GB47 := Aside0.mk gb47
                    have GG47 := Aside0.mk HG47
                    clear gb47 gl47 HG47
                    (first | simp only [add_plain] at hx231_0 | skip)
                    obtain ⟨hx47_0, hf47_0⟩ := Kd.R_celln 0 HO_4.out ((ji43) : Int) p47 q47
                    replace p47 := eq_true p47
                    replace q47 := eq_true q47
                    have HP50 := Kd.R_putn HO_4.out ((ji43) : Int) (Go.bits .xor .u8 (rd t212 (ji43)) ((wrap64 (1 + (Int.tmod t232 255))) % 256))
                    rw [← Ny233.out] at HP50
                    have HQ50 := Aside0.mk HP50
                    clear HP50
                    refine hK.out _ _ (hHeld) (fun hHeld => ?_)
                    clear hK K
                    refine norm_ (a' := ?_) ?_ ?_
                    rotate_left
                    · show Act.put _ (some 88) _ = _
                      simp only [Act.put, List.setIfInBounds_toArray, List.set_cons_zero, List.set_cons_succ, i64_w, i32_w]
                      rfl
                    refine pure_ (i := 8) (N := some 89) (v := ?_) (a' := ?_) #[true, true, true, true, true, true, true, true, true, false, false, false, false, false] rfl rfl (any_of HT_.out (by kernel_rfl)) (fun _ _ _ h => h) (Or.inl ⟨by rfl, ?_⟩) ?_ ?_
                    rotate_left
                    · intro w'
                      go_simp
                      with_reducible rfl
                    rotate_left
                    · simp only [Act.put, List.setIfInBounds_toArray, List.set_cons_zero, List.set_cons_succ, i64_w, i32_w]
                      rfl
                    refine pure_ (i := 9) (N := some 90) (v := ?_) (a' := ?_) #[true, true, true, true, true, true, true, true, true, true, false, false, false, false] rfl rfl (any_of HT_.out (by kernel_rfl)) (fun _ _ _ h => h) (Or.inl ⟨by rfl, ?_⟩) ?_ ?_
                    rotate_left
                    · intro w'
                      go_simp
                      with_reducible rfl
                    rotate_left
                    · simp only [Act.put, List.setIfInBounds_toArray, List.set_cons_zero, List.set_cons_succ, i64_w, i32_w]
                      rfl
                    refine pure_ (i := 10) (N := some 91) (v := ?_) (a' := ?_) #[true, true, true, true, true, true, true, true, true, true, true, false, false, false] rfl rfl (any_of HT_.out (by kernel_rfl)) (fun _ _ _ h => h) (Or.inl ⟨by rfl, ?_⟩) ?_ ?_
                    rotate_left
                    · intro w'
                      go_simp
                      with_reducible rfl
                    rotate_left
                    · simp only [Act.put, List.setIfInBounds_toArray, List.set_cons_zero, List.set_cons_succ, i64_w, i32_w]
                      rfl
                    refine pure_ (i := 11) (N := some 92) (v := ?_) (a' := ?_) #[true, true, true, true, true, true, true, true, true, true, true, true, false, false] rfl rfl (any_of HT_.out (by kernel_rfl)) (fun _ _ _ h => h) (Or.inl ⟨by rfl, ?_⟩) ?_ ?_
                    rotate_left
                    · intro w'
                      go_simp
                      with_reducible rfl
                    rotate_left
                    · simp only [Act.put, List.setIfInBounds_toArray, List.set_cons_zero, List.set_cons_succ, i64_w, i32_w]
                      rfl
                    refine pure_ (i := 12) (N := some 93) (v := ?_) (a' := ?_) #[true, true, true, true, true, true, true, true, true, true, true, true, true, false] rfl rfl (any_of HT_.out (by kernel_rfl)) (fun _ _ _ h => h) (Or.inl ⟨by rfl, ?_⟩) ?_ ?_
                    rotate_left
                    · intro w'
                      go_simp
                      with_reducible rfl
                    rotate_left
                    · simp only [Act.put, List.setIfInBounds_toArray, List.set_cons_zero, List.set_cons_succ, i64_w, i32_w]
                      rfl
                    refine last_ (i := 13) (N := none) #[true, true, true, true, true, true, true, true, true, true, true, true, true, true] rfl rfl (one_of HT_.out (by kernel_rfl)) (by decide) (fun K hK => ?_)
                    refine skip_ (w1 := ?_) (by rfl) rfl ?_ ?_
                    rotate_left
                    · go_simp
                      rfl
                    refine hK.out _ _ ?_
                    clear hK K
                    refine done_ (done_of HT_.out (by kernel_rfl)) ?_
                    try go_wp2_with (first | ((with_reducible refine gate_callee (f := 53) rfl ?_); refine goesL_ (some 96) rfl rfl Try.func53 (by kernel_rfl) rfl #[.slice (some ⟨go47, 0, none⟩) y233.length co25, .int .i64 0] rfl (by (try simp only [List.map_toArray, List.map_cons, List.map_nil]); first | done | (rw [show y233.length = t212.length from (Kd.R_reads' HQ50.out).1.symm] <;> rfl) | rfl | (simp only [List.length_drop, List.length_take]; rfl)) ?_; (with_reducible refine (impl_Unseal.calls kj17 _ _ y233 0 t234 t235 t236 _ ?side1 ?side2 A48.out).mono ?_); (case side1 => refine (Kd.R_reads' (e := 5) (base := w.heap.size) (ok := fun k_ => True) (n := t212.length) (c := co25) ?_).2.2; exact (by (with_reducible repeat (first | apply Kd.R_alloc | apply Kd.R_drewN | apply Kd.R_drew)); exact HQ50.out)); (case side2 => rw [show y233.length = t212.length from (Kd.R_reads' HQ50.out).1.symm]; exact (Kd.R_reads' HO_4.out).2.1); rintro e w51 ⟨v237, rfl, ho0, hb⟩; refine ⟨_, rfl, ?_⟩; have n0_ := Aside0.mk (Kd.R_elder' (by (with_reducible repeat (first | apply Kd.R_alloc | apply Kd.R_drewN | apply Kd.R_drew)); exact HQ50.out) (Kd.R_base ho0) hb); have n1_ := Aside0.mk (Kd.R_lower (Kd.R_new' ho0 (Kd.R_lt (by (with_reducible repeat (first | apply Kd.R_alloc | apply Kd.R_drewN | apply Kd.R_drew)); exact HQ50.out))) (below_size (by repeat (first | (with_reducible first | exact HB.out | apply below_alloc | apply pw_below_drewN | apply below_drew1 | refine below_set ?_ GB47.out) | exact HB.out)))); have n2_ := Aside0.mk (below_step (by repeat (first | (with_reducible first | exact HB.out | apply below_alloc | apply pw_below_drewN | apply below_drew1 | refine below_set ?_ GB47.out) | exact HB.out)) hb); clear HO_4; clear HB; have HO_4 := n0_; have HO238 := n1_; have HB := n2_; clear n0_ n1_ n2_; (try clear hb); (try clear hb2); (try clear hk); (try clear hi); (try clear ho0)))
                    go_ret
                    exact ⟨by first | rfl | (simp [errW_none, errW_some] <;> rfl) | (simp only [← hji43]; first | rfl | (simp [errW_none, errW_some] <;> rfl)) | (simp [*, errW_none, errW_some] <;> rfl), by repeat (first | (with_reducible first | exact HB.out | apply below_alloc | apply pw_below_drewN | apply below_drew1) | exact HB.out)⟩
                  · rw [if_neg c45] at H
                    exact absurd H (by simp)
                · rw [if_neg c44] at H
                  exact absurd H (by simp)
      · rw [if_neg c15] at H
        exact absurd H (by simp)

/-- THE ONE PURE STATEMENT of laws_FnSeal: yours. -/
def laws_FnSeal.Pure : Prop := ∀ (l0 : List Int), l0.length ≤ maxLen → l0.length * 1 ≤ 140737488351232 → (∀ x ∈ l0, (Lit.int .u8 x).wf = true) → ∃ k, laws_FnSeal.f k l0 = some true
theorem laws_FnSeal.walk (P : laws_FnSeal.Pure) (a0 : Option Addr) (len0 cap0 : Nat) (z0 : List Int) (w : World) (w0 : (a0 = none ∧ len0 = 0 ∧ cap0 = 0 ∧ z0 = []) ∨ ∃ x, a0 = some x ∧ len0 ≤ cap0 ∧ cap0 ≤ maxLen ∧ z0.length = cap0 ∧ (∀ i, i < z0.length → w.cell? (x.add i) = some (.int .u8 (z0.getD i 0))) ∧ ∀ n ∈ z0, (Lit.int .u8 n).wf = true) (y0 : len0 * 1 ≤ 140737488351232) :
    Calls Try.prog 17 #[.slice a0 len0 cap0] w fun e w' => e = .returned (.bool true) ∧ Below w.heap.size w w' := by
  obtain ⟨l0, rfl, hr0, hm0, hw0, hc0⟩ := ReadsInt.ofRowC w0
  obtain ⟨k, h⟩ := P l0 hm0 y0 hw0
  refine (laws_FnSeal.calls k _ _ l0 true w (Kd.C_of_reads (d := (0 : Int)) (h1 := fun _ => rfl) hr0) hc0 h).mono ?_
  rintro e w' ⟨rfl, hd⟩
  exact ⟨rfl, hd⟩

end Go.Proofs.Ytnafmfhfonhmaaa.PFnSeal
