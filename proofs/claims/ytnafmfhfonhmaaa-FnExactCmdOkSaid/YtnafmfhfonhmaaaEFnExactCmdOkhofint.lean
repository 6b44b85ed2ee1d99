-- Filled by wip/printx.py out of wip/ext: functions proved by hand
import Derived.Test.YtnafmfhfonhmaaaPFnExactCmdOkx0
import Derived.Shelf.Abstract
namespace Go.Proofs.Ytnafmfhfonhmaaa.PFnExactCmdOk
open Go.RowKit Go.Proofs.YtnafmfhfonhmaaaW.PrintWords Go.Proofs.YtnafmfhfonhmaaaW.PrintLast Go.Proofs.YtnafmfhfonhmaaaW.PrintMore
set_option linter.unusedVariables false
set_option linter.unusedSimpArgs false
-- import Shelf.Abstract
/-! slices.IndexFunc and slices.ContainsFunc at []int, for whatever predicate that keeps what is known of the world ('Rel') -/
def idxF {α : Type} (p : α → Bool) (l : List α) : Int := match l.findIdx? p with
  | some i => i
  | none => -1
theorem idxF_hit {α : Type} (p : α → Bool) (l : List α) (i : Nat) (h : i < l.length) (hi : p l[i] = true) (hb : ∀ j, (hj : j < i) → p (l[j]'(by omega)) = false) : idxF p l = i := by
  unfold idxF
  have : l.findIdx? p = some i := by rw [List.findIdx?_eq_some_iff_getElem]; exact ⟨h, hi, fun j hj => by simp [hb j hj]⟩
  rw [this]
theorem idxF_miss {α : Type} (p : α → Bool) (l : List α) (hb : ∀ j, (hj : j < l.length) → p l[j] = false) : idxF p l = -1 := by
  unfold idxF
  have : l.findIdx? p = none := by
    rw [List.findIdx?_eq_none_iff]
    intro x hx
    obtain ⟨j, hj, rfl⟩ := List.mem_iff_getElem.1 hx
    exact hb j hj
  rw [this]
theorem idxF_any {α : Type} (p : α → Bool) (l : List α) : decide (0 ≤ idxF p l) = l.any p := by
  unfold idxF
  cases h : l.findIdx? p with
  | none =>
    rw [List.findIdx?_eq_none_iff] at h
    simp
    exact h
  | some i =>
    rw [List.findIdx?_eq_some_iff_getElem] at h
    obtain ⟨hi, hp, _⟩ := h
    simp
    exact ⟨_, List.getElem_mem hi, hp⟩
set_option maxHeartbeats 2000000 in
theorem hof_idx_int (Rel : World → Prop) (g : Nat) (lb : Array Value) (p : Int → Bool) (eg : ∀ args w, (callFunc g args).run Try.prog w = .ok (.enter g args) w) (A : Option Addr) (c : Nat) (l : List Int) (w : World)
    (h0 : Rel w) (hr : ∀ W, Rel W → Kd.C (Kd.int .i64) W A l.length l) (hp : ∀ W x, x ∈ l → Rel W → Calls Try.prog g (#[.int .i64 x] ++ lb) W fun e w' => e = .returned (.bool (p x)) ∧ Rel w') :
    Calls Try.prog 88 #[.slice A l.length c, .func (.func g) #[] lb] w fun e w' => e = .returned (.int .i64 (idxF p l)) ∧ Rel w' := by
  have HR := Aside0.mk hr
  have hbig : l.length ≤ 9223372036854775807 := Kd.C_max (hr w h0)
  clear hr
  have HP := Aside0.mk hp
  have H0 := Aside0.mk h0
  clear hp h0
  go_enter Try.func88, Try.ntmps88
  go_wp2
  go_loopg [5, 8] (l.length + 1) (fun gg _ s8 wr => ∃ i : Int, s8 = .int .i64 i ∧ Aside0 (0 ≤ i ∧ i ≤ l.length ∧ (l.length : Int) - i < gg) ∧ Aside0 (Rel wr) ∧ Aside0 (∀ j, (hj : j < l.length) → (j : Int) < i → p l[j] = false))
  case atStart => exact ⟨0, rfl, ⟨by omega⟩, ⟨H0.out⟩, ⟨fun j hj h => absurd h (by omega)⟩⟩
  case round =>
    obtain ⟨i, rfl, I, BW, B⟩ := hrel
    by_cases hlt : i < (l.length : Int)
    · have c1 : decide (i < (l.length : Int)) = true := decide_eq_true hlt
      have c2 : decide (0 ≤ i) = true := decide_eq_true I.out.1
      obtain ⟨ad, rfl, hx⟩ := Kd.at_int (HR.out wr BW.out) i I.out.1 hlt
      obtain ⟨n, hn⟩ := Int.eq_ofNat_of_zero_le I.out.1
      have hnl : n < l.length := by omega
      have hy : l[n] = rd l i := by subst hn; simp only [rd, List.getD_eq_getElem?_getD, Int.toNat_natCast]; rw [List.getElem?_eq_getElem hnl]; rfl
      have hcall := HP.out wr (rd l i) (by rw [← hy]; exact List.getElem_mem hnl) BW.out
      have p1 := eq_true I.out.1
      have q1 := eq_true hlt
      have N := Aside0.mk (⟨hn, hnl⟩ : i = n ∧ n < l.length)
      clear hn hlt
      generalize rd l i = y at hx hcall hy
      have Y := Aside0.mk hy
      clear hy
      cases hq : p y with
      | true =>
        rw [hq] at hcall
        go_wp2_with (go_at_fn g; refine hcall.mono ?_; rintro e w' ⟨rfl, hb'⟩)
        go_ret
        exact ⟨by rw [N.out.1, idxF_hit p l n N.out.2 (by rw [Y.out]; exact hq) (fun j hj => B.out j (by omega) (by have := N.out.1; omega))]; rfl, hb'⟩
      | false =>
        rw [hq] at hcall
        go_wp2_with (go_at_fn g; refine hcall.mono ?_; rintro e w' ⟨rfl, hb'⟩)
        cases gk with
        | zero => exact absurd I.out (by omega)
        | succ k1 =>
          have hw : wrap64 (i + 1) = i + 1 := by have := I.out; have := N.out; unfold wrap64; omega
          go_roundg k1
          case measure => have := I.out; omega
          case rel =>
            refine ⟨i + 1, by rw [hw], ⟨by have := I.out; have := N.out; omega⟩, ⟨hb'⟩, ⟨fun j hj h => ?_⟩⟩
            by_cases e : j = n
            · subst e
              rw [Y.out]; exact hq
            · exact B.out j hj (by have := N.out; omega)
    · have c1 : decide (i < (l.length : Int)) = false := decide_eq_false hlt
      have I2 := Aside0.mk hlt
      clear hlt
      go_wp2
      go_ret
      exact ⟨by rw [idxF_miss p l (fun j hj => B.out j hj (by have := I2.out; omega))]; rfl, BW.out⟩
theorem hof_has_int (Rel : World → Prop) (g : Nat) (lb : Array Value) (p : Int → Bool) (eg : ∀ args w, (callFunc g args).run Try.prog w = .ok (.enter g args) w) (A : Option Addr) (c : Nat) (l : List Int) (w : World)
    (h0 : Rel w) (hr : ∀ W, Rel W → Kd.C (Kd.int .i64) W A l.length l) (hp : ∀ W x, x ∈ l → Rel W → Calls Try.prog g (#[.int .i64 x] ++ lb) W fun e w' => e = .returned (.bool (p x)) ∧ Rel w') :
    Calls Try.prog 73 #[.slice A l.length c, .func (.func g) #[] lb] w fun e w' => e = .returned (.bool (l.any p)) ∧ Rel w' := by
  have hc := hof_idx_int Rel g lb p eg A c l w h0 hr hp
  have he := idxF_any p l
  generalize idxF p l = i at hc he
  have E := Aside0.mk he
  clear hr hp h0 he
  go_enter Try.func73, Try.ntmps73
  go_wp2_with (go_at_call 88; refine hc.mono ?_; rintro e w' ⟨rfl, hb'⟩)
  go_ret
  exact ⟨by rw [← E.out]; rfl, hb'⟩

end Go.Proofs.Ytnafmfhfonhmaaa.PFnExactCmdOk
