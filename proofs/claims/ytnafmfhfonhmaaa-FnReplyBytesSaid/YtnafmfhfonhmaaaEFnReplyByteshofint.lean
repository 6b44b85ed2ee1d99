-- Filled by wip/printx.py out of wip/ext: functions proved by hand
import Derived.Test.YtnafmfhfonhmaaaPFnReplyBytesx0
import Derived.Shelf.Abstract
namespace Go.Proofs.Ytnafmfhfonhmaaa.PFnReplyBytes
open Go.RowKit Go.Proofs.YtnafmfhfonhmaaaW.PrintWords Go.Proofs.YtnafmfhfonhmaaaW.PrintLast Go.Proofs.YtnafmfhfonhmaaaW.PrintMore
set_option linter.unusedVariables false
set_option linter.unusedSimpArgs false
-- import Shelf.Abstract
/-! slices.IndexFunc and slices.ContainsFunc at []int, for whatever predicate that keeps what is known of the world ('Rel') -/
/-- Go on until the predicate says yes: the place, or -1 (i: the place of the first one). -/
def idxO {α : Type} (p : α → Option Bool) : List α → Int → Option Int
  | [], _ => some (-1)
  | x :: xs, i => (p x).bind fun b => if b = true then some i else idxO p xs (i + 1)
def hasO {α : Type} (p : α → Option Bool) : List α → Option Bool
  | [] => some false
  | x :: xs => (p x).bind fun b => if b = true then some true else hasO p xs
theorem idxO_mono {α : Type} {p q : α → Option Bool} (h : ∀ x, LeO (p x) (q x)) : ∀ (l : List α) (i : Int), LeO (idxO p l i) (idxO q l i)
  | [], _ => LeO.refl _
  | x :: xs, i => LeO.bind (h x) (fun b => LeO.ite (LeO.refl _) (idxO_mono h xs (i + 1)))
theorem hasO_mono {α : Type} {p q : α → Option Bool} (h : ∀ x, LeO (p x) (q x)) : ∀ (l : List α), LeO (hasO p l) (hasO q l)
  | [] => LeO.refl _
  | x :: xs => LeO.bind (h x) (fun b => LeO.ite (LeO.refl _) (hasO_mono h xs))
theorem idxO_range {α : Type} {p : α → Option Bool} : ∀ (l : List α) (i r : Int), 0 ≤ i → idxO p l i = some r → r = -1 ∨ 0 ≤ r
  | [], _, r, _, h => .inl (Option.some.inj h).symm
  | x :: xs, i, r, h0, h => by
    simp only [idxO] at h
    obtain ⟨b, _, h⟩ := Option.bind_eq_some_iff.1 h
    split at h
    · obtain rfl := Option.some.inj h
      exact .inr h0
    · exact idxO_range xs (i + 1) r (by omega) h
theorem hasO_idx {α : Type} {p : α → Option Bool} : ∀ (l : List α) (i : Int), 0 ≤ i → ∀ b, hasO p l = some b → ∃ r, idxO p l i = some r ∧ decide (0 ≤ r) = b
  | [], _, _, b, h => ⟨-1, rfl, by obtain rfl := Option.some.inj h; rfl⟩
  | x :: xs, i, h0, b, h => by
    simp only [hasO] at h
    obtain ⟨c, hc, h⟩ := Option.bind_eq_some_iff.1 h
    simp only [idxO, hc, Option.bind_some]
    by_cases e : c = true
    · rw [if_pos e] at h ⊢
      exact ⟨i, rfl, by obtain rfl := Option.some.inj h; simpa using h0⟩
    · rw [if_neg e] at h ⊢
      exact hasO_idx xs (i + 1) (by omega) b h
set_option maxHeartbeats 2000000 in
theorem hof_idx_int (Rel : World → Prop) (g : Nat) (lb : Array Value) (p : Int → Option Bool) (eg : ∀ args w, (callFunc g args).run Try.prog w = .ok (.enter g args) w) (A : Option Addr) (c : Nat) (l : List Int) (r : Int) (w : World)
    (h0 : Rel w) (hr : ∀ W, Rel W → Kd.C (Kd.int .i64) W A l.length l) (hp : ∀ W x b, x ∈ l → p x = some b → Rel W → Calls Try.prog g (#[.int .i64 x] ++ lb) W fun e w' => e = .returned (.bool b) ∧ Rel w') (h : idxO p l 0 = some r) :
    Calls Try.prog 88 #[.slice A l.length c, .func (.func g) #[] lb] w fun e w' => e = .returned (.int .i64 r) ∧ Rel w' := by
  have HR := Aside0.mk hr
  have hbig : l.length ≤ 9223372036854775807 := Kd.C_max (hr w h0)
  clear hr
  have HP := Aside0.mk hp
  have H0 := Aside0.mk h0
  have H := Aside0.mk h
  clear hp h0 h
  go_enter Try.func88, Try.ntmps88
  go_wp2
  go_loopg [5, 8] (l.length + 1) (fun gg _ s8 wr => ∃ i : Int, s8 = .int .i64 i ∧ Aside0 (0 ≤ i ∧ i ≤ l.length ∧ (l.length : Int) - i < gg) ∧ Aside0 (Rel wr) ∧ Aside0 (idxO p (l.drop i.toNat) i = some r))
  case atStart => exact ⟨0, rfl, ⟨by omega⟩, ⟨H0.out⟩, ⟨H.out⟩⟩
  case round =>
    obtain ⟨i, rfl, I, BW, B⟩ := hrel
    by_cases hlt : i < (l.length : Int)
    · have c1 : decide (i < (l.length : Int)) = true := decide_eq_true hlt
      have c2 : decide (0 ≤ i) = true := decide_eq_true I.out.1
      obtain ⟨ad, rfl, hx⟩ := Kd.at_int (HR.out wr BW.out) i I.out.1 hlt
      obtain ⟨n, hn⟩ := Int.eq_ofNat_of_zero_le I.out.1
      have hnl : n < l.length := by omega
      have hy : l[n] = rd l i := by subst hn; simp only [rd, List.getD_eq_getElem?_getD, Int.toNat_natCast]; rw [List.getElem?_eq_getElem hnl]; rfl
      have hB := B.out
      rw [show i.toNat = n from by omega, List.drop_eq_getElem_cons hnl, hy] at hB
      simp only [idxO] at hB
      obtain ⟨b, hb, hB⟩ := Option.bind_eq_some_iff.1 hB
      have hcall := HP.out wr (rd l i) b (by rw [← hy]; exact List.getElem_mem hnl) hb BW.out
      have p1 := eq_true I.out.1
      have q1 := eq_true hlt
      have N := Aside0.mk (⟨hn, hnl⟩ : i = n ∧ n < l.length)
      have HB := Aside0.mk hB
      clear hn hlt hB hb
      generalize rd l i = y at hx hcall hy
      clear hy
      cases b with
      | true =>
        go_wp2_with (go_at_fn g; refine hcall.mono ?_; rintro e w' ⟨rfl, hb'⟩)
        go_ret
        exact ⟨by rw [← Option.some.inj HB.out]; rfl, hb'⟩
      | false =>
        go_wp2_with (go_at_fn g; refine hcall.mono ?_; rintro e w' ⟨rfl, hb'⟩)
        cases gk with
        | zero => exact absurd I.out (by omega)
        | succ k1 =>
          have hw : wrap64 (i + 1) = i + 1 := by have := I.out; have := N.out; unfold wrap64; omega
          go_roundg k1
          case measure => have := I.out; omega
          case rel =>
            refine ⟨i + 1, by rw [hw], ⟨by have := I.out; have := N.out; omega⟩, ⟨hb'⟩, ⟨?_⟩⟩
            have := HB.out
            rw [if_neg (by decide)] at this
            rw [show (i + 1).toNat = n + 1 from by have := N.out; omega]
            exact this
    · have c1 : decide (i < (l.length : Int)) = false := decide_eq_false hlt
      have hB := B.out
      rw [List.drop_eq_nil_of_le (by omega)] at hB
      have HB := Aside0.mk hB
      clear hlt hB
      go_wp2
      go_ret
      exact ⟨by rw [← Option.some.inj HB.out]; rfl, BW.out⟩
theorem hof_has_int (Rel : World → Prop) (g : Nat) (lb : Array Value) (p : Int → Option Bool) (eg : ∀ args w, (callFunc g args).run Try.prog w = .ok (.enter g args) w) (A : Option Addr) (c : Nat) (l : List Int) (r : Bool) (w : World)
    (h0 : Rel w) (hr : ∀ W, Rel W → Kd.C (Kd.int .i64) W A l.length l) (hp : ∀ W x b, x ∈ l → p x = some b → Rel W → Calls Try.prog g (#[.int .i64 x] ++ lb) W fun e w' => e = .returned (.bool b) ∧ Rel w') (h : hasO p l = some r) :
    Calls Try.prog 73 #[.slice A l.length c, .func (.func g) #[] lb] w fun e w' => e = .returned (.bool r) ∧ Rel w' := by
  obtain ⟨i, hi, he⟩ := hasO_idx l 0 (by omega) r h
  have hc := hof_idx_int Rel g lb p eg A c l i w h0 hr hp hi
  have E := Aside0.mk he
  clear hr hp h0 he h hi
  go_enter Try.func73, Try.ntmps73
  go_wp2_with (go_at_call 88; refine hc.mono ?_; rintro e w' ⟨rfl, hb'⟩)
  go_ret
  exact ⟨by rw [← E.out]; rfl, hb'⟩

end Go.Proofs.Ytnafmfhfonhmaaa.PFnReplyBytes
