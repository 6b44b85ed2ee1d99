/- The laws' helpers over File: copies, comparisons of the same data, marks. No condition. -/
import Derived.Test.YtbbeaghhchjkgaaKit
import Derived.Deep.DrawnRows
namespace Go.Proofs.Ytbbeaghhchjkgaa.Lw
open Go.RowKit Go.Proofs.YtbbeaghhchjkgaaW.PrintWords Go.Proofs.Ytbbeaghhchjkgaa.Sp Go.Proofs.Ytbbeaghhchjkgaa.Ty
set_option linter.unusedVariables false
set_option linter.unusedSimpArgs false
attribute [local go_sem ↓] Go.wp_at_zero Go.wp_at_succ
theorem infoFile : (Try.prog.info? 44).map (fun i => (i.zero, i.size, i.bytes)) = some (some (.agg (File.enc File.z).toArray), 3, 40) := by kernel_rfl
theorem sizeFile : (Try.prog.info? 44).map (·.size) = some 3 := by kernel_rfl
set_option maxRecDepth 100000 in
theorem toFile (x : File) (w : World) : Calls Try.prog 88 #[.agg (File.enc x).toArray] w fun e w' => e = .returned (.agg (File.enc x).toArray) ∧ Below w.heap.size w w' := by
  obtain ⟨a0, a1, a2⟩ := x
  simp only [File.enc]
  have hu := Try.underlying44
  go_enter Try.func88, Try.ntmps88
  go_wp2
  refine bodyPost_ret (v := .agg #[.int .i64 a0, .string a1, .string a2]) (by simp [results, Try.results88, go_sem]) rfl ⟨rfl, ?_⟩
  repeat (first | exact Below.refl _ _ | apply below_alloc)
set_option maxRecDepth 100000 in
theorem toFileS (A : Option Addr) (c : Nat) (l : List File) (w : World) (hl : l.length ≤ 1048576) (hr : Kd.C kFile w A l.length l) :
    Calls Try.prog 45 #[.slice A l.length c] w fun e w' => ∃ v, e = .returned v ∧ Sep w w' [Ob.row kFile 44 v l] := by
  have HR := Aside0.mk hr
  clear hr
  have hu1 := Try.underlying110
  have hu2 := Try.underlying44
  go_enter Try.func45, Try.ntmps45
  go_wp2_with ((with_reducible refine gate_dst (N := 7) rfl ?_); refine ev_make flatFile (Sep.nil _) 44 27 rfl (N := 7) rfl (.tmp 6) (.tmp 6) rfl l.length rfl rfl Try.underlying27 _ 40 infoFile (by decide) (by decide) File.z rfl (by omega) ?_; intro v w1 HS; have HS := Aside0.mk HS)
  go_loopw [4] (fun i wr => ∃ k : Nat, k ≤ l.length ∧ i = .int .i64 k ∧ Aside0 (Sep w wr [Ob.row kFile 44 v (l.take k ++ List.replicate (l.length - k) File.z)])) (fun i _ => l.length - (intOf i).toNat)
  case atStart => exact ⟨0, by omega, rfl, ⟨by simpa using HS.out⟩⟩
  case round =>
    obtain ⟨k, hk, rfl, HS⟩ := hrel
    have hlen : (l.take k ++ List.replicate (l.length - k) File.z).length = l.length := by simp; omega
    have HL := Aside0.mk hlen
    clear hlen
    by_cases hlt : k < l.length
    · obtain ⟨g, cap, hv⟩ := HS.out.form 0 rfl (by rw [HL.out]; omega)
      rw [HL.out] at hv
      subst hv
      obtain ⟨ad, rfl, x0, x1, x2⟩ := atFile (Kd.C_below HR.out HS.out.old) k hlt
      go_wp2_with (first | (go_at_call 88; refine (toFile (rdFile l k) _).mono ?_; rintro e w' ⟨rfl, hb⟩; have HS := Aside0.mk (HS.out.below hb)) | ((with_reducible refine gate_store (t := 44) (p := 21) (v := .tmp 20) rfl ?_); refine ev_put flatFile HS.out 0 rfl rfl rfl 44 _ _ rfl k (by rw [HL.out]; exact hlt) (rdFile l k) rfl ?_ rfl sizeFile ?_; (case refine_1 => rfl); intro w2 HS; rw [rdFile_eq hlt, take_set l _ k hlt] at HS; have HS := Aside0.mk HS))
      go_roundw
      case rel => exact ⟨k + 1, by omega, by go_num, HS⟩
      case measure => simp [intOf]; omega
    · have hk : k = l.length := by omega
      subst hk
      go_wp2
      go_ret
      exact ⟨_, rfl, by simpa using HS.out⟩
set_option maxRecDepth 100000 in
theorem eqFile (x : File) (w : World) : Calls Try.prog 89 #[.agg (File.enc x).toArray, .agg (File.enc x).toArray] w fun e w' => e = .returned (.bool true) ∧ Below w.heap.size w w' := by
  obtain ⟨a0, a1, a2⟩ := x
  simp only [File.enc]
  have hu := Try.underlying44
  go_enter Try.func89, Try.ntmps89
  go_wp2
  go_ret
  exact ⟨rfl, by repeat (first | exact Below.refl _ _ | apply below_alloc)⟩
set_option maxRecDepth 100000 in
theorem eqFileS (A B : Option Addr) (c d : Nat) (l : List File) (w : World) (hr : Kd.C kFile w A l.length l) (hs : Kd.C kFile w B l.length l) :
    Calls Try.prog 49 #[.slice A l.length c, .slice B l.length d] w fun e w' => e = .returned (.bool true) ∧ Below w.heap.size w w' := by
  have hm := Kd.C_max hr
  have HR := Aside0.mk hr
  have HS := Aside0.mk hs
  clear hr hs
  have hu := Try.underlying44
  go_enter Try.func49, Try.ntmps49
  go_wp2
  go_loopw [5] (fun i wr => ∃ k : Nat, k ≤ l.length ∧ i = .int .i64 k ∧ Aside0 (Below w.heap.size w wr)) (fun i _ => l.length - (intOf i).toNat)
  case atStart => exact ⟨0, by omega, rfl, ⟨Below.refl _ _⟩⟩
  case round =>
    obtain ⟨k, hk, rfl, HB⟩ := hrel
    by_cases hlt : k < l.length
    · obtain ⟨ad, rfl, x0, x1, x2⟩ := atFile (Kd.C_below HR.out HB.out) k hlt
      obtain ⟨ae, rfl, y0, y1, y2⟩ := atFile (Kd.C_below HS.out HB.out) k hlt
      have p0 : (0 : Int) ≤ (k : Int) := by omega
      have p1 : (k : Int) < (l.length : Int) := by omega
      go_wp2
      go_region_held3 (fun w' => w'.cell? (ad.add (k * 3)) = some (.int .i64 (rdFile l k).Name) ∧ w'.cell? ⟨(ad.add (k * 3)).block, (ad.add (k * 3)).off + 1, none⟩ = some (.string (rdFile l k).Safe) ∧ w'.cell? ⟨(ad.add (k * 3)).block, (ad.add (k * 3)).off + 2, none⟩ = some (.string (rdFile l k).Late) ∧ w'.cell? (ae.add (k * 3)) = some (.int .i64 (rdFile l k).Name) ∧ w'.cell? ⟨(ae.add (k * 3)).block, (ae.add (k * 3)).off + 1, none⟩ = some (.string (rdFile l k).Safe) ∧ w'.cell? ⟨(ae.add (k * 3)).block, (ae.add (k * 3)).off + 2, none⟩ = some (.string (rdFile l k).Late)) (first | go_keep | (repeat' apply And.intro) <;> exact pw_cell_below hb (by assumption)) (first | (go_at_call 89; refine (eqFile (rdFile l k) _).mono ?_; rintro e w' ⟨rfl, hb⟩))
      have HB := Aside0.mk (below_step (below_drew1 HB.out) hb)
      go_wp2
      go_roundw
      case rel => exact ⟨k + 1, by omega, by go_num, HB⟩
      case measure => simp [intOf]; omega
    · go_wp2
      go_ret
      exact ⟨rfl, HB.out⟩
end Go.Proofs.Ytbbeaghhchjkgaa.Lw
