/- slices.DeleteFunc at files, and files without one place. No condition. -/
import Derived.Test.YtbbeaghhchjkgaaDkSync
import Derived.Test.YtbbeaghhchjkgaaSepY
namespace Go.Proofs.Ytbbeaghhchjkgaa.Dk
open Go.RowKit Go.Proofs.YtbbeaghhchjkgaaW Go.Proofs.YtbbeaghhchjkgaaW.PrintWords Go.Proofs.Ytbbeaghhchjkgaa.Sp Go.Proofs.Ytbbeaghhchjkgaa.Ty Go.Proofs.Ytbbeaghhchjkgaa.Im Go.Proofs.Ytbbeaghhchjkgaa.Lw
set_option linter.unusedVariables false
set_option linter.unusedSimpArgs false
attribute [local go_sem ↓] Go.wp_at_zero Go.wp_at_succ
attribute [local go_sem] World.cell?_alloc_lt
theorem idxP_first {p : Nat → Bool} : ∀ (d i : Nat), (idxP p d i = -1 ∧ ∀ k, i ≤ k → k < i + d → p k = false) ∨ ∃ k : Nat, idxP p d i = (k : Int) ∧ i ≤ k ∧ k < i + d ∧ p k = true ∧ ∀ q, i ≤ q → q < k → p q = false
  | 0, i => .inl ⟨rfl, fun k h1 h2 => by omega⟩
  | d + 1, i => by
    cases h : p i
    · rw [show idxP p (d + 1) i = idxP p d (i + 1) from if_neg (by rw [h]; decide)]
      rcases idxP_first (p := p) d (i + 1) with ⟨h1, h2⟩ | ⟨k, h1, h2, h3, h4, h5⟩
      · refine .inl ⟨h1, fun k a b => ?_⟩
        by_cases e : k = i
        · rw [e]; exact h
        · exact h2 k (by omega) (by omega)
      · refine .inr ⟨k, h1, by omega, by omega, h4, fun q a b => ?_⟩
        by_cases e : q = i
        · rw [e]; exact h
        · exact h5 q (by omega) b
    · exact .inr ⟨i, if_pos h, Nat.le_refl _, by omega, h, fun q a b => by omega⟩
theorem zero_run {P : Program} {t : TypeId} {v : Value} {n m : Nat} (h : (P.info? t).map (fun i => (i.zero, i.size, i.bytes)) = some (some v, n, m)) : ∀ w, (zeroValue t).run P w = .ok v w := by
  intro w
  cases hi : P.info? t with
  | none => rw [hi] at h; cases h
  | some x =>
    rw [hi] at h
    simp only [Option.map_some, Option.some.injEq, Prod.mk.injEq] at h
    simp [zeroValue, typeInfo, ask, hi, h.1]
theorem keep_all {p : File → Bool} {l : List File} (h : ∀ k, k < l.length → p (rdFile l k) = false) : l.filter (fun x => !p x) = l := by
  refine List.filter_eq_self.2 (fun x hx => ?_)
  obtain ⟨k, hk, rfl⟩ := List.getElem_of_mem hx
  have := h k hk
  rw [rdFile_eq hk] at this
  rw [this]; rfl
theorem rd_take {l : List File} {k n : Nat} (h : k < n) (hn : n ≤ l.length) : rdFile (l.take n) k = rdFile l k := by
  rw [rdFile_eq (by rw [List.length_take]; omega), rdFile_eq (by omega), List.getElem_take]
theorem take_snoc {l : List File} {j : Nat} (h : j < l.length) : l.take (j + 1) = l.take j ++ [rdFile l j] := by rw [List.take_succ_eq_append_getElem h, rdFile_eq h]
theorem get_set {L M : List Ob} {i : Nat} {o r : Ob} (h : L[i]? = some o) : (L.set i r ++ M)[i]? = some r := by
  have hi := (List.getElem?_eq_some_iff.1 h).1
  rw [List.getElem?_append_left (by rw [List.length_set]; exact hi), List.getElem?_set_self hi]
theorem get_last {L : List Ob} {o : Ob} : (L ++ [o])[L.length]? = some o := by simp
theorem get_set0 {L : List Ob} {i : Nat} {o r : Ob} (h : L[i]? = some o) : (L.set i r)[i]? = some r := List.getElem?_set_self (List.getElem?_eq_some_iff.1 h).1
theorem set_set {L M : List Ob} {i : Nat} {o r s : Ob} (h : L[i]? = some o) : (L.set i r ++ M).set i s = L.set i s ++ M := by
  have hi := (List.getElem?_eq_some_iff.1 h).1
  rw [List.set_append_left _ _ (by rw [List.length_set]; exact hi), List.set_set]
theorem set_same {L : List Ob} {i : Nat} {o : Ob} (h : L[i]? = some o) : L.set i o = L := by
  obtain ⟨hi, e⟩ := List.getElem?_eq_some_iff.1 h
  rw [← e]; exact List.set_getElem_self hi
set_option maxRecDepth 100000 in
set_option maxHeartbeats 4000000 in
theorem DeleteFunc_File (gf : Nat) (lb : Array Value) (p : File → Bool) (eg : ∀ args w, (callFunc gf args).run Try.prog w = .ok (.enter gf args) w) (w0 w : World) (L : List Ob) (i : Nat) (B : Option Addr) (cap : Nat) (l : List File)
    (hs : Sep w0 w L) (hi : L[i]? = some (Ob.row kFile 44 (.slice B l.length cap) l)) (hl : l.length ≤ 1048576)
    (hp : ∀ W xs x, Sep w0 W (L.set i (Ob.row kFile 44 (.slice B l.length cap) xs)) → Calls Try.prog gf (#[.agg (File.enc x).toArray] ++ lb) W fun e w' => e = .returned (.bool (p x)) ∧ Below W.heap.size W w') :
    Calls Try.prog 97 #[.slice B l.length cap, .func (.func gf) #[] lb] w fun e w' => ∃ m, e = .returned (.slice B m cap) ∧ Sep w0 w' (L.set i (Ob.row kFile 44 (.slice B m cap) (l.filter (fun x => !p x)))) := by
  have hset := set_same hi
  have HS := Aside0.mk hs
  have HP := Aside0.mk hp
  have HI := Aside0.mk hi
  have HIDX := Aside0.mk (IndexFunc_File gf lb p eg B cap l w (hs.C i hi) (fun W x hb => hp W l x (by rw [hset]; exact hs.below hb)))
  have hcap := (hs.len i hi).2
  have hu2 := Try.underlying44
  have hu3 := Try.underlying27
  clear hs hp hi
  rcases idxP_first (p := fun q => p (rdFile l q)) l.length 0 with ⟨h1, h2⟩ | ⟨k0, h1, _, h3, h4, h5⟩
  · have e1 : l.filter (fun x => !p x) = l := keep_all (fun k hk => h2 k (by omega) (by omega))
    rw [h1] at HIDX
    have HE := Aside0.mk e1
    clear h1 h2 e1
    go_enter Try.func97, Try.ntmps97
    go_wp2_with (go_at_call 90; refine HIDX.out.mono ?_; rintro e w2 ⟨rfl, hb⟩; replace HS := Aside0.mk (HS.out.below hb); clear hb)
    go_ret
    exact ⟨_, rfl, by rw [HE.out, hset]; exact HS.out⟩
  · obtain ⟨g, cap', hv⟩ := HS.out.form i HI.out (by omega)
    injection hv with hv1 hv2 hv3
    subst hv1
    clear hv2 hv3
    have h3' : k0 < l.length := by omega
    have e1 : (l.take (k0 + 1)).filter (fun x => !p x) = l.take k0 := by
      rw [take_snoc h3', List.filter_append, keep_all (fun q hq => by rw [List.length_take] at hq; rw [rd_take (by omega) (by omega)]; exact h5 q (by omega) (by omega))]
      simp [h4]
    rw [h1] at HIDX
    have HE := Aside0.mk e1
    clear h1 h3 h4 h5 e1
    have q0 : (0 : Int) ≤ (k0 : Int) := by omega
    have q1 : (k0 : Int) + 1 ≤ 1048576 := by omega
    have w1 : ((k0 : Int) == -1) = false := by simp
    go_enter Try.func97, Try.ntmps97
    go_wp2_with (go_at_call 90; refine HIDX.out.mono ?_; rintro e w2 ⟨rfl, hb⟩; replace HS := Aside0.mk (HS.out.below hb); clear hb)
    go_loopw [5, 6] (fun q5 q6 wr => ∃ (d j k : Nat) (xs : List File), d + j = l.length ∧ q5 = .int .i64 k ∧ q6 = .int .i64 j ∧ k < j ∧ xs.length = l.length ∧ Aside0 (xs.take k = (l.take j).filter (fun x => !p x)) ∧ Aside0 (xs.drop j = l.drop j) ∧ Aside0 (Sep w0 wr (L.set i (Ob.row kFile 44 (.slice (some ⟨g, 0, none⟩) l.length cap) xs)))) (fun _ q6 _ => l.length - (intOf q6).toNat)
    case atStart => exact ⟨l.length - (k0 + 1), k0 + 1, k0, l, by omega, rfl, by go_num, by omega, rfl, ⟨HE.out.symm⟩, ⟨rfl⟩, ⟨by rw [hset]; exact HS.out⟩⟩
    case round =>
      clear HS
      obtain ⟨d, j, k, xs, hj, rfl, rfl, hk, hx, HT, HD, HS⟩ := hrel
      have r0 : (0 : Int) ≤ (k : Int) := by omega
      have r1 : (k : Int) < (l.length : Int) := by omega
      have r2 : (k : Int) ≤ (l.length : Int) := by omega
      have r3 : (l.length : Int) ≤ (cap : Int) := by omega
      have r4 : (k : Int) ≤ (cap : Int) := by omega
      cases d with
      | zero =>
        have hj : j = l.length := by omega
        subst hj
        have HT2 : Aside0 (xs.take k = l.filter (fun x => !p x)) := ⟨by rw [HT.out, List.take_length]⟩
        have hsz : k + (l.length - k) = xs.length := by omega
        go_wp2_with (first | ((with_reducible refine gate_app (b := .clear) (xs := #[.tmp 38]) rfl ?_); refine ev_clear flatFile HS.out i (get_set0 HI.out) rfl rfl 27 (.tmp 38) rfl Try.underlying27 _ (zero_run infoFile) File.z rfl (by decide) k (l.length - k) _ hsz rfl (fun _ => rfl) ?_; intro w5 hs; replace HS := Aside0.mk hs; clear hs))
        refine bodyPost_ret (v := .slice (some ⟨g, 0, none⟩) k cap) (by simp [results, Try.results97, go_sem]) rfl ⟨_, rfl, ?_⟩
        have h := HS.out.trunc i (get_set0 (get_set0 HI.out)) k (by simp; omega)
        rw [List.set_set, List.set_set, List.take_append_of_le_length (by rw [List.length_take]; omega), List.take_take, Nat.min_self, HT2.out] at h
        exact h
      | succ d =>
        have p1 : j < l.length := by omega
        obtain ⟨ad, ead, x0, x1, x2⟩ := atFile (HS.out.C i (get_set0 HI.out)) j (by omega)
        injection ead with ead
        subst ead
        have hxj : rdFile xs j = rdFile l j := by
          have := congrArg (fun (z : List File) => z[0]?) HD.out
          simp only [List.getElem?_drop, Nat.add_zero] at this
          rw [rdFile, rdFile, List.getD_eq_getElem?_getD, List.getD_eq_getElem?_getD, this]
        rw [hxj] at x0 x1 x2
        simp only [add_plain] at x0 x1 x2
        have hdrop : xs.drop (j + 1) = l.drop (j + 1) := by rw [← List.drop_drop, ← List.drop_drop, HD.out]
        have htk := take_snoc p1
        have r5 : (0 : Int) ≤ (j : Int) := by omega
        have r6 : (j : Int) < (l.length : Int) := by omega
        have HDR := Aside0.mk hdrop
        have HTK := Aside0.mk htk
        clear hdrop htk HD
        cases hb : p (rdFile l j)
        · have HBB := Aside0.mk hb
          clear hb
          have p3 : k < xs.length := by omega
          go_wp2_with (first | (go_at_fn gf; refine (HP.out _ xs (rdFile l j) (HS.out.alloc #[.int .i64 (rdFile l j).Name, .string (rdFile l j).Safe, .string (rdFile l j).Late] 44).drop).mono ?_; rw [HBB.out]; rintro e w' ⟨rfl, hb⟩; replace HS := Aside0.mk ((HS.out.alloc #[.int .i64 (rdFile l j).Name, .string (rdFile l j).Safe, .string (rdFile l j).Late] 44).below hb); clear hb; have hc := (HS.out.cells _ get_last).1; have y0 : w'.cell? ⟨wr.heap.size, 0, none⟩ = some (.int .i64 (rdFile l j).Name) := hc 0; have y1 : w'.cell? ⟨wr.heap.size, 1, none⟩ = some (.string (rdFile l j).Safe) := hc 1; have y2 : w'.cell? ⟨wr.heap.size, 2, none⟩ = some (.string (rdFile l j).Late) := hc 2; clear hc) | ((with_reducible refine gate_store (t := 44) (p := 33) (v := .tmp 32) rfl ?_); refine ev_put flatFile HS.out i (get_set HI.out) rfl rfl 44 _ _ rfl k p3 (rdFile l j) rfl ?_ rfl sizeFile ?_; (case refine_1 => rfl); intro w5 hs; replace HS := Aside0.mk hs; clear hs))
          go_roundw
          case rel =>
            have h9 := HS.out
            rw [set_set HI.out] at h9
            exact ⟨d, j + 1, k + 1, xs.set k (rdFile l j), by omega, by go_num, by go_num, by omega, by rw [List.length_set]; exact hx, ⟨by rw [HTK.out, List.filter_append, ← HT.out, List.take_succ_eq_append_getElem (by rw [List.length_set]; omega), List.getElem_set_self, List.take_set_of_le (Nat.le_refl _)]; simp [HBB.out]⟩, ⟨by rw [List.drop_set_of_lt (by omega)]; exact HDR.out⟩, ⟨h9.drop⟩⟩
          case measure => simp [intOf]; omega
        · have HBB := Aside0.mk hb
          clear hb
          go_wp2_with (go_at_fn gf; refine (HP.out _ xs (rdFile l j) (HS.out.alloc #[.int .i64 (rdFile l j).Name, .string (rdFile l j).Safe, .string (rdFile l j).Late] 44).drop).mono ?_; rw [HBB.out]; rintro e w' ⟨rfl, hb⟩; replace HS := Aside0.mk ((HS.out.alloc #[.int .i64 (rdFile l j).Name, .string (rdFile l j).Safe, .string (rdFile l j).Late] 44).below hb); clear hb)
          go_roundw
          case rel => exact ⟨d, j + 1, k, xs, by omega, rfl, by go_num, by omega, hx, ⟨by rw [HTK.out, List.filter_append, HT.out]; simp [HBB.out]⟩, HDR, ⟨HS.out.drop⟩⟩
          case measure => simp [intOf]; omega
end Go.Proofs.Ytbbeaghhchjkgaa.Dk
