/- slices.Insert at files, where the row must grow. No condition. -/
import Derived.Test.YtbbeaghhchjkgaaDkIns
import Derived.Lib.AppendZerosOnto
namespace Go.Proofs.Ytbbeaghhchjkgaa.Dk
open Go.RowKit Go.Proofs.YtbbeaghhchjkgaaW Go.Proofs.YtbbeaghhchjkgaaW.PrintWords Go.Proofs.Ytbbeaghhchjkgaa.Sp Go.Proofs.Ytbbeaghhchjkgaa.Ty Go.Proofs.Ytbbeaghhchjkgaa.Im Go.Proofs.Ytbbeaghhchjkgaa.Lw
set_option linter.unusedVariables false
set_option linter.unusedSimpArgs false
attribute [local go_sem ↓] Go.wp_at_zero Go.wp_at_succ
attribute [local go_sem] World.cell?_alloc_lt
theorem get_end {L : List Ob} {i : Nat} {r q : Ob} : (L.set i r ++ [q])[L.length]? = some q := by
  have := get_last (L := L.set i r) (o := q)
  rwa [List.length_set] at this
theorem set_end {L : List Ob} {i : Nat} {r q q' : Ob} : (L.set i r ++ [q]).set L.length q' = L.set i r ++ [q'] := by
  rw [List.set_append_right _ _ (by rw [List.length_set]; exact Nat.le_refl _), List.length_set, Nat.sub_self]; rfl
set_option maxRecDepth 100000 in
set_option maxHeartbeats 4000000 in
theorem Insert_grow (w0 w : World) (L : List Ob) (i iv vb g : Nat) (hne : i ≠ iv) (cap : Nat) (l : List File) (k : Nat) (hk : k < l.length) (hroom : cap < l.length + 1) (f : File) (hs : Sep w0 w L) (hi : L[i]? = some (Ob.row kFile 44 (.slice (some ⟨g, 0, none⟩) l.length cap) l)) (hiv : L[iv]? = some (Ob.box vb (File.enc f).toArray 44)) (hl : l.length ≤ 1048576) :
    Calls Try.prog 99 #[.slice (some ⟨g, 0, none⟩) l.length cap, .int .i64 k, .slice (some ⟨vb, 0, none⟩) 1 1] w fun e w' => ∃ B' cap', e = .returned (.slice B' (l.length + 1) cap') ∧ Sep w0 w' (L.set i (Ob.row kFile 44 (.slice B' (l.length + 1) cap') (l.take k ++ f :: l.drop k))) := by
  have hm := cap_le hs i hi
  have hil := (List.getElem?_eq_some_iff.1 hi).1
  have hivl := (List.getElem?_eq_some_iff.1 hiv).1
  obtain ⟨cur, hs2, _, hcap, hcm, hcs, htk⟩ := hs.raw flatFile i hi
  replace hcs : cur.size = cap * 3 := hcs
  replace htk : cur.toList.take (l.length * 3) = l.flatMap File.enc := htk
  have hEl : cur.toList.length = cap * 3 := by rw [← hcs]; exact Array.length_toList
  obtain ⟨cs, hcs1⟩ : ∃ cs, cs = (cur.toList.drop (k * 3)).take ((l.length - k) * 3) := ⟨_, rfl⟩
  have hcl : cs.length = (l.length - k) * 3 := by
    rw [hcs1, List.length_take, List.length_drop, hEl]
    have : (l.length - k) * 3 ≤ cap * 3 - k * 3 := by omega
    omega
  have hcf : cs = (l.drop k).flatMap File.enc := by rw [hcs1]; exact flat_drop htk k (by omega)
  have h11 : ∀ v ∈ cs, v.oneCell' = true := fun v hv => enc_one (l := l.drop k) (by rw [← hcf]; exact hv)
  obtain ⟨i0, hi0, hz0, hzs, hzb⟩ := info_parts infoFile
  have hold : (Builtin.firstCells i0.size k (.slice (some ⟨g, 0, none⟩) k cap)).run Try.prog w.drew = .ok (cur.toList.take (k * 3)).toArray w.drew := by
    rw [hzs]
    exact run_firstCells_some w.drew 3 k ⟨g, 0, none⟩ k cap (cur.toList.take (k * 3)) (by rw [List.length_take, hEl]; omega) (fun j v hj => by
      rw [Addr.add_lit, (hs2.drew.cells i (get_set0 hi)).1 (0 + j), Nat.zero_add]
      rw [List.getElem?_take] at hj
      split at hj
      · rw [Array.getElem?_toList] at hj; exact hj
      · cases hj)
  have hkk : ((l.length : Int) + 1) - (k : Int) = ((l.length + 1 - k : Nat) : Int) := by omega
  have hik : k + (l.length + 1 - k) = l.length + 1 := by omega
  have hrz : ∀ ty, (Builtin.append_ #[27, 3] ty #[.slice (some ⟨g, 0, none⟩) k cap, .int .i64 ((l.length + 1 - k : Nat) : Int)]).run Try.prog w = .ok (.slice (some ⟨w.heap.size, 0, none⟩) (l.length + 1) (grownCap w (l.length + 1) cap 44)) (w.drew.alloc (.cells ((cur.toList.take (k * 3)).toArray ++ Builtin.zeroCells (Value.agg (File.enc File.z).toArray).cells (l.length + 1 - k) ++ Builtin.zeroCells (Value.agg (File.enc File.z).toArray).cells (grownCap w (l.length + 1) cap 44 - (l.length + 1))) 44)) := fun ty => by
    have h := Lib.run_append_grow_zeros w 27 3 ty 44 i0 _ .i64 .i64 Try.underlying27 Try.underlying3 hi0 hz0 (some ⟨g, 0, none⟩) k cap (cur.toList.take (k * 3)) hold (l.length + 1 - k) (by omega) (by omega) (by omega) (by omega) (by rw [hzb]; omega) (by rw [hzb, hik]; exact growslice_fits (by omega) (by omega))
    rw [hik] at h
    exact h
  obtain ⟨G, hG⟩ : ∃ G, G = grownCap w (l.length + 1) cap 44 := ⟨_, rfl⟩
  have hGn : l.length + 1 ≤ G := by rw [hG]; exact grownCap_ge w _ _ _
  have hGm : G ≤ maxLen := by rw [hG]; exact grownCap_le_maxLen w (l.length + 1) cap _ (by unfold maxLen; omega)
  have hGm2 : G ≤ 9223372036854775807 := hGm
  obtain ⟨ROW, hROW⟩ : ∃ ROW : Array Value, ROW = (cur.toList.take (k * 3)).toArray ++ Builtin.zeroCells (Value.agg (File.enc File.z).toArray).cells (l.length + 1 - k) ++ Builtin.zeroCells (Value.agg (File.enc File.z).toArray).cells (G - (l.length + 1)) := ⟨_, rfl⟩
  rw [← hG, ← hROW] at hrz
  have hz3 : (Value.agg (File.enc File.z).toArray).cells.size = 3 := rfl
  have hRs : ROW.size = G * 3 := by
    rw [hROW, Array.size_append, Array.size_append, size_zeroCells, size_zeroCells, hz3, List.size_toArray, List.length_take, hEl]
    omega
  have hRl : ROW.toList.length = G * 3 := by rw [← hRs]; exact Array.length_toList
  have hRt : ROW.toList.take (k * 3) = cur.toList.take (k * 3) := by
    rw [hROW, Array.toList_append, Array.toList_append, List.append_assoc]
    exact List.take_left' (by rw [List.length_take, hEl]; omega)
  have hs3 := hs2.drew.alloc ROW 44
  obtain ⟨W1, hW1⟩ : ∃ W1, W1 = w.drew.alloc (.cells ROW 44) := ⟨_, rfl⟩
  rw [← hW1] at hrz hs3
  obtain ⟨g2, hg2⟩ : ∃ g2, g2 = w.heap.size := ⟨_, rfl⟩
  rw [← hg2] at hrz
  replace hs3 : Sep w0 W1 (L.set i (Ob.box g cur 44) ++ [Ob.box g2 ROW 44]) := by rw [hg2]; exact hs3
  obtain ⟨ROW1, hR1⟩ : ∃ ROW1 : Array Value, ROW1 = (ROW.toList.take (k * 3) ++ File.enc f ++ ROW.toList.drop (k * 3 + (File.enc f).length)).toArray := ⟨_, rfl⟩
  have hR1s : ROW1.size = G * 3 := by
    rw [hR1]
    simp only [List.size_toArray, List.length_append, List.length_take, List.length_drop, hRl]
    show min (k * 3) (G * 3) + 3 + (G * 3 - (k * 3 + 3)) = _
    omega
  have hR1l : ROW1.toList.length = G * 3 := by rw [← hR1s]; exact Array.length_toList
  have hR1t : ROW1.toList.take ((k + 1) * 3) = cur.toList.take (k * 3) ++ File.enc f := by
    rw [hR1]
    show (ROW.toList.take (k * 3) ++ File.enc f ++ ROW.toList.drop (k * 3 + (File.enc f).length)).take ((k + 1) * 3) = _
    rw [← hRt]
    exact List.take_left' (by rw [List.length_append, List.length_take, hRl]; show min (k * 3) (G * 3) + 3 = _; omega)
  have hfit0 : k * 3 + (File.enc f).length ≤ ROW.size := by rw [hRs]; show k * 3 + 3 ≤ _; omega
  have hfit2 : (k + 1) * 3 + cs.length ≤ ROW1.size := by rw [hcl, hR1s]; omega
  have hn1 : cs.length = Nat.min (l.length - k) (l.length - k) * 3 := by rw [hcl, show Nat.min (l.length - k) (l.length - k) = l.length - k from by show min _ _ = _; omega]
  have hn2 : (File.enc f).length = Nat.min 1 (l.length + 1 - k) * 3 := by rw [show Nat.min 1 (l.length + 1 - k) = 1 from by show min _ _ = _; omega]; rfl
  have hsrc0 : ∀ W q, Sep w0 W (L.set i (Ob.box g cur 44) ++ [q]) → ∀ j v, (File.enc f)[j]? = some v → W.cell? ((⟨vb, 0, none⟩ : Addr).add j) = some v := fun W q hW j v hj => by
    rw [Addr.add_lit, (hW.cells iv (by rw [List.getElem?_append_left (by rw [List.length_set]; exact hivl), List.getElem?_set_ne hne]; exact hiv)).1 (0 + j), Nat.zero_add]
    simpa using hj
  have hsrc2 : ∀ W, Sep w0 W (L.set i (Ob.box g cur 44) ++ [Ob.box g2 ROW1 44]) → ∀ j v, cs[j]? = some v → W.cell? ((⟨g, k * 3, none⟩ : Addr).add j) = some v := fun W hW j v hj => by
    rw [Addr.add_lit, (hW.cells i (get_set hi)).1 (k * 3 + j)]
    rw [hcs1, List.getElem?_take] at hj
    split at hj
    · rw [List.getElem?_drop, Array.getElem?_toList] at hj
      exact hj
    · cases hj
  have hfin : (ROW1.toList.take ((k + 1) * 3) ++ cs ++ ROW1.toList.drop ((k + 1) * 3 + cs.length)).take ((l.length + 1) * 3) = cur.toList.take (k * 3) ++ File.enc f ++ (cur.toList.drop (k * 3)).take ((l.length - k) * 3) := by
    rw [hR1t, ← hcs1]
    exact List.take_left' (by rw [List.length_append, List.length_append, List.length_take, hEl, hcl]; show min (k * 3) (cap * 3) + 3 + _ = _; omega)
  have HS := Aside0.mk hs3
  have HI := Aside0.mk hi
  have HSRC0 := Aside0.mk hsrc0
  have HSRC2 := Aside0.mk hsrc2
  have HF := Aside0.mk (ins_flat htk k (by omega) f hfin)
  have HR1 := Aside0.mk hR1
  have HL2 : Aside0 ((L.set i (Ob.box g cur 44) ++ [Ob.box g2 ROW1 44])[L.length]? = some (Ob.box g2 ROW1 44)) := ⟨get_end⟩
  have HRZ := Aside0.mk hrz
  have z2 : ((k : Int) == (l.length : Int)) = false := by simp; omega
  have z3 : IntKind.i64.wrap ((l.length : Int) + 1) = (l.length : Int) + 1 := by rw [IntKind.wrap_i64]; omega
  have z3b : IntKind.i64.wrap ((l.length : Int) + 1 - (k : Int)) = (l.length : Int) + 1 - (k : Int) := by rw [IntKind.wrap_i64]; omega
  have z4 : IntKind.i64.wrap ((k : Int) + 1) = (k : Int) + 1 := by rw [IntKind.wrap_i64]; omega
  have z5 : (cap : Int) < (l.length : Int) + 1 := by omega
  have z6 : (0 : Int) ≤ (k : Int) := by omega
  have z7 : (k : Int) ≤ (l.length : Int) := by omega
  have z8 : (l.length : Int) ≤ (cap : Int) := by omega
  have z8b : (k : Int) ≤ (cap : Int) := by omega
  have z10 : ((k : Int) + 1).toNat = k + 1 := by omega
  have z13 : (k : Int) + 1 ≤ (l.length : Int) + 1 := by omega
  have z14 : (0 : Int) ≤ (k : Int) + 1 := by omega
  have z15 : (k : Int) ≤ (l.length : Int) + 1 := by omega
  have z16 : ¬ G = k + 1 := by omega
  have z17 : ¬ G = k := by omega
  have z18 : ¬ cap = k := by omega
  have z19 : (l.length : Int) + 1 ≤ (G : Int) := by omega
  have hu := Try.underlying27
  clear hs hi hiv hs2 hs3 hcs1 hcf hsrc0 hsrc2 hfin htk hR1 hrz hold hROW hRt hR1t hW1 hG hi0 hz0 hzs hzb hg2
  go_enter Try.func99, Try.ntmps99
  go_wp2_with (first | (at_builtin; refine Lib.wpList_append_run _ rfl _ _ _ _ rfl _ _ rfl rfl _ _ (HRZ.out _) ?_) | ((with_reducible refine gate_app (b := .copy) (xs := #[.tmp 43, .tmp 44]) rfl ?_); refine ev_copy HS.out L.length get_end rfl (.tmp 43) (.tmp 44) 27 27 rfl Try.underlying27 sizeFile (File.enc f) rfl rfl hn2 (HSRC0.out _ _ HS.out) hfit0 (flatFile.one f) ?_; intro w6 v6 hs; rw [set_end, ← HR1.out] at hs; replace HS := Aside0.mk hs; clear hs))
  refine PrintLast.start_ (ds := []) (S := (fun _ => True)) #[false, false, false, false, false, false, false, false, false] (by kernel_rfl) rfl rfl trivial (fun HH => ?_)
  refine PrintLast.pure_ (i := 0) (N := some 46) (v := ?_) #[true, false, false, false, false, false, false, false, false] rfl rfl (by kernel_rfl) (fun _ _ _ h => h) (Or.inl ⟨by rfl, ?_⟩) rfl ?_
  rotate_left 1
  · (intro w; go_simp; (try with_reducible rfl))
  (try simp only [Act.put, List.setIfInBounds_toArray, List.set_cons_zero, List.set_cons_succ])
  refine PrintLast.pure_ (i := 1) (N := some 47) (v := ?_) #[true, true, false, false, false, false, false, false, false] rfl rfl (by kernel_rfl) (fun _ _ _ h => h) (Or.inl ⟨by rfl, ?_⟩) rfl ?_
  rotate_left 1
  · (intro w; go_simp; (try with_reducible rfl))
  (try simp only [Act.put, List.setIfInBounds_toArray, List.set_cons_zero, List.set_cons_succ])
  refine PrintLast.pure_ (i := 2) (N := some 48) (v := ?_) #[true, true, true, false, false, false, false, false, false] rfl rfl (by kernel_rfl) (fun _ _ _ h => h) (Or.inl ⟨by rfl, ?_⟩) rfl ?_
  rotate_left 1
  · (intro w; go_simp; (try with_reducible rfl))
  (try simp only [Act.put, List.setIfInBounds_toArray, List.set_cons_zero, List.set_cons_succ])
  refine PrintLast.pure_ (i := 3) (N := some 49) (v := ?_) #[true, true, true, true, false, false, false, false, false] rfl rfl (by kernel_rfl) (fun _ _ _ h => h) (Or.inl ⟨by rfl, ?_⟩) rfl ?_
  rotate_left 1
  · (intro w; go_simp; (try with_reducible rfl))
  (try simp only [Act.put, List.setIfInBounds_toArray, List.set_cons_zero, List.set_cons_succ])
  refine PrintLast.pure_ (i := 4) (N := some 50) (v := ?_) #[true, true, true, true, true, false, false, false, false] rfl rfl (by kernel_rfl) (fun _ _ _ h => h) (Or.inl ⟨by rfl, ?_⟩) rfl ?_
  rotate_left 1
  · (intro w; go_simp; (try with_reducible rfl))
  (try simp only [Act.put, List.setIfInBounds_toArray, List.set_cons_zero, List.set_cons_succ])
  refine PrintLast.pure_ (i := 5) (N := some 51) (v := ?_) #[true, true, true, true, true, true, false, false, false] rfl rfl (by kernel_rfl) (fun _ _ _ h => h) (Or.inl ⟨by rfl, ?_⟩) rfl ?_
  rotate_left 1
  · (intro w; go_simp; (try with_reducible rfl))
  (try simp only [Act.put, List.setIfInBounds_toArray, List.set_cons_zero, List.set_cons_succ])
  refine PrintLast.pure_ (i := 6) (N := some 52) (v := ?_) #[true, true, true, true, true, true, true, false, false] rfl rfl (by kernel_rfl) (fun _ _ _ h => h) (Or.inl ⟨by rfl, ?_⟩) rfl ?_
  rotate_left 1
  · (intro w; go_simp; (try with_reducible rfl))
  (try simp only [Act.put, List.setIfInBounds_toArray, List.set_cons_zero, List.set_cons_succ])
  refine PrintLast.pure_ (i := 7) (N := some 53) (v := ?_) #[true, true, true, true, true, true, true, true, false] rfl rfl (by kernel_rfl) (fun _ _ _ h => h) (Or.inl ⟨by rfl, ?_⟩) rfl ?_
  rotate_left 1
  · (intro w; go_simp; (try with_reducible rfl))
  (try simp only [Act.put, List.setIfInBounds_toArray, List.set_cons_zero, List.set_cons_succ])
  refine PrintLast.one_ (i := 8) (N := some 54) #[true, true, true, true, true, true, true, true, true] rfl rfl (by kernel_rfl) (by decide) (fun K hK => ?_)
  rw [if_pos (by rfl)]
  refine wp_of_list rfl ?_
  refine ev_copy HS.out.drew L.length HL2.out rfl (.tmp 50) (.tmp 53) 27 27 rfl Try.underlying27 sizeFile cs rfl rfl hn1 (HSRC2.out _ HS.out.drew) hfit2 h11 ?_
  intro w5 v5 hs
  replace HS := Aside0.mk hs
  clear hs
  show K _ w5
  refine hK.out _ _ trivial (fun HH => ?_)
  clear hK K
  (try simp only [Act.put, List.setIfInBounds_toArray, List.set_cons_zero, List.set_cons_succ])
  refine PrintLast.done_ (by kernel_rfl) ?_
  have h5 := HS.out
  rw [set_end] at h5
  replace HS := Aside0.mk h5
  clear h5
  go_wp2
  go_ret
  have hl2 : (ROW1.toList.take ((k + 1) * 3) ++ cs ++ ROW1.toList.drop ((k + 1) * 3 + cs.length)).toArray.size = G * kFile.sz := by
    show _ = G * 3
    simp only [List.size_toArray, List.length_append, List.length_take, List.length_drop, hR1l, hcl]
    omega
  have h7 := HS.out.unraw flatFile L.length (l.take k ++ f :: l.drop k) get_end (cap := G) (by rw [ins_len l k (by omega)]; exact hGn) hGm hl2 HF.out
  rw [set_end, ins_len l k (by omega)] at h7
  have h8 := h7.swap i (by rw [List.length_set]; exact hil)
  rw [List.set_set] at h8
  exact ⟨_, _, rfl, h8⟩
/-- slices.Insert(s, k, f) at files: s is the row number i, f's slice the box number iv. -/
theorem Insert_File (w0 w : World) (L : List Ob) (i iv vb : Nat) (hne : i ≠ iv) (B : Option Addr) (cap : Nat) (l : List File) (k : Nat) (hk : k ≤ l.length) (f : File) (hs : Sep w0 w L) (hi : L[i]? = some (Ob.row kFile 44 (.slice B l.length cap) l)) (hiv : L[iv]? = some (Ob.box vb (File.enc f).toArray 44)) (hl : l.length ≤ 1048576) :
    Calls Try.prog 99 #[.slice B l.length cap, .int .i64 k, .slice (some ⟨vb, 0, none⟩) 1 1] w fun e w' => ∃ B' cap', e = .returned (.slice B' (l.length + 1) cap') ∧ Sep w0 w' (L.set i (Ob.row kFile 44 (.slice B' (l.length + 1) cap') (l.take k ++ f :: l.drop k))) := by
  by_cases h : k = l.length
  · subst h
    rw [List.take_length, List.drop_length]
    exact Insert_end w0 w L i iv vb hne B cap l f hs hi hiv hl
  · obtain ⟨g, cap', hv⟩ := hs.form i hi (by omega)
    injection hv with hv1 hv2 hv3
    subst hv1
    by_cases hr : l.length + 1 ≤ cap
    · exact Insert_room w0 w L i iv vb g hne cap l k (by omega) hr f hs hi hiv hl
    · exact Insert_grow w0 w L i iv vb g hne cap l k (by omega) (by omega) f hs hi hiv hl
end Go.Proofs.Ytbbeaghhchjkgaa.Dk
