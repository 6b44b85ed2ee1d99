/- slices.Insert at files, one file. No condition. -/
import Derived.Test.YtbbeaghhchjkgaaDkDrop
import Derived.Test.YtbbeaghhchjkgaaSepZ
import Derived.Lib.Overlaps
import Derived.Lib.AppendZerosOnto
namespace Go.Proofs.Ytbbeaghhchjkgaa.Dk
open Go.RowKit Go.Proofs.YtbbeaghhchjkgaaW Go.Proofs.YtbbeaghhchjkgaaW.PrintWords Go.Proofs.Ytbbeaghhchjkgaa.Sp Go.Proofs.Ytbbeaghhchjkgaa.Ty Go.Proofs.Ytbbeaghhchjkgaa.Im Go.Proofs.Ytbbeaghhchjkgaa.Lw
set_option linter.unusedVariables false
set_option linter.unusedSimpArgs false
attribute [local go_sem ↓] Go.wp_at_zero Go.wp_at_succ
attribute [local go_sem] World.cell?_alloc_lt
theorem flat_len (l : List File) : (l.flatMap File.enc).length = l.length * 3 := by
  induction l with
  | nil => rfl
  | cons x l ih => rw [List.flatMap_cons, List.length_append, ih, List.length_cons, Nat.succ_mul]; show 3 + _ = _; omega
theorem flat_take {E : List Value} {l : List File} (h : E.take (l.length * 3) = l.flatMap File.enc) (k : Nat) (hk : k ≤ l.length) : E.take (k * 3) = (l.take k).flatMap File.enc := by
  have h1 : E.take (k * 3) = (E.take (l.length * 3)).take (k * 3) := by rw [List.take_take, Nat.min_eq_left (by omega)]
  rw [h1, h]
  have h2 : l.flatMap File.enc = (l.take k).flatMap File.enc ++ (l.drop k).flatMap File.enc := by rw [← List.flatMap_append, List.take_append_drop]
  have h3 := flat_len (l.take k)
  rw [List.length_take, Nat.min_eq_left hk] at h3
  rw [h2, ← h3, List.take_left]
theorem flat_drop {E : List Value} {l : List File} (h : E.take (l.length * 3) = l.flatMap File.enc) (k : Nat) (hk : k ≤ l.length) : (E.drop (k * 3)).take ((l.length - k) * 3) = (l.drop k).flatMap File.enc := by
  have h1 : (E.drop (k * 3)).take ((l.length - k) * 3) = (E.take (l.length * 3)).drop (k * 3) := by rw [List.drop_take]; congr 1; omega
  rw [h1, h]
  have h2 : l.flatMap File.enc = (l.take k).flatMap File.enc ++ (l.drop k).flatMap File.enc := by rw [← List.flatMap_append, List.take_append_drop]
  have h3 := flat_len (l.take k)
  rw [List.length_take, Nat.min_eq_left hk] at h3
  rw [h2, ← h3, List.drop_left]
/-- The block behind the two copies holds the files with f put in at k. -/
theorem ins_flat {E R : List Value} {l : List File} (h : E.take (l.length * 3) = l.flatMap File.enc) (k : Nat) (hk : k ≤ l.length) (f : File) (hR : R.take ((l.length + 1) * 3) = E.take (k * 3) ++ File.enc f ++ (E.drop (k * 3)).take ((l.length - k) * 3)) :
    R.take ((l.take k ++ f :: l.drop k).length * 3) = (l.take k ++ f :: l.drop k).flatMap File.enc := by
  rw [show (l.take k ++ f :: l.drop k).length = l.length + 1 from by simp; omega, hR, flat_take h k hk, flat_drop h k hk]
  simp
theorem enc_one {l : List File} {v : Value} (h : v ∈ l.flatMap File.enc) : v.oneCell' = true := by
  obtain ⟨x, _, hx⟩ := List.mem_flatMap.1 h
  exact flatFile.one x v hx
theorem ins_len (l : List File) (k : Nat) (hk : k ≤ l.length) (f : File) : (l.take k ++ f :: l.drop k).length = l.length + 1 := by simp; omega
theorem cap_le {w0 w : World} {L : List Ob} (h : Sep w0 w L) (i : Nat) {e n cap : Nat} {B : Option Addr} {xs : List File} (hi : L[i]? = some (Ob.row kFile e (.slice B n cap) xs)) : cap ≤ 9223372036854775807 := by
  obtain ⟨_, ow, h2⟩ := h
  obtain ⟨_, inner, ho, _⟩ := h2 i _ hi
  rcases ho.2 with ⟨hv, _⟩ | ⟨g', cap', cur, hv, hb, hh, hnc, hcm, hcs, ht⟩
  · injection hv with _ _ hc
    omega
  · injection hv with _ _ hc
    rw [hc]
    exact hcm
theorem size_run {P : Program} {t : TypeId} {v : Value} {n m : Nat} (h : (P.info? t).map (fun i => (i.zero, i.size, i.bytes)) = some (some v, n, m)) : ∀ w, (Go.sizeOf t).run P w = .ok n w := by
  intro w
  cases hi : P.info? t with
  | none => rw [hi] at h; cases h
  | some x =>
    rw [hi] at h
    simp only [Option.map_some, Option.some.injEq, Prod.mk.injEq] at h
    simp [sizeOf, typeInfo, hi, h.2.1]
set_option maxRecDepth 100000 in
set_option maxHeartbeats 4000000 in
theorem Insert_room (w0 w : World) (L : List Ob) (i iv vb g : Nat) (hne : i ≠ iv) (cap : Nat) (l : List File) (k : Nat) (hk : k < l.length) (hroom : l.length + 1 ≤ cap) (f : File) (hs : Sep w0 w L) (hi : L[i]? = some (Ob.row kFile 44 (.slice (some ⟨g, 0, none⟩) l.length cap) l)) (hiv : L[iv]? = some (Ob.box vb (File.enc f).toArray 44)) (hl : l.length ≤ 1048576) :
    Calls Try.prog 99 #[.slice (some ⟨g, 0, none⟩) l.length cap, .int .i64 k, .slice (some ⟨vb, 0, none⟩) 1 1] w fun e w' => ∃ B' cap', e = .returned (.slice B' (l.length + 1) cap') ∧ Sep w0 w' (L.set i (Ob.row kFile 44 (.slice B' (l.length + 1) cap') (l.take k ++ f :: l.drop k))) := by
  have hm := cap_le hs i hi
  obtain ⟨cur, hs2, _, hcap, hcm, hcs, htk⟩ := hs.raw flatFile i hi
  replace hcs : cur.size = cap * 3 := hcs
  replace htk : cur.toList.take (l.length * 3) = l.flatMap File.enc := htk
  have hb := hs2.blk i (get_set0 hi)
  have hbv := hs.blk iv hiv
  have hvb : vb ≠ g := by
    intro e
    subst e
    obtain ⟨_, ow, h2⟩ := hs2
    have a1 := h2 i (Ob.box vb cur 44) (get_set0 hi)
    have a2 := h2 iv (Ob.box vb (File.enc f).toArray 44) (by rw [List.getElem?_set_ne hne]; exact hiv)
    exact hne (a1.1.2.2.symm.trans a2.1.2.2)
  have hov : ∀ lb cb, (callFunc 112 #[.slice (some ⟨vb, 0, none⟩) 1 1, .slice (some ⟨g, (k + 1) * 3, none⟩) lb cb]).run Try.prog w = .ok (.value (.bool false)) w := fun lb cb => by
    rw [run_callFunc_extern Try.func112 (by kernel_rfl) (by kernel_rfl) (by kernel_rfl) (e := Extern.SlicesOverlaps.overlaps #[27, 27] #[4]) (by kernel_rfl),
      Lib.run_overlaps_apart w 27 4 44 Try.underlying27 3 (size_run infoFile) ⟨vb, 0, none⟩ ⟨g, (k + 1) * 3, none⟩ 1 1 lb cb hvb 44 44 3 cur.size (by simp [World.shape?, hbv]; rfl) (by simp [World.shape?, hb]) (by omega) (blk_frozen hbv _) (blk_frozen hbv _)]
    rfl
  obtain ⟨cs, hcs1⟩ : ∃ cs, cs = (cur.toList.drop (k * 3)).take ((l.length - k) * 3) := ⟨_, rfl⟩
  have hEl : cur.toList.length = cap * 3 := by rw [← hcs]; exact Array.length_toList
  have hcl : cs.length = (l.length - k) * 3 := by
    rw [hcs1, List.length_take, List.length_drop, hEl]
    have : (l.length - k) * 3 ≤ cap * 3 - k * 3 := by omega
    omega
  have hcf : cs = (l.drop k).flatMap File.enc := by rw [hcs1]; exact flat_drop htk k (by omega)
  have hn1 : cs.length = Nat.min (l.length + 1 - k) (l.length - k) * 3 := by
    rw [hcl, show Nat.min (l.length + 1 - k) (l.length - k) = l.length - k from by show min _ _ = _; omega]
  have hfit1 : (k + 1) * 3 + cs.length ≤ cur.size := by rw [hcl, hcs]; omega
  have h11 : ∀ v ∈ cs, v.oneCell' = true := fun v hv => enc_one (l := l.drop k) (by rw [← hcf]; exact hv)
  have hsrc1 : ∀ W, Sep w0 W (L.set i (Ob.box g cur 44)) → ∀ j v, cs[j]? = some v → W.cell? ((⟨g, k * 3, none⟩ : Addr).add j) = some v := fun W hW j v hj => by
    rw [Addr.add_lit, (hW.cells i (get_set0 hi)).1 (k * 3 + j)]
    rw [hcs1, List.getElem?_take] at hj
    split at hj
    · rw [List.getElem?_drop, Array.getElem?_toList] at hj
      exact hj
    · cases hj
  obtain ⟨cur1, hcur1⟩ : ∃ cur1 : Array Value, cur1 = (cur.toList.take ((k + 1) * 3) ++ cs ++ cur.toList.drop ((k + 1) * 3 + cs.length)).toArray := ⟨_, rfl⟩
  have hl1 : cur1.size = cap * 3 := by
    rw [hcur1]
    simp only [List.size_toArray, List.length_append, List.length_take, List.length_drop, Array.length_toList, hcs, hcl]
    omega
  have hfit2 : k * 3 + (File.enc f).length ≤ cur1.size := by rw [hl1]; show k * 3 + 3 ≤ _; omega
  have hn2 : (File.enc f).length = Nat.min 1 (l.length + 1 - k) * 3 := by rw [show Nat.min 1 (l.length + 1 - k) = 1 from by show min _ _ = _; omega]; rfl
  have hsrc2 : ∀ W, Sep w0 W (L.set i (Ob.box g cur1 44)) → ∀ j v, (File.enc f)[j]? = some v → W.cell? ((⟨vb, 0, none⟩ : Addr).add j) = some v := fun W hW j v hj => by
    rw [Addr.add_lit, (hW.cells iv (by rw [List.getElem?_set_ne hne]; exact hiv)).1 (0 + j), Nat.zero_add]
    simpa using hj
  have hfin : (cur1.toList.take (k * 3) ++ File.enc f ++ cur1.toList.drop (k * 3 + (File.enc f).length)).take ((l.length + 1) * 3) = cur.toList.take (k * 3) ++ File.enc f ++ (cur.toList.drop (k * 3)).take ((l.length - k) * 3) := by
    have e1 : cur1.toList = cur.toList.take ((k + 1) * 3) ++ (cs ++ cur.toList.drop ((k + 1) * 3 + cs.length)) := by rw [hcur1, ← List.append_assoc]
    have e0 : (cur.toList.take ((k + 1) * 3)).length = k * 3 + 3 := by rw [List.length_take, hEl]; omega
    have e2 : cur1.toList.take (k * 3) = cur.toList.take (k * 3) := by rw [e1, List.take_append_of_le_length (by omega), List.take_take, Nat.min_eq_left (by omega)]
    have e3 : cur1.toList.drop (k * 3 + 3) = cs ++ cur.toList.drop ((k + 1) * 3 + cs.length) := by rw [e1, ← e0, List.drop_left]
    rw [e2, show (File.enc f).length = 3 from rfl, e3, ← hcs1, ← List.append_assoc, show (l.length + 1) * 3 = (cur.toList.take (k * 3) ++ File.enc f ++ cs).length from by
      rw [List.length_append, List.length_append, List.length_take, hEl, hcl]; show _ = min (k * 3) (cap * 3) + 3 + _; omega, List.take_left]
  have HS := Aside0.mk hs2
  have HI := Aside0.mk hi
  have HSRC1 := Aside0.mk hsrc1
  have HSRC2 := Aside0.mk hsrc2
  have HF := Aside0.mk (ins_flat htk k (by omega) f hfin)
  have HC1 := Aside0.mk hcur1
  have z2 : ((k : Int) == (l.length : Int)) = false := by simp; omega
  have z3 : IntKind.i64.wrap ((l.length : Int) + 1) = (l.length : Int) + 1 := by rw [IntKind.wrap_i64]; omega
  have z4 : IntKind.i64.wrap ((k : Int) + 1) = (k : Int) + 1 := by rw [IntKind.wrap_i64]; omega
  have z5 : ¬ ((cap : Int) < (l.length : Int) + 1) := by omega
  have z6 : (0 : Int) ≤ (k : Int) := by omega
  have z7 : (k : Int) ≤ (l.length : Int) := by omega
  have z8 : (l.length : Int) ≤ (cap : Int) := by omega
  have z9 : ((l.length : Int) + 1).toNat = l.length + 1 := by omega
  have z10 : ((k : Int) + 1).toNat = k + 1 := by omega
  have z11 : (0 : Int) ≤ (l.length : Int) + 1 := by omega
  have z12 : (l.length : Int) + 1 ≤ (cap : Int) := by omega
  have z13 : (k : Int) + 1 ≤ (l.length : Int) + 1 := by omega
  have z14 : (0 : Int) ≤ (k : Int) + 1 := by omega
  have z15 : (k : Int) ≤ (l.length : Int) + 1 := by omega
  have z16 : ¬ cap = k + 1 := by omega
  have z17 : ¬ cap = k := by omega
  have hu := Try.underlying27
  clear hs hi hiv hs2 hcs1 hcf hsrc1 hsrc2 hfin htk hcur1 hb hbv
  go_enter Try.func99, Try.ntmps99
  go_wp2_with (simp only [hov])
  refine PrintLast.start_ (ds := []) (S := (fun _ => True)) #[false, false, false, false, false, false, false, false, false] (by kernel_rfl) rfl rfl trivial (fun HH => ?_)
  refine PrintLast.pure_ (i := 0) (N := some 69) (v := ?_) #[true, false, false, false, false, false, false, false, false] rfl rfl (by kernel_rfl) (fun _ _ _ h => h) (Or.inl ⟨by rfl, ?_⟩) rfl ?_
  rotate_left 1
  · (intro w; go_simp; (try with_reducible rfl))
  (try simp only [Act.put, List.setIfInBounds_toArray, List.set_cons_zero, List.set_cons_succ])
  refine PrintLast.pure_ (i := 1) (N := some 70) (v := ?_) #[true, true, false, false, false, false, false, false, false] rfl rfl (by kernel_rfl) (fun _ _ _ h => h) (Or.inl ⟨by rfl, ?_⟩) rfl ?_
  rotate_left 1
  · (intro w; go_simp; (try with_reducible rfl))
  (try simp only [Act.put, List.setIfInBounds_toArray, List.set_cons_zero, List.set_cons_succ])
  refine PrintLast.pure_ (i := 2) (N := some 71) (v := ?_) #[true, true, true, false, false, false, false, false, false] rfl rfl (by kernel_rfl) (fun _ _ _ h => h) (Or.inl ⟨by rfl, ?_⟩) rfl ?_
  rotate_left 1
  · (intro w; go_simp; (try with_reducible rfl))
  (try simp only [Act.put, List.setIfInBounds_toArray, List.set_cons_zero, List.set_cons_succ])
  refine PrintLast.pure_ (i := 3) (N := some 72) (v := ?_) #[true, true, true, true, false, false, false, false, false] rfl rfl (by kernel_rfl) (fun _ _ _ h => h) (Or.inl ⟨by rfl, ?_⟩) rfl ?_
  rotate_left 1
  · (intro w; go_simp; (try with_reducible rfl))
  (try simp only [Act.put, List.setIfInBounds_toArray, List.set_cons_zero, List.set_cons_succ])
  refine PrintLast.pure_ (i := 4) (N := some 73) (v := ?_) #[true, true, true, true, true, false, false, false, false] rfl rfl (by kernel_rfl) (fun _ _ _ h => h) (Or.inl ⟨by rfl, ?_⟩) rfl ?_
  rotate_left 1
  · (intro w; go_simp; (try with_reducible rfl))
  (try simp only [Act.put, List.setIfInBounds_toArray, List.set_cons_zero, List.set_cons_succ])
  refine PrintLast.pure_ (i := 5) (N := some 74) (v := ?_) #[true, true, true, true, true, true, false, false, false] rfl rfl (by kernel_rfl) (fun _ _ _ h => h) (Or.inl ⟨by rfl, ?_⟩) rfl ?_
  rotate_left 1
  · (intro w; go_simp; (try with_reducible rfl))
  (try simp only [Act.put, List.setIfInBounds_toArray, List.set_cons_zero, List.set_cons_succ])
  refine PrintLast.pure_ (i := 6) (N := some 75) (v := ?_) #[true, true, true, true, true, true, true, false, false] rfl rfl (by kernel_rfl) (fun _ _ _ h => h) (Or.inl ⟨by rfl, ?_⟩) rfl ?_
  rotate_left 1
  · (intro w; go_simp; (try with_reducible rfl))
  (try simp only [Act.put, List.setIfInBounds_toArray, List.set_cons_zero, List.set_cons_succ])
  refine PrintLast.pure_ (i := 7) (N := some 76) (v := ?_) #[true, true, true, true, true, true, true, true, false] rfl rfl (by kernel_rfl) (fun _ _ _ h => h) (Or.inl ⟨by rfl, ?_⟩) rfl ?_
  rotate_left 1
  · (intro w; go_simp; (try with_reducible rfl))
  (try simp only [Act.put, List.setIfInBounds_toArray, List.set_cons_zero, List.set_cons_succ])
  refine PrintLast.one_ (i := 8) (N := some 77) #[true, true, true, true, true, true, true, true, true] rfl rfl (by kernel_rfl) (by decide) (fun K hK => ?_)
  rw [if_pos (by rfl)]
  refine wp_of_list rfl ?_
  refine ev_copy HS.out.drew i (get_set0 HI.out) rfl (.tmp 73) (.tmp 76) 27 27 rfl Try.underlying27 sizeFile cs rfl rfl hn1 (HSRC1.out _ HS.out.drew) hfit1 h11 ?_
  intro w5 v5 hs
  replace HS := Aside0.mk hs
  clear hs
  show K _ w5
  refine hK.out _ _ trivial (fun HH => ?_)
  clear hK K
  (try simp only [Act.put, List.setIfInBounds_toArray, List.set_cons_zero, List.set_cons_succ])
  refine PrintLast.done_ (by kernel_rfl) ?_
  have h5 := HS.out
  rw [List.set_set, ← HC1.out] at h5
  replace HS := Aside0.mk h5
  clear h5
  go_wp2_with ((with_reducible refine gate_app (b := .copy) (xs := #[.tmp 80, .tmp 81]) rfl ?_); refine ev_copy HS.out i (get_set0 HI.out) rfl (.tmp 80) (.tmp 81) 27 27 rfl Try.underlying27 sizeFile (File.enc f) rfl rfl hn2 (HSRC2.out _ HS.out) hfit2 (flatFile.one f) ?_; intro w6 v6 hs; replace HS := Aside0.mk hs; clear hs)
  go_ret
  have hl2 : (cur1.toList.take (k * 3) ++ File.enc f ++ cur1.toList.drop (k * 3 + (File.enc f).length)).toArray.size = cap * kFile.sz := by
    show _ = cap * 3
    simp only [List.size_toArray, List.length_append, List.length_take, List.length_drop, Array.length_toList, hl1]
    show min (k * 3) (cap * 3) + 3 + (cap * 3 - (k * 3 + 3)) = _
    omega
  have h7 := HS.out.unraw flatFile i (l.take k ++ f :: l.drop k) (get_set0 (get_set0 HI.out)) (cap := cap) (by rw [ins_len l k (by omega)]; exact hroom) hcm hl2 HF.out
  rw [List.set_set, List.set_set, ins_len l k (by omega)] at h7
  exact ⟨_, _, rfl, h7⟩
set_option maxRecDepth 100000 in
set_option maxHeartbeats 4000000 in
theorem Insert_end (w0 w : World) (L : List Ob) (i iv vb : Nat) (hne : i ≠ iv) (B : Option Addr) (cap : Nat) (l : List File) (f : File) (hs : Sep w0 w L) (hi : L[i]? = some (Ob.row kFile 44 (.slice B l.length cap) l)) (hiv : L[iv]? = some (Ob.box vb (File.enc f).toArray 44)) (hl : l.length ≤ 1048576) :
    Calls Try.prog 99 #[.slice B l.length cap, .int .i64 l.length, .slice (some ⟨vb, 0, none⟩) 1 1] w fun e w' => ∃ B' cap', e = .returned (.slice B' (l.length + 1) cap') ∧ Sep w0 w' (L.set i (Ob.row kFile 44 (.slice B' (l.length + 1) cap') (l ++ [f]))) := by
  have hC : Kd.C kFile w (some ⟨vb, 0, none⟩) 1 [f] := (hs.unraw flatFile iv [f] hiv (cap := 1) (Nat.le_refl 1) (by decide) (by rfl) (by simp [File.enc]; rfl)).C iv (get_set0 hiv)
  have HS := Aside0.mk hs
  have HI := Aside0.mk hi
  have HC := Aside0.mk hC
  have hc := (hs.len i hi).2
  have hm : cap ≤ 9223372036854775807 := cap_le hs i hi
  have hu := Try.underlying27
  clear hs hi hiv hC
  go_enter Try.func99, Try.ntmps99
  go_wp2_with (first | ((with_reducible refine gate_app (b := .append) (xs := #[.tmp 23, .tmp 24]) rfl ?_); at_builtin; refine ev_append_rows flatFile HS.out i HI.out rfl (.tmp 23) (.tmp 24) 27 _ _ rfl Try.underlying27 infoFile rfl (by decide) (by decide) (ys := [f]) rfl rfl HC.out (by omega) ?_; intro v w7 hs; obtain ⟨B7, d7, rfl, _, _⟩ := hs.reads i (get_set0 HI.out); replace HS := Aside0.mk hs; clear hs))
  all_goals
    go_ret
    have h := HS.out
    rw [List.length_append] at h
    exact ⟨_, _, rfl, h⟩
end Go.Proofs.Ytbbeaghhchjkgaa.Dk
