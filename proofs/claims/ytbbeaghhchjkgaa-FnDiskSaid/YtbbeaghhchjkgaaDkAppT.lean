/- Append to a file: the reference. No condition. -/
import Derived.Test.YtbbeaghhchjkgaaDkPutM
namespace Go.Proofs.Ytbbeaghhchjkgaa.Dk
open Go.RowKit Go.Proofs.YtbbeaghhchjkgaaW Go.Proofs.YtbbeaghhchjkgaaW.PrintWords Go.Proofs.Ytbbeaghhchjkgaa.Sp Go.Proofs.Ytbbeaghhchjkgaa.Ty Go.Proofs.Ytbbeaghhchjkgaa.Im Go.Proofs.Ytbbeaghhchjkgaa.Lw
set_option linter.unusedVariables false
set_option linter.unusedSimpArgs false
attribute [local go_sem ↓] Go.wp_at_zero Go.wp_at_succ
attribute [local go_sem] World.cell?_alloc_lt
/-- The file of a name with more behind it. -/
def appFile (l : List File) (name : Int) (s : ByteArray) : File :=
  if fileAt l name < 0 then ⟨name, ⟨#[]⟩, ⟨#[]⟩ ++ s⟩ else ⟨(rdFile l (fileAt l name).toNat).Name, (rdFile l (fileAt l name).toNat).Safe, (rdFile l (fileAt l name).toNat).Late ++ s⟩
def appendR (room : Int) (l : List File) (name : Int) (s : ByteArray) : Told :=
  if (diskOk room l && isFile name) = true then (if room - vol l < s.size then ⟨room, l, 3⟩ else ⟨room, putF l (appFile l name s), 0⟩) else ⟨0, [], 1⟩
theorem appendR_len (room : Int) (l : List File) (name : Int) (s : ByteArray) : (appendR room l name s).files.length ≤ 2 * l.length + 1 := by
  unfold appendR
  split
  · split
    · show l.length ≤ _; omega
    · exact putF_len _ _
  · show 0 ≤ _; omega
theorem ok_room {room : Int} {l : List File} (h : diskOk room l = true) : 0 ≤ room ∧ room ≤ 60000 ∧ vol l ≤ room := by
  rw [diskOk, Bool.and_eq_true, Bool.and_eq_true] at h
  exact ⟨(inB_iff.1 h.2.1).1, (inB_iff.1 h.2.1).2, of_decide_eq_true h.2.2⟩
theorem ev_skip {P : Program} {ops : Array Oper} {rest : List Oper} {o : Oper} {a : Act} {Q : Exit → Act → World → Prop} {W W' : World} (hgd : o.guard = none) (hN : o.dst = none) (hrun : (execOp a.eval o).run P W = .ok .skip W')
    (k : wpList P ops Q rest a W') : wpList P ops Q (o :: rest) a W := by
  refine wpList_plain hgd fun K hK => ?_
  unfold Oper.wp
  rw [hrun]
  show K (a.put o.dst undef) _
  rw [hN]
  exact hK _ _ k
set_option maxRecDepth 100000 in
set_option maxHeartbeats 4000000 in
theorem spec_App2 (room : Int) (A : Option Addr) (c : Nat) (l : List File) (name : Int) (s : ByteArray) (w : World) (HR : Aside0 (Kd.C kFile w A l.length l)) (HV : Aside0 (Small l)) (hl : l.length ≤ 1048576) (hz : s.size ≤ 1048576) (HBB : Aside0 (diskOk room l = true)) (HCC : Aside0 (isFile name = true)) (hfull : ¬ (room - vol l < s.size)) (hn : ¬ fileAt l name < 0) :
    Calls Try.prog 32 #[.agg #[.int .i64 room, .slice A l.length c], .int .i64 name, .string s] w fun e w' => ∃ v, e = .returned (.tuple #[.agg #[.int .i64 room, v], .int .i64 0]) ∧ Sep w w' [Ob.row kFile 44 v (putF l (appFile l name s))] := by
  have hu := Try.underlying29
  have hu2 := Try.underlying44
  obtain ⟨hr0, hr1, hr2⟩ := ok_room HBB.out
  have hr3 := vol_nonneg l
  have hw : IntKind.i64.wrap (room - vol l) = room - vol l := by rw [IntKind.wrap_i64]; omega
  have c1 : decide (room - vol l < (s.size : Int)) = false := decide_eq_false hfull
  clear hfull
  obtain ⟨j, hj⟩ := Int.eq_ofNat_of_zero_le (show 0 ≤ fileAt l name by omega)
  rcases fileAt_range l name with h1 | ⟨_, h2, _⟩
  · omega
  have p1 : j < l.length := by omega
  rw [show appFile l name s = ⟨(rdFile l j).Name, (rdFile l j).Safe, (rdFile l j).Late ++ s⟩ from by rw [appFile, if_neg hn, hj, Int.toNat_natCast]]
  have hs1 := vol_at p1
  have hsz : (rdFile l j).Late.size + s.size ≤ 2097152 := by omega
  have hcat : ¬ 9223372036854775807 < (rdFile l j).Late.size + s.size := by omega
  have p0 : (0 : Int) ≤ (j : Int) := by omega
  have p2 : (j : Int) < (l.length : Int) := by omega
  have HJ := Aside0.mk hj
  clear hn h2 hj hs1
  go_enter Try.func32, Try.ntmps32
  go_wp2_with (first | (go_at_call 14; refine (spec_DiskOk room A c l _ (Kd.C_alloc (Kd.C_alloc HR.out _) _) HV.out).mono ?_; rw [HBB.out]; rintro e w2 ⟨rfl, hb⟩; have HS := Aside0.mk ((((Sep.nil w).alloc _ _).alloc _ _).below hb); have F := HS.out.facts; (try simp only [List.cons_append, List.nil_append, List.set_cons_zero, List.set_cons_succ, size_al, size_set] at HS); replace F := HS.out.facts; simp only [facts_cons, facts_nil, fact_box, fact_row, fact_gone, cellsAt_cons, cellsAt_nil, Nat.zero_add, Nat.reduceAdd, true_and, and_true] at F; clear hb) | (go_at_call 44; refine (spec_isFile _ _).mono ?_; rw [HCC.out]; rintro e w' ⟨rfl, ⟨nd, rfl⟩⟩; replace HS := Aside0.mk (HS.out.drewN nd); (try simp only [List.cons_append, List.nil_append, List.set_cons_zero, List.set_cons_succ, size_al, size_set] at HS); replace F := HS.out.facts; simp only [facts_cons, facts_nil, fact_box, fact_row, fact_gone, cellsAt_cons, cellsAt_nil, Nat.zero_add, Nat.reduceAdd, true_and, and_true] at F))
  generalize hW_ : w2.drewN nd = w9 at HS ⊢
  clear hW_
  (try simp only [List.cons_append, List.nil_append, List.set_cons_zero, List.set_cons_succ, size_al, size_set] at HS); replace F := HS.out.facts; simp only [facts_cons, facts_nil, fact_box, fact_row, fact_gone, cellsAt_cons, cellsAt_nil, Nat.zero_add, Nat.reduceAdd, true_and, and_true] at F
  go_region_held3 (fun W => W.cell? ⟨w.heap.size, 0, none⟩ = some (.int .i64 room) ∧ W.cell? ⟨w.heap.size, 1, none⟩ = some (.slice A l.length c)) (first | go_keep | exact ⟨F.1.2.1.1, F.1.2.2.1⟩) (first | (go_at_call 43; refine (spec_size room A c l _ (Kd.C_below HR.out HS.out.drew.old) HV.out).mono ?_; rintro e w3 ⟨rfl, hb⟩; replace HS := Aside0.mk (HS.out.drew.below hb); (try simp only [List.cons_append, List.nil_append, List.set_cons_zero, List.set_cons_succ, size_al, size_set] at HS); replace F := HS.out.facts; simp only [facts_cons, facts_nil, fact_box, fact_row, fact_gone, cellsAt_cons, cellsAt_nil, Nat.zero_add, Nat.reduceAdd, true_and, and_true] at F; clear hb))
  go_wp2_with (first | (go_at_call 50; refine (spec_Find room A c l name _ (Kd.C_below HR.out (HS.out.alloc _ _).old)).mono ?_; rw [HJ.out]; rintro e w4 ⟨rfl, hb⟩; have M := Nat.ne_of_lt F.1.1; have M2 := Nat.ne_of_lt F.2.1; have M3 : w3.heap.size ≠ w.heap.size := fun h => M h.symm; replace HS := Aside0.mk ((HS.out.alloc _ _).below hb); (try simp only [List.cons_append, List.nil_append, List.set_cons_zero, List.set_cons_succ, size_al, size_set] at HS); replace F := HS.out.facts; simp only [facts_cons, facts_nil, fact_box, fact_row, fact_gone, cellsAt_cons, cellsAt_nil, Nat.zero_add, Nat.reduceAdd, true_and, and_true] at F; clear hb; obtain ⟨ad, rfl, x0, x1, x2⟩ := atFile (Kd.C_below HR.out HS.out.old) j p1) | ((with_reducible refine gate_store (t := 44) (p := 8) (v := .tmp 42) rfl ?_); refine ev_skip (W' := ((w4.setCell ⟨w3.heap.size, 0, none⟩ (.int .i64 (rdFile l j).Name)).setCell ⟨w3.heap.size, 1, none⟩ (.string (rdFile l j).Safe)).setCell ⟨w3.heap.size, 2, none⟩ (.string (rdFile l j).Late)) rfl rfl ?_ ?_; (case refine_1 => go_simp); have hs := ((HS.out.set 2 rfl 0 (.int .i64 (rdFile l j).Name)).set 2 rfl 1 (.string (rdFile l j).Safe)).set 2 rfl 2 (.string (rdFile l j).Late); simp only [List.set_cons_zero, List.set_cons_succ, List.setIfInBounds_toArray] at hs; generalize World.setCell (World.setCell (World.setCell w4 _ _) _ _) _ _ = w5 at hs ⊢; replace HS := Aside0.mk hs; clear hs; (try simp only [List.cons_append, List.nil_append, List.set_cons_zero, List.set_cons_succ, size_al, size_set] at HS); replace F := HS.out.facts; simp only [facts_cons, facts_nil, fact_box, fact_row, fact_gone, cellsAt_cons, cellsAt_nil, Nat.zero_add, Nat.reduceAdd, true_and, and_true] at F))
  have hs := HS.out.set 2 rfl 2 (.string ((rdFile l j).Late ++ s))
  simp only [List.set_cons_zero, List.set_cons_succ, List.setIfInBounds_toArray] at hs
  generalize w5.setCell ⟨w3.heap.size, 2, none⟩ (.string ((rdFile l j).Late ++ s)) = w6 at hs ⊢
  replace HS := Aside0.mk hs
  clear hs
  (try simp only [List.cons_append, List.nil_append, List.set_cons_zero, List.set_cons_succ, size_al, size_set] at HS); replace F := HS.out.facts; simp only [facts_cons, facts_nil, fact_box, fact_row, fact_gone, cellsAt_cons, cellsAt_nil, Nat.zero_add, Nat.reduceAdd, true_and, and_true] at F
  refine (spec_Put room _ c l ⟨(rdFile l j).Name, (rdFile l j).Safe, (rdFile l j).Late ++ s⟩ _ (Kd.C_below HR.out HS.out.old) hl).mono ?_
  rintro e w7 ⟨v, rfl, hs⟩
  obtain ⟨B, n, d, rfl⟩ := hs.form3 0 rfl
  replace HS := Aside0.mk (HS.out.add hs)
  (try simp only [List.cons_append, List.nil_append, List.set_cons_zero, List.set_cons_succ, size_al, size_set] at HS); replace F := HS.out.facts; simp only [facts_cons, facts_nil, fact_box, fact_row, fact_gone, cellsAt_cons, cellsAt_nil, Nat.zero_add, Nat.reduceAdd, true_and, and_true] at F
  clear hs
  go_wp2
  refine bodyPost_ret (v := .tuple #[.agg #[.int .i64 room, .slice B n d], .int .i64 0]) (by simp [results, Try.results32, F, go_sem]) rfl ⟨_, rfl, ?_⟩
  exact (((HS.out.set 1 rfl 0 _).set 1 rfl 1 _).pk [3] (by decide))
end Go.Proofs.Ytbbeaghhchjkgaa.Dk
