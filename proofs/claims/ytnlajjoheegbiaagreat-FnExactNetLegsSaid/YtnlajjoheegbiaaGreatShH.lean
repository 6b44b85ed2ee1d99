/- Symbolic memory: parts of rows, literals of rows, rows made. No condition. -/
import Derived.Test.YtnlajjoheegbiaaGreatShG
namespace Go.Proofs.YtnlajjoheegbiaaGreat.Sh
open Go.RowKit Go.Proofs.YtnlajjoheegbiaaGreatW
set_option linter.unusedVariables false
theorem fold_get (off : Nat) : ∀ (l : List Value) (j : Nat) (cs : Array Value), off + j + l.length ≤ cs.size → ∀ k, ((l.zipIdx j).foldl (fun cs (p : Value × Nat) => cs.setIfInBounds (off + p.2) p.1) cs)[k]? = (if off + j ≤ k ∧ k < off + j + l.length then l[k - (off + j)]? else cs[k]?) ∧ ((l.zipIdx j).foldl (fun cs (p : Value × Nat) => cs.setIfInBounds (off + p.2) p.1) cs).size = cs.size
  | [], j, cs, h, k => by
    simp only [List.zipIdx_nil, List.foldl_nil, List.length_nil, Nat.add_zero, and_true]
    rw [if_neg (by omega)]
  | c :: l, j, cs, h, k => by
    simp only [List.length_cons] at h
    obtain ⟨h1, h2⟩ := fold_get off l (j + 1) (cs.setIfInBounds (off + j) c) (by simp; omega) k
    simp only [List.zipIdx_cons, List.foldl_cons]
    refine ⟨?_, by rw [h2]; simp⟩
    rw [h1]
    by_cases hk : k = off + j
    · subst hk
      rw [if_neg (by omega), if_pos (by simp), Nat.sub_self, Array.getElem?_setIfInBounds_self_of_lt (by omega)]
      rfl
    · by_cases hin : off + (j + 1) ≤ k ∧ k < off + (j + 1) + l.length
      · rw [if_pos hin, if_pos (by simp only [List.length_cons]; omega), show k - (off + j) = (k - (off + (j + 1))) + 1 from by omega]
        rfl
      · rw [if_neg hin, if_neg (by simp only [List.length_cons]; omega), Array.getElem?_setIfInBounds_ne (by omega)]
theorem fill_get {sz : Nat} (hz : 0 < sz) : ∀ (L : List (List Value)) (vs : List Value) (k0 : Nat) (cs : Array Value), All2 (fun c (v : Value) => v.cells.toList = c ∧ c.length = sz) L vs → (k0 + L.length) * sz ≤ cs.size →
    ∃ r, Instr.fill (fun i => some (i * sz, sz)) cs (vs.mapIdx (fun i v => (k0 + i, v))) = some r ∧ r.size = cs.size ∧ ∀ k, r[k]? = if k0 * sz ≤ k ∧ k < (k0 + L.length) * sz then L.flatten[k - k0 * sz]? else cs[k]?
  | [], [], k0, cs, _, _ => ⟨cs, rfl, rfl, fun k => by rw [if_neg (by simp only [List.length_nil, Nat.add_zero]; omega)]⟩
  | c :: L, v :: vs, k0, cs, h, hs => by
    obtain ⟨⟨h1, h2⟩, h3⟩ := h
    have hvs : v.cells.size = sz := by rw [← h2, ← h1, Array.length_toList]
    have hsz : k0 * sz + sz ≤ cs.size := by
      have : (k0 + 1) * sz ≤ (k0 + (c :: L).length) * sz := Nat.mul_le_mul_right _ (by simp)
      rw [Nat.add_mul, Nat.one_mul] at this
      omega
    have hf := fold_get (k0 * sz) c 0 cs (by omega)
    obtain ⟨C, hC⟩ : ∃ C, C = (c.zipIdx 0).foldl (fun cs (p : Value × Nat) => cs.setIfInBounds (k0 * sz + p.2) p.1) cs := ⟨_, rfl⟩
    rw [← hC] at hf
    obtain ⟨r, h4, h5, h6⟩ := fill_get hz L vs (k0 + 1) C h3 (by rw [(hf 0).2]; rw [List.length_cons] at hs; rwa [Nat.add_assoc, Nat.add_comm 1])
    refine ⟨r, ?_, by rw [h5, (hf 0).2], fun k => ?_⟩
    · rw [List.mapIdx_cons]
      unfold Instr.fill
      simp only [Nat.add_zero]
      rw [if_neg (by simp only [Bool.or_eq_true, decide_eq_true_eq]; rintro (hc | hc) <;> omega)]
      have e1 : v.cells.zipIdx.foldl (fun cs (c, j) => cs.setIfInBounds (k0 * sz + j) c) cs = C := by
        rw [hC, ← Array.foldl_toList, Array.toList_zipIdx, h1]
      rw [e1]
      have e2 : (fun (i : Nat) (v : Value) => (k0 + (i + 1), v)) = (fun i v => (k0 + 1 + i, v)) := by
        funext i v
        rw [show k0 + (i + 1) = k0 + 1 + i from by omega]
      rw [e2]
      exact h4
    · rw [h6]
      have hk1 : (k0 + 1) * sz = k0 * sz + sz := by rw [Nat.add_mul, Nat.one_mul]
      have hk2 : (k0 + (c :: L).length) * sz = (k0 + 1 + L.length) * sz := by rw [List.length_cons]; congr 1; omega
      rw [hk2]
      have hle : (k0 + 1) * sz ≤ (k0 + 1 + L.length) * sz := Nat.mul_le_mul_right _ (by omega)
      rw [List.flatten_cons]
      by_cases hin : (k0 + 1) * sz ≤ k ∧ k < (k0 + 1 + L.length) * sz
      · rw [if_pos hin, if_pos (by omega), List.getElem?_append_right (by omega), h2]
        congr 1
        omega
      · rw [if_neg hin, (hf k).1]
        simp only [Nat.add_zero]
        by_cases hin2 : k0 * sz ≤ k ∧ k < k0 * sz + c.length
        · rw [if_pos hin2, if_pos (by omega), List.getElem?_append_left (by omega)]
        · rw [if_neg hin2, if_neg (by omega)]
section
variable {P : Program} {T : TB}
def loV (env : List (Nat × AV)) : Option Operand → Int → Option Int
  | none, d => some d
  | some x, _ => match ev env x with
    | some (.c (.sc (.int _ i))) => some i
    | _ => none
theorem loV_R {ρ : Pl} {env : List (Nat × AV)} {a : Act} (he : EnvR ρ env a.tmps) {d i : Int} : ∀ {x : Option Operand}, loV env x d = some i → (x.map a.eval = none ∧ i = d) ∨ ∃ k, x.map a.eval = some (.int k i)
  | none, h => by
    cases h
    exact .inl ⟨rfl, rfl⟩
  | some x, h => by
    have h : (match ev env x with
      | some (.c (.sc (.int _ i))) => some i
      | _ => none) = some i := h
    split at h
    · rename_i k j hj
      cases h
      exact .inr ⟨k, congrArg some (R_int (ev_R he hj))⟩
    · cases h
theorem slice_run {t e : TypeId} (hu : P.underlying t = some (.slice e)) {sz : Nat} (w : World) (hsz : ∀ w, (sizeOf e).run P w = .ok sz w) (A : Option Addr) (n c l h : Nat) (lo hi : Option Value) (hlo : (lo = none ∧ (l : Int) = 0) ∨ ∃ k, lo = some (.int k l)) (hhi : (hi = none ∧ (h : Int) = n) ∨ ∃ k, hi = some (.int k h)) (h1 : l ≤ h) (h2 : h ≤ c) (h3 : n ≤ c) :
    (Instr.sliceAt t (.slice A n c) lo hi none).run P w = .ok (.slice (if c = l then A else A.map (·.add (l * sz))) (h - l) (c - l)) w := by
  have e1 : ∀ (k : IntKind) (i y : Nat) code w, i ≤ y → (Instr.sliceBound (.int k i) y code).run P w = .ok i w := fun k i y code w hi => by
    have h5 : (i : Int) ≤ y := by omega
    simp [Instr.sliceBound, asIntOf, h5]
  rcases hlo with ⟨rfl, hl⟩ | ⟨k, rfl⟩
  · have hl : l = 0 := by omega
    subst hl
    rcases hhi with ⟨rfl, hh⟩ | ⟨k', rfl⟩
    · have hh : h = n := by omega
      subst hh
      simp [Instr.sliceAt, und_run hu, Instr.slice, Instr.sliceBounds, hsz]
    · simp [Instr.sliceAt, und_run hu, Instr.slice, Instr.sliceBounds, hsz, e1 k' h c _ _ (by omega)]
  · rcases hhi with ⟨rfl, hh⟩ | ⟨k', rfl⟩
    · have hh : h = n := by omega
      subst hh
      simp [Instr.sliceAt, und_run hu, Instr.slice, Instr.sliceBounds, hsz, e1 k l h _ _ h1]
    · simp [Instr.sliceAt, und_run hu, Instr.slice, Instr.sliceBounds, hsz, e1 k' h c _ _ (by omega), e1 k l h _ _ h1]
/-- A part of a row. -/
theorem opP_slice (hT : TOk P T) {st : St} {dst : Option Tmp} {t e : TypeId} {x : Operand} {lo hi : Option Operand} {ty : TypeId} {pos : String} {af : Array Edge} {g : Option (Nat × Bool)} {o s n : Nat} {ob : AO} {l h : Int} {ti te : TI} (hx : ev st.env x = some (.c (.row o s n)))
    (ht : tlk t T = some ti) (hs : ti.d = .slice e) (hte : tlk e T = some te) (ho : st.h[o]? = some (some ob)) (hsz : te.size = ob.sz) (hl : loV st.env lo 0 = some l) (hh : loV st.env hi n = some h) (h0 : 0 ≤ l) (h1 : l ≤ h) (h2 : h ≤ n) :
    OpP P ⟨dst, .slice t x lo hi none, ty, pos, af, g⟩ st (.c (.row o (s + l.toNat) (h.toNat - l.toNat))) := fun Γ ρ a w0 hr => by
  obtain ⟨sl, k1, k2⟩ := hr.holds.obj o ob ho
  obtain ⟨sl', e1, e2, e3⟩ : RowR ρ o s n (a.eval x) := ev_R hr.env hx
  have : sl = sl' := by rw [k1] at e1; exact Option.some.inj e1
  subst this
  have hu : P.underlying t = some (.slice e) := by have := tlk_und hT ht; rw [hs] at this; exact this
  have hlo := loV_R hr.env hl
  have hhi := loV_R hr.env hh
  obtain ⟨ln, rfl⟩ := Int.eq_ofNat_of_zero_le h0
  obtain ⟨hn, rfl⟩ := Int.eq_ofNat_of_zero_le (Int.le_trans h0 h1)
  rw [Int.toNat_natCast, Int.toNat_natCast]
  have key : ∀ (A : Option Addr) (c : Nat), n ≤ c → a.eval x = .slice A n c → ∀ w, (execOp a.eval ⟨dst, .slice t x lo hi none, ty, pos, af, g⟩).run P w = .ok (.value (.slice (if c = ln then A else A.map (·.add (ln * te.size))) (hn - ln) (c - ln))) w := by
    intro A c hc hA w
    have := slice_run (P := P) hu w (run_size hT hte) A n c ln hn (lo.map a.eval) (hi.map a.eval) hlo hhi (by omega) (by omega) hc
    unfold execOp
    simp only [Option.map_none, hA, Sem.run_bind, this, Result.andThen_ok, Sem.run_pure]
  rcases e3 with ⟨cc, e3, hcc, hro⟩ | ⟨rfl, hro, A, c, e3, hc0⟩
  · refine ⟨_, ⟨sl, k1, by omega, ?_⟩, key _ _ hcc e3⟩
    by_cases hc : cc = ln
    · rw [if_pos hc]
      have hz : hn - ln = 0 := by omega
      rw [hz]
      by_cases hp : 0 < s + ln
      · exact .inr ⟨rfl, .inl hp, _, _, rfl, fun h => by omega⟩
      · left
        have hs0 : s = 0 := by omega
        have hl0 : ln = 0 := by omega
        subst hs0; subst hl0
        refine ⟨cc - 0, ?_, by omega, fun h => by rw [hro h]; omega⟩
        cases sl.a <;> simp [Addr.add]
    · left
      rw [if_neg hc]
      refine ⟨cc - ln, ?_, by omega, fun h => by rw [hro h]; omega⟩
      rw [hsz, ← k2.sz]
      cases sl.a with
      | none => rfl
      | some ad => simp only [Option.map_some, add_add, ← Nat.add_mul]
  · have hl0 : ln = 0 := by omega
    have hn0 : hn = 0 := by omega
    subst hl0; subst hn0
    refine ⟨_, ⟨sl, k1, by omega, .inr ⟨rfl, ?_, _, _, rfl, fun h1 h2 => by have := hc0 (by omega) h2; omega⟩⟩, key A c (by omega) e3⟩
    rcases hro with h | h
    · exact .inl (by omega)
    · exact .inr h
/-- Plain elements, numbered one behind the other. -/
def bsA : Nat → List (Nat × AV) → Option (List (List Value))
  | _, [] => some []
  | k, (i, v) :: r => match Nat.beq i k, boxCs v with
    | true, some cs => match El.put.plain cs, bsA (k + 1) r with
      | some vs, some L => some (vs :: L)
      | _, _ => none
    | _, _ => none
theorem plain_R {ρ : Pl} {cs : List AC} {vs us : List Value} (h : El.put.plain cs = some vs) (hr : All2 (AC.R ρ) cs us) : us = vs := by
  have := plain_eq h
  subst this
  clear h
  induction vs generalizing us with
  | nil => cases us with
    | nil => rfl
    | cons => exact hr.elim
  | cons v vs ih => cases us with
    | nil => exact hr.elim
    | cons u us => rw [ih hr.2, hr.1.1]
theorem bsA_R {ρ : Pl} {sz : Nat} : ∀ {k : Nat} {ps : List (Nat × AV)} {qs : List (Nat × Value)} {L : List (List Value)}, bsA k ps = some L → (∀ c ∈ L, c.length = sz) → All2 (fun p q => p.1 = q.1 ∧ p.2.R ρ q.2) ps qs → ∃ vs : List Value, qs = vs.mapIdx (fun i v => (k + i, v)) ∧ All2 (fun c (v : Value) => v.cells.toList = c ∧ c.length = sz) L vs
  | k, [], [], L, h, _, _ => by
    cases h
    exact ⟨[], rfl, trivial⟩
  | k, (i, v) :: ps, (j, u) :: qs, L, h, hL, hq => by
    unfold bsA at h
    split at h
    · rename_i cs hb hc
      split at h
      · rename_i vs0 L' hp hrec
        cases h
        have hik : i = k := Nat.eq_of_beq_eq_true hb
        obtain ⟨⟨q1, q2⟩, q3⟩ := hq
        have q1 : i = j := q1
        obtain ⟨vs, h1, h2⟩ := bsA_R hrec (fun c hc => hL c (by simp [hc])) q3
        refine ⟨u :: vs, ?_, ⟨?_, hL _ (by simp)⟩, h2⟩
        · rw [List.mapIdx_cons, h1, ← q1, hik]
          congr 1
          apply List.ext_getElem?
          intro x
          simp only [List.getElem?_mapIdx]
          cases vs[x]? with
          | none => rfl
          | some y => simp; omega
        · exact plain_R hp (box_R hc q2).1
      · cases h
    · cases h
/-- A literal of a row. -/
theorem opQ_lit (hT : TOk P T) {st : St} {dst : Option Tmp} {t e : TypeId} {len : Nat} {parts : Array (Nat × Operand)} {ty : TypeId} {pos : String} {af : Array Edge} {g : Option (Nat × Bool)} {ti te : TI} {ps : List (Nat × AV)} {L : List (List Value)} (hd : st.fits dst = true)
    (ht : tlk t T = some ti) (hs : ti.d = .slice e) (hte : tlk e T = some te) (hps : evp st.env parts.toList = some ps) (hL : bsA 0 ps = some L) (hll : L.length = len) (hsz : L.all (fun c => Nat.beq c.length te.size) = true) (hz : 0 < te.size) (hb : len * te.size ≤ 16777216) :
    OpQ P ⟨dst, .buildSlice t len parts, ty, pos, af, g⟩ st (fun st' => st' = ({ st with h := st.h ++ [some ⟨true, e, te.size, .fl L⟩] } : St).put dst (.c (.row st.h.length 0 len))) := fun Γ ρ a w hr K' Q' hk => by
  have hu : P.underlying t = some (.slice e) := by have := tlk_und hT ht; rw [hs] at this; exact this
  have hLs : ∀ c ∈ L, c.length = te.size := fun c hc => Nat.eq_of_beq_eq_true (List.all_eq_true.1 hsz c hc)
  have hq := evp_R hr.env hps
  obtain ⟨vs, h1, h2⟩ := bsA_R hL hLs hq
  have hF : Flat te.size L := fun c hc => ⟨hLs c hc, fun u hu' => by
    obtain ⟨i, hi⟩ := List.getElem?_of_mem hc
    obtain ⟨v, hv, hv2, _⟩ := h2.get hi
    have hone : ∀ p ∈ ps, ∀ cs, boxCs p.2 = some cs → ∀ vs0, El.put.plain cs = some vs0 → ∀ u ∈ vs0, u.oneCell' = true := fun p hp cs hcs vs0 hvs0 u hu0 => by
      obtain ⟨j, hj⟩ := List.getElem?_of_mem hp
      obtain ⟨q, _, _, q2⟩ := hq.get hj
      have h3 := (box_R hcs q2).1
      rw [plain_R hvs0 h3] at h3
      obtain ⟨jj, hjj⟩ := List.getElem?_of_mem hu0
      have := plain_eq hvs0
      subst this
      obtain ⟨y, hy1, hy2⟩ := h3.get (i := jj) (x := .sc u) (by rw [List.getElem?_map, hjj]; rfl)
      exact hy2.2
    have hmem : ∀ (k : Nat) (ps' : List (Nat × AV)) (L' : List (List Value)), (∀ p ∈ ps', p ∈ ps) → bsA k ps' = some L' → ∀ c ∈ L', ∀ u ∈ c, u.oneCell' = true := by
      intro k ps'
      induction ps' generalizing k with
      | nil => intro L' _ h; cases h; intro c hc; simp at hc
      | cons p ps' ih =>
        intro L' hsub h
        obtain ⟨i, v⟩ := p
        unfold bsA at h
        split at h
        · rename_i cs hb hc
          split at h
          · rename_i vs0 L2 hp hrec
            cases h
            intro c hc2
            rcases List.mem_cons.1 hc2 with rfl | hc2
            · exact hone (i, v) (hsub _ (by simp)) cs hc _ hp
            · exact ih (k + 1) L2 (fun p hp => hsub p (by simp [hp])) hrec c hc2
          · cases h
        · cases h
    exact hmem 0 ps L (fun _ h => h) hL c hc u hu'⟩
  obtain ⟨iz, z, i1, i2, i3, i4, i5⟩ := (hT e te hte).info
  obtain ⟨C, hC⟩ : ∃ C : Array Value, C = (Array.range (len * te.size)).map (fun i => z.cells[i % z.cells.size]!) := ⟨_, rfl⟩
  have hCs : C.size = len * te.size := by rw [hC]; simp
  obtain ⟨r, f1, f2, f3⟩ := fill_get hz L vs 0 C h2 (by rw [hCs, hll, Nat.zero_add]; exact Nat.le_refl _)
  have hrl : r.toList = L.flatten := by
    apply List.ext_getElem?
    intro k
    rw [Array.getElem?_toList, f3]
    simp only [Nat.zero_mul, Nat.zero_le, true_and, Nat.zero_add, Nat.sub_zero]
    by_cases hk' : k < L.length * te.size
    · rw [if_pos hk']
    · rw [if_neg hk', List.getElem?_eq_none (by rw [flat_len hLs]; omega), Array.getElem?_eq_none (by rw [hCs, ← hll]; omega)]
  have hrun : (execOp a.eval ⟨dst, .buildSlice t len parts, ty, pos, af, g⟩).run P w = .ok (.value (.slice (some ⟨w.heap.size, 0, none⟩) len len)) (w.alloc (.cells r e)) := by
    have h7 : (parts.map (fun (i, x) => (i, a.eval x))).toList = parts.toList.map (fun p => (p.1, a.eval p.2)) := by simp
    have hnb : ¬ (len * te.size > 2 ^ 24) := by omega
    have hfill : Instr.fill (fun i => some (i * te.size, te.size)) C (parts.toList.map (fun p => (p.1, a.eval p.2))) = some r := by
      rw [h1]
      exact f1
    unfold execOp
    by_cases hl0 : len * te.size = 0
    · have hC0 : C = #[] := Array.eq_empty_of_size_eq_zero (by rw [hCs, hl0])
      rw [hC0] at hfill
      simp only [Instr.buildSlice, Sem.run_bind, und_run hu, Result.andThen_ok, run_size hT hte, Sem.run_ite, hl0, if_true, Sem.run_pure]
      simp [hfill, newRow, Array.range_zero']
    · simp only [Instr.buildSlice, Sem.run_bind, und_run hu, Result.andThen_ok, run_size hT hte, Sem.run_ite, hnb, if_false, hl0, Sem.run_pure, zeroValue, typeInfo, run_program, i1, i4]
      rw [hC] at hfill
      simp [hfill, newRow]
  unfold Oper.wp
  rw [hrun]
  have hob : ObjH (ρ ++ [⟨some ⟨w.heap.size, 0, none⟩, len, te.size, false⟩]) ⟨some ⟨w.heap.size, 0, none⟩, len, te.size, false⟩ ⟨true, e, te.size, .fl L⟩ (w.alloc (.cells r e)) := by
    refine row_obj (heap_alloc_new w _) (by rw [f2, hCs]) hF (by omega) ?_ hz ?_
    · have : len * 1 ≤ len * te.size := Nat.mul_le_mul_left _ hz
      omega
    · rw [hrl, ← flat_len hLs, List.take_length]
  have hH := hr.holds.alloc hr.len r e _ _ rfl hob
  refine hk _ _ _ _ rfl (hr.put _ dst hd _ _ (Ext.append _ _) (by simp [hr.len]) hH ⟨_, by rw [← hr.len]; exact get_append_len _ _, by simp, .inl ⟨len, by simp [Addr.add], Nat.le_refl _, fun _ => by simp⟩⟩) (Ext.append _ _) (same_alloc w _)
/-- make([]T, n). -/
theorem opQ_make (hT : TOk P T) {st : St} {dst : Option Tmp} {t e : TypeId} {x y : Operand} {ty : TypeId} {pos : String} {af : Array Edge} {g : Option (Nat × Bool)} {ti te : TI} {k1 k2 : IntKind} {n : Int} (hd : st.fits dst = true)
    (hx : ev st.env x = some (.c (.sc (.int k1 n)))) (hy : ev st.env y = some (.c (.sc (.int k2 n)))) (ht : tlk t T = some ti) (hs : ti.d = .slice e) (hte : tlk e T = some te) (hz : 0 < te.size) (h0 : 0 ≤ n) (hb : te.bytes * n ≤ 281474976710656) (hb2 : n ≤ 9223372036854775807) :
    OpQ P ⟨dst, .makeSlice t x y, ty, pos, af, g⟩ st (fun st' => st' = ({ st with h := st.h ++ [some ⟨true, e, te.size, .fl (List.replicate n.toNat te.zero)⟩] } : St).put dst (.c (.row st.h.length 0 n.toNat))) := fun Γ ρ a w hr K' Q' hk => by
  have hu : P.underlying t = some (.slice e) := by have := tlk_und hT ht; rw [hs] at this; exact this
  obtain ⟨iz, z, i1, i2, i3, i4, i5⟩ := (hT e te hte).info
  have hzl := (hT e te hte).zl
  have hzo := (hT e te hte).one
  have hrun0 := run_make (P := P) w t e iz z hu i1 i4 k1 k2 n n h0 (Int.le_refl _) (by rw [i3]; exact hb) hb2
  have hrun : (execOp a.eval ⟨dst, .makeSlice t x y, ty, pos, af, g⟩).run P w = .ok (.value (.slice (some ⟨w.heap.size, 0, none⟩) n.toNat n.toNat)) (w.alloc (.cells (madeCells z.cells (n.toNat * te.size)) e)) := by
    rw [i2] at hrun0
    unfold execOp
    simp only [R_int (ev_R hr.env hx), R_int (ev_R hr.env hy), Sem.run_bind, hrun0, Result.andThen_ok, Sem.run_pure]
  unfold Oper.wp
  rw [hrun]
  have hzs : z.cells.size = te.size := by
    have h0 : z.cells.toList.length = z.cells.size := Array.length_toList
    rw [← h0, i5, hzl]
  have hF : Flat te.size (List.replicate n.toNat te.zero) := fun c hc => by
    obtain rfl := List.eq_of_mem_replicate hc
    exact ⟨hzl, fun u hu => List.all_eq_true.1 hzo u hu⟩
  have hLs : ∀ c ∈ List.replicate n.toNat te.zero, c.length = te.size := fun c hc => (hF c hc).1
  have hob : ObjH (ρ ++ [⟨some ⟨w.heap.size, 0, none⟩, n.toNat, te.size, false⟩]) ⟨some ⟨w.heap.size, 0, none⟩, n.toNat, te.size, false⟩ ⟨true, e, te.size, .fl (List.replicate n.toNat te.zero)⟩ (w.alloc (.cells (madeCells z.cells (n.toNat * te.size)) e)) := by
    refine row_obj (heap_alloc_new w _) (size_madeCells _ _) hF (by simp) (by omega) hz ?_
    rw [List.length_replicate]
    have h1 : (madeCells z.cells (n.toNat * te.size)).toList.length = n.toNat * te.size := by rw [Array.length_toList, size_madeCells]
    rw [List.take_of_length_le (by rw [h1]; exact Nat.le_refl _)]
    apply List.ext_getElem?
    intro k
    by_cases hk' : k < n.toNat * te.size
    · have hkf : k < (List.replicate n.toNat te.zero).flatten.length := by rw [flat_len hLs, List.length_replicate]; exact hk'
      obtain ⟨i, r, c, h2, h3, h4⟩ := flat_get hLs (List.getElem?_eq_getElem hkf)
      have hc : c = te.zero := List.eq_of_mem_replicate (List.mem_of_getElem? h3)
      subst hc
      have hr' : r < te.size := by have := (List.getElem?_eq_some_iff.1 h4).1; omega
      have hmod : k % te.size = r := by rw [h2, Nat.add_comm, Nat.add_mul_mod_self_right, Nat.mod_eq_of_lt hr']
      rw [List.getElem?_eq_getElem hkf, ← h4]
      unfold madeCells
      rw [Array.getElem?_toList, Array.getElem?_map, Array.getElem?_range, if_pos hk']
      simp only [Option.map_some, hzs, hmod]
      rw [← i5, Array.getElem?_toList, Array.getElem?_eq_getElem (by omega), getElem!_pos z.cells r (by omega)]
    · rw [List.getElem?_eq_none (by omega), List.getElem?_eq_none (by rw [flat_len hLs, List.length_replicate]; omega)]
  have hH := hr.holds.alloc hr.len _ e _ _ rfl hob
  refine hk _ _ _ _ rfl (hr.put _ dst hd _ _ (Ext.append _ _) (by simp [hr.len]) hH ⟨_, by rw [← hr.len]; exact get_append_len _ _, by simp, .inl ⟨n.toNat, by simp [Addr.add], Nat.le_refl _, fun _ => by simp⟩⟩) (Ext.append _ _) (same_alloc w _)
end
end Go.Proofs.YtnlajjoheegbiaaGreat.Sh
