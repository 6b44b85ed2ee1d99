/- Symbolic memory: things compared whole. No condition. -/
import Derived.Test.YtgehbhkfehmdkaaGreatKUShT
import Derived.Laws.StructEq
set_option linter.unusedVariables false
namespace Go.Proofs.YtgehbhkfehmdkaaGreat.Sh
section
open Go.RowKit Go.Proofs.YtgehbhkfehmdkaaGreatW
structure AEq (P:Program) (t:TypeId) (α:Type) [Enc α]:Prop where
 eq:∀ (u v:α) (w:World),(Op.equal t (.agg (Enc.enc u).toArray) (.agg (Enc.enc v).toArray)).run P w = .ok (dB (u = v)) w
 guard:P.eqGuardType P.depth t = false
def okF (P:Program):List Field → Nat → Bool
 | [],_ => true
 | f :: fs,i => (f.name != "_") && Nat.beq f.offset i && (match P.underlying f.type with | some (.int .i64) => true | _ => false) && okF P fs (i + 1)
theorem eqF {P:Program} {d:Nat} {xs ys:Array Value} {w:World}:∀ (fs:List Field) (i:Nat) (us vs:List Int),okF P fs i = true → us.length = fs.length → vs.length = fs.length →
  (∀ (j:Nat) u,us[j]? = some u → xs[i + j]? = some (.int .i64 u)) → (∀ (j:Nat) u,vs[j]? = some u → ys[i + j]? = some (.int .i64 u)) → (Op.eqFields (d + 1) xs ys fs).run P w = .ok (decide (us = vs)) w
 | [],i,us,vs,_,h1,h2,_,_ => by
   obtain rfl:=List.length_eq_zero_iff.1 h1
   obtain rfl:=List.length_eq_zero_iff.1 h2
   simp [Op.eqFields]
 | f :: fs,i,[],_,_,h1,_,_,_ => by simp at h1
 | f :: fs,i,_ :: _,[],_,_,h2,_,_ => by simp at h2
 | f :: fs,i,u :: us,v :: vs,hk,h1,h2,hx,hy => by
   simp only [okF,Bool.and_eq_true] at hk
   obtain ⟨⟨⟨k1,k2⟩,k3⟩,k4⟩:=hk
   have k1:f.name ≠ "_" := by simpa using k1
   have k2:=Nat.eq_of_beq_eq_true k2
   have k3:P.underlying f.type = some (.int .i64):=by
    split at k3
    ·assumption
    ·cases k3
   have hag:(isAgg f.type).run P w = .ok false w:=by
    unfold isAgg
    simp only [Sem.run_bind]
    unfold underlying
    simp [k3]
   have ha:(part f.type xs f.offset).run P w = .ok (.int .i64 u) w:=by
    unfold part
    have:=hx 0 u rfl
    simp only [Sem.run_bind,hag,Result.andThen_ok,k2]
    rw [Nat.add_zero] at this
    simp [this]
   have hb:(part f.type ys f.offset).run P w = .ok (.int .i64 v) w:=by
    unfold part
    have:=hy 0 v rfl
    simp only [Sem.run_bind,hag,Result.andThen_ok,k2]
    rw [Nat.add_zero] at this
    simp [this]
   have he:(Op.equalIn (d + 1) f.type (.int .i64 u) (.int .i64 v)).run P w = .ok (u == v) w:=by
    unfold Op.equalIn
    simp only [Sem.run_bind]
    unfold underlying
    simp [k3]
   have ih:=eqF (d:=d) (xs:=xs) (ys:=ys) (w:=w) fs (i + 1) us vs k4 (by simpa using h1) (by simpa using h2) (fun j x hj => by rw [Nat.add_assoc,Nat.add_comm 1 j];exact hx (j + 1) x (by simpa using hj)) (fun j x hj => by rw [Nat.add_assoc,Nat.add_comm 1 j];exact hy (j + 1) x (by simpa using hj))
   rw [Op.eqFields]
   simp only [if_pos k1,Sem.run_bind,ha,hb,he,Result.andThen_ok]
   by_cases e:u = v
   ·subst e
    simpa using ih
   ·have:(u == v) = false:=by simpa using e
    simp [this,e]
theorem aeq {P:Program} {t:TypeId} {α:Type} [Enc α] (ints:α → List Int) {fs:Array Field} (hu:P.underlying t = some (.struct fs)) (hf:okF P fs.toList 0 = true) (hp:P.stoodInHeld t = false) (hg:P.eqGuardType P.depth t = false)
  (he:∀ x,Enc.enc x = (ints x).map (.int .i64)) (hl:∀ x,(ints x).length = fs.toList.length) (hi:∀ x y,ints x = ints y → x = y):AEq P t α:=by
 refine ⟨fun u v w => ?_,hg⟩
 have hfo:P.fieldsOf t = fs:=by simp [Program.fieldsOf,hu]
 unfold Op.equal
 obtain ⟨D,hD⟩:∃ D,Op.maxDepth = D + 1 + 1:=⟨9998,rfl⟩
 rw [hD,run_equalIn_struct (P:=P) w (D + 1) t _ _ (by rw [hfo];exact hu) hp,hfo,eqF fs.toList 0 (ints u) (ints v) hf (hl u) (hl v) (fun j x hj => by rw [he,Nat.zero_add];simp [hj]) (fun j x hj => by rw [he,Nat.zero_add];simp [hj])]
 by_cases e:u = v
 ·subst e
  simp [nR]
 ·rw [rf e]
  simp
  exact fun h => e (hi u v h)
theorem yH {cs:List AC} {vs:List Value}:cs = vs.map AC.sc → ∀ {ρ:Pl} {us:List Value},All2 (AC.R ρ) cs us → us = vs:=by
 intro h ρ us hr
 subst h
 induction vs generalizing us with
 | nil =>
   cases us with
   | nil => rfl
   | cons u us => exact hr.elim
 | cons v vs ih =>
   cases us with
   | nil => exact hr.elim
   | cons u us =>
     obtain ⟨h1,h2⟩:=hr
     have h1:u = v:=h1.1
     rw [h1,ih h2]
section
variable {P:Program} {T:TB} {ops:Array Oper} {Q:Exit → St → Prop} {h1:AH} {k:Sk} {ks ks':List Sk} {l:List Oper} {N0 k0 d0:Nat} {e0:List (Nat × AV)} {h0:AH} {ty:TypeId} {pos:String} {af:Array Edge} {g:Option (Nat × Bool)}
theorem A9 {st:St} {dst:Option Tmp} {t yT:TypeId} {x y:Operand} {α:Type} [Enc α] {o:BinOp} {b:Bool} (ha:AEq P t α) {u v:α} (hx:ev st.env x = some (.agg ((Enc.enc u).map .sc))) (hy:ev st.env y = some (.agg ((Enc.enc v).map .sc)))
  (ho:(o = .eql ∧ b = dB (u = v)) ∨ (o = .neq ∧ b = !(dB (u = v)))):OpP P ⟨dst,.binOp o t x y yT,ty,pos,af,g⟩ st (B b):=fun Γ ρ a w0 hr => by
 obtain ⟨ar,e1,e2⟩:=bq hr.env hx
 obtain ⟨br,e3,e4⟩:=bq hr.env hy
 have e5:=yH rfl e2
 have e6:=yH rfl e4
 have e7:ar = (Enc.enc u).toArray:=by rw [← e5]
 have e8:br = (Enc.enc v).toArray:=by rw [← e6]
 refine ⟨.bool b,⟨rfl,rfl⟩,fun w => ?_⟩
 have hq:=ha.eq u v w
 have hg:∀ o,(eqGuard o t x y (.agg ar) (.agg br)).run P w = .ok () w:=by
  intro o
  unfold eqGuard
  simp [ha.guard]
 unfold execOp
 simp only [Sem.run_bind,e1,e3,hg,Result.andThen_ok]
 rcases ho with ⟨rfl,rfl⟩ | ⟨rfl,rfl⟩ <;> simp [binOp,e7,e8,hq]
theorem zsn {t yT:TypeId} {x y:Operand} {α:Type} {inst:Enc α} {u v:α} (ha:AEq P t α) (hs0:stK ks = (k,ks')) (hx:ev e0 x = some (.agg ((Enc.enc u).map .sc))) (hy:ev e0 y = some (.agg ((Enc.enc v).map .sc))) (hg:gd ops ⟨some d0,.binOp .neq t x y yT,ty,pos,af,g⟩ e0 = some true) (hd:Nat.blt d0 N0 = true)
  (ht:¬ u = v → ZZ P ops Q h1 ks' l ⟨N0,k0,(d0,B true) :: e0,h0⟩) (hf:u = v → ZZ P ops Q h1 ks' l ⟨N0,k0,(d0,B false) :: e0,h0⟩):ZZ P ops Q h1 ks (⟨some d0,.binOp .neq t x y yT,ty,pos,af,g⟩ :: l) ⟨N0,k0,e0,h0⟩:=⟨by
 rw [aI hs0]
 refine mV (st:=⟨N0,k0,e0,h0⟩) (dst:=some d0) (A9 ha hx hy (.inr ⟨rfl,rfl⟩)) hg hd ?_
 by_cases e:u = v
 ·rw [nR e]
  exact (hf e).out
 ·rw [rf e]
  exact (ht e).out⟩
end
theorem sb:AEq Tryz.prog 42 Account:=aeq (fun x => [x.No,x.Kind]) Tryz.underlying42 (by kernel_rfl) (by kernel_rfl) (by kernel_rfl) (fun _ => rfl) (fun _ => rfl) (fun x y h => by cases x;cases y;simp_all)
theorem wk:AEq Tryz.prog 74 Instr:=aeq (fun x => [x.No,x.Kind]) Tryz.underlying74 (by kernel_rfl) (by kernel_rfl) (by kernel_rfl) (fun _ => rfl) (fun _ => rfl) (fun x y h => by cases x;cases y;simp_all)
theorem v7:AEq Tryz.prog 135 Bal:=aeq (fun x => [x.Account,x.Instr,x.Amount]) Tryz.underlying135 (by kernel_rfl) (by kernel_rfl) (by kernel_rfl) (fun _ => rfl) (fun _ => rfl) (fun x y h => by cases x;cases y;simp_all)
theorem v8:AEq Tryz.prog 137 Lot:=aeq (fun x => [x.Account,x.Instr,x.No,x.Qty,x.Cost]) Tryz.underlying137 (by kernel_rfl) (by kernel_rfl) (by kernel_rfl) (fun _ => rfl) (fun _ => rfl) (fun x y h => by cases x;cases y;simp_all)
theorem wm:AEq Tryz.prog 103 Trade:=aeq (fun x => [x.No,x.Buyer,x.Seller,x.Paper,x.Qty,x.Cash,x.Price,x.State]) Tryz.underlying103 (by kernel_rfl) (by kernel_rfl) (by kernel_rfl) (fun _ => rfl) (fun _ => rfl) (fun x y h => by cases x;cases y;simp_all)
end
section
open Go.RowKit Go.Proofs.YtgehbhkfehmdkaaGreatW
def yG (e:List (Nat × AV)):List Nat → Option (List (Nat × AV))
 | [] => some []
 | t :: r => match lk t e,yG e r with
   | some v,some r' => some ((t,v) :: r')
   | _,_ => none
def Cs:List (Nat × AV) → List (Nat × AV) → Option (List (Nat × AV))
 | [],b => some b
 | (t,v) :: r,b => match Cs r b with
  | some r' => some ((t,v) :: r')
  | none => none
def ovF:List (Nat × Option AO) → AH → Option AH
 | [],h => some h
 | (i,x) :: r,h => match nr h i x with
  | some h' => ovF r h'
  | none => none
theorem wlp {P:Program} {Q:Exit → St → Prop} {c:Code} {N k:Nat} {e:List (Nat × AV)} {h:AH} {X:Type} (ns m:List Nat) (ve:X → List (Nat × AV)) (vo:X → List (Nat × Option AO)) (Inv:X → Prop) (μ:X → Nat) (x0:X)
  {eb:List (Nat × AV)} {hb:AH} {E:X → List (Nat × AV)} {H:X → AH} (h0:Inv x0) (he:yG e ns = some eb) (hh:fH (bP m h) = some hb) (hE:∀ x,Cs (ve x) eb = some (E x)) (hH:∀ x,ovF (vo x) hb = some (H x)) (hc:Conv ⟨N,k,e,h⟩ ⟨N,k,E x0,H x0⟩ m)
  (hr:∀ x,Inv x → WW P c (jc (x9 Inv (fun x => ⟨N,k,E x,H x⟩) μ (μ x)) Q) ⟨N,k,E x,H x⟩):WW P (Code.loop c) Q ⟨N,k,e,h⟩ :=
 pQ Inv (fun x => ⟨N,k,E x,H x⟩) μ x0 m h0 hc hr
theorem aB {X:Type} {Inv:X → Prop} {I:X → St} {μ:X → Nat} {n:Nat} {st:St} (y:X) (m:List Nat) (hc:Conv st (I y) m) (hi:Inv y) (hm:μ y < n):x9 Inv I μ n st:=⟨y,m,hi,hm,hc⟩
def sxs (T:TB) (N:Nat) (ops:Array Oper) (h1:AH):List Oper → List Sk → List (Nat × AV) → AH → List Sk × List Oper × List (Nat × AV) × AH
 | [],ks,e,h => (ks,[],e,h)
 | o :: l,ks,e,h => match stK ks with
   | (k,ks') => match sx T N ops h1 k o e h with
    | some (e',h') => sxs T N ops h1 l ks' e' h'
    | none => (ks,o :: l,e,h)
theorem z5 {P:Program} {T:TB} (hT:TOk P T) {ops:Array Oper} {Q:Exit → St → Prop} {h1:AH} {N k:Nat}:∀ (l:List Oper) {ks ks':List Sk} {l':List Oper} {e e':List (Nat × AV)} {h h':AH},sxs T N ops h1 l ks e h = (ks',l',e',h') → ZZ P ops Q h1 ks' l' ⟨N,k,e',h'⟩ → ZZ P ops Q h1 ks l ⟨N,k,e,h⟩
 | [],ks,ks',l',e,e',h,h',hx,hz => by
   cases hx
   exact hz
 | o :: l,ks,ks',l',e,e',h,h',hx,hz => by
   unfold sxs at hx
   split at hx
   rename_i kk ks1 hk
   split at hx
   ·rename_i e1 h2 hs
    exact zd hk hT hs (z5 hT l hx hz)
   ·cases hx
    exact hz
theorem zds {P:Program} {T:TB} {ops:Array Oper} {Q:Exit → St → Prop} {h1:AH} {ks ks1 ks2 ks':List Sk} {k1 k2:Sk} {o o2:Oper} {l l':List Oper} {N k:Nat} {e e1 e2 e':List (Nat × AV)} {h g1 g2 h':AH} (hT:TOk P T) (hs0:stK ks = (k1,ks1)) (hx:sx T N ops h1 k1 o e h = some (e1,g1)) (hs1:stK ks1 = (k2,ks2)) (hx2:sx T N ops h1 k2 o2 e1 g1 = some (e2,g2)) (hxs:sxs T N ops h1 l ks2 e2 g2 = (ks',l',e',h'))
  (hz:ZZ P ops Q h1 ks' l' ⟨N,k,e',h'⟩):ZZ P ops Q h1 ks (o :: o2 :: l) ⟨N,k,e,h⟩:=zd hs0 hT hx (zd hs1 hT hx2 (z5 hT l hxs hz))
def rj:List Oper → Option (List Oper)
 | [] => some []
 | o :: r => match rj r with
   | some r' => some (o :: r')
   | none => none
theorem mg:∀ {l l':List Oper},rj l = some l' → l = l'
 | [],_,h => Option.some.inj h
 | o :: r,_,h => by
   unfold rj at h
   split at h
   ·rename_i h1
    cases h
    rw [mg h1]
   ·cases h
theorem Cm {P:Program} {Q:Exit → St → Prop} {st:St} {id:Nat} {l l' L:List Oper} (hl:rj l = some l') (hm:P.follows .mixedOrders = true) (s:List (Sk × Nat)) (ds:List Nat) (hc:(s.length == l'.toArray.size && chk l'.toArray ds true s (Array.replicate l'.toArray.size false)) = true) (hL:gq l' s = some L)
  (h:ZZ P l'.toArray Q st.h (s.map (·.1)) L st):WW P (Code.region id l.toArray true) Q st:=by
 rw [mg hl]
 exact CY hm s ds hc hL h
end
section
open Go.RowKit Go.Proofs.YtgehbhkfehmdkaaGreatW
def depM (o:Oper):Nat:=go o.after.toList
where go:List Edge → Nat
 | [] => 0
 | e :: r => match Region.binds .any e with
   | true => (1 <<< e.on) ||| go r
   | false => go r
theorem depM_bit {o:Oper} {b:Nat}:(depM o).testBit b = true ↔ ∃ e ∈ o.after,Region.binds .any e = true ∧ e.on = b:=by
 have h:∀ l:List Edge,(depM.go l).testBit b = true ↔ ∃ e ∈ l,Region.binds .any e = true ∧ e.on = b:=by
  intro l
  induction l with
  | nil => simp [depM.go]
  | cons e r ih =>
    unfold depM.go
    split
    ·rename_i hb
     rw [Nat.testBit_or,Bool.or_eq_true,ih,Nat.one_shiftLeft,Nat.testBit_two_pow]
     simp only [decide_eq_true_eq,List.mem_cons]
     constructor
     ·rintro (h | ⟨e',h1,h2⟩)
      ·exact ⟨e,.inl rfl,hb,h⟩
      ·exact ⟨e',.inr h1,h2⟩
     ·rintro ⟨e',rfl | h1,h2,h3⟩
      ·exact .inl h3
      ·exact .inr ⟨e',h1,h2,h3⟩
    ·rename_i hb
     rw [ih]
     constructor
     ·rintro ⟨e',h1,h2⟩
      exact ⟨e',List.mem_cons_of_mem _ h1,h2⟩
     ·rintro ⟨e',h1,h2,h3⟩
      rcases List.mem_cons.1 h1 with rfl | h1
      ·rw [hb] at h2
       cases h2
      ·exact ⟨e',h1,h2,h3⟩
 have:=h o.after.toList
 simpa [depM] using this
def kL (a b:Nat):Bool:=Nat.beq (a &&& b) a
theorem subM_iff {a b:Nat}:kL a b = true ↔ ∀ i,a.testBit i = true → b.testBit i = true:=by
 unfold kL
 constructor
 ·intro h i hi
  have h:=Nat.eq_of_beq_eq_true h
  have:=congrArg (·.testBit i) h
  simp only [Nat.testBit_and,hi,Bool.true_and] at this
  exact this
 ·intro h
  have:a &&& b = a:=by
   apply Nat.eq_of_testBit_eq
   intro i
   rw [Nat.testBit_and]
   cases ha:a.testBit i
   ·rfl
   ·rw [h i ha];rfl
  rw [this]
  exact Nat.beq_refl a
def LM (listed:Array Bool) (L:Nat):Prop:=∀ j,listed.getD j false = L.testBit j
theorem mc {listed:Array Bool} {L:Nat} (h:LM listed L) (o:Oper):(o.after.all fun e => !Region.binds .any e || listed.getD e.on false) = kL (depM o) L:=by
 rw [Bool.eq_iff_iff,subM_iff,Array.all_eq_true_iff_forall_mem]
 constructor
 ·intro hh i hi
  obtain ⟨e,he,hb,rfl⟩:=depM_bit.1 hi
  have:=hh e he
  rw [hb,h] at this
  simpa using this
 ·intro hh e he
  cases hb:Region.binds .any e
  ·rfl
  ·rw [h,hh e.on (depM_bit.2 ⟨e,he,hb,rfl⟩)]
   rfl
theorem LM.set {listed:Array Bool} {L:Nat} (h:LM listed L) {i:Nat} (hi:i < listed.size):LM (listed.setIfInBounds i true) (L ||| (1 <<< i)):=fun j => by
 rw [Nat.testBit_or,Nat.one_shiftLeft,Nat.testBit_two_pow,← h j]
 simp only [Array.getD_eq_getD_getElem?,Array.getElem?_setIfInBounds]
 by_cases e:i = j
 ·subst e
  simp [hi]
 ·simp [e]
theorem LM.zero (n:Nat):LM (Array.replicate n false) 0:=fun j => by
 simp only [Array.getD_eq_getD_getElem?,Array.getElem?_replicate]
 by_cases e:j < n <;> simp [e]
def qx:List Nat → Nat
 | [] => 0
 | x :: r => (1 <<< x) ||| qx r
theorem bitsM_bit:∀ {l:List Nat} {b:Nat},(qx l).testBit b = true ↔ b ∈ l
 | [],b => by simp [qx]
 | x :: r,b => by
   rw [qx,Nat.testBit_or,Bool.or_eq_true,bitsM_bit,Nat.one_shiftLeft,Nat.testBit_two_pow]
   simp only [decide_eq_true_eq,List.mem_cons]
   exact ⟨fun h => h.imp Eq.symm id,fun h => h.imp Eq.symm id⟩
structure QO where
 i:Nat
 dep:Nat
 dst:Option Nat
 look:Nat
def qo (ops:Array Oper) (i:Nat) (o:Oper):QO:=⟨i,depM o,o.dst,qx (o.looksAt ops)⟩
def qAp (x y:QO):Bool :=
 (match x.dst with
  | some d => !y.look.testBit d && (match y.dst with
    | some d' => !Nat.beq d d'
    | none => true)
  | none => true) &&
 (match y.dst with
  | some d => !x.look.testBit d
  | none => true)
theorem wS {ops:Array Oper} {i j:Nat} {x y:Oper} (h:qAp (qo ops i x) (qo ops j y) = true):x.apart ops y = true:=by
 unfold qAp qo at h
 unfold Oper.apart
 simp only [Bool.and_eq_true] at h ⊢
 have hb:∀ (l:List Nat) d,(!(qx l).testBit d) = true → (!l.contains d) = true:=fun l d hh => by
  cases hc:l.contains d
  ·rfl
  ·have:=bitsM_bit.2 (List.contains_iff_mem.1 hc)
   rw [this] at hh
   cases hh
 refine ⟨?_,?_⟩
 ·have h1:=h.1
  cases hx:x.dst with
  | none => rfl
  | some d =>
    rw [hx] at h1
    simp only [Bool.and_eq_true] at h1 ⊢
    refine ⟨hb _ _ h1.1,?_⟩
    cases hy:y.dst with
    | none => rfl
    | some d' =>
      have h2:=h1.2
      rw [hy] at h2
      have:d ≠ d':=fun e => by
       subst e
       simp [Nat.beq_refl] at h2
      simpa using fun e => this e.symm
 ·have h1:=h.2
  cases hy:y.dst with
  | none => rfl
  | some d =>
    rw [hy] at h1
    exact hb _ _ h1
def qos (ops:Array Oper):List QO:=ops.toList.zipIdx.map (fun p => qo ops p.2 p.1)
theorem rJ {ops:Array Oper} {i:Nat} {o:Oper} (h:ops[i]? = some o):(qos ops)[i]? = some (qo ops i o):=by
 unfold qos
 rw [List.getElem?_map,List.getElem?_zipIdx,Array.getElem?_toList,h]
 simp
theorem oE {ops:Array Oper} {i:Nat} {o:Oper} (h:ops[i]? = some o):qo ops i o ∈ qos ops:=List.mem_of_getElem? (rJ h)
def tV (qs:List QO):Bool:=qs.all (fun x => qs.all (fun y => Nat.beq x.i y.i || y.dep.testBit x.i || x.dep.testBit y.i || qAp x y))
def zJ (ops:Array Oper) (qs:List QO) (ds:List Nat):Bool → List (Sk × Nat) → Nat → Bool
 | _,[],L => qs.all (fun y => L.testBit y.i || !kL y.dep L)
 | ph,(k,i) :: r,L => (match qs[i]? with
   | some x => kL x.dep L && !L.testBit i
   | none => false) && (match k with
   | .p => true
   | .t => ph && ds.all (fun d => L.testBit d || PrintLast.Region.reachB .any ops i ops.size d)
   | .o => ph && qs.all (fun y => Nat.beq y.i i || L.testBit y.i || !kL y.dep L) && !ds.contains i
   | .l => qs.all (fun y => Nat.beq y.i i || L.testBit y.i || !kL y.dep L) && ds.contains i) && zJ ops qs ds (ph && (match k with | .l => false | _ => true)) r (L ||| (1 <<< i))
structure LS (ops:Array Oper) (listed:Array Bool) (L:Nat):Prop where
 lm:LM listed L
 size:listed.size = ops.size
 closed:∀ (j:Nat) o,ops[j]? = some o → L.testBit j = true → kL (depM o) L = true
theorem LS.un {ops:Array Oper} {listed:Array Bool} {L:Nat} (h:LS ops listed L) {i:Nat} (hi:i < ops.size):listed.getD i true = L.testBit i:=by
 rw [← h.lm i]
 simp [Array.getD_eq_getD_getElem?,h.size,hi]
theorem j5 {ops:Array Oper} {listed:Array Bool} {L:Nat} (h:LS ops listed L) {i:Nat}:i ∈ Region.ready .any ops listed ↔ ∃ o,ops[i]? = some o ∧ L.testBit i = false ∧ kL (depM o) L = true:=by
 unfold Region.ready
 rw [List.mem_filter,List.mem_range]
 constructor
 ·rintro ⟨h1,h2⟩
  have ho:ops[i]? = some ops[i]:=Array.getElem?_eq_getElem h1
  rw [ho,h.un h1] at h2
  simp only [Option.map_some,Option.getD_some,Bool.and_eq_true,Bool.not_eq_true'] at h2
  rw [mc h.lm] at h2
  exact ⟨_,ho,h2.1,h2.2⟩
 ·rintro ⟨o,ho,h1,h2⟩
  have hlt:i < ops.size:=(Array.getElem?_eq_some_iff.1 ho).1
  refine ⟨hlt,?_⟩
  rw [ho,h.un hlt,h1]
  simp only [Option.map_some,Option.getD_some,Bool.not_false,Bool.true_and]
  rw [mc h.lm]
  exact h2
theorem vp {ops:Array Oper} {listed:Array Bool} {L:Nat} (h:LS ops listed L) (hs:tV (qos ops) = true) {i:Nat} {o:Oper} (ho:ops[i]? = some o) (hd:kL (depM o) L = true):Region.free .any ops listed i = true:=by
 unfold Region.free
 rw [ho]
 simp only [List.all_eq_true,List.mem_range]
 intro j hj
 have hoj:ops[j]? = some ops[j]:=Array.getElem?_eq_getElem hj
 have h1:=List.all_eq_true.1 (List.all_eq_true.1 hs _ (oE ho)) _ (oE hoj)
 simp only [qo,Bool.or_eq_true] at h1
 rw [hoj,h.un hj]
 simp only [Bool.or_eq_true,beq_iff_eq]
 rcases h1 with ((h1 | h1) | h1) | h1
 ·exact .inl (.inl (Nat.eq_of_beq_eq_true h1).symm)
 ·obtain ⟨e,he,hb,hon⟩:=depM_bit.1 h1
  refine .inr (.inl (Array.any_eq_true'.2 ⟨e,he,?_⟩))
  rw [hb,hon]
  simp
 ·exact .inl (.inr (subM_iff.1 hd j h1))
 ·exact .inr (.inr (wS h1))
theorem qA {ops:Array Oper} {listed:Array Bool} {L:Nat} (h:LS ops listed L):PrintLast.Region.closedB .any ops listed = true:=by
 unfold PrintLast.Region.closedB
 simp only [List.all_eq_true,List.mem_range]
 intro j hj
 have hoj:ops[j]? = some ops[j]:=Array.getElem?_eq_getElem hj
 rw [hoj,h.lm j]
 cases hb:L.testBit j
 ·rfl
 ·rw [Bool.not_true,Bool.false_or]
  show (ops[j].after.all fun e => !Region.binds .any e || listed.getD e.on false) = true
  rw [mc h.lm]
  exact h.closed j _ hoj hb
theorem LS.step {ops:Array Oper} {listed:Array Bool} {L:Nat} (h:LS ops listed L) {i:Nat} {o:Oper} (ho:ops[i]? = some o) (hd:kL (depM o) L = true):LS ops (listed.setIfInBounds i true) (L ||| (1 <<< i)):=by
 have hlt:i < ops.size:=(Array.getElem?_eq_some_iff.1 ho).1
 refine ⟨h.lm.set (by rw [h.size];exact hlt),by simp [h.size],fun j oj hj hb => ?_⟩
 have key:∀ {a:Nat},kL a L = true → kL a (L ||| (1 <<< i)) = true:=fun ha => subM_iff.2 (fun q hq => by
  rw [Nat.testBit_or,subM_iff.1 ha q hq];rfl)
 rw [Nat.testBit_or,Bool.or_eq_true,Nat.one_shiftLeft,Nat.testBit_two_pow] at hb
 rcases hb with hb | hb
 ·exact key (h.closed j oj hj hb)
 ·have:i = j:=by simpa using hb
  subst this
  rw [ho] at hj
  cases hj
  exact key hd
theorem pp {ops:Array Oper} {listed:Array Bool} {L:Nat} (h:LS ops listed L) {i:Nat} {o:Oper} (ho:ops[i]? = some o) (hd:kL (depM o) L = true) (hu:L.testBit i = false) (hq:(qos ops).all (fun y => Nat.beq y.i i || L.testBit y.i || !kL y.dep L) = true):Region.ready .any ops listed = [i]:=by
 have hmem:∀ j,j ∈ Region.ready .any ops listed ↔ j = i:=fun j => by
  rw [j5 h]
  constructor
  ·rintro ⟨oj,h1,h2,h3⟩
   have h4:=List.all_eq_true.1 hq _ (oE h1)
   simp only [qo,h2,h3,Bool.or_false,Bool.not_true] at h4
   exact Nat.eq_of_beq_eq_true h4
  ·rintro rfl
   exact ⟨o,ho,hu,hd⟩
 have hnd:(Region.ready .any ops listed).Nodup:=List.Pairwise.filter _ List.nodup_range
 match hr:Region.ready .any ops listed,hnd,hmem with
 | [],_,hm => exact absurd ((hm i).2 rfl) (by simp)
 | [x],_,hm => rw [(hm x).1 (by simp)]
 | x :: y :: r,hn,hm =>
   have e1:=(hm x).1 (by simp)
   have e2:=(hm y).1 (by simp)
   rw [e1,e2] at hn
   simp at hn
theorem vc {ops:Array Oper} {ds:List Nat} (hn:Region.noSelect ops = true) (hs:tV (qos ops) = true):∀ (s:List (Sk × Nat)) (ph:Bool) {listed:Array Bool} {L:Nat},LS ops listed L → zJ ops (qos ops) ds ph s L = true → chk ops ds ph s listed = true
 | [],ph,listed,L,h,hc => by
   unfold chk
   have:Region.ready .any ops listed = []:=by
    refine List.eq_nil_iff_forall_not_mem.2 (fun j hj => ?_)
    obtain ⟨o,h1,h2,h3⟩:=(j5 h).1 hj
    have h4:=List.all_eq_true.1 hc _ (oE h1)
    simp [qo,h2,h3] at h4
   simp [this]
 | (k,i) :: r,ph,listed,L,h,hc => by
  unfold zJ at hc
  simp only [Bool.and_eq_true] at hc
  obtain ⟨⟨h1,h2⟩,h3⟩:=hc
  have hx:∃ o,ops[i]? = some o ∧ kL (depM o) L = true ∧ L.testBit i = false:=by
   cases ho:ops[i]? with
   | none =>
     have:(qos ops)[i]? = none:=by
      unfold qos
      rw [List.getElem?_map,List.getElem?_zipIdx,Array.getElem?_toList,ho]
      rfl
     rw [this] at h1
     cases h1
   | some o =>
     rw [rJ ho] at h1
     simp only [qo,Bool.and_eq_true,Bool.not_eq_true'] at h1
     exact ⟨o,rfl,h1.1,h1.2⟩
  obtain ⟨o,ho,hd,hu⟩:=hx
  have hready:(Region.ready .any ops listed).contains i = true:=List.contains_iff_mem.2 ((j5 h).2 ⟨o,ho,hu,hd⟩)
  have hfree:=vp h hs ho hd
  have hrest:=vc hn hs r _ (h.step ho hd) h3
  unfold chk
  simp only [Bool.and_eq_true]
  refine ⟨⟨by rw [ho];rfl,?_⟩,hrest⟩
  cases k with
  | p => simp only [PrintLast.anyB,hn,hfree,hready,Bool.and_self,beq_self_eq_true]
  | t =>
    simp only [Bool.and_eq_true] at h2
    have hl:PrintLast.Region.lastB .any ops listed ds i = true:=by
     unfold PrintLast.Region.lastB
     rw [List.all_eq_true]
     intro d hdd
     have:=List.all_eq_true.1 h2.2 d hdd
     rcases Bool.or_eq_true_iff.1 this with e | e
     ·have e2:=h.lm d
      rw [e] at e2
      have:listed.getD d true = true:=by
       rw [Array.getD_eq_getD_getElem?] at e2 ⊢
       cases hq:listed[d]? with
       | none => rfl
       | some b => rw [hq] at e2;exact e2
      rw [this]
      rfl
     ·rw [e,Bool.or_true]
    simp only [PrintLast.takeB,hn,hfree,hready,qA h,hl,h2.1,Bool.and_self,beq_self_eq_true]
  | o =>
    simp only [Bool.and_eq_true] at h2
    have:=pp h ho hd hu h2.1.2
    simp only [Bool.and_eq_true]
    exact ⟨⟨h2.1.1,by simp [PrintLast.readyB,this]⟩,h2.2⟩
  | l =>
    simp only [Bool.and_eq_true] at h2
    have:=pp h ho hd hu h2.1
    simp only [Bool.and_eq_true]
    exact ⟨by simp [PrintLast.readyB,this],h2.2⟩
def qB (ops:Array Oper) (ds:List Nat) (s:List (Sk × Nat)):Bool:=s.length == ops.size && Region.noSelect ops && tV (qos ops) && zJ ops (qos ops) ds true s 0
theorem CE {ops:Array Oper} {ds:List Nat} {s:List (Sk × Nat)} (h:qB ops ds s = true):(s.length == ops.size && chk ops ds true s (Array.replicate ops.size false)) = true:=by
 unfold qB at h
 simp only [Bool.and_eq_true] at h ⊢
 exact ⟨h.1.1.1,vc h.1.1.2 h.1.2 s true ⟨LM.zero _,by simp,fun j o _ hb => by simp at hb⟩ h.2⟩
theorem zdq {P:Program} {Q:Exit → St → Prop} {st:St} {id:Nat} {l l' L:List Oper} (hl:rj l = some l') (hm:P.follows .mixedOrders = true) (s:List (Sk × Nat)) (ds:List Nat) (hc:qB l'.toArray ds s = true) (hL:gq l' s = some L)
  (h:ZZ P l'.toArray Q st.h (s.map (·.1)) L st):WW P (Code.region id l.toArray true) Q st:=Cm hl hm s ds (CE hc) hL h
end
end Go.Proofs.YtgehbhkfehmdkaaGreat.Sh
