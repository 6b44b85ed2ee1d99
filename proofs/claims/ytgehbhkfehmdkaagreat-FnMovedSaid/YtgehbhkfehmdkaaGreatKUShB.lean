/- Symbolic memory: regions, code, calls. No condition. -/
import Derived.Test.YtgehbhkfehmdkaaGreatKUShA
import Derived.Test.YtgehbhkfehmdkaaGreatKUWLast
import Derived.Deep.LoopGhost
set_option linter.unusedVariables false
namespace Go.Proofs.YtgehbhkfehmdkaaGreat.Sh
open Go.RowKit Go.Proofs.YtgehbhkfehmdkaaGreatW
def Same (w1 w:World):Prop:=w1.heap.size ≤ w.heap.size ∧ ∀ k,k < w1.heap.size → w.heap[k]? = w1.heap[k]?
theorem Same.refl (w:World):Same w w:=⟨Nat.le_refl _,fun _ _ => rfl⟩
theorem Same.trans {a b c:World} (h:Same a b) (k:Same b c):Same a c:=⟨Nat.le_trans h.1 k.1,fun i hi => (k.2 i (Nat.lt_of_lt_of_le hi h.1)).trans (h.2 i hi)⟩
def OpP (P:Program) (o:Oper) (st:St) (v:AV):Prop :=
 ∀ (Γ:Ctx) (ρ:Pl) (a:Act) (w0:World),Rel Γ ρ st a w0 → ∃ v',v.R ρ v' ∧ ∀ w,(execOp a.eval o).run P w = .ok (.value v') w
def OpR (P:Program) (o:Oper) (st:St) (h:AH) (v:AV):Prop :=
 ∀ (Γ:Ctx) (ρ1 ρ:Pl) (a:Act) (w0 w1:World),Ext ρ1 ρ → Rel Γ ρ st a w0 → Holds Γ ρ1 h w1 → ∃ v',v.R ρ v' ∧ ∀ w,Same w1 w → (execOp a.eval o).run P w = .ok (.value v') w
def OpQ (P:Program) (o:Oper) (st:St) (K:St → Prop):Prop :=
 ∀ Γ ρ a w,Rel Γ ρ st a w → ∀ (K':Act → World → Prop) Q',(∀ st' ρ' a' w',K st' → Rel Γ ρ' st' a' w' → Ext ρ ρ' → Same w w' → K' a' w') → o.wp P a w K' Q'
def OpW (P:Program) (o:Oper) (st:St) (K:St → Prop):Prop :=
 ∀ Γ ρ a w,Rel Γ ρ st a w → ∀ (K':Act → World → Prop) Q',(∀ st' ρ' a' w',K st' → Rel Γ ρ' st' a' w' → K' a' w') → o.wp P a w K' Q'
theorem OpP.r {P:Program} {o:Oper} {st:St} {v:AV} (h:OpP P o st v) (hh:AH):OpR P o st hh v :=
 fun Γ ρ1 ρ a w0 w1 _ hr _ => by
  obtain ⟨v',h1,h2⟩:=h Γ ρ a w0 hr
  exact ⟨v',h1,fun w _ => h2 w⟩
theorem OpR.q {P:Program} {o:Oper} {st:St} {v:AV} (hd:st.fits o.dst = true) (h:OpR P o st st.h v):OpQ P o st (fun st' => st' = st.put o.dst v) :=
 fun Γ ρ a w hr K' Q' hk => by
  obtain ⟨v',h1,h2⟩:=h Γ ρ ρ a w w (Ext.refl _) hr hr.holds
  unfold Oper.wp
  rw [h2 w (Same.refl w)]
  exact hk _ ρ _ w rfl (hr.put st.h o.dst hd v v' (Ext.refl _) hr.len hr.holds h1) (Ext.refl _) (Same.refl w)
theorem OpQ.w {P:Program} {o:Oper} {st:St} {K:St → Prop} (h:OpQ P o st K):OpW P o st K :=
 fun Γ ρ a w hr K' Q' hk => h Γ ρ a w hr K' Q' (fun st' ρ' a' w' h1 h2 _ _ => hk st' ρ' a' w' h1 h2)
def gd (ops:Array Oper) (o:Oper) (env:List (Nat × AV)):Option Bool :=
 match o.guard with
 | none => some true
 | some (j,want) => match (ops[j]?).bind (·.dst) with
   | some t => match lk t env with
     | some (.c (.sc (.bool b))) => some (b == want)
     | some (.tup _) => some false
     | _ => none
   | none => none
theorem bf {ops:Array Oper} {o:Oper} {env:List (Nat × AV)} {b:Bool} {ρ:Pl} {a:Act} (h:gd ops o env = some b) (he:EnvR ρ env a.tmps):Region.wanted o (yielded ops a.tmps) = b:=by
 unfold gd at h
 unfold Region.wanted
 split at h
 ·rename_i hg
  rw [hg]
  exact Option.some.inj h
 ·rename_i j want hg
  rw [hg]
  split at h
  ·rename_i t ht
   split at h
   ·rename_i c hl
    obtain ⟨v',h1,h2⟩:=he t _ hl
    have hv:v' = .bool c:=h2.1
    subst hv
    show (yielded ops a.tmps j == some want) = b
    have:yielded ops a.tmps j = some c:=by
     unfold yielded
     rw [ht]
     show (match a.tmps[t]? with | some (.bool b) => some b | _ => none) = some c
     rw [h1]
    rw [this]
    have h3:(c == want) = b:=Option.some.inj h
    rw [← h3]
    cases c <;> cases want <;> rfl
   ·rename_i vs hl
    obtain ⟨v',h1,arr,h2,_⟩:=he t _ hl
    subst h2
    have h3:false = b:=Option.some.inj h
    subst h3
    show (yielded ops a.tmps j == some want) = false
    have:yielded ops a.tmps j = none:=by
     unfold yielded
     rw [ht]
     show (match a.tmps[t]? with | some (.bool b) => some b | _ => none) = none
     rw [h1]
    rw [this]
    rfl
   ·cases h
  ·cases h
inductive Sk where
 | p | t | o | l
 deriving DecidableEq
def Ghost (st st':St):Prop:=∀ Γ ρ a w,Rel Γ ρ st a w → ∃ ρ',Ext ρ ρ' ∧ Rel Γ ρ' st' a w
inductive WS (P:Program) (ops:Array Oper) (Q:Exit → St → Prop) (h1:AH):List (Sk × Oper) → St → Prop where
 | nil {st:St} (h:Q .normal st):WS P ops Q h1 [] st
 | ghost {l:List (Sk × Oper)} {st:St} {K:St → Prop} (g:∀ Γ ρ a w,Rel Γ ρ st a w → ∃ st' ρ',K st' ∧ Ext ρ ρ' ∧ Rel Γ ρ' st' a w) (h:∀ st',K st' → WS P ops Q h1 l st'):WS P ops Q h1 l st
 | off {k:Sk} {o:Oper} {l:List (Sk × Oper)} {st:St} (hd:st.fits o.dst = true) (hg:gd ops o st.env = some false) (h:WS P ops Q h1 l (st.put o.dst (.tup []))):WS P ops Q h1 ((k,o) :: l) st
 | p {o:Oper} {l:List (Sk × Oper)} {st:St} {v:AV} (hd:st.fits o.dst = true) (hg:gd ops o st.env = some true) (ho:OpP P o st v) (h:WS P ops Q h1 l (st.put o.dst v)):WS P ops Q h1 ((.p,o) :: l) st
 | t {o:Oper} {l:List (Sk × Oper)} {st:St} {v:AV} (hd:st.fits o.dst = true) (hg:gd ops o st.env = some true) (ho:OpR P o st h1 v) (h:WS P ops Q h1 l (st.put o.dst v)):WS P ops Q h1 ((.t,o) :: l) st
 | o {o:Oper} {l:List (Sk × Oper)} {st:St} {K:St → Prop} (hd:st.fits o.dst = true) (hg:gd ops o st.env = some true) (ho:OpQ P o st K) (h:∀ st',K st' → WS P ops Q h1 l st'):WS P ops Q h1 ((.o,o) :: l) st
 | l {o:Oper} {l:List (Sk × Oper)} {st:St} {K:St → Prop} (hd:st.fits o.dst = true) (hg:gd ops o st.env = some true) (ho:OpW P o st K) (h:∀ st',K st' → WS P ops Q h1 l st'):WS P ops Q h1 ((.l,o) :: l) st
def dQ (Q:Exit → St → Prop) (Γ:Ctx):Exit → Act → World → Prop
 | .normal,a,w => ∃ st ρ,Q .normal st ∧ Rel Γ ρ st a w
 | .exit i,a,w => ∃ st ρ,Q (.exit i) st ∧ Rel Γ ρ st a w
 | .ret,a,w => ∃ st ρ,Q .ret st ∧ Rel Γ ρ st a w
 | _,_,_ => False
def W (P:Program) (c:Code) (Q:Exit → St → Prop) (st:St):Prop:=∀ Γ ρ a w,Rel Γ ρ st a w → c.wp P (dQ Q Γ) a w
theorem Rel.undef_ {Γ:Ctx} {ρ:Pl} {st:St} {a:Act} {w:World} (h:Rel Γ ρ st a w) (d:Option Nat) (hd:st.fits d = true):Rel Γ ρ (st.put d (.tup [])) (a.put d Go.undef) w :=
 h.put st.h d hd (.tup []) Go.undef (Ext.refl _) h.len h.holds ⟨#[],rfl,trivial⟩
theorem ws_list' {P:Program} {ops:Array Oper} {Q:Exit → St → Prop} {h1:AH} {ks:List (Sk × Oper)} {st:St} (h:WS P ops Q h1 ks st):∀ (l:List Oper),ks = l.map (fun o => (Sk.l,o)) → ∀ {Γ ρ a w},Rel Γ ρ st a w → wpList P ops (dQ Q Γ) l a w:=by
 induction h with
 | nil h =>
   intro l e Γ ρ a w hr
   cases l with
   | nil => exact ⟨_,ρ,h,hr⟩
   | cons o l => cases e
 | ghost g _ ih =>
   intro l e Γ ρ a w hr
   obtain ⟨st',ρ',hk',_,hr'⟩:=g Γ ρ a w hr
   exact ih st' hk' l e hr'
 | off hd hg _ ih =>
   intro l e Γ ρ a w hr
   cases l with
   | nil => cases e
   | cons o' l =>
     cases e
     refine wpList_step fun K hK => ?_
     rw [if_neg (by rw [bf hg hr.env];decide)]
     exact hK _ _ (ih l rfl (hr.undef_ _ hd))
 | p _ _ _ _ _ =>
   intro l e
   cases l <;> cases e
 | t _ _ _ _ _ =>
   intro l e
   cases l <;> cases e
 | o _ _ _ _ _ =>
   intro l e
   cases l <;> cases e
 | l hd hg ho _ ih =>
   intro l e Γ ρ a w hr
   cases l with
   | nil => cases e
   | cons o' l =>
     cases e
     refine wpList_step fun K hK => ?_
     rw [if_pos (bf hg hr.env)]
     exact ho Γ ρ a w hr K (dQ Q Γ) (fun st' ρ' a' w' hk hr' => hK _ _ (ih st' hk l rfl hr'))
theorem AE {P:Program} {ops:Array Oper} {Q:Exit → St → Prop} {h1:AH} (l:List Oper) {st:St} (h:WS P ops Q h1 (l.map (fun o => (Sk.l,o))) st) {Γ ρ a w} (hr:Rel Γ ρ st a w):wpList P ops (dQ Q Γ) l a w:=ws_list' h l rfl hr
theorem xd {P:Program} {id:Nat} {l:List Oper} {Q:Exit → St → Prop} {st:St} (h:WS P l.toArray Q [] (l.map (fun o => (Sk.l,o))) st):W P (Code.region id l.toArray false) Q st :=
 fun Γ ρ a w hr => wp_region_lit (AE l h hr)
def chk (ops:Array Oper) (ds:List Nat):Bool → List (Sk × Nat) → Array Bool → Bool
 | _,[],l => Region.ready .any ops l == []
 | ph,(k,i) :: r,l => (ops[i]?).isSome && (match k with
   | .p => PrintLast.anyB .any ops l (l.setIfInBounds i true) i
   | .t => ph && PrintLast.takeB .any ops ds l (l.setIfInBounds i true) i
   | .o => ph && PrintLast.readyB .any ops l (l.setIfInBounds i true) i && !ds.contains i
   | .l => PrintLast.readyB .any ops l (l.setIfInBounds i true) i && ds.contains i) && chk ops ds (ph && (match k with | .l => false | _ => true)) r (l.setIfInBounds i true)
def opn (ops:Array Oper) (i:Nat):Oper:=(ops[i]?).getD ⟨none,.ready 0,0, "", #[],none⟩
theorem ws_draw' {P:Program} {ops:Array Oper} {Q:Exit → St → Prop} {h1:AH} {ds:List Nat} {Γ:Ctx} {ρ1:Pl} {w1:World} (hH:Holds Γ ρ1 h1 w1) {ks:List (Sk × Oper)} {st:St} (h:WS P ops Q h1 ks st) :
  ∀ (s:List (Sk × Nat)) (ph:Bool) (l:Array Bool),ks = s.map (fun p => (p.1,opn ops p.2)) → chk ops ds ph s l = true → ∀ {ρ a w},Rel Γ ρ st a w → (ph = true → Ext ρ1 ρ ∧ Same w1 w) →
   PrintLast.wpAnyLast P .any ops (dQ Q Γ) (Same w1) ds s.length l a w:=by
 induction h with
 | nil h =>
   intro s ph l e hc ρ a w hr hS
   cases s with
   | nil => exact PrintLast.done_ hc ⟨_,ρ,h,hr⟩
   | cons o s => cases e
 | ghost g _ ih =>
   intro s ph l e hc ρ a w hr hS
   obtain ⟨st',ρ',hk',hx,hr'⟩:=g Γ ρ a w hr
   exact ih st' hk' s ph l e hc hr' (fun h => ⟨(hS h).1.trans hx,(hS h).2⟩)
 | @off k o ks st hd hg _ ih =>
   intro s ph l e hc ρ a w hr hS
   cases s with
   | nil => cases e
   | cons p s =>
     obtain ⟨k',i⟩:=p
     simp only [List.map_cons,List.cons.injEq,Prod.mk.injEq] at e
     obtain ⟨⟨rfl,e1⟩,e2⟩:=e
     simp only [chk,Bool.and_eq_true] at hc
     obtain ⟨⟨hi,hk⟩,hrest⟩:=hc
     have ho:ops[i]? = some o:=by
      obtain ⟨o',ho'⟩:=Option.isSome_iff_exists.1 hi
      rw [e1,opn,ho']
      rfl
     have hw:=bf hg hr.env
     cases k with
     | p =>
       simp only [Bool.and_true] at hk hrest
       exact PrintLast.pure_ _ ho rfl hk (fun _ _ _ h => h) (Or.inr ⟨hw,rfl⟩) rfl (ih s _ _ e2 hrest (hr.undef_ o.dst hd) hS)
     | t =>
       simp only [Bool.and_true,Bool.and_eq_true] at hk hrest
       obtain ⟨hph,hk⟩:=hk
       exact PrintLast.take_ _ ho rfl hk (fun _ _ _ h => h) (Or.inr ⟨hw,rfl⟩) (hS hph).2 rfl (ih s _ _ e2 hrest (hr.undef_ o.dst hd) hS)
     | o =>
       simp only [Bool.and_true,Bool.and_eq_true] at hk hrest
       obtain ⟨⟨hph,hk⟩,hnd⟩:=hk
       refine PrintLast.one_ _ ho rfl hk (by simpa using hnd) (fun K hK => ?_)
       rw [if_neg (by rw [hw];decide)]
       exact hK.out _ _ (hS hph).2 (fun _ => ih s _ _ e2 hrest (hr.undef_ o.dst hd) hS)
     | l =>
       simp only [Bool.and_false,Bool.and_eq_true] at hk hrest
       obtain ⟨hk,hnd⟩:=hk
       refine PrintLast.last_ _ ho rfl hk (by simpa using hnd) (fun K hK => ?_)
       rw [if_neg (by rw [hw];decide)]
       exact hK.out _ _ (ih s _ _ e2 hrest (hr.undef_ o.dst hd) (fun h => by cases h))
 | @p o ks st v hd hg ho' _ ih =>
   intro s ph l e hc ρ a w hr hS
   cases s with
   | nil => cases e
   | cons p s =>
     obtain ⟨k',i⟩:=p
     simp only [List.map_cons,List.cons.injEq,Prod.mk.injEq] at e
     obtain ⟨⟨rfl,e1⟩,e2⟩:=e
     simp only [chk,Bool.and_eq_true] at hc
     obtain ⟨⟨hi,hk⟩,hrest⟩:=hc
     have ho:ops[i]? = some o:=by
      obtain ⟨o',ho'⟩:=Option.isSome_iff_exists.1 hi
      rw [e1,opn,ho']
      rfl
     have hw:=bf hg hr.env
     simp only [Bool.and_true] at hk hrest
     obtain ⟨v',hv,hv2⟩:=ho' Γ ρ a w hr
     exact PrintLast.pure_ _ ho rfl hk (fun _ _ _ h => h) (Or.inl ⟨hw,hv2⟩) rfl (ih s _ _ e2 hrest (hr.put st.h o.dst hd v v' (Ext.refl _) hr.len hr.holds hv) hS)
 | @t o ks st v hd hg ho' _ ih =>
   intro s ph l e hc ρ a w hr hS
   cases s with
   | nil => cases e
   | cons p s =>
     obtain ⟨k',i⟩:=p
     simp only [List.map_cons,List.cons.injEq,Prod.mk.injEq] at e
     obtain ⟨⟨rfl,e1⟩,e2⟩:=e
     simp only [chk,Bool.and_eq_true] at hc
     obtain ⟨⟨hi,hk⟩,hrest⟩:=hc
     have ho:ops[i]? = some o:=by
      obtain ⟨o',ho'⟩:=Option.isSome_iff_exists.1 hi
      rw [e1,opn,ho']
      rfl
     have hw:=bf hg hr.env
     simp only [Bool.and_true] at hk hrest
     obtain ⟨hph,hk⟩:=hk
     obtain ⟨v',hv,hv2⟩:=ho' Γ ρ1 ρ a w w1 (hS hph).1 hr hH
     exact PrintLast.take_ _ ho rfl hk (fun _ _ _ h => h) (Or.inl ⟨hw,fun w hw => hv2 w hw⟩) (hS hph).2 rfl (ih s _ _ e2 hrest (hr.put st.h o.dst hd v v' (Ext.refl _) hr.len hr.holds hv) hS)
 | @o o ks st Kp hd hg h2 _ ih =>
   intro s ph l e hc ρ a w hr hS
   cases s with
   | nil => cases e
   | cons p s =>
     obtain ⟨k',i⟩:=p
     simp only [List.map_cons,List.cons.injEq,Prod.mk.injEq] at e
     obtain ⟨⟨rfl,e1⟩,e2⟩:=e
     simp only [chk,Bool.and_eq_true] at hc
     obtain ⟨⟨hi,hk⟩,hrest⟩:=hc
     have ho:ops[i]? = some o:=by
      obtain ⟨o',ho'⟩:=Option.isSome_iff_exists.1 hi
      rw [e1,opn,ho']
      rfl
     have hw:=bf hg hr.env
     simp only [Bool.and_true] at hk hrest
     obtain ⟨⟨hph,hk⟩,hnd⟩:=hk
     refine PrintLast.one_ _ ho rfl hk (by simpa using hnd) (fun K hK => ?_)
     rw [if_pos hw]
     exact h2 Γ ρ a w hr K (dQ Q Γ) (fun st' ρ' a' w' hk' hr' hx hs' => hK.out _ _ ((hS hph).2.trans hs') (fun hs'' => ih st' hk' s _ _ e2 hrest hr' (fun _ => ⟨(hS hph).1.trans hx,hs''⟩)))
 | @l o ks st Kp hd hg h2 _ ih =>
   intro s ph l e hc ρ a w hr hS
   cases s with
   | nil => cases e
   | cons p s =>
     obtain ⟨k',i⟩:=p
     simp only [List.map_cons,List.cons.injEq,Prod.mk.injEq] at e
     obtain ⟨⟨rfl,e1⟩,e2⟩:=e
     simp only [chk,Bool.and_eq_true] at hc
     obtain ⟨⟨hi,hk⟩,hrest⟩:=hc
     have ho:ops[i]? = some o:=by
      obtain ⟨o',ho'⟩:=Option.isSome_iff_exists.1 hi
      rw [e1,opn,ho']
      rfl
     have hw:=bf hg hr.env
     simp only [Bool.and_false] at hk hrest
     obtain ⟨hk,hnd⟩:=hk
     refine PrintLast.last_ _ ho rfl hk (by simpa using hnd) (fun K hK => ?_)
     rw [if_pos hw]
     exact h2 Γ ρ a w hr K (dQ Q Γ) (fun st' ρ' a' w' hk' hr' => hK.out _ _ (ih st' hk' s _ _ e2 hrest hr' (fun h => by cases h)))
theorem s5 {P:Program} {ops:Array Oper} {Q:Exit → St → Prop} {h1:AH} {ds:List Nat} {Γ:Ctx} {ρ1:Pl} {w1:World} (hH:Holds Γ ρ1 h1 w1) (s:List (Sk × Nat)) (ph:Bool) (l:Array Bool) {st:St} (hc:chk ops ds ph s l = true)
  (h:WS P ops Q h1 (s.map (fun p => (p.1,opn ops p.2))) st) {ρ a w} (hr:Rel Γ ρ st a w) (hS:ph = true → Ext ρ1 ρ ∧ Same w1 w):PrintLast.wpAnyLast P .any ops (dQ Q Γ) (Same w1) ds s.length l a w:=ws_draw' hH h s ph l rfl hc hr hS
theorem Holds.heap {Γ:Ctx} {ρ:Pl} {h:AH} {w w':World} (hh:Holds Γ ρ h w) (h1:w'.heap = w.heap) (h2:w'.os = w.os) (h3:w'.tape = w.tape) (h4:w'.output = w.output):Holds Γ ρ h w' :=
 ⟨⟨h2.trans hh.fr.os,h3.trans hh.fr.tape,h4.trans hh.fr.output,by rw [h1];exact hh.fr.size,fun k hk hn => by rw [h1];exact hh.fr.block k hk hn⟩,
  fun o ob ho => by
   obtain ⟨sl,h5,h6⟩:=hh.obj o ob ho
   exact ⟨sl,h5,h6.move (by rw [h1];exact Nat.le_refl _) (fun k _ => by rw [h1])⟩,hh.sep,hh.src,by
   obtain ⟨fz,f0,f1,f2,f3,f4⟩:=hh.dp
   exact ⟨fz,f0,fun g hg => by rw [h1];exact f1 g hg,f2,f3,fun o own ty sz xs ho => (f4 o own ty sz xs ho).move (by rw [h1];exact Nat.le_refl _) (fun _ q => q) (fun g _ => by rw [h1])⟩⟩
theorem Rel.drew {Γ:Ctx} {ρ:Pl} {st:St} {a:Act} {w:World} (h:Rel Γ ρ st a w):Rel Γ ρ st a w.drew :=
 ⟨h.holds.heap rfl rfl rfl rfl,h.len,h.klen,h.args,h.env,h.defers,h.size⟩
theorem B7 {P:Program} {id:Nat} {l:List Oper} {Q:Exit → St → Prop} {st:St} (hm:P.follows .mixedOrders = true) (s:List (Sk × Nat)) (ds:List Nat) (hc:(s.length == l.toArray.size && chk l.toArray ds true s (Array.replicate l.toArray.size false)) = true)
  (h:WS P l.toArray Q st.h (s.map (fun p => (p.1,opn l.toArray p.2))) st):W P (Code.region id l.toArray true) Q st:=fun Γ ρ a w hr => by
 simp only [Bool.and_eq_true,beq_iff_eq] at hc
 have h2:=s5 hr.drew.holds s true _ hc.2 h hr.drew (fun _ => ⟨Ext.refl _,Same.refl _⟩)
 exact PrintLast.start_ (ds:=ds) (S:=Same w.drew) _ hm hc.1.symm rfl (Same.refl _) (fun _ => by rw [hc.1] at h2 ⊢;exact h2)
def jc (N:St → Prop) (Q:Exit → St → Prop):Exit → St → Prop
 | .normal,st => N st
 | e,st => Q e st
def pR (id:Nat) (Q:Exit → St → Prop):Exit → St → Prop
 | .exit i,st => match Nat.beq i id with
   | true => Q .normal st
   | false => Q (.exit i) st
 | e,st => Q e st
section
variable {P:Program} {Q:Exit → St → Prop} {st:St}
theorem qJ {N:St → Prop} {Γ:Ctx} {R:Act → World → Prop} (hR:∀ st ρ a w,N st → Rel Γ ρ st a w → R a w):∀ (e:Exit) (a:Act) (w:World),dQ (jc N Q) Γ e a w → Exit.then R (dQ Q Γ) e a w
 | .normal,a,w,⟨st,ρ,h,hr⟩ => hR st ρ a w h hr
 | .exit _,_,_,h => h
 | .ret,_,_,h => h
 | .panic _,_,_,h => h
 | .goto _,_,_,h => h
 | .outgrown,_,_,h => h
theorem Cr {x y:Code} (h:W P x (jc (W P y Q) Q) st):W P (Code.seq x y) Q st:=fun Γ ρ a w hr =>
 wp_seq (wp_mono (h Γ ρ a w hr) (qJ (fun st ρ a w h hr => h Γ ρ a w hr)))
theorem Ba (h:Q .normal st):W P Code.skip Q st:=fun Γ ρ a w hr => wp_skip ⟨st,ρ,h,hr⟩
theorem Cq (h:Q .ret st):W P Code.ret Q st:=fun Γ ρ a w hr => wp_ret ⟨st,ρ,h,hr⟩
theorem B8 {id:Nat} (h:Q (.exit id) st):W P (Code.exit id) Q st:=fun Γ ρ a w hr => wp_exit ⟨st,ρ,h,hr⟩
theorem ya {id:Nat} {Γ:Ctx}:∀ (e:Exit) (a:Act) (w:World),dQ (pR id Q) Γ e a w → Exit.inBlock id (dQ Q Γ) e a w
 | .normal,a,w,h => h
 | .exit i,a,w,⟨st,ρ,h,hr⟩ => by
   show if i = id then _ else _
   have h:(match Nat.beq i id with | true => Q .normal st | false => Q (.exit i) st):=h
   by_cases e:i = id
   ·subst e
    rw [Nat.beq_refl] at h
    rw [if_pos rfl]
    exact ⟨st,ρ,h,hr⟩
   ·rw [show Nat.beq i id = false from by
     cases hb:Nat.beq i id
     ·rfl
     ·exact absurd (Nat.eq_of_beq_eq_true hb) e] at h
    rw [if_neg e]
    exact ⟨st,ρ,h,hr⟩
 | .ret,_,_,h => h
 | .panic _,_,_,h => h
 | .goto _,_,_,h => h
 | .outgrown,_,_,h => h
theorem zp {id:Nat} {c:Code} (h:W P c (pR id Q) st):W P (Code.block id c) Q st:=fun Γ ρ a w hr => wp_block (wp_mono (h Γ ρ a w hr) ya)
theorem wx {ρ:Pl} {a:Act} {c:Operand} {b:Bool} (he:EnvR ρ st.env a.tmps) (h:ev st.env c = some (.c (.sc (.bool b)))):a.eval c = .bool b:=(bq he h).1
theorem xb {c:Operand} {x y:Code} {b:Bool} (hc:ev st.env c = some (.c (.sc (.bool b)))) (ht:b = true → W P x Q st) (hf:b = false → W P y Q st):W P (Code.cond c x y) Q st:=fun Γ ρ a w hr =>
 wp_cond_split (wx hr.env hc) (fun h => ht h Γ ρ a w hr) (fun h => hf h Γ ρ a w hr)
theorem xc {c:Code} {Q':Exit → St → Prop} (hq:∀ e st,Q e st → Q' e st) (h:W P c Q st):W P c Q' st:=fun Γ ρ a w hr =>
 wp_mono (h Γ ρ a w hr) (fun e a w hh => by
  cases e with
  | normal => obtain ⟨s,r,h1,h2⟩:=hh;exact ⟨s,r,hq _ _ h1,h2⟩
  | exit i => obtain ⟨s,r,h1,h2⟩:=hh;exact ⟨s,r,hq _ _ h1,h2⟩
  | ret => obtain ⟨s,r,h1,h2⟩:=hh;exact ⟨s,r,hq _ _ h1,h2⟩
  | _ => exact hh)
end
def mf (m:List Nat) (n:Nat) (o:Nat):Nat:=(m[o]?).getD (n + (o - m.length))
def bP (m:List Nat) (h:AH):AH:=m.map fun i => (h[i]?).join
def cm:AH → AH → AH
 | some b :: r,some o :: s => some (o.view b.own) :: cm r s
 | some _ :: r,none :: s => none :: cm r s
 | none :: r,_ :: s => none :: cm r s
 | _,_ => []
def cx (f:Nat → Nat) (h:AH):AH:=h.map (·.map (AO.ren f))
def owB:Option AO → Bool
 | some o => o.own
 | none => false
def ndA (i:Nat) (b:Bool):List Nat → AH → Bool
 | _ :: m,none :: hs => ndA i b m hs
 | j :: m,some y :: hs => (!(b || y.own) || !Nat.beq i j) && ndA i b m hs
 | _,_ => true
def ndO:List Nat → AH → Bool
 | _ :: m,none :: hs => ndO m hs
 | i :: m,some x :: hs => ndA i x.own m hs && ndO m hs
 | _,_ => true
theorem rF {i:Nat} {b:Bool}:∀ {m:List Nat} {hs:AH},ndA i b m hs = true → ∀ {j k:Nat} {x:AO},m[j]? = some k → hs[j]? = some (some x) → b = true ∨ x.own = true → i ≠ k
 | j' :: m,none :: hs,h,0,k,x,hj,hx,hb => by simp at hx
 | j' :: m,some y :: hs,h,0,k,x,hj,hx,hb => by
   have e1:j' = k:=by simpa using hj
   have e2:y = x:=by simpa using hx
   subst e1;subst e2
   simp only [ndA,Bool.and_eq_true] at h
   have h1:=h.1
   rintro rfl
   rw [Nat.beq_refl] at h1
   rcases hb with hb | hb <;> simp [hb] at h1
 | j' :: m,none :: hs,h,j + 1,k,x,hj,hx,hb => by
   simp only [ndA] at h
   exact rF h (by simpa using hj) (by simpa using hx) hb
 | j' :: m,some y :: hs,h,j + 1,k,x,hj,hx,hb => by
   simp only [ndA,Bool.and_eq_true] at h
   exact rF h.2 (by simpa using hj) (by simpa using hx) hb
 | [],_,_,j,k,x,hj,_,_ => by simp at hj
 | _ :: _,[],_,j,k,x,_,hx,_ => by simp at hx
theorem uD:∀ {m:List Nat} {hs:AH},ndO m hs = true → ∀ {i j a b:Nat} {x y:AO},m[i]? = some a → m[j]? = some b → hs[i]? = some (some x) → hs[j]? = some (some y) → i ≠ j → x.own = true ∨ y.own = true → a ≠ b
 | _ :: m,_ :: hs,h,0,0,a,b,x,y,hi,hj,hx,hy,hne,ho => (hne rfl).elim
 | i' :: m,none :: hs,h,0,j + 1,a,b,x,y,hi,hj,hx,hy,hne,ho => by simp at hx
 | i' :: m,some x' :: hs,h,0,j + 1,a,b,x,y,hi,hj,hx,hy,hne,ho => by
   have e1:i' = a:=by simpa using hi
   have e2:x' = x:=by simpa using hx
   subst e1;subst e2
   simp only [ndO,Bool.and_eq_true] at h
   exact rF h.1 (by simpa using hj) (by simpa using hy) ho
 | i' :: m,none :: hs,h,i + 1,0,a,b,x,y,hi,hj,hx,hy,hne,ho => by simp at hy
 | i' :: m,some x' :: hs,h,i + 1,0,a,b,x,y,hi,hj,hx,hy,hne,ho => by
   have e1:i' = b:=by simpa using hj
   have e2:x' = y:=by simpa using hy
   subst e1;subst e2
   simp only [ndO,Bool.and_eq_true] at h
   exact (rF h.1 (by simpa using hi) (by simpa using hx) ho.symm).symm
 | i' :: m,none :: hs,h,i + 1,j + 1,a,b,x,y,hi,hj,hx,hy,hne,ho => by
   simp only [ndO] at h
   exact uD h (by simpa using hi) (by simpa using hj) (by simpa using hx) (by simpa using hy) (by omega) ho
 | i' :: m,some x' :: hs,h,i + 1,j + 1,a,b,x,y,hi,hj,hx,hy,hne,ho => by
   simp only [ndO,Bool.and_eq_true] at h
   exact uD h.2 (by simpa using hi) (by simpa using hj) (by simpa using hx) (by simpa using hy) (by omega) ho
 | [],_,_,i,j,a,b,x,y,hi,_,_,_,_,_ => by simp at hi
 | _ :: _,[],_,i,j,a,b,x,y,_,_,hx,_,_,_ => by simp at hx
structure Conv (st st2:St) (m:List Nat):Prop where
 n:st2.n = st.n
 k:st2.k = st.k
 len:st2.h.length = m.length
 args:m.take st.k = List.range st.k
 lt:m.all (fun i => Nat.blt i st.h.length) = true
 nodup:ndO m st2.h = true
 h:cx (mf m st.h.length) st2.h = cm st2.h (bP m st.h)
 env:st2.env.map (fun p => lk p.1 st.env) = st2.env.map (fun p => some (p.2.ren (mf m st.h.length)))
def cj (m:List Nat) (ρ:Pl):Pl:=m.map fun i => ρ.getD i ⟨none,0,0,false⟩
theorem i8 {m:List Nat} {ρ:Pl} {n:Nat} (hn:ρ.length = n):∀ o sl,ρ[mf m n o]? = some sl → (cj m ρ)[o]? = some sl:=fun o sl h => by
 unfold mf at h
 cases hm:m[o]? with
 | none =>
   rw [hm,Option.getD_none] at h
   have:=(List.getElem?_eq_some_iff.1 h).1
   omega
 | some i =>
   rw [hm,Option.getD_some] at h
   unfold cj
   rw [List.getElem?_map,hm]
   simp [List.getD_eq_getElem?_getD,h]
theorem ms:∀ {b p:AH} {j:Nat} {o:AO},(cm b p)[j]? = some (some o) → ∃ bo oo,b[j]? = some (some bo) ∧ p[j]? = some (some oo) ∧ o = oo.view bo.own
 | some b :: r,some o :: s,0,x,h => by
   have:o.view b.own = x:=by simpa [cm] using h
   exact ⟨b,o,rfl,rfl,this.symm⟩
 | some b :: r,some o :: s,j + 1,x,h => by
   have h:(cm r s)[j]? = some (some x):=by simpa [cm] using h
   obtain ⟨bo,oo,h1,h2⟩:=ms h
   exact ⟨bo,oo,by simpa using h1,by simpa using h2⟩
 | some b :: r,none :: s,0,x,h => by simp [cm] at h
 | some b :: r,none :: s,j + 1,x,h => by
   have h:(cm r s)[j]? = some (some x):=by simpa [cm] using h
   obtain ⟨bo,oo,h1,h2⟩:=ms h
   exact ⟨bo,oo,by simpa using h1,by simpa using h2⟩
 | none :: r,_ :: s,0,x,h => by simp [cm] at h
 | none :: r,_ :: s,j + 1,x,h => by
   have h:(cm r s)[j]? = some (some x):=by simpa [cm] using h
   obtain ⟨bo,oo,h1,h2⟩:=ms h
   exact ⟨bo,oo,by simpa using h1,by simpa using h2⟩
 | [],_,j,x,h => by simp [cm] at h
 | some _ :: _,[],j,x,h => by simp [cm] at h
 | none :: _,[],j,x,h => by simp [cm] at h
theorem gl {h h2:AH} {m:List Nat} {f:Nat → Nat} (hh:cx f h2 = cm h2 (bP m h)) {j:Nat} {ob:AO} (ho:h2[j]? = some (some ob)):∃ i oo,m[j]? = some i ∧ h[i]? = some (some oo) ∧ ob.ren f = oo.view ob.own:=by
 have h1:(cx f h2)[j]? = some (some (ob.ren f)):=by
  unfold cx
  rw [List.getElem?_map,ho]
  rfl
 rw [hh] at h1
 obtain ⟨bo,oo,e1,e2,e3⟩:=ms h1
 rw [ho] at e1
 have e1:ob = bo:=by simpa using e1
 subst e1
 unfold bP at e2
 rw [List.getElem?_map] at e2
 obtain ⟨i,hi,e4⟩:=Option.map_eq_some_iff.1 e2
 refine ⟨i,oo,hi,?_,e3⟩
 cases hx:h[i]? with
 | none => rw [hx] at e4;simp at e4
 | some y => rw [hx] at e4;simpa using e4
theorem cK {m:List Nat} {ρ:Pl} {j i:Nat} (h:m[j]? = some i) {sl:Slot} (hs:ρ[i]? = some sl):(cj m ρ)[j]? = some sl:=by
 unfold cj
 rw [List.getElem?_map,h]
 simp [List.getD_eq_getElem?_getD,hs]
theorem ye:∀ {env:List (Nat × AV)} {t:Nat} {v:AV},lk t env = some v → (t,v) ∈ env
 | (k,u) :: r,t,v,h => by
  unfold lk at h
  split at h
  ·rename_i hb
   have:k = t:=Nat.eq_of_beq_eq_true hb
   cases h
   subst this
   simp
  ·exact List.mem_cons_of_mem _ (ye h)
theorem Conv.frz {Γ:Ctx} {ρ:Pl} {h h2:AH} {w:World} {m:List Nat} {n:Nat} (hl:ρ.length = n) (hh:cx (mf m n) h2 = cm h2 (bP m h)) (hH:Holds Γ ρ h w) {fz:Nat → Prop} (hF:Frz Γ ρ h w fz):Frz Γ (cj m ρ) h2 w fz:=by
 obtain ⟨f0,f1,f2,f3,f4⟩:=hF
 refine ⟨f0,f1,f2,fun o ob sl g ho hown hs hg => ?_,fun o own ty sz xs ho => ?_⟩
 ·obtain ⟨i,oo,hi,hoo,e⟩:=gl hh ho
  obtain ⟨sl1,h1,h2⟩:=hH.obj i oo hoo
  have hsl:sl1 = sl:=by rw [cK hi h1] at hs;exact Option.some.inj hs
  subst hsl
  have hoo_own:oo.own = true:=by
   have h5:ob.own = (oo.own && ob.own):=congrArg AO.own e
   rw [hown] at h5
   simpa using h5.symm
  exact f3 i oo sl1 g hoo hoo_own h1 hg
 ·obtain ⟨i,oo,hi,hoo,e⟩:=gl hh ho
  obtain ⟨sl,h1,h2⟩:=hH.obj i oo hoo
  obtain ⟨own2,ty2,sz2,el2⟩:=oo
  have e1:El.dp xs = el2:=congrArg AO.el e
  have e2:sz = sz2:=congrArg AO.sz e
  subst e1;subst e2
  exact f4 i _ _ _ _ hoo
theorem Conv.holds {Γ:Ctx} {ρ:Pl} {h h2:AH} {w:World} {m:List Nat} {n:Nat} (hl:ρ.length = n) (hlt:m.all (fun i => Nat.blt i n) = true) (hn:ndO m h2 = true) (hh:cx (mf m n) h2 = cm h2 (bP m h)) (hH:Holds Γ ρ h w):Holds Γ (cj m ρ) h2 w:=by
 refine ⟨hH.fr,fun o ob ho => ?_,fun o ob sl g ho hown hs hg => ?_,fun o ob sl g ho hs hg => ?_,?_⟩
 ·obtain ⟨i,oo,hi,hoo,e⟩:=gl hh ho
  obtain ⟨sl,h1,h2⟩:=hH.obj i oo hoo
  refine ⟨sl,cK hi h1,?_⟩
  have h3:=h2.view ob.own
  rw [← e] at h3
  exact h3.back (i8 hl)
 ·obtain ⟨i,oo,hi,hoo,e⟩:=gl hh ho
  obtain ⟨sl1,h1,h2⟩:=hH.obj i oo hoo
  have hsl:sl1 = sl:=by rw [cK hi h1] at hs;exact Option.some.inj hs
  subst hsl
  have hoo_own:oo.own = true:=by
   have:=congrArg AO.own e
   have h5:ob.own = (oo.own && ob.own):=this
   rw [hown] at h5
   simpa using h5.symm
  obtain ⟨h3,h4⟩:=hH.sep i oo sl1 g hoo hoo_own h1 hg
  refine ⟨h3,fun o' ob' sl' ho' hne hs' => ?_⟩
  obtain ⟨i',oo',hi',hoo',_⟩:=gl hh ho'
  obtain ⟨sl2,k1,_⟩:=hH.obj i' oo' hoo'
  have:sl2 = sl':=by rw [cK hi' k1] at hs';exact Option.some.inj hs'
  subst this
  exact h4 i' oo' sl2 hoo' (uD hn hi' hi ho' ho hne (.inr hown)) k1
 ·obtain ⟨i,oo,hi,hoo,e⟩:=gl hh ho
  obtain ⟨sl1,h1,h2⟩:=hH.obj i oo hoo
  have hsl:sl1 = sl:=by rw [cK hi h1] at hs;exact Option.some.inj hs
  subst hsl
  exact hH.src i oo sl1 g hoo h1 hg
 ·obtain ⟨fz,hF⟩:=hH.dp
  exact ⟨fz,Conv.frz hl hh hH hF⟩
theorem Conv.rel {Γ:Ctx} {ρ:Pl} {st st2:St} {a:Act} {w:World} {m:List Nat} (c:Conv st st2 m) (h:Rel Γ ρ st a w):Rel Γ (cj m ρ) st2 a w:=by
 refine ⟨Conv.holds h.len c.lt c.nodup c.h h.holds,by rw [c.len];simp [cj],by rw [c.k];exact h.klen,fun o sl ho => ?_,fun t v ht => ?_,h.defers,by rw [c.n];exact h.size⟩
 ·have hk:o < st.k:=by rw [← h.klen];exact (List.getElem?_eq_some_iff.1 ho).1
  have h1:m[o]? = some o:=by
   have h2:(m.take st.k)[o]? = some o:=by rw [c.args,List.getElem?_range hk]
   rwa [List.getElem?_take_of_lt hk] at h2
  exact cK h1 (h.args o sl ho)
 ·have hm:=ye ht
  have h1:lk t st.env = some (v.ren (mf m st.h.length)):=by
   obtain ⟨i,hi⟩:=List.getElem?_of_mem hm
   have:=congrArg (·[i]?) c.env
   simpa [hi] using this
  obtain ⟨v',h2,h3⟩:=h.env t _ h1
  exact ⟨v',h2,AV.R_back (i8 h.len) h3⟩
theorem B6 {P:Program} {c:Code} {Q:Exit → St → Prop} {st:St} (st2:St) (m:List Nat) (hc:Conv st st2 m) (h:W P c Q st2):W P c Q st:=fun Γ ρ a w hr => h Γ _ a w (hc.rel hr)
theorem B9 {P:Program} {c:Code} {Q:Exit → St → Prop} {st:St} {X:Type} (Inv:X → Prop) (I:X → St) (μ:X → Nat) (x0:X) (m:List Nat) (h0:Inv x0) (hc:Conv st (I x0) m)
  (hr:∀ x,Inv x → W P c (jc (fun st' => ∃ y m',Inv y ∧ μ y < μ x ∧ Conv st' (I y) m') Q) (I x)):W P (Code.loop c) Q st:=fun Γ ρ a w hrel => by
 refine wp_loop_ghost (fun n a w => ∃ x ρ,Inv x ∧ μ x = n ∧ Rel Γ ρ (I x) a w) (μ x0) ⟨x0,_,h0,rfl,hc.rel hrel⟩ (fun n a w hI => ?_)
 obtain ⟨x,ρ',hx,hμ,hrel'⟩:=hI
 refine wp_mono (hr x hx Γ ρ' a w hrel') (qJ (fun st1 ρ1 a1 w1 hN hr1 => ?_))
 obtain ⟨y,m',hy,hlt,hcv⟩:=hN
 exact ⟨μ y,by omega,y,_,hy,rfl,hcv.rel hr1⟩
def qh (ρ:Pl) (hs:AH) (k:Nat):Prop:=∃ (o:Nat) (ob:AO) (sl:Slot),hs[o]? = some (some ob) ∧ ob.own = true ∧ ρ[o]? = some sl ∧ sl.blk = some k
def ACall (P:Program) (f:FuncId) (args:List AV) (hs:AH) (R:AV → AH → Prop):Prop :=
 ∀ (ρ:Pl) (w:World) (fz:Nat → Prop) (cargs:List Value),ρ.length = hs.length → Holds ⟨w,qh ρ hs,ρ,fz⟩ ρ hs w → All2 (AV.R ρ) args cargs →
  Calls P f cargs.toArray w fun e w' => ∃ v hs' v' ρ',R v hs' ∧ e = .returned v' ∧ v.R ρ' v' ∧ Holds ⟨w,qh ρ hs,ρ,fz⟩ ρ' hs' w' ∧ ρ'.length = hs'.length ∧ Ext ρ ρ'
theorem ACall.mono {P:Program} {f:FuncId} {args:List AV} {hs:AH} {R R':AV → AH → Prop} (h:ACall P f args hs R) (hR:∀ v hs',R v hs' → R' v hs'):ACall P f args hs R' :=
 fun ρ w fz cargs h1 h2 h3 => (h ρ w fz cargs h1 h2 h3).mono fun e w' ⟨v,hs',v',ρ',a,b⟩ => ⟨v,hs',v',ρ',hR v hs' a,b⟩
def oS:Nat → List AV → List (Nat × AV)
 | _,[] => []
 | i,v :: vs => (i,v) :: oS (i + 1) vs
structure Fin (RS:St → AV → Prop) (st:St) (m:List Nat) (v:AV) (hs:AH):Prop where
 res:RS st (v.ren (mf m st.h.length))
 len:hs.length = m.length
 args:m.take st.k = List.range st.k
 lt:m.all (fun i => Nat.blt i st.h.length) = true
 nodup:ndO m hs = true
 h:cx (mf m st.h.length) hs = cm hs (bP m st.h)
def sn (RS:St → AV → Prop) (R:AV → AH → Prop):Exit → St → Prop
 | .normal,st => ∃ m v hs,Fin RS st m v hs ∧ R v hs
 | .ret,st => ∃ m v hs,Fin RS st m v hs ∧ R v hs
 | _,_ => False
theorem td:∀ {args:List AV} {i t:Nat} {v:AV},lk t (oS i args) = some v → i ≤ t ∧ args[t - i]? = some v
 | [],i,t,v,h => by simp [oS,lk] at h
 | x :: args,i,t,v,h => by
   unfold oS lk at h
   split at h
   ·rename_i hb
    have:i = t:=Nat.eq_of_beq_eq_true hb
    subst this
    cases h
    simp
   ·obtain ⟨h1,h2⟩:=td h
    exact ⟨by omega,by rw [show t - i = (t - (i + 1)) + 1 from by omega];simpa using h2⟩
theorem ACall.enter {P:Program} {f:FuncId} {fn:Func} {c:Code} {args:List AV} {hs:AH} {R:AV → AH → Prop} {RS:St → AV → Prop} (n:Nat) (hf:P.funcs[f]? = some fn) (hb:fn.body = some c) (hres:∀ st v,RS st v → ∀ Γ ρ a w,Rel Γ ρ st a w → ∃ v',(results fn a.tmps).run P w = .ok v' w ∧ v.R ρ v') (hn:fn.ntmps = n) (hle:args.length ≤ n)
  (h:W P c (sn RS R) ⟨n,hs.length,oS 0 args,hs⟩):ACall P f args hs R:=fun ρ w fz cargs hl hH ha => by
 refine calls_of_wp hf hb (wp_mono (h ⟨w,qh ρ hs,ρ,fz⟩ ρ _ w ⟨hH,hl,hl,Ext.refl _,fun t v ht => ?_,rfl,?_⟩) ?_)
 ·obtain ⟨_,h1⟩:=td ht
  obtain ⟨v',h2,h3⟩:=ha.get h1
  refine ⟨v',?_,h3⟩
  have:t < cargs.length:=(List.getElem?_eq_some_iff.1 h2).1
  rw [Array.getElem?_append_left (by simpa using this)]
  simpa using h2
 ·have:=ha.length
  simp [hn]
  omega
 ·have key:∀ (a:Act) (w':World),(∃ st ρ',(∃ m v hs',Fin RS st m v hs' ∧ R v hs') ∧ Rel ⟨w,qh ρ hs,ρ,fz⟩ ρ' st a w' ∧ st.k = hs.length) → a.defers = [] ∧ ∃ v,(results fn a.tmps).run P w' = .ok v w' ∧ ∃ v0 hs' ρ',R v0 hs' ∧ v0.R ρ' v ∧ Holds ⟨w,qh ρ hs,ρ,fz⟩ ρ' hs' w' ∧ ρ'.length = hs'.length ∧ Ext ρ ρ':=by
   rintro a w' ⟨st,ρ',⟨m,v,hs',hfin,hR⟩,hr,hk⟩
   obtain ⟨v',hrun,hv'⟩:=hres st _ hfin.res _ _ a w' hr
   refine ⟨hr.defers,v',hrun,v,hs',cj m ρ',hR,AV.R_back (i8 hr.len) hv',Conv.holds hr.len hfin.lt hfin.nodup hfin.h hr.holds,by rw [hfin.len];simp [cj],fun o sl ho => ?_⟩
   have ho1:o < st.k:=by rw [hk,← hl];exact (List.getElem?_eq_some_iff.1 ho).1
   have h1:m[o]? = some o:=by
     have h2:(m.take st.k)[o]? = some o:=by rw [hfin.args,List.getElem?_range ho1]
     rwa [List.getElem?_take_of_lt ho1] at h2
   exact cK h1 (hr.args o sl ho)
  intro e a w' hh
  cases e with
  | normal =>
    obtain ⟨st,ρ',h1,h2⟩:=hh
    obtain ⟨k1,v,k2,v0,hs',ρ2,k3⟩:=key a w' ⟨st,ρ',h1,h2,by rw [← h2.klen];exact hl⟩
    exact ⟨k1,v,k2,v0,hs',v,ρ2,k3.1,rfl,k3.2⟩
  | ret =>
    obtain ⟨st,ρ',h1,h2⟩:=hh
    obtain ⟨k1,v,k2,v0,hs',ρ2,k3⟩:=key a w' ⟨st,ρ',h1,h2,by rw [← h2.klen];exact hl⟩
    exact ⟨k1,v,k2,v0,hs',v,ρ2,k3.1,rfl,k3.2⟩
  | exit i =>
    obtain ⟨st,ρ',h1,h2⟩:=hh
    exact h1.elim
  | panic _ => exact hh.elim
  | goto _ => exact hh.elim
  | outgrown => exact hh.elim
end Go.Proofs.YtgehbhkfehmdkaaGreat.Sh
