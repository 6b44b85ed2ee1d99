/- Symbolic memory: types, and operations that only reckon. No condition. -/
import Derived.Test.YtgehbhkfehmdkaaGreatKFxShC
set_option linter.unusedVariables false
namespace Go.Proofs.YtgehbhkfehmdkaaGreat.Sh
open Go.RowKit Go.Proofs.YtgehbhkfehmdkaaGreatW
inductive TD where
 | other | bool | str
 | int (k:IntKind)
 | slice (e:TypeId)
 | struct (fs:List (Nat × TypeId))
structure TI where
 d:TD
 size:Nat
 bytes:Nat
 agg:Bool
 zero:List Value
abbrev TB:=List (TypeId × TI)
def tlk (t:TypeId):TB → Option TI
 | [] => none
 | (k,v) :: r => match Nat.beq k t with
  | true => some v
  | false => tlk t r
def TD.ok (P:Program) (t:TypeId):TD → Prop
 | .other => True
 | .bool => P.underlying t = some .bool
 | .str => P.underlying t = some .string
 | .int k => P.underlying t = some (.int k)
 | .slice e => P.underlying t = some (.slice e)
 | .struct fs => ∃ fields,P.underlying t = some (.struct fields) ∧ fields.toList.map (fun f => (f.offset,f.type)) = fs ∧ ∀ f ∈ fields.toList,∃ i,P.info? f.type = some i ∧ i.size ≠ 0
structure TI.Ok (P:Program) (t:TypeId) (ti:TI):Prop where
 d:ti.d.ok P t
 info:∃ i z,P.info? t = some i ∧ i.size = ti.size ∧ i.bytes = ti.bytes ∧ i.zero = some z ∧ z.cells.toList = ti.zero
 agg:∀ w,(isAgg t).run P w = .ok ti.agg w
 one:ti.zero.all (·.oneCell') = true
 zl:ti.zero.length = ti.size
def TOk (P:Program) (T:TB):Prop:=∀ t ti,tlk t T = some ti → ti.Ok P t
def vEq:Value → Value → Bool
 | .int k n,.int k' n' => decide (k = k') && decide (n = n')
 | .bool a,.bool b => a == b
 | .string a,.string b => decide (a = b)
 | .slice none 0 0,.slice none 0 0 => true
 | .pointer none,.pointer none => true
 | .nilFunc,.nilFunc => true
 | .nilIface,.nilIface => true
 | _,_ => false
theorem yx:∀ {a b:Value},vEq a b = true → a = b:=by
 intro a b h
 unfold vEq at h
 split at h <;> simp_all
def t4:List Value → List Value → Bool
 | [],[] => true
 | a :: as,b :: bs => vEq a b && t4 as bs
 | _,_ => false
theorem rY:∀ {a b:List Value},t4 a b = true → a = b
 | [],[],_ => rfl
 | a :: as,b :: bs,h => by
   simp only [t4,Bool.and_eq_true] at h
   rw [yx h.1,rY h.2]
 | [],_ :: _,h => by simp [t4] at h
 | _ :: _,[],h => by simp [t4] at h
def TD.okB (P:Program) (t:TypeId) (d:TD):Bool:=match d,P.underlying t with
 | .other,_ => true
 | .bool,some .bool => true
 | .str,some .string => true
 | .int k,some (.int k') => decide (k = k')
 | .slice e,some (.slice e') => Nat.beq e e'
 | .struct fs,some (.struct fields) => (fields.toList.map (fun f => (f.offset,f.type)) == fs) && fields.toList.all (fun f => match P.info? f.type with
   | some i => !Nat.beq i.size 0
   | none => false)
 | _,_ => false
def TI.okB (P:Program) (t:TypeId) (ti:TI):Bool:=(ti.zero.all (·.oneCell') && Nat.beq ti.zero.length ti.size && ti.d.okB P t) && (match P.info? t with
 | some i => Nat.beq i.size ti.size && Nat.beq i.bytes ti.bytes && (match i.zero with
   | some z => t4 z.cells.toList ti.zero
   | none => false)
 | none => false) && (match P.underlying t with
 | some (.struct _) | some (.array _ _) => ti.agg
 | some _ => !ti.agg
 | none => false)
theorem TD.ok_of {P:Program} {t:TypeId}:∀ {d:TD},d.okB P t = true → d.ok P t
 | .other,_ => trivial
 | .bool,h => by
   show P.underlying t = some .bool
   unfold TD.okB at h
   cases hu:P.underlying t with
   | none => rw [hu] at h;cases h
   | some d => cases d <;> first | rfl | (rw [hu] at h;cases h)
 | .str,h => by
   show P.underlying t = some .string
   unfold TD.okB at h
   cases hu:P.underlying t with
   | none => rw [hu] at h;cases h
   | some d => cases d <;> first | rfl | (rw [hu] at h;cases h)
 | .int k,h => by
   show P.underlying t = some (.int k)
   unfold TD.okB at h
   cases hu:P.underlying t with
   | none => rw [hu] at h;cases h
   | some d =>
     rw [hu] at h
     cases d <;> first | (rw [of_decide_eq_true h]) | (cases h)
 | .slice e,h => by
   show P.underlying t = some (.slice e)
   unfold TD.okB at h
   cases hu:P.underlying t with
   | none => rw [hu] at h;cases h
   | some d =>
     rw [hu] at h
     cases d <;> first | (rw [Nat.eq_of_beq_eq_true h]) | (cases h)
 | .struct fs,h => by
   show ∃ fields,P.underlying t = some (.struct fields) ∧ _
   unfold TD.okB at h
   cases hu:P.underlying t with
   | none => rw [hu] at h;cases h
   | some d =>
     rw [hu] at h
     cases d
     case struct fields =>
      simp only [Bool.and_eq_true,beq_iff_eq] at h
      refine ⟨fields,rfl,h.1,fun f hf => ?_⟩
      have:=List.all_eq_true.1 h.2 f hf
      split at this
      ·rename_i i hi
       refine ⟨i,hi,fun e => ?_⟩
       rw [e] at this
       cases this
      ·cases this
     all_goals cases h
theorem TI.ok_of {P:Program} {t:TypeId} {ti:TI} (h:ti.okB P t = true):ti.Ok P t:=by
 unfold TI.okB at h
 simp only [Bool.and_eq_true] at h
 obtain ⟨⟨⟨⟨h0,h00⟩,h1⟩,h2⟩,h3⟩:=h
 refine ⟨TD.ok_of h1,?_,?_,h0,Nat.eq_of_beq_eq_true h00⟩
 ·split at h2
  ·rename_i i hi
   simp only [Bool.and_eq_true] at h2
   split at h2
   ·rename_i z hz
    exact ⟨i,z,hi,Nat.eq_of_beq_eq_true h2.1.1,Nat.eq_of_beq_eq_true h2.1.2,hz,rY h2.2⟩
   ·simp at h2
  ·cases h2
 ·intro w
  unfold isAgg
  simp only [Sem.run_bind]
  unfold underlying
  simp only [Sem.run_bind,run_program,Result.andThen_ok]
  split at h3
  ·rename_i fs hu
   rw [hu]
   simp [h3]
  ·rename_i n e hu
   rw [hu]
   simp [h3]
  ·rename_i d hn1 hn2 hu
   rw [hu]
   simp only [Sem.run_pure,Result.andThen_ok]
   cases d <;> first | exact (hn1 _ rfl).elim | exact (hn2 _ _ rfl).elim | (simp at h3;simp [h3])
  ·cases h3
theorem TOk.of_check {P:Program} {T:TB} (h:T.all (fun p => p.2.okB P p.1) = true):TOk P T:=by
 intro t ti ht
 have:(t,ti) ∈ T:=by
  clear h
  induction T with
  | nil => simp [tlk] at ht
  | cons p r ih =>
    obtain ⟨k,v⟩:=p
    unfold tlk at ht
    split at ht
    ·rename_i hb
     have:k = t:=Nat.eq_of_beq_eq_true hb
     subst this
     cases ht
     simp
    ·exact List.mem_cons_of_mem _ (ih ht)
 exact TI.ok_of (List.all_eq_true.1 h _ this)
section
variable {P:Program} {T:TB} (hT:TOk P T)
include hT
theorem dU {t:TypeId} {ti:TI} (h:tlk t T = some ti) (w:World):(isAgg t).run P w = .ok ti.agg w:=(hT t ti h).agg w
theorem cf {t:TypeId} {ti:TI} (h:tlk t T = some ti) (w:World):(sizeOf t).run P w = .ok ti.size w:=by
 obtain ⟨i,z,h1,h2,_⟩:=(hT t ti h).info
 simp [sizeOf,typeInfo,h1,h2]
theorem bE {t:TypeId} {ti:TI} (h:tlk t T = some ti):ti.d.ok P t:=(hT t ti h).d
end
abbrev I (n:Int):AV:=.c (.sc (.int .i64 n))
abbrev B (b:Bool):AV:=.c (.sc (.bool b))
def ra (place:Nat → Option (Nat × Nat)) (cells:List AC):List (Nat × AV) → Option (List AC)
 | [] => some cells
 | (i,v) :: rest => match place i,v with
  | some (off,1),.c x => if off + 1 ≤ cells.length then ra place (cells.set off x) rest else none
  | _,_ => none
def evp (env:List (Nat × AV)):List (Nat × Operand) → Option (List (Nat × AV))
 | [] => some []
 | (i,x) :: r => match ev env x,evp env r with
  | some v,some vs => some ((i,v) :: vs)
  | _,_ => none
def vG (env:List (Nat × AV)):List Operand → Option (List (Nat × Nat × Nat))
 | [] => some []
 | x :: r => match ev env x,vG env r with
   | some (.c (.ptr o i q)),some vs => some ((o,i,q) :: vs)
   | _,_ => none
def tp (op:BinOp):AV → AV → Option AV
 | .c (.sc (.int k a)),.c (.sc (.int k' b)) => match decide (k = k'),op with
   | true,.add => some (.c (.sc (.int k (k.wrap (a + b)))))
   | true,.sub => some (.c (.sc (.int k (k.wrap (a - b)))))
   | true,.mul => some (.c (.sc (.int k (k.wrap (a * b)))))
   | true,.eql => some (B (a == b))
   | true,.neq => some (B (a != b))
   | true,.lss => some (B (decide (a < b)))
   | true,.leq => some (B (decide (a ≤ b)))
   | true,.gtr => some (B (decide (a > b)))
   | true,.geq => some (B (decide (a ≥ b)))
   | _,_ => none
 | .c (.sc (.string a)),.c (.sc (.string b)) => match op with
   | .eql => some (B (a.toList == b.toList))
   | .neq => some (B (!(a.toList == b.toList)))
   | _ => none
 | _,_ => none
def aP (T:TB) (env:List (Nat × AV)):Op → Option AV
 | .move x => ev env x
 | .assign x => ev env x
 | .pick c a b => match ev env c with
   | some (.c (.sc (.bool true))) => ev env a
   | some (.c (.sc (.bool false))) => ev env b
   | _ => none
 | .extract t i => match ev env t with
   | some (.tup vs) => match vs[i]? with
     | some (.c x) => some (.c x)
     | some (.agg cs) => some (.agg cs)
     | _ => none
   | _ => none
 | .field t x f => match tlk t T,ev env x with
   | some ⟨.struct fs,_,_,_,_⟩,some (.agg cs) => match fs[f]? with
     | some (off,ft) => match tlk ft T with
       | some ti => match ti.agg with
         | true => some (.agg ((cs.drop off).take ti.size))
         | false => (cs[off]?).map .c
       | none => none
     | none => none
   | _,_ => none
 | .fieldAddr t x f => match tlk t T,ev env x with
   | some ⟨.struct fs,_,_,_,_⟩,some (.c (.ptr o i q)) => match fs[f]? with
     | some (off,_) => some (.c (.ptr o i (q + off)))
     | none => none
   | _,_ => none
 | .nilCheck x => match ev env x with
   | some (.c (.ptr o i q)) => some (.c (.ptr o i q))
   | _ => none
 | .unOp .not _ x => match ev env x with
   | some (.c (.sc (.bool b))) => some (B (!b))
   | _ => none
 | .unOp .neg _ x => match ev env x with
   | some (.c (.sc (.int k n))) => some (.c (.sc (.int k (k.wrap (0 - n)))))
   | _ => none
 | .binOp op _ x y _ => match ev env x,ev env y with
   | some a,some b => tp op a b
   | _,_ => none
 | .convert src dst x => match tlk src T,tlk dst T,ev env x with
   | some ⟨.int _,_,_,_,_⟩,some ⟨.int k,_,_,_,_⟩,some (.c (.sc (.int _ n))) => some (.c (.sc (.int k (k.wrap n))))
   | _,_,_ => none
 | .makeFunc (.func f) first captured => match first.toList,vG env captured.toList with
   | [],some caps => some (.c (.fn f caps))
   | _,_ => none
 | .call c => match c.callee,c.args.toList,c.argTypes.toList with
   | .builtin .len,[x],[t] => match tlk t T,ev env x with
     | some ⟨.slice _,_,_,_,_⟩,some (.c (.row o s n)) => some (I n)
     | some ⟨.slice _,_,_,_,_⟩,some (.c (.sc (.slice none 0 0))) => some (I 0)
     | some ⟨.str,_,_,_,_⟩,some (.c (.sc (.string s))) => some (I s.size)
     | _,_ => none
   | .builtin .min,[x,y],_ => match ev env x,ev env y with
     | some (.c (.sc (.int .i64 a))),some (.c (.sc (.int .i64 b))) => some (I (if b < a then b else a))
     | _,_ => none
   | .builtin .max,[x,y],_ => match ev env x,ev env y with
     | some (.c (.sc (.int .i64 a))),some (.c (.sc (.int .i64 b))) => some (I (if a < b then b else a))
     | _,_ => none
   | _,_,_ => none
 | .build t parts => match tlk t T,evp env parts.toList with
   | some ⟨.struct fs,_,_,_,zero⟩,some ps => (ra (fun i => match fs[i]? with
     | some (off,ft) => (tlk ft T).map (fun ti => (off,ti.size))
     | none => none) (zero.map .sc) ps).map .agg
   | _,_ => none
 | _ => none
theorem dr {ρ:Pl} {k:IntKind} {n:Int} {v:Value} (h:AV.R ρ (.c (.sc (.int k n))) v):v = .int k n:=h.1
theorem pP {ρ:Pl} {b:Bool} {v:Value} (h:AV.R ρ (.c (.sc (.bool b))) v):v = .bool b:=h.1
theorem t6 {ρ:Pl} {b:ByteArray} {v:Value} (h:AV.R ρ (.c (.sc (.string b))) v):v = .string b:=h.1
theorem kz {ρ:Pl} {o i q:Nat} {v:Value} (h:AV.R ρ (.c (.ptr o i q)) v):PtrR ρ o i q v:=h
theorem mz {ρ:Pl} {cs:List AC} {a:Array Value} (h:All2 (AC.R ρ) cs a.toList) {i:Nat} {x:AC} (hx:cs[i]? = some x):∃ v,a[i]? = some v ∧ x.R ρ v:=by
 obtain ⟨v,h1,h2⟩:=h.get hx
 exact ⟨v,by rw [← Array.getElem?_toList];exact h1,h2⟩
theorem All2.drop {α β:Type} {R:α → β → Prop}:∀ {xs:List α} {ys:List β} (n:Nat),All2 R xs ys → All2 R (xs.drop n) (ys.drop n)
 | _,_,0,h => by simpa using h
 | [],[],n + 1,_ => by simp [All2]
 | x :: xs,y :: ys,n + 1,h => by simpa using All2.drop n h.2
theorem All2.take {α β:Type} {R:α → β → Prop}:∀ {xs:List α} {ys:List β} (n:Nat),All2 R xs ys → All2 R (xs.take n) (ys.take n)
 | _,_,0,h => by simp [All2]
 | [],[],n + 1,_ => by simp [All2]
 | x :: xs,y :: ys,n + 1,h => by simp only [List.take_succ_cons];exact ⟨h.1,All2.take n h.2⟩
theorem All2.set {α β:Type} {R:α → β → Prop} {u:α} {v:β} (hu:R u v):∀ {xs:List α} {ys:List β} (n:Nat),All2 R xs ys → All2 R (xs.set n u) (ys.set n v)
 | [],[],_,_ => trivial
 | x :: xs,y :: ys,0,h => ⟨hu,h.2⟩
 | x :: xs,y :: ys,n + 1,h => ⟨h.1,All2.set hu n h.2⟩
theorem tx {ρ:Pl} {env:List (Nat × AV)} {a:Act} (h:EnvR ρ env a.tmps):∀ {xs:List Operand} {vs:List (Nat × Nat × Nat)},vG env xs = some vs → All2 (fun p u => PtrR ρ p.1 p.2.1 p.2.2 u) vs (xs.map a.eval)
 | [],vs,hx => by
   cases hx
   trivial
 | x :: xs,vs,hx => by
   unfold vG at hx
   split at hx
   ·rename_i o i q vs' h1 h2
    cases hx
    exact ⟨b7 h h1,tx h h2⟩
   ·cases hx
theorem eG (a:Addr) (m n:Nat):(a.add m).add n = a.add (m + n):=by
 unfold Addr.add
 by_cases hm:m = 0
 ·subst hm;simp
 ·by_cases hn:n = 0
  ·subst hn;simp [hm]
  ·simp [hm,hn,Nat.add_assoc]
theorem nR {P:Program} {op:BinOp} {x y:AV} {r:AV} (h:tp op x y = some r) {ρ:Pl} {u v:Value} (hu:x.R ρ u) (hv:y.R ρ v) (xT:TypeId) (xo yo:Operand) :
  ∃ z,r.R ρ z ∧ ∀ w,(do eqGuard op xT xo yo u v;binOp op xT u v:Sem Value).run P w = .ok z w:=by
 unfold tp at h
 split at h
 ·rename_i k a k' b
  obtain rfl:=dr hu
  obtain rfl:=dr hv
  have hg:∀ w,(eqGuard op xT xo yo (.int k a) (.int k' b)).run P w = .ok () w:=by
   intro w
   unfold eqGuard
   cases op <;> simp
  by_cases hk:k = k'
  ·subst hk
   simp only [decide_true] at h
   cases op <;> simp at h
   all_goals
    subst h
    refine ⟨_,⟨rfl,rfl⟩,fun w => ?_⟩
    simp only [Sem.run_bind,hg,Result.andThen_ok]
    simp [binOp,Op.intArith,Op.intCmp]
  ·simp [hk] at h
 ·rename_i a b
  obtain rfl:=t6 hu
  obtain rfl:=t6 hv
  have hg:∀ w,(eqGuard op xT xo yo (.string a) (.string b)).run P w = .ok () w:=by
   intro w
   unfold eqGuard
   cases op <;> simp
  cases op <;> simp at h
  all_goals
   subst h
   refine ⟨_,⟨rfl,rfl⟩,fun w => ?_⟩
   simp only [Sem.run_bind,hg,Result.andThen_ok]
   simp [binOp,Op.stringOp]
 ·cases h
theorem kO {ρ:Pl} {place place':Nat → Option (Nat × Nat)} (hp:∀ i p,place i = some p → place' i = some p):∀ {ps:List (Nat × AV)} {qs:List (Nat × Value)} {cs r:List AC} {cv:Array Value},All2 (fun p q => p.1 = q.1 ∧ p.2.R ρ q.2) ps qs → All2 (AC.R ρ) cs cv.toList → ra place cs ps = some r → ∃ rv:Array Value,Instr.fill place' cv qs = some rv ∧ All2 (AC.R ρ) r rv.toList
 | [],[],cs,r,cv,_,hc,h => by
   cases h
   exact ⟨cv,rfl,hc⟩
 | (i,v) :: ps,(j,u) :: qs,cs,r,cv,hq,hc,h => by
  obtain ⟨⟨h1,h2⟩,h3⟩:=hq
  have h1:i = j:=h1
  subst h1
  unfold ra at h
  split at h
  ·rename_i off x hpl
   split at h
   ·rename_i hle
    have hx:AC.R ρ x u:=h2
    have hone:=AC.R_one hx
    have hcells:u.cells = #[u]:=by
     cases u <;> first | rfl | (simp [Value.oneCell'] at hone)
    have hlen:cs.length = cv.size:=by rw [← Array.length_toList];exact hc.length
    obtain ⟨rv,h4,h5⟩:=kO hp h3 (cs:=cs.set off x) (cv:=cv.setIfInBounds off u) (by rw [Array.toList_setIfInBounds];exact All2.set hx off hc) h
    refine ⟨rv,?_,h5⟩
    unfold Instr.fill
    rw [hp i _ hpl]
    simp only [hcells]
    rw [if_neg (by simp;omega)]
    simpa using h4
   ·cases h
  ·cases h
theorem tH {ρ:Pl} {env:List (Nat × AV)} {a:Act} (h:EnvR ρ env a.tmps):∀ {xs:List (Nat × Operand)} {vs:List (Nat × AV)},evp env xs = some vs → All2 (fun p q => p.1 = q.1 ∧ p.2.R ρ q.2) vs (xs.map (fun p => (p.1,a.eval p.2)))
 | [],vs,hx => by
   cases hx
   trivial
 | (i,x) :: xs,vs,hx => by
  unfold evp at hx
  split at hx
  ·rename_i v vs' h1 h2
   cases hx
   exact ⟨⟨rfl,b7 h h1⟩,tH h h2⟩
  ·cases hx
theorem oX {P:Program} {α β:Type} {g:α → Sem β} {k:α → β}:∀ (l:List α),(∀ x ∈ l,∀ w,(g x).run P w = .ok (k x) w) → ∀ w,(l.mapM g).run P w = .ok (l.map k) w
 | [],_,w => rfl
 | x :: l,h,w => by
   rw [List.mapM_cons]
   simp only [Sem.run_bind,h x (by simp),Result.andThen_ok,oX l (fun y hy => h y (by simp [hy])),Sem.run_pure,List.map_cons]
theorem cd {P:Program} {t:TypeId} {d:TypeDesc} (h:P.underlying t = some d) (w:World):(underlying t).run P w = .ok d w:=by
 simp [underlying,h]
theorem xl {P:Program} {T:TB} (hT:TOk P T) {env:List (Nat × AV)} {dst:Option Tmp} {op:Op} {ty:TypeId} {pos:String} {af:Array Edge} {g:Option (Nat × Bool)} {v:AV} (h:aP T env op = some v) {ρ:Pl} {a:Act} (he:EnvR ρ env a.tmps):∃ v',v.R ρ v' ∧ ∀ w,(execOp a.eval ⟨dst,op,ty,pos,af,g⟩).run P w = .ok (.value v') w:=by
 unfold aP at h
 split at h
 ·exact ⟨_,b7 he h,fun w => rfl⟩
 ·exact ⟨_,b7 he h,fun w => rfl⟩
 ·split at h
  ·rename_i hc
   have h1:=pP (b7 he hc)
   exact ⟨_,b7 he h,fun w => by simp [execOp,h1,asBool]⟩
  ·rename_i hc
   have h1:=pP (b7 he hc)
   exact ⟨_,b7 he h,fun w => by simp [execOp,h1,asBool]⟩
  ·cases h
 ·split at h
  ·rename_i t i _ vs hv
   obtain ⟨a',h1,h2⟩:=b7 he hv
   have key:∀ x:AV,vs[i]? = some x → ∃ v',a'[i]? = some v' ∧ x.R1 ρ v':=fun x hx => by
    obtain ⟨v',h3,h4⟩:=h2.get hx
    exact ⟨v',by rw [← Array.getElem?_toList];exact h3,h4⟩
   split at h
   ·rename_i x hx
    cases h
    obtain ⟨v',h3,h4⟩:=key _ hx
    exact ⟨v',AV.R_of_R1 h4,fun w => by simp [execOp,h1,Instr.extract,h3]⟩
   ·rename_i x hx
    cases h
    obtain ⟨v',h3,h4⟩:=key _ hx
    exact ⟨v',AV.R_of_R1 h4,fun w => by simp [execOp,h1,Instr.extract,h3]⟩
   ·cases h
  ·cases h
 ·split at h
  ·rename_i t x f _ _ fs _ _ _ _ cs ht hx
   obtain ⟨fields,hu,hfs,hsz⟩:=bE hT ht
   obtain ⟨av,h1,h2⟩:=b7 he hx
   split at h
   ·rename_i off ft hf
    have hfl:(fields.toList.map (fun f => (f.offset,f.type)))[f]? = some (off,ft):=by rw [hfs];exact hf
    rw [List.getElem?_map] at hfl
    obtain ⟨fd,hfd,hfe⟩:=Option.map_eq_some_iff.1 hfl
    have hfd':fields[f]? = some fd:=by rw [← Array.getElem?_toList];exact hfd
    obtain ⟨rfl,rfl⟩:=Prod.mk.inj hfe
    split at h
    ·rename_i ti hti
     split at h
     ·rename_i hag
      cases h
      refine ⟨.agg (av.extract fd.offset (fd.offset + ti.size)),⟨_,rfl,?_⟩,fun w => ?_⟩
      ·rw [Array.toList_extract,List.extract_eq_take_drop,Nat.add_sub_cancel_left]
       exact (h2.drop _).take _
      ·simp [execOp,Instr.field,h1,cd hu,hfd',part,asAgg,dU hT hti,cf hT hti,hag]
     ·rename_i hag
      obtain ⟨c,hc,rfl⟩:=Option.map_eq_some_iff.1 h
      obtain ⟨v',h3,h4⟩:=mz h2 hc
      refine ⟨v',h4,fun w => ?_⟩
      simp [execOp,Instr.field,h1,cd hu,hfd',part,asAgg,dU hT hti,hag,h3]
    ·cases h
   ·cases h
  ·cases h
 ·split at h
  ·rename_i t x f _ _ fs _ _ _ _ o i q ht hx
   obtain ⟨fields,hu,hfs,hsz⟩:=bE hT ht
   obtain ⟨sl,ad,h1,h2,h3⟩:=kz (b7 he hx)
   split at h
   ·rename_i off ft hf
    cases h
    have hfl:(fields.toList.map (fun f => (f.offset,f.type)))[f]? = some (off,ft):=by rw [hfs];exact hf
    rw [List.getElem?_map] at hfl
    obtain ⟨fd,hfd,hfe⟩:=Option.map_eq_some_iff.1 hfl
    have hfd':fields[f]? = some fd:=by rw [← Array.getElem?_toList];exact hfd
    obtain ⟨rfl,rfl⟩:=Prod.mk.inj hfe
    obtain ⟨inf,hinf,hne⟩:=hsz fd (List.mem_of_getElem? hfd)
    refine ⟨.pointer (some ((ad.add (i * sl.sz + q)).add fd.offset)),⟨sl,ad,h1,h2,by rw [eG,Nat.add_assoc]⟩,fun w => ?_⟩
    simp [execOp,Instr.fieldAt,h3,cd hu,hfd',Instr.sureAddr,fieldPlace,sizeOf,typeInfo,hinf,hne]
   ·cases h
  ·cases h
 ·split at h
  ·rename_i x o i q hx
   cases h
   obtain ⟨sl,ad,h1,h2,h3⟩:=kz (b7 he hx)
   exact ⟨_,⟨sl,ad,h1,h2,rfl⟩,fun w => by simp [execOp,h3]⟩
  ·cases h
 ·split at h
  ·rename_i b hx
   cases h
   have h1:=pP (b7 he hx)
   exact ⟨.bool (!b),⟨rfl,rfl⟩,fun w => by simp [execOp,h1,Op.unary]⟩
  ·cases h
 ·split at h
  ·rename_i k n hx
   cases h
   have h1:=dr (b7 he hx)
   exact ⟨.int k (k.wrap (0 - n)),⟨rfl,rfl⟩,fun w => by simp [execOp,h1,Op.unary,Op.intArith]⟩
  ·cases h
 ·split at h
  ·rename_i bop xT x y yT _ _ p q hx hy
   obtain ⟨z,h1,h2⟩:=nR (P:=P) h (b7 he hx) (b7 he hy) xT x y
   refine ⟨z,h1,fun w => ?_⟩
   have h3:=h2 w
   unfold execOp
   simp only [Sem.run_bind,Sem.run_pure]
   simp only [Sem.run_bind] at h3
   rw [h3]
   rfl
  ·cases h
 ·split at h
  ·rename_i src dt x _ _ _ k1 _ _ _ _ k _ _ _ _ k' n hst hdt hx
   cases h
   have h1:=dr (b7 he hx)
   have hu:P.underlying dt = some (.int k):=bE hT hdt
   have hu1:P.underlying src = some (.int k1):=bE hT hst
   exact ⟨.int k (k.wrap n),⟨rfl,rfl⟩,fun w => by simp [execOp,h1,convert,cd hu,cd hu1,Conv.intToInt]⟩
  ·cases h
 ·split at h
  ·rename_i f first captured _ _ caps hfi hca
   cases h
   have hcap:=tx he hca
   have hfirst:first = #[]:=by
    apply Array.toList_inj.1
    rw [hfi]
   subst hfirst
   refine ⟨.func (.func f) #[] (captured.map a.eval),⟨_,rfl,by rw [Array.toList_map];exact hcap⟩,fun w => by simp [execOp,Instr.makeFunc]⟩
  ·cases h
 ·split at h
  ·rename_i c _ _ _ x t hca hargs hts
   obtain ⟨callee,args,argTypes⟩:=c
   obtain rfl:callee = .builtin .len:=hca
   obtain rfl:args = #[x]:=Array.toList_inj.1 hargs
   obtain rfl:argTypes = #[t]:=Array.toList_inj.1 hts
   split at h
   ·rename_i e _ _ _ _ o s n ht hx
    cases h
    have hu:P.underlying t = some (.slice e):=bE hT ht
    obtain ⟨sl,h1,h2,h3⟩:RowR ρ o s n (a.eval x):=b7 he hx
    refine ⟨.int .i64 n,⟨rfl,rfl⟩,fun w => ?_⟩
    rcases h3 with ⟨c,h3,_⟩ | ⟨rfl,_,A,c,h3,_⟩ <;> simp [execOp,resolve,invoke,builtin,Builtin.len_,h3,cd hu,goInt]
   ·rename_i e _ _ _ _ ht hx
    cases h
    have hu:P.underlying t = some (.slice e):=bE hT ht
    obtain ⟨h1,_⟩:=b7 he hx
    exact ⟨.int .i64 0,⟨rfl,rfl⟩,fun w => by simp [execOp,resolve,invoke,builtin,Builtin.len_,h1,cd hu,goInt]⟩
   ·rename_i _ _ _ _ s ht hx
    cases h
    have hu:P.underlying t = some .string:=bE hT ht
    have h1:=t6 (b7 he hx)
    exact ⟨.int .i64 s.size,⟨rfl,rfl⟩,fun w => by simp [execOp,resolve,invoke,builtin,Builtin.len_,h1,cd hu,goInt]⟩
   ·cases h
  ·rename_i c _ _ _ x y hca hargs
   obtain ⟨callee,args,argTypes⟩:=c
   obtain rfl:callee = .builtin .min:=hca
   obtain rfl:args = #[x,y]:=Array.toList_inj.1 hargs
   split at h
   ·rename_i _ _ m n hx hy
    cases h
    have h1:=dr (b7 he hx)
    have h2:=dr (b7 he hy)
    exact ⟨_,⟨rfl,rfl⟩,fun w => by simp [execOp,resolve,invoke,builtin,Builtin.min_,Builtin.min2,h1,h2]⟩
   ·cases h
  ·rename_i c _ _ _ x y hca hargs
   obtain ⟨callee,args,argTypes⟩:=c
   obtain rfl:callee = .builtin .max:=hca
   obtain rfl:args = #[x,y]:=Array.toList_inj.1 hargs
   split at h
   ·rename_i _ _ m n hx hy
    cases h
    have h1:=dr (b7 he hx)
    have h2:=dr (b7 he hy)
    exact ⟨_,⟨rfl,rfl⟩,fun w => by simp [execOp,resolve,invoke,builtin,Builtin.max_,Builtin.max2,h1,h2]⟩
   ·cases h
  ·cases h
 ·split at h
  ·rename_i t parts _ _ fs _ _ _ zero ps ht hps
   obtain ⟨fields,hu,hfs,hsz⟩:=bE hT ht
   obtain ⟨cs,hf,rfl⟩:=Option.map_eq_some_iff.1 h
   obtain ⟨iz,z,_,_,_,hz1,hz2⟩:=(hT t _ ht).info
   have hz2:z.cells.toList = zero:=hz2
   have hpl:∀ w,(fields.mapM (fun f => do pure (f.offset,← sizeOf f.type):Field → Sem (Nat × Nat))).run P w = .ok (fields.map (fun f => (f.offset,((P.info? f.type).map (·.size)).getD 0))) w:=by
    intro w
    have h1:=oX (P:=P) (g:=(fun f => do pure (f.offset,← sizeOf f.type):Field → Sem (Nat × Nat))) (k:=fun f => (f.offset,((P.info? f.type).map (·.size)).getD 0)) fields.toList (fun f hf w => by
     obtain ⟨i,hi,_⟩:=hsz f hf
     simp [sizeOf,typeInfo,hi]) w
    have h2:fields = fields.toList.toArray:=by simp
    rw [h2,List.mapM_toArray,Sem.run_map,h1,Result.andThen_ok]
    congr 1
    apply Array.toList_inj.1
    simp
   have hz0:All2 (AC.R ρ) (zero.map .sc) z.cells.toList:=by
    rw [hz2]
    refine kf ?_
    exact (hT t _ ht).one
   obtain ⟨rv,h5,h6⟩:=kO (place':=fun i => (fields.map (fun f => (f.offset,((P.info? f.type).map (·.size)).getD 0)))[i]?) (fun i p hp => by
    split at hp
    ·rename_i off ft hfs2
     obtain ⟨ti,hti,rfl⟩:=Option.map_eq_some_iff.1 hp
     have hfl:(fields.toList.map (fun f => (f.offset,f.type)))[i]? = some (off,ft):=by rw [hfs];exact hfs2
     rw [List.getElem?_map] at hfl
     obtain ⟨fd,hfd,hfe⟩:=Option.map_eq_some_iff.1 hfl
     obtain ⟨rfl,rfl⟩:=Prod.mk.inj hfe
     have hfd':fields[i]? = some fd:=by rw [← Array.getElem?_toList];exact hfd
     obtain ⟨i2,_,q1,q2,_⟩:=(hT _ _ hti).info
     simp [hfd',q1,q2]
    ·cases hp) (tH he hps) hz0 hf
   refine ⟨.agg rv,⟨rv,rfl,h6⟩,fun w => ?_⟩
   have h7:(parts.map (fun (i,x) => (i,a.eval x))).toList = parts.toList.map (fun p => (p.1,a.eval p.2)):=by simp
   unfold execOp
   simp only [Sem.run_bind,Instr.build,zeroValue,typeInfo,cd hu,hpl,Result.andThen_ok]
   simp_all
  ·cases h
 ·cases h
theorem iB {P:Program} {T:TB} (hT:TOk P T) {st:St} {dst:Option Tmp} {op:Op} {ty:TypeId} {pos:String} {af:Array Edge} {g:Option (Nat × Bool)} {v:AV} (h:aP T st.env op = some v):OpP P ⟨dst,op,ty,pos,af,g⟩ st v :=
 fun Γ ρ a w0 hr => xl hT h hr.env
end Go.Proofs.YtgehbhkfehmdkaaGreat.Sh
