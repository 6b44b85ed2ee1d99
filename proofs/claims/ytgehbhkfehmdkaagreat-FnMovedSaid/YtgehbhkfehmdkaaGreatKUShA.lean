/- Symbolic memory: values and objects by number, and how they stand in a world. No condition. -/
import Derived.WalkKit
import Derived.OrdersHeld
set_option linter.unusedVariables false
namespace Go.Proofs.YtgehbhkfehmdkaaGreat.Sh
open Go.RowKit
structure Slot where
 a:Option Addr
 cap:Nat
 sz:Nat
 ro:Bool
def Slot.blk (s:Slot):Option Nat:=s.a.map (·.block)
inductive AC where
 | sc (v:Value)
 | ptr (o i q:Nat)
 | row (o s n:Nat)
 | fn (f:FuncId) (caps:List (Nat × Nat × Nat))
 /-- how aw an object bears at most -/
 | cp (o c:Nat)
 /-- some slice -/
 | e0
inductive AV where
 | c (x:AC)
 | agg (cs:List AC)
 | tup (vs:List AV)
abbrev DF:=Value × Nat × List (List Value)
inductive El where
 | fl (xs:List (List Value))
 | mx (cs:List AC)
 | dp (xs:List DF)
def El.len:El → Nat
 | .fl xs => xs.length
 | .mx _ => 1
 | .dp _ => 0
def El.get:El → Nat → Option (List AC)
 | .fl xs,i => (xs[i]?).map (·.map .sc)
 | .mx cs,0 => some cs
 | .mx _,_ + 1 => none
 | .dp _,_ => none
structure AO where
 own:Bool
 ty:TypeId
 sz:Nat
 el:El
abbrev AH:=List (Option AO)
def El.isD:El → Bool
 | .dp _ => true
 | _ => false
def All2 {α β:Type} (R:α → β → Prop):List α → List β → Prop
 | [],[] => True
 | x :: xs,y :: ys => R x y ∧ All2 R xs ys
 | _,_ => False
section
variable {α β:Type} {R R':α → β → Prop}
theorem All2.length:∀ {xs:List α} {ys:List β},All2 R xs ys → xs.length = ys.length
 | [],[],_ => rfl
 | x :: xs,y :: ys,h => by simp [All2.length h.2]
theorem All2.get:∀ {xs:List α} {ys:List β},All2 R xs ys → ∀ {i:Nat} {x:α},xs[i]? = some x → ∃ y,ys[i]? = some y ∧ R x y
 | [],[],_,i,x,h => by simp at h
 | x :: xs,y :: ys,h,0,z,hz => by
   have:x = z:=by simpa using hz
   subst this
   exact ⟨y,rfl,h.1⟩
 | x :: xs,y :: ys,h,i + 1,z,hz => by
   obtain ⟨u,h1,h2⟩:=All2.get h.2 (i:=i) (x:=z) (by simpa using hz)
   exact ⟨u,by simpa using h1,h2⟩
theorem All2.of_get:∀ {xs:List α} {ys:List β},xs.length = ys.length → (∀ (i:Nat) x y,xs[i]? = some x → ys[i]? = some y → R x y) → All2 R xs ys
 | [],[],_,_ => trivial
 | x :: xs,y :: ys,h,hg => ⟨hg 0 x y rfl rfl,All2.of_get (by simpa using h) (fun i u v hu hv => hg (i + 1) u v (by simpa using hu) (by simpa using hv))⟩
theorem All2.imp (h:∀ x y,R x y → R' x y):∀ {xs:List α} {ys:List β},All2 R xs ys → All2 R' xs ys
 | [],[],_ => trivial
 | x :: xs,y :: ys,hh => ⟨h _ _ hh.1,All2.imp h hh.2⟩
theorem All2.append:∀ {xs:List α} {ys:List β} {xs':List α} {ys':List β},All2 R xs ys → All2 R xs' ys' → All2 R (xs ++ xs') (ys ++ ys')
 | [],[],_,_,_,h => h
 | x :: xs,y :: ys,_,_,h,h' => ⟨h.1,All2.append h.2 h'⟩
theorem All2.of_map {γ:Type} {f:γ → α}:∀ {xs:List γ} {ys:List β},All2 R (xs.map f) ys → All2 (fun x y => R (f x) y) xs ys
 | [],[],_ => trivial
 | x :: xs,y :: ys,hh => ⟨hh.1,All2.of_map hh.2⟩
theorem All2.to_map {γ:Type} {f:γ → α}:∀ {xs:List γ} {ys:List β},All2 (fun x y => R (f x) y) xs ys → All2 R (xs.map f) ys
 | [],[],_ => trivial
 | x :: xs,y :: ys,hh => ⟨hh.1,All2.to_map hh.2⟩
end
abbrev Pl:=List Slot
def PtrR (ρ:Pl) (o i q:Nat) (v:Value):Prop:=∃ sl a,ρ[o]? = some sl ∧ sl.a = some a ∧ v = .pointer (some (a.add (i * sl.sz + q)))
def RowR (ρ:Pl) (o s n:Nat) (v:Value):Prop :=
 ∃ sl,ρ[o]? = some sl ∧ s + n ≤ sl.cap ∧ ((∃ c,v = .slice (sl.a.map (·.add (s * sl.sz))) n c ∧ n ≤ c ∧ (sl.ro = false → c = sl.cap - s)) ∨ (n = 0 ∧ (0 < s ∨ sl.ro = true ∨ sl.cap = 0) ∧ ∃ A c,v = .slice A 0 c ∧ (s = 0 → sl.ro = false → c = 0)))
def AC.R (ρ:Pl):AC → Value → Prop
 | .sc v,v' => v' = v ∧ v.oneCell' = true
 | .ptr o i q,v' => PtrR ρ o i q v'
 | .row o s n,v' => RowR ρ o s n v'
 | .fn f caps,v' => ∃ cs:Array Value,v' = .func (.func f) #[] cs ∧ All2 (fun p u => PtrR ρ p.1 p.2.1 p.2.2 u) caps cs.toList
 | .cp o c,v' => ∃ sl,ρ[o]? = some sl ∧ sl.cap = c ∧ v' = .int .i64 c
 | .e0,v' => ∃ A n c,v' = .slice A n c
def AV.R1 (ρ:Pl):AV → Value → Prop
 | .c x,v => x.R ρ v
 | .agg cs,v => ∃ a:Array Value,v = .agg a ∧ All2 (AC.R ρ) cs a.toList
 | .tup _,_ => False
def AV.R (ρ:Pl):AV → Value → Prop
 | .c x,v => x.R ρ v
 | .agg cs,v => ∃ a:Array Value,v = .agg a ∧ All2 (AC.R ρ) cs a.toList
 | .tup vs,v => ∃ a:Array Value,v = .tuple a ∧ All2 (AV.R1 ρ) vs a.toList
theorem AV.R_of_R1 {ρ:Pl}:∀ {x:AV} {v:Value},x.R1 ρ v → x.R ρ v
 | .c _,_,h => h
 | .agg _,_,h => h
theorem AC.R_one {ρ:Pl}:∀ {x:AC} {v:Value},x.R ρ v → v.oneCell' = true
 | .sc _,_,⟨rfl,h⟩ => h
 | .ptr _ _ _,_,⟨_,_,_,_,rfl⟩ => rfl
 | .row _ _ _,_,⟨_,_,_,h⟩ => by
   rcases h with ⟨_,rfl,_⟩ | ⟨_,_,_,_,rfl,_⟩ <;> rfl
 | .fn _ _,_,⟨_,rfl,_⟩ => rfl
 | .cp _ _,_,⟨_,_,_,rfl⟩ => rfl
 | .e0,_,⟨_,_,_,rfl⟩ => rfl
def AC.ren (f:Nat → Nat):AC → AC
 | .sc v => .sc v
 | .ptr o i q => .ptr (f o) i q
 | .row o s n => .row (f o) s n
 | .fn g caps => .fn g (caps.map fun p => (f p.1,p.2))
 | .cp o c => .cp (f o) c
 | .e0 => .e0
def AV.ren1 (f:Nat → Nat):AV → AV
 | .c x => .c (x.ren f)
 | .agg cs => .agg (cs.map (AC.ren f))
 | .tup vs => .tup vs
def AV.ren (f:Nat → Nat):AV → AV
 | .c x => .c (x.ren f)
 | .agg cs => .agg (cs.map (AC.ren f))
 | .tup vs => .tup (vs.map (AV.ren1 f))
def El.ren (f:Nat → Nat):El → El
 | .fl xs => .fl xs
 | .mx cs => .mx (cs.map (AC.ren f))
 | .dp xs => .dp xs
def AO.ren (f:Nat → Nat):AO → AO
 | ⟨own,ty,sz,el⟩ => ⟨own,ty,sz,el.ren f⟩
def s6 (f:Nat → Nat) (ρ ρ':Pl):Prop:=∀ o sl,ρ[o]? = some sl → ρ'[f o]? = some sl
def Ext (ρ ρ':Pl):Prop:=∀ (o:Nat) sl,ρ[o]? = some sl → ρ'[o]? = some sl
theorem Ext.refl (ρ:Pl):Ext ρ ρ:=fun _ _ h => h
theorem Ext.trans {a b c:Pl} (h:Ext a b) (k:Ext b c):Ext a c:=fun o sl hh => k o sl (h o sl hh)
theorem Ext.append (ρ ρ':Pl):Ext ρ (ρ ++ ρ'):=fun o sl h => by rw [List.getElem?_append_left (List.getElem?_eq_some_iff.1 h).1];exact h
section
variable {f:Nat → Nat} {ρ ρ':Pl}
theorem PtrR.turn (h:s6 f ρ ρ') {o i q:Nat} {v:Value}:PtrR ρ o i q v → PtrR ρ' (f o) i q v:=fun ⟨sl,a,h1,h2⟩ => ⟨sl,a,h _ _ h1,h2⟩
theorem RowR.turn (h:s6 f ρ ρ') {o i q:Nat} {v:Value}:RowR ρ o i q v → RowR ρ' (f o) i q v:=fun ⟨sl,h1,h2⟩ => ⟨sl,h _ _ h1,h2⟩
theorem AC.R_turn (h:s6 f ρ ρ'):∀ {x:AC} {v:Value},x.R ρ v → (x.ren f).R ρ' v
 | .sc _,_,hh => hh
 | .ptr _ _ _,_,hh => PtrR.turn h hh
 | .row _ _ _,_,hh => RowR.turn h hh
 | .fn _ _,_,⟨cs,h1,h2⟩ => ⟨cs,h1,All2.to_map (All2.imp (fun _ _ => PtrR.turn h) h2)⟩
 | .cp _ _,_,⟨sl,h1,h2⟩ => ⟨sl,h _ _ h1,h2⟩
 | .e0,_,hh => hh
theorem AV.R1_turn (h:s6 f ρ ρ'):∀ {x:AV} {v:Value},x.R1 ρ v → (x.ren1 f).R1 ρ' v
 | .c _,_,hh => AC.R_turn h hh
 | .agg _,_,⟨a,h1,h2⟩ => ⟨a,h1,All2.to_map (All2.imp (fun _ _ => AC.R_turn h) h2)⟩
theorem AV.R_turn (h:s6 f ρ ρ'):∀ {x:AV} {v:Value},x.R ρ v → (x.ren f).R ρ' v
 | .c _,_,hh => AC.R_turn h hh
 | .agg _,_,⟨a,h1,h2⟩ => ⟨a,h1,All2.to_map (All2.imp (fun _ _ => AC.R_turn h) h2)⟩
 | .tup _,_,⟨a,h1,h2⟩ => ⟨a,h1,All2.to_map (All2.imp (fun _ _ => AV.R1_turn h) h2)⟩
theorem PtrR.back (h:∀ o sl,ρ'[f o]? = some sl → ρ[o]? = some sl) {o i q:Nat} {v:Value}:PtrR ρ' (f o) i q v → PtrR ρ o i q v:=fun ⟨sl,a,h1,h2⟩ => ⟨sl,a,h _ _ h1,h2⟩
theorem AC.R_back (h:∀ o sl,ρ'[f o]? = some sl → ρ[o]? = some sl):∀ {x:AC} {v:Value},(x.ren f).R ρ' v → x.R ρ v
 | .sc _,_,hh => hh
 | .ptr _ _ _,_,hh => PtrR.back h hh
 | .row _ _ _,_,⟨sl,h1,h2⟩ => ⟨sl,h _ _ h1,h2⟩
 | .fn _ _,_,⟨cs,h1,h2⟩ => ⟨cs,h1,All2.imp (fun _ _ => PtrR.back h) (All2.of_map h2)⟩
 | .cp _ _,_,⟨sl,h1,h2⟩ => ⟨sl,h _ _ h1,h2⟩
 | .e0,_,hh => hh
theorem AV.R1_back (h:∀ o sl,ρ'[f o]? = some sl → ρ[o]? = some sl):∀ {x:AV} {v:Value},(x.ren1 f).R1 ρ' v → x.R1 ρ v
 | .c _,_,hh => AC.R_back h hh
 | .agg _,_,⟨a,h1,h2⟩ => ⟨a,h1,All2.imp (fun _ _ => AC.R_back h) (All2.of_map h2)⟩
theorem AV.R_back (h:∀ o sl,ρ'[f o]? = some sl → ρ[o]? = some sl):∀ {x:AV} {v:Value},(x.ren f).R ρ' v → x.R ρ v
 | .c _,_,hh => AC.R_back h hh
 | .agg _,_,⟨a,h1,h2⟩ => ⟨a,h1,All2.imp (fun _ _ => AC.R_back h) (All2.of_map h2)⟩
 | .tup _,_,⟨a,h1,h2⟩ => ⟨a,h1,All2.imp (fun _ _ => AV.R1_back h) (All2.of_map h2)⟩
end
theorem AC.ren_id:∀ (x:AC),x.ren id = x
 | .sc _ => rfl
 | .ptr _ _ _ => rfl
 | .row _ _ _ => rfl
 | .fn _ caps => by simp [AC.ren]
 | .cp _ _ => rfl
 | .e0 => rfl
theorem AC.ren_id':AC.ren id = id:=funext AC.ren_id
theorem AV.ren1_id:∀ (x:AV),x.ren1 id = x
 | .c x => by simp [AV.ren1,AC.ren_id]
 | .agg cs => by simp [AV.ren1,AC.ren_id']
 | .tup _ => rfl
theorem AV.ren1_id':AV.ren1 id = id:=funext AV.ren1_id
theorem AV.ren_id:∀ (x:AV),x.ren id = x
 | .c x => by simp [AV.ren,AC.ren_id]
 | .agg cs => by simp [AV.ren,AC.ren_id']
 | .tup vs => by simp [AV.ren,AV.ren1_id']
theorem AC.R_ext {ρ ρ':Pl} (h:Ext ρ ρ') {x:AC} {v:Value} (hh:x.R ρ v):x.R ρ' v:=by
 have:=AC.R_turn (f:=id) (fun o sl => h o sl) hh
 rwa [AC.ren_id] at this
theorem AV.R_ext {ρ ρ':Pl} (h:Ext ρ ρ') {x:AV} {v:Value} (hh:x.R ρ v):x.R ρ' v:=by
 have:=AV.R_turn (f:=id) (fun o sl => h o sl) hh
 rwa [AV.ren_id] at this
structure ObjH (ρ:Pl) (s:Slot) (ob:AO) (w:World):Prop where
 sz:s.sz = ob.sz
 pos:0 < ob.sz
 len:ob.el.len ≤ s.cap
 max:s.cap ≤ 9223372036854775807
 lt:∀ a,s.a = some a → a.block < w.heap.size
 nil:s.a = none → s.cap = 0
 cell:∀ i cs,ob.el.get i = some cs → cs.length = ob.sz ∧ ∃ a,s.a = some a ∧ ∀ j x,cs[j]? = some x → ∃ v,w.cell? (a.add (i * ob.sz + j)) = some v ∧ x.R ρ v
 own:ob.own = true → s.ro = false ∧ ((s.a = none ∧ s.cap = 0) ∨ ∃ g cur,s.a = some ⟨g,0,none⟩ ∧ w.heap[g]? = some (.cells cur ob.ty (0,0)) ∧ cur.size = s.cap * ob.sz)
theorem add_block (a:Addr) (n:Nat):(a.add n).block = a.block:=by unfold Addr.add;split <;> rfl
theorem jl {w w':World} {p:Addr} (h:w'.heap[p.block]? = w.heap[p.block]?):w'.cell? p = w.cell? p:=by
 unfold World.cell?
 rw [h]
theorem ObjH.blk_lt {ρ:Pl} {s:Slot} {ob:AO} {w:World} (h:ObjH ρ s ob w) {k:Nat} (hk:s.blk = some k):k < w.heap.size:=by
 obtain ⟨a,ha,rfl⟩:=Option.map_eq_some_iff.1 hk
 exact h.lt a ha
theorem ObjH.move {ρ:Pl} {s:Slot} {ob:AO} {w w':World} (h:ObjH ρ s ob w) (hs:w.heap.size ≤ w'.heap.size) (hm:∀ k,s.blk = some k → w'.heap[k]? = w.heap[k]?):ObjH ρ s ob w':=by
 refine ⟨h.sz,h.pos,h.len,h.max,fun a ha => Nat.lt_of_lt_of_le (h.lt a ha) hs,h.nil,fun i cs hi => ?_,fun ho => ⟨(h.own ho).1,?_⟩⟩
 ·obtain ⟨h1,a,ha,hc⟩:=h.cell i cs hi
  refine ⟨h1,a,ha,fun j x hx => ?_⟩
  obtain ⟨v,hv,hr⟩:=hc j x hx
  exact ⟨v,by rw [jl (w:=w) (by rw [add_block];exact hm _ (by simp [Slot.blk,ha]))];exact hv,hr⟩
 ·rcases (h.own ho).2 with h1 | ⟨g,cur,h1,h2,h3⟩
  ·exact .inl h1
  ·exact .inr ⟨g,cur,h1,by rw [hm g (by simp [Slot.blk,h1])];exact h2,h3⟩
theorem ObjH.ext {ρ ρ':Pl} {s:Slot} {ob:AO} {w:World} (h:ObjH ρ s ob w) (he:Ext ρ ρ'):ObjH ρ' s ob w :=
 ⟨h.sz,h.pos,h.len,h.max,h.lt,h.nil,fun i cs hi => by
  obtain ⟨h1,a,ha,hc⟩:=h.cell i cs hi
  exact ⟨h1,a,ha,fun j x hx => by obtain ⟨v,hv,hr⟩:=hc j x hx;exact ⟨v,hv,AC.R_ext he hr⟩⟩,h.own⟩
theorem El.get_ren (f:Nat → Nat):∀ (e:El) (i:Nat),(e.ren f).get i = (e.get i).map (·.map (AC.ren f))
 | .fl xs,i => by
   show (xs[i]?).map (·.map AC.sc) = ((xs[i]?).map (·.map AC.sc)).map (·.map (AC.ren f))
   cases xs[i]? with
   | none => rfl
   | some c =>
     show some (c.map AC.sc) = some ((c.map AC.sc).map (AC.ren f))
     rw [List.map_map]
     rfl
 | .mx cs,0 => rfl
 | .mx _,_ + 1 => rfl
 | .dp _,_ => rfl
theorem El.len_ren (f:Nat → Nat):∀ (e:El),(e.ren f).len = e.len
 | .fl _ => rfl
 | .mx _ => rfl
 | .dp _ => rfl
theorem ObjH.turn {f:Nat → Nat} {ρ ρ':Pl} {s:Slot} {ob:AO} {w:World} (h:ObjH ρ s ob w) (ht:s6 f ρ ρ'):ObjH ρ' s (ob.ren f) w :=
 ⟨h.sz,h.pos,by show (ob.el.ren f).len ≤ _;rw [El.len_ren];exact h.len,h.max,h.lt,h.nil,fun i cs hi => by
  have hi':(ob.el.ren f).get i = some cs:=hi
  rw [El.get_ren] at hi'
  obtain ⟨c,hc,rfl⟩:=Option.map_eq_some_iff.1 hi'
  obtain ⟨h1,a,ha,hh⟩:=h.cell i c hc
  refine ⟨by rw [List.length_map];exact h1,a,ha,fun j x hx => ?_⟩
  rw [List.getElem?_map] at hx
  obtain ⟨y,hy,rfl⟩:=Option.map_eq_some_iff.1 hx
  obtain ⟨v,hv,hr⟩:=hh j y hy
  exact ⟨v,hv,AC.R_turn ht hr⟩,h.own⟩
theorem ObjH.back {f:Nat → Nat} {ρ ρ':Pl} {s:Slot} {ob:AO} {w:World} (h:ObjH ρ' s (ob.ren f) w) (ht:∀ o sl,ρ'[f o]? = some sl → ρ[o]? = some sl):ObjH ρ s ob w :=
 ⟨h.sz,h.pos,by have:=h.len;rw [show (ob.ren f).el = ob.el.ren f from rfl,El.len_ren] at this;exact this,h.max,h.lt,h.nil,fun i cs hi => by
  obtain ⟨h1,a,ha,hh⟩:=h.cell i (cs.map (AC.ren f)) (by show (ob.el.ren f).get i = _;rw [El.get_ren,hi];rfl)
  refine ⟨by rw [List.length_map] at h1;exact h1,a,ha,fun j x hx => ?_⟩
  obtain ⟨v,hv,hr⟩:=hh j (x.ren f) (by rw [List.getElem?_map,hx];rfl)
  exact ⟨v,hv,AC.R_back ht hr⟩,h.own⟩
def AO.view (b:Bool):AO → AO
 | ⟨own,ty,sz,el⟩ => ⟨own && b,ty,sz,el⟩
theorem ObjH.view {ρ:Pl} {s:Slot} {ob:AO} {w:World} (h:ObjH ρ s ob w) (b:Bool):ObjH ρ s (ob.view b) w :=
 ⟨h.sz,h.pos,h.len,h.max,h.lt,h.nil,h.cell,fun ho => h.own (by have:(ob.own && b) = true:=ho;simp at this;exact this.1)⟩
theorem zG {w:World} {p:Addr} {v:Value} (h:w.cell? p = some v):p.block < w.heap.size:=World.block_lt_of_cell? w p h
structure Ctx where
 w0:World
 ow:Nat → Prop
 ρ0:Pl
 /-- blocks that nobody writes,from the beginning on -/
 fz:Nat → Prop
def rwR (fz:Nat → Prop) (w:World) (d:DF):Prop :=
 0 < d.2.1 ∧ d.2.2.length ≤ 9223372036854775807 ∧ ∃ A c,d.1 = .slice A d.2.2.length c ∧ d.2.2.length ≤ c ∧ ∀ i cs,d.2.2[i]? = some cs → cs.length = d.2.1 ∧ ∃ a,A = some a ∧ fz a.block ∧ a.block < w.heap.size ∧ ∀ j x,cs[j]? = some x → w.cell? (a.add (i * d.2.1 + j)) = some x ∧ x.oneCell' = true
def DeepH (fz:Nat → Prop) (xs:List DF) (w:World):Prop:=∀ d ∈ xs,rwR fz w d
theorem yS {fz fz':Nat → Prop} {w w':World} (hs:w.heap.size ≤ w'.heap.size) (hf:∀ g,fz g → fz' g) (hm:∀ g,fz g → w'.heap[g]? = w.heap[g]?) {d:DF} (h:rwR fz w d):rwR fz' w' d:=by
 obtain ⟨h0,h1,A,c,h2,h3,h4⟩:=h
 exact ⟨h0,h1,A,c,h2,h3,fun i cs hi => by
  obtain ⟨k1,a,k2,k3,k4,k5⟩:=h4 i cs hi
  exact ⟨k1,a,k2,hf _ k3,Nat.lt_of_lt_of_le k4 hs,fun j x hx => by rw [jl (w:=w) (by rw [add_block];exact hm _ k3)];exact k5 j x hx⟩⟩
theorem DeepH.move {fz fz':Nat → Prop} {xs:List DF} {w w':World} (h:DeepH fz xs w) (hs:w.heap.size ≤ w'.heap.size) (hf:∀ g,fz g → fz' g) (hm:∀ g,fz g → w'.heap[g]? = w.heap[g]?):DeepH fz' xs w':=fun d hd => yS hs hf hm (h d hd)
structure Fr (w0:World) (ow:Nat → Prop) (w:World):Prop where
 os:w.os = w0.os
 tape:w.tape = w0.tape
 output:w.output = w0.output
 size:w0.heap.size ≤ w.heap.size
 block:∀ k,k < w0.heap.size → ¬ ow k → w.heap[k]? = w0.heap[k]?
theorem Fr.refl (w:World) (ow:Nat → Prop):Fr w ow w:=⟨rfl,rfl,rfl,Nat.le_refl _,fun _ _ _ => rfl⟩
structure Frz (Γ:Ctx) (ρ:Pl) (h:AH) (w:World) (fz:Nat → Prop):Prop where
 base:∀ g,Γ.fz g → fz g
 lt:∀ g,fz g → g < w.heap.size
 src:∀ g,fz g → (∃ (o0:Nat) (s0:Slot),Γ.ρ0[o0]? = some s0 ∧ s0.blk = some g) ∨ Γ.w0.heap.size ≤ g ∨ Γ.fz g
 sep:∀ (o:Nat) ob sl g,h[o]? = some (some ob) → ob.own = true → ρ[o]? = some sl → sl.blk = some g → ¬ fz g
 deep:∀ (o:Nat) own ty sz xs,h[o]? = some (some ⟨own,ty,sz,.dp xs⟩) → DeepH fz xs w
structure Holds (Γ:Ctx) (ρ:Pl) (h:AH) (w:World):Prop where
 fr:Fr Γ.w0 Γ.ow w
 obj:∀ (o:Nat) ob,h[o]? = some (some ob) → ∃ sl,ρ[o]? = some sl ∧ ObjH ρ sl ob w
 sep:∀ (o:Nat) ob sl g,h[o]? = some (some ob) → ob.own = true → ρ[o]? = some sl → sl.blk = some g → (Γ.ow g ∨ Γ.w0.heap.size ≤ g) ∧ ∀ (o':Nat) ob' sl',h[o']? = some (some ob') → o' ≠ o → ρ[o']? = some sl' → sl'.blk ≠ some g
 src:∀ (o:Nat) ob sl g,h[o]? = some (some ob) → ρ[o]? = some sl → sl.blk = some g → (∃ (o0:Nat) (s0:Slot),Γ.ρ0[o0]? = some s0 ∧ s0.blk = some g) ∨ Γ.w0.heap.size ≤ g ∨ Γ.fz g
 dp:∃ fz,Frz Γ ρ h w fz
structure St where
 n:Nat
 k:Nat
 env:List (Nat × AV)
 h:AH
def lk (t:Nat):List (Nat × AV) → Option AV
 | [] => none
 | (k,v) :: r => match Nat.beq k t with
  | true => some v
  | false => lk t r
def EnvR (ρ:Pl) (env:List (Nat × AV)) (tmps:Array Value):Prop:=∀ t v,lk t env = some v → ∃ v',tmps[t]? = some v' ∧ v.R ρ v'
structure Rel (Γ:Ctx) (ρ:Pl) (st:St) (a:Act) (w:World):Prop where
 holds:Holds Γ ρ st.h w
 len:ρ.length = st.h.length
 klen:Γ.ρ0.length = st.k
 args:Ext Γ.ρ0 ρ
 env:EnvR ρ st.env a.tmps
 defers:a.defers = []
 size:a.tmps.size = st.n
def St.put (st:St) (d:Option Nat) (v:AV):St:=match d with
 | some t => { st with env:=(t,v) :: st.env }
 | none => st
def St.fits (st:St):Option Nat → Bool
 | some t => Nat.blt t st.n
 | none => true
theorem EnvR.ext {ρ ρ':Pl} {env:List (Nat × AV)} {tmps:Array Value} (h:EnvR ρ env tmps) (he:Ext ρ ρ'):EnvR ρ' env tmps:=fun t v ht => by
 obtain ⟨v',h1,h2⟩:=h t v ht
 exact ⟨v',h1,AV.R_ext he h2⟩
theorem er (t:Nat) (v:AV) (env:List (Nat × AV)):lk t ((t,v) :: env) = some v:=by simp [lk]
theorem dz {t u:Nat} (h:u ≠ t) (v:AV) (env:List (Nat × AV)):lk t ((u,v) :: env) = lk t env:=by
 have:Nat.beq u t = false:=by
  cases hb:Nat.beq u t
  ·rfl
  ·exact absurd (Nat.eq_of_beq_eq_true hb) h
 simp [lk,this]
theorem EnvR.put {ρ:Pl} {env:List (Nat × AV)} {a:Act} {t:Nat} {v:AV} {v':Value} (h:EnvR ρ env a.tmps) (ht:t < a.tmps.size) (hv:v.R ρ v'):EnvR ρ ((t,v) :: env) (a.put (some t) v').tmps:=fun u x hx => by
 by_cases e:t = u
 ·subst e
  rw [er] at hx
  cases hx
  exact ⟨v',by simp [Act.put,ht],hv⟩
 ·rw [dz e] at hx
  obtain ⟨y,h1,h2⟩:=h u x hx
  exact ⟨y,by simp only [Act.put];rw [Array.getElem?_setIfInBounds_ne e];exact h1,h2⟩
theorem Rel.put {Γ:Ctx} {ρ ρ':Pl} {st:St} {a:Act} {w w':World} (h:Rel Γ ρ st a w) (h':AH) (d:Option Nat) (hd:st.fits d = true) (v:AV) (v':Value) (he:Ext ρ ρ') (hl:ρ'.length = h'.length) (hH:Holds Γ ρ' h' w') (hv:v.R ρ' v') :
  Rel Γ ρ' ({ st with h:=h' }.put d v) (a.put d v') w':=by
 cases d with
 | none => exact ⟨hH,hl,h.klen,h.args.trans he,h.env.ext he,h.defers,h.size⟩
 | some t =>
   have ht:t < a.tmps.size:=by rw [h.size];exact Nat.blt_eq ▸ hd
   exact ⟨hH,hl,h.klen,h.args.trans he,(h.env.ext he).put ht hv,h.defers,by simp [Act.put,h.size,St.put]⟩
def cst:Value → Option AV
 | .agg cs => if cs.toList.all (·.oneCell') then some (.agg (cs.toList.map .sc)) else none
 | .tuple cs => if cs.size = 0 then some (.tup []) else none
 | v => some (.c (.sc v))
def ev (env:List (Nat × AV)):Operand → Option AV
 | .tmp t => lk t env
 | .const v => cst v
 | .func f => some (.c (.fn f []))
 | .global _ => none
theorem o9 {ρ:Pl}:∀ {cs:List Value},cs.all (·.oneCell') = true → All2 (AC.R ρ) (cs.map .sc) cs
 | [],_ => trivial
 | c :: cs,h => by
   simp only [List.all_cons,Bool.and_eq_true] at h
   exact ⟨⟨rfl,h.1⟩,o9 h.2⟩
theorem Ct {ρ:Pl} {v:Value} {x:AV} (h:cst v = some x):x.R ρ v:=by
 unfold cst at h
 split at h
 ·split at h
  ·cases h
   rename_i hh
   exact ⟨_,rfl,o9 hh⟩
  ·cases h
 ·split at h
  ·cases h
   rename_i cs hh
   have:cs = #[]:=Array.eq_empty_of_size_eq_zero hh
   subst this
   exact ⟨#[],rfl,trivial⟩
  ·cases h
 ·cases h
  rename_i h1 h2
  refine ⟨rfl,?_⟩
  cases v <;> first | rfl | exact (h1 _ rfl).elim | exact (h2 _ rfl).elim
theorem bq {ρ:Pl} {env:List (Nat × AV)} {a:Act} (h:EnvR ρ env a.tmps):∀ {x:Operand} {v:AV},ev env x = some v → v.R ρ (a.eval x)
 | .tmp t,v,hx => by
   obtain ⟨v',h1,h2⟩:=h t v hx
   show v.R ρ (a.tmps.getD t undef)
   rw [Array.getD_eq_getD_getElem?,h1]
   exact h2
 | .const u,v,hx => Ct hx
 | .func f,v,hx => by
   cases hx
   exact ⟨#[],rfl,trivial⟩
end Go.Proofs.YtgehbhkfehmdkaaGreat.Sh
