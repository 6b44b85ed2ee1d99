/- From what a row's statement tells of the arguments to a walk's objects, and back. No condition. -/
import Derived.Test.YtgehbhkfehmdkaaGreatKCeShB1
import Derived.Test.YtgehbhkfehmdkaaGreatKCeWT
import Derived.Test.YtgehbhkfehmdkaaGreatKCeShLawCa
set_option linter.unusedVariables false
namespace Go.Proofs.YtgehbhkfehmdkaaGreat.Sh
open Go.RowKit Go.Proofs.YtgehbhkfehmdkaaGreatW.PrintWords
def jk (A:Option Addr) (n sz:Nat):Slot:=match n with
 | 0 => ⟨none,0,sz,true⟩
 | n + 1 => ⟨A,n + 1,sz,true⟩
theorem lI {α:Type} [Enc α] {k:Kd α} (hsz:k.sz = Enc.sz α) (hop:∀ w x cs,k.K w x cs → cs = Enc.enc x) {w:World} {A:Option Addr} {l:List α} (hC:Kd.C k w A l.length l) (t:TypeId) (ρ:Pl):ObjH ρ (jk A l.length (Enc.sz α)) ⟨false,t,Enc.sz α,.fl (l.map Enc.enc)⟩ w:=by
 have hget:∀ i:Nat,i < l.length → ∃ ad,A = some ad ∧ ∀ j u,(Enc.enc (l.getD i Enc.z))[j]? = some u → w.cell? (ad.add (i * Enc.sz α + j)) = some u:=fun i hi => by
  obtain ⟨ad,c,h1,h2,h3,h4⟩:=Kd.C_get hC Enc.z (i:Int) (by omega) (by omega)
  rw [Int.toNat_natCast] at h3 h4
  rw [hop _ _ _ h3,hsz] at h4
  exact ⟨ad,h1,h4⟩
 have hmax:=Kd.C_max hC
 cases l with
 | nil => exact {
    sz:=rfl
    pos:=Enc.pos
    len:=Nat.le_refl _
    max:=Nat.zero_le _
    lt:=fun a ha => by cases ha
    nil:=fun _ => rfl
    cell:=fun i cs hi => by
     have hi:(([]:List (List Value))[i]?).map (fun c => c.map AC.sc) = some cs:=hi
     simp at hi
    own:=fun h => by cases h }
 | cons x l =>
   refine ⟨rfl,Enc.pos,by show ((x :: l).map Enc.enc).length ≤ l.length + 1;simp,hmax,fun a ha => ?_,fun ha => ?_,fun i cs hi => ?_,fun h => by cases h⟩
   ·obtain ⟨ad,h1,h2⟩:=hget 0 (by simp)
    have ha:A = some a:=ha
    rw [h1] at ha
    cases ha
    have hp:0 < (Enc.enc ((x :: l).getD 0 Enc.z)).length:=by rw [Enc.len];exact Enc.pos
    have:=h2 0 _ (List.getElem?_eq_getElem hp)
    have h3:=z7 this
    rwa [add_block] at h3
   ·obtain ⟨ad,h1,_⟩:=hget 0 (by simp)
    have ha:A = none:=ha
    rw [h1] at ha
    cases ha
   ·have hi:(((x :: l).map Enc.enc)[i]?).map (fun c => c.map AC.sc) = some cs:=hi
    obtain ⟨c,hc,rfl⟩:=Option.map_eq_some_iff.1 hi
    have hlt:i < (x :: l).length:=by have:=(List.getElem?_eq_some_iff.1 hc).1;simpa using this
    rw [List.getElem?_map,List.getElem?_eq_getElem hlt] at hc
    obtain rfl:Enc.enc (x :: l)[i] = c:=by simpa using hc
    obtain ⟨ad,h1,h2⟩:=hget i hlt
    refine ⟨by rw [List.length_map,Enc.len],ad,h1,fun j y hy => ?_⟩
    rw [List.getElem?_map] at hy
    obtain ⟨v,hv,rfl⟩:=Option.map_eq_some_iff.1 hy
    refine ⟨v,h2 j v (by rw [List.getD_eq_getElem?_getD,List.getElem?_eq_getElem hlt];exact hv),rfl,?_⟩
    have:=Enc.one (x :: l)[i]
    exact List.all_eq_true.1 this v (List.mem_of_getElem? hv)
theorem lJ {A:Option Addr} {n c sz:Nat} {ρ:Pl} {o:Nat} (h:ρ[o]? = some (jk A n sz)) (hn:n ≤ c):AC.R ρ (.row o 0 n) (.slice A n c):=by
 cases n with
 | zero => exact ⟨_,h,Nat.le_refl _,.inr ⟨rfl,.inr (.inl rfl),A,c,rfl,fun _ h => by cases h⟩⟩
 | succ n =>
   refine ⟨_,h,Nat.le_of_eq (Nat.zero_add _),.inl ⟨c,?_,hn,fun h => by cases h⟩⟩
   show Value.slice A (n + 1) c = .slice (A.map (fun a => a.add (0 * sz))) (n + 1) c
   cases A <;> simp [add_zero']
def OH (ρ0:Pl) (w:World):Pl → AH → Prop
 | [],[] => True
 | sl :: r,some ob :: h => ObjH ρ0 sl ob w ∧ OH ρ0 w r h
 | _,_ => False
theorem OH.get {ρ0:Pl} {w:World}:∀ {r:Pl} {h:AH},OH ρ0 w r h → r.length = h.length ∧ ∀ (o:Nat) ob,h[o]? = some (some ob) → ∃ sl,r[o]? = some sl ∧ ObjH ρ0 sl ob w
 | [],[],_ => ⟨rfl,fun o ob ho => by simp at ho⟩
 | sl :: r,some ob :: h,hh => by
   obtain ⟨h1,h2⟩:=OH.get hh.2
   refine ⟨by simp [h1],fun o ob' ho => ?_⟩
   cases o with
   | zero =>
     have:ob = ob':=by simpa using ho
     subst this
     exact ⟨sl,rfl,hh.1⟩
   | succ o => exact h2 o ob' (by simpa using ho)
def CF (hs:AH):Bool:=hs.all (fun x => match x with | some o => !o.el.isD | none => true)
theorem vR {P:Program} {f:FuncId} {args:List AV} {hs:AH} (hc:FC P f args hs (B true) hs) (hro:roA hs = true) {w:World} (ρ:Pl) {cargs:List Value} (hO:OH ρ w ρ hs) (ha:All2 (AV.R ρ) args cargs) (hnd:CF hs = true:=by rfl) :
  Calls P f cargs.toArray w fun e w' => e = .returned (.bool true) ∧ Below w.heap.size w w':=by
 obtain ⟨hl,hobj⟩:=hO.get
 have hno:∀ (o:Nat) ob,hs[o]? = some (some ob) → ob.own = false:=fun o ob ho => by
  have:=List.all_eq_true.1 hro _ (List.mem_of_getElem? ho)
  simpa using this
 refine (hc.call ρ w (fun _ => False) cargs hl ⟨Fr.refl _ _,hobj,fun o ob sl g h1 h2 => absurd h2 (by rw [hno o ob h1];decide),fun o ob sl g h1 h2 h3 => .inl ⟨o,sl,h2,h3⟩,fun _ => False,fun _ h => h,fun _ h => h.elim,fun _ h => h.elim,fun _ _ _ _ _ _ _ _ h => h,fun o own ty sz xs ho => by
  have:=List.all_eq_true.1 hnd _ (List.mem_of_getElem? ho)
  cases this⟩ ha).mono fun e w' hh => ?_
 obtain ⟨v,hs',v',ρ',⟨rfl,rfl⟩,rfl,h3,h4,_⟩:=hh
 have h5:v' = .bool true:=h3.1
 subst h5
 refine ⟨rfl,h4.fr.os,h4.fr.tape,h4.fr.output,h4.fr.size,fun k hk => h4.fr.block k hk ?_⟩
 rintro ⟨o,ob,sl,h6,h7,_⟩
 rw [hno o ob h6] at h7
 cases h7
end Go.Proofs.YtgehbhkfehmdkaaGreat.Sh
namespace Go.Proofs.YtgehbhkfehmdkaaGreat.Ty
open Go.RowKit Go.Proofs.YtgehbhkfehmdkaaGreatW.PrintWords
abbrev Account:=Go.Proofs.YtgehbhkfehmdkaaGreat.Sh.Account
def kAccount:Kd Account:=Kd.iso (Kd.pair (Kd.int .i64) (Kd.int .i64)) (fun x:Account => (x.No,x.Kind))
def Account.good (x:Account):Prop:=((Lit.int .i64 x.No).wf = true) ∧ ((Lit.int .i64 x.Kind).wf = true)
theorem vW:∀ w x cs,kAccount.K w x cs → cs = Sh.Enc.enc x:=fun w x cs h => by
 obtain ⟨_,_,rfl,rfl,rfl⟩:=h
 rfl
abbrev Instr:=Go.Proofs.YtgehbhkfehmdkaaGreat.Sh.Instr
def kInstr:Kd Instr:=Kd.iso (Kd.pair (Kd.int .i64) (Kd.int .i64)) (fun x:Instr => (x.No,x.Kind))
def Instr.good (x:Instr):Prop:=((Lit.int .i64 x.No).wf = true) ∧ ((Lit.int .i64 x.Kind).wf = true)
theorem zM:∀ w x cs,kInstr.K w x cs → cs = Sh.Enc.enc x:=fun w x cs h => by
 obtain ⟨_,_,rfl,rfl,rfl⟩:=h
 rfl
abbrev Bal:=Go.Proofs.YtgehbhkfehmdkaaGreat.Sh.Bal
def kBal:Kd Bal:=Kd.iso (Kd.pair (Kd.int .i64) (Kd.pair (Kd.int .i64) (Kd.int .i64))) (fun x:Bal => (x.Account,x.Instr,x.Amount))
def Bal.good (x:Bal):Prop:=((Lit.int .i64 x.Account).wf = true) ∧ ((Lit.int .i64 x.Instr).wf = true) ∧ ((Lit.int .i64 x.Amount).wf = true)
theorem Cc:∀ w x cs,kBal.K w x cs → cs = Sh.Enc.enc x:=fun w x cs h => by
 obtain ⟨_,_,rfl,rfl,⟨_,_,rfl,rfl,rfl⟩⟩:=h
 rfl
abbrev Leg:=Go.Proofs.YtgehbhkfehmdkaaGreat.Sh.Leg
def Leg.good (x:Leg):Prop:=((Lit.int .i64 x.Account).wf = true) ∧ ((Lit.int .i64 x.Instr).wf = true) ∧ ((Lit.int .i64 x.Amount).wf = true)
abbrev Lot:=Go.Proofs.YtgehbhkfehmdkaaGreat.Sh.Lot
def kLot:Kd Lot:=Kd.iso (Kd.pair (Kd.int .i64) (Kd.pair (Kd.int .i64) (Kd.pair (Kd.int .i64) (Kd.pair (Kd.int .i64) (Kd.int .i64))))) (fun x:Lot => (x.Account,x.Instr,x.No,x.Qty,x.Cost))
def Lot.good (x:Lot):Prop:=((Lit.int .i64 x.Account).wf = true) ∧ ((Lit.int .i64 x.Instr).wf = true) ∧ ((Lit.int .i64 x.No).wf = true) ∧ ((Lit.int .i64 x.Qty).wf = true) ∧ ((Lit.int .i64 x.Cost).wf = true)
theorem Ce:∀ w x cs,kLot.K w x cs → cs = Sh.Enc.enc x:=fun w x cs h => by
 obtain ⟨_,_,rfl,rfl,⟨_,_,rfl,rfl,⟨_,_,rfl,rfl,⟨_,_,rfl,rfl,rfl⟩⟩⟩⟩:=h
 rfl
abbrev Trade:=Go.Proofs.YtgehbhkfehmdkaaGreat.Sh.Trade
def kTrade:Kd Trade:=Kd.iso (Kd.pair (Kd.int .i64) (Kd.pair (Kd.int .i64) (Kd.pair (Kd.int .i64) (Kd.pair (Kd.int .i64) (Kd.pair (Kd.int .i64) (Kd.pair (Kd.int .i64) (Kd.pair (Kd.int .i64) (Kd.int .i64)))))))) (fun x:Trade => (x.No,x.Buyer,x.Seller,x.Paper,x.Qty,x.Cash,x.Price,x.State))
def Trade.good (x:Trade):Prop:=((Lit.int .i64 x.No).wf = true) ∧ ((Lit.int .i64 x.Buyer).wf = true) ∧ ((Lit.int .i64 x.Seller).wf = true) ∧ ((Lit.int .i64 x.Paper).wf = true) ∧ ((Lit.int .i64 x.Qty).wf = true) ∧ ((Lit.int .i64 x.Cash).wf = true) ∧ ((Lit.int .i64 x.Price).wf = true) ∧ ((Lit.int .i64 x.State).wf = true)
theorem zT:∀ w x cs,kTrade.K w x cs → cs = Sh.Enc.enc x:=fun w x cs h => by
 obtain ⟨_,_,rfl,rfl,⟨_,_,rfl,rfl,⟨_,_,rfl,rfl,⟨_,_,rfl,rfl,⟨_,_,rfl,rfl,⟨_,_,rfl,rfl,⟨_,_,rfl,rfl,rfl⟩⟩⟩⟩⟩⟩⟩:=h
 rfl
abbrev Reply:=Go.Proofs.YtgehbhkfehmdkaaGreat.Sh.Reply
def Reply.good (x:Reply):Prop:=((Lit.int .i64 x.Code).wf = true) ∧ ((Lit.int .i64 x.Value).wf = true)
end Go.Proofs.YtgehbhkfehmdkaaGreat.Ty
namespace Go.Proofs.YtgehbhkfehmdkaaGreat.Law
open Go.RowKit Go.Proofs.YtgehbhkfehmdkaaGreatW.PrintWords Go.Proofs.YtgehbhkfehmdkaaGreat.Ty
open Go.Proofs.YtgehbhkfehmdkaaGreat.Sh hiding Account Instr Bal Leg Lot Trade Reply
theorem Cd:∀ w (x:Int) cs,(Kd.int .i64).K w x cs → cs = Sh.Enc.enc x:=fun w x cs h => h
theorem FnExactCmdApply (A0_0:Option Addr) (c0_0:Nat) (l0_0:List Account) (A0_1:Option Addr) (c0_1:Nat) (l0_1:List Instr) (A0_2:Option Addr) (c0_2:Nat) (l0_2:List Bal) (A0_3:Option Addr) (c0_3:Nat) (l0_3:List Lot) (A0_4:Option Addr) (c0_4:Nat) (l0_4:List Trade) (a0_5:Int) (a1_0:Int) (A1_1:Option Addr) (c1_1:Nat) (l1_1:List Int) (w:World) (hC0_0:Kd.C kAccount w A0_0 l0_0.length l0_0) (hl0_0:l0_0.length ≤ c0_0) (hC0_1:Kd.C kInstr w A0_1 l0_1.length l0_1) (hl0_1:l0_1.length ≤ c0_1) (hC0_2:Kd.C kBal w A0_2 l0_2.length l0_2) (hl0_2:l0_2.length ≤ c0_2) (hC0_3:Kd.C kLot w A0_3 l0_3.length l0_3) (hl0_3:l0_3.length ≤ c0_3) (hC0_4:Kd.C kTrade w A0_4 l0_4.length l0_4) (hl0_4:l0_4.length ≤ c0_4) (hC1_1:Kd.C (Kd.int .i64) w A1_1 l1_1.length l1_1) (hl1_1:l1_1.length ≤ c1_1) (_:∀ y ∈ l0_0,Account.good y) (_:∀ y ∈ l0_1,Instr.good y) (_:∀ y ∈ l0_2,Bal.good y) (_:∀ y ∈ l0_3,Lot.good y) (_:∀ y ∈ l0_4,Trade.good y) (_:(Lit.int .i64 a0_5).wf = true) (_:(Lit.int .i64 a1_0).wf = true) (_:∀ y ∈ l1_1,(Lit.int .i64 y).wf = true) :
  Calls Tryz.prog 15 #[.agg #[.slice A0_0 l0_0.length c0_0,.slice A0_1 l0_1.length c0_1,.slice A0_2 l0_2.length c0_2,.slice A0_3 l0_3.length c0_3,.slice A0_4 l0_4.length c0_4,.int .i64 a0_5],.agg #[.int .i64 a1_0,.slice A1_1 l1_1.length c1_1]] w fun e w' => e = .returned (.bool true) ∧ Below w.heap.size w w' :=
 vR jm rfl [jk A0_0 l0_0.length 2,jk A0_1 l0_1.length 2,jk A0_2 l0_2.length 3,jk A0_3 l0_3.length 5,jk A0_4 l0_4.length 8,jk A1_1 l1_1.length 1] (cargs:=[.agg #[.slice A0_0 l0_0.length c0_0,.slice A0_1 l0_1.length c0_1,.slice A0_2 l0_2.length c0_2,.slice A0_3 l0_3.length c0_3,.slice A0_4 l0_4.length c0_4,.int .i64 a0_5],.agg #[.int .i64 a1_0,.slice A1_1 l1_1.length c1_1]]) ⟨lI rfl vW hC0_0 _ _,lI rfl zM hC0_1 _ _,lI rfl Cc hC0_2 _ _,lI rfl Ce hC0_3 _ _,lI rfl zT hC0_4 _ _,lI rfl Cd hC1_1 _ _,trivial⟩ ⟨⟨_,rfl,lJ (ρ:=_) (o:=0) rfl hl0_0,lJ (ρ:=_) (o:=1) rfl hl0_1,lJ (ρ:=_) (o:=2) rfl hl0_2,lJ (ρ:=_) (o:=3) rfl hl0_3,lJ (ρ:=_) (o:=4) rfl hl0_4,⟨rfl,rfl⟩,trivial⟩,⟨_,rfl,⟨rfl,rfl⟩,lJ (ρ:=_) (o:=5) rfl hl1_1,trivial⟩,trivial⟩
end Go.Proofs.YtgehbhkfehmdkaaGreat.Law
