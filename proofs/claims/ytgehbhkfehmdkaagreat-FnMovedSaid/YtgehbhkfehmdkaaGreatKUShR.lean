/- From what a row's statement tells of the arguments to a walk's objects, and back. No condition. -/
import Derived.Test.YtgehbhkfehmdkaaGreatKUShLo
import Derived.Test.YtgehbhkfehmdkaaGreatKUWT
set_option linter.unusedVariables false
namespace Go.Proofs.YtgehbhkfehmdkaaGreat.Sh
open Go.RowKit Go.Proofs.YtgehbhkfehmdkaaGreatW.PrintWords
def lO (A:Option Addr) (n sz:Nat):Slot:=match n with
 | 0 => ⟨none,0,sz,true⟩
 | n + 1 => ⟨A,n + 1,sz,true⟩
theorem pd {A:Option Addr} {n c sz:Nat} {ρ:Pl} {o:Nat} (h:ρ[o]? = some (lO A n sz)) (hn:n ≤ c):AC.R ρ (.row o 0 n) (.slice A n c):=by
 cases n with
 | zero => exact ⟨_,h,Nat.le_refl _,.inr ⟨rfl,.inr (.inl rfl),A,c,rfl,fun _ h => by cases h⟩⟩
 | succ n =>
   refine ⟨_,h,Nat.le_of_eq (Nat.zero_add _),.inl ⟨c,?_,hn,fun h => by cases h⟩⟩
   show Value.slice A (n + 1) c = .slice (A.map (fun a => a.add (0 * sz))) (n + 1) c
   cases A <;> simp [add_zero']
def OH (ρ0:Pl) (w:World):Pl → AH → Prop
 | [],[] => True
 | sl :: r,some ob :: h => ObjH ρ0 sl ob w ∧ OH ρ0 w r h
 | _,_ => False
theorem OH.get {ρ0:Pl} {w:World}:∀ {r:Pl} {h:AH},OH ρ0 w r h → r.length = h.length ∧ ∀ (o:Nat) ob,h[o]? = some (some ob) → ∃ sl,r[o]? = some sl ∧ ObjH ρ0 sl ob w
 | [],[],_ => ⟨rfl,fun o ob ho => by simp at ho⟩
 | sl :: r,some ob :: h,hh => by
   obtain ⟨h1,h2⟩:=OH.get hh.2
   refine ⟨by simp [h1],fun o ob' ho => ?_⟩
   cases o with
   | zero =>
     have:ob = ob':=by simpa using ho
     subst this
     exact ⟨sl,rfl,hh.1⟩
   | succ o => exact h2 o ob' (by simpa using ho)
def D9 (hs:AH):Bool:=hs.all (fun x => match x with | some o => !o.el.isD | none => true)
theorem iX {P:Program} {f:FuncId} {args:List AV} {hs:AH} (hc:FC P f args hs (B true) hs) (hro:roA hs = true) {w:World} (ρ:Pl) {cargs:List Value} (hO:OH ρ w ρ hs) (ha:All2 (AV.R ρ) args cargs) (hnd:D9 hs = true:=by rfl) :
  Calls P f cargs.toArray w fun e w' => e = .returned (.bool true) ∧ Below w.heap.size w w':=by
 obtain ⟨hl,hobj⟩:=hO.get
 have hno:∀ (o:Nat) ob,hs[o]? = some (some ob) → ob.own = false:=fun o ob ho => by
  have:=List.all_eq_true.1 hro _ (List.mem_of_getElem? ho)
  simpa using this
 refine (hc.call ρ w (fun _ => False) cargs hl ⟨Fr.refl _ _,hobj,fun o ob sl g h1 h2 => absurd h2 (by rw [hno o ob h1];decide),fun o ob sl g h1 h2 h3 => .inl ⟨o,sl,h2,h3⟩,fun _ => False,fun _ h => h,fun _ h => h.elim,fun _ h => h.elim,fun _ _ _ _ _ _ _ _ h => h,fun o own ty sz xs ho => by
  have:=List.all_eq_true.1 hnd _ (List.mem_of_getElem? ho)
  cases this⟩ ha).mono fun e w' hh => ?_
 obtain ⟨v,hs',v',ρ',⟨rfl,rfl⟩,rfl,h3,h4,_⟩:=hh
 have h5:v' = .bool true:=h3.1
 subst h5
 refine ⟨rfl,h4.fr.os,h4.fr.tape,h4.fr.output,h4.fr.size,fun k hk => h4.fr.block k hk ?_⟩
 rintro ⟨o,ob,sl,h6,h7,_⟩
 rw [hno o ob h6] at h7
 cases h7
end Go.Proofs.YtgehbhkfehmdkaaGreat.Sh
namespace Go.Proofs.YtgehbhkfehmdkaaGreat.Sh
open Go.RowKit Go.Proofs.YtgehbhkfehmdkaaGreatW.PrintWords
theorem mm {w:World} {A:Option Addr} {l:List Int} (hC:Kd.C (Kd.int .u8) w A l.length l) (t:TypeId) (ρ:Pl):ObjH ρ (lO A (l.map By.mk).length 1) ⟨false,t,1,.fl ((l.map By.mk).map Enc.enc)⟩ w:=by
 have hget:∀ i:Nat,i < l.length → ∃ ad,A = some ad ∧ w.cell? (ad.add i) = some (.int .u8 (l.getD i 0)):=fun i hi => by
  obtain ⟨ad,c,h1,h2,h3,h4⟩:=Kd.C_get hC 0 (i:Int) (by omega) (by omega)
  rw [Int.toNat_natCast] at h3 h4
  obtain rfl:=(show c = [Value.int .u8 (l.getD i 0)] from h3)
  have:=h4 0 _ rfl
  refine ⟨ad,h1,?_⟩
  have e:i * (Kd.int .u8).sz + 0 = i:=by show i * 1 + 0 = i;omega
  rw [e] at this
  exact this
 have hmax:=Kd.C_max hC
 rw [List.length_map]
 cases l with
 | nil => exact {
    sz:=rfl
    pos:=Nat.zero_lt_one
    len:=Nat.le_refl _
    max:=Nat.zero_le _
    lt:=fun a ha => by cases ha
    nil:=fun _ => rfl
    cell:=fun i cs hi => by
     have hi:(([]:List (List Value))[i]?).map (fun c => c.map AC.sc) = some cs:=hi
     simp at hi
    own:=fun h => by cases h }
 | cons x l =>
   refine ⟨rfl,Nat.zero_lt_one,by show (((x :: l).map By.mk).map Enc.enc).length ≤ l.length + 1;simp,hmax,fun a ha => ?_,fun ha => ?_,fun i cs hi => ?_,fun h => by cases h⟩
   ·obtain ⟨ad,h1,h2⟩:=hget 0 (by simp)
    have ha:A = some a:=ha
    rw [h1] at ha
    cases ha
    have h3:=zG h2
    rwa [add_block] at h3
   ·obtain ⟨ad,h1,_⟩:=hget 0 (by simp)
    have ha:A = none:=ha
    rw [h1] at ha
    cases ha
   ·have hi:((((x :: l).map By.mk).map Enc.enc)[i]?).map (fun c => c.map AC.sc) = some cs:=hi
    obtain ⟨c,hc,rfl⟩:=Option.map_eq_some_iff.1 hi
    have hlt:i < (x :: l).length:=by have:=(List.getElem?_eq_some_iff.1 hc).1;simpa using this
    rw [List.getElem?_map,List.getElem?_map,List.getElem?_eq_getElem hlt] at hc
    obtain rfl:Enc.enc (⟨(x :: l)[i]⟩:By) = c:=by simpa using hc
    obtain ⟨ad,h1,h2⟩:=hget i hlt
    refine ⟨rfl,ad,h1,fun j y hy => ?_⟩
    match j with
    | 0 =>
      cases hy
      refine ⟨_,?_,rfl,rfl⟩
      rw [List.getD_eq_getElem?_getD,List.getElem?_eq_getElem hlt] at h2
      show w.cell? (ad.add (i * 1 + 0)) = _
      rw [Nat.mul_one,Nat.add_zero]
      exact h2
    | j + 1 => cases hy
end Go.Proofs.YtgehbhkfehmdkaaGreat.Sh
namespace Go.Proofs.YtgehbhkfehmdkaaGreat.Ty
open Go.RowKit Go.Proofs.YtgehbhkfehmdkaaGreatW.PrintWords
abbrev Account:=Go.Proofs.YtgehbhkfehmdkaaGreat.Sh.Account
def Account.good (x:Account):Prop:=((Lit.int .i64 x.No).wf = true) ∧ ((Lit.int .i64 x.Kind).wf = true)
abbrev Instr:=Go.Proofs.YtgehbhkfehmdkaaGreat.Sh.Instr
def Instr.good (x:Instr):Prop:=((Lit.int .i64 x.No).wf = true) ∧ ((Lit.int .i64 x.Kind).wf = true)
abbrev Bal:=Go.Proofs.YtgehbhkfehmdkaaGreat.Sh.Bal
def Bal.good (x:Bal):Prop:=((Lit.int .i64 x.Account).wf = true) ∧ ((Lit.int .i64 x.Instr).wf = true) ∧ ((Lit.int .i64 x.Amount).wf = true)
abbrev Leg:=Go.Proofs.YtgehbhkfehmdkaaGreat.Sh.Leg
def Leg.good (x:Leg):Prop:=((Lit.int .i64 x.Account).wf = true) ∧ ((Lit.int .i64 x.Instr).wf = true) ∧ ((Lit.int .i64 x.Amount).wf = true)
abbrev Lot:=Go.Proofs.YtgehbhkfehmdkaaGreat.Sh.Lot
def Lot.good (x:Lot):Prop:=((Lit.int .i64 x.Account).wf = true) ∧ ((Lit.int .i64 x.Instr).wf = true) ∧ ((Lit.int .i64 x.No).wf = true) ∧ ((Lit.int .i64 x.Qty).wf = true) ∧ ((Lit.int .i64 x.Cost).wf = true)
abbrev Trade:=Go.Proofs.YtgehbhkfehmdkaaGreat.Sh.Trade
def Trade.good (x:Trade):Prop:=((Lit.int .i64 x.No).wf = true) ∧ ((Lit.int .i64 x.Buyer).wf = true) ∧ ((Lit.int .i64 x.Seller).wf = true) ∧ ((Lit.int .i64 x.Paper).wf = true) ∧ ((Lit.int .i64 x.Qty).wf = true) ∧ ((Lit.int .i64 x.Cash).wf = true) ∧ ((Lit.int .i64 x.Price).wf = true) ∧ ((Lit.int .i64 x.State).wf = true)
abbrev Reply:=Go.Proofs.YtgehbhkfehmdkaaGreat.Sh.Reply
def Reply.good (x:Reply):Prop:=((Lit.int .i64 x.Code).wf = true) ∧ ((Lit.int .i64 x.Value).wf = true)
end Go.Proofs.YtgehbhkfehmdkaaGreat.Ty
