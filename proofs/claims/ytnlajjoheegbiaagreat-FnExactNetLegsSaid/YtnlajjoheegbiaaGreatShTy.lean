/- The program's structs' kinds, for the rows. No condition. -/
import Derived.Test.YtnlajjoheegbiaaGreatShR
namespace Go.Proofs.YtnlajjoheegbiaaGreat.Ty
open Go.RowKit Go.Proofs.YtnlajjoheegbiaaGreatW.PrintWords
set_option linter.unusedVariables false
abbrev Account := Go.Proofs.YtnlajjoheegbiaaGreat.Sh.Account
def kAccount : Kd Account := Kd.iso (Kd.pair (Kd.int .i64) (Kd.int .i64)) (fun x : Account => (x.No, x.Kind))
def Account.good (x : Account) : Prop := ((Lit.int .i64 x.No).wf = true) ∧ ((Lit.int .i64 x.Kind).wf = true)
theorem opAccount : ∀ w x cs, kAccount.K w x cs → cs = Sh.Enc.enc x := fun w x cs h => by
  obtain ⟨_, _, rfl, rfl, rfl⟩ := h
  rfl
abbrev Instr := Go.Proofs.YtnlajjoheegbiaaGreat.Sh.Instr
def kInstr : Kd Instr := Kd.iso (Kd.pair (Kd.int .i64) (Kd.int .i64)) (fun x : Instr => (x.No, x.Kind))
def Instr.good (x : Instr) : Prop := ((Lit.int .i64 x.No).wf = true) ∧ ((Lit.int .i64 x.Kind).wf = true)
theorem opInstr : ∀ w x cs, kInstr.K w x cs → cs = Sh.Enc.enc x := fun w x cs h => by
  obtain ⟨_, _, rfl, rfl, rfl⟩ := h
  rfl
abbrev Bal := Go.Proofs.YtnlajjoheegbiaaGreat.Sh.Bal
def kBal : Kd Bal := Kd.iso (Kd.pair (Kd.int .i64) (Kd.pair (Kd.int .i64) (Kd.int .i64))) (fun x : Bal => (x.Account, x.Instr, x.Amount))
def Bal.good (x : Bal) : Prop := ((Lit.int .i64 x.Account).wf = true) ∧ ((Lit.int .i64 x.Instr).wf = true) ∧ ((Lit.int .i64 x.Amount).wf = true)
theorem opBal : ∀ w x cs, kBal.K w x cs → cs = Sh.Enc.enc x := fun w x cs h => by
  obtain ⟨_, _, rfl, rfl, ⟨_, _, rfl, rfl, rfl⟩⟩ := h
  rfl
abbrev Leg := Go.Proofs.YtnlajjoheegbiaaGreat.Sh.Leg
def kLeg : Kd Leg := Kd.iso (Kd.pair (Kd.int .i64) (Kd.pair (Kd.int .i64) (Kd.int .i64))) (fun x : Leg => (x.Account, x.Instr, x.Amount))
def Leg.good (x : Leg) : Prop := ((Lit.int .i64 x.Account).wf = true) ∧ ((Lit.int .i64 x.Instr).wf = true) ∧ ((Lit.int .i64 x.Amount).wf = true)
theorem opLeg : ∀ w x cs, kLeg.K w x cs → cs = Sh.Enc.enc x := fun w x cs h => by
  obtain ⟨_, _, rfl, rfl, ⟨_, _, rfl, rfl, rfl⟩⟩ := h
  rfl
abbrev Lot := Go.Proofs.YtnlajjoheegbiaaGreat.Sh.Lot
def kLot : Kd Lot := Kd.iso (Kd.pair (Kd.int .i64) (Kd.pair (Kd.int .i64) (Kd.pair (Kd.int .i64) (Kd.pair (Kd.int .i64) (Kd.int .i64))))) (fun x : Lot => (x.Account, x.Instr, x.No, x.Qty, x.Cost))
def Lot.good (x : Lot) : Prop := ((Lit.int .i64 x.Account).wf = true) ∧ ((Lit.int .i64 x.Instr).wf = true) ∧ ((Lit.int .i64 x.No).wf = true) ∧ ((Lit.int .i64 x.Qty).wf = true) ∧ ((Lit.int .i64 x.Cost).wf = true)
theorem opLot : ∀ w x cs, kLot.K w x cs → cs = Sh.Enc.enc x := fun w x cs h => by
  obtain ⟨_, _, rfl, rfl, ⟨_, _, rfl, rfl, ⟨_, _, rfl, rfl, ⟨_, _, rfl, rfl, rfl⟩⟩⟩⟩ := h
  rfl
abbrev Trade := Go.Proofs.YtnlajjoheegbiaaGreat.Sh.Trade
def kTrade : Kd Trade := Kd.iso (Kd.pair (Kd.int .i64) (Kd.pair (Kd.int .i64) (Kd.pair (Kd.int .i64) (Kd.pair (Kd.int .i64) (Kd.pair (Kd.int .i64) (Kd.pair (Kd.int .i64) (Kd.pair (Kd.int .i64) (Kd.int .i64)))))))) (fun x : Trade => (x.No, x.Buyer, x.Seller, x.Paper, x.Qty, x.Cash, x.Price, x.State))
def Trade.good (x : Trade) : Prop := ((Lit.int .i64 x.No).wf = true) ∧ ((Lit.int .i64 x.Buyer).wf = true) ∧ ((Lit.int .i64 x.Seller).wf = true) ∧ ((Lit.int .i64 x.Paper).wf = true) ∧ ((Lit.int .i64 x.Qty).wf = true) ∧ ((Lit.int .i64 x.Cash).wf = true) ∧ ((Lit.int .i64 x.Price).wf = true) ∧ ((Lit.int .i64 x.State).wf = true)
theorem opTrade : ∀ w x cs, kTrade.K w x cs → cs = Sh.Enc.enc x := fun w x cs h => by
  obtain ⟨_, _, rfl, rfl, ⟨_, _, rfl, rfl, ⟨_, _, rfl, rfl, ⟨_, _, rfl, rfl, ⟨_, _, rfl, rfl, ⟨_, _, rfl, rfl, ⟨_, _, rfl, rfl, rfl⟩⟩⟩⟩⟩⟩⟩ := h
  rfl
abbrev Reply := Go.Proofs.YtnlajjoheegbiaaGreat.Sh.Reply
def kReply : Kd Reply := Kd.iso (Kd.pair (Kd.int .i64) (Kd.int .i64)) (fun x : Reply => (x.Code, x.Value))
def Reply.good (x : Reply) : Prop := ((Lit.int .i64 x.Code).wf = true) ∧ ((Lit.int .i64 x.Value).wf = true)
theorem opReply : ∀ w x cs, kReply.K w x cs → cs = Sh.Enc.enc x := fun w x cs h => by
  obtain ⟨_, _, rfl, rfl, rfl⟩ := h
  rfl
end Go.Proofs.YtnlajjoheegbiaaGreat.Ty
