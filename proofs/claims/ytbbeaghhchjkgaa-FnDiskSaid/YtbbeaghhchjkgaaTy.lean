/- The program's structs of numbers and strings as Lean structures, each with its kind. No condition. -/
import Derived.Test.YtbbeaghhchjkgaaSep
namespace Go.Proofs.Ytbbeaghhchjkgaa.Ty
open Go.RowKit Go.Proofs.YtbbeaghhchjkgaaW.PrintWords Go.Proofs.Ytbbeaghhchjkgaa.Sp
set_option linter.unusedVariables false
structure Account where
  No : Int
  Kind : Int
  deriving DecidableEq
def Account.z : Account := ⟨0, 0⟩
def kAccount : Kd Account := Kd.iso (Kd.pair (Kd.int .i64) (Kd.int .i64)) (fun x : Account => (x.No, x.Kind))
def Account.good (x : Account) : Prop := ((Lit.int .i64 x.No).wf = true) ∧ ((Lit.int .i64 x.Kind).wf = true)
def Account.enc (x : Account) : List Go.Value := [.int .i64 x.No, .int .i64 x.Kind]
theorem flatAccount : FlatK kAccount Account.enc where
  K := fun w x => ⟨[.int .i64 x.No], [.int .i64 x.Kind], rfl, rfl, rfl⟩
  M := fun w base ok x => ⟨[.int .i64 x.No], [.int .i64 x.Kind], rfl, rfl, rfl⟩
  op := fun w x cs h => by
    obtain ⟨_, _, rfl, rfl, rfl⟩ := h
    rfl
def rdAccount (xs : List Account) (k : Nat) : Account := xs.getD k Account.z
theorem rdAccount_eq {xs : List Account} {k : Nat} (h : k < xs.length) : rdAccount xs k = xs[k] := by simp [rdAccount, h]
theorem atAccount {w : World} {A : Option Addr} {n : Nat} {xs : List Account} (h : Kd.C kAccount w A n xs) (k : Nat) (hk : k < n) : ∃ ad, A = some ad ∧ w.cell? (ad.add (k * 2)) = some (.int .i64 (rdAccount xs k).No) ∧ w.cell? ⟨(ad.add (k * 2)).block, (ad.add (k * 2)).off + 1, none⟩ = some (.int .i64 (rdAccount xs k).Kind) := by
  obtain ⟨ad, c, e, _, hK, hc0⟩ := Kd.C_get h Account.z (k : Int) (by omega) (by omega)
  rw [Int.toNat_natCast] at hK hc0
  have hc : ∀ j u, c[j]? = some u → w.cell? (ad.add (k * 2 + j)) = some u := hc0
  obtain rfl := flatAccount.op _ _ _ hK
  exact ⟨ad, e, hc 0 _ rfl, by rw [← add_field _ _ 1 (by omega)]; exact hc 1 _ rfl⟩
structure Instr where
  No : Int
  Kind : Int
  deriving DecidableEq
def Instr.z : Instr := ⟨0, 0⟩
def kInstr : Kd Instr := Kd.iso (Kd.pair (Kd.int .i64) (Kd.int .i64)) (fun x : Instr => (x.No, x.Kind))
def Instr.good (x : Instr) : Prop := ((Lit.int .i64 x.No).wf = true) ∧ ((Lit.int .i64 x.Kind).wf = true)
def Instr.enc (x : Instr) : List Go.Value := [.int .i64 x.No, .int .i64 x.Kind]
theorem flatInstr : FlatK kInstr Instr.enc where
  K := fun w x => ⟨[.int .i64 x.No], [.int .i64 x.Kind], rfl, rfl, rfl⟩
  M := fun w base ok x => ⟨[.int .i64 x.No], [.int .i64 x.Kind], rfl, rfl, rfl⟩
  op := fun w x cs h => by
    obtain ⟨_, _, rfl, rfl, rfl⟩ := h
    rfl
def rdInstr (xs : List Instr) (k : Nat) : Instr := xs.getD k Instr.z
theorem rdInstr_eq {xs : List Instr} {k : Nat} (h : k < xs.length) : rdInstr xs k = xs[k] := by simp [rdInstr, h]
theorem atInstr {w : World} {A : Option Addr} {n : Nat} {xs : List Instr} (h : Kd.C kInstr w A n xs) (k : Nat) (hk : k < n) : ∃ ad, A = some ad ∧ w.cell? (ad.add (k * 2)) = some (.int .i64 (rdInstr xs k).No) ∧ w.cell? ⟨(ad.add (k * 2)).block, (ad.add (k * 2)).off + 1, none⟩ = some (.int .i64 (rdInstr xs k).Kind) := by
  obtain ⟨ad, c, e, _, hK, hc0⟩ := Kd.C_get h Instr.z (k : Int) (by omega) (by omega)
  rw [Int.toNat_natCast] at hK hc0
  have hc : ∀ j u, c[j]? = some u → w.cell? (ad.add (k * 2 + j)) = some u := hc0
  obtain rfl := flatInstr.op _ _ _ hK
  exact ⟨ad, e, hc 0 _ rfl, by rw [← add_field _ _ 1 (by omega)]; exact hc 1 _ rfl⟩
structure Bal where
  Account : Int
  Instr : Int
  Amount : Int
  deriving DecidableEq
def Bal.z : Bal := ⟨0, 0, 0⟩
def kBal : Kd Bal := Kd.iso (Kd.pair (Kd.int .i64) (Kd.pair (Kd.int .i64) (Kd.int .i64))) (fun x : Bal => (x.Account, x.Instr, x.Amount))
def Bal.good (x : Bal) : Prop := ((Lit.int .i64 x.Account).wf = true) ∧ ((Lit.int .i64 x.Instr).wf = true) ∧ ((Lit.int .i64 x.Amount).wf = true)
def Bal.enc (x : Bal) : List Go.Value := [.int .i64 x.Account, .int .i64 x.Instr, .int .i64 x.Amount]
theorem flatBal : FlatK kBal Bal.enc where
  K := fun w x => ⟨[.int .i64 x.Account], [.int .i64 x.Instr, .int .i64 x.Amount], rfl, rfl, ⟨[.int .i64 x.Instr], [.int .i64 x.Amount], rfl, rfl, rfl⟩⟩
  M := fun w base ok x => ⟨[.int .i64 x.Account], [.int .i64 x.Instr, .int .i64 x.Amount], rfl, rfl, ⟨[.int .i64 x.Instr], [.int .i64 x.Amount], rfl, rfl, rfl⟩⟩
  op := fun w x cs h => by
    obtain ⟨_, _, rfl, rfl, ⟨_, _, rfl, rfl, rfl⟩⟩ := h
    rfl
def rdBal (xs : List Bal) (k : Nat) : Bal := xs.getD k Bal.z
theorem rdBal_eq {xs : List Bal} {k : Nat} (h : k < xs.length) : rdBal xs k = xs[k] := by simp [rdBal, h]
theorem atBal {w : World} {A : Option Addr} {n : Nat} {xs : List Bal} (h : Kd.C kBal w A n xs) (k : Nat) (hk : k < n) : ∃ ad, A = some ad ∧ w.cell? (ad.add (k * 3)) = some (.int .i64 (rdBal xs k).Account) ∧ w.cell? ⟨(ad.add (k * 3)).block, (ad.add (k * 3)).off + 1, none⟩ = some (.int .i64 (rdBal xs k).Instr) ∧ w.cell? ⟨(ad.add (k * 3)).block, (ad.add (k * 3)).off + 2, none⟩ = some (.int .i64 (rdBal xs k).Amount) := by
  obtain ⟨ad, c, e, _, hK, hc0⟩ := Kd.C_get h Bal.z (k : Int) (by omega) (by omega)
  rw [Int.toNat_natCast] at hK hc0
  have hc : ∀ j u, c[j]? = some u → w.cell? (ad.add (k * 3 + j)) = some u := hc0
  obtain rfl := flatBal.op _ _ _ hK
  exact ⟨ad, e, hc 0 _ rfl, by rw [← add_field _ _ 1 (by omega)]; exact hc 1 _ rfl, by rw [← add_field _ _ 2 (by omega)]; exact hc 2 _ rfl⟩
structure Leg where
  Account : Int
  Instr : Int
  Amount : Int
  deriving DecidableEq
def Leg.z : Leg := ⟨0, 0, 0⟩
def kLeg : Kd Leg := Kd.iso (Kd.pair (Kd.int .i64) (Kd.pair (Kd.int .i64) (Kd.int .i64))) (fun x : Leg => (x.Account, x.Instr, x.Amount))
def Leg.good (x : Leg) : Prop := ((Lit.int .i64 x.Account).wf = true) ∧ ((Lit.int .i64 x.Instr).wf = true) ∧ ((Lit.int .i64 x.Amount).wf = true)
def Leg.enc (x : Leg) : List Go.Value := [.int .i64 x.Account, .int .i64 x.Instr, .int .i64 x.Amount]
theorem flatLeg : FlatK kLeg Leg.enc where
  K := fun w x => ⟨[.int .i64 x.Account], [.int .i64 x.Instr, .int .i64 x.Amount], rfl, rfl, ⟨[.int .i64 x.Instr], [.int .i64 x.Amount], rfl, rfl, rfl⟩⟩
  M := fun w base ok x => ⟨[.int .i64 x.Account], [.int .i64 x.Instr, .int .i64 x.Amount], rfl, rfl, ⟨[.int .i64 x.Instr], [.int .i64 x.Amount], rfl, rfl, rfl⟩⟩
  op := fun w x cs h => by
    obtain ⟨_, _, rfl, rfl, ⟨_, _, rfl, rfl, rfl⟩⟩ := h
    rfl
def rdLeg (xs : List Leg) (k : Nat) : Leg := xs.getD k Leg.z
theorem rdLeg_eq {xs : List Leg} {k : Nat} (h : k < xs.length) : rdLeg xs k = xs[k] := by simp [rdLeg, h]
theorem atLeg {w : World} {A : Option Addr} {n : Nat} {xs : List Leg} (h : Kd.C kLeg w A n xs) (k : Nat) (hk : k < n) : ∃ ad, A = some ad ∧ w.cell? (ad.add (k * 3)) = some (.int .i64 (rdLeg xs k).Account) ∧ w.cell? ⟨(ad.add (k * 3)).block, (ad.add (k * 3)).off + 1, none⟩ = some (.int .i64 (rdLeg xs k).Instr) ∧ w.cell? ⟨(ad.add (k * 3)).block, (ad.add (k * 3)).off + 2, none⟩ = some (.int .i64 (rdLeg xs k).Amount) := by
  obtain ⟨ad, c, e, _, hK, hc0⟩ := Kd.C_get h Leg.z (k : Int) (by omega) (by omega)
  rw [Int.toNat_natCast] at hK hc0
  have hc : ∀ j u, c[j]? = some u → w.cell? (ad.add (k * 3 + j)) = some u := hc0
  obtain rfl := flatLeg.op _ _ _ hK
  exact ⟨ad, e, hc 0 _ rfl, by rw [← add_field _ _ 1 (by omega)]; exact hc 1 _ rfl, by rw [← add_field _ _ 2 (by omega)]; exact hc 2 _ rfl⟩
structure Lot where
  Account : Int
  Instr : Int
  No : Int
  Qty : Int
  Cost : Int
  deriving DecidableEq
def Lot.z : Lot := ⟨0, 0, 0, 0, 0⟩
def kLot : Kd Lot := Kd.iso (Kd.pair (Kd.int .i64) (Kd.pair (Kd.int .i64) (Kd.pair (Kd.int .i64) (Kd.pair (Kd.int .i64) (Kd.int .i64))))) (fun x : Lot => (x.Account, x.Instr, x.No, x.Qty, x.Cost))
def Lot.good (x : Lot) : Prop := ((Lit.int .i64 x.Account).wf = true) ∧ ((Lit.int .i64 x.Instr).wf = true) ∧ ((Lit.int .i64 x.No).wf = true) ∧ ((Lit.int .i64 x.Qty).wf = true) ∧ ((Lit.int .i64 x.Cost).wf = true)
def Lot.enc (x : Lot) : List Go.Value := [.int .i64 x.Account, .int .i64 x.Instr, .int .i64 x.No, .int .i64 x.Qty, .int .i64 x.Cost]
theorem flatLot : FlatK kLot Lot.enc where
  K := fun w x => ⟨[.int .i64 x.Account], [.int .i64 x.Instr, .int .i64 x.No, .int .i64 x.Qty, .int .i64 x.Cost], rfl, rfl, ⟨[.int .i64 x.Instr], [.int .i64 x.No, .int .i64 x.Qty, .int .i64 x.Cost], rfl, rfl, ⟨[.int .i64 x.No], [.int .i64 x.Qty, .int .i64 x.Cost], rfl, rfl, ⟨[.int .i64 x.Qty], [.int .i64 x.Cost], rfl, rfl, rfl⟩⟩⟩⟩
  M := fun w base ok x => ⟨[.int .i64 x.Account], [.int .i64 x.Instr, .int .i64 x.No, .int .i64 x.Qty, .int .i64 x.Cost], rfl, rfl, ⟨[.int .i64 x.Instr], [.int .i64 x.No, .int .i64 x.Qty, .int .i64 x.Cost], rfl, rfl, ⟨[.int .i64 x.No], [.int .i64 x.Qty, .int .i64 x.Cost], rfl, rfl, ⟨[.int .i64 x.Qty], [.int .i64 x.Cost], rfl, rfl, rfl⟩⟩⟩⟩
  op := fun w x cs h => by
    obtain ⟨_, _, rfl, rfl, ⟨_, _, rfl, rfl, ⟨_, _, rfl, rfl, ⟨_, _, rfl, rfl, rfl⟩⟩⟩⟩ := h
    rfl
def rdLot (xs : List Lot) (k : Nat) : Lot := xs.getD k Lot.z
theorem rdLot_eq {xs : List Lot} {k : Nat} (h : k < xs.length) : rdLot xs k = xs[k] := by simp [rdLot, h]
theorem atLot {w : World} {A : Option Addr} {n : Nat} {xs : List Lot} (h : Kd.C kLot w A n xs) (k : Nat) (hk : k < n) : ∃ ad, A = some ad ∧ w.cell? (ad.add (k * 5)) = some (.int .i64 (rdLot xs k).Account) ∧ w.cell? ⟨(ad.add (k * 5)).block, (ad.add (k * 5)).off + 1, none⟩ = some (.int .i64 (rdLot xs k).Instr) ∧ w.cell? ⟨(ad.add (k * 5)).block, (ad.add (k * 5)).off + 2, none⟩ = some (.int .i64 (rdLot xs k).No) ∧ w.cell? ⟨(ad.add (k * 5)).block, (ad.add (k * 5)).off + 3, none⟩ = some (.int .i64 (rdLot xs k).Qty) ∧ w.cell? ⟨(ad.add (k * 5)).block, (ad.add (k * 5)).off + 4, none⟩ = some (.int .i64 (rdLot xs k).Cost) := by
  obtain ⟨ad, c, e, _, hK, hc0⟩ := Kd.C_get h Lot.z (k : Int) (by omega) (by omega)
  rw [Int.toNat_natCast] at hK hc0
  have hc : ∀ j u, c[j]? = some u → w.cell? (ad.add (k * 5 + j)) = some u := hc0
  obtain rfl := flatLot.op _ _ _ hK
  exact ⟨ad, e, hc 0 _ rfl, by rw [← add_field _ _ 1 (by omega)]; exact hc 1 _ rfl, by rw [← add_field _ _ 2 (by omega)]; exact hc 2 _ rfl, by rw [← add_field _ _ 3 (by omega)]; exact hc 3 _ rfl, by rw [← add_field _ _ 4 (by omega)]; exact hc 4 _ rfl⟩
structure Trade where
  No : Int
  Buyer : Int
  Seller : Int
  Paper : Int
  Qty : Int
  Cash : Int
  Price : Int
  State : Int
  deriving DecidableEq
def Trade.z : Trade := ⟨0, 0, 0, 0, 0, 0, 0, 0⟩
def kTrade : Kd Trade := Kd.iso (Kd.pair (Kd.int .i64) (Kd.pair (Kd.int .i64) (Kd.pair (Kd.int .i64) (Kd.pair (Kd.int .i64) (Kd.pair (Kd.int .i64) (Kd.pair (Kd.int .i64) (Kd.pair (Kd.int .i64) (Kd.int .i64)))))))) (fun x : Trade => (x.No, x.Buyer, x.Seller, x.Paper, x.Qty, x.Cash, x.Price, x.State))
def Trade.good (x : Trade) : Prop := ((Lit.int .i64 x.No).wf = true) ∧ ((Lit.int .i64 x.Buyer).wf = true) ∧ ((Lit.int .i64 x.Seller).wf = true) ∧ ((Lit.int .i64 x.Paper).wf = true) ∧ ((Lit.int .i64 x.Qty).wf = true) ∧ ((Lit.int .i64 x.Cash).wf = true) ∧ ((Lit.int .i64 x.Price).wf = true) ∧ ((Lit.int .i64 x.State).wf = true)
def Trade.enc (x : Trade) : List Go.Value := [.int .i64 x.No, .int .i64 x.Buyer, .int .i64 x.Seller, .int .i64 x.Paper, .int .i64 x.Qty, .int .i64 x.Cash, .int .i64 x.Price, .int .i64 x.State]
theorem flatTrade : FlatK kTrade Trade.enc where
  K := fun w x => ⟨[.int .i64 x.No], [.int .i64 x.Buyer, .int .i64 x.Seller, .int .i64 x.Paper, .int .i64 x.Qty, .int .i64 x.Cash, .int .i64 x.Price, .int .i64 x.State], rfl, rfl, ⟨[.int .i64 x.Buyer], [.int .i64 x.Seller, .int .i64 x.Paper, .int .i64 x.Qty, .int .i64 x.Cash, .int .i64 x.Price, .int .i64 x.State], rfl, rfl, ⟨[.int .i64 x.Seller], [.int .i64 x.Paper, .int .i64 x.Qty, .int .i64 x.Cash, .int .i64 x.Price, .int .i64 x.State], rfl, rfl, ⟨[.int .i64 x.Paper], [.int .i64 x.Qty, .int .i64 x.Cash, .int .i64 x.Price, .int .i64 x.State], rfl, rfl, ⟨[.int .i64 x.Qty], [.int .i64 x.Cash, .int .i64 x.Price, .int .i64 x.State], rfl, rfl, ⟨[.int .i64 x.Cash], [.int .i64 x.Price, .int .i64 x.State], rfl, rfl, ⟨[.int .i64 x.Price], [.int .i64 x.State], rfl, rfl, rfl⟩⟩⟩⟩⟩⟩⟩
  M := fun w base ok x => ⟨[.int .i64 x.No], [.int .i64 x.Buyer, .int .i64 x.Seller, .int .i64 x.Paper, .int .i64 x.Qty, .int .i64 x.Cash, .int .i64 x.Price, .int .i64 x.State], rfl, rfl, ⟨[.int .i64 x.Buyer], [.int .i64 x.Seller, .int .i64 x.Paper, .int .i64 x.Qty, .int .i64 x.Cash, .int .i64 x.Price, .int .i64 x.State], rfl, rfl, ⟨[.int .i64 x.Seller], [.int .i64 x.Paper, .int .i64 x.Qty, .int .i64 x.Cash, .int .i64 x.Price, .int .i64 x.State], rfl, rfl, ⟨[.int .i64 x.Paper], [.int .i64 x.Qty, .int .i64 x.Cash, .int .i64 x.Price, .int .i64 x.State], rfl, rfl, ⟨[.int .i64 x.Qty], [.int .i64 x.Cash, .int .i64 x.Price, .int .i64 x.State], rfl, rfl, ⟨[.int .i64 x.Cash], [.int .i64 x.Price, .int .i64 x.State], rfl, rfl, ⟨[.int .i64 x.Price], [.int .i64 x.State], rfl, rfl, rfl⟩⟩⟩⟩⟩⟩⟩
  op := fun w x cs h => by
    obtain ⟨_, _, rfl, rfl, ⟨_, _, rfl, rfl, ⟨_, _, rfl, rfl, ⟨_, _, rfl, rfl, ⟨_, _, rfl, rfl, ⟨_, _, rfl, rfl, ⟨_, _, rfl, rfl, rfl⟩⟩⟩⟩⟩⟩⟩ := h
    rfl
def rdTrade (xs : List Trade) (k : Nat) : Trade := xs.getD k Trade.z
theorem rdTrade_eq {xs : List Trade} {k : Nat} (h : k < xs.length) : rdTrade xs k = xs[k] := by simp [rdTrade, h]
theorem atTrade {w : World} {A : Option Addr} {n : Nat} {xs : List Trade} (h : Kd.C kTrade w A n xs) (k : Nat) (hk : k < n) : ∃ ad, A = some ad ∧ w.cell? (ad.add (k * 8)) = some (.int .i64 (rdTrade xs k).No) ∧ w.cell? ⟨(ad.add (k * 8)).block, (ad.add (k * 8)).off + 1, none⟩ = some (.int .i64 (rdTrade xs k).Buyer) ∧ w.cell? ⟨(ad.add (k * 8)).block, (ad.add (k * 8)).off + 2, none⟩ = some (.int .i64 (rdTrade xs k).Seller) ∧ w.cell? ⟨(ad.add (k * 8)).block, (ad.add (k * 8)).off + 3, none⟩ = some (.int .i64 (rdTrade xs k).Paper) ∧ w.cell? ⟨(ad.add (k * 8)).block, (ad.add (k * 8)).off + 4, none⟩ = some (.int .i64 (rdTrade xs k).Qty) ∧ w.cell? ⟨(ad.add (k * 8)).block, (ad.add (k * 8)).off + 5, none⟩ = some (.int .i64 (rdTrade xs k).Cash) ∧ w.cell? ⟨(ad.add (k * 8)).block, (ad.add (k * 8)).off + 6, none⟩ = some (.int .i64 (rdTrade xs k).Price) ∧ w.cell? ⟨(ad.add (k * 8)).block, (ad.add (k * 8)).off + 7, none⟩ = some (.int .i64 (rdTrade xs k).State) := by
  obtain ⟨ad, c, e, _, hK, hc0⟩ := Kd.C_get h Trade.z (k : Int) (by omega) (by omega)
  rw [Int.toNat_natCast] at hK hc0
  have hc : ∀ j u, c[j]? = some u → w.cell? (ad.add (k * 8 + j)) = some u := hc0
  obtain rfl := flatTrade.op _ _ _ hK
  exact ⟨ad, e, hc 0 _ rfl, by rw [← add_field _ _ 1 (by omega)]; exact hc 1 _ rfl, by rw [← add_field _ _ 2 (by omega)]; exact hc 2 _ rfl, by rw [← add_field _ _ 3 (by omega)]; exact hc 3 _ rfl, by rw [← add_field _ _ 4 (by omega)]; exact hc 4 _ rfl, by rw [← add_field _ _ 5 (by omega)]; exact hc 5 _ rfl, by rw [← add_field _ _ 6 (by omega)]; exact hc 6 _ rfl, by rw [← add_field _ _ 7 (by omega)]; exact hc 7 _ rfl⟩
structure File where
  Name : Int
  Safe : ByteArray
  Late : ByteArray
  deriving DecidableEq
def File.z : File := ⟨0, ⟨#[]⟩, ⟨#[]⟩⟩
def kFile : Kd File := Kd.iso (Kd.pair (Kd.int .i64) (Kd.pair Kd.string Kd.string)) (fun x : File => (x.Name, x.Safe, x.Late))
def File.good (x : File) : Prop := ((Lit.int .i64 x.Name).wf = true) ∧ (x.Safe.size ≤ maxLen) ∧ (x.Late.size ≤ maxLen)
def File.enc (x : File) : List Go.Value := [.int .i64 x.Name, .string x.Safe, .string x.Late]
theorem flatFile : FlatK kFile File.enc where
  K := fun w x => ⟨[.int .i64 x.Name], [.string x.Safe, .string x.Late], rfl, rfl, ⟨[.string x.Safe], [.string x.Late], rfl, rfl, rfl⟩⟩
  M := fun w base ok x => ⟨[.int .i64 x.Name], [.string x.Safe, .string x.Late], rfl, rfl, ⟨[.string x.Safe], [.string x.Late], rfl, rfl, rfl⟩⟩
  op := fun w x cs h => by
    obtain ⟨_, _, rfl, rfl, ⟨_, _, rfl, rfl, rfl⟩⟩ := h
    rfl
def rdFile (xs : List File) (k : Nat) : File := xs.getD k File.z
theorem rdFile_eq {xs : List File} {k : Nat} (h : k < xs.length) : rdFile xs k = xs[k] := by simp [rdFile, h]
theorem atFile {w : World} {A : Option Addr} {n : Nat} {xs : List File} (h : Kd.C kFile w A n xs) (k : Nat) (hk : k < n) : ∃ ad, A = some ad ∧ w.cell? (ad.add (k * 3)) = some (.int .i64 (rdFile xs k).Name) ∧ w.cell? ⟨(ad.add (k * 3)).block, (ad.add (k * 3)).off + 1, none⟩ = some (.string (rdFile xs k).Safe) ∧ w.cell? ⟨(ad.add (k * 3)).block, (ad.add (k * 3)).off + 2, none⟩ = some (.string (rdFile xs k).Late) := by
  obtain ⟨ad, c, e, _, hK, hc0⟩ := Kd.C_get h File.z (k : Int) (by omega) (by omega)
  rw [Int.toNat_natCast] at hK hc0
  have hc : ∀ j u, c[j]? = some u → w.cell? (ad.add (k * 3 + j)) = some u := hc0
  obtain rfl := flatFile.op _ _ _ hK
  exact ⟨ad, e, hc 0 _ rfl, by rw [← add_field _ _ 1 (by omega)]; exact hc 1 _ rfl, by rw [← add_field _ _ 2 (by omega)]; exact hc 2 _ rfl⟩
structure Reply where
  Code : Int
  Value : Int
  deriving DecidableEq
def Reply.z : Reply := ⟨0, 0⟩
def kReply : Kd Reply := Kd.iso (Kd.pair (Kd.int .i64) (Kd.int .i64)) (fun x : Reply => (x.Code, x.Value))
def Reply.good (x : Reply) : Prop := ((Lit.int .i64 x.Code).wf = true) ∧ ((Lit.int .i64 x.Value).wf = true)
def Reply.enc (x : Reply) : List Go.Value := [.int .i64 x.Code, .int .i64 x.Value]
theorem flatReply : FlatK kReply Reply.enc where
  K := fun w x => ⟨[.int .i64 x.Code], [.int .i64 x.Value], rfl, rfl, rfl⟩
  M := fun w base ok x => ⟨[.int .i64 x.Code], [.int .i64 x.Value], rfl, rfl, rfl⟩
  op := fun w x cs h => by
    obtain ⟨_, _, rfl, rfl, rfl⟩ := h
    rfl
def rdReply (xs : List Reply) (k : Nat) : Reply := xs.getD k Reply.z
theorem rdReply_eq {xs : List Reply} {k : Nat} (h : k < xs.length) : rdReply xs k = xs[k] := by simp [rdReply, h]
theorem atReply {w : World} {A : Option Addr} {n : Nat} {xs : List Reply} (h : Kd.C kReply w A n xs) (k : Nat) (hk : k < n) : ∃ ad, A = some ad ∧ w.cell? (ad.add (k * 2)) = some (.int .i64 (rdReply xs k).Code) ∧ w.cell? ⟨(ad.add (k * 2)).block, (ad.add (k * 2)).off + 1, none⟩ = some (.int .i64 (rdReply xs k).Value) := by
  obtain ⟨ad, c, e, _, hK, hc0⟩ := Kd.C_get h Reply.z (k : Int) (by omega) (by omega)
  rw [Int.toNat_natCast] at hK hc0
  have hc : ∀ j u, c[j]? = some u → w.cell? (ad.add (k * 2 + j)) = some u := hc0
  obtain rfl := flatReply.op _ _ _ hK
  exact ⟨ad, e, hc 0 _ rfl, by rw [← add_field _ _ 1 (by omega)]; exact hc 1 _ rfl⟩
end Go.Proofs.Ytbbeaghhchjkgaa.Ty
