/- The program's things, and how they lie in cells. No condition. -/
import Derived.Test.YtnlajjoheegbiaaGreatShT
namespace Go.Proofs.YtnlajjoheegbiaaGreat.Sh
open Go.RowKit
set_option linter.unusedVariables false
instance : Enc Int where
  sz := 1
  enc := fun x => [.int .i64 x]
  dec := fun vs => match vs with
    | [.int .i64 a] => some a
    | _ => none
  z := 0
  len := fun _ => rfl
  pos := by decide
  one := fun _ => rfl
  decE := fun {vs x} h => by
    split at h
    · cases h; rfl
    · cases h
/-- A byte. -/
structure By where
  v : Int
instance : Enc By where
  sz := 1
  enc := fun x => [.int .u8 x.v]
  dec := fun vs => match vs with
    | [.int .u8 a] => some ⟨a⟩
    | _ => none
  z := ⟨0⟩
  len := fun _ => rfl
  pos := by decide
  one := fun _ => rfl
  decE := fun {vs x} h => by
    split at h
    · cases h; rfl
    · cases h
structure Account where
  No : Int
  Kind : Int
  deriving DecidableEq
instance : Enc Account where
  sz := 2
  enc := fun x => [.int .i64 x.No, .int .i64 x.Kind]
  dec := fun vs => match vs with
    | [.int .i64 a0, .int .i64 a1] => some ⟨a0, a1⟩
    | _ => none
  z := ⟨0, 0⟩
  len := fun _ => rfl
  pos := by decide
  one := fun _ => rfl
  decE := fun {vs x} h => by
    split at h
    · cases h; rfl
    · cases h
structure Instr where
  No : Int
  Kind : Int
  deriving DecidableEq
instance : Enc Instr where
  sz := 2
  enc := fun x => [.int .i64 x.No, .int .i64 x.Kind]
  dec := fun vs => match vs with
    | [.int .i64 a0, .int .i64 a1] => some ⟨a0, a1⟩
    | _ => none
  z := ⟨0, 0⟩
  len := fun _ => rfl
  pos := by decide
  one := fun _ => rfl
  decE := fun {vs x} h => by
    split at h
    · cases h; rfl
    · cases h
structure Bal where
  Account : Int
  Instr : Int
  Amount : Int
  deriving DecidableEq
instance : Enc Bal where
  sz := 3
  enc := fun x => [.int .i64 x.Account, .int .i64 x.Instr, .int .i64 x.Amount]
  dec := fun vs => match vs with
    | [.int .i64 a0, .int .i64 a1, .int .i64 a2] => some ⟨a0, a1, a2⟩
    | _ => none
  z := ⟨0, 0, 0⟩
  len := fun _ => rfl
  pos := by decide
  one := fun _ => rfl
  decE := fun {vs x} h => by
    split at h
    · cases h; rfl
    · cases h
structure Leg where
  Account : Int
  Instr : Int
  Amount : Int
  deriving DecidableEq
instance : Enc Leg where
  sz := 3
  enc := fun x => [.int .i64 x.Account, .int .i64 x.Instr, .int .i64 x.Amount]
  dec := fun vs => match vs with
    | [.int .i64 a0, .int .i64 a1, .int .i64 a2] => some ⟨a0, a1, a2⟩
    | _ => none
  z := ⟨0, 0, 0⟩
  len := fun _ => rfl
  pos := by decide
  one := fun _ => rfl
  decE := fun {vs x} h => by
    split at h
    · cases h; rfl
    · cases h
structure Lot where
  Account : Int
  Instr : Int
  No : Int
  Qty : Int
  Cost : Int
  deriving DecidableEq
instance : Enc Lot where
  sz := 5
  enc := fun x => [.int .i64 x.Account, .int .i64 x.Instr, .int .i64 x.No, .int .i64 x.Qty, .int .i64 x.Cost]
  dec := fun vs => match vs with
    | [.int .i64 a0, .int .i64 a1, .int .i64 a2, .int .i64 a3, .int .i64 a4] => some ⟨a0, a1, a2, a3, a4⟩
    | _ => none
  z := ⟨0, 0, 0, 0, 0⟩
  len := fun _ => rfl
  pos := by decide
  one := fun _ => rfl
  decE := fun {vs x} h => by
    split at h
    · cases h; rfl
    · cases h
structure Trade where
  No : Int
  Buyer : Int
  Seller : Int
  Paper : Int
  Qty : Int
  Cash : Int
  Price : Int
  State : Int
  deriving DecidableEq
instance : Enc Trade where
  sz := 8
  enc := fun x => [.int .i64 x.No, .int .i64 x.Buyer, .int .i64 x.Seller, .int .i64 x.Paper, .int .i64 x.Qty, .int .i64 x.Cash, .int .i64 x.Price, .int .i64 x.State]
  dec := fun vs => match vs with
    | [.int .i64 a0, .int .i64 a1, .int .i64 a2, .int .i64 a3, .int .i64 a4, .int .i64 a5, .int .i64 a6, .int .i64 a7] => some ⟨a0, a1, a2, a3, a4, a5, a6, a7⟩
    | _ => none
  z := ⟨0, 0, 0, 0, 0, 0, 0, 0⟩
  len := fun _ => rfl
  pos := by decide
  one := fun _ => rfl
  decE := fun {vs x} h => by
    split at h
    · cases h; rfl
    · cases h
structure Reply where
  Code : Int
  Value : Int
  deriving DecidableEq
instance : Enc Reply where
  sz := 2
  enc := fun x => [.int .i64 x.Code, .int .i64 x.Value]
  dec := fun vs => match vs with
    | [.int .i64 a0, .int .i64 a1] => some ⟨a0, a1⟩
    | _ => none
  z := ⟨0, 0⟩
  len := fun _ => rfl
  pos := by decide
  one := fun _ => rfl
  decE := fun {vs x} h => by
    split at h
    · cases h; rfl
    · cases h
end Go.Proofs.YtnlajjoheegbiaaGreat.Sh
