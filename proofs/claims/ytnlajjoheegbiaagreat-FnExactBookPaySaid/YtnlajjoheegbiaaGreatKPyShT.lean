/- The program's types, as the walks know them. No condition. -/
import Derived.Test.YtnlajjoheegbiaaGreatKPyShL
import Derived.Test.YtnlajjoheegbiaaGreatProg
namespace Go.Proofs.YtnlajjoheegbiaaGreat.Sh
open Go.RowKit
def Tb : TB := [(2, ⟨.int .i64, 1, 8, false, [.int .i64 0]⟩),
  (3, ⟨.int .i64, 1, 8, false, [.int .i64 0]⟩),
  (4, ⟨.bool, 1, 1, false, [.bool false]⟩),
  (5, ⟨.int .u8, 1, 1, false, [.int .u8 0]⟩),
  (9, ⟨.str, 1, 16, false, [.string ⟨#[]⟩]⟩),
  (15, ⟨.other, 1, 8, false, [.pointer none]⟩),
  (16, ⟨.other, 1, 8, false, [.pointer none]⟩),
  (17, ⟨.other, 1, 8, false, [.pointer none]⟩),
  (21, ⟨.int .i32, 1, 4, false, [.int .i32 0]⟩),
  (22, ⟨.slice 166, 1, 24, false, [.slice none 0 0]⟩),
  (23, ⟨.slice 168, 1, 24, false, [.slice none 0 0]⟩),
  (24, ⟨.slice 170, 1, 24, false, [.slice none 0 0]⟩),
  (25, ⟨.slice 172, 1, 24, false, [.slice none 0 0]⟩),
  (26, ⟨.slice 174, 1, 24, false, [.slice none 0 0]⟩),
  (28, ⟨.struct [(0, 22), (1, 23), (2, 24), (3, 25), (4, 26), (5, 3)], 6, 128, true, [.slice none 0 0, .slice none 0 0, .slice none 0 0, .slice none 0 0, .slice none 0 0, .int .i64 0]⟩),
  (30, ⟨.slice 5, 1, 24, false, [.slice none 0 0]⟩),
  (33, ⟨.slice 94, 1, 24, false, [.slice none 0 0]⟩),
  (34, ⟨.slice 95, 1, 24, false, [.slice none 0 0]⟩),
  (35, ⟨.slice 97, 1, 24, false, [.slice none 0 0]⟩),
  (36, ⟨.slice 99, 1, 24, false, [.slice none 0 0]⟩),
  (37, ⟨.slice 101, 1, 24, false, [.slice none 0 0]⟩),
  (39, ⟨.struct [(0, 33), (1, 34), (2, 35), (3, 36), (4, 37), (5, 3)], 6, 128, true, [.slice none 0 0, .slice none 0 0, .slice none 0 0, .slice none 0 0, .slice none 0 0, .int .i64 0]⟩),
  (46, ⟨.slice 3, 1, 24, false, [.slice none 0 0]⟩),
  (47, ⟨.slice 117, 1, 24, false, [.slice none 0 0]⟩),
  (68, ⟨.slice 150, 1, 24, false, [.slice none 0 0]⟩),
  (70, ⟨.slice 152, 1, 24, false, [.slice none 0 0]⟩),
  (73, ⟨.slice 155, 1, 24, false, [.slice none 0 0]⟩),
  (94, ⟨.struct [(0, 3), (1, 3)], 2, 16, true, [.int .i64 0, .int .i64 0]⟩),
  (95, ⟨.struct [(0, 3), (1, 3)], 2, 16, true, [.int .i64 0, .int .i64 0]⟩),
  (97, ⟨.struct [(0, 3), (1, 3), (2, 3)], 3, 24, true, [.int .i64 0, .int .i64 0, .int .i64 0]⟩),
  (99, ⟨.struct [(0, 3), (1, 3), (2, 3), (3, 3), (4, 3)], 5, 40, true, [.int .i64 0, .int .i64 0, .int .i64 0, .int .i64 0, .int .i64 0]⟩),
  (101, ⟨.struct [(0, 3), (1, 3), (2, 3), (3, 3), (4, 3), (5, 3), (6, 3), (7, 3)], 8, 64, true, [.int .i64 0, .int .i64 0, .int .i64 0, .int .i64 0, .int .i64 0, .int .i64 0, .int .i64 0, .int .i64 0]⟩),
  (117, ⟨.struct [(0, 3), (1, 3), (2, 3)], 3, 24, true, [.int .i64 0, .int .i64 0, .int .i64 0]⟩),
  (150, ⟨.struct [(0, 3), (1, 46)], 2, 32, true, [.int .i64 0, .slice none 0 0]⟩),
  (152, ⟨.struct [(0, 3), (1, 3)], 2, 16, true, [.int .i64 0, .int .i64 0]⟩),
  (155, ⟨.struct [(0, 3), (1, 46)], 2, 32, true, [.int .i64 0, .slice none 0 0]⟩),
  (166, ⟨.struct [(0, 3), (1, 3)], 2, 16, true, [.int .i64 0, .int .i64 0]⟩),
  (168, ⟨.struct [(0, 3), (1, 3)], 2, 16, true, [.int .i64 0, .int .i64 0]⟩),
  (170, ⟨.struct [(0, 3), (1, 3), (2, 3)], 3, 24, true, [.int .i64 0, .int .i64 0, .int .i64 0]⟩),
  (172, ⟨.struct [(0, 3), (1, 3), (2, 3), (3, 3), (4, 3)], 5, 40, true, [.int .i64 0, .int .i64 0, .int .i64 0, .int .i64 0, .int .i64 0]⟩),
  (174, ⟨.struct [(0, 3), (1, 3), (2, 3), (3, 3), (4, 3), (5, 3), (6, 3), (7, 3)], 8, 64, true, [.int .i64 0, .int .i64 0, .int .i64 0, .int .i64 0, .int .i64 0, .int .i64 0, .int .i64 0, .int .i64 0]⟩),
  (191, ⟨.other, 1, 8, false, [.pointer none]⟩),
  (195, ⟨.int .u64, 1, 8, false, [.int .u64 0]⟩),
  (227, ⟨.int .u64, 1, 8, false, [.int .u64 0]⟩),
  (271, ⟨.int .u32, 1, 4, false, [.int .u32 0]⟩),
  (279, ⟨.other, 1, 8, false, [.pointer none]⟩),
  (281, ⟨.other, 1, 8, false, [.pointer none]⟩),
  (285, ⟨.other, 1, 8, false, [.pointer none]⟩),
  (296, ⟨.other, 1, 8, false, [.pointer none]⟩)]
theorem tk : TOk Tryz.prog Tb := TOk.of_check (by kernel_rfl)
end Go.Proofs.YtnlajjoheegbiaaGreat.Sh
namespace Go.Proofs.YtnlajjoheegbiaaGreat.Sh
open Go.RowKit
set_option linter.unusedVariables false
instance : Enc Int where
  sz := 1
  enc := fun x => [.int .i64 x]
  dec := fun vs => match vs with
    | [.int .i64 a] => some a
    | _ => none
  z := 0
  len := fun _ => rfl
  pos := by decide
  one := fun _ => rfl
  decE := fun {vs x} h => by
    split at h
    · cases h; rfl
    · cases h
structure By where
  v : Int
instance : Enc By where
  sz := 1
  enc := fun x => [.int .u8 x.v]
  dec := fun vs => match vs with
    | [.int .u8 a] => some ⟨a⟩
    | _ => none
  z := ⟨0⟩
  len := fun _ => rfl
  pos := by decide
  one := fun _ => rfl
  decE := fun {vs x} h => by
    split at h
    · cases h; rfl
    · cases h
structure Account where
  No : Int
  Kind : Int
  deriving DecidableEq
instance : Enc Account where
  sz := 2
  enc := fun x => [.int .i64 x.No, .int .i64 x.Kind]
  dec := fun vs => match vs with
    | [.int .i64 a0, .int .i64 a1] => some ⟨a0, a1⟩
    | _ => none
  z := ⟨0, 0⟩
  len := fun _ => rfl
  pos := by decide
  one := fun _ => rfl
  decE := fun {vs x} h => by
    split at h
    · cases h; rfl
    · cases h
structure Instr where
  No : Int
  Kind : Int
  deriving DecidableEq
instance : Enc Instr where
  sz := 2
  enc := fun x => [.int .i64 x.No, .int .i64 x.Kind]
  dec := fun vs => match vs with
    | [.int .i64 a0, .int .i64 a1] => some ⟨a0, a1⟩
    | _ => none
  z := ⟨0, 0⟩
  len := fun _ => rfl
  pos := by decide
  one := fun _ => rfl
  decE := fun {vs x} h => by
    split at h
    · cases h; rfl
    · cases h
structure Bal where
  Account : Int
  Instr : Int
  Amount : Int
  deriving DecidableEq
instance : Enc Bal where
  sz := 3
  enc := fun x => [.int .i64 x.Account, .int .i64 x.Instr, .int .i64 x.Amount]
  dec := fun vs => match vs with
    | [.int .i64 a0, .int .i64 a1, .int .i64 a2] => some ⟨a0, a1, a2⟩
    | _ => none
  z := ⟨0, 0, 0⟩
  len := fun _ => rfl
  pos := by decide
  one := fun _ => rfl
  decE := fun {vs x} h => by
    split at h
    · cases h; rfl
    · cases h
structure Leg where
  Account : Int
  Instr : Int
  Amount : Int
  deriving DecidableEq
instance : Enc Leg where
  sz := 3
  enc := fun x => [.int .i64 x.Account, .int .i64 x.Instr, .int .i64 x.Amount]
  dec := fun vs => match vs with
    | [.int .i64 a0, .int .i64 a1, .int .i64 a2] => some ⟨a0, a1, a2⟩
    | _ => none
  z := ⟨0, 0, 0⟩
  len := fun _ => rfl
  pos := by decide
  one := fun _ => rfl
  decE := fun {vs x} h => by
    split at h
    · cases h; rfl
    · cases h
structure Lot where
  Account : Int
  Instr : Int
  No : Int
  Qty : Int
  Cost : Int
  deriving DecidableEq
instance : Enc Lot where
  sz := 5
  enc := fun x => [.int .i64 x.Account, .int .i64 x.Instr, .int .i64 x.No, .int .i64 x.Qty, .int .i64 x.Cost]
  dec := fun vs => match vs with
    | [.int .i64 a0, .int .i64 a1, .int .i64 a2, .int .i64 a3, .int .i64 a4] => some ⟨a0, a1, a2, a3, a4⟩
    | _ => none
  z := ⟨0, 0, 0, 0, 0⟩
  len := fun _ => rfl
  pos := by decide
  one := fun _ => rfl
  decE := fun {vs x} h => by
    split at h
    · cases h; rfl
    · cases h
structure Trade where
  No : Int
  Buyer : Int
  Seller : Int
  Paper : Int
  Qty : Int
  Cash : Int
  Price : Int
  State : Int
  deriving DecidableEq
instance : Enc Trade where
  sz := 8
  enc := fun x => [.int .i64 x.No, .int .i64 x.Buyer, .int .i64 x.Seller, .int .i64 x.Paper, .int .i64 x.Qty, .int .i64 x.Cash, .int .i64 x.Price, .int .i64 x.State]
  dec := fun vs => match vs with
    | [.int .i64 a0, .int .i64 a1, .int .i64 a2, .int .i64 a3, .int .i64 a4, .int .i64 a5, .int .i64 a6, .int .i64 a7] => some ⟨a0, a1, a2, a3, a4, a5, a6, a7⟩
    | _ => none
  z := ⟨0, 0, 0, 0, 0, 0, 0, 0⟩
  len := fun _ => rfl
  pos := by decide
  one := fun _ => rfl
  decE := fun {vs x} h => by
    split at h
    · cases h; rfl
    · cases h
structure Reply where
  Code : Int
  Value : Int
  deriving DecidableEq
instance : Enc Reply where
  sz := 2
  enc := fun x => [.int .i64 x.Code, .int .i64 x.Value]
  dec := fun vs => match vs with
    | [.int .i64 a0, .int .i64 a1] => some ⟨a0, a1⟩
    | _ => none
  z := ⟨0, 0⟩
  len := fun _ => rfl
  pos := by decide
  one := fun _ => rfl
  decE := fun {vs x} h => by
    split at h
    · cases h; rfl
    · cases h
end Go.Proofs.YtnlajjoheegbiaaGreat.Sh
