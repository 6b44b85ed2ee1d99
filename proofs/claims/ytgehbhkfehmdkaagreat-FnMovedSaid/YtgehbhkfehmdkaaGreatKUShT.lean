/- The program's types, as the walks know them. No condition. -/
import Derived.Test.YtgehbhkfehmdkaaGreatKUShK
import Derived.Test.YtgehbhkfehmdkaaGreatProg
set_option linter.unusedVariables false
namespace Go.Proofs.YtgehbhkfehmdkaaGreat.Sh
section
open Go.RowKit
def Tb:TB:=[(2,⟨.int .i64,1,8,false,[.int .i64 0]⟩),
 (3,⟨.int .i64,1,8,false,[.int .i64 0]⟩),
 (4,⟨.bool,1,1,false,[.bool false]⟩),
 (5,⟨.int .u8,1,1,false,[.int .u8 0]⟩),
 (9,⟨.str,1,16,false,[.string ⟨#[]⟩]⟩),
 (15,⟨.other,1,8,false,[.pointer none]⟩),
 (16,⟨.other,1,8,false,[.pointer none]⟩),
 (17,⟨.other,1,8,false,[.pointer none]⟩),
 (21,⟨.int .i32,1,4,false,[.int .i32 0]⟩),
 (22,⟨.slice 5,1,24,false,[.slice none 0 0]⟩),
 (24,⟨.slice 42,1,24,false,[.slice none 0 0]⟩),
 (25,⟨.slice 74,1,24,false,[.slice none 0 0]⟩),
 (26,⟨.slice 135,1,24,false,[.slice none 0 0]⟩),
 (27,⟨.slice 137,1,24,false,[.slice none 0 0]⟩),
 (28,⟨.slice 103,1,24,false,[.slice none 0 0]⟩),
 (30,⟨.struct [(0,24),(1,25),(2,26),(3,27),(4,28),(5,3)],6,128,true,[.slice none 0 0,.slice none 0 0,.slice none 0 0,.slice none 0 0,.slice none 0 0,.int .i64 0]⟩),
 (33,⟨.slice 46,1,24,false,[.slice none 0 0]⟩),
 (37,⟨.slice 3,1,24,false,[.slice none 0 0]⟩),
 (42,⟨.struct [(0,3),(1,3)],2,16,true,[.int .i64 0,.int .i64 0]⟩),
 (46,⟨.struct [(0,3),(1,3),(2,3)],3,24,true,[.int .i64 0,.int .i64 0,.int .i64 0]⟩),
 (62,⟨.slice 70,1,24,false,[.slice none 0 0]⟩),
 (66,⟨.struct [(0,3),(1,3)],2,16,true,[.int .i64 0,.int .i64 0]⟩),
 (70,⟨.struct [(0,3),(1,37)],2,32,true,[.int .i64 0,.slice none 0 0]⟩),
 (74,⟨.struct [(0,3),(1,3)],2,16,true,[.int .i64 0,.int .i64 0]⟩),
 (89,⟨.slice 245,1,24,false,[.slice none 0 0]⟩),
 (90,⟨.slice 247,1,24,false,[.slice none 0 0]⟩),
 (91,⟨.slice 249,1,24,false,[.slice none 0 0]⟩),
 (92,⟨.slice 251,1,24,false,[.slice none 0 0]⟩),
 (93,⟨.slice 253,1,24,false,[.slice none 0 0]⟩),
 (95,⟨.struct [(0,89),(1,90),(2,91),(3,92),(4,93),(5,3)],6,128,true,[.slice none 0 0,.slice none 0 0,.slice none 0 0,.slice none 0 0,.slice none 0 0,.int .i64 0]⟩),
 (103,⟨.struct [(0,3),(1,3),(2,3),(3,3),(4,3),(5,3),(6,3),(7,3)],8,64,true,[.int .i64 0,.int .i64 0,.int .i64 0,.int .i64 0,.int .i64 0,.int .i64 0,.int .i64 0,.int .i64 0]⟩),
 (110,⟨.slice 66,1,24,false,[.slice none 0 0]⟩),
 (113,⟨.struct [(0,3),(1,37)],2,32,true,[.int .i64 0,.slice none 0 0]⟩),
 (120,⟨.slice 113,1,24,false,[.slice none 0 0]⟩),
 (135,⟨.struct [(0,3),(1,3),(2,3)],3,24,true,[.int .i64 0,.int .i64 0,.int .i64 0]⟩),
 (137,⟨.struct [(0,3),(1,3),(2,3),(3,3),(4,3)],5,40,true,[.int .i64 0,.int .i64 0,.int .i64 0,.int .i64 0,.int .i64 0]⟩),
 (172,⟨.other,1,8,false,[.pointer none]⟩),
 (208,⟨.other,1,8,false,[.pointer none]⟩),
 (217,⟨.int .u64,1,8,false,[.int .u64 0]⟩),
 (236,⟨.struct [(0,22),(1,3),(2,3)],3,40,true,[.slice none 0 0,.int .i64 0,.int .i64 0]⟩),
 (245,⟨.struct [(0,3),(1,3)],2,16,true,[.int .i64 0,.int .i64 0]⟩),
 (247,⟨.struct [(0,3),(1,3)],2,16,true,[.int .i64 0,.int .i64 0]⟩),
 (249,⟨.struct [(0,3),(1,3),(2,3)],3,24,true,[.int .i64 0,.int .i64 0,.int .i64 0]⟩),
 (251,⟨.struct [(0,3),(1,3),(2,3),(3,3),(4,3)],5,40,true,[.int .i64 0,.int .i64 0,.int .i64 0,.int .i64 0,.int .i64 0]⟩),
 (253,⟨.struct [(0,3),(1,3),(2,3),(3,3),(4,3),(5,3),(6,3),(7,3)],8,64,true,[.int .i64 0,.int .i64 0,.int .i64 0,.int .i64 0,.int .i64 0,.int .i64 0,.int .i64 0,.int .i64 0]⟩),
 (272,⟨.int .u64,1,8,false,[.int .u64 0]⟩),
 (307,⟨.int .u32,1,4,false,[.int .u32 0]⟩),
 (312,⟨.other,1,8,false,[.pointer none]⟩),
 (316,⟨.other,1,8,false,[.pointer none]⟩),
 (318,⟨.other,1,8,false,[.pointer none]⟩),
 (329,⟨.other,1,8,false,[.pointer none]⟩)]
theorem tk:TOk Tryz.prog Tb:=TOk.of_check (by kernel_rfl)
end
section
open Go.RowKit
instance:Enc Int where
 sz:=1
 enc:=fun x => [.int .i64 x]
 dec:=fun vs => match vs with
  | [.int .i64 a] => some a
  | _ => none
 z:=0
 len:=fun _ => rfl
 pos:=by decide
 one:=fun _ => rfl
 decE:=fun {vs x} h => by
  split at h
  ·cases h;rfl
  ·cases h
structure By where
 v:Int
instance:Enc By where
 sz:=1
 enc:=fun x => [.int .u8 x.v]
 dec:=fun vs => match vs with
  | [.int .u8 a] => some ⟨a⟩
  | _ => none
 z:=⟨0⟩
 len:=fun _ => rfl
 pos:=by decide
 one:=fun _ => rfl
 decE:=fun {vs x} h => by
  split at h
  ·cases h;rfl
  ·cases h
structure Account where
 No:Int
 Kind:Int
 deriving DecidableEq
instance:Enc Account where
 sz:=2
 enc:=fun x => [.int .i64 x.No,.int .i64 x.Kind]
 dec:=fun vs => match vs with
  | [.int .i64 a0,.int .i64 a1] => some ⟨a0,a1⟩
  | _ => none
 z:=⟨0,0⟩
 len:=fun _ => rfl
 pos:=by decide
 one:=fun _ => rfl
 decE:=fun {vs x} h => by
  split at h
  ·cases h;rfl
  ·cases h
structure Instr where
 No:Int
 Kind:Int
 deriving DecidableEq
instance:Enc Instr where
 sz:=2
 enc:=fun x => [.int .i64 x.No,.int .i64 x.Kind]
 dec:=fun vs => match vs with
  | [.int .i64 a0,.int .i64 a1] => some ⟨a0,a1⟩
  | _ => none
 z:=⟨0,0⟩
 len:=fun _ => rfl
 pos:=by decide
 one:=fun _ => rfl
 decE:=fun {vs x} h => by
  split at h
  ·cases h;rfl
  ·cases h
structure Bal where
 Account:Int
 Instr:Int
 Amount:Int
 deriving DecidableEq
instance:Enc Bal where
 sz:=3
 enc:=fun x => [.int .i64 x.Account,.int .i64 x.Instr,.int .i64 x.Amount]
 dec:=fun vs => match vs with
  | [.int .i64 a0,.int .i64 a1,.int .i64 a2] => some ⟨a0,a1,a2⟩
  | _ => none
 z:=⟨0,0,0⟩
 len:=fun _ => rfl
 pos:=by decide
 one:=fun _ => rfl
 decE:=fun {vs x} h => by
  split at h
  ·cases h;rfl
  ·cases h
structure Leg where
 Account:Int
 Instr:Int
 Amount:Int
 deriving DecidableEq
instance:Enc Leg where
 sz:=3
 enc:=fun x => [.int .i64 x.Account,.int .i64 x.Instr,.int .i64 x.Amount]
 dec:=fun vs => match vs with
  | [.int .i64 a0,.int .i64 a1,.int .i64 a2] => some ⟨a0,a1,a2⟩
  | _ => none
 z:=⟨0,0,0⟩
 len:=fun _ => rfl
 pos:=by decide
 one:=fun _ => rfl
 decE:=fun {vs x} h => by
  split at h
  ·cases h;rfl
  ·cases h
structure Lot where
 Account:Int
 Instr:Int
 No:Int
 Qty:Int
 Cost:Int
 deriving DecidableEq
instance:Enc Lot where
 sz:=5
 enc:=fun x => [.int .i64 x.Account,.int .i64 x.Instr,.int .i64 x.No,.int .i64 x.Qty,.int .i64 x.Cost]
 dec:=fun vs => match vs with
  | [.int .i64 a0,.int .i64 a1,.int .i64 a2,.int .i64 a3,.int .i64 a4] => some ⟨a0,a1,a2,a3,a4⟩
  | _ => none
 z:=⟨0,0,0,0,0⟩
 len:=fun _ => rfl
 pos:=by decide
 one:=fun _ => rfl
 decE:=fun {vs x} h => by
  split at h
  ·cases h;rfl
  ·cases h
structure Trade where
 No:Int
 Buyer:Int
 Seller:Int
 Paper:Int
 Qty:Int
 Cash:Int
 Price:Int
 State:Int
 deriving DecidableEq
instance:Enc Trade where
 sz:=8
 enc:=fun x => [.int .i64 x.No,.int .i64 x.Buyer,.int .i64 x.Seller,.int .i64 x.Paper,.int .i64 x.Qty,.int .i64 x.Cash,.int .i64 x.Price,.int .i64 x.State]
 dec:=fun vs => match vs with
  | [.int .i64 a0,.int .i64 a1,.int .i64 a2,.int .i64 a3,.int .i64 a4,.int .i64 a5,.int .i64 a6,.int .i64 a7] => some ⟨a0,a1,a2,a3,a4,a5,a6,a7⟩
  | _ => none
 z:=⟨0,0,0,0,0,0,0,0⟩
 len:=fun _ => rfl
 pos:=by decide
 one:=fun _ => rfl
 decE:=fun {vs x} h => by
  split at h
  ·cases h;rfl
  ·cases h
structure Reply where
 Code:Int
 Value:Int
 deriving DecidableEq
instance:Enc Reply where
 sz:=2
 enc:=fun x => [.int .i64 x.Code,.int .i64 x.Value]
 dec:=fun vs => match vs with
  | [.int .i64 a0,.int .i64 a1] => some ⟨a0,a1⟩
  | _ => none
 z:=⟨0,0⟩
 len:=fun _ => rfl
 pos:=by decide
 one:=fun _ => rfl
 decE:=fun {vs x} h => by
  split at h
  ·cases h;rfl
  ·cases h
end
end Go.Proofs.YtgehbhkfehmdkaaGreat.Sh
