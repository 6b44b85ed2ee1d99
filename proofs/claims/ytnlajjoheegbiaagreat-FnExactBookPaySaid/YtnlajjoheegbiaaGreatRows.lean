/-
  No cell of these rows narrows 'for every input' (looked for: loops, veiled, ifaces, maps, wideKeys, modest, calm, conditions, laid).
  DERIVED. THE GIVEN ROWS OF THIS SEAT. 9 by the template 'for every input the law returns true; each argument reads behind the call as it read before'; 0 by the template 'total and deterministic' (their statements: YtnlajjoheegbiaaGreatTotals.lean).
  GIVEN WITH THE SEED: the statements are not yours to turn. If you find one false, say at which input.
  Laid BY PROGRAM, IN A SANDBOX (cutbox-rows.mjs): the forced cells as the released guide's own fill.sh prints them over the translation 11b6f504eaaeb4da… (all of the seat's roots in one cut). By AI agents, Wed Nov 11 2026. No macro, syntax, notation, axiom, sorry.
-/
import Derived.Test.YtnlajjoheegbiaaGreatChecked
import GoSem.Claim
import GoSem.ClaimJoined
import GoSem.ClaimMapViews
import Derived.JoinedTies
import Derived.KernelRfl
namespace Go.Proofs.YtnlajjoheegbiaaGreat
/- THE CELL 'sum', in the pinned program and in every row, IS THE sha256 OF THE DUMP (.gsa) THAT YtnlajjoheegbiaaGreatProg.lean LOADS. Nothing in Lean hashes anything: it is a label: what it is worth is what the hold of that sum in a sandbox is worth. -/
noncomputable def Tryz.pinned : Pinned := { name := "ytnlajjoheegbiaagreat", sum := "11b6f504eaaeb4dad467bbfff176bc96c35b070776589b6d47c18757256e9e05", checked := Tryz.checked }
namespace Rows
def none {H : Type} : Left H := { results := [], args := [] }

/-- 'laws.FnExactBooksPack': WHATEVER THE INPUT: true; the input reads as it did. -/
def fnExactBooksPackSpec : ChangeSpec := { name := "fnExactBooksPack", fn := fun _ => fun
  | [d] => { results := [.lit (.bool true)], args := [d] }
  | _ => none }
def fnExactBooksPackRow : OpenClaim := { program := "ytnlajjoheegbiaagreat", sum := "11b6f504eaaeb4dad467bbfff176bc96c35b070776589b6d47c18757256e9e05", func := "loop.example/g00110/laws.FnExactBooksPack", spec := "fnExactBooksPack", unfollowed := true, recurses := true, apart := false }
def FnExactBooksPackSaid : Prop := fnExactBooksPackRow.holds Tryz.pinned (OpenSpec.ofChange fnExactBooksPackSpec)

/-- ITS FALSE NEIGHBOUR: 'it returns false'. Refute it at one input. -/
def fnExactBooksPackWrong : ChangeSpec := { name := "fnExactBooksPack", fn := fun _ => fun
  | [d] => { results := [.lit (.bool false)], args := [d] }
  | _ => none }
def FnExactBooksPackWrongFalsely : Prop := fnExactBooksPackRow.holds Tryz.pinned (OpenSpec.ofChange fnExactBooksPackWrong)

/-- 'laws.FnExactNetLegs': WHATEVER THE INPUT: true; the input reads as it did. -/
def fnExactNetLegsSpec : ChangeSpec := { name := "fnExactNetLegs", fn := fun _ => fun
  | [d1, d2] => { results := [.lit (.bool true)], args := [d1, d2] }
  | _ => none }
def fnExactNetLegsRow : OpenClaim := { program := "ytnlajjoheegbiaagreat", sum := "11b6f504eaaeb4dad467bbfff176bc96c35b070776589b6d47c18757256e9e05", func := "loop.example/g00110/laws.FnExactNetLegs", spec := "fnExactNetLegs", inPlace := ["slices.overlaps[loop.example/g00110/impl.Leg]"], unfollowed := true, recurses := true, apart := false }
def FnExactNetLegsSaid : Prop := fnExactNetLegsRow.holds Tryz.pinned (OpenSpec.ofChange fnExactNetLegsSpec)

/-- ITS FALSE NEIGHBOUR: 'it returns false'. Refute it at one input. -/
def fnExactNetLegsWrong : ChangeSpec := { name := "fnExactNetLegs", fn := fun _ => fun
  | [d1, d2] => { results := [.lit (.bool false)], args := [d1, d2] }
  | _ => none }
def FnExactNetLegsWrongFalsely : Prop := fnExactNetLegsRow.holds Tryz.pinned (OpenSpec.ofChange fnExactNetLegsWrong)

/-- 'laws.FnExactBookTrade': WHATEVER THE INPUT: true; the input reads as it did. -/
def fnExactBookTradeSpec : ChangeSpec := { name := "fnExactBookTrade", fn := fun _ => fun
  | [d1, d2, d3, d4, d5, d6, d7, d8] => { results := [.lit (.bool true)], args := [d1, d2, d3, d4, d5, d6, d7, d8] }
  | _ => none }
def fnExactBookTradeRow : OpenClaim := { program := "ytnlajjoheegbiaagreat", sum := "11b6f504eaaeb4dad467bbfff176bc96c35b070776589b6d47c18757256e9e05", func := "loop.example/g00110/laws.FnExactBookTrade", spec := "fnExactBookTrade", inPlace := ["slices.overlaps[loop.example/g00110/impl.Trade]"], unfollowed := true, recurses := true, apart := false }
def FnExactBookTradeSaid : Prop := fnExactBookTradeRow.holds Tryz.pinned (OpenSpec.ofChange fnExactBookTradeSpec)

/-- ITS FALSE NEIGHBOUR: 'it returns false'. Refute it at one input. -/
def fnExactBookTradeWrong : ChangeSpec := { name := "fnExactBookTrade", fn := fun _ => fun
  | [d1, d2, d3, d4, d5, d6, d7, d8] => { results := [.lit (.bool false)], args := [d1, d2, d3, d4, d5, d6, d7, d8] }
  | _ => none }
def FnExactBookTradeWrongFalsely : Prop := fnExactBookTradeRow.holds Tryz.pinned (OpenSpec.ofChange fnExactBookTradeWrong)

/-- 'laws.FnExactBookFx': WHATEVER THE INPUT: true; the input reads as it did. -/
def fnExactBookFxSpec : ChangeSpec := { name := "fnExactBookFx", fn := fun _ => fun
  | [d1, d2, d3, d4, d5, d6, d7, d8] => { results := [.lit (.bool true)], args := [d1, d2, d3, d4, d5, d6, d7, d8] }
  | _ => none }
def fnExactBookFxRow : OpenClaim := { program := "ytnlajjoheegbiaagreat", sum := "11b6f504eaaeb4dad467bbfff176bc96c35b070776589b6d47c18757256e9e05", func := "loop.example/g00110/laws.FnExactBookFx", spec := "fnExactBookFx", inPlace := ["slices.overlaps[loop.example/g00110/impl.Bal]"], unfollowed := true, recurses := true, named := ["math/bits.divideError", "math/bits.overflowError"], apart := false }
def FnExactBookFxSaid : Prop := fnExactBookFxRow.holds Tryz.pinned (OpenSpec.ofChange fnExactBookFxSpec)

/-- ITS FALSE NEIGHBOUR: 'it returns false'. Refute it at one input. -/
def fnExactBookFxWrong : ChangeSpec := { name := "fnExactBookFx", fn := fun _ => fun
  | [d1, d2, d3, d4, d5, d6, d7, d8] => { results := [.lit (.bool false)], args := [d1, d2, d3, d4, d5, d6, d7, d8] }
  | _ => none }
def FnExactBookFxWrongFalsely : Prop := fnExactBookFxRow.holds Tryz.pinned (OpenSpec.ofChange fnExactBookFxWrong)

/-- 'laws.FnExactBookPay': WHATEVER THE INPUT: true; the input reads as it did. -/
def fnExactBookPaySpec : ChangeSpec := { name := "fnExactBookPay", fn := fun _ => fun
  | [d1, d2, d3, d4, d5] => { results := [.lit (.bool true)], args := [d1, d2, d3, d4, d5] }
  | _ => none }
def fnExactBookPayRow : OpenClaim := { program := "ytnlajjoheegbiaagreat", sum := "11b6f504eaaeb4dad467bbfff176bc96c35b070776589b6d47c18757256e9e05", func := "loop.example/g00110/laws.FnExactBookPay", spec := "fnExactBookPay", inPlace := ["slices.overlaps[loop.example/g00110/impl.Bal]"], unfollowed := true, recurses := true, named := ["math/bits.divideError", "math/bits.overflowError"], apart := false }
def FnExactBookPaySaid : Prop := fnExactBookPayRow.holds Tryz.pinned (OpenSpec.ofChange fnExactBookPaySpec)

/-- ITS FALSE NEIGHBOUR: 'it returns false'. Refute it at one input. -/
def fnExactBookPayWrong : ChangeSpec := { name := "fnExactBookPay", fn := fun _ => fun
  | [d1, d2, d3, d4, d5] => { results := [.lit (.bool false)], args := [d1, d2, d3, d4, d5] }
  | _ => none }
def FnExactBookPayWrongFalsely : Prop := fnExactBookPayRow.holds Tryz.pinned (OpenSpec.ofChange fnExactBookPayWrong)

/-- 'laws.FnExactBookSettle': WHATEVER THE INPUT: true; the input reads as it did. -/
def fnExactBookSettleSpec : ChangeSpec := { name := "fnExactBookSettle", fn := fun _ => fun
  | [d1, d2, d3] => { results := [.lit (.bool true)], args := [d1, d2, d3] }
  | _ => none }
def fnExactBookSettleRow : OpenClaim := { program := "ytnlajjoheegbiaagreat", sum := "11b6f504eaaeb4dad467bbfff176bc96c35b070776589b6d47c18757256e9e05", func := "loop.example/g00110/laws.FnExactBookSettle", spec := "fnExactBookSettle", inPlace := ["slices.overlaps[loop.example/g00110/impl.Bal]", "slices.overlaps[loop.example/g00110/impl.Lot]"], unfollowed := true, recurses := true, named := ["math/bits.divideError", "math/bits.overflowError"], apart := false }
def FnExactBookSettleSaid : Prop := fnExactBookSettleRow.holds Tryz.pinned (OpenSpec.ofChange fnExactBookSettleSpec)

/-- ITS FALSE NEIGHBOUR: 'it returns false'. Refute it at one input. -/
def fnExactBookSettleWrong : ChangeSpec := { name := "fnExactBookSettle", fn := fun _ => fun
  | [d1, d2, d3] => { results := [.lit (.bool false)], args := [d1, d2, d3] }
  | _ => none }
def FnExactBookSettleWrongFalsely : Prop := fnExactBookSettleRow.holds Tryz.pinned (OpenSpec.ofChange fnExactBookSettleWrong)

/-- 'laws.FnExactBookNet': WHATEVER THE INPUT: true; the input reads as it did. -/
def fnExactBookNetSpec : ChangeSpec := { name := "fnExactBookNet", fn := fun _ => fun
  | [d1, d2, d3, d4] => { results := [.lit (.bool true)], args := [d1, d2, d3, d4] }
  | _ => none }
def fnExactBookNetRow : OpenClaim := { program := "ytnlajjoheegbiaagreat", sum := "11b6f504eaaeb4dad467bbfff176bc96c35b070776589b6d47c18757256e9e05", func := "loop.example/g00110/laws.FnExactBookNet", spec := "fnExactBookNet", inPlace := ["slices.overlaps[loop.example/g00110/impl.Bal]", "slices.overlaps[loop.example/g00110/impl.Lot]", "slices.overlaps[loop.example/g00110/impl.Leg]"], unfollowed := true, recurses := true, named := ["math/bits.divideError", "math/bits.overflowError"], apart := false }
def FnExactBookNetSaid : Prop := fnExactBookNetRow.holds Tryz.pinned (OpenSpec.ofChange fnExactBookNetSpec)

/-- ITS FALSE NEIGHBOUR: 'it returns false'. Refute it at one input. -/
def fnExactBookNetWrong : ChangeSpec := { name := "fnExactBookNet", fn := fun _ => fun
  | [d1, d2, d3, d4] => { results := [.lit (.bool false)], args := [d1, d2, d3, d4] }
  | _ => none }
def FnExactBookNetWrongFalsely : Prop := fnExactBookNetRow.holds Tryz.pinned (OpenSpec.ofChange fnExactBookNetWrong)

/-- 'laws.FnExactBookSplit': WHATEVER THE INPUT: true; the input reads as it did. -/
def fnExactBookSplitSpec : ChangeSpec := { name := "fnExactBookSplit", fn := fun _ => fun
  | [d1, d2, d3, d4, d5] => { results := [.lit (.bool true)], args := [d1, d2, d3, d4, d5] }
  | _ => none }
def fnExactBookSplitRow : OpenClaim := { program := "ytnlajjoheegbiaagreat", sum := "11b6f504eaaeb4dad467bbfff176bc96c35b070776589b6d47c18757256e9e05", func := "loop.example/g00110/laws.FnExactBookSplit", spec := "fnExactBookSplit", inPlace := ["slices.overlaps[loop.example/g00110/impl.Bal]"], unfollowed := true, recurses := true, named := ["math/bits.divideError", "math/bits.overflowError"], apart := false }
def FnExactBookSplitSaid : Prop := fnExactBookSplitRow.holds Tryz.pinned (OpenSpec.ofChange fnExactBookSplitSpec)

/-- ITS FALSE NEIGHBOUR: 'it returns false'. Refute it at one input. -/
def fnExactBookSplitWrong : ChangeSpec := { name := "fnExactBookSplit", fn := fun _ => fun
  | [d1, d2, d3, d4, d5] => { results := [.lit (.bool false)], args := [d1, d2, d3, d4, d5] }
  | _ => none }
def FnExactBookSplitWrongFalsely : Prop := fnExactBookSplitRow.holds Tryz.pinned (OpenSpec.ofChange fnExactBookSplitWrong)

/-- 'laws.FnExactCmdRun': WHATEVER THE INPUT: true; the input reads as it did. -/
def fnExactCmdRunSpec : ChangeSpec := { name := "fnExactCmdRun", fn := fun _ => fun
  | [d1, d2] => { results := [.lit (.bool true)], args := [d1, d2] }
  | _ => none }
def fnExactCmdRunRow : OpenClaim := { program := "ytnlajjoheegbiaagreat", sum := "11b6f504eaaeb4dad467bbfff176bc96c35b070776589b6d47c18757256e9e05", func := "loop.example/g00110/laws.FnExactCmdRun", spec := "fnExactCmdRun", inPlace := ["slices.overlaps[loop.example/g00110/impl.Account]", "slices.overlaps[loop.example/g00110/impl.Instr]", "slices.overlaps[loop.example/g00110/impl.Bal]", "slices.overlaps[loop.example/g00110/impl.Lot]", "slices.overlaps[loop.example/g00110/impl.Trade]", "slices.overlaps[loop.example/g00110/impl.Leg]"], unfollowed := true, recurses := true, named := ["math/bits.divideError", "math/bits.overflowError"], apart := false }
def FnExactCmdRunSaid : Prop := fnExactCmdRunRow.holds Tryz.pinned (OpenSpec.ofChange fnExactCmdRunSpec)

/-- ITS FALSE NEIGHBOUR: 'it returns false'. Refute it at one input. -/
def fnExactCmdRunWrong : ChangeSpec := { name := "fnExactCmdRun", fn := fun _ => fun
  | [d1, d2] => { results := [.lit (.bool false)], args := [d1, d2] }
  | _ => none }
def FnExactCmdRunWrongFalsely : Prop := fnExactCmdRunRow.holds Tryz.pinned (OpenSpec.ofChange fnExactCmdRunWrong)

/- THE SECOND FORM. 'bulk': how many values and letters a reading holds, each counted each time it is reached (what is shared counts as often as it is met; a slice's spare places count too). A statement '..UptoSaid' is the law's where the arguments, and the package variables that the reading takes, are together of bulk at most 1048576: NARROWER than '..Said'. Prove '..Said' where nothing that the law and all that it calls make is longer than what came in: it says more and counts as full. Else prove '..UptoSaid'. A law counts once. -/
mutual
def uptoBulk {H : Type} : DataW H → Nat
  | .lit (.string bytes) => bytes.length + 1
  | .lit _ => 1
  | .nil => 1
  | .ptr d => uptoBulk d + 1
  | .slice elems spare => uptoBulkAll elems + uptoBulkAll spare + 1
  | .agg parts => uptoBulkAll parts + 1
  | .iface _ d => uptoBulk d + 1
  | .map entries => uptoBulkEntries entries + 1
  | .held _ => 1
def uptoBulkAll {H : Type} : List (DataW H) → Nat
  | [] => 0
  | d :: r => uptoBulk d + uptoBulkAll r
def uptoBulkEntries {H : Type} : List (Lit × DataW H) → Nat
  | [] => 0
  | x :: r => uptoBulkEntry x + uptoBulkEntries r
def uptoBulkEntry {H : Type} : Lit × DataW H → Nat
  | (.string bytes, d) => bytes.length + uptoBulk d + 1
  | (_, d) => uptoBulk d + 1
 end
def uptoSmall : (H : Type) → List (DataW H) → Bool := fun _ ds => decide (uptoBulkAll ds ≤ 1048576)
def OpenSpec.upto (s : _root_.Go.ChangeSpec) : _root_.Go.OpenSpec := { _root_.Go.OpenSpec.ofChange s with cond := some uptoSmall }

/-- 'laws.FnExactBooksPack', WHERE WHAT IT READS IS OF BULK AT MOST 1048576: true; the input reads as it did. -/
def fnExactBooksPackUptoRow : OpenClaim := { program := "ytnlajjoheegbiaagreat", sum := "11b6f504eaaeb4dad467bbfff176bc96c35b070776589b6d47c18757256e9e05", func := "loop.example/g00110/laws.FnExactBooksPack", spec := "fnExactBooksPack", unfollowed := true, recurses := true, apart := false, narrowed := true }
def FnExactBooksPackUptoSaid : Prop := fnExactBooksPackUptoRow.holds Tryz.pinned (OpenSpec.upto fnExactBooksPackSpec)

/-- 'laws.FnExactNetLegs', WHERE WHAT IT READS IS OF BULK AT MOST 1048576: true; the input reads as it did. -/
def fnExactNetLegsUptoRow : OpenClaim := { program := "ytnlajjoheegbiaagreat", sum := "11b6f504eaaeb4dad467bbfff176bc96c35b070776589b6d47c18757256e9e05", func := "loop.example/g00110/laws.FnExactNetLegs", spec := "fnExactNetLegs", inPlace := ["slices.overlaps[loop.example/g00110/impl.Leg]"], unfollowed := true, recurses := true, apart := false, narrowed := true }
def FnExactNetLegsUptoSaid : Prop := fnExactNetLegsUptoRow.holds Tryz.pinned (OpenSpec.upto fnExactNetLegsSpec)

/-- 'laws.FnExactBookTrade', WHERE WHAT IT READS IS OF BULK AT MOST 1048576: true; the input reads as it did. -/
def fnExactBookTradeUptoRow : OpenClaim := { program := "ytnlajjoheegbiaagreat", sum := "11b6f504eaaeb4dad467bbfff176bc96c35b070776589b6d47c18757256e9e05", func := "loop.example/g00110/laws.FnExactBookTrade", spec := "fnExactBookTrade", inPlace := ["slices.overlaps[loop.example/g00110/impl.Trade]"], unfollowed := true, recurses := true, apart := false, narrowed := true }
def FnExactBookTradeUptoSaid : Prop := fnExactBookTradeUptoRow.holds Tryz.pinned (OpenSpec.upto fnExactBookTradeSpec)

/-- 'laws.FnExactBookFx', WHERE WHAT IT READS IS OF BULK AT MOST 1048576: true; the input reads as it did. -/
def fnExactBookFxUptoRow : OpenClaim := { program := "ytnlajjoheegbiaagreat", sum := "11b6f504eaaeb4dad467bbfff176bc96c35b070776589b6d47c18757256e9e05", func := "loop.example/g00110/laws.FnExactBookFx", spec := "fnExactBookFx", inPlace := ["slices.overlaps[loop.example/g00110/impl.Bal]"], unfollowed := true, recurses := true, named := ["math/bits.divideError", "math/bits.overflowError"], apart := false, narrowed := true }
def FnExactBookFxUptoSaid : Prop := fnExactBookFxUptoRow.holds Tryz.pinned (OpenSpec.upto fnExactBookFxSpec)

/-- 'laws.FnExactBookPay', WHERE WHAT IT READS IS OF BULK AT MOST 1048576: true; the input reads as it did. -/
def fnExactBookPayUptoRow : OpenClaim := { program := "ytnlajjoheegbiaagreat", sum := "11b6f504eaaeb4dad467bbfff176bc96c35b070776589b6d47c18757256e9e05", func := "loop.example/g00110/laws.FnExactBookPay", spec := "fnExactBookPay", inPlace := ["slices.overlaps[loop.example/g00110/impl.Bal]"], unfollowed := true, recurses := true, named := ["math/bits.divideError", "math/bits.overflowError"], apart := false, narrowed := true }
def FnExactBookPayUptoSaid : Prop := fnExactBookPayUptoRow.holds Tryz.pinned (OpenSpec.upto fnExactBookPaySpec)

/-- 'laws.FnExactBookSettle', WHERE WHAT IT READS IS OF BULK AT MOST 1048576: true; the input reads as it did. -/
def fnExactBookSettleUptoRow : OpenClaim := { program := "ytnlajjoheegbiaagreat", sum := "11b6f504eaaeb4dad467bbfff176bc96c35b070776589b6d47c18757256e9e05", func := "loop.example/g00110/laws.FnExactBookSettle", spec := "fnExactBookSettle", inPlace := ["slices.overlaps[loop.example/g00110/impl.Bal]", "slices.overlaps[loop.example/g00110/impl.Lot]"], unfollowed := true, recurses := true, named := ["math/bits.divideError", "math/bits.overflowError"], apart := false, narrowed := true }
def FnExactBookSettleUptoSaid : Prop := fnExactBookSettleUptoRow.holds Tryz.pinned (OpenSpec.upto fnExactBookSettleSpec)

/-- 'laws.FnExactBookNet', WHERE WHAT IT READS IS OF BULK AT MOST 1048576: true; the input reads as it did. -/
def fnExactBookNetUptoRow : OpenClaim := { program := "ytnlajjoheegbiaagreat", sum := "11b6f504eaaeb4dad467bbfff176bc96c35b070776589b6d47c18757256e9e05", func := "loop.example/g00110/laws.FnExactBookNet", spec := "fnExactBookNet", inPlace := ["slices.overlaps[loop.example/g00110/impl.Bal]", "slices.overlaps[loop.example/g00110/impl.Lot]", "slices.overlaps[loop.example/g00110/impl.Leg]"], unfollowed := true, recurses := true, named := ["math/bits.divideError", "math/bits.overflowError"], apart := false, narrowed := true }
def FnExactBookNetUptoSaid : Prop := fnExactBookNetUptoRow.holds Tryz.pinned (OpenSpec.upto fnExactBookNetSpec)

/-- 'laws.FnExactBookSplit', WHERE WHAT IT READS IS OF BULK AT MOST 1048576: true; the input reads as it did. -/
def fnExactBookSplitUptoRow : OpenClaim := { program := "ytnlajjoheegbiaagreat", sum := "11b6f504eaaeb4dad467bbfff176bc96c35b070776589b6d47c18757256e9e05", func := "loop.example/g00110/laws.FnExactBookSplit", spec := "fnExactBookSplit", inPlace := ["slices.overlaps[loop.example/g00110/impl.Bal]"], unfollowed := true, recurses := true, named := ["math/bits.divideError", "math/bits.overflowError"], apart := false, narrowed := true }
def FnExactBookSplitUptoSaid : Prop := fnExactBookSplitUptoRow.holds Tryz.pinned (OpenSpec.upto fnExactBookSplitSpec)

/-- 'laws.FnExactCmdRun', WHERE WHAT IT READS IS OF BULK AT MOST 1048576: true; the input reads as it did. -/
def fnExactCmdRunUptoRow : OpenClaim := { program := "ytnlajjoheegbiaagreat", sum := "11b6f504eaaeb4dad467bbfff176bc96c35b070776589b6d47c18757256e9e05", func := "loop.example/g00110/laws.FnExactCmdRun", spec := "fnExactCmdRun", inPlace := ["slices.overlaps[loop.example/g00110/impl.Account]", "slices.overlaps[loop.example/g00110/impl.Instr]", "slices.overlaps[loop.example/g00110/impl.Bal]", "slices.overlaps[loop.example/g00110/impl.Lot]", "slices.overlaps[loop.example/g00110/impl.Trade]", "slices.overlaps[loop.example/g00110/impl.Leg]"], unfollowed := true, recurses := true, named := ["math/bits.divideError", "math/bits.overflowError"], apart := false, narrowed := true }
def FnExactCmdRunUptoSaid : Prop := fnExactCmdRunUptoRow.holds Tryz.pinned (OpenSpec.upto fnExactCmdRunSpec)

end Rows
end Go.Proofs.YtnlajjoheegbiaaGreat
