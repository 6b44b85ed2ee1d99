/-
  No cell of these rows narrows 'for every input' (looked for: loops, veiled, ifaces, maps, wideKeys, modest, calm, conditions, laid).
  DERIVED. THE GIVEN ROWS OF THIS SEAT. 14 by the template 'for every input the law returns true; each argument reads behind the call as it read before'; 0 by the template 'total and deterministic' (their statements: YtgehbhkfehmdkaaGreatTotals.lean).
  GIVEN WITH THE SEED: the statements are not yours to turn. If you find one false, say at which input.
  Laid BY PROGRAM, IN A SANDBOX (cutbox-rows.mjs): the forced cells as the released guide's own fill.sh prints them over the translation 811299da08ded57c… (all of the seat's roots in one cut). By AI agents, Wed Nov 11 2026. No macro, syntax, notation, axiom, sorry.
-/
import Derived.Test.YtgehbhkfehmdkaaGreatChecked
import GoSem.Claim
import GoSem.ClaimJoined
import GoSem.ClaimMapViews
import Derived.JoinedTies
import Derived.KernelRfl
namespace Go.Proofs.YtgehbhkfehmdkaaGreat
/- THE CELL 'sum', in the pinned program and in every row, IS THE sha256 OF THE DUMP (.gsa) THAT YtgehbhkfehmdkaaGreatProg.lean LOADS. Nothing in Lean hashes anything: it is a label: what it is worth is what the hold of that sum in a sandbox is worth. -/
noncomputable def Tryz.pinned : Pinned := { name := "ytgehbhkfehmdkaagreat", sum := "811299da08ded57c60de4688f82dec9bf6de485b6717ee48dd6c9f8fd0725dce", checked := Tryz.checked }
namespace Rows
def none {H : Type} : Left H := { results := [], args := [] }

/-- 'laws.FnNet': WHATEVER THE INPUT: true; the input reads as it did. -/
def fnNetSpec : ChangeSpec := { name := "fnNet", fn := fun _ => fun
  | [d] => { results := [.lit (.bool true)], args := [d] }
  | _ => none }
def fnNetRow : OpenClaim := { program := "ytgehbhkfehmdkaagreat", sum := "811299da08ded57c60de4688f82dec9bf6de485b6717ee48dd6c9f8fd0725dce", func := "loop.example/g00110/laws.FnNet", spec := "fnNet", inPlace := ["slices.overlaps[loop.example/g00110/impl.Bal]", "slices.overlaps[loop.example/g00110/impl.Lot]", "slices.overlaps[loop.example/g00110/impl.Leg]"], unfollowed := true, recurses := true, named := ["math/bits.divideError", "math/bits.overflowError"], apart := false }
def FnNetSaid : Prop := fnNetRow.holds Tryz.pinned (OpenSpec.ofChange fnNetSpec)

/-- ITS FALSE NEIGHBOUR: 'it returns false'. Refute it at one input. -/
def fnNetWrong : ChangeSpec := { name := "fnNet", fn := fun _ => fun
  | [d] => { results := [.lit (.bool false)], args := [d] }
  | _ => none }
def FnNetWrongFalsely : Prop := fnNetRow.holds Tryz.pinned (OpenSpec.ofChange fnNetWrong)

/-- 'laws.FnSplit': WHATEVER THE INPUT: true; the input reads as it did. -/
def fnSplitSpec : ChangeSpec := { name := "fnSplit", fn := fun _ => fun
  | [d] => { results := [.lit (.bool true)], args := [d] }
  | _ => none }
def fnSplitRow : OpenClaim := { program := "ytgehbhkfehmdkaagreat", sum := "811299da08ded57c60de4688f82dec9bf6de485b6717ee48dd6c9f8fd0725dce", func := "loop.example/g00110/laws.FnSplit", spec := "fnSplit", inPlace := ["slices.overlaps[loop.example/g00110/impl.Bal]"], unfollowed := true, recurses := true, named := ["math/bits.divideError", "math/bits.overflowError"], apart := false }
def FnSplitSaid : Prop := fnSplitRow.holds Tryz.pinned (OpenSpec.ofChange fnSplitSpec)

/-- ITS FALSE NEIGHBOUR: 'it returns false'. Refute it at one input. -/
def fnSplitWrong : ChangeSpec := { name := "fnSplit", fn := fun _ => fun
  | [d] => { results := [.lit (.bool false)], args := [d] }
  | _ => none }
def FnSplitWrongFalsely : Prop := fnSplitRow.holds Tryz.pinned (OpenSpec.ofChange fnSplitWrong)

/-- 'laws.FnBooks': WHATEVER THE INPUT: true; the input reads as it did. -/
def fnBooksSpec : ChangeSpec := { name := "fnBooks", fn := fun _ => fun
  | [d] => { results := [.lit (.bool true)], args := [d] }
  | _ => none }
def fnBooksRow : OpenClaim := { program := "ytgehbhkfehmdkaagreat", sum := "811299da08ded57c60de4688f82dec9bf6de485b6717ee48dd6c9f8fd0725dce", func := "loop.example/g00110/laws.FnBooks", spec := "fnBooks", inPlace := ["slices.overlaps[loop.example/g00110/impl.Account]", "slices.overlaps[loop.example/g00110/impl.Instr]", "slices.overlaps[loop.example/g00110/impl.Bal]", "slices.overlaps[loop.example/g00110/impl.Lot]", "slices.overlaps[loop.example/g00110/impl.Trade]", "slices.overlaps[loop.example/g00110/impl.Leg]"], unfollowed := true, recurses := true, named := ["math/bits.divideError", "math/bits.overflowError"], apart := false }
def FnBooksSaid : Prop := fnBooksRow.holds Tryz.pinned (OpenSpec.ofChange fnBooksSpec)

/-- ITS FALSE NEIGHBOUR: 'it returns false'. Refute it at one input. -/
def fnBooksWrong : ChangeSpec := { name := "fnBooks", fn := fun _ => fun
  | [d] => { results := [.lit (.bool false)], args := [d] }
  | _ => none }
def FnBooksWrongFalsely : Prop := fnBooksRow.holds Tryz.pinned (OpenSpec.ofChange fnBooksWrong)

/-- 'laws.FnNetLegs': WHATEVER THE INPUT: true; the input reads as it did. -/
def fnNetLegsSpec : ChangeSpec := { name := "fnNetLegs", fn := fun _ => fun
  | [d] => { results := [.lit (.bool true)], args := [d] }
  | _ => none }
def fnNetLegsRow : OpenClaim := { program := "ytgehbhkfehmdkaagreat", sum := "811299da08ded57c60de4688f82dec9bf6de485b6717ee48dd6c9f8fd0725dce", func := "loop.example/g00110/laws.FnNetLegs", spec := "fnNetLegs", inPlace := ["slices.overlaps[loop.example/g00110/impl.Leg]"], unfollowed := true, recurses := true, apart := false }
def FnNetLegsSaid : Prop := fnNetLegsRow.holds Tryz.pinned (OpenSpec.ofChange fnNetLegsSpec)

/-- ITS FALSE NEIGHBOUR: 'it returns false'. Refute it at one input. -/
def fnNetLegsWrong : ChangeSpec := { name := "fnNetLegs", fn := fun _ => fun
  | [d] => { results := [.lit (.bool false)], args := [d] }
  | _ => none }
def FnNetLegsWrongFalsely : Prop := fnNetLegsRow.holds Tryz.pinned (OpenSpec.ofChange fnNetLegsWrong)

/-- 'laws.FnIssued': WHATEVER THE INPUT: true; the input reads as it did. -/
def fnIssuedSpec : ChangeSpec := { name := "fnIssued", fn := fun _ => fun
  | [d] => { results := [.lit (.bool true)], args := [d] }
  | _ => none }
def fnIssuedRow : OpenClaim := { program := "ytgehbhkfehmdkaagreat", sum := "811299da08ded57c60de4688f82dec9bf6de485b6717ee48dd6c9f8fd0725dce", func := "loop.example/g00110/laws.FnIssued", spec := "fnIssued", inPlace := ["slices.overlaps[loop.example/g00110/impl.Bal]", "slices.overlaps[loop.example/g00110/impl.Lot]"], unfollowed := true, recurses := true, apart := false }
def FnIssuedSaid : Prop := fnIssuedRow.holds Tryz.pinned (OpenSpec.ofChange fnIssuedSpec)

/-- ITS FALSE NEIGHBOUR: 'it returns false'. Refute it at one input. -/
def fnIssuedWrong : ChangeSpec := { name := "fnIssued", fn := fun _ => fun
  | [d] => { results := [.lit (.bool false)], args := [d] }
  | _ => none }
def FnIssuedWrongFalsely : Prop := fnIssuedRow.holds Tryz.pinned (OpenSpec.ofChange fnIssuedWrong)

/-- 'laws.FnFx': WHATEVER THE INPUT: true; the input reads as it did. -/
def fnFxSpec : ChangeSpec := { name := "fnFx", fn := fun _ => fun
  | [d] => { results := [.lit (.bool true)], args := [d] }
  | _ => none }
def fnFxRow : OpenClaim := { program := "ytgehbhkfehmdkaagreat", sum := "811299da08ded57c60de4688f82dec9bf6de485b6717ee48dd6c9f8fd0725dce", func := "loop.example/g00110/laws.FnFx", spec := "fnFx", inPlace := ["slices.overlaps[loop.example/g00110/impl.Bal]"], unfollowed := true, recurses := true, named := ["math/bits.divideError", "math/bits.overflowError"], apart := false }
def FnFxSaid : Prop := fnFxRow.holds Tryz.pinned (OpenSpec.ofChange fnFxSpec)

/-- ITS FALSE NEIGHBOUR: 'it returns false'. Refute it at one input. -/
def fnFxWrong : ChangeSpec := { name := "fnFx", fn := fun _ => fun
  | [d] => { results := [.lit (.bool false)], args := [d] }
  | _ => none }
def FnFxWrongFalsely : Prop := fnFxRow.holds Tryz.pinned (OpenSpec.ofChange fnFxWrong)

/-- 'laws.FnPaid': WHATEVER THE INPUT: true; the input reads as it did. -/
def fnPaidSpec : ChangeSpec := { name := "fnPaid", fn := fun _ => fun
  | [d] => { results := [.lit (.bool true)], args := [d] }
  | _ => none }
def fnPaidRow : OpenClaim := { program := "ytgehbhkfehmdkaagreat", sum := "811299da08ded57c60de4688f82dec9bf6de485b6717ee48dd6c9f8fd0725dce", func := "loop.example/g00110/laws.FnPaid", spec := "fnPaid", inPlace := ["slices.overlaps[loop.example/g00110/impl.Bal]"], unfollowed := true, recurses := true, named := ["math/bits.divideError", "math/bits.overflowError"], apart := false }
def FnPaidSaid : Prop := fnPaidRow.holds Tryz.pinned (OpenSpec.ofChange fnPaidSpec)

/-- ITS FALSE NEIGHBOUR: 'it returns false'. Refute it at one input. -/
def fnPaidWrong : ChangeSpec := { name := "fnPaid", fn := fun _ => fun
  | [d] => { results := [.lit (.bool false)], args := [d] }
  | _ => none }
def FnPaidWrongFalsely : Prop := fnPaidRow.holds Tryz.pinned (OpenSpec.ofChange fnPaidWrong)

/-- 'laws.FnExactBookSplit': WHATEVER THE INPUT: true; the input reads as it did. -/
def fnExactBookSplitSpec : ChangeSpec := { name := "fnExactBookSplit", fn := fun _ => fun
  | [d1, d2, d3, d4, d5] => { results := [.lit (.bool true)], args := [d1, d2, d3, d4, d5] }
  | _ => none }
def fnExactBookSplitRow : OpenClaim := { program := "ytgehbhkfehmdkaagreat", sum := "811299da08ded57c60de4688f82dec9bf6de485b6717ee48dd6c9f8fd0725dce", func := "loop.example/g00110/laws.FnExactBookSplit", spec := "fnExactBookSplit", inPlace := ["slices.overlaps[loop.example/g00110/impl.Bal]"], unfollowed := true, recurses := true, named := ["math/bits.divideError", "math/bits.overflowError"], apart := false }
def FnExactBookSplitSaid : Prop := fnExactBookSplitRow.holds Tryz.pinned (OpenSpec.ofChange fnExactBookSplitSpec)

/-- ITS FALSE NEIGHBOUR: 'it returns false'. Refute it at one input. -/
def fnExactBookSplitWrong : ChangeSpec := { name := "fnExactBookSplit", fn := fun _ => fun
  | [d1, d2, d3, d4, d5] => { results := [.lit (.bool false)], args := [d1, d2, d3, d4, d5] }
  | _ => none }
def FnExactBookSplitWrongFalsely : Prop := fnExactBookSplitRow.holds Tryz.pinned (OpenSpec.ofChange fnExactBookSplitWrong)

/-- 'laws.FnMoved': WHATEVER THE INPUT: true; the input reads as it did. -/
def fnMovedSpec : ChangeSpec := { name := "fnMoved", fn := fun _ => fun
  | [d] => { results := [.lit (.bool true)], args := [d] }
  | _ => none }
def fnMovedRow : OpenClaim := { program := "ytgehbhkfehmdkaagreat", sum := "811299da08ded57c60de4688f82dec9bf6de485b6717ee48dd6c9f8fd0725dce", func := "loop.example/g00110/laws.FnMoved", spec := "fnMoved", inPlace := ["slices.overlaps[loop.example/g00110/impl.Bal]", "slices.overlaps[loop.example/g00110/impl.Lot]"], unfollowed := true, recurses := true, named := ["math/bits.divideError", "math/bits.overflowError"], apart := false }
def FnMovedSaid : Prop := fnMovedRow.holds Tryz.pinned (OpenSpec.ofChange fnMovedSpec)

/-- ITS FALSE NEIGHBOUR: 'it returns false'. Refute it at one input. -/
def fnMovedWrong : ChangeSpec := { name := "fnMoved", fn := fun _ => fun
  | [d] => { results := [.lit (.bool false)], args := [d] }
  | _ => none }
def FnMovedWrongFalsely : Prop := fnMovedRow.holds Tryz.pinned (OpenSpec.ofChange fnMovedWrong)

/-- 'laws.FnSettled': WHATEVER THE INPUT: true; the input reads as it did. -/
def fnSettledSpec : ChangeSpec := { name := "fnSettled", fn := fun _ => fun
  | [d] => { results := [.lit (.bool true)], args := [d] }
  | _ => none }
def fnSettledRow : OpenClaim := { program := "ytgehbhkfehmdkaagreat", sum := "811299da08ded57c60de4688f82dec9bf6de485b6717ee48dd6c9f8fd0725dce", func := "loop.example/g00110/laws.FnSettled", spec := "fnSettled", inPlace := ["slices.overlaps[loop.example/g00110/impl.Bal]", "slices.overlaps[loop.example/g00110/impl.Lot]"], unfollowed := true, recurses := true, named := ["math/bits.divideError", "math/bits.overflowError"], apart := false }
def FnSettledSaid : Prop := fnSettledRow.holds Tryz.pinned (OpenSpec.ofChange fnSettledSpec)

/-- ITS FALSE NEIGHBOUR: 'it returns false'. Refute it at one input. -/
def fnSettledWrong : ChangeSpec := { name := "fnSettled", fn := fun _ => fun
  | [d] => { results := [.lit (.bool false)], args := [d] }
  | _ => none }
def FnSettledWrongFalsely : Prop := fnSettledRow.holds Tryz.pinned (OpenSpec.ofChange fnSettledWrong)

/-- 'laws.FnTraded': WHATEVER THE INPUT: true; the input reads as it did. -/
def fnTradedSpec : ChangeSpec := { name := "fnTraded", fn := fun _ => fun
  | [d] => { results := [.lit (.bool true)], args := [d] }
  | _ => none }
def fnTradedRow : OpenClaim := { program := "ytgehbhkfehmdkaagreat", sum := "811299da08ded57c60de4688f82dec9bf6de485b6717ee48dd6c9f8fd0725dce", func := "loop.example/g00110/laws.FnTraded", spec := "fnTraded", inPlace := ["slices.overlaps[loop.example/g00110/impl.Trade]", "slices.overlaps[loop.example/g00110/impl.Bal]", "slices.overlaps[loop.example/g00110/impl.Lot]"], unfollowed := true, recurses := true, named := ["math/bits.divideError", "math/bits.overflowError"], apart := false }
def FnTradedSaid : Prop := fnTradedRow.holds Tryz.pinned (OpenSpec.ofChange fnTradedSpec)

/-- ITS FALSE NEIGHBOUR: 'it returns false'. Refute it at one input. -/
def fnTradedWrong : ChangeSpec := { name := "fnTraded", fn := fun _ => fun
  | [d] => { results := [.lit (.bool false)], args := [d] }
  | _ => none }
def FnTradedWrongFalsely : Prop := fnTradedRow.holds Tryz.pinned (OpenSpec.ofChange fnTradedWrong)

/-- 'laws.FnRow': WHATEVER THE INPUT: true; the input reads as it did. -/
def fnRowSpec : ChangeSpec := { name := "fnRow", fn := fun _ => fun
  | [d] => { results := [.lit (.bool true)], args := [d] }
  | _ => none }
def fnRowRow : OpenClaim := { program := "ytgehbhkfehmdkaagreat", sum := "811299da08ded57c60de4688f82dec9bf6de485b6717ee48dd6c9f8fd0725dce", func := "loop.example/g00110/laws.FnRow", spec := "fnRow", inPlace := ["slices.overlaps[loop.example/g00110/impl.Account]", "slices.overlaps[loop.example/g00110/impl.Instr]", "slices.overlaps[loop.example/g00110/impl.Bal]", "slices.overlaps[loop.example/g00110/impl.Lot]", "slices.overlaps[loop.example/g00110/impl.Trade]", "slices.overlaps[loop.example/g00110/impl.Leg]"], unfollowed := true, recurses := true, named := ["math/bits.divideError", "math/bits.overflowError"], apart := false }
def FnRowSaid : Prop := fnRowRow.holds Tryz.pinned (OpenSpec.ofChange fnRowSpec)

/-- ITS FALSE NEIGHBOUR: 'it returns false'. Refute it at one input. -/
def fnRowWrong : ChangeSpec := { name := "fnRow", fn := fun _ => fun
  | [d] => { results := [.lit (.bool false)], args := [d] }
  | _ => none }
def FnRowWrongFalsely : Prop := fnRowRow.holds Tryz.pinned (OpenSpec.ofChange fnRowWrong)

/-- 'laws.FnExactCmdApply': WHATEVER THE INPUT: true; the input reads as it did. -/
def fnExactCmdApplySpec : ChangeSpec := { name := "fnExactCmdApply", fn := fun _ => fun
  | [d1, d2] => { results := [.lit (.bool true)], args := [d1, d2] }
  | _ => none }
def fnExactCmdApplyRow : OpenClaim := { program := "ytgehbhkfehmdkaagreat", sum := "811299da08ded57c60de4688f82dec9bf6de485b6717ee48dd6c9f8fd0725dce", func := "loop.example/g00110/laws.FnExactCmdApply", spec := "fnExactCmdApply", inPlace := ["slices.overlaps[loop.example/g00110/impl.Account]", "slices.overlaps[loop.example/g00110/impl.Instr]", "slices.overlaps[loop.example/g00110/impl.Bal]", "slices.overlaps[loop.example/g00110/impl.Lot]", "slices.overlaps[loop.example/g00110/impl.Trade]", "slices.overlaps[loop.example/g00110/impl.Leg]"], unfollowed := true, recurses := true, named := ["math/bits.divideError", "math/bits.overflowError"], apart := false }
def FnExactCmdApplySaid : Prop := fnExactCmdApplyRow.holds Tryz.pinned (OpenSpec.ofChange fnExactCmdApplySpec)

/-- ITS FALSE NEIGHBOUR: 'it returns false'. Refute it at one input. -/
def fnExactCmdApplyWrong : ChangeSpec := { name := "fnExactCmdApply", fn := fun _ => fun
  | [d1, d2] => { results := [.lit (.bool false)], args := [d1, d2] }
  | _ => none }
def FnExactCmdApplyWrongFalsely : Prop := fnExactCmdApplyRow.holds Tryz.pinned (OpenSpec.ofChange fnExactCmdApplyWrong)

/-- 'laws.FnExactCmdRun': WHATEVER THE INPUT: true; the input reads as it did. -/
def fnExactCmdRunSpec : ChangeSpec := { name := "fnExactCmdRun", fn := fun _ => fun
  | [d1, d2] => { results := [.lit (.bool true)], args := [d1, d2] }
  | _ => none }
def fnExactCmdRunRow : OpenClaim := { program := "ytgehbhkfehmdkaagreat", sum := "811299da08ded57c60de4688f82dec9bf6de485b6717ee48dd6c9f8fd0725dce", func := "loop.example/g00110/laws.FnExactCmdRun", spec := "fnExactCmdRun", inPlace := ["slices.overlaps[loop.example/g00110/impl.Account]", "slices.overlaps[loop.example/g00110/impl.Instr]", "slices.overlaps[loop.example/g00110/impl.Bal]", "slices.overlaps[loop.example/g00110/impl.Lot]", "slices.overlaps[loop.example/g00110/impl.Trade]", "slices.overlaps[loop.example/g00110/impl.Leg]"], unfollowed := true, recurses := true, named := ["math/bits.divideError", "math/bits.overflowError"], apart := false }
def FnExactCmdRunSaid : Prop := fnExactCmdRunRow.holds Tryz.pinned (OpenSpec.ofChange fnExactCmdRunSpec)

/-- ITS FALSE NEIGHBOUR: 'it returns false'. Refute it at one input. -/
def fnExactCmdRunWrong : ChangeSpec := { name := "fnExactCmdRun", fn := fun _ => fun
  | [d1, d2] => { results := [.lit (.bool false)], args := [d1, d2] }
  | _ => none }
def FnExactCmdRunWrongFalsely : Prop := fnExactCmdRunRow.holds Tryz.pinned (OpenSpec.ofChange fnExactCmdRunWrong)

/- THE SECOND FORM. 'bulk': how many values and letters a reading holds, each counted each time it is reached (what is shared counts as often as it is met; a slice's spare places count too). A statement '..UptoSaid' is the law's where the arguments, and the package variables that the reading takes, are together of bulk at most 1048576: NARROWER than '..Said'. Prove '..Said' where nothing that the law and all that it calls make is longer than what came in: it says more and counts as full. Else prove '..UptoSaid'. A law counts once. -/
mutual
def uptoBulk {H : Type} : DataW H → Nat
  | .lit (.string bytes) => bytes.length + 1
  | .lit _ => 1
  | .nil => 1
  | .ptr d => uptoBulk d + 1
  | .slice elems spare => uptoBulkAll elems + uptoBulkAll spare + 1
  | .agg parts => uptoBulkAll parts + 1
  | .iface _ d => uptoBulk d + 1
  | .map entries => uptoBulkEntries entries + 1
  | .held _ => 1
def uptoBulkAll {H : Type} : List (DataW H) → Nat
  | [] => 0
  | d :: r => uptoBulk d + uptoBulkAll r
def uptoBulkEntries {H : Type} : List (Lit × DataW H) → Nat
  | [] => 0
  | x :: r => uptoBulkEntry x + uptoBulkEntries r
def uptoBulkEntry {H : Type} : Lit × DataW H → Nat
  | (.string bytes, d) => bytes.length + uptoBulk d + 1
  | (_, d) => uptoBulk d + 1
 end
def uptoSmall : (H : Type) → List (DataW H) → Bool := fun _ ds => decide (uptoBulkAll ds ≤ 1048576)
def OpenSpec.upto (s : _root_.Go.ChangeSpec) : _root_.Go.OpenSpec := { _root_.Go.OpenSpec.ofChange s with cond := some uptoSmall }

/-- 'laws.FnNet', WHERE WHAT IT READS IS OF BULK AT MOST 1048576: true; the input reads as it did. -/
def fnNetUptoRow : OpenClaim := { program := "ytgehbhkfehmdkaagreat", sum := "811299da08ded57c60de4688f82dec9bf6de485b6717ee48dd6c9f8fd0725dce", func := "loop.example/g00110/laws.FnNet", spec := "fnNet", inPlace := ["slices.overlaps[loop.example/g00110/impl.Bal]", "slices.overlaps[loop.example/g00110/impl.Lot]", "slices.overlaps[loop.example/g00110/impl.Leg]"], unfollowed := true, recurses := true, named := ["math/bits.divideError", "math/bits.overflowError"], apart := false, narrowed := true }
def FnNetUptoSaid : Prop := fnNetUptoRow.holds Tryz.pinned (OpenSpec.upto fnNetSpec)

/-- 'laws.FnSplit', WHERE WHAT IT READS IS OF BULK AT MOST 1048576: true; the input reads as it did. -/
def fnSplitUptoRow : OpenClaim := { program := "ytgehbhkfehmdkaagreat", sum := "811299da08ded57c60de4688f82dec9bf6de485b6717ee48dd6c9f8fd0725dce", func := "loop.example/g00110/laws.FnSplit", spec := "fnSplit", inPlace := ["slices.overlaps[loop.example/g00110/impl.Bal]"], unfollowed := true, recurses := true, named := ["math/bits.divideError", "math/bits.overflowError"], apart := false, narrowed := true }
def FnSplitUptoSaid : Prop := fnSplitUptoRow.holds Tryz.pinned (OpenSpec.upto fnSplitSpec)

/-- 'laws.FnBooks', WHERE WHAT IT READS IS OF BULK AT MOST 1048576: true; the input reads as it did. -/
def fnBooksUptoRow : OpenClaim := { program := "ytgehbhkfehmdkaagreat", sum := "811299da08ded57c60de4688f82dec9bf6de485b6717ee48dd6c9f8fd0725dce", func := "loop.example/g00110/laws.FnBooks", spec := "fnBooks", inPlace := ["slices.overlaps[loop.example/g00110/impl.Account]", "slices.overlaps[loop.example/g00110/impl.Instr]", "slices.overlaps[loop.example/g00110/impl.Bal]", "slices.overlaps[loop.example/g00110/impl.Lot]", "slices.overlaps[loop.example/g00110/impl.Trade]", "slices.overlaps[loop.example/g00110/impl.Leg]"], unfollowed := true, recurses := true, named := ["math/bits.divideError", "math/bits.overflowError"], apart := false, narrowed := true }
def FnBooksUptoSaid : Prop := fnBooksUptoRow.holds Tryz.pinned (OpenSpec.upto fnBooksSpec)

/-- 'laws.FnNetLegs', WHERE WHAT IT READS IS OF BULK AT MOST 1048576: true; the input reads as it did. -/
def fnNetLegsUptoRow : OpenClaim := { program := "ytgehbhkfehmdkaagreat", sum := "811299da08ded57c60de4688f82dec9bf6de485b6717ee48dd6c9f8fd0725dce", func := "loop.example/g00110/laws.FnNetLegs", spec := "fnNetLegs", inPlace := ["slices.overlaps[loop.example/g00110/impl.Leg]"], unfollowed := true, recurses := true, apart := false, narrowed := true }
def FnNetLegsUptoSaid : Prop := fnNetLegsUptoRow.holds Tryz.pinned (OpenSpec.upto fnNetLegsSpec)

/-- 'laws.FnIssued', WHERE WHAT IT READS IS OF BULK AT MOST 1048576: true; the input reads as it did. -/
def fnIssuedUptoRow : OpenClaim := { program := "ytgehbhkfehmdkaagreat", sum := "811299da08ded57c60de4688f82dec9bf6de485b6717ee48dd6c9f8fd0725dce", func := "loop.example/g00110/laws.FnIssued", spec := "fnIssued", inPlace := ["slices.overlaps[loop.example/g00110/impl.Bal]", "slices.overlaps[loop.example/g00110/impl.Lot]"], unfollowed := true, recurses := true, apart := false, narrowed := true }
def FnIssuedUptoSaid : Prop := fnIssuedUptoRow.holds Tryz.pinned (OpenSpec.upto fnIssuedSpec)

/-- 'laws.FnFx', WHERE WHAT IT READS IS OF BULK AT MOST 1048576: true; the input reads as it did. -/
def fnFxUptoRow : OpenClaim := { program := "ytgehbhkfehmdkaagreat", sum := "811299da08ded57c60de4688f82dec9bf6de485b6717ee48dd6c9f8fd0725dce", func := "loop.example/g00110/laws.FnFx", spec := "fnFx", inPlace := ["slices.overlaps[loop.example/g00110/impl.Bal]"], unfollowed := true, recurses := true, named := ["math/bits.divideError", "math/bits.overflowError"], apart := false, narrowed := true }
def FnFxUptoSaid : Prop := fnFxUptoRow.holds Tryz.pinned (OpenSpec.upto fnFxSpec)

/-- 'laws.FnPaid', WHERE WHAT IT READS IS OF BULK AT MOST 1048576: true; the input reads as it did. -/
def fnPaidUptoRow : OpenClaim := { program := "ytgehbhkfehmdkaagreat", sum := "811299da08ded57c60de4688f82dec9bf6de485b6717ee48dd6c9f8fd0725dce", func := "loop.example/g00110/laws.FnPaid", spec := "fnPaid", inPlace := ["slices.overlaps[loop.example/g00110/impl.Bal]"], unfollowed := true, recurses := true, named := ["math/bits.divideError", "math/bits.overflowError"], apart := false, narrowed := true }
def FnPaidUptoSaid : Prop := fnPaidUptoRow.holds Tryz.pinned (OpenSpec.upto fnPaidSpec)

/-- 'laws.FnExactBookSplit', WHERE WHAT IT READS IS OF BULK AT MOST 1048576: true; the input reads as it did. -/
def fnExactBookSplitUptoRow : OpenClaim := { program := "ytgehbhkfehmdkaagreat", sum := "811299da08ded57c60de4688f82dec9bf6de485b6717ee48dd6c9f8fd0725dce", func := "loop.example/g00110/laws.FnExactBookSplit", spec := "fnExactBookSplit", inPlace := ["slices.overlaps[loop.example/g00110/impl.Bal]"], unfollowed := true, recurses := true, named := ["math/bits.divideError", "math/bits.overflowError"], apart := false, narrowed := true }
def FnExactBookSplitUptoSaid : Prop := fnExactBookSplitUptoRow.holds Tryz.pinned (OpenSpec.upto fnExactBookSplitSpec)

/-- 'laws.FnMoved', WHERE WHAT IT READS IS OF BULK AT MOST 1048576: true; the input reads as it did. -/
def fnMovedUptoRow : OpenClaim := { program := "ytgehbhkfehmdkaagreat", sum := "811299da08ded57c60de4688f82dec9bf6de485b6717ee48dd6c9f8fd0725dce", func := "loop.example/g00110/laws.FnMoved", spec := "fnMoved", inPlace := ["slices.overlaps[loop.example/g00110/impl.Bal]", "slices.overlaps[loop.example/g00110/impl.Lot]"], unfollowed := true, recurses := true, named := ["math/bits.divideError", "math/bits.overflowError"], apart := false, narrowed := true }
def FnMovedUptoSaid : Prop := fnMovedUptoRow.holds Tryz.pinned (OpenSpec.upto fnMovedSpec)

/-- 'laws.FnSettled', WHERE WHAT IT READS IS OF BULK AT MOST 1048576: true; the input reads as it did. -/
def fnSettledUptoRow : OpenClaim := { program := "ytgehbhkfehmdkaagreat", sum := "811299da08ded57c60de4688f82dec9bf6de485b6717ee48dd6c9f8fd0725dce", func := "loop.example/g00110/laws.FnSettled", spec := "fnSettled", inPlace := ["slices.overlaps[loop.example/g00110/impl.Bal]", "slices.overlaps[loop.example/g00110/impl.Lot]"], unfollowed := true, recurses := true, named := ["math/bits.divideError", "math/bits.overflowError"], apart := false, narrowed := true }
def FnSettledUptoSaid : Prop := fnSettledUptoRow.holds Tryz.pinned (OpenSpec.upto fnSettledSpec)

/-- 'laws.FnTraded', WHERE WHAT IT READS IS OF BULK AT MOST 1048576: true; the input reads as it did. -/
def fnTradedUptoRow : OpenClaim := { program := "ytgehbhkfehmdkaagreat", sum := "811299da08ded57c60de4688f82dec9bf6de485b6717ee48dd6c9f8fd0725dce", func := "loop.example/g00110/laws.FnTraded", spec := "fnTraded", inPlace := ["slices.overlaps[loop.example/g00110/impl.Trade]", "slices.overlaps[loop.example/g00110/impl.Bal]", "slices.overlaps[loop.example/g00110/impl.Lot]"], unfollowed := true, recurses := true, named := ["math/bits.divideError", "math/bits.overflowError"], apart := false, narrowed := true }
def FnTradedUptoSaid : Prop := fnTradedUptoRow.holds Tryz.pinned (OpenSpec.upto fnTradedSpec)

/-- 'laws.FnRow', WHERE WHAT IT READS IS OF BULK AT MOST 1048576: true; the input reads as it did. -/
def fnRowUptoRow : OpenClaim := { program := "ytgehbhkfehmdkaagreat", sum := "811299da08ded57c60de4688f82dec9bf6de485b6717ee48dd6c9f8fd0725dce", func := "loop.example/g00110/laws.FnRow", spec := "fnRow", inPlace := ["slices.overlaps[loop.example/g00110/impl.Account]", "slices.overlaps[loop.example/g00110/impl.Instr]", "slices.overlaps[loop.example/g00110/impl.Bal]", "slices.overlaps[loop.example/g00110/impl.Lot]", "slices.overlaps[loop.example/g00110/impl.Trade]", "slices.overlaps[loop.example/g00110/impl.Leg]"], unfollowed := true, recurses := true, named := ["math/bits.divideError", "math/bits.overflowError"], apart := false, narrowed := true }
def FnRowUptoSaid : Prop := fnRowUptoRow.holds Tryz.pinned (OpenSpec.upto fnRowSpec)

/-- 'laws.FnExactCmdApply', WHERE WHAT IT READS IS OF BULK AT MOST 1048576: true; the input reads as it did. -/
def fnExactCmdApplyUptoRow : OpenClaim := { program := "ytgehbhkfehmdkaagreat", sum := "811299da08ded57c60de4688f82dec9bf6de485b6717ee48dd6c9f8fd0725dce", func := "loop.example/g00110/laws.FnExactCmdApply", spec := "fnExactCmdApply", inPlace := ["slices.overlaps[loop.example/g00110/impl.Account]", "slices.overlaps[loop.example/g00110/impl.Instr]", "slices.overlaps[loop.example/g00110/impl.Bal]", "slices.overlaps[loop.example/g00110/impl.Lot]", "slices.overlaps[loop.example/g00110/impl.Trade]", "slices.overlaps[loop.example/g00110/impl.Leg]"], unfollowed := true, recurses := true, named := ["math/bits.divideError", "math/bits.overflowError"], apart := false, narrowed := true }
def FnExactCmdApplyUptoSaid : Prop := fnExactCmdApplyUptoRow.holds Tryz.pinned (OpenSpec.upto fnExactCmdApplySpec)

/-- 'laws.FnExactCmdRun', WHERE WHAT IT READS IS OF BULK AT MOST 1048576: true; the input reads as it did. -/
def fnExactCmdRunUptoRow : OpenClaim := { program := "ytgehbhkfehmdkaagreat", sum := "811299da08ded57c60de4688f82dec9bf6de485b6717ee48dd6c9f8fd0725dce", func := "loop.example/g00110/laws.FnExactCmdRun", spec := "fnExactCmdRun", inPlace := ["slices.overlaps[loop.example/g00110/impl.Account]", "slices.overlaps[loop.example/g00110/impl.Instr]", "slices.overlaps[loop.example/g00110/impl.Bal]", "slices.overlaps[loop.example/g00110/impl.Lot]", "slices.overlaps[loop.example/g00110/impl.Trade]", "slices.overlaps[loop.example/g00110/impl.Leg]"], unfollowed := true, recurses := true, named := ["math/bits.divideError", "math/bits.overflowError"], apart := false, narrowed := true }
def FnExactCmdRunUptoSaid : Prop := fnExactCmdRunUptoRow.holds Tryz.pinned (OpenSpec.upto fnExactCmdRunSpec)

end Rows
end Go.Proofs.YtgehbhkfehmdkaaGreat
