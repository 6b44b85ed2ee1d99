/-
  No cell of these rows narrows 'for every input' (looked for: loops, veiled, ifaces, maps, wideKeys, modest, calm, conditions, laid).
  DERIVED. THE GIVEN ROWS OF THIS SEAT. 16 by the template 'for every input the law returns true; each argument reads behind the call as it read before'; 0 by the template 'total and deterministic' (their statements: YtnafmfhfonhmaaaTotals.lean).
  GIVEN WITH THE SEED: the statements are not yours to turn. If you find one false, say at which input.
  Laid BY PROGRAM, IN A SANDBOX (cutbox-rows.mjs): the forced cells as the released guide's own fill.sh prints them over the translation e7498cbbbc83af02… (all of the seat's roots in one cut). By AI agents, Wed Nov 11 2026. No macro, syntax, notation, axiom, sorry.
-/
import Derived.Test.YtnafmfhfonhmaaaChecked
import GoSem.Claim
import GoSem.ClaimJoined
import GoSem.ClaimMapViews
import Derived.JoinedTies
import Derived.KernelRfl
namespace Go.Proofs.Ytnafmfhfonhmaaa
/- THE CELL 'sum', in the pinned program and in every row, IS THE sha256 OF THE DUMP (.gsa) THAT YtnafmfhfonhmaaaProg.lean LOADS. Nothing in Lean hashes anything: it is a label: what it is worth is what the hold of that sum in a sandbox is worth. -/
noncomputable def Try.pinned : Pinned := { name := "ytnafmfhfonhmaaa", sum := "e7498cbbbc83af02beabb9c7a4ac645a85cb20fd68a2eacddd29ad39490311f9", checked := Try.checked }
namespace Rows
def none {H : Type} : Left H := { results := [], args := [] }

/-- 'laws.FnExactCmdArgs': WHATEVER THE INPUT: true; the input reads as it did. -/
def fnExactCmdArgsSpec : ChangeSpec := { name := "fnExactCmdArgs", fn := fun _ => fun
  | [d] => { results := [.lit (.bool true)], args := [d] }
  | _ => none }
def fnExactCmdArgsRow : OpenClaim := { program := "ytnafmfhfonhmaaa", sum := "e7498cbbbc83af02beabb9c7a4ac645a85cb20fd68a2eacddd29ad39490311f9", func := "loop.example/g00110/laws.FnExactCmdArgs", spec := "fnExactCmdArgs", apart := false }
def FnExactCmdArgsSaid : Prop := fnExactCmdArgsRow.holds Try.pinned (OpenSpec.ofChange fnExactCmdArgsSpec)

/-- ITS FALSE NEIGHBOUR: 'it returns false'. Refute it at one input. -/
def fnExactCmdArgsWrong : ChangeSpec := { name := "fnExactCmdArgs", fn := fun _ => fun
  | [d] => { results := [.lit (.bool false)], args := [d] }
  | _ => none }
def FnExactCmdArgsWrongFalsely : Prop := fnExactCmdArgsRow.holds Try.pinned (OpenSpec.ofChange fnExactCmdArgsWrong)

/-- 'laws.FnExactCheck': WHATEVER THE INPUT: true; the input reads as it did. -/
def fnExactCheckSpec : ChangeSpec := { name := "fnExactCheck", fn := fun _ => fun
  | [d] => { results := [.lit (.bool true)], args := [d] }
  | _ => none }
def fnExactCheckRow : OpenClaim := { program := "ytnafmfhfonhmaaa", sum := "e7498cbbbc83af02beabb9c7a4ac645a85cb20fd68a2eacddd29ad39490311f9", func := "loop.example/g00110/laws.FnExactCheck", spec := "fnExactCheck", apart := false }
def FnExactCheckSaid : Prop := fnExactCheckRow.holds Try.pinned (OpenSpec.ofChange fnExactCheckSpec)

/-- ITS FALSE NEIGHBOUR: 'it returns false'. Refute it at one input. -/
def fnExactCheckWrong : ChangeSpec := { name := "fnExactCheck", fn := fun _ => fun
  | [d] => { results := [.lit (.bool false)], args := [d] }
  | _ => none }
def FnExactCheckWrongFalsely : Prop := fnExactCheckRow.holds Try.pinned (OpenSpec.ofChange fnExactCheckWrong)

/-- 'laws.FnExactPutNum': WHATEVER THE INPUT: true; the input reads as it did. -/
def fnExactPutNumSpec : ChangeSpec := { name := "fnExactPutNum", fn := fun _ => fun
  | [d] => { results := [.lit (.bool true)], args := [d] }
  | _ => none }
def fnExactPutNumRow : OpenClaim := { program := "ytnafmfhfonhmaaa", sum := "e7498cbbbc83af02beabb9c7a4ac645a85cb20fd68a2eacddd29ad39490311f9", func := "loop.example/g00110/laws.FnExactPutNum", spec := "fnExactPutNum", apart := false }
def FnExactPutNumSaid : Prop := fnExactPutNumRow.holds Try.pinned (OpenSpec.ofChange fnExactPutNumSpec)

/-- ITS FALSE NEIGHBOUR: 'it returns false'. Refute it at one input. -/
def fnExactPutNumWrong : ChangeSpec := { name := "fnExactPutNum", fn := fun _ => fun
  | [d] => { results := [.lit (.bool false)], args := [d] }
  | _ => none }
def FnExactPutNumWrongFalsely : Prop := fnExactPutNumRow.holds Try.pinned (OpenSpec.ofChange fnExactPutNumWrong)

/-- 'laws.FnExactGetNum': WHATEVER THE INPUT: true; the input reads as it did. -/
def fnExactGetNumSpec : ChangeSpec := { name := "fnExactGetNum", fn := fun _ => fun
  | [d1, d2] => { results := [.lit (.bool true)], args := [d1, d2] }
  | _ => none }
def fnExactGetNumRow : OpenClaim := { program := "ytnafmfhfonhmaaa", sum := "e7498cbbbc83af02beabb9c7a4ac645a85cb20fd68a2eacddd29ad39490311f9", func := "loop.example/g00110/laws.FnExactGetNum", spec := "fnExactGetNum", apart := false }
def FnExactGetNumSaid : Prop := fnExactGetNumRow.holds Try.pinned (OpenSpec.ofChange fnExactGetNumSpec)

/-- ITS FALSE NEIGHBOUR: 'it returns false'. Refute it at one input. -/
def fnExactGetNumWrong : ChangeSpec := { name := "fnExactGetNum", fn := fun _ => fun
  | [d1, d2] => { results := [.lit (.bool false)], args := [d1, d2] }
  | _ => none }
def FnExactGetNumWrongFalsely : Prop := fnExactGetNumRow.holds Try.pinned (OpenSpec.ofChange fnExactGetNumWrong)

/-- 'laws.FnExactReplyPack': WHATEVER THE INPUT: true; the input reads as it did. -/
def fnExactReplyPackSpec : ChangeSpec := { name := "fnExactReplyPack", fn := fun _ => fun
  | [d] => { results := [.lit (.bool true)], args := [d] }
  | _ => none }
def fnExactReplyPackRow : OpenClaim := { program := "ytnafmfhfonhmaaa", sum := "e7498cbbbc83af02beabb9c7a4ac645a85cb20fd68a2eacddd29ad39490311f9", func := "loop.example/g00110/laws.FnExactReplyPack", spec := "fnExactReplyPack", unfollowed := true, recurses := true, apart := false }
def FnExactReplyPackSaid : Prop := fnExactReplyPackRow.holds Try.pinned (OpenSpec.ofChange fnExactReplyPackSpec)

/-- ITS FALSE NEIGHBOUR: 'it returns false'. Refute it at one input. -/
def fnExactReplyPackWrong : ChangeSpec := { name := "fnExactReplyPack", fn := fun _ => fun
  | [d] => { results := [.lit (.bool false)], args := [d] }
  | _ => none }
def FnExactReplyPackWrongFalsely : Prop := fnExactReplyPackRow.holds Try.pinned (OpenSpec.ofChange fnExactReplyPackWrong)

/-- 'laws.FnExactCmdOk': WHATEVER THE INPUT: true; the input reads as it did. -/
def fnExactCmdOkSpec : ChangeSpec := { name := "fnExactCmdOk", fn := fun _ => fun
  | [d] => { results := [.lit (.bool true)], args := [d] }
  | _ => none }
def fnExactCmdOkRow : OpenClaim := { program := "ytnafmfhfonhmaaa", sum := "e7498cbbbc83af02beabb9c7a4ac645a85cb20fd68a2eacddd29ad39490311f9", func := "loop.example/g00110/laws.FnExactCmdOk", spec := "fnExactCmdOk", unfollowed := true, recurses := true, apart := false }
def FnExactCmdOkSaid : Prop := fnExactCmdOkRow.holds Try.pinned (OpenSpec.ofChange fnExactCmdOkSpec)

/-- ITS FALSE NEIGHBOUR: 'it returns false'. Refute it at one input. -/
def fnExactCmdOkWrong : ChangeSpec := { name := "fnExactCmdOk", fn := fun _ => fun
  | [d] => { results := [.lit (.bool false)], args := [d] }
  | _ => none }
def FnExactCmdOkWrongFalsely : Prop := fnExactCmdOkRow.holds Try.pinned (OpenSpec.ofChange fnExactCmdOkWrong)

/-- 'laws.FnExactPutNums': WHATEVER THE INPUT: true; the input reads as it did. -/
def fnExactPutNumsSpec : ChangeSpec := { name := "fnExactPutNums", fn := fun _ => fun
  | [d] => { results := [.lit (.bool true)], args := [d] }
  | _ => none }
def fnExactPutNumsRow : OpenClaim := { program := "ytnafmfhfonhmaaa", sum := "e7498cbbbc83af02beabb9c7a4ac645a85cb20fd68a2eacddd29ad39490311f9", func := "loop.example/g00110/laws.FnExactPutNums", spec := "fnExactPutNums", unfollowed := true, recurses := true, apart := false }
def FnExactPutNumsSaid : Prop := fnExactPutNumsRow.holds Try.pinned (OpenSpec.ofChange fnExactPutNumsSpec)

/-- ITS FALSE NEIGHBOUR: 'it returns false'. Refute it at one input. -/
def fnExactPutNumsWrong : ChangeSpec := { name := "fnExactPutNums", fn := fun _ => fun
  | [d] => { results := [.lit (.bool false)], args := [d] }
  | _ => none }
def FnExactPutNumsWrongFalsely : Prop := fnExactPutNumsRow.holds Try.pinned (OpenSpec.ofChange fnExactPutNumsWrong)

/-- 'laws.FnExactSeal': WHATEVER THE INPUT: true; the input reads as it did. -/
def fnExactSealSpec : ChangeSpec := { name := "fnExactSeal", fn := fun _ => fun
  | [d] => { results := [.lit (.bool true)], args := [d] }
  | _ => none }
def fnExactSealRow : OpenClaim := { program := "ytnafmfhfonhmaaa", sum := "e7498cbbbc83af02beabb9c7a4ac645a85cb20fd68a2eacddd29ad39490311f9", func := "loop.example/g00110/laws.FnExactSeal", spec := "fnExactSeal", apart := false }
def FnExactSealSaid : Prop := fnExactSealRow.holds Try.pinned (OpenSpec.ofChange fnExactSealSpec)

/-- ITS FALSE NEIGHBOUR: 'it returns false'. Refute it at one input. -/
def fnExactSealWrong : ChangeSpec := { name := "fnExactSeal", fn := fun _ => fun
  | [d] => { results := [.lit (.bool false)], args := [d] }
  | _ => none }
def FnExactSealWrongFalsely : Prop := fnExactSealRow.holds Try.pinned (OpenSpec.ofChange fnExactSealWrong)

/-- 'laws.FnExactReplyRead': WHATEVER THE INPUT: true; the input reads as it did. -/
def fnExactReplyReadSpec : ChangeSpec := { name := "fnExactReplyRead", fn := fun _ => fun
  | [d] => { results := [.lit (.bool true)], args := [d] }
  | _ => none }
def fnExactReplyReadRow : OpenClaim := { program := "ytnafmfhfonhmaaa", sum := "e7498cbbbc83af02beabb9c7a4ac645a85cb20fd68a2eacddd29ad39490311f9", func := "loop.example/g00110/laws.FnExactReplyRead", spec := "fnExactReplyRead", apart := false }
def FnExactReplyReadSaid : Prop := fnExactReplyReadRow.holds Try.pinned (OpenSpec.ofChange fnExactReplyReadSpec)

/-- ITS FALSE NEIGHBOUR: 'it returns false'. Refute it at one input. -/
def fnExactReplyReadWrong : ChangeSpec := { name := "fnExactReplyRead", fn := fun _ => fun
  | [d] => { results := [.lit (.bool false)], args := [d] }
  | _ => none }
def FnExactReplyReadWrongFalsely : Prop := fnExactReplyReadRow.holds Try.pinned (OpenSpec.ofChange fnExactReplyReadWrong)

/-- 'laws.FnExactGetNums': WHATEVER THE INPUT: true; the input reads as it did. -/
def fnExactGetNumsSpec : ChangeSpec := { name := "fnExactGetNums", fn := fun _ => fun
  | [d1, d2, d3] => { results := [.lit (.bool true)], args := [d1, d2, d3] }
  | _ => none }
def fnExactGetNumsRow : OpenClaim := { program := "ytnafmfhfonhmaaa", sum := "e7498cbbbc83af02beabb9c7a4ac645a85cb20fd68a2eacddd29ad39490311f9", func := "loop.example/g00110/laws.FnExactGetNums", spec := "fnExactGetNums", apart := false }
def FnExactGetNumsSaid : Prop := fnExactGetNumsRow.holds Try.pinned (OpenSpec.ofChange fnExactGetNumsSpec)

/-- ITS FALSE NEIGHBOUR: 'it returns false'. Refute it at one input. -/
def fnExactGetNumsWrong : ChangeSpec := { name := "fnExactGetNums", fn := fun _ => fun
  | [d1, d2, d3] => { results := [.lit (.bool false)], args := [d1, d2, d3] }
  | _ => none }
def FnExactGetNumsWrongFalsely : Prop := fnExactGetNumsRow.holds Try.pinned (OpenSpec.ofChange fnExactGetNumsWrong)

/-- 'laws.FnExactUnseal': WHATEVER THE INPUT: true; the input reads as it did. -/
def fnExactUnsealSpec : ChangeSpec := { name := "fnExactUnseal", fn := fun _ => fun
  | [d1, d2] => { results := [.lit (.bool true)], args := [d1, d2] }
  | _ => none }
def fnExactUnsealRow : OpenClaim := { program := "ytnafmfhfonhmaaa", sum := "e7498cbbbc83af02beabb9c7a4ac645a85cb20fd68a2eacddd29ad39490311f9", func := "loop.example/g00110/laws.FnExactUnseal", spec := "fnExactUnseal", apart := false }
def FnExactUnsealSaid : Prop := fnExactUnsealRow.holds Try.pinned (OpenSpec.ofChange fnExactUnsealSpec)

/-- ITS FALSE NEIGHBOUR: 'it returns false'. Refute it at one input. -/
def fnExactUnsealWrong : ChangeSpec := { name := "fnExactUnseal", fn := fun _ => fun
  | [d1, d2] => { results := [.lit (.bool false)], args := [d1, d2] }
  | _ => none }
def FnExactUnsealWrongFalsely : Prop := fnExactUnsealRow.holds Try.pinned (OpenSpec.ofChange fnExactUnsealWrong)

/-- 'laws.FnExactCmdPack': WHATEVER THE INPUT: true; the input reads as it did. -/
def fnExactCmdPackSpec : ChangeSpec := { name := "fnExactCmdPack", fn := fun _ => fun
  | [d] => { results := [.lit (.bool true)], args := [d] }
  | _ => none }
def fnExactCmdPackRow : OpenClaim := { program := "ytnafmfhfonhmaaa", sum := "e7498cbbbc83af02beabb9c7a4ac645a85cb20fd68a2eacddd29ad39490311f9", func := "loop.example/g00110/laws.FnExactCmdPack", spec := "fnExactCmdPack", unfollowed := true, recurses := true, apart := false }
def FnExactCmdPackSaid : Prop := fnExactCmdPackRow.holds Try.pinned (OpenSpec.ofChange fnExactCmdPackSpec)

/-- ITS FALSE NEIGHBOUR: 'it returns false'. Refute it at one input. -/
def fnExactCmdPackWrong : ChangeSpec := { name := "fnExactCmdPack", fn := fun _ => fun
  | [d] => { results := [.lit (.bool false)], args := [d] }
  | _ => none }
def FnExactCmdPackWrongFalsely : Prop := fnExactCmdPackRow.holds Try.pinned (OpenSpec.ofChange fnExactCmdPackWrong)

/-- 'laws.FnExactCmdRead': WHATEVER THE INPUT: true; the input reads as it did. -/
def fnExactCmdReadSpec : ChangeSpec := { name := "fnExactCmdRead", fn := fun _ => fun
  | [d] => { results := [.lit (.bool true)], args := [d] }
  | _ => none }
def fnExactCmdReadRow : OpenClaim := { program := "ytnafmfhfonhmaaa", sum := "e7498cbbbc83af02beabb9c7a4ac645a85cb20fd68a2eacddd29ad39490311f9", func := "loop.example/g00110/laws.FnExactCmdRead", spec := "fnExactCmdRead", unfollowed := true, recurses := true, apart := false }
def FnExactCmdReadSaid : Prop := fnExactCmdReadRow.holds Try.pinned (OpenSpec.ofChange fnExactCmdReadSpec)

/-- ITS FALSE NEIGHBOUR: 'it returns false'. Refute it at one input. -/
def fnExactCmdReadWrong : ChangeSpec := { name := "fnExactCmdRead", fn := fun _ => fun
  | [d] => { results := [.lit (.bool false)], args := [d] }
  | _ => none }
def FnExactCmdReadWrongFalsely : Prop := fnExactCmdReadRow.holds Try.pinned (OpenSpec.ofChange fnExactCmdReadWrong)

/-- 'laws.FnNums': WHATEVER THE INPUT: true; the input reads as it did. -/
def fnNumsSpec : ChangeSpec := { name := "fnNums", fn := fun _ => fun
  | [d] => { results := [.lit (.bool true)], args := [d] }
  | _ => none }
def fnNumsRow : OpenClaim := { program := "ytnafmfhfonhmaaa", sum := "e7498cbbbc83af02beabb9c7a4ac645a85cb20fd68a2eacddd29ad39490311f9", func := "loop.example/g00110/laws.FnNums", spec := "fnNums", unfollowed := true, recurses := true, apart := false }
def FnNumsSaid : Prop := fnNumsRow.holds Try.pinned (OpenSpec.ofChange fnNumsSpec)

/-- ITS FALSE NEIGHBOUR: 'it returns false'. Refute it at one input. -/
def fnNumsWrong : ChangeSpec := { name := "fnNums", fn := fun _ => fun
  | [d] => { results := [.lit (.bool false)], args := [d] }
  | _ => none }
def FnNumsWrongFalsely : Prop := fnNumsRow.holds Try.pinned (OpenSpec.ofChange fnNumsWrong)

/-- 'laws.FnSeal': WHATEVER THE INPUT: true; the input reads as it did. -/
def fnSealSpec : ChangeSpec := { name := "fnSeal", fn := fun _ => fun
  | [d] => { results := [.lit (.bool true)], args := [d] }
  | _ => none }
def fnSealRow : OpenClaim := { program := "ytnafmfhfonhmaaa", sum := "e7498cbbbc83af02beabb9c7a4ac645a85cb20fd68a2eacddd29ad39490311f9", func := "loop.example/g00110/laws.FnSeal", spec := "fnSeal", apart := false }
def FnSealSaid : Prop := fnSealRow.holds Try.pinned (OpenSpec.ofChange fnSealSpec)

/-- ITS FALSE NEIGHBOUR: 'it returns false'. Refute it at one input. -/
def fnSealWrong : ChangeSpec := { name := "fnSeal", fn := fun _ => fun
  | [d] => { results := [.lit (.bool false)], args := [d] }
  | _ => none }
def FnSealWrongFalsely : Prop := fnSealRow.holds Try.pinned (OpenSpec.ofChange fnSealWrong)

/-- 'laws.FnReplyBytes': WHATEVER THE INPUT: true; the input reads as it did. -/
def fnReplyBytesSpec : ChangeSpec := { name := "fnReplyBytes", fn := fun _ => fun
  | [d] => { results := [.lit (.bool true)], args := [d] }
  | _ => none }
def fnReplyBytesRow : OpenClaim := { program := "ytnafmfhfonhmaaa", sum := "e7498cbbbc83af02beabb9c7a4ac645a85cb20fd68a2eacddd29ad39490311f9", func := "loop.example/g00110/laws.FnReplyBytes", spec := "fnReplyBytes", unfollowed := true, recurses := true, apart := false }
def FnReplyBytesSaid : Prop := fnReplyBytesRow.holds Try.pinned (OpenSpec.ofChange fnReplyBytesSpec)

/-- ITS FALSE NEIGHBOUR: 'it returns false'. Refute it at one input. -/
def fnReplyBytesWrong : ChangeSpec := { name := "fnReplyBytes", fn := fun _ => fun
  | [d] => { results := [.lit (.bool false)], args := [d] }
  | _ => none }
def FnReplyBytesWrongFalsely : Prop := fnReplyBytesRow.holds Try.pinned (OpenSpec.ofChange fnReplyBytesWrong)

/- THE SECOND FORM. 'bulk': how many values and letters a reading holds, each counted each time it is reached (what is shared counts as often as it is met; a slice's spare places count too). A statement '..UptoSaid' is the law's where the arguments, and the package variables that the reading takes, are together of bulk at most 1048576: NARROWER than '..Said'. Prove '..Said' where nothing that the law and all that it calls make is longer than what came in: it says more and counts as full. Else prove '..UptoSaid'. A law counts once. -/
mutual
def uptoBulk {H : Type} : DataW H → Nat
  | .lit (.string bytes) => bytes.length + 1
  | .lit _ => 1
  | .nil => 1
  | .ptr d => uptoBulk d + 1
  | .slice elems spare => uptoBulkAll elems + uptoBulkAll spare + 1
  | .agg parts => uptoBulkAll parts + 1
  | .iface _ d => uptoBulk d + 1
  | .map entries => uptoBulkEntries entries + 1
  | .held _ => 1
def uptoBulkAll {H : Type} : List (DataW H) → Nat
  | [] => 0
  | d :: r => uptoBulk d + uptoBulkAll r
def uptoBulkEntries {H : Type} : List (Lit × DataW H) → Nat
  | [] => 0
  | x :: r => uptoBulkEntry x + uptoBulkEntries r
def uptoBulkEntry {H : Type} : Lit × DataW H → Nat
  | (.string bytes, d) => bytes.length + uptoBulk d + 1
  | (_, d) => uptoBulk d + 1
 end
def uptoSmall : (H : Type) → List (DataW H) → Bool := fun _ ds => decide (uptoBulkAll ds ≤ 1048576)
def OpenSpec.upto (s : _root_.Go.ChangeSpec) : _root_.Go.OpenSpec := { _root_.Go.OpenSpec.ofChange s with cond := some uptoSmall }

/-- 'laws.FnExactCmdArgs', WHERE WHAT IT READS IS OF BULK AT MOST 1048576: true; the input reads as it did. -/
def fnExactCmdArgsUptoRow : OpenClaim := { program := "ytnafmfhfonhmaaa", sum := "e7498cbbbc83af02beabb9c7a4ac645a85cb20fd68a2eacddd29ad39490311f9", func := "loop.example/g00110/laws.FnExactCmdArgs", spec := "fnExactCmdArgs", apart := false, narrowed := true }
def FnExactCmdArgsUptoSaid : Prop := fnExactCmdArgsUptoRow.holds Try.pinned (OpenSpec.upto fnExactCmdArgsSpec)

/-- 'laws.FnExactCheck', WHERE WHAT IT READS IS OF BULK AT MOST 1048576: true; the input reads as it did. -/
def fnExactCheckUptoRow : OpenClaim := { program := "ytnafmfhfonhmaaa", sum := "e7498cbbbc83af02beabb9c7a4ac645a85cb20fd68a2eacddd29ad39490311f9", func := "loop.example/g00110/laws.FnExactCheck", spec := "fnExactCheck", apart := false, narrowed := true }
def FnExactCheckUptoSaid : Prop := fnExactCheckUptoRow.holds Try.pinned (OpenSpec.upto fnExactCheckSpec)

/-- 'laws.FnExactPutNum', WHERE WHAT IT READS IS OF BULK AT MOST 1048576: true; the input reads as it did. -/
def fnExactPutNumUptoRow : OpenClaim := { program := "ytnafmfhfonhmaaa", sum := "e7498cbbbc83af02beabb9c7a4ac645a85cb20fd68a2eacddd29ad39490311f9", func := "loop.example/g00110/laws.FnExactPutNum", spec := "fnExactPutNum", apart := false, narrowed := true }
def FnExactPutNumUptoSaid : Prop := fnExactPutNumUptoRow.holds Try.pinned (OpenSpec.upto fnExactPutNumSpec)

/-- 'laws.FnExactGetNum', WHERE WHAT IT READS IS OF BULK AT MOST 1048576: true; the input reads as it did. -/
def fnExactGetNumUptoRow : OpenClaim := { program := "ytnafmfhfonhmaaa", sum := "e7498cbbbc83af02beabb9c7a4ac645a85cb20fd68a2eacddd29ad39490311f9", func := "loop.example/g00110/laws.FnExactGetNum", spec := "fnExactGetNum", apart := false, narrowed := true }
def FnExactGetNumUptoSaid : Prop := fnExactGetNumUptoRow.holds Try.pinned (OpenSpec.upto fnExactGetNumSpec)

/-- 'laws.FnExactReplyPack', WHERE WHAT IT READS IS OF BULK AT MOST 1048576: true; the input reads as it did. -/
def fnExactReplyPackUptoRow : OpenClaim := { program := "ytnafmfhfonhmaaa", sum := "e7498cbbbc83af02beabb9c7a4ac645a85cb20fd68a2eacddd29ad39490311f9", func := "loop.example/g00110/laws.FnExactReplyPack", spec := "fnExactReplyPack", unfollowed := true, recurses := true, apart := false, narrowed := true }
def FnExactReplyPackUptoSaid : Prop := fnExactReplyPackUptoRow.holds Try.pinned (OpenSpec.upto fnExactReplyPackSpec)

/-- 'laws.FnExactCmdOk', WHERE WHAT IT READS IS OF BULK AT MOST 1048576: true; the input reads as it did. -/
def fnExactCmdOkUptoRow : OpenClaim := { program := "ytnafmfhfonhmaaa", sum := "e7498cbbbc83af02beabb9c7a4ac645a85cb20fd68a2eacddd29ad39490311f9", func := "loop.example/g00110/laws.FnExactCmdOk", spec := "fnExactCmdOk", unfollowed := true, recurses := true, apart := false, narrowed := true }
def FnExactCmdOkUptoSaid : Prop := fnExactCmdOkUptoRow.holds Try.pinned (OpenSpec.upto fnExactCmdOkSpec)

/-- 'laws.FnExactPutNums', WHERE WHAT IT READS IS OF BULK AT MOST 1048576: true; the input reads as it did. -/
def fnExactPutNumsUptoRow : OpenClaim := { program := "ytnafmfhfonhmaaa", sum := "e7498cbbbc83af02beabb9c7a4ac645a85cb20fd68a2eacddd29ad39490311f9", func := "loop.example/g00110/laws.FnExactPutNums", spec := "fnExactPutNums", unfollowed := true, recurses := true, apart := false, narrowed := true }
def FnExactPutNumsUptoSaid : Prop := fnExactPutNumsUptoRow.holds Try.pinned (OpenSpec.upto fnExactPutNumsSpec)

/-- 'laws.FnExactSeal', WHERE WHAT IT READS IS OF BULK AT MOST 1048576: true; the input reads as it did. -/
def fnExactSealUptoRow : OpenClaim := { program := "ytnafmfhfonhmaaa", sum := "e7498cbbbc83af02beabb9c7a4ac645a85cb20fd68a2eacddd29ad39490311f9", func := "loop.example/g00110/laws.FnExactSeal", spec := "fnExactSeal", apart := false, narrowed := true }
def FnExactSealUptoSaid : Prop := fnExactSealUptoRow.holds Try.pinned (OpenSpec.upto fnExactSealSpec)

/-- 'laws.FnExactReplyRead', WHERE WHAT IT READS IS OF BULK AT MOST 1048576: true; the input reads as it did. -/
def fnExactReplyReadUptoRow : OpenClaim := { program := "ytnafmfhfonhmaaa", sum := "e7498cbbbc83af02beabb9c7a4ac645a85cb20fd68a2eacddd29ad39490311f9", func := "loop.example/g00110/laws.FnExactReplyRead", spec := "fnExactReplyRead", apart := false, narrowed := true }
def FnExactReplyReadUptoSaid : Prop := fnExactReplyReadUptoRow.holds Try.pinned (OpenSpec.upto fnExactReplyReadSpec)

/-- 'laws.FnExactGetNums', WHERE WHAT IT READS IS OF BULK AT MOST 1048576: true; the input reads as it did. -/
def fnExactGetNumsUptoRow : OpenClaim := { program := "ytnafmfhfonhmaaa", sum := "e7498cbbbc83af02beabb9c7a4ac645a85cb20fd68a2eacddd29ad39490311f9", func := "loop.example/g00110/laws.FnExactGetNums", spec := "fnExactGetNums", apart := false, narrowed := true }
def FnExactGetNumsUptoSaid : Prop := fnExactGetNumsUptoRow.holds Try.pinned (OpenSpec.upto fnExactGetNumsSpec)

/-- 'laws.FnExactUnseal', WHERE WHAT IT READS IS OF BULK AT MOST 1048576: true; the input reads as it did. -/
def fnExactUnsealUptoRow : OpenClaim := { program := "ytnafmfhfonhmaaa", sum := "e7498cbbbc83af02beabb9c7a4ac645a85cb20fd68a2eacddd29ad39490311f9", func := "loop.example/g00110/laws.FnExactUnseal", spec := "fnExactUnseal", apart := false, narrowed := true }
def FnExactUnsealUptoSaid : Prop := fnExactUnsealUptoRow.holds Try.pinned (OpenSpec.upto fnExactUnsealSpec)

/-- 'laws.FnExactCmdPack', WHERE WHAT IT READS IS OF BULK AT MOST 1048576: true; the input reads as it did. -/
def fnExactCmdPackUptoRow : OpenClaim := { program := "ytnafmfhfonhmaaa", sum := "e7498cbbbc83af02beabb9c7a4ac645a85cb20fd68a2eacddd29ad39490311f9", func := "loop.example/g00110/laws.FnExactCmdPack", spec := "fnExactCmdPack", unfollowed := true, recurses := true, apart := false, narrowed := true }
def FnExactCmdPackUptoSaid : Prop := fnExactCmdPackUptoRow.holds Try.pinned (OpenSpec.upto fnExactCmdPackSpec)

/-- 'laws.FnExactCmdRead', WHERE WHAT IT READS IS OF BULK AT MOST 1048576: true; the input reads as it did. -/
def fnExactCmdReadUptoRow : OpenClaim := { program := "ytnafmfhfonhmaaa", sum := "e7498cbbbc83af02beabb9c7a4ac645a85cb20fd68a2eacddd29ad39490311f9", func := "loop.example/g00110/laws.FnExactCmdRead", spec := "fnExactCmdRead", unfollowed := true, recurses := true, apart := false, narrowed := true }
def FnExactCmdReadUptoSaid : Prop := fnExactCmdReadUptoRow.holds Try.pinned (OpenSpec.upto fnExactCmdReadSpec)

/-- 'laws.FnNums', WHERE WHAT IT READS IS OF BULK AT MOST 1048576: true; the input reads as it did. -/
def fnNumsUptoRow : OpenClaim := { program := "ytnafmfhfonhmaaa", sum := "e7498cbbbc83af02beabb9c7a4ac645a85cb20fd68a2eacddd29ad39490311f9", func := "loop.example/g00110/laws.FnNums", spec := "fnNums", unfollowed := true, recurses := true, apart := false, narrowed := true }
def FnNumsUptoSaid : Prop := fnNumsUptoRow.holds Try.pinned (OpenSpec.upto fnNumsSpec)

/-- 'laws.FnSeal', WHERE WHAT IT READS IS OF BULK AT MOST 1048576: true; the input reads as it did. -/
def fnSealUptoRow : OpenClaim := { program := "ytnafmfhfonhmaaa", sum := "e7498cbbbc83af02beabb9c7a4ac645a85cb20fd68a2eacddd29ad39490311f9", func := "loop.example/g00110/laws.FnSeal", spec := "fnSeal", apart := false, narrowed := true }
def FnSealUptoSaid : Prop := fnSealUptoRow.holds Try.pinned (OpenSpec.upto fnSealSpec)

/-- 'laws.FnReplyBytes', WHERE WHAT IT READS IS OF BULK AT MOST 1048576: true; the input reads as it did. -/
def fnReplyBytesUptoRow : OpenClaim := { program := "ytnafmfhfonhmaaa", sum := "e7498cbbbc83af02beabb9c7a4ac645a85cb20fd68a2eacddd29ad39490311f9", func := "loop.example/g00110/laws.FnReplyBytes", spec := "fnReplyBytes", unfollowed := true, recurses := true, apart := false, narrowed := true }
def FnReplyBytesUptoSaid : Prop := fnReplyBytesUptoRow.holds Try.pinned (OpenSpec.upto fnReplyBytesSpec)

end Rows
end Go.Proofs.Ytnafmfhfonhmaaa
