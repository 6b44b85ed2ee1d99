/-
  No cell of these rows narrows 'for every input' (looked for: loops, veiled, ifaces, maps, wideKeys, modest, calm, conditions, laid).
  DERIVED. THE GIVEN ROWS OF THIS SEAT. 3 by the template 'for every input the law returns true; each argument reads behind the call as it read before'; 0 by the template 'total and deterministic' (their statements: YtnlajjoheegbiaaTotals.lean).
  GIVEN WITH THE SEED: the statements are not yours to turn. If you find one false, say at which input.
  Laid BY PROGRAM, IN A SANDBOX (cutbox-rows.mjs): the forced cells as the released guide's own fill.sh prints them over the translation bf5472a3804b9f2f… (all of the seat's roots in one cut). By AI agents, Wed Nov 11 2026. No macro, syntax, notation, axiom, sorry.
-/
import Derived.Test.YtnlajjoheegbiaaChecked
import GoSem.Claim
import GoSem.ClaimJoined
import GoSem.ClaimMapViews
import Derived.JoinedTies
import Derived.KernelRfl
namespace Go.Proofs.Ytnlajjoheegbiaa
/- THE CELL 'sum', in the pinned program and in every row, IS THE sha256 OF THE DUMP (.gsa) THAT YtnlajjoheegbiaaProg.lean LOADS. Nothing in Lean hashes anything: it is a label: what it is worth is what the hold of that sum in a sandbox is worth. -/
noncomputable def Try.pinned : Pinned := { name := "ytnlajjoheegbiaa", sum := "bf5472a3804b9f2f088762cd9aec9c8765c1b9d1119f9c9092b78b0f6a8c22de", checked := Try.checked }
namespace Rows
def none {H : Type} : Left H := { results := [], args := [] }

/-- 'laws.FnExactBooksSize': WHATEVER THE INPUT: true; the input reads as it did. -/
def fnExactBooksSizeSpec : ChangeSpec := { name := "fnExactBooksSize", fn := fun _ => fun
  | [d] => { results := [.lit (.bool true)], args := [d] }
  | _ => none }
def fnExactBooksSizeRow : OpenClaim := { program := "ytnlajjoheegbiaa", sum := "bf5472a3804b9f2f088762cd9aec9c8765c1b9d1119f9c9092b78b0f6a8c22de", func := "loop.example/g00110/laws.FnExactBooksSize", spec := "fnExactBooksSize", unfollowed := true, recurses := true, apart := false }
def FnExactBooksSizeSaid : Prop := fnExactBooksSizeRow.holds Try.pinned (OpenSpec.ofChange fnExactBooksSizeSpec)

/-- ITS FALSE NEIGHBOUR: 'it returns false'. Refute it at one input. -/
def fnExactBooksSizeWrong : ChangeSpec := { name := "fnExactBooksSize", fn := fun _ => fun
  | [d] => { results := [.lit (.bool false)], args := [d] }
  | _ => none }
def FnExactBooksSizeWrongFalsely : Prop := fnExactBooksSizeRow.holds Try.pinned (OpenSpec.ofChange fnExactBooksSizeWrong)

/-- 'laws.FnExactHeld': WHATEVER THE INPUT: true; the input reads as it did. -/
def fnExactHeldSpec : ChangeSpec := { name := "fnExactHeld", fn := fun _ => fun
  | [d1, d2] => { results := [.lit (.bool true)], args := [d1, d2] }
  | _ => none }
def fnExactHeldRow : OpenClaim := { program := "ytnlajjoheegbiaa", sum := "bf5472a3804b9f2f088762cd9aec9c8765c1b9d1119f9c9092b78b0f6a8c22de", func := "loop.example/g00110/laws.FnExactHeld", spec := "fnExactHeld", unfollowed := true, recurses := true, apart := false }
def FnExactHeldSaid : Prop := fnExactHeldRow.holds Try.pinned (OpenSpec.ofChange fnExactHeldSpec)

/-- ITS FALSE NEIGHBOUR: 'it returns false'. Refute it at one input. -/
def fnExactHeldWrong : ChangeSpec := { name := "fnExactHeld", fn := fun _ => fun
  | [d1, d2] => { results := [.lit (.bool false)], args := [d1, d2] }
  | _ => none }
def FnExactHeldWrongFalsely : Prop := fnExactHeldRow.holds Try.pinned (OpenSpec.ofChange fnExactHeldWrong)

/-- 'laws.FnExactBooksRead': WHATEVER THE INPUT: true; the input reads as it did. -/
def fnExactBooksReadSpec : ChangeSpec := { name := "fnExactBooksRead", fn := fun _ => fun
  | [d] => { results := [.lit (.bool true)], args := [d] }
  | _ => none }
def fnExactBooksReadRow : OpenClaim := { program := "ytnlajjoheegbiaa", sum := "bf5472a3804b9f2f088762cd9aec9c8765c1b9d1119f9c9092b78b0f6a8c22de", func := "loop.example/g00110/laws.FnExactBooksRead", spec := "fnExactBooksRead", unfollowed := true, recurses := true, apart := false }
def FnExactBooksReadSaid : Prop := fnExactBooksReadRow.holds Try.pinned (OpenSpec.ofChange fnExactBooksReadSpec)

/-- ITS FALSE NEIGHBOUR: 'it returns false'. Refute it at one input. -/
def fnExactBooksReadWrong : ChangeSpec := { name := "fnExactBooksRead", fn := fun _ => fun
  | [d] => { results := [.lit (.bool false)], args := [d] }
  | _ => none }
def FnExactBooksReadWrongFalsely : Prop := fnExactBooksReadRow.holds Try.pinned (OpenSpec.ofChange fnExactBooksReadWrong)

/- THE SECOND FORM. 'bulk': how many values and letters a reading holds, each counted each time it is reached (what is shared counts as often as it is met; a slice's spare places count too). A statement '..UptoSaid' is the law's where the arguments, and the package variables that the reading takes, are together of bulk at most 1048576: NARROWER than '..Said'. Prove '..Said' where nothing that the law and all that it calls make is longer than what came in: it says more and counts as full. Else prove '..UptoSaid'. A law counts once. -/
mutual
def uptoBulk {H : Type} : DataW H → Nat
  | .lit (.string bytes) => bytes.length + 1
  | .lit _ => 1
  | .nil => 1
  | .ptr d => uptoBulk d + 1
  | .slice elems spare => uptoBulkAll elems + uptoBulkAll spare + 1
  | .agg parts => uptoBulkAll parts + 1
  | .iface _ d => uptoBulk d + 1
  | .map entries => uptoBulkEntries entries + 1
  | .held _ => 1
def uptoBulkAll {H : Type} : List (DataW H) → Nat
  | [] => 0
  | d :: r => uptoBulk d + uptoBulkAll r
def uptoBulkEntries {H : Type} : List (Lit × DataW H) → Nat
  | [] => 0
  | x :: r => uptoBulkEntry x + uptoBulkEntries r
def uptoBulkEntry {H : Type} : Lit × DataW H → Nat
  | (.string bytes, d) => bytes.length + uptoBulk d + 1
  | (_, d) => uptoBulk d + 1
 end
def uptoSmall : (H : Type) → List (DataW H) → Bool := fun _ ds => decide (uptoBulkAll ds ≤ 1048576)
def OpenSpec.upto (s : _root_.Go.ChangeSpec) : _root_.Go.OpenSpec := { _root_.Go.OpenSpec.ofChange s with cond := some uptoSmall }

/-- 'laws.FnExactBooksSize', WHERE WHAT IT READS IS OF BULK AT MOST 1048576: true; the input reads as it did. -/
def fnExactBooksSizeUptoRow : OpenClaim := { program := "ytnlajjoheegbiaa", sum := "bf5472a3804b9f2f088762cd9aec9c8765c1b9d1119f9c9092b78b0f6a8c22de", func := "loop.example/g00110/laws.FnExactBooksSize", spec := "fnExactBooksSize", unfollowed := true, recurses := true, apart := false, narrowed := true }
def FnExactBooksSizeUptoSaid : Prop := fnExactBooksSizeUptoRow.holds Try.pinned (OpenSpec.upto fnExactBooksSizeSpec)

/-- 'laws.FnExactHeld', WHERE WHAT IT READS IS OF BULK AT MOST 1048576: true; the input reads as it did. -/
def fnExactHeldUptoRow : OpenClaim := { program := "ytnlajjoheegbiaa", sum := "bf5472a3804b9f2f088762cd9aec9c8765c1b9d1119f9c9092b78b0f6a8c22de", func := "loop.example/g00110/laws.FnExactHeld", spec := "fnExactHeld", unfollowed := true, recurses := true, apart := false, narrowed := true }
def FnExactHeldUptoSaid : Prop := fnExactHeldUptoRow.holds Try.pinned (OpenSpec.upto fnExactHeldSpec)

/-- 'laws.FnExactBooksRead', WHERE WHAT IT READS IS OF BULK AT MOST 1048576: true; the input reads as it did. -/
def fnExactBooksReadUptoRow : OpenClaim := { program := "ytnlajjoheegbiaa", sum := "bf5472a3804b9f2f088762cd9aec9c8765c1b9d1119f9c9092b78b0f6a8c22de", func := "loop.example/g00110/laws.FnExactBooksRead", spec := "fnExactBooksRead", unfollowed := true, recurses := true, apart := false, narrowed := true }
def FnExactBooksReadUptoSaid : Prop := fnExactBooksReadUptoRow.holds Try.pinned (OpenSpec.upto fnExactBooksReadSpec)

end Rows
end Go.Proofs.Ytnlajjoheegbiaa
