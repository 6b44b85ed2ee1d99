/-
  No cell of these rows narrows 'for every input' (looked for: loops, veiled, ifaces, maps, wideKeys, modest, calm, conditions, laid).
  DERIVED. THE GIVEN ROWS OF THIS SEAT. 10 by the template 'for every input the law returns true; each argument reads behind the call as it read before'; 0 by the template 'total and deterministic' (their statements: YtbbeaghhchjkgaaTotals.lean).
  GIVEN WITH THE SEED: the statements are not yours to turn. If you find one false, say at which input.
  Laid BY PROGRAM, IN A SANDBOX (cutbox-rows.mjs): the forced cells as the released guide's own fill.sh prints them over the translation 2064e3d1e3971e68… (all of the seat's roots in one cut). By AI agents, Wed Nov 11 2026. No macro, syntax, notation, axiom, sorry.
-/
import Derived.Test.YtbbeaghhchjkgaaChecked
import GoSem.Claim
import GoSem.ClaimJoined
import GoSem.ClaimMapViews
import Derived.JoinedTies
import Derived.KernelRfl
namespace Go.Proofs.Ytbbeaghhchjkgaa
/- THE CELL 'sum', in the pinned program and in every row, IS THE sha256 OF THE DUMP (.gsa) THAT YtbbeaghhchjkgaaProg.lean LOADS. Nothing in Lean hashes anything: it is a label: what it is worth is what the hold of that sum in a sandbox is worth. -/
noncomputable def Try.pinned : Pinned := { name := "ytbbeaghhchjkgaa", sum := "2064e3d1e3971e68c28d6ec6699f730b6f76338c444239549e7ee1b34808eadd", checked := Try.checked }
namespace Rows
def none {H : Type} : Left H := { results := [], args := [] }

/-- 'laws.FnExactDiskOk': WHATEVER THE INPUT: true; the input reads as it did. -/
def fnExactDiskOkSpec : ChangeSpec := { name := "fnExactDiskOk", fn := fun _ => fun
  | [d] => { results := [.lit (.bool true)], args := [d] }
  | _ => none }
def fnExactDiskOkRow : OpenClaim := { program := "ytbbeaghhchjkgaa", sum := "2064e3d1e3971e68c28d6ec6699f730b6f76338c444239549e7ee1b34808eadd", func := "loop.example/g00110/laws.FnExactDiskOk", spec := "fnExactDiskOk", apart := false }
def FnExactDiskOkSaid : Prop := fnExactDiskOkRow.holds Try.pinned (OpenSpec.ofChange fnExactDiskOkSpec)

/-- ITS FALSE NEIGHBOUR: 'it returns false'. Refute it at one input. -/
def fnExactDiskOkWrong : ChangeSpec := { name := "fnExactDiskOk", fn := fun _ => fun
  | [d] => { results := [.lit (.bool false)], args := [d] }
  | _ => none }
def FnExactDiskOkWrongFalsely : Prop := fnExactDiskOkRow.holds Try.pinned (OpenSpec.ofChange fnExactDiskOkWrong)

/-- 'laws.FnExactDiskRead': WHATEVER THE INPUT: true; the input reads as it did. -/
def fnExactDiskReadSpec : ChangeSpec := { name := "fnExactDiskRead", fn := fun _ => fun
  | [d1, d2] => { results := [.lit (.bool true)], args := [d1, d2] }
  | _ => none }
def fnExactDiskReadRow : OpenClaim := { program := "ytbbeaghhchjkgaa", sum := "2064e3d1e3971e68c28d6ec6699f730b6f76338c444239549e7ee1b34808eadd", func := "loop.example/g00110/laws.FnExactDiskRead", spec := "fnExactDiskRead", unfollowed := true, recurses := true, apart := false }
def FnExactDiskReadSaid : Prop := fnExactDiskReadRow.holds Try.pinned (OpenSpec.ofChange fnExactDiskReadSpec)

/-- ITS FALSE NEIGHBOUR: 'it returns false'. Refute it at one input. -/
def fnExactDiskReadWrong : ChangeSpec := { name := "fnExactDiskRead", fn := fun _ => fun
  | [d1, d2] => { results := [.lit (.bool false)], args := [d1, d2] }
  | _ => none }
def FnExactDiskReadWrongFalsely : Prop := fnExactDiskReadRow.holds Try.pinned (OpenSpec.ofChange fnExactDiskReadWrong)

/-- 'laws.FnExactDiskCrash': WHATEVER THE INPUT: true; the input reads as it did. -/
def fnExactDiskCrashSpec : ChangeSpec := { name := "fnExactDiskCrash", fn := fun _ => fun
  | [d1, d2] => { results := [.lit (.bool true)], args := [d1, d2] }
  | _ => none }
def fnExactDiskCrashRow : OpenClaim := { program := "ytbbeaghhchjkgaa", sum := "2064e3d1e3971e68c28d6ec6699f730b6f76338c444239549e7ee1b34808eadd", func := "loop.example/g00110/laws.FnExactDiskCrash", spec := "fnExactDiskCrash", apart := false }
def FnExactDiskCrashSaid : Prop := fnExactDiskCrashRow.holds Try.pinned (OpenSpec.ofChange fnExactDiskCrashSpec)

/-- ITS FALSE NEIGHBOUR: 'it returns false'. Refute it at one input. -/
def fnExactDiskCrashWrong : ChangeSpec := { name := "fnExactDiskCrash", fn := fun _ => fun
  | [d1, d2] => { results := [.lit (.bool false)], args := [d1, d2] }
  | _ => none }
def FnExactDiskCrashWrongFalsely : Prop := fnExactDiskCrashRow.holds Try.pinned (OpenSpec.ofChange fnExactDiskCrashWrong)

/-- 'laws.FnExactDiskSync': WHATEVER THE INPUT: true; the input reads as it did. -/
def fnExactDiskSyncSpec : ChangeSpec := { name := "fnExactDiskSync", fn := fun _ => fun
  | [d1, d2] => { results := [.lit (.bool true)], args := [d1, d2] }
  | _ => none }
def fnExactDiskSyncRow : OpenClaim := { program := "ytbbeaghhchjkgaa", sum := "2064e3d1e3971e68c28d6ec6699f730b6f76338c444239549e7ee1b34808eadd", func := "loop.example/g00110/laws.FnExactDiskSync", spec := "fnExactDiskSync", unfollowed := true, recurses := true, apart := false }
def FnExactDiskSyncSaid : Prop := fnExactDiskSyncRow.holds Try.pinned (OpenSpec.ofChange fnExactDiskSyncSpec)

/-- ITS FALSE NEIGHBOUR: 'it returns false'. Refute it at one input. -/
def fnExactDiskSyncWrong : ChangeSpec := { name := "fnExactDiskSync", fn := fun _ => fun
  | [d1, d2] => { results := [.lit (.bool false)], args := [d1, d2] }
  | _ => none }
def FnExactDiskSyncWrongFalsely : Prop := fnExactDiskSyncRow.holds Try.pinned (OpenSpec.ofChange fnExactDiskSyncWrong)

/-- 'laws.FnDisk': WHATEVER THE INPUT: true; the input reads as it did. -/
def fnDiskSpec : ChangeSpec := { name := "fnDisk", fn := fun _ => fun
  | [d] => { results := [.lit (.bool true)], args := [d] }
  | _ => none }
def fnDiskRow : OpenClaim := { program := "ytbbeaghhchjkgaa", sum := "2064e3d1e3971e68c28d6ec6699f730b6f76338c444239549e7ee1b34808eadd", func := "loop.example/g00110/laws.FnDisk", spec := "fnDisk", unfollowed := true, recurses := true, apart := false }
def FnDiskSaid : Prop := fnDiskRow.holds Try.pinned (OpenSpec.ofChange fnDiskSpec)

/-- ITS FALSE NEIGHBOUR: 'it returns false'. Refute it at one input. -/
def fnDiskWrong : ChangeSpec := { name := "fnDisk", fn := fun _ => fun
  | [d] => { results := [.lit (.bool false)], args := [d] }
  | _ => none }
def FnDiskWrongFalsely : Prop := fnDiskRow.holds Try.pinned (OpenSpec.ofChange fnDiskWrong)

/-- 'laws.FnExactDiskDrop': WHATEVER THE INPUT: true; the input reads as it did. -/
def fnExactDiskDropSpec : ChangeSpec := { name := "fnExactDiskDrop", fn := fun _ => fun
  | [d1, d2] => { results := [.lit (.bool true)], args := [d1, d2] }
  | _ => none }
def fnExactDiskDropRow : OpenClaim := { program := "ytbbeaghhchjkgaa", sum := "2064e3d1e3971e68c28d6ec6699f730b6f76338c444239549e7ee1b34808eadd", func := "loop.example/g00110/laws.FnExactDiskDrop", spec := "fnExactDiskDrop", unfollowed := true, recurses := true, apart := false }
def FnExactDiskDropSaid : Prop := fnExactDiskDropRow.holds Try.pinned (OpenSpec.ofChange fnExactDiskDropSpec)

/-- ITS FALSE NEIGHBOUR: 'it returns false'. Refute it at one input. -/
def fnExactDiskDropWrong : ChangeSpec := { name := "fnExactDiskDrop", fn := fun _ => fun
  | [d1, d2] => { results := [.lit (.bool false)], args := [d1, d2] }
  | _ => none }
def FnExactDiskDropWrongFalsely : Prop := fnExactDiskDropRow.holds Try.pinned (OpenSpec.ofChange fnExactDiskDropWrong)

/-- 'laws.FnExactDiskCut': WHATEVER THE INPUT: true; the input reads as it did. -/
def fnExactDiskCutSpec : ChangeSpec := { name := "fnExactDiskCut", fn := fun _ => fun
  | [d1, d2, d3] => { results := [.lit (.bool true)], args := [d1, d2, d3] }
  | _ => none }
def fnExactDiskCutRow : OpenClaim := { program := "ytbbeaghhchjkgaa", sum := "2064e3d1e3971e68c28d6ec6699f730b6f76338c444239549e7ee1b34808eadd", func := "loop.example/g00110/laws.FnExactDiskCut", spec := "fnExactDiskCut", unfollowed := true, recurses := true, apart := false }
def FnExactDiskCutSaid : Prop := fnExactDiskCutRow.holds Try.pinned (OpenSpec.ofChange fnExactDiskCutSpec)

/-- ITS FALSE NEIGHBOUR: 'it returns false'. Refute it at one input. -/
def fnExactDiskCutWrong : ChangeSpec := { name := "fnExactDiskCut", fn := fun _ => fun
  | [d1, d2, d3] => { results := [.lit (.bool false)], args := [d1, d2, d3] }
  | _ => none }
def FnExactDiskCutWrongFalsely : Prop := fnExactDiskCutRow.holds Try.pinned (OpenSpec.ofChange fnExactDiskCutWrong)

/-- 'laws.FnExactDiskAppend': WHATEVER THE INPUT: true; the input reads as it did. -/
def fnExactDiskAppendSpec : ChangeSpec := { name := "fnExactDiskAppend", fn := fun _ => fun
  | [d1, d2, d3] => { results := [.lit (.bool true)], args := [d1, d2, d3] }
  | _ => none }
def fnExactDiskAppendRow : OpenClaim := { program := "ytbbeaghhchjkgaa", sum := "2064e3d1e3971e68c28d6ec6699f730b6f76338c444239549e7ee1b34808eadd", func := "loop.example/g00110/laws.FnExactDiskAppend", spec := "fnExactDiskAppend", inPlace := ["slices.overlaps[loop.example/g00110/impl.File]"], unfollowed := true, recurses := true, apart := false }
def FnExactDiskAppendSaid : Prop := fnExactDiskAppendRow.holds Try.pinned (OpenSpec.ofChange fnExactDiskAppendSpec)

/-- ITS FALSE NEIGHBOUR: 'it returns false'. Refute it at one input. -/
def fnExactDiskAppendWrong : ChangeSpec := { name := "fnExactDiskAppend", fn := fun _ => fun
  | [d1, d2, d3] => { results := [.lit (.bool false)], args := [d1, d2, d3] }
  | _ => none }
def FnExactDiskAppendWrongFalsely : Prop := fnExactDiskAppendRow.holds Try.pinned (OpenSpec.ofChange fnExactDiskAppendWrong)

/-- 'laws.FnExactDiskMove': WHATEVER THE INPUT: true; the input reads as it did. -/
def fnExactDiskMoveSpec : ChangeSpec := { name := "fnExactDiskMove", fn := fun _ => fun
  | [d1, d2, d3] => { results := [.lit (.bool true)], args := [d1, d2, d3] }
  | _ => none }
def fnExactDiskMoveRow : OpenClaim := { program := "ytbbeaghhchjkgaa", sum := "2064e3d1e3971e68c28d6ec6699f730b6f76338c444239549e7ee1b34808eadd", func := "loop.example/g00110/laws.FnExactDiskMove", spec := "fnExactDiskMove", inPlace := ["slices.overlaps[loop.example/g00110/impl.File]"], unfollowed := true, recurses := true, apart := false }
def FnExactDiskMoveSaid : Prop := fnExactDiskMoveRow.holds Try.pinned (OpenSpec.ofChange fnExactDiskMoveSpec)

/-- ITS FALSE NEIGHBOUR: 'it returns false'. Refute it at one input. -/
def fnExactDiskMoveWrong : ChangeSpec := { name := "fnExactDiskMove", fn := fun _ => fun
  | [d1, d2, d3] => { results := [.lit (.bool false)], args := [d1, d2, d3] }
  | _ => none }
def FnExactDiskMoveWrongFalsely : Prop := fnExactDiskMoveRow.holds Try.pinned (OpenSpec.ofChange fnExactDiskMoveWrong)

/-- 'laws.FnExactBooksSame': WHATEVER THE INPUT: true; the input reads as it did. -/
def fnExactBooksSameSpec : ChangeSpec := { name := "fnExactBooksSame", fn := fun _ => fun
  | [d1, d2] => { results := [.lit (.bool true)], args := [d1, d2] }
  | _ => none }
def fnExactBooksSameRow : OpenClaim := { program := "ytbbeaghhchjkgaa", sum := "2064e3d1e3971e68c28d6ec6699f730b6f76338c444239549e7ee1b34808eadd", func := "loop.example/g00110/laws.FnExactBooksSame", spec := "fnExactBooksSame", apart := false }
def FnExactBooksSameSaid : Prop := fnExactBooksSameRow.holds Try.pinned (OpenSpec.ofChange fnExactBooksSameSpec)

/-- ITS FALSE NEIGHBOUR: 'it returns false'. Refute it at one input. -/
def fnExactBooksSameWrong : ChangeSpec := { name := "fnExactBooksSame", fn := fun _ => fun
  | [d1, d2] => { results := [.lit (.bool false)], args := [d1, d2] }
  | _ => none }
def FnExactBooksSameWrongFalsely : Prop := fnExactBooksSameRow.holds Try.pinned (OpenSpec.ofChange fnExactBooksSameWrong)

/- THE SECOND FORM. 'bulk': how many values and letters a reading holds, each counted each time it is reached (what is shared counts as often as it is met; a slice's spare places count too). A statement '..UptoSaid' is the law's where the arguments, and the package variables that the reading takes, are together of bulk at most 1048576: NARROWER than '..Said'. Prove '..Said' where nothing that the law and all that it calls make is longer than what came in: it says more and counts as full. Else prove '..UptoSaid'. A law counts once. -/
mutual
def uptoBulk {H : Type} : DataW H → Nat
  | .lit (.string bytes) => bytes.length + 1
  | .lit _ => 1
  | .nil => 1
  | .ptr d => uptoBulk d + 1
  | .slice elems spare => uptoBulkAll elems + uptoBulkAll spare + 1
  | .agg parts => uptoBulkAll parts + 1
  | .iface _ d => uptoBulk d + 1
  | .map entries => uptoBulkEntries entries + 1
  | .held _ => 1
def uptoBulkAll {H : Type} : List (DataW H) → Nat
  | [] => 0
  | d :: r => uptoBulk d + uptoBulkAll r
def uptoBulkEntries {H : Type} : List (Lit × DataW H) → Nat
  | [] => 0
  | x :: r => uptoBulkEntry x + uptoBulkEntries r
def uptoBulkEntry {H : Type} : Lit × DataW H → Nat
  | (.string bytes, d) => bytes.length + uptoBulk d + 1
  | (_, d) => uptoBulk d + 1
 end
def uptoSmall : (H : Type) → List (DataW H) → Bool := fun _ ds => decide (uptoBulkAll ds ≤ 1048576)
def OpenSpec.upto (s : _root_.Go.ChangeSpec) : _root_.Go.OpenSpec := { _root_.Go.OpenSpec.ofChange s with cond := some uptoSmall }

/-- 'laws.FnExactDiskOk', WHERE WHAT IT READS IS OF BULK AT MOST 1048576: true; the input reads as it did. -/
def fnExactDiskOkUptoRow : OpenClaim := { program := "ytbbeaghhchjkgaa", sum := "2064e3d1e3971e68c28d6ec6699f730b6f76338c444239549e7ee1b34808eadd", func := "loop.example/g00110/laws.FnExactDiskOk", spec := "fnExactDiskOk", apart := false, narrowed := true }
def FnExactDiskOkUptoSaid : Prop := fnExactDiskOkUptoRow.holds Try.pinned (OpenSpec.upto fnExactDiskOkSpec)

/-- 'laws.FnExactDiskRead', WHERE WHAT IT READS IS OF BULK AT MOST 1048576: true; the input reads as it did. -/
def fnExactDiskReadUptoRow : OpenClaim := { program := "ytbbeaghhchjkgaa", sum := "2064e3d1e3971e68c28d6ec6699f730b6f76338c444239549e7ee1b34808eadd", func := "loop.example/g00110/laws.FnExactDiskRead", spec := "fnExactDiskRead", unfollowed := true, recurses := true, apart := false, narrowed := true }
def FnExactDiskReadUptoSaid : Prop := fnExactDiskReadUptoRow.holds Try.pinned (OpenSpec.upto fnExactDiskReadSpec)

/-- 'laws.FnExactDiskCrash', WHERE WHAT IT READS IS OF BULK AT MOST 1048576: true; the input reads as it did. -/
def fnExactDiskCrashUptoRow : OpenClaim := { program := "ytbbeaghhchjkgaa", sum := "2064e3d1e3971e68c28d6ec6699f730b6f76338c444239549e7ee1b34808eadd", func := "loop.example/g00110/laws.FnExactDiskCrash", spec := "fnExactDiskCrash", apart := false, narrowed := true }
def FnExactDiskCrashUptoSaid : Prop := fnExactDiskCrashUptoRow.holds Try.pinned (OpenSpec.upto fnExactDiskCrashSpec)

/-- 'laws.FnExactDiskSync', WHERE WHAT IT READS IS OF BULK AT MOST 1048576: true; the input reads as it did. -/
def fnExactDiskSyncUptoRow : OpenClaim := { program := "ytbbeaghhchjkgaa", sum := "2064e3d1e3971e68c28d6ec6699f730b6f76338c444239549e7ee1b34808eadd", func := "loop.example/g00110/laws.FnExactDiskSync", spec := "fnExactDiskSync", unfollowed := true, recurses := true, apart := false, narrowed := true }
def FnExactDiskSyncUptoSaid : Prop := fnExactDiskSyncUptoRow.holds Try.pinned (OpenSpec.upto fnExactDiskSyncSpec)

/-- 'laws.FnDisk', WHERE WHAT IT READS IS OF BULK AT MOST 1048576: true; the input reads as it did. -/
def fnDiskUptoRow : OpenClaim := { program := "ytbbeaghhchjkgaa", sum := "2064e3d1e3971e68c28d6ec6699f730b6f76338c444239549e7ee1b34808eadd", func := "loop.example/g00110/laws.FnDisk", spec := "fnDisk", unfollowed := true, recurses := true, apart := false, narrowed := true }
def FnDiskUptoSaid : Prop := fnDiskUptoRow.holds Try.pinned (OpenSpec.upto fnDiskSpec)

/-- 'laws.FnExactDiskDrop', WHERE WHAT IT READS IS OF BULK AT MOST 1048576: true; the input reads as it did. -/
def fnExactDiskDropUptoRow : OpenClaim := { program := "ytbbeaghhchjkgaa", sum := "2064e3d1e3971e68c28d6ec6699f730b6f76338c444239549e7ee1b34808eadd", func := "loop.example/g00110/laws.FnExactDiskDrop", spec := "fnExactDiskDrop", unfollowed := true, recurses := true, apart := false, narrowed := true }
def FnExactDiskDropUptoSaid : Prop := fnExactDiskDropUptoRow.holds Try.pinned (OpenSpec.upto fnExactDiskDropSpec)

/-- 'laws.FnExactDiskCut', WHERE WHAT IT READS IS OF BULK AT MOST 1048576: true; the input reads as it did. -/
def fnExactDiskCutUptoRow : OpenClaim := { program := "ytbbeaghhchjkgaa", sum := "2064e3d1e3971e68c28d6ec6699f730b6f76338c444239549e7ee1b34808eadd", func := "loop.example/g00110/laws.FnExactDiskCut", spec := "fnExactDiskCut", unfollowed := true, recurses := true, apart := false, narrowed := true }
def FnExactDiskCutUptoSaid : Prop := fnExactDiskCutUptoRow.holds Try.pinned (OpenSpec.upto fnExactDiskCutSpec)

/-- 'laws.FnExactDiskAppend', WHERE WHAT IT READS IS OF BULK AT MOST 1048576: true; the input reads as it did. -/
def fnExactDiskAppendUptoRow : OpenClaim := { program := "ytbbeaghhchjkgaa", sum := "2064e3d1e3971e68c28d6ec6699f730b6f76338c444239549e7ee1b34808eadd", func := "loop.example/g00110/laws.FnExactDiskAppend", spec := "fnExactDiskAppend", inPlace := ["slices.overlaps[loop.example/g00110/impl.File]"], unfollowed := true, recurses := true, apart := false, narrowed := true }
def FnExactDiskAppendUptoSaid : Prop := fnExactDiskAppendUptoRow.holds Try.pinned (OpenSpec.upto fnExactDiskAppendSpec)

/-- 'laws.FnExactDiskMove', WHERE WHAT IT READS IS OF BULK AT MOST 1048576: true; the input reads as it did. -/
def fnExactDiskMoveUptoRow : OpenClaim := { program := "ytbbeaghhchjkgaa", sum := "2064e3d1e3971e68c28d6ec6699f730b6f76338c444239549e7ee1b34808eadd", func := "loop.example/g00110/laws.FnExactDiskMove", spec := "fnExactDiskMove", inPlace := ["slices.overlaps[loop.example/g00110/impl.File]"], unfollowed := true, recurses := true, apart := false, narrowed := true }
def FnExactDiskMoveUptoSaid : Prop := fnExactDiskMoveUptoRow.holds Try.pinned (OpenSpec.upto fnExactDiskMoveSpec)

/-- 'laws.FnExactBooksSame', WHERE WHAT IT READS IS OF BULK AT MOST 1048576: true; the input reads as it did. -/
def fnExactBooksSameUptoRow : OpenClaim := { program := "ytbbeaghhchjkgaa", sum := "2064e3d1e3971e68c28d6ec6699f730b6f76338c444239549e7ee1b34808eadd", func := "loop.example/g00110/laws.FnExactBooksSame", spec := "fnExactBooksSame", apart := false, narrowed := true }
def FnExactBooksSameUptoSaid : Prop := fnExactBooksSameUptoRow.holds Try.pinned (OpenSpec.upto fnExactBooksSameSpec)

end Rows
end Go.Proofs.Ytbbeaghhchjkgaa
