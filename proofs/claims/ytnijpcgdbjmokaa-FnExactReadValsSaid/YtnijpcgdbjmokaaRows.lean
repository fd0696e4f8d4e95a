/-
  No cell of these rows narrows 'for every input' (looked for: loops, veiled, ifaces, maps, wideKeys, modest, calm, conditions, laid).
  DERIVED. THE GIVEN ROWS OF THIS SEAT. 11 by the template 'for every input the law returns true; each argument reads behind the call as it read before'; 0 by the template 'total and deterministic' (their statements: YtnijpcgdbjmokaaTotals.lean).
  GIVEN WITH THE SEED: the statements are not yours to turn. If you find one false, say at which input.
  Laid BY PROGRAM, IN A SANDBOX (cutbox-rows.mjs): the forced cells as the released guide's own fill.sh prints them over the translation 926b0c9e02be7aea… (all of the seat's roots in one cut). By AI agents, Wed Nov 11 2026. No macro, syntax, notation, axiom, sorry.
-/
import Derived.Test.YtnijpcgdbjmokaaChecked
import GoSem.Claim
import GoSem.ClaimJoined
import GoSem.ClaimMapViews
import Derived.JoinedTies
import Derived.KernelRfl
namespace Go.Proofs.Ytnijpcgdbjmokaa
/- THE CELL 'sum', in the pinned program and in every row, IS THE sha256 OF THE DUMP (.gsa) THAT YtnijpcgdbjmokaaProg.lean LOADS. Nothing in Lean hashes anything: it is a label: what it is worth is what the hold of that sum in a sandbox is worth. -/
noncomputable def Try.pinned : Pinned := { name := "ytnijpcgdbjmokaa", sum := "926b0c9e02be7aea04b242685f397e4a8f347b429b1fb76f58de8cf134cdeeed", checked := Try.checked }
namespace Rows
def none {H : Type} : Left H := { results := [], args := [] }

/-- 'laws.FnExactNetOk': WHATEVER THE INPUT: true; the input reads as it did. -/
def fnExactNetOkSpec : ChangeSpec := { name := "fnExactNetOk", fn := fun _ => fun
  | [d] => { results := [.lit (.bool true)], args := [d] }
  | _ => none }
def fnExactNetOkRow : OpenClaim := { program := "ytnijpcgdbjmokaa", sum := "926b0c9e02be7aea04b242685f397e4a8f347b429b1fb76f58de8cf134cdeeed", func := "loop.example/g00462/laws.FnExactNetOk", spec := "fnExactNetOk", apart := false }
def FnExactNetOkSaid : Prop := fnExactNetOkRow.holds Try.pinned (OpenSpec.ofChange fnExactNetOkSpec)

/-- ITS FALSE NEIGHBOUR: 'it returns false'. Refute it at one input. -/
def fnExactNetOkWrong : ChangeSpec := { name := "fnExactNetOk", fn := fun _ => fun
  | [d] => { results := [.lit (.bool false)], args := [d] }
  | _ => none }
def FnExactNetOkWrongFalsely : Prop := fnExactNetOkRow.holds Try.pinned (OpenSpec.ofChange fnExactNetOkWrong)

/-- 'laws.FnExactTold': WHATEVER THE INPUT: true; the input reads as it did. -/
def fnExactToldSpec : ChangeSpec := { name := "fnExactTold", fn := fun _ => fun
  | [d1, d2] => { results := [.lit (.bool true)], args := [d1, d2] }
  | _ => none }
def fnExactToldRow : OpenClaim := { program := "ytnijpcgdbjmokaa", sum := "926b0c9e02be7aea04b242685f397e4a8f347b429b1fb76f58de8cf134cdeeed", func := "loop.example/g00462/laws.FnExactTold", spec := "fnExactTold", apart := false }
def FnExactToldSaid : Prop := fnExactToldRow.holds Try.pinned (OpenSpec.ofChange fnExactToldSpec)

/-- ITS FALSE NEIGHBOUR: 'it returns false'. Refute it at one input. -/
def fnExactToldWrong : ChangeSpec := { name := "fnExactTold", fn := fun _ => fun
  | [d1, d2] => { results := [.lit (.bool false)], args := [d1, d2] }
  | _ => none }
def FnExactToldWrongFalsely : Prop := fnExactToldRow.holds Try.pinned (OpenSpec.ofChange fnExactToldWrong)

/-- 'laws.FnExactNetLose': WHATEVER THE INPUT: true; the input reads as it did. -/
def fnExactNetLoseSpec : ChangeSpec := { name := "fnExactNetLose", fn := fun _ => fun
  | [d1, d2] => { results := [.lit (.bool true)], args := [d1, d2] }
  | _ => none }
def fnExactNetLoseRow : OpenClaim := { program := "ytnijpcgdbjmokaa", sum := "926b0c9e02be7aea04b242685f397e4a8f347b429b1fb76f58de8cf134cdeeed", func := "loop.example/g00462/laws.FnExactNetLose", spec := "fnExactNetLose", apart := false }
def FnExactNetLoseSaid : Prop := fnExactNetLoseRow.holds Try.pinned (OpenSpec.ofChange fnExactNetLoseSpec)

/-- ITS FALSE NEIGHBOUR: 'it returns false'. Refute it at one input. -/
def fnExactNetLoseWrong : ChangeSpec := { name := "fnExactNetLose", fn := fun _ => fun
  | [d1, d2] => { results := [.lit (.bool false)], args := [d1, d2] }
  | _ => none }
def FnExactNetLoseWrongFalsely : Prop := fnExactNetLoseRow.holds Try.pinned (OpenSpec.ofChange fnExactNetLoseWrong)

/-- 'laws.FnExactNetSend': WHATEVER THE INPUT: true; the input reads as it did. -/
def fnExactNetSendSpec : ChangeSpec := { name := "fnExactNetSend", fn := fun _ => fun
  | [d1, d2] => { results := [.lit (.bool true)], args := [d1, d2] }
  | _ => none }
def fnExactNetSendRow : OpenClaim := { program := "ytnijpcgdbjmokaa", sum := "926b0c9e02be7aea04b242685f397e4a8f347b429b1fb76f58de8cf134cdeeed", func := "loop.example/g00462/laws.FnExactNetSend", spec := "fnExactNetSend", apart := false }
def FnExactNetSendSaid : Prop := fnExactNetSendRow.holds Try.pinned (OpenSpec.ofChange fnExactNetSendSpec)

/-- ITS FALSE NEIGHBOUR: 'it returns false'. Refute it at one input. -/
def fnExactNetSendWrong : ChangeSpec := { name := "fnExactNetSend", fn := fun _ => fun
  | [d1, d2] => { results := [.lit (.bool false)], args := [d1, d2] }
  | _ => none }
def FnExactNetSendWrongFalsely : Prop := fnExactNetSendRow.holds Try.pinned (OpenSpec.ofChange fnExactNetSendWrong)

/-- 'laws.FnExactPubOut': WHATEVER THE INPUT: true; the input reads as it did. -/
def fnExactPubOutSpec : ChangeSpec := { name := "fnExactPubOut", fn := fun _ => fun
  | [d1, d2] => { results := [.lit (.bool true)], args := [d1, d2] }
  | _ => none }
def fnExactPubOutRow : OpenClaim := { program := "ytnijpcgdbjmokaa", sum := "926b0c9e02be7aea04b242685f397e4a8f347b429b1fb76f58de8cf134cdeeed", func := "loop.example/g00462/laws.FnExactPubOut", spec := "fnExactPubOut", unfollowed := true, recurses := true, apart := false }
def FnExactPubOutSaid : Prop := fnExactPubOutRow.holds Try.pinned (OpenSpec.ofChange fnExactPubOutSpec)

/-- ITS FALSE NEIGHBOUR: 'it returns false'. Refute it at one input. -/
def fnExactPubOutWrong : ChangeSpec := { name := "fnExactPubOut", fn := fun _ => fun
  | [d1, d2] => { results := [.lit (.bool false)], args := [d1, d2] }
  | _ => none }
def FnExactPubOutWrongFalsely : Prop := fnExactPubOutRow.holds Try.pinned (OpenSpec.ofChange fnExactPubOutWrong)

/-- 'laws.FnExactNetTake': WHATEVER THE INPUT: true; the input reads as it did. -/
def fnExactNetTakeSpec : ChangeSpec := { name := "fnExactNetTake", fn := fun _ => fun
  | [d1, d2] => { results := [.lit (.bool true)], args := [d1, d2] }
  | _ => none }
def fnExactNetTakeRow : OpenClaim := { program := "ytnijpcgdbjmokaa", sum := "926b0c9e02be7aea04b242685f397e4a8f347b429b1fb76f58de8cf134cdeeed", func := "loop.example/g00462/laws.FnExactNetTake", spec := "fnExactNetTake", apart := false }
def FnExactNetTakeSaid : Prop := fnExactNetTakeRow.holds Try.pinned (OpenSpec.ofChange fnExactNetTakeSpec)

/-- ITS FALSE NEIGHBOUR: 'it returns false'. Refute it at one input. -/
def fnExactNetTakeWrong : ChangeSpec := { name := "fnExactNetTake", fn := fun _ => fun
  | [d1, d2] => { results := [.lit (.bool false)], args := [d1, d2] }
  | _ => none }
def FnExactNetTakeWrongFalsely : Prop := fnExactNetTakeRow.holds Try.pinned (OpenSpec.ofChange fnExactNetTakeWrong)

/-- 'laws.FnExactNetCut': WHATEVER THE INPUT: true; the input reads as it did. -/
def fnExactNetCutSpec : ChangeSpec := { name := "fnExactNetCut", fn := fun _ => fun
  | [d1, d2, d3] => { results := [.lit (.bool true)], args := [d1, d2, d3] }
  | _ => none }
def fnExactNetCutRow : OpenClaim := { program := "ytnijpcgdbjmokaa", sum := "926b0c9e02be7aea04b242685f397e4a8f347b429b1fb76f58de8cf134cdeeed", func := "loop.example/g00462/laws.FnExactNetCut", spec := "fnExactNetCut", apart := false }
def FnExactNetCutSaid : Prop := fnExactNetCutRow.holds Try.pinned (OpenSpec.ofChange fnExactNetCutSpec)

/-- ITS FALSE NEIGHBOUR: 'it returns false'. Refute it at one input. -/
def fnExactNetCutWrong : ChangeSpec := { name := "fnExactNetCut", fn := fun _ => fun
  | [d1, d2, d3] => { results := [.lit (.bool false)], args := [d1, d2, d3] }
  | _ => none }
def FnExactNetCutWrongFalsely : Prop := fnExactNetCutRow.holds Try.pinned (OpenSpec.ofChange fnExactNetCutWrong)

/-- 'laws.FnExactNetLate': WHATEVER THE INPUT: true; the input reads as it did. -/
def fnExactNetLateSpec : ChangeSpec := { name := "fnExactNetLate", fn := fun _ => fun
  | [d1, d2] => { results := [.lit (.bool true)], args := [d1, d2] }
  | _ => none }
def fnExactNetLateRow : OpenClaim := { program := "ytnijpcgdbjmokaa", sum := "926b0c9e02be7aea04b242685f397e4a8f347b429b1fb76f58de8cf134cdeeed", func := "loop.example/g00462/laws.FnExactNetLate", spec := "fnExactNetLate", apart := false }
def FnExactNetLateSaid : Prop := fnExactNetLateRow.holds Try.pinned (OpenSpec.ofChange fnExactNetLateSpec)

/-- ITS FALSE NEIGHBOUR: 'it returns false'. Refute it at one input. -/
def fnExactNetLateWrong : ChangeSpec := { name := "fnExactNetLate", fn := fun _ => fun
  | [d1, d2] => { results := [.lit (.bool false)], args := [d1, d2] }
  | _ => none }
def FnExactNetLateWrongFalsely : Prop := fnExactNetLateRow.holds Try.pinned (OpenSpec.ofChange fnExactNetLateWrong)

/-- 'laws.FnExactNetTwice': WHATEVER THE INPUT: true; the input reads as it did. -/
def fnExactNetTwiceSpec : ChangeSpec := { name := "fnExactNetTwice", fn := fun _ => fun
  | [d1, d2] => { results := [.lit (.bool true)], args := [d1, d2] }
  | _ => none }
def fnExactNetTwiceRow : OpenClaim := { program := "ytnijpcgdbjmokaa", sum := "926b0c9e02be7aea04b242685f397e4a8f347b429b1fb76f58de8cf134cdeeed", func := "loop.example/g00462/laws.FnExactNetTwice", spec := "fnExactNetTwice", apart := false }
def FnExactNetTwiceSaid : Prop := fnExactNetTwiceRow.holds Try.pinned (OpenSpec.ofChange fnExactNetTwiceSpec)

/-- ITS FALSE NEIGHBOUR: 'it returns false'. Refute it at one input. -/
def fnExactNetTwiceWrong : ChangeSpec := { name := "fnExactNetTwice", fn := fun _ => fun
  | [d1, d2] => { results := [.lit (.bool false)], args := [d1, d2] }
  | _ => none }
def FnExactNetTwiceWrongFalsely : Prop := fnExactNetTwiceRow.holds Try.pinned (OpenSpec.ofChange fnExactNetTwiceWrong)

/-- 'laws.FnExactRowSum': WHATEVER THE INPUT: true; the input reads as it did. -/
def fnExactRowSumSpec : ChangeSpec := { name := "fnExactRowSum", fn := fun _ => fun
  | [d] => { results := [.lit (.bool true)], args := [d] }
  | _ => none }
def fnExactRowSumRow : OpenClaim := { program := "ytnijpcgdbjmokaa", sum := "926b0c9e02be7aea04b242685f397e4a8f347b429b1fb76f58de8cf134cdeeed", func := "loop.example/g00462/laws.FnExactRowSum", spec := "fnExactRowSum", recurses := true, apart := false }
def FnExactRowSumSaid : Prop := fnExactRowSumRow.holds Try.pinned (OpenSpec.ofChange fnExactRowSumSpec)

/-- ITS FALSE NEIGHBOUR: 'it returns false'. Refute it at one input. -/
def fnExactRowSumWrong : ChangeSpec := { name := "fnExactRowSum", fn := fun _ => fun
  | [d] => { results := [.lit (.bool false)], args := [d] }
  | _ => none }
def FnExactRowSumWrongFalsely : Prop := fnExactRowSumRow.holds Try.pinned (OpenSpec.ofChange fnExactRowSumWrong)

/-- 'laws.FnExactReadVals': WHATEVER THE INPUT: true; the input reads as it did. -/
def fnExactReadValsSpec : ChangeSpec := { name := "fnExactReadVals", fn := fun _ => fun
  | [d] => { results := [.lit (.bool true)], args := [d] }
  | _ => none }
def fnExactReadValsRow : OpenClaim := { program := "ytnijpcgdbjmokaa", sum := "926b0c9e02be7aea04b242685f397e4a8f347b429b1fb76f58de8cf134cdeeed", func := "loop.example/g00462/laws.FnExactReadVals", spec := "fnExactReadVals", apart := false }
def FnExactReadValsSaid : Prop := fnExactReadValsRow.holds Try.pinned (OpenSpec.ofChange fnExactReadValsSpec)

/-- ITS FALSE NEIGHBOUR: 'it returns false'. Refute it at one input. -/
def fnExactReadValsWrong : ChangeSpec := { name := "fnExactReadVals", fn := fun _ => fun
  | [d] => { results := [.lit (.bool false)], args := [d] }
  | _ => none }
def FnExactReadValsWrongFalsely : Prop := fnExactReadValsRow.holds Try.pinned (OpenSpec.ofChange fnExactReadValsWrong)

/- THE SECOND FORM. 'bulk': how many values and letters a reading holds, each counted each time it is reached (what is shared counts as often as it is met; a slice's spare places count too). A statement '..UptoSaid' is the law's where the arguments, and the package variables that the reading takes, are together of bulk at most 1048576: NARROWER than '..Said'. Prove '..Said' where nothing that the law and all that it calls make is longer than what came in: it says more and counts as full. Else prove '..UptoSaid'. A law counts once. -/
mutual
def uptoBulk {H : Type} : DataW H → Nat
  | .lit (.string bytes) => bytes.length + 1
  | .lit _ => 1
  | .nil => 1
  | .ptr d => uptoBulk d + 1
  | .slice elems spare => uptoBulkAll elems + uptoBulkAll spare + 1
  | .agg parts => uptoBulkAll parts + 1
  | .iface _ d => uptoBulk d + 1
  | .map entries => uptoBulkEntries entries + 1
  | .held _ => 1
def uptoBulkAll {H : Type} : List (DataW H) → Nat
  | [] => 0
  | d :: r => uptoBulk d + uptoBulkAll r
def uptoBulkEntries {H : Type} : List (Lit × DataW H) → Nat
  | [] => 0
  | x :: r => uptoBulkEntry x + uptoBulkEntries r
def uptoBulkEntry {H : Type} : Lit × DataW H → Nat
  | (.string bytes, d) => bytes.length + uptoBulk d + 1
  | (_, d) => uptoBulk d + 1
 end
def uptoSmall : (H : Type) → List (DataW H) → Bool := fun _ ds => decide (uptoBulkAll ds ≤ 1048576)
def OpenSpec.upto (s : _root_.Go.ChangeSpec) : _root_.Go.OpenSpec := { _root_.Go.OpenSpec.ofChange s with cond := some uptoSmall }

/-- 'laws.FnExactNetOk', WHERE WHAT IT READS IS OF BULK AT MOST 1048576: true; the input reads as it did. -/
def fnExactNetOkUptoRow : OpenClaim := { program := "ytnijpcgdbjmokaa", sum := "926b0c9e02be7aea04b242685f397e4a8f347b429b1fb76f58de8cf134cdeeed", func := "loop.example/g00462/laws.FnExactNetOk", spec := "fnExactNetOk", apart := false, narrowed := true }
def FnExactNetOkUptoSaid : Prop := fnExactNetOkUptoRow.holds Try.pinned (OpenSpec.upto fnExactNetOkSpec)

/-- 'laws.FnExactTold', WHERE WHAT IT READS IS OF BULK AT MOST 1048576: true; the input reads as it did. -/
def fnExactToldUptoRow : OpenClaim := { program := "ytnijpcgdbjmokaa", sum := "926b0c9e02be7aea04b242685f397e4a8f347b429b1fb76f58de8cf134cdeeed", func := "loop.example/g00462/laws.FnExactTold", spec := "fnExactTold", apart := false, narrowed := true }
def FnExactToldUptoSaid : Prop := fnExactToldUptoRow.holds Try.pinned (OpenSpec.upto fnExactToldSpec)

/-- 'laws.FnExactNetLose', WHERE WHAT IT READS IS OF BULK AT MOST 1048576: true; the input reads as it did. -/
def fnExactNetLoseUptoRow : OpenClaim := { program := "ytnijpcgdbjmokaa", sum := "926b0c9e02be7aea04b242685f397e4a8f347b429b1fb76f58de8cf134cdeeed", func := "loop.example/g00462/laws.FnExactNetLose", spec := "fnExactNetLose", apart := false, narrowed := true }
def FnExactNetLoseUptoSaid : Prop := fnExactNetLoseUptoRow.holds Try.pinned (OpenSpec.upto fnExactNetLoseSpec)

/-- 'laws.FnExactNetSend', WHERE WHAT IT READS IS OF BULK AT MOST 1048576: true; the input reads as it did. -/
def fnExactNetSendUptoRow : OpenClaim := { program := "ytnijpcgdbjmokaa", sum := "926b0c9e02be7aea04b242685f397e4a8f347b429b1fb76f58de8cf134cdeeed", func := "loop.example/g00462/laws.FnExactNetSend", spec := "fnExactNetSend", apart := false, narrowed := true }
def FnExactNetSendUptoSaid : Prop := fnExactNetSendUptoRow.holds Try.pinned (OpenSpec.upto fnExactNetSendSpec)

/-- 'laws.FnExactPubOut', WHERE WHAT IT READS IS OF BULK AT MOST 1048576: true; the input reads as it did. -/
def fnExactPubOutUptoRow : OpenClaim := { program := "ytnijpcgdbjmokaa", sum := "926b0c9e02be7aea04b242685f397e4a8f347b429b1fb76f58de8cf134cdeeed", func := "loop.example/g00462/laws.FnExactPubOut", spec := "fnExactPubOut", unfollowed := true, recurses := true, apart := false, narrowed := true }
def FnExactPubOutUptoSaid : Prop := fnExactPubOutUptoRow.holds Try.pinned (OpenSpec.upto fnExactPubOutSpec)

/-- 'laws.FnExactNetTake', WHERE WHAT IT READS IS OF BULK AT MOST 1048576: true; the input reads as it did. -/
def fnExactNetTakeUptoRow : OpenClaim := { program := "ytnijpcgdbjmokaa", sum := "926b0c9e02be7aea04b242685f397e4a8f347b429b1fb76f58de8cf134cdeeed", func := "loop.example/g00462/laws.FnExactNetTake", spec := "fnExactNetTake", apart := false, narrowed := true }
def FnExactNetTakeUptoSaid : Prop := fnExactNetTakeUptoRow.holds Try.pinned (OpenSpec.upto fnExactNetTakeSpec)

/-- 'laws.FnExactNetCut', WHERE WHAT IT READS IS OF BULK AT MOST 1048576: true; the input reads as it did. -/
def fnExactNetCutUptoRow : OpenClaim := { program := "ytnijpcgdbjmokaa", sum := "926b0c9e02be7aea04b242685f397e4a8f347b429b1fb76f58de8cf134cdeeed", func := "loop.example/g00462/laws.FnExactNetCut", spec := "fnExactNetCut", apart := false, narrowed := true }
def FnExactNetCutUptoSaid : Prop := fnExactNetCutUptoRow.holds Try.pinned (OpenSpec.upto fnExactNetCutSpec)

/-- 'laws.FnExactNetLate', WHERE WHAT IT READS IS OF BULK AT MOST 1048576: true; the input reads as it did. -/
def fnExactNetLateUptoRow : OpenClaim := { program := "ytnijpcgdbjmokaa", sum := "926b0c9e02be7aea04b242685f397e4a8f347b429b1fb76f58de8cf134cdeeed", func := "loop.example/g00462/laws.FnExactNetLate", spec := "fnExactNetLate", apart := false, narrowed := true }
def FnExactNetLateUptoSaid : Prop := fnExactNetLateUptoRow.holds Try.pinned (OpenSpec.upto fnExactNetLateSpec)

/-- 'laws.FnExactNetTwice', WHERE WHAT IT READS IS OF BULK AT MOST 1048576: true; the input reads as it did. -/
def fnExactNetTwiceUptoRow : OpenClaim := { program := "ytnijpcgdbjmokaa", sum := "926b0c9e02be7aea04b242685f397e4a8f347b429b1fb76f58de8cf134cdeeed", func := "loop.example/g00462/laws.FnExactNetTwice", spec := "fnExactNetTwice", apart := false, narrowed := true }
def FnExactNetTwiceUptoSaid : Prop := fnExactNetTwiceUptoRow.holds Try.pinned (OpenSpec.upto fnExactNetTwiceSpec)

/-- 'laws.FnExactRowSum', WHERE WHAT IT READS IS OF BULK AT MOST 1048576: true; the input reads as it did. -/
def fnExactRowSumUptoRow : OpenClaim := { program := "ytnijpcgdbjmokaa", sum := "926b0c9e02be7aea04b242685f397e4a8f347b429b1fb76f58de8cf134cdeeed", func := "loop.example/g00462/laws.FnExactRowSum", spec := "fnExactRowSum", recurses := true, apart := false, narrowed := true }
def FnExactRowSumUptoSaid : Prop := fnExactRowSumUptoRow.holds Try.pinned (OpenSpec.upto fnExactRowSumSpec)

/-- 'laws.FnExactReadVals', WHERE WHAT IT READS IS OF BULK AT MOST 1048576: true; the input reads as it did. -/
def fnExactReadValsUptoRow : OpenClaim := { program := "ytnijpcgdbjmokaa", sum := "926b0c9e02be7aea04b242685f397e4a8f347b429b1fb76f58de8cf134cdeeed", func := "loop.example/g00462/laws.FnExactReadVals", spec := "fnExactReadVals", apart := false, narrowed := true }
def FnExactReadValsUptoSaid : Prop := fnExactReadValsUptoRow.holds Try.pinned (OpenSpec.upto fnExactReadValsSpec)

end Rows
end Go.Proofs.Ytnijpcgdbjmokaa
