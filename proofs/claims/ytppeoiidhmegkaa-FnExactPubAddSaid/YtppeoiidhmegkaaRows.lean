/-
  No cell of these rows narrows 'for every input' (looked for: loops, veiled, ifaces, maps, wideKeys, modest, calm, conditions, laid).
  DERIVED. THE GIVEN ROWS OF THIS SEAT. 5 by the template 'for every input the law returns true; each argument reads behind the call as it read before'; 0 by the template 'total and deterministic' (their statements: YtppeoiidhmegkaaTotals.lean).
  GIVEN WITH THE SEED: the statements are not yours to turn. If you find one false, say at which input.
  Laid BY PROGRAM, IN A SANDBOX (cutbox-rows.mjs): the forced cells as the released guide's own fill.sh prints them over the translation ae9fe91acd48198f… (all of the seat's roots in one cut). By AI agents, Wed Nov 11 2026. No macro, syntax, notation, axiom, sorry.
-/
import Derived.Test.YtppeoiidhmegkaaChecked
import GoSem.Claim
import GoSem.ClaimJoined
import GoSem.ClaimMapViews
import Derived.JoinedTies
import Derived.KernelRfl
namespace Go.Proofs.Ytppeoiidhmegkaa
/- THE CELL 'sum', in the pinned program and in every row, IS THE sha256 OF THE DUMP (.gsa) THAT YtppeoiidhmegkaaProg.lean LOADS. Nothing in Lean hashes anything: it is a label: what it is worth is what the hold of that sum in a sandbox is worth. -/
noncomputable def Try.pinned : Pinned := { name := "ytppeoiidhmegkaa", sum := "ae9fe91acd48198f2b7332e31d357d26179af2cbbc9e5d4f4113de50f7ff1e04", checked := Try.checked }
namespace Rows
def none {H : Type} : Left H := { results := [], args := [] }

/-- 'laws.FnExactReadStmt': WHATEVER THE INPUT: true; the input reads as it did. -/
def fnExactReadStmtSpec : ChangeSpec := { name := "fnExactReadStmt", fn := fun _ => fun
  | [d] => { results := [.lit (.bool true)], args := [d] }
  | _ => none }
def fnExactReadStmtRow : OpenClaim := { program := "ytppeoiidhmegkaa", sum := "ae9fe91acd48198f2b7332e31d357d26179af2cbbc9e5d4f4113de50f7ff1e04", func := "loop.example/g00462/laws.FnExactReadStmt", spec := "fnExactReadStmt", unfollowed := true, recurses := true, apart := false }
def FnExactReadStmtSaid : Prop := fnExactReadStmtRow.holds Try.pinned (OpenSpec.ofChange fnExactReadStmtSpec)

/-- ITS FALSE NEIGHBOUR: 'it returns false'. Refute it at one input. -/
def fnExactReadStmtWrong : ChangeSpec := { name := "fnExactReadStmt", fn := fun _ => fun
  | [d] => { results := [.lit (.bool false)], args := [d] }
  | _ => none }
def FnExactReadStmtWrongFalsely : Prop := fnExactReadStmtRow.holds Try.pinned (OpenSpec.ofChange fnExactReadStmtWrong)

/-- 'laws.FnExactNetReads': WHATEVER THE INPUT: true; the input reads as it did. -/
def fnExactNetReadsSpec : ChangeSpec := { name := "fnExactNetReads", fn := fun _ => fun
  | [d] => { results := [.lit (.bool true)], args := [d] }
  | _ => none }
def fnExactNetReadsRow : OpenClaim := { program := "ytppeoiidhmegkaa", sum := "ae9fe91acd48198f2b7332e31d357d26179af2cbbc9e5d4f4113de50f7ff1e04", func := "loop.example/g00462/laws.FnExactNetReads", spec := "fnExactNetReads", unfollowed := true, recurses := true, apart := false }
def FnExactNetReadsSaid : Prop := fnExactNetReadsRow.holds Try.pinned (OpenSpec.ofChange fnExactNetReadsSpec)

/-- ITS FALSE NEIGHBOUR: 'it returns false'. Refute it at one input. -/
def fnExactNetReadsWrong : ChangeSpec := { name := "fnExactNetReads", fn := fun _ => fun
  | [d] => { results := [.lit (.bool false)], args := [d] }
  | _ => none }
def FnExactNetReadsWrongFalsely : Prop := fnExactNetReadsRow.holds Try.pinned (OpenSpec.ofChange fnExactNetReadsWrong)

/-- 'laws.FnExactPubOut': WHATEVER THE INPUT: true; the input reads as it did. -/
def fnExactPubOutSpec : ChangeSpec := { name := "fnExactPubOut", fn := fun _ => fun
  | [d1, d2] => { results := [.lit (.bool true)], args := [d1, d2] }
  | _ => none }
def fnExactPubOutRow : OpenClaim := { program := "ytppeoiidhmegkaa", sum := "ae9fe91acd48198f2b7332e31d357d26179af2cbbc9e5d4f4113de50f7ff1e04", func := "loop.example/g00462/laws.FnExactPubOut", spec := "fnExactPubOut", unfollowed := true, recurses := true, apart := false }
def FnExactPubOutSaid : Prop := fnExactPubOutRow.holds Try.pinned (OpenSpec.ofChange fnExactPubOutSpec)

/-- ITS FALSE NEIGHBOUR: 'it returns false'. Refute it at one input. -/
def fnExactPubOutWrong : ChangeSpec := { name := "fnExactPubOut", fn := fun _ => fun
  | [d1, d2] => { results := [.lit (.bool false)], args := [d1, d2] }
  | _ => none }
def FnExactPubOutWrongFalsely : Prop := fnExactPubOutRow.holds Try.pinned (OpenSpec.ofChange fnExactPubOutWrong)

/-- 'laws.FnExactPubAdd': WHATEVER THE INPUT: true; the input reads as it did. -/
def fnExactPubAddSpec : ChangeSpec := { name := "fnExactPubAdd", fn := fun _ => fun
  | [d1, d2] => { results := [.lit (.bool true)], args := [d1, d2] }
  | _ => none }
def fnExactPubAddRow : OpenClaim := { program := "ytppeoiidhmegkaa", sum := "ae9fe91acd48198f2b7332e31d357d26179af2cbbc9e5d4f4113de50f7ff1e04", func := "loop.example/g00462/laws.FnExactPubAdd", spec := "fnExactPubAdd", recurses := true, apart := false }
def FnExactPubAddSaid : Prop := fnExactPubAddRow.holds Try.pinned (OpenSpec.ofChange fnExactPubAddSpec)

/-- ITS FALSE NEIGHBOUR: 'it returns false'. Refute it at one input. -/
def fnExactPubAddWrong : ChangeSpec := { name := "fnExactPubAdd", fn := fun _ => fun
  | [d1, d2] => { results := [.lit (.bool false)], args := [d1, d2] }
  | _ => none }
def FnExactPubAddWrongFalsely : Prop := fnExactPubAddRow.holds Try.pinned (OpenSpec.ofChange fnExactPubAddWrong)

/-- 'laws.FnKeys': WHATEVER THE INPUT: true; the input reads as it did. -/
def fnKeysSpec : ChangeSpec := { name := "fnKeys", fn := fun _ => fun
  | [d] => { results := [.lit (.bool true)], args := [d] }
  | _ => none }
def fnKeysRow : OpenClaim := { program := "ytppeoiidhmegkaa", sum := "ae9fe91acd48198f2b7332e31d357d26179af2cbbc9e5d4f4113de50f7ff1e04", func := "loop.example/g00462/laws.FnKeys", spec := "fnKeys", unfollowed := true, recurses := true, apart := false }
def FnKeysSaid : Prop := fnKeysRow.holds Try.pinned (OpenSpec.ofChange fnKeysSpec)

/-- ITS FALSE NEIGHBOUR: 'it returns false'. Refute it at one input. -/
def fnKeysWrong : ChangeSpec := { name := "fnKeys", fn := fun _ => fun
  | [d] => { results := [.lit (.bool false)], args := [d] }
  | _ => none }
def FnKeysWrongFalsely : Prop := fnKeysRow.holds Try.pinned (OpenSpec.ofChange fnKeysWrong)

/- THE SECOND FORM. 'bulk': how many values and letters a reading holds, each counted each time it is reached (what is shared counts as often as it is met; a slice's spare places count too). A statement '..UptoSaid' is the law's where the arguments, and the package variables that the reading takes, are together of bulk at most 1048576: NARROWER than '..Said'. Prove '..Said' where nothing that the law and all that it calls make is longer than what came in: it says more and counts as full. Else prove '..UptoSaid'. A law counts once. -/
mutual
def uptoBulk {H : Type} : DataW H → Nat
  | .lit (.string bytes) => bytes.length + 1
  | .lit _ => 1
  | .nil => 1
  | .ptr d => uptoBulk d + 1
  | .slice elems spare => uptoBulkAll elems + uptoBulkAll spare + 1
  | .agg parts => uptoBulkAll parts + 1
  | .iface _ d => uptoBulk d + 1
  | .map entries => uptoBulkEntries entries + 1
  | .held _ => 1
def uptoBulkAll {H : Type} : List (DataW H) → Nat
  | [] => 0
  | d :: r => uptoBulk d + uptoBulkAll r
def uptoBulkEntries {H : Type} : List (Lit × DataW H) → Nat
  | [] => 0
  | x :: r => uptoBulkEntry x + uptoBulkEntries r
def uptoBulkEntry {H : Type} : Lit × DataW H → Nat
  | (.string bytes, d) => bytes.length + uptoBulk d + 1
  | (_, d) => uptoBulk d + 1
 end
def uptoSmall : (H : Type) → List (DataW H) → Bool := fun _ ds => decide (uptoBulkAll ds ≤ 1048576)
def OpenSpec.upto (s : _root_.Go.ChangeSpec) : _root_.Go.OpenSpec := { _root_.Go.OpenSpec.ofChange s with cond := some uptoSmall }

/-- 'laws.FnExactReadStmt', WHERE WHAT IT READS IS OF BULK AT MOST 1048576: true; the input reads as it did. -/
def fnExactReadStmtUptoRow : OpenClaim := { program := "ytppeoiidhmegkaa", sum := "ae9fe91acd48198f2b7332e31d357d26179af2cbbc9e5d4f4113de50f7ff1e04", func := "loop.example/g00462/laws.FnExactReadStmt", spec := "fnExactReadStmt", unfollowed := true, recurses := true, apart := false, narrowed := true }
def FnExactReadStmtUptoSaid : Prop := fnExactReadStmtUptoRow.holds Try.pinned (OpenSpec.upto fnExactReadStmtSpec)

/-- 'laws.FnExactNetReads', WHERE WHAT IT READS IS OF BULK AT MOST 1048576: true; the input reads as it did. -/
def fnExactNetReadsUptoRow : OpenClaim := { program := "ytppeoiidhmegkaa", sum := "ae9fe91acd48198f2b7332e31d357d26179af2cbbc9e5d4f4113de50f7ff1e04", func := "loop.example/g00462/laws.FnExactNetReads", spec := "fnExactNetReads", unfollowed := true, recurses := true, apart := false, narrowed := true }
def FnExactNetReadsUptoSaid : Prop := fnExactNetReadsUptoRow.holds Try.pinned (OpenSpec.upto fnExactNetReadsSpec)

/-- 'laws.FnExactPubOut', WHERE WHAT IT READS IS OF BULK AT MOST 1048576: true; the input reads as it did. -/
def fnExactPubOutUptoRow : OpenClaim := { program := "ytppeoiidhmegkaa", sum := "ae9fe91acd48198f2b7332e31d357d26179af2cbbc9e5d4f4113de50f7ff1e04", func := "loop.example/g00462/laws.FnExactPubOut", spec := "fnExactPubOut", unfollowed := true, recurses := true, apart := false, narrowed := true }
def FnExactPubOutUptoSaid : Prop := fnExactPubOutUptoRow.holds Try.pinned (OpenSpec.upto fnExactPubOutSpec)

/-- 'laws.FnExactPubAdd', WHERE WHAT IT READS IS OF BULK AT MOST 1048576: true; the input reads as it did. -/
def fnExactPubAddUptoRow : OpenClaim := { program := "ytppeoiidhmegkaa", sum := "ae9fe91acd48198f2b7332e31d357d26179af2cbbc9e5d4f4113de50f7ff1e04", func := "loop.example/g00462/laws.FnExactPubAdd", spec := "fnExactPubAdd", recurses := true, apart := false, narrowed := true }
def FnExactPubAddUptoSaid : Prop := fnExactPubAddUptoRow.holds Try.pinned (OpenSpec.upto fnExactPubAddSpec)

/-- 'laws.FnKeys', WHERE WHAT IT READS IS OF BULK AT MOST 1048576: true; the input reads as it did. -/
def fnKeysUptoRow : OpenClaim := { program := "ytppeoiidhmegkaa", sum := "ae9fe91acd48198f2b7332e31d357d26179af2cbbc9e5d4f4113de50f7ff1e04", func := "loop.example/g00462/laws.FnKeys", spec := "fnKeys", unfollowed := true, recurses := true, apart := false, narrowed := true }
def FnKeysUptoSaid : Prop := fnKeysUptoRow.holds Try.pinned (OpenSpec.upto fnKeysSpec)

end Rows
end Go.Proofs.Ytppeoiidhmegkaa
