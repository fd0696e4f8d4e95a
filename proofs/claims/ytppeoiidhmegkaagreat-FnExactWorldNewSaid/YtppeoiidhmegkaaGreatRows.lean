/-
  No cell of these rows narrows 'for every input' (looked for: loops, veiled, ifaces, maps, wideKeys, modest, calm, conditions, laid).
  DERIVED. THE GIVEN ROWS OF THIS SEAT. 7 by the template 'for every input the law returns true; each argument reads behind the call as it read before'; 0 by the template 'total and deterministic' (their statements: YtppeoiidhmegkaaGreatTotals.lean).
  GIVEN WITH THE SEED: the statements are not yours to turn. If you find one false, say at which input.
  Laid BY PROGRAM, IN A SANDBOX (cutbox-rows.mjs): the forced cells as the released guide's own fill.sh prints them over the translation fef9709f004c9f98… (all of the seat's roots in one cut). By AI agents, Wed Nov 11 2026. No macro, syntax, notation, axiom, sorry.
-/
import Derived.Test.YtppeoiidhmegkaaGreatChecked
import GoSem.Claim
import GoSem.ClaimJoined
import GoSem.ClaimMapViews
import Derived.JoinedTies
import Derived.KernelRfl
namespace Go.Proofs.YtppeoiidhmegkaaGreat
/- THE CELL 'sum', in the pinned program and in every row, IS THE sha256 OF THE DUMP (.gsa) THAT YtppeoiidhmegkaaGreatProg.lean LOADS. Nothing in Lean hashes anything: it is a label: what it is worth is what the hold of that sum in a sandbox is worth. -/
noncomputable def Tryz.pinned : Pinned := { name := "ytppeoiidhmegkaagreat", sum := "fef9709f004c9f98569ee6b20ab1c0728bad9d86b5caf706e7f916704c1ece26", checked := Tryz.checked }
namespace Rows
def none {H : Type} : Left H := { results := [], args := [] }

/-- 'laws.FnExactPackRead': WHATEVER THE INPUT: true; the input reads as it did. -/
def fnExactPackReadSpec : ChangeSpec := { name := "fnExactPackRead", fn := fun _ => fun
  | [d] => { results := [.lit (.bool true)], args := [d] }
  | _ => none }
def fnExactPackReadRow : OpenClaim := { program := "ytppeoiidhmegkaagreat", sum := "fef9709f004c9f98569ee6b20ab1c0728bad9d86b5caf706e7f916704c1ece26", func := "loop.example/g00462/laws.FnExactPackRead", spec := "fnExactPackRead", unfollowed := true, recurses := true, apart := false }
def FnExactPackReadSaid : Prop := fnExactPackReadRow.holds Tryz.pinned (OpenSpec.ofChange fnExactPackReadSpec)

/-- ITS FALSE NEIGHBOUR: 'it returns false'. Refute it at one input. -/
def fnExactPackReadWrong : ChangeSpec := { name := "fnExactPackRead", fn := fun _ => fun
  | [d] => { results := [.lit (.bool false)], args := [d] }
  | _ => none }
def FnExactPackReadWrongFalsely : Prop := fnExactPackReadRow.holds Tryz.pinned (OpenSpec.ofChange fnExactPackReadWrong)

/-- 'laws.FnExactPubParts': WHATEVER THE INPUT: true; the input reads as it did. -/
def fnExactPubPartsSpec : ChangeSpec := { name := "fnExactPubParts", fn := fun _ => fun
  | [d1, d2] => { results := [.lit (.bool true)], args := [d1, d2] }
  | _ => none }
def fnExactPubPartsRow : OpenClaim := { program := "ytppeoiidhmegkaagreat", sum := "fef9709f004c9f98569ee6b20ab1c0728bad9d86b5caf706e7f916704c1ece26", func := "loop.example/g00462/laws.FnExactPubParts", spec := "fnExactPubParts", unfollowed := true, recurses := true, apart := false }
def FnExactPubPartsSaid : Prop := fnExactPubPartsRow.holds Tryz.pinned (OpenSpec.ofChange fnExactPubPartsSpec)

/-- ITS FALSE NEIGHBOUR: 'it returns false'. Refute it at one input. -/
def fnExactPubPartsWrong : ChangeSpec := { name := "fnExactPubParts", fn := fun _ => fun
  | [d1, d2] => { results := [.lit (.bool false)], args := [d1, d2] }
  | _ => none }
def FnExactPubPartsWrongFalsely : Prop := fnExactPubPartsRow.holds Tryz.pinned (OpenSpec.ofChange fnExactPubPartsWrong)

/-- 'laws.FnStmt': WHATEVER THE INPUT: true; the input reads as it did. -/
def fnStmtSpec : ChangeSpec := { name := "fnStmt", fn := fun _ => fun
  | [d] => { results := [.lit (.bool true)], args := [d] }
  | _ => none }
def fnStmtRow : OpenClaim := { program := "ytppeoiidhmegkaagreat", sum := "fef9709f004c9f98569ee6b20ab1c0728bad9d86b5caf706e7f916704c1ece26", func := "loop.example/g00462/laws.FnStmt", spec := "fnStmt", unfollowed := true, recurses := true, apart := false }
def FnStmtSaid : Prop := fnStmtRow.holds Tryz.pinned (OpenSpec.ofChange fnStmtSpec)

/-- ITS FALSE NEIGHBOUR: 'it returns false'. Refute it at one input. -/
def fnStmtWrong : ChangeSpec := { name := "fnStmt", fn := fun _ => fun
  | [d] => { results := [.lit (.bool false)], args := [d] }
  | _ => none }
def FnStmtWrongFalsely : Prop := fnStmtRow.holds Tryz.pinned (OpenSpec.ofChange fnStmtWrong)

/-- 'laws.FnRec': WHATEVER THE INPUT: true; the input reads as it did. -/
def fnRecSpec : ChangeSpec := { name := "fnRec", fn := fun _ => fun
  | [d] => { results := [.lit (.bool true)], args := [d] }
  | _ => none }
def fnRecRow : OpenClaim := { program := "ytppeoiidhmegkaagreat", sum := "fef9709f004c9f98569ee6b20ab1c0728bad9d86b5caf706e7f916704c1ece26", func := "loop.example/g00462/laws.FnRec", spec := "fnRec", unfollowed := true, recurses := true, apart := false }
def FnRecSaid : Prop := fnRecRow.holds Tryz.pinned (OpenSpec.ofChange fnRecSpec)

/-- ITS FALSE NEIGHBOUR: 'it returns false'. Refute it at one input. -/
def fnRecWrong : ChangeSpec := { name := "fnRec", fn := fun _ => fun
  | [d] => { results := [.lit (.bool false)], args := [d] }
  | _ => none }
def FnRecWrongFalsely : Prop := fnRecRow.holds Tryz.pinned (OpenSpec.ofChange fnRecWrong)

/-- 'laws.FnPack': WHATEVER THE INPUT: true; the input reads as it did. -/
def fnPackSpec : ChangeSpec := { name := "fnPack", fn := fun _ => fun
  | [d] => { results := [.lit (.bool true)], args := [d] }
  | _ => none }
def fnPackRow : OpenClaim := { program := "ytppeoiidhmegkaagreat", sum := "fef9709f004c9f98569ee6b20ab1c0728bad9d86b5caf706e7f916704c1ece26", func := "loop.example/g00462/laws.FnPack", spec := "fnPack", unfollowed := true, recurses := true, apart := false }
def FnPackSaid : Prop := fnPackRow.holds Tryz.pinned (OpenSpec.ofChange fnPackSpec)

/-- ITS FALSE NEIGHBOUR: 'it returns false'. Refute it at one input. -/
def fnPackWrong : ChangeSpec := { name := "fnPack", fn := fun _ => fun
  | [d] => { results := [.lit (.bool false)], args := [d] }
  | _ => none }
def FnPackWrongFalsely : Prop := fnPackRow.holds Tryz.pinned (OpenSpec.ofChange fnPackWrong)

/-- 'laws.FnExactWorldNew': WHATEVER THE INPUT: true; the input reads as it did. -/
def fnExactWorldNewSpec : ChangeSpec := { name := "fnExactWorldNew", fn := fun _ => fun
  | [d1, d2] => { results := [.lit (.bool true)], args := [d1, d2] }
  | _ => none }
def fnExactWorldNewRow : OpenClaim := { program := "ytppeoiidhmegkaagreat", sum := "fef9709f004c9f98569ee6b20ab1c0728bad9d86b5caf706e7f916704c1ece26", func := "loop.example/g00462/laws.FnExactWorldNew", spec := "fnExactWorldNew", unfollowed := true, recurses := true, apart := false }
def FnExactWorldNewSaid : Prop := fnExactWorldNewRow.holds Tryz.pinned (OpenSpec.ofChange fnExactWorldNewSpec)

/-- ITS FALSE NEIGHBOUR: 'it returns false'. Refute it at one input. -/
def fnExactWorldNewWrong : ChangeSpec := { name := "fnExactWorldNew", fn := fun _ => fun
  | [d1, d2] => { results := [.lit (.bool false)], args := [d1, d2] }
  | _ => none }
def FnExactWorldNewWrongFalsely : Prop := fnExactWorldNewRow.holds Tryz.pinned (OpenSpec.ofChange fnExactWorldNewWrong)

/-- 'laws.FnExactSpan': WHATEVER THE INPUT: true; the input reads as it did. -/
def fnExactSpanSpec : ChangeSpec := { name := "fnExactSpan", fn := fun _ => fun
  | [d1, d2] => { results := [.lit (.bool true)], args := [d1, d2] }
  | _ => none }
def fnExactSpanRow : OpenClaim := { program := "ytppeoiidhmegkaagreat", sum := "fef9709f004c9f98569ee6b20ab1c0728bad9d86b5caf706e7f916704c1ece26", func := "loop.example/g00462/laws.FnExactSpan", spec := "fnExactSpan", inPlace := ["slices.overlaps[loop.example/g00462/impl.Table]", "slices.overlaps[loop.example/g00462/impl.Rows]", "slices.overlaps[loop.example/g00462/impl.Row]"], unfollowed := true, recurses := true, apart := false }
def FnExactSpanSaid : Prop := fnExactSpanRow.holds Tryz.pinned (OpenSpec.ofChange fnExactSpanSpec)

/-- ITS FALSE NEIGHBOUR: 'it returns false'. Refute it at one input. -/
def fnExactSpanWrong : ChangeSpec := { name := "fnExactSpan", fn := fun _ => fun
  | [d1, d2] => { results := [.lit (.bool false)], args := [d1, d2] }
  | _ => none }
def FnExactSpanWrongFalsely : Prop := fnExactSpanRow.holds Tryz.pinned (OpenSpec.ofChange fnExactSpanWrong)

/- THE SECOND FORM. 'bulk': how many values and letters a reading holds, each counted each time it is reached (what is shared counts as often as it is met; a slice's spare places count too). A statement '..UptoSaid' is the law's where the arguments, and the package variables that the reading takes, are together of bulk at most 1048576: NARROWER than '..Said'. Prove '..Said' where nothing that the law and all that it calls make is longer than what came in: it says more and counts as full. Else prove '..UptoSaid'. A law counts once. -/
mutual
def uptoBulk {H : Type} : DataW H → Nat
  | .lit (.string bytes) => bytes.length + 1
  | .lit _ => 1
  | .nil => 1
  | .ptr d => uptoBulk d + 1
  | .slice elems spare => uptoBulkAll elems + uptoBulkAll spare + 1
  | .agg parts => uptoBulkAll parts + 1
  | .iface _ d => uptoBulk d + 1
  | .map entries => uptoBulkEntries entries + 1
  | .held _ => 1
def uptoBulkAll {H : Type} : List (DataW H) → Nat
  | [] => 0
  | d :: r => uptoBulk d + uptoBulkAll r
def uptoBulkEntries {H : Type} : List (Lit × DataW H) → Nat
  | [] => 0
  | x :: r => uptoBulkEntry x + uptoBulkEntries r
def uptoBulkEntry {H : Type} : Lit × DataW H → Nat
  | (.string bytes, d) => bytes.length + uptoBulk d + 1
  | (_, d) => uptoBulk d + 1
 end
def uptoSmall : (H : Type) → List (DataW H) → Bool := fun _ ds => decide (uptoBulkAll ds ≤ 1048576)
def OpenSpec.upto (s : _root_.Go.ChangeSpec) : _root_.Go.OpenSpec := { _root_.Go.OpenSpec.ofChange s with cond := some uptoSmall }

/-- 'laws.FnExactPackRead', WHERE WHAT IT READS IS OF BULK AT MOST 1048576: true; the input reads as it did. -/
def fnExactPackReadUptoRow : OpenClaim := { program := "ytppeoiidhmegkaagreat", sum := "fef9709f004c9f98569ee6b20ab1c0728bad9d86b5caf706e7f916704c1ece26", func := "loop.example/g00462/laws.FnExactPackRead", spec := "fnExactPackRead", unfollowed := true, recurses := true, apart := false, narrowed := true }
def FnExactPackReadUptoSaid : Prop := fnExactPackReadUptoRow.holds Tryz.pinned (OpenSpec.upto fnExactPackReadSpec)

/-- 'laws.FnExactPubParts', WHERE WHAT IT READS IS OF BULK AT MOST 1048576: true; the input reads as it did. -/
def fnExactPubPartsUptoRow : OpenClaim := { program := "ytppeoiidhmegkaagreat", sum := "fef9709f004c9f98569ee6b20ab1c0728bad9d86b5caf706e7f916704c1ece26", func := "loop.example/g00462/laws.FnExactPubParts", spec := "fnExactPubParts", unfollowed := true, recurses := true, apart := false, narrowed := true }
def FnExactPubPartsUptoSaid : Prop := fnExactPubPartsUptoRow.holds Tryz.pinned (OpenSpec.upto fnExactPubPartsSpec)

/-- 'laws.FnStmt', WHERE WHAT IT READS IS OF BULK AT MOST 1048576: true; the input reads as it did. -/
def fnStmtUptoRow : OpenClaim := { program := "ytppeoiidhmegkaagreat", sum := "fef9709f004c9f98569ee6b20ab1c0728bad9d86b5caf706e7f916704c1ece26", func := "loop.example/g00462/laws.FnStmt", spec := "fnStmt", unfollowed := true, recurses := true, apart := false, narrowed := true }
def FnStmtUptoSaid : Prop := fnStmtUptoRow.holds Tryz.pinned (OpenSpec.upto fnStmtSpec)

/-- 'laws.FnRec', WHERE WHAT IT READS IS OF BULK AT MOST 1048576: true; the input reads as it did. -/
def fnRecUptoRow : OpenClaim := { program := "ytppeoiidhmegkaagreat", sum := "fef9709f004c9f98569ee6b20ab1c0728bad9d86b5caf706e7f916704c1ece26", func := "loop.example/g00462/laws.FnRec", spec := "fnRec", unfollowed := true, recurses := true, apart := false, narrowed := true }
def FnRecUptoSaid : Prop := fnRecUptoRow.holds Tryz.pinned (OpenSpec.upto fnRecSpec)

/-- 'laws.FnPack', WHERE WHAT IT READS IS OF BULK AT MOST 1048576: true; the input reads as it did. -/
def fnPackUptoRow : OpenClaim := { program := "ytppeoiidhmegkaagreat", sum := "fef9709f004c9f98569ee6b20ab1c0728bad9d86b5caf706e7f916704c1ece26", func := "loop.example/g00462/laws.FnPack", spec := "fnPack", unfollowed := true, recurses := true, apart := false, narrowed := true }
def FnPackUptoSaid : Prop := fnPackUptoRow.holds Tryz.pinned (OpenSpec.upto fnPackSpec)

/-- 'laws.FnExactWorldNew', WHERE WHAT IT READS IS OF BULK AT MOST 1048576: true; the input reads as it did. -/
def fnExactWorldNewUptoRow : OpenClaim := { program := "ytppeoiidhmegkaagreat", sum := "fef9709f004c9f98569ee6b20ab1c0728bad9d86b5caf706e7f916704c1ece26", func := "loop.example/g00462/laws.FnExactWorldNew", spec := "fnExactWorldNew", unfollowed := true, recurses := true, apart := false, narrowed := true }
def FnExactWorldNewUptoSaid : Prop := fnExactWorldNewUptoRow.holds Tryz.pinned (OpenSpec.upto fnExactWorldNewSpec)

/-- 'laws.FnExactSpan', WHERE WHAT IT READS IS OF BULK AT MOST 1048576: true; the input reads as it did. -/
def fnExactSpanUptoRow : OpenClaim := { program := "ytppeoiidhmegkaagreat", sum := "fef9709f004c9f98569ee6b20ab1c0728bad9d86b5caf706e7f916704c1ece26", func := "loop.example/g00462/laws.FnExactSpan", spec := "fnExactSpan", inPlace := ["slices.overlaps[loop.example/g00462/impl.Table]", "slices.overlaps[loop.example/g00462/impl.Rows]", "slices.overlaps[loop.example/g00462/impl.Row]"], unfollowed := true, recurses := true, apart := false, narrowed := true }
def FnExactSpanUptoSaid : Prop := fnExactSpanUptoRow.holds Tryz.pinned (OpenSpec.upto fnExactSpanSpec)

end Rows
end Go.Proofs.YtppeoiidhmegkaaGreat
