/-
  No cell of these rows narrows 'for every input' (looked for: loops, veiled, ifaces, maps, wideKeys, modest, calm, conditions, laid).
  DERIVED. THE GIVEN ROWS OF THIS SEAT. 7 by the template 'for every input the law returns true; each argument reads behind the call as it read before'; 0 by the template 'total and deterministic' (their statements: YtiieddiheadocaaGreatTotals.lean).
  GIVEN WITH THE SEED: the statements are not yours to turn. If you find one false, say at which input.
  Laid BY PROGRAM, IN A SANDBOX (cutbox-rows.mjs): the forced cells as the released guide's own fill.sh prints them over the translation f7e97e49e3cb9cfa… (all of the seat's roots in one cut). By AI agents, Wed Nov 11 2026. No macro, syntax, notation, axiom, sorry.
-/
import Derived.Test.YtiieddiheadocaaGreatChecked
import GoSem.Claim
import GoSem.ClaimJoined
import GoSem.ClaimMapViews
import Derived.JoinedTies
import Derived.KernelRfl
namespace Go.Proofs.YtiieddiheadocaaGreat
/- THE CELL 'sum', in the pinned program and in every row, IS THE sha256 OF THE DUMP (.gsa) THAT YtiieddiheadocaaGreatProg.lean LOADS. Nothing in Lean hashes anything: it is a label: what it is worth is what the hold of that sum in a sandbox is worth. -/
noncomputable def Tryz.pinned : Pinned := { name := "ytiieddiheadocaagreat", sum := "f7e97e49e3cb9cfaf31e3ead4ffb48a86903dc2ba86149c882a40275fdb6d4d3", checked := Tryz.checked }
namespace Rows
def none {H : Type} : Left H := { results := [], args := [] }

/-- 'laws.FnStmt': WHATEVER THE INPUT: true; the input reads as it did. -/
def fnStmtSpec : ChangeSpec := { name := "fnStmt", fn := fun _ => fun
  | [d] => { results := [.lit (.bool true)], args := [d] }
  | _ => none }
def fnStmtRow : OpenClaim := { program := "ytiieddiheadocaagreat", sum := "f7e97e49e3cb9cfaf31e3ead4ffb48a86903dc2ba86149c882a40275fdb6d4d3", func := "loop.example/g00462/laws.FnStmt", spec := "fnStmt", unfollowed := true, recurses := true, apart := false }
def FnStmtSaid : Prop := fnStmtRow.holds Tryz.pinned (OpenSpec.ofChange fnStmtSpec)

/-- ITS FALSE NEIGHBOUR: 'it returns false'. Refute it at one input. -/
def fnStmtWrong : ChangeSpec := { name := "fnStmt", fn := fun _ => fun
  | [d] => { results := [.lit (.bool false)], args := [d] }
  | _ => none }
def FnStmtWrongFalsely : Prop := fnStmtRow.holds Tryz.pinned (OpenSpec.ofChange fnStmtWrong)

/-- 'laws.FnExactPackRead': WHATEVER THE INPUT: true; the input reads as it did. -/
def fnExactPackReadSpec : ChangeSpec := { name := "fnExactPackRead", fn := fun _ => fun
  | [d] => { results := [.lit (.bool true)], args := [d] }
  | _ => none }
def fnExactPackReadRow : OpenClaim := { program := "ytiieddiheadocaagreat", sum := "f7e97e49e3cb9cfaf31e3ead4ffb48a86903dc2ba86149c882a40275fdb6d4d3", func := "loop.example/g00462/laws.FnExactPackRead", spec := "fnExactPackRead", unfollowed := true, recurses := true, apart := false }
def FnExactPackReadSaid : Prop := fnExactPackReadRow.holds Tryz.pinned (OpenSpec.ofChange fnExactPackReadSpec)

/-- ITS FALSE NEIGHBOUR: 'it returns false'. Refute it at one input. -/
def fnExactPackReadWrong : ChangeSpec := { name := "fnExactPackRead", fn := fun _ => fun
  | [d] => { results := [.lit (.bool false)], args := [d] }
  | _ => none }
def FnExactPackReadWrongFalsely : Prop := fnExactPackReadRow.holds Tryz.pinned (OpenSpec.ofChange fnExactPackReadWrong)

/-- 'laws.FnRec': WHATEVER THE INPUT: true; the input reads as it did. -/
def fnRecSpec : ChangeSpec := { name := "fnRec", fn := fun _ => fun
  | [d] => { results := [.lit (.bool true)], args := [d] }
  | _ => none }
def fnRecRow : OpenClaim := { program := "ytiieddiheadocaagreat", sum := "f7e97e49e3cb9cfaf31e3ead4ffb48a86903dc2ba86149c882a40275fdb6d4d3", func := "loop.example/g00462/laws.FnRec", spec := "fnRec", unfollowed := true, recurses := true, apart := false }
def FnRecSaid : Prop := fnRecRow.holds Tryz.pinned (OpenSpec.ofChange fnRecSpec)

/-- ITS FALSE NEIGHBOUR: 'it returns false'. Refute it at one input. -/
def fnRecWrong : ChangeSpec := { name := "fnRec", fn := fun _ => fun
  | [d] => { results := [.lit (.bool false)], args := [d] }
  | _ => none }
def FnRecWrongFalsely : Prop := fnRecRow.holds Tryz.pinned (OpenSpec.ofChange fnRecWrong)

/-- 'laws.FnExactTextStep': WHATEVER THE INPUT: true; the input reads as it did. -/
def fnExactTextStepSpec : ChangeSpec := { name := "fnExactTextStep", fn := fun _ => fun
  | [d] => { results := [.lit (.bool true)], args := [d] }
  | _ => none }
def fnExactTextStepRow : OpenClaim := { program := "ytiieddiheadocaagreat", sum := "f7e97e49e3cb9cfaf31e3ead4ffb48a86903dc2ba86149c882a40275fdb6d4d3", func := "loop.example/g00462/laws.FnExactTextStep", spec := "fnExactTextStep", unfollowed := true, recurses := true, apart := false }
def FnExactTextStepSaid : Prop := fnExactTextStepRow.holds Tryz.pinned (OpenSpec.ofChange fnExactTextStepSpec)

/-- ITS FALSE NEIGHBOUR: 'it returns false'. Refute it at one input. -/
def fnExactTextStepWrong : ChangeSpec := { name := "fnExactTextStep", fn := fun _ => fun
  | [d] => { results := [.lit (.bool false)], args := [d] }
  | _ => none }
def FnExactTextStepWrongFalsely : Prop := fnExactTextStepRow.holds Tryz.pinned (OpenSpec.ofChange fnExactTextStepWrong)

/-- 'laws.FnPack': WHATEVER THE INPUT: true; the input reads as it did. -/
def fnPackSpec : ChangeSpec := { name := "fnPack", fn := fun _ => fun
  | [d] => { results := [.lit (.bool true)], args := [d] }
  | _ => none }
def fnPackRow : OpenClaim := { program := "ytiieddiheadocaagreat", sum := "f7e97e49e3cb9cfaf31e3ead4ffb48a86903dc2ba86149c882a40275fdb6d4d3", func := "loop.example/g00462/laws.FnPack", spec := "fnPack", unfollowed := true, recurses := true, apart := false }
def FnPackSaid : Prop := fnPackRow.holds Tryz.pinned (OpenSpec.ofChange fnPackSpec)

/-- ITS FALSE NEIGHBOUR: 'it returns false'. Refute it at one input. -/
def fnPackWrong : ChangeSpec := { name := "fnPack", fn := fun _ => fun
  | [d] => { results := [.lit (.bool false)], args := [d] }
  | _ => none }
def FnPackWrongFalsely : Prop := fnPackRow.holds Tryz.pinned (OpenSpec.ofChange fnPackWrong)

/-- 'laws.FnExactReadScript': WHATEVER THE INPUT: true; the input reads as it did. -/
def fnExactReadScriptSpec : ChangeSpec := { name := "fnExactReadScript", fn := fun _ => fun
  | [d] => { results := [.lit (.bool true)], args := [d] }
  | _ => none }
def fnExactReadScriptRow : OpenClaim := { program := "ytiieddiheadocaagreat", sum := "f7e97e49e3cb9cfaf31e3ead4ffb48a86903dc2ba86149c882a40275fdb6d4d3", func := "loop.example/g00462/laws.FnExactReadScript", spec := "fnExactReadScript", unfollowed := true, recurses := true, apart := false }
def FnExactReadScriptSaid : Prop := fnExactReadScriptRow.holds Tryz.pinned (OpenSpec.ofChange fnExactReadScriptSpec)

/-- ITS FALSE NEIGHBOUR: 'it returns false'. Refute it at one input. -/
def fnExactReadScriptWrong : ChangeSpec := { name := "fnExactReadScript", fn := fun _ => fun
  | [d] => { results := [.lit (.bool false)], args := [d] }
  | _ => none }
def FnExactReadScriptWrongFalsely : Prop := fnExactReadScriptRow.holds Tryz.pinned (OpenSpec.ofChange fnExactReadScriptWrong)

/-- 'laws.FnExactPubParts': WHATEVER THE INPUT: true; the input reads as it did. -/
def fnExactPubPartsSpec : ChangeSpec := { name := "fnExactPubParts", fn := fun _ => fun
  | [d1, d2] => { results := [.lit (.bool true)], args := [d1, d2] }
  | _ => none }
def fnExactPubPartsRow : OpenClaim := { program := "ytiieddiheadocaagreat", sum := "f7e97e49e3cb9cfaf31e3ead4ffb48a86903dc2ba86149c882a40275fdb6d4d3", func := "loop.example/g00462/laws.FnExactPubParts", spec := "fnExactPubParts", unfollowed := true, recurses := true, apart := false }
def FnExactPubPartsSaid : Prop := fnExactPubPartsRow.holds Tryz.pinned (OpenSpec.ofChange fnExactPubPartsSpec)

/-- ITS FALSE NEIGHBOUR: 'it returns false'. Refute it at one input. -/
def fnExactPubPartsWrong : ChangeSpec := { name := "fnExactPubParts", fn := fun _ => fun
  | [d1, d2] => { results := [.lit (.bool false)], args := [d1, d2] }
  | _ => none }
def FnExactPubPartsWrongFalsely : Prop := fnExactPubPartsRow.holds Tryz.pinned (OpenSpec.ofChange fnExactPubPartsWrong)

/- THE SECOND FORM. 'bulk': how many values and letters a reading holds, each counted each time it is reached (what is shared counts as often as it is met; a slice's spare places count too). A statement '..UptoSaid' is the law's where the arguments, and the package variables that the reading takes, are together of bulk at most 1048576: NARROWER than '..Said'. Prove '..Said' where nothing that the law and all that it calls make is longer than what came in: it says more and counts as full. Else prove '..UptoSaid'. A law counts once. -/
mutual
def uptoBulk {H : Type} : DataW H → Nat
  | .lit (.string bytes) => bytes.length + 1
  | .lit _ => 1
  | .nil => 1
  | .ptr d => uptoBulk d + 1
  | .slice elems spare => uptoBulkAll elems + uptoBulkAll spare + 1
  | .agg parts => uptoBulkAll parts + 1
  | .iface _ d => uptoBulk d + 1
  | .map entries => uptoBulkEntries entries + 1
  | .held _ => 1
def uptoBulkAll {H : Type} : List (DataW H) → Nat
  | [] => 0
  | d :: r => uptoBulk d + uptoBulkAll r
def uptoBulkEntries {H : Type} : List (Lit × DataW H) → Nat
  | [] => 0
  | x :: r => uptoBulkEntry x + uptoBulkEntries r
def uptoBulkEntry {H : Type} : Lit × DataW H → Nat
  | (.string bytes, d) => bytes.length + uptoBulk d + 1
  | (_, d) => uptoBulk d + 1
 end
def uptoSmall : (H : Type) → List (DataW H) → Bool := fun _ ds => decide (uptoBulkAll ds ≤ 1048576)
def OpenSpec.upto (s : _root_.Go.ChangeSpec) : _root_.Go.OpenSpec := { _root_.Go.OpenSpec.ofChange s with cond := some uptoSmall }

/-- 'laws.FnStmt', WHERE WHAT IT READS IS OF BULK AT MOST 1048576: true; the input reads as it did. -/
def fnStmtUptoRow : OpenClaim := { program := "ytiieddiheadocaagreat", sum := "f7e97e49e3cb9cfaf31e3ead4ffb48a86903dc2ba86149c882a40275fdb6d4d3", func := "loop.example/g00462/laws.FnStmt", spec := "fnStmt", unfollowed := true, recurses := true, apart := false, narrowed := true }
def FnStmtUptoSaid : Prop := fnStmtUptoRow.holds Tryz.pinned (OpenSpec.upto fnStmtSpec)

/-- 'laws.FnExactPackRead', WHERE WHAT IT READS IS OF BULK AT MOST 1048576: true; the input reads as it did. -/
def fnExactPackReadUptoRow : OpenClaim := { program := "ytiieddiheadocaagreat", sum := "f7e97e49e3cb9cfaf31e3ead4ffb48a86903dc2ba86149c882a40275fdb6d4d3", func := "loop.example/g00462/laws.FnExactPackRead", spec := "fnExactPackRead", unfollowed := true, recurses := true, apart := false, narrowed := true }
def FnExactPackReadUptoSaid : Prop := fnExactPackReadUptoRow.holds Tryz.pinned (OpenSpec.upto fnExactPackReadSpec)

/-- 'laws.FnRec', WHERE WHAT IT READS IS OF BULK AT MOST 1048576: true; the input reads as it did. -/
def fnRecUptoRow : OpenClaim := { program := "ytiieddiheadocaagreat", sum := "f7e97e49e3cb9cfaf31e3ead4ffb48a86903dc2ba86149c882a40275fdb6d4d3", func := "loop.example/g00462/laws.FnRec", spec := "fnRec", unfollowed := true, recurses := true, apart := false, narrowed := true }
def FnRecUptoSaid : Prop := fnRecUptoRow.holds Tryz.pinned (OpenSpec.upto fnRecSpec)

/-- 'laws.FnExactTextStep', WHERE WHAT IT READS IS OF BULK AT MOST 1048576: true; the input reads as it did. -/
def fnExactTextStepUptoRow : OpenClaim := { program := "ytiieddiheadocaagreat", sum := "f7e97e49e3cb9cfaf31e3ead4ffb48a86903dc2ba86149c882a40275fdb6d4d3", func := "loop.example/g00462/laws.FnExactTextStep", spec := "fnExactTextStep", unfollowed := true, recurses := true, apart := false, narrowed := true }
def FnExactTextStepUptoSaid : Prop := fnExactTextStepUptoRow.holds Tryz.pinned (OpenSpec.upto fnExactTextStepSpec)

/-- 'laws.FnPack', WHERE WHAT IT READS IS OF BULK AT MOST 1048576: true; the input reads as it did. -/
def fnPackUptoRow : OpenClaim := { program := "ytiieddiheadocaagreat", sum := "f7e97e49e3cb9cfaf31e3ead4ffb48a86903dc2ba86149c882a40275fdb6d4d3", func := "loop.example/g00462/laws.FnPack", spec := "fnPack", unfollowed := true, recurses := true, apart := false, narrowed := true }
def FnPackUptoSaid : Prop := fnPackUptoRow.holds Tryz.pinned (OpenSpec.upto fnPackSpec)

/-- 'laws.FnExactReadScript', WHERE WHAT IT READS IS OF BULK AT MOST 1048576: true; the input reads as it did. -/
def fnExactReadScriptUptoRow : OpenClaim := { program := "ytiieddiheadocaagreat", sum := "f7e97e49e3cb9cfaf31e3ead4ffb48a86903dc2ba86149c882a40275fdb6d4d3", func := "loop.example/g00462/laws.FnExactReadScript", spec := "fnExactReadScript", unfollowed := true, recurses := true, apart := false, narrowed := true }
def FnExactReadScriptUptoSaid : Prop := fnExactReadScriptUptoRow.holds Tryz.pinned (OpenSpec.upto fnExactReadScriptSpec)

/-- 'laws.FnExactPubParts', WHERE WHAT IT READS IS OF BULK AT MOST 1048576: true; the input reads as it did. -/
def fnExactPubPartsUptoRow : OpenClaim := { program := "ytiieddiheadocaagreat", sum := "f7e97e49e3cb9cfaf31e3ead4ffb48a86903dc2ba86149c882a40275fdb6d4d3", func := "loop.example/g00462/laws.FnExactPubParts", spec := "fnExactPubParts", unfollowed := true, recurses := true, apart := false, narrowed := true }
def FnExactPubPartsUptoSaid : Prop := fnExactPubPartsUptoRow.holds Tryz.pinned (OpenSpec.upto fnExactPubPartsSpec)

end Rows
end Go.Proofs.YtiieddiheadocaaGreat
