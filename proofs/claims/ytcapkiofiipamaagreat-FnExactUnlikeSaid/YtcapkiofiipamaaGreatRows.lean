/-
  No cell of these rows narrows 'for every input' (looked for: loops, veiled, ifaces, maps, wideKeys, modest, calm, conditions, laid).
  DERIVED. THE GIVEN ROWS OF THIS SEAT. 4 by the template 'for every input the law returns true; each argument reads behind the call as it read before'; 0 by the template 'total and deterministic' (their statements: YtcapkiofiipamaaGreatTotals.lean).
  GIVEN WITH THE SEED: the statements are not yours to turn. If you find one false, say at which input.
  Laid BY PROGRAM, IN A SANDBOX (cutbox-rows.mjs): the forced cells as the released guide's own fill.sh prints them over the translation b7b022c08bc614b6… (all of the seat's roots in one cut). By AI agents, Wed Nov 11 2026. No macro, syntax, notation, axiom, sorry.
-/
import Derived.Test.YtcapkiofiipamaaGreatChecked
import GoSem.Claim
import GoSem.ClaimJoined
import GoSem.ClaimMapViews
import Derived.JoinedTies
import Derived.KernelRfl
namespace Go.Proofs.YtcapkiofiipamaaGreat
/- THE CELL 'sum', in the pinned program and in every row, IS THE sha256 OF THE DUMP (.gsa) THAT YtcapkiofiipamaaGreatProg.lean LOADS. Nothing in Lean hashes anything: it is a label: what it is worth is what the hold of that sum in a sandbox is worth. -/
noncomputable def Tryz.pinned : Pinned := { name := "ytcapkiofiipamaagreat", sum := "b7b022c08bc614b62b3c5058307ef229ea35e1b46f8c2c7739f2368ad1104ef8", checked := Tryz.checked }
namespace Rows
def none {H : Type} : Left H := { results := [], args := [] }

/-- 'laws.FnExactUnlike': WHATEVER THE INPUT: true; the input reads as it did. -/
def fnExactUnlikeSpec : ChangeSpec := { name := "fnExactUnlike", fn := fun _ => fun
  | [d1, d2] => { results := [.lit (.bool true)], args := [d1, d2] }
  | _ => none }
def fnExactUnlikeRow : OpenClaim := { program := "ytcapkiofiipamaagreat", sum := "b7b022c08bc614b62b3c5058307ef229ea35e1b46f8c2c7739f2368ad1104ef8", func := "loop.example/g00462/laws.FnExactUnlike", spec := "fnExactUnlike", unfollowed := true, recurses := true, apart := false }
def FnExactUnlikeSaid : Prop := fnExactUnlikeRow.holds Tryz.pinned (OpenSpec.ofChange fnExactUnlikeSpec)

/-- ITS FALSE NEIGHBOUR: 'it returns false'. Refute it at one input. -/
def fnExactUnlikeWrong : ChangeSpec := { name := "fnExactUnlike", fn := fun _ => fun
  | [d1, d2] => { results := [.lit (.bool false)], args := [d1, d2] }
  | _ => none }
def FnExactUnlikeWrongFalsely : Prop := fnExactUnlikeRow.holds Tryz.pinned (OpenSpec.ofChange fnExactUnlikeWrong)

/-- 'laws.FnExactPubDb': WHATEVER THE INPUT: true; the input reads as it did. -/
def fnExactPubDbSpec : ChangeSpec := { name := "fnExactPubDb", fn := fun _ => fun
  | [d1, d2] => { results := [.lit (.bool true)], args := [d1, d2] }
  | _ => none }
def fnExactPubDbRow : OpenClaim := { program := "ytcapkiofiipamaagreat", sum := "b7b022c08bc614b62b3c5058307ef229ea35e1b46f8c2c7739f2368ad1104ef8", func := "loop.example/g00462/laws.FnExactPubDb", spec := "fnExactPubDb", unfollowed := true, recurses := true, apart := false }
def FnExactPubDbSaid : Prop := fnExactPubDbRow.holds Tryz.pinned (OpenSpec.ofChange fnExactPubDbSpec)

/-- ITS FALSE NEIGHBOUR: 'it returns false'. Refute it at one input. -/
def fnExactPubDbWrong : ChangeSpec := { name := "fnExactPubDb", fn := fun _ => fun
  | [d1, d2] => { results := [.lit (.bool false)], args := [d1, d2] }
  | _ => none }
def FnExactPubDbWrongFalsely : Prop := fnExactPubDbRow.holds Tryz.pinned (OpenSpec.ofChange fnExactPubDbWrong)

/-- 'laws.FnExactPubParts': WHATEVER THE INPUT: true; the input reads as it did. -/
def fnExactPubPartsSpec : ChangeSpec := { name := "fnExactPubParts", fn := fun _ => fun
  | [d1, d2] => { results := [.lit (.bool true)], args := [d1, d2] }
  | _ => none }
def fnExactPubPartsRow : OpenClaim := { program := "ytcapkiofiipamaagreat", sum := "b7b022c08bc614b62b3c5058307ef229ea35e1b46f8c2c7739f2368ad1104ef8", func := "loop.example/g00462/laws.FnExactPubParts", spec := "fnExactPubParts", unfollowed := true, recurses := true, apart := false }
def FnExactPubPartsSaid : Prop := fnExactPubPartsRow.holds Tryz.pinned (OpenSpec.ofChange fnExactPubPartsSpec)

/-- ITS FALSE NEIGHBOUR: 'it returns false'. Refute it at one input. -/
def fnExactPubPartsWrong : ChangeSpec := { name := "fnExactPubParts", fn := fun _ => fun
  | [d1, d2] => { results := [.lit (.bool false)], args := [d1, d2] }
  | _ => none }
def FnExactPubPartsWrongFalsely : Prop := fnExactPubPartsRow.holds Tryz.pinned (OpenSpec.ofChange fnExactPubPartsWrong)

/-- 'laws.FnExactMend': WHATEVER THE INPUT: true; the input reads as it did. -/
def fnExactMendSpec : ChangeSpec := { name := "fnExactMend", fn := fun _ => fun
  | [d1, d2] => { results := [.lit (.bool true)], args := [d1, d2] }
  | _ => none }
def fnExactMendRow : OpenClaim := { program := "ytcapkiofiipamaagreat", sum := "b7b022c08bc614b62b3c5058307ef229ea35e1b46f8c2c7739f2368ad1104ef8", func := "loop.example/g00462/laws.FnExactMend", spec := "fnExactMend", unfollowed := true, recurses := true, apart := false }
def FnExactMendSaid : Prop := fnExactMendRow.holds Tryz.pinned (OpenSpec.ofChange fnExactMendSpec)

/-- ITS FALSE NEIGHBOUR: 'it returns false'. Refute it at one input. -/
def fnExactMendWrong : ChangeSpec := { name := "fnExactMend", fn := fun _ => fun
  | [d1, d2] => { results := [.lit (.bool false)], args := [d1, d2] }
  | _ => none }
def FnExactMendWrongFalsely : Prop := fnExactMendRow.holds Tryz.pinned (OpenSpec.ofChange fnExactMendWrong)

/- THE SECOND FORM. 'bulk': how many values and letters a reading holds, each counted each time it is reached (what is shared counts as often as it is met; a slice's spare places count too). A statement '..UptoSaid' is the law's where the arguments, and the package variables that the reading takes, are together of bulk at most 1048576: NARROWER than '..Said'. Prove '..Said' where nothing that the law and all that it calls make is longer than what came in: it says more and counts as full. Else prove '..UptoSaid'. A law counts once. -/
mutual
def uptoBulk {H : Type} : DataW H → Nat
  | .lit (.string bytes) => bytes.length + 1
  | .lit _ => 1
  | .nil => 1
  | .ptr d => uptoBulk d + 1
  | .slice elems spare => uptoBulkAll elems + uptoBulkAll spare + 1
  | .agg parts => uptoBulkAll parts + 1
  | .iface _ d => uptoBulk d + 1
  | .map entries => uptoBulkEntries entries + 1
  | .held _ => 1
def uptoBulkAll {H : Type} : List (DataW H) → Nat
  | [] => 0
  | d :: r => uptoBulk d + uptoBulkAll r
def uptoBulkEntries {H : Type} : List (Lit × DataW H) → Nat
  | [] => 0
  | x :: r => uptoBulkEntry x + uptoBulkEntries r
def uptoBulkEntry {H : Type} : Lit × DataW H → Nat
  | (.string bytes, d) => bytes.length + uptoBulk d + 1
  | (_, d) => uptoBulk d + 1
 end
def uptoSmall : (H : Type) → List (DataW H) → Bool := fun _ ds => decide (uptoBulkAll ds ≤ 1048576)
def OpenSpec.upto (s : _root_.Go.ChangeSpec) : _root_.Go.OpenSpec := { _root_.Go.OpenSpec.ofChange s with cond := some uptoSmall }

/-- 'laws.FnExactUnlike', WHERE WHAT IT READS IS OF BULK AT MOST 1048576: true; the input reads as it did. -/
def fnExactUnlikeUptoRow : OpenClaim := { program := "ytcapkiofiipamaagreat", sum := "b7b022c08bc614b62b3c5058307ef229ea35e1b46f8c2c7739f2368ad1104ef8", func := "loop.example/g00462/laws.FnExactUnlike", spec := "fnExactUnlike", unfollowed := true, recurses := true, apart := false, narrowed := true }
def FnExactUnlikeUptoSaid : Prop := fnExactUnlikeUptoRow.holds Tryz.pinned (OpenSpec.upto fnExactUnlikeSpec)

/-- 'laws.FnExactPubDb', WHERE WHAT IT READS IS OF BULK AT MOST 1048576: true; the input reads as it did. -/
def fnExactPubDbUptoRow : OpenClaim := { program := "ytcapkiofiipamaagreat", sum := "b7b022c08bc614b62b3c5058307ef229ea35e1b46f8c2c7739f2368ad1104ef8", func := "loop.example/g00462/laws.FnExactPubDb", spec := "fnExactPubDb", unfollowed := true, recurses := true, apart := false, narrowed := true }
def FnExactPubDbUptoSaid : Prop := fnExactPubDbUptoRow.holds Tryz.pinned (OpenSpec.upto fnExactPubDbSpec)

/-- 'laws.FnExactPubParts', WHERE WHAT IT READS IS OF BULK AT MOST 1048576: true; the input reads as it did. -/
def fnExactPubPartsUptoRow : OpenClaim := { program := "ytcapkiofiipamaagreat", sum := "b7b022c08bc614b62b3c5058307ef229ea35e1b46f8c2c7739f2368ad1104ef8", func := "loop.example/g00462/laws.FnExactPubParts", spec := "fnExactPubParts", unfollowed := true, recurses := true, apart := false, narrowed := true }
def FnExactPubPartsUptoSaid : Prop := fnExactPubPartsUptoRow.holds Tryz.pinned (OpenSpec.upto fnExactPubPartsSpec)

/-- 'laws.FnExactMend', WHERE WHAT IT READS IS OF BULK AT MOST 1048576: true; the input reads as it did. -/
def fnExactMendUptoRow : OpenClaim := { program := "ytcapkiofiipamaagreat", sum := "b7b022c08bc614b62b3c5058307ef229ea35e1b46f8c2c7739f2368ad1104ef8", func := "loop.example/g00462/laws.FnExactMend", spec := "fnExactMend", unfollowed := true, recurses := true, apart := false, narrowed := true }
def FnExactMendUptoSaid : Prop := fnExactMendUptoRow.holds Tryz.pinned (OpenSpec.upto fnExactMendSpec)

end Rows
end Go.Proofs.YtcapkiofiipamaaGreat
