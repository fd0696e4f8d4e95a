/-
  No cell of these rows narrows 'for every input' (looked for: loops, veiled, ifaces, maps, wideKeys, modest, calm, conditions, laid).
  DERIVED. THE GIVEN ROWS OF THIS SEAT. 12 by the template 'for every input the law returns true; each argument reads behind the call as it read before'; 0 by the template 'total and deterministic' (their statements: YtnemiodjnhfejaaGreatTotals.lean).
  GIVEN WITH THE SEED: the statements are not yours to turn. If you find one false, say at which input.
  Laid BY PROGRAM, IN A SANDBOX (cutbox-rows.mjs): the forced cells as the released guide's own fill.sh prints them over the translation 6d5e1a91becf517e… (all of the seat's roots in one cut). By AI agents, Wed Nov 11 2026. No macro, syntax, notation, axiom, sorry.
-/
import Derived.Test.YtnemiodjnhfejaaGreatChecked
import GoSem.Claim
import GoSem.ClaimJoined
import GoSem.ClaimMapViews
import Derived.JoinedTies
import Derived.KernelRfl
namespace Go.Proofs.YtnemiodjnhfejaaGreat
/- THE CELL 'sum', in the pinned program and in every row, IS THE sha256 OF THE DUMP (.gsa) THAT YtnemiodjnhfejaaGreatProg.lean LOADS. Nothing in Lean hashes anything: it is a label: what it is worth is what the hold of that sum in a sandbox is worth. -/
noncomputable def Tryz.pinned : Pinned := { name := "ytnemiodjnhfejaagreat", sum := "6d5e1a91becf517e0c015ba68826d8a95ab65cc6149f81e4c578a0636c107d20", checked := Tryz.checked }
namespace Rows
def none {H : Type} : Left H := { results := [], args := [] }

/-- 'laws.FnExactPubParts': WHATEVER THE INPUT: true; the input reads as it did. -/
def fnExactPubPartsSpec : ChangeSpec := { name := "fnExactPubParts", fn := fun _ => fun
  | [d1, d2] => { results := [.lit (.bool true)], args := [d1, d2] }
  | _ => none }
def fnExactPubPartsRow : OpenClaim := { program := "ytnemiodjnhfejaagreat", sum := "6d5e1a91becf517e0c015ba68826d8a95ab65cc6149f81e4c578a0636c107d20", func := "loop.example/g00462/laws.FnExactPubParts", spec := "fnExactPubParts", unfollowed := true, recurses := true, apart := false }
def FnExactPubPartsSaid : Prop := fnExactPubPartsRow.holds Tryz.pinned (OpenSpec.ofChange fnExactPubPartsSpec)

/-- ITS FALSE NEIGHBOUR: 'it returns false'. Refute it at one input. -/
def fnExactPubPartsWrong : ChangeSpec := { name := "fnExactPubParts", fn := fun _ => fun
  | [d1, d2] => { results := [.lit (.bool false)], args := [d1, d2] }
  | _ => none }
def FnExactPubPartsWrongFalsely : Prop := fnExactPubPartsRow.holds Tryz.pinned (OpenSpec.ofChange fnExactPubPartsWrong)

/-- 'laws.FnExactSpan': WHATEVER THE INPUT: true; the input reads as it did. -/
def fnExactSpanSpec : ChangeSpec := { name := "fnExactSpan", fn := fun _ => fun
  | [d1, d2] => { results := [.lit (.bool true)], args := [d1, d2] }
  | _ => none }
def fnExactSpanRow : OpenClaim := { program := "ytnemiodjnhfejaagreat", sum := "6d5e1a91becf517e0c015ba68826d8a95ab65cc6149f81e4c578a0636c107d20", func := "loop.example/g00462/laws.FnExactSpan", spec := "fnExactSpan", inPlace := ["slices.overlaps[loop.example/g00462/impl.Table]", "slices.overlaps[loop.example/g00462/impl.Rows]", "slices.overlaps[loop.example/g00462/impl.Row]"], unfollowed := true, recurses := true, apart := false }
def FnExactSpanSaid : Prop := fnExactSpanRow.holds Tryz.pinned (OpenSpec.ofChange fnExactSpanSpec)

/-- ITS FALSE NEIGHBOUR: 'it returns false'. Refute it at one input. -/
def fnExactSpanWrong : ChangeSpec := { name := "fnExactSpan", fn := fun _ => fun
  | [d1, d2] => { results := [.lit (.bool false)], args := [d1, d2] }
  | _ => none }
def FnExactSpanWrongFalsely : Prop := fnExactSpanRow.holds Tryz.pinned (OpenSpec.ofChange fnExactSpanWrong)

/-- 'laws.FnExactMixed': WHATEVER THE INPUT: true; the input reads as it did. -/
def fnExactMixedSpec : ChangeSpec := { name := "fnExactMixed", fn := fun _ => fun
  | [d1, d2] => { results := [.lit (.bool true)], args := [d1, d2] }
  | _ => none }
def fnExactMixedRow : OpenClaim := { program := "ytnemiodjnhfejaagreat", sum := "6d5e1a91becf517e0c015ba68826d8a95ab65cc6149f81e4c578a0636c107d20", func := "loop.example/g00462/laws.FnExactMixed", spec := "fnExactMixed", inPlace := ["slices.overlaps[loop.example/g00462/impl.Table]", "slices.overlaps[loop.example/g00462/impl.Rows]", "slices.overlaps[loop.example/g00462/impl.Row]"], unfollowed := true, recurses := true, apart := false }
def FnExactMixedSaid : Prop := fnExactMixedRow.holds Tryz.pinned (OpenSpec.ofChange fnExactMixedSpec)

/-- ITS FALSE NEIGHBOUR: 'it returns false'. Refute it at one input. -/
def fnExactMixedWrong : ChangeSpec := { name := "fnExactMixed", fn := fun _ => fun
  | [d1, d2] => { results := [.lit (.bool false)], args := [d1, d2] }
  | _ => none }
def FnExactMixedWrongFalsely : Prop := fnExactMixedRow.holds Tryz.pinned (OpenSpec.ofChange fnExactMixedWrong)

/-- 'laws.FnExactBehind': WHATEVER THE INPUT: true; the input reads as it did. -/
def fnExactBehindSpec : ChangeSpec := { name := "fnExactBehind", fn := fun _ => fun
  | [d1, d2] => { results := [.lit (.bool true)], args := [d1, d2] }
  | _ => none }
def fnExactBehindRow : OpenClaim := { program := "ytnemiodjnhfejaagreat", sum := "6d5e1a91becf517e0c015ba68826d8a95ab65cc6149f81e4c578a0636c107d20", func := "loop.example/g00462/laws.FnExactBehind", spec := "fnExactBehind", inPlace := ["slices.overlaps[loop.example/g00462/impl.Table]", "slices.overlaps[loop.example/g00462/impl.Rows]", "slices.overlaps[loop.example/g00462/impl.Row]"], unfollowed := true, recurses := true, apart := false }
def FnExactBehindSaid : Prop := fnExactBehindRow.holds Tryz.pinned (OpenSpec.ofChange fnExactBehindSpec)

/-- ITS FALSE NEIGHBOUR: 'it returns false'. Refute it at one input. -/
def fnExactBehindWrong : ChangeSpec := { name := "fnExactBehind", fn := fun _ => fun
  | [d1, d2] => { results := [.lit (.bool false)], args := [d1, d2] }
  | _ => none }
def FnExactBehindWrongFalsely : Prop := fnExactBehindRow.holds Tryz.pinned (OpenSpec.ofChange fnExactBehindWrong)

/-- 'laws.FnExactNextAt': WHATEVER THE INPUT: true; the input reads as it did. -/
def fnExactNextAtSpec : ChangeSpec := { name := "fnExactNextAt", fn := fun _ => fun
  | [d1, d2] => { results := [.lit (.bool true)], args := [d1, d2] }
  | _ => none }
def fnExactNextAtRow : OpenClaim := { program := "ytnemiodjnhfejaagreat", sum := "6d5e1a91becf517e0c015ba68826d8a95ab65cc6149f81e4c578a0636c107d20", func := "loop.example/g00462/laws.FnExactNextAt", spec := "fnExactNextAt", inPlace := ["slices.overlaps[loop.example/g00462/impl.Table]", "slices.overlaps[loop.example/g00462/impl.Rows]", "slices.overlaps[loop.example/g00462/impl.Row]"], unfollowed := true, recurses := true, apart := false }
def FnExactNextAtSaid : Prop := fnExactNextAtRow.holds Tryz.pinned (OpenSpec.ofChange fnExactNextAtSpec)

/-- ITS FALSE NEIGHBOUR: 'it returns false'. Refute it at one input. -/
def fnExactNextAtWrong : ChangeSpec := { name := "fnExactNextAt", fn := fun _ => fun
  | [d1, d2] => { results := [.lit (.bool false)], args := [d1, d2] }
  | _ => none }
def FnExactNextAtWrongFalsely : Prop := fnExactNextAtRow.holds Tryz.pinned (OpenSpec.ofChange fnExactNextAtWrong)

/-- 'laws.FnExactBorn': WHATEVER THE INPUT: true; the input reads as it did. -/
def fnExactBornSpec : ChangeSpec := { name := "fnExactBorn", fn := fun _ => fun
  | [d1, d2, d3] => { results := [.lit (.bool true)], args := [d1, d2, d3] }
  | _ => none }
def fnExactBornRow : OpenClaim := { program := "ytnemiodjnhfejaagreat", sum := "6d5e1a91becf517e0c015ba68826d8a95ab65cc6149f81e4c578a0636c107d20", func := "loop.example/g00462/laws.FnExactBorn", spec := "fnExactBorn", inPlace := ["slices.overlaps[loop.example/g00462/impl.Table]", "slices.overlaps[loop.example/g00462/impl.Rows]", "slices.overlaps[loop.example/g00462/impl.Row]"], unfollowed := true, recurses := true, apart := false }
def FnExactBornSaid : Prop := fnExactBornRow.holds Tryz.pinned (OpenSpec.ofChange fnExactBornSpec)

/-- ITS FALSE NEIGHBOUR: 'it returns false'. Refute it at one input. -/
def fnExactBornWrong : ChangeSpec := { name := "fnExactBorn", fn := fun _ => fun
  | [d1, d2, d3] => { results := [.lit (.bool false)], args := [d1, d2, d3] }
  | _ => none }
def FnExactBornWrongFalsely : Prop := fnExactBornRow.holds Tryz.pinned (OpenSpec.ofChange fnExactBornWrong)

/-- 'laws.FnExactWaiting': WHATEVER THE INPUT: true; the input reads as it did. -/
def fnExactWaitingSpec : ChangeSpec := { name := "fnExactWaiting", fn := fun _ => fun
  | [d1, d2] => { results := [.lit (.bool true)], args := [d1, d2] }
  | _ => none }
def fnExactWaitingRow : OpenClaim := { program := "ytnemiodjnhfejaagreat", sum := "6d5e1a91becf517e0c015ba68826d8a95ab65cc6149f81e4c578a0636c107d20", func := "loop.example/g00462/laws.FnExactWaiting", spec := "fnExactWaiting", inPlace := ["slices.overlaps[loop.example/g00462/impl.Table]", "slices.overlaps[loop.example/g00462/impl.Rows]", "slices.overlaps[loop.example/g00462/impl.Row]"], unfollowed := true, recurses := true, apart := false }
def FnExactWaitingSaid : Prop := fnExactWaitingRow.holds Tryz.pinned (OpenSpec.ofChange fnExactWaitingSpec)

/-- ITS FALSE NEIGHBOUR: 'it returns false'. Refute it at one input. -/
def fnExactWaitingWrong : ChangeSpec := { name := "fnExactWaiting", fn := fun _ => fun
  | [d1, d2] => { results := [.lit (.bool false)], args := [d1, d2] }
  | _ => none }
def FnExactWaitingWrongFalsely : Prop := fnExactWaitingRow.holds Tryz.pinned (OpenSpec.ofChange fnExactWaitingWrong)

/-- 'laws.FnExactRowWhen': WHATEVER THE INPUT: true; the input reads as it did. -/
def fnExactRowWhenSpec : ChangeSpec := { name := "fnExactRowWhen", fn := fun _ => fun
  | [d1, d2, d3, d4] => { results := [.lit (.bool true)], args := [d1, d2, d3, d4] }
  | _ => none }
def fnExactRowWhenRow : OpenClaim := { program := "ytnemiodjnhfejaagreat", sum := "6d5e1a91becf517e0c015ba68826d8a95ab65cc6149f81e4c578a0636c107d20", func := "loop.example/g00462/laws.FnExactRowWhen", spec := "fnExactRowWhen", inPlace := ["slices.overlaps[loop.example/g00462/impl.Table]", "slices.overlaps[loop.example/g00462/impl.Rows]", "slices.overlaps[loop.example/g00462/impl.Row]"], unfollowed := true, recurses := true, apart := false }
def FnExactRowWhenSaid : Prop := fnExactRowWhenRow.holds Tryz.pinned (OpenSpec.ofChange fnExactRowWhenSpec)

/-- ITS FALSE NEIGHBOUR: 'it returns false'. Refute it at one input. -/
def fnExactRowWhenWrong : ChangeSpec := { name := "fnExactRowWhen", fn := fun _ => fun
  | [d1, d2, d3, d4] => { results := [.lit (.bool false)], args := [d1, d2, d3, d4] }
  | _ => none }
def FnExactRowWhenWrongFalsely : Prop := fnExactRowWhenRow.holds Tryz.pinned (OpenSpec.ofChange fnExactRowWhenWrong)

/-- 'laws.FnExactLagText': WHATEVER THE INPUT: true; the input reads as it did. -/
def fnExactLagTextSpec : ChangeSpec := { name := "fnExactLagText", fn := fun _ => fun
  | [d1, d2] => { results := [.lit (.bool true)], args := [d1, d2] }
  | _ => none }
def fnExactLagTextRow : OpenClaim := { program := "ytnemiodjnhfejaagreat", sum := "6d5e1a91becf517e0c015ba68826d8a95ab65cc6149f81e4c578a0636c107d20", func := "loop.example/g00462/laws.FnExactLagText", spec := "fnExactLagText", inPlace := ["slices.overlaps[loop.example/g00462/impl.Table]", "slices.overlaps[loop.example/g00462/impl.Rows]", "slices.overlaps[loop.example/g00462/impl.Row]"], unfollowed := true, recurses := true, apart := false }
def FnExactLagTextSaid : Prop := fnExactLagTextRow.holds Tryz.pinned (OpenSpec.ofChange fnExactLagTextSpec)

/-- ITS FALSE NEIGHBOUR: 'it returns false'. Refute it at one input. -/
def fnExactLagTextWrong : ChangeSpec := { name := "fnExactLagText", fn := fun _ => fun
  | [d1, d2] => { results := [.lit (.bool false)], args := [d1, d2] }
  | _ => none }
def FnExactLagTextWrongFalsely : Prop := fnExactLagTextRow.holds Tryz.pinned (OpenSpec.ofChange fnExactLagTextWrong)

/-- 'laws.FnExactPast': WHATEVER THE INPUT: true; the input reads as it did. -/
def fnExactPastSpec : ChangeSpec := { name := "fnExactPast", fn := fun _ => fun
  | [d1, d2, d3] => { results := [.lit (.bool true)], args := [d1, d2, d3] }
  | _ => none }
def fnExactPastRow : OpenClaim := { program := "ytnemiodjnhfejaagreat", sum := "6d5e1a91becf517e0c015ba68826d8a95ab65cc6149f81e4c578a0636c107d20", func := "loop.example/g00462/laws.FnExactPast", spec := "fnExactPast", inPlace := ["slices.overlaps[loop.example/g00462/impl.Table]", "slices.overlaps[loop.example/g00462/impl.Rows]", "slices.overlaps[loop.example/g00462/impl.Row]"], unfollowed := true, recurses := true, apart := false }
def FnExactPastSaid : Prop := fnExactPastRow.holds Tryz.pinned (OpenSpec.ofChange fnExactPastSpec)

/-- ITS FALSE NEIGHBOUR: 'it returns false'. Refute it at one input. -/
def fnExactPastWrong : ChangeSpec := { name := "fnExactPast", fn := fun _ => fun
  | [d1, d2, d3] => { results := [.lit (.bool false)], args := [d1, d2, d3] }
  | _ => none }
def FnExactPastWrongFalsely : Prop := fnExactPastRow.holds Tryz.pinned (OpenSpec.ofChange fnExactPastWrong)

/-- 'laws.FnExactSquash': WHATEVER THE INPUT: true; the input reads as it did. -/
def fnExactSquashSpec : ChangeSpec := { name := "fnExactSquash", fn := fun _ => fun
  | [d1, d2] => { results := [.lit (.bool true)], args := [d1, d2] }
  | _ => none }
def fnExactSquashRow : OpenClaim := { program := "ytnemiodjnhfejaagreat", sum := "6d5e1a91becf517e0c015ba68826d8a95ab65cc6149f81e4c578a0636c107d20", func := "loop.example/g00462/laws.FnExactSquash", spec := "fnExactSquash", inPlace := ["slices.overlaps[loop.example/g00462/impl.Table]", "slices.overlaps[loop.example/g00462/impl.Rows]", "slices.overlaps[loop.example/g00462/impl.Row]"], unfollowed := true, recurses := true, apart := false }
def FnExactSquashSaid : Prop := fnExactSquashRow.holds Tryz.pinned (OpenSpec.ofChange fnExactSquashSpec)

/-- ITS FALSE NEIGHBOUR: 'it returns false'. Refute it at one input. -/
def fnExactSquashWrong : ChangeSpec := { name := "fnExactSquash", fn := fun _ => fun
  | [d1, d2] => { results := [.lit (.bool false)], args := [d1, d2] }
  | _ => none }
def FnExactSquashWrongFalsely : Prop := fnExactSquashRow.holds Tryz.pinned (OpenSpec.ofChange fnExactSquashWrong)

/-- 'laws.FnExactDoAct': WHATEVER THE INPUT: true; the input reads as it did. -/
def fnExactDoActSpec : ChangeSpec := { name := "fnExactDoAct", fn := fun _ => fun
  | [d1, d2] => { results := [.lit (.bool true)], args := [d1, d2] }
  | _ => none }
def fnExactDoActRow : OpenClaim := { program := "ytnemiodjnhfejaagreat", sum := "6d5e1a91becf517e0c015ba68826d8a95ab65cc6149f81e4c578a0636c107d20", func := "loop.example/g00462/laws.FnExactDoAct", spec := "fnExactDoAct", inPlace := ["slices.overlaps[loop.example/g00462/impl.Table]", "slices.overlaps[loop.example/g00462/impl.Rows]", "slices.overlaps[loop.example/g00462/impl.Row]"], unfollowed := true, recurses := true, apart := false }
def FnExactDoActSaid : Prop := fnExactDoActRow.holds Tryz.pinned (OpenSpec.ofChange fnExactDoActSpec)

/-- ITS FALSE NEIGHBOUR: 'it returns false'. Refute it at one input. -/
def fnExactDoActWrong : ChangeSpec := { name := "fnExactDoAct", fn := fun _ => fun
  | [d1, d2] => { results := [.lit (.bool false)], args := [d1, d2] }
  | _ => none }
def FnExactDoActWrongFalsely : Prop := fnExactDoActRow.holds Tryz.pinned (OpenSpec.ofChange fnExactDoActWrong)

/- THE SECOND FORM. 'bulk': how many values and letters a reading holds, each counted each time it is reached (what is shared counts as often as it is met; a slice's spare places count too). A statement '..UptoSaid' is the law's where the arguments, and the package variables that the reading takes, are together of bulk at most 1048576: NARROWER than '..Said'. Prove '..Said' where nothing that the law and all that it calls make is longer than what came in: it says more and counts as full. Else prove '..UptoSaid'. A law counts once. -/
mutual
def uptoBulk {H : Type} : DataW H → Nat
  | .lit (.string bytes) => bytes.length + 1
  | .lit _ => 1
  | .nil => 1
  | .ptr d => uptoBulk d + 1
  | .slice elems spare => uptoBulkAll elems + uptoBulkAll spare + 1
  | .agg parts => uptoBulkAll parts + 1
  | .iface _ d => uptoBulk d + 1
  | .map entries => uptoBulkEntries entries + 1
  | .held _ => 1
def uptoBulkAll {H : Type} : List (DataW H) → Nat
  | [] => 0
  | d :: r => uptoBulk d + uptoBulkAll r
def uptoBulkEntries {H : Type} : List (Lit × DataW H) → Nat
  | [] => 0
  | x :: r => uptoBulkEntry x + uptoBulkEntries r
def uptoBulkEntry {H : Type} : Lit × DataW H → Nat
  | (.string bytes, d) => bytes.length + uptoBulk d + 1
  | (_, d) => uptoBulk d + 1
 end
def uptoSmall : (H : Type) → List (DataW H) → Bool := fun _ ds => decide (uptoBulkAll ds ≤ 1048576)
def OpenSpec.upto (s : _root_.Go.ChangeSpec) : _root_.Go.OpenSpec := { _root_.Go.OpenSpec.ofChange s with cond := some uptoSmall }

/-- 'laws.FnExactPubParts', WHERE WHAT IT READS IS OF BULK AT MOST 1048576: true; the input reads as it did. -/
def fnExactPubPartsUptoRow : OpenClaim := { program := "ytnemiodjnhfejaagreat", sum := "6d5e1a91becf517e0c015ba68826d8a95ab65cc6149f81e4c578a0636c107d20", func := "loop.example/g00462/laws.FnExactPubParts", spec := "fnExactPubParts", unfollowed := true, recurses := true, apart := false, narrowed := true }
def FnExactPubPartsUptoSaid : Prop := fnExactPubPartsUptoRow.holds Tryz.pinned (OpenSpec.upto fnExactPubPartsSpec)

/-- 'laws.FnExactSpan', WHERE WHAT IT READS IS OF BULK AT MOST 1048576: true; the input reads as it did. -/
def fnExactSpanUptoRow : OpenClaim := { program := "ytnemiodjnhfejaagreat", sum := "6d5e1a91becf517e0c015ba68826d8a95ab65cc6149f81e4c578a0636c107d20", func := "loop.example/g00462/laws.FnExactSpan", spec := "fnExactSpan", inPlace := ["slices.overlaps[loop.example/g00462/impl.Table]", "slices.overlaps[loop.example/g00462/impl.Rows]", "slices.overlaps[loop.example/g00462/impl.Row]"], unfollowed := true, recurses := true, apart := false, narrowed := true }
def FnExactSpanUptoSaid : Prop := fnExactSpanUptoRow.holds Tryz.pinned (OpenSpec.upto fnExactSpanSpec)

/-- 'laws.FnExactMixed', WHERE WHAT IT READS IS OF BULK AT MOST 1048576: true; the input reads as it did. -/
def fnExactMixedUptoRow : OpenClaim := { program := "ytnemiodjnhfejaagreat", sum := "6d5e1a91becf517e0c015ba68826d8a95ab65cc6149f81e4c578a0636c107d20", func := "loop.example/g00462/laws.FnExactMixed", spec := "fnExactMixed", inPlace := ["slices.overlaps[loop.example/g00462/impl.Table]", "slices.overlaps[loop.example/g00462/impl.Rows]", "slices.overlaps[loop.example/g00462/impl.Row]"], unfollowed := true, recurses := true, apart := false, narrowed := true }
def FnExactMixedUptoSaid : Prop := fnExactMixedUptoRow.holds Tryz.pinned (OpenSpec.upto fnExactMixedSpec)

/-- 'laws.FnExactBehind', WHERE WHAT IT READS IS OF BULK AT MOST 1048576: true; the input reads as it did. -/
def fnExactBehindUptoRow : OpenClaim := { program := "ytnemiodjnhfejaagreat", sum := "6d5e1a91becf517e0c015ba68826d8a95ab65cc6149f81e4c578a0636c107d20", func := "loop.example/g00462/laws.FnExactBehind", spec := "fnExactBehind", inPlace := ["slices.overlaps[loop.example/g00462/impl.Table]", "slices.overlaps[loop.example/g00462/impl.Rows]", "slices.overlaps[loop.example/g00462/impl.Row]"], unfollowed := true, recurses := true, apart := false, narrowed := true }
def FnExactBehindUptoSaid : Prop := fnExactBehindUptoRow.holds Tryz.pinned (OpenSpec.upto fnExactBehindSpec)

/-- 'laws.FnExactNextAt', WHERE WHAT IT READS IS OF BULK AT MOST 1048576: true; the input reads as it did. -/
def fnExactNextAtUptoRow : OpenClaim := { program := "ytnemiodjnhfejaagreat", sum := "6d5e1a91becf517e0c015ba68826d8a95ab65cc6149f81e4c578a0636c107d20", func := "loop.example/g00462/laws.FnExactNextAt", spec := "fnExactNextAt", inPlace := ["slices.overlaps[loop.example/g00462/impl.Table]", "slices.overlaps[loop.example/g00462/impl.Rows]", "slices.overlaps[loop.example/g00462/impl.Row]"], unfollowed := true, recurses := true, apart := false, narrowed := true }
def FnExactNextAtUptoSaid : Prop := fnExactNextAtUptoRow.holds Tryz.pinned (OpenSpec.upto fnExactNextAtSpec)

/-- 'laws.FnExactBorn', WHERE WHAT IT READS IS OF BULK AT MOST 1048576: true; the input reads as it did. -/
def fnExactBornUptoRow : OpenClaim := { program := "ytnemiodjnhfejaagreat", sum := "6d5e1a91becf517e0c015ba68826d8a95ab65cc6149f81e4c578a0636c107d20", func := "loop.example/g00462/laws.FnExactBorn", spec := "fnExactBorn", inPlace := ["slices.overlaps[loop.example/g00462/impl.Table]", "slices.overlaps[loop.example/g00462/impl.Rows]", "slices.overlaps[loop.example/g00462/impl.Row]"], unfollowed := true, recurses := true, apart := false, narrowed := true }
def FnExactBornUptoSaid : Prop := fnExactBornUptoRow.holds Tryz.pinned (OpenSpec.upto fnExactBornSpec)

/-- 'laws.FnExactWaiting', WHERE WHAT IT READS IS OF BULK AT MOST 1048576: true; the input reads as it did. -/
def fnExactWaitingUptoRow : OpenClaim := { program := "ytnemiodjnhfejaagreat", sum := "6d5e1a91becf517e0c015ba68826d8a95ab65cc6149f81e4c578a0636c107d20", func := "loop.example/g00462/laws.FnExactWaiting", spec := "fnExactWaiting", inPlace := ["slices.overlaps[loop.example/g00462/impl.Table]", "slices.overlaps[loop.example/g00462/impl.Rows]", "slices.overlaps[loop.example/g00462/impl.Row]"], unfollowed := true, recurses := true, apart := false, narrowed := true }
def FnExactWaitingUptoSaid : Prop := fnExactWaitingUptoRow.holds Tryz.pinned (OpenSpec.upto fnExactWaitingSpec)

/-- 'laws.FnExactRowWhen', WHERE WHAT IT READS IS OF BULK AT MOST 1048576: true; the input reads as it did. -/
def fnExactRowWhenUptoRow : OpenClaim := { program := "ytnemiodjnhfejaagreat", sum := "6d5e1a91becf517e0c015ba68826d8a95ab65cc6149f81e4c578a0636c107d20", func := "loop.example/g00462/laws.FnExactRowWhen", spec := "fnExactRowWhen", inPlace := ["slices.overlaps[loop.example/g00462/impl.Table]", "slices.overlaps[loop.example/g00462/impl.Rows]", "slices.overlaps[loop.example/g00462/impl.Row]"], unfollowed := true, recurses := true, apart := false, narrowed := true }
def FnExactRowWhenUptoSaid : Prop := fnExactRowWhenUptoRow.holds Tryz.pinned (OpenSpec.upto fnExactRowWhenSpec)

/-- 'laws.FnExactLagText', WHERE WHAT IT READS IS OF BULK AT MOST 1048576: true; the input reads as it did. -/
def fnExactLagTextUptoRow : OpenClaim := { program := "ytnemiodjnhfejaagreat", sum := "6d5e1a91becf517e0c015ba68826d8a95ab65cc6149f81e4c578a0636c107d20", func := "loop.example/g00462/laws.FnExactLagText", spec := "fnExactLagText", inPlace := ["slices.overlaps[loop.example/g00462/impl.Table]", "slices.overlaps[loop.example/g00462/impl.Rows]", "slices.overlaps[loop.example/g00462/impl.Row]"], unfollowed := true, recurses := true, apart := false, narrowed := true }
def FnExactLagTextUptoSaid : Prop := fnExactLagTextUptoRow.holds Tryz.pinned (OpenSpec.upto fnExactLagTextSpec)

/-- 'laws.FnExactPast', WHERE WHAT IT READS IS OF BULK AT MOST 1048576: true; the input reads as it did. -/
def fnExactPastUptoRow : OpenClaim := { program := "ytnemiodjnhfejaagreat", sum := "6d5e1a91becf517e0c015ba68826d8a95ab65cc6149f81e4c578a0636c107d20", func := "loop.example/g00462/laws.FnExactPast", spec := "fnExactPast", inPlace := ["slices.overlaps[loop.example/g00462/impl.Table]", "slices.overlaps[loop.example/g00462/impl.Rows]", "slices.overlaps[loop.example/g00462/impl.Row]"], unfollowed := true, recurses := true, apart := false, narrowed := true }
def FnExactPastUptoSaid : Prop := fnExactPastUptoRow.holds Tryz.pinned (OpenSpec.upto fnExactPastSpec)

/-- 'laws.FnExactSquash', WHERE WHAT IT READS IS OF BULK AT MOST 1048576: true; the input reads as it did. -/
def fnExactSquashUptoRow : OpenClaim := { program := "ytnemiodjnhfejaagreat", sum := "6d5e1a91becf517e0c015ba68826d8a95ab65cc6149f81e4c578a0636c107d20", func := "loop.example/g00462/laws.FnExactSquash", spec := "fnExactSquash", inPlace := ["slices.overlaps[loop.example/g00462/impl.Table]", "slices.overlaps[loop.example/g00462/impl.Rows]", "slices.overlaps[loop.example/g00462/impl.Row]"], unfollowed := true, recurses := true, apart := false, narrowed := true }
def FnExactSquashUptoSaid : Prop := fnExactSquashUptoRow.holds Tryz.pinned (OpenSpec.upto fnExactSquashSpec)

/-- 'laws.FnExactDoAct', WHERE WHAT IT READS IS OF BULK AT MOST 1048576: true; the input reads as it did. -/
def fnExactDoActUptoRow : OpenClaim := { program := "ytnemiodjnhfejaagreat", sum := "6d5e1a91becf517e0c015ba68826d8a95ab65cc6149f81e4c578a0636c107d20", func := "loop.example/g00462/laws.FnExactDoAct", spec := "fnExactDoAct", inPlace := ["slices.overlaps[loop.example/g00462/impl.Table]", "slices.overlaps[loop.example/g00462/impl.Rows]", "slices.overlaps[loop.example/g00462/impl.Row]"], unfollowed := true, recurses := true, apart := false, narrowed := true }
def FnExactDoActUptoSaid : Prop := fnExactDoActUptoRow.holds Tryz.pinned (OpenSpec.upto fnExactDoActSpec)

end Rows
end Go.Proofs.YtnemiodjnhfejaaGreat
