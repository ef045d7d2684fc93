/-
  No cell of these rows narrows 'for every input' (looked for: loops, veiled, ifaces, maps, wideKeys, modest, calm, conditions, laid).
  DERIVED. THE GIVEN ROWS OF THIS SEAT. 19 by the template 'for every input the law returns true; each argument reads behind the call as it read before'; 0 by the template 'total and deterministic' (their statements: YtoghbjbfldlfpaaTotals.lean).
  GIVEN WITH THE SEED: the statements are not yours to turn. If you find one false, say at which input.
  Laid BY PROGRAM, IN A SANDBOX (cutbox-rows.mjs): the forced cells as the released guide's own fill.sh prints them over the translation f5a1add161efa47b… (all of the seat's roots in one cut). By AI agents, Wed Nov 11 2026. No macro, syntax, notation, axiom, sorry.
-/
import Derived.Test.YtoghbjbfldlfpaaChecked
import GoSem.Claim
import GoSem.ClaimJoined
import GoSem.ClaimMapViews
import Derived.JoinedTies
import Derived.KernelRfl
namespace Go.Proofs.Ytoghbjbfldlfpaa
/- THE CELL 'sum', in the pinned program and in every row, IS THE sha256 OF THE DUMP (.gsa) THAT YtoghbjbfldlfpaaProg.lean LOADS. Nothing in Lean hashes anything: it is a label: what it is worth is what the hold of that sum in a sandbox is worth. -/
noncomputable def Try.pinned : Pinned := { name := "ytoghbjbfldlfpaa", sum := "f5a1add161efa47bde1f40f6fdff026a651bcfe6d1a1245666450619f3cc9004", checked := Try.checked }
namespace Rows
def none {H : Type} : Left H := { results := [], args := [] }

/-- 'laws.FnExactLetterWord': WHATEVER THE INPUT: true; the input reads as it did. -/
def fnExactLetterWordSpec : ChangeSpec := { name := "fnExactLetterWord", fn := fun _ => fun
  | [d] => { results := [.lit (.bool true)], args := [d] }
  | _ => none }
def fnExactLetterWordRow : OpenClaim := { program := "ytoghbjbfldlfpaa", sum := "f5a1add161efa47bde1f40f6fdff026a651bcfe6d1a1245666450619f3cc9004", func := "loop.example/g00967/laws.FnExactLetterWord", spec := "fnExactLetterWord", apart := false }
def FnExactLetterWordSaid : Prop := fnExactLetterWordRow.holds Try.pinned (OpenSpec.ofChange fnExactLetterWordSpec)

/-- ITS FALSE NEIGHBOUR: 'it returns false'. Refute it at one input. -/
def fnExactLetterWordWrong : ChangeSpec := { name := "fnExactLetterWord", fn := fun _ => fun
  | [d] => { results := [.lit (.bool false)], args := [d] }
  | _ => none }
def FnExactLetterWordWrongFalsely : Prop := fnExactLetterWordRow.holds Try.pinned (OpenSpec.ofChange fnExactLetterWordWrong)

/-- 'laws.FnExactReadPolicy': WHATEVER THE INPUT: true; the input reads as it did. -/
def fnExactReadPolicySpec : ChangeSpec := { name := "fnExactReadPolicy", fn := fun _ => fun
  | [d] => { results := [.lit (.bool true)], args := [d] }
  | _ => none }
def fnExactReadPolicyRow : OpenClaim := { program := "ytoghbjbfldlfpaa", sum := "f5a1add161efa47bde1f40f6fdff026a651bcfe6d1a1245666450619f3cc9004", func := "loop.example/g00967/laws.FnExactReadPolicy", spec := "fnExactReadPolicy", apart := false }
def FnExactReadPolicySaid : Prop := fnExactReadPolicyRow.holds Try.pinned (OpenSpec.ofChange fnExactReadPolicySpec)

/-- ITS FALSE NEIGHBOUR: 'it returns false'. Refute it at one input. -/
def fnExactReadPolicyWrong : ChangeSpec := { name := "fnExactReadPolicy", fn := fun _ => fun
  | [d] => { results := [.lit (.bool false)], args := [d] }
  | _ => none }
def FnExactReadPolicyWrongFalsely : Prop := fnExactReadPolicyRow.holds Try.pinned (OpenSpec.ofChange fnExactReadPolicyWrong)

/-- 'laws.FnExactReadLetterWord': WHATEVER THE INPUT: true; the input reads as it did. -/
def fnExactReadLetterWordSpec : ChangeSpec := { name := "fnExactReadLetterWord", fn := fun _ => fun
  | [d] => { results := [.lit (.bool true)], args := [d] }
  | _ => none }
def fnExactReadLetterWordRow : OpenClaim := { program := "ytoghbjbfldlfpaa", sum := "f5a1add161efa47bde1f40f6fdff026a651bcfe6d1a1245666450619f3cc9004", func := "loop.example/g00967/laws.FnExactReadLetterWord", spec := "fnExactReadLetterWord", apart := false }
def FnExactReadLetterWordSaid : Prop := fnExactReadLetterWordRow.holds Try.pinned (OpenSpec.ofChange fnExactReadLetterWordSpec)

/-- ITS FALSE NEIGHBOUR: 'it returns false'. Refute it at one input. -/
def fnExactReadLetterWordWrong : ChangeSpec := { name := "fnExactReadLetterWord", fn := fun _ => fun
  | [d] => { results := [.lit (.bool false)], args := [d] }
  | _ => none }
def FnExactReadLetterWordWrongFalsely : Prop := fnExactReadLetterWordRow.holds Try.pinned (OpenSpec.ofChange fnExactReadLetterWordWrong)

/-- 'laws.FnExactFresh': WHATEVER THE INPUT: true; the input reads as it did. -/
def fnExactFreshSpec : ChangeSpec := { name := "fnExactFresh", fn := fun _ => fun
  | [d] => { results := [.lit (.bool true)], args := [d] }
  | _ => none }
def fnExactFreshRow : OpenClaim := { program := "ytoghbjbfldlfpaa", sum := "f5a1add161efa47bde1f40f6fdff026a651bcfe6d1a1245666450619f3cc9004", func := "loop.example/g00967/laws.FnExactFresh", spec := "fnExactFresh", apart := false }
def FnExactFreshSaid : Prop := fnExactFreshRow.holds Try.pinned (OpenSpec.ofChange fnExactFreshSpec)

/-- ITS FALSE NEIGHBOUR: 'it returns false'. Refute it at one input. -/
def fnExactFreshWrong : ChangeSpec := { name := "fnExactFresh", fn := fun _ => fun
  | [d] => { results := [.lit (.bool false)], args := [d] }
  | _ => none }
def FnExactFreshWrongFalsely : Prop := fnExactFreshRow.holds Try.pinned (OpenSpec.ofChange fnExactFreshWrong)

/-- 'laws.FnExactRoadsOwn': WHATEVER THE INPUT: true; the input reads as it did. -/
def fnExactRoadsOwnSpec : ChangeSpec := { name := "fnExactRoadsOwn", fn := fun _ => fun
  | [d] => { results := [.lit (.bool true)], args := [d] }
  | _ => none }
def fnExactRoadsOwnRow : OpenClaim := { program := "ytoghbjbfldlfpaa", sum := "f5a1add161efa47bde1f40f6fdff026a651bcfe6d1a1245666450619f3cc9004", func := "loop.example/g00967/laws.FnExactRoadsOwn", spec := "fnExactRoadsOwn", apart := false }
def FnExactRoadsOwnSaid : Prop := fnExactRoadsOwnRow.holds Try.pinned (OpenSpec.ofChange fnExactRoadsOwnSpec)

/-- ITS FALSE NEIGHBOUR: 'it returns false'. Refute it at one input. -/
def fnExactRoadsOwnWrong : ChangeSpec := { name := "fnExactRoadsOwn", fn := fun _ => fun
  | [d] => { results := [.lit (.bool false)], args := [d] }
  | _ => none }
def FnExactRoadsOwnWrongFalsely : Prop := fnExactRoadsOwnRow.holds Try.pinned (OpenSpec.ofChange fnExactRoadsOwnWrong)

/-- 'laws.FnExactPaired': WHATEVER THE INPUT: true; the input reads as it did. -/
def fnExactPairedSpec : ChangeSpec := { name := "fnExactPaired", fn := fun _ => fun
  | [d1, d2] => { results := [.lit (.bool true)], args := [d1, d2] }
  | _ => none }
def fnExactPairedRow : OpenClaim := { program := "ytoghbjbfldlfpaa", sum := "f5a1add161efa47bde1f40f6fdff026a651bcfe6d1a1245666450619f3cc9004", func := "loop.example/g00967/laws.FnExactPaired", spec := "fnExactPaired", apart := false }
def FnExactPairedSaid : Prop := fnExactPairedRow.holds Try.pinned (OpenSpec.ofChange fnExactPairedSpec)

/-- ITS FALSE NEIGHBOUR: 'it returns false'. Refute it at one input. -/
def fnExactPairedWrong : ChangeSpec := { name := "fnExactPaired", fn := fun _ => fun
  | [d1, d2] => { results := [.lit (.bool false)], args := [d1, d2] }
  | _ => none }
def FnExactPairedWrongFalsely : Prop := fnExactPairedRow.holds Try.pinned (OpenSpec.ofChange fnExactPairedWrong)

/-- 'laws.FnExactEvenIn': WHATEVER THE INPUT: true; the input reads as it did. -/
def fnExactEvenInSpec : ChangeSpec := { name := "fnExactEvenIn", fn := fun _ => fun
  | [d1, d2] => { results := [.lit (.bool true)], args := [d1, d2] }
  | _ => none }
def fnExactEvenInRow : OpenClaim := { program := "ytoghbjbfldlfpaa", sum := "f5a1add161efa47bde1f40f6fdff026a651bcfe6d1a1245666450619f3cc9004", func := "loop.example/g00967/laws.FnExactEvenIn", spec := "fnExactEvenIn", apart := false }
def FnExactEvenInSaid : Prop := fnExactEvenInRow.holds Try.pinned (OpenSpec.ofChange fnExactEvenInSpec)

/-- ITS FALSE NEIGHBOUR: 'it returns false'. Refute it at one input. -/
def fnExactEvenInWrong : ChangeSpec := { name := "fnExactEvenIn", fn := fun _ => fun
  | [d1, d2] => { results := [.lit (.bool false)], args := [d1, d2] }
  | _ => none }
def FnExactEvenInWrongFalsely : Prop := fnExactEvenInRow.holds Try.pinned (OpenSpec.ofChange fnExactEvenInWrong)

/-- 'laws.FnExactRoadsOn': WHATEVER THE INPUT: true; the input reads as it did. -/
def fnExactRoadsOnSpec : ChangeSpec := { name := "fnExactRoadsOn", fn := fun _ => fun
  | [d] => { results := [.lit (.bool true)], args := [d] }
  | _ => none }
def fnExactRoadsOnRow : OpenClaim := { program := "ytoghbjbfldlfpaa", sum := "f5a1add161efa47bde1f40f6fdff026a651bcfe6d1a1245666450619f3cc9004", func := "loop.example/g00967/laws.FnExactRoadsOn", spec := "fnExactRoadsOn", apart := false }
def FnExactRoadsOnSaid : Prop := fnExactRoadsOnRow.holds Try.pinned (OpenSpec.ofChange fnExactRoadsOnSpec)

/-- ITS FALSE NEIGHBOUR: 'it returns false'. Refute it at one input. -/
def fnExactRoadsOnWrong : ChangeSpec := { name := "fnExactRoadsOn", fn := fun _ => fun
  | [d] => { results := [.lit (.bool false)], args := [d] }
  | _ => none }
def FnExactRoadsOnWrongFalsely : Prop := fnExactRoadsOnRow.holds Try.pinned (OpenSpec.ofChange fnExactRoadsOnWrong)

/-- 'laws.FnExactEndLines': WHATEVER THE INPUT: true; the input reads as it did. -/
def fnExactEndLinesSpec : ChangeSpec := { name := "fnExactEndLines", fn := fun _ => fun
  | [d] => { results := [.lit (.bool true)], args := [d] }
  | _ => none }
def fnExactEndLinesRow : OpenClaim := { program := "ytoghbjbfldlfpaa", sum := "f5a1add161efa47bde1f40f6fdff026a651bcfe6d1a1245666450619f3cc9004", func := "loop.example/g00967/laws.FnExactEndLines", spec := "fnExactEndLines", apart := false }
def FnExactEndLinesSaid : Prop := fnExactEndLinesRow.holds Try.pinned (OpenSpec.ofChange fnExactEndLinesSpec)

/-- ITS FALSE NEIGHBOUR: 'it returns false'. Refute it at one input. -/
def fnExactEndLinesWrong : ChangeSpec := { name := "fnExactEndLines", fn := fun _ => fun
  | [d] => { results := [.lit (.bool false)], args := [d] }
  | _ => none }
def FnExactEndLinesWrongFalsely : Prop := fnExactEndLinesRow.holds Try.pinned (OpenSpec.ofChange fnExactEndLinesWrong)

/-- 'laws.FnExactAllRead': WHATEVER THE INPUT: true; the input reads as it did. -/
def fnExactAllReadSpec : ChangeSpec := { name := "fnExactAllRead", fn := fun _ => fun
  | [d] => { results := [.lit (.bool true)], args := [d] }
  | _ => none }
def fnExactAllReadRow : OpenClaim := { program := "ytoghbjbfldlfpaa", sum := "f5a1add161efa47bde1f40f6fdff026a651bcfe6d1a1245666450619f3cc9004", func := "loop.example/g00967/laws.FnExactAllRead", spec := "fnExactAllRead", apart := false }
def FnExactAllReadSaid : Prop := fnExactAllReadRow.holds Try.pinned (OpenSpec.ofChange fnExactAllReadSpec)

/-- ITS FALSE NEIGHBOUR: 'it returns false'. Refute it at one input. -/
def fnExactAllReadWrong : ChangeSpec := { name := "fnExactAllRead", fn := fun _ => fun
  | [d] => { results := [.lit (.bool false)], args := [d] }
  | _ => none }
def FnExactAllReadWrongFalsely : Prop := fnExactAllReadRow.holds Try.pinned (OpenSpec.ofChange fnExactAllReadWrong)

/-- 'laws.FnExactStreamsOk': WHATEVER THE INPUT: true; the input reads as it did. -/
def fnExactStreamsOkSpec : ChangeSpec := { name := "fnExactStreamsOk", fn := fun _ => fun
  | [d] => { results := [.lit (.bool true)], args := [d] }
  | _ => none }
def fnExactStreamsOkRow : OpenClaim := { program := "ytoghbjbfldlfpaa", sum := "f5a1add161efa47bde1f40f6fdff026a651bcfe6d1a1245666450619f3cc9004", func := "loop.example/g00967/laws.FnExactStreamsOk", spec := "fnExactStreamsOk", apart := false }
def FnExactStreamsOkSaid : Prop := fnExactStreamsOkRow.holds Try.pinned (OpenSpec.ofChange fnExactStreamsOkSpec)

/-- ITS FALSE NEIGHBOUR: 'it returns false'. Refute it at one input. -/
def fnExactStreamsOkWrong : ChangeSpec := { name := "fnExactStreamsOk", fn := fun _ => fun
  | [d] => { results := [.lit (.bool false)], args := [d] }
  | _ => none }
def FnExactStreamsOkWrongFalsely : Prop := fnExactStreamsOkRow.holds Try.pinned (OpenSpec.ofChange fnExactStreamsOkWrong)

/-- 'laws.FnExactJoinable': WHATEVER THE INPUT: true; the input reads as it did. -/
def fnExactJoinableSpec : ChangeSpec := { name := "fnExactJoinable", fn := fun _ => fun
  | [d] => { results := [.lit (.bool true)], args := [d] }
  | _ => none }
def fnExactJoinableRow : OpenClaim := { program := "ytoghbjbfldlfpaa", sum := "f5a1add161efa47bde1f40f6fdff026a651bcfe6d1a1245666450619f3cc9004", func := "loop.example/g00967/laws.FnExactJoinable", spec := "fnExactJoinable", apart := false }
def FnExactJoinableSaid : Prop := fnExactJoinableRow.holds Try.pinned (OpenSpec.ofChange fnExactJoinableSpec)

/-- ITS FALSE NEIGHBOUR: 'it returns false'. Refute it at one input. -/
def fnExactJoinableWrong : ChangeSpec := { name := "fnExactJoinable", fn := fun _ => fun
  | [d] => { results := [.lit (.bool false)], args := [d] }
  | _ => none }
def FnExactJoinableWrongFalsely : Prop := fnExactJoinableRow.holds Try.pinned (OpenSpec.ofChange fnExactJoinableWrong)

/-- 'laws.FnExactFarOk': WHATEVER THE INPUT: true; the input reads as it did. -/
def fnExactFarOkSpec : ChangeSpec := { name := "fnExactFarOk", fn := fun _ => fun
  | [d] => { results := [.lit (.bool true)], args := [d] }
  | _ => none }
def fnExactFarOkRow : OpenClaim := { program := "ytoghbjbfldlfpaa", sum := "f5a1add161efa47bde1f40f6fdff026a651bcfe6d1a1245666450619f3cc9004", func := "loop.example/g00967/laws.FnExactFarOk", spec := "fnExactFarOk", apart := false }
def FnExactFarOkSaid : Prop := fnExactFarOkRow.holds Try.pinned (OpenSpec.ofChange fnExactFarOkSpec)

/-- ITS FALSE NEIGHBOUR: 'it returns false'. Refute it at one input. -/
def fnExactFarOkWrong : ChangeSpec := { name := "fnExactFarOk", fn := fun _ => fun
  | [d] => { results := [.lit (.bool false)], args := [d] }
  | _ => none }
def FnExactFarOkWrongFalsely : Prop := fnExactFarOkRow.holds Try.pinned (OpenSpec.ofChange fnExactFarOkWrong)

/-- 'laws.FnExactGatedWorld': WHATEVER THE INPUT: true; the input reads as it did. -/
def fnExactGatedWorldSpec : ChangeSpec := { name := "fnExactGatedWorld", fn := fun _ => fun
  | [d] => { results := [.lit (.bool true)], args := [d] }
  | _ => none }
def fnExactGatedWorldRow : OpenClaim := { program := "ytoghbjbfldlfpaa", sum := "f5a1add161efa47bde1f40f6fdff026a651bcfe6d1a1245666450619f3cc9004", func := "loop.example/g00967/laws.FnExactGatedWorld", spec := "fnExactGatedWorld", apart := false }
def FnExactGatedWorldSaid : Prop := fnExactGatedWorldRow.holds Try.pinned (OpenSpec.ofChange fnExactGatedWorldSpec)

/-- ITS FALSE NEIGHBOUR: 'it returns false'. Refute it at one input. -/
def fnExactGatedWorldWrong : ChangeSpec := { name := "fnExactGatedWorld", fn := fun _ => fun
  | [d] => { results := [.lit (.bool false)], args := [d] }
  | _ => none }
def FnExactGatedWorldWrongFalsely : Prop := fnExactGatedWorldRow.holds Try.pinned (OpenSpec.ofChange fnExactGatedWorldWrong)

/-- 'laws.FnExactAllWanted': WHATEVER THE INPUT: true; the input reads as it did. -/
def fnExactAllWantedSpec : ChangeSpec := { name := "fnExactAllWanted", fn := fun _ => fun
  | [d] => { results := [.lit (.bool true)], args := [d] }
  | _ => none }
def fnExactAllWantedRow : OpenClaim := { program := "ytoghbjbfldlfpaa", sum := "f5a1add161efa47bde1f40f6fdff026a651bcfe6d1a1245666450619f3cc9004", func := "loop.example/g00967/laws.FnExactAllWanted", spec := "fnExactAllWanted", apart := false }
def FnExactAllWantedSaid : Prop := fnExactAllWantedRow.holds Try.pinned (OpenSpec.ofChange fnExactAllWantedSpec)

/-- ITS FALSE NEIGHBOUR: 'it returns false'. Refute it at one input. -/
def fnExactAllWantedWrong : ChangeSpec := { name := "fnExactAllWanted", fn := fun _ => fun
  | [d] => { results := [.lit (.bool false)], args := [d] }
  | _ => none }
def FnExactAllWantedWrongFalsely : Prop := fnExactAllWantedRow.holds Try.pinned (OpenSpec.ofChange fnExactAllWantedWrong)

/-- 'laws.FnExactTurns': WHATEVER THE INPUT: true; the input reads as it did. -/
def fnExactTurnsSpec : ChangeSpec := { name := "fnExactTurns", fn := fun _ => fun
  | [d1, d2] => { results := [.lit (.bool true)], args := [d1, d2] }
  | _ => none }
def fnExactTurnsRow : OpenClaim := { program := "ytoghbjbfldlfpaa", sum := "f5a1add161efa47bde1f40f6fdff026a651bcfe6d1a1245666450619f3cc9004", func := "loop.example/g00967/laws.FnExactTurns", spec := "fnExactTurns", apart := false }
def FnExactTurnsSaid : Prop := fnExactTurnsRow.holds Try.pinned (OpenSpec.ofChange fnExactTurnsSpec)

/-- ITS FALSE NEIGHBOUR: 'it returns false'. Refute it at one input. -/
def fnExactTurnsWrong : ChangeSpec := { name := "fnExactTurns", fn := fun _ => fun
  | [d1, d2] => { results := [.lit (.bool false)], args := [d1, d2] }
  | _ => none }
def FnExactTurnsWrongFalsely : Prop := fnExactTurnsRow.holds Try.pinned (OpenSpec.ofChange fnExactTurnsWrong)

/-- 'laws.FnExactWaiting': WHATEVER THE INPUT: true; the input reads as it did. -/
def fnExactWaitingSpec : ChangeSpec := { name := "fnExactWaiting", fn := fun _ => fun
  | [d] => { results := [.lit (.bool true)], args := [d] }
  | _ => none }
def fnExactWaitingRow : OpenClaim := { program := "ytoghbjbfldlfpaa", sum := "f5a1add161efa47bde1f40f6fdff026a651bcfe6d1a1245666450619f3cc9004", func := "loop.example/g00967/laws.FnExactWaiting", spec := "fnExactWaiting", apart := false }
def FnExactWaitingSaid : Prop := fnExactWaitingRow.holds Try.pinned (OpenSpec.ofChange fnExactWaitingSpec)

/-- ITS FALSE NEIGHBOUR: 'it returns false'. Refute it at one input. -/
def fnExactWaitingWrong : ChangeSpec := { name := "fnExactWaiting", fn := fun _ => fun
  | [d] => { results := [.lit (.bool false)], args := [d] }
  | _ => none }
def FnExactWaitingWrongFalsely : Prop := fnExactWaitingRow.holds Try.pinned (OpenSpec.ofChange fnExactWaitingWrong)

/-- 'laws.FnExactCarriedBy': WHATEVER THE INPUT: true; the input reads as it did. -/
def fnExactCarriedBySpec : ChangeSpec := { name := "fnExactCarriedBy", fn := fun _ => fun
  | [d1, d2] => { results := [.lit (.bool true)], args := [d1, d2] }
  | _ => none }
def fnExactCarriedByRow : OpenClaim := { program := "ytoghbjbfldlfpaa", sum := "f5a1add161efa47bde1f40f6fdff026a651bcfe6d1a1245666450619f3cc9004", func := "loop.example/g00967/laws.FnExactCarriedBy", spec := "fnExactCarriedBy", apart := false }
def FnExactCarriedBySaid : Prop := fnExactCarriedByRow.holds Try.pinned (OpenSpec.ofChange fnExactCarriedBySpec)

/-- ITS FALSE NEIGHBOUR: 'it returns false'. Refute it at one input. -/
def fnExactCarriedByWrong : ChangeSpec := { name := "fnExactCarriedBy", fn := fun _ => fun
  | [d1, d2] => { results := [.lit (.bool false)], args := [d1, d2] }
  | _ => none }
def FnExactCarriedByWrongFalsely : Prop := fnExactCarriedByRow.holds Try.pinned (OpenSpec.ofChange fnExactCarriedByWrong)

/-- 'laws.FnExactWorldLines': WHATEVER THE INPUT: true; the input reads as it did. -/
def fnExactWorldLinesSpec : ChangeSpec := { name := "fnExactWorldLines", fn := fun _ => fun
  | [d] => { results := [.lit (.bool true)], args := [d] }
  | _ => none }
def fnExactWorldLinesRow : OpenClaim := { program := "ytoghbjbfldlfpaa", sum := "f5a1add161efa47bde1f40f6fdff026a651bcfe6d1a1245666450619f3cc9004", func := "loop.example/g00967/laws.FnExactWorldLines", spec := "fnExactWorldLines", apart := false }
def FnExactWorldLinesSaid : Prop := fnExactWorldLinesRow.holds Try.pinned (OpenSpec.ofChange fnExactWorldLinesSpec)

/-- ITS FALSE NEIGHBOUR: 'it returns false'. Refute it at one input. -/
def fnExactWorldLinesWrong : ChangeSpec := { name := "fnExactWorldLines", fn := fun _ => fun
  | [d] => { results := [.lit (.bool false)], args := [d] }
  | _ => none }
def FnExactWorldLinesWrongFalsely : Prop := fnExactWorldLinesRow.holds Try.pinned (OpenSpec.ofChange fnExactWorldLinesWrong)

/- THE SECOND FORM. 'bulk': how many values and letters a reading holds, each counted each time it is reached (what is shared counts as often as it is met; a slice's spare places count too). A statement '..UptoSaid' is the law's where the arguments, and the package variables that the reading takes, are together of bulk at most 1048576: NARROWER than '..Said'. Prove '..Said' where nothing that the law and all that it calls make is longer than what came in: it says more and counts as full. Else prove '..UptoSaid'. A law counts once. -/
mutual
def uptoBulk {H : Type} : DataW H → Nat
  | .lit (.string bytes) => bytes.length + 1
  | .lit _ => 1
  | .nil => 1
  | .ptr d => uptoBulk d + 1
  | .slice elems spare => uptoBulkAll elems + uptoBulkAll spare + 1
  | .agg parts => uptoBulkAll parts + 1
  | .iface _ d => uptoBulk d + 1
  | .map entries => uptoBulkEntries entries + 1
  | .held _ => 1
def uptoBulkAll {H : Type} : List (DataW H) → Nat
  | [] => 0
  | d :: r => uptoBulk d + uptoBulkAll r
def uptoBulkEntries {H : Type} : List (Lit × DataW H) → Nat
  | [] => 0
  | x :: r => uptoBulkEntry x + uptoBulkEntries r
def uptoBulkEntry {H : Type} : Lit × DataW H → Nat
  | (.string bytes, d) => bytes.length + uptoBulk d + 1
  | (_, d) => uptoBulk d + 1
 end
def uptoSmall : (H : Type) → List (DataW H) → Bool := fun _ ds => decide (uptoBulkAll ds ≤ 1048576)
def OpenSpec.upto (s : _root_.Go.ChangeSpec) : _root_.Go.OpenSpec := { _root_.Go.OpenSpec.ofChange s with cond := some uptoSmall }

/-- 'laws.FnExactLetterWord', WHERE WHAT IT READS IS OF BULK AT MOST 1048576: true; the input reads as it did. -/
def fnExactLetterWordUptoRow : OpenClaim := { program := "ytoghbjbfldlfpaa", sum := "f5a1add161efa47bde1f40f6fdff026a651bcfe6d1a1245666450619f3cc9004", func := "loop.example/g00967/laws.FnExactLetterWord", spec := "fnExactLetterWord", apart := false, narrowed := true }
def FnExactLetterWordUptoSaid : Prop := fnExactLetterWordUptoRow.holds Try.pinned (OpenSpec.upto fnExactLetterWordSpec)

/-- 'laws.FnExactReadPolicy', WHERE WHAT IT READS IS OF BULK AT MOST 1048576: true; the input reads as it did. -/
def fnExactReadPolicyUptoRow : OpenClaim := { program := "ytoghbjbfldlfpaa", sum := "f5a1add161efa47bde1f40f6fdff026a651bcfe6d1a1245666450619f3cc9004", func := "loop.example/g00967/laws.FnExactReadPolicy", spec := "fnExactReadPolicy", apart := false, narrowed := true }
def FnExactReadPolicyUptoSaid : Prop := fnExactReadPolicyUptoRow.holds Try.pinned (OpenSpec.upto fnExactReadPolicySpec)

/-- 'laws.FnExactReadLetterWord', WHERE WHAT IT READS IS OF BULK AT MOST 1048576: true; the input reads as it did. -/
def fnExactReadLetterWordUptoRow : OpenClaim := { program := "ytoghbjbfldlfpaa", sum := "f5a1add161efa47bde1f40f6fdff026a651bcfe6d1a1245666450619f3cc9004", func := "loop.example/g00967/laws.FnExactReadLetterWord", spec := "fnExactReadLetterWord", apart := false, narrowed := true }
def FnExactReadLetterWordUptoSaid : Prop := fnExactReadLetterWordUptoRow.holds Try.pinned (OpenSpec.upto fnExactReadLetterWordSpec)

/-- 'laws.FnExactFresh', WHERE WHAT IT READS IS OF BULK AT MOST 1048576: true; the input reads as it did. -/
def fnExactFreshUptoRow : OpenClaim := { program := "ytoghbjbfldlfpaa", sum := "f5a1add161efa47bde1f40f6fdff026a651bcfe6d1a1245666450619f3cc9004", func := "loop.example/g00967/laws.FnExactFresh", spec := "fnExactFresh", apart := false, narrowed := true }
def FnExactFreshUptoSaid : Prop := fnExactFreshUptoRow.holds Try.pinned (OpenSpec.upto fnExactFreshSpec)

/-- 'laws.FnExactRoadsOwn', WHERE WHAT IT READS IS OF BULK AT MOST 1048576: true; the input reads as it did. -/
def fnExactRoadsOwnUptoRow : OpenClaim := { program := "ytoghbjbfldlfpaa", sum := "f5a1add161efa47bde1f40f6fdff026a651bcfe6d1a1245666450619f3cc9004", func := "loop.example/g00967/laws.FnExactRoadsOwn", spec := "fnExactRoadsOwn", apart := false, narrowed := true }
def FnExactRoadsOwnUptoSaid : Prop := fnExactRoadsOwnUptoRow.holds Try.pinned (OpenSpec.upto fnExactRoadsOwnSpec)

/-- 'laws.FnExactPaired', WHERE WHAT IT READS IS OF BULK AT MOST 1048576: true; the input reads as it did. -/
def fnExactPairedUptoRow : OpenClaim := { program := "ytoghbjbfldlfpaa", sum := "f5a1add161efa47bde1f40f6fdff026a651bcfe6d1a1245666450619f3cc9004", func := "loop.example/g00967/laws.FnExactPaired", spec := "fnExactPaired", apart := false, narrowed := true }
def FnExactPairedUptoSaid : Prop := fnExactPairedUptoRow.holds Try.pinned (OpenSpec.upto fnExactPairedSpec)

/-- 'laws.FnExactEvenIn', WHERE WHAT IT READS IS OF BULK AT MOST 1048576: true; the input reads as it did. -/
def fnExactEvenInUptoRow : OpenClaim := { program := "ytoghbjbfldlfpaa", sum := "f5a1add161efa47bde1f40f6fdff026a651bcfe6d1a1245666450619f3cc9004", func := "loop.example/g00967/laws.FnExactEvenIn", spec := "fnExactEvenIn", apart := false, narrowed := true }
def FnExactEvenInUptoSaid : Prop := fnExactEvenInUptoRow.holds Try.pinned (OpenSpec.upto fnExactEvenInSpec)

/-- 'laws.FnExactRoadsOn', WHERE WHAT IT READS IS OF BULK AT MOST 1048576: true; the input reads as it did. -/
def fnExactRoadsOnUptoRow : OpenClaim := { program := "ytoghbjbfldlfpaa", sum := "f5a1add161efa47bde1f40f6fdff026a651bcfe6d1a1245666450619f3cc9004", func := "loop.example/g00967/laws.FnExactRoadsOn", spec := "fnExactRoadsOn", apart := false, narrowed := true }
def FnExactRoadsOnUptoSaid : Prop := fnExactRoadsOnUptoRow.holds Try.pinned (OpenSpec.upto fnExactRoadsOnSpec)

/-- 'laws.FnExactEndLines', WHERE WHAT IT READS IS OF BULK AT MOST 1048576: true; the input reads as it did. -/
def fnExactEndLinesUptoRow : OpenClaim := { program := "ytoghbjbfldlfpaa", sum := "f5a1add161efa47bde1f40f6fdff026a651bcfe6d1a1245666450619f3cc9004", func := "loop.example/g00967/laws.FnExactEndLines", spec := "fnExactEndLines", apart := false, narrowed := true }
def FnExactEndLinesUptoSaid : Prop := fnExactEndLinesUptoRow.holds Try.pinned (OpenSpec.upto fnExactEndLinesSpec)

/-- 'laws.FnExactAllRead', WHERE WHAT IT READS IS OF BULK AT MOST 1048576: true; the input reads as it did. -/
def fnExactAllReadUptoRow : OpenClaim := { program := "ytoghbjbfldlfpaa", sum := "f5a1add161efa47bde1f40f6fdff026a651bcfe6d1a1245666450619f3cc9004", func := "loop.example/g00967/laws.FnExactAllRead", spec := "fnExactAllRead", apart := false, narrowed := true }
def FnExactAllReadUptoSaid : Prop := fnExactAllReadUptoRow.holds Try.pinned (OpenSpec.upto fnExactAllReadSpec)

/-- 'laws.FnExactStreamsOk', WHERE WHAT IT READS IS OF BULK AT MOST 1048576: true; the input reads as it did. -/
def fnExactStreamsOkUptoRow : OpenClaim := { program := "ytoghbjbfldlfpaa", sum := "f5a1add161efa47bde1f40f6fdff026a651bcfe6d1a1245666450619f3cc9004", func := "loop.example/g00967/laws.FnExactStreamsOk", spec := "fnExactStreamsOk", apart := false, narrowed := true }
def FnExactStreamsOkUptoSaid : Prop := fnExactStreamsOkUptoRow.holds Try.pinned (OpenSpec.upto fnExactStreamsOkSpec)

/-- 'laws.FnExactJoinable', WHERE WHAT IT READS IS OF BULK AT MOST 1048576: true; the input reads as it did. -/
def fnExactJoinableUptoRow : OpenClaim := { program := "ytoghbjbfldlfpaa", sum := "f5a1add161efa47bde1f40f6fdff026a651bcfe6d1a1245666450619f3cc9004", func := "loop.example/g00967/laws.FnExactJoinable", spec := "fnExactJoinable", apart := false, narrowed := true }
def FnExactJoinableUptoSaid : Prop := fnExactJoinableUptoRow.holds Try.pinned (OpenSpec.upto fnExactJoinableSpec)

/-- 'laws.FnExactFarOk', WHERE WHAT IT READS IS OF BULK AT MOST 1048576: true; the input reads as it did. -/
def fnExactFarOkUptoRow : OpenClaim := { program := "ytoghbjbfldlfpaa", sum := "f5a1add161efa47bde1f40f6fdff026a651bcfe6d1a1245666450619f3cc9004", func := "loop.example/g00967/laws.FnExactFarOk", spec := "fnExactFarOk", apart := false, narrowed := true }
def FnExactFarOkUptoSaid : Prop := fnExactFarOkUptoRow.holds Try.pinned (OpenSpec.upto fnExactFarOkSpec)

/-- 'laws.FnExactGatedWorld', WHERE WHAT IT READS IS OF BULK AT MOST 1048576: true; the input reads as it did. -/
def fnExactGatedWorldUptoRow : OpenClaim := { program := "ytoghbjbfldlfpaa", sum := "f5a1add161efa47bde1f40f6fdff026a651bcfe6d1a1245666450619f3cc9004", func := "loop.example/g00967/laws.FnExactGatedWorld", spec := "fnExactGatedWorld", apart := false, narrowed := true }
def FnExactGatedWorldUptoSaid : Prop := fnExactGatedWorldUptoRow.holds Try.pinned (OpenSpec.upto fnExactGatedWorldSpec)

/-- 'laws.FnExactAllWanted', WHERE WHAT IT READS IS OF BULK AT MOST 1048576: true; the input reads as it did. -/
def fnExactAllWantedUptoRow : OpenClaim := { program := "ytoghbjbfldlfpaa", sum := "f5a1add161efa47bde1f40f6fdff026a651bcfe6d1a1245666450619f3cc9004", func := "loop.example/g00967/laws.FnExactAllWanted", spec := "fnExactAllWanted", apart := false, narrowed := true }
def FnExactAllWantedUptoSaid : Prop := fnExactAllWantedUptoRow.holds Try.pinned (OpenSpec.upto fnExactAllWantedSpec)

/-- 'laws.FnExactTurns', WHERE WHAT IT READS IS OF BULK AT MOST 1048576: true; the input reads as it did. -/
def fnExactTurnsUptoRow : OpenClaim := { program := "ytoghbjbfldlfpaa", sum := "f5a1add161efa47bde1f40f6fdff026a651bcfe6d1a1245666450619f3cc9004", func := "loop.example/g00967/laws.FnExactTurns", spec := "fnExactTurns", apart := false, narrowed := true }
def FnExactTurnsUptoSaid : Prop := fnExactTurnsUptoRow.holds Try.pinned (OpenSpec.upto fnExactTurnsSpec)

/-- 'laws.FnExactWaiting', WHERE WHAT IT READS IS OF BULK AT MOST 1048576: true; the input reads as it did. -/
def fnExactWaitingUptoRow : OpenClaim := { program := "ytoghbjbfldlfpaa", sum := "f5a1add161efa47bde1f40f6fdff026a651bcfe6d1a1245666450619f3cc9004", func := "loop.example/g00967/laws.FnExactWaiting", spec := "fnExactWaiting", apart := false, narrowed := true }
def FnExactWaitingUptoSaid : Prop := fnExactWaitingUptoRow.holds Try.pinned (OpenSpec.upto fnExactWaitingSpec)

/-- 'laws.FnExactCarriedBy', WHERE WHAT IT READS IS OF BULK AT MOST 1048576: true; the input reads as it did. -/
def fnExactCarriedByUptoRow : OpenClaim := { program := "ytoghbjbfldlfpaa", sum := "f5a1add161efa47bde1f40f6fdff026a651bcfe6d1a1245666450619f3cc9004", func := "loop.example/g00967/laws.FnExactCarriedBy", spec := "fnExactCarriedBy", apart := false, narrowed := true }
def FnExactCarriedByUptoSaid : Prop := fnExactCarriedByUptoRow.holds Try.pinned (OpenSpec.upto fnExactCarriedBySpec)

/-- 'laws.FnExactWorldLines', WHERE WHAT IT READS IS OF BULK AT MOST 1048576: true; the input reads as it did. -/
def fnExactWorldLinesUptoRow : OpenClaim := { program := "ytoghbjbfldlfpaa", sum := "f5a1add161efa47bde1f40f6fdff026a651bcfe6d1a1245666450619f3cc9004", func := "loop.example/g00967/laws.FnExactWorldLines", spec := "fnExactWorldLines", apart := false, narrowed := true }
def FnExactWorldLinesUptoSaid : Prop := fnExactWorldLinesUptoRow.holds Try.pinned (OpenSpec.upto fnExactWorldLinesSpec)

end Rows
end Go.Proofs.Ytoghbjbfldlfpaa
