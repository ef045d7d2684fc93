/-
  No cell of these rows narrows 'for every input' (looked for: loops, veiled, ifaces, maps, wideKeys, modest, calm, conditions, laid).
  DERIVED. THE GIVEN ROWS OF THIS SEAT. 6 by the template 'for every input the law returns true; each argument reads behind the call as it read before'; 0 by the template 'total and deterministic' (their statements: YteaelbgnnlgnfaaTotals.lean).
  GIVEN WITH THE SEED: the statements are not yours to turn. If you find one false, say at which input.
  Laid BY PROGRAM, IN A SANDBOX (cutbox-rows.mjs): the forced cells as the released guide's own fill.sh prints them over the translation fb4b6b34e08451c4… (all of the seat's roots in one cut). By AI agents, Wed Nov 11 2026. No macro, syntax, notation, axiom, sorry.
-/
import Derived.Test.YteaelbgnnlgnfaaChecked
import GoSem.Claim
import GoSem.ClaimJoined
import GoSem.ClaimMapViews
import Derived.JoinedTies
import Derived.KernelRfl
namespace Go.Proofs.Yteaelbgnnlgnfaa
/- THE CELL 'sum', in the pinned program and in every row, IS THE sha256 OF THE DUMP (.gsa) THAT YteaelbgnnlgnfaaProg.lean LOADS. Nothing in Lean hashes anything: it is a label: what it is worth is what the hold of that sum in a sandbox is worth. -/
noncomputable def Try.pinned : Pinned := { name := "yteaelbgnnlgnfaa", sum := "fb4b6b34e08451c444b0963c5f35f5009558d1c90e7e3abd8b3b94aef31fb21a", checked := Try.checked }
namespace Rows
def none {H : Type} : Left H := { results := [], args := [] }

/-- 'laws.FnExactBeginsWith': WHATEVER THE INPUT: true; the input reads as it did. -/
def fnExactBeginsWithSpec : ChangeSpec := { name := "fnExactBeginsWith", fn := fun _ => fun
  | [d1, d2] => { results := [.lit (.bool true)], args := [d1, d2] }
  | _ => none }
def fnExactBeginsWithRow : OpenClaim := { program := "yteaelbgnnlgnfaa", sum := "fb4b6b34e08451c444b0963c5f35f5009558d1c90e7e3abd8b3b94aef31fb21a", func := "loop.example/g00967/laws.FnExactBeginsWith", spec := "fnExactBeginsWith", apart := false }
def FnExactBeginsWithSaid : Prop := fnExactBeginsWithRow.holds Try.pinned (OpenSpec.ofChange fnExactBeginsWithSpec)

/-- ITS FALSE NEIGHBOUR: 'it returns false'. Refute it at one input. -/
def fnExactBeginsWithWrong : ChangeSpec := { name := "fnExactBeginsWith", fn := fun _ => fun
  | [d1, d2] => { results := [.lit (.bool false)], args := [d1, d2] }
  | _ => none }
def FnExactBeginsWithWrongFalsely : Prop := fnExactBeginsWithRow.holds Try.pinned (OpenSpec.ofChange fnExactBeginsWithWrong)

/-- 'laws.FnExactMostWithin': WHATEVER THE INPUT: true; the input reads as it did. -/
def fnExactMostWithinSpec : ChangeSpec := { name := "fnExactMostWithin", fn := fun _ => fun
  | [d1, d2] => { results := [.lit (.bool true)], args := [d1, d2] }
  | _ => none }
def fnExactMostWithinRow : OpenClaim := { program := "yteaelbgnnlgnfaa", sum := "fb4b6b34e08451c444b0963c5f35f5009558d1c90e7e3abd8b3b94aef31fb21a", func := "loop.example/g00967/laws.FnExactMostWithin", spec := "fnExactMostWithin", apart := false }
def FnExactMostWithinSaid : Prop := fnExactMostWithinRow.holds Try.pinned (OpenSpec.ofChange fnExactMostWithinSpec)

/-- ITS FALSE NEIGHBOUR: 'it returns false'. Refute it at one input. -/
def fnExactMostWithinWrong : ChangeSpec := { name := "fnExactMostWithin", fn := fun _ => fun
  | [d1, d2] => { results := [.lit (.bool false)], args := [d1, d2] }
  | _ => none }
def FnExactMostWithinWrongFalsely : Prop := fnExactMostWithinRow.holds Try.pinned (OpenSpec.ofChange fnExactMostWithinWrong)

/-- 'laws.FnExactRoadWord': WHATEVER THE INPUT: true; the input reads as it did. -/
def fnExactRoadWordSpec : ChangeSpec := { name := "fnExactRoadWord", fn := fun _ => fun
  | [d] => { results := [.lit (.bool true)], args := [d] }
  | _ => none }
def fnExactRoadWordRow : OpenClaim := { program := "yteaelbgnnlgnfaa", sum := "fb4b6b34e08451c444b0963c5f35f5009558d1c90e7e3abd8b3b94aef31fb21a", func := "loop.example/g00967/laws.FnExactRoadWord", spec := "fnExactRoadWord", apart := false }
def FnExactRoadWordSaid : Prop := fnExactRoadWordRow.holds Try.pinned (OpenSpec.ofChange fnExactRoadWordSpec)

/-- ITS FALSE NEIGHBOUR: 'it returns false'. Refute it at one input. -/
def fnExactRoadWordWrong : ChangeSpec := { name := "fnExactRoadWord", fn := fun _ => fun
  | [d] => { results := [.lit (.bool false)], args := [d] }
  | _ => none }
def FnExactRoadWordWrongFalsely : Prop := fnExactRoadWordRow.holds Try.pinned (OpenSpec.ofChange fnExactRoadWordWrong)

/-- 'laws.FnMost': WHATEVER THE INPUT: true; the input reads as it did. -/
def fnMostSpec : ChangeSpec := { name := "fnMost", fn := fun _ => fun
  | [d] => { results := [.lit (.bool true)], args := [d] }
  | _ => none }
def fnMostRow : OpenClaim := { program := "yteaelbgnnlgnfaa", sum := "fb4b6b34e08451c444b0963c5f35f5009558d1c90e7e3abd8b3b94aef31fb21a", func := "loop.example/g00967/laws.FnMost", spec := "fnMost", apart := false }
def FnMostSaid : Prop := fnMostRow.holds Try.pinned (OpenSpec.ofChange fnMostSpec)

/-- ITS FALSE NEIGHBOUR: 'it returns false'. Refute it at one input. -/
def fnMostWrong : ChangeSpec := { name := "fnMost", fn := fun _ => fun
  | [d] => { results := [.lit (.bool false)], args := [d] }
  | _ => none }
def FnMostWrongFalsely : Prop := fnMostRow.holds Try.pinned (OpenSpec.ofChange fnMostWrong)

/-- 'laws.FnExactActOk': WHATEVER THE INPUT: true; the input reads as it did. -/
def fnExactActOkSpec : ChangeSpec := { name := "fnExactActOk", fn := fun _ => fun
  | [d] => { results := [.lit (.bool true)], args := [d] }
  | _ => none }
def fnExactActOkRow : OpenClaim := { program := "yteaelbgnnlgnfaa", sum := "fb4b6b34e08451c444b0963c5f35f5009558d1c90e7e3abd8b3b94aef31fb21a", func := "loop.example/g00967/laws.FnExactActOk", spec := "fnExactActOk", apart := false }
def FnExactActOkSaid : Prop := fnExactActOkRow.holds Try.pinned (OpenSpec.ofChange fnExactActOkSpec)

/-- ITS FALSE NEIGHBOUR: 'it returns false'. Refute it at one input. -/
def fnExactActOkWrong : ChangeSpec := { name := "fnExactActOk", fn := fun _ => fun
  | [d] => { results := [.lit (.bool false)], args := [d] }
  | _ => none }
def FnExactActOkWrongFalsely : Prop := fnExactActOkRow.holds Try.pinned (OpenSpec.ofChange fnExactActOkWrong)

/-- 'laws.FnExactPolicyLine': WHATEVER THE INPUT: true; the input reads as it did. -/
def fnExactPolicyLineSpec : ChangeSpec := { name := "fnExactPolicyLine", fn := fun _ => fun
  | [d] => { results := [.lit (.bool true)], args := [d] }
  | _ => none }
def fnExactPolicyLineRow : OpenClaim := { program := "yteaelbgnnlgnfaa", sum := "fb4b6b34e08451c444b0963c5f35f5009558d1c90e7e3abd8b3b94aef31fb21a", func := "loop.example/g00967/laws.FnExactPolicyLine", spec := "fnExactPolicyLine", apart := false }
def FnExactPolicyLineSaid : Prop := fnExactPolicyLineRow.holds Try.pinned (OpenSpec.ofChange fnExactPolicyLineSpec)

/-- ITS FALSE NEIGHBOUR: 'it returns false'. Refute it at one input. -/
def fnExactPolicyLineWrong : ChangeSpec := { name := "fnExactPolicyLine", fn := fun _ => fun
  | [d] => { results := [.lit (.bool false)], args := [d] }
  | _ => none }
def FnExactPolicyLineWrongFalsely : Prop := fnExactPolicyLineRow.holds Try.pinned (OpenSpec.ofChange fnExactPolicyLineWrong)

/- THE SECOND FORM. 'bulk': how many values and letters a reading holds, each counted each time it is reached (what is shared counts as often as it is met; a slice's spare places count too). A statement '..UptoSaid' is the law's where the arguments, and the package variables that the reading takes, are together of bulk at most 1048576: NARROWER than '..Said'. Prove '..Said' where nothing that the law and all that it calls make is longer than what came in: it says more and counts as full. Else prove '..UptoSaid'. A law counts once. -/
mutual
def uptoBulk {H : Type} : DataW H → Nat
  | .lit (.string bytes) => bytes.length + 1
  | .lit _ => 1
  | .nil => 1
  | .ptr d => uptoBulk d + 1
  | .slice elems spare => uptoBulkAll elems + uptoBulkAll spare + 1
  | .agg parts => uptoBulkAll parts + 1
  | .iface _ d => uptoBulk d + 1
  | .map entries => uptoBulkEntries entries + 1
  | .held _ => 1
def uptoBulkAll {H : Type} : List (DataW H) → Nat
  | [] => 0
  | d :: r => uptoBulk d + uptoBulkAll r
def uptoBulkEntries {H : Type} : List (Lit × DataW H) → Nat
  | [] => 0
  | x :: r => uptoBulkEntry x + uptoBulkEntries r
def uptoBulkEntry {H : Type} : Lit × DataW H → Nat
  | (.string bytes, d) => bytes.length + uptoBulk d + 1
  | (_, d) => uptoBulk d + 1
 end
def uptoSmall : (H : Type) → List (DataW H) → Bool := fun _ ds => decide (uptoBulkAll ds ≤ 1048576)
def OpenSpec.upto (s : _root_.Go.ChangeSpec) : _root_.Go.OpenSpec := { _root_.Go.OpenSpec.ofChange s with cond := some uptoSmall }

/-- 'laws.FnExactBeginsWith', WHERE WHAT IT READS IS OF BULK AT MOST 1048576: true; the input reads as it did. -/
def fnExactBeginsWithUptoRow : OpenClaim := { program := "yteaelbgnnlgnfaa", sum := "fb4b6b34e08451c444b0963c5f35f5009558d1c90e7e3abd8b3b94aef31fb21a", func := "loop.example/g00967/laws.FnExactBeginsWith", spec := "fnExactBeginsWith", apart := false, narrowed := true }
def FnExactBeginsWithUptoSaid : Prop := fnExactBeginsWithUptoRow.holds Try.pinned (OpenSpec.upto fnExactBeginsWithSpec)

/-- 'laws.FnExactMostWithin', WHERE WHAT IT READS IS OF BULK AT MOST 1048576: true; the input reads as it did. -/
def fnExactMostWithinUptoRow : OpenClaim := { program := "yteaelbgnnlgnfaa", sum := "fb4b6b34e08451c444b0963c5f35f5009558d1c90e7e3abd8b3b94aef31fb21a", func := "loop.example/g00967/laws.FnExactMostWithin", spec := "fnExactMostWithin", apart := false, narrowed := true }
def FnExactMostWithinUptoSaid : Prop := fnExactMostWithinUptoRow.holds Try.pinned (OpenSpec.upto fnExactMostWithinSpec)

/-- 'laws.FnExactRoadWord', WHERE WHAT IT READS IS OF BULK AT MOST 1048576: true; the input reads as it did. -/
def fnExactRoadWordUptoRow : OpenClaim := { program := "yteaelbgnnlgnfaa", sum := "fb4b6b34e08451c444b0963c5f35f5009558d1c90e7e3abd8b3b94aef31fb21a", func := "loop.example/g00967/laws.FnExactRoadWord", spec := "fnExactRoadWord", apart := false, narrowed := true }
def FnExactRoadWordUptoSaid : Prop := fnExactRoadWordUptoRow.holds Try.pinned (OpenSpec.upto fnExactRoadWordSpec)

/-- 'laws.FnMost', WHERE WHAT IT READS IS OF BULK AT MOST 1048576: true; the input reads as it did. -/
def fnMostUptoRow : OpenClaim := { program := "yteaelbgnnlgnfaa", sum := "fb4b6b34e08451c444b0963c5f35f5009558d1c90e7e3abd8b3b94aef31fb21a", func := "loop.example/g00967/laws.FnMost", spec := "fnMost", apart := false, narrowed := true }
def FnMostUptoSaid : Prop := fnMostUptoRow.holds Try.pinned (OpenSpec.upto fnMostSpec)

/-- 'laws.FnExactActOk', WHERE WHAT IT READS IS OF BULK AT MOST 1048576: true; the input reads as it did. -/
def fnExactActOkUptoRow : OpenClaim := { program := "yteaelbgnnlgnfaa", sum := "fb4b6b34e08451c444b0963c5f35f5009558d1c90e7e3abd8b3b94aef31fb21a", func := "loop.example/g00967/laws.FnExactActOk", spec := "fnExactActOk", apart := false, narrowed := true }
def FnExactActOkUptoSaid : Prop := fnExactActOkUptoRow.holds Try.pinned (OpenSpec.upto fnExactActOkSpec)

/-- 'laws.FnExactPolicyLine', WHERE WHAT IT READS IS OF BULK AT MOST 1048576: true; the input reads as it did. -/
def fnExactPolicyLineUptoRow : OpenClaim := { program := "yteaelbgnnlgnfaa", sum := "fb4b6b34e08451c444b0963c5f35f5009558d1c90e7e3abd8b3b94aef31fb21a", func := "loop.example/g00967/laws.FnExactPolicyLine", spec := "fnExactPolicyLine", apart := false, narrowed := true }
def FnExactPolicyLineUptoSaid : Prop := fnExactPolicyLineUptoRow.holds Try.pinned (OpenSpec.upto fnExactPolicyLineSpec)

end Rows
end Go.Proofs.Yteaelbgnnlgnfaa
