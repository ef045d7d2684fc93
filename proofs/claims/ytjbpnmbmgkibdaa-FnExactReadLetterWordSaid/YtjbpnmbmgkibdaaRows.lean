/-
  No cell of these rows narrows 'for every input' (looked for: loops, veiled, ifaces, maps, wideKeys, modest, calm, conditions, laid).
  DERIVED. THE GIVEN ROWS OF THIS SEAT. 5 by the template 'for every input the law returns true; each argument reads behind the call as it read before'; 0 by the template 'total and deterministic' (their statements: YtjbpnmbmgkibdaaTotals.lean).
  GIVEN WITH THE SEED: the statements are not yours to turn. If you find one false, say at which input.
  Laid BY PROGRAM, IN A SANDBOX (cutbox-rows.mjs): the forced cells as the released guide's own fill.sh prints them over the translation cc985f40a0716bfb… (all of the seat's roots in one cut). By AI agents, Wed Nov 11 2026. No macro, syntax, notation, axiom, sorry.
-/
import Derived.Test.YtjbpnmbmgkibdaaChecked
import GoSem.Claim
import GoSem.ClaimJoined
import GoSem.ClaimMapViews
import Derived.JoinedTies
import Derived.KernelRfl
namespace Go.Proofs.Ytjbpnmbmgkibdaa
/- THE CELL 'sum', in the pinned program and in every row, IS THE sha256 OF THE DUMP (.gsa) THAT YtjbpnmbmgkibdaaProg.lean LOADS. Nothing in Lean hashes anything: it is a label: what it is worth is what the hold of that sum in a sandbox is worth. -/
noncomputable def Try.pinned : Pinned := { name := "ytjbpnmbmgkibdaa", sum := "cc985f40a0716bfb82ce349a6833c9c819e0aa769ffa999f4267b35a2ac28402", checked := Try.checked }
namespace Rows
def none {H : Type} : Left H := { results := [], args := [] }

/-- 'laws.FnExactGated': WHATEVER THE INPUT: true; the input reads as it did. -/
def fnExactGatedSpec : ChangeSpec := { name := "fnExactGated", fn := fun _ => fun
  | [d1, d2] => { results := [.lit (.bool true)], args := [d1, d2] }
  | _ => none }
def fnExactGatedRow : OpenClaim := { program := "ytjbpnmbmgkibdaa", sum := "cc985f40a0716bfb82ce349a6833c9c819e0aa769ffa999f4267b35a2ac28402", func := "loop.example/g00967/laws.FnExactGated", spec := "fnExactGated", apart := false }
def FnExactGatedSaid : Prop := fnExactGatedRow.holds Try.pinned (OpenSpec.ofChange fnExactGatedSpec)

/-- ITS FALSE NEIGHBOUR: 'it returns false'. Refute it at one input. -/
def fnExactGatedWrong : ChangeSpec := { name := "fnExactGated", fn := fun _ => fun
  | [d1, d2] => { results := [.lit (.bool false)], args := [d1, d2] }
  | _ => none }
def FnExactGatedWrongFalsely : Prop := fnExactGatedRow.holds Try.pinned (OpenSpec.ofChange fnExactGatedWrong)

/-- 'laws.FnExactCarriedIn': WHATEVER THE INPUT: true; the input reads as it did. -/
def fnExactCarriedInSpec : ChangeSpec := { name := "fnExactCarriedIn", fn := fun _ => fun
  | [d] => { results := [.lit (.bool true)], args := [d] }
  | _ => none }
def fnExactCarriedInRow : OpenClaim := { program := "ytjbpnmbmgkibdaa", sum := "cc985f40a0716bfb82ce349a6833c9c819e0aa769ffa999f4267b35a2ac28402", func := "loop.example/g00967/laws.FnExactCarriedIn", spec := "fnExactCarriedIn", apart := false }
def FnExactCarriedInSaid : Prop := fnExactCarriedInRow.holds Try.pinned (OpenSpec.ofChange fnExactCarriedInSpec)

/-- ITS FALSE NEIGHBOUR: 'it returns false'. Refute it at one input. -/
def fnExactCarriedInWrong : ChangeSpec := { name := "fnExactCarriedIn", fn := fun _ => fun
  | [d] => { results := [.lit (.bool false)], args := [d] }
  | _ => none }
def FnExactCarriedInWrongFalsely : Prop := fnExactCarriedInRow.holds Try.pinned (OpenSpec.ofChange fnExactCarriedInWrong)

/-- 'laws.FnExactLetterWord': WHATEVER THE INPUT: true; the input reads as it did. -/
def fnExactLetterWordSpec : ChangeSpec := { name := "fnExactLetterWord", fn := fun _ => fun
  | [d] => { results := [.lit (.bool true)], args := [d] }
  | _ => none }
def fnExactLetterWordRow : OpenClaim := { program := "ytjbpnmbmgkibdaa", sum := "cc985f40a0716bfb82ce349a6833c9c819e0aa769ffa999f4267b35a2ac28402", func := "loop.example/g00967/laws.FnExactLetterWord", spec := "fnExactLetterWord", apart := false }
def FnExactLetterWordSaid : Prop := fnExactLetterWordRow.holds Try.pinned (OpenSpec.ofChange fnExactLetterWordSpec)

/-- ITS FALSE NEIGHBOUR: 'it returns false'. Refute it at one input. -/
def fnExactLetterWordWrong : ChangeSpec := { name := "fnExactLetterWord", fn := fun _ => fun
  | [d] => { results := [.lit (.bool false)], args := [d] }
  | _ => none }
def FnExactLetterWordWrongFalsely : Prop := fnExactLetterWordRow.holds Try.pinned (OpenSpec.ofChange fnExactLetterWordWrong)

/-- 'laws.FnExactReadPolicy': WHATEVER THE INPUT: true; the input reads as it did. -/
def fnExactReadPolicySpec : ChangeSpec := { name := "fnExactReadPolicy", fn := fun _ => fun
  | [d] => { results := [.lit (.bool true)], args := [d] }
  | _ => none }
def fnExactReadPolicyRow : OpenClaim := { program := "ytjbpnmbmgkibdaa", sum := "cc985f40a0716bfb82ce349a6833c9c819e0aa769ffa999f4267b35a2ac28402", func := "loop.example/g00967/laws.FnExactReadPolicy", spec := "fnExactReadPolicy", apart := false }
def FnExactReadPolicySaid : Prop := fnExactReadPolicyRow.holds Try.pinned (OpenSpec.ofChange fnExactReadPolicySpec)

/-- ITS FALSE NEIGHBOUR: 'it returns false'. Refute it at one input. -/
def fnExactReadPolicyWrong : ChangeSpec := { name := "fnExactReadPolicy", fn := fun _ => fun
  | [d] => { results := [.lit (.bool false)], args := [d] }
  | _ => none }
def FnExactReadPolicyWrongFalsely : Prop := fnExactReadPolicyRow.holds Try.pinned (OpenSpec.ofChange fnExactReadPolicyWrong)

/-- 'laws.FnExactReadLetterWord': WHATEVER THE INPUT: true; the input reads as it did. -/
def fnExactReadLetterWordSpec : ChangeSpec := { name := "fnExactReadLetterWord", fn := fun _ => fun
  | [d] => { results := [.lit (.bool true)], args := [d] }
  | _ => none }
def fnExactReadLetterWordRow : OpenClaim := { program := "ytjbpnmbmgkibdaa", sum := "cc985f40a0716bfb82ce349a6833c9c819e0aa769ffa999f4267b35a2ac28402", func := "loop.example/g00967/laws.FnExactReadLetterWord", spec := "fnExactReadLetterWord", apart := false }
def FnExactReadLetterWordSaid : Prop := fnExactReadLetterWordRow.holds Try.pinned (OpenSpec.ofChange fnExactReadLetterWordSpec)

/-- ITS FALSE NEIGHBOUR: 'it returns false'. Refute it at one input. -/
def fnExactReadLetterWordWrong : ChangeSpec := { name := "fnExactReadLetterWord", fn := fun _ => fun
  | [d] => { results := [.lit (.bool false)], args := [d] }
  | _ => none }
def FnExactReadLetterWordWrongFalsely : Prop := fnExactReadLetterWordRow.holds Try.pinned (OpenSpec.ofChange fnExactReadLetterWordWrong)

/- THE SECOND FORM. 'bulk': how many values and letters a reading holds, each counted each time it is reached (what is shared counts as often as it is met; a slice's spare places count too). A statement '..UptoSaid' is the law's where the arguments, and the package variables that the reading takes, are together of bulk at most 1048576: NARROWER than '..Said'. Prove '..Said' where nothing that the law and all that it calls make is longer than what came in: it says more and counts as full. Else prove '..UptoSaid'. A law counts once. -/
mutual
def uptoBulk {H : Type} : DataW H → Nat
  | .lit (.string bytes) => bytes.length + 1
  | .lit _ => 1
  | .nil => 1
  | .ptr d => uptoBulk d + 1
  | .slice elems spare => uptoBulkAll elems + uptoBulkAll spare + 1
  | .agg parts => uptoBulkAll parts + 1
  | .iface _ d => uptoBulk d + 1
  | .map entries => uptoBulkEntries entries + 1
  | .held _ => 1
def uptoBulkAll {H : Type} : List (DataW H) → Nat
  | [] => 0
  | d :: r => uptoBulk d + uptoBulkAll r
def uptoBulkEntries {H : Type} : List (Lit × DataW H) → Nat
  | [] => 0
  | x :: r => uptoBulkEntry x + uptoBulkEntries r
def uptoBulkEntry {H : Type} : Lit × DataW H → Nat
  | (.string bytes, d) => bytes.length + uptoBulk d + 1
  | (_, d) => uptoBulk d + 1
 end
def uptoSmall : (H : Type) → List (DataW H) → Bool := fun _ ds => decide (uptoBulkAll ds ≤ 1048576)
def OpenSpec.upto (s : _root_.Go.ChangeSpec) : _root_.Go.OpenSpec := { _root_.Go.OpenSpec.ofChange s with cond := some uptoSmall }

/-- 'laws.FnExactGated', WHERE WHAT IT READS IS OF BULK AT MOST 1048576: true; the input reads as it did. -/
def fnExactGatedUptoRow : OpenClaim := { program := "ytjbpnmbmgkibdaa", sum := "cc985f40a0716bfb82ce349a6833c9c819e0aa769ffa999f4267b35a2ac28402", func := "loop.example/g00967/laws.FnExactGated", spec := "fnExactGated", apart := false, narrowed := true }
def FnExactGatedUptoSaid : Prop := fnExactGatedUptoRow.holds Try.pinned (OpenSpec.upto fnExactGatedSpec)

/-- 'laws.FnExactCarriedIn', WHERE WHAT IT READS IS OF BULK AT MOST 1048576: true; the input reads as it did. -/
def fnExactCarriedInUptoRow : OpenClaim := { program := "ytjbpnmbmgkibdaa", sum := "cc985f40a0716bfb82ce349a6833c9c819e0aa769ffa999f4267b35a2ac28402", func := "loop.example/g00967/laws.FnExactCarriedIn", spec := "fnExactCarriedIn", apart := false, narrowed := true }
def FnExactCarriedInUptoSaid : Prop := fnExactCarriedInUptoRow.holds Try.pinned (OpenSpec.upto fnExactCarriedInSpec)

/-- 'laws.FnExactLetterWord', WHERE WHAT IT READS IS OF BULK AT MOST 1048576: true; the input reads as it did. -/
def fnExactLetterWordUptoRow : OpenClaim := { program := "ytjbpnmbmgkibdaa", sum := "cc985f40a0716bfb82ce349a6833c9c819e0aa769ffa999f4267b35a2ac28402", func := "loop.example/g00967/laws.FnExactLetterWord", spec := "fnExactLetterWord", apart := false, narrowed := true }
def FnExactLetterWordUptoSaid : Prop := fnExactLetterWordUptoRow.holds Try.pinned (OpenSpec.upto fnExactLetterWordSpec)

/-- 'laws.FnExactReadPolicy', WHERE WHAT IT READS IS OF BULK AT MOST 1048576: true; the input reads as it did. -/
def fnExactReadPolicyUptoRow : OpenClaim := { program := "ytjbpnmbmgkibdaa", sum := "cc985f40a0716bfb82ce349a6833c9c819e0aa769ffa999f4267b35a2ac28402", func := "loop.example/g00967/laws.FnExactReadPolicy", spec := "fnExactReadPolicy", apart := false, narrowed := true }
def FnExactReadPolicyUptoSaid : Prop := fnExactReadPolicyUptoRow.holds Try.pinned (OpenSpec.upto fnExactReadPolicySpec)

/-- 'laws.FnExactReadLetterWord', WHERE WHAT IT READS IS OF BULK AT MOST 1048576: true; the input reads as it did. -/
def fnExactReadLetterWordUptoRow : OpenClaim := { program := "ytjbpnmbmgkibdaa", sum := "cc985f40a0716bfb82ce349a6833c9c819e0aa769ffa999f4267b35a2ac28402", func := "loop.example/g00967/laws.FnExactReadLetterWord", spec := "fnExactReadLetterWord", apart := false, narrowed := true }
def FnExactReadLetterWordUptoSaid : Prop := fnExactReadLetterWordUptoRow.holds Try.pinned (OpenSpec.upto fnExactReadLetterWordSpec)

end Rows
end Go.Proofs.Ytjbpnmbmgkibdaa
