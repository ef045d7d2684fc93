/-
  No cell of these rows narrows 'for every input' (looked for: loops, veiled, ifaces, maps, wideKeys, modest, calm, conditions, laid).
  DERIVED. THE GIVEN ROWS OF THIS SEAT. 5 by the template 'for every input the law returns true; each argument reads behind the call as it read before'; 0 by the template 'total and deterministic' (their statements: YtbgakfbnkkfbkaaGreatTotals.lean).
  GIVEN WITH THE SEED: the statements are not yours to turn. If you find one false, say at which input.
  Laid BY PROGRAM, IN A SANDBOX (cutbox-rows.mjs): the forced cells as the released guide's own fill.sh prints them over the translation afe4cd730d46d023… (all of the seat's roots in one cut). By AI agents, Wed Nov 11 2026. No macro, syntax, notation, axiom, sorry.
-/
import Derived.Test.YtbgakfbnkkfbkaaGreatChecked
import GoSem.Claim
import GoSem.ClaimJoined
import GoSem.ClaimMapViews
import Derived.JoinedTies
import Derived.KernelRfl
namespace Go.Proofs.YtbgakfbnkkfbkaaGreat
/- THE CELL 'sum', in the pinned program and in every row, IS THE sha256 OF THE DUMP (.gsa) THAT YtbgakfbnkkfbkaaGreatProg.lean LOADS. Nothing in Lean hashes anything: it is a label: what it is worth is what the hold of that sum in a sandbox is worth. -/
noncomputable def Tryz.pinned : Pinned := { name := "ytbgakfbnkkfbkaagreat", sum := "afe4cd730d46d0236a4f950ce70caad12e1ff7c44e9164afa83dede114cf78d3", checked := Tryz.checked }
namespace Rows
def none {H : Type} : Left H := { results := [], args := [] }

/-- 'laws.FnExactFirstUnsafe': WHATEVER THE INPUT: true; the input reads as it did. -/
def fnExactFirstUnsafeSpec : ChangeSpec := { name := "fnExactFirstUnsafe", fn := fun _ => fun
  | [d1, d2] => { results := [.lit (.bool true)], args := [d1, d2] }
  | _ => none }
def fnExactFirstUnsafeRow : OpenClaim := { program := "ytbgakfbnkkfbkaagreat", sum := "afe4cd730d46d0236a4f950ce70caad12e1ff7c44e9164afa83dede114cf78d3", func := "loop.example/g00967/laws.FnExactFirstUnsafe", spec := "fnExactFirstUnsafe", apart := false }
def FnExactFirstUnsafeSaid : Prop := fnExactFirstUnsafeRow.holds Tryz.pinned (OpenSpec.ofChange fnExactFirstUnsafeSpec)

/-- ITS FALSE NEIGHBOUR: 'it returns false'. Refute it at one input. -/
def fnExactFirstUnsafeWrong : ChangeSpec := { name := "fnExactFirstUnsafe", fn := fun _ => fun
  | [d1, d2] => { results := [.lit (.bool false)], args := [d1, d2] }
  | _ => none }
def FnExactFirstUnsafeWrongFalsely : Prop := fnExactFirstUnsafeRow.holds Tryz.pinned (OpenSpec.ofChange fnExactFirstUnsafeWrong)

/-- 'laws.FnExactLived': WHATEVER THE INPUT: true; the input reads as it did. -/
def fnExactLivedSpec : ChangeSpec := { name := "fnExactLived", fn := fun _ => fun
  | [d1, d2] => { results := [.lit (.bool true)], args := [d1, d2] }
  | _ => none }
def fnExactLivedRow : OpenClaim := { program := "ytbgakfbnkkfbkaagreat", sum := "afe4cd730d46d0236a4f950ce70caad12e1ff7c44e9164afa83dede114cf78d3", func := "loop.example/g00967/laws.FnExactLived", spec := "fnExactLived", apart := false }
def FnExactLivedSaid : Prop := fnExactLivedRow.holds Tryz.pinned (OpenSpec.ofChange fnExactLivedSpec)

/-- ITS FALSE NEIGHBOUR: 'it returns false'. Refute it at one input. -/
def fnExactLivedWrong : ChangeSpec := { name := "fnExactLived", fn := fun _ => fun
  | [d1, d2] => { results := [.lit (.bool false)], args := [d1, d2] }
  | _ => none }
def FnExactLivedWrongFalsely : Prop := fnExactLivedRow.holds Tryz.pinned (OpenSpec.ofChange fnExactLivedWrong)

/-- 'laws.FnExactDone': WHATEVER THE INPUT: true; the input reads as it did. -/
def fnExactDoneSpec : ChangeSpec := { name := "fnExactDone", fn := fun _ => fun
  | [d1, d2] => { results := [.lit (.bool true)], args := [d1, d2] }
  | _ => none }
def fnExactDoneRow : OpenClaim := { program := "ytbgakfbnkkfbkaagreat", sum := "afe4cd730d46d0236a4f950ce70caad12e1ff7c44e9164afa83dede114cf78d3", func := "loop.example/g00967/laws.FnExactDone", spec := "fnExactDone", apart := false }
def FnExactDoneSaid : Prop := fnExactDoneRow.holds Tryz.pinned (OpenSpec.ofChange fnExactDoneSpec)

/-- ITS FALSE NEIGHBOUR: 'it returns false'. Refute it at one input. -/
def fnExactDoneWrong : ChangeSpec := { name := "fnExactDone", fn := fun _ => fun
  | [d1, d2] => { results := [.lit (.bool false)], args := [d1, d2] }
  | _ => none }
def FnExactDoneWrongFalsely : Prop := fnExactDoneRow.holds Tryz.pinned (OpenSpec.ofChange fnExactDoneWrong)

/-- 'laws.FnExactCalmRound': WHATEVER THE INPUT: true; the input reads as it did. -/
def fnExactCalmRoundSpec : ChangeSpec := { name := "fnExactCalmRound", fn := fun _ => fun
  | [d] => { results := [.lit (.bool true)], args := [d] }
  | _ => none }
def fnExactCalmRoundRow : OpenClaim := { program := "ytbgakfbnkkfbkaagreat", sum := "afe4cd730d46d0236a4f950ce70caad12e1ff7c44e9164afa83dede114cf78d3", func := "loop.example/g00967/laws.FnExactCalmRound", spec := "fnExactCalmRound", unfollowed := true, recurses := true, apart := false }
def FnExactCalmRoundSaid : Prop := fnExactCalmRoundRow.holds Tryz.pinned (OpenSpec.ofChange fnExactCalmRoundSpec)

/-- ITS FALSE NEIGHBOUR: 'it returns false'. Refute it at one input. -/
def fnExactCalmRoundWrong : ChangeSpec := { name := "fnExactCalmRound", fn := fun _ => fun
  | [d] => { results := [.lit (.bool false)], args := [d] }
  | _ => none }
def FnExactCalmRoundWrongFalsely : Prop := fnExactCalmRoundRow.holds Tryz.pinned (OpenSpec.ofChange fnExactCalmRoundWrong)

/-- 'laws.FnExactCalmRounds': WHATEVER THE INPUT: true; the input reads as it did. -/
def fnExactCalmRoundsSpec : ChangeSpec := { name := "fnExactCalmRounds", fn := fun _ => fun
  | [d1, d2] => { results := [.lit (.bool true)], args := [d1, d2] }
  | _ => none }
def fnExactCalmRoundsRow : OpenClaim := { program := "ytbgakfbnkkfbkaagreat", sum := "afe4cd730d46d0236a4f950ce70caad12e1ff7c44e9164afa83dede114cf78d3", func := "loop.example/g00967/laws.FnExactCalmRounds", spec := "fnExactCalmRounds", unfollowed := true, recurses := true, apart := false }
def FnExactCalmRoundsSaid : Prop := fnExactCalmRoundsRow.holds Tryz.pinned (OpenSpec.ofChange fnExactCalmRoundsSpec)

/-- ITS FALSE NEIGHBOUR: 'it returns false'. Refute it at one input. -/
def fnExactCalmRoundsWrong : ChangeSpec := { name := "fnExactCalmRounds", fn := fun _ => fun
  | [d1, d2] => { results := [.lit (.bool false)], args := [d1, d2] }
  | _ => none }
def FnExactCalmRoundsWrongFalsely : Prop := fnExactCalmRoundsRow.holds Tryz.pinned (OpenSpec.ofChange fnExactCalmRoundsWrong)

/- THE SECOND FORM. 'bulk': how many values and letters a reading holds, each counted each time it is reached (what is shared counts as often as it is met; a slice's spare places count too). A statement '..UptoSaid' is the law's where the arguments, and the package variables that the reading takes, are together of bulk at most 1048576: NARROWER than '..Said'. Prove '..Said' where nothing that the law and all that it calls make is longer than what came in: it says more and counts as full. Else prove '..UptoSaid'. A law counts once. -/
mutual
def uptoBulk {H : Type} : DataW H → Nat
  | .lit (.string bytes) => bytes.length + 1
  | .lit _ => 1
  | .nil => 1
  | .ptr d => uptoBulk d + 1
  | .slice elems spare => uptoBulkAll elems + uptoBulkAll spare + 1
  | .agg parts => uptoBulkAll parts + 1
  | .iface _ d => uptoBulk d + 1
  | .map entries => uptoBulkEntries entries + 1
  | .held _ => 1
def uptoBulkAll {H : Type} : List (DataW H) → Nat
  | [] => 0
  | d :: r => uptoBulk d + uptoBulkAll r
def uptoBulkEntries {H : Type} : List (Lit × DataW H) → Nat
  | [] => 0
  | x :: r => uptoBulkEntry x + uptoBulkEntries r
def uptoBulkEntry {H : Type} : Lit × DataW H → Nat
  | (.string bytes, d) => bytes.length + uptoBulk d + 1
  | (_, d) => uptoBulk d + 1
 end
def uptoSmall : (H : Type) → List (DataW H) → Bool := fun _ ds => decide (uptoBulkAll ds ≤ 1048576)
def OpenSpec.upto (s : _root_.Go.ChangeSpec) : _root_.Go.OpenSpec := { _root_.Go.OpenSpec.ofChange s with cond := some uptoSmall }

/-- 'laws.FnExactFirstUnsafe', WHERE WHAT IT READS IS OF BULK AT MOST 1048576: true; the input reads as it did. -/
def fnExactFirstUnsafeUptoRow : OpenClaim := { program := "ytbgakfbnkkfbkaagreat", sum := "afe4cd730d46d0236a4f950ce70caad12e1ff7c44e9164afa83dede114cf78d3", func := "loop.example/g00967/laws.FnExactFirstUnsafe", spec := "fnExactFirstUnsafe", apart := false, narrowed := true }
def FnExactFirstUnsafeUptoSaid : Prop := fnExactFirstUnsafeUptoRow.holds Tryz.pinned (OpenSpec.upto fnExactFirstUnsafeSpec)

/-- 'laws.FnExactLived', WHERE WHAT IT READS IS OF BULK AT MOST 1048576: true; the input reads as it did. -/
def fnExactLivedUptoRow : OpenClaim := { program := "ytbgakfbnkkfbkaagreat", sum := "afe4cd730d46d0236a4f950ce70caad12e1ff7c44e9164afa83dede114cf78d3", func := "loop.example/g00967/laws.FnExactLived", spec := "fnExactLived", apart := false, narrowed := true }
def FnExactLivedUptoSaid : Prop := fnExactLivedUptoRow.holds Tryz.pinned (OpenSpec.upto fnExactLivedSpec)

/-- 'laws.FnExactDone', WHERE WHAT IT READS IS OF BULK AT MOST 1048576: true; the input reads as it did. -/
def fnExactDoneUptoRow : OpenClaim := { program := "ytbgakfbnkkfbkaagreat", sum := "afe4cd730d46d0236a4f950ce70caad12e1ff7c44e9164afa83dede114cf78d3", func := "loop.example/g00967/laws.FnExactDone", spec := "fnExactDone", apart := false, narrowed := true }
def FnExactDoneUptoSaid : Prop := fnExactDoneUptoRow.holds Tryz.pinned (OpenSpec.upto fnExactDoneSpec)

/-- 'laws.FnExactCalmRound', WHERE WHAT IT READS IS OF BULK AT MOST 1048576: true; the input reads as it did. -/
def fnExactCalmRoundUptoRow : OpenClaim := { program := "ytbgakfbnkkfbkaagreat", sum := "afe4cd730d46d0236a4f950ce70caad12e1ff7c44e9164afa83dede114cf78d3", func := "loop.example/g00967/laws.FnExactCalmRound", spec := "fnExactCalmRound", unfollowed := true, recurses := true, apart := false, narrowed := true }
def FnExactCalmRoundUptoSaid : Prop := fnExactCalmRoundUptoRow.holds Tryz.pinned (OpenSpec.upto fnExactCalmRoundSpec)

/-- 'laws.FnExactCalmRounds', WHERE WHAT IT READS IS OF BULK AT MOST 1048576: true; the input reads as it did. -/
def fnExactCalmRoundsUptoRow : OpenClaim := { program := "ytbgakfbnkkfbkaagreat", sum := "afe4cd730d46d0236a4f950ce70caad12e1ff7c44e9164afa83dede114cf78d3", func := "loop.example/g00967/laws.FnExactCalmRounds", spec := "fnExactCalmRounds", unfollowed := true, recurses := true, apart := false, narrowed := true }
def FnExactCalmRoundsUptoSaid : Prop := fnExactCalmRoundsUptoRow.holds Tryz.pinned (OpenSpec.upto fnExactCalmRoundsSpec)

end Rows
end Go.Proofs.YtbgakfbnkkfbkaaGreat
