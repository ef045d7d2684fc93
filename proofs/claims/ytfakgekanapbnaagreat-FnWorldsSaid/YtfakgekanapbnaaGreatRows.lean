/-
  No cell of these rows narrows 'for every input' (looked for: loops, veiled, ifaces, maps, wideKeys, modest, calm, conditions, laid).
  DERIVED. THE GIVEN ROWS OF THIS SEAT. 4 by the template 'for every input the law returns true; each argument reads behind the call as it read before'; 0 by the template 'total and deterministic' (their statements: YtfakgekanapbnaaGreatTotals.lean).
  GIVEN WITH THE SEED: the statements are not yours to turn. If you find one false, say at which input.
  Laid BY PROGRAM, IN A SANDBOX (cutbox-rows.mjs): the forced cells as the released guide's own fill.sh prints them over the translation 27e4ed30a33f5de6… (all of the seat's roots in one cut). By AI agents, Wed Nov 11 2026. No macro, syntax, notation, axiom, sorry.
-/
import Derived.Test.YtfakgekanapbnaaGreatChecked
import GoSem.Claim
import GoSem.ClaimJoined
import GoSem.ClaimMapViews
import Derived.JoinedTies
import Derived.KernelRfl
namespace Go.Proofs.YtfakgekanapbnaaGreat
/- THE CELL 'sum', in the pinned program and in every row, IS THE sha256 OF THE DUMP (.gsa) THAT YtfakgekanapbnaaGreatProg.lean LOADS. Nothing in Lean hashes anything: it is a label: what it is worth is what the hold of that sum in a sandbox is worth. -/
noncomputable def Tryz.pinned : Pinned := { name := "ytfakgekanapbnaagreat", sum := "27e4ed30a33f5de6184c92af399734d5b0181e84af8c9a7b09510d412b25e280", checked := Tryz.checked }
namespace Rows
def none {H : Type} : Left H := { results := [], args := [] }

/-- 'laws.FnReports': WHATEVER THE INPUT: true; the input reads as it did. -/
def fnReportsSpec : ChangeSpec := { name := "fnReports", fn := fun _ => fun
  | [d] => { results := [.lit (.bool true)], args := [d] }
  | _ => none }
def fnReportsRow : OpenClaim := { program := "ytfakgekanapbnaagreat", sum := "27e4ed30a33f5de6184c92af399734d5b0181e84af8c9a7b09510d412b25e280", func := "loop.example/g00967/laws.FnReports", spec := "fnReports", apart := false }
def FnReportsSaid : Prop := fnReportsRow.holds Tryz.pinned (OpenSpec.ofChange fnReportsSpec)

/-- ITS FALSE NEIGHBOUR: 'it returns false'. Refute it at one input. -/
def fnReportsWrong : ChangeSpec := { name := "fnReports", fn := fun _ => fun
  | [d] => { results := [.lit (.bool false)], args := [d] }
  | _ => none }
def FnReportsWrongFalsely : Prop := fnReportsRow.holds Tryz.pinned (OpenSpec.ofChange fnReportsWrong)

/-- 'laws.FnTurns': WHATEVER THE INPUT: true; the input reads as it did. -/
def fnTurnsSpec : ChangeSpec := { name := "fnTurns", fn := fun _ => fun
  | [d] => { results := [.lit (.bool true)], args := [d] }
  | _ => none }
def fnTurnsRow : OpenClaim := { program := "ytfakgekanapbnaagreat", sum := "27e4ed30a33f5de6184c92af399734d5b0181e84af8c9a7b09510d412b25e280", func := "loop.example/g00967/laws.FnTurns", spec := "fnTurns", apart := false }
def FnTurnsSaid : Prop := fnTurnsRow.holds Tryz.pinned (OpenSpec.ofChange fnTurnsSpec)

/-- ITS FALSE NEIGHBOUR: 'it returns false'. Refute it at one input. -/
def fnTurnsWrong : ChangeSpec := { name := "fnTurns", fn := fun _ => fun
  | [d] => { results := [.lit (.bool false)], args := [d] }
  | _ => none }
def FnTurnsWrongFalsely : Prop := fnTurnsRow.holds Tryz.pinned (OpenSpec.ofChange fnTurnsWrong)

/-- 'laws.FnWorlds': WHATEVER THE INPUT: true; the input reads as it did. -/
def fnWorldsSpec : ChangeSpec := { name := "fnWorlds", fn := fun _ => fun
  | [d] => { results := [.lit (.bool true)], args := [d] }
  | _ => none }
def fnWorldsRow : OpenClaim := { program := "ytfakgekanapbnaagreat", sum := "27e4ed30a33f5de6184c92af399734d5b0181e84af8c9a7b09510d412b25e280", func := "loop.example/g00967/laws.FnWorlds", spec := "fnWorlds", apart := false }
def FnWorldsSaid : Prop := fnWorldsRow.holds Tryz.pinned (OpenSpec.ofChange fnWorldsSpec)

/-- ITS FALSE NEIGHBOUR: 'it returns false'. Refute it at one input. -/
def fnWorldsWrong : ChangeSpec := { name := "fnWorlds", fn := fun _ => fun
  | [d] => { results := [.lit (.bool false)], args := [d] }
  | _ => none }
def FnWorldsWrongFalsely : Prop := fnWorldsRow.holds Tryz.pinned (OpenSpec.ofChange fnWorldsWrong)

/-- 'laws.FnSafe': WHATEVER THE INPUT: true; the input reads as it did. -/
def fnSafeSpec : ChangeSpec := { name := "fnSafe", fn := fun _ => fun
  | [d] => { results := [.lit (.bool true)], args := [d] }
  | _ => none }
def fnSafeRow : OpenClaim := { program := "ytfakgekanapbnaagreat", sum := "27e4ed30a33f5de6184c92af399734d5b0181e84af8c9a7b09510d412b25e280", func := "loop.example/g00967/laws.FnSafe", spec := "fnSafe", apart := false }
def FnSafeSaid : Prop := fnSafeRow.holds Tryz.pinned (OpenSpec.ofChange fnSafeSpec)

/-- ITS FALSE NEIGHBOUR: 'it returns false'. Refute it at one input. -/
def fnSafeWrong : ChangeSpec := { name := "fnSafe", fn := fun _ => fun
  | [d] => { results := [.lit (.bool false)], args := [d] }
  | _ => none }
def FnSafeWrongFalsely : Prop := fnSafeRow.holds Tryz.pinned (OpenSpec.ofChange fnSafeWrong)

/- THE SECOND FORM. 'bulk': how many values and letters a reading holds, each counted each time it is reached (what is shared counts as often as it is met; a slice's spare places count too). A statement '..UptoSaid' is the law's where the arguments, and the package variables that the reading takes, are together of bulk at most 1048576: NARROWER than '..Said'. Prove '..Said' where nothing that the law and all that it calls make is longer than what came in: it says more and counts as full. Else prove '..UptoSaid'. A law counts once. -/
mutual
def uptoBulk {H : Type} : DataW H → Nat
  | .lit (.string bytes) => bytes.length + 1
  | .lit _ => 1
  | .nil => 1
  | .ptr d => uptoBulk d + 1
  | .slice elems spare => uptoBulkAll elems + uptoBulkAll spare + 1
  | .agg parts => uptoBulkAll parts + 1
  | .iface _ d => uptoBulk d + 1
  | .map entries => uptoBulkEntries entries + 1
  | .held _ => 1
def uptoBulkAll {H : Type} : List (DataW H) → Nat
  | [] => 0
  | d :: r => uptoBulk d + uptoBulkAll r
def uptoBulkEntries {H : Type} : List (Lit × DataW H) → Nat
  | [] => 0
  | x :: r => uptoBulkEntry x + uptoBulkEntries r
def uptoBulkEntry {H : Type} : Lit × DataW H → Nat
  | (.string bytes, d) => bytes.length + uptoBulk d + 1
  | (_, d) => uptoBulk d + 1
 end
def uptoSmall : (H : Type) → List (DataW H) → Bool := fun _ ds => decide (uptoBulkAll ds ≤ 1048576)
def OpenSpec.upto (s : _root_.Go.ChangeSpec) : _root_.Go.OpenSpec := { _root_.Go.OpenSpec.ofChange s with cond := some uptoSmall }

/-- 'laws.FnReports', WHERE WHAT IT READS IS OF BULK AT MOST 1048576: true; the input reads as it did. -/
def fnReportsUptoRow : OpenClaim := { program := "ytfakgekanapbnaagreat", sum := "27e4ed30a33f5de6184c92af399734d5b0181e84af8c9a7b09510d412b25e280", func := "loop.example/g00967/laws.FnReports", spec := "fnReports", apart := false, narrowed := true }
def FnReportsUptoSaid : Prop := fnReportsUptoRow.holds Tryz.pinned (OpenSpec.upto fnReportsSpec)

/-- 'laws.FnTurns', WHERE WHAT IT READS IS OF BULK AT MOST 1048576: true; the input reads as it did. -/
def fnTurnsUptoRow : OpenClaim := { program := "ytfakgekanapbnaagreat", sum := "27e4ed30a33f5de6184c92af399734d5b0181e84af8c9a7b09510d412b25e280", func := "loop.example/g00967/laws.FnTurns", spec := "fnTurns", apart := false, narrowed := true }
def FnTurnsUptoSaid : Prop := fnTurnsUptoRow.holds Tryz.pinned (OpenSpec.upto fnTurnsSpec)

/-- 'laws.FnWorlds', WHERE WHAT IT READS IS OF BULK AT MOST 1048576: true; the input reads as it did. -/
def fnWorldsUptoRow : OpenClaim := { program := "ytfakgekanapbnaagreat", sum := "27e4ed30a33f5de6184c92af399734d5b0181e84af8c9a7b09510d412b25e280", func := "loop.example/g00967/laws.FnWorlds", spec := "fnWorlds", apart := false, narrowed := true }
def FnWorldsUptoSaid : Prop := fnWorldsUptoRow.holds Tryz.pinned (OpenSpec.upto fnWorldsSpec)

/-- 'laws.FnSafe', WHERE WHAT IT READS IS OF BULK AT MOST 1048576: true; the input reads as it did. -/
def fnSafeUptoRow : OpenClaim := { program := "ytfakgekanapbnaagreat", sum := "27e4ed30a33f5de6184c92af399734d5b0181e84af8c9a7b09510d412b25e280", func := "loop.example/g00967/laws.FnSafe", spec := "fnSafe", apart := false, narrowed := true }
def FnSafeUptoSaid : Prop := fnSafeUptoRow.holds Tryz.pinned (OpenSpec.upto fnSafeSpec)

end Rows
end Go.Proofs.YtfakgekanapbnaaGreat
