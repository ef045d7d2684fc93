/-
  NARROWER THAN 'FOR EVERY INPUT', by the rows' own cells (each row's printed sentence says how): FnScripts: laid · FnExactRunScript: laid.
  DERIVED. THE GIVEN ROWS OF THIS SEAT. 2 by the template 'for every input the law returns true; each argument reads behind the call as it read before'; 0 by the template 'total and deterministic' (their statements: YtdiiopjaebnmfaaGreatDoorTotals.lean).
  GIVEN WITH THE SEED: the statements are not yours to turn. If you find one false, say at which input.
  Laid BY PROGRAM, IN A SANDBOX (cutbox-rows.mjs): the forced cells as the released guide's own fill.sh prints them over the translation 9bad6b16007d9415… (all of the seat's roots in one cut). By AI agents, Wed Nov 11 2026. No macro, syntax, notation, axiom, sorry.
-/
import Derived.Test.YtdiiopjaebnmfaaGreatDoorChecked
import GoSem.Claim
import GoSem.ClaimJoined
import GoSem.ClaimMapViews
import Derived.JoinedTies
import Derived.KernelRfl
namespace Go.Proofs.YtdiiopjaebnmfaaGreatDoor
/- THE CELL 'sum', in the pinned program and in every row, IS THE sha256 OF THE DUMP (.gsa) THAT YtdiiopjaebnmfaaGreatDoorProg.lean LOADS. Nothing in Lean hashes anything: it is a label: what it is worth is what the hold of that sum in a sandbox is worth. -/
noncomputable def Tryz.pinned : Pinned := { name := "ytdiiopjaebnmfaagreatdoor", sum := "9bad6b16007d9415b4fa78085648b82db6942cbd24b2a98ae8c2b88a7673c4c9", checked := Tryz.checked }
namespace Rows
def none {H : Type} : Left H := { results := [], args := [] }

/- WHAT THE LISTED PACKAGE-LEVEL VARIABLES READ AS WHEN THE CALL BEGINS. Each datum BY PROGRAM (the guide's laid-datum.mjs) off the statement by which the dump's own 'gosem.cut.vars' lays the variable. In a bare row this is a premise. The card (YtdiiopjaebnmfaaGreatDoorCards.lean) ties it to the program's text. -/
def laid_loop_example_g00967_impl_actWords {H : Type} : DataW H := .agg [.lit (.string []), .lit (.string [119, 114, 105, 116, 101]), .lit (.string [114, 101, 97, 100]), .lit (.string [116, 105, 99, 107]), .lit (.string [109, 97, 110, 97, 103, 101]), .lit (.string [97, 100, 100, 114]), .lit (.string [100, 114, 111, 112]), .lit (.string [114, 101, 115, 101, 116]), .lit (.string [100, 101, 108, 105, 118, 101, 114]), .lit (.string [108, 111, 115, 101]), .lit (.string [99, 111, 112, 121]), .lit (.string [105, 110, 106, 101, 99, 116]), .lit (.string [97, 103, 97, 105, 110])]

/-- 'laws.FnScripts': WHATEVER THE INPUT: true; the input reads as it did. -/
def fnScriptsSpec : ChangeSpec := { name := "fnScripts", vars := ["loop.example/g00967/impl.actWords"], fn := fun _ => fun
  | [d, g1] => { results := [.lit (.bool true)], args := [d], vars := [g1] }
  | _ => none }
def fnScriptsRow : OpenClaim := { program := "ytdiiopjaebnmfaagreatdoor", sum := "9bad6b16007d9415b4fa78085648b82db6942cbd24b2a98ae8c2b88a7673c4c9", func := "loop.example/g00967/laws.FnScripts", spec := "fnScripts", unfollowed := true, recurses := true, named := ["loop.example/g00967/impl.actWords"], apart := false, laid := [("loop.example/g00967/impl.actWords", laid_loop_example_g00967_impl_actWords)] }
def FnScriptsSaid : Prop := fnScriptsRow.holds Tryz.pinned (OpenSpec.ofChange fnScriptsSpec)

/-- ITS FALSE NEIGHBOUR: 'it returns false'. Refute it at one input. -/
def fnScriptsWrong : ChangeSpec := { name := "fnScripts", vars := ["loop.example/g00967/impl.actWords"], fn := fun _ => fun
  | [d, g1] => { results := [.lit (.bool false)], args := [d], vars := [g1] }
  | _ => none }
def FnScriptsWrongFalsely : Prop := fnScriptsRow.holds Tryz.pinned (OpenSpec.ofChange fnScriptsWrong)

/-- 'laws.FnExactRunScript': WHATEVER THE INPUT: true; the input reads as it did. -/
def fnExactRunScriptSpec : ChangeSpec := { name := "fnExactRunScript", vars := ["loop.example/g00967/impl.actWords"], fn := fun _ => fun
  | [d, g1] => { results := [.lit (.bool true)], args := [d], vars := [g1] }
  | _ => none }
def fnExactRunScriptRow : OpenClaim := { program := "ytdiiopjaebnmfaagreatdoor", sum := "9bad6b16007d9415b4fa78085648b82db6942cbd24b2a98ae8c2b88a7673c4c9", func := "loop.example/g00967/laws.FnExactRunScript", spec := "fnExactRunScript", unfollowed := true, recurses := true, named := ["loop.example/g00967/impl.actWords"], apart := false, laid := [("loop.example/g00967/impl.actWords", laid_loop_example_g00967_impl_actWords)] }
def FnExactRunScriptSaid : Prop := fnExactRunScriptRow.holds Tryz.pinned (OpenSpec.ofChange fnExactRunScriptSpec)

/-- ITS FALSE NEIGHBOUR: 'it returns false'. Refute it at one input. -/
def fnExactRunScriptWrong : ChangeSpec := { name := "fnExactRunScript", vars := ["loop.example/g00967/impl.actWords"], fn := fun _ => fun
  | [d, g1] => { results := [.lit (.bool false)], args := [d], vars := [g1] }
  | _ => none }
def FnExactRunScriptWrongFalsely : Prop := fnExactRunScriptRow.holds Tryz.pinned (OpenSpec.ofChange fnExactRunScriptWrong)

/- THE SECOND FORM. 'bulk': how many values and letters a reading holds, each counted each time it is reached (what is shared counts as often as it is met; a slice's spare places count too). A statement '..UptoSaid' is the law's where the arguments, and the package variables that the reading takes, are together of bulk at most 1048576: NARROWER than '..Said'. Prove '..Said' where nothing that the law and all that it calls make is longer than what came in: it says more and counts as full. Else prove '..UptoSaid'. A law counts once. -/
mutual
def uptoBulk {H : Type} : DataW H → Nat
  | .lit (.string bytes) => bytes.length + 1
  | .lit _ => 1
  | .nil => 1
  | .ptr d => uptoBulk d + 1
  | .slice elems spare => uptoBulkAll elems + uptoBulkAll spare + 1
  | .agg parts => uptoBulkAll parts + 1
  | .iface _ d => uptoBulk d + 1
  | .map entries => uptoBulkEntries entries + 1
  | .held _ => 1
def uptoBulkAll {H : Type} : List (DataW H) → Nat
  | [] => 0
  | d :: r => uptoBulk d + uptoBulkAll r
def uptoBulkEntries {H : Type} : List (Lit × DataW H) → Nat
  | [] => 0
  | x :: r => uptoBulkEntry x + uptoBulkEntries r
def uptoBulkEntry {H : Type} : Lit × DataW H → Nat
  | (.string bytes, d) => bytes.length + uptoBulk d + 1
  | (_, d) => uptoBulk d + 1
 end
def uptoSmall : (H : Type) → List (DataW H) → Bool := fun _ ds => decide (uptoBulkAll ds ≤ 1048576)
def OpenSpec.upto (s : _root_.Go.ChangeSpec) : _root_.Go.OpenSpec := { _root_.Go.OpenSpec.ofChange s with cond := some uptoSmall }

/-- 'laws.FnScripts', WHERE WHAT IT READS IS OF BULK AT MOST 1048576: true; the input reads as it did. -/
def fnScriptsUptoRow : OpenClaim := { program := "ytdiiopjaebnmfaagreatdoor", sum := "9bad6b16007d9415b4fa78085648b82db6942cbd24b2a98ae8c2b88a7673c4c9", func := "loop.example/g00967/laws.FnScripts", spec := "fnScripts", unfollowed := true, recurses := true, named := ["loop.example/g00967/impl.actWords"], apart := false, laid := [("loop.example/g00967/impl.actWords", laid_loop_example_g00967_impl_actWords)], narrowed := true }
def FnScriptsUptoSaid : Prop := fnScriptsUptoRow.holds Tryz.pinned (OpenSpec.upto fnScriptsSpec)

/-- 'laws.FnExactRunScript', WHERE WHAT IT READS IS OF BULK AT MOST 1048576: true; the input reads as it did. -/
def fnExactRunScriptUptoRow : OpenClaim := { program := "ytdiiopjaebnmfaagreatdoor", sum := "9bad6b16007d9415b4fa78085648b82db6942cbd24b2a98ae8c2b88a7673c4c9", func := "loop.example/g00967/laws.FnExactRunScript", spec := "fnExactRunScript", unfollowed := true, recurses := true, named := ["loop.example/g00967/impl.actWords"], apart := false, laid := [("loop.example/g00967/impl.actWords", laid_loop_example_g00967_impl_actWords)], narrowed := true }
def FnExactRunScriptUptoSaid : Prop := fnExactRunScriptUptoRow.holds Tryz.pinned (OpenSpec.upto fnExactRunScriptSpec)

end Rows
end Go.Proofs.YtdiiopjaebnmfaaGreatDoor
