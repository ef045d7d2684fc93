/-
  No cell of these rows narrows 'for every input' (looked for: loops, veiled, ifaces, maps, wideKeys, modest, calm, conditions, laid).
  DERIVED. THE GIVEN ROWS OF THIS SEAT. 6 by the template 'for every input the law returns true; each argument reads behind the call as it read before'; 0 by the template 'total and deterministic' (their statements: YtjghbknhneffjaaGreatTotals.lean).
  GIVEN WITH THE SEED: the statements are not yours to turn. If you find one false, say at which input.
  Laid BY PROGRAM, IN A SANDBOX (cutbox-rows.mjs): the forced cells as the released guide's own fill.sh prints them over the translation ab3bc0d533a15814… (all of the seat's roots in one cut). By AI agents, Wed Nov 11 2026. No macro, syntax, notation, axiom, sorry.
-/
import Derived.Test.YtjghbknhneffjaaGreatChecked
import GoSem.Claim
import GoSem.ClaimJoined
import GoSem.ClaimMapViews
import Derived.JoinedTies
import Derived.KernelRfl
namespace Go.Proofs.YtjghbknhneffjaaGreat
/- THE CELL 'sum', in the pinned program and in every row, IS THE sha256 OF THE DUMP (.gsa) THAT YtjghbknhneffjaaGreatProg.lean LOADS. Nothing in Lean hashes anything: it is a label: what it is worth is what the hold of that sum in a sandbox is worth. -/
noncomputable def Tryz.pinned : Pinned := { name := "ytjghbknhneffjaagreat", sum := "ab3bc0d533a158142bc9e489e04042a91f460404c550818a577ba76e64c73272", checked := Tryz.checked }
namespace Rows
def none {H : Type} : Left H := { results := [], args := [] }

/-- 'laws.FnInjected': WHATEVER THE INPUT: true; the input reads as it did. -/
def fnInjectedSpec : ChangeSpec := { name := "fnInjected", fn := fun _ => fun
  | [d] => { results := [.lit (.bool true)], args := [d] }
  | _ => none }
def fnInjectedRow : OpenClaim := { program := "ytjghbknhneffjaagreat", sum := "ab3bc0d533a158142bc9e489e04042a91f460404c550818a577ba76e64c73272", func := "loop.example/g00967/laws.FnInjected", spec := "fnInjected", apart := false }
def FnInjectedSaid : Prop := fnInjectedRow.holds Tryz.pinned (OpenSpec.ofChange fnInjectedSpec)

/-- ITS FALSE NEIGHBOUR: 'it returns false'. Refute it at one input. -/
def fnInjectedWrong : ChangeSpec := { name := "fnInjected", fn := fun _ => fun
  | [d] => { results := [.lit (.bool false)], args := [d] }
  | _ => none }
def FnInjectedWrongFalsely : Prop := fnInjectedRow.holds Tryz.pinned (OpenSpec.ofChange fnInjectedWrong)

/-- 'laws.FnCalm': WHATEVER THE INPUT: true; the input reads as it did. -/
def fnCalmSpec : ChangeSpec := { name := "fnCalm", fn := fun _ => fun
  | [d] => { results := [.lit (.bool true)], args := [d] }
  | _ => none }
def fnCalmRow : OpenClaim := { program := "ytjghbknhneffjaagreat", sum := "ab3bc0d533a158142bc9e489e04042a91f460404c550818a577ba76e64c73272", func := "loop.example/g00967/laws.FnCalm", spec := "fnCalm", unfollowed := true, recurses := true, apart := false }
def FnCalmSaid : Prop := fnCalmRow.holds Tryz.pinned (OpenSpec.ofChange fnCalmSpec)

/-- ITS FALSE NEIGHBOUR: 'it returns false'. Refute it at one input. -/
def fnCalmWrong : ChangeSpec := { name := "fnCalm", fn := fun _ => fun
  | [d] => { results := [.lit (.bool false)], args := [d] }
  | _ => none }
def FnCalmWrongFalsely : Prop := fnCalmRow.holds Tryz.pinned (OpenSpec.ofChange fnCalmWrong)

/-- 'laws.FnTop': WHATEVER THE INPUT: true; the input reads as it did. -/
def fnTopSpec : ChangeSpec := { name := "fnTop", fn := fun _ => fun
  | [d] => { results := [.lit (.bool true)], args := [d] }
  | _ => none }
def fnTopRow : OpenClaim := { program := "ytjghbknhneffjaagreat", sum := "ab3bc0d533a158142bc9e489e04042a91f460404c550818a577ba76e64c73272", func := "loop.example/g00967/laws.FnTop", spec := "fnTop", apart := false }
def FnTopSaid : Prop := fnTopRow.holds Tryz.pinned (OpenSpec.ofChange fnTopSpec)

/-- ITS FALSE NEIGHBOUR: 'it returns false'. Refute it at one input. -/
def fnTopWrong : ChangeSpec := { name := "fnTop", fn := fun _ => fun
  | [d] => { results := [.lit (.bool false)], args := [d] }
  | _ => none }
def FnTopWrongFalsely : Prop := fnTopRow.holds Tryz.pinned (OpenSpec.ofChange fnTopWrong)

/-- 'laws.FnCarried': WHATEVER THE INPUT: true; the input reads as it did. -/
def fnCarriedSpec : ChangeSpec := { name := "fnCarried", fn := fun _ => fun
  | [d] => { results := [.lit (.bool true)], args := [d] }
  | _ => none }
def fnCarriedRow : OpenClaim := { program := "ytjghbknhneffjaagreat", sum := "ab3bc0d533a158142bc9e489e04042a91f460404c550818a577ba76e64c73272", func := "loop.example/g00967/laws.FnCarried", spec := "fnCarried", apart := false }
def FnCarriedSaid : Prop := fnCarriedRow.holds Tryz.pinned (OpenSpec.ofChange fnCarriedSpec)

/-- ITS FALSE NEIGHBOUR: 'it returns false'. Refute it at one input. -/
def fnCarriedWrong : ChangeSpec := { name := "fnCarried", fn := fun _ => fun
  | [d] => { results := [.lit (.bool false)], args := [d] }
  | _ => none }
def FnCarriedWrongFalsely : Prop := fnCarriedRow.holds Tryz.pinned (OpenSpec.ofChange fnCarriedWrong)

/-- 'laws.FnWindows': WHATEVER THE INPUT: true; the input reads as it did. -/
def fnWindowsSpec : ChangeSpec := { name := "fnWindows", fn := fun _ => fun
  | [d] => { results := [.lit (.bool true)], args := [d] }
  | _ => none }
def fnWindowsRow : OpenClaim := { program := "ytjghbknhneffjaagreat", sum := "ab3bc0d533a158142bc9e489e04042a91f460404c550818a577ba76e64c73272", func := "loop.example/g00967/laws.FnWindows", spec := "fnWindows", apart := false }
def FnWindowsSaid : Prop := fnWindowsRow.holds Tryz.pinned (OpenSpec.ofChange fnWindowsSpec)

/-- ITS FALSE NEIGHBOUR: 'it returns false'. Refute it at one input. -/
def fnWindowsWrong : ChangeSpec := { name := "fnWindows", fn := fun _ => fun
  | [d] => { results := [.lit (.bool false)], args := [d] }
  | _ => none }
def FnWindowsWrongFalsely : Prop := fnWindowsRow.holds Tryz.pinned (OpenSpec.ofChange fnWindowsWrong)

/-- 'laws.FnQuiet': WHATEVER THE INPUT: true; the input reads as it did. -/
def fnQuietSpec : ChangeSpec := { name := "fnQuiet", fn := fun _ => fun
  | [d] => { results := [.lit (.bool true)], args := [d] }
  | _ => none }
def fnQuietRow : OpenClaim := { program := "ytjghbknhneffjaagreat", sum := "ab3bc0d533a158142bc9e489e04042a91f460404c550818a577ba76e64c73272", func := "loop.example/g00967/laws.FnQuiet", spec := "fnQuiet", unfollowed := true, recurses := true, apart := false }
def FnQuietSaid : Prop := fnQuietRow.holds Tryz.pinned (OpenSpec.ofChange fnQuietSpec)

/-- ITS FALSE NEIGHBOUR: 'it returns false'. Refute it at one input. -/
def fnQuietWrong : ChangeSpec := { name := "fnQuiet", fn := fun _ => fun
  | [d] => { results := [.lit (.bool false)], args := [d] }
  | _ => none }
def FnQuietWrongFalsely : Prop := fnQuietRow.holds Tryz.pinned (OpenSpec.ofChange fnQuietWrong)

/- THE SECOND FORM. 'bulk': how many values and letters a reading holds, each counted each time it is reached (what is shared counts as often as it is met; a slice's spare places count too). A statement '..UptoSaid' is the law's where the arguments, and the package variables that the reading takes, are together of bulk at most 1048576: NARROWER than '..Said'. Prove '..Said' where nothing that the law and all that it calls make is longer than what came in: it says more and counts as full. Else prove '..UptoSaid'. A law counts once. -/
mutual
def uptoBulk {H : Type} : DataW H → Nat
  | .lit (.string bytes) => bytes.length + 1
  | .lit _ => 1
  | .nil => 1
  | .ptr d => uptoBulk d + 1
  | .slice elems spare => uptoBulkAll elems + uptoBulkAll spare + 1
  | .agg parts => uptoBulkAll parts + 1
  | .iface _ d => uptoBulk d + 1
  | .map entries => uptoBulkEntries entries + 1
  | .held _ => 1
def uptoBulkAll {H : Type} : List (DataW H) → Nat
  | [] => 0
  | d :: r => uptoBulk d + uptoBulkAll r
def uptoBulkEntries {H : Type} : List (Lit × DataW H) → Nat
  | [] => 0
  | x :: r => uptoBulkEntry x + uptoBulkEntries r
def uptoBulkEntry {H : Type} : Lit × DataW H → Nat
  | (.string bytes, d) => bytes.length + uptoBulk d + 1
  | (_, d) => uptoBulk d + 1
 end
def uptoSmall : (H : Type) → List (DataW H) → Bool := fun _ ds => decide (uptoBulkAll ds ≤ 1048576)
def OpenSpec.upto (s : _root_.Go.ChangeSpec) : _root_.Go.OpenSpec := { _root_.Go.OpenSpec.ofChange s with cond := some uptoSmall }

/-- 'laws.FnInjected', WHERE WHAT IT READS IS OF BULK AT MOST 1048576: true; the input reads as it did. -/
def fnInjectedUptoRow : OpenClaim := { program := "ytjghbknhneffjaagreat", sum := "ab3bc0d533a158142bc9e489e04042a91f460404c550818a577ba76e64c73272", func := "loop.example/g00967/laws.FnInjected", spec := "fnInjected", apart := false, narrowed := true }
def FnInjectedUptoSaid : Prop := fnInjectedUptoRow.holds Tryz.pinned (OpenSpec.upto fnInjectedSpec)

/-- 'laws.FnCalm', WHERE WHAT IT READS IS OF BULK AT MOST 1048576: true; the input reads as it did. -/
def fnCalmUptoRow : OpenClaim := { program := "ytjghbknhneffjaagreat", sum := "ab3bc0d533a158142bc9e489e04042a91f460404c550818a577ba76e64c73272", func := "loop.example/g00967/laws.FnCalm", spec := "fnCalm", unfollowed := true, recurses := true, apart := false, narrowed := true }
def FnCalmUptoSaid : Prop := fnCalmUptoRow.holds Tryz.pinned (OpenSpec.upto fnCalmSpec)

/-- 'laws.FnTop', WHERE WHAT IT READS IS OF BULK AT MOST 1048576: true; the input reads as it did. -/
def fnTopUptoRow : OpenClaim := { program := "ytjghbknhneffjaagreat", sum := "ab3bc0d533a158142bc9e489e04042a91f460404c550818a577ba76e64c73272", func := "loop.example/g00967/laws.FnTop", spec := "fnTop", apart := false, narrowed := true }
def FnTopUptoSaid : Prop := fnTopUptoRow.holds Tryz.pinned (OpenSpec.upto fnTopSpec)

/-- 'laws.FnCarried', WHERE WHAT IT READS IS OF BULK AT MOST 1048576: true; the input reads as it did. -/
def fnCarriedUptoRow : OpenClaim := { program := "ytjghbknhneffjaagreat", sum := "ab3bc0d533a158142bc9e489e04042a91f460404c550818a577ba76e64c73272", func := "loop.example/g00967/laws.FnCarried", spec := "fnCarried", apart := false, narrowed := true }
def FnCarriedUptoSaid : Prop := fnCarriedUptoRow.holds Tryz.pinned (OpenSpec.upto fnCarriedSpec)

/-- 'laws.FnWindows', WHERE WHAT IT READS IS OF BULK AT MOST 1048576: true; the input reads as it did. -/
def fnWindowsUptoRow : OpenClaim := { program := "ytjghbknhneffjaagreat", sum := "ab3bc0d533a158142bc9e489e04042a91f460404c550818a577ba76e64c73272", func := "loop.example/g00967/laws.FnWindows", spec := "fnWindows", apart := false, narrowed := true }
def FnWindowsUptoSaid : Prop := fnWindowsUptoRow.holds Tryz.pinned (OpenSpec.upto fnWindowsSpec)

/-- 'laws.FnQuiet', WHERE WHAT IT READS IS OF BULK AT MOST 1048576: true; the input reads as it did. -/
def fnQuietUptoRow : OpenClaim := { program := "ytjghbknhneffjaagreat", sum := "ab3bc0d533a158142bc9e489e04042a91f460404c550818a577ba76e64c73272", func := "loop.example/g00967/laws.FnQuiet", spec := "fnQuiet", unfollowed := true, recurses := true, apart := false, narrowed := true }
def FnQuietUptoSaid : Prop := fnQuietUptoRow.holds Tryz.pinned (OpenSpec.upto fnQuietSpec)

end Rows
end Go.Proofs.YtjghbknhneffjaaGreat
