/-
  The lines of an endpoint, as plain Lean.
-/
import Derived.Test.YtoghbjbfldlfpaaGreatVModelE
namespace Go.Proofs.YtoghbjbfldlfpaaGreat
set_option linter.unusedVariables false

abbrev Txt := List UInt8
def roadW (r : RoadD) : Txt := dec r.own ++ [45] ++ dec r.far ++ [58] ++ dec r.port
def stateW (n : Int) : Txt := if n = 1 then [97, 115, 107, 101, 100] else if n = 2 then [104, 97, 108, 102] else if n = 3 then [111, 110] else if n = 4 then [103, 111, 110, 101] else [63]
def hdL (e : EndD) : Txt := [101, 110, 100, 32] ++ dec e.side ++ [32, 115, 116, 97, 116, 101, 32] ++ dec e.state ++ [32, 110, 111, 119, 32] ++ dec e.now
def subB (i : Nat) (s : SubD) : Txt := [115, 117, 98, 32] ++ dec (i : Int) ++ [32] ++ roadW s.road ++ [32] ++ stateW s.state
def subL (i : Nat) (s : SubD) : Txt := if s.spare then subB i s ++ [32, 115, 112, 97, 114, 101] else subB i s
def ownB (a : AddrD) : Txt := [111, 119, 110, 32] ++ dec a.id ++ [32] ++ dec a.addr
def ownL (a : AddrD) : Txt := if a.told then ownB a else ownB a ++ [32, 117, 110, 116, 111, 108, 100]
def farLn (a : AddrD) : Txt := [102, 97, 114, 32] ++ dec a.id ++ [32] ++ dec a.addr
def sentL (e : EndD) : Txt := [115, 101, 110, 116, 32] ++ dec e.out.base ++ [32, 111, 102, 32] ++ dec (IntKind.i64.wrap (e.out.base + (e.out.text.length : Int)))
def nextOf (p : PiecesD) : Int := IntKind.i64.wrap (p.read + (p.ready.length : Int))
def readL (e : EndD) : Txt := [114, 101, 97, 100, 32] ++ dec e.inp.read ++ [32, 111, 102, 32] ++ dec (nextOf e.inp)
def subLs (k : Nat) : List SubD → List Txt
  | [] => []
  | s :: r => subL k s :: subLs (k + 1) r
theorem subLs_step {l : List SubD} {k : Nat} (h : k < l.length) : subLs k (l.drop k) = subL k l[k] :: subLs (k + 1) (l.drop (k + 1)) := by
  rw [List.drop_eq_getElem_cons h, subLs]
theorem subLs_len : ∀ {l : List SubD} {k : Nat}, (subLs k l).length = l.length
  | [], _ => rfl
  | s :: r, k => by rw [subLs, List.length_cons, subLs_len, List.length_cons]
def part1 (e : EndD) : List Txt := hdL e :: subLs 0 e.subs
def part2 (e : EndD) : List Txt := part1 e ++ e.own.map ownL
def part3 (e : EndD) : List Txt := part2 e ++ e.far.map farLn
def endLines (e : EndD) : List Txt := part3 e ++ [sentL e, readL e]
theorem part1_len (e : EndD) : (part1 e).length = e.subs.length + 1 := by rw [part1, List.length_cons, subLs_len]
theorem part2_len (e : EndD) : (part2 e).length = e.subs.length + 1 + e.own.length := by rw [part2, List.length_append, part1_len, List.length_map]
theorem part3_len (e : EndD) : (part3 e).length = e.subs.length + 1 + e.own.length + e.far.length := by rw [part3, List.length_append, part2_len, List.length_map]
theorem endLines_len (e : EndD) : (endLines e).length = e.subs.length + 3 + e.own.length + e.far.length := by
  rw [endLines, List.length_append, part3_len]
  simp
  omega
theorem wrap_in (n : Int) : I64 (IntKind.i64.wrap n) := by
  rw [IntKind.wrap_i64]
  constructor <;> omega
theorem roadW_len {r : RoadD} (h : r.wf) : (roadW r).length ≤ 65 := by
  have h1 := dec_le h.1
  have h2 := dec_le h.2.1
  have h3 := dec_le h.2.2
  simp only [roadW, List.length_append, List.length_cons, List.length_nil]
  omega
theorem stateW_len (n : Int) : (stateW n).length ≤ 5 := by
  rw [stateW]
  split
  · decide
  · split
    · decide
    · split
      · decide
      · split <;> decide
end Go.Proofs.YtoghbjbfldlfpaaGreat
