import Derived.Test.YtoghbjbfldlfpaaGreatVW4
namespace Go.Proofs.YtoghbjbfldlfpaaGreat
open Go.RowKit
set_option linter.unusedVariables false
set_option linter.unusedSimpArgs false
set_option maxRecDepth 10000

theorem joined_loop_le {y : List UInt8} {l : List (List UInt8)} {k : Nat} {acc : List UInt8} (h : k < l.length) (hx : joinGo y k acc (l.drop k) = joinL y l) : (if 0 < k then acc ++ y else acc).length + l[k].length ≤ (joinL y l).length := by
  rw [joinGo_step h] at hx
  rw [← hx]
  have := joinGo_le (y := y) (l := l.drop (k + 1)) (k := k + 1) (acc := (if 0 < k then acc ++ y else acc) ++ l[k])
  simpa using this
end Go.Proofs.YtoghbjbfldlfpaaGreat
