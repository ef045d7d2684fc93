import Derived.Test.YtoghbjbfldlfpaaGreatVModelF
import Derived.Test.YtoghbjbfldlfpaaGreatVE5
import Derived.Test.YtoghbjbfldlfpaaGreatVW7
namespace Go.Proofs.YtoghbjbfldlfpaaGreat
open Go.RowKit
set_option linter.unusedVariables false
set_option linter.unusedSimpArgs false
set_option maxRecDepth 20000

theorem SubD.wf_road {s : SubD} (h : s.wf) : s.road.wf := ⟨h.1, h.2.1, h.2.2.1⟩
theorem strs_ext {a b : List (List UInt8)} (h : a = b) : a.map strC = b.map strC := by rw [h]
theorem impl_NextOf (p : PiecesD) : CallA Tryz.prog 100 [.ag (p.cs 0)] (p.hp false) (.sc (.int .i64 (nextOf p))) (p.hp false) := by
  refine callA_of Tryz.func100 (by kernel_rfl) rfl fun E hE => run_den 400 ?_
  simp (disch := omega) only [Tryz.ntmps100, Tryz.results100, go_sem, Nat.reduceEqDiff, Nat.reduceAdd, Nat.reduceSub, Int.reduceAdd, Int.reduceSub, Int.reduceToNat]
  refine den_fin [some (0, none)] (by (try simp (disch := omega) only [go_sem, Nat.reduceEqDiff, Nat.reduceAdd, Nat.reduceSub, Int.reduceAdd, Int.reduceSub, Int.reduceToNat]) <;> omega) _ (by simp only [go_sem]; rfl) (by rfl) (by rfl) ?_
  simp (disch := omega) only [go_sem, Nat.reduceEqDiff, Nat.reduceAdd, Nat.reduceSub, Int.reduceAdd, Int.reduceSub, Int.reduceToNat]
  try rfl
theorem spec_NextOf (p : PiecesD) : CallA Tryz.prog 90 [.ag (p.cs 0)] (p.hp false) (.sc (.int .i64 (nextOf p))) (p.hp false) := by
  refine callA_of Tryz.func90 (by kernel_rfl) rfl fun E hE => run_den 400 ?_
  simp (disch := omega) only [Tryz.ntmps90, Tryz.results90, go_sem, Nat.reduceEqDiff, Nat.reduceAdd, Nat.reduceSub, Int.reduceAdd, Int.reduceSub, Int.reduceToNat]
  refine den_fin [some (0, none)] (by (try simp (disch := omega) only [go_sem, Nat.reduceEqDiff, Nat.reduceAdd, Nat.reduceSub, Int.reduceAdd, Int.reduceSub, Int.reduceToNat]) <;> omega) _ (by simp only [go_sem]; rfl) (by rfl) (by rfl) ?_
  simp (disch := omega) only [go_sem, Nat.reduceEqDiff, Nat.reduceAdd, Nat.reduceSub, Int.reduceAdd, Int.reduceSub, Int.reduceToNat]
  try rfl
end Go.Proofs.YtoghbjbfldlfpaaGreat
