import Derived.Test.YtoghbjbfldlfpaaGreatVE2
namespace Go.Proofs.YtoghbjbfldlfpaaGreat
open Go.RowKit
set_option linter.unusedVariables false
set_option linter.unusedSimpArgs false
set_option maxRecDepth 20000

theorem map_step {α β : Type} {f : α → β} {l : List α} {k : Nat} (h : k < l.length) : (l.drop k).map f = f l[k] :: (l.drop (k + 1)).map f := by
  rw [List.drop_eq_getElem_cons h, List.map_cons]
theorem filter_step {α : Type} {p : α → Bool} {l : List α} {k : Nat} (h : k < l.length) : (l.drop k).filter p = if p l[k] then l[k] :: (l.drop (k + 1)).filter p else (l.drop (k + 1)).filter p := by
  rw [List.drop_eq_getElem_cons h, List.filter_cons]
theorem roadEq_t {a b : RoadD} (h : a.own = b.own ∧ a.far = b.far ∧ a.port = b.port) : roadEq a b = true := by simp [roadEq, h]
theorem roadEq_f {a b : RoadD} (h : ¬ a.own = b.own ∨ ¬ a.far = b.far ∨ ¬ a.port = b.port) : roadEq a b = false := by
  rw [roadEq]
  rcases h with h | h | h <;> simp [h]
end Go.Proofs.YtoghbjbfldlfpaaGreat
