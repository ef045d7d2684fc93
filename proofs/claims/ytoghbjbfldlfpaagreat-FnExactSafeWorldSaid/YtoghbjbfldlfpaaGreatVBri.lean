/-
  From a contract over things that came in to the kit's Calls.
-/
import Derived.Test.YtoghbjbfldlfpaaGreatVData
import Derived.Test.YtoghbjbfldlfpaaGreatVLib
namespace Go.Proofs.YtoghbjbfldlfpaaGreat
open Go.RowKit
set_option linter.unusedVariables false

def roHp : Hp → Bool
  | [] => true
  | some ob :: h => !ob.own && roHp h
  | none :: h => roHp h
theorem roHp_get : ∀ {h : Hp} {o : Nat} {ob : AObj}, roHp h = true → h[o]? = some (some ob) → ob.own = false
  | some x :: h, 0, ob, hr, ho => by
    simp only [roHp, Bool.and_eq_true, Bool.not_eq_true'] at hr
    simp at ho
    subst ho
    exact hr.1
  | some x :: h, o + 1, ob, hr, ho => by
    simp only [roHp, Bool.and_eq_true] at hr
    exact roHp_get hr.2 (by simpa using ho)
  | none :: h, 0, ob, hr, ho => by simp at ho
  | none :: h, o + 1, ob, hr, ho => roHp_get (h := h) hr (by simpa using ho)
  | [], o, ob, _, ho => by simp at ho
theorem roL_ro {β : Be} {w : World} : ∀ {l : Be} {h : Hp}, RoL β w l h → roHp h = true
  | [], [], _ => rfl
  | p :: l, some ob :: h, hr => by
    have := roL_ro hr.2
    simp [roHp, hr.1.1, this]
  | [], _ :: _, h => h.elim
  | _ :: _, [], h => h.elim
  | _ :: _, none :: _, h => h.elim
theorem roL_append {β : Be} {w : World} : ∀ {l : Be} {h : Hp} {l' : Be} {h' : Hp}, RoL β w l h → RoL β w l' h' → RoL β w (l ++ l') (h ++ h')
  | [], [], _, _, _, h' => h'
  | p :: l, some ob :: h, _, _, hr, h' => ⟨hr.1, roL_append hr.2 h'⟩
  | [], _ :: _, _, _, h, _ => h.elim
  | _ :: _, [], _, _, h, _ => h.elim
  | _ :: _, none :: _, _, _, h, _ => h.elim
/-- A contract over a heap that may not be written: all that was there is as it was. -/
theorem callA_ro {P : Program} {f : FuncId} {args : List AV} {b : Bool} {h h' : Hp} (ct : CallA P f args h (.sc (.bo b)) h') {β : Be} {w : World} (hr : RoL β w β h) {vs : List Value} (hvs : L2 (AVR β) args vs) :
    Calls P f vs.toArray w fun e w' => e = .returned (.bool b) ∧ Below w.heap.size w w' :=
  (ct.2 β w vs (hsim_roL hr) hvs).mono fun e w' ⟨β', v, he, hv, hh, hst⟩ => by
    have hv' : v = .bool b := hv
    subst hv'
    exact ⟨he, ⟨hst.os, hst.tape, hst.output, hst.size, fun k hk => hst.block k hk fun ⟨o, ob, p, ho, hown, hp, _⟩ => by
      rw [roHp_get (roL_ro hr) ho] at hown
      cases hown⟩⟩
theorem strWf {s : ByteArray} (h : s.size ≤ maxLen) : s.data.toList.length ≤ 9223372036854775807 := by
  have h' : s.size ≤ 9223372036854775807 := h
  simpa using h'
end Go.Proofs.YtoghbjbfldlfpaaGreat
