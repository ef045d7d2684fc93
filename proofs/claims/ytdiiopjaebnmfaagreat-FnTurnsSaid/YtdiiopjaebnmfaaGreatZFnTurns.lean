/-
  PROVED: FnTurns returns true for every input, and leaves its arguments as they were. (From the contract of the law's text to the given statement; written by vlaw.py.)
-/
import Derived.Test.YtdiiopjaebnmfaaGreatZFnBaseA
import Derived.Test.YtdiiopjaebnmfaaGreatZFnBaseB
import Derived.Test.YtdiiopjaebnmfaaGreatZFnBaseC
import Derived.Test.YtdiiopjaebnmfaaGreatZFnBaseD
import Derived.Test.YtdiiopjaebnmfaaGreatZFnBaseE
import Derived.Test.YtdiiopjaebnmfaaGreatZFnBaseF
import Derived.Test.YtdiiopjaebnmfaaGreatZFnBaseG
import Derived.Test.YtdiiopjaebnmfaaGreatZFnBaseH
import Derived.Test.YtdiiopjaebnmfaaGreatZFnBaseI
import Derived.Test.YtdiiopjaebnmfaaGreatZFnBaseJ
import Derived.Test.YtdiiopjaebnmfaaGreatZFnBaseK
import Derived.Test.YtdiiopjaebnmfaaGreatZFnBaseL
import Derived.Test.YtdiiopjaebnmfaaGreatZFnBaseM
import Derived.Test.YtdiiopjaebnmfaaGreatZFnBaseN
import Derived.Test.YtdiiopjaebnmfaaGreatZFnBaseO
import Derived.Test.YtdiiopjaebnmfaaGreatZFnBaseP
import Derived.Test.YtdiiopjaebnmfaaGreatZFnTurnsA
import Derived.Test.YtdiiopjaebnmfaaGreatRows
import Derived.ChangeOld
import Derived.Carry
namespace Go.Proofs.YtdiiopjaebnmfaaGreat.fnTurns
open Go.ChangeShapes Go.WideShapes Go.ChangeAt Go.RowKit
open Go.ChangeMaps (open_string shut_string)
set_option linter.unusedVariables false

theorem own : ownKnob Tryz.prog.godebug = none := by kernel_rfl
theorem laidOut : laidOutB Tryz.prog = true := by kernel_rfl

set_option maxRecDepth 100000 in
theorem lifted (os : Os) (started : os.Started) (H : Type) (enc : TypeId × Value → H) :
    ReturnsInHanded {} Tryz.checked os 4 .any (Rows.fnTurnsSpec.pre6 enc Tryz.prog Tryz.f4 Rows.fnTurnsRow.domain false) (Rows.fnTurnsSpec.post enc Tryz.prog Tryz.f4 false true false false) := by
  refine returnsInHanded_of_change (C := Tryz.checked) own started (by kernel_rfl) Tryz.func4
    (ChangeSpec.witness6 (enc := enc) (C := Tryz.checked) false ⟨#[], #[.slice none 0 0], []⟩ 8 (by kernel_rfl) (by kernel_rfl) (by kernel_rfl) (by kernel_rfl)) ?_
  intro W base args ds gs aQ hval0 hW hcnd _
  have hval : ∀ (j : Nat) t v, Tryz.f4.params[j]? = some t → args[j]? = some v → Value.okWide Tryz.prog W .any base t v := hval0
  have hW' := hW
  obtain ⟨p, q, hA0, hV, rfl, hfz, hnd⟩ := hW
  have hA : DataW.TrodAll enc Tryz.prog W 0 (fun _ => true) true Tryz.f4.params.toList args.toList ds p := hA0
  rw [Tryz.params4] at hA hval
  obtain ⟨v0, vs0, d0, ds0, p0, q0, hargs, rfl, rfl, h0, r0⟩ := trodAll_cons hA
  obtain ⟨rfl, rfl, rfl⟩ := trodAll_nil r0
  obtain rfl : args = #[v0] := by cases args; simp_all
  obtain ⟨rfl, rfl⟩ := trodVars_none hV
  have k0 := h0
  have lt0 : ∀ x ∈ p0, x.block < W.heap.size := by obtain ⟨m, hm⟩ := k0; exact DataW.trod_lt m _ _ _ hm
  obtain ⟨A0, n0, c0, rfl⟩ := okWide_slice Tryz.underlying22 (hval 0 22 v0 rfl rfl)
  obtain ⟨fuel0, hf0⟩ := h0
  have s0 := G_ (enc := enc) (w := W) 6 fuel0 22 [.sl [.byte]] _ _ (by kernel_rfl) hf0
  obtain ⟨_, _, e0, sl0, rfl⟩ := s0
  simp only [Value.cells, List.cons.injEq, and_true] at e0
  subst e0
  obtain ⟨a0, pl0, in0, ln0, w0⟩ := Ka dL [.byte] (fun _ => True) (fun _ => rfl) (fun _ h => HO h) sl0
  obtain ⟨b0, hb0⟩ : ∃ b : Be, b = [pl0] := ⟨_, rfl⟩
  have bl0 : b0.length = 1 := by rw [hb0]; rfl
  clear hA0 hval0
  refine (JV (MF a0 ln0 w0) (β := [pl0]) (w := W) (show IL _ _ [pl0] [some _] from ⟨⟨rfl, in0.ob _ _, Iw (fun _ => rfl) _⟩, trivial⟩) (vs := [.slice A0 n0 c0]) ⟨(in0.val _ _ (by rfl)), trivial⟩).mono fun e W' ⟨he, bel⟩ => ?_
  subst he
  exact ⟨_, rfl, _, _, _, [], _, [], hW', trodAll_mk1 (shut_bool Tryz.underlying4 _), (trodAll_cons_mk (Below.trod laidOut (by kernel_rfl) (of_decide_eq_true (by kernel_rfl)) k0 bel lt0) trodAll_mk0), rfl, bel.frame _, fun h => by cases h⟩

theorem closed : joinedFacts Tryz.prog 4 Tryz.f4 Rows.fnTurnsSpec Rows.fnTurnsRow = true :=
  IB (ID 4 (by kernel_rfl)) rfl rfl rfl rfl Ke IC J6 rfl rfl (by kernel_rfl)
theorem over : Rows.fnTurnsRow.holds Tryz.pinned (OpenSpec.ofChange Rows.fnTurnsSpec) :=
  OpenClaim.holds_of_wide 4 Tryz.f4 rfl rfl rfl rfl rfl rfl rfl ⟨rfl, rfl, rfl, rfl, rfl⟩ rfl rfl rfl rfl rfl (by kernel_rfl) Tryz.func4 closed
    (of_decide_eq_true (by kernel_rfl)) (by unfold Func.isWrapper; first | (rw [if_pos (by decide +kernel)]; kernel_rfl) | (rw [if_neg (by decide +kernel)]; exact ⟨rfl, rfl⟩))
    (fun os started H enc _ => lifted os started H enc)

/-- The statement. -/
theorem proved : Rows.FnTurnsSaid := over
#print axioms proved
end Go.Proofs.YtdiiopjaebnmfaaGreat.fnTurns

