/-
  PROVED: FnCalm returns true for every input, and leaves its arguments as they were. (From the contract of the law's text to the given statement; written by vlaw.py.)
-/
import Derived.Test.YteknmpdmhiomgaaGreatZFnCalmA
import Derived.Test.YteknmpdmhiomgaaGreatZFnCalmB
import Derived.Test.YteknmpdmhiomgaaGreatZFnCalmC
import Derived.Test.YteknmpdmhiomgaaGreatZFnCalmD
import Derived.Test.YteknmpdmhiomgaaGreatZFnCalmE
import Derived.Test.YteknmpdmhiomgaaGreatZFnCalmF
import Derived.Test.YteknmpdmhiomgaaGreatZFnCalmG
import Derived.Test.YteknmpdmhiomgaaGreatZFnCalmH
import Derived.Test.YteknmpdmhiomgaaGreatZFnCalmI
import Derived.Test.YteknmpdmhiomgaaGreatZFnCalmJ
import Derived.Test.YteknmpdmhiomgaaGreatZFnCalmK
import Derived.Test.YteknmpdmhiomgaaGreatZFnCalmL
import Derived.Test.YteknmpdmhiomgaaGreatRows
import Derived.ChangeOld
import Derived.Carry
namespace Go.Proofs.YteknmpdmhiomgaaGreat.fnCalm
open Go.ChangeShapes Go.WideShapes Go.ChangeAt Go.RowKit
open Go.ChangeMaps (open_string shut_string)
set_option linter.unusedVariables false

theorem own : ownKnob Tryz.prog.godebug = none := by kernel_rfl
theorem laidOut : laidOutB Tryz.prog = true := by kernel_rfl

set_option maxRecDepth 100000 in
theorem lifted (os : Os) (started : os.Started) (H : Type) (enc : TypeId × Value → H) :
    ReturnsInHanded {} Tryz.checked os 3 .any (Rows.fnCalmSpec.pre6 enc Tryz.prog Tryz.f3 Rows.fnCalmRow.domain false) (Rows.fnCalmSpec.post enc Tryz.prog Tryz.f3 false true false false) := by
  refine returnsInHanded_of_change (C := Tryz.checked) own started (by kernel_rfl) Tryz.func3
    (ChangeSpec.witness6 (enc := enc) (C := Tryz.checked) false ⟨#[], #[.slice none 0 0], []⟩ 8 (by kernel_rfl) (by kernel_rfl) (by kernel_rfl) (by kernel_rfl)) ?_
  intro W base args ds gs co hval0 hW hcnd _
  have hval : ∀ (j : Nat) t v, Tryz.f3.params[j]? = some t → args[j]? = some v → Value.okWide Tryz.prog W .any base t v := hval0
  have hW' := hW
  obtain ⟨p, q, hA0, hV, rfl, hfz, hnd⟩ := hW
  have hA : DataW.TrodAll enc Tryz.prog W 0 (fun _ => true) true Tryz.f3.params.toList args.toList ds p := hA0
  rw [Tryz.params3] at hA hval
  obtain ⟨v0, vs0, d0, ds0, p0, q0, hargs, rfl, rfl, h0, r0⟩ := trodAll_cons hA
  obtain ⟨rfl, rfl, rfl⟩ := trodAll_nil r0
  obtain rfl : args = #[v0] := by cases args; simp_all
  obtain ⟨rfl, rfl⟩ := trodVars_none hV
  have k0 := h0
  have lt0 : ∀ x ∈ p0, x.block < W.heap.size := by obtain ⟨m, hm⟩ := k0; exact DataW.trod_lt m _ _ _ hm
  obtain ⟨A0, n0, c0, rfl⟩ := okWide_slice Tryz.underlying22 (hval 0 22 v0 rfl rfl)
  obtain ⟨fuel0, hf0⟩ := h0
  have s0 := Dg (enc := enc) (w := W) 6 fuel0 22 [.sl [.byte]] _ _ (by kernel_rfl) hf0
  obtain ⟨_, _, e0, sl0, rfl⟩ := s0
  simp only [Value.cells, List.cons.injEq, and_true] at e0
  subst e0
  obtain ⟨a0, pl0, in0, ln0, w0⟩ := M8 gf [.byte] (fun _ => True) (fun _ => rfl) (fun _ h => FM h) sl0
  obtain ⟨b0, hb0⟩ : ∃ b : Be, b = [pl0] := ⟨_, rfl⟩
  have bl0 : b0.length = 1 := by rw [hb0]; rfl
  clear hA0 hval0
  refine (MA (My a0 ln0 w0) (β := [pl0]) (w := W) (show Pv _ _ [pl0] [some _] from ⟨⟨rfl, in0.ob _ _, IV (fun _ => rfl) _⟩, trivial⟩) (vs := [.slice A0 n0 c0]) ⟨(in0.val _ _ (by rfl)), trivial⟩).mono fun e W' ⟨he, bel⟩ => ?_
  subst he
  exact ⟨_, rfl, _, _, _, [], _, [], hW', trodAll_mk1 (shut_bool Tryz.underlying4 _), (trodAll_cons_mk (Below.trod laidOut (by kernel_rfl) (of_decide_eq_true (by kernel_rfl)) k0 bel lt0) trodAll_mk0), rfl, bel.frame _, fun h => by cases h⟩

theorem closed : joinedFacts Tryz.prog 3 Tryz.f3 Rows.fnCalmSpec Rows.fnCalmRow = true :=
  G8 (G9 3 18 (by kernel_rfl) (Ix (h := 18) (Ix (h := 7) yP.1 (by kernel_rfl)) (by kernel_rfl)) (by kernel_rfl)) rfl rfl rfl rfl Og J2 MC rfl rfl (by kernel_rfl)
theorem over : Rows.fnCalmRow.holds Tryz.pinned (OpenSpec.ofChange Rows.fnCalmSpec) :=
  OpenClaim.holds_of_wide 3 Tryz.f3 rfl rfl rfl rfl rfl rfl rfl ⟨rfl, rfl, rfl, rfl, rfl⟩ rfl rfl rfl rfl rfl (by kernel_rfl) Tryz.func3 closed
    (of_decide_eq_true (by kernel_rfl)) (by unfold Func.isWrapper; first | (rw [if_pos (by decide +kernel)]; kernel_rfl) | (rw [if_neg (by decide +kernel)]; exact ⟨rfl, rfl⟩))
    (fun os started H enc _ => lifted os started H enc)

/-- The statement. -/
theorem proved : Rows.FnCalmSaid := over
#print axioms proved
end Go.Proofs.YteknmpdmhiomgaaGreat.fnCalm

