/-
  PROVED: FnExactEvenIn returns true for every input, and leaves its arguments as they were. (From the contract of the law's text to the given statement; written by vlaw.py.)
-/
import Derived.Test.YtoghbjbfldlfpaaRows
import Derived.Test.YtoghbjbfldlfpaaVG9
import Derived.Test.YtoghbjbfldlfpaaVBri
import Derived.Test.YtoghbjbfldlfpaaGraph
import Derived.ChangeOld
import Derived.Carry
namespace Go.Proofs.Ytoghbjbfldlfpaa.fnExactEvenIn
open Go.ChangeShapes Go.WideShapes Go.ChangeAt Go.RowKit
open Go.ChangeMaps (open_string shut_string)
set_option linter.unusedVariables false

theorem own : ownKnob Try.prog.godebug = none := by kernel_rfl
theorem laidOut : laidOutB Try.prog = true := by kernel_rfl

set_option maxRecDepth 100000 in
theorem lifted (os : Os) (started : os.Started) (H : Type) (enc : TypeId × Value → H) :
    ReturnsInHanded {} Try.checked os 9 .any (Rows.fnExactEvenInSpec.pre6 enc Try.prog Try.f9 Rows.fnExactEvenInRow.domain false) (Rows.fnExactEvenInSpec.post enc Try.prog Try.f9 false true false false) := by
  refine returnsInHanded_of_change (C := Try.checked) own started (by kernel_rfl) Try.func9
    (ChangeSpec.witness6 (enc := enc) (C := Try.checked) false ⟨#[], #[.agg #[.int .i64 0, .int .i64 0, .int .i64 0, .int .i64 0, .int .i64 0, .int .i64 0, .slice none 0 0, .slice none 0 0, .slice none 0 0, .slice none 0 0, .int .i64 0, .int .i64 0, .int .i64 0, .string ⟨#[]⟩, .int .i64 0, .int .i64 0, .int .i64 0, .int .i64 0, .string ⟨#[]⟩, .slice none 0 0, .slice none 0 0, .slice none 0 0, .int .i64 0, .int .i64 0, .int .i64 0], .slice none 0 0], []⟩ 8 (by kernel_rfl) (by kernel_rfl) (by kernel_rfl) (by kernel_rfl)) ?_
  intro W base args ds gs before hval0 hW hcnd _
  have hval : ∀ (j : Nat) t v, Try.f9.params[j]? = some t → args[j]? = some v → Value.okWide Try.prog W .any base t v := hval0
  have hW' := hW
  obtain ⟨p, q, hA0, hV, rfl, hfz, hnd⟩ := hW
  have hA : DataW.TrodAll enc Try.prog W 0 (fun _ => true) true Try.f9.params.toList args.toList ds p := hA0
  rw [Try.params9] at hA hval
  obtain ⟨v0, vs0, d0, ds0, p0, q0, hargs, rfl, rfl, h0, r0⟩ := trodAll_cons hA
  obtain ⟨v1, vs1, d1, ds1, p1, q1, rfl, rfl, rfl, h1, r1⟩ := trodAll_cons r0
  obtain ⟨rfl, rfl, rfl⟩ := trodAll_nil r1
  obtain rfl : args = #[v0, v1] := by cases args; simp_all
  obtain ⟨rfl, rfl⟩ := trodVars_none hV
  have k0 := h0
  have lt0 : ∀ x ∈ p0, x.block < W.heap.size := by obtain ⟨m, hm⟩ := k0; exact DataW.trod_lt m _ _ _ hm
  obtain ⟨cs0, rfl, _⟩ := okWide_struct Try.underlying55 (hval 0 55 v0 rfl rfl)
  obtain ⟨fuel0, hf0⟩ := h0
  have s0 := see_of_flat (enc := enc) (w := W) 6 fuel0 55 EndD.ls _ _ (by kernel_rfl) hf0
  obtain ⟨a0, b0, bl0, w0, rl0, ro0⟩ := EndD.conv s0
  have k1 := h1
  have lt1 : ∀ x ∈ p1, x.block < W.heap.size := by obtain ⟨m, hm⟩ := k1; exact DataW.trod_lt m _ _ _ hm
  obtain ⟨A1, n1, c1, rfl⟩ := okWide_slice Try.underlying53 (hval 1 53 v1 rfl rfl)
  obtain ⟨fuel1, hf1⟩ := h1
  have s1 := see_of_flat (enc := enc) (w := W) 6 fuel1 53 [.sl [.int]] _ _ (by kernel_rfl) hf1
  obtain ⟨_, _, e1, sl1, rfl⟩ := s1
  simp only [Value.cells, List.cons.injEq, and_true] at e1
  subst e1
  obtain ⟨a1, pl1, in1, ln1, w1⟩ := see_slx intC [.int] I64 (fun _ => rfl) (fun _ h => intC_conv h) sl1
  obtain ⟨b1, hb1⟩ : ∃ b : Be, b = [pl1] := ⟨_, rfl⟩
  have bl1 : b1.length = 1 := by rw [hb1]; rfl
  clear hA0 hval0
  refine (callA_ro (law_EvenIn a0 w0 a1 ln1 w1) (β := b0 ++ ([pl1])) (w := W) (roL_append (ro0 _) (show RoL _ _ [pl1] [some _] from ⟨⟨rfl, in1.ob _ _, flatL_map (fun _ => rfl) _⟩, trivial⟩)) (vs := [.agg cs0, .slice A1 n1 c1]) ⟨⟨_, (show Value.agg cs0 = .agg (Value.agg cs0).cells.toList.toArray by simp [Value.cells]), (by have h := rl0 ([]) (b1); simpa only [List.nil_append, List.append_nil, List.append_assoc, List.length_nil, List.length_append, Nat.reduceAdd, hb1] using h)⟩, (in1.val _ 7 (by simp [hb1, bl0, List.getElem?_append])), trivial⟩).mono fun e W' ⟨he, bel⟩ => ?_
  subst he
  exact ⟨_, rfl, _, _, _, [], _, [], hW', trodAll_mk1 (shut_bool Try.underlying4 _), (trodAll_cons_mk (Below.trod laidOut (by kernel_rfl) (of_decide_eq_true (by kernel_rfl)) k0 bel lt0) (trodAll_cons_mk (Below.trod laidOut (by kernel_rfl) (of_decide_eq_true (by kernel_rfl)) k1 bel lt1) trodAll_mk0)), rfl, bel.frame _, fun h => by cases h⟩

theorem closed : joinedFacts Try.prog 9 Try.f9 Rows.fnExactEvenInSpec Rows.fnExactEvenInRow = true :=
  joined_of (own_graph 9 (by kernel_rfl)) rfl rfl rfl rfl own_may own_final own_make rfl rfl (by kernel_rfl)
theorem over : Rows.fnExactEvenInRow.holds Try.pinned (OpenSpec.ofChange Rows.fnExactEvenInSpec) :=
  OpenClaim.holds_of_wide 9 Try.f9 rfl rfl rfl rfl rfl rfl rfl ⟨rfl, rfl, rfl, rfl, rfl⟩ rfl rfl rfl rfl rfl (by kernel_rfl) Try.func9 closed
    (of_decide_eq_true (by kernel_rfl)) (by unfold Func.isWrapper; first | (rw [if_pos (by decide +kernel)]; kernel_rfl) | (rw [if_neg (by decide +kernel)]; exact ⟨rfl, rfl⟩))
    (fun os started H enc _ => lifted os started H enc)

/-- The statement. -/
theorem proved : Rows.FnExactEvenInSaid := over
#print axioms proved
end Go.Proofs.Ytoghbjbfldlfpaa.fnExactEvenIn

