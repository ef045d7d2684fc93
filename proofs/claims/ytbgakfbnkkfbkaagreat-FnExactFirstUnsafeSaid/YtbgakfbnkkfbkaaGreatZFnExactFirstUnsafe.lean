/-
  PROVED: FnExactFirstUnsafe returns true for every input, and leaves its arguments as they were. (From the contract of the law's text to the given statement; written by vlaw.py.)
-/
import Derived.Test.YtbgakfbnkkfbkaaGreatZFnExactFirstUnsafeA
import Derived.Test.YtbgakfbnkkfbkaaGreatRows
import Derived.ChangeOld
import Derived.Carry
namespace Go.Proofs.YtbgakfbnkkfbkaaGreat.fnExactFirstUnsafe
open Go.ChangeShapes Go.WideShapes Go.ChangeAt Go.RowKit
open Go.ChangeMaps (open_string shut_string)
set_option linter.unusedVariables false

theorem own : ownKnob Tryz.prog.godebug = none := by kernel_rfl
theorem laidOut : laidOutB Tryz.prog = true := by kernel_rfl

set_option maxRecDepth 100000 in
theorem lifted (os : Os) (started : os.Started) (H : Type) (enc : TypeId × Value → H) :
    ReturnsInHanded {} Tryz.checked os 3 .any (Rows.fnExactFirstUnsafeSpec.pre6 enc Tryz.prog Tryz.f3 Rows.fnExactFirstUnsafeRow.domain false) (Rows.fnExactFirstUnsafeSpec.post enc Tryz.prog Tryz.f3 false true false false) := by
  refine returnsInHanded_of_change (C := Tryz.checked) own started (by kernel_rfl) Tryz.func3
    (ChangeSpec.witness6 (enc := enc) (C := Tryz.checked) false ⟨#[], #[.agg #[.int .i64 0, .int .i64 0], .slice none 0 0], []⟩ 8 (by kernel_rfl) (by kernel_rfl) (by kernel_rfl) (by kernel_rfl)) ?_
  intro W base args ds gs bC hval0 hW hcnd _
  have hval : ∀ (j : Nat) t v, Tryz.f3.params[j]? = some t → args[j]? = some v → Value.okWide Tryz.prog W .any base t v := hval0
  have hW' := hW
  obtain ⟨p, q, hA0, hV, rfl, hfz, hnd⟩ := hW
  have hA : DataW.TrodAll enc Tryz.prog W 0 (fun _ => true) true Tryz.f3.params.toList args.toList ds p := hA0
  rw [Tryz.params3] at hA hval
  obtain ⟨v0, vs0, d0, ds0, p0, q0, hargs, rfl, rfl, h0, r0⟩ := trodAll_cons hA
  obtain ⟨v1, vs1, d1, ds1, p1, q1, rfl, rfl, rfl, h1, r1⟩ := trodAll_cons r0
  obtain ⟨rfl, rfl, rfl⟩ := trodAll_nil r1
  obtain rfl : args = #[v0, v1] := by cases args; simp_all
  obtain ⟨rfl, rfl⟩ := trodVars_none hV
  have k0 := h0
  have lt0 : ∀ x ∈ p0, x.block < W.heap.size := by obtain ⟨m, hm⟩ := k0; exact DataW.trod_lt m _ _ _ hm
  obtain ⟨cs0, rfl, _⟩ := okWide_struct Tryz.underlying23 (hval 0 23 v0 rfl rfl)
  obtain ⟨fuel0, hf0⟩ := h0
  have s0 := ow (enc := enc) (w := W) 6 fuel0 23 (PolicyD.ls.map .one) _ _ (by kernel_rfl) hf0
  obtain ⟨a0, e0, w0⟩ := PolicyD.conv (fD.plain (l0 := PolicyD.ls) (by rfl) s0)
  have k1 := h1
  have lt1 : ∀ x ∈ p1, x.block < W.heap.size := by obtain ⟨m, hm⟩ := k1; exact DataW.trod_lt m _ _ _ hm
  obtain ⟨A1, n1, c1, rfl⟩ := okWide_slice Tryz.underlying24 (hval 1 24 v1 rfl rfl)
  obtain ⟨fuel1, hf1⟩ := h1
  have s1 := ow (enc := enc) (w := W) 6 fuel1 24 [.sl ActD.ls] _ _ (by kernel_rfl) hf1
  obtain ⟨_, _, e1, sl1, rfl⟩ := s1
  simp only [Value.cells, List.cons.injEq, and_true] at e1
  subst e1
  obtain ⟨a1, pl1, in1, ln1, w1⟩ := bA ActD.cs ActD.ls ActD.wf ActD.flat (fun _ h => ActD.conv h) sl1
  obtain ⟨b1, hb1⟩ : ∃ b : Be, b = [pl1] := ⟨_, rfl⟩
  have bl1 : b1.length = 1 := by rw [hb1]; rfl
  clear hA0 hval0
  refine (Fh (ep a0 w0 a1 ln1 w1) (β := [pl1]) (w := W) (show IS _ _ [pl1] [some _] from ⟨⟨rfl, in1.ob _ _, ba ActD.flat _⟩, trivial⟩) (vs := [.agg cs0, .slice A1 n1 c1]) ⟨⟨_, (show Value.agg cs0 = .agg (Value.agg cs0).cells.toList.toArray by simp [Value.cells]), L2.monoE (PolicyD.flat _) e0 _⟩, (in1.val _ _ (by rfl)), trivial⟩).mono fun e W' ⟨he, bel⟩ => ?_
  subst he
  exact ⟨_, rfl, _, _, _, [], _, [], hW', trodAll_mk1 (shut_bool Tryz.underlying4 _), (trodAll_cons_mk (Below.trod laidOut (by kernel_rfl) (of_decide_eq_true (by kernel_rfl)) k0 bel lt0) (trodAll_cons_mk (Below.trod laidOut (by kernel_rfl) (of_decide_eq_true (by kernel_rfl)) k1 bel lt1) trodAll_mk0)), rfl, bel.frame _, fun h => by cases h⟩

theorem closed : joinedFacts Tryz.prog 3 Tryz.f3 Rows.fnExactFirstUnsafeSpec Rows.fnExactFirstUnsafeRow = true :=
  Bm (Bo 3 (by kernel_rfl)) rfl rfl rfl rfl Nu Bn Fj rfl rfl (by kernel_rfl)
theorem over : Rows.fnExactFirstUnsafeRow.holds Tryz.pinned (OpenSpec.ofChange Rows.fnExactFirstUnsafeSpec) :=
  OpenClaim.holds_of_wide 3 Tryz.f3 rfl rfl rfl rfl rfl rfl rfl ⟨rfl, rfl, rfl, rfl, rfl⟩ rfl rfl rfl rfl rfl (by kernel_rfl) Tryz.func3 closed
    (of_decide_eq_true (by kernel_rfl)) (by unfold Func.isWrapper; first | (rw [if_pos (by decide +kernel)]; kernel_rfl) | (rw [if_neg (by decide +kernel)]; exact ⟨rfl, rfl⟩))
    (fun os started H enc _ => lifted os started H enc)

/-- The statement. -/
theorem proved : Rows.FnExactFirstUnsafeSaid := over
#print axioms proved
end Go.Proofs.YtbgakfbnkkfbkaaGreat.fnExactFirstUnsafe

