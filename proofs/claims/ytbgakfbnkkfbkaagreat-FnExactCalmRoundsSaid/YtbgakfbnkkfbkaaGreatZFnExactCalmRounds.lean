/-
  PROVED: FnExactCalmRounds returns true for every input, and leaves its arguments as they were. (From the contract of the law's text to the given statement; written by vlaw.py.)
-/
import Derived.Test.YtbgakfbnkkfbkaaGreatZFnExactCalmRoundsA
import Derived.Test.YtbgakfbnkkfbkaaGreatRows
import Derived.ChangeOld
import Derived.Carry
namespace Go.Proofs.YtbgakfbnkkfbkaaGreat.fnExactCalmRounds
open Go.ChangeShapes Go.WideShapes Go.ChangeAt Go.RowKit
open Go.ChangeMaps (open_string shut_string)
set_option linter.unusedVariables false

theorem own : ownKnob Tryz.prog.godebug = none := by kernel_rfl
theorem laidOut : laidOutB Tryz.prog = true := by kernel_rfl

set_option maxRecDepth 100000 in
theorem lifted (os : Os) (started : os.Started) (H : Type) (enc : TypeId × Value → H) :
    ReturnsInHanded {} Tryz.checked os 7 .any (Rows.fnExactCalmRoundsSpec.pre6 enc Tryz.prog Tryz.f7 Rows.fnExactCalmRoundsRow.domain false) (Rows.fnExactCalmRoundsSpec.post enc Tryz.prog Tryz.f7 false true false false) := by
  refine returnsInHanded_of_change (C := Tryz.checked) own started (by kernel_rfl) Tryz.func7
    (ChangeSpec.witness6 (enc := enc) (C := Tryz.checked) false ⟨#[], #[.agg #[.int .i64 0, .int .i64 0, .int .i64 0, .int .i64 0, .int .i64 0, .int .i64 0, .slice none 0 0, .slice none 0 0, .slice none 0 0, .slice none 0 0, .int .i64 0, .int .i64 0, .int .i64 0, .string ⟨#[]⟩, .int .i64 0, .int .i64 0, .int .i64 0, .int .i64 0, .string ⟨#[]⟩, .slice none 0 0, .slice none 0 0, .slice none 0 0, .int .i64 0, .int .i64 0, .int .i64 0, .int .i64 0, .int .i64 0, .int .i64 0, .int .i64 0, .int .i64 0, .int .i64 0, .slice none 0 0, .slice none 0 0, .slice none 0 0, .slice none 0 0, .int .i64 0, .int .i64 0, .int .i64 0, .string ⟨#[]⟩, .int .i64 0, .int .i64 0, .int .i64 0, .int .i64 0, .string ⟨#[]⟩, .slice none 0 0, .slice none 0 0, .slice none 0 0, .int .i64 0, .int .i64 0, .int .i64 0, .slice none 0 0, .slice none 0 0, .string ⟨#[]⟩, .string ⟨#[]⟩, .string ⟨#[]⟩, .string ⟨#[]⟩, .slice none 0 0, .slice none 0 0, .slice none 0 0, .slice none 0 0, .slice none 0 0], .int .i64 0], []⟩ 8 (by kernel_rfl) (by kernel_rfl) (by kernel_rfl) (by kernel_rfl)) ?_
  intro W base args ds gs bC hval0 hW hcnd _
  have hval : ∀ (j : Nat) t v, Tryz.f7.params[j]? = some t → args[j]? = some v → Value.okWide Tryz.prog W .any base t v := hval0
  have hW' := hW
  obtain ⟨p, q, hA0, hV, rfl, hfz, hnd⟩ := hW
  have hA : DataW.TrodAll enc Tryz.prog W 0 (fun _ => true) true Tryz.f7.params.toList args.toList ds p := hA0
  rw [Tryz.params7] at hA hval
  obtain ⟨v0, vs0, d0, ds0, p0, q0, hargs, rfl, rfl, h0, r0⟩ := trodAll_cons hA
  obtain ⟨v1, vs1, d1, ds1, p1, q1, rfl, rfl, rfl, h1, r1⟩ := trodAll_cons r0
  obtain ⟨rfl, rfl, rfl⟩ := trodAll_nil r1
  obtain rfl : args = #[v0, v1] := by cases args; simp_all
  obtain ⟨rfl, rfl⟩ := trodVars_none hV
  have k0 := h0
  have lt0 : ∀ x ∈ p0, x.block < W.heap.size := by obtain ⟨m, hm⟩ := k0; exact DataW.trod_lt m _ _ _ hm
  obtain ⟨cs0, rfl, _⟩ := okWide_struct Tryz.underlying74 (hval 0 74 v0 rfl rfl)
  obtain ⟨fuel0, hf0⟩ := h0
  have s0 := ow (enc := enc) (w := W) 6 fuel0 74 WorldD.ls _ _ (by kernel_rfl) hf0
  obtain ⟨a0, b0, bl0, w0, rl0, ro0⟩ := WorldD.conv s0
  have k1 := h1
  have lt1 : ∀ x ∈ p1, x.block < W.heap.size := by obtain ⟨m, hm⟩ := k1; exact DataW.trod_lt m _ _ _ hm
  obtain ⟨a1, rfl, _, _, w1⟩ := open_int Tryz.underlying3 (hval 1 3 v1 rfl rfl) h1
  clear hA0 hval0
  refine (Fh (p6 a0 w0 a1 (QY w1)) (β := b0) (w := W) (ro0 _) (vs := [.agg cs0, .int .i64 a1]) ⟨⟨_, (show Value.agg cs0 = .agg (Value.agg cs0).cells.toList.toArray by simp [Value.cells]), (by have h := rl0 ([]) ([]); simpa only [List.nil_append, List.append_nil, List.append_assoc, List.length_nil, List.length_append, Nat.reduceAdd] using h)⟩, rfl, trivial⟩).mono fun e W' ⟨he, bel⟩ => ?_
  subst he
  exact ⟨_, rfl, _, _, _, [], _, [], hW', trodAll_mk1 (shut_bool Tryz.underlying4 _), (trodAll_cons_mk (Below.trod laidOut (by kernel_rfl) (of_decide_eq_true (by kernel_rfl)) k0 bel lt0) (trodAll_cons_mk (Below.trod laidOut (by kernel_rfl) (of_decide_eq_true (by kernel_rfl)) k1 bel lt1) trodAll_mk0)), rfl, bel.frame _, fun h => by cases h⟩

theorem ownGU (f u : Nat) (h : (Nat.ble 3 f && Nat.blt f 336) = true) (hu : u ∈ Tryz.prog.closure f) (hv : ((Tryz.prog.funcs[u]?).any fun fn => match fn.body with | some c => c.unfollowed | none => entryCalls fn) = true) : Tryz.prog.inPlace f = [] ∧ Tryz.prog.unfollowed f = true ∧ Tryz.prog.recurses f = true ∧ Tryz.prog.varsNamed f = [] :=
  hS kn f u (by simpa only [Bool.and_eq_true, Nat.ble_eq, Nat.blt_eq] using h) hu hv
theorem closed : joinedFacts Tryz.prog 7 Tryz.f7 Rows.fnExactCalmRoundsSpec Rows.fnExactCalmRoundsRow = true :=
  kb (ownGU 7 30 (by kernel_rfl) (la (h := 30) (la (h := 32) hK.1 (by kernel_rfl)) (by kernel_rfl)) (by kernel_rfl)) rfl rfl rfl rfl Nu Bn Fj rfl rfl (by kernel_rfl)
theorem over : Rows.fnExactCalmRoundsRow.holds Tryz.pinned (OpenSpec.ofChange Rows.fnExactCalmRoundsSpec) :=
  OpenClaim.holds_of_wide 7 Tryz.f7 rfl rfl rfl rfl rfl rfl rfl ⟨rfl, rfl, rfl, rfl, rfl⟩ rfl rfl rfl rfl rfl (by kernel_rfl) Tryz.func7 closed
    (of_decide_eq_true (by kernel_rfl)) (by unfold Func.isWrapper; first | (rw [if_pos (by decide +kernel)]; kernel_rfl) | (rw [if_neg (by decide +kernel)]; exact ⟨rfl, rfl⟩))
    (fun os started H enc _ => lifted os started H enc)

/-- The statement. -/
theorem proved : Rows.FnExactCalmRoundsSaid := over
#print axioms proved
end Go.Proofs.YtbgakfbnkkfbkaaGreat.fnExactCalmRounds

