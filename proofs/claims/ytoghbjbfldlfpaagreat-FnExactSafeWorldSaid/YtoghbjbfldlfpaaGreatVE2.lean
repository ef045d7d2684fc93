import Derived.Test.YtoghbjbfldlfpaaGreatVE1
import Derived.Laws.StructEq
namespace Go.Proofs.YtoghbjbfldlfpaaGreat
open Go.RowKit
set_option linter.unusedVariables false
set_option linter.unusedSimpArgs false
set_option maxRecDepth 20000

theorem impl_OnOf (e : EndD) (hl : e.subs.length ≤ 1048576) : CallA Tryz.prog 73 [.ag (e.cs 0)] (e.hp false) (.sc (.sl 7 0 (onN e.subs).length)) (e.hp false ++ [some ⟨(onN e.subs).map natC, 1, 3, true, true⟩]) := by
  refine callA_of Tryz.func73 (by kernel_rfl) rfl fun E hE => run_den 400 ?_
  simp (disch := omega) only [Tryz.ntmps73, Tryz.results73, go_sem, Nat.reduceEqDiff, Nat.reduceAdd, Nat.reduceSub, Int.reduceAdd, Int.reduceSub, Int.reduceToNat]
  refine den_lp 7 hE (fun s (x : Nat × List Nat) => s.at [0, 1, 4, 5, 6, 10, 11, 12, 13, 14, 15, 16, 17, 18, 19, 20, 21] [(9, .sc (.int .i64 (x.1 : Nat))), (3, .sc (.sl 8 0 x.2.length))] (e.hp false ++ [some ⟨[e.cs 0], 25, 55, true, false⟩, some ⟨x.2.map natC, 1, 3, true, true⟩])) (fun (x : Nat × List Nat) => x.1 ≤ e.subs.length ∧ x.2.length ≤ x.1 ∧ x.2 ++ onGo x.1 (e.subs.drop x.1) = onN e.subs) (fun (x : Nat × List Nat) => e.subs.length - x.1) (0, []) [some (0, none), some (1, none), some (2, none), some (3, none), some (4, none), some (5, none), some (6, none), some (7, none), none] (by (try simp (disch := omega) only [go_sem, Nat.reduceEqDiff, Nat.reduceAdd, Nat.reduceSub, Int.reduceAdd, Int.reduceSub, Int.reduceToNat]) <;> omega) (⟨Nat.zero_le _, Nat.zero_le _, rfl⟩) (weak_mk (by rfl) (by rfl) ?_) fun x hx N hN => ?_
  · try simp (disch := omega) only [go_sem, Nat.reduceEqDiff, Nat.reduceAdd, Nat.reduceSub, Int.reduceAdd, Int.reduceSub, Int.reduceToNat]
  · obtain ⟨k, acc⟩ := x
    obtain ⟨hk1, hk2, hk3⟩ := hx
    dsimp only at hk1 hk2 hk3
    refine run_den 400 ?_
    try simp (disch := omega) only [go_sem, Nat.reduceEqDiff, Nat.reduceAdd, Nat.reduceSub, Int.reduceAdd, Int.reduceSub, Int.reduceToNat]
    split <;> rename_i h <;> (try simp only [beq_true, beq_false, Bool.not_eq_true', Bool.not_eq_false'] at h) <;> simp (disch := omega) only [go_sem, Nat.reduceEqDiff, Nat.reduceAdd, Nat.reduceSub, Int.reduceAdd, Int.reduceSub, Int.reduceToNat, h] <;> (try simp only [decide_eq_true_eq, decide_eq_false_iff_not, beq_iff_eq, beq_eq_false_iff_ne, bne_iff_ne, bne_eq_false_iff_eq, ne_eq, Decidable.not_not, Bool.and_eq_true, Bool.and_eq_false_iff, Bool.or_eq_true, Bool.or_eq_false_iff, Int.ofNat_lt, Int.ofNat_le, Bool.not_eq_eq_eq_not, Bool.not_true, Bool.not_false] at h) <;> try simp (disch := omega) only [go_sem, Nat.reduceEqDiff, Nat.reduceAdd, Nat.reduceSub, Int.reduceAdd, Int.reduceSub, Int.reduceToNat]
    · rw [onGo_step h] at hk3
      try simp (disch := omega) only [go_sem, Nat.reduceEqDiff, Nat.reduceAdd, Nat.reduceSub, Int.reduceAdd, Int.reduceSub, Int.reduceToNat]
      split <;> rename_i h2 <;> (try simp only [beq_true, beq_false, Bool.not_eq_true', Bool.not_eq_false'] at h2) <;> simp (disch := omega) only [go_sem, Nat.reduceEqDiff, Nat.reduceAdd, Nat.reduceSub, Int.reduceAdd, Int.reduceSub, Int.reduceToNat, h2] <;> (try simp only [decide_eq_true_eq, decide_eq_false_iff_not, beq_iff_eq, beq_eq_false_iff_ne, bne_iff_ne, bne_eq_false_iff_eq, ne_eq, Decidable.not_not, Bool.and_eq_true, Bool.and_eq_false_iff, Bool.or_eq_true, Bool.or_eq_false_iff, Int.ofNat_lt, Int.ofNat_le, Bool.not_eq_eq_eq_not, Bool.not_true, Bool.not_false] at h2) <;> try simp (disch := omega) only [go_sem, Nat.reduceEqDiff, Nat.reduceAdd, Nat.reduceSub, Int.reduceAdd, Int.reduceSub, Int.reduceToNat]
      · rw [if_pos h2] at hk3
        refine ⟨by (try simp (disch := omega) only [go_sem, Nat.reduceEqDiff, Nat.reduceAdd, Nat.reduceSub, Int.reduceAdd, Int.reduceSub, Int.reduceToNat]) <;> omega, hN _ (k + 1, acc ++ [k]) [some (0, none), some (1, none), some (2, none), some (3, none), some (4, none), some (5, none), some (6, none), some (7, none), some (11, none)] (by (try dsimp only); exact ⟨by omega, by simp; omega, by simpa using hk3⟩) (by (try dsimp only); omega) (weak_mk (by rfl) (by rfl) ?_)⟩
        try simp (disch := omega) only [go_sem, Nat.reduceEqDiff, Nat.reduceAdd, Nat.reduceSub, Int.reduceAdd, Int.reduceSub, Int.reduceToNat]
        simp [natC]
      · rw [if_neg h2] at hk3
        refine ⟨by (try simp (disch := omega) only [go_sem, Nat.reduceEqDiff, Nat.reduceAdd, Nat.reduceSub, Int.reduceAdd, Int.reduceSub, Int.reduceToNat]) <;> omega, hN _ (k + 1, acc) [some (0, none), some (1, none), some (2, none), some (3, none), some (4, none), some (5, none), some (6, none), some (7, none), some (8, none)] (by (try dsimp only); exact ⟨by omega, by omega, hk3⟩) (by (try dsimp only); omega) (weak_mk (by rfl) (by rfl) ?_)⟩
        try simp (disch := omega) only [go_sem, Nat.reduceEqDiff, Nat.reduceAdd, Nat.reduceSub, Int.reduceAdd, Int.reduceSub, Int.reduceToNat]
    · rw [List.drop_eq_nil_of_le (by omega), onGo, List.append_nil] at hk3
      subst hk3
      refine den_fin [some (0, none), some (1, none), some (2, none), some (3, none), some (4, none), some (5, none), some (6, none), some (8, none)] (by (try simp (disch := omega) only [go_sem, Nat.reduceEqDiff, Nat.reduceAdd, Nat.reduceSub, Int.reduceAdd, Int.reduceSub, Int.reduceToNat]) <;> omega) _ (by simp only [go_sem]; rfl) (by rfl) (by rfl) ?_
      simp (disch := omega) only [go_sem, Nat.reduceEqDiff, Nat.reduceAdd, Nat.reduceSub, Int.reduceAdd, Int.reduceSub, Int.reduceToNat]
theorem eqOk_Road (a b c a' b' c' : Int) : EqOk Tryz.prog 97 [.int .i64 a, .int .i64 b, .int .i64 c] [.int .i64 a', .int .i64 b', .int .i64 c'] = True := by
  refine eq_true fun β w x y vs us hv hu => ?_
  obtain ⟨v0, v1, v2, rfl⟩ : ∃ v0 v1 v2, vs = [v0, v1, v2] := by
    match vs, hv with
    | [v0, v1, v2], _ => exact ⟨_, _, _, rfl⟩
  obtain ⟨u0, u1, u2, rfl⟩ : ∃ v0 v1 v2, us = [v0, v1, v2] := by
    match us, hu with
    | [v0, v1, v2], _ => exact ⟨_, _, _, rfl⟩
  obtain ⟨rfl, rfl, rfl, _⟩ := hv
  obtain ⟨rfl, rfl, rfl, _⟩ := hu
  have hu3 := Tryz.underlying3
  have hg := Tryz.eqGuardType97
  have hs := Tryz.stoodInHeld97
  have hU : Tryz.prog.underlying 97 = some (.struct (Tryz.prog.fieldsOf 97)) := by
    simp only [Program.fieldsOf, Tryz.underlying97]
  have key : ∀ q : Bool, q = scsEq [Sc.int IntKind.i64 a, Sc.int IntKind.i64 b, Sc.int IntKind.i64 c] [Sc.int IntKind.i64 a', Sc.int IntKind.i64 b', Sc.int IntKind.i64 c'] ↔ q = (decide (a = a') && (decide (b = b') && decide (c = c'))) := by
    intro q
    simp only [scsEq, scEq, Bool.and_true]
    have e : ∀ m n : Int, (m == n) = decide (m = n) := fun m n => by by_cases h : m = n <;> simp [h]
    rw [e, e, e]
  have kk := (key _).1 rfl
  rw [kk]
  constructor
  · simp only [Sem.run_bind, run_eqGuard_agg _ _ _ _ _ _ _ hg, run_eql_struct, Result.andThen_ok, run_equalIn_agg _ _ _ _ _ hU hs]
    simp [Op.eqFields, Program.fieldsOf, Tryz.underlying97, part, run_equalIn_int _ _ _ _ _ _ _ hu3]
    by_cases h1 : a = a' <;> by_cases h2 : b = b' <;> by_cases h3 : c = c' <;> simp [h1, h2, h3]
  · simp only [Sem.run_bind, run_eqGuard_agg _ _ _ _ _ _ _ hg, run_neq_struct, Result.andThen_ok, run_equalIn_agg _ _ _ _ _ hU hs]
    simp [Op.eqFields, Program.fieldsOf, Tryz.underlying97, part, run_equalIn_int _ _ _ _ _ _ _ hu3]
    by_cases h1 : a = a' <;> by_cases h2 : b = b' <;> by_cases h3 : c = c' <;> simp [h1, h2, h3]
attribute [go_sem] eqOk_Road
theorem partP_f1 {s t : SubD} {on : Bool} (h : ¬ t.road.own = s.road.far ∨ ¬ t.road.far = s.road.own ∨ ¬ t.road.port = s.road.port) : partP s on t = false := by
  rw [partP]
  rcases h with h | h | h <;> simp [h]
theorem partP_f2 {s t : SubD} {on : Bool} (h : ¬ t.take = s.give) : partP s on t = false := by simp [partP, h]
theorem partP_f3 {s t : SubD} {on : Bool} (h : ¬ t.give = s.take) : partP s on t = false := by simp [partP, h]
theorem partP_f4 {s t : SubD} (h : ¬ t.state = 3) : partP s true t = false := by simp [partP, h]
theorem partP_t {s t : SubD} {on : Bool} (h1 : t.road.own = s.road.far ∧ t.road.far = s.road.own ∧ t.road.port = s.road.port) (h2 : t.take = s.give) (h3 : t.give = s.take) (h4 : on = false ∨ t.state = 3) : partP s on t = true := by
  rw [partP]
  obtain ⟨a, b, c⟩ := h1
  rcases h4 with h4 | h4 <;> simp [a, b, c, h2, h3, h4]
theorem impl_RoadBack (r : RoadD) : CallA Tryz.prog 104 [.ag r.cs] [] (.ag (RoadD.cs ⟨r.far, r.own, r.port⟩)) [] := by
  refine callA_of Tryz.func104 (by kernel_rfl) rfl fun E hE => run_den 400 ?_
  simp (disch := omega) only [Tryz.ntmps104, Tryz.results104, go_sem, Nat.reduceEqDiff, Nat.reduceAdd, Nat.reduceSub, Int.reduceAdd, Int.reduceSub, Int.reduceToNat]
  refine den_fin [] (by (try simp (disch := omega) only [go_sem, Nat.reduceEqDiff, Nat.reduceAdd, Nat.reduceSub, Int.reduceAdd, Int.reduceSub, Int.reduceToNat]) <;> omega) _ (by simp only [go_sem]; rfl) (by rfl) (by rfl) ?_
  simp (disch := omega) only [go_sem, Nat.reduceEqDiff, Nat.reduceAdd, Nat.reduceSub, Int.reduceAdd, Int.reduceSub, Int.reduceToNat]

theorem spec_RoadBack (r : RoadD) : CallA Tryz.prog 49 [.ag r.cs] [] (.ag (RoadD.cs ⟨r.far, r.own, r.port⟩)) [] := by
  refine callA_of Tryz.func49 (by kernel_rfl) rfl fun E hE => run_den 400 ?_
  simp (disch := omega) only [Tryz.ntmps49, Tryz.results49, go_sem, Nat.reduceEqDiff, Nat.reduceAdd, Nat.reduceSub, Int.reduceAdd, Int.reduceSub, Int.reduceToNat]
  refine den_fin [] (by (try simp (disch := omega) only [go_sem, Nat.reduceEqDiff, Nat.reduceAdd, Nat.reduceSub, Int.reduceAdd, Int.reduceSub, Int.reduceToNat]) <;> omega) _ (by simp only [go_sem]; rfl) (by rfl) (by rfl) ?_
  simp (disch := omega) only [go_sem, Nat.reduceEqDiff, Nat.reduceAdd, Nat.reduceSub, Int.reduceAdd, Int.reduceSub, Int.reduceToNat]

theorem impl_partner (s : SubD) (b : EndD) (on : Bool) (hl : b.subs.length ≤ 1048576) : CallA Tryz.prog 74 [.ag s.cs, .ag (b.cs 0), .sc (.bo on)] (b.hp false) (.sc (.bo (hasPart b.subs on s))) (b.hp false) := by
  refine callA_of Tryz.func74 (by kernel_rfl) rfl fun E hE => run_den 400 ?_
  simp (disch := omega) only [Tryz.ntmps74, Tryz.results74, go_sem, Nat.reduceEqDiff, Nat.reduceAdd, Nat.reduceSub, Int.reduceAdd, Int.reduceSub, Int.reduceToNat]
  refine den_lp 7 hE (fun s (k : Nat) => s.at [0, 1, 4, 6, 8, 9, 13, 14, 15, 16, 17, 18, 19, 20, 21, 22, 23, 24, 25, 26, 27, 28, 29, 30, 31, 32, 33, 34, 35, 36, 37, 38, 39, 40, 41, 42, 43, 44, 45] [(12, .sc (.int .i64 (k : Nat)))] (s.hp)) (fun (k : Nat) => k ≤ b.subs.length ∧ (b.subs.drop k).any (partP s on) = hasPart b.subs on s) (fun (k : Nat) => b.subs.length - k) 0 [some (0, none), some (1, none), some (2, none), some (3, none), some (4, none), some (5, none), some (6, none), some (7, none), some (8, none)] (by (try simp (disch := omega) only [go_sem, Nat.reduceEqDiff, Nat.reduceAdd, Nat.reduceSub, Int.reduceAdd, Int.reduceSub, Int.reduceToNat]) <;> omega) (⟨Nat.zero_le _, rfl⟩) (weak_mk (by rfl) (by rfl) ?_) fun k hk N hN => ?_
  · try simp (disch := omega) only [go_sem, Nat.reduceEqDiff, Nat.reduceAdd, Nat.reduceSub, Int.reduceAdd, Int.reduceSub, Int.reduceToNat]
  · obtain ⟨hk1, hk2⟩ := hk
    refine run_den 400 ?_
    try simp (disch := omega) only [go_sem, Nat.reduceEqDiff, Nat.reduceAdd, Nat.reduceSub, Int.reduceAdd, Int.reduceSub, Int.reduceToNat]
    split <;> rename_i h <;> (try simp only [beq_true, beq_false, Bool.not_eq_true', Bool.not_eq_false'] at h) <;> simp (disch := omega) only [go_sem, Nat.reduceEqDiff, Nat.reduceAdd, Nat.reduceSub, Int.reduceAdd, Int.reduceSub, Int.reduceToNat, h] <;> (try simp only [decide_eq_true_eq, decide_eq_false_iff_not, beq_iff_eq, beq_eq_false_iff_ne, bne_iff_ne, bne_eq_false_iff_eq, ne_eq, Decidable.not_not, Bool.and_eq_true, Bool.and_eq_false_iff, Bool.or_eq_true, Bool.or_eq_false_iff, Int.ofNat_lt, Int.ofNat_le, Bool.not_eq_eq_eq_not, Bool.not_true, Bool.not_false] at h) <;> try simp (disch := omega) only [go_sem, Nat.reduceEqDiff, Nat.reduceAdd, Nat.reduceSub, Int.reduceAdd, Int.reduceSub, Int.reduceToNat]
    · rw [any_step h] at hk2
      refine den_draw1 [0, 1, 2, 3, 4, 5, 6, 7, 8, 9, 10, 11, 12, 13, 14, 15, 16, 17, 18, 19, 20, 21, 22, 23, 24, 25, 26, 27, 28] (by kernel_rfl) (by (try simp (disch := omega) only [go_sem, Nat.reduceEqDiff, Nat.reduceAdd, Nat.reduceSub, Int.reduceAdd, Int.reduceSub, Int.reduceToNat]) <;> omega) (by kernel_rfl) (runD_den 400 ?_)
      simp (disch := omega) only [go_sem, Nat.reduceEqDiff, Nat.reduceAdd, Nat.reduceSub, Int.reduceAdd, Int.reduceSub, Int.reduceToNat]
      refine den_callD (by (try simp (disch := omega) only [go_sem, Nat.reduceEqDiff, Nat.reduceAdd, Nat.reduceSub, Int.reduceAdd, Int.reduceSub, Int.reduceToNat]) <;> omega) (impl_RoadBack s.road) [] (by simp only [go_sem]; repeat' first | rfl | constructor) (by rfl) (by rfl) (runD_den 400 ?_)
      simp (disch := omega) only [go_sem, Nat.reduceEqDiff, Nat.reduceAdd, Nat.reduceSub, Int.reduceAdd, Int.reduceSub, Int.reduceToNat]
      split <;> rename_i h2 <;> (try simp only [beq_true, beq_false, Bool.not_eq_true', Bool.not_eq_false'] at h2) <;> simp (disch := omega) only [go_sem, Nat.reduceEqDiff, Nat.reduceAdd, Nat.reduceSub, Int.reduceAdd, Int.reduceSub, Int.reduceToNat, h2] <;> (try simp only [decide_eq_true_eq, decide_eq_false_iff_not, beq_iff_eq, beq_eq_false_iff_ne, bne_iff_ne, bne_eq_false_iff_eq, ne_eq, Decidable.not_not, Bool.and_eq_true, Bool.and_eq_false_iff, Bool.or_eq_true, Bool.or_eq_false_iff, Int.ofNat_lt, Int.ofNat_le, Bool.not_eq_eq_eq_not, Bool.not_true, Bool.not_false] at h2) <;> try simp (disch := omega) only [go_sem, Nat.reduceEqDiff, Nat.reduceAdd, Nat.reduceSub, Int.reduceAdd, Int.reduceSub, Int.reduceToNat]
      · split <;> rename_i h3 <;> (try simp only [beq_true, beq_false, Bool.not_eq_true', Bool.not_eq_false'] at h3) <;> simp (disch := omega) only [go_sem, Nat.reduceEqDiff, Nat.reduceAdd, Nat.reduceSub, Int.reduceAdd, Int.reduceSub, Int.reduceToNat, h3] <;> (try simp only [decide_eq_true_eq, decide_eq_false_iff_not, beq_iff_eq, beq_eq_false_iff_ne, bne_iff_ne, bne_eq_false_iff_eq, ne_eq, Decidable.not_not, Bool.and_eq_true, Bool.and_eq_false_iff, Bool.or_eq_true, Bool.or_eq_false_iff, Int.ofNat_lt, Int.ofNat_le, Bool.not_eq_eq_eq_not, Bool.not_true, Bool.not_false] at h3) <;> try simp (disch := omega) only [go_sem, Nat.reduceEqDiff, Nat.reduceAdd, Nat.reduceSub, Int.reduceAdd, Int.reduceSub, Int.reduceToNat]
        · split <;> rename_i h4 <;> (try simp only [beq_true, beq_false, Bool.not_eq_true', Bool.not_eq_false'] at h4) <;> simp (disch := omega) only [go_sem, Nat.reduceEqDiff, Nat.reduceAdd, Nat.reduceSub, Int.reduceAdd, Int.reduceSub, Int.reduceToNat, h4] <;> (try simp only [decide_eq_true_eq, decide_eq_false_iff_not, beq_iff_eq, beq_eq_false_iff_ne, bne_iff_ne, bne_eq_false_iff_eq, ne_eq, Decidable.not_not, Bool.and_eq_true, Bool.and_eq_false_iff, Bool.or_eq_true, Bool.or_eq_false_iff, Int.ofNat_lt, Int.ofNat_le, Bool.not_eq_eq_eq_not, Bool.not_true, Bool.not_false] at h4) <;> try simp (disch := omega) only [go_sem, Nat.reduceEqDiff, Nat.reduceAdd, Nat.reduceSub, Int.reduceAdd, Int.reduceSub, Int.reduceToNat]
          · cases on with
            | true =>
              try simp (disch := omega) only [go_sem, Nat.reduceEqDiff, Nat.reduceAdd, Nat.reduceSub, Int.reduceAdd, Int.reduceSub, Int.reduceToNat]
              refine ⟨by (try simp (disch := omega) only [go_sem, Nat.reduceEqDiff, Nat.reduceAdd, Nat.reduceSub, Int.reduceAdd, Int.reduceSub, Int.reduceToNat]) <;> omega, run_den 400 ?_⟩
              try simp (disch := omega) only [go_sem, Nat.reduceEqDiff, Nat.reduceAdd, Nat.reduceSub, Int.reduceAdd, Int.reduceSub, Int.reduceToNat]
              split <;> rename_i h5 <;> (try simp only [beq_true, beq_false, Bool.not_eq_true', Bool.not_eq_false'] at h5) <;> simp (disch := omega) only [go_sem, Nat.reduceEqDiff, Nat.reduceAdd, Nat.reduceSub, Int.reduceAdd, Int.reduceSub, Int.reduceToNat, h5] <;> (try simp only [decide_eq_true_eq, decide_eq_false_iff_not, beq_iff_eq, beq_eq_false_iff_ne, bne_iff_ne, bne_eq_false_iff_eq, ne_eq, Decidable.not_not, Bool.and_eq_true, Bool.and_eq_false_iff, Bool.or_eq_true, Bool.or_eq_false_iff, Int.ofNat_lt, Int.ofNat_le, Bool.not_eq_eq_eq_not, Bool.not_true, Bool.not_false] at h5) <;> try simp (disch := omega) only [go_sem, Nat.reduceEqDiff, Nat.reduceAdd, Nat.reduceSub, Int.reduceAdd, Int.reduceSub, Int.reduceToNat]
              · rw [partP_t h2 h3 h4 (.inr h5)] at hk2
                refine den_fin [some (0, none), some (1, none), some (2, none), some (3, none), some (4, none), some (5, none), some (6, none)] (by (try simp (disch := omega) only [go_sem, Nat.reduceEqDiff, Nat.reduceAdd, Nat.reduceSub, Int.reduceAdd, Int.reduceSub, Int.reduceToNat]) <;> omega) _ (by simp only [go_sem]; rfl) (by rfl) (by rfl) ?_
                simp (disch := omega) only [go_sem, Nat.reduceEqDiff, Nat.reduceAdd, Nat.reduceSub, Int.reduceAdd, Int.reduceSub, Int.reduceToNat]
                exact hk2
              · rw [partP_f4 h5] at hk2
                refine ⟨by (try simp (disch := omega) only [go_sem, Nat.reduceEqDiff, Nat.reduceAdd, Nat.reduceSub, Int.reduceAdd, Int.reduceSub, Int.reduceToNat]) <;> omega, hN _ (k + 1) [some (0, none), some (1, none), some (2, none), some (3, none), some (4, none), some (5, none), some (6, none), some (7, none), some (8, none)] (by (try dsimp only); exact ⟨by omega, hk2⟩) (by (try dsimp only); omega) (weak_mk (by rfl) (by rfl) ?_)⟩
                try simp (disch := omega) only [go_sem, Nat.reduceEqDiff, Nat.reduceAdd, Nat.reduceSub, Int.reduceAdd, Int.reduceSub, Int.reduceToNat]
            | false =>
              rw [partP_t h2 h3 h4 (.inl rfl)] at hk2
              try simp (disch := omega) only [go_sem, Nat.reduceEqDiff, Nat.reduceAdd, Nat.reduceSub, Int.reduceAdd, Int.reduceSub, Int.reduceToNat]
              refine ⟨by (try simp (disch := omega) only [go_sem, Nat.reduceEqDiff, Nat.reduceAdd, Nat.reduceSub, Int.reduceAdd, Int.reduceSub, Int.reduceToNat]) <;> omega, run_den 400 ?_⟩
              try simp (disch := omega) only [go_sem, Nat.reduceEqDiff, Nat.reduceAdd, Nat.reduceSub, Int.reduceAdd, Int.reduceSub, Int.reduceToNat]
              refine den_fin [some (0, none), some (1, none), some (2, none), some (3, none), some (4, none), some (5, none), some (6, none)] (by (try simp (disch := omega) only [go_sem, Nat.reduceEqDiff, Nat.reduceAdd, Nat.reduceSub, Int.reduceAdd, Int.reduceSub, Int.reduceToNat]) <;> omega) _ (by simp only [go_sem]; rfl) (by rfl) (by rfl) ?_
              simp (disch := omega) only [go_sem, Nat.reduceEqDiff, Nat.reduceAdd, Nat.reduceSub, Int.reduceAdd, Int.reduceSub, Int.reduceToNat]
              exact hk2
          · rw [partP_f3 h4] at hk2
            refine ⟨by (try simp (disch := omega) only [go_sem, Nat.reduceEqDiff, Nat.reduceAdd, Nat.reduceSub, Int.reduceAdd, Int.reduceSub, Int.reduceToNat]) <;> omega, run_den 400 ?_⟩
            try simp (disch := omega) only [go_sem, Nat.reduceEqDiff, Nat.reduceAdd, Nat.reduceSub, Int.reduceAdd, Int.reduceSub, Int.reduceToNat]
            refine ⟨by (try simp (disch := omega) only [go_sem, Nat.reduceEqDiff, Nat.reduceAdd, Nat.reduceSub, Int.reduceAdd, Int.reduceSub, Int.reduceToNat]) <;> omega, hN _ (k + 1) [some (0, none), some (1, none), some (2, none), some (3, none), some (4, none), some (5, none), some (6, none), some (7, none), some (8, none)] (by (try dsimp only); exact ⟨by omega, hk2⟩) (by (try dsimp only); omega) (weak_mk (by rfl) (by rfl) ?_)⟩
            try simp (disch := omega) only [go_sem, Nat.reduceEqDiff, Nat.reduceAdd, Nat.reduceSub, Int.reduceAdd, Int.reduceSub, Int.reduceToNat]
        · rw [partP_f2 h3] at hk2
          refine ⟨by (try simp (disch := omega) only [go_sem, Nat.reduceEqDiff, Nat.reduceAdd, Nat.reduceSub, Int.reduceAdd, Int.reduceSub, Int.reduceToNat]) <;> omega, run_den 400 ?_⟩
          try simp (disch := omega) only [go_sem, Nat.reduceEqDiff, Nat.reduceAdd, Nat.reduceSub, Int.reduceAdd, Int.reduceSub, Int.reduceToNat]
          refine ⟨by (try simp (disch := omega) only [go_sem, Nat.reduceEqDiff, Nat.reduceAdd, Nat.reduceSub, Int.reduceAdd, Int.reduceSub, Int.reduceToNat]) <;> omega, hN _ (k + 1) [some (0, none), some (1, none), some (2, none), some (3, none), some (4, none), some (5, none), some (6, none), some (7, none), some (8, none)] (by (try dsimp only); exact ⟨by omega, hk2⟩) (by (try dsimp only); omega) (weak_mk (by rfl) (by rfl) ?_)⟩
          try simp (disch := omega) only [go_sem, Nat.reduceEqDiff, Nat.reduceAdd, Nat.reduceSub, Int.reduceAdd, Int.reduceSub, Int.reduceToNat]
      · rw [partP_f1 h2] at hk2
        refine ⟨by (try simp (disch := omega) only [go_sem, Nat.reduceEqDiff, Nat.reduceAdd, Nat.reduceSub, Int.reduceAdd, Int.reduceSub, Int.reduceToNat]) <;> omega, run_den 400 ?_⟩
        try simp (disch := omega) only [go_sem, Nat.reduceEqDiff, Nat.reduceAdd, Nat.reduceSub, Int.reduceAdd, Int.reduceSub, Int.reduceToNat]
        refine ⟨by (try simp (disch := omega) only [go_sem, Nat.reduceEqDiff, Nat.reduceAdd, Nat.reduceSub, Int.reduceAdd, Int.reduceSub, Int.reduceToNat]) <;> omega, hN _ (k + 1) [some (0, none), some (1, none), some (2, none), some (3, none), some (4, none), some (5, none), some (6, none), some (7, none), some (8, none)] (by (try dsimp only); exact ⟨by omega, hk2⟩) (by (try dsimp only); omega) (weak_mk (by rfl) (by rfl) ?_)⟩
        try simp (disch := omega) only [go_sem, Nat.reduceEqDiff, Nat.reduceAdd, Nat.reduceSub, Int.reduceAdd, Int.reduceSub, Int.reduceToNat]
    · rw [any_end (by omega)] at hk2
      refine den_fin [some (0, none), some (1, none), some (2, none), some (3, none), some (4, none), some (5, none), some (6, none)] (by (try simp (disch := omega) only [go_sem, Nat.reduceEqDiff, Nat.reduceAdd, Nat.reduceSub, Int.reduceAdd, Int.reduceSub, Int.reduceToNat]) <;> omega) _ (by simp only [go_sem]; rfl) (by rfl) (by rfl) ?_
      simp (disch := omega) only [go_sem, Nat.reduceEqDiff, Nat.reduceAdd, Nat.reduceSub, Int.reduceAdd, Int.reduceSub, Int.reduceToNat]
      exact hk2
theorem impl_Paired (a b : EndD) (h1 : a.subs.length ≤ 1048576) (h2 : b.subs.length ≤ 1048576) : CallA Tryz.prog 23 [.ag (a.cs 0), .ag (b.cs 7)] (a.hp false ++ b.hp false) (.sc (.bo (paired a b))) (a.hp false ++ b.hp false) := by
  have hon := onN_len a.subs
  refine callA_of Tryz.func23 (by kernel_rfl) rfl fun E hE => run_den 400 ?_
  simp (disch := omega) only [Tryz.ntmps23, Tryz.results23, go_sem, Nat.reduceEqDiff, Nat.reduceAdd, Nat.reduceSub, Int.reduceAdd, Int.reduceSub, Int.reduceToNat]
  refine den_call (by (try simp (disch := omega) only [go_sem, Nat.reduceEqDiff, Nat.reduceAdd, Nat.reduceSub, Int.reduceAdd, Int.reduceSub, Int.reduceToNat]) <;> omega) (impl_OnOf a h1) [some (0, none), some (1, none), some (2, none), some (3, none), some (4, none), some (5, none), some (6, none)] (by simp only [go_sem]; repeat' first | rfl | constructor) (by rfl) (run_den 400 ?_)
  simp (disch := omega) only [go_sem, Nat.reduceEqDiff, Nat.reduceAdd, Nat.reduceSub, Int.reduceAdd, Int.reduceSub, Int.reduceToNat]
  refine den_lp 14 hE (fun s (k : Nat) => s.at [0, 1, 4, 6, 7, 11, 12, 13, 14, 15, 16, 17, 18, 19, 20, 21, 22] [(10, .sc (.int .i64 (k : Nat)))] (s.hp)) (fun (k : Nat) => k ≤ (onN a.subs).length ∧ ((onN a.subs).drop k).all (fun n => hasPart b.subs false (subAtN a.subs n)) = paired a b) (fun (k : Nat) => (onN a.subs).length - k) 0 [some (0, none), some (1, none), some (2, none), some (3, none), some (4, none), some (5, none), some (6, none), some (7, none), some (8, none), some (9, none), some (10, none), some (11, none), some (12, none), some (13, none), some (14, none), some (15, none), some (16, none)] (by (try simp (disch := omega) only [go_sem, Nat.reduceEqDiff, Nat.reduceAdd, Nat.reduceSub, Int.reduceAdd, Int.reduceSub, Int.reduceToNat]) <;> omega) (⟨Nat.zero_le _, onN_all⟩) (weak_mk (by rfl) (by rfl) ?_) fun k hk N hN => ?_
  · try simp (disch := omega) only [go_sem, Nat.reduceEqDiff, Nat.reduceAdd, Nat.reduceSub, Int.reduceAdd, Int.reduceSub, Int.reduceToNat]
  · obtain ⟨hk1, hk2⟩ := hk
    refine run_den 400 ?_
    try simp (disch := omega) only [go_sem, Nat.reduceEqDiff, Nat.reduceAdd, Nat.reduceSub, Int.reduceAdd, Int.reduceSub, Int.reduceToNat]
    split <;> rename_i h <;> (try simp only [beq_true, beq_false, Bool.not_eq_true', Bool.not_eq_false'] at h) <;> simp (disch := omega) only [go_sem, Nat.reduceEqDiff, Nat.reduceAdd, Nat.reduceSub, Int.reduceAdd, Int.reduceSub, Int.reduceToNat, h] <;> (try simp only [decide_eq_true_eq, decide_eq_false_iff_not, beq_iff_eq, beq_eq_false_iff_ne, bne_iff_ne, bne_eq_false_iff_eq, ne_eq, Decidable.not_not, Bool.and_eq_true, Bool.and_eq_false_iff, Bool.or_eq_true, Bool.or_eq_false_iff, Int.ofNat_lt, Int.ofNat_le, Bool.not_eq_eq_eq_not, Bool.not_true, Bool.not_false] at h) <;> try simp (disch := omega) only [go_sem, Nat.reduceEqDiff, Nat.reduceAdd, Nat.reduceSub, Int.reduceAdd, Int.reduceSub, Int.reduceToNat]
    · rw [all_step h] at hk2
      have hlt := onN_lt h
      rw [subAtN_eq hlt] at hk2
      try simp (disch := omega) only [go_sem, Nat.reduceEqDiff, Nat.reduceAdd, Nat.reduceSub, Int.reduceAdd, Int.reduceSub, Int.reduceToNat]
      refine den_draw1 [0, 1, 2, 3, 4, 5, 6, 7] (by kernel_rfl) (by (try simp (disch := omega) only [go_sem, Nat.reduceEqDiff, Nat.reduceAdd, Nat.reduceSub, Int.reduceAdd, Int.reduceSub, Int.reduceToNat]) <;> omega) (by kernel_rfl) (runD_den 400 ?_)
      simp (disch := omega) only [go_sem, Nat.reduceEqDiff, Nat.reduceAdd, Nat.reduceSub, Int.reduceAdd, Int.reduceSub, Int.reduceToNat]
      refine den_callD (by (try simp (disch := omega) only [go_sem, Nat.reduceEqDiff, Nat.reduceAdd, Nat.reduceSub, Int.reduceAdd, Int.reduceSub, Int.reduceToNat]) <;> omega) (impl_partner a.subs[(onN a.subs)[k]] b false h2) [some (7, none), some (8, none), some (9, none), some (10, none), some (11, none), some (12, none), some (13, none)] (by simp only [go_sem]; repeat' first | rfl | constructor) (by rfl) (by rfl) (runD_den 400 ?_)
      simp (disch := omega) only [go_sem, Nat.reduceEqDiff, Nat.reduceAdd, Nat.reduceSub, Int.reduceAdd, Int.reduceSub, Int.reduceToNat]
      refine ⟨by (try simp (disch := omega) only [go_sem, Nat.reduceEqDiff, Nat.reduceAdd, Nat.reduceSub, Int.reduceAdd, Int.reduceSub, Int.reduceToNat]) <;> omega, run_den 400 ?_⟩
      try simp (disch := omega) only [go_sem, Nat.reduceEqDiff, Nat.reduceAdd, Nat.reduceSub, Int.reduceAdd, Int.reduceSub, Int.reduceToNat]
      split <;> rename_i h3 <;> (try simp only [beq_true, beq_false, Bool.not_eq_true', Bool.not_eq_false'] at h3) <;> simp (disch := omega) only [go_sem, Nat.reduceEqDiff, Nat.reduceAdd, Nat.reduceSub, Int.reduceAdd, Int.reduceSub, Int.reduceToNat, h3] <;> (try simp only [decide_eq_true_eq, decide_eq_false_iff_not, beq_iff_eq, beq_eq_false_iff_ne, bne_iff_ne, bne_eq_false_iff_eq, ne_eq, Decidable.not_not, Bool.and_eq_true, Bool.and_eq_false_iff, Bool.or_eq_true, Bool.or_eq_false_iff, Int.ofNat_lt, Int.ofNat_le, Bool.not_eq_eq_eq_not, Bool.not_true, Bool.not_false] at h3) <;> try simp (disch := omega) only [go_sem, Nat.reduceEqDiff, Nat.reduceAdd, Nat.reduceSub, Int.reduceAdd, Int.reduceSub, Int.reduceToNat]
      · rw [h3] at hk2
        refine den_fin [some (0, none), some (1, none), some (2, none), some (3, none), some (4, none), some (5, none), some (6, none), some (7, none), some (8, none), some (9, none), some (10, none), some (11, none), some (12, none), some (13, none)] (by (try simp (disch := omega) only [go_sem, Nat.reduceEqDiff, Nat.reduceAdd, Nat.reduceSub, Int.reduceAdd, Int.reduceSub, Int.reduceToNat]) <;> omega) _ (by simp only [go_sem]; rfl) (by rfl) (by rfl) ?_
        simp (disch := omega) only [go_sem, Nat.reduceEqDiff, Nat.reduceAdd, Nat.reduceSub, Int.reduceAdd, Int.reduceSub, Int.reduceToNat]
        exact hk2
      · rw [h3] at hk2
        refine ⟨by (try simp (disch := omega) only [go_sem, Nat.reduceEqDiff, Nat.reduceAdd, Nat.reduceSub, Int.reduceAdd, Int.reduceSub, Int.reduceToNat]) <;> omega, hN _ (k + 1) [some (0, none), some (1, none), some (2, none), some (3, none), some (4, none), some (5, none), some (6, none), some (7, none), some (8, none), some (9, none), some (10, none), some (11, none), some (12, none), some (13, none), some (14, none), some (15, none), some (16, none)] (by (try dsimp only); exact ⟨by omega, hk2⟩) (by (try dsimp only); omega) (weak_mk (by rfl) (by rfl) ?_)⟩
        try simp (disch := omega) only [go_sem, Nat.reduceEqDiff, Nat.reduceAdd, Nat.reduceSub, Int.reduceAdd, Int.reduceSub, Int.reduceToNat]
    · rw [all_end (by omega)] at hk2
      refine den_fin [some (0, none), some (1, none), some (2, none), some (3, none), some (4, none), some (5, none), some (6, none), some (7, none), some (8, none), some (9, none), some (10, none), some (11, none), some (12, none), some (13, none)] (by (try simp (disch := omega) only [go_sem, Nat.reduceEqDiff, Nat.reduceAdd, Nat.reduceSub, Int.reduceAdd, Int.reduceSub, Int.reduceToNat]) <;> omega) _ (by simp only [go_sem]; rfl) (by rfl) (by rfl) ?_
      simp (disch := omega) only [go_sem, Nat.reduceEqDiff, Nat.reduceAdd, Nat.reduceSub, Int.reduceAdd, Int.reduceSub, Int.reduceToNat]
      exact hk2
theorem or_any_step {P : SubD → Bool} {l : List SubD} {k : Nat} {r : Bool} (h : k < l.length) (hr : (false || (l.drop k).any P) = r) : (P l[k] || (l.drop (k + 1)).any P) = r := by
  rw [← hr, any_step h, Bool.false_or]
theorem spec_Paired (a b : EndD) (h1 : a.subs.length ≤ 1048576) (h2 : b.subs.length ≤ 1048576) : CallA Tryz.prog 14 [.ag (a.cs 0), .ag (b.cs 7)] (a.hp false ++ b.hp false) (.sc (.bo (paired a b))) (a.hp false ++ b.hp false) := by
  refine callA_of Tryz.func14 (by kernel_rfl) rfl fun E hE => run_den 400 ?_
  simp (disch := omega) only [Tryz.ntmps14, Tryz.results14, go_sem, Nat.reduceEqDiff, Nat.reduceAdd, Nat.reduceSub, Int.reduceAdd, Int.reduceSub, Int.reduceToNat]
  refine den_lp 14 hE (fun s (k : Nat) => s.at [0, 1, 4, 6, 7, 8, 9, 10, 11, 12, 13, 14, 15, 16, 17, 18, 19, 20, 21, 22, 23, 24, 25, 26, 27, 28, 29, 30, 31, 32, 33, 34, 35, 36, 37, 38, 39, 40, 41, 42, 43, 44, 45, 46, 47, 48, 49, 50, 51, 52, 53, 54, 55, 56, 57, 58, 59, 60, 61, 62] [(5, .sc (.int .i64 (k : Nat)))] (s.hp)) (fun (k : Nat) => k ≤ a.subs.length ∧ (a.subs.drop k).all (fun s => s.state != 3 || hasPart b.subs false s) = paired a b) (fun (k : Nat) => a.subs.length - k) 0 [some (0, none), some (1, none), some (2, none), some (3, none), some (4, none), some (5, none), some (6, none), some (7, none), some (8, none), some (9, none), some (10, none), some (11, none), some (12, none), some (13, none), some (14, none), some (15, none)] (by (try simp (disch := omega) only [go_sem, Nat.reduceEqDiff, Nat.reduceAdd, Nat.reduceSub, Int.reduceAdd, Int.reduceSub, Int.reduceToNat]) <;> omega) (⟨Nat.zero_le _, rfl⟩) (weak_mk (by rfl) (by rfl) ?_) fun k hk N hN => ?_
  · try simp (disch := omega) only [go_sem, Nat.reduceEqDiff, Nat.reduceAdd, Nat.reduceSub, Int.reduceAdd, Int.reduceSub, Int.reduceToNat]
  · obtain ⟨hk1, hk2⟩ := hk
    refine run_den 400 ?_
    try simp (disch := omega) only [go_sem, Nat.reduceEqDiff, Nat.reduceAdd, Nat.reduceSub, Int.reduceAdd, Int.reduceSub, Int.reduceToNat]
    split <;> rename_i h <;> (try simp only [beq_true, beq_false, Bool.not_eq_true', Bool.not_eq_false'] at h) <;> simp (disch := omega) only [go_sem, Nat.reduceEqDiff, Nat.reduceAdd, Nat.reduceSub, Int.reduceAdd, Int.reduceSub, Int.reduceToNat, h] <;> (try simp only [decide_eq_true_eq, decide_eq_false_iff_not, beq_iff_eq, beq_eq_false_iff_ne, bne_iff_ne, bne_eq_false_iff_eq, ne_eq, Decidable.not_not, Bool.and_eq_true, Bool.and_eq_false_iff, Bool.or_eq_true, Bool.or_eq_false_iff, Int.ofNat_lt, Int.ofNat_le, Bool.not_eq_eq_eq_not, Bool.not_true, Bool.not_false] at h) <;> try simp (disch := omega) only [go_sem, Nat.reduceEqDiff, Nat.reduceAdd, Nat.reduceSub, Int.reduceAdd, Int.reduceSub, Int.reduceToNat]
    · rw [all_step h] at hk2
      generalize hR : (a.subs[k].state != 3 || hasPart b.subs false a.subs[k]) = r at hk2
      obtain ⟨q, hq⟩ : ∃ q, q = (a.subs[k].state != 3) := ⟨_, rfl⟩
      try simp (disch := omega) only [go_sem, Nat.reduceEqDiff, Nat.reduceAdd, Nat.reduceSub, Int.reduceAdd, Int.reduceSub, Int.reduceToNat]
      try rw [← hq]
      refine den_lp 14 hE (fun s (y : Nat × Bool) => s.at [0, 1, 9, 10, 11, 12, 13, 15, 16, 17, 18, 19, 20, 21, 22, 23, 24, 25, 26, 27, 28, 29, 30, 31, 32, 33, 34, 35, 36, 37, 38, 39, 40, 41, 42, 43, 44, 45, 46, 47, 48, 49, 50, 51, 52, 53, 54, 55, 56, 57, 58, 59, 60, 61] [(8, .sc (.int .i64 (y.1 : Nat))), (7, .sc (.bo y.2))] (s.hp)) (fun (y : Nat × Bool) => y.1 ≤ b.subs.length ∧ (y.2 || (b.subs.drop y.1).any (partP a.subs[k] false)) = r) (fun (y : Nat × Bool) => b.subs.length - y.1) (0, q) [some (0, none), some (1, none), some (2, none), some (3, none), some (4, none), some (5, none), some (6, none), some (7, none), some (8, none), some (9, none), some (10, none), some (11, none), some (12, none), some (13, none), some (14, none), some (15, none), some (16, none)] (by (try simp (disch := omega) only [go_sem, Nat.reduceEqDiff, Nat.reduceAdd, Nat.reduceSub, Int.reduceAdd, Int.reduceSub, Int.reduceToNat]) <;> omega) (⟨Nat.zero_le _, by rw [hq]; exact hR⟩) (weak_mk (by rfl) (by rfl) ?_) fun y hy N2 hN2 => ?_
      · try simp (disch := omega) only [go_sem, Nat.reduceEqDiff, Nat.reduceAdd, Nat.reduceSub, Int.reduceAdd, Int.reduceSub, Int.reduceToNat]
        try exact ⟨rfl, hq⟩
      · obtain ⟨j, has⟩ := y
        obtain ⟨hy1, hy2⟩ := hy
        dsimp only at hy1 hy2
        refine run_den 400 ?_
        cases has with
        | true =>
          rw [Bool.true_or] at hy2
          subst hy2
          have hkk : (true && (List.drop (k + 1) a.subs).all fun s => s.state != 3 || hasPart b.subs false s) = paired a b := hk2
          try simp (disch := omega) only [go_sem, Nat.reduceEqDiff, Nat.reduceAdd, Nat.reduceSub, Int.reduceAdd, Int.reduceSub, Int.reduceToNat]
          split <;> rename_i h4 <;> (try simp only [beq_true, beq_false, Bool.not_eq_true', Bool.not_eq_false'] at h4) <;> simp (disch := omega) only [go_sem, Nat.reduceEqDiff, Nat.reduceAdd, Nat.reduceSub, Int.reduceAdd, Int.reduceSub, Int.reduceToNat, h4] <;> (try simp only [decide_eq_true_eq, decide_eq_false_iff_not, beq_iff_eq, beq_eq_false_iff_ne, bne_iff_ne, bne_eq_false_iff_eq, ne_eq, Decidable.not_not, Bool.and_eq_true, Bool.and_eq_false_iff, Bool.or_eq_true, Bool.or_eq_false_iff, Int.ofNat_lt, Int.ofNat_le, Bool.not_eq_eq_eq_not, Bool.not_true, Bool.not_false] at h4) <;> try simp (disch := omega) only [go_sem, Nat.reduceEqDiff, Nat.reduceAdd, Nat.reduceSub, Int.reduceAdd, Int.reduceSub, Int.reduceToNat]
          · refine ⟨by (try simp (disch := omega) only [go_sem, Nat.reduceEqDiff, Nat.reduceAdd, Nat.reduceSub, Int.reduceAdd, Int.reduceSub, Int.reduceToNat]) <;> omega, hN _ (k + 1) [some (0, none), some (1, none), some (2, none), some (3, none), some (4, none), some (5, none), some (6, none), some (7, none), some (8, none), some (9, none), some (10, none), some (11, none), some (12, none), some (13, none), some (14, none), some (15, none)] (by (try dsimp only); exact ⟨by omega, hkk⟩) (by (try dsimp only); omega) (weak_mk (by rfl) (by rfl) ?_)⟩
            try simp (disch := omega) only [go_sem, Nat.reduceEqDiff, Nat.reduceAdd, Nat.reduceSub, Int.reduceAdd, Int.reduceSub, Int.reduceToNat]
          · refine ⟨by (try simp (disch := omega) only [go_sem, Nat.reduceEqDiff, Nat.reduceAdd, Nat.reduceSub, Int.reduceAdd, Int.reduceSub, Int.reduceToNat]) <;> omega, hN _ (k + 1) [some (0, none), some (1, none), some (2, none), some (3, none), some (4, none), some (5, none), some (6, none), some (7, none), some (8, none), some (9, none), some (10, none), some (11, none), some (12, none), some (13, none), some (14, none), some (15, none)] (by (try dsimp only); exact ⟨by omega, hkk⟩) (by (try dsimp only); omega) (weak_mk (by rfl) (by rfl) ?_)⟩
            try simp (disch := omega) only [go_sem, Nat.reduceEqDiff, Nat.reduceAdd, Nat.reduceSub, Int.reduceAdd, Int.reduceSub, Int.reduceToNat]
        | false =>
          try simp (disch := omega) only [go_sem, Nat.reduceEqDiff, Nat.reduceAdd, Nat.reduceSub, Int.reduceAdd, Int.reduceSub, Int.reduceToNat]
          split <;> rename_i h4 <;> (try simp only [beq_true, beq_false, Bool.not_eq_true', Bool.not_eq_false'] at h4) <;> simp (disch := omega) only [go_sem, Nat.reduceEqDiff, Nat.reduceAdd, Nat.reduceSub, Int.reduceAdd, Int.reduceSub, Int.reduceToNat, h4] <;> (try simp only [decide_eq_true_eq, decide_eq_false_iff_not, beq_iff_eq, beq_eq_false_iff_ne, bne_iff_ne, bne_eq_false_iff_eq, ne_eq, Decidable.not_not, Bool.and_eq_true, Bool.and_eq_false_iff, Bool.or_eq_true, Bool.or_eq_false_iff, Int.ofNat_lt, Int.ofNat_le, Bool.not_eq_eq_eq_not, Bool.not_true, Bool.not_false] at h4) <;> try simp (disch := omega) only [go_sem, Nat.reduceEqDiff, Nat.reduceAdd, Nat.reduceSub, Int.reduceAdd, Int.reduceSub, Int.reduceToNat]
          · have hy3 := or_any_step h4 hy2
            refine den_draw1 [0, 1, 2, 3, 4, 5, 6, 7, 8, 9, 10, 11, 12, 13, 14, 15, 16, 17, 18, 19, 20] (by kernel_rfl) (by (try simp (disch := omega) only [go_sem, Nat.reduceEqDiff, Nat.reduceAdd, Nat.reduceSub, Int.reduceAdd, Int.reduceSub, Int.reduceToNat]) <;> omega) (by kernel_rfl) (runD_den 400 ?_)
            simp (disch := omega) only [go_sem, Nat.reduceEqDiff, Nat.reduceAdd, Nat.reduceSub, Int.reduceAdd, Int.reduceSub, Int.reduceToNat]
            refine den_callD (by (try simp (disch := omega) only [go_sem, Nat.reduceEqDiff, Nat.reduceAdd, Nat.reduceSub, Int.reduceAdd, Int.reduceSub, Int.reduceToNat]) <;> omega) (spec_RoadBack a.subs[k].road) [] (by simp only [go_sem]; repeat' first | rfl | constructor) (by rfl) (by rfl) (runD_den 400 ?_)
            simp (disch := omega) only [go_sem, Nat.reduceEqDiff, Nat.reduceAdd, Nat.reduceSub, Int.reduceAdd, Int.reduceSub, Int.reduceToNat]
            split <;> rename_i h5 <;> (try simp only [beq_true, beq_false, Bool.not_eq_true', Bool.not_eq_false'] at h5) <;> simp (disch := omega) only [go_sem, Nat.reduceEqDiff, Nat.reduceAdd, Nat.reduceSub, Int.reduceAdd, Int.reduceSub, Int.reduceToNat, h5] <;> (try simp only [decide_eq_true_eq, decide_eq_false_iff_not, beq_iff_eq, beq_eq_false_iff_ne, bne_iff_ne, bne_eq_false_iff_eq, ne_eq, Decidable.not_not, Bool.and_eq_true, Bool.and_eq_false_iff, Bool.or_eq_true, Bool.or_eq_false_iff, Int.ofNat_lt, Int.ofNat_le, Bool.not_eq_eq_eq_not, Bool.not_true, Bool.not_false] at h5) <;> try simp (disch := omega) only [go_sem, Nat.reduceEqDiff, Nat.reduceAdd, Nat.reduceSub, Int.reduceAdd, Int.reduceSub, Int.reduceToNat]
            · split <;> rename_i h6 <;> (try simp only [beq_true, beq_false, Bool.not_eq_true', Bool.not_eq_false'] at h6) <;> simp (disch := omega) only [go_sem, Nat.reduceEqDiff, Nat.reduceAdd, Nat.reduceSub, Int.reduceAdd, Int.reduceSub, Int.reduceToNat, h6] <;> (try simp only [decide_eq_true_eq, decide_eq_false_iff_not, beq_iff_eq, beq_eq_false_iff_ne, bne_iff_ne, bne_eq_false_iff_eq, ne_eq, Decidable.not_not, Bool.and_eq_true, Bool.and_eq_false_iff, Bool.or_eq_true, Bool.or_eq_false_iff, Int.ofNat_lt, Int.ofNat_le, Bool.not_eq_eq_eq_not, Bool.not_true, Bool.not_false] at h6) <;> try simp (disch := omega) only [go_sem, Nat.reduceEqDiff, Nat.reduceAdd, Nat.reduceSub, Int.reduceAdd, Int.reduceSub, Int.reduceToNat]
              · refine ⟨by (try simp (disch := omega) only [go_sem, Nat.reduceEqDiff, Nat.reduceAdd, Nat.reduceSub, Int.reduceAdd, Int.reduceSub, Int.reduceToNat]) <;> omega, run_den 400 ?_⟩
                try simp (disch := omega) only [go_sem, Nat.reduceEqDiff, Nat.reduceAdd, Nat.reduceSub, Int.reduceAdd, Int.reduceSub, Int.reduceToNat]
                cases hg : (b.subs[j].give == a.subs[k].take) with
                | true =>
                  have hg' : b.subs[j].give = a.subs[k].take := by simpa using hg
                  rw [partP_t h5 h6 hg' (.inl rfl)] at hy3
                  try simp (disch := omega) only [go_sem, Nat.reduceEqDiff, Nat.reduceAdd, Nat.reduceSub, Int.reduceAdd, Int.reduceSub, Int.reduceToNat, hg]
                  refine ⟨by (try simp (disch := omega) only [go_sem, Nat.reduceEqDiff, Nat.reduceAdd, Nat.reduceSub, Int.reduceAdd, Int.reduceSub, Int.reduceToNat]) <;> omega, hN2 _ (j + 1, true) [some (0, none), some (1, none), some (2, none), some (3, none), some (4, none), some (5, none), some (6, none), some (7, none), some (8, none), some (9, none), some (10, none), some (11, none), some (12, none), some (13, none), some (14, none), some (15, none), some (16, none)] (by (try dsimp only); exact ⟨by omega, hy3⟩) (by (try dsimp only); omega) (weak_mk (by rfl) (by rfl) ?_)⟩
                  try simp (disch := omega) only [go_sem, Nat.reduceEqDiff, Nat.reduceAdd, Nat.reduceSub, Int.reduceAdd, Int.reduceSub, Int.reduceToNat, hg]
                | false =>
                  have hg' : ¬ b.subs[j].give = a.subs[k].take := by simpa using hg
                  rw [partP_f3 hg'] at hy3
                  try simp (disch := omega) only [go_sem, Nat.reduceEqDiff, Nat.reduceAdd, Nat.reduceSub, Int.reduceAdd, Int.reduceSub, Int.reduceToNat, hg]
                  refine ⟨by (try simp (disch := omega) only [go_sem, Nat.reduceEqDiff, Nat.reduceAdd, Nat.reduceSub, Int.reduceAdd, Int.reduceSub, Int.reduceToNat]) <;> omega, hN2 _ (j + 1, false) [some (0, none), some (1, none), some (2, none), some (3, none), some (4, none), some (5, none), some (6, none), some (7, none), some (8, none), some (9, none), some (10, none), some (11, none), some (12, none), some (13, none), some (14, none), some (15, none), some (16, none)] (by (try dsimp only); exact ⟨by omega, hy3⟩) (by (try dsimp only); omega) (weak_mk (by rfl) (by rfl) ?_)⟩
                  try simp (disch := omega) only [go_sem, Nat.reduceEqDiff, Nat.reduceAdd, Nat.reduceSub, Int.reduceAdd, Int.reduceSub, Int.reduceToNat, hg]
              · rw [partP_f2 h6] at hy3
                refine ⟨by (try simp (disch := omega) only [go_sem, Nat.reduceEqDiff, Nat.reduceAdd, Nat.reduceSub, Int.reduceAdd, Int.reduceSub, Int.reduceToNat]) <;> omega, run_den 400 ?_⟩
                try simp (disch := omega) only [go_sem, Nat.reduceEqDiff, Nat.reduceAdd, Nat.reduceSub, Int.reduceAdd, Int.reduceSub, Int.reduceToNat]
                refine ⟨by (try simp (disch := omega) only [go_sem, Nat.reduceEqDiff, Nat.reduceAdd, Nat.reduceSub, Int.reduceAdd, Int.reduceSub, Int.reduceToNat]) <;> omega, hN2 _ (j + 1, false) [some (0, none), some (1, none), some (2, none), some (3, none), some (4, none), some (5, none), some (6, none), some (7, none), some (8, none), some (9, none), some (10, none), some (11, none), some (12, none), some (13, none), some (14, none), some (15, none), some (16, none)] (by (try dsimp only); exact ⟨by omega, hy3⟩) (by (try dsimp only); omega) (weak_mk (by rfl) (by rfl) ?_)⟩
                try simp (disch := omega) only [go_sem, Nat.reduceEqDiff, Nat.reduceAdd, Nat.reduceSub, Int.reduceAdd, Int.reduceSub, Int.reduceToNat]
            · rw [partP_f1 h5] at hy3
              refine ⟨by (try simp (disch := omega) only [go_sem, Nat.reduceEqDiff, Nat.reduceAdd, Nat.reduceSub, Int.reduceAdd, Int.reduceSub, Int.reduceToNat]) <;> omega, run_den 400 ?_⟩
              try simp (disch := omega) only [go_sem, Nat.reduceEqDiff, Nat.reduceAdd, Nat.reduceSub, Int.reduceAdd, Int.reduceSub, Int.reduceToNat]
              refine ⟨by (try simp (disch := omega) only [go_sem, Nat.reduceEqDiff, Nat.reduceAdd, Nat.reduceSub, Int.reduceAdd, Int.reduceSub, Int.reduceToNat]) <;> omega, hN2 _ (j + 1, false) [some (0, none), some (1, none), some (2, none), some (3, none), some (4, none), some (5, none), some (6, none), some (7, none), some (8, none), some (9, none), some (10, none), some (11, none), some (12, none), some (13, none), some (14, none), some (15, none), some (16, none)] (by (try dsimp only); exact ⟨by omega, hy3⟩) (by (try dsimp only); omega) (weak_mk (by rfl) (by rfl) ?_)⟩
              try simp (disch := omega) only [go_sem, Nat.reduceEqDiff, Nat.reduceAdd, Nat.reduceSub, Int.reduceAdd, Int.reduceSub, Int.reduceToNat]
          · rw [any_end (by omega)] at hy2
            rw [← hy2] at hk2
            refine den_fin [some (0, none), some (1, none), some (2, none), some (3, none), some (4, none), some (5, none), some (6, none), some (7, none), some (8, none), some (9, none), some (10, none), some (11, none), some (12, none), some (13, none)] (by (try simp (disch := omega) only [go_sem, Nat.reduceEqDiff, Nat.reduceAdd, Nat.reduceSub, Int.reduceAdd, Int.reduceSub, Int.reduceToNat]) <;> omega) _ (by simp only [go_sem]; rfl) (by rfl) (by rfl) ?_
            simp (disch := omega) only [go_sem, Nat.reduceEqDiff, Nat.reduceAdd, Nat.reduceSub, Int.reduceAdd, Int.reduceSub, Int.reduceToNat]
            exact hk2
    · rw [all_end (by omega)] at hk2
      refine den_fin [some (0, none), some (1, none), some (2, none), some (3, none), some (4, none), some (5, none), some (6, none), some (7, none), some (8, none), some (9, none), some (10, none), some (11, none), some (12, none), some (13, none)] (by (try simp (disch := omega) only [go_sem, Nat.reduceEqDiff, Nat.reduceAdd, Nat.reduceSub, Int.reduceAdd, Int.reduceSub, Int.reduceToNat]) <;> omega) _ (by simp only [go_sem]; rfl) (by rfl) (by rfl) ?_
      simp (disch := omega) only [go_sem, Nat.reduceEqDiff, Nat.reduceAdd, Nat.reduceSub, Int.reduceAdd, Int.reduceSub, Int.reduceToNat]
      exact hk2
end Go.Proofs.YtoghbjbfldlfpaaGreat
