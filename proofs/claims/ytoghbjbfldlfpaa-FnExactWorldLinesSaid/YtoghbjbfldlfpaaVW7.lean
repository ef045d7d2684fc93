import Derived.Test.YtoghbjbfldlfpaaVW6
namespace Go.Proofs.Ytoghbjbfldlfpaa
open Go.RowKit
set_option linter.unusedVariables false
set_option linter.unusedSimpArgs false
set_option maxRecDepth 10000

theorem impl_PolicyOk (p : PolicyD) : CallA Try.prog 178 [.ag p.cs] [] (.sc (.bo (polOk p))) [] := by
  refine callA_of Try.func178 (by kernel_rfl) rfl fun E hE => run_den 400 ?_
  simp (disch := omega) only [Try.ntmps178, Try.results178, go_sem, Nat.reduceEqDiff, Nat.reduceAdd, Nat.reduceSub, Int.reduceAdd, Int.reduceSub, Int.reduceToNat]
  split <;> rename_i h1 <;> (try simp only [beq_true, beq_false, Bool.not_eq_true', Bool.not_eq_false'] at h1) <;> simp (disch := omega) only [go_sem, Nat.reduceEqDiff, Nat.reduceAdd, Nat.reduceSub, Int.reduceAdd, Int.reduceSub, Int.reduceToNat, h1] <;> (try simp only [decide_eq_true_eq, decide_eq_false_iff_not, beq_iff_eq, beq_eq_false_iff_ne, bne_iff_ne, bne_eq_false_iff_eq, ne_eq, Decidable.not_not, Bool.and_eq_true, Bool.and_eq_false_iff, Bool.or_eq_true, Bool.or_eq_false_iff, Int.ofNat_lt, Int.ofNat_le, Bool.not_eq_eq_eq_not, Bool.not_true, Bool.not_false] at h1) <;> try simp (disch := omega) only [go_sem, Nat.reduceEqDiff, Nat.reduceAdd, Nat.reduceSub, Int.reduceAdd, Int.reduceSub, Int.reduceToNat]
  · refine den_call (by (try simp (disch := omega) only [go_sem, Nat.reduceEqDiff, Nat.reduceAdd, Nat.reduceSub, Int.reduceAdd, Int.reduceSub, Int.reduceToNat]) <;> omega) (impl_within _ _ _) [] (by simp only [go_sem]; repeat' first | rfl | constructor) (by rfl) (run_den 400 ?_)
    simp (disch := omega) only [go_sem, Nat.reduceEqDiff, Nat.reduceAdd, Nat.reduceSub, Int.reduceAdd, Int.reduceSub, Int.reduceToNat]
    refine den_fin [] (by (try simp (disch := omega) only [go_sem, Nat.reduceEqDiff, Nat.reduceAdd, Nat.reduceSub, Int.reduceAdd, Int.reduceSub, Int.reduceToNat]) <;> omega) _ (by simp only [go_sem]; rfl) (by rfl) (by rfl) ?_
    simp (disch := omega) only [go_sem, Nat.reduceEqDiff, Nat.reduceAdd, Nat.reduceSub, Int.reduceAdd, Int.reduceSub, Int.reduceToNat]
    simp [polOk, h1]
  · split <;> rename_i h2 <;> (try simp only [beq_true, beq_false, Bool.not_eq_true', Bool.not_eq_false'] at h2) <;> simp (disch := omega) only [go_sem, Nat.reduceEqDiff, Nat.reduceAdd, Nat.reduceSub, Int.reduceAdd, Int.reduceSub, Int.reduceToNat, h2] <;> (try simp only [decide_eq_true_eq, decide_eq_false_iff_not, beq_iff_eq, beq_eq_false_iff_ne, bne_iff_ne, bne_eq_false_iff_eq, ne_eq, Decidable.not_not, Bool.and_eq_true, Bool.and_eq_false_iff, Bool.or_eq_true, Bool.or_eq_false_iff, Int.ofNat_lt, Int.ofNat_le, Bool.not_eq_eq_eq_not, Bool.not_true, Bool.not_false] at h2) <;> try simp (disch := omega) only [go_sem, Nat.reduceEqDiff, Nat.reduceAdd, Nat.reduceSub, Int.reduceAdd, Int.reduceSub, Int.reduceToNat]
    · split <;> rename_i h3 <;> (try simp only [beq_true, beq_false, Bool.not_eq_true', Bool.not_eq_false'] at h3) <;> simp (disch := omega) only [go_sem, Nat.reduceEqDiff, Nat.reduceAdd, Nat.reduceSub, Int.reduceAdd, Int.reduceSub, Int.reduceToNat, h3] <;> (try simp only [decide_eq_true_eq, decide_eq_false_iff_not, beq_iff_eq, beq_eq_false_iff_ne, bne_iff_ne, bne_eq_false_iff_eq, ne_eq, Decidable.not_not, Bool.and_eq_true, Bool.and_eq_false_iff, Bool.or_eq_true, Bool.or_eq_false_iff, Int.ofNat_lt, Int.ofNat_le, Bool.not_eq_eq_eq_not, Bool.not_true, Bool.not_false] at h3) <;> try simp (disch := omega) only [go_sem, Nat.reduceEqDiff, Nat.reduceAdd, Nat.reduceSub, Int.reduceAdd, Int.reduceSub, Int.reduceToNat]
      · refine den_fin [] (by (try simp (disch := omega) only [go_sem, Nat.reduceEqDiff, Nat.reduceAdd, Nat.reduceSub, Int.reduceAdd, Int.reduceSub, Int.reduceToNat]) <;> omega) _ (by simp only [go_sem]; rfl) (by rfl) (by rfl) ?_
        simp (disch := omega) only [go_sem, Nat.reduceEqDiff, Nat.reduceAdd, Nat.reduceSub, Int.reduceAdd, Int.reduceSub, Int.reduceToNat]
        simp [polOk, h1, h2, h3]
      · refine den_fin [] (by (try simp (disch := omega) only [go_sem, Nat.reduceEqDiff, Nat.reduceAdd, Nat.reduceSub, Int.reduceAdd, Int.reduceSub, Int.reduceToNat]) <;> omega) _ (by simp only [go_sem]; rfl) (by rfl) (by rfl) ?_
        simp (disch := omega) only [go_sem, Nat.reduceEqDiff, Nat.reduceAdd, Nat.reduceSub, Int.reduceAdd, Int.reduceSub, Int.reduceToNat]
        simp [polOk, h1, h2, h3]
    · refine den_fin [] (by (try simp (disch := omega) only [go_sem, Nat.reduceEqDiff, Nat.reduceAdd, Nat.reduceSub, Int.reduceAdd, Int.reduceSub, Int.reduceToNat]) <;> omega) _ (by simp only [go_sem]; rfl) (by rfl) (by rfl) ?_
      simp (disch := omega) only [go_sem, Nat.reduceEqDiff, Nat.reduceAdd, Nat.reduceSub, Int.reduceAdd, Int.reduceSub, Int.reduceToNat]
      simp [polOk, h1, h2]
theorem spec_PolicyOk (p : PolicyD) : CallA Try.prog 176 [.ag p.cs] [] (.sc (.bo (polOk p))) [] := by
  refine callA_of Try.func176 (by kernel_rfl) rfl fun E hE => run_den 400 ?_
  simp (disch := omega) only [Try.ntmps176, Try.results176, go_sem, Nat.reduceEqDiff, Nat.reduceAdd, Nat.reduceSub, Int.reduceAdd, Int.reduceSub, Int.reduceToNat]
  split <;> rename_i h1 <;> (try simp only [beq_true, beq_false, Bool.not_eq_true', Bool.not_eq_false'] at h1) <;> simp (disch := omega) only [go_sem, Nat.reduceEqDiff, Nat.reduceAdd, Nat.reduceSub, Int.reduceAdd, Int.reduceSub, Int.reduceToNat, h1] <;> (try simp only [decide_eq_true_eq, decide_eq_false_iff_not, beq_iff_eq, beq_eq_false_iff_ne, bne_iff_ne, bne_eq_false_iff_eq, ne_eq, Decidable.not_not, Bool.and_eq_true, Bool.and_eq_false_iff, Bool.or_eq_true, Bool.or_eq_false_iff, Int.ofNat_lt, Int.ofNat_le, Bool.not_eq_eq_eq_not, Bool.not_true, Bool.not_false] at h1) <;> try simp (disch := omega) only [go_sem, Nat.reduceEqDiff, Nat.reduceAdd, Nat.reduceSub, Int.reduceAdd, Int.reduceSub, Int.reduceToNat]
  · refine den_call (by (try simp (disch := omega) only [go_sem, Nat.reduceEqDiff, Nat.reduceAdd, Nat.reduceSub, Int.reduceAdd, Int.reduceSub, Int.reduceToNat]) <;> omega) (spec_l01In _ _ _) [] (by simp only [go_sem]; repeat' first | rfl | constructor) (by rfl) (run_den 400 ?_)
    simp (disch := omega) only [go_sem, Nat.reduceEqDiff, Nat.reduceAdd, Nat.reduceSub, Int.reduceAdd, Int.reduceSub, Int.reduceToNat]
    refine den_fin [] (by (try simp (disch := omega) only [go_sem, Nat.reduceEqDiff, Nat.reduceAdd, Nat.reduceSub, Int.reduceAdd, Int.reduceSub, Int.reduceToNat]) <;> omega) _ (by simp only [go_sem]; rfl) (by rfl) (by rfl) ?_
    simp (disch := omega) only [go_sem, Nat.reduceEqDiff, Nat.reduceAdd, Nat.reduceSub, Int.reduceAdd, Int.reduceSub, Int.reduceToNat]
    simp [polOk, h1]
  · split <;> rename_i h2 <;> (try simp only [beq_true, beq_false, Bool.not_eq_true', Bool.not_eq_false'] at h2) <;> simp (disch := omega) only [go_sem, Nat.reduceEqDiff, Nat.reduceAdd, Nat.reduceSub, Int.reduceAdd, Int.reduceSub, Int.reduceToNat, h2] <;> (try simp only [decide_eq_true_eq, decide_eq_false_iff_not, beq_iff_eq, beq_eq_false_iff_ne, bne_iff_ne, bne_eq_false_iff_eq, ne_eq, Decidable.not_not, Bool.and_eq_true, Bool.and_eq_false_iff, Bool.or_eq_true, Bool.or_eq_false_iff, Int.ofNat_lt, Int.ofNat_le, Bool.not_eq_eq_eq_not, Bool.not_true, Bool.not_false] at h2) <;> try simp (disch := omega) only [go_sem, Nat.reduceEqDiff, Nat.reduceAdd, Nat.reduceSub, Int.reduceAdd, Int.reduceSub, Int.reduceToNat]
    · split <;> rename_i h3 <;> (try simp only [beq_true, beq_false, Bool.not_eq_true', Bool.not_eq_false'] at h3) <;> simp (disch := omega) only [go_sem, Nat.reduceEqDiff, Nat.reduceAdd, Nat.reduceSub, Int.reduceAdd, Int.reduceSub, Int.reduceToNat, h3] <;> (try simp only [decide_eq_true_eq, decide_eq_false_iff_not, beq_iff_eq, beq_eq_false_iff_ne, bne_iff_ne, bne_eq_false_iff_eq, ne_eq, Decidable.not_not, Bool.and_eq_true, Bool.and_eq_false_iff, Bool.or_eq_true, Bool.or_eq_false_iff, Int.ofNat_lt, Int.ofNat_le, Bool.not_eq_eq_eq_not, Bool.not_true, Bool.not_false] at h3) <;> try simp (disch := omega) only [go_sem, Nat.reduceEqDiff, Nat.reduceAdd, Nat.reduceSub, Int.reduceAdd, Int.reduceSub, Int.reduceToNat]
      · refine den_fin [] (by (try simp (disch := omega) only [go_sem, Nat.reduceEqDiff, Nat.reduceAdd, Nat.reduceSub, Int.reduceAdd, Int.reduceSub, Int.reduceToNat]) <;> omega) _ (by simp only [go_sem]; rfl) (by rfl) (by rfl) ?_
        simp (disch := omega) only [go_sem, Nat.reduceEqDiff, Nat.reduceAdd, Nat.reduceSub, Int.reduceAdd, Int.reduceSub, Int.reduceToNat]
        simp [polOk, h1, h2, h3]
      · refine den_fin [] (by (try simp (disch := omega) only [go_sem, Nat.reduceEqDiff, Nat.reduceAdd, Nat.reduceSub, Int.reduceAdd, Int.reduceSub, Int.reduceToNat]) <;> omega) _ (by simp only [go_sem]; rfl) (by rfl) (by rfl) ?_
        simp (disch := omega) only [go_sem, Nat.reduceEqDiff, Nat.reduceAdd, Nat.reduceSub, Int.reduceAdd, Int.reduceSub, Int.reduceToNat]
        simp [polOk, h1, h2, h3]
    · refine den_fin [] (by (try simp (disch := omega) only [go_sem, Nat.reduceEqDiff, Nat.reduceAdd, Nat.reduceSub, Int.reduceAdd, Int.reduceSub, Int.reduceToNat]) <;> omega) _ (by simp only [go_sem]; rfl) (by rfl) (by rfl) ?_
      simp (disch := omega) only [go_sem, Nat.reduceEqDiff, Nat.reduceAdd, Nat.reduceSub, Int.reduceAdd, Int.reduceSub, Int.reduceToNat]
      simp [polOk, h1, h2]
theorem impl_PolicyLine (p : PolicyD) (hp : p.wf) : CallA Try.prog 98 [.ag p.cs] [] (.sc (.st (polLine p))) [] := by
  have hd := dec_le hp.2
  refine callA_of Try.func98 (by kernel_rfl) rfl fun E hE => run_den 400 ?_
  simp (disch := omega) only [Try.ntmps98, Try.results98, go_sem, Nat.reduceEqDiff, Nat.reduceAdd, Nat.reduceSub, Int.reduceAdd, Int.reduceSub, Int.reduceToNat]
  refine den_call (by (try simp (disch := omega) only [go_sem, Nat.reduceEqDiff, Nat.reduceAdd, Nat.reduceSub, Int.reduceAdd, Int.reduceSub, Int.reduceToNat]) <;> omega) (impl_PolicyOk p) [] (by simp only [go_sem]; repeat' first | rfl | constructor) (by rfl) (run_den 400 ?_)
  simp (disch := omega) only [go_sem, Nat.reduceEqDiff, Nat.reduceAdd, Nat.reduceSub, Int.reduceAdd, Int.reduceSub, Int.reduceToNat]
  split <;> rename_i h1 <;> (try simp only [beq_true, beq_false, Bool.not_eq_true', Bool.not_eq_false'] at h1) <;> simp (disch := omega) only [go_sem, Nat.reduceEqDiff, Nat.reduceAdd, Nat.reduceSub, Int.reduceAdd, Int.reduceSub, Int.reduceToNat, h1] <;> (try simp only [decide_eq_true_eq, decide_eq_false_iff_not, beq_iff_eq, beq_eq_false_iff_ne, bne_iff_ne, bne_eq_false_iff_eq, ne_eq, Decidable.not_not, Bool.and_eq_true, Bool.and_eq_false_iff, Bool.or_eq_true, Bool.or_eq_false_iff, Int.ofNat_lt, Int.ofNat_le, Bool.not_eq_eq_eq_not, Bool.not_true, Bool.not_false] at h1) <;> try simp (disch := omega) only [go_sem, Nat.reduceEqDiff, Nat.reduceAdd, Nat.reduceSub, Int.reduceAdd, Int.reduceSub, Int.reduceToNat]
  · refine den_fin [] (by (try simp (disch := omega) only [go_sem, Nat.reduceEqDiff, Nat.reduceAdd, Nat.reduceSub, Int.reduceAdd, Int.reduceSub, Int.reduceToNat]) <;> omega) _ (by simp only [go_sem]; rfl) (by rfl) (by rfl) ?_
    simp (disch := omega) only [go_sem, Nat.reduceEqDiff, Nat.reduceAdd, Nat.reduceSub, Int.reduceAdd, Int.reduceSub, Int.reduceToNat]
    simp [polLine, h1]
  · split <;> rename_i h2 <;> (try simp only [beq_true, beq_false, Bool.not_eq_true', Bool.not_eq_false'] at h2) <;> simp (disch := omega) only [go_sem, Nat.reduceEqDiff, Nat.reduceAdd, Nat.reduceSub, Int.reduceAdd, Int.reduceSub, Int.reduceToNat, h2] <;> (try simp only [decide_eq_true_eq, decide_eq_false_iff_not, beq_iff_eq, beq_eq_false_iff_ne, bne_iff_ne, bne_eq_false_iff_eq, ne_eq, Decidable.not_not, Bool.and_eq_true, Bool.and_eq_false_iff, Bool.or_eq_true, Bool.or_eq_false_iff, Int.ofNat_lt, Int.ofNat_le, Bool.not_eq_eq_eq_not, Bool.not_true, Bool.not_false] at h2) <;> try simp (disch := omega) only [go_sem, Nat.reduceEqDiff, Nat.reduceAdd, Nat.reduceSub, Int.reduceAdd, Int.reduceSub, Int.reduceToNat]
    · refine den_fin [] (by (try simp (disch := omega) only [go_sem, Nat.reduceEqDiff, Nat.reduceAdd, Nat.reduceSub, Int.reduceAdd, Int.reduceSub, Int.reduceToNat]) <;> omega) _ (by simp only [go_sem]; rfl) (by rfl) (by rfl) ?_
      simp (disch := omega) only [go_sem, Nat.reduceEqDiff, Nat.reduceAdd, Nat.reduceSub, Int.reduceAdd, Int.reduceSub, Int.reduceToNat]
      simp [polLine, h1, h2]
    · split <;> rename_i h3 <;> (try simp only [beq_true, beq_false, Bool.not_eq_true', Bool.not_eq_false'] at h3) <;> simp (disch := omega) only [go_sem, Nat.reduceEqDiff, Nat.reduceAdd, Nat.reduceSub, Int.reduceAdd, Int.reduceSub, Int.reduceToNat, h3] <;> (try simp only [decide_eq_true_eq, decide_eq_false_iff_not, beq_iff_eq, beq_eq_false_iff_ne, bne_iff_ne, bne_eq_false_iff_eq, ne_eq, Decidable.not_not, Bool.and_eq_true, Bool.and_eq_false_iff, Bool.or_eq_true, Bool.or_eq_false_iff, Int.ofNat_lt, Int.ofNat_le, Bool.not_eq_eq_eq_not, Bool.not_true, Bool.not_false] at h3) <;> try simp (disch := omega) only [go_sem, Nat.reduceEqDiff, Nat.reduceAdd, Nat.reduceSub, Int.reduceAdd, Int.reduceSub, Int.reduceToNat]
      · refine den_fin [] (by (try simp (disch := omega) only [go_sem, Nat.reduceEqDiff, Nat.reduceAdd, Nat.reduceSub, Int.reduceAdd, Int.reduceSub, Int.reduceToNat]) <;> omega) _ (by simp only [go_sem]; rfl) (by rfl) (by rfl) ?_
        simp (disch := omega) only [go_sem, Nat.reduceEqDiff, Nat.reduceAdd, Nat.reduceSub, Int.reduceAdd, Int.reduceSub, Int.reduceToNat]
        simp [polLine, h1, h2, h3]
      · refine den_call (by (try simp (disch := omega) only [go_sem, Nat.reduceEqDiff, Nat.reduceAdd, Nat.reduceSub, Int.reduceAdd, Int.reduceSub, Int.reduceToNat]) <;> omega) (impl_Decimal _ hp.2) [] (by simp only [go_sem]; repeat' first | rfl | constructor) (by rfl) (run_den 400 ?_)
        simp (disch := omega) only [go_sem, Nat.reduceEqDiff, Nat.reduceAdd, Nat.reduceSub, Int.reduceAdd, Int.reduceSub, Int.reduceToNat]
        refine den_fin [] (by (try simp (disch := omega) only [go_sem, Nat.reduceEqDiff, Nat.reduceAdd, Nat.reduceSub, Int.reduceAdd, Int.reduceSub, Int.reduceToNat]) <;> omega) _ (by simp only [go_sem]; rfl) (by rfl) (by rfl) ?_
        simp (disch := omega) only [go_sem, Nat.reduceEqDiff, Nat.reduceAdd, Nat.reduceSub, Int.reduceAdd, Int.reduceSub, Int.reduceToNat]
        simp [polLine, h1, h2, h3]
theorem spec_PolicyLine (p : PolicyD) (hp : p.wf) : CallA Try.prog 94 [.ag p.cs] [] (.sc (.st (polLine p))) [] := by
  have hd := dec_le hp.2
  refine callA_of Try.func94 (by kernel_rfl) rfl fun E hE => run_den 400 ?_
  simp (disch := omega) only [Try.ntmps94, Try.results94, go_sem, Nat.reduceEqDiff, Nat.reduceAdd, Nat.reduceSub, Int.reduceAdd, Int.reduceSub, Int.reduceToNat]
  refine den_call (by (try simp (disch := omega) only [go_sem, Nat.reduceEqDiff, Nat.reduceAdd, Nat.reduceSub, Int.reduceAdd, Int.reduceSub, Int.reduceToNat]) <;> omega) (spec_PolicyOk p) [] (by simp only [go_sem]; repeat' first | rfl | constructor) (by rfl) (run_den 400 ?_)
  simp (disch := omega) only [go_sem, Nat.reduceEqDiff, Nat.reduceAdd, Nat.reduceSub, Int.reduceAdd, Int.reduceSub, Int.reduceToNat]
  split <;> rename_i h1 <;> (try simp only [beq_true, beq_false, Bool.not_eq_true', Bool.not_eq_false'] at h1) <;> simp (disch := omega) only [go_sem, Nat.reduceEqDiff, Nat.reduceAdd, Nat.reduceSub, Int.reduceAdd, Int.reduceSub, Int.reduceToNat, h1] <;> (try simp only [decide_eq_true_eq, decide_eq_false_iff_not, beq_iff_eq, beq_eq_false_iff_ne, bne_iff_ne, bne_eq_false_iff_eq, ne_eq, Decidable.not_not, Bool.and_eq_true, Bool.and_eq_false_iff, Bool.or_eq_true, Bool.or_eq_false_iff, Int.ofNat_lt, Int.ofNat_le, Bool.not_eq_eq_eq_not, Bool.not_true, Bool.not_false] at h1) <;> try simp (disch := omega) only [go_sem, Nat.reduceEqDiff, Nat.reduceAdd, Nat.reduceSub, Int.reduceAdd, Int.reduceSub, Int.reduceToNat]
  · refine den_fin [] (by (try simp (disch := omega) only [go_sem, Nat.reduceEqDiff, Nat.reduceAdd, Nat.reduceSub, Int.reduceAdd, Int.reduceSub, Int.reduceToNat]) <;> omega) _ (by simp only [go_sem]; rfl) (by rfl) (by rfl) ?_
    simp (disch := omega) only [go_sem, Nat.reduceEqDiff, Nat.reduceAdd, Nat.reduceSub, Int.reduceAdd, Int.reduceSub, Int.reduceToNat]
    simp [polLine, h1]
  · split <;> rename_i h2 <;> (try simp only [beq_true, beq_false, Bool.not_eq_true', Bool.not_eq_false'] at h2) <;> simp (disch := omega) only [go_sem, Nat.reduceEqDiff, Nat.reduceAdd, Nat.reduceSub, Int.reduceAdd, Int.reduceSub, Int.reduceToNat, h2] <;> (try simp only [decide_eq_true_eq, decide_eq_false_iff_not, beq_iff_eq, beq_eq_false_iff_ne, bne_iff_ne, bne_eq_false_iff_eq, ne_eq, Decidable.not_not, Bool.and_eq_true, Bool.and_eq_false_iff, Bool.or_eq_true, Bool.or_eq_false_iff, Int.ofNat_lt, Int.ofNat_le, Bool.not_eq_eq_eq_not, Bool.not_true, Bool.not_false] at h2) <;> try simp (disch := omega) only [go_sem, Nat.reduceEqDiff, Nat.reduceAdd, Nat.reduceSub, Int.reduceAdd, Int.reduceSub, Int.reduceToNat]
    · refine den_fin [] (by (try simp (disch := omega) only [go_sem, Nat.reduceEqDiff, Nat.reduceAdd, Nat.reduceSub, Int.reduceAdd, Int.reduceSub, Int.reduceToNat]) <;> omega) _ (by simp only [go_sem]; rfl) (by rfl) (by rfl) ?_
      simp (disch := omega) only [go_sem, Nat.reduceEqDiff, Nat.reduceAdd, Nat.reduceSub, Int.reduceAdd, Int.reduceSub, Int.reduceToNat]
      simp [polLine, h1, h2]
    · split <;> rename_i h3 <;> (try simp only [beq_true, beq_false, Bool.not_eq_true', Bool.not_eq_false'] at h3) <;> simp (disch := omega) only [go_sem, Nat.reduceEqDiff, Nat.reduceAdd, Nat.reduceSub, Int.reduceAdd, Int.reduceSub, Int.reduceToNat, h3] <;> (try simp only [decide_eq_true_eq, decide_eq_false_iff_not, beq_iff_eq, beq_eq_false_iff_ne, bne_iff_ne, bne_eq_false_iff_eq, ne_eq, Decidable.not_not, Bool.and_eq_true, Bool.and_eq_false_iff, Bool.or_eq_true, Bool.or_eq_false_iff, Int.ofNat_lt, Int.ofNat_le, Bool.not_eq_eq_eq_not, Bool.not_true, Bool.not_false] at h3) <;> try simp (disch := omega) only [go_sem, Nat.reduceEqDiff, Nat.reduceAdd, Nat.reduceSub, Int.reduceAdd, Int.reduceSub, Int.reduceToNat]
      · refine den_call (by (try simp (disch := omega) only [go_sem, Nat.reduceEqDiff, Nat.reduceAdd, Nat.reduceSub, Int.reduceAdd, Int.reduceSub, Int.reduceToNat]) <;> omega) (spec_Decimal _ hp.2) [] (by simp only [go_sem]; repeat' first | rfl | constructor) (by rfl) (run_den 400 ?_)
        simp (disch := omega) only [go_sem, Nat.reduceEqDiff, Nat.reduceAdd, Nat.reduceSub, Int.reduceAdd, Int.reduceSub, Int.reduceToNat]
        refine den_fin [] (by (try simp (disch := omega) only [go_sem, Nat.reduceEqDiff, Nat.reduceAdd, Nat.reduceSub, Int.reduceAdd, Int.reduceSub, Int.reduceToNat]) <;> omega) _ (by simp only [go_sem]; rfl) (by rfl) (by rfl) ?_
        simp (disch := omega) only [go_sem, Nat.reduceEqDiff, Nat.reduceAdd, Nat.reduceSub, Int.reduceAdd, Int.reduceSub, Int.reduceToNat]
        simp [polLine, h1, h2, h3]
      · have h4 : p.kind = 3 := Classical.byContradiction fun h4 => h3 (polOk_kind h1 h2 h4)
        refine den_fin [] (by (try simp (disch := omega) only [go_sem, Nat.reduceEqDiff, Nat.reduceAdd, Nat.reduceSub, Int.reduceAdd, Int.reduceSub, Int.reduceToNat]) <;> omega) _ (by simp only [go_sem]; rfl) (by rfl) (by rfl) ?_
        simp (disch := omega) only [go_sem, Nat.reduceEqDiff, Nat.reduceAdd, Nat.reduceSub, Int.reduceAdd, Int.reduceSub, Int.reduceToNat]
        simp [polLine, h1, h2, h4]
theorem impl_sameParts (a : List UInt8) (l : List (List UInt8)) (hl : l.length ≤ 1073741000) (hj : (joinL [32] l).length ≤ 4611686018427387904) : CallA Try.prog 97 [.sc (.st a), .sc (.sl 0 0 l.length)] [some ⟨l.map strC, 1, 9, false, true⟩] (.sc (.bo (sameB a l))) [some ⟨l.map strC, 1, 9, false, true⟩] := by
  have hp := partsL_tot a
  have hq := partsL_join a
  refine callA_of Try.func97 (by kernel_rfl) rfl fun E hE => run_den 400 ?_
  simp (disch := omega) only [Try.ntmps97, Try.results97, go_sem, Nat.reduceEqDiff, Nat.reduceAdd, Nat.reduceSub, Int.reduceAdd, Int.reduceSub, Int.reduceToNat]
  refine den_call (by (try simp (disch := omega) only [go_sem, Nat.reduceEqDiff, Nat.reduceAdd, Nat.reduceSub, Int.reduceAdd, Int.reduceSub, Int.reduceToNat]) <;> omega) (impl_PartsOf a) [] (by simp only [go_sem]; repeat' first | rfl | constructor) (by rfl) (run_den 400 ?_)
  simp (disch := omega) only [go_sem, Nat.reduceEqDiff, Nat.reduceAdd, Nat.reduceSub, Int.reduceAdd, Int.reduceSub, Int.reduceToNat]
  split <;> rename_i h1 <;> (try simp only [beq_true, beq_false, Bool.not_eq_true', Bool.not_eq_false'] at h1) <;> simp (disch := omega) only [go_sem, Nat.reduceEqDiff, Nat.reduceAdd, Nat.reduceSub, Int.reduceAdd, Int.reduceSub, Int.reduceToNat, h1] <;> (try simp only [decide_eq_true_eq, decide_eq_false_iff_not, beq_iff_eq, beq_eq_false_iff_ne, bne_iff_ne, bne_eq_false_iff_eq, ne_eq, Decidable.not_not, Bool.and_eq_true, Bool.and_eq_false_iff, Bool.or_eq_true, Bool.or_eq_false_iff, Int.ofNat_lt, Int.ofNat_le, Bool.not_eq_eq_eq_not, Bool.not_true, Bool.not_false] at h1) <;> try simp (disch := omega) only [go_sem, Nat.reduceEqDiff, Nat.reduceAdd, Nat.reduceSub, Int.reduceAdd, Int.reduceSub, Int.reduceToNat]
  · split <;> rename_i h2 <;> (try simp only [beq_true, beq_false, Bool.not_eq_true', Bool.not_eq_false'] at h2) <;> simp (disch := omega) only [go_sem, Nat.reduceEqDiff, Nat.reduceAdd, Nat.reduceSub, Int.reduceAdd, Int.reduceSub, Int.reduceToNat, h2] <;> (try simp only [decide_eq_true_eq, decide_eq_false_iff_not, beq_iff_eq, beq_eq_false_iff_ne, bne_iff_ne, bne_eq_false_iff_eq, ne_eq, Decidable.not_not, Bool.and_eq_true, Bool.and_eq_false_iff, Bool.or_eq_true, Bool.or_eq_false_iff, Int.ofNat_lt, Int.ofNat_le, Bool.not_eq_eq_eq_not, Bool.not_true, Bool.not_false] at h2) <;> try simp (disch := omega) only [go_sem, Nat.reduceEqDiff, Nat.reduceAdd, Nat.reduceSub, Int.reduceAdd, Int.reduceSub, Int.reduceToNat]
    · refine den_call (by (try simp (disch := omega) only [go_sem, Nat.reduceEqDiff, Nat.reduceAdd, Nat.reduceSub, Int.reduceAdd, Int.reduceSub, Int.reduceToNat]) <;> omega) (impl_joined [32] (partsL a).1 ?_ ?_) [some (1, none)] (by simp only [go_sem]; repeat' first | rfl | constructor) (by rfl) (run_den 400 ?_)
      · omega
      · omega
      simp (disch := omega) only [go_sem, Nat.reduceEqDiff, Nat.reduceAdd, Nat.reduceSub, Int.reduceAdd, Int.reduceSub, Int.reduceToNat]
      refine den_call (by (try simp (disch := omega) only [go_sem, Nat.reduceEqDiff, Nat.reduceAdd, Nat.reduceSub, Int.reduceAdd, Int.reduceSub, Int.reduceToNat]) <;> omega) (impl_joined [32] l hl hj) [some (0, none)] (by simp only [go_sem]; repeat' first | rfl | constructor) (by rfl) (run_den 400 ?_)
      simp (disch := omega) only [go_sem, Nat.reduceEqDiff, Nat.reduceAdd, Nat.reduceSub, Int.reduceAdd, Int.reduceSub, Int.reduceToNat]
      split <;> rename_i h3 <;> (try simp only [beq_true, beq_false, Bool.not_eq_true', Bool.not_eq_false'] at h3) <;> simp (disch := omega) only [go_sem, Nat.reduceEqDiff, Nat.reduceAdd, Nat.reduceSub, Int.reduceAdd, Int.reduceSub, Int.reduceToNat, h3] <;> (try simp only [decide_eq_true_eq, decide_eq_false_iff_not, beq_iff_eq, beq_eq_false_iff_ne, bne_iff_ne, bne_eq_false_iff_eq, ne_eq, Decidable.not_not, Bool.and_eq_true, Bool.and_eq_false_iff, Bool.or_eq_true, Bool.or_eq_false_iff, Int.ofNat_lt, Int.ofNat_le, Bool.not_eq_eq_eq_not, Bool.not_true, Bool.not_false] at h3) <;> try simp (disch := omega) only [go_sem, Nat.reduceEqDiff, Nat.reduceAdd, Nat.reduceSub, Int.reduceAdd, Int.reduceSub, Int.reduceToNat]
      · refine den_fin [some (0, none)] (by (try simp (disch := omega) only [go_sem, Nat.reduceEqDiff, Nat.reduceAdd, Nat.reduceSub, Int.reduceAdd, Int.reduceSub, Int.reduceToNat]) <;> omega) _ (by simp only [go_sem]; rfl) (by rfl) (by rfl) ?_
        simp (disch := omega) only [go_sem, Nat.reduceEqDiff, Nat.reduceAdd, Nat.reduceSub, Int.reduceAdd, Int.reduceSub, Int.reduceToNat]
        simp [sameB, h1, h2, h3, nat_beq]
      · refine den_fin [some (0, none)] (by (try simp (disch := omega) only [go_sem, Nat.reduceEqDiff, Nat.reduceAdd, Nat.reduceSub, Int.reduceAdd, Int.reduceSub, Int.reduceToNat]) <;> omega) _ (by simp only [go_sem]; rfl) (by rfl) (by rfl) ?_
        simp (disch := omega) only [go_sem, Nat.reduceEqDiff, Nat.reduceAdd, Nat.reduceSub, Int.reduceAdd, Int.reduceSub, Int.reduceToNat]
        simp [sameB, h1, h2, h3]
    · refine den_fin [some (0, none)] (by (try simp (disch := omega) only [go_sem, Nat.reduceEqDiff, Nat.reduceAdd, Nat.reduceSub, Int.reduceAdd, Int.reduceSub, Int.reduceToNat]) <;> omega) _ (by simp only [go_sem]; rfl) (by rfl) (by rfl) ?_
      simp (disch := omega) only [go_sem, Nat.reduceEqDiff, Nat.reduceAdd, Nat.reduceSub, Int.reduceAdd, Int.reduceSub, Int.reduceToNat]
      simp [sameB, h1, h2]
  · refine den_fin [some (0, none)] (by (try simp (disch := omega) only [go_sem, Nat.reduceEqDiff, Nat.reduceAdd, Nat.reduceSub, Int.reduceAdd, Int.reduceSub, Int.reduceToNat]) <;> omega) _ (by simp only [go_sem]; rfl) (by rfl) (by rfl) ?_
    simp (disch := omega) only [go_sem, Nat.reduceEqDiff, Nat.reduceAdd, Nat.reduceSub, Int.reduceAdd, Int.reduceSub, Int.reduceToNat]
    simp [sameB, h1]
def polRes (line : List UInt8) : PolicyD × Bool := if (partsL line).2 then readGo (partsL line).1 cands else (polNone, false)
theorem selP_wf (parts : List (List UInt8)) : PolicyD.wf (selP parts) := by
  have h : I64 (numAt parts 1) := by
    rw [numAt]
    split
    · exact readDec_wf _
    · exact ⟨by decide, by decide⟩
  rw [selP]
  split
  · exact ⟨⟨by decide, by decide⟩, ⟨by decide, by decide⟩⟩
  · split
    · exact ⟨(⟨by decide, by decide⟩ : I64 2), h⟩
    · exact ⟨⟨by decide, by decide⟩, ⟨by decide, by decide⟩⟩
theorem spec_ReadPolicy (line : List UInt8) : CallA Try.prog 26 [.sc (.st line)] [] (.tu [.ag (polRes line).1.cs, .sc (.bo (polRes line).2)]) [] := by
  have hp := partsL_tot line
  have hq := partsL_join line
  have hcl := partsL_clean line
  refine callA_of Try.func26 (by kernel_rfl) rfl fun E hE => run_den 400 ?_
  simp (disch := omega) only [Try.ntmps26, Try.results26, go_sem, Nat.reduceEqDiff, Nat.reduceAdd, Nat.reduceSub, Int.reduceAdd, Int.reduceSub, Int.reduceToNat]
  refine den_call (by (try simp (disch := omega) only [go_sem, Nat.reduceEqDiff, Nat.reduceAdd, Nat.reduceSub, Int.reduceAdd, Int.reduceSub, Int.reduceToNat]) <;> omega) (spec_PartsOf line) [] (by simp only [go_sem]; repeat' first | rfl | constructor) (by rfl) (run_den 400 ?_)
  simp (disch := omega) only [go_sem, Nat.reduceEqDiff, Nat.reduceAdd, Nat.reduceSub, Int.reduceAdd, Int.reduceSub, Int.reduceToNat]
  rw [polRes]
  generalize partsL line = pr at hp hq hcl ⊢
  obtain ⟨parts, ok⟩ := pr
  dsimp only at hp hq hcl ⊢
  cases ok with
  | false =>
    try simp (disch := omega) only [go_sem, Nat.reduceEqDiff, Nat.reduceAdd, Nat.reduceSub, Int.reduceAdd, Int.reduceSub, Int.reduceToNat]
    refine den_fin [] (by (try simp (disch := omega) only [go_sem, Nat.reduceEqDiff, Nat.reduceAdd, Nat.reduceSub, Int.reduceAdd, Int.reduceSub, Int.reduceToNat]) <;> omega) _ (by simp only [go_sem]; rfl) (by rfl) (by rfl) ?_
    simp (disch := omega) only [go_sem, Nat.reduceEqDiff, Nat.reduceAdd, Nat.reduceSub, Int.reduceAdd, Int.reduceSub, Int.reduceToNat]
    exact ⟨rfl, rfl⟩
  | true =>
    rw [if_pos rfl, ← specPol_eq hcl]
    cases parts with
    | nil =>
      try simp (disch := omega) only [go_sem, Nat.reduceEqDiff, Nat.reduceAdd, Nat.reduceSub, Int.reduceAdd, Int.reduceSub, Int.reduceToNat]
      refine den_fin [] (by (try simp (disch := omega) only [go_sem, Nat.reduceEqDiff, Nat.reduceAdd, Nat.reduceSub, Int.reduceAdd, Int.reduceSub, Int.reduceToNat]) <;> omega) _ (by simp only [go_sem]; rfl) (by rfl) (by rfl) ?_
      simp (disch := omega) only [go_sem, Nat.reduceEqDiff, Nat.reduceAdd, Nat.reduceSub, Int.reduceAdd, Int.reduceSub, Int.reduceToNat]
      exact ⟨⟨rfl, rfl⟩, rfl⟩
    | cons s r =>
      have hlen : (s :: r).length = r.length + 1 := rfl
      try simp (disch := omega) only [go_sem, Nat.reduceEqDiff, Nat.reduceAdd, Nat.reduceSub, Int.reduceAdd, Int.reduceSub, Int.reduceToNat]
      split <;> rename_i h2 <;> (try simp only [beq_true, beq_false, Bool.not_eq_true', Bool.not_eq_false'] at h2) <;> simp (disch := omega) only [go_sem, Nat.reduceEqDiff, Nat.reduceAdd, Nat.reduceSub, Int.reduceAdd, Int.reduceSub, Int.reduceToNat, h2] <;> (try simp only [decide_eq_true_eq, decide_eq_false_iff_not, beq_iff_eq, beq_eq_false_iff_ne, bne_iff_ne, bne_eq_false_iff_eq, ne_eq, Decidable.not_not, Bool.and_eq_true, Bool.and_eq_false_iff, Bool.or_eq_true, Bool.or_eq_false_iff, Int.ofNat_lt, Int.ofNat_le, Bool.not_eq_eq_eq_not, Bool.not_true, Bool.not_false] at h2) <;> try simp (disch := omega) only [go_sem, Nat.reduceEqDiff, Nat.reduceAdd, Nat.reduceSub, Int.reduceAdd, Int.reduceSub, Int.reduceToNat]
      · have hx : selP (s :: r) = ⟨1, 0⟩ := by simp [selP, h2]
        have hw := selP_wf (s :: r)
        rw [hx] at hw
        refine den_call (by (try simp (disch := omega) only [go_sem, Nat.reduceEqDiff, Nat.reduceAdd, Nat.reduceSub, Int.reduceAdd, Int.reduceSub, Int.reduceToNat]) <;> omega) (spec_PolicyLine ⟨1, 0⟩ hw) [] (by simp only [go_sem]; repeat' first | rfl | constructor) (by rfl) (run_den 400 ?_)
        simp (disch := omega) only [go_sem, Nat.reduceEqDiff, Nat.reduceAdd, Nat.reduceSub, Int.reduceAdd, Int.reduceSub, Int.reduceToNat]
        split <;> rename_i h3 <;> (try simp only [beq_true, beq_false, Bool.not_eq_true', Bool.not_eq_false'] at h3) <;> simp (disch := omega) only [go_sem, Nat.reduceEqDiff, Nat.reduceAdd, Nat.reduceSub, Int.reduceAdd, Int.reduceSub, Int.reduceToNat, h3] <;> (try simp only [decide_eq_true_eq, decide_eq_false_iff_not, beq_iff_eq, beq_eq_false_iff_ne, bne_iff_ne, bne_eq_false_iff_eq, ne_eq, Decidable.not_not, Bool.and_eq_true, Bool.and_eq_false_iff, Bool.or_eq_true, Bool.or_eq_false_iff, Int.ofNat_lt, Int.ofNat_le, Bool.not_eq_eq_eq_not, Bool.not_true, Bool.not_false] at h3) <;> try simp (disch := omega) only [go_sem, Nat.reduceEqDiff, Nat.reduceAdd, Nat.reduceSub, Int.reduceAdd, Int.reduceSub, Int.reduceToNat]
        · refine den_call (by (try simp (disch := omega) only [go_sem, Nat.reduceEqDiff, Nat.reduceAdd, Nat.reduceSub, Int.reduceAdd, Int.reduceSub, Int.reduceToNat]) <;> omega) (spec_PolicyLine ⟨1, 0⟩ hw) [] (by simp only [go_sem]; repeat' first | rfl | constructor) (by rfl) (run_den 400 ?_)
          simp (disch := omega) only [go_sem, Nat.reduceEqDiff, Nat.reduceAdd, Nat.reduceSub, Int.reduceAdd, Int.reduceSub, Int.reduceToNat]
          refine den_call (by (try simp (disch := omega) only [go_sem, Nat.reduceEqDiff, Nat.reduceAdd, Nat.reduceSub, Int.reduceAdd, Int.reduceSub, Int.reduceToNat]) <;> omega) (spec_l28Same (s :: r) ?_ ?_) [some (1, none)] (by simp only [go_sem]; repeat' first | rfl | constructor) (by rfl) (run_den 400 ?_)
          · omega
          · omega
          simp (disch := omega) only [go_sem, Nat.reduceEqDiff, Nat.reduceAdd, Nat.reduceSub, Int.reduceAdd, Int.reduceSub, Int.reduceToNat]
          split <;> rename_i h4 <;> (try simp only [beq_true, beq_false, Bool.not_eq_true', Bool.not_eq_false'] at h4) <;> simp (disch := omega) only [go_sem, Nat.reduceEqDiff, Nat.reduceAdd, Nat.reduceSub, Int.reduceAdd, Int.reduceSub, Int.reduceToNat, h4] <;> (try simp only [decide_eq_true_eq, decide_eq_false_iff_not, beq_iff_eq, beq_eq_false_iff_ne, bne_iff_ne, bne_eq_false_iff_eq, ne_eq, Decidable.not_not, Bool.and_eq_true, Bool.and_eq_false_iff, Bool.or_eq_true, Bool.or_eq_false_iff, Int.ofNat_lt, Int.ofNat_le, Bool.not_eq_eq_eq_not, Bool.not_true, Bool.not_false] at h4) <;> try simp (disch := omega) only [go_sem, Nat.reduceEqDiff, Nat.reduceAdd, Nat.reduceSub, Int.reduceAdd, Int.reduceSub, Int.reduceToNat]
          · refine den_fin [] (by (try simp (disch := omega) only [go_sem, Nat.reduceEqDiff, Nat.reduceAdd, Nat.reduceSub, Int.reduceAdd, Int.reduceSub, Int.reduceToNat]) <;> omega) _ (by simp only [go_sem]; rfl) (by rfl) (by rfl) ?_
            simp (disch := omega) only [go_sem, Nat.reduceEqDiff, Nat.reduceAdd, Nat.reduceSub, Int.reduceAdd, Int.reduceSub, Int.reduceToNat]
            rw [specPol, if_neg (by simp), hx, if_pos (.inr h4)]
            exact ⟨⟨rfl, rfl⟩, rfl⟩
          · refine den_fin [] (by (try simp (disch := omega) only [go_sem, Nat.reduceEqDiff, Nat.reduceAdd, Nat.reduceSub, Int.reduceAdd, Int.reduceSub, Int.reduceToNat]) <;> omega) _ (by simp only [go_sem]; rfl) (by rfl) (by rfl) ?_
            simp (disch := omega) only [go_sem, Nat.reduceEqDiff, Nat.reduceAdd, Nat.reduceSub, Int.reduceAdd, Int.reduceSub, Int.reduceToNat]
            rw [specPol, if_neg (by simp), hx, if_neg (fun h => h.elim h3 (fun h => h h4))]
            exact ⟨⟨rfl, rfl⟩, rfl⟩
        · refine den_fin [] (by (try simp (disch := omega) only [go_sem, Nat.reduceEqDiff, Nat.reduceAdd, Nat.reduceSub, Int.reduceAdd, Int.reduceSub, Int.reduceToNat]) <;> omega) _ (by simp only [go_sem]; rfl) (by rfl) (by rfl) ?_
          simp (disch := omega) only [go_sem, Nat.reduceEqDiff, Nat.reduceAdd, Nat.reduceSub, Int.reduceAdd, Int.reduceSub, Int.reduceToNat]
          rw [specPol, if_neg (by simp), hx, if_pos (.inl h3)]
          exact ⟨⟨rfl, rfl⟩, rfl⟩
      · split <;> rename_i h5 <;> (try simp only [beq_true, beq_false, Bool.not_eq_true', Bool.not_eq_false'] at h5) <;> simp (disch := omega) only [go_sem, Nat.reduceEqDiff, Nat.reduceAdd, Nat.reduceSub, Int.reduceAdd, Int.reduceSub, Int.reduceToNat, h5] <;> (try simp only [decide_eq_true_eq, decide_eq_false_iff_not, beq_iff_eq, beq_eq_false_iff_ne, bne_iff_ne, bne_eq_false_iff_eq, ne_eq, Decidable.not_not, Bool.and_eq_true, Bool.and_eq_false_iff, Bool.or_eq_true, Bool.or_eq_false_iff, Int.ofNat_lt, Int.ofNat_le, Bool.not_eq_eq_eq_not, Bool.not_true, Bool.not_false] at h5) <;> try simp (disch := omega) only [go_sem, Nat.reduceEqDiff, Nat.reduceAdd, Nat.reduceSub, Int.reduceAdd, Int.reduceSub, Int.reduceToNat]
        · have hx : selP (s :: r) = ⟨2, numAt (s :: r) 1⟩ := by simp [selP, h5]
          refine den_call (by (try simp (disch := omega) only [go_sem, Nat.reduceEqDiff, Nat.reduceAdd, Nat.reduceSub, Int.reduceAdd, Int.reduceSub, Int.reduceToNat]) <;> omega) (spec_l28Num (s :: r) 1 ?_) [some (1, none)] (by simp only [go_sem]; repeat' first | rfl | constructor) (by rfl) (run_den 400 ?_)
          · omega
          simp (disch := omega) only [go_sem, Nat.reduceEqDiff, Nat.reduceAdd, Nat.reduceSub, Int.reduceAdd, Int.reduceSub, Int.reduceToNat]
          have hw := selP_wf (s :: r)
          rw [hx] at hw
          refine den_call (by (try simp (disch := omega) only [go_sem, Nat.reduceEqDiff, Nat.reduceAdd, Nat.reduceSub, Int.reduceAdd, Int.reduceSub, Int.reduceToNat]) <;> omega) (spec_PolicyLine ⟨2, numAt (s :: r) 1⟩ hw) [] (by simp only [go_sem]; repeat' first | rfl | constructor) (by rfl) (run_den 400 ?_)
          simp (disch := omega) only [go_sem, Nat.reduceEqDiff, Nat.reduceAdd, Nat.reduceSub, Int.reduceAdd, Int.reduceSub, Int.reduceToNat]
          split <;> rename_i h3 <;> (try simp only [beq_true, beq_false, Bool.not_eq_true', Bool.not_eq_false'] at h3) <;> simp (disch := omega) only [go_sem, Nat.reduceEqDiff, Nat.reduceAdd, Nat.reduceSub, Int.reduceAdd, Int.reduceSub, Int.reduceToNat, h3] <;> (try simp only [decide_eq_true_eq, decide_eq_false_iff_not, beq_iff_eq, beq_eq_false_iff_ne, bne_iff_ne, bne_eq_false_iff_eq, ne_eq, Decidable.not_not, Bool.and_eq_true, Bool.and_eq_false_iff, Bool.or_eq_true, Bool.or_eq_false_iff, Int.ofNat_lt, Int.ofNat_le, Bool.not_eq_eq_eq_not, Bool.not_true, Bool.not_false] at h3) <;> try simp (disch := omega) only [go_sem, Nat.reduceEqDiff, Nat.reduceAdd, Nat.reduceSub, Int.reduceAdd, Int.reduceSub, Int.reduceToNat]
          · refine den_call (by (try simp (disch := omega) only [go_sem, Nat.reduceEqDiff, Nat.reduceAdd, Nat.reduceSub, Int.reduceAdd, Int.reduceSub, Int.reduceToNat]) <;> omega) (spec_PolicyLine ⟨2, numAt (s :: r) 1⟩ hw) [] (by simp only [go_sem]; repeat' first | rfl | constructor) (by rfl) (run_den 400 ?_)
            simp (disch := omega) only [go_sem, Nat.reduceEqDiff, Nat.reduceAdd, Nat.reduceSub, Int.reduceAdd, Int.reduceSub, Int.reduceToNat]
            refine den_call (by (try simp (disch := omega) only [go_sem, Nat.reduceEqDiff, Nat.reduceAdd, Nat.reduceSub, Int.reduceAdd, Int.reduceSub, Int.reduceToNat]) <;> omega) (spec_l28Same (s :: r) ?_ ?_) [some (1, none)] (by simp only [go_sem]; repeat' first | rfl | constructor) (by rfl) (run_den 400 ?_)
            · omega
            · omega
            simp (disch := omega) only [go_sem, Nat.reduceEqDiff, Nat.reduceAdd, Nat.reduceSub, Int.reduceAdd, Int.reduceSub, Int.reduceToNat]
            split <;> rename_i h4 <;> (try simp only [beq_true, beq_false, Bool.not_eq_true', Bool.not_eq_false'] at h4) <;> simp (disch := omega) only [go_sem, Nat.reduceEqDiff, Nat.reduceAdd, Nat.reduceSub, Int.reduceAdd, Int.reduceSub, Int.reduceToNat, h4] <;> (try simp only [decide_eq_true_eq, decide_eq_false_iff_not, beq_iff_eq, beq_eq_false_iff_ne, bne_iff_ne, bne_eq_false_iff_eq, ne_eq, Decidable.not_not, Bool.and_eq_true, Bool.and_eq_false_iff, Bool.or_eq_true, Bool.or_eq_false_iff, Int.ofNat_lt, Int.ofNat_le, Bool.not_eq_eq_eq_not, Bool.not_true, Bool.not_false] at h4) <;> try simp (disch := omega) only [go_sem, Nat.reduceEqDiff, Nat.reduceAdd, Nat.reduceSub, Int.reduceAdd, Int.reduceSub, Int.reduceToNat]
            · refine den_fin [] (by (try simp (disch := omega) only [go_sem, Nat.reduceEqDiff, Nat.reduceAdd, Nat.reduceSub, Int.reduceAdd, Int.reduceSub, Int.reduceToNat]) <;> omega) _ (by simp only [go_sem]; rfl) (by rfl) (by rfl) ?_
              simp (disch := omega) only [go_sem, Nat.reduceEqDiff, Nat.reduceAdd, Nat.reduceSub, Int.reduceAdd, Int.reduceSub, Int.reduceToNat]
              rw [specPol, if_neg (by simp), hx, if_pos (.inr h4)]
              exact ⟨⟨rfl, rfl⟩, rfl⟩
            · refine den_fin [] (by (try simp (disch := omega) only [go_sem, Nat.reduceEqDiff, Nat.reduceAdd, Nat.reduceSub, Int.reduceAdd, Int.reduceSub, Int.reduceToNat]) <;> omega) _ (by simp only [go_sem]; rfl) (by rfl) (by rfl) ?_
              simp (disch := omega) only [go_sem, Nat.reduceEqDiff, Nat.reduceAdd, Nat.reduceSub, Int.reduceAdd, Int.reduceSub, Int.reduceToNat]
              rw [specPol, if_neg (by simp), hx, if_neg (fun h => h.elim h3 (fun h => h h4))]
              exact ⟨⟨rfl, rfl⟩, rfl⟩
          · refine den_fin [] (by (try simp (disch := omega) only [go_sem, Nat.reduceEqDiff, Nat.reduceAdd, Nat.reduceSub, Int.reduceAdd, Int.reduceSub, Int.reduceToNat]) <;> omega) _ (by simp only [go_sem]; rfl) (by rfl) (by rfl) ?_
            simp (disch := omega) only [go_sem, Nat.reduceEqDiff, Nat.reduceAdd, Nat.reduceSub, Int.reduceAdd, Int.reduceSub, Int.reduceToNat]
            rw [specPol, if_neg (by simp), hx, if_pos (.inl h3)]
            exact ⟨⟨rfl, rfl⟩, rfl⟩
        · have hx : selP (s :: r) = ⟨3, 0⟩ := by simp [selP, h2, h5]
          have hw := selP_wf (s :: r)
          rw [hx] at hw
          refine den_call (by (try simp (disch := omega) only [go_sem, Nat.reduceEqDiff, Nat.reduceAdd, Nat.reduceSub, Int.reduceAdd, Int.reduceSub, Int.reduceToNat]) <;> omega) (spec_PolicyLine ⟨3, 0⟩ hw) [] (by simp only [go_sem]; repeat' first | rfl | constructor) (by rfl) (run_den 400 ?_)
          simp (disch := omega) only [go_sem, Nat.reduceEqDiff, Nat.reduceAdd, Nat.reduceSub, Int.reduceAdd, Int.reduceSub, Int.reduceToNat]
          split <;> rename_i h3 <;> (try simp only [beq_true, beq_false, Bool.not_eq_true', Bool.not_eq_false'] at h3) <;> simp (disch := omega) only [go_sem, Nat.reduceEqDiff, Nat.reduceAdd, Nat.reduceSub, Int.reduceAdd, Int.reduceSub, Int.reduceToNat, h3] <;> (try simp only [decide_eq_true_eq, decide_eq_false_iff_not, beq_iff_eq, beq_eq_false_iff_ne, bne_iff_ne, bne_eq_false_iff_eq, ne_eq, Decidable.not_not, Bool.and_eq_true, Bool.and_eq_false_iff, Bool.or_eq_true, Bool.or_eq_false_iff, Int.ofNat_lt, Int.ofNat_le, Bool.not_eq_eq_eq_not, Bool.not_true, Bool.not_false] at h3) <;> try simp (disch := omega) only [go_sem, Nat.reduceEqDiff, Nat.reduceAdd, Nat.reduceSub, Int.reduceAdd, Int.reduceSub, Int.reduceToNat]
          · refine den_call (by (try simp (disch := omega) only [go_sem, Nat.reduceEqDiff, Nat.reduceAdd, Nat.reduceSub, Int.reduceAdd, Int.reduceSub, Int.reduceToNat]) <;> omega) (spec_PolicyLine ⟨3, 0⟩ hw) [] (by simp only [go_sem]; repeat' first | rfl | constructor) (by rfl) (run_den 400 ?_)
            simp (disch := omega) only [go_sem, Nat.reduceEqDiff, Nat.reduceAdd, Nat.reduceSub, Int.reduceAdd, Int.reduceSub, Int.reduceToNat]
            refine den_call (by (try simp (disch := omega) only [go_sem, Nat.reduceEqDiff, Nat.reduceAdd, Nat.reduceSub, Int.reduceAdd, Int.reduceSub, Int.reduceToNat]) <;> omega) (spec_l28Same (s :: r) ?_ ?_) [some (1, none)] (by simp only [go_sem]; repeat' first | rfl | constructor) (by rfl) (run_den 400 ?_)
            · omega
            · omega
            simp (disch := omega) only [go_sem, Nat.reduceEqDiff, Nat.reduceAdd, Nat.reduceSub, Int.reduceAdd, Int.reduceSub, Int.reduceToNat]
            split <;> rename_i h4 <;> (try simp only [beq_true, beq_false, Bool.not_eq_true', Bool.not_eq_false'] at h4) <;> simp (disch := omega) only [go_sem, Nat.reduceEqDiff, Nat.reduceAdd, Nat.reduceSub, Int.reduceAdd, Int.reduceSub, Int.reduceToNat, h4] <;> (try simp only [decide_eq_true_eq, decide_eq_false_iff_not, beq_iff_eq, beq_eq_false_iff_ne, bne_iff_ne, bne_eq_false_iff_eq, ne_eq, Decidable.not_not, Bool.and_eq_true, Bool.and_eq_false_iff, Bool.or_eq_true, Bool.or_eq_false_iff, Int.ofNat_lt, Int.ofNat_le, Bool.not_eq_eq_eq_not, Bool.not_true, Bool.not_false] at h4) <;> try simp (disch := omega) only [go_sem, Nat.reduceEqDiff, Nat.reduceAdd, Nat.reduceSub, Int.reduceAdd, Int.reduceSub, Int.reduceToNat]
            · refine den_fin [] (by (try simp (disch := omega) only [go_sem, Nat.reduceEqDiff, Nat.reduceAdd, Nat.reduceSub, Int.reduceAdd, Int.reduceSub, Int.reduceToNat]) <;> omega) _ (by simp only [go_sem]; rfl) (by rfl) (by rfl) ?_
              simp (disch := omega) only [go_sem, Nat.reduceEqDiff, Nat.reduceAdd, Nat.reduceSub, Int.reduceAdd, Int.reduceSub, Int.reduceToNat]
              rw [specPol, if_neg (by simp), hx, if_pos (.inr h4)]
              exact ⟨⟨rfl, rfl⟩, rfl⟩
            · refine den_fin [] (by (try simp (disch := omega) only [go_sem, Nat.reduceEqDiff, Nat.reduceAdd, Nat.reduceSub, Int.reduceAdd, Int.reduceSub, Int.reduceToNat]) <;> omega) _ (by simp only [go_sem]; rfl) (by rfl) (by rfl) ?_
              simp (disch := omega) only [go_sem, Nat.reduceEqDiff, Nat.reduceAdd, Nat.reduceSub, Int.reduceAdd, Int.reduceSub, Int.reduceToNat]
              rw [specPol, if_neg (by simp), hx, if_neg (fun h => h.elim h3 (fun h => h h4))]
              exact ⟨⟨rfl, rfl⟩, rfl⟩
          · refine den_fin [] (by (try simp (disch := omega) only [go_sem, Nat.reduceEqDiff, Nat.reduceAdd, Nat.reduceSub, Int.reduceAdd, Int.reduceSub, Int.reduceToNat]) <;> omega) _ (by simp only [go_sem]; rfl) (by rfl) (by rfl) ?_
            simp (disch := omega) only [go_sem, Nat.reduceEqDiff, Nat.reduceAdd, Nat.reduceSub, Int.reduceAdd, Int.reduceSub, Int.reduceToNat]
            rw [specPol, if_neg (by simp), hx, if_pos (.inl h3)]
            exact ⟨⟨rfl, rfl⟩, rfl⟩
theorem impl_ReadPolicy (line : List UInt8) : CallA Try.prog 27 [.sc (.st line)] [] (.tu [.ag (polRes line).1.cs, .sc (.bo (polRes line).2)]) [] := by
  have hp := partsL_tot line
  have hq := partsL_join line
  refine callA_of Try.func27 (by kernel_rfl) rfl fun E hE => run_den 400 ?_
  simp (disch := omega) only [Try.ntmps27, Try.results27, go_sem, Nat.reduceEqDiff, Nat.reduceAdd, Nat.reduceSub, Int.reduceAdd, Int.reduceSub, Int.reduceToNat]
  refine den_call (by (try simp (disch := omega) only [go_sem, Nat.reduceEqDiff, Nat.reduceAdd, Nat.reduceSub, Int.reduceAdd, Int.reduceSub, Int.reduceToNat]) <;> omega) (impl_PartsOf line) [] (by simp only [go_sem]; repeat' first | rfl | constructor) (by rfl) (run_den 400 ?_)
  simp (disch := omega) only [go_sem, Nat.reduceEqDiff, Nat.reduceAdd, Nat.reduceSub, Int.reduceAdd, Int.reduceSub, Int.reduceToNat]
  rw [polRes]
  generalize partsL line = pr at hp hq ⊢
  obtain ⟨parts, ok⟩ := pr
  dsimp only at hp hq ⊢
  cases ok with
  | false =>
    try simp (disch := omega) only [go_sem, Nat.reduceEqDiff, Nat.reduceAdd, Nat.reduceSub, Int.reduceAdd, Int.reduceSub, Int.reduceToNat]
    refine den_fin [] (by (try simp (disch := omega) only [go_sem, Nat.reduceEqDiff, Nat.reduceAdd, Nat.reduceSub, Int.reduceAdd, Int.reduceSub, Int.reduceToNat]) <;> omega) _ (by simp only [go_sem]; rfl) (by rfl) (by rfl) ?_
    simp (disch := omega) only [go_sem, Nat.reduceEqDiff, Nat.reduceAdd, Nat.reduceSub, Int.reduceAdd, Int.reduceSub, Int.reduceToNat]
    exact ⟨rfl, rfl⟩
  | true =>
    rw [if_pos rfl]
    try simp (disch := omega) only [go_sem, Nat.reduceEqDiff, Nat.reduceAdd, Nat.reduceSub, Int.reduceAdd, Int.reduceSub, Int.reduceToNat]
    have h10 : cands.length = 10 := rfl
    refine den_lp 0 hE (fun s (k : Nat) => s.at [0, 5, 10, 11, 12, 13, 14, 15, 16, 17, 18, 19, 20, 21, 22, 23, 24, 25, 26, 27, 28, 29] [(7, .sc (.int .i64 (k : Nat))), (6, .sc (.sl 2 0 (k + 1)))] ([some ⟨[[.int .i64 0, .int .i64 0]], 2, 34, true, false⟩, some ⟨parts.map strC, 1, 9, true, true⟩, some ⟨(cands.take (k + 1)).map PolicyD.cs, 2, 34, true, true⟩])) (fun (k : Nat) => 1 ≤ k ∧ k ≤ 9) (fun (k : Nat) => 9 - k) 1 [some (0, none), some (1, none), some (2, none)] (by (try simp (disch := omega) only [go_sem, Nat.reduceEqDiff, Nat.reduceAdd, Nat.reduceSub, Int.reduceAdd, Int.reduceSub, Int.reduceToNat]) <;> omega) (⟨by decide, by decide⟩) (weak_mk (by rfl) (by rfl) ?_) fun k hk N hN => ?_
    · try simp (disch := omega) only [go_sem, Nat.reduceEqDiff, Nat.reduceAdd, Nat.reduceSub, Int.reduceAdd, Int.reduceSub, Int.reduceToNat]
      rfl
    · obtain ⟨hk1, hk2⟩ := hk
      have hl : (cands.take (k + 1)).length = k + 1 := by rw [List.length_take, h10]; omega
      refine run_den 400 ?_
      try simp (disch := omega) only [go_sem, Nat.reduceEqDiff, Nat.reduceAdd, Nat.reduceSub, Int.reduceAdd, Int.reduceSub, Int.reduceToNat]
      split <;> rename_i h <;> (try simp only [beq_true, beq_false, Bool.not_eq_true', Bool.not_eq_false'] at h) <;> simp (disch := omega) only [go_sem, Nat.reduceEqDiff, Nat.reduceAdd, Nat.reduceSub, Int.reduceAdd, Int.reduceSub, Int.reduceToNat, h] <;> (try simp only [decide_eq_true_eq, decide_eq_false_iff_not, beq_iff_eq, beq_eq_false_iff_ne, bne_iff_ne, bne_eq_false_iff_eq, ne_eq, Decidable.not_not, Bool.and_eq_true, Bool.and_eq_false_iff, Bool.or_eq_true, Bool.or_eq_false_iff, Int.ofNat_lt, Int.ofNat_le, Bool.not_eq_eq_eq_not, Bool.not_true, Bool.not_false] at h) <;> try simp (disch := omega) only [go_sem, Nat.reduceEqDiff, Nat.reduceAdd, Nat.reduceSub, Int.reduceAdd, Int.reduceSub, Int.reduceToNat]
      · refine ⟨⟨hl, by omega⟩, hN _ (k + 1) [some (0, none), some (1, none), some (4, none)] (by (try dsimp only); exact ⟨by omega, by omega⟩) (by (try dsimp only); omega) (weak_mk (by rfl) (by rfl) ?_)⟩
        try simp (disch := omega) only [go_sem, Nat.reduceEqDiff, Nat.reduceAdd, Nat.reduceSub, Int.reduceAdd, Int.reduceSub, Int.reduceToNat, cands_take hk1 (show k ≤ 8 by omega)]
        simp [PolicyD.cs]
      · have hk : k = 9 := by omega
        subst hk
        try simp (disch := omega) only [go_sem, Nat.reduceEqDiff, Nat.reduceAdd, Nat.reduceSub, Int.reduceAdd, Int.reduceSub, Int.reduceToNat]
        refine den_lp 0 hE (fun s (i : Nat) => s.at [0, 3, 5, 6, 7, 9, 10, 11, 12, 13, 14, 15, 16, 17, 18, 19, 20, 21, 22, 23, 24, 25, 26, 27, 28, 29, 33, 34, 35, 36, 37, 38, 39, 40, 41] [(32, .sc (.int .i64 (i : Nat))), (31, .sc (.int .i64 10)), (30, .sc (.sl 2 0 10))] ([some ⟨[[.int .i64 0, .int .i64 0]], 2, 34, true, false⟩, some ⟨parts.map strC, 1, 9, true, true⟩, some ⟨cands.map PolicyD.cs, 2, 34, true, true⟩])) (fun (i : Nat) => i ≤ 10 ∧ readGo parts (cands.drop i) = readGo parts cands) (fun (i : Nat) => 10 - i) 0 [some (0, none), some (1, none), some (2, none)] (by (try simp (disch := omega) only [go_sem, Nat.reduceEqDiff, Nat.reduceAdd, Nat.reduceSub, Int.reduceAdd, Int.reduceSub, Int.reduceToNat]) <;> omega) (⟨by decide, rfl⟩) (weak_mk (by rfl) (by rfl) ?_) fun i hi N hN => ?_
        · try simp (disch := omega) only [go_sem, Nat.reduceEqDiff, Nat.reduceAdd, Nat.reduceSub, Int.reduceAdd, Int.reduceSub, Int.reduceToNat]
          exact ⟨rfl, rfl⟩
        · obtain ⟨hi1, hi2⟩ := hi
          refine run_den 400 ?_
          try simp (disch := omega) only [go_sem, Nat.reduceEqDiff, Nat.reduceAdd, Nat.reduceSub, Int.reduceAdd, Int.reduceSub, Int.reduceToNat]
          split <;> rename_i h2 <;> (try simp only [beq_true, beq_false, Bool.not_eq_true', Bool.not_eq_false'] at h2) <;> simp (disch := omega) only [go_sem, Nat.reduceEqDiff, Nat.reduceAdd, Nat.reduceSub, Int.reduceAdd, Int.reduceSub, Int.reduceToNat, h2] <;> (try simp only [decide_eq_true_eq, decide_eq_false_iff_not, beq_iff_eq, beq_eq_false_iff_ne, bne_iff_ne, bne_eq_false_iff_eq, ne_eq, Decidable.not_not, Bool.and_eq_true, Bool.and_eq_false_iff, Bool.or_eq_true, Bool.or_eq_false_iff, Int.ofNat_lt, Int.ofNat_le, Bool.not_eq_eq_eq_not, Bool.not_true, Bool.not_false] at h2) <;> try simp (disch := omega) only [go_sem, Nat.reduceEqDiff, Nat.reduceAdd, Nat.reduceSub, Int.reduceAdd, Int.reduceSub, Int.reduceToNat]
          · have h' : i < cands.length := by omega
            have hwf := cand_wf _ (List.getElem_mem h')
            rw [readGo_step h'] at hi2
            try simp (disch := omega) only [go_sem, Nat.reduceEqDiff, Nat.reduceAdd, Nat.reduceSub, Int.reduceAdd, Int.reduceSub, Int.reduceToNat]
            refine den_call (by (try simp (disch := omega) only [go_sem, Nat.reduceEqDiff, Nat.reduceAdd, Nat.reduceSub, Int.reduceAdd, Int.reduceSub, Int.reduceToNat]) <;> omega) (impl_PolicyLine cands[i] hwf) [] (by simp only [go_sem]; repeat' first | rfl | constructor) (by rfl) (run_den 400 ?_)
            simp (disch := omega) only [go_sem, Nat.reduceEqDiff, Nat.reduceAdd, Nat.reduceSub, Int.reduceAdd, Int.reduceSub, Int.reduceToNat]
            refine den_call (by (try simp (disch := omega) only [go_sem, Nat.reduceEqDiff, Nat.reduceAdd, Nat.reduceSub, Int.reduceAdd, Int.reduceSub, Int.reduceToNat]) <;> omega) (impl_sameParts (polLine cands[i]) parts ?_ ?_) [some (1, none)] (by simp only [go_sem]; repeat' first | rfl | constructor) (by rfl) (run_den 400 ?_)
            · omega
            · omega
            simp (disch := omega) only [go_sem, Nat.reduceEqDiff, Nat.reduceAdd, Nat.reduceSub, Int.reduceAdd, Int.reduceSub, Int.reduceToNat]
            split <;> rename_i h3 <;> (try simp only [beq_true, beq_false, Bool.not_eq_true', Bool.not_eq_false'] at h3) <;> simp (disch := omega) only [go_sem, Nat.reduceEqDiff, Nat.reduceAdd, Nat.reduceSub, Int.reduceAdd, Int.reduceSub, Int.reduceToNat, h3] <;> (try simp only [decide_eq_true_eq, decide_eq_false_iff_not, beq_iff_eq, beq_eq_false_iff_ne, bne_iff_ne, bne_eq_false_iff_eq, ne_eq, Decidable.not_not, Bool.and_eq_true, Bool.and_eq_false_iff, Bool.or_eq_true, Bool.or_eq_false_iff, Int.ofNat_lt, Int.ofNat_le, Bool.not_eq_eq_eq_not, Bool.not_true, Bool.not_false] at h3) <;> try simp (disch := omega) only [go_sem, Nat.reduceEqDiff, Nat.reduceAdd, Nat.reduceSub, Int.reduceAdd, Int.reduceSub, Int.reduceToNat]
            · refine den_fin [] (by (try simp (disch := omega) only [go_sem, Nat.reduceEqDiff, Nat.reduceAdd, Nat.reduceSub, Int.reduceAdd, Int.reduceSub, Int.reduceToNat]) <;> omega) _ (by simp only [go_sem]; rfl) (by rfl) (by rfl) ?_
              simp (disch := omega) only [go_sem, Nat.reduceEqDiff, Nat.reduceAdd, Nat.reduceSub, Int.reduceAdd, Int.reduceSub, Int.reduceToNat]
              rw [← hi2, if_pos h3]
              exact ⟨⟨rfl, rfl⟩, rfl⟩
            · rw [if_neg (by simp [h3])] at hi2
              refine ⟨by (try simp (disch := omega) only [go_sem, Nat.reduceEqDiff, Nat.reduceAdd, Nat.reduceSub, Int.reduceAdd, Int.reduceSub, Int.reduceToNat]) <;> omega, hN _ (i + 1) [some (0, none), some (1, none), some (2, none)] (by (try dsimp only); exact ⟨by omega, hi2⟩) (by (try dsimp only); omega) (weak_mk (by rfl) (by rfl) ?_)⟩
              try simp (disch := omega) only [go_sem, Nat.reduceEqDiff, Nat.reduceAdd, Nat.reduceSub, Int.reduceAdd, Int.reduceSub, Int.reduceToNat]
          · rw [List.drop_eq_nil_of_le (by omega), readGo] at hi2
            refine den_fin [] (by (try simp (disch := omega) only [go_sem, Nat.reduceEqDiff, Nat.reduceAdd, Nat.reduceSub, Int.reduceAdd, Int.reduceSub, Int.reduceToNat]) <;> omega) _ (by simp only [go_sem]; rfl) (by rfl) (by rfl) ?_
            simp (disch := omega) only [go_sem, Nat.reduceEqDiff, Nat.reduceAdd, Nat.reduceSub, Int.reduceAdd, Int.reduceSub, Int.reduceToNat]
            rw [← hi2]
            exact ⟨⟨rfl, rfl⟩, rfl⟩
end Go.Proofs.Ytoghbjbfldlfpaa
