import Derived.Test.YtoghbjbfldlfpaaGreatVModel
namespace Go.Proofs.YtoghbjbfldlfpaaGreat
open Go.RowKit
set_option linter.unusedVariables false
set_option linter.unusedSimpArgs false
set_option maxRecDepth 10000

theorem impl_within (n a b : Int) : CallA Tryz.prog 62 [.sc (.int .i64 n), .sc (.int .i64 a), .sc (.int .i64 b)] [] (.sc (.bo (inR n a b))) [] := by
  refine callA_of Tryz.func62 (by kernel_rfl) rfl fun E hE => run_den 400 ?_
  simp (disch := omega) only [Tryz.ntmps62, Tryz.results62, go_sem, Nat.reduceEqDiff, Nat.reduceAdd, Nat.reduceSub, Int.reduceAdd, Int.reduceSub, Int.reduceToNat]
  split <;> rename_i h <;> (try simp only [beq_true, beq_false, Bool.not_eq_true', Bool.not_eq_false'] at h) <;> simp (disch := omega) only [go_sem, Nat.reduceEqDiff, Nat.reduceAdd, Nat.reduceSub, Int.reduceAdd, Int.reduceSub, Int.reduceToNat, h] <;> (try simp only [decide_eq_true_eq, decide_eq_false_iff_not, beq_iff_eq, beq_eq_false_iff_ne, bne_iff_ne, bne_eq_false_iff_eq, ne_eq, Decidable.not_not, Bool.and_eq_true, Bool.and_eq_false_iff, Bool.or_eq_true, Bool.or_eq_false_iff, Int.ofNat_lt, Int.ofNat_le, Bool.not_eq_eq_eq_not, Bool.not_true, Bool.not_false] at h) <;> try simp (disch := omega) only [go_sem, Nat.reduceEqDiff, Nat.reduceAdd, Nat.reduceSub, Int.reduceAdd, Int.reduceSub, Int.reduceToNat]
  · refine den_fin [] (trivial) _ (by simp only [go_sem]; rfl) (by rfl) (by rfl) ?_
    simp (disch := omega) only [go_sem, Nat.reduceEqDiff, Nat.reduceAdd, Nat.reduceSub, Int.reduceAdd, Int.reduceSub, Int.reduceToNat]
    simp [inR, h]
  · refine den_fin [] (trivial) _ (by simp only [go_sem]; rfl) (by rfl) (by rfl) ?_
    simp (disch := omega) only [go_sem, Nat.reduceEqDiff, Nat.reduceAdd, Nat.reduceSub, Int.reduceAdd, Int.reduceSub, Int.reduceToNat]
    simp [inR, h]
theorem spec_l01In (n a b : Int) : CallA Tryz.prog 38 [.sc (.int .i64 n), .sc (.int .i64 a), .sc (.int .i64 b)] [] (.sc (.bo (inR n a b))) [] := by
  refine callA_of Tryz.func38 (by kernel_rfl) rfl fun E hE => run_den 400 ?_
  simp (disch := omega) only [Tryz.ntmps38, Tryz.results38, go_sem, Nat.reduceEqDiff, Nat.reduceAdd, Nat.reduceSub, Int.reduceAdd, Int.reduceSub, Int.reduceToNat]
  split <;> rename_i h <;> (try simp only [beq_true, beq_false, Bool.not_eq_true', Bool.not_eq_false'] at h) <;> simp (disch := omega) only [go_sem, Nat.reduceEqDiff, Nat.reduceAdd, Nat.reduceSub, Int.reduceAdd, Int.reduceSub, Int.reduceToNat, h] <;> (try simp only [decide_eq_true_eq, decide_eq_false_iff_not, beq_iff_eq, beq_eq_false_iff_ne, bne_iff_ne, bne_eq_false_iff_eq, ne_eq, Decidable.not_not, Bool.and_eq_true, Bool.and_eq_false_iff, Bool.or_eq_true, Bool.or_eq_false_iff, Int.ofNat_lt, Int.ofNat_le, Bool.not_eq_eq_eq_not, Bool.not_true, Bool.not_false] at h) <;> try simp (disch := omega) only [go_sem, Nat.reduceEqDiff, Nat.reduceAdd, Nat.reduceSub, Int.reduceAdd, Int.reduceSub, Int.reduceToNat]
  · refine den_fin [] (trivial) _ (by simp only [go_sem]; rfl) (by rfl) (by rfl) ?_
    simp (disch := omega) only [go_sem, Nat.reduceEqDiff, Nat.reduceAdd, Nat.reduceSub, Int.reduceAdd, Int.reduceSub, Int.reduceToNat]
    simp [inR, h]
  · refine den_fin [] (trivial) _ (by simp only [go_sem]; rfl) (by rfl) (by rfl) ?_
    simp (disch := omega) only [go_sem, Nat.reduceEqDiff, Nat.reduceAdd, Nat.reduceSub, Int.reduceAdd, Int.reduceSub, Int.reduceToNat]
    simp [inR, h]
theorem spec_l14Num (n : Int) : CallA Tryz.prog 47 [.sc (.int .i64 n)] [] (.sc (.bo (isN n))) [] := by
  refine callA_of Tryz.func47 (by kernel_rfl) rfl fun E hE => run_den 400 ?_
  simp (disch := omega) only [Tryz.ntmps47, Tryz.results47, go_sem, Nat.reduceEqDiff, Nat.reduceAdd, Nat.reduceSub, Int.reduceAdd, Int.reduceSub, Int.reduceToNat]
  refine den_call (trivial) (spec_l01In _ _ _) [] (by simp only [go_sem]; repeat' first | rfl | constructor) (by rfl) (run_den 400 ?_)
  simp (disch := omega) only [go_sem, Nat.reduceEqDiff, Nat.reduceAdd, Nat.reduceSub, Int.reduceAdd, Int.reduceSub, Int.reduceToNat]
  refine den_fin [] (trivial) _ (by simp only [go_sem]; rfl) (by rfl) (by rfl) ?_
  simp (disch := omega) only [go_sem, Nat.reduceEqDiff, Nat.reduceAdd, Nat.reduceSub, Int.reduceAdd, Int.reduceSub, Int.reduceToNat]
  rfl
theorem impl_isNumber (l : List Int) (hl : l.length ≤ 1000000) : CallA Tryz.prog 70 [.sc (.sl 0 0 l.length)] [some ⟨l.map intC, 1, 3, false, true⟩] (.sc (.bo (l.all isN))) [some ⟨l.map intC, 1, 3, false, true⟩] := by
  refine callA_of Tryz.func70 (by kernel_rfl) rfl fun E hE => run_den 400 ?_
  simp (disch := omega) only [Tryz.ntmps70, Tryz.results70, go_sem, Nat.reduceEqDiff, Nat.reduceAdd, Nat.reduceSub, Int.reduceAdd, Int.reduceSub, Int.reduceToNat]
  refine den_lp 1 hE (fun s k => s.at [4, 8, 9, 10, 11, 12, 13, 14] [(7, .sc (.int .i64 (k : Nat)))] s.hp) (fun k => k ≤ l.length ∧ l.all isN = (l.drop k).all isN) (fun k => l.length - k) 0 [some (0, none)] trivial ⟨Nat.zero_le _, by simp⟩ (weak_mk (by rfl) (by rfl) ?_) fun k hk N hN => ?_
  · try simp (disch := omega) only [go_sem, Nat.reduceEqDiff, Nat.reduceAdd, Nat.reduceSub, Int.reduceAdd, Int.reduceSub, Int.reduceToNat]
  · obtain ⟨hk1, hk2⟩ := hk
    refine run_den 100 ?_
    try simp (disch := omega) only [go_sem, Nat.reduceEqDiff, Nat.reduceAdd, Nat.reduceSub, Int.reduceAdd, Int.reduceSub, Int.reduceToNat]
    split <;> rename_i h <;> (try simp only [beq_true, beq_false, Bool.not_eq_true', Bool.not_eq_false'] at h) <;> simp (disch := omega) only [go_sem, Nat.reduceEqDiff, Nat.reduceAdd, Nat.reduceSub, Int.reduceAdd, Int.reduceSub, Int.reduceToNat, h] <;> (try simp only [decide_eq_true_eq, decide_eq_false_iff_not, beq_iff_eq, beq_eq_false_iff_ne, bne_iff_ne, bne_eq_false_iff_eq, ne_eq, Decidable.not_not, Bool.and_eq_true, Bool.and_eq_false_iff, Bool.or_eq_true, Bool.or_eq_false_iff, Int.ofNat_lt, Int.ofNat_le, Bool.not_eq_eq_eq_not, Bool.not_true, Bool.not_false] at h) <;> try simp (disch := omega) only [go_sem, Nat.reduceEqDiff, Nat.reduceAdd, Nat.reduceSub, Int.reduceAdd, Int.reduceSub, Int.reduceToNat]
    · try simp (disch := omega) only [go_sem, Nat.reduceEqDiff, Nat.reduceAdd, Nat.reduceSub, Int.reduceAdd, Int.reduceSub, Int.reduceToNat, ints_get h]
      refine den_call (by omega) (impl_within _ _ _) [] (by simp only [go_sem]; repeat' first | rfl | constructor) (by rfl) (run_den 400 ?_)
      simp (disch := omega) only [go_sem, Nat.reduceEqDiff, Nat.reduceAdd, Nat.reduceSub, Int.reduceAdd, Int.reduceSub, Int.reduceToNat]
      rw [List.drop_eq_getElem_cons h, List.all_cons] at hk2
      split <;> rename_i h2 <;> (try simp only [beq_true, beq_false, Bool.not_eq_true', Bool.not_eq_false'] at h2) <;> simp (disch := omega) only [go_sem, Nat.reduceEqDiff, Nat.reduceAdd, Nat.reduceSub, Int.reduceAdd, Int.reduceSub, Int.reduceToNat, h2] <;> (try simp only [decide_eq_true_eq, decide_eq_false_iff_not, beq_iff_eq, beq_eq_false_iff_ne, bne_iff_ne, bne_eq_false_iff_eq, ne_eq, Decidable.not_not, Bool.and_eq_true, Bool.and_eq_false_iff, Bool.or_eq_true, Bool.or_eq_false_iff, Int.ofNat_lt, Int.ofNat_le, Bool.not_eq_eq_eq_not, Bool.not_true, Bool.not_false] at h2) <;> try simp (disch := omega) only [go_sem, Nat.reduceEqDiff, Nat.reduceAdd, Nat.reduceSub, Int.reduceAdd, Int.reduceSub, Int.reduceToNat]
      · refine den_fin [some (0, none)] (trivial) _ (by simp only [go_sem]; rfl) (by rfl) (by rfl) ?_
        simp (disch := omega) only [go_sem, Nat.reduceEqDiff, Nat.reduceAdd, Nat.reduceSub, Int.reduceAdd, Int.reduceSub, Int.reduceToNat]
        have : isN l[k] = false := by simp [isN, inR] at h2 ⊢; omega
        rw [hk2, this, Bool.false_and]
      · refine ⟨trivial, hN _ (k + 1) [some (0, none)] (⟨by omega, ?_⟩) (by (try dsimp only); omega) (weak_mk (by rfl) (by rfl) ?_)⟩
        · have : isN l[k] = true := by simp [isN, inR] at h2 ⊢; omega
          rw [hk2, this, Bool.true_and]
        · try simp (disch := omega) only [go_sem, Nat.reduceEqDiff, Nat.reduceAdd, Nat.reduceSub, Int.reduceAdd, Int.reduceSub, Int.reduceToNat]
    · refine den_fin [some (0, none)] (trivial) _ (by simp only [go_sem]; rfl) (by rfl) (by rfl) ?_
      simp (disch := omega) only [go_sem, Nat.reduceEqDiff, Nat.reduceAdd, Nat.reduceSub, Int.reduceAdd, Int.reduceSub, Int.reduceToNat]
      rw [hk2, List.drop_eq_nil_of_le (by omega), List.all_nil]
end Go.Proofs.YtoghbjbfldlfpaaGreat
