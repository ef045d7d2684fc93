import Derived.Test.YtjbpnmbmgkibdaaVW8
namespace Go.Proofs.Ytjbpnmbmgkibdaa
open Go.RowKit
set_option linter.unusedVariables false
set_option linter.unusedSimpArgs false
set_option maxRecDepth 10000

theorem laws_eqTag (x : TagD) : CallA Try.prog 57 [.ag x.cs, .ag x.cs] [] (.sc (.bo true)) [] := by
  refine callA_of Try.func57 (by kernel_rfl) rfl fun E hE => run_den 400 ?_
  simp (disch := omega) only [Try.ntmps57, Try.results57, go_sem, Nat.reduceEqDiff, Nat.reduceAdd, Nat.reduceSub, Int.reduceAdd, Int.reduceSub, Int.reduceToNat]
  refine den_fin [] (by (try simp (disch := omega) only [go_sem, Nat.reduceEqDiff, Nat.reduceAdd, Nat.reduceSub, Int.reduceAdd, Int.reduceSub, Int.reduceToNat]) <;> omega) _ (by simp only [go_sem]; rfl) (by rfl) (by rfl) ?_
  simp (disch := omega) only [go_sem, Nat.reduceEqDiff, Nat.reduceAdd, Nat.reduceSub, Int.reduceAdd, Int.reduceSub, Int.reduceToNat]
theorem laws_eqLetter (x : LetterD) : CallA Try.prog 26 [.ag x.cs, .ag x.cs] [] (.sc (.bo true)) [] := by
  refine callA_of Try.func26 (by kernel_rfl) rfl fun E hE => run_den 400 ?_
  simp (disch := omega) only [Try.ntmps26, Try.results26, go_sem, Nat.reduceEqDiff, Nat.reduceAdd, Nat.reduceSub, Int.reduceAdd, Int.reduceSub, Int.reduceToNat]
  refine den_call (by (try simp (disch := omega) only [go_sem, Nat.reduceEqDiff, Nat.reduceAdd, Nat.reduceSub, Int.reduceAdd, Int.reduceSub, Int.reduceToNat]) <;> omega) (laws_eqTag x.tag) [] (by simp only [go_sem]; repeat' first | rfl | constructor) (by rfl) (run_den 400 ?_)
  simp (disch := omega) only [go_sem, Nat.reduceEqDiff, Nat.reduceAdd, Nat.reduceSub, Int.reduceAdd, Int.reduceSub, Int.reduceToNat]
  refine den_fin [] (by (try simp (disch := omega) only [go_sem, Nat.reduceEqDiff, Nat.reduceAdd, Nat.reduceSub, Int.reduceAdd, Int.reduceSub, Int.reduceToNat]) <;> omega) _ (by simp only [go_sem]; rfl) (by rfl) (by rfl) ?_
  simp (disch := omega) only [go_sem, Nat.reduceEqDiff, Nat.reduceAdd, Nat.reduceSub, Int.reduceAdd, Int.reduceSub, Int.reduceToNat]
theorem law_ReadLetterWord (l : List UInt8) (hl : l.length ≤ 9223372036854775807) : CallA Try.prog 7 [.sc (.st l)] [] (.sc (.bo true)) [] := by
  refine callA_of Try.func7 (by kernel_rfl) rfl fun E hE => run_den 400 ?_
  simp (disch := omega) only [Try.ntmps7, Try.results7, go_sem, Nat.reduceEqDiff, Nat.reduceAdd, Nat.reduceSub, Int.reduceAdd, Int.reduceSub, Int.reduceToNat]
  split <;> rename_i h1 <;> (try simp only [beq_true, beq_false, Bool.not_eq_true', Bool.not_eq_false'] at h1) <;> simp (disch := omega) only [go_sem, Nat.reduceEqDiff, Nat.reduceAdd, Nat.reduceSub, Int.reduceAdd, Int.reduceSub, Int.reduceToNat, h1] <;> (try simp only [decide_eq_true_eq, decide_eq_false_iff_not, beq_iff_eq, beq_eq_false_iff_ne, bne_iff_ne, bne_eq_false_iff_eq, ne_eq, Decidable.not_not, Bool.and_eq_true, Bool.and_eq_false_iff, Bool.or_eq_true, Bool.or_eq_false_iff, Int.ofNat_lt, Int.ofNat_le, Bool.not_eq_eq_eq_not, Bool.not_true, Bool.not_false] at h1) <;> try simp (disch := omega) only [go_sem, Nat.reduceEqDiff, Nat.reduceAdd, Nat.reduceSub, Int.reduceAdd, Int.reduceSub, Int.reduceToNat]
  · refine den_fin [] (by (try simp (disch := omega) only [go_sem, Nat.reduceEqDiff, Nat.reduceAdd, Nat.reduceSub, Int.reduceAdd, Int.reduceSub, Int.reduceToNat]) <;> omega) _ (by simp only [go_sem]; rfl) (by rfl) (by rfl) ?_
    simp (disch := omega) only [go_sem, Nat.reduceEqDiff, Nat.reduceAdd, Nat.reduceSub, Int.reduceAdd, Int.reduceSub, Int.reduceToNat]
  · have hl' : l.length ≤ 1048576 := by omega
    refine den_call (by (try simp (disch := omega) only [go_sem, Nat.reduceEqDiff, Nat.reduceAdd, Nat.reduceSub, Int.reduceAdd, Int.reduceSub, Int.reduceToNat]) <;> omega) (spec_ReadLetterWord l hl') [] (by simp only [go_sem]; repeat' first | rfl | constructor) (by rfl) (run_den 400 ?_)
    simp (disch := omega) only [go_sem, Nat.reduceEqDiff, Nat.reduceAdd, Nat.reduceSub, Int.reduceAdd, Int.reduceSub, Int.reduceToNat]
    refine den_call (by (try simp (disch := omega) only [go_sem, Nat.reduceEqDiff, Nat.reduceAdd, Nat.reduceSub, Int.reduceAdd, Int.reduceSub, Int.reduceToNat]) <;> omega) (impl_ReadLetterWord l hl') [] (by simp only [go_sem]; repeat' first | rfl | constructor) (by rfl) (run_den 400 ?_)
    simp (disch := omega) only [go_sem, Nat.reduceEqDiff, Nat.reduceAdd, Nat.reduceSub, Int.reduceAdd, Int.reduceSub, Int.reduceToNat]
    refine den_call (by (try simp (disch := omega) only [go_sem, Nat.reduceEqDiff, Nat.reduceAdd, Nat.reduceSub, Int.reduceAdd, Int.reduceSub, Int.reduceToNat]) <;> omega) (laws_eqLetter (rlw l).1) [] (by simp only [go_sem]; repeat' first | rfl | constructor) (by rfl) (run_den 400 ?_)
    simp (disch := omega) only [go_sem, Nat.reduceEqDiff, Nat.reduceAdd, Nat.reduceSub, Int.reduceAdd, Int.reduceSub, Int.reduceToNat]
    refine den_fin [] (by (try simp (disch := omega) only [go_sem, Nat.reduceEqDiff, Nat.reduceAdd, Nat.reduceSub, Int.reduceAdd, Int.reduceSub, Int.reduceToNat]) <;> omega) _ (by simp only [go_sem]; rfl) (by rfl) (by rfl) ?_
    simp (disch := omega) only [go_sem, Nat.reduceEqDiff, Nat.reduceAdd, Nat.reduceSub, Int.reduceAdd, Int.reduceSub, Int.reduceToNat]
end Go.Proofs.Ytjbpnmbmgkibdaa
