/-
  Texts merged for this claim by shake.py: what its proof needs.
-/
import Derived.Tactics
import Derived.Below
import Derived.Laws.AppendOwn
import Derived.Laws.OwnMore
import Derived.Laws.Slices
import Derived.Laws.Small
import Derived.Laws.Strings
import Derived.KernelRfl
import Derived.Laws.MakeOwn
import Derived.Laws.BytesString
import Derived.Laws.BytesArg
import Derived.Laws.Build
import Derived.Laws.Concat
import Derived.Laws.StructEq
import Derived.Lib.ConvBytes
import Derived.Orders
import Derived.WalkKit
import Derived.ProofKit
import Derived.ShutString
import Derived.OpenShut
import Derived.ChangeOld
import Derived.Carry
import Derived.Test.YtkabkkjnemongaaGreatChecked
import Derived.Laws.BitsLemmas
import Derived.JoinedOf
import Derived.Test.YtkabkkjnemongaaGreatRows
import Derived.Test.YtkabkkjnemongaaGreatZFnLivesD
set_option maxHeartbeats 16000000
set_option maxRecDepth 100000
set_option linter.unusedVariables false
set_option linter.unusedSimpArgs false
namespace Go.Proofs.YtkabkkjnemongaaGreat
section
open Go.RowKit

def nums3 (x : LetterD) : List Int := [x.nonce, x.give, x.sgn]
theorem foldN_step {l : List Int} {m : List Int} {k : Nat} (h : k < l.length) : (l.drop k).foldl numP m = (l.drop (k + 1)).foldl numP (numP m l[k]) := by
 rw [List.drop_eq_getElem_cons h]; rfl
theorem foldN_end {l : List Int} {m : List Int} {k : Nat} (h : l.length ≤ k) : (l.drop k).foldl numP m = m := by
 rw [List.drop_eq_nil_of_le h]; rfl
theorem impl_post1 (w : WorldD) (l : List LetterD) (hw : SmallP2 w) (hl : l.length ≤ 1048576) : CallA Tryz.prog 49 [.sc (.pt 21 0 0), .sc (.int .i64 1), .sc (.sl 22 0 l.length)]
  (endsHp w false ++ (restHp w true ++ [some ⟨[w.cs 0], 61, 47, true, false⟩, some ⟨l.map LetterD.cs, 19, 57, false, true⟩])) (.tu [])
  (endsHp w false ++ ([none, none, none, none, none, none, none, some ⟨[(worldC (postL 1 w l) 0 1 2 3 4 5 6 7 8 9 10 11 12 13 23 24 25 26 27 28 29)], 61, 47, true, false⟩, some ⟨l.map LetterD.cs, 19, 57, false, true⟩] ++ restHp (postL 1 w l) true)) := by
 obtain ⟨R, hR⟩ : ∃ R, R = postL 1 w l := ⟨_, rfl⟩
 rw [← hR]
 have hl2 : l.length ≤ 9223372036854775807 := by omega
 refine callA_ofO Tryz.func49 (by kernel_rfl) rfl fun E hE => run_den 400 ?_
 simp (disch := omega) only [Tryz.ntmps49, Tryz.results49, go_sem, Nat.reduceEqDiff, Nat.reduceAdd, Nat.reduceSub, Int.reduceAdd, Int.reduceSub, Int.reduceToNat]
 refine den_lpO 23 hE (fun s (y : Nat × WorldD) => s.at [2, 7, 9, 13, 14, 15, 16, 17, 18, 19, 20, 21, 22, 23, 24, 25, 26, 27, 28, 29, 30, 31, 32, 33, 34, 35, 36, 37, 38, 39, 40, 41, 42, 43, 44, 45, 46, 47, 48, 49, 50, 51, 52, 53, 54, 55, 56, 57, 58, 59, 60, 61, 62, 63, 64, 65, 66, 67, 68, 69, 70, 71, 72, 73, 74, 75, 76, 77, 78, 79, 80, 81, 82, 83, 84, 85, 86, 87, 88, 89, 90, 91, 92, 93, 94, 95, 96, 97, 98, 99, 100, 101, 102, 103, 104, 105, 106, 107, 108, 109, 110, 111, 112, 113, 114, 115, 116, 117, 118, 119, 120, 121, 122, 123, 124, 125, 126, 127, 128, 129, 130, 131, 132, 133, 134, 135, 136, 137, 138, 139, 140, 141, 142, 143, 144, 145, 146, 147, 148, 149, 150, 151, 152, 153, 154, 155, 156, 157] [(12, .sc (.int .i64 (y.1 : Nat)))] (endsHp w false ++ ([none, none, none, none, none, none, none, some ⟨[(worldC y.2 0 1 2 3 4 5 6 7 8 9 10 11 12 13 23 24 25 26 27 28 29)], 61, 47, true, false⟩, some ⟨l.map LetterD.cs, 19, 57, false, true⟩] ++ (restHp y.2 true)))) (fun (y : Nat × WorldD) => y.1 ≤ l.length ∧ y.2.a = w.a ∧ y.2.b = w.b ∧ SmallP2 y.2 ∧ R = postL 1 y.2 (l.drop y.1)) (fun (y : Nat × WorldD) => l.length - y.1) (0, w) [some (0, none), some (1, none), some (2, none), some (3, none), some (4, none), some (5, none), some (6, none), some (7, none), some (8, none), some (9, none), some (10, none), some (11, none), some (12, none), some (13, none), some (14, none), some (15, none), some (16, none), some (17, none), some (18, none), some (19, none), some (20, none), some (21, none), some (22, none), some (14, none), some (15, none), some (16, none), some (17, none), some (18, none), some (19, none), some (20, none)] (by (try simp (disch := omega) only [go_sem, List.length_set, Nat.reduceEqDiff, Nat.reduceAdd, Nat.reduceSub, Int.reduceAdd, Int.reduceSub, Int.reduceToNat]) <;> omega) (⟨Nat.zero_le _, rfl, rfl, hw, hR⟩) (weak_mkO (by rfl) (by rfl) ?_) fun y hy N hN => ?_
 ·try simp (disch := omega) only [go_sem, Nat.reduceEqDiff, Nat.reduceAdd, Nat.reduceSub, Int.reduceAdd, Int.reduceSub, Int.reduceToNat]
 ·obtain ⟨i, u⟩ := y
  obtain ⟨hi, ha, hb, hS, hu⟩ := hy
  obtain ⟨ua, ub, bag, past, wA, wB, rA, rB, known, nums, nsA, nsB⟩ := u
  obtain ⟨keys, tags⟩ := known
  dsimp only at hi ha hb hu
  subst ha hb
  have s1 := hS.bag
  have s2 := hS.past
  have s3 := hS.keys
  have s4 := hS.tags
  have s5 := hS.nums
  have s6 := hS.ansA
  have s7 := hS.ansB
  dsimp only at s1 s2 s3 s4 s5 s6 s7
  refine runS_den 21 400 ?_
  try simp (disch := omega) only [go_sem, Nat.reduceEqDiff, Nat.reduceAdd, Nat.reduceSub, Int.reduceAdd, Int.reduceSub, Int.reduceToNat, Nat.reduceBEq]
  split <;> rename_i h <;> (try simp only [decide_eq_true_eq, decide_eq_false_iff_not, Int.ofNat_lt] at h)
  rotate_left
  ·have e : i = l.length := by omega
   subst e
   rw [postL_end (Nat.le_refl _)] at hu
   subst hu
   try simp (disch := omega) only [go_sem, Nat.reduceEqDiff, Nat.reduceAdd, Nat.reduceSub, Int.reduceAdd, Int.reduceSub, Int.reduceToNat, Nat.reduceBEq]
   refine den_finO [some (0, none), some (1, none), some (2, none), some (3, none), some (4, none), some (5, none), some (6, none), some (7, none), some (8, none), some (9, none), some (10, none), some (11, none), some (12, none), some (13, none), some (14, none), some (15, none), some (16, none), some (17, none), some (18, none), some (19, none), some (20, none), some (21, none), some (22, none), some (23, none), some (24, none), some (25, none), some (26, none), some (27, none), some (28, none), some (29, none)] (by (try simp (disch := omega) only [go_sem, List.length_set, Nat.reduceEqDiff, Nat.reduceAdd, Nat.reduceSub, Int.reduceAdd, Int.reduceSub, Int.reduceToNat, Nat.reduceBEq]) <;> omega) _ (by simp only [go_sem]; rfl) (by rfl) (by rfl) ?_
   simp (disch := omega) only [go_sem, Nat.reduceEqDiff, Nat.reduceAdd, Nat.reduceSub, Int.reduceAdd, Int.reduceSub, Int.reduceToNat, Nat.reduceBEq]
  ·rw [postL_step h] at hu
   generalize hx : l[i] = x at hu
   have hget := map_get (enc := LetterD.cs) h
   rw [hx] at hget
   try simp (disch := omega) only [go_sem, Nat.reduceEqDiff, Nat.reduceAdd, Nat.reduceSub, Int.reduceAdd, Int.reduceSub, Int.reduceToNat, Nat.reduceBEq, hget]
   obtain ⟨p1, hp1⟩ : ∃ p, p = pastP past x := ⟨_, rfl⟩
   refine den_joinO 23 hE (fun s => s.at [13, 14, 15, 16, 17, 18, 19, 20, 21, 22, 23, 24, 25, 26, 27, 28, 29, 30, 31] [] (endsHp w false ++ ([none, none, none, none, none, none, none, some ⟨[(worldC (⟨w.a, w.b, bag, p1, wA, wB, rA, rB, ⟨keys, tags⟩, nums, nsA, nsB⟩ : WorldD) 0 1 2 3 4 5 6 7 8 9 10 11 12 13 23 24 25 26 27 28 29)], 61, 47, true, false⟩, some ⟨l.map LetterD.cs, 19, 57, false, true⟩] ++ (restHp (⟨w.a, w.b, bag, p1, wA, wB, rA, rB, ⟨keys, tags⟩, nums, nsA, nsB⟩ : WorldD) true ++ [some ⟨[x.cs], 19, 57, true, false⟩])))) (by (try simp (disch := omega) only [go_sem, List.length_set, Nat.reduceEqDiff, Nat.reduceAdd, Nat.reduceSub, Int.reduceAdd, Int.reduceSub, Int.reduceToNat, Nat.reduceBEq]) <;> omega) (by rfl) (fun N hN => run_den 401 ?_) (runS_den 34 400 ?_)
   ·try simp (disch := omega) only [go_sem, Nat.reduceEqDiff, Nat.reduceAdd, Nat.reduceSub, Int.reduceAdd, Int.reduceSub, Int.reduceToNat, Nat.reduceBEq]
    split <;> rename_i b1 <;> (try simp only [beq_true, beq_false, Bool.not_eq_true', Bool.not_eq_false'] at b1) <;> simp (disch := omega) only [go_sem, Nat.reduceEqDiff, Nat.reduceAdd, Nat.reduceSub, Int.reduceAdd, Int.reduceSub, Int.reduceToNat, Nat.reduceBEq, b1] <;> (try simp only [decide_eq_true_eq, decide_eq_false_iff_not, beq_iff_eq, beq_eq_false_iff_ne, bne_iff_ne, bne_eq_false_iff_eq, ne_eq, Decidable.not_not, Bool.and_eq_true, Bool.and_eq_false_iff, Bool.or_eq_true, Bool.or_eq_false_iff, Int.ofNat_lt, Int.ofNat_le, Bool.not_eq_eq_eq_not, Bool.not_true, Bool.not_false] at b1) <;> try simp (disch := omega) only [go_sem, Nat.reduceEqDiff, Nat.reduceAdd, Nat.reduceSub, Int.reduceAdd, Int.reduceSub, Int.reduceToNat, Nat.reduceBEq]
    ·rw [pastP_t (by omega)] at hp1
     subst hp1
     refine den_draw1 [0, 1, 2, 3, 4, 5, 6, 7, 8, 9, 10] (by kernel_rfl) (by (try simp (disch := omega) only [go_sem, List.length_set, Nat.reduceEqDiff, Nat.reduceAdd, Nat.reduceSub, Int.reduceAdd, Int.reduceSub, Int.reduceToNat, Nat.reduceBEq]) <;> omega) (by kernel_rfl) (runD_den 400 ?_)
     simp (disch := omega) only [go_sem, Nat.reduceEqDiff, Nat.reduceAdd, Nat.reduceSub, Int.reduceAdd, Int.reduceSub, Int.reduceToNat, Nat.reduceBEq]
     refine ⟨by (try simp (disch := omega) only [go_sem, List.length_set, Nat.reduceEqDiff, Nat.reduceAdd, Nat.reduceSub, Int.reduceAdd, Int.reduceSub, Int.reduceToNat, Nat.reduceBEq]) <;> omega, runS_den 34 400 ?_⟩
     try simp (disch := omega) only [go_sem, Nat.reduceEqDiff, Nat.reduceAdd, Nat.reduceSub, Int.reduceAdd, Int.reduceSub, Int.reduceToNat, Nat.reduceBEq]
     refine ⟨by (try simp (disch := omega) only [go_sem, List.length_set, Nat.reduceEqDiff, Nat.reduceAdd, Nat.reduceSub, Int.reduceAdd, Int.reduceSub, Int.reduceToNat, Nat.reduceBEq]) <;> omega, hN _ [some (0, none), some (1, none), some (2, none), some (3, none), some (4, none), some (5, none), some (6, none), some (7, none), some (8, none), some (9, none), some (10, none), some (11, none), some (12, none), some (13, none), some (14, none), some (15, none), some (16, none), some (17, none), some (18, none), some (19, none), some (20, none), some (21, none), some (22, none), some (23, none), some (32, none), some (25, none), some (26, none), some (27, none), some (28, none), some (29, none), some (30, none)] (weak_mkO (by rfl) (by rfl) ?_)⟩
     simp (disch := omega) only [go_sem, Nat.reduceEqDiff, Nat.reduceAdd, Nat.reduceSub, Int.reduceAdd, Int.reduceSub, Int.reduceToNat, Nat.reduceBEq]
     try simp [LetterD.cs]
    ·rw [pastP_f (by omega)] at hp1
     subst hp1
     try simp (disch := omega) only [go_sem, Nat.reduceEqDiff, Nat.reduceAdd, Nat.reduceSub, Int.reduceAdd, Int.reduceSub, Int.reduceToNat, Nat.reduceBEq]
     refine ⟨by (try simp (disch := omega) only [go_sem, List.length_set, Nat.reduceEqDiff, Nat.reduceAdd, Nat.reduceSub, Int.reduceAdd, Int.reduceSub, Int.reduceToNat, Nat.reduceBEq]) <;> omega, hN _ [some (0, none), some (1, none), some (2, none), some (3, none), some (4, none), some (5, none), some (6, none), some (7, none), some (8, none), some (9, none), some (10, none), some (11, none), some (12, none), some (13, none), some (14, none), some (15, none), some (16, none), some (17, none), some (18, none), some (19, none), some (20, none), some (21, none), some (22, none), some (23, none), some (24, none), some (25, none), some (26, none), some (27, none), some (28, none), some (29, none), some (30, none)] (weak_mkO (by rfl) (by rfl) ?_)⟩
     simp (disch := omega) only [go_sem, Nat.reduceEqDiff, Nat.reduceAdd, Nat.reduceSub, Int.reduceAdd, Int.reduceSub, Int.reduceToNat, Nat.reduceBEq]
   ·try simp (disch := omega) only [go_sem, Nat.reduceEqDiff, Nat.reduceAdd, Nat.reduceSub, Int.reduceAdd, Int.reduceSub, Int.reduceToNat, Nat.reduceBEq]
    obtain ⟨q1, hq1⟩ : ∃ q, q = ansP nsA (isJB 1 1 x) w.a.now := ⟨_, rfl⟩
    refine den_joinO 23 hE (fun s => s.at [13, 14, 15, 16, 17, 18, 19, 20, 21, 22, 23, 24, 25, 26, 27, 28, 29, 30, 31, 32, 33, 34, 35, 36, 37, 38, 39, 40, 41, 42, 43, 44, 45, 46, 47, 48, 49, 50, 51, 52, 53, 54, 55, 56, 57, 58, 59, 60, 61, 62, 63, 64, 65, 66, 67, 68, 69, 70, 71, 72, 73, 74, 75, 76, 77, 78, 79, 80, 81, 82] [] (endsHp w false ++ ([none, none, none, none, none, none, none, some ⟨[(worldC (⟨w.a, w.b, bag, p1, wA, wB, rA, rB, ⟨keys, tags⟩, nums, q1, nsB⟩ : WorldD) 0 1 2 3 4 5 6 7 8 9 10 11 12 13 23 24 25 26 27 28 29)], 61, 47, true, false⟩, some ⟨l.map LetterD.cs, 19, 57, false, true⟩] ++ (restHp (⟨w.a, w.b, bag, p1, wA, wB, rA, rB, ⟨keys, tags⟩, nums, q1, nsB⟩ : WorldD) true ++ [some ⟨[x.cs], 19, 57, true, false⟩])))) (by (try simp (disch := omega) only [go_sem, List.length_set, Nat.reduceEqDiff, Nat.reduceAdd, Nat.reduceSub, Int.reduceAdd, Int.reduceSub, Int.reduceToNat]) <;> omega) (by rfl) (fun N hN => run_den 401 ?_) (run_den 400 ?_)
    ·try simp (disch := omega) only [go_sem, Nat.reduceEqDiff, Nat.reduceAdd, Nat.reduceSub, Int.reduceAdd, Int.reduceSub, Int.reduceToNat]
     split <;> rename_i b2 <;> (try simp only [beq_true, beq_false, Bool.not_eq_true', Bool.not_eq_false'] at b2) <;> simp (disch := omega) only [go_sem, Nat.reduceEqDiff, Nat.reduceAdd, Nat.reduceSub, Int.reduceAdd, Int.reduceSub, Int.reduceToNat, b2] <;> (try simp only [decide_eq_true_eq, decide_eq_false_iff_not, beq_iff_eq, beq_eq_false_iff_ne, bne_iff_ne, bne_eq_false_iff_eq, ne_eq, Decidable.not_not, Bool.and_eq_true, Bool.and_eq_false_iff, Bool.or_eq_true, Bool.or_eq_false_iff, Int.ofNat_lt, Int.ofNat_le, Bool.not_eq_eq_eq_not, Bool.not_true, Bool.not_false] at b2) <;> try simp (disch := omega) only [go_sem, Nat.reduceEqDiff, Nat.reduceAdd, Nat.reduceSub, Int.reduceAdd, Int.reduceSub, Int.reduceToNat]
     ·rw [isJB_t b2] at hq1
      split <;> rename_i b3 <;> (try simp only [beq_true, beq_false, Bool.not_eq_true', Bool.not_eq_false'] at b3) <;> simp (disch := omega) only [go_sem, Nat.reduceEqDiff, Nat.reduceAdd, Nat.reduceSub, Int.reduceAdd, Int.reduceSub, Int.reduceToNat, b3] <;> (try simp only [decide_eq_true_eq, decide_eq_false_iff_not, beq_iff_eq, beq_eq_false_iff_ne, bne_iff_ne, bne_eq_false_iff_eq, ne_eq, Decidable.not_not, Bool.and_eq_true, Bool.and_eq_false_iff, Bool.or_eq_true, Bool.or_eq_false_iff, Int.ofNat_lt, Int.ofNat_le, Bool.not_eq_eq_eq_not, Bool.not_true, Bool.not_false] at b3) <;> try simp (disch := omega) only [go_sem, Nat.reduceEqDiff, Nat.reduceAdd, Nat.reduceSub, Int.reduceAdd, Int.reduceSub, Int.reduceToNat]
      ·rw [ansP_t (by omega)] at hq1
       subst hq1
       refine den_draw1 [0, 1, 2, 3, 4, 5, 6, 7, 8, 9, 10, 11, 12, 13, 14] (by kernel_rfl) (by (try simp (disch := omega) only [go_sem, List.length_set, Nat.reduceEqDiff, Nat.reduceAdd, Nat.reduceSub, Int.reduceAdd, Int.reduceSub, Int.reduceToNat]) <;> omega) (by kernel_rfl) (runD_den 400 ?_)
       simp (disch := omega) only [go_sem, Nat.reduceEqDiff, Nat.reduceAdd, Nat.reduceSub, Int.reduceAdd, Int.reduceSub, Int.reduceToNat]
       refine ⟨by (try simp (disch := omega) only [go_sem, List.length_set, Nat.reduceEqDiff, Nat.reduceAdd, Nat.reduceSub, Int.reduceAdd, Int.reduceSub, Int.reduceToNat]) <;> omega, run_den 400 ?_⟩
       try simp (disch := omega) only [go_sem, Nat.reduceEqDiff, Nat.reduceAdd, Nat.reduceSub, Int.reduceAdd, Int.reduceSub, Int.reduceToNat]
       refine ⟨by (try simp (disch := omega) only [go_sem, List.length_set, Nat.reduceEqDiff, Nat.reduceAdd, Nat.reduceSub, Int.reduceAdd, Int.reduceSub, Int.reduceToNat]) <;> omega, hN _ [some (0, none), some (1, none), some (2, none), some (3, none), some (4, none), some (5, none), some (6, none), some (7, none), some (8, none), some (9, none), some (10, none), some (11, none), some (12, none), some (13, none), some (14, none), some (15, none), some (16, none), some (17, none), some (18, none), some (19, none), some (20, none), some (21, none), some (22, none), some (23, none), some (24, none), some (25, none), some (26, none), some (27, none), some (32, none), some (29, none), some (30, none)] (weak_mkO (by rfl) (by rfl) ?_)⟩
       simp (disch := omega) only [go_sem, Nat.reduceEqDiff, Nat.reduceAdd, Nat.reduceSub, Int.reduceAdd, Int.reduceSub, Int.reduceToNat]
       try simp [intC]
      ·rw [ansP_f (by omega)] at hq1
       subst hq1
       try simp (disch := omega) only [go_sem, Nat.reduceEqDiff, Nat.reduceAdd, Nat.reduceSub, Int.reduceAdd, Int.reduceSub, Int.reduceToNat]
       refine ⟨by (try simp (disch := omega) only [go_sem, List.length_set, Nat.reduceEqDiff, Nat.reduceAdd, Nat.reduceSub, Int.reduceAdd, Int.reduceSub, Int.reduceToNat]) <;> omega, hN _ [some (0, none), some (1, none), some (2, none), some (3, none), some (4, none), some (5, none), some (6, none), some (7, none), some (8, none), some (9, none), some (10, none), some (11, none), some (12, none), some (13, none), some (14, none), some (15, none), some (16, none), some (17, none), some (18, none), some (19, none), some (20, none), some (21, none), some (22, none), some (23, none), some (24, none), some (25, none), some (26, none), some (27, none), some (28, none), some (29, none), some (30, none)] (weak_mkO (by rfl) (by rfl) ?_)⟩
       simp (disch := omega) only [go_sem, Nat.reduceEqDiff, Nat.reduceAdd, Nat.reduceSub, Int.reduceAdd, Int.reduceSub, Int.reduceToNat]
     ·rw [isJB_f b2, ansP_f1] at hq1
      subst hq1
      try simp (disch := omega) only [go_sem, Nat.reduceEqDiff, Nat.reduceAdd, Nat.reduceSub, Int.reduceAdd, Int.reduceSub, Int.reduceToNat]
      refine ⟨by (try simp (disch := omega) only [go_sem, List.length_set, Nat.reduceEqDiff, Nat.reduceAdd, Nat.reduceSub, Int.reduceAdd, Int.reduceSub, Int.reduceToNat]) <;> omega, hN _ [some (0, none), some (1, none), some (2, none), some (3, none), some (4, none), some (5, none), some (6, none), some (7, none), some (8, none), some (9, none), some (10, none), some (11, none), some (12, none), some (13, none), some (14, none), some (15, none), some (16, none), some (17, none), some (18, none), some (19, none), some (20, none), some (21, none), some (22, none), some (23, none), some (24, none), some (25, none), some (26, none), some (27, none), some (28, none), some (29, none), some (30, none)] (weak_mkO (by rfl) (by rfl) ?_)⟩
      simp (disch := omega) only [go_sem, Nat.reduceEqDiff, Nat.reduceAdd, Nat.reduceSub, Int.reduceAdd, Int.reduceSub, Int.reduceToNat]
    ·try simp (disch := omega) only [go_sem, Nat.reduceEqDiff, Nat.reduceAdd, Nat.reduceSub, Int.reduceAdd, Int.reduceSub, Int.reduceToNat]
     refine den_call (by (try simp (disch := omega) only [go_sem, List.length_set, Nat.reduceEqDiff, Nat.reduceAdd, Nat.reduceSub, Int.reduceAdd, Int.reduceSub, Int.reduceToNat]) <;> omega) (impl_SideAt x.to) [] (by simp only [go_sem]; repeat' first | rfl | constructor | (rw [List.map_set]; rfl) | (simp [List.map_take, List.map_drop] <;> omega)) (by rfl) (run_den 400 ?_)
     simp (disch := omega) only [go_sem, Nat.reduceEqDiff, Nat.reduceAdd, Nat.reduceSub, Int.reduceAdd, Int.reduceSub, Int.reduceToNat]
     have hoth : ansP nsB (isJB 1 2 x) w.b.now = nsB := by rw [isJB_n (by decide), ansP_f1]
     split <;> rename_i b4 <;> (try simp only [beq_true, beq_false, Bool.not_eq_true', Bool.not_eq_false'] at b4) <;> simp (disch := omega) only [go_sem, Nat.reduceEqDiff, Nat.reduceAdd, Nat.reduceSub, Int.reduceAdd, Int.reduceSub, Int.reduceToNat, b4] <;> (try simp only [decide_eq_true_eq, decide_eq_false_iff_not, beq_iff_eq, beq_eq_false_iff_ne, bne_iff_ne, bne_eq_false_iff_eq, ne_eq, Decidable.not_not, Bool.and_eq_true, Bool.and_eq_false_iff, Bool.or_eq_true, Bool.or_eq_false_iff, Int.ofNat_lt, Int.ofNat_le, Bool.not_eq_eq_eq_not, Bool.not_true, Bool.not_false] at b4) <;> try simp (disch := omega) only [go_sem, Nat.reduceEqDiff, Nat.reduceAdd, Nat.reduceSub, Int.reduceAdd, Int.reduceSub, Int.reduceToNat]
     ·have hK := impl_Learn ⟨keys, tags⟩ x.tag (by dsimp only; omega) (by dsimp only; omega)
      have hky : (learn ⟨keys, tags⟩ x.tag).keys.length ≤ 1048576 := by rw [learn_keys]; exact s3
      have hkt : (learn ⟨keys, tags⟩ x.tag).tags.length ≤ 1048576 := learn_le s4
      obtain ⟨kk, hkk⟩ : ∃ k, k = learn ⟨keys, tags⟩ x.tag := ⟨_, rfl⟩
      rw [← hkk] at hK hky hkt
      obtain ⟨k1, t1⟩ := kk
      dsimp only at hky hkt
      refine den_draw1 [0, 1, 2, 3, 4, 5, 6, 7, 8, 9, 10] (by kernel_rfl) (by (try simp (disch := omega) only [go_sem, List.length_set, Nat.reduceEqDiff, Nat.reduceAdd, Nat.reduceSub, Int.reduceAdd, Int.reduceSub, Int.reduceToNat]) <;> omega) (by kernel_rfl) (runD_den 400 ?_)
      simp (disch := omega) only [go_sem, Nat.reduceEqDiff, Nat.reduceAdd, Nat.reduceSub, Int.reduceAdd, Int.reduceSub, Int.reduceToNat]
      refine den_callD (by (try simp (disch := omega) only [go_sem, List.length_set, Nat.reduceEqDiff, Nat.reduceAdd, Nat.reduceSub, Int.reduceAdd, Int.reduceSub, Int.reduceToNat]) <;> omega) (hK) [some (25, none), some (26, none)] (by simp only [go_sem]; repeat' first | rfl | constructor | (rw [List.map_set]; rfl) | (simp [List.map_take, List.map_drop] <;> omega)) (by rfl) (by rfl) (runD_den 400 ?_)
      simp (disch := omega) only [go_sem, Nat.reduceEqDiff, Nat.reduceAdd, Nat.reduceSub, Int.reduceAdd, Int.reduceSub, Int.reduceToNat]
      refine ⟨by (try simp (disch := omega) only [go_sem, List.length_set, Nat.reduceEqDiff, Nat.reduceAdd, Nat.reduceSub, Int.reduceAdd, Int.reduceSub, Int.reduceToNat]) <;> omega, run_den 400 ?_⟩
      try simp (disch := omega) only [go_sem, Nat.reduceEqDiff, Nat.reduceAdd, Nat.reduceSub, Int.reduceAdd, Int.reduceSub, Int.reduceToNat]
      obtain ⟨n1, hn1⟩ : ∃ n, n = (nums3 x).foldl numP nums := ⟨_, rfl⟩
      have hn1l : n1.length ≤ 1048576 := by rw [hn1]; exact numP_le (numP_le (numP_le s5))
      refine den_lpO 23 hE (fun s (z : Nat × List Int) => s.at [2, 9, 14, 15, 16, 17, 18, 19, 20, 22, 23, 24, 25, 26, 27, 28, 29, 30, 31, 32, 33, 35, 36, 37, 38, 39, 40, 41, 42, 43, 45, 46, 47, 48, 49, 50, 51, 52, 53, 54, 55, 56, 57, 58, 59, 60, 61, 62, 63, 64, 65, 66, 67, 69, 70, 71, 72, 73, 74, 75, 76, 77, 78, 79, 80, 81, 82, 84, 85, 86, 87, 88, 89, 90, 91, 92, 93, 94, 95, 96, 97, 98, 99, 100, 101, 102, 103, 107, 108, 109, 110, 111, 112, 113, 114, 115, 116, 117, 118, 119, 120, 121, 122, 123, 124, 125, 126, 127, 128, 129, 130, 131, 132, 133, 134, 135, 136, 137, 138, 139, 141, 142, 143, 144, 145, 146, 147, 148, 149, 150, 151, 152, 153, 154, 155, 156, 157] [(106, .sc (.int .i64 (z.1 : Nat))), (104, .sc (.sl 31 0 3))] (endsHp w false ++ ([none, none, none, none, none, none, none, some ⟨[(worldC (⟨w.a, w.b, bag, p1, wA, wB, rA, rB, ⟨k1, t1⟩, z.2, q1, nsB⟩ : WorldD) 0 1 2 3 4 5 6 7 8 9 10 11 12 13 23 24 25 26 27 28 29)], 61, 47, true, false⟩, some ⟨l.map LetterD.cs, 19, 57, false, true⟩] ++ (restHp (⟨w.a, w.b, bag, p1, wA, wB, rA, rB, ⟨k1, t1⟩, z.2, q1, nsB⟩ : WorldD) true ++ [some ⟨[x.cs], 19, 57, true, false⟩] ++ [some ⟨[[.int .i64 x.nonce], [.int .i64 x.give], [.int .i64 x.sgn]], 1, 3, true, true⟩])))) (fun (z : Nat × List Int) => z.1 ≤ 3 ∧ z.2.length ≤ 1048576 ∧ n1 = ((nums3 x).drop z.1).foldl numP z.2) (fun (z : Nat × List Int) => 3 - z.1) (0, nums) [some (0, none), some (1, none), some (2, none), some (3, none), some (4, none), some (5, none), some (6, none), some (7, none), some (8, none), some (9, none), some (10, none), some (11, none), some (12, none), some (13, none), some (14, none), some (15, none), some (16, none), some (17, none), some (18, none), some (19, none), some (20, none), some (21, none), some (22, none), some (23, none), some (24, none), some (31, none), some (32, none), some (27, none), some (28, none), some (29, none), some (30, none), some (33, none)] (by (try simp (disch := omega) only [go_sem, List.length_set, Nat.reduceEqDiff, Nat.reduceAdd, Nat.reduceSub, Int.reduceAdd, Int.reduceSub, Int.reduceToNat]) <;> omega) (⟨Nat.zero_le _, s5, hn1⟩) (weak_mkO (by rfl) (by rfl) ?_) fun z hz N2 hN2 => ?_
      ·try simp (disch := omega) only [go_sem, Nat.reduceEqDiff, Nat.reduceAdd, Nat.reduceSub, Int.reduceAdd, Int.reduceSub, Int.reduceToNat]
      ·obtain ⟨j, m⟩ := z
       obtain ⟨hj, hm, hn⟩ := hz
       dsimp only at hj hm hn
       refine run_den 400 ?_
       try simp (disch := omega) only [go_sem, Nat.reduceEqDiff, Nat.reduceAdd, Nat.reduceSub, Int.reduceAdd, Int.reduceSub, Int.reduceToNat]
       split <;> rename_i h5 <;> (try simp only [decide_eq_true_eq, decide_eq_false_iff_not, Int.ofNat_lt] at h5)
       rotate_left
       ·have e : j = 3 := by omega
        subst e
        rw [foldN_end (by simp [nums3])] at hn
        subst hn
        try simp (disch := omega) only [go_sem, Nat.reduceEqDiff, Nat.reduceAdd, Nat.reduceSub, Int.reduceAdd, Int.reduceSub, Int.reduceToNat]
        refine ⟨by (try simp (disch := omega) only [go_sem, List.length_set, Nat.reduceEqDiff, Nat.reduceAdd, Nat.reduceSub, Int.reduceAdd, Int.reduceSub, Int.reduceToNat]) <;> omega, hN _ (i + 1, (⟨w.a, w.b, bag, p1, wA, wB, rA, rB, ⟨k1, t1⟩, n1, q1, nsB⟩ : WorldD)) [some (0, none), some (1, none), some (2, none), some (3, none), some (4, none), some (5, none), some (6, none), some (7, none), some (8, none), some (9, none), some (10, none), some (11, none), some (12, none), some (13, none), some (14, none), some (15, none), some (16, none), some (17, none), some (18, none), some (19, none), some (20, none), some (21, none), some (22, none), some (23, none), some (24, none), some (25, none), some (26, none), some (27, none), some (28, none), some (29, none)] (⟨by omega, rfl, rfl, ?_, ?_⟩) (by (try dsimp only); omega) (weak_mkO (by rfl) (by rfl) ?_)⟩
        ·have e : post1 1 (⟨w.a, w.b, bag, past, wA, wB, rA, rB, ⟨keys, tags⟩, nums, nsA, nsB⟩ : WorldD) x = (⟨w.a, w.b, bag, p1, wA, wB, rA, rB, ⟨k1, t1⟩, n1, q1, nsB⟩ : WorldD) := by
          rw [post1, if_pos b4, heard, notes]
          dsimp only
          rw [← hkk, hoth, ← hp1, ← hq1, hn1]
          rfl
         rw [← e]
         exact post1_small hS
        ·have e : post1 1 (⟨w.a, w.b, bag, past, wA, wB, rA, rB, ⟨keys, tags⟩, nums, nsA, nsB⟩ : WorldD) x = (⟨w.a, w.b, bag, p1, wA, wB, rA, rB, ⟨k1, t1⟩, n1, q1, nsB⟩ : WorldD) := by
          rw [post1, if_pos b4, heard, notes]
          dsimp only
          rw [← hkk, hoth, ← hp1, ← hq1, hn1]
          rfl
         rw [← e]
         exact hu
        ·try simp (disch := omega) only [go_sem, Nat.reduceEqDiff, Nat.reduceAdd, Nat.reduceSub, Int.reduceAdd, Int.reduceSub, Int.reduceToNat]
       ·have h6 : j < (nums3 x).length := by simp only [nums3, List.length_cons, List.length_nil]; omega
        rw [foldN_step h6] at hn
        generalize hv : (nums3 x)[j] = v at hn
        have hg3 : ([[.int .i64 x.nonce], [.int .i64 x.give], [.int .i64 x.sgn]] : List (List Sc))[j]? = some (intC v) := by
         rw [← hv]
         rw [show ([[.int .i64 x.nonce], [.int .i64 x.give], [.int .i64 x.sgn]] : List (List Sc)) = (nums3 x).map intC from rfl]
         exact map_get h6
        simp only [intC] at hg3
        have hH := impl_hasInt m v hm
        have ht := numP_t (l := m) (n := v)
        have hf1 := numP_f1 (l := m) (n := v)
        have hf2 := numP_f2 (l := m) (n := v)
        have hf3 := numP_f3 (l := m) (n := v)
        have hvl : (numP m v).length ≤ 1048576 := numP_le hm
        generalize numP m v = m1 at *
        try simp (disch := omega) only [go_sem, Nat.reduceEqDiff, Nat.reduceAdd, Nat.reduceSub, Int.reduceAdd, Int.reduceSub, Int.reduceToNat, hg3]
        split <;> rename_i c1 <;> (try simp only [beq_true, beq_false, Bool.not_eq_true', Bool.not_eq_false'] at c1) <;> simp (disch := omega) only [go_sem, Nat.reduceEqDiff, Nat.reduceAdd, Nat.reduceSub, Int.reduceAdd, Int.reduceSub, Int.reduceToNat, c1] <;> (try simp only [decide_eq_true_eq, decide_eq_false_iff_not, beq_iff_eq, beq_eq_false_iff_ne, bne_iff_ne, bne_eq_false_iff_eq, ne_eq, Decidable.not_not, Bool.and_eq_true, Bool.and_eq_false_iff, Bool.or_eq_true, Bool.or_eq_false_iff, Int.ofNat_lt, Int.ofNat_le, Bool.not_eq_eq_eq_not, Bool.not_true, Bool.not_false] at c1) <;> try simp (disch := omega) only [go_sem, Nat.reduceEqDiff, Nat.reduceAdd, Nat.reduceSub, Int.reduceAdd, Int.reduceSub, Int.reduceToNat]
        ·refine den_call (by (try simp (disch := omega) only [go_sem, List.length_set, Nat.reduceEqDiff, Nat.reduceAdd, Nat.reduceSub, Int.reduceAdd, Int.reduceSub, Int.reduceToNat]) <;> omega) (hH) [some (27, none)] (by simp only [go_sem]; repeat' first | rfl | constructor | (rw [List.map_set]; rfl) | (simp [List.map_take, List.map_drop] <;> omega)) (by rfl) (run_den 400 ?_)
         simp (disch := omega) only [go_sem, Nat.reduceEqDiff, Nat.reduceAdd, Nat.reduceSub, Int.reduceAdd, Int.reduceSub, Int.reduceToNat]
         split <;> rename_i c2 <;> (try simp only [beq_true, beq_false, Bool.not_eq_true', Bool.not_eq_false'] at c2) <;> simp (disch := omega) only [go_sem, Nat.reduceEqDiff, Nat.reduceAdd, Nat.reduceSub, Int.reduceAdd, Int.reduceSub, Int.reduceToNat, c2] <;> (try simp only [decide_eq_true_eq, decide_eq_false_iff_not, beq_iff_eq, beq_eq_false_iff_ne, bne_iff_ne, bne_eq_false_iff_eq, ne_eq, Decidable.not_not, Bool.and_eq_true, Bool.and_eq_false_iff, Bool.or_eq_true, Bool.or_eq_false_iff, Int.ofNat_lt, Int.ofNat_le, Bool.not_eq_eq_eq_not, Bool.not_true, Bool.not_false] at c2) <;> try simp (disch := omega) only [go_sem, Nat.reduceEqDiff, Nat.reduceAdd, Nat.reduceSub, Int.reduceAdd, Int.reduceSub, Int.reduceToNat]
         ·split <;> rename_i c3 <;> (try simp only [beq_true, beq_false, Bool.not_eq_true', Bool.not_eq_false'] at c3) <;> simp (disch := omega) only [go_sem, Nat.reduceEqDiff, Nat.reduceAdd, Nat.reduceSub, Int.reduceAdd, Int.reduceSub, Int.reduceToNat, c3] <;> (try simp only [decide_eq_true_eq, decide_eq_false_iff_not, beq_iff_eq, beq_eq_false_iff_ne, bne_iff_ne, bne_eq_false_iff_eq, ne_eq, Decidable.not_not, Bool.and_eq_true, Bool.and_eq_false_iff, Bool.or_eq_true, Bool.or_eq_false_iff, Int.ofNat_lt, Int.ofNat_le, Bool.not_eq_eq_eq_not, Bool.not_true, Bool.not_false] at c3) <;> try simp (disch := omega) only [go_sem, Nat.reduceEqDiff, Nat.reduceAdd, Nat.reduceSub, Int.reduceAdd, Int.reduceSub, Int.reduceToNat]
          ·have e := ht c1 c2 (by omega)
           subst e
           try simp (disch := omega) only [go_sem, Nat.reduceEqDiff, Nat.reduceAdd, Nat.reduceSub, Int.reduceAdd, Int.reduceSub, Int.reduceToNat]
           refine ⟨by (try simp (disch := omega) only [go_sem, List.length_set, Nat.reduceEqDiff, Nat.reduceAdd, Nat.reduceSub, Int.reduceAdd, Int.reduceSub, Int.reduceToNat]) <;> omega, hN2 _ (j + 1, m ++ [v]) [some (0, none), some (1, none), some (2, none), some (3, none), some (4, none), some (5, none), some (6, none), some (7, none), some (8, none), some (9, none), some (10, none), some (11, none), some (12, none), some (13, none), some (14, none), some (15, none), some (16, none), some (17, none), some (18, none), some (19, none), some (20, none), some (21, none), some (22, none), some (23, none), some (24, none), some (25, none), some (26, none), some (33, none), some (28, none), some (29, none), some (30, none), some (31, none)] (by (try dsimp only); exact ⟨by omega, hvl, hn⟩) (by (try dsimp only); omega) (weak_mkO (by rfl) (by rfl) ?_)⟩
           try simp (disch := omega) only [go_sem, Nat.reduceEqDiff, Nat.reduceAdd, Nat.reduceSub, Int.reduceAdd, Int.reduceSub, Int.reduceToNat]
           try simp [intC]
          ·have e := hf3 (by omega)
           subst e
           try simp (disch := omega) only [go_sem, Nat.reduceEqDiff, Nat.reduceAdd, Nat.reduceSub, Int.reduceAdd, Int.reduceSub, Int.reduceToNat]
           refine ⟨by (try simp (disch := omega) only [go_sem, List.length_set, Nat.reduceEqDiff, Nat.reduceAdd, Nat.reduceSub, Int.reduceAdd, Int.reduceSub, Int.reduceToNat]) <;> omega, hN2 _ (j + 1, m1) [some (0, none), some (1, none), some (2, none), some (3, none), some (4, none), some (5, none), some (6, none), some (7, none), some (8, none), some (9, none), some (10, none), some (11, none), some (12, none), some (13, none), some (14, none), some (15, none), some (16, none), some (17, none), some (18, none), some (19, none), some (20, none), some (21, none), some (22, none), some (23, none), some (24, none), some (25, none), some (26, none), some (27, none), some (28, none), some (29, none), some (30, none), some (31, none)] (by (try dsimp only); exact ⟨by omega, hm, hn⟩) (by (try dsimp only); omega) (weak_mkO (by rfl) (by rfl) ?_)⟩
           try simp (disch := omega) only [go_sem, Nat.reduceEqDiff, Nat.reduceAdd, Nat.reduceSub, Int.reduceAdd, Int.reduceSub, Int.reduceToNat]
         ·have e := hf2 c2
          subst e
          try simp (disch := omega) only [go_sem, Nat.reduceEqDiff, Nat.reduceAdd, Nat.reduceSub, Int.reduceAdd, Int.reduceSub, Int.reduceToNat]
          refine ⟨by (try simp (disch := omega) only [go_sem, List.length_set, Nat.reduceEqDiff, Nat.reduceAdd, Nat.reduceSub, Int.reduceAdd, Int.reduceSub, Int.reduceToNat]) <;> omega, hN2 _ (j + 1, m1) [some (0, none), some (1, none), some (2, none), some (3, none), some (4, none), some (5, none), some (6, none), some (7, none), some (8, none), some (9, none), some (10, none), some (11, none), some (12, none), some (13, none), some (14, none), some (15, none), some (16, none), some (17, none), some (18, none), some (19, none), some (20, none), some (21, none), some (22, none), some (23, none), some (24, none), some (25, none), some (26, none), some (27, none), some (28, none), some (29, none), some (30, none), some (31, none)] (by (try dsimp only); exact ⟨by omega, hm, hn⟩) (by (try dsimp only); omega) (weak_mkO (by rfl) (by rfl) ?_)⟩
          try simp (disch := omega) only [go_sem, Nat.reduceEqDiff, Nat.reduceAdd, Nat.reduceSub, Int.reduceAdd, Int.reduceSub, Int.reduceToNat]
        ·have e := hf1 c1
         subst e
         try simp (disch := omega) only [go_sem, Nat.reduceEqDiff, Nat.reduceAdd, Nat.reduceSub, Int.reduceAdd, Int.reduceSub, Int.reduceToNat]
         refine ⟨by (try simp (disch := omega) only [go_sem, List.length_set, Nat.reduceEqDiff, Nat.reduceAdd, Nat.reduceSub, Int.reduceAdd, Int.reduceSub, Int.reduceToNat]) <;> omega, hN2 _ (j + 1, m1) [some (0, none), some (1, none), some (2, none), some (3, none), some (4, none), some (5, none), some (6, none), some (7, none), some (8, none), some (9, none), some (10, none), some (11, none), some (12, none), some (13, none), some (14, none), some (15, none), some (16, none), some (17, none), some (18, none), some (19, none), some (20, none), some (21, none), some (22, none), some (23, none), some (24, none), some (25, none), some (26, none), some (27, none), some (28, none), some (29, none), some (30, none), some (31, none)] (by (try dsimp only); exact ⟨by omega, hm, hn⟩) (by (try dsimp only); omega) (weak_mkO (by rfl) (by rfl) ?_)⟩
         try simp (disch := omega) only [go_sem, Nat.reduceEqDiff, Nat.reduceAdd, Nat.reduceSub, Int.reduceAdd, Int.reduceSub, Int.reduceToNat]
     ·obtain ⟨g1, hg1⟩ : ∃ g, g = bagP bag x := ⟨_, rfl⟩
      have e : post1 1 (⟨w.a, w.b, bag, past, wA, wB, rA, rB, ⟨keys, tags⟩, nums, nsA, nsB⟩ : WorldD) x = (⟨w.a, w.b, g1, p1, wA, wB, rA, rB, ⟨keys, tags⟩, nums, q1, nsB⟩ : WorldD) := by
       rw [post1, if_neg b4, notes]
       dsimp only
       rw [hoth, ← hp1, ← hq1, ← hg1]
      rw [e] at hu
      have hS1 := post1_small (side := 1) (x := x) hS
      rw [e] at hS1
      split <;> rename_i b5 <;> (try simp only [beq_true, beq_false, Bool.not_eq_true', Bool.not_eq_false'] at b5) <;> simp (disch := omega) only [go_sem, Nat.reduceEqDiff, Nat.reduceAdd, Nat.reduceSub, Int.reduceAdd, Int.reduceSub, Int.reduceToNat, b5] <;> (try simp only [decide_eq_true_eq, decide_eq_false_iff_not, beq_iff_eq, beq_eq_false_iff_ne, bne_iff_ne, bne_eq_false_iff_eq, ne_eq, Decidable.not_not, Bool.and_eq_true, Bool.and_eq_false_iff, Bool.or_eq_true, Bool.or_eq_false_iff, Int.ofNat_lt, Int.ofNat_le, Bool.not_eq_eq_eq_not, Bool.not_true, Bool.not_false] at b5) <;> try simp (disch := omega) only [go_sem, Nat.reduceEqDiff, Nat.reduceAdd, Nat.reduceSub, Int.reduceAdd, Int.reduceSub, Int.reduceToNat]
      ·rw [bagP_t (by omega)] at hg1
       subst hg1
       refine den_draw1 [0, 1, 2, 3, 4, 5, 6, 7, 8, 9, 10] (by kernel_rfl) (by (try simp (disch := omega) only [go_sem, List.length_set, Nat.reduceEqDiff, Nat.reduceAdd, Nat.reduceSub, Int.reduceAdd, Int.reduceSub, Int.reduceToNat]) <;> omega) (by kernel_rfl) (runD_den 400 ?_)
       simp (disch := omega) only [go_sem, Nat.reduceEqDiff, Nat.reduceAdd, Nat.reduceSub, Int.reduceAdd, Int.reduceSub, Int.reduceToNat]
       refine ⟨by (try simp (disch := omega) only [go_sem, List.length_set, Nat.reduceEqDiff, Nat.reduceAdd, Nat.reduceSub, Int.reduceAdd, Int.reduceSub, Int.reduceToNat]) <;> omega, run_den 400 ?_⟩
       try simp (disch := omega) only [go_sem, Nat.reduceEqDiff, Nat.reduceAdd, Nat.reduceSub, Int.reduceAdd, Int.reduceSub, Int.reduceToNat]
       refine ⟨by (try simp (disch := omega) only [go_sem, List.length_set, Nat.reduceEqDiff, Nat.reduceAdd, Nat.reduceSub, Int.reduceAdd, Int.reduceSub, Int.reduceToNat]) <;> omega, hN _ (i + 1, (⟨w.a, w.b, (bag ++ [x]), p1, wA, wB, rA, rB, ⟨keys, tags⟩, nums, q1, nsB⟩ : WorldD)) [some (0, none), some (1, none), some (2, none), some (3, none), some (4, none), some (5, none), some (6, none), some (7, none), some (8, none), some (9, none), some (10, none), some (11, none), some (12, none), some (13, none), some (14, none), some (15, none), some (16, none), some (17, none), some (18, none), some (19, none), some (20, none), some (21, none), some (22, none), some (32, none), some (24, none), some (25, none), some (26, none), some (27, none), some (28, none), some (29, none)] (by (try dsimp only); exact ⟨by omega, rfl, rfl, hS1, hu⟩) (by (try dsimp only); omega) (weak_mkO (by rfl) (by rfl) ?_)⟩
       try simp (disch := omega) only [go_sem, Nat.reduceEqDiff, Nat.reduceAdd, Nat.reduceSub, Int.reduceAdd, Int.reduceSub, Int.reduceToNat]
       try simp [LetterD.cs]
      ·rw [bagP_f (by omega)] at hg1
       subst hg1
       try simp (disch := omega) only [go_sem, Nat.reduceEqDiff, Nat.reduceAdd, Nat.reduceSub, Int.reduceAdd, Int.reduceSub, Int.reduceToNat]
       refine ⟨by (try simp (disch := omega) only [go_sem, List.length_set, Nat.reduceEqDiff, Nat.reduceAdd, Nat.reduceSub, Int.reduceAdd, Int.reduceSub, Int.reduceToNat]) <;> omega, hN _ (i + 1, (⟨w.a, w.b, g1, p1, wA, wB, rA, rB, ⟨keys, tags⟩, nums, q1, nsB⟩ : WorldD)) [some (0, none), some (1, none), some (2, none), some (3, none), some (4, none), some (5, none), some (6, none), some (7, none), some (8, none), some (9, none), some (10, none), some (11, none), some (12, none), some (13, none), some (14, none), some (15, none), some (16, none), some (17, none), some (18, none), some (19, none), some (20, none), some (21, none), some (22, none), some (23, none), some (24, none), some (25, none), some (26, none), some (27, none), some (28, none), some (29, none)] (by (try dsimp only); exact ⟨by omega, rfl, rfl, hS1, hu⟩) (by (try dsimp only); omega) (weak_mkO (by rfl) (by rfl) ?_)⟩
       try simp (disch := omega) only [go_sem, Nat.reduceEqDiff, Nat.reduceAdd, Nat.reduceSub, Int.reduceAdd, Int.reduceSub, Int.reduceToNat]
theorem impl_post2 (w : WorldD) (l : List LetterD) (hw : SmallP2 w) (hl : l.length ≤ 1048576) : CallA Tryz.prog 49 [.sc (.pt 21 0 0), .sc (.int .i64 2), .sc (.sl 22 0 l.length)]
  (endsHp w false ++ (restHp w true ++ [some ⟨[w.cs 0], 61, 47, true, false⟩, some ⟨l.map LetterD.cs, 19, 57, false, true⟩])) (.tu [])
  (endsHp w false ++ ([none, none, none, none, none, none, none, some ⟨[(worldC (postL 2 w l) 0 1 2 3 4 5 6 7 8 9 10 11 12 13 23 24 25 26 27 28 29)], 61, 47, true, false⟩, some ⟨l.map LetterD.cs, 19, 57, false, true⟩] ++ restHp (postL 2 w l) true)) := by
 obtain ⟨R, hR⟩ : ∃ R, R = postL 2 w l := ⟨_, rfl⟩
 rw [← hR]
 have hl2 : l.length ≤ 9223372036854775807 := by omega
 refine callA_ofO Tryz.func49 (by kernel_rfl) rfl fun E hE => run_den 400 ?_
 simp (disch := omega) only [Tryz.ntmps49, Tryz.results49, go_sem, Nat.reduceEqDiff, Nat.reduceAdd, Nat.reduceSub, Int.reduceAdd, Int.reduceSub, Int.reduceToNat]
 refine den_lpO 23 hE (fun s (y : Nat × WorldD) => s.at [2, 7, 9, 13, 14, 15, 16, 17, 18, 19, 20, 21, 22, 23, 24, 25, 26, 27, 28, 29, 30, 31, 32, 33, 34, 35, 36, 37, 38, 39, 40, 41, 42, 43, 44, 45, 46, 47, 48, 49, 50, 51, 52, 53, 54, 55, 56, 57, 58, 59, 60, 61, 62, 63, 64, 65, 66, 67, 68, 69, 70, 71, 72, 73, 74, 75, 76, 77, 78, 79, 80, 81, 82, 83, 84, 85, 86, 87, 88, 89, 90, 91, 92, 93, 94, 95, 96, 97, 98, 99, 100, 101, 102, 103, 104, 105, 106, 107, 108, 109, 110, 111, 112, 113, 114, 115, 116, 117, 118, 119, 120, 121, 122, 123, 124, 125, 126, 127, 128, 129, 130, 131, 132, 133, 134, 135, 136, 137, 138, 139, 140, 141, 142, 143, 144, 145, 146, 147, 148, 149, 150, 151, 152, 153, 154, 155, 156, 157] [(12, .sc (.int .i64 (y.1 : Nat)))] (endsHp w false ++ ([none, none, none, none, none, none, none, some ⟨[(worldC y.2 0 1 2 3 4 5 6 7 8 9 10 11 12 13 23 24 25 26 27 28 29)], 61, 47, true, false⟩, some ⟨l.map LetterD.cs, 19, 57, false, true⟩] ++ (restHp y.2 true)))) (fun (y : Nat × WorldD) => y.1 ≤ l.length ∧ y.2.a = w.a ∧ y.2.b = w.b ∧ SmallP2 y.2 ∧ R = postL 2 y.2 (l.drop y.1)) (fun (y : Nat × WorldD) => l.length - y.1) (0, w) [some (0, none), some (1, none), some (2, none), some (3, none), some (4, none), some (5, none), some (6, none), some (7, none), some (8, none), some (9, none), some (10, none), some (11, none), some (12, none), some (13, none), some (14, none), some (15, none), some (16, none), some (17, none), some (18, none), some (19, none), some (20, none), some (21, none), some (22, none), some (14, none), some (15, none), some (16, none), some (17, none), some (18, none), some (19, none), some (20, none)] (by (try simp (disch := omega) only [go_sem, List.length_set, Nat.reduceEqDiff, Nat.reduceAdd, Nat.reduceSub, Int.reduceAdd, Int.reduceSub, Int.reduceToNat]) <;> omega) (⟨Nat.zero_le _, rfl, rfl, hw, hR⟩) (weak_mkO (by rfl) (by rfl) ?_) fun y hy N hN => ?_
 ·try simp (disch := omega) only [go_sem, Nat.reduceEqDiff, Nat.reduceAdd, Nat.reduceSub, Int.reduceAdd, Int.reduceSub, Int.reduceToNat]
 ·obtain ⟨i, u⟩ := y
  obtain ⟨hi, ha, hb, hS, hu⟩ := hy
  obtain ⟨ua, ub, bag, past, wA, wB, rA, rB, known, nums, nsA, nsB⟩ := u
  obtain ⟨keys, tags⟩ := known
  dsimp only at hi ha hb hu
  subst ha hb
  have s1 := hS.bag
  have s2 := hS.past
  have s3 := hS.keys
  have s4 := hS.tags
  have s5 := hS.nums
  have s6 := hS.ansA
  have s7 := hS.ansB
  dsimp only at s1 s2 s3 s4 s5 s6 s7
  refine runS_den 21 400 ?_
  try simp (disch := omega) only [go_sem, Nat.reduceEqDiff, Nat.reduceAdd, Nat.reduceSub, Int.reduceAdd, Int.reduceSub, Int.reduceToNat, Nat.reduceBEq]
  split <;> rename_i h <;> (try simp only [decide_eq_true_eq, decide_eq_false_iff_not, Int.ofNat_lt] at h)
  rotate_left
  ·have e : i = l.length := by omega
   subst e
   rw [postL_end (Nat.le_refl _)] at hu
   subst hu
   try simp (disch := omega) only [go_sem, Nat.reduceEqDiff, Nat.reduceAdd, Nat.reduceSub, Int.reduceAdd, Int.reduceSub, Int.reduceToNat, Nat.reduceBEq]
   refine den_finO [some (0, none), some (1, none), some (2, none), some (3, none), some (4, none), some (5, none), some (6, none), some (7, none), some (8, none), some (9, none), some (10, none), some (11, none), some (12, none), some (13, none), some (14, none), some (15, none), some (16, none), some (17, none), some (18, none), some (19, none), some (20, none), some (21, none), some (22, none), some (23, none), some (24, none), some (25, none), some (26, none), some (27, none), some (28, none), some (29, none)] (by (try simp (disch := omega) only [go_sem, List.length_set, Nat.reduceEqDiff, Nat.reduceAdd, Nat.reduceSub, Int.reduceAdd, Int.reduceSub, Int.reduceToNat, Nat.reduceBEq]) <;> omega) _ (by simp only [go_sem]; rfl) (by rfl) (by rfl) ?_
   simp (disch := omega) only [go_sem, Nat.reduceEqDiff, Nat.reduceAdd, Nat.reduceSub, Int.reduceAdd, Int.reduceSub, Int.reduceToNat, Nat.reduceBEq]
  ·rw [postL_step h] at hu
   generalize hx : l[i] = x at hu
   have hget := map_get (enc := LetterD.cs) h
   rw [hx] at hget
   try simp (disch := omega) only [go_sem, Nat.reduceEqDiff, Nat.reduceAdd, Nat.reduceSub, Int.reduceAdd, Int.reduceSub, Int.reduceToNat, Nat.reduceBEq, hget]
   obtain ⟨p1, hp1⟩ : ∃ p, p = pastP past x := ⟨_, rfl⟩
   refine den_joinO 23 hE (fun s => s.at [13, 14, 15, 16, 17, 18, 19, 20, 21, 22, 23, 24, 25, 26, 27, 28, 29, 30, 31] [] (endsHp w false ++ ([none, none, none, none, none, none, none, some ⟨[(worldC (⟨w.a, w.b, bag, p1, wA, wB, rA, rB, ⟨keys, tags⟩, nums, nsA, nsB⟩ : WorldD) 0 1 2 3 4 5 6 7 8 9 10 11 12 13 23 24 25 26 27 28 29)], 61, 47, true, false⟩, some ⟨l.map LetterD.cs, 19, 57, false, true⟩] ++ (restHp (⟨w.a, w.b, bag, p1, wA, wB, rA, rB, ⟨keys, tags⟩, nums, nsA, nsB⟩ : WorldD) true ++ [some ⟨[x.cs], 19, 57, true, false⟩])))) (by (try simp (disch := omega) only [go_sem, List.length_set, Nat.reduceEqDiff, Nat.reduceAdd, Nat.reduceSub, Int.reduceAdd, Int.reduceSub, Int.reduceToNat, Nat.reduceBEq]) <;> omega) (by rfl) (fun N hN => run_den 401 ?_) (runS_den 34 400 ?_)
   ·try simp (disch := omega) only [go_sem, Nat.reduceEqDiff, Nat.reduceAdd, Nat.reduceSub, Int.reduceAdd, Int.reduceSub, Int.reduceToNat, Nat.reduceBEq]
    split <;> rename_i b1 <;> (try simp only [beq_true, beq_false, Bool.not_eq_true', Bool.not_eq_false'] at b1) <;> simp (disch := omega) only [go_sem, Nat.reduceEqDiff, Nat.reduceAdd, Nat.reduceSub, Int.reduceAdd, Int.reduceSub, Int.reduceToNat, Nat.reduceBEq, b1] <;> (try simp only [decide_eq_true_eq, decide_eq_false_iff_not, beq_iff_eq, beq_eq_false_iff_ne, bne_iff_ne, bne_eq_false_iff_eq, ne_eq, Decidable.not_not, Bool.and_eq_true, Bool.and_eq_false_iff, Bool.or_eq_true, Bool.or_eq_false_iff, Int.ofNat_lt, Int.ofNat_le, Bool.not_eq_eq_eq_not, Bool.not_true, Bool.not_false] at b1) <;> try simp (disch := omega) only [go_sem, Nat.reduceEqDiff, Nat.reduceAdd, Nat.reduceSub, Int.reduceAdd, Int.reduceSub, Int.reduceToNat, Nat.reduceBEq]
    ·rw [pastP_t (by omega)] at hp1
     subst hp1
     refine den_draw1 [0, 1, 2, 3, 4, 5, 6, 7, 8, 9, 10] (by kernel_rfl) (by (try simp (disch := omega) only [go_sem, List.length_set, Nat.reduceEqDiff, Nat.reduceAdd, Nat.reduceSub, Int.reduceAdd, Int.reduceSub, Int.reduceToNat, Nat.reduceBEq]) <;> omega) (by kernel_rfl) (runD_den 400 ?_)
     simp (disch := omega) only [go_sem, Nat.reduceEqDiff, Nat.reduceAdd, Nat.reduceSub, Int.reduceAdd, Int.reduceSub, Int.reduceToNat, Nat.reduceBEq]
     refine ⟨by (try simp (disch := omega) only [go_sem, List.length_set, Nat.reduceEqDiff, Nat.reduceAdd, Nat.reduceSub, Int.reduceAdd, Int.reduceSub, Int.reduceToNat, Nat.reduceBEq]) <;> omega, runS_den 34 400 ?_⟩
     try simp (disch := omega) only [go_sem, Nat.reduceEqDiff, Nat.reduceAdd, Nat.reduceSub, Int.reduceAdd, Int.reduceSub, Int.reduceToNat, Nat.reduceBEq]
     refine ⟨by (try simp (disch := omega) only [go_sem, List.length_set, Nat.reduceEqDiff, Nat.reduceAdd, Nat.reduceSub, Int.reduceAdd, Int.reduceSub, Int.reduceToNat, Nat.reduceBEq]) <;> omega, hN _ [some (0, none), some (1, none), some (2, none), some (3, none), some (4, none), some (5, none), some (6, none), some (7, none), some (8, none), some (9, none), some (10, none), some (11, none), some (12, none), some (13, none), some (14, none), some (15, none), some (16, none), some (17, none), some (18, none), some (19, none), some (20, none), some (21, none), some (22, none), some (23, none), some (32, none), some (25, none), some (26, none), some (27, none), some (28, none), some (29, none), some (30, none)] (weak_mkO (by rfl) (by rfl) ?_)⟩
     simp (disch := omega) only [go_sem, Nat.reduceEqDiff, Nat.reduceAdd, Nat.reduceSub, Int.reduceAdd, Int.reduceSub, Int.reduceToNat, Nat.reduceBEq]
     try simp [LetterD.cs]
    ·rw [pastP_f (by omega)] at hp1
     subst hp1
     try simp (disch := omega) only [go_sem, Nat.reduceEqDiff, Nat.reduceAdd, Nat.reduceSub, Int.reduceAdd, Int.reduceSub, Int.reduceToNat, Nat.reduceBEq]
     refine ⟨by (try simp (disch := omega) only [go_sem, List.length_set, Nat.reduceEqDiff, Nat.reduceAdd, Nat.reduceSub, Int.reduceAdd, Int.reduceSub, Int.reduceToNat, Nat.reduceBEq]) <;> omega, hN _ [some (0, none), some (1, none), some (2, none), some (3, none), some (4, none), some (5, none), some (6, none), some (7, none), some (8, none), some (9, none), some (10, none), some (11, none), some (12, none), some (13, none), some (14, none), some (15, none), some (16, none), some (17, none), some (18, none), some (19, none), some (20, none), some (21, none), some (22, none), some (23, none), some (24, none), some (25, none), some (26, none), some (27, none), some (28, none), some (29, none), some (30, none)] (weak_mkO (by rfl) (by rfl) ?_)⟩
     simp (disch := omega) only [go_sem, Nat.reduceEqDiff, Nat.reduceAdd, Nat.reduceSub, Int.reduceAdd, Int.reduceSub, Int.reduceToNat, Nat.reduceBEq]
   ·try simp (disch := omega) only [go_sem, Nat.reduceEqDiff, Nat.reduceAdd, Nat.reduceSub, Int.reduceAdd, Int.reduceSub, Int.reduceToNat, Nat.reduceBEq]
    obtain ⟨q1, hq1⟩ : ∃ q, q = ansP nsB (isJB 2 2 x) w.b.now := ⟨_, rfl⟩
    refine den_joinO 23 hE (fun s => s.at [13, 14, 15, 16, 17, 18, 19, 20, 21, 22, 23, 24, 25, 26, 27, 28, 29, 30, 31, 32, 33, 34, 35, 36, 37, 38, 39, 40, 41, 42, 43, 44, 45, 46, 47, 48, 49, 50, 51, 52, 53, 54, 55, 56, 57, 58, 59, 60, 61, 62, 63, 64, 65, 66, 67, 68, 69, 70, 71, 72, 73, 74, 75, 76, 77, 78, 79, 80, 81, 82] [] (endsHp w false ++ ([none, none, none, none, none, none, none, some ⟨[(worldC (⟨w.a, w.b, bag, p1, wA, wB, rA, rB, ⟨keys, tags⟩, nums, nsA, q1⟩ : WorldD) 0 1 2 3 4 5 6 7 8 9 10 11 12 13 23 24 25 26 27 28 29)], 61, 47, true, false⟩, some ⟨l.map LetterD.cs, 19, 57, false, true⟩] ++ (restHp (⟨w.a, w.b, bag, p1, wA, wB, rA, rB, ⟨keys, tags⟩, nums, nsA, q1⟩ : WorldD) true ++ [some ⟨[x.cs], 19, 57, true, false⟩])))) (by (try simp (disch := omega) only [go_sem, List.length_set, Nat.reduceEqDiff, Nat.reduceAdd, Nat.reduceSub, Int.reduceAdd, Int.reduceSub, Int.reduceToNat]) <;> omega) (by rfl) (fun N hN => run_den 401 ?_) (run_den 400 ?_)
    ·try simp (disch := omega) only [go_sem, Nat.reduceEqDiff, Nat.reduceAdd, Nat.reduceSub, Int.reduceAdd, Int.reduceSub, Int.reduceToNat]
     split <;> rename_i b2 <;> (try simp only [beq_true, beq_false, Bool.not_eq_true', Bool.not_eq_false'] at b2) <;> simp (disch := omega) only [go_sem, Nat.reduceEqDiff, Nat.reduceAdd, Nat.reduceSub, Int.reduceAdd, Int.reduceSub, Int.reduceToNat, b2] <;> (try simp only [decide_eq_true_eq, decide_eq_false_iff_not, beq_iff_eq, beq_eq_false_iff_ne, bne_iff_ne, bne_eq_false_iff_eq, ne_eq, Decidable.not_not, Bool.and_eq_true, Bool.and_eq_false_iff, Bool.or_eq_true, Bool.or_eq_false_iff, Int.ofNat_lt, Int.ofNat_le, Bool.not_eq_eq_eq_not, Bool.not_true, Bool.not_false] at b2) <;> try simp (disch := omega) only [go_sem, Nat.reduceEqDiff, Nat.reduceAdd, Nat.reduceSub, Int.reduceAdd, Int.reduceSub, Int.reduceToNat]
     ·rw [isJB_t b2] at hq1
      split <;> rename_i b3 <;> (try simp only [beq_true, beq_false, Bool.not_eq_true', Bool.not_eq_false'] at b3) <;> simp (disch := omega) only [go_sem, Nat.reduceEqDiff, Nat.reduceAdd, Nat.reduceSub, Int.reduceAdd, Int.reduceSub, Int.reduceToNat, b3] <;> (try simp only [decide_eq_true_eq, decide_eq_false_iff_not, beq_iff_eq, beq_eq_false_iff_ne, bne_iff_ne, bne_eq_false_iff_eq, ne_eq, Decidable.not_not, Bool.and_eq_true, Bool.and_eq_false_iff, Bool.or_eq_true, Bool.or_eq_false_iff, Int.ofNat_lt, Int.ofNat_le, Bool.not_eq_eq_eq_not, Bool.not_true, Bool.not_false] at b3) <;> try simp (disch := omega) only [go_sem, Nat.reduceEqDiff, Nat.reduceAdd, Nat.reduceSub, Int.reduceAdd, Int.reduceSub, Int.reduceToNat]
      ·rw [ansP_t (by omega)] at hq1
       subst hq1
       refine den_draw1 [0, 1, 2, 3, 4, 5, 6, 7, 8, 9, 10, 11, 12, 13, 14] (by kernel_rfl) (by (try simp (disch := omega) only [go_sem, List.length_set, Nat.reduceEqDiff, Nat.reduceAdd, Nat.reduceSub, Int.reduceAdd, Int.reduceSub, Int.reduceToNat]) <;> omega) (by kernel_rfl) (runD_den 400 ?_)
       simp (disch := omega) only [go_sem, Nat.reduceEqDiff, Nat.reduceAdd, Nat.reduceSub, Int.reduceAdd, Int.reduceSub, Int.reduceToNat]
       refine ⟨by (try simp (disch := omega) only [go_sem, List.length_set, Nat.reduceEqDiff, Nat.reduceAdd, Nat.reduceSub, Int.reduceAdd, Int.reduceSub, Int.reduceToNat]) <;> omega, run_den 400 ?_⟩
       try simp (disch := omega) only [go_sem, Nat.reduceEqDiff, Nat.reduceAdd, Nat.reduceSub, Int.reduceAdd, Int.reduceSub, Int.reduceToNat]
       refine ⟨by (try simp (disch := omega) only [go_sem, List.length_set, Nat.reduceEqDiff, Nat.reduceAdd, Nat.reduceSub, Int.reduceAdd, Int.reduceSub, Int.reduceToNat]) <;> omega, hN _ [some (0, none), some (1, none), some (2, none), some (3, none), some (4, none), some (5, none), some (6, none), some (7, none), some (8, none), some (9, none), some (10, none), some (11, none), some (12, none), some (13, none), some (14, none), some (15, none), some (16, none), some (17, none), some (18, none), some (19, none), some (20, none), some (21, none), some (22, none), some (23, none), some (24, none), some (25, none), some (26, none), some (27, none), some (28, none), some (32, none), some (30, none)] (weak_mkO (by rfl) (by rfl) ?_)⟩
       simp (disch := omega) only [go_sem, Nat.reduceEqDiff, Nat.reduceAdd, Nat.reduceSub, Int.reduceAdd, Int.reduceSub, Int.reduceToNat]
       try simp [intC]
      ·rw [ansP_f (by omega)] at hq1
       subst hq1
       try simp (disch := omega) only [go_sem, Nat.reduceEqDiff, Nat.reduceAdd, Nat.reduceSub, Int.reduceAdd, Int.reduceSub, Int.reduceToNat]
       refine ⟨by (try simp (disch := omega) only [go_sem, List.length_set, Nat.reduceEqDiff, Nat.reduceAdd, Nat.reduceSub, Int.reduceAdd, Int.reduceSub, Int.reduceToNat]) <;> omega, hN _ [some (0, none), some (1, none), some (2, none), some (3, none), some (4, none), some (5, none), some (6, none), some (7, none), some (8, none), some (9, none), some (10, none), some (11, none), some (12, none), some (13, none), some (14, none), some (15, none), some (16, none), some (17, none), some (18, none), some (19, none), some (20, none), some (21, none), some (22, none), some (23, none), some (24, none), some (25, none), some (26, none), some (27, none), some (28, none), some (29, none), some (30, none)] (weak_mkO (by rfl) (by rfl) ?_)⟩
       simp (disch := omega) only [go_sem, Nat.reduceEqDiff, Nat.reduceAdd, Nat.reduceSub, Int.reduceAdd, Int.reduceSub, Int.reduceToNat]
     ·rw [isJB_f b2, ansP_f1] at hq1
      subst hq1
      try simp (disch := omega) only [go_sem, Nat.reduceEqDiff, Nat.reduceAdd, Nat.reduceSub, Int.reduceAdd, Int.reduceSub, Int.reduceToNat]
      refine ⟨by (try simp (disch := omega) only [go_sem, List.length_set, Nat.reduceEqDiff, Nat.reduceAdd, Nat.reduceSub, Int.reduceAdd, Int.reduceSub, Int.reduceToNat]) <;> omega, hN _ [some (0, none), some (1, none), some (2, none), some (3, none), some (4, none), some (5, none), some (6, none), some (7, none), some (8, none), some (9, none), some (10, none), some (11, none), some (12, none), some (13, none), some (14, none), some (15, none), some (16, none), some (17, none), some (18, none), some (19, none), some (20, none), some (21, none), some (22, none), some (23, none), some (24, none), some (25, none), some (26, none), some (27, none), some (28, none), some (29, none), some (30, none)] (weak_mkO (by rfl) (by rfl) ?_)⟩
      simp (disch := omega) only [go_sem, Nat.reduceEqDiff, Nat.reduceAdd, Nat.reduceSub, Int.reduceAdd, Int.reduceSub, Int.reduceToNat]
    ·try simp (disch := omega) only [go_sem, Nat.reduceEqDiff, Nat.reduceAdd, Nat.reduceSub, Int.reduceAdd, Int.reduceSub, Int.reduceToNat]
     refine den_call (by (try simp (disch := omega) only [go_sem, List.length_set, Nat.reduceEqDiff, Nat.reduceAdd, Nat.reduceSub, Int.reduceAdd, Int.reduceSub, Int.reduceToNat]) <;> omega) (impl_SideAt x.to) [] (by simp only [go_sem]; repeat' first | rfl | constructor | (rw [List.map_set]; rfl) | (simp [List.map_take, List.map_drop] <;> omega)) (by rfl) (run_den 400 ?_)
     simp (disch := omega) only [go_sem, Nat.reduceEqDiff, Nat.reduceAdd, Nat.reduceSub, Int.reduceAdd, Int.reduceSub, Int.reduceToNat]
     have hoth : ansP nsA (isJB 2 1 x) w.a.now = nsA := by rw [isJB_n (by decide), ansP_f1]
     split <;> rename_i b4 <;> (try simp only [beq_true, beq_false, Bool.not_eq_true', Bool.not_eq_false'] at b4) <;> simp (disch := omega) only [go_sem, Nat.reduceEqDiff, Nat.reduceAdd, Nat.reduceSub, Int.reduceAdd, Int.reduceSub, Int.reduceToNat, b4] <;> (try simp only [decide_eq_true_eq, decide_eq_false_iff_not, beq_iff_eq, beq_eq_false_iff_ne, bne_iff_ne, bne_eq_false_iff_eq, ne_eq, Decidable.not_not, Bool.and_eq_true, Bool.and_eq_false_iff, Bool.or_eq_true, Bool.or_eq_false_iff, Int.ofNat_lt, Int.ofNat_le, Bool.not_eq_eq_eq_not, Bool.not_true, Bool.not_false] at b4) <;> try simp (disch := omega) only [go_sem, Nat.reduceEqDiff, Nat.reduceAdd, Nat.reduceSub, Int.reduceAdd, Int.reduceSub, Int.reduceToNat]
     ·have hK := impl_Learn ⟨keys, tags⟩ x.tag (by dsimp only; omega) (by dsimp only; omega)
      have hky : (learn ⟨keys, tags⟩ x.tag).keys.length ≤ 1048576 := by rw [learn_keys]; exact s3
      have hkt : (learn ⟨keys, tags⟩ x.tag).tags.length ≤ 1048576 := learn_le s4
      obtain ⟨kk, hkk⟩ : ∃ k, k = learn ⟨keys, tags⟩ x.tag := ⟨_, rfl⟩
      rw [← hkk] at hK hky hkt
      obtain ⟨k1, t1⟩ := kk
      dsimp only at hky hkt
      refine den_draw1 [0, 1, 2, 3, 4, 5, 6, 7, 8, 9, 10] (by kernel_rfl) (by (try simp (disch := omega) only [go_sem, List.length_set, Nat.reduceEqDiff, Nat.reduceAdd, Nat.reduceSub, Int.reduceAdd, Int.reduceSub, Int.reduceToNat]) <;> omega) (by kernel_rfl) (runD_den 400 ?_)
      simp (disch := omega) only [go_sem, Nat.reduceEqDiff, Nat.reduceAdd, Nat.reduceSub, Int.reduceAdd, Int.reduceSub, Int.reduceToNat]
      refine den_callD (by (try simp (disch := omega) only [go_sem, List.length_set, Nat.reduceEqDiff, Nat.reduceAdd, Nat.reduceSub, Int.reduceAdd, Int.reduceSub, Int.reduceToNat]) <;> omega) (hK) [some (25, none), some (26, none)] (by simp only [go_sem]; repeat' first | rfl | constructor | (rw [List.map_set]; rfl) | (simp [List.map_take, List.map_drop] <;> omega)) (by rfl) (by rfl) (runD_den 400 ?_)
      simp (disch := omega) only [go_sem, Nat.reduceEqDiff, Nat.reduceAdd, Nat.reduceSub, Int.reduceAdd, Int.reduceSub, Int.reduceToNat]
      refine ⟨by (try simp (disch := omega) only [go_sem, List.length_set, Nat.reduceEqDiff, Nat.reduceAdd, Nat.reduceSub, Int.reduceAdd, Int.reduceSub, Int.reduceToNat]) <;> omega, run_den 400 ?_⟩
      try simp (disch := omega) only [go_sem, Nat.reduceEqDiff, Nat.reduceAdd, Nat.reduceSub, Int.reduceAdd, Int.reduceSub, Int.reduceToNat]
      obtain ⟨n1, hn1⟩ : ∃ n, n = (nums3 x).foldl numP nums := ⟨_, rfl⟩
      have hn1l : n1.length ≤ 1048576 := by rw [hn1]; exact numP_le (numP_le (numP_le s5))
      refine den_lpO 23 hE (fun s (z : Nat × List Int) => s.at [2, 9, 14, 15, 16, 17, 18, 19, 20, 22, 23, 24, 25, 26, 27, 28, 29, 30, 31, 32, 33, 35, 36, 37, 38, 39, 40, 41, 42, 43, 45, 46, 47, 48, 49, 50, 51, 52, 53, 54, 55, 56, 57, 58, 59, 60, 61, 62, 63, 64, 65, 66, 67, 69, 70, 71, 72, 73, 74, 75, 76, 77, 78, 79, 80, 81, 82, 84, 85, 86, 87, 88, 89, 90, 91, 92, 93, 94, 95, 96, 97, 98, 99, 100, 101, 102, 103, 107, 108, 109, 110, 111, 112, 113, 114, 115, 116, 117, 118, 119, 120, 121, 122, 123, 124, 125, 126, 127, 128, 129, 130, 131, 132, 133, 134, 135, 136, 137, 138, 139, 141, 142, 143, 144, 145, 146, 147, 148, 149, 150, 151, 152, 153, 154, 155, 156, 157] [(106, .sc (.int .i64 (z.1 : Nat))), (104, .sc (.sl 31 0 3))] (endsHp w false ++ ([none, none, none, none, none, none, none, some ⟨[(worldC (⟨w.a, w.b, bag, p1, wA, wB, rA, rB, ⟨k1, t1⟩, z.2, nsA, q1⟩ : WorldD) 0 1 2 3 4 5 6 7 8 9 10 11 12 13 23 24 25 26 27 28 29)], 61, 47, true, false⟩, some ⟨l.map LetterD.cs, 19, 57, false, true⟩] ++ (restHp (⟨w.a, w.b, bag, p1, wA, wB, rA, rB, ⟨k1, t1⟩, z.2, nsA, q1⟩ : WorldD) true ++ [some ⟨[x.cs], 19, 57, true, false⟩] ++ [some ⟨[[.int .i64 x.nonce], [.int .i64 x.give], [.int .i64 x.sgn]], 1, 3, true, true⟩])))) (fun (z : Nat × List Int) => z.1 ≤ 3 ∧ z.2.length ≤ 1048576 ∧ n1 = ((nums3 x).drop z.1).foldl numP z.2) (fun (z : Nat × List Int) => 3 - z.1) (0, nums) [some (0, none), some (1, none), some (2, none), some (3, none), some (4, none), some (5, none), some (6, none), some (7, none), some (8, none), some (9, none), some (10, none), some (11, none), some (12, none), some (13, none), some (14, none), some (15, none), some (16, none), some (17, none), some (18, none), some (19, none), some (20, none), some (21, none), some (22, none), some (23, none), some (24, none), some (31, none), some (32, none), some (27, none), some (28, none), some (29, none), some (30, none), some (33, none)] (by (try simp (disch := omega) only [go_sem, List.length_set, Nat.reduceEqDiff, Nat.reduceAdd, Nat.reduceSub, Int.reduceAdd, Int.reduceSub, Int.reduceToNat]) <;> omega) (⟨Nat.zero_le _, s5, hn1⟩) (weak_mkO (by rfl) (by rfl) ?_) fun z hz N2 hN2 => ?_
      ·try simp (disch := omega) only [go_sem, Nat.reduceEqDiff, Nat.reduceAdd, Nat.reduceSub, Int.reduceAdd, Int.reduceSub, Int.reduceToNat]
      ·obtain ⟨j, m⟩ := z
       obtain ⟨hj, hm, hn⟩ := hz
       dsimp only at hj hm hn
       refine run_den 400 ?_
       try simp (disch := omega) only [go_sem, Nat.reduceEqDiff, Nat.reduceAdd, Nat.reduceSub, Int.reduceAdd, Int.reduceSub, Int.reduceToNat]
       split <;> rename_i h5 <;> (try simp only [decide_eq_true_eq, decide_eq_false_iff_not, Int.ofNat_lt] at h5)
       rotate_left
       ·have e : j = 3 := by omega
        subst e
        rw [foldN_end (by simp [nums3])] at hn
        subst hn
        try simp (disch := omega) only [go_sem, Nat.reduceEqDiff, Nat.reduceAdd, Nat.reduceSub, Int.reduceAdd, Int.reduceSub, Int.reduceToNat]
        refine ⟨by (try simp (disch := omega) only [go_sem, List.length_set, Nat.reduceEqDiff, Nat.reduceAdd, Nat.reduceSub, Int.reduceAdd, Int.reduceSub, Int.reduceToNat]) <;> omega, hN _ (i + 1, (⟨w.a, w.b, bag, p1, wA, wB, rA, rB, ⟨k1, t1⟩, n1, nsA, q1⟩ : WorldD)) [some (0, none), some (1, none), some (2, none), some (3, none), some (4, none), some (5, none), some (6, none), some (7, none), some (8, none), some (9, none), some (10, none), some (11, none), some (12, none), some (13, none), some (14, none), some (15, none), some (16, none), some (17, none), some (18, none), some (19, none), some (20, none), some (21, none), some (22, none), some (23, none), some (24, none), some (25, none), some (26, none), some (27, none), some (28, none), some (29, none)] (⟨by omega, rfl, rfl, ?_, ?_⟩) (by (try dsimp only); omega) (weak_mkO (by rfl) (by rfl) ?_)⟩
        ·have e : post1 2 (⟨w.a, w.b, bag, past, wA, wB, rA, rB, ⟨keys, tags⟩, nums, nsA, nsB⟩ : WorldD) x = (⟨w.a, w.b, bag, p1, wA, wB, rA, rB, ⟨k1, t1⟩, n1, nsA, q1⟩ : WorldD) := by
          rw [post1, if_pos b4, heard, notes]
          dsimp only
          rw [← hkk, hoth, ← hp1, ← hq1, hn1]
          rfl
         rw [← e]
         exact post1_small hS
        ·have e : post1 2 (⟨w.a, w.b, bag, past, wA, wB, rA, rB, ⟨keys, tags⟩, nums, nsA, nsB⟩ : WorldD) x = (⟨w.a, w.b, bag, p1, wA, wB, rA, rB, ⟨k1, t1⟩, n1, nsA, q1⟩ : WorldD) := by
          rw [post1, if_pos b4, heard, notes]
          dsimp only
          rw [← hkk, hoth, ← hp1, ← hq1, hn1]
          rfl
         rw [← e]
         exact hu
        ·try simp (disch := omega) only [go_sem, Nat.reduceEqDiff, Nat.reduceAdd, Nat.reduceSub, Int.reduceAdd, Int.reduceSub, Int.reduceToNat]
       ·have h6 : j < (nums3 x).length := by simp only [nums3, List.length_cons, List.length_nil]; omega
        rw [foldN_step h6] at hn
        generalize hv : (nums3 x)[j] = v at hn
        have hg3 : ([[.int .i64 x.nonce], [.int .i64 x.give], [.int .i64 x.sgn]] : List (List Sc))[j]? = some (intC v) := by
         rw [← hv]
         rw [show ([[.int .i64 x.nonce], [.int .i64 x.give], [.int .i64 x.sgn]] : List (List Sc)) = (nums3 x).map intC from rfl]
         exact map_get h6
        simp only [intC] at hg3
        have hH := impl_hasInt m v hm
        have ht := numP_t (l := m) (n := v)
        have hf1 := numP_f1 (l := m) (n := v)
        have hf2 := numP_f2 (l := m) (n := v)
        have hf3 := numP_f3 (l := m) (n := v)
        have hvl : (numP m v).length ≤ 1048576 := numP_le hm
        generalize numP m v = m1 at *
        try simp (disch := omega) only [go_sem, Nat.reduceEqDiff, Nat.reduceAdd, Nat.reduceSub, Int.reduceAdd, Int.reduceSub, Int.reduceToNat, hg3]
        split <;> rename_i c1 <;> (try simp only [beq_true, beq_false, Bool.not_eq_true', Bool.not_eq_false'] at c1) <;> simp (disch := omega) only [go_sem, Nat.reduceEqDiff, Nat.reduceAdd, Nat.reduceSub, Int.reduceAdd, Int.reduceSub, Int.reduceToNat, c1] <;> (try simp only [decide_eq_true_eq, decide_eq_false_iff_not, beq_iff_eq, beq_eq_false_iff_ne, bne_iff_ne, bne_eq_false_iff_eq, ne_eq, Decidable.not_not, Bool.and_eq_true, Bool.and_eq_false_iff, Bool.or_eq_true, Bool.or_eq_false_iff, Int.ofNat_lt, Int.ofNat_le, Bool.not_eq_eq_eq_not, Bool.not_true, Bool.not_false] at c1) <;> try simp (disch := omega) only [go_sem, Nat.reduceEqDiff, Nat.reduceAdd, Nat.reduceSub, Int.reduceAdd, Int.reduceSub, Int.reduceToNat]
        ·refine den_call (by (try simp (disch := omega) only [go_sem, List.length_set, Nat.reduceEqDiff, Nat.reduceAdd, Nat.reduceSub, Int.reduceAdd, Int.reduceSub, Int.reduceToNat]) <;> omega) (hH) [some (27, none)] (by simp only [go_sem]; repeat' first | rfl | constructor | (rw [List.map_set]; rfl) | (simp [List.map_take, List.map_drop] <;> omega)) (by rfl) (run_den 400 ?_)
         simp (disch := omega) only [go_sem, Nat.reduceEqDiff, Nat.reduceAdd, Nat.reduceSub, Int.reduceAdd, Int.reduceSub, Int.reduceToNat]
         split <;> rename_i c2 <;> (try simp only [beq_true, beq_false, Bool.not_eq_true', Bool.not_eq_false'] at c2) <;> simp (disch := omega) only [go_sem, Nat.reduceEqDiff, Nat.reduceAdd, Nat.reduceSub, Int.reduceAdd, Int.reduceSub, Int.reduceToNat, c2] <;> (try simp only [decide_eq_true_eq, decide_eq_false_iff_not, beq_iff_eq, beq_eq_false_iff_ne, bne_iff_ne, bne_eq_false_iff_eq, ne_eq, Decidable.not_not, Bool.and_eq_true, Bool.and_eq_false_iff, Bool.or_eq_true, Bool.or_eq_false_iff, Int.ofNat_lt, Int.ofNat_le, Bool.not_eq_eq_eq_not, Bool.not_true, Bool.not_false] at c2) <;> try simp (disch := omega) only [go_sem, Nat.reduceEqDiff, Nat.reduceAdd, Nat.reduceSub, Int.reduceAdd, Int.reduceSub, Int.reduceToNat]
         ·split <;> rename_i c3 <;> (try simp only [beq_true, beq_false, Bool.not_eq_true', Bool.not_eq_false'] at c3) <;> simp (disch := omega) only [go_sem, Nat.reduceEqDiff, Nat.reduceAdd, Nat.reduceSub, Int.reduceAdd, Int.reduceSub, Int.reduceToNat, c3] <;> (try simp only [decide_eq_true_eq, decide_eq_false_iff_not, beq_iff_eq, beq_eq_false_iff_ne, bne_iff_ne, bne_eq_false_iff_eq, ne_eq, Decidable.not_not, Bool.and_eq_true, Bool.and_eq_false_iff, Bool.or_eq_true, Bool.or_eq_false_iff, Int.ofNat_lt, Int.ofNat_le, Bool.not_eq_eq_eq_not, Bool.not_true, Bool.not_false] at c3) <;> try simp (disch := omega) only [go_sem, Nat.reduceEqDiff, Nat.reduceAdd, Nat.reduceSub, Int.reduceAdd, Int.reduceSub, Int.reduceToNat]
          ·have e := ht c1 c2 (by omega)
           subst e
           try simp (disch := omega) only [go_sem, Nat.reduceEqDiff, Nat.reduceAdd, Nat.reduceSub, Int.reduceAdd, Int.reduceSub, Int.reduceToNat]
           refine ⟨by (try simp (disch := omega) only [go_sem, List.length_set, Nat.reduceEqDiff, Nat.reduceAdd, Nat.reduceSub, Int.reduceAdd, Int.reduceSub, Int.reduceToNat]) <;> omega, hN2 _ (j + 1, m ++ [v]) [some (0, none), some (1, none), some (2, none), some (3, none), some (4, none), some (5, none), some (6, none), some (7, none), some (8, none), some (9, none), some (10, none), some (11, none), some (12, none), some (13, none), some (14, none), some (15, none), some (16, none), some (17, none), some (18, none), some (19, none), some (20, none), some (21, none), some (22, none), some (23, none), some (24, none), some (25, none), some (26, none), some (33, none), some (28, none), some (29, none), some (30, none), some (31, none)] (by (try dsimp only); exact ⟨by omega, hvl, hn⟩) (by (try dsimp only); omega) (weak_mkO (by rfl) (by rfl) ?_)⟩
           try simp (disch := omega) only [go_sem, Nat.reduceEqDiff, Nat.reduceAdd, Nat.reduceSub, Int.reduceAdd, Int.reduceSub, Int.reduceToNat]
           try simp [intC]
          ·have e := hf3 (by omega)
           subst e
           try simp (disch := omega) only [go_sem, Nat.reduceEqDiff, Nat.reduceAdd, Nat.reduceSub, Int.reduceAdd, Int.reduceSub, Int.reduceToNat]
           refine ⟨by (try simp (disch := omega) only [go_sem, List.length_set, Nat.reduceEqDiff, Nat.reduceAdd, Nat.reduceSub, Int.reduceAdd, Int.reduceSub, Int.reduceToNat]) <;> omega, hN2 _ (j + 1, m1) [some (0, none), some (1, none), some (2, none), some (3, none), some (4, none), some (5, none), some (6, none), some (7, none), some (8, none), some (9, none), some (10, none), some (11, none), some (12, none), some (13, none), some (14, none), some (15, none), some (16, none), some (17, none), some (18, none), some (19, none), some (20, none), some (21, none), some (22, none), some (23, none), some (24, none), some (25, none), some (26, none), some (27, none), some (28, none), some (29, none), some (30, none), some (31, none)] (by (try dsimp only); exact ⟨by omega, hm, hn⟩) (by (try dsimp only); omega) (weak_mkO (by rfl) (by rfl) ?_)⟩
           try simp (disch := omega) only [go_sem, Nat.reduceEqDiff, Nat.reduceAdd, Nat.reduceSub, Int.reduceAdd, Int.reduceSub, Int.reduceToNat]
         ·have e := hf2 c2
          subst e
          try simp (disch := omega) only [go_sem, Nat.reduceEqDiff, Nat.reduceAdd, Nat.reduceSub, Int.reduceAdd, Int.reduceSub, Int.reduceToNat]
          refine ⟨by (try simp (disch := omega) only [go_sem, List.length_set, Nat.reduceEqDiff, Nat.reduceAdd, Nat.reduceSub, Int.reduceAdd, Int.reduceSub, Int.reduceToNat]) <;> omega, hN2 _ (j + 1, m1) [some (0, none), some (1, none), some (2, none), some (3, none), some (4, none), some (5, none), some (6, none), some (7, none), some (8, none), some (9, none), some (10, none), some (11, none), some (12, none), some (13, none), some (14, none), some (15, none), some (16, none), some (17, none), some (18, none), some (19, none), some (20, none), some (21, none), some (22, none), some (23, none), some (24, none), some (25, none), some (26, none), some (27, none), some (28, none), some (29, none), some (30, none), some (31, none)] (by (try dsimp only); exact ⟨by omega, hm, hn⟩) (by (try dsimp only); omega) (weak_mkO (by rfl) (by rfl) ?_)⟩
          try simp (disch := omega) only [go_sem, Nat.reduceEqDiff, Nat.reduceAdd, Nat.reduceSub, Int.reduceAdd, Int.reduceSub, Int.reduceToNat]
        ·have e := hf1 c1
         subst e
         try simp (disch := omega) only [go_sem, Nat.reduceEqDiff, Nat.reduceAdd, Nat.reduceSub, Int.reduceAdd, Int.reduceSub, Int.reduceToNat]
         refine ⟨by (try simp (disch := omega) only [go_sem, List.length_set, Nat.reduceEqDiff, Nat.reduceAdd, Nat.reduceSub, Int.reduceAdd, Int.reduceSub, Int.reduceToNat]) <;> omega, hN2 _ (j + 1, m1) [some (0, none), some (1, none), some (2, none), some (3, none), some (4, none), some (5, none), some (6, none), some (7, none), some (8, none), some (9, none), some (10, none), some (11, none), some (12, none), some (13, none), some (14, none), some (15, none), some (16, none), some (17, none), some (18, none), some (19, none), some (20, none), some (21, none), some (22, none), some (23, none), some (24, none), some (25, none), some (26, none), some (27, none), some (28, none), some (29, none), some (30, none), some (31, none)] (by (try dsimp only); exact ⟨by omega, hm, hn⟩) (by (try dsimp only); omega) (weak_mkO (by rfl) (by rfl) ?_)⟩
         try simp (disch := omega) only [go_sem, Nat.reduceEqDiff, Nat.reduceAdd, Nat.reduceSub, Int.reduceAdd, Int.reduceSub, Int.reduceToNat]
     ·obtain ⟨g1, hg1⟩ : ∃ g, g = bagP bag x := ⟨_, rfl⟩
      have e : post1 2 (⟨w.a, w.b, bag, past, wA, wB, rA, rB, ⟨keys, tags⟩, nums, nsA, nsB⟩ : WorldD) x = (⟨w.a, w.b, g1, p1, wA, wB, rA, rB, ⟨keys, tags⟩, nums, nsA, q1⟩ : WorldD) := by
       rw [post1, if_neg b4, notes]
       dsimp only
       rw [hoth, ← hp1, ← hq1, ← hg1]
      rw [e] at hu
      have hS1 := post1_small (side := 2) (x := x) hS
      rw [e] at hS1
      split <;> rename_i b5 <;> (try simp only [beq_true, beq_false, Bool.not_eq_true', Bool.not_eq_false'] at b5) <;> simp (disch := omega) only [go_sem, Nat.reduceEqDiff, Nat.reduceAdd, Nat.reduceSub, Int.reduceAdd, Int.reduceSub, Int.reduceToNat, b5] <;> (try simp only [decide_eq_true_eq, decide_eq_false_iff_not, beq_iff_eq, beq_eq_false_iff_ne, bne_iff_ne, bne_eq_false_iff_eq, ne_eq, Decidable.not_not, Bool.and_eq_true, Bool.and_eq_false_iff, Bool.or_eq_true, Bool.or_eq_false_iff, Int.ofNat_lt, Int.ofNat_le, Bool.not_eq_eq_eq_not, Bool.not_true, Bool.not_false] at b5) <;> try simp (disch := omega) only [go_sem, Nat.reduceEqDiff, Nat.reduceAdd, Nat.reduceSub, Int.reduceAdd, Int.reduceSub, Int.reduceToNat]
      ·rw [bagP_t (by omega)] at hg1
       subst hg1
       refine den_draw1 [0, 1, 2, 3, 4, 5, 6, 7, 8, 9, 10] (by kernel_rfl) (by (try simp (disch := omega) only [go_sem, List.length_set, Nat.reduceEqDiff, Nat.reduceAdd, Nat.reduceSub, Int.reduceAdd, Int.reduceSub, Int.reduceToNat]) <;> omega) (by kernel_rfl) (runD_den 400 ?_)
       simp (disch := omega) only [go_sem, Nat.reduceEqDiff, Nat.reduceAdd, Nat.reduceSub, Int.reduceAdd, Int.reduceSub, Int.reduceToNat]
       refine ⟨by (try simp (disch := omega) only [go_sem, List.length_set, Nat.reduceEqDiff, Nat.reduceAdd, Nat.reduceSub, Int.reduceAdd, Int.reduceSub, Int.reduceToNat]) <;> omega, run_den 400 ?_⟩
       try simp (disch := omega) only [go_sem, Nat.reduceEqDiff, Nat.reduceAdd, Nat.reduceSub, Int.reduceAdd, Int.reduceSub, Int.reduceToNat]
       refine ⟨by (try simp (disch := omega) only [go_sem, List.length_set, Nat.reduceEqDiff, Nat.reduceAdd, Nat.reduceSub, Int.reduceAdd, Int.reduceSub, Int.reduceToNat]) <;> omega, hN _ (i + 1, (⟨w.a, w.b, (bag ++ [x]), p1, wA, wB, rA, rB, ⟨keys, tags⟩, nums, nsA, q1⟩ : WorldD)) [some (0, none), some (1, none), some (2, none), some (3, none), some (4, none), some (5, none), some (6, none), some (7, none), some (8, none), some (9, none), some (10, none), some (11, none), some (12, none), some (13, none), some (14, none), some (15, none), some (16, none), some (17, none), some (18, none), some (19, none), some (20, none), some (21, none), some (22, none), some (32, none), some (24, none), some (25, none), some (26, none), some (27, none), some (28, none), some (29, none)] (by (try dsimp only); exact ⟨by omega, rfl, rfl, hS1, hu⟩) (by (try dsimp only); omega) (weak_mkO (by rfl) (by rfl) ?_)⟩
       try simp (disch := omega) only [go_sem, Nat.reduceEqDiff, Nat.reduceAdd, Nat.reduceSub, Int.reduceAdd, Int.reduceSub, Int.reduceToNat]
       try simp [LetterD.cs]
      ·rw [bagP_f (by omega)] at hg1
       subst hg1
       try simp (disch := omega) only [go_sem, Nat.reduceEqDiff, Nat.reduceAdd, Nat.reduceSub, Int.reduceAdd, Int.reduceSub, Int.reduceToNat]
       refine ⟨by (try simp (disch := omega) only [go_sem, List.length_set, Nat.reduceEqDiff, Nat.reduceAdd, Nat.reduceSub, Int.reduceAdd, Int.reduceSub, Int.reduceToNat]) <;> omega, hN _ (i + 1, (⟨w.a, w.b, g1, p1, wA, wB, rA, rB, ⟨keys, tags⟩, nums, nsA, q1⟩ : WorldD)) [some (0, none), some (1, none), some (2, none), some (3, none), some (4, none), some (5, none), some (6, none), some (7, none), some (8, none), some (9, none), some (10, none), some (11, none), some (12, none), some (13, none), some (14, none), some (15, none), some (16, none), some (17, none), some (18, none), some (19, none), some (20, none), some (21, none), some (22, none), some (23, none), some (24, none), some (25, none), some (26, none), some (27, none), some (28, none), some (29, none)] (by (try dsimp only); exact ⟨by omega, rfl, rfl, hS1, hu⟩) (by (try dsimp only); omega) (weak_mkO (by rfl) (by rfl) ?_)⟩
       try simp (disch := omega) only [go_sem, Nat.reduceEqDiff, Nat.reduceAdd, Nat.reduceSub, Int.reduceAdd, Int.reduceSub, Int.reduceToNat]
end
section
open Go.RowKit

end
section
open Go.RowKit

theorem lands_0 {w : WorldD} {x : LetterD} (h : sideAt x.to = 0) : lands w x = w := by rw [lands, if_pos h]
theorem lands_1 {w : WorldD} {x : LetterD} (h : sideAt x.to = 1) : lands w x = postL 1 { w with a := (hear w.a x).1 } (hear w.a x).2 := by rw [lands, h]; rfl
theorem lands_2 {w : WorldD} {x : LetterD} (h : sideAt x.to = 2) : lands w x = postL 2 { w with b := (hear w.b x).1 } (hear w.b x).2 := by rw [lands, h]; rfl
structure SmallWP (w : WorldD) : Prop where
 s : SmallW w
 pa : SmallP w.a.inp
 pb : SmallP w.b.inp
theorem impl_Lands (w : WorldD) (x : LetterD) (hw : SmallWP w) : CallA Tryz.prog 50 [.ag (w.cs 0), .ag x.cs] (w.hp false) (.ag ((lands w x).cs 21)) (w.hp false ++ (lands w x).hp true) := by
 have hC := impl_copyWorld w hw.s
 have hS := impl_SideAt x.to
 obtain ⟨R, hR⟩ : ∃ R, R = lands w x := ⟨_, rfl⟩
 rw [← hR]
 rcases sideAt_12 x.to with h0 | h0 | h0
 ·rw [lands_0 h0] at hR
  subst hR
  rw [h0] at hS
  refine qEO Tryz.func50 Tryz.ntmps50 Tryz.results50 fun E hE => ?_
  refine qK (hC) (qA [0, 1, 2, 3, 4, 5, 6, 7, 8, 9, 10, 11, 12, 13, 14, 15, 16, 17, 18, 19, 20]) ?_
  refine qK (hS) [] ?_
  exact qFO (qA [0, 1, 2, 3, 4, 5, 6, 7, 8, 9, 10, 11, 12, 13, 14, 15, 16, 17, 18, 19, 20, 24, 25, 26, 27, 28, 29, 30, 31, 32, 33, 34, 35, 36, 37, 38, 39, 40, 41, 42, 43, 44])
 ·rw [lands_1 h0] at hR
  rw [h0] at hS
  have hEA : CallA Tryz.prog 38 [.ag (w.cs 0), .sc (.int .i64 1)] (w.hp false) (.ag (w.a.cs 21)) (w.hp false ++ w.a.hp true) := impl_EndAt w 1 hw.s.a.own hw.s.a.far hw.s.a.subs hw.s.a.halfs hw.s.a.list hw.s.a.done hw.s.a.over hw.s.b.own hw.s.b.far hw.s.b.subs hw.s.b.halfs hw.s.b.list hw.s.b.done hw.s.b.over
  have hH := impl_Hear w.a x hw.s.a hw.pa
  have hsm := hear_small (e := w.a) (x := x) hw.s.a
  have hone := hear_one (e := w.a) (x := x)
  obtain ⟨pr, hpr⟩ : ∃ p, p = hear w.a x := ⟨_, rfl⟩
  rw [← hpr] at hH hsm hone hR
  obtain ⟨e1, l1⟩ := pr
  dsimp only at hH hsm hone hR
  have hends := postL_ends (side := 1) (l := l1) (w := { w with a := e1 })
  rw [← hR] at hends
  have hset := impl_set1 w e1
  have hpost := impl_post1 { w with a := e1 } l1 ⟨hw.s.bag, hw.s.past, hw.s.keys, hw.s.tags, hw.s.nums, hw.s.ansA, hw.s.ansB⟩ (by omega)
  rw [← hR] at hpost
  clear hR hpr
  obtain ⟨ra, rb, bag, past, wA, wB, rA, rB, known, nums, nsA, nsB⟩ := R
  obtain ⟨keys, tags⟩ := known
  dsimp only at hends
  obtain ⟨g1, g2, g3, g4, g5, g6⟩ := hends
  replace g1 := g1.symm
  replace g2 := g2.symm
  replace g3 := g3.symm
  replace g4 := g4.symm
  replace g5 := g5.symm
  replace g6 := g6.symm
  subst g1 g2 g3 g4 g5 g6
  refine qEO Tryz.func50 Tryz.ntmps50 Tryz.results50 fun E hE => ?_
  refine qK (hC) (qA [0, 1, 2, 3, 4, 5, 6, 7, 8, 9, 10, 11, 12, 13, 14, 15, 16, 17, 18, 19, 20]) ?_
  refine qK (hS) [] ?_
  refine den_drawX [(2, 8), (4, 8)] [(2, 4)] [[0, 1, 3, 2, 4, 5, 6, 7, 8, 9, 10], [0, 1, 3, 2, 8, 4, 5, 6, 7, 9, 10], [0, 1, 3, 8, 2, 4, 5, 6, 7, 9, 10]] 21 hE (fun s => s.at [16, 17, 18, 19, 20, 21, 22, 23] [(7, .sc (.pt 61 0 0)), (8, .sc (.sl 60 0 l1.length))] (s.hp ++ (w.a.hp true ++ (e1.hp true ++ [some ⟨l1.map LetterD.cs, 19, 57, true, true⟩, some ⟨[e1.cs 53], 25, 41, true, false⟩])))) (by kernel_rfl) (qC) (by kernel_rfl) ?_ (run_den 400 ?_)
  rotate_left
  rotate_right
  simp only [allDn]
  refine ⟨runD_den 400 ?_, runD_den 400 ?_, runD_den 400 ?_⟩
  ·simp (disch := omega) only [go_sem, Nat.reduceEqDiff, Nat.reduceAdd, Nat.reduceSub, Int.reduceAdd, Int.reduceSub, Int.reduceToNat]
   refine qKD (hEA) (qA [0, 1, 2, 3, 4, 5, 6, 7, 8, 9, 10, 11, 12, 13, 14, 15, 16, 17, 18, 19, 20]) ?_
   refine qKD (hH) (qA [46, 47, 48, 49, 50, 51, 52]) ?_
   refine ⟨qC, (qA [0, 1, 2, 3, 4, 5, 6, 7, 8, 9, 10, 11, 12, 13, 14, 15, 16, 17, 18, 19, 20, 21, 22, 23, 24, 25, 26, 27, 28, 29, 30, 31, 32, 33, 34, 35, 36, 37, 38, 39, 40, 41, 42, 43, 44, 45, 46, 47, 48, 49, 50, 51, 52, 53, 54, 55, 56, 57, 58, 59, 60, 61]), weak_mkO (by rfl) (by rfl) ?_⟩
   try simp (disch := omega) only [go_sem, Nat.reduceEqDiff, Nat.reduceAdd, Nat.reduceSub, Int.reduceAdd, Int.reduceSub, Int.reduceToNat]
  ·simp (disch := omega) only [go_sem, Nat.reduceEqDiff, Nat.reduceAdd, Nat.reduceSub, Int.reduceAdd, Int.reduceSub, Int.reduceToNat]
   refine qKD (hEA) (qA [0, 1, 2, 3, 4, 5, 6, 7, 8, 9, 10, 11, 12, 13, 14, 15, 16, 17, 18, 19, 20]) ?_
   refine qKD (hH) (qA [46, 47, 48, 49, 50, 51, 52]) ?_
   refine ⟨qC, (qA [0, 1, 2, 3, 4, 5, 6, 7, 8, 9, 10, 11, 12, 13, 14, 15, 16, 17, 18, 19, 20, 21, 22, 23, 24, 25, 26, 27, 28, 29, 30, 31, 32, 33, 34, 35, 36, 37, 38, 39, 40, 41, 42, 43, 44, 45, 46, 47, 48, 49, 50, 51, 52, 54, 55, 56, 57, 58, 59, 60, 61, 53]), weak_mkO (by rfl) (by rfl) ?_⟩
   try simp (disch := omega) only [go_sem, Nat.reduceEqDiff, Nat.reduceAdd, Nat.reduceSub, Int.reduceAdd, Int.reduceSub, Int.reduceToNat]
  ·simp (disch := omega) only [go_sem, Nat.reduceEqDiff, Nat.reduceAdd, Nat.reduceSub, Int.reduceAdd, Int.reduceSub, Int.reduceToNat]
   refine qKD (hEA) (qA [0, 1, 2, 3, 4, 5, 6, 7, 8, 9, 10, 11, 12, 13, 14, 15, 16, 17, 18, 19, 20]) ?_
   refine qKD (hH) (qA [47, 48, 49, 50, 51, 52, 53]) ?_
   refine ⟨qC, (qA [0, 1, 2, 3, 4, 5, 6, 7, 8, 9, 10, 11, 12, 13, 14, 15, 16, 17, 18, 19, 20, 21, 22, 23, 24, 25, 26, 27, 28, 29, 30, 31, 32, 33, 34, 35, 36, 37, 38, 39, 40, 41, 42, 43, 44, 45, 47, 48, 49, 50, 51, 52, 53, 54, 55, 56, 57, 58, 59, 60, 61, 46]), weak_mkO (by rfl) (by rfl) ?_⟩
   try simp (disch := omega) only [go_sem, Nat.reduceEqDiff, Nat.reduceAdd, Nat.reduceSub, Int.reduceAdd, Int.reduceSub, Int.reduceToNat]
  refine qX ?_
  refine qK (hset) (qA [24, 25, 26, 27, 28, 29, 30, 31, 32, 33, 34, 35, 36, 37, 38, 39, 40, 41, 42, 43, 44, 53, 54, 55, 56, 57, 58, 59, 45]) ?_
  refine qK (hpost) (qA [53, 54, 55, 56, 57, 58, 59, 31, 32, 33, 34, 35, 36, 37, 38, 39, 40, 41, 42, 43, 44, 45, 60]) ?_
  exact qFO (qA [0, 1, 2, 3, 4, 5, 6, 7, 8, 9, 10, 11, 12, 13, 14, 15, 16, 17, 18, 19, 20, 53, 54, 55, 56, 57, 58, 59, 31, 32, 33, 34, 35, 36, 37, 62, 63, 64, 65, 66, 67, 68])
 ·rw [lands_2 h0] at hR
  rw [h0] at hS
  have hEA : CallA Tryz.prog 38 [.ag (w.cs 0), .sc (.int .i64 2)] (w.hp false) (.ag (w.b.cs 21)) (w.hp false ++ w.b.hp true) := impl_EndAt w 2 hw.s.a.own hw.s.a.far hw.s.a.subs hw.s.a.halfs hw.s.a.list hw.s.a.done hw.s.a.over hw.s.b.own hw.s.b.far hw.s.b.subs hw.s.b.halfs hw.s.b.list hw.s.b.done hw.s.b.over
  have hH := impl_Hear w.b x hw.s.b hw.pb
  have hsm := hear_small (e := w.b) (x := x) hw.s.b
  have hone := hear_one (e := w.b) (x := x)
  obtain ⟨pr, hpr⟩ : ∃ p, p = hear w.b x := ⟨_, rfl⟩
  rw [← hpr] at hH hsm hone hR
  obtain ⟨e1, l1⟩ := pr
  dsimp only at hH hsm hone hR
  have hends := postL_ends (side := 2) (l := l1) (w := { w with b := e1 })
  rw [← hR] at hends
  have hset := impl_set2 w e1
  have hpost := impl_post2 { w with b := e1 } l1 ⟨hw.s.bag, hw.s.past, hw.s.keys, hw.s.tags, hw.s.nums, hw.s.ansA, hw.s.ansB⟩ (by omega)
  rw [← hR] at hpost
  clear hR hpr
  obtain ⟨ra, rb, bag, past, wA, wB, rA, rB, known, nums, nsA, nsB⟩ := R
  obtain ⟨keys, tags⟩ := known
  dsimp only at hends
  obtain ⟨g1, g2, g3, g4, g5, g6⟩ := hends
  replace g1 := g1.symm
  replace g2 := g2.symm
  replace g3 := g3.symm
  replace g4 := g4.symm
  replace g5 := g5.symm
  replace g6 := g6.symm
  subst g1 g2 g3 g4 g5 g6
  refine qEO Tryz.func50 Tryz.ntmps50 Tryz.results50 fun E hE => ?_
  refine qK (hC) (qA [0, 1, 2, 3, 4, 5, 6, 7, 8, 9, 10, 11, 12, 13, 14, 15, 16, 17, 18, 19, 20]) ?_
  refine qK (hS) [] ?_
  refine den_drawX [(2, 8), (4, 8)] [(2, 4)] [[0, 1, 3, 2, 4, 5, 6, 7, 8, 9, 10], [0, 1, 3, 2, 8, 4, 5, 6, 7, 9, 10], [0, 1, 3, 8, 2, 4, 5, 6, 7, 9, 10]] 21 hE (fun s => s.at [16, 17, 18, 19, 20, 21, 22, 23] [(7, .sc (.pt 61 0 0)), (8, .sc (.sl 60 0 l1.length))] (s.hp ++ (w.b.hp true ++ (e1.hp true ++ [some ⟨l1.map LetterD.cs, 19, 57, true, true⟩, some ⟨[e1.cs 53], 25, 41, true, false⟩])))) (by kernel_rfl) (qC) (by kernel_rfl) ?_ (run_den 400 ?_)
  rotate_left
  rotate_right
  simp only [allDn]
  refine ⟨runD_den 400 ?_, runD_den 400 ?_, runD_den 400 ?_⟩
  ·simp (disch := omega) only [go_sem, Nat.reduceEqDiff, Nat.reduceAdd, Nat.reduceSub, Int.reduceAdd, Int.reduceSub, Int.reduceToNat]
   refine qKD (hEA) (qA [0, 1, 2, 3, 4, 5, 6, 7, 8, 9, 10, 11, 12, 13, 14, 15, 16, 17, 18, 19, 20]) ?_
   refine qKD (hH) (qA [46, 47, 48, 49, 50, 51, 52]) ?_
   refine ⟨qC, (qA [0, 1, 2, 3, 4, 5, 6, 7, 8, 9, 10, 11, 12, 13, 14, 15, 16, 17, 18, 19, 20, 21, 22, 23, 24, 25, 26, 27, 28, 29, 30, 31, 32, 33, 34, 35, 36, 37, 38, 39, 40, 41, 42, 43, 44, 45, 46, 47, 48, 49, 50, 51, 52, 53, 54, 55, 56, 57, 58, 59, 60, 61]), weak_mkO (by rfl) (by rfl) ?_⟩
   try simp (disch := omega) only [go_sem, Nat.reduceEqDiff, Nat.reduceAdd, Nat.reduceSub, Int.reduceAdd, Int.reduceSub, Int.reduceToNat]
  ·simp (disch := omega) only [go_sem, Nat.reduceEqDiff, Nat.reduceAdd, Nat.reduceSub, Int.reduceAdd, Int.reduceSub, Int.reduceToNat]
   refine qKD (hEA) (qA [0, 1, 2, 3, 4, 5, 6, 7, 8, 9, 10, 11, 12, 13, 14, 15, 16, 17, 18, 19, 20]) ?_
   refine qKD (hH) (qA [46, 47, 48, 49, 50, 51, 52]) ?_
   refine ⟨qC, (qA [0, 1, 2, 3, 4, 5, 6, 7, 8, 9, 10, 11, 12, 13, 14, 15, 16, 17, 18, 19, 20, 21, 22, 23, 24, 25, 26, 27, 28, 29, 30, 31, 32, 33, 34, 35, 36, 37, 38, 39, 40, 41, 42, 43, 44, 45, 46, 47, 48, 49, 50, 51, 52, 54, 55, 56, 57, 58, 59, 60, 61, 53]), weak_mkO (by rfl) (by rfl) ?_⟩
   try simp (disch := omega) only [go_sem, Nat.reduceEqDiff, Nat.reduceAdd, Nat.reduceSub, Int.reduceAdd, Int.reduceSub, Int.reduceToNat]
  ·simp (disch := omega) only [go_sem, Nat.reduceEqDiff, Nat.reduceAdd, Nat.reduceSub, Int.reduceAdd, Int.reduceSub, Int.reduceToNat]
   refine qKD (hEA) (qA [0, 1, 2, 3, 4, 5, 6, 7, 8, 9, 10, 11, 12, 13, 14, 15, 16, 17, 18, 19, 20]) ?_
   refine qKD (hH) (qA [47, 48, 49, 50, 51, 52, 53]) ?_
   refine ⟨qC, (qA [0, 1, 2, 3, 4, 5, 6, 7, 8, 9, 10, 11, 12, 13, 14, 15, 16, 17, 18, 19, 20, 21, 22, 23, 24, 25, 26, 27, 28, 29, 30, 31, 32, 33, 34, 35, 36, 37, 38, 39, 40, 41, 42, 43, 44, 45, 47, 48, 49, 50, 51, 52, 53, 54, 55, 56, 57, 58, 59, 60, 61, 46]), weak_mkO (by rfl) (by rfl) ?_⟩
   try simp (disch := omega) only [go_sem, Nat.reduceEqDiff, Nat.reduceAdd, Nat.reduceSub, Int.reduceAdd, Int.reduceSub, Int.reduceToNat]
  refine qX ?_
  refine qK (hset) (qA [24, 25, 26, 27, 28, 29, 30, 31, 32, 33, 34, 35, 36, 37, 38, 39, 40, 41, 42, 43, 44, 53, 54, 55, 56, 57, 58, 59, 45]) ?_
  refine qK (hpost) (qA [24, 25, 26, 27, 28, 29, 30, 53, 54, 55, 56, 57, 58, 59, 38, 39, 40, 41, 42, 43, 44, 45, 60]) ?_
  exact qFO (qA [0, 1, 2, 3, 4, 5, 6, 7, 8, 9, 10, 11, 12, 13, 14, 15, 16, 17, 18, 19, 20, 24, 25, 26, 27, 28, 29, 30, 53, 54, 55, 56, 57, 58, 59, 62, 63, 64, 65, 66, 67, 68])
end
section
open Go.RowKit

theorem accN_val {o : OutD} {t : List UInt8} (h : FineO o) : (if o.room - (o.text.length : Int) < (t.length : Int) then o.room - (o.text.length : Int) else (t.length : Int)) = (accN o t : Int) := by
 have := h.len
 rw [accN]
 split <;> omega
theorem accN_room {o : OutD} {t : List UInt8} (h : FineO o) : (accN o t : Int) ≤ o.room - (o.text.length : Int) := by
 have := h.len
 rw [accN]; omega
theorem impl_Accept (o : OutD) (t : List UInt8) (ht : t.length ≤ 1048576) : CallA Tryz.prog 75 [.ag o.cs, .sc (.st t)] [] (.tu [.ag (accept o t).1.cs, .sc (.int .i64 ((accept o t).2 : Nat))]) [] := by
 have hf := accept_f (o := o) (t := t)
 have htt := accept_t (o := o) (t := t)
 have hK := impl_OutOk o
 generalize accept o t = R at *
 refine qE Tryz.func75 Tryz.ntmps75 Tryz.results75 fun E hE => ?_
 refine qK (hK) [] ?_
 refine qB (fun b1 => ?_) fun b1 => ?_
 ·rw [hf (by simp [accOk, b1])]
  refine qX ?_
  exact qF []
 ·have F := outOk_fine b1
  have f1 := F.base
  have f2 := F.room
  have f3 := F.len
  have f4 := F.sent
  have hm := accN_val (t := t) F
  have hr := accN_room (t := t) F
  have hle := accN_le o t
  have htl : (t.take (accN o t)).length = accN o t := by rw [List.length_take]; omega
  have htt2 : (t.take t.length).length = t.length := by simp
  try simp (disch := omega) only [go_sem, Nat.reduceEqDiff, Nat.reduceAdd, Nat.reduceSub, Int.reduceAdd, Int.reduceSub, Int.reduceToNat, hm]
  refine qB (fun b2 => ?_) fun b2 => ?_
  ·rw [hf (by simp only [accOk, b1, Bool.true_and, decide_eq_false_iff_not]; omega)]
   refine qX ?_
   exact qF []
  ·rw [htt (by simp only [accOk, b1, Bool.true_and, decide_eq_true_eq]; omega)]
   refine qX ?_
   refine qD [0, 1, 2, 3, 4, 5, 6, 7] ?_
   refine qG ?_
   exact qF []
theorem npText_len {o : OutD} (F : FineO o) : (npText o).length ≤ 20 ∧ ((npText o).length : Int) ≤ o.base + (o.text.length : Int) - o.sent := by
 have := F.sent
 simp only [npText, List.length_take, List.length_drop]
 omega
theorem impl_NextPiece (o : OutD) (ho : o.text.length ≤ 1048576) : CallA Tryz.prog 125 [.ag o.cs] [] (.tu [.ag (nextPiece o).1.cs, .sc (.bo (nextPiece o).2)]) [] := by
 have hf := np_f (o := o)
 have ht := np_t (o := o)
 have hK := impl_OutOk o
 generalize nextPiece o = R at *
 refine qE Tryz.func125 Tryz.ntmps125 Tryz.results125 fun E hE => ?_
 refine qK (hK) [] ?_
 refine qB (fun b1 => ?_) fun b1 => ?_
 ·have F := outOk_fine b1
  have f1 := F.base
  have f2 := F.room
  have f3 := F.len
  obtain ⟨k, hk⟩ : ∃ k : Nat, o.sent - o.base = (k : Int) := ⟨(o.sent - o.base).toNat, by have := F.sent; omega⟩
  have f4 := F.sent
  refine qX ?_
  refine qB (fun b2 => ?_) fun b2 => ?_
  ·rw [hf (by simp [npOk, b2])]
   refine qX ?_
   exact qF []
  ·have hnt : npText o = (o.text.drop k).take 20 := by rw [npText, hk, Int.toNat_natCast]
   rw [ht (by simp [npOk, b1]; omega), hnt]
   try simp (disch := omega) only [go_sem, Nat.reduceEqDiff, Nat.reduceAdd, Nat.reduceSub, Int.reduceAdd, Int.reduceSub, Int.reduceToNat, hk]
   refine qD [0, 1, 2, 3, 4, 5, 6, 7, 8, 9] ?_
   refine ⟨qC, run_den 400 ?_⟩
   by_cases h5 : ((o.text.drop k).length : Int) < 20
   ·have h6 : (o.text.drop k).take 20 = o.text.drop k := List.take_of_length_le (by omega)
    rw [h6]
    simp only [List.length_drop] at h5
    try simp (disch := omega) only [go_sem, Nat.reduceEqDiff, Nat.reduceAdd, Nat.reduceSub, Int.reduceAdd, Int.reduceSub, Int.reduceToNat, h5]
    refine den_fin [] (qC) _ (by simp only [go_sem]; rfl) (by rfl) (by rfl) ?_
    simp (disch := omega) only [go_sem, Nat.reduceEqDiff, Nat.reduceAdd, Nat.reduceSub, Int.reduceAdd, Int.reduceSub, Int.reduceToNat]
    try simp [h5, h6]
    try exact List.take_of_length_le (by simp)
   ·simp only [List.length_drop] at h5
    try simp (disch := omega) only [go_sem, Nat.reduceEqDiff, Nat.reduceAdd, Nat.reduceSub, Int.reduceAdd, Int.reduceSub, Int.reduceToNat, h5]
    refine den_fin [] (qC) _ (by simp only [go_sem]; rfl) (by rfl) (by rfl) ?_
    simp (disch := omega) only [go_sem, Nat.reduceEqDiff, Nat.reduceAdd, Nat.reduceSub, Int.reduceAdd, Int.reduceSub, Int.reduceToNat]
    try simp [h5]
 ·rw [hf (by simp [npOk, b1])]
  refine qX ?_
  exact qF []
theorem impl_Anew (o : OutD) : CallA Tryz.prog 80 [.ag o.cs] [] (.ag (anew o).cs) [] := by
 have hK := impl_OutOk o
 obtain ⟨R, hR⟩ : ∃ R, R = anew o := ⟨_, rfl⟩
 rw [← hR]
 refine qE Tryz.func80 Tryz.ntmps80 Tryz.results80 fun E hE => ?_
 refine qK (hK) [] ?_
 refine qB (fun b1 => ?_) fun b1 => ?_
 ·rw [anew, if_pos b1] at hR
  subst hR
  refine qX ?_
  exact qF []
 ·rw [anew, if_neg (by simp [b1])] at hR
  subst hR
  refine qX ?_
  exact qF []

theorem impl_WasSent (o : OutD) (ho : o.text.length ≤ 1048576) (h : npOk o = true) : CallA Tryz.prog 127 [.ag o.cs] [] (.ag (OutD.cs { o with sent := o.sent + ((npText o).length : Int) })) [] := by
 have hN := impl_NextPiece o ho
 rw [np_t h] at hN
 have F := outOk_fine (by simp only [npOk, Bool.and_eq_true] at h; exact h.1 : outOk o = true)
 have hl := npText_len F
 have f1 := F.base
 have f2 := F.room
 have f3 := F.len
 have f4 := F.sent
 refine qE Tryz.func127 Tryz.ntmps127 Tryz.results127 fun E hE => ?_
 refine qK (hN) [] ?_
 exact qF []
end
section
open Go.RowKit

theorem tkN_val {p : PiecesD} {m : Int} (h : 0 ≤ m) : (if (p.ready.length : Int) < m then (p.ready.length : Int) else m) = (tkN p m : Int) := by
 rw [tkN]
 split <;> omega
theorem tkN_le {p : PiecesD} {m : Int} : tkN p m ≤ p.ready.length := Nat.min_le_right _ _
theorem impl_TakeReady (p : PiecesD) (m : Int) (hs : SmallP p) : CallA Tryz.prog 77 [.ag (p.cs 0), .sc (.int .i64 m)] (p.hp false) (.tu [.ag ((takeReady p m).1.cs 1), .sc (.st (takeReady p m).2)]) (p.hp false ++ (takeReady p m).1.hp true) := by
 have hf := tk_f (p := p) (m := m)
 have ht := tk_t (p := p) (m := m)
 have hC := impl_copyPieces p hs.list
 have hK := impl_PiecesOk p hs.list
 generalize takeReady p m = R at *
 refine qEO Tryz.func77 Tryz.ntmps77 Tryz.results77 fun E hE => ?_
 refine qK (hC) (qA [0]) ?_
 refine qK (hK) (qA [0]) ?_
 refine qB (fun b1 => ?_) fun b1 => ?_
 ·have F := piecesOk_fine b1 hs
  have f0 := F.r0
  have f1 := F.r1
  have f2 := F.ready
  refine qB (fun b2 => ?_) fun b2 => ?_
  ·rw [hf (by simp only [tkOk, Bool.and_eq_false_iff, decide_eq_false_iff_not]; omega)]
   refine qX ?_
   exact qFO (qA [0, 3])
  ·have hm := tkN_val (p := p) (m := m) (by omega)
   have hle := tkN_le (p := p) (m := m)
   have hok : tkOk p m = decide (p.read + (tkN p m : Int) ≤ 1000000000) := by rw [tkOk, b1, decide_eq_true (show 0 ≤ m by omega)]; rfl
   generalize tkN p m = N at *
   try simp (disch := omega) only [go_sem, Nat.reduceEqDiff, Nat.reduceAdd, Nat.reduceSub, Int.reduceAdd, Int.reduceSub, Int.reduceToNat, hm]
   refine qB (fun b3 => ?_) fun b3 => ?_
   ·rw [hf (by rw [hok]; simp; omega)]
    refine qX ?_
    exact qFO (qA [0, 3])
   ·rw [ht (by rw [hok]; simp; omega)]
    refine qX ?_
    refine den_drawX [(2, 5), (4, 5)] [(2, 4)] [[0, 1, 3, 2, 4, 5, 6], [0, 1, 3, 2, 5, 4, 6], [0, 1, 3, 5, 2, 4, 6]] 1 hE (fun s => s.at [39, 40, 41, 42, 43] [(5, .sc (.st (p.ready.take N)))] (s.hp.set 2 (some ⟨[[.int .i64 (p.read + (N : Int)), .st (p.ready.drop N), .sl 3 0 p.list.length]], 3, 38, true, false⟩))) (by kernel_rfl) (qC) (by kernel_rfl) ?_ (run_den 400 ?_)
    rotate_left
    rotate_right
    simp only [allDn]
    refine ⟨runD_den 400 ?_, runD_den 400 ?_, runD_den 400 ?_⟩
    ·simp (disch := omega) only [go_sem]
     refine ⟨qC, (qA [0, 1, 2, 3, 4]), weak_mkO (by rfl) (by rfl) ?_⟩
     try simp (disch := omega) only [go_sem, Nat.reduceEqDiff, Nat.reduceAdd, Nat.reduceSub, Int.reduceAdd, Int.reduceSub, Int.reduceToNat]
    ·simp (disch := omega) only [go_sem]
     refine ⟨qC, (qA [0, 1, 2, 3, 4]), weak_mkO (by rfl) (by rfl) ?_⟩
     try simp (disch := omega) only [go_sem, Nat.reduceEqDiff, Nat.reduceAdd, Nat.reduceSub, Int.reduceAdd, Int.reduceSub, Int.reduceToNat]
    ·simp (disch := omega) only [go_sem]
     refine ⟨qC, (qA [0, 1, 2, 3, 4]), weak_mkO (by rfl) (by rfl) ?_⟩
     try simp (disch := omega) only [go_sem, Nat.reduceEqDiff, Nat.reduceAdd, Nat.reduceSub, Int.reduceAdd, Int.reduceSub, Int.reduceToNat]
    refine qX ?_
    exact qFO (qA [0, 3])
 ·rw [hf (by simp [tkOk, b1])]
  refine qX ?_
  exact qFO (qA [0, 3])
theorem impl_Write (e : EndD) (t : List UInt8) (hs : Small e) (ht : t.length ≤ 1048576) : CallA Tryz.prog 39 [.ag (e.cs 0), .sc (.st t)] (e.hp false) (.tu [.ag ((write e t).1.cs 7), .sc (.int .i64 ((write e t).2 : Nat))]) (e.hp false ++ (write e t).1.hp true) := by
 have hC := impl_copyEnd e (by have := hs.own; omega) (by have := hs.far; omega) (by have := hs.subs; omega) (by have := hs.halfs; omega) (by have := hs.list; omega) (by have := hs.done; omega) (by have := hs.over; omega)
 have hK := impl_EndOk e (by have := hs.own; omega) (by have := hs.far; omega) (by have := hs.subs; omega) (by have := hs.halfs; omega) (by have := hs.list; omega) (by have := hs.done; omega) (by have := hs.over; omega)
 have hA := impl_Accept e.out t ht
 have hf := write_f (e := e) (t := t)
 have htt := write_t (e := e) (t := t)
 generalize write e t = R at *
 refine qE Tryz.func39 Tryz.ntmps39 Tryz.results39 fun E hE => ?_
 refine qK (hC) (qA [0, 1, 2, 3, 4, 5, 6]) ?_
 refine qK (hK) (qA [0, 1, 2, 3, 4, 5, 6]) ?_
 refine qB (fun b1 => ?_) fun b1 => ?_
 ·rw [hf b1]
  refine qX ?_
  exact qF (qA [0, 1, 2, 3, 4, 5, 6, 9, 10, 11, 12, 13, 14, 15])
 ·rw [htt b1]
  refine qX ?_
  refine qK (hA) [] ?_
  exact qF (qA [0, 1, 2, 3, 4, 5, 6, 9, 10, 11, 12, 13, 14, 15])
theorem impl_Read (e : EndD) (m : Int) (hs : Small e) (hsp : SmallP e.inp) : CallA Tryz.prog 41 [.ag (e.cs 0), .sc (.int .i64 m)] (e.hp false) (.tu [.ag ((readE e m).1.cs 7), .sc (.st (readE e m).2)]) (e.hp false ++ (readE e m).1.hp true) := by
 have hC := impl_copyEnd e (by have := hs.own; omega) (by have := hs.far; omega) (by have := hs.subs; omega) (by have := hs.halfs; omega) (by have := hs.list; omega) (by have := hs.done; omega) (by have := hs.over; omega)
 have hK := impl_EndOk e (by have := hs.own; omega) (by have := hs.far; omega) (by have := hs.subs; omega) (by have := hs.halfs; omega) (by have := hs.list; omega) (by have := hs.done; omega) (by have := hs.over; omega)
 have hA := impl_TakeReady e.inp m hsp
 have hf := readE_f (e := e) (m := m)
 have htt := readE_t (e := e) (m := m)
 generalize readE e m = R at *
 refine qE Tryz.func41 Tryz.ntmps41 Tryz.results41 fun E hE => ?_
 refine qK (hC) (qA [0, 1, 2, 3, 4, 5, 6]) ?_
 refine qK (hK) (qA [0, 1, 2, 3, 4, 5, 6]) ?_
 refine qB (fun b1 => ?_) fun b1 => ?_
 ·rw [hf b1]
  refine qX ?_
  exact qF (qA [0, 1, 2, 3, 4, 5, 6, 9, 10, 11, 12, 13, 14, 15])
 ·rw [htt b1]
  refine qX ?_
  refine qK (hA) (qA [4]) ?_
  exact qF (qA [0, 1, 2, 3, 4, 5, 6, 9, 10, 11, 12, 17, 14, 15])
end
section
open Go.RowKit

theorem push_small {e : EndD} (hs : Small e) : Small (push e).1 := by
 rw [push]; split
 ·exact ⟨hs.own, hs.far, hs.subs, hs.halfs, hs.list, hs.done, hs.over⟩
 ·exact hs
theorem push_one (e : EndD) : (push e).2.length ≤ 1 := by
 rw [push]; split <;> simp
theorem push_inp (e : EndD) : (push e).1.inp = e.inp := by
 rw [push]; split <;> rfl
theorem push_text (e : EndD) : (push e).1.out.text = e.out.text := by
 rw [push]; split
 ·dsimp only; rw [wasSent]; split <;> rfl
 ·rfl
theorem impl_Push (e : EndD) (hs : Small e) (ht : e.out.text.length ≤ 1048576) : CallA Tryz.prog 106 [.ag (e.cs 0)] (e.hp false) (.tu [.ag ((push e).1.cs 7), .sc (.sl 14 0 (push e).2.length)])
  (e.hp false ++ ((push e).1.hp true ++ [some ⟨(push e).2.map LetterD.cs, 19, 57, true, true⟩])) := by
 have hC := impl_copyEnd e (by have := hs.own; omega) (by have := hs.far; omega) (by have := hs.subs; omega) (by have := hs.halfs; omega) (by have := hs.list; omega) (by have := hs.done; omega) (by have := hs.over; omega)
 have hN := impl_NextPiece e.out ht
 have hX := impl_NextSub e (by have := hs.own; omega) (by have := hs.far; omega) (by have := hs.subs; omega) (by have := hs.halfs; omega) (by have := hs.list; omega) (by have := hs.done; omega) (by have := hs.over; omega)
 have hf := push_f (e := e)
 have hpt := @push_t e
 have hpk : npOk e.out = true → nextPiece e.out = (⟨e.out.sent, npText e.out⟩, true) := np_t
 have hpf : npOk e.out = false → nextPiece e.out = (⟨0, []⟩, false) := np_f
 have hW := fun h => impl_WasSent e.out ht h
 have hcase := nextSub_cases e
 have hpo : pushOk e = (npOk e.out && decide (0 ≤ nextSub e)) := rfl
 have hpick : 0 ≤ nextSub e → 0 ≤ e.pick ∧ e.pick ≤ 1000000000 := fun h => by
  rw [nextSub] at h
  split at h
  ·rename_i hh; exact endOk_pick hh.1
  ·omega
 generalize push e = R at *
 generalize nextPiece e.out = np at *
 obtain ⟨⟨npos, ntext⟩, nok⟩ := np
 refine qEO Tryz.func106 Tryz.ntmps106 Tryz.results106 fun E hE => ?_
 refine qK (hC) (qA [0, 1, 2, 3, 4, 5, 6]) ?_
 refine qK (hN) [] ?_
 refine qK (hX) (qA [0, 1, 2, 3, 4, 5, 6]) ?_
 by_cases h1 : npOk e.out = true ∧ 0 ≤ nextSub e
 ·obtain ⟨h1, h2⟩ := h1
  have hok : nok = true := by have := hpk h1; simp only [Prod.mk.injEq] at this; exact this.2
  have hps : npos = e.out.sent := by have := hpk h1; simp only [Prod.mk.injEq, PieceD.mk.injEq] at this; exact this.1.1
  have htx : ntext = npText e.out := by have := hpk h1; simp only [Prod.mk.injEq, PieceD.mk.injEq] at this; exact this.1.2
  subst hok hps htx
  have hW := hW h1
  have hpick := hpick (by omega)
  obtain ⟨n, hn, hk⟩ : ∃ m : Nat, m < e.subs.length ∧ nextSub e = (m : Int) := by rcases hcase with h | h; omega; exact h
  rw [hpt (by rw [hpo, h1, decide_eq_true (by omega)]; rfl) hk hn]
  have hg := map_get (enc := SubD.cs) hn
  generalize nextSub e = z at *
  subst hk
  refine qX ?_
  refine qK (hW) [] ?_
  refine qK (impl_nextPick e.pick (by simp only [I64]; omega)) [] ?_
  try simp (disch := omega) only [go_sem, Nat.reduceEqDiff, Nat.reduceAdd, Nat.reduceSub, Int.reduceAdd, Int.reduceSub, Int.reduceToNat, hg]
  refine den_drawX [(11, 12)] [] [[0, 1, 2, 3, 4, 5, 6, 7, 8, 9, 10, 11, 12, 13], [0, 1, 2, 3, 4, 5, 6, 7, 8, 9, 10, 12, 11, 13]] 7 hE (fun s => s.at [39, 40, 41, 42, 43, 44, 45, 46, 47, 48, 49, 50] [(3, .sc (.sl 19 0 1))] ((s.hp.set 8 (some ⟨[[.int .i64 e.side, .int .i64 e.state, .int .i64 e.key, .int .i64 e.peer, .int .i64 e.policy.kind, .int .i64 e.policy.many, .sl 9 0 e.own.length, .sl 10 0 e.far.length, .sl 11 0 e.subs.length, .sl 12 0 e.halfs.length, .int .i64 e.bucket.rate, .int .i64 e.bucket.burst, .int .i64 e.bucket.cur, .st e.out.text, .int .i64 e.out.base, .int .i64 (e.out.sent + ((npText e.out).length : Int)), .int .i64 e.out.room, .int .i64 e.inp.read, .st e.inp.ready, .sl 13 0 e.inp.list.length, .sl 14 0 e.done.length, .sl 15 0 e.over.length, .int .i64 e.draw, .int .i64 e.now, .int .i64 (pickOn e.pick)]], 25, 41, true, false⟩)) ++ [some ⟨[(dataL e.subs[n] e.out).cs], 19, 57, true, true⟩])) (by kernel_rfl) (qC) (by kernel_rfl) ?_ (run_den 400 ?_)
  rotate_left
  rotate_right
  simp only [allDn]
  refine ⟨runD_den 400 ?_, runD_den 400 ?_⟩
  ·simp (disch := omega) only [go_sem]
   refine qKD (impl_Between e.subs[n].road { letNone with kind := 11, sgn := e.subs[n].give, pos := e.out.sent, text := npText e.out }) [] ?_
   refine ⟨qC, (qA [0, 1, 2, 3, 4, 5, 6, 7, 8, 9, 10, 11, 12, 13, 14, 15, 16, 17, 18, 19]), weak_mkO (by rfl) (by rfl) ?_⟩
   try simp (disch := omega) only [go_sem, Nat.reduceEqDiff, Nat.reduceAdd, Nat.reduceSub, Int.reduceAdd, Int.reduceSub, Int.reduceToNat]
   try rfl
  ·simp (disch := omega) only [go_sem]
   refine qKD (impl_Between e.subs[n].road { letNone with kind := 11, sgn := e.subs[n].give, pos := e.out.sent, text := npText e.out }) [] ?_
   refine ⟨qC, (qA [0, 1, 2, 3, 4, 5, 6, 7, 8, 9, 10, 11, 12, 13, 14, 15, 16, 17, 18, 19]), weak_mkO (by rfl) (by rfl) ?_⟩
   try simp (disch := omega) only [go_sem, Nat.reduceEqDiff, Nat.reduceAdd, Nat.reduceSub, Int.reduceAdd, Int.reduceSub, Int.reduceToNat]
   try rfl
  refine qX ?_
  exact qFO (qA [0, 1, 2, 3, 4, 5, 6, 9, 10, 11, 12, 13, 14, 15, 19])
 ·have hpn : pushOk e = false := by
   rw [hpo]
   by_cases h3 : npOk e.out = true
   ·rw [h3, decide_eq_false (fun h => h1 ⟨h3, h⟩)]; rfl
   ·rw [Bool.not_eq_true] at h3; rw [h3]; rfl
  rw [hf hpn]
  have hno : nok = false ∨ nextSub e = -1 := by
   by_cases h3 : npOk e.out = true
   ·right; rcases hcase with h | ⟨m, _, h⟩
    ·exact h
    ·exact absurd ⟨h3, by omega⟩ h1
   ·left; have := hpf (by simpa using h3); simp only [Prod.mk.injEq] at this; exact this.2
  rcases hno with hno | hno
  ·subst hno
   refine qX ?_
   exact qFO [some (0, none), some (1, none), some (2, none), some (3, none), some (4, none), some (5, none), some (6, none), some (9, none), some (10, none), some (11, none), some (12, none), some (13, none), some (14, none), some (15, none), none]
  ·rw [hno] at *
   cases nok with
   | false =>
    refine qX ?_
    exact qFO [some (0, none), some (1, none), some (2, none), some (3, none), some (4, none), some (5, none), some (6, none), some (9, none), some (10, none), some (11, none), some (12, none), some (13, none), some (14, none), some (15, none), none]
   | true =>
    refine qX ?_
    exact qFO [some (0, none), some (1, none), some (2, none), some (3, none), some (4, none), some (5, none), some (6, none), some (9, none), some (10, none), some (11, none), some (12, none), some (13, none), some (14, none), some (15, none), none]
end
section
open Go.RowKit

theorem pushN_step {n : Nat} {e : EndD} (h : n < 3) : pushN (3 - n) e = ((pushN (3 - (n + 1)) (push e).1).1, (push e).2 ++ (pushN (3 - (n + 1)) (push e).1).2) := by
 rw [show 3 - n = (3 - (n + 1)) + 1 by omega]; rfl
theorem pushN_small : ∀ {k : Nat} {e : EndD}, Small e → Small (pushN k e).1
 | 0, _, h => h
 | k + 1, e, h => pushN_small (k := k) (push_small h)
theorem pushN_inp : ∀ {k : Nat} {e : EndD}, (pushN k e).1.inp = e.inp
 | 0, _ => rfl
 | k + 1, e => by rw [show (pushN (k + 1) e).1 = (pushN k (push e).1).1 from rfl, pushN_inp, push_inp]
theorem pushN_text : ∀ {k : Nat} {e : EndD}, (pushN k e).1.out.text = e.out.text
 | 0, _ => rfl
 | k + 1, e => by rw [show (pushN (k + 1) e).1 = (pushN k (push e).1).1 from rfl, pushN_text, push_text]
theorem pushN_len : ∀ {k : Nat} {e : EndD}, (pushN k e).2.length ≤ k
 | 0, _ => Nat.le_refl _
 | k + 1, e => by
  have h1 := push_one e
  have h2 := pushN_len (k := k) (e := (push e).1)
  rw [show (pushN (k + 1) e).2 = (push e).2 ++ (pushN k (push e).1).2 from rfl, List.length_append]
  omega
theorem impl_pushSome (e : EndD) (hs : Small e) (ht : e.out.text.length ≤ 1048576) : CallA Tryz.prog 76 [.ag (e.cs 0)] (e.hp true) (.tu [.ag ((pushN 3 e).1.cs 7), .sc (.sl 14 0 (pushN 3 e).2.length)])
  ([none, none, none, none, none, none, none] ++ ((pushN 3 e).1.hp true ++ [some ⟨(pushN 3 e).2.map LetterD.cs, 19, 57, true, true⟩])) := by
 obtain ⟨R, hR⟩ : ∃ R, R = pushN 3 e := ⟨_, rfl⟩
 rw [← hR]
 refine qEO Tryz.func76 Tryz.ntmps76 Tryz.results76 fun E hE => ?_
 refine den_lpO 7 hE (fun s (y : Nat × EndD × List LetterD) => s.at [0, 6, 7, 8, 9, 10, 11, 12, 13, 14, 15, 16, 17, 18, 19, 20] [(5, .sc (.int .i64 (y.1 : Nat))), (4, .sc (.sl 16 0 y.2.2.length))] ([none, none, none, none, none, none, none, some ⟨[y.2.1.cs 9], 25, 41, true, false⟩] ++ (((s.hp.drop 8).take 1) ++ (y.2.1.hp true ++ [some ⟨y.2.2.map LetterD.cs, 19, 57, true, true⟩])))) (fun (y : Nat × EndD × List LetterD) => y.1 ≤ 3 ∧ Small y.2.1 ∧ y.2.1.out.text.length ≤ 1048576 ∧ y.2.2.length ≤ y.1 ∧ R = ((pushN (3 - y.1) y.2.1).1, y.2.2 ++ (pushN (3 - y.1) y.2.1).2)) (fun (y : Nat × EndD × List LetterD) => 3 - y.1) (0, e, []) [some (0, none), some (1, none), some (2, none), some (3, none), some (4, none), some (5, none), some (6, none), some (7, none), some (8, none), some (0, none), some (1, none), some (2, none), some (3, none), some (4, none), some (5, none), some (6, none), none] (qC) (⟨by omega, hs, ht, Nat.le_refl _, hR⟩) (weak_mkO (by rfl) (by rfl) ?_) fun y hy N hN => ?_
 ·exact qY
 ·obtain ⟨n, e1, l⟩ := y
  obtain ⟨h1, h2, h3, h4, h5⟩ := hy
  dsimp only at h1 h2 h3 h4 h5
  have hP := impl_Push e1 h2 h3
  have hp1 := push_one e1
  have hps := push_small h2
  have hpt : (push e1).1.out.text.length ≤ 1048576 := by rw [push_text]; exact h3
  refine qR ?_
  refine qB (fun b => ?_) fun b => ?_
  ·rw [pushN_step (by omega)] at h5
   obtain ⟨pr, hpr⟩ : ∃ p, p = push e1 := ⟨_, rfl⟩
   rw [← hpr] at hP hp1 hps hpt h5
   obtain ⟨e2, l2⟩ := pr
   dsimp only at hP hp1 hps hpt h5
   rw [← List.append_assoc] at h5
   refine qX ?_
   refine qK (hP) (qA [9, 10, 11, 12, 13, 14, 15]) ?_
   refine ⟨qC, hN _ (n + 1, e2, l ++ l2) (qA [0, 1, 2, 3, 4, 5, 6, 7, 8, 17, 18, 19, 20, 21, 22, 23, 26]) (by (try dsimp only); exact ⟨by omega, hps, hpt, by simp only [List.length_append]; omega, h5⟩) (by (try dsimp only); omega) (weak_mkO (by rfl) (by rfl) ?_)⟩
   try simp (disch := omega) only [go_sem, Nat.reduceEqDiff, Nat.reduceAdd, Nat.reduceSub, Int.reduceAdd, Int.reduceSub, Int.reduceToNat]
   try simp
  ·have e3 : n = 3 := by omega
   subst e3
   simp only [Nat.sub_self, pushN, List.append_nil] at h5
   subst h5
   refine qX ?_
   exact qFO (qA [0, 1, 2, 3, 4, 5, 6, 9, 10, 11, 12, 13, 14, 15, 16])
theorem impl_WriteAll (e : EndD) (t : List UInt8) (hs : Small e) (ht : t.length ≤ 1048576) (ho : (write e t).1.out.text.length ≤ 1048576) : CallA Tryz.prog 40 [.ag (e.cs 0), .sc (.st t)] (e.hp false) (.tu [.ag ((writeAll e t).1.cs 7), .sc (.sl 14 0 (writeAll e t).2.length)])
  (e.hp false ++ ((writeAll e t).1.hp true ++ [some ⟨(writeAll e t).2.map LetterD.cs, 19, 57, true, true⟩])) := by
 have hW := impl_Write e t hs ht
 have hsw : Small (write e t).1 := by
  rw [write]; split
  ·exact ⟨hs.own, hs.far, hs.subs, hs.halfs, hs.list, hs.done, hs.over⟩
  ·exact hs
 have hP := impl_pushSome (write e t).1 hsw ho
 obtain ⟨R, hR⟩ : ∃ R, R = writeAll e t := ⟨_, rfl⟩
 rw [← hR]
 rw [writeAll] at hR
 rw [← hR] at hP
 clear hR
 generalize write e t = w1 at *
 obtain ⟨e1, n1⟩ := w1
 dsimp only at hP hsw ho hW
 refine qEO Tryz.func40 Tryz.ntmps40 Tryz.results40 fun E hE => ?_
 refine qK (hW) (qA [0, 1, 2, 3, 4, 5, 6]) ?_
 refine qK (hP) (qA [9, 10, 11, 12, 13, 14, 15]) ?_
 exact qFO (qA [0, 1, 2, 3, 4, 5, 6, 17, 18, 19, 20, 21, 22, 23, 24])
end
section
open Go.RowKit

theorem filt_step {α : Type} {l : List α} {p : α → Bool} {k : Nat} (h : k < l.length) : (l.drop k).filter p = if p l[k] then l[k] :: (l.drop (k + 1)).filter p else (l.drop (k + 1)).filter p := by
 rw [List.drop_eq_getElem_cons h, List.filter_cons]
theorem filt_end {α : Type} {l : List α} {p : α → Bool} {k : Nat} (h : l.length ≤ k) : (l.drop k).filter p = [] := by
 rw [List.drop_eq_nil_of_le h]; rfl
theorem bucketOk_fine {b : BucketD} (h : bucketOk b = true) : 0 ≤ b.rate ∧ b.rate ≤ 100 ∧ 1 ≤ b.burst ∧ b.burst ≤ 100 ∧ 0 ≤ b.cur ∧ b.cur ≤ b.burst := by
 simp only [bucketOk, inR, Bool.and_eq_true, decide_eq_true_eq] at h
 omega
theorem filled_t {b : BucketD} (h : bucketOk b = true) : filled b = { b with cur := min b.burst (b.cur + b.rate) } := if_pos h
theorem filled_f {b : BucketD} (h : bucketOk b = false) : filled b = b := if_neg (by simp [h])
theorem impl_Filled (b : BucketD) : CallA Tryz.prog 78 [.ag b.cs, .sc (.int .i64 1)] [] (.ag (filled b).cs) [] := by
 have hK := impl_BucketOk b
 have hN := impl_isNumber [1] (by simp)
 have hf := filled_f (b := b)
 have ht := filled_t (b := b)
 generalize filled b = R at *
 refine qE Tryz.func78 Tryz.ntmps78 Tryz.results78 fun E hE => ?_
 refine qK (hK) [] ?_
 refine qB (fun b1 => ?_) fun b1 => ?_
 ·have F := bucketOk_fine b1
  rw [show ([1] : List Int).all isN = true from rfl] at hN
  refine qK (hN) (qA [2]) ?_
  rw [ht b1]
  by_cases hm : b.cur + b.rate < b.burst
  ·rw [show min b.burst (b.cur + b.rate) = b.cur + b.rate by omega]
   try simp (disch := omega) only [go_sem, Nat.reduceEqDiff, Nat.reduceAdd, Nat.reduceSub, Int.reduceAdd, Int.reduceSub, Int.reduceToNat, Int.mul_one, hm]
   refine den_fin [] (qC) _ (by simp only [go_sem]; rfl) (by rfl) (by rfl) ?_
   simp (disch := omega) only [go_sem, Nat.reduceEqDiff, Nat.reduceAdd, Nat.reduceSub, Int.reduceAdd, Int.reduceSub, Int.reduceToNat]
   try simp [hm]
  ·rw [show min b.burst (b.cur + b.rate) = b.burst by omega]
   try simp (disch := omega) only [go_sem, Nat.reduceEqDiff, Nat.reduceAdd, Nat.reduceSub, Int.reduceAdd, Int.reduceSub, Int.reduceToNat, Int.mul_one, hm]
   refine den_fin [] (qC) _ (by simp only [go_sem]; rfl) (by rfl) (by rfl) ?_
   simp (disch := omega) only [go_sem, Nat.reduceEqDiff, Nat.reduceAdd, Nat.reduceSub, Int.reduceAdd, Int.reduceSub, Int.reduceToNat]
   try simp [hm]
 ·rw [hf b1]
  refine qX ?_
  exact qF []
theorem impl_Younger (l : List HalfD) (now : Int) (hl : l.length ≤ 1048576) : CallA Tryz.prog 79 [.sc (.sl 0 0 l.length), .sc (.int .i64 now)] [some ⟨l.map HalfD.cs, 8, 164, false, true⟩] (.sc (.sl 1 0 (younger l now).length)) [some ⟨l.map HalfD.cs, 8, 164, false, true⟩, some ⟨(younger l now).map HalfD.cs, 8, 164, true, true⟩] := by
 obtain ⟨R, hR⟩ : ∃ R, R = younger l now := ⟨_, rfl⟩
 rw [← hR]
 rw [younger] at hR
 refine qE Tryz.func79 Tryz.ntmps79 Tryz.results79 fun E hE => ?_
 refine den_lp 1 hE (fun s (x : Nat × List HalfD) => s.at [0, 7, 11, 12, 13, 14, 15, 16, 17, 18, 19, 20, 21, 22] [(10, .sc (.int .i64 (x.1 : Nat))), (5, .sc (.sl 1 0 x.2.length))] (s.hp ++ [some ⟨x.2.map HalfD.cs, 8, 164, true, true⟩])) (fun (x : Nat × List HalfD) => x.1 ≤ l.length ∧ x.2.length ≤ x.1 ∧ R = x.2 ++ (l.drop x.1).filter (fun h => decide (now < h.till))) (fun (x : Nat × List HalfD) => l.length - x.1) (0, []) [some (0, none), none] (qC) (⟨Nat.zero_le _, Nat.zero_le _, hR⟩) (weak_mk (by rfl) (by rfl) ?_) fun x hx N hN => ?_
 ·exact qY
 ·obtain ⟨k, acc⟩ := x
  obtain ⟨h1, h2, h3⟩ := hx
  dsimp only at h1 h2 h3
  refine qR ?_
  refine qB (fun h => ?_) fun h => ?_
  ·rw [filt_step h] at h3
   have hg := map_get (enc := HalfD.cs) h
   try simp (disch := omega) only [go_sem, Nat.reduceEqDiff, Nat.reduceAdd, Nat.reduceSub, Int.reduceAdd, Int.reduceSub, Int.reduceToNat, hg]
   refine qB (fun b2 => ?_) fun b2 => ?_
   ·rw [if_pos (by simpa using b2)] at h3
    refine ⟨qC, hN _ (k + 1, acc ++ [l[k]]) (qA [0, 4]) (by (try dsimp only); exact ⟨by omega, by simp; omega, by simpa using h3⟩) (by (try dsimp only); omega) (weak_mk (by rfl) (by rfl) ?_)⟩
    refine qX ?_
    simp [HalfD.cs]
   ·rw [if_neg (by simpa using b2)] at h3
    exact qN hN (k + 1, acc) (qA [0, 1]) (by (try dsimp only); exact ⟨by omega, by omega, h3⟩)
  ·rw [filt_end (by omega), List.append_nil] at h3
   subst h3
   exact qF (qA [0, 1])
theorem impl_joinLetter (e : EndD) (s : SubD) (h : inR e.side 1 2 = true) : CallA Tryz.prog 82 [.ag (e.cs 0), .ag s.cs] (e.hp false) (.ag (joinL' e s).cs) (e.hp false) := by
 have hT := impl_TokenFor (3 - e.side)
 have hB : CallA Tryz.prog 70 [.ag s.road.cs, .ag (LetterD.cs { letNone with kind := 4, token := tokenFor (3 - e.side), nonce := s.mine, give := s.take, spare := s.spare })] [] (.ag (joinL' e s).cs) [] := impl_Between s.road { letNone with kind := 4, token := tokenFor (3 - e.side), nonce := s.mine, give := s.take, spare := s.spare }
 simp only [inR, Bool.and_eq_true, decide_eq_true_eq] at h
 refine qE Tryz.func82 Tryz.ntmps82 Tryz.results82 fun E hE => ?_
 refine qD [0, 1, 2, 3, 4, 6, 7, 8, 9, 10, 11, 5, 12, 13, 14] ?_
 refine qKD (hT) [] ?_
 refine qKD (hB) [] ?_
 refine qG ?_
 refine den_fin (qA [0, 1, 2, 3, 4, 5, 6]) (qC) _ (by simp only [go_sem]; rfl) (by rfl) (by rfl) ?_
 simp (disch := omega) only [go_sem, Nat.reduceEqDiff, Nat.reduceAdd, Nat.reduceSub, Int.reduceAdd, Int.reduceSub, Int.reduceToNat]
 try rfl
theorem impl_HaveOf (e : EndD) (hl : e.subs.length ≤ 1048576) : CallA Tryz.prog 86 [.ag (e.cs 0)] (e.hp false) (.sc (.sl 7 0 (haveOf e.subs).length)) (e.hp false ++ [some ⟨(haveOf e.subs).map RoadD.cs, 3, 126, true, true⟩]) := by
 obtain ⟨R, hR⟩ : ∃ R, R = haveOf e.subs := ⟨_, rfl⟩
 rw [← hR]
 rw [haveOf] at hR
 refine qE Tryz.func86 Tryz.ntmps86 Tryz.results86 fun E hE => ?_
 refine den_lp 7 hE (fun s (x : Nat × List RoadD) => s.at [0, 1, 5, 6, 10, 11, 12, 13, 14, 15, 16, 17, 18, 19, 20, 21] [(9, .sc (.int .i64 (x.1 : Nat))), (3, .sc (.sl 8 0 x.2.length))] ((s.hp.take 8) ++ [some ⟨x.2.map RoadD.cs, 3, 126, true, true⟩])) (fun (x : Nat × List RoadD) => x.1 ≤ e.subs.length ∧ x.2.length ≤ x.1 ∧ R = x.2 ++ ((e.subs.drop x.1).filter (fun s => s.state != 4)).map SubD.road) (fun (x : Nat × List RoadD) => e.subs.length - x.1) (0, []) [some (0, none), some (1, none), some (2, none), some (3, none), some (4, none), some (5, none), some (6, none), some (7, none), none] (qC) (⟨Nat.zero_le _, Nat.zero_le _, hR⟩) (weak_mk (by rfl) (by rfl) ?_) fun x hx N hN => ?_
 ·exact qY
 ·obtain ⟨k, acc⟩ := x
  obtain ⟨h1, h2, h3⟩ := hx
  dsimp only at h1 h2 h3
  refine qR ?_
  refine qB (fun h => ?_) fun h => ?_
  ·rw [filt_step h] at h3
   have hg := map_get (enc := SubD.cs) h
   try simp (disch := omega) only [go_sem, Nat.reduceEqDiff, Nat.reduceAdd, Nat.reduceSub, Int.reduceAdd, Int.reduceSub, Int.reduceToNat, hg]
   refine qB (fun b2 => ?_) fun b2 => ?_
   ·rw [if_pos (by simpa using b2), List.map_cons] at h3
    try simp (disch := omega) only [go_sem, Nat.reduceEqDiff, Nat.reduceAdd, Nat.reduceSub, Int.reduceAdd, Int.reduceSub, Int.reduceToNat, hg]
    refine ⟨qC, hN _ (k + 1, acc ++ [e.subs[k].road]) (qA [0, 1, 2, 3, 4, 5, 6, 7, 11]) (by (try dsimp only); exact ⟨by omega, by simp; omega, by simpa using h3⟩) (by (try dsimp only); omega) (weak_mk (by rfl) (by rfl) ?_)⟩
    refine qX ?_
    simp [RoadD.cs]
   ·rw [if_neg (by simpa using b2)] at h3
    exact qN hN (k + 1, acc) (qA [0, 1, 2, 3, 4, 5, 6, 7, 8]) (by (try dsimp only); exact ⟨by omega, by omega, h3⟩)
  ·rw [filt_end (by omega), List.map_nil, List.append_nil] at h3
   subst h3
   exact qF (qA [0, 1, 2, 3, 4, 5, 6, 8])
end
section
open Go.RowKit

def lastAt (l : List AddrD) (n : Int) : Nat → Int
 | 0 => -1
 | k + 1 => if (adAtN l k).addr = n then (k : Int) else lastAt l n k
theorem hasFar_snoc {l : List AddrD} {n : Int} {k : Nat} (h : k < l.length) : hasFar (l.take (k + 1)) n = (hasFar (l.take k) n || l[k].addr == n) := by
 rw [hasFar, List.take_succ_eq_append_getElem h, List.any_append]; simp [hasFar]
theorem spareOf_snoc {l : List AddrD} {n : Int} {k : Nat} (h : k < l.length) : spareOf (l.take (k + 1)) n = if l[k].addr = n then l[k].spare else spareOf (l.take k) n := by
 rw [spareOf, List.take_succ_eq_append_getElem h, List.foldl_append]; rfl
theorem lastAt_cases {l : List AddrD} {n : Int} : ∀ (k : Nat), k ≤ l.length → (lastAt l n k = -1 ∧ hasFar (l.take k) n = false ∧ spareOf (l.take k) n = false) ∨ ∃ j : Nat, ∃ hj : j < l.length, j < k ∧ lastAt l n k = (j : Int) ∧ hasFar (l.take k) n = true ∧ spareOf (l.take k) n = l[j].spare
 | 0, _ => .inl ⟨rfl, by simp [hasFar], by simp [spareOf]⟩
 | k + 1, h => by
  have hk : k < l.length := by omega
  rw [hasFar_snoc hk, spareOf_snoc hk, lastAt, adAtN_at hk]
  by_cases he : l[k].addr = n
  ·right
   exact ⟨k, hk, Nat.lt_succ_self k, by rw [if_pos he], by rw [Bool.or_eq_true]; exact .inr (by simpa using he), by rw [if_pos he]⟩
  ·rw [if_neg he, if_neg he]
   have hb : (l[k].addr == n) = false := by simpa using he
   rw [hb, Bool.or_false]
   rcases lastAt_cases (l := l) (n := n) k (by omega) with h1 | ⟨j, hj, h2, h3⟩
   ·exact .inl h1
   ·exact .inr ⟨j, hj, Nat.lt_succ_of_lt h2, h3⟩
def farAt (l : List AddrD) (n : Int) : Int := lastAt l n l.length
theorem farAt_cases (l : List AddrD) (n : Int) : (farAt l n = -1 ∧ hasFar l n = false ∧ spareOf l n = false) ∨ ∃ j : Nat, ∃ hj : j < l.length, farAt l n = (j : Int) ∧ hasFar l n = true ∧ spareOf l n = l[j].spare := by
 have := lastAt_cases (l := l) (n := n) l.length (Nat.le_refl _)
 rw [List.take_length] at this
 rcases this with h | ⟨j, hj, _, h⟩
 ·exact .inl h
 ·exact .inr ⟨j, hj, h⟩
theorem impl_farAt (e : EndD) (n : Int) (hl : e.far.length ≤ 1048576) : CallA Tryz.prog 87 [.ag (e.cs 0), .sc (.int .i64 n)] (e.hp false) (.sc (.int .i64 (farAt e.far n))) (e.hp false) := by
 obtain ⟨R, hR⟩ : ∃ R, R = farAt e.far n := ⟨_, rfl⟩
 rw [← hR]
 rw [farAt] at hR
 refine callA_of Tryz.func87 (by kernel_rfl) rfl fun E hE => run_den 400 ?_
 simp (disch := omega) only [Tryz.ntmps87, Tryz.results87, go_sem, Nat.reduceEqDiff, Nat.reduceAdd, Nat.reduceSub, Int.reduceAdd, Int.reduceSub, Int.reduceToNat]
 refine den_lp 7 hE (fun s (k : Nat) => s.at [0, 4, 6, 7, 8, 9, 10, 11, 12, 13, 14, 15, 16, 17, 18, 19, 20, 21, 22] [(5, .sc (.int .i64 ((k : Int) - 1)))] (s.hp)) (fun (k : Nat) => k ≤ e.far.length ∧ R = lastAt e.far n k) (fun (k : Nat) => k) e.far.length [some (0, none), some (1, none), some (2, none), some (3, none), some (4, none), some (5, none), some (6, none), some (7, none)] (by (try simp (disch := omega) only [go_sem, List.length_set, Nat.reduceEqDiff, Nat.reduceAdd, Nat.reduceSub, Int.reduceAdd, Int.reduceSub, Int.reduceToNat]) <;> omega) (⟨Nat.le_refl _, hR⟩) (weak_mk (by rfl) (by rfl) ?_) fun k hk N hN => ?_
 ·try simp (disch := omega) only [go_sem, Nat.reduceEqDiff, Nat.reduceAdd, Nat.reduceSub, Int.reduceAdd, Int.reduceSub, Int.reduceToNat]
 ·obtain ⟨h1, h2⟩ := hk
  refine run_den 400 ?_
  cases k with
  | zero =>
   rw [lastAt] at h2
   subst h2
   try simp (disch := omega) only [go_sem, Nat.reduceEqDiff, Nat.reduceAdd, Nat.reduceSub, Int.reduceAdd, Int.reduceSub, Int.reduceToNat]
   refine den_fin [some (0, none), some (1, none), some (2, none), some (3, none), some (4, none), some (5, none), some (6, none)] (by (try simp (disch := omega) only [go_sem, List.length_set, Nat.reduceEqDiff, Nat.reduceAdd, Nat.reduceSub, Int.reduceAdd, Int.reduceSub, Int.reduceToNat]) <;> omega) _ (by simp only [go_sem]; rfl) (by rfl) (by rfl) ?_
   simp (disch := omega) only [go_sem, Nat.reduceEqDiff, Nat.reduceAdd, Nat.reduceSub, Int.reduceAdd, Int.reduceSub, Int.reduceToNat]
  | succ j =>
   have hj : j < e.far.length := by omega
   have hg := map_get (enc := AddrD.cs) hj
   have e1 : ((j + 1 : Nat) : Int) - 1 = (j : Int) := by omega
   have e2 : (j : Int) + 1 - 1 = (j : Int) := by omega
   rw [lastAt, adAtN_at hj] at h2
   try simp (disch := omega) only [go_sem, Nat.reduceEqDiff, Nat.reduceAdd, Nat.reduceSub, Int.reduceAdd, Int.reduceSub, Int.reduceToNat, e1, e2, hg]
   split <;> rename_i b <;> (try simp only [beq_true, beq_false, Bool.not_eq_true', Bool.not_eq_false'] at b) <;> simp (disch := omega) only [go_sem, Nat.reduceEqDiff, Nat.reduceAdd, Nat.reduceSub, Int.reduceAdd, Int.reduceSub, Int.reduceToNat, b] <;> (try simp only [decide_eq_true_eq, decide_eq_false_iff_not, beq_iff_eq, beq_eq_false_iff_ne, bne_iff_ne, bne_eq_false_iff_eq, ne_eq, Decidable.not_not, Bool.and_eq_true, Bool.and_eq_false_iff, Bool.or_eq_true, Bool.or_eq_false_iff, Int.ofNat_lt, Int.ofNat_le, Bool.not_eq_eq_eq_not, Bool.not_true, Bool.not_false] at b) <;> try simp (disch := omega) only [go_sem, Nat.reduceEqDiff, Nat.reduceAdd, Nat.reduceSub, Int.reduceAdd, Int.reduceSub, Int.reduceToNat]
   ·rw [if_pos b] at h2
    subst h2
    try simp (disch := omega) only [go_sem, Nat.reduceEqDiff, Nat.reduceAdd, Nat.reduceSub, Int.reduceAdd, Int.reduceSub, Int.reduceToNat]
    refine den_fin [some (0, none), some (1, none), some (2, none), some (3, none), some (4, none), some (5, none), some (6, none)] (by (try simp (disch := omega) only [go_sem, List.length_set, Nat.reduceEqDiff, Nat.reduceAdd, Nat.reduceSub, Int.reduceAdd, Int.reduceSub, Int.reduceToNat]) <;> omega) _ (by simp only [go_sem]; rfl) (by rfl) (by rfl) ?_
    simp (disch := omega) only [go_sem, Nat.reduceEqDiff, Nat.reduceAdd, Nat.reduceSub, Int.reduceAdd, Int.reduceSub, Int.reduceToNat]
   ·rw [if_neg b] at h2
    refine ⟨by (try simp (disch := omega) only [go_sem, List.length_set, Nat.reduceEqDiff, Nat.reduceAdd, Nat.reduceSub, Int.reduceAdd, Int.reduceSub, Int.reduceToNat]) <;> omega, hN _ j [some (0, none), some (1, none), some (2, none), some (3, none), some (4, none), some (5, none), some (6, none), some (7, none)] (by (try dsimp only); exact ⟨by omega, h2⟩) (by (try dsimp only); omega) (weak_mk (by rfl) (by rfl) ?_)⟩
    try simp (disch := omega) only [go_sem, Nat.reduceEqDiff, Nat.reduceAdd, Nat.reduceSub, Int.reduceAdd, Int.reduceSub, Int.reduceToNat]
theorem jn_f {e : EndD} {r : RoadD} {b : Bool} (h : jnOk e r = false) : join e r b = (e, []) := if_neg (by simp [h])
theorem jn_t {e : EndD} {r : RoadD} {b : Bool} (h : jnOk e r = true) : join e r b = ({ e with subs := e.subs ++ [askSub e r b], draw := e.draw + 4 }, [joinL' e (askSub e r b)]) := if_pos h
theorem endOk_side {e : EndD} (h : endOk e = true) : inR e.side 1 2 = true := by
 simp only [endOk, Bool.and_eq_true] at h
 simp_all
theorem impl_Join (e : EndD) (r : RoadD) (sp : Bool) (hs : Small e) : CallA Tryz.prog 88 [.ag (e.cs 0), .ag r.cs, .sc (.bo sp)] (e.hp false) (.tu [.ag ((join e r sp).1.cs 7), .sc (.sl 14 0 (join e r sp).2.length)])
  (e.hp false ++ ((join e r sp).1.hp true ++ [some ⟨(join e r sp).2.map LetterD.cs, 19, 57, true, true⟩])) := by
 have hC := impl_copyEnd e (by have := hs.own; omega) (by have := hs.far; omega) (by have := hs.subs; omega) (by have := hs.halfs; omega) (by have := hs.list; omega) (by have := hs.done; omega) (by have := hs.over; omega)
 have hK := impl_EndOk e (by have := hs.own; omega) (by have := hs.far; omega) (by have := hs.subs; omega) (by have := hs.halfs; omega) (by have := hs.list; omega) (by have := hs.done; omega) (by have := hs.over; omega)
 have hO := impl_OwnsAddr e r.own (by have := hs.own; omega)
 have hS := impl_SubAt e r (by have := hs.subs; omega)
 have hsub := hs.subs
 have hF := impl_farAt e r.far (by have := hs.far; omega)
 have hcase := farAt_cases e.far r.far
 have hf := jn_f (e := e) (r := r) (b := sp)
 have ht := jn_t (e := e) (r := r) (b := sp)
 have hk := jnOk.eq_1 e r
 generalize join e r sp = R at *
 refine qEO Tryz.func88 Tryz.ntmps88 Tryz.results88 fun E hE => ?_
 refine qK (hC) (qA [0, 1, 2, 3, 4, 5, 6]) ?_
 refine qK (hK) (qA [0, 1, 2, 3, 4, 5, 6]) ?_
 refine qB (fun h1 => ?_) fun h1 => ?_
 ·refine qB (fun h2 => ?_) fun h2 => ?_
  ·refine qK (impl_roadIsNumber r) [] ?_
   refine qB (fun h3 => ?_) fun h3 => ?_
   ·refine qK (hS) (qA [0, 1, 2, 3, 4, 5, 6]) ?_
    refine qB (fun h4 => ?_) fun h4 => ?_
    ·refine qK (hO) (qA [0, 1, 2, 3, 4, 5, 6]) ?_
     refine qB (fun h5 => ?_) fun h5 => ?_
     ·refine qK (hF) (qA [0, 1, 2, 3, 4, 5, 6]) ?_
      rcases hcase with ⟨q1, q2, _⟩ | ⟨j, hj, q1, q2, _⟩
      ·rw [hf (by rw [hk]; simp [q2])]
       try simp (disch := omega) only [go_sem, Nat.reduceEqDiff, Nat.reduceAdd, Nat.reduceSub, Int.reduceAdd, Int.reduceSub, Int.reduceToNat, q1]
       exact qFO [some (0, none), some (1, none), some (2, none), some (3, none), some (4, none), some (5, none), some (6, none), some (10, none), some (11, none), some (12, none), some (13, none), some (14, none), some (15, none), some (16, none), none]
      ·try simp (disch := omega) only [go_sem, Nat.reduceEqDiff, Nat.reduceAdd, Nat.reduceSub, Int.reduceAdd, Int.reduceSub, Int.reduceToNat, q1]
       refine qB (fun h7 => ?_) fun h7 => ?_
       ·refine qK (impl_canDrawTwo e) (qA [0, 1, 2, 3, 4, 5, 6]) ?_
        refine qB (fun h8 => ?_) fun h8 => ?_
        ·rw [hf (by rw [hk]; simp [h8])]
         refine qX ?_
         exact qFO [some (0, none), some (1, none), some (2, none), some (3, none), some (4, none), some (5, none), some (6, none), some (10, none), some (11, none), some (12, none), some (13, none), some (14, none), some (15, none), some (16, none), none]
        ·rw [ht (by rw [hk]; simp [h1, h2, h3, h5, h8, q2]; omega)]
         have h8' := h8
         simp only [inR, Bool.and_eq_true, decide_eq_true_eq] at h8'
         have hJ := impl_joinLetter e (askSub e r sp) (endOk_side h1)
         refine qX ?_
         refine qK (impl_drawTwo e h8) (qA [10, 11, 12, 13, 14, 15, 16, 17]) ?_
         refine den_drawX [(4, 5)] [] [[0, 1, 2, 3, 4, 5, 6], [0, 1, 2, 3, 5, 4, 6]] 7 hE (fun s => s.at [74, 75, 76, 77, 78, 68, 69, 70, 71, 72, 73] [(7, .sc (.sl 21 0 1))] ((s.hp.set 9 (some ⟨[[.int .i64 e.side, .int .i64 e.state, .int .i64 e.key, .int .i64 e.peer, .int .i64 e.policy.kind, .int .i64 e.policy.many, .sl 10 0 e.own.length, .sl 11 0 e.far.length, .sl 20 0 (e.subs.length + 1), .sl 13 0 e.halfs.length, .int .i64 e.bucket.rate, .int .i64 e.bucket.burst, .int .i64 e.bucket.cur, .st e.out.text, .int .i64 e.out.base, .int .i64 e.out.sent, .int .i64 e.out.room, .int .i64 e.inp.read, .st e.inp.ready, .sl 14 0 e.inp.list.length, .sl 15 0 e.done.length, .sl 16 0 e.over.length, .int .i64 (e.draw + 4), .int .i64 e.now, .int .i64 e.pick]], 25, 41, true, false⟩)) ++ [some ⟨[(joinL' e (askSub e r sp)).cs], 19, 57, true, true⟩])) (by kernel_rfl) (qC) (by kernel_rfl) ?_ (run_den 400 ?_)
         rotate_left
         rotate_right
         simp only [allDn]
         refine ⟨runD_den 400 ?_, runD_den 400 ?_⟩
         ·simp (disch := omega) only [go_sem]
          refine qKD (hJ) (qA [0, 1, 2, 3, 4, 5, 6]) ?_
          refine ⟨qC, (qA [0, 1, 2, 3, 4, 5, 6, 7, 8, 9, 10, 11, 12, 13, 14, 15, 16, 17, 18, 19, 20, 21]), weak_mkO (by rfl) (by rfl) ?_⟩
          try simp (disch := omega) only [go_sem, Nat.reduceEqDiff, Nat.reduceAdd, Nat.reduceSub, Int.reduceAdd, Int.reduceSub, Int.reduceToNat]
          try rfl
         ·simp (disch := omega) only [go_sem]
          refine qKD (hJ) (qA [0, 1, 2, 3, 4, 5, 6]) ?_
          refine ⟨qC, (qA [0, 1, 2, 3, 4, 5, 6, 7, 8, 9, 10, 11, 12, 13, 14, 15, 16, 17, 18, 19, 20, 21]), weak_mkO (by rfl) (by rfl) ?_⟩
          try simp (disch := omega) only [go_sem, Nat.reduceEqDiff, Nat.reduceAdd, Nat.reduceSub, Int.reduceAdd, Int.reduceSub, Int.reduceToNat]
          try rfl
         refine qX ?_
         refine den_finO (qA [0, 1, 2, 3, 4, 5, 6, 10, 11, 20, 13, 14, 15, 16, 21]) (qC) _ (by simp only [go_sem]; rfl) (by rfl) (by rfl) ?_
         simp (disch := omega) only [go_sem, Nat.reduceEqDiff, Nat.reduceAdd, Nat.reduceSub, Int.reduceAdd, Int.reduceSub, Int.reduceToNat]
         try simp [SubD.cs, askSub]
         try omega
       ·rw [hf (by rw [hk]; first | (simp [h7]; done) | (simp [h7]; intros; omega))]
        refine qX ?_
        exact qFO [some (0, none), some (1, none), some (2, none), some (3, none), some (4, none), some (5, none), some (6, none), some (10, none), some (11, none), some (12, none), some (13, none), some (14, none), some (15, none), some (16, none), none]
     ·rw [hf (by rw [hk]; first | (simp [h5]; done) | (simp [h5]; intros; omega))]
      refine qX ?_
      exact qFO [some (0, none), some (1, none), some (2, none), some (3, none), some (4, none), some (5, none), some (6, none), some (10, none), some (11, none), some (12, none), some (13, none), some (14, none), some (15, none), some (16, none), none]
    ·rw [hf (by rw [hk]; first | (simp [h4]; done) | (simp [h4]; intros; omega))]
     refine qX ?_
     exact qFO [some (0, none), some (1, none), some (2, none), some (3, none), some (4, none), some (5, none), some (6, none), some (10, none), some (11, none), some (12, none), some (13, none), some (14, none), some (15, none), some (16, none), none]
   ·rw [hf (by rw [hk]; first | (simp [h3]; done) | (simp [h3]; intros; omega))]
    refine qX ?_
    exact qFO [some (0, none), some (1, none), some (2, none), some (3, none), some (4, none), some (5, none), some (6, none), some (10, none), some (11, none), some (12, none), some (13, none), some (14, none), some (15, none), some (16, none), none]
  ·rw [hf (by rw [hk]; first | (simp [h2]; done) | (simp [h2]; intros; omega))]
   refine qX ?_
   exact qFO [some (0, none), some (1, none), some (2, none), some (3, none), some (4, none), some (5, none), some (6, none), some (10, none), some (11, none), some (12, none), some (13, none), some (14, none), some (15, none), some (16, none), none]
 ·rw [hf (by rw [hk]; first | (simp [h1]; done) | (simp [h1]; intros; omega))]
  refine qX ?_
  exact qFO [some (0, none), some (1, none), some (2, none), some (3, none), some (4, none), some (5, none), some (6, none), some (10, none), some (11, none), some (12, none), some (13, none), some (14, none), some (15, none), some (16, none), none]
end
section
open Go.RowKit

def mkR (a b : AddrD) : RoadD := ⟨a.addr, b.addr, 0⟩
theorem wantGo_step {far l : List AddrD} {acc : List RoadD} {k : Nat} (h : k < l.length) : wantGo far acc (l.drop k) = wantGo far ((acc ++ far.map (mkR l[k])).take 8) (l.drop (k + 1)) := by
 rw [List.drop_eq_getElem_cons h, wantGo]
 rfl
theorem take8_lt {acc : List RoadD} {far : List AddrD} {f : AddrD → RoadD} {j : Nat} {r : List RoadD} (h : j < far.length) (hr : r = (acc ++ (far.take j).map f).take 8) (hl : r.length < 8) : r ++ [f far[j]] = (acc ++ (far.take (j + 1)).map f).take 8 := by
 have h1 : (acc ++ (far.take j).map f).length < 8 := by
  rw [hr, List.length_take] at hl
  omega
 rw [List.take_of_length_le (by omega)] at hr
 rw [List.take_succ_eq_append_getElem h, List.map_append, ← List.append_assoc, ← hr, List.map_singleton, List.take_of_length_le]
 rw [← hr] at h1
 simp
 omega
theorem take8_ge {acc : List RoadD} {far : List AddrD} {f : AddrD → RoadD} {j i : Nat} {r : List RoadD} (hji : j ≤ i) (hi : i ≤ far.length) (hr : r = (acc ++ (far.take j).map f).take 8) (hl : ¬ r.length < 8) : r = (acc ++ (far.take i).map f).take 8 := by
 have h1 : 8 ≤ (acc ++ (far.take j).map f).length := by
  rw [hr, List.length_take] at hl
  omega
 have e : far.take i = far.take j ++ (far.take i).drop j := by
  conv => lhs; rw [← List.take_append_drop j (far.take i)]
  rw [List.take_take, Nat.min_eq_left hji]
 rw [e, List.map_append, ← List.append_assoc, List.take_append_of_le_length h1, hr]
theorem manyL_succ (o f : Int) (n : Nat) : manyL o f (n + 1) = manyL o f n ++ [⟨o, f, (n : Int)⟩] := by
 simp [manyL, List.range_succ]
theorem manyL_len (o f : Int) (n : Nat) : (manyL o f n).length = n := by simp [manyL]
theorem wantGo_len {far : List AddrD} : ∀ {l : List AddrD} {acc : List RoadD}, acc.length ≤ 8 → (wantGo far acc l).length ≤ 8
 | [], acc, h => h
 | a :: r, acc, h => by
  rw [wantGo]
  exact wantGo_len (by rw [List.length_take]; omega)
theorem addr0_eq {l : List AddrD} (h : 0 < l.length) : addr0 l = l[0].addr := by
 cases l with
 | nil => simp at h
 | cons a r => rfl
theorem wanted_len (p : PolicyD) (own far : List AddrD) : (wanted p own far).length ≤ 8 := by
 rw [wanted]
 split
 ·rename_i h
  split
  ·exact wantGo_len (Nat.zero_le _)
  ·rw [manyL_len]
   split
   ·rename_i h2
    have h1 := h.1
    rw [polOk, if_pos h2] at h1
    simp only [inR, Bool.and_eq_true, decide_eq_true_eq] at h1
    omega
   ·omega
 ·simp
theorem impl_WantedOf (p : PolicyD) (own far : List AddrD) (hp : p.wf) (h1 : own.length ≤ 1048576) (h2 : far.length ≤ 1048576) : CallA Tryz.prog 85 [.ag p.cs, .sc (.sl 0 0 own.length), .sc (.sl 1 0 far.length)] [some ⟨own.map AddrD.cs, 4, 53, false, true⟩, some ⟨far.map AddrD.cs, 4, 53, false, true⟩] (.sc (.sl 2 0 (wanted p own far).length)) [some ⟨own.map AddrD.cs, 4, 53, false, true⟩, some ⟨far.map AddrD.cs, 4, 53, false, true⟩, some ⟨(wanted p own far).map RoadD.cs, 3, 126, true, true⟩] := by
 obtain ⟨m, hm⟩ : ∃ m, m = wanted p own far := ⟨_, rfl⟩
 rw [← hm]
 rw [wanted] at hm
 refine qE Tryz.func85 Tryz.ntmps85 Tryz.results85 fun E hE => ?_
 refine qK (impl_PolicyOk p) [] ?_
 refine qB (fun g1 => ?_) fun g1 => ?_
 ·refine qK (impl_within _ _ _) [] ?_
  refine qB (fun g2 => ?_) fun g2 => ?_
  ·refine qK (impl_within _ _ _) [] ?_
   refine qB (fun g3 => ?_) fun g3 => ?_
   ·rw [if_neg (by simp [g3])] at hm
    subst hm
    exact qF [some (0, none), some (1, none), none]
   ·have g2' := g2
    have g3' := g3
    simp only [inR, Bool.and_eq_true, decide_eq_true_eq] at g2' g3'
    rw [if_pos ⟨g1, g2, g3⟩] at hm
    refine qX ?_
    refine qB (fun g4 => ?_) fun g4 => ?_
    ·rw [if_pos g4] at hm
     refine qX ?_
     refine den_lp 2 hE (fun s (x : Nat × List RoadD) => s.at [0, 9, 11, 13, 14, 15, 16, 17, 18, 19, 20, 21, 22, 23, 24, 25, 26, 27, 28, 29, 30, 34, 35, 36, 37, 38, 39, 40, 41, 42, 43, 44, 45, 46, 47, 48, 49, 50, 51, 52, 53, 54, 55] [(33, .sc (.int .i64 (x.1 : Nat))), (7, .sc (.sl 3 0 x.2.length))] ([some ⟨own.map AddrD.cs, 4, 53, false, true⟩, some ⟨far.map AddrD.cs, 4, 53, false, true⟩, some ⟨[p.cs], 2, 25, true, false⟩, some ⟨x.2.map RoadD.cs, 3, 126, true, true⟩])) (fun (x : Nat × List RoadD) => x.1 ≤ own.length ∧ x.2.length ≤ 8 ∧ wantGo far x.2 (own.drop x.1) = m) (fun (x : Nat × List RoadD) => own.length - x.1) (0, []) [some (0, none), some (1, none), some (2, none), none] (qC) (⟨Nat.zero_le _, Nat.zero_le _, hm.symm⟩) (weak_mk (by rfl) (by rfl) ?_) fun x hx N hN => ?_
     ·exact qY
     ·obtain ⟨k, acc⟩ := x
      obtain ⟨hk1, hk2, hk3⟩ := hx
      dsimp only at hk1 hk2 hk3
      refine qR ?_
      refine qB (fun h => ?_) fun h => ?_
      ·rw [wantGo_step h] at hk3
       refine qX ?_
       refine den_lp 2 hE (fun s (y : Nat × List RoadD) => s.at [0, 11, 13, 14, 15, 16, 17, 18, 19, 20, 21, 22, 23, 24, 25, 26, 27, 28, 29, 30, 35, 36, 40, 41, 42, 43, 44, 45, 46, 47, 48, 49, 50, 51, 52, 53, 54, 55] [(39, .sc (.int .i64 (y.1 : Nat))), (7, .sc (.sl 3 0 y.2.length))] ([some ⟨own.map AddrD.cs, 4, 53, false, true⟩, some ⟨far.map AddrD.cs, 4, 53, false, true⟩, some ⟨[p.cs], 2, 25, true, false⟩, some ⟨y.2.map RoadD.cs, 3, 126, true, true⟩, some ⟨[AddrD.cs own[k]], 4, 53, true, false⟩])) (fun (y : Nat × List RoadD) => y.1 ≤ far.length ∧ y.2.length ≤ 8 ∧ y.2 = (acc ++ (far.take y.1).map (mkR own[k])).take 8) (fun (y : Nat × List RoadD) => far.length - y.1) (0, acc) (qA [0, 1, 2, 3, 4]) (qC) (⟨Nat.zero_le _, hk2, by simp; rw [List.take_of_length_le hk2]⟩) (weak_mk (by rfl) (by rfl) ?_) fun y hy N2 hN2 => ?_
       ·exact qY
       ·obtain ⟨j, r⟩ := y
        obtain ⟨hy1, hy2, hy3⟩ := hy
        dsimp only at hy1 hy2 hy3
        refine qR ?_
        refine qB (fun h5 => ?_) fun h5 => ?_
        ·refine qX ?_
         refine qB (fun h6 => ?_) fun h6 => ?_
         ·have hl8 : r.length < 8 := by omega
          have ht := take8_lt h5 hy3 hl8
          refine ⟨qC, hN2 _ (j + 1, r ++ [mkR own[k] far[j]]) (qA [0, 1, 2, 7, 4]) (by (try dsimp only); exact ⟨by omega, by simp; omega, ht⟩) (by (try dsimp only); omega) (weak_mk (by rfl) (by rfl) ?_)⟩
          refine qX ?_
          simp [mkR, RoadD.cs]
         ·have ht := take8_ge (i := j + 1) (by omega) (by omega) hy3 (by omega)
          exact qN hN2 (j + 1, r) (qA [0, 1, 2, 3, 4]) (by (try dsimp only); exact ⟨by omega, hy2, ht⟩)
        ·have e : j = far.length := by omega
         subst e
         rw [List.take_length] at hy3
         rw [← hy3] at hk3
         exact qN hN (k + 1, r) (qA [0, 1, 2, 3]) (by (try dsimp only); exact ⟨by omega, hy2, hk3⟩)
      ·rw [List.drop_eq_nil_of_le (by omega), wantGo] at hk3
       subst hk3
       exact qF (qA [0, 1, 3])
    ·rw [if_neg g4] at hm
     have ho : 0 < own.length := by omega
     have hf : 0 < far.length := by omega
     rw [addr0_eq ho, addr0_eq hf] at hm
     obtain ⟨c, hc, hc0, hc8⟩ : ∃ c : Nat, m = manyL own[0].addr far[0].addr c ∧ (if 1 < p.many then p.many else 1) = (c : Int) ∧ c ≤ 8 := by
      by_cases h2 : p.kind = 2
      ·have h := g1
       rw [polOk, if_pos h2] at h
       simp only [inR, Bool.and_eq_true, decide_eq_true_eq] at h
       rw [if_pos h2] at hm
       exact ⟨p.many.toNat, hm, by split <;> omega, by omega⟩
      ·rw [if_neg h2] at hm
       have h := g1
       rw [polOk, if_neg h2] at h
       simp only [Bool.and_eq_true, beq_iff_eq] at h
       exact ⟨1, hm, by rw [if_neg (by omega)]; rfl, by omega⟩
     refine qX ?_
     refine den_lp 2 hE (fun s (x : Nat) => s.at [0, 9, 11, 13, 14, 15, 16, 17, 18, 19, 20, 21, 22, 23, 24, 25, 26, 27, 28, 29, 30, 31, 32, 33, 34, 35, 36, 37, 38, 39, 40, 41, 42, 43, 44, 45, 46, 47, 48, 49, 50, 51, 52, 53, 54, 55, 56, 57, 58, 59, 60, 61, 62, 63, 64, 65, 66, 67, 68, 69, 70, 71, 72, 73, 74, 75, 76] [(12, .sc (.int .i64 (x : Nat))), (7, .sc (.sl 3 0 x))] ([some ⟨own.map AddrD.cs, 4, 53, false, true⟩, some ⟨far.map AddrD.cs, 4, 53, false, true⟩, some ⟨[p.cs], 2, 25, true, false⟩, some ⟨(manyL own[0].addr far[0].addr x).map RoadD.cs, 3, 126, true, true⟩])) (fun (x : Nat) => x ≤ c) (fun (x : Nat) => c - x) 0 [some (0, none), some (1, none), some (2, none), none] (qC) (Nat.zero_le _) (weak_mk (by rfl) (by rfl) ?_) fun x hx N hN => ?_
     ·try simp (disch := omega) only [go_sem, Nat.reduceEqDiff, Nat.reduceAdd, Nat.reduceSub, Int.reduceAdd, Int.reduceSub, Int.reduceToNat]
      try rfl
     ·refine run_den 400 ?_
      have hml := manyL_len own[0].addr far[0].addr x
      try simp (disch := omega) only [go_sem, Nat.reduceEqDiff, Nat.reduceAdd, Nat.reduceSub, Int.reduceAdd, Int.reduceSub, Int.reduceToNat, hc0]
      refine qB (fun h => ?_) fun h => ?_
      ·refine qD [0, 1, 2, 3, 4, 5, 6, 7, 8, 9, 10, 11, 12, 13] ?_
       refine qG ?_
       refine ⟨qC, hN _ (x + 1) (qA [0, 1, 2, 5]) (by (try dsimp only); exact (by omega)) (by (try dsimp only); omega) (weak_mk (by rfl) (by rfl) ?_)⟩
       try simp (disch := omega) only [go_sem, Nat.reduceEqDiff, Nat.reduceAdd, Nat.reduceSub, Int.reduceAdd, Int.reduceSub, Int.reduceToNat]
       try simp [manyL_succ, RoadD.cs]
      ·have e : x = c := by omega
       subst e
       subst hc
       rw [manyL_len]
       exact qF (qA [0, 1, 3])
  ·rw [if_neg (by simp [g2])] at hm
   subst hm
   exact qF [some (0, none), some (1, none), none]
 ·rw [if_neg (by simp [g1])] at hm
  subst hm
  exact qF [some (0, none), some (1, none), none]
end
section
open Go.RowKit

theorem join_small {e : EndD} {r : RoadD} {b : Bool} (hs : Small e) : Small (join e r b).1 := by
 rw [join]; split
 ·rename_i h
  simp only [jnOk, Bool.and_eq_true, decide_eq_true_eq] at h
  exact ⟨hs.own, hs.far, by simp only [List.length_append, List.length_singleton]; omega, hs.halfs, hs.list, hs.done, hs.over⟩
 ·exact hs
theorem join_one (e : EndD) (r : RoadD) (b : Bool) : (join e r b).2.length ≤ 1 := by
 rw [join]; split <;> simp
theorem manGo_step {far : List AddrD} {e : EndD} {l : List RoadD} {k : Nat} (h : k < l.length) : manGo far e (l.drop k) =
  ((manGo far (join e l[k] (spareOf far l[k].far)).1 (l.drop (k + 1))).1, (join e l[k] (spareOf far l[k].far)).2 ++ (manGo far (join e l[k] (spareOf far l[k].far)).1 (l.drop (k + 1))).2) := by
 rw [List.drop_eq_getElem_cons h]; rfl
theorem manGo_end {far : List AddrD} {e : EndD} {l : List RoadD} {k : Nat} (h : l.length ≤ k) : manGo far e (l.drop k) = (e, []) := by
 rw [List.drop_eq_nil_of_le h]; rfl
theorem man_f {e : EndD} (h : ¬ (endOk e = true ∧ e.side = 1)) : manage e = (e, []) := if_neg h
theorem man_t {e : EndD} (h : endOk e = true ∧ e.side = 1) : manage e = manGo e.far e (missing (wanted e.policy e.own e.far) (haveOf e.subs)) := if_pos h
theorem missing_le64 (a b : List RoadD) : (missing a b).length ≤ 64 := by
 rw [missing]; split
 ·rename_i h; exact Nat.le_trans (List.length_filter_le _ _) h.1
 ·simp
theorem endOk_pol {e : EndD} (h : endOk e = true) : e.policy.wf := by
 have hp : polOk e.policy = true := by simp only [endOk, Bool.and_eq_true] at h; simp_all
 rw [polOk] at hp
 split at hp
 ·rename_i hk
  simp only [inR, Bool.and_eq_true, decide_eq_true_eq] at hp
  exact ⟨⟨by omega, by omega⟩, ⟨by omega, by omega⟩⟩
 ·simp only [Bool.and_eq_true, Bool.or_eq_true, beq_iff_eq] at hp
  exact ⟨⟨by omega, by omega⟩, ⟨by omega, by omega⟩⟩
theorem haveOf_le (l : List SubD) : (haveOf l).length ≤ l.length := by
 rw [haveOf, List.length_map]; exact List.length_filter_le _ _
theorem impl_Manage (e : EndD) (hs : Small e) : CallA Tryz.prog 43 [.ag (e.cs 0)] (e.hp false) (.tu [.ag ((manage e).1.cs 7), .sc (.sl 14 0 (manage e).2.length)])
  (e.hp false ++ ((manage e).1.hp true ++ [some ⟨(manage e).2.map LetterD.cs, 19, 57, true, true⟩])) := by
 have hC := impl_copyEnd e (by have := hs.own; omega) (by have := hs.far; omega) (by have := hs.subs; omega) (by have := hs.halfs; omega) (by have := hs.list; omega) (by have := hs.done; omega) (by have := hs.over; omega)
 have hK := impl_EndOk e (by have := hs.own; omega) (by have := hs.far; omega) (by have := hs.subs; omega) (by have := hs.halfs; omega) (by have := hs.list; omega) (by have := hs.done; omega) (by have := hs.over; omega)
 have hsub := hs.subs
 have hsf := hs.far
 have hso := hs.own
 have hf := man_f (e := e)
 have ht := man_t (e := e)
 have hH := impl_HaveOf e hs.subs
 have hhl := haveOf_le e.subs
 have hM64 := missing_le64 (wanted e.policy e.own e.far) (haveOf e.subs)
 obtain ⟨R, hR⟩ : ∃ R, R = manage e := ⟨_, rfl⟩
 rw [← hR] at hf ht
 rw [← hR]
 clear hR
 refine callA_ofO Tryz.func43 (by kernel_rfl) rfl fun E hE => run_den 400 ?_
 simp (disch := omega) only [Tryz.ntmps43, Tryz.results43, go_sem, Nat.reduceEqDiff, Nat.reduceAdd, Nat.reduceSub, Int.reduceAdd, Int.reduceSub, Int.reduceToNat]
 refine den_call (by (try simp (disch := omega) only [go_sem, List.length_set, Nat.reduceEqDiff, Nat.reduceAdd, Nat.reduceSub, Int.reduceAdd, Int.reduceSub, Int.reduceToNat]) <;> omega) (hC) [some (0, none), some (1, none), some (2, none), some (3, none), some (4, none), some (5, none), some (6, none)] (by simp only [go_sem]; repeat' first | rfl | constructor | (rw [List.map_set]; rfl) | (simp [List.map_take, List.map_drop] <;> omega)) (by rfl) (run_den 400 ?_)
 simp (disch := omega) only [go_sem, Nat.reduceEqDiff, Nat.reduceAdd, Nat.reduceSub, Int.reduceAdd, Int.reduceSub, Int.reduceToNat]
 refine den_call (by (try simp (disch := omega) only [go_sem, List.length_set, Nat.reduceEqDiff, Nat.reduceAdd, Nat.reduceSub, Int.reduceAdd, Int.reduceSub, Int.reduceToNat]) <;> omega) (hK) [some (0, none), some (1, none), some (2, none), some (3, none), some (4, none), some (5, none), some (6, none)] (by simp only [go_sem]; repeat' first | rfl | constructor | (rw [List.map_set]; rfl) | (simp [List.map_take, List.map_drop] <;> omega)) (by rfl) (run_den 400 ?_)
 simp (disch := omega) only [go_sem, Nat.reduceEqDiff, Nat.reduceAdd, Nat.reduceSub, Int.reduceAdd, Int.reduceSub, Int.reduceToNat]
 split <;> rename_i h1 <;> (try simp only [beq_true, beq_false, Bool.not_eq_true', Bool.not_eq_false'] at h1) <;> simp (disch := omega) only [go_sem, Nat.reduceEqDiff, Nat.reduceAdd, Nat.reduceSub, Int.reduceAdd, Int.reduceSub, Int.reduceToNat, h1] <;> (try simp only [decide_eq_true_eq, decide_eq_false_iff_not, beq_iff_eq, beq_eq_false_iff_ne, bne_iff_ne, bne_eq_false_iff_eq, ne_eq, Decidable.not_not, Bool.and_eq_true, Bool.and_eq_false_iff, Bool.or_eq_true, Bool.or_eq_false_iff, Int.ofNat_lt, Int.ofNat_le, Bool.not_eq_eq_eq_not, Bool.not_true, Bool.not_false] at h1) <;> try simp (disch := omega) only [go_sem, Nat.reduceEqDiff, Nat.reduceAdd, Nat.reduceSub, Int.reduceAdd, Int.reduceSub, Int.reduceToNat]
 ·split <;> rename_i h2 <;> (try simp only [beq_true, beq_false, Bool.not_eq_true', Bool.not_eq_false'] at h2) <;> simp (disch := omega) only [go_sem, Nat.reduceEqDiff, Nat.reduceAdd, Nat.reduceSub, Int.reduceAdd, Int.reduceSub, Int.reduceToNat, h2] <;> (try simp only [decide_eq_true_eq, decide_eq_false_iff_not, beq_iff_eq, beq_eq_false_iff_ne, bne_iff_ne, bne_eq_false_iff_eq, ne_eq, Decidable.not_not, Bool.and_eq_true, Bool.and_eq_false_iff, Bool.or_eq_true, Bool.or_eq_false_iff, Int.ofNat_lt, Int.ofNat_le, Bool.not_eq_eq_eq_not, Bool.not_true, Bool.not_false] at h2) <;> try simp (disch := omega) only [go_sem, Nat.reduceEqDiff, Nat.reduceAdd, Nat.reduceSub, Int.reduceAdd, Int.reduceSub, Int.reduceToNat]
  rotate_left
  ·have hR := ht ⟨h1, h2⟩
   have hWa := impl_WantedOf e.policy e.own e.far (endOk_pol h1) (by omega) (by omega)
   have hMi := impl_MissingOf (wanted e.policy e.own e.far) (haveOf e.subs) (by have := wanted_len e.policy e.own e.far; omega) (by omega)
   generalize hMM : missing (wanted e.policy e.own e.far) (haveOf e.subs) = M at *
   clear hMM
   refine den_draw1 [0, 1, 2, 3, 4, 5, 7, 11, 6, 8, 9, 10] (by kernel_rfl) (by (try simp (disch := omega) only [go_sem, List.length_set, Nat.reduceEqDiff, Nat.reduceAdd, Nat.reduceSub, Int.reduceAdd, Int.reduceSub, Int.reduceToNat]) <;> omega) (by kernel_rfl) (runD_den 400 ?_)
   simp (disch := omega) only [go_sem, Nat.reduceEqDiff, Nat.reduceAdd, Nat.reduceSub, Int.reduceAdd, Int.reduceSub, Int.reduceToNat]
   refine den_callD (by (try simp (disch := omega) only [go_sem, List.length_set, Nat.reduceEqDiff, Nat.reduceAdd, Nat.reduceSub, Int.reduceAdd, Int.reduceSub, Int.reduceToNat]) <;> omega) (hWa) [some (0, none), some (1, none)] (by simp only [go_sem]; repeat' first | rfl | constructor | (rw [List.map_set]; rfl) | (simp [List.map_take, List.map_drop] <;> omega)) (by rfl) (by rfl) (runD_den 400 ?_)
   simp (disch := omega) only [go_sem, Nat.reduceEqDiff, Nat.reduceAdd, Nat.reduceSub, Int.reduceAdd, Int.reduceSub, Int.reduceToNat]
   refine den_callD (by (try simp (disch := omega) only [go_sem, List.length_set, Nat.reduceEqDiff, Nat.reduceAdd, Nat.reduceSub, Int.reduceAdd, Int.reduceSub, Int.reduceToNat]) <;> omega) (hH) [some (0, none), some (1, none), some (2, none), some (3, none), some (4, none), some (5, none), some (6, none)] (by simp only [go_sem]; repeat' first | rfl | constructor | (rw [List.map_set]; rfl) | (simp [List.map_take, List.map_drop] <;> omega)) (by rfl) (by rfl) (runD_den 400 ?_)
   simp (disch := omega) only [go_sem, Nat.reduceEqDiff, Nat.reduceAdd, Nat.reduceSub, Int.reduceAdd, Int.reduceSub, Int.reduceToNat]
   refine den_callD (by (try simp (disch := omega) only [go_sem, List.length_set, Nat.reduceEqDiff, Nat.reduceAdd, Nat.reduceSub, Int.reduceAdd, Int.reduceSub, Int.reduceToNat]) <;> omega) (hMi) [some (17, none), some (18, none)] (by simp only [go_sem]; repeat' first | rfl | constructor | (rw [List.map_set]; rfl) | (simp [List.map_take, List.map_drop] <;> omega)) (by rfl) (by rfl) (runD_den 400 ?_)
   simp (disch := omega) only [go_sem, Nat.reduceEqDiff, Nat.reduceAdd, Nat.reduceSub, Int.reduceAdd, Int.reduceSub, Int.reduceToNat]
   refine ⟨by (try simp (disch := omega) only [go_sem, List.length_set, Nat.reduceEqDiff, Nat.reduceAdd, Nat.reduceSub, Int.reduceAdd, Int.reduceSub, Int.reduceToNat]) <;> omega, run_den 400 ?_⟩
   try simp (disch := omega) only [go_sem, Nat.reduceEqDiff, Nat.reduceAdd, Nat.reduceSub, Int.reduceAdd, Int.reduceSub, Int.reduceToNat]
   refine den_lpO 7 hE (fun s (y : Nat × EndD × List LetterD) => s.at [0, 7, 8, 9, 10, 11, 12, 13, 14, 15, 16, 17, 18, 19, 20, 21, 22, 23, 24, 25, 26, 27, 28, 29, 30, 34, 35, 36, 37, 38, 39, 40, 41, 42, 43, 44, 45, 46, 47, 48, 49, 50, 51, 52, 53, 54, 55, 56, 57, 58, 59, 60, 61] [(33, .sc (.int .i64 (y.1 : Nat))), (31, .sc (.sl 17 0 M.length)), (32, .sc (.int .i64 (M.length : Nat))), (5, .sc (.sl 18 0 y.2.2.length))] ((s.hp.take 9) ++ (y.2.1.hp true ++ [some ⟨[y.2.1.cs 9], 25, 41, true, false⟩, some ⟨M.map RoadD.cs, 3, 126, true, true⟩, some ⟨y.2.2.map LetterD.cs, 19, 57, true, true⟩]))) (fun (y : Nat × EndD × List LetterD) => y.1 ≤ M.length ∧ Small y.2.1 ∧ y.2.2.length ≤ y.1 ∧ R = ((manGo e.far y.2.1 (M.drop y.1)).1, y.2.2 ++ (manGo e.far y.2.1 (M.drop y.1)).2)) (fun (y : Nat × EndD × List LetterD) => M.length - y.1) (0, e, []) [some (0, none), some (1, none), some (2, none), some (3, none), some (4, none), some (5, none), some (6, none), some (7, none), some (8, none), some (9, none), some (10, none), some (11, none), some (12, none), some (13, none), some (14, none), some (15, none), some (16, none), some (19, none), none] (by (try simp (disch := omega) only [go_sem, List.length_set, Nat.reduceEqDiff, Nat.reduceAdd, Nat.reduceSub, Int.reduceAdd, Int.reduceSub, Int.reduceToNat]) <;> omega) (⟨Nat.zero_le _, hs, Nat.le_refl _, hR⟩) (weak_mkO (by rfl) (by rfl) ?_) fun y hy N hN => ?_
   ·try simp (disch := omega) only [go_sem, Nat.reduceEqDiff, Nat.reduceAdd, Nat.reduceSub, Int.reduceAdd, Int.reduceSub, Int.reduceToNat]
   ·obtain ⟨i, e1, l⟩ := y
    obtain ⟨g1, g2, g3, g4⟩ := hy
    dsimp only at g1 g2 g3 g4
    refine run_den 400 ?_
    try simp (disch := omega) only [go_sem, Nat.reduceEqDiff, Nat.reduceAdd, Nat.reduceSub, Int.reduceAdd, Int.reduceSub, Int.reduceToNat]
    split <;> rename_i b <;> (try simp only [beq_true, beq_false, Bool.not_eq_true', Bool.not_eq_false'] at b) <;> simp (disch := omega) only [go_sem, Nat.reduceEqDiff, Nat.reduceAdd, Nat.reduceSub, Int.reduceAdd, Int.reduceSub, Int.reduceToNat, b] <;> (try simp only [decide_eq_true_eq, decide_eq_false_iff_not, beq_iff_eq, beq_eq_false_iff_ne, bne_iff_ne, bne_eq_false_iff_eq, ne_eq, Decidable.not_not, Bool.and_eq_true, Bool.and_eq_false_iff, Bool.or_eq_true, Bool.or_eq_false_iff, Int.ofNat_lt, Int.ofNat_le, Bool.not_eq_eq_eq_not, Bool.not_true, Bool.not_false] at b) <;> try simp (disch := omega) only [go_sem, Nat.reduceEqDiff, Nat.reduceAdd, Nat.reduceSub, Int.reduceAdd, Int.reduceSub, Int.reduceToNat]
    ·rw [manGo_step b] at g4
     have hg := map_get (enc := RoadD.cs) b
     generalize hr : M[i] = r at *
     have hJ := impl_Join e1 r (spareOf e.far r.far) g2
     have hj1 := join_one e1 r (spareOf e.far r.far)
     have hjs := join_small (r := r) (b := spareOf e.far r.far) g2
     obtain ⟨pr, hpr⟩ : ∃ p, p = join e1 r (spareOf e.far r.far) := ⟨_, rfl⟩
     rw [← hpr] at hJ hj1 hjs g4
     obtain ⟨e2, l2⟩ := pr
     dsimp only at hJ hj1 hjs g4
     rw [← List.append_assoc] at g4
     try simp (disch := omega) only [go_sem, Nat.reduceEqDiff, Nat.reduceAdd, Nat.reduceSub, Int.reduceAdd, Int.reduceSub, Int.reduceToNat, hg, hr]
     refine den_call (by (try simp (disch := omega) only [go_sem, List.length_set, Nat.reduceEqDiff, Nat.reduceAdd, Nat.reduceSub, Int.reduceAdd, Int.reduceSub, Int.reduceToNat]) <;> omega) (impl_farAt e r.far hsf) [some (0, none), some (1, none), some (2, none), some (3, none), some (4, none), some (5, none), some (6, none)] (by simp only [go_sem]; repeat' first | rfl | constructor | (rw [List.map_set]; rfl) | (simp [List.map_take, List.map_drop] <;> omega)) (by rfl) (run_den 400 ?_)
     simp (disch := omega) only [go_sem, Nat.reduceEqDiff, Nat.reduceAdd, Nat.reduceSub, Int.reduceAdd, Int.reduceSub, Int.reduceToNat]
     rcases farAt_cases e.far r.far with ⟨q1, q2, q3⟩ | ⟨j, hj, q1, q2, q3⟩
     ·rw [q3] at hJ
      try simp (disch := omega) only [go_sem, Nat.reduceEqDiff, Nat.reduceAdd, Nat.reduceSub, Int.reduceAdd, Int.reduceSub, Int.reduceToNat, q1]
      refine den_drawX [(12, 16)] [] [[0, 1, 2, 3, 4, 5, 6, 7, 8, 9, 10, 11, 12, 13, 14, 15, 16, 17, 18], [0, 1, 2, 3, 4, 5, 6, 7, 8, 9, 10, 11, 16, 12, 13, 14, 15, 17, 18]] 7 hE (fun s => s.at [41, 42, 43, 44, 45, 46, 47, 48, 49, 50, 51, 52, 53, 54, 55, 56] [(9, .sc (.pt 28 0 0)), (10, .sc (.sl 27 0 l2.length))] (s.hp ++ (e2.hp true ++ [some ⟨l2.map LetterD.cs, 19, 57, true, true⟩, some ⟨[e2.cs 20], 25, 41, true, false⟩]))) (by kernel_rfl) (by (try simp (disch := omega) only [go_sem, List.length_set, Nat.reduceEqDiff, Nat.reduceAdd, Nat.reduceSub, Int.reduceAdd, Int.reduceSub, Int.reduceToNat]) <;> omega) (by kernel_rfl) ?_ (run_den 400 ?_)
      rotate_left
      rotate_right
      simp only [allDn]
      refine ⟨runD_den 400 ?_, runD_den 400 ?_⟩
      ·simp (disch := omega) only [go_sem, q1]
       refine den_callD (by (try simp (disch := omega) only [go_sem, List.length_set, Nat.reduceEqDiff, Nat.reduceAdd, Nat.reduceSub, Int.reduceAdd, Int.reduceSub, Int.reduceToNat]) <;> omega) (hJ) [some (9, none), some (10, none), some (11, none), some (12, none), some (13, none), some (14, none), some (15, none)] (by simp only [go_sem]; repeat' first | rfl | constructor | (rw [List.map_set]; rfl) | (simp [List.map_take, List.map_drop] <;> omega)) (by rfl) (by rfl) (runD_den 400 ?_)
       simp (disch := omega) only [go_sem, Nat.reduceEqDiff, Nat.reduceAdd, Nat.reduceSub, Int.reduceAdd, Int.reduceSub, Int.reduceToNat]
       refine ⟨by (try simp (disch := omega) only [go_sem, List.length_set, Nat.reduceEqDiff, Nat.reduceAdd, Nat.reduceSub, Int.reduceAdd, Int.reduceSub, Int.reduceToNat]) <;> omega, [some (0, none), some (1, none), some (2, none), some (3, none), some (4, none), some (5, none), some (6, none), some (7, none), some (8, none), some (9, none), some (10, none), some (11, none), some (12, none), some (13, none), some (14, none), some (15, none), some (16, none), some (17, none), some (18, none), some (19, none), some (20, none), some (21, none), some (22, none), some (23, none), some (24, none), some (25, none), some (26, none), some (27, none), some (28, none)], weak_mkO (by rfl) (by rfl) ?_⟩
       try simp (disch := omega) only [go_sem, Nat.reduceEqDiff, Nat.reduceAdd, Nat.reduceSub, Int.reduceAdd, Int.reduceSub, Int.reduceToNat]
      ·simp (disch := omega) only [go_sem, q1]
       refine den_callD (by (try simp (disch := omega) only [go_sem, List.length_set, Nat.reduceEqDiff, Nat.reduceAdd, Nat.reduceSub, Int.reduceAdd, Int.reduceSub, Int.reduceToNat]) <;> omega) (hJ) [some (9, none), some (10, none), some (11, none), some (12, none), some (13, none), some (14, none), some (15, none)] (by simp only [go_sem]; repeat' first | rfl | constructor | (rw [List.map_set]; rfl) | (simp [List.map_take, List.map_drop] <;> omega)) (by rfl) (by rfl) (runD_den 400 ?_)
       simp (disch := omega) only [go_sem, Nat.reduceEqDiff, Nat.reduceAdd, Nat.reduceSub, Int.reduceAdd, Int.reduceSub, Int.reduceToNat]
       refine ⟨by (try simp (disch := omega) only [go_sem, List.length_set, Nat.reduceEqDiff, Nat.reduceAdd, Nat.reduceSub, Int.reduceAdd, Int.reduceSub, Int.reduceToNat]) <;> omega, [some (0, none), some (1, none), some (2, none), some (3, none), some (4, none), some (5, none), some (6, none), some (7, none), some (8, none), some (9, none), some (10, none), some (11, none), some (12, none), some (13, none), some (14, none), some (15, none), some (16, none), some (17, none), some (18, none), some (19, none), some (21, none), some (22, none), some (23, none), some (24, none), some (25, none), some (26, none), some (27, none), some (28, none), some (20, none)], weak_mkO (by rfl) (by rfl) ?_⟩
       try simp (disch := omega) only [go_sem, Nat.reduceEqDiff, Nat.reduceAdd, Nat.reduceSub, Int.reduceAdd, Int.reduceSub, Int.reduceToNat]
      try simp (disch := omega) only [go_sem, Nat.reduceEqDiff, Nat.reduceAdd, Nat.reduceSub, Int.reduceAdd, Int.reduceSub, Int.reduceToNat]
      refine ⟨by (try simp (disch := omega) only [go_sem, List.length_set, Nat.reduceEqDiff, Nat.reduceAdd, Nat.reduceSub, Int.reduceAdd, Int.reduceSub, Int.reduceToNat]) <;> omega, hN _ (i + 1, e2, l ++ l2) [some (0, none), some (1, none), some (2, none), some (3, none), some (4, none), some (5, none), some (6, none), some (7, none), some (8, none), some (20, none), some (21, none), some (22, none), some (23, none), some (24, none), some (25, none), some (26, none), some (16, none), some (17, none), some (29, none)] (by (try dsimp only); exact ⟨by omega, hjs, by simp only [List.length_append]; omega, g4⟩) (by (try dsimp only); omega) (weak_mkO (by rfl) (by rfl) ?_)⟩
      try simp (disch := omega) only [go_sem, Nat.reduceEqDiff, Nat.reduceAdd, Nat.reduceSub, Int.reduceAdd, Int.reduceSub, Int.reduceToNat]
      try simp
     ·rw [q3] at hJ
      have hgf := map_get (enc := AddrD.cs) hj
      try simp (disch := omega) only [go_sem, Nat.reduceEqDiff, Nat.reduceAdd, Nat.reduceSub, Int.reduceAdd, Int.reduceSub, Int.reduceToNat, q1]
      refine den_drawX [(12, 16)] [] [[0, 1, 2, 3, 4, 5, 6, 7, 8, 9, 10, 11, 12, 13, 14, 15, 16, 17, 18], [0, 1, 2, 3, 4, 5, 6, 7, 8, 9, 10, 11, 16, 12, 13, 14, 15, 17, 18]] 7 hE (fun s => s.at [41, 42, 43, 44, 45, 46, 47, 48, 49, 50, 51, 52, 53, 54, 55, 56] [(9, .sc (.pt 28 0 0)), (10, .sc (.sl 27 0 l2.length))] (s.hp ++ (e2.hp true ++ [some ⟨l2.map LetterD.cs, 19, 57, true, true⟩, some ⟨[e2.cs 20], 25, 41, true, false⟩]))) (by kernel_rfl) (by (try simp (disch := omega) only [go_sem, List.length_set, Nat.reduceEqDiff, Nat.reduceAdd, Nat.reduceSub, Int.reduceAdd, Int.reduceSub, Int.reduceToNat]) <;> omega) (by kernel_rfl) ?_ (run_den 400 ?_)
      rotate_left
      rotate_right
      simp only [allDn]
      refine ⟨runD_den 400 ?_, runD_den 400 ?_⟩
      ·simp (disch := omega) only [go_sem, q1, hgf]
       refine den_callD (by (try simp (disch := omega) only [go_sem, List.length_set, Nat.reduceEqDiff, Nat.reduceAdd, Nat.reduceSub, Int.reduceAdd, Int.reduceSub, Int.reduceToNat]) <;> omega) (hJ) [some (9, none), some (10, none), some (11, none), some (12, none), some (13, none), some (14, none), some (15, none)] (by simp only [go_sem]; repeat' first | rfl | constructor | (rw [List.map_set]; rfl) | (simp [List.map_take, List.map_drop] <;> omega)) (by rfl) (by rfl) (runD_den 400 ?_)
       simp (disch := omega) only [go_sem, Nat.reduceEqDiff, Nat.reduceAdd, Nat.reduceSub, Int.reduceAdd, Int.reduceSub, Int.reduceToNat]
       refine ⟨by (try simp (disch := omega) only [go_sem, List.length_set, Nat.reduceEqDiff, Nat.reduceAdd, Nat.reduceSub, Int.reduceAdd, Int.reduceSub, Int.reduceToNat]) <;> omega, [some (0, none), some (1, none), some (2, none), some (3, none), some (4, none), some (5, none), some (6, none), some (7, none), some (8, none), some (9, none), some (10, none), some (11, none), some (12, none), some (13, none), some (14, none), some (15, none), some (16, none), some (17, none), some (18, none), some (19, none), some (20, none), some (21, none), some (22, none), some (23, none), some (24, none), some (25, none), some (26, none), some (27, none), some (28, none)], weak_mkO (by rfl) (by rfl) ?_⟩
       try simp (disch := omega) only [go_sem, Nat.reduceEqDiff, Nat.reduceAdd, Nat.reduceSub, Int.reduceAdd, Int.reduceSub, Int.reduceToNat]
      ·simp (disch := omega) only [go_sem, q1, hgf]
       refine den_callD (by (try simp (disch := omega) only [go_sem, List.length_set, Nat.reduceEqDiff, Nat.reduceAdd, Nat.reduceSub, Int.reduceAdd, Int.reduceSub, Int.reduceToNat]) <;> omega) (hJ) [some (9, none), some (10, none), some (11, none), some (12, none), some (13, none), some (14, none), some (15, none)] (by simp only [go_sem]; repeat' first | rfl | constructor | (rw [List.map_set]; rfl) | (simp [List.map_take, List.map_drop] <;> omega)) (by rfl) (by rfl) (runD_den 400 ?_)
       simp (disch := omega) only [go_sem, Nat.reduceEqDiff, Nat.reduceAdd, Nat.reduceSub, Int.reduceAdd, Int.reduceSub, Int.reduceToNat]
       refine ⟨by (try simp (disch := omega) only [go_sem, List.length_set, Nat.reduceEqDiff, Nat.reduceAdd, Nat.reduceSub, Int.reduceAdd, Int.reduceSub, Int.reduceToNat]) <;> omega, [some (0, none), some (1, none), some (2, none), some (3, none), some (4, none), some (5, none), some (6, none), some (7, none), some (8, none), some (9, none), some (10, none), some (11, none), some (12, none), some (13, none), some (14, none), some (15, none), some (16, none), some (17, none), some (18, none), some (19, none), some (21, none), some (22, none), some (23, none), some (24, none), some (25, none), some (26, none), some (27, none), some (28, none), some (20, none)], weak_mkO (by rfl) (by rfl) ?_⟩
       try simp (disch := omega) only [go_sem, Nat.reduceEqDiff, Nat.reduceAdd, Nat.reduceSub, Int.reduceAdd, Int.reduceSub, Int.reduceToNat]
      try simp (disch := omega) only [go_sem, Nat.reduceEqDiff, Nat.reduceAdd, Nat.reduceSub, Int.reduceAdd, Int.reduceSub, Int.reduceToNat]
      refine ⟨by (try simp (disch := omega) only [go_sem, List.length_set, Nat.reduceEqDiff, Nat.reduceAdd, Nat.reduceSub, Int.reduceAdd, Int.reduceSub, Int.reduceToNat]) <;> omega, hN _ (i + 1, e2, l ++ l2) [some (0, none), some (1, none), some (2, none), some (3, none), some (4, none), some (5, none), some (6, none), some (7, none), some (8, none), some (20, none), some (21, none), some (22, none), some (23, none), some (24, none), some (25, none), some (26, none), some (16, none), some (17, none), some (29, none)] (by (try dsimp only); exact ⟨by omega, hjs, by simp only [List.length_append]; omega, g4⟩) (by (try dsimp only); omega) (weak_mkO (by rfl) (by rfl) ?_)⟩
      try simp (disch := omega) only [go_sem, Nat.reduceEqDiff, Nat.reduceAdd, Nat.reduceSub, Int.reduceAdd, Int.reduceSub, Int.reduceToNat]
      try simp
    ·rw [manGo_end (by omega), List.append_nil] at g4
     subst g4
     try simp (disch := omega) only [go_sem, Nat.reduceEqDiff, Nat.reduceAdd, Nat.reduceSub, Int.reduceAdd, Int.reduceSub, Int.reduceToNat]
     refine den_finO [some (0, none), some (1, none), some (2, none), some (3, none), some (4, none), some (5, none), some (6, none), some (9, none), some (10, none), some (11, none), some (12, none), some (13, none), some (14, none), some (15, none), some (18, none)] (by (try simp (disch := omega) only [go_sem, List.length_set, Nat.reduceEqDiff, Nat.reduceAdd, Nat.reduceSub, Int.reduceAdd, Int.reduceSub, Int.reduceToNat]) <;> omega) _ (by simp only [go_sem]; rfl) (by rfl) (by rfl) ?_
     simp (disch := omega) only [go_sem, Nat.reduceEqDiff, Nat.reduceAdd, Nat.reduceSub, Int.reduceAdd, Int.reduceSub, Int.reduceToNat]
  ·rw [hf (fun h => h2 h.2)]
   try simp (disch := omega) only [go_sem, Nat.reduceEqDiff, Nat.reduceAdd, Nat.reduceSub, Int.reduceAdd, Int.reduceSub, Int.reduceToNat]
   refine den_finO [some (0, none), some (1, none), some (2, none), some (3, none), some (4, none), some (5, none), some (6, none), some (9, none), some (10, none), some (11, none), some (12, none), some (13, none), some (14, none), some (15, none), none] (by (try simp (disch := omega) only [go_sem, List.length_set, Nat.reduceEqDiff, Nat.reduceAdd, Nat.reduceSub, Int.reduceAdd, Int.reduceSub, Int.reduceToNat]) <;> omega) _ (by simp only [go_sem]; rfl) (by rfl) (by rfl) ?_
   simp (disch := omega) only [go_sem, Nat.reduceEqDiff, Nat.reduceAdd, Nat.reduceSub, Int.reduceAdd, Int.reduceSub, Int.reduceToNat]
 ·rw [hf (fun h => by rw [h1] at h; cases h.1)]
  try simp (disch := omega) only [go_sem, Nat.reduceEqDiff, Nat.reduceAdd, Nat.reduceSub, Int.reduceAdd, Int.reduceSub, Int.reduceToNat]
  refine den_finO [some (0, none), some (1, none), some (2, none), some (3, none), some (4, none), some (5, none), some (6, none), some (9, none), some (10, none), some (11, none), some (12, none), some (13, none), some (14, none), some (15, none), none] (by (try simp (disch := omega) only [go_sem, List.length_set, Nat.reduceEqDiff, Nat.reduceAdd, Nat.reduceSub, Int.reduceAdd, Int.reduceSub, Int.reduceToNat]) <;> omega) _ (by simp only [go_sem]; rfl) (by rfl) (by rfl) ?_
  simp (disch := omega) only [go_sem, Nat.reduceEqDiff, Nat.reduceAdd, Nat.reduceSub, Int.reduceAdd, Int.reduceSub, Int.reduceToNat]
end
section
open Go.RowKit

def untold (l : List AddrD) : List AddrD := l.filter fun a => !a.told
theorem ta_f {e : EndD} (h : taOk e = false) : tellAddrs e = [] := if_neg (by simp [h])
theorem ta_t {e : EndD} {k : Nat} (h : taOk e = true) (hk : (onN e.subs).headD 0 = k) (hl : k < e.subs.length) : tellAddrs e = (untold e.own).map (addrL e e.subs[k]) := by rw [tellAddrs, if_pos h, hk, subAtN_at hl]; rfl
theorem headD_get {l : List Nat} (h : 0 < l.length) : l.headD 0 = l[0] := by cases l with | nil => simp at h | cons a r => rfl
theorem impl_TellAddrs (e : EndD) (hs : Small e) : CallA Tryz.prog 107 [.ag (e.cs 0)] (e.hp false) (.sc (.sl 7 0 (tellAddrs e).length)) (e.hp false ++ [some ⟨(tellAddrs e).map LetterD.cs, 19, 57, true, true⟩]) := by
 have hN := impl_OnOf e (by have := hs.subs; omega)
 have hK := impl_EndOk e (by have := hs.own; omega) (by have := hs.far; omega) (by have := hs.subs; omega) (by have := hs.halfs; omega) (by have := hs.list; omega) (by have := hs.done; omega) (by have := hs.over; omega)
 have hown := hs.own
 have hf := ta_f (e := e)
 have ht := @ta_t e
 have hok : taOk e = (endOk e && decide (e.state = 2) && !decide ((onN e.subs).length = 0)) := rfl
 obtain ⟨R, hR⟩ : ∃ R, R = tellAddrs e := ⟨_, rfl⟩
 rw [← hR] at hf ht
 rw [← hR]
 clear hR
 refine callA_ofO Tryz.func107 (by kernel_rfl) rfl fun E hE => run_den 400 ?_
 simp (disch := omega) only [Tryz.ntmps107, Tryz.results107, go_sem, Nat.reduceEqDiff, Nat.reduceAdd, Nat.reduceSub, Int.reduceAdd, Int.reduceSub, Int.reduceToNat]
 refine den_call (by (try simp (disch := omega) only [go_sem, List.length_set, Nat.reduceEqDiff, Nat.reduceAdd, Nat.reduceSub, Int.reduceAdd, Int.reduceSub, Int.reduceToNat]) <;> omega) (hN) [some (0, none), some (1, none), some (2, none), some (3, none), some (4, none), some (5, none), some (6, none)] (by simp only [go_sem]; repeat' first | rfl | constructor | (rw [List.map_set]; rfl) | (simp [List.map_take, List.map_drop] <;> omega)) (by rfl) (run_den 400 ?_)
 simp (disch := omega) only [go_sem, Nat.reduceEqDiff, Nat.reduceAdd, Nat.reduceSub, Int.reduceAdd, Int.reduceSub, Int.reduceToNat]
 refine den_call (by (try simp (disch := omega) only [go_sem, List.length_set, Nat.reduceEqDiff, Nat.reduceAdd, Nat.reduceSub, Int.reduceAdd, Int.reduceSub, Int.reduceToNat]) <;> omega) (hK) [some (0, none), some (1, none), some (2, none), some (3, none), some (4, none), some (5, none), some (6, none)] (by simp only [go_sem]; repeat' first | rfl | constructor | (rw [List.map_set]; rfl) | (simp [List.map_take, List.map_drop] <;> omega)) (by rfl) (run_den 400 ?_)
 simp (disch := omega) only [go_sem, Nat.reduceEqDiff, Nat.reduceAdd, Nat.reduceSub, Int.reduceAdd, Int.reduceSub, Int.reduceToNat]
 split <;> rename_i h1 <;> (try simp only [beq_true, beq_false, Bool.not_eq_true', Bool.not_eq_false'] at h1) <;> simp (disch := omega) only [go_sem, Nat.reduceEqDiff, Nat.reduceAdd, Nat.reduceSub, Int.reduceAdd, Int.reduceSub, Int.reduceToNat, h1] <;> (try simp only [decide_eq_true_eq, decide_eq_false_iff_not, beq_iff_eq, beq_eq_false_iff_ne, bne_iff_ne, bne_eq_false_iff_eq, ne_eq, Decidable.not_not, Bool.and_eq_true, Bool.and_eq_false_iff, Bool.or_eq_true, Bool.or_eq_false_iff, Int.ofNat_lt, Int.ofNat_le, Bool.not_eq_eq_eq_not, Bool.not_true, Bool.not_false] at h1) <;> try simp (disch := omega) only [go_sem, Nat.reduceEqDiff, Nat.reduceAdd, Nat.reduceSub, Int.reduceAdd, Int.reduceSub, Int.reduceToNat]
 ·split <;> rename_i h2 <;> (try simp only [beq_true, beq_false, Bool.not_eq_true', Bool.not_eq_false'] at h2) <;> simp (disch := omega) only [go_sem, Nat.reduceEqDiff, Nat.reduceAdd, Nat.reduceSub, Int.reduceAdd, Int.reduceSub, Int.reduceToNat, h2] <;> (try simp only [decide_eq_true_eq, decide_eq_false_iff_not, beq_iff_eq, beq_eq_false_iff_ne, bne_iff_ne, bne_eq_false_iff_eq, ne_eq, Decidable.not_not, Bool.and_eq_true, Bool.and_eq_false_iff, Bool.or_eq_true, Bool.or_eq_false_iff, Int.ofNat_lt, Int.ofNat_le, Bool.not_eq_eq_eq_not, Bool.not_true, Bool.not_false] at h2) <;> try simp (disch := omega) only [go_sem, Nat.reduceEqDiff, Nat.reduceAdd, Nat.reduceSub, Int.reduceAdd, Int.reduceSub, Int.reduceToNat]
  ·by_cases h3 : (onN e.subs).length = 0
   ·rw [hf (by rw [hok]; simp [h3])]
    try simp (disch := omega) only [go_sem, Nat.reduceEqDiff, Nat.reduceAdd, Nat.reduceSub, Int.reduceAdd, Int.reduceSub, Int.reduceToNat, h3]
    refine den_finO [some (0, none), some (1, none), some (2, none), some (3, none), some (4, none), some (5, none), some (6, none), none] (by (try simp (disch := omega) only [go_sem, List.length_set, Nat.reduceEqDiff, Nat.reduceAdd, Nat.reduceSub, Int.reduceAdd, Int.reduceSub, Int.reduceToNat]) <;> omega) _ (by simp only [go_sem]; rfl) (by rfl) (by rfl) ?_
    simp (disch := omega) only [go_sem, Nat.reduceEqDiff, Nat.reduceAdd, Nat.reduceSub, Int.reduceAdd, Int.reduceSub, Int.reduceToNat]
   ·have hpos : 0 < (onN e.subs).length := by omega
    have hk := onN_lt hpos
    have hR := ht (by rw [hok]; simp [h1, h2, h3]) (headD_get hpos) hk
    have hgo := map_get (enc := natC) hpos
    generalize hk0 : (onN e.subs)[0] = k0 at *
    have hgs := map_get (enc := SubD.cs) hk
    generalize hss : e.subs[k0] = s0 at *
    try simp (disch := omega) only [go_sem, Nat.reduceEqDiff, Nat.reduceAdd, Nat.reduceSub, Int.reduceAdd, Int.reduceSub, Int.reduceToNat]
    refine den_draw1 [0, 1, 2, 3, 4, 5, 6, 7, 8] (by kernel_rfl) (by (try simp (disch := omega) only [go_sem, List.length_set, Nat.reduceEqDiff, Nat.reduceAdd, Nat.reduceSub, Int.reduceAdd, Int.reduceSub, Int.reduceToNat]) <;> omega) (by kernel_rfl) (runD_den 400 ?_)
    simp (disch := omega) only [go_sem, Nat.reduceEqDiff, Nat.reduceAdd, Nat.reduceSub, Int.reduceAdd, Int.reduceSub, Int.reduceToNat]
    try simp (disch := omega) only [go_sem, Nat.reduceEqDiff, Nat.reduceAdd, Nat.reduceSub, Int.reduceAdd, Int.reduceSub, Int.reduceToNat, hgo, hk0, natC, hgs, hss]
    refine ⟨by (try simp (disch := omega) only [go_sem, List.length_set, Nat.reduceEqDiff, Nat.reduceAdd, Nat.reduceSub, Int.reduceAdd, Int.reduceSub, Int.reduceToNat]) <;> omega, run_den 400 ?_⟩
    try simp (disch := omega) only [go_sem, Nat.reduceEqDiff, Nat.reduceAdd, Nat.reduceSub, Int.reduceAdd, Int.reduceSub, Int.reduceToNat]
    refine den_lpO 7 hE (fun s (y : Nat × List LetterD) => s.at [0, 3, 7, 8, 9, 10, 11, 12, 13, 14, 15, 16, 17, 18, 19, 20, 21, 22, 23, 24, 25, 26, 27, 28, 29, 30, 34, 35, 36, 37, 38, 39, 40, 41, 42, 43, 44, 45, 46, 47, 48, 49, 50, 51, 52, 53, 54, 55, 56, 57, 58, 59, 60, 61, 62, 63, 64] [(33, .sc (.int .i64 (y.1 : Nat))), (5, .sc (.sl 10 0 y.2.length))] ((s.hp.take 10) ++ [some ⟨y.2.map LetterD.cs, 19, 57, true, true⟩])) (fun (y : Nat × List LetterD) => y.1 ≤ e.own.length ∧ y.2.length ≤ y.1 ∧ R = y.2 ++ ((e.own.drop y.1).filter (fun a => !a.told)).map (addrL e s0)) (fun (y : Nat × List LetterD) => e.own.length - y.1) (0, []) [some (0, none), some (1, none), some (2, none), some (3, none), some (4, none), some (5, none), some (6, none), some (7, none), some (8, none), some (9, none), none] (by (try simp (disch := omega) only [go_sem, List.length_set, Nat.reduceEqDiff, Nat.reduceAdd, Nat.reduceSub, Int.reduceAdd, Int.reduceSub, Int.reduceToNat]) <;> omega) (⟨Nat.zero_le _, Nat.zero_le _, hR⟩) (weak_mkO (by rfl) (by rfl) ?_) fun y hy N hN => ?_
    ·try simp (disch := omega) only [go_sem, Nat.reduceEqDiff, Nat.reduceAdd, Nat.reduceSub, Int.reduceAdd, Int.reduceSub, Int.reduceToNat]
    ·obtain ⟨i, l⟩ := y
     obtain ⟨g1, g2, g3⟩ := hy
     dsimp only at g1 g2 g3
     refine run_den 400 ?_
     try simp (disch := omega) only [go_sem, Nat.reduceEqDiff, Nat.reduceAdd, Nat.reduceSub, Int.reduceAdd, Int.reduceSub, Int.reduceToNat]
     split <;> rename_i b <;> (try simp only [beq_true, beq_false, Bool.not_eq_true', Bool.not_eq_false'] at b) <;> simp (disch := omega) only [go_sem, Nat.reduceEqDiff, Nat.reduceAdd, Nat.reduceSub, Int.reduceAdd, Int.reduceSub, Int.reduceToNat, b] <;> (try simp only [decide_eq_true_eq, decide_eq_false_iff_not, beq_iff_eq, beq_eq_false_iff_ne, bne_iff_ne, bne_eq_false_iff_eq, ne_eq, Decidable.not_not, Bool.and_eq_true, Bool.and_eq_false_iff, Bool.or_eq_true, Bool.or_eq_false_iff, Int.ofNat_lt, Int.ofNat_le, Bool.not_eq_eq_eq_not, Bool.not_true, Bool.not_false] at b) <;> try simp (disch := omega) only [go_sem, Nat.reduceEqDiff, Nat.reduceAdd, Nat.reduceSub, Int.reduceAdd, Int.reduceSub, Int.reduceToNat]
     ·rw [filt_step b] at g3
      have hg := map_get (enc := AddrD.cs) b
      generalize hae : e.own[i] = a at *
      try simp (disch := omega) only [go_sem, Nat.reduceEqDiff, Nat.reduceAdd, Nat.reduceSub, Int.reduceAdd, Int.reduceSub, Int.reduceToNat, hg, hae]
      cases htd : a.told with
      | true =>
       rw [if_neg (by simp [htd])] at g3
       try simp (disch := omega) only [go_sem, Nat.reduceEqDiff, Nat.reduceAdd, Nat.reduceSub, Int.reduceAdd, Int.reduceSub, Int.reduceToNat, htd]
       refine ⟨by (try simp (disch := omega) only [go_sem, List.length_set, Nat.reduceEqDiff, Nat.reduceAdd, Nat.reduceSub, Int.reduceAdd, Int.reduceSub, Int.reduceToNat]) <;> omega, hN _ (i + 1, l) [some (0, none), some (1, none), some (2, none), some (3, none), some (4, none), some (5, none), some (6, none), some (7, none), some (8, none), some (9, none), some (10, none)] (by (try dsimp only); exact ⟨by omega, by omega, g3⟩) (by (try dsimp only); omega) (weak_mkO (by rfl) (by rfl) ?_)⟩
       try simp (disch := omega) only [go_sem, Nat.reduceEqDiff, Nat.reduceAdd, Nat.reduceSub, Int.reduceAdd, Int.reduceSub, Int.reduceToNat]
      | false =>
       rw [if_pos (by simp [htd]), List.map_cons] at g3
       try simp (disch := omega) only [go_sem, Nat.reduceEqDiff, Nat.reduceAdd, Nat.reduceSub, Int.reduceAdd, Int.reduceSub, Int.reduceToNat, htd]
       refine den_draw1 [0, 1, 2, 3, 4, 5, 6, 7, 8, 9, 10, 11, 12, 13, 14, 15, 16, 17, 18, 19, 20, 21, 22, 23, 24] (by kernel_rfl) (by (try simp (disch := omega) only [go_sem, List.length_set, Nat.reduceEqDiff, Nat.reduceAdd, Nat.reduceSub, Int.reduceAdd, Int.reduceSub, Int.reduceToNat]) <;> omega) (by kernel_rfl) (runD_den 400 ?_)
       simp (disch := omega) only [go_sem, Nat.reduceEqDiff, Nat.reduceAdd, Nat.reduceSub, Int.reduceAdd, Int.reduceSub, Int.reduceToNat]
       refine den_callD (by (try simp (disch := omega) only [go_sem, List.length_set, Nat.reduceEqDiff, Nat.reduceAdd, Nat.reduceSub, Int.reduceAdd, Int.reduceSub, Int.reduceToNat]) <;> omega) (impl_TagAddr e.key e.peer a.id a.addr) [] (by simp only [go_sem]; repeat' first | rfl | constructor | (rw [List.map_set]; rfl) | (simp [List.map_take, List.map_drop] <;> omega)) (by rfl) (by rfl) (runD_den 400 ?_)
       simp (disch := omega) only [go_sem, Nat.reduceEqDiff, Nat.reduceAdd, Nat.reduceSub, Int.reduceAdd, Int.reduceSub, Int.reduceToNat]
       refine den_callD (by (try simp (disch := omega) only [go_sem, List.length_set, Nat.reduceEqDiff, Nat.reduceAdd, Nat.reduceSub, Int.reduceAdd, Int.reduceSub, Int.reduceToNat]) <;> omega) (impl_Between s0.road { letNone with kind := 8, tag := ⟨3, e.key, e.peer, a.id, a.addr⟩, sgn := s0.give, id := a.id, addr := a.addr, spare := a.spare }) [] (by simp only [go_sem]; repeat' first | rfl | constructor | (rw [List.map_set]; rfl) | (simp [List.map_take, List.map_drop] <;> omega)) (by rfl) (by rfl) (runD_den 400 ?_)
       simp (disch := omega) only [go_sem, Nat.reduceEqDiff, Nat.reduceAdd, Nat.reduceSub, Int.reduceAdd, Int.reduceSub, Int.reduceToNat]
       refine ⟨by (try simp (disch := omega) only [go_sem, List.length_set, Nat.reduceEqDiff, Nat.reduceAdd, Nat.reduceSub, Int.reduceAdd, Int.reduceSub, Int.reduceToNat]) <;> omega, run_den 400 ?_⟩
       try simp (disch := omega) only [go_sem, Nat.reduceEqDiff, Nat.reduceAdd, Nat.reduceSub, Int.reduceAdd, Int.reduceSub, Int.reduceToNat]
       refine ⟨by (try simp (disch := omega) only [go_sem, List.length_set, Nat.reduceEqDiff, Nat.reduceAdd, Nat.reduceSub, Int.reduceAdd, Int.reduceSub, Int.reduceToNat]) <;> omega, hN _ (i + 1, l ++ [addrL e s0 a]) [some (0, none), some (1, none), some (2, none), some (3, none), some (4, none), some (5, none), some (6, none), some (7, none), some (8, none), some (9, none), some (13, none)] (by (try dsimp only); exact ⟨by omega, by simp; omega, by simpa using g3⟩) (by (try dsimp only); omega) (weak_mkO (by rfl) (by rfl) ?_)⟩
       try simp (disch := omega) only [go_sem, Nat.reduceEqDiff, Nat.reduceAdd, Nat.reduceSub, Int.reduceAdd, Int.reduceSub, Int.reduceToNat]
       rw [List.map_append]
       rfl
     ·rw [filt_end (by omega), List.map_nil, List.append_nil] at g3
      subst g3
      try simp (disch := omega) only [go_sem, Nat.reduceEqDiff, Nat.reduceAdd, Nat.reduceSub, Int.reduceAdd, Int.reduceSub, Int.reduceToNat]
      refine den_finO [some (0, none), some (1, none), some (2, none), some (3, none), some (4, none), some (5, none), some (6, none), some (10, none)] (by (try simp (disch := omega) only [go_sem, List.length_set, Nat.reduceEqDiff, Nat.reduceAdd, Nat.reduceSub, Int.reduceAdd, Int.reduceSub, Int.reduceToNat]) <;> omega) _ (by simp only [go_sem]; rfl) (by rfl) (by rfl) ?_
      simp (disch := omega) only [go_sem, Nat.reduceEqDiff, Nat.reduceAdd, Nat.reduceSub, Int.reduceAdd, Int.reduceSub, Int.reduceToNat]
  ·rw [hf (by rw [hok]; simp [h2])]
   try simp (disch := omega) only [go_sem, Nat.reduceEqDiff, Nat.reduceAdd, Nat.reduceSub, Int.reduceAdd, Int.reduceSub, Int.reduceToNat]
   refine den_finO [some (0, none), some (1, none), some (2, none), some (3, none), some (4, none), some (5, none), some (6, none), none] (by (try simp (disch := omega) only [go_sem, List.length_set, Nat.reduceEqDiff, Nat.reduceAdd, Nat.reduceSub, Int.reduceAdd, Int.reduceSub, Int.reduceToNat]) <;> omega) _ (by simp only [go_sem]; rfl) (by rfl) (by rfl) ?_
   simp (disch := omega) only [go_sem, Nat.reduceEqDiff, Nat.reduceAdd, Nat.reduceSub, Int.reduceAdd, Int.reduceSub, Int.reduceToNat]
 ·rw [hf (by rw [hok]; simp [h1])]
  try simp (disch := omega) only [go_sem, Nat.reduceEqDiff, Nat.reduceAdd, Nat.reduceSub, Int.reduceAdd, Int.reduceSub, Int.reduceToNat]
  refine den_finO [some (0, none), some (1, none), some (2, none), some (3, none), some (4, none), some (5, none), some (6, none), none] (by (try simp (disch := omega) only [go_sem, List.length_set, Nat.reduceEqDiff, Nat.reduceAdd, Nat.reduceSub, Int.reduceAdd, Int.reduceSub, Int.reduceToNat]) <;> omega) _ (by simp only [go_sem]; rfl) (by rfl) (by rfl) ?_
  simp (disch := omega) only [go_sem, Nat.reduceEqDiff, Nat.reduceAdd, Nat.reduceSub, Int.reduceAdd, Int.reduceSub, Int.reduceToNat]
end
section
open Go.RowKit

def stepN {α : Type} (f : α → α) (l : List α) (k : Nat) : List α := (l.take k).map f ++ l.drop k
theorem stepN_len {α : Type} {f : α → α} {l : List α} {k : Nat} : (stepN f l k).length = l.length := by simp [stepN]; omega
theorem stepN_at {α : Type} {f : α → α} {l : List α} {k : Nat} (h : k < l.length) : (stepN f l k)[k]? = some l[k] := by
 have h1 : ((l.take k).map f).length = k := by simp; omega
 rw [stepN, List.getElem?_append_right (by omega), List.drop_eq_getElem_cons h, h1]
 simp
theorem stepN_get {α : Type} {f : α → α} {l : List α} {k : Nat} (h : k < l.length) : ∀ p : k < (stepN f l k).length, (stepN f l k)[k]'p = l[k] := by
 intro p
 have hq := stepN_at (f := f) h
 rw [List.getElem?_eq_getElem p] at hq
 exact Option.some.inj hq
theorem stepN_set {α : Type} {f : α → α} {l : List α} {k : Nat} (h : k < l.length) : (stepN f l k).set k (f l[k]) = stepN f l (k + 1) := by
 have h1 : ((l.take k).map f).length = k := by simp; omega
 rw [stepN, stepN, List.set_append_right _ _ (by omega), List.take_succ_eq_append_getElem h, List.map_append, h1]
 simp
 rw [List.drop_eq_getElem_cons h]
 rfl
theorem stepN_same {α : Type} {f : α → α} {l : List α} {k : Nat} (h : k < l.length) (hs : f l[k] = l[k]) : stepN f l (k + 1) = stepN f l k := by
 rw [stepN, stepN, List.take_succ_eq_append_getElem h, List.map_append, List.drop_eq_getElem_cons h]
 simp [hs]
theorem stepN_zero {α : Type} {f : α → α} {l : List α} : stepN f l 0 = l := by simp [stepN]
theorem stepN_all {α : Type} {f : α → α} {l : List α} : stepN f l l.length = l.map f := by simp [stepN]
theorem do_f {e : EndD} {n : Int} (h : doOk e n = false) : dropOwn e n = (e, []) := if_neg (by simp [h])
theorem do_t {e : EndD} {n : Int} {i : Nat} (h : doOk e n = true) (hi : addrAt e.own n = (i : Int)) (hl : i < e.own.length) :
  dropOwn e n = ({ e with own := (dropAddr e.own n).1, done := putI e.done n, subs := e.subs.map (goneO e.own[i].addr) }, (onN (e.subs.map (goneO e.own[i].addr))).map fun k => goneL n (subAtN (e.subs.map (goneO e.own[i].addr)) k)) := by
 rw [dropOwn, if_pos h, dropSubs, hi, Int.toNat_natCast, adAtN_at hl]
theorem endOk_done {e : EndD} (h : endOk e = true) : e.done.length ≤ 256 := (endOk_ids h).1
theorem impl_DropOwn (e : EndD) (n : Int) (hs : Small e) : CallA Tryz.prog 46 [.ag (e.cs 0), .sc (.int .i64 n)] (e.hp false) (.tu [.ag ((dropOwn e n).1.cs 7), .sc (.sl 14 0 (dropOwn e n).2.length)])
  (e.hp false ++ ((dropOwn e n).1.hp true ++ [some ⟨(dropOwn e n).2.map LetterD.cs, 19, 57, true, true⟩])) := by
 have hC := impl_copyEnd e (by have := hs.own; omega) (by have := hs.far; omega) (by have := hs.subs; omega) (by have := hs.halfs; omega) (by have := hs.list; omega) (by have := hs.done; omega) (by have := hs.over; omega)
 have hK := impl_EndOk e (by have := hs.own; omega) (by have := hs.far; omega) (by have := hs.subs; omega) (by have := hs.halfs; omega) (by have := hs.list; omega) (by have := hs.done; omega) (by have := hs.over; omega)
 have hA := impl_AddrAt e.own n (by have := hs.own; omega)
 have hD := impl_DropAddr e.own n (by have := hs.own; omega)
 have hsb := hs.subs
 have hso := hs.own
 have hbd := addrAt_bd e.own n
 have hf := do_f (e := e) (n := n)
 have ht := @do_t e n
 have hok : doOk e n = (endOk e && decide (e.state = 2) && decide (0 ≤ addrAt e.own n)) := rfl
 obtain ⟨R, hR⟩ : ∃ R, R = dropOwn e n := ⟨_, rfl⟩
 rw [← hR] at hf ht
 rw [← hR]
 clear hR
 refine callA_ofO Tryz.func46 (by kernel_rfl) rfl fun E hE => run_den 400 ?_
 simp (disch := omega) only [Tryz.ntmps46, Tryz.results46, go_sem, Nat.reduceEqDiff, Nat.reduceAdd, Nat.reduceSub, Int.reduceAdd, Int.reduceSub, Int.reduceToNat]
 refine den_call (by (try simp (disch := omega) only [go_sem, List.length_set, Nat.reduceEqDiff, Nat.reduceAdd, Nat.reduceSub, Int.reduceAdd, Int.reduceSub, Int.reduceToNat]) <;> omega) (hC) [some (0, none), some (1, none), some (2, none), some (3, none), some (4, none), some (5, none), some (6, none)] (by simp only [go_sem]; repeat' first | rfl | constructor | (rw [List.map_set]; rfl) | (simp [List.map_take, List.map_drop] <;> omega)) (by rfl) (run_den 400 ?_)
 simp (disch := omega) only [go_sem, Nat.reduceEqDiff, Nat.reduceAdd, Nat.reduceSub, Int.reduceAdd, Int.reduceSub, Int.reduceToNat]
 refine den_call (by (try simp (disch := omega) only [go_sem, List.length_set, Nat.reduceEqDiff, Nat.reduceAdd, Nat.reduceSub, Int.reduceAdd, Int.reduceSub, Int.reduceToNat]) <;> omega) (hA) [some (0, none)] (by simp only [go_sem]; repeat' first | rfl | constructor | (rw [List.map_set]; rfl) | (simp [List.map_take, List.map_drop] <;> omega)) (by rfl) (run_den 400 ?_)
 simp (disch := omega) only [go_sem, Nat.reduceEqDiff, Nat.reduceAdd, Nat.reduceSub, Int.reduceAdd, Int.reduceSub, Int.reduceToNat]
 rcases hbd with hi0 | ⟨hi0, hi1⟩
 ·rw [hf (by rw [hok, hi0]; simp)]
  rw [hi0]
  try simp (disch := omega) only [go_sem, Nat.reduceEqDiff, Nat.reduceAdd, Nat.reduceSub, Int.reduceAdd, Int.reduceSub, Int.reduceToNat]
  refine den_call (by (try simp (disch := omega) only [go_sem, List.length_set, Nat.reduceEqDiff, Nat.reduceAdd, Nat.reduceSub, Int.reduceAdd, Int.reduceSub, Int.reduceToNat]) <;> omega) (hK) [some (0, none), some (1, none), some (2, none), some (3, none), some (4, none), some (5, none), some (6, none)] (by simp only [go_sem]; repeat' first | rfl | constructor | (rw [List.map_set]; rfl) | (simp [List.map_take, List.map_drop] <;> omega)) (by rfl) (run_den 400 ?_)
  simp (disch := omega) only [go_sem, Nat.reduceEqDiff, Nat.reduceAdd, Nat.reduceSub, Int.reduceAdd, Int.reduceSub, Int.reduceToNat]
  split <;> rename_i h1 <;> (try simp only [beq_true, beq_false, Bool.not_eq_true', Bool.not_eq_false'] at h1) <;> simp (disch := omega) only [go_sem, Nat.reduceEqDiff, Nat.reduceAdd, Nat.reduceSub, Int.reduceAdd, Int.reduceSub, Int.reduceToNat, h1] <;> (try simp only [decide_eq_true_eq, decide_eq_false_iff_not, beq_iff_eq, beq_eq_false_iff_ne, bne_iff_ne, bne_eq_false_iff_eq, ne_eq, Decidable.not_not, Bool.and_eq_true, Bool.and_eq_false_iff, Bool.or_eq_true, Bool.or_eq_false_iff, Int.ofNat_lt, Int.ofNat_le, Bool.not_eq_eq_eq_not, Bool.not_true, Bool.not_false] at h1) <;> try simp (disch := omega) only [go_sem, Nat.reduceEqDiff, Nat.reduceAdd, Nat.reduceSub, Int.reduceAdd, Int.reduceSub, Int.reduceToNat]
  ·split <;> rename_i h2 <;> (try simp only [beq_true, beq_false, Bool.not_eq_true', Bool.not_eq_false'] at h2) <;> simp (disch := omega) only [go_sem, Nat.reduceEqDiff, Nat.reduceAdd, Nat.reduceSub, Int.reduceAdd, Int.reduceSub, Int.reduceToNat, h2] <;> (try simp only [decide_eq_true_eq, decide_eq_false_iff_not, beq_iff_eq, beq_eq_false_iff_ne, bne_iff_ne, bne_eq_false_iff_eq, ne_eq, Decidable.not_not, Bool.and_eq_true, Bool.and_eq_false_iff, Bool.or_eq_true, Bool.or_eq_false_iff, Int.ofNat_lt, Int.ofNat_le, Bool.not_eq_eq_eq_not, Bool.not_true, Bool.not_false] at h2) <;> try simp (disch := omega) only [go_sem, Nat.reduceEqDiff, Nat.reduceAdd, Nat.reduceSub, Int.reduceAdd, Int.reduceSub, Int.reduceToNat]
   ·try simp (disch := omega) only [go_sem, Nat.reduceEqDiff, Nat.reduceAdd, Nat.reduceSub, Int.reduceAdd, Int.reduceSub, Int.reduceToNat]
    refine den_finO [some (0, none), some (1, none), some (2, none), some (3, none), some (4, none), some (5, none), some (6, none), some (9, none), some (10, none), some (11, none), some (12, none), some (13, none), some (14, none), some (15, none), none] (by (try simp (disch := omega) only [go_sem, List.length_set, Nat.reduceEqDiff, Nat.reduceAdd, Nat.reduceSub, Int.reduceAdd, Int.reduceSub, Int.reduceToNat]) <;> omega) _ (by simp only [go_sem]; rfl) (by rfl) (by rfl) ?_
    simp (disch := omega) only [go_sem, Nat.reduceEqDiff, Nat.reduceAdd, Nat.reduceSub, Int.reduceAdd, Int.reduceSub, Int.reduceToNat]
   ·try simp (disch := omega) only [go_sem, Nat.reduceEqDiff, Nat.reduceAdd, Nat.reduceSub, Int.reduceAdd, Int.reduceSub, Int.reduceToNat]
    refine den_finO [some (0, none), some (1, none), some (2, none), some (3, none), some (4, none), some (5, none), some (6, none), some (9, none), some (10, none), some (11, none), some (12, none), some (13, none), some (14, none), some (15, none), none] (by (try simp (disch := omega) only [go_sem, List.length_set, Nat.reduceEqDiff, Nat.reduceAdd, Nat.reduceSub, Int.reduceAdd, Int.reduceSub, Int.reduceToNat]) <;> omega) _ (by simp only [go_sem]; rfl) (by rfl) (by rfl) ?_
    simp (disch := omega) only [go_sem, Nat.reduceEqDiff, Nat.reduceAdd, Nat.reduceSub, Int.reduceAdd, Int.reduceSub, Int.reduceToNat]
  ·try simp (disch := omega) only [go_sem, Nat.reduceEqDiff, Nat.reduceAdd, Nat.reduceSub, Int.reduceAdd, Int.reduceSub, Int.reduceToNat]
   refine den_finO [some (0, none), some (1, none), some (2, none), some (3, none), some (4, none), some (5, none), some (6, none), some (9, none), some (10, none), some (11, none), some (12, none), some (13, none), some (14, none), some (15, none), none] (by (try simp (disch := omega) only [go_sem, List.length_set, Nat.reduceEqDiff, Nat.reduceAdd, Nat.reduceSub, Int.reduceAdd, Int.reduceSub, Int.reduceToNat]) <;> omega) _ (by simp only [go_sem]; rfl) (by rfl) (by rfl) ?_
   simp (disch := omega) only [go_sem, Nat.reduceEqDiff, Nat.reduceAdd, Nat.reduceSub, Int.reduceAdd, Int.reduceSub, Int.reduceToNat]
 ·obtain ⟨i, hi⟩ := Int.eq_ofNat_of_zero_le hi0
  have hil : i < e.own.length := by omega
  rw [hi]
  try simp (disch := omega) only [go_sem, Nat.reduceEqDiff, Nat.reduceAdd, Nat.reduceSub, Int.reduceAdd, Int.reduceSub, Int.reduceToNat]
  refine den_call (by (try simp (disch := omega) only [go_sem, List.length_set, Nat.reduceEqDiff, Nat.reduceAdd, Nat.reduceSub, Int.reduceAdd, Int.reduceSub, Int.reduceToNat]) <;> omega) (hK) [some (0, none), some (1, none), some (2, none), some (3, none), some (4, none), some (5, none), some (6, none)] (by simp only [go_sem]; repeat' first | rfl | constructor | (rw [List.map_set]; rfl) | (simp [List.map_take, List.map_drop] <;> omega)) (by rfl) (run_den 400 ?_)
  simp (disch := omega) only [go_sem, Nat.reduceEqDiff, Nat.reduceAdd, Nat.reduceSub, Int.reduceAdd, Int.reduceSub, Int.reduceToNat]
  split <;> rename_i h1 <;> (try simp only [beq_true, beq_false, Bool.not_eq_true', Bool.not_eq_false'] at h1) <;> simp (disch := omega) only [go_sem, Nat.reduceEqDiff, Nat.reduceAdd, Nat.reduceSub, Int.reduceAdd, Int.reduceSub, Int.reduceToNat, h1] <;> (try simp only [decide_eq_true_eq, decide_eq_false_iff_not, beq_iff_eq, beq_eq_false_iff_ne, bne_iff_ne, bne_eq_false_iff_eq, ne_eq, Decidable.not_not, Bool.and_eq_true, Bool.and_eq_false_iff, Bool.or_eq_true, Bool.or_eq_false_iff, Int.ofNat_lt, Int.ofNat_le, Bool.not_eq_eq_eq_not, Bool.not_true, Bool.not_false] at h1) <;> try simp (disch := omega) only [go_sem, Nat.reduceEqDiff, Nat.reduceAdd, Nat.reduceSub, Int.reduceAdd, Int.reduceSub, Int.reduceToNat]
  ·split <;> rename_i h2 <;> (try simp only [beq_true, beq_false, Bool.not_eq_true', Bool.not_eq_false'] at h2) <;> simp (disch := omega) only [go_sem, Nat.reduceEqDiff, Nat.reduceAdd, Nat.reduceSub, Int.reduceAdd, Int.reduceSub, Int.reduceToNat, h2] <;> (try simp only [decide_eq_true_eq, decide_eq_false_iff_not, beq_iff_eq, beq_eq_false_iff_ne, bne_iff_ne, bne_eq_false_iff_eq, ne_eq, Decidable.not_not, Bool.and_eq_true, Bool.and_eq_false_iff, Bool.or_eq_true, Bool.or_eq_false_iff, Int.ofNat_lt, Int.ofNat_le, Bool.not_eq_eq_eq_not, Bool.not_true, Bool.not_false] at h2) <;> try simp (disch := omega) only [go_sem, Nat.reduceEqDiff, Nat.reduceAdd, Nat.reduceSub, Int.reduceAdd, Int.reduceSub, Int.reduceToNat]
   ·have hR := ht (by rw [hok, h1, h2, hi]; simp) hi hil
    have hdl : (dropAddr e.own n).1.length ≤ e.own.length := by rw [dropAddr_t hi]; simp; omega
    have hgo := map_get (enc := AddrD.cs) hil
    generalize hv : e.own[i].addr = v at hR
    try simp (disch := omega) only [go_sem, Nat.reduceEqDiff, Nat.reduceAdd, Nat.reduceSub, Int.reduceAdd, Int.reduceSub, Int.reduceToNat, hgo, hv]
    refine den_call (by (try simp (disch := omega) only [go_sem, List.length_set, Nat.reduceEqDiff, Nat.reduceAdd, Nat.reduceSub, Int.reduceAdd, Int.reduceSub, Int.reduceToNat]) <;> omega) (hD) [some (0, none)] (by simp only [go_sem]; repeat' first | rfl | constructor | (rw [List.map_set]; rfl) | (simp [List.map_take, List.map_drop] <;> omega)) (by rfl) (run_den 400 ?_)
    simp (disch := omega) only [go_sem, Nat.reduceEqDiff, Nat.reduceAdd, Nat.reduceSub, Int.reduceAdd, Int.reduceSub, Int.reduceToNat]
    refine den_call (by (try simp (disch := omega) only [go_sem, List.length_set, Nat.reduceEqDiff, Nat.reduceAdd, Nat.reduceSub, Int.reduceAdd, Int.reduceSub, Int.reduceToNat]) <;> omega) (impl_put e.done n (by have := endOk_done h1; omega)) [some (5, none)] (by simp only [go_sem]; repeat' first | rfl | constructor | (rw [List.map_set]; rfl) | (simp [List.map_take, List.map_drop] <;> omega)) (by rfl) (run_den 400 ?_)
    simp (disch := omega) only [go_sem, Nat.reduceEqDiff, Nat.reduceAdd, Nat.reduceSub, Int.reduceAdd, Int.reduceSub, Int.reduceToNat]
    refine den_lpO 7 hE (fun s (k : Nat) => s.at [0, 2, 7, 9, 13, 14, 15, 16, 17, 18, 19, 20, 21, 22, 23, 24, 25, 26, 27, 28, 29, 30, 31, 32, 33, 34, 35, 36, 37, 38, 39, 40, 41, 42, 43, 44, 45, 46, 47, 48, 49, 50, 51, 52, 55, 56, 57, 58, 59, 60, 61, 62, 63, 64, 65, 66, 67, 68, 69, 70, 71] [(54, .sc (.int .i64 (k : Nat)))] (s.hp.set 11 (some ⟨(stepN (goneO v) e.subs k).map SubD.cs, 10, 132, true, true⟩))) (fun (k : Nat) => k ≤ e.subs.length) (fun (k : Nat) => e.subs.length - k) 0 [some (0, none), some (1, none), some (2, none), some (3, none), some (4, none), some (5, none), some (6, none), some (7, none), some (8, none), some (9, none), some (10, none), some (11, none), some (12, none), some (13, none), some (14, none), some (15, none), some (16, none), some (17, none), some (18, none)] (by (try simp (disch := omega) only [go_sem, List.length_set, Nat.reduceEqDiff, Nat.reduceAdd, Nat.reduceSub, Int.reduceAdd, Int.reduceSub, Int.reduceToNat]) <;> omega) (Nat.zero_le _) (weak_mkO (by rfl) (by rfl) ?_) fun k hk N hN => ?_
    ·try simp (disch := omega) only [go_sem, Nat.reduceEqDiff, Nat.reduceAdd, Nat.reduceSub, Int.reduceAdd, Int.reduceSub, Int.reduceToNat]
     rw [stepN_zero]
    ·refine run_den 400 ?_
     have hgl : (stepN (goneO v) e.subs k).length = e.subs.length := stepN_len
     try simp (disch := omega) only [go_sem, Nat.reduceEqDiff, Nat.reduceAdd, Nat.reduceSub, Int.reduceAdd, Int.reduceSub, Int.reduceToNat]
     split <;> rename_i h <;> (try simp only [beq_true, beq_false, Bool.not_eq_true', Bool.not_eq_false'] at h) <;> simp (disch := omega) only [go_sem, Nat.reduceEqDiff, Nat.reduceAdd, Nat.reduceSub, Int.reduceAdd, Int.reduceSub, Int.reduceToNat, h] <;> (try simp only [decide_eq_true_eq, decide_eq_false_iff_not, beq_iff_eq, beq_eq_false_iff_ne, bne_iff_ne, bne_eq_false_iff_eq, ne_eq, Decidable.not_not, Bool.and_eq_true, Bool.and_eq_false_iff, Bool.or_eq_true, Bool.or_eq_false_iff, Int.ofNat_lt, Int.ofNat_le, Bool.not_eq_eq_eq_not, Bool.not_true, Bool.not_false] at h) <;> try simp (disch := omega) only [go_sem, Nat.reduceEqDiff, Nat.reduceAdd, Nat.reduceSub, Int.reduceAdd, Int.reduceSub, Int.reduceToNat]
     ·have hg := stepN_get (f := goneO v) h
      try simp (disch := omega) only [go_sem, Nat.reduceEqDiff, Nat.reduceAdd, Nat.reduceSub, Int.reduceAdd, Int.reduceSub, Int.reduceToNat, hg]
      split <;> rename_i h9 <;> (try simp only [beq_true, beq_false, Bool.not_eq_true', Bool.not_eq_false'] at h9) <;> simp (disch := omega) only [go_sem, Nat.reduceEqDiff, Nat.reduceAdd, Nat.reduceSub, Int.reduceAdd, Int.reduceSub, Int.reduceToNat, h9] <;> (try simp only [decide_eq_true_eq, decide_eq_false_iff_not, beq_iff_eq, beq_eq_false_iff_ne, bne_iff_ne, bne_eq_false_iff_eq, ne_eq, Decidable.not_not, Bool.and_eq_true, Bool.and_eq_false_iff, Bool.or_eq_true, Bool.or_eq_false_iff, Int.ofNat_lt, Int.ofNat_le, Bool.not_eq_eq_eq_not, Bool.not_true, Bool.not_false] at h9) <;> try simp (disch := omega) only [go_sem, Nat.reduceEqDiff, Nat.reduceAdd, Nat.reduceSub, Int.reduceAdd, Int.reduceSub, Int.reduceToNat]
      ·try simp (disch := omega) only [go_sem, Nat.reduceEqDiff, Nat.reduceAdd, Nat.reduceSub, Int.reduceAdd, Int.reduceSub, Int.reduceToNat]
       refine ⟨by (try simp (disch := omega) only [go_sem, List.length_set, Nat.reduceEqDiff, Nat.reduceAdd, Nat.reduceSub, Int.reduceAdd, Int.reduceSub, Int.reduceToNat]) <;> omega, hN _ (k + 1) [some (0, none), some (1, none), some (2, none), some (3, none), some (4, none), some (5, none), some (6, none), some (7, none), some (8, none), some (9, none), some (10, none), some (11, none), some (12, none), some (13, none), some (14, none), some (15, none), some (16, none), some (17, none), some (18, none)] (by (try dsimp only); exact by omega) (by (try dsimp only); omega) (weak_mkO (by rfl) (by rfl) ?_)⟩
       try simp (disch := omega) only [go_sem, Nat.reduceEqDiff, Nat.reduceAdd, Nat.reduceSub, Int.reduceAdd, Int.reduceSub, Int.reduceToNat]
       rw [← stepN_set h, List.map_set]
       simp [goneO, h9, hg, SubD.cs]
      ·try simp (disch := omega) only [go_sem, Nat.reduceEqDiff, Nat.reduceAdd, Nat.reduceSub, Int.reduceAdd, Int.reduceSub, Int.reduceToNat]
       refine ⟨by (try simp (disch := omega) only [go_sem, List.length_set, Nat.reduceEqDiff, Nat.reduceAdd, Nat.reduceSub, Int.reduceAdd, Int.reduceSub, Int.reduceToNat]) <;> omega, hN _ (k + 1) [some (0, none), some (1, none), some (2, none), some (3, none), some (4, none), some (5, none), some (6, none), some (7, none), some (8, none), some (9, none), some (10, none), some (11, none), some (12, none), some (13, none), some (14, none), some (15, none), some (16, none), some (17, none), some (18, none)] (by (try dsimp only); exact by omega) (by (try dsimp only); omega) (weak_mkO (by rfl) (by rfl) ?_)⟩
       try simp (disch := omega) only [go_sem, Nat.reduceEqDiff, Nat.reduceAdd, Nat.reduceSub, Int.reduceAdd, Int.reduceSub, Int.reduceToNat]
       rw [stepN_same h (by rw [goneO, if_neg h9])]
     ·have hkl : k = e.subs.length := by omega
      subst hkl
      rw [stepN_all]
      have hdl2 : (e.subs.map (goneO v)).length ≤ 1048576 := by rw [List.length_map]; exact hsb
      have hO := impl_OnOf { e with own := (dropAddr e.own n).1, done := putI e.done n, subs := e.subs.map (goneO v) } hdl2
      have hlen : (e.subs.map (goneO v)).length = e.subs.length := List.length_map ..
      generalize hDD : e.subs.map (goneO v) = D at *
      clear hDD
      rw [← hlen]
      try simp (disch := omega) only [go_sem, Nat.reduceEqDiff, Nat.reduceAdd, Nat.reduceSub, Int.reduceAdd, Int.reduceSub, Int.reduceToNat]
      refine den_call (by (try simp (disch := omega) only [go_sem, List.length_set, Nat.reduceEqDiff, Nat.reduceAdd, Nat.reduceSub, Int.reduceAdd, Int.reduceSub, Int.reduceToNat]) <;> omega) (hO) [some (17, none), some (10, none), some (11, none), some (12, none), some (13, none), some (18, none), some (15, none)] (by simp only [go_sem]; repeat' first | rfl | constructor | (rw [List.map_set]; rfl) | (simp [List.map_take, List.map_drop] <;> omega)) (by rfl) (run_den 400 ?_)
      simp (disch := omega) only [go_sem, Nat.reduceEqDiff, Nat.reduceAdd, Nat.reduceSub, Int.reduceAdd, Int.reduceSub, Int.reduceToNat]
      have honl := onN_len D
      refine den_lpO 7 hE (fun s (y : Nat × List LetterD) => s.at [0, 2, 7, 8, 9, 12, 13, 14, 15, 16, 17, 18, 19, 20, 21, 22, 23, 24, 25, 26, 27, 28, 29, 30, 31, 32, 33, 34, 35, 36, 37, 38, 39, 40, 41, 42, 43, 44, 45, 46, 47, 48, 49, 50, 51, 52, 53, 54, 55, 56, 57, 58, 59, 60, 61, 62, 63, 64, 65, 66, 67, 68, 69, 70, 71, 72, 76, 77, 78, 79, 80, 81, 82, 83, 84, 85, 86, 87, 88, 89, 90, 91, 92, 93, 94, 95, 96, 97] [(75, .sc (.int .i64 (y.1 : Nat))), (10, .sc (.sl 20 0 y.2.length))] ((s.hp.take 20) ++ [some ⟨y.2.map LetterD.cs, 19, 57, true, true⟩])) (fun (y : Nat × List LetterD) => y.1 ≤ (onN D).length ∧ y.2.length ≤ y.1 ∧ R = ({ e with own := (dropAddr e.own n).1, done := putI e.done n, subs := D }, y.2 ++ ((onN D).drop y.1).map fun k => goneL n (subAtN D k))) (fun (y : Nat × List LetterD) => (onN D).length - y.1) (0, []) [some (0, none), some (1, none), some (2, none), some (3, none), some (4, none), some (5, none), some (6, none), some (7, none), some (8, none), some (9, none), some (10, none), some (11, none), some (12, none), some (13, none), some (14, none), some (15, none), some (16, none), some (17, none), some (18, none), some (19, none), none] (by (try simp (disch := omega) only [go_sem, List.length_set, Nat.reduceEqDiff, Nat.reduceAdd, Nat.reduceSub, Int.reduceAdd, Int.reduceSub, Int.reduceToNat]) <;> omega) (⟨Nat.zero_le _, Nat.zero_le _, hR⟩) (weak_mkO (by rfl) (by rfl) ?_) fun y hy N2 hN2 => ?_
      ·try simp (disch := omega) only [go_sem, Nat.reduceEqDiff, Nat.reduceAdd, Nat.reduceSub, Int.reduceAdd, Int.reduceSub, Int.reduceToNat]
      ·obtain ⟨q, l⟩ := y
       obtain ⟨g1, g2, g3⟩ := hy
       dsimp only at g1 g2 g3
       refine run_den 400 ?_
       try simp (disch := omega) only [go_sem, Nat.reduceEqDiff, Nat.reduceAdd, Nat.reduceSub, Int.reduceAdd, Int.reduceSub, Int.reduceToNat]
       split <;> rename_i b <;> (try simp only [beq_true, beq_false, Bool.not_eq_true', Bool.not_eq_false'] at b) <;> simp (disch := omega) only [go_sem, Nat.reduceEqDiff, Nat.reduceAdd, Nat.reduceSub, Int.reduceAdd, Int.reduceSub, Int.reduceToNat, b] <;> (try simp only [decide_eq_true_eq, decide_eq_false_iff_not, beq_iff_eq, beq_eq_false_iff_ne, bne_iff_ne, bne_eq_false_iff_eq, ne_eq, Decidable.not_not, Bool.and_eq_true, Bool.and_eq_false_iff, Bool.or_eq_true, Bool.or_eq_false_iff, Int.ofNat_lt, Int.ofNat_le, Bool.not_eq_eq_eq_not, Bool.not_true, Bool.not_false] at b) <;> try simp (disch := omega) only [go_sem, Nat.reduceEqDiff, Nat.reduceAdd, Nat.reduceSub, Int.reduceAdd, Int.reduceSub, Int.reduceToNat]
       ·have hkq := onN_lt b
        rw [List.drop_eq_getElem_cons b, List.map_cons] at g3
        have hgq := map_get (enc := natC) b
        generalize hk0 : (onN D)[q] = k0 at *
        rw [subAtN_at hkq] at g3
        have hgs := map_get (enc := SubD.cs) hkq
        generalize hss : D[k0] = s0 at *
        have hB := impl_Between s0.road { letNone with kind := 10, sgn := s0.give, id := n }
        try simp (disch := omega) only [go_sem, Nat.reduceEqDiff, Nat.reduceAdd, Nat.reduceSub, Int.reduceAdd, Int.reduceSub, Int.reduceToNat, hgq, hk0, natC]
        refine den_draw1 [0, 1, 2, 3, 4, 5, 6, 7, 8, 9, 10, 11, 12, 13, 14, 15, 16, 17, 18] (by kernel_rfl) (by (try simp (disch := omega) only [go_sem, List.length_set, Nat.reduceEqDiff, Nat.reduceAdd, Nat.reduceSub, Int.reduceAdd, Int.reduceSub, Int.reduceToNat]) <;> omega) (by kernel_rfl) (runD_den 400 ?_)
        simp (disch := omega) only [go_sem, Nat.reduceEqDiff, Nat.reduceAdd, Nat.reduceSub, Int.reduceAdd, Int.reduceSub, Int.reduceToNat]
        try simp (disch := omega) only [go_sem, Nat.reduceEqDiff, Nat.reduceAdd, Nat.reduceSub, Int.reduceAdd, Int.reduceSub, Int.reduceToNat, hgs, hss]
        refine den_callD (by (try simp (disch := omega) only [go_sem, List.length_set, Nat.reduceEqDiff, Nat.reduceAdd, Nat.reduceSub, Int.reduceAdd, Int.reduceSub, Int.reduceToNat]) <;> omega) (hB) [] (by simp only [go_sem]; repeat' first | rfl | constructor | (rw [List.map_set]; rfl) | (simp [List.map_take, List.map_drop] <;> omega)) (by rfl) (by rfl) (runD_den 400 ?_)
        simp (disch := omega) only [go_sem, Nat.reduceEqDiff, Nat.reduceAdd, Nat.reduceSub, Int.reduceAdd, Int.reduceSub, Int.reduceToNat]
        refine ⟨by (try simp (disch := omega) only [go_sem, List.length_set, Nat.reduceEqDiff, Nat.reduceAdd, Nat.reduceSub, Int.reduceAdd, Int.reduceSub, Int.reduceToNat]) <;> omega, run_den 400 ?_⟩
        try simp (disch := omega) only [go_sem, Nat.reduceEqDiff, Nat.reduceAdd, Nat.reduceSub, Int.reduceAdd, Int.reduceSub, Int.reduceToNat]
        refine ⟨by (try simp (disch := omega) only [go_sem, List.length_set, Nat.reduceEqDiff, Nat.reduceAdd, Nat.reduceSub, Int.reduceAdd, Int.reduceSub, Int.reduceToNat]) <;> omega, hN2 _ (q + 1, l ++ [goneL n s0]) [some (0, none), some (1, none), some (2, none), some (3, none), some (4, none), some (5, none), some (6, none), some (7, none), some (8, none), some (9, none), some (10, none), some (11, none), some (12, none), some (13, none), some (14, none), some (15, none), some (16, none), some (17, none), some (18, none), some (19, none), some (22, none)] (by (try dsimp only); exact ⟨by omega, by simp; omega, by simpa using g3⟩) (by (try dsimp only); omega) (weak_mkO (by rfl) (by rfl) ?_)⟩
        try simp (disch := omega) only [go_sem, Nat.reduceEqDiff, Nat.reduceAdd, Nat.reduceSub, Int.reduceAdd, Int.reduceSub, Int.reduceToNat]
        rw [List.map_append]
        rfl
       ·rw [List.drop_eq_nil_of_le (by omega), List.map_nil, List.append_nil] at g3
        subst g3
        try simp (disch := omega) only [go_sem, Nat.reduceEqDiff, Nat.reduceAdd, Nat.reduceSub, Int.reduceAdd, Int.reduceSub, Int.reduceToNat]
        refine den_finO [some (0, none), some (1, none), some (2, none), some (3, none), some (4, none), some (5, none), some (6, none), some (17, none), some (10, none), some (11, none), some (12, none), some (13, none), some (18, none), some (15, none), some (20, none)] (by (try simp (disch := omega) only [go_sem, List.length_set, Nat.reduceEqDiff, Nat.reduceAdd, Nat.reduceSub, Int.reduceAdd, Int.reduceSub, Int.reduceToNat]) <;> omega) _ (by simp only [go_sem]; rfl) (by rfl) (by rfl) ?_
        simp (disch := omega) only [go_sem, Nat.reduceEqDiff, Nat.reduceAdd, Nat.reduceSub, Int.reduceAdd, Int.reduceSub, Int.reduceToNat]
   ·rw [hf (by rw [hok]; simp [h2])]
    try simp (disch := omega) only [go_sem, Nat.reduceEqDiff, Nat.reduceAdd, Nat.reduceSub, Int.reduceAdd, Int.reduceSub, Int.reduceToNat]
    refine den_finO [some (0, none), some (1, none), some (2, none), some (3, none), some (4, none), some (5, none), some (6, none), some (9, none), some (10, none), some (11, none), some (12, none), some (13, none), some (14, none), some (15, none), none] (by (try simp (disch := omega) only [go_sem, List.length_set, Nat.reduceEqDiff, Nat.reduceAdd, Nat.reduceSub, Int.reduceAdd, Int.reduceSub, Int.reduceToNat]) <;> omega) _ (by simp only [go_sem]; rfl) (by rfl) (by rfl) ?_
    simp (disch := omega) only [go_sem, Nat.reduceEqDiff, Nat.reduceAdd, Nat.reduceSub, Int.reduceAdd, Int.reduceSub, Int.reduceToNat]
  ·rw [hf (by rw [hok]; simp [h1])]
   try simp (disch := omega) only [go_sem, Nat.reduceEqDiff, Nat.reduceAdd, Nat.reduceSub, Int.reduceAdd, Int.reduceSub, Int.reduceToNat]
   refine den_finO [some (0, none), some (1, none), some (2, none), some (3, none), some (4, none), some (5, none), some (6, none), some (9, none), some (10, none), some (11, none), some (12, none), some (13, none), some (14, none), some (15, none), none] (by (try simp (disch := omega) only [go_sem, List.length_set, Nat.reduceEqDiff, Nat.reduceAdd, Nat.reduceSub, Int.reduceAdd, Int.reduceSub, Int.reduceToNat]) <;> omega) _ (by simp only [go_sem]; rfl) (by rfl) (by rfl) ?_
   simp (disch := omega) only [go_sem, Nat.reduceEqDiff, Nat.reduceAdd, Nat.reduceSub, Int.reduceAdd, Int.reduceSub, Int.reduceToNat]
end
section
open Go.RowKit

theorem allD_step {α : Type} {p : α → Bool} {l : List α} {k : Nat} (h : k < l.length) : (l.drop k).all p = (p l[k] && (l.drop (k + 1)).all p) := by
 rw [List.drop_eq_getElem_cons h, List.all_cons]
theorem flatD_step {α β : Type} {f : α → List β} {l : List α} {k : Nat} (h : k < l.length) : (l.drop k).flatMap f = f l[k] ++ (l.drop (k + 1)).flatMap f := by
 rw [List.drop_eq_getElem_cons h, List.flatMap_cons]
theorem tickL_one (e : EndD) (s : SubD) : (tickL e s).length ≤ 1 := by
 rw [tickL]; split
 ·split
  ·simp
  ·split
   ·simp
   ·split <;> simp
 ·simp
theorem flat_le {α β : Type} {f : α → List β} (hf : ∀ a, (f a).length ≤ 1) : ∀ (l : List α), (l.flatMap f).length ≤ l.length
 | [] => by simp
 | a :: l => by
  have h1 := hf a
  have h2 := flat_le hf l
  rw [List.flatMap_cons, List.length_append, List.length_cons]
  omega
theorem younger_le (l : List HalfD) (n : Int) : (younger l n).length ≤ l.length := List.length_filter_le _ _
theorem tellAddrs_le (e : EndD) : (tellAddrs e).length ≤ e.own.length := by
 rw [tellAddrs]; split
 ·rw [List.length_map]; exact List.length_filter_le _ _
 ·simp
theorem endOk_sub {e : EndD} (h : endOk e = true) {k : Nat} (hk : k < e.subs.length) : 1 ≤ e.subs[k].state ∧ e.subs[k].state ≤ 4 ∧ 0 ≤ e.subs[k].tries ∧ e.subs[k].tries ≤ 1000000000 := by
 have h1 : upto (suOk e.subs) e.subs.length = true := by
  simp only [endOk, Bool.and_eq_true] at h
  simp_all
 have h2 := upto_at h1 hk
 simp only [suOk, subAtN_at hk, inR, isN, List.all_cons, List.all_nil, Bool.and_eq_true, decide_eq_true_eq] at h2
 omega
theorem tick_f {e : EndD} (h : tkE e = false) : tick e = (e, []) := if_neg (by simp [h])
theorem tick_o {e : EndD} (h : tkE e = true) (h2 : e.state = 2) : tick e = tickEnd { tick0 e with subs := e.subs.map tickS } (e.subs.flatMap (tickL e)) := by rw [tick, if_pos h, if_pos h2]
theorem tick_i {e : EndD} (h : tkE e = true) (h2 : ¬ e.state = 2) : tick e = tickEnd (tick0 e) [] := by rw [tick, if_pos h, if_neg h2]
theorem tick_u {e : EndD} {tk : SubD → SubD} {tl : SubD → List LetterD} (h : tkE e = true) (h1 : tk = fun s => if e.state = 2 then tickS s else s) (h2 : tl = fun s => if e.state = 2 then tickL e s else []) :
  tick e = tickEnd { e with now := e.now + 1, bucket := filled e.bucket, halfs := younger e.halfs (e.now + 1), out := anew e.out, subs := e.subs.map tk } (e.subs.flatMap tl) := by
 by_cases hs : e.state = 2
 ·have a1 : tk = tickS := by rw [h1]; funext s; exact if_pos hs
  have a2 : tl = tickL e := by rw [h2]; funext s; exact if_pos hs
  rw [tick_o h hs, a1, a2]; rfl
 ·have a1 : tk = fun s => s := by rw [h1]; funext s; exact if_neg hs
  have a2 : tl = fun s => [] := by rw [h2]; funext s; exact if_neg hs
  have e1 : e.subs.flatMap (fun s : SubD => ([] : List LetterD)) = [] := by simp
  have e2 : e.subs.map (fun s : SubD => s) = e.subs := by simp
  rw [tick_i h hs, a1, a2, e1, e2]; rfl
theorem tickS_same {s : SubD} (h : ¬ (s.state = 1 ∨ s.state = 2)) : tickS s = s := if_neg h
theorem tickL_none {e : EndD} {s : SubD} (h : ¬ (s.state = 1 ∨ s.state = 2)) : tickL e s = [] := if_neg h
theorem tickS_gone {s : SubD} (h : s.state = 2) (h2 : 9 ≤ s.tries + 1) : tickS s = { s with tries := s.tries + 1, state := 4 } := by rw [tickS, if_pos (.inr h), if_pos ⟨h, h2⟩]
theorem tickL_gone {e : EndD} {s : SubD} (h : s.state = 2) (h2 : 9 ≤ s.tries + 1) : tickL e s = [] := by rw [tickL, if_pos (.inr h), if_pos ⟨h, h2⟩]
theorem tickS_on {s : SubD} (h : s.state = 1 ∨ s.state = 2) (h2 : ¬ (s.state = 2 ∧ 9 ≤ s.tries + 1)) : tickS s = { s with tries := s.tries + 1 } := by rw [tickS, if_pos h, if_neg h2]
theorem tickL_wait {e : EndD} {s : SubD} (h : s.state = 1 ∨ s.state = 2) (h2 : ¬ (s.state = 2 ∧ 9 ≤ s.tries + 1)) (h3 : ¬ (s.tries + 1).tmod 3 = 0) : tickL e s = [] := by rw [tickL, if_pos h, if_neg h2, if_pos h3]
theorem tickL_ask {e : EndD} {s : SubD} (h : s.state = 1) (h3 : (s.tries + 1).tmod 3 = 0) : tickL e s = [joinL' e s] := by rw [tickL, if_pos (.inl h), if_neg (by omega), if_neg (by simp [h3]), if_pos h]
theorem tickL_prove {e : EndD} {s : SubD} (h : s.state = 2) (h2 : ¬ 9 ≤ s.tries + 1) (h3 : (s.tries + 1).tmod 3 = 0) : tickL e s = [doneLetter e s] := by rw [tickL, if_pos (.inr h), if_neg (by omega), if_neg (by simp [h3]), if_neg (by omega)]
theorem impl_tickEnd (e : EndD) (l : List LetterD) (hs : Small e) (ht : e.out.text.length ≤ 1048576) (hl : l.length ≤ 1048576) : CallA Tryz.prog 81 [.ag (e.cs 0), .sc (.sl 7 0 l.length)] (e.hp true ++ [some ⟨l.map LetterD.cs, 19, 57, true, true⟩])
  (.tu [.ag ((tickEnd e l).1.cs 8), .sc (.sl 15 0 (tickEnd e l).2.length)]) ([none, none, none, none, none, none, none, none] ++ ((tickEnd e l).1.hp true ++ [some ⟨(tickEnd e l).2.map LetterD.cs, 19, 57, true, true⟩])) := by
 have hT := impl_TellAddrs e hs
 have hTl := tellAddrs_le e
 have hso := hs.own
 have hP := impl_pushSome e hs ht
 have hPl := pushN_len (k := 3) (e := e)
 rw [tickEnd]
 generalize tellAddrs e = T at *
 generalize pushN 3 e = Q at *
 obtain ⟨e1, l1⟩ := Q
 dsimp only at hP hPl ⊢
 refine qEO Tryz.func81 Tryz.ntmps81 Tryz.results81 fun E hE => ?_
 refine qK (hT) (qA [0, 1, 2, 3, 4, 5, 6]) ?_
 refine qK (hP) (qA [0, 1, 2, 3, 4, 5, 6]) ?_
 refine den_drawX [(0, 3)] [] [[1, 2, 0, 3, 4, 5], [1, 2, 3, 0, 4, 5]] 8 hE (fun s => s.at [1, 7, 8, 9, 10, 11, 12, 15, 16, 17, 18, 19, 20] [(5, .sc (.sl 21 0 (l.length + T.length + l1.length)))] (((s.hp.set 9 (some ⟨[[.int .i64 e1.side, .int .i64 e1.state, .int .i64 e1.key, .int .i64 e1.peer, .int .i64 e1.policy.kind, .int .i64 e1.policy.many, .sl 12 0 e1.own.length, .sl 13 0 e1.far.length, .sl 14 0 e1.subs.length, .sl 15 0 e1.halfs.length, .int .i64 e1.bucket.rate, .int .i64 e1.bucket.burst, .int .i64 e1.bucket.cur, .st e1.out.text, .int .i64 e1.out.base, .int .i64 e1.out.sent, .int .i64 e1.out.room, .int .i64 e1.inp.read, .st e1.inp.ready, .sl 16 0 e1.inp.list.length, .sl 17 0 e1.done.length, .sl 18 0 e1.over.length, .int .i64 e1.draw, .int .i64 e1.now, .int .i64 e1.pick]], 25, 41, true, false⟩)).set 11 none) ++ [some ⟨(l ++ T ++ l1).map LetterD.cs, 19, 57, true, true⟩])) (by kernel_rfl) (qC) (by kernel_rfl) ?_ (run_den 400 ?_)
 rotate_left
 rotate_right
 simp only [allDn]
 refine ⟨runD_den 400 ?_, runD_den 400 ?_⟩
 ·simp (disch := omega) only [go_sem]
  refine ⟨qC, (qA [0, 1, 2, 3, 4, 5, 6, 7, 8, 9, 10, 11, 12, 13, 14, 15, 16, 17, 18, 19, 20, 21]), weak_mkO (by rfl) (by rfl) ?_⟩
  try simp (disch := omega) only [go_sem, Nat.reduceEqDiff, Nat.reduceAdd, Nat.reduceSub, Int.reduceAdd, Int.reduceSub, Int.reduceToNat]
  repeat' first | rfl | constructor | (intro _; rfl) | (simp only [List.map_append, List.append_assoc, List.length_append, Nat.add_assoc]; done)
 ·simp (disch := omega) only [go_sem]
  refine ⟨qC, (qA [0, 1, 2, 3, 4, 5, 6, 7, 8, 9, 10, 11, 12, 13, 14, 15, 16, 17, 18, 19, 20, 21]), weak_mkO (by rfl) (by rfl) ?_⟩
  try simp (disch := omega) only [go_sem, Nat.reduceEqDiff, Nat.reduceAdd, Nat.reduceSub, Int.reduceAdd, Int.reduceSub, Int.reduceToNat]
  repeat' first | rfl | constructor | (intro _; rfl) | (simp only [List.map_append, List.append_assoc, List.length_append, Nat.add_assoc]; done)
 refine qX ?_
 refine den_finO (qA [0, 1, 2, 3, 4, 5, 6, 7, 12, 13, 14, 15, 16, 17, 18, 21]) (qC) _ (by simp only [go_sem]; rfl) (by rfl) (by rfl) ?_
 simp (disch := omega) only [go_sem, Nat.reduceEqDiff, Nat.reduceAdd, Nat.reduceSub, Int.reduceAdd, Int.reduceSub, Int.reduceToNat]
 try simp
 try omega
end
section
open Go.RowKit

def nums4 (x : LetterD) : List Int := [x.key, x.nonce, x.give, x.sgn]
def okNum (w : WorldD) (n : Int) : Bool := decide (n < 1000) || hasI w.nums n
theorem mayInject_eq (w : WorldD) (x : LetterD) : mayInject w x = (letOk x && !decide (sideAt x.to = 0) && canMake w.known x.tag && (nums4 x).all (okNum w)) := rfl
theorem impl_MayInject (w : WorldD) (x : LetterD) (h0 : w.known.keys.length ≤ 1048576) (h1 : w.known.tags.length ≤ 1048576) (h2 : w.nums.length ≤ 1048576) : CallA Tryz.prog 51 [.ag (w.cs 0), .ag x.cs] (w.hp false) (.sc (.bo (mayInject w x))) (w.hp false) := by
 have hL := impl_LetterOk x
 have hS := impl_SideAt x.to
 have hK := impl_CanMake w.known x.tag h0 h1
 obtain ⟨R, hR⟩ : ∃ R, R = mayInject w x := ⟨_, rfl⟩
 rw [← hR]
 rw [mayInject_eq] at hR
 refine qE Tryz.func51 Tryz.ntmps51 Tryz.results51 fun E hE => ?_
 refine qK (hL) [] ?_
 refine qB (fun c1 => ?_) fun c1 => ?_
 ·refine qK (hS) [] ?_
  refine qB (fun c2 => ?_) fun c2 => ?_
  ·refine qK (hK) (qA [16, 17]) ?_
   refine qB (fun c3 => ?_) fun c3 => ?_
   ·rw [c3] at hR
    simp only [Bool.and_false, Bool.false_and] at hR
    subst hR
    refine qX ?_
    exact qF (qA [0, 1, 2, 3, 4, 5, 6, 7, 8, 9, 10, 11, 12, 13, 14, 15, 16, 17, 18, 19, 20])
   ·rw [c1, c3, decide_eq_false c2] at hR
    simp only [Bool.not_false, Bool.true_and, Bool.and_true] at hR
    refine qX ?_
    refine den_lp 21 hE (fun s (i : Nat) => s.at [0, 1, 3, 4, 6, 7, 8, 9, 10, 11, 12, 13, 14, 15, 16, 17, 18, 19, 20, 21, 22, 23, 24, 25, 26, 27, 28, 29, 30, 31, 35, 36, 37, 38, 39, 40, 41, 42, 43, 44, 45, 46, 47] [(34, .sc (.int .i64 (i : Nat)))] (s.hp)) (fun (i : Nat) => i ≤ 4 ∧ R = ((nums4 x).drop i).all (okNum w)) (fun (i : Nat) => 4 - i) 0 (qA [0, 1, 2, 3, 4, 5, 6, 7, 8, 9, 10, 11, 12, 13, 14, 15, 16, 17, 18, 19, 20, 21, 22, 23]) (qC) (⟨by omega, hR⟩) (weak_mk (by rfl) (by rfl) ?_) fun i hi N hN => ?_
    ·exact qY
    ·obtain ⟨g1, g2⟩ := hi
     refine qR ?_
     split <;> rename_i b <;> (try simp only [decide_eq_true_eq, decide_eq_false_iff_not, Int.ofNat_lt] at b)
     rotate_left
     ·rw [List.drop_eq_nil_of_le (by simp only [nums4, List.length_cons, List.length_nil]; omega), List.all_nil] at g2
      subst g2
      refine qX ?_
      exact qF (qA [0, 1, 2, 3, 4, 5, 6, 7, 8, 9, 10, 11, 12, 13, 14, 15, 16, 17, 18, 19, 20])
     have hi4 : i < (nums4 x).length := by simp only [nums4, List.length_cons, List.length_nil]; omega
     rw [allD_step hi4] at g2
     generalize hv : (nums4 x)[i] = v at g2
     have hg : ([[.int .i64 x.key], [.int .i64 x.nonce], [.int .i64 x.give], [.int .i64 x.sgn]] : List (List Sc))[i]? = some (intC v) := by
      rw [← hv]
      rw [show ([[.int .i64 x.key], [.int .i64 x.nonce], [.int .i64 x.give], [.int .i64 x.sgn]] : List (List Sc)) = (nums4 x).map intC from rfl]
      exact map_get hi4
     simp only [intC] at hg
     have hH := impl_hasInt w.nums v h2
     try simp (disch := omega) only [go_sem, Nat.reduceEqDiff, Nat.reduceAdd, Nat.reduceSub, Int.reduceAdd, Int.reduceSub, Int.reduceToNat, hg]
     refine qB (fun b1 => ?_) fun b1 => ?_
     ·refine qK (hH) (qA [18]) ?_
      refine qB (fun b2 => ?_) fun b2 => ?_
      ·rw [show okNum w v = false by rw [okNum, b2, decide_eq_false (by omega)]; rfl, Bool.false_and] at g2
       subst g2
       refine qX ?_
       exact qF (qA [0, 1, 2, 3, 4, 5, 6, 7, 8, 9, 10, 11, 12, 13, 14, 15, 16, 17, 18, 19, 20])
      ·rw [show okNum w v = true by rw [okNum, b2, Bool.or_true], Bool.true_and] at g2
       refine qX ?_
       exact qN hN (i + 1) (qA [0, 1, 2, 3, 4, 5, 6, 7, 8, 9, 10, 11, 12, 13, 14, 15, 16, 17, 18, 19, 20, 21, 22, 23]) (by (try dsimp only); exact ⟨by omega, g2⟩)
     ·rw [show okNum w v = true by rw [okNum, decide_eq_true (by omega)]; rfl, Bool.true_and] at g2
      refine qX ?_
      exact qN hN (i + 1) (qA [0, 1, 2, 3, 4, 5, 6, 7, 8, 9, 10, 11, 12, 13, 14, 15, 16, 17, 18, 19, 20, 21, 22, 23]) (by (try dsimp only); exact ⟨by omega, g2⟩)
  ·rw [decide_eq_true c2] at hR
   simp only [Bool.not_true, Bool.and_false, Bool.false_and] at hR
   subst hR
   refine qX ?_
   exact qF (qA [0, 1, 2, 3, 4, 5, 6, 7, 8, 9, 10, 11, 12, 13, 14, 15, 16, 17, 18, 19, 20])
 ·rw [c1] at hR
  simp only [Bool.false_and] at hR
  subst hR
  refine qX ?_
  exact qF (qA [0, 1, 2, 3, 4, 5, 6, 7, 8, 9, 10, 11, 12, 13, 14, 15, 16, 17, 18, 19, 20])
def wroteB (w : WorldD) (side : Int) (t u : List UInt8) : WorldD := if side = 1 then { w with wroteA := w.wroteA ++ t, readA := w.readA ++ u } else { w with wroteB := w.wroteB ++ t, readB := w.readB ++ u }
structure SmallS (w : WorldD) : Prop where
 wa : w.wroteA.length ≤ 1099511627776
 wb : w.wroteB.length ≤ 1099511627776
 ra : w.readA.length ≤ 1099511627776
 rb : w.readB.length ≤ 1099511627776
end
section
open Go.RowKit

theorem rs_t {e : EndD} {k : Int} {n : Nat} (h : rsOk e k = true) (hk : k = (n : Int)) (hn : n < e.subs.length) :
  resetE e k = ({ e with subs := setState e.subs n 4 }, [between e.subs[n].road { letNone with kind := 13, sgn := e.subs[n].give }]) := by
 rw [resetE, if_pos h, hk, Int.toNat_natCast, subAtN_at hn]
theorem rs_f {e : EndD} {k : Int} (h : rsOk e k = false) : resetE e k = (e, []) := by rw [resetE, if_neg (by simp [h])]
theorem rs_at {e : EndD} {n : Nat} (hn : n < e.subs.length) : rsOk e (n : Int) = (endOk e && decide (e.subs[n].state = 3)) := by
 rw [rsOk, Int.toNat_natCast, subAtN_at hn, show inR (n : Int) 0 ((e.subs.length : Int) - 1) = true by simp only [inR, Bool.and_eq_true, decide_eq_true_eq]; omega, Bool.and_true]
theorem rs_out {e : EndD} {k : Int} (h : inR k 0 ((e.subs.length : Int) - 1) = false) : rsOk e k = false := by simp [rsOk, h]
theorem endOk_own {e : EndD} (h : endOk e = true) : e.own.length ≤ 6 := by
 simp only [endOk, Bool.and_eq_true] at h
 exact addrsOk_le (by simp_all)
theorem ao_f {e : EndD} {a : AddrD} (h : aoOk e a = false) : addOwn e a = (e, false) := by rw [addOwn, if_neg (by simp [h])]
theorem ao_t {e : EndD} {a : AddrD} (h : aoOk e a = true) : addOwn e a = ({ e with own := (putAddr e.own { a with told := false }).1 }, (putAddr e.own { a with told := false }).2) := by rw [addOwn, if_pos h]
theorem ao_t2 {e : EndD} {a : AddrD} (h : (putAddr e.own { a with told := false }).2 = false) : addOwn e a = (e, false) := by
 rw [addOwn]; split
 ·have : putAddr e.own { a with told := false } = (e.own, false) := by
   rw [putAddr] at h ⊢; split
   ·rename_i hh; rw [if_pos hh] at h; cases h
   ·rfl
  rw [this]
 ·rfl
theorem impl_Reset (e : EndD) (k : Int) (hs : Small e) : CallA Tryz.prog 47 [.ag (e.cs 0), .sc (.int .i64 k)] (e.hp false) (.tu [.ag ((resetE e k).1.cs 7), .sc (.sl 14 0 (resetE e k).2.length)])
  (e.hp false ++ ((resetE e k).1.hp true ++ [some ⟨(resetE e k).2.map LetterD.cs, 19, 57, true, true⟩])) := by
 have hC := impl_copyEnd e (by have := hs.own; omega) (by have := hs.far; omega) (by have := hs.subs; omega) (by have := hs.halfs; omega) (by have := hs.list; omega) (by have := hs.done; omega) (by have := hs.over; omega)
 have hK := impl_EndOk e (by have := hs.own; omega) (by have := hs.far; omega) (by have := hs.subs; omega) (by have := hs.halfs; omega) (by have := hs.list; omega) (by have := hs.done; omega) (by have := hs.over; omega)
 have hsub := hs.subs
 have hf := rs_f (e := e) (k := k)
 have ht := @rs_t e k
 have hI := impl_within k 0 ((e.subs.length : Int) - 1)
 refine qEO Tryz.func47 Tryz.ntmps47 Tryz.results47 fun E hE => ?_
 refine qK (hC) (qA [0, 1, 2, 3, 4, 5, 6]) ?_
 refine qK (hK) (qA [0, 1, 2, 3, 4, 5, 6]) ?_
 refine qB (fun b1 => ?_) fun b1 => ?_
 ·refine qK (hI) [] ?_
  cases hin : inR k 0 ((e.subs.length : Int) - 1) with
  | false =>
   rw [hf (rs_out hin)]
   refine qX ?_
   exact qFO [some (0, none), some (1, none), some (2, none), some (3, none), some (4, none), some (5, none), some (6, none), some (9, none), some (10, none), some (11, none), some (12, none), some (13, none), some (14, none), some (15, none), none]
  | true =>
   simp only [inR, Bool.and_eq_true, decide_eq_true_eq] at hin
   obtain ⟨n, rfl⟩ := Int.eq_ofNat_of_zero_le hin.1
   have hn : n < e.subs.length := by omega
   have hg := map_get (enc := SubD.cs) hn
   have hok := rs_at (e := e) hn
   rw [b1, Bool.true_and] at hok
   try simp (disch := omega) only [go_sem, Nat.reduceEqDiff, Nat.reduceAdd, Nat.reduceSub, Int.reduceAdd, Int.reduceSub, Int.reduceToNat, hg]
   refine qB (fun b2 => ?_) fun b2 => ?_
   ·rw [hf (by rw [hok]; simp [b2])]
    refine qX ?_
    exact qFO [some (0, none), some (1, none), some (2, none), some (3, none), some (4, none), some (5, none), some (6, none), some (9, none), some (10, none), some (11, none), some (12, none), some (13, none), some (14, none), some (15, none), none]
   ·rw [ht (by rw [hok]; simp [b2]) rfl hn]
    have hset : setState e.subs n 4 = e.subs.set n { e.subs[n] with state := 4 } := by rw [setState, subAtN_at hn]
    rw [hset]
    have hms := map_set' (f := SubD.cs) (l := e.subs) (k := n) (v := { e.subs[n] with state := 4 }) rfl
    simp only [SubD.cs] at hms
    try simp (disch := omega) only [go_sem, Nat.reduceEqDiff, Nat.reduceAdd, Nat.reduceSub, Int.reduceAdd, Int.reduceSub, Int.reduceToNat, hg]
    refine den_drawX [(15, 16)] [] [[0, 1, 2, 3, 4, 5, 6, 7, 8, 9, 10, 11, 12, 13, 14, 15, 16, 17], [0, 1, 2, 3, 4, 5, 6, 7, 8, 9, 10, 11, 12, 13, 14, 16, 15, 17]] 7 hE (fun s => s.at [36, 37, 38, 39, 40, 41, 42, 43, 44, 45, 46, 47, 48, 49, 50, 51] [(5, .sc (.sl 17 0 1))] ((s.hp.set 8 (some ⟨[[.int .i64 e.side, .int .i64 e.state, .int .i64 e.key, .int .i64 e.peer, .int .i64 e.policy.kind, .int .i64 e.policy.many, .sl 9 0 e.own.length, .sl 10 0 e.far.length, .sl 11 0 e.subs.length, .sl 12 0 e.halfs.length, .int .i64 e.bucket.rate, .int .i64 e.bucket.burst, .int .i64 e.bucket.cur, .st e.out.text, .int .i64 e.out.base, .int .i64 e.out.sent, .int .i64 e.out.room, .int .i64 e.inp.read, .st e.inp.ready, .sl 13 0 e.inp.list.length, .sl 14 0 e.done.length, .sl 15 0 e.over.length, .int .i64 e.draw, .int .i64 e.now, .int .i64 e.pick]], 25, 41, true, false⟩)) ++ [some ⟨[(between e.subs[n].road { letNone with kind := 13, sgn := e.subs[n].give }).cs], 19, 57, true, true⟩])) (by kernel_rfl) (qC) (by kernel_rfl) ?_ (run_den 400 ?_)
    rotate_left
    rotate_right
    simp only [allDn]
    refine ⟨runD_den 400 ?_, runD_den 400 ?_⟩
    ·simp (disch := omega) only [go_sem, hg]
     refine qKD (impl_Between e.subs[n].road { letNone with kind := 13, sgn := e.subs[n].give }) [] ?_
     refine ⟨qC, (qA [0, 1, 2, 3, 4, 5, 6, 7, 8, 9, 10, 11, 12, 13, 14, 15, 16, 17]), weak_mkO (by rfl) (by rfl) ?_⟩
     try simp (disch := omega) only [go_sem, Nat.reduceEqDiff, Nat.reduceAdd, Nat.reduceSub, Int.reduceAdd, Int.reduceSub, Int.reduceToNat]
     try rfl
    ·simp (disch := omega) only [go_sem, hg]
     refine qKD (impl_Between e.subs[n].road { letNone with kind := 13, sgn := e.subs[n].give }) [] ?_
     refine ⟨qC, (qA [0, 1, 2, 3, 4, 5, 6, 7, 8, 9, 10, 11, 12, 13, 14, 15, 16, 17]), weak_mkO (by rfl) (by rfl) ?_⟩
     try simp (disch := omega) only [go_sem, Nat.reduceEqDiff, Nat.reduceAdd, Nat.reduceSub, Int.reduceAdd, Int.reduceSub, Int.reduceToNat]
     try rfl
    refine qX ?_
    refine den_finO (qA [0, 1, 2, 3, 4, 5, 6, 9, 10, 11, 12, 13, 14, 15, 17]) (qC) _ (by simp only [go_sem]; rfl) (by rfl) (by rfl) ?_
    simp (disch := omega) only [go_sem, Nat.reduceEqDiff, Nat.reduceAdd, Nat.reduceSub, Int.reduceAdd, Int.reduceSub, Int.reduceToNat]
    exact ⟨by simp, hms⟩
 ·rw [hf (by simp [rsOk, b1])]
  refine qX ?_
  exact qFO [some (0, none), some (1, none), some (2, none), some (3, none), some (4, none), some (5, none), some (6, none), some (9, none), some (10, none), some (11, none), some (12, none), some (13, none), some (14, none), some (15, none), none]
theorem impl_AddOwn (e : EndD) (a : AddrD) (hs : Small e) : CallA Tryz.prog 44 [.ag (e.cs 0), .ag a.cs] (e.hp false) (.tu [.ag ((addOwn e a).1.cs 7), .sc (.bo (addOwn e a).2)]) (e.hp false ++ (addOwn e a).1.hp true) := by
 have hC := impl_copyEnd e (by have := hs.own; omega) (by have := hs.far; omega) (by have := hs.subs; omega) (by have := hs.halfs; omega) (by have := hs.list; omega) (by have := hs.done; omega) (by have := hs.over; omega)
 have hK := impl_EndOk e (by have := hs.own; omega) (by have := hs.far; omega) (by have := hs.subs; omega) (by have := hs.halfs; omega) (by have := hs.list; omega) (by have := hs.done; omega) (by have := hs.over; omega)
 have hA := impl_AddrAt e.own a.id (by have := hs.own; omega)
 have hH := impl_hasInt e.done a.id (by have := hs.done; omega)
 have hP := fun h => impl_PutAddr e.own { a with told := false } h
 have hf := ao_f (e := e) (a := a)
 have ht := ao_t (e := e) (a := a)
 have ht2 := ao_t2 (e := e) (a := a)
 have hok : aoOk e a = (endOk e && decide (addrAt e.own a.id < 0) && !hasI e.done a.id) := rfl
 generalize addOwn e a = R at *
 generalize putAddr e.own { a with told := false } = pa at *
 obtain ⟨own1, ok1⟩ := pa
 dsimp only at hP ht ht2
 refine qEO Tryz.func44 Tryz.ntmps44 Tryz.results44 fun E hE => ?_
 refine qK (hC) (qA [0, 1, 2, 3, 4, 5, 6]) ?_
 refine qK (hK) (qA [0, 1, 2, 3, 4, 5, 6]) ?_
 refine qB (fun b1 => ?_) fun b1 => ?_
 ·refine qK (hA) (qA [0]) ?_
  refine qB (fun b2 => ?_) fun b2 => ?_
  ·refine qK (hH) (qA [5]) ?_
   refine qB (fun b3 => ?_) fun b3 => ?_
   ·rw [hf (by rw [hok]; simp [b3])]
    refine qX ?_
    exact qFO (qA [0, 1, 2, 3, 4, 5, 6, 10, 11, 12, 13, 14, 15, 16])
   ·rw [ht (by rw [hok, b1, decide_eq_true (by omega), b3]; rfl)]
    have hP := hP (by have := endOk_own b1; omega)
    refine qX ?_
    refine qK (hP) (qA [0]) ?_
    exact qFO (qA [0, 1, 2, 3, 4, 5, 6, 18, 11, 12, 13, 14, 15, 16])
  ·rw [hf (by rw [hok, decide_eq_false (by omega)]; simp)]
   refine qX ?_
   exact qFO (qA [0, 1, 2, 3, 4, 5, 6, 10, 11, 12, 13, 14, 15, 16])
 ·rw [hf (by simp [hok, b1])]
  refine qX ?_
  exact qFO (qA [0, 1, 2, 3, 4, 5, 6, 10, 11, 12, 13, 14, 15, 16])
end
end Go.Proofs.YtkabkkjnemongaaGreat
