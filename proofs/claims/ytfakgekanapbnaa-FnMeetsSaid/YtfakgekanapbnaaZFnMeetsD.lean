/-
  Texts merged for this claim by shake.py: what its proof needs.
-/
import Derived.Tactics
import Derived.Below
import Derived.Laws.AppendOwn
import Derived.Laws.OwnMore
import Derived.Laws.Slices
import Derived.Laws.Small
import Derived.Laws.Strings
import Derived.KernelRfl
import Derived.Laws.MakeOwn
import Derived.Laws.BytesString
import Derived.Laws.BytesArg
import Derived.Laws.Build
import Derived.Laws.Concat
import Derived.Laws.StructEq
import Derived.Lib.ConvBytes
import Derived.Orders
import Derived.WalkKit
import Derived.ProofKit
import Derived.ShutString
import Derived.OpenShut
import Derived.ChangeOld
import Derived.Carry
import Derived.Test.YtfakgekanapbnaaChecked
import Derived.Laws.BitsLemmas
import Derived.JoinedOf
import Derived.Test.YtfakgekanapbnaaRows
import Derived.Test.YtfakgekanapbnaaZFnMeetsC
set_option maxHeartbeats 16000000
set_option maxRecDepth 100000
set_option linter.unusedVariables false
set_option linter.unusedSimpArgs false
namespace Go.Proofs.Ytfakgekanapbnaa
section
open Go.RowKit

theorem spec_BucketNew (r b : Int) : CallA Try.prog 68 [.sc (.int .i64 r), .sc (.int .i64 b)] [] (.tu [.ag (BucketD.cs (if bucketOk ⟨r, b, b⟩ then ⟨r, b, b⟩ else ⟨0, 0, 0⟩)), .sc (.bo (bucketOk ⟨r, b, b⟩))]) [] := by
 obtain ⟨R, hR⟩ : ∃ R, R = (if bucketOk ⟨r, b, b⟩ then (⟨r, b, b⟩ : BucketD) else ⟨0, 0, 0⟩) := ⟨_, rfl⟩
 rw [← hR]
 refine callA_of Try.func68 (by kernel_rfl) rfl fun E hE => run_den 400 ?_
 simp (disch := omega) only [Try.ntmps68, Try.results68, go_sem, Nat.reduceEqDiff, Nat.reduceAdd, Nat.reduceSub, Int.reduceAdd, Int.reduceSub, Int.reduceToNat]
 refine den_call (by (try simp (disch := omega) only [go_sem, List.length_set, Nat.reduceEqDiff, Nat.reduceAdd, Nat.reduceSub, Int.reduceAdd, Int.reduceSub, Int.reduceToNat]) <;> omega) (spec_BucketOk ⟨r, b, b⟩) [] (by simp only [go_sem]; repeat' first | rfl | constructor | (rw [List.map_set]; rfl) | (simp [List.map_take, List.map_drop] <;> omega)) (by rfl) (run_den 400 ?_)
 simp (disch := omega) only [go_sem, Nat.reduceEqDiff, Nat.reduceAdd, Nat.reduceSub, Int.reduceAdd, Int.reduceSub, Int.reduceToNat]
 split <;> rename_i h1 <;> (try simp only [beq_true, beq_false, Bool.not_eq_true', Bool.not_eq_false'] at h1) <;> simp (disch := omega) only [go_sem, Nat.reduceEqDiff, Nat.reduceAdd, Nat.reduceSub, Int.reduceAdd, Int.reduceSub, Int.reduceToNat, h1] <;> (try simp only [decide_eq_true_eq, decide_eq_false_iff_not, beq_iff_eq, beq_eq_false_iff_ne, bne_iff_ne, bne_eq_false_iff_eq, ne_eq, Decidable.not_not, Bool.and_eq_true, Bool.and_eq_false_iff, Bool.or_eq_true, Bool.or_eq_false_iff, Int.ofNat_lt, Int.ofNat_le, Bool.not_eq_eq_eq_not, Bool.not_true, Bool.not_false] at h1) <;> try simp (disch := omega) only [go_sem, Nat.reduceEqDiff, Nat.reduceAdd, Nat.reduceSub, Int.reduceAdd, Int.reduceSub, Int.reduceToNat]
 ·rw [h1, if_neg (by simp)] at hR
  subst hR
  refine den_fin [] (by (try simp (disch := omega) only [go_sem, List.length_set, Nat.reduceEqDiff, Nat.reduceAdd, Nat.reduceSub, Int.reduceAdd, Int.reduceSub, Int.reduceToNat]) <;> omega) _ (by simp only [go_sem]; rfl) (by rfl) (by rfl) ?_
  simp (disch := omega) only [go_sem, Nat.reduceEqDiff, Nat.reduceAdd, Nat.reduceSub, Int.reduceAdd, Int.reduceSub, Int.reduceToNat]
  try exact ⟨⟨rfl, rfl, rfl⟩, h1⟩
 ·rw [h1, if_pos rfl] at hR
  subst hR
  refine den_fin [] (by (try simp (disch := omega) only [go_sem, List.length_set, Nat.reduceEqDiff, Nat.reduceAdd, Nat.reduceSub, Int.reduceAdd, Int.reduceSub, Int.reduceToNat]) <;> omega) _ (by simp only [go_sem]; rfl) (by rfl) (by rfl) ?_
  simp (disch := omega) only [go_sem, Nat.reduceEqDiff, Nat.reduceAdd, Nat.reduceSub, Int.reduceAdd, Int.reduceSub, Int.reduceToNat]
  try exact ⟨⟨rfl, rfl, rfl⟩, h1⟩
theorem putAddr_own (n : Int) : putAddr [] ⟨0, n, false, true⟩ = if addrsOk (ownOne n) then (ownOne n, true) else ([], false) := rfl
theorem bucket13 : bucketOk ⟨1, 3, 3⟩ = true := by decide
theorem endNew_f {who n : Int} {p : PolicyD} (h : (inR who 1 2 && polOk p && addrsOk (ownOne n)) = false) : endNew who n p = (endZero, false) := by rw [endNew, if_neg (by simp [h])]
theorem endNew_t {who n : Int} {p : PolicyD} (h : (inR who 1 2 && polOk p && addrsOk (ownOne n)) = true) : endNew who n p = (⟨who, 0, 0, 0, p, ownOne n, [], [], [], ⟨1, 3, 3⟩, ⟨[], 0, 0, 120⟩, ⟨0, [], []⟩, [], [], 1000 + who, 0, 0⟩, true) := if_pos h
theorem spec_EndNew (who n : Int) (p : PolicyD) : CallA Try.prog 32 [.sc (.int .i64 who), .sc (.int .i64 n), .ag p.cs] [] (.tu [.ag ((endNew who n p).1.cs 0), .sc (.bo (endNew who n p).2)]) ((endNew who n p).1.hp true) := by
 have hA := spec_PutAddr [] ⟨0, n, false, true⟩ (by simp)
 have hB := spec_BucketNew 1 3
 rw [bucket13, if_pos rfl] at hB
 rw [putAddr_own] at hA
 have hf := @endNew_f who n p
 have ht := @endNew_t who n p
 generalize endNew who n p = R at *
 have hl : (ownOne n).length = 1 := rfl
 cases hok : addrsOk (ownOne n) with
 | false =>
  rw [hok, if_neg (by simp)] at hA
  rw [hf (by simp [hok])]
  refine callA_of Try.func32 (by kernel_rfl) rfl fun E hE => run_den 400 ?_
  simp (disch := omega) only [Try.ntmps32, Try.results32, go_sem, Nat.reduceEqDiff, Nat.reduceAdd, Nat.reduceSub, Int.reduceAdd, Int.reduceSub, Int.reduceToNat]
  refine den_call (by (try simp (disch := omega) only [go_sem, List.length_set, Nat.reduceEqDiff, Nat.reduceAdd, Nat.reduceSub, Int.reduceAdd, Int.reduceSub, Int.reduceToNat]) <;> omega) (hA) [some (2, none)] (by simp only [go_sem]; repeat' first | rfl | constructor | (rw [List.map_set]; rfl) | (simp [List.map_take, List.map_drop] <;> omega)) (by rfl) (run_den 400 ?_)
  simp (disch := omega) only [go_sem, Nat.reduceEqDiff, Nat.reduceAdd, Nat.reduceSub, Int.reduceAdd, Int.reduceSub, Int.reduceToNat]
  refine den_call (by (try simp (disch := omega) only [go_sem, List.length_set, Nat.reduceEqDiff, Nat.reduceAdd, Nat.reduceSub, Int.reduceAdd, Int.reduceSub, Int.reduceToNat]) <;> omega) (spec_l01In _ _ _) [] (by simp only [go_sem]; repeat' first | rfl | constructor | (rw [List.map_set]; rfl) | (simp [List.map_take, List.map_drop] <;> omega)) (by rfl) (run_den 400 ?_)
  simp (disch := omega) only [go_sem, Nat.reduceEqDiff, Nat.reduceAdd, Nat.reduceSub, Int.reduceAdd, Int.reduceSub, Int.reduceToNat]
  split <;> rename_i h1 <;> (try simp only [beq_true, beq_false, Bool.not_eq_true', Bool.not_eq_false'] at h1) <;> simp (disch := omega) only [go_sem, Nat.reduceEqDiff, Nat.reduceAdd, Nat.reduceSub, Int.reduceAdd, Int.reduceSub, Int.reduceToNat, h1] <;> (try simp only [decide_eq_true_eq, decide_eq_false_iff_not, beq_iff_eq, beq_eq_false_iff_ne, bne_iff_ne, bne_eq_false_iff_eq, ne_eq, Decidable.not_not, Bool.and_eq_true, Bool.and_eq_false_iff, Bool.or_eq_true, Bool.or_eq_false_iff, Int.ofNat_lt, Int.ofNat_le, Bool.not_eq_eq_eq_not, Bool.not_true, Bool.not_false] at h1) <;> try simp (disch := omega) only [go_sem, Nat.reduceEqDiff, Nat.reduceAdd, Nat.reduceSub, Int.reduceAdd, Int.reduceSub, Int.reduceToNat]
  ·refine den_call (by (try simp (disch := omega) only [go_sem, List.length_set, Nat.reduceEqDiff, Nat.reduceAdd, Nat.reduceSub, Int.reduceAdd, Int.reduceSub, Int.reduceToNat]) <;> omega) (spec_PolicyOk p) [] (by simp only [go_sem]; repeat' first | rfl | constructor | (rw [List.map_set]; rfl) | (simp [List.map_take, List.map_drop] <;> omega)) (by rfl) (run_den 400 ?_)
   simp (disch := omega) only [go_sem, Nat.reduceEqDiff, Nat.reduceAdd, Nat.reduceSub, Int.reduceAdd, Int.reduceSub, Int.reduceToNat]
   split <;> rename_i h2 <;> (try simp only [beq_true, beq_false, Bool.not_eq_true', Bool.not_eq_false'] at h2) <;> simp (disch := omega) only [go_sem, Nat.reduceEqDiff, Nat.reduceAdd, Nat.reduceSub, Int.reduceAdd, Int.reduceSub, Int.reduceToNat, h2] <;> (try simp only [decide_eq_true_eq, decide_eq_false_iff_not, beq_iff_eq, beq_eq_false_iff_ne, bne_iff_ne, bne_eq_false_iff_eq, ne_eq, Decidable.not_not, Bool.and_eq_true, Bool.and_eq_false_iff, Bool.or_eq_true, Bool.or_eq_false_iff, Int.ofNat_lt, Int.ofNat_le, Bool.not_eq_eq_eq_not, Bool.not_true, Bool.not_false] at h2) <;> try simp (disch := omega) only [go_sem, Nat.reduceEqDiff, Nat.reduceAdd, Nat.reduceSub, Int.reduceAdd, Int.reduceSub, Int.reduceToNat]
   ·refine den_fin [none, none, none, none, none, none, none] (by (try simp (disch := omega) only [go_sem, List.length_set, Nat.reduceEqDiff, Nat.reduceAdd, Nat.reduceSub, Int.reduceAdd, Int.reduceSub, Int.reduceToNat]) <;> omega) _ (by simp only [go_sem]; rfl) (by rfl) (by rfl) ?_
    simp (disch := omega) only [go_sem, Nat.reduceEqDiff, Nat.reduceAdd, Nat.reduceSub, Int.reduceAdd, Int.reduceSub, Int.reduceToNat]
    simp [endZero]
   ·refine den_fin [none, none, none, none, none, none, none] (by (try simp (disch := omega) only [go_sem, List.length_set, Nat.reduceEqDiff, Nat.reduceAdd, Nat.reduceSub, Int.reduceAdd, Int.reduceSub, Int.reduceToNat]) <;> omega) _ (by simp only [go_sem]; rfl) (by rfl) (by rfl) ?_
    simp (disch := omega) only [go_sem, Nat.reduceEqDiff, Nat.reduceAdd, Nat.reduceSub, Int.reduceAdd, Int.reduceSub, Int.reduceToNat]
    simp [endZero]
  ·refine den_fin [none, none, none, none, none, none, none] (by (try simp (disch := omega) only [go_sem, List.length_set, Nat.reduceEqDiff, Nat.reduceAdd, Nat.reduceSub, Int.reduceAdd, Int.reduceSub, Int.reduceToNat]) <;> omega) _ (by simp only [go_sem]; rfl) (by rfl) (by rfl) ?_
   simp (disch := omega) only [go_sem, Nat.reduceEqDiff, Nat.reduceAdd, Nat.reduceSub, Int.reduceAdd, Int.reduceSub, Int.reduceToNat]
   simp [endZero]
 | true =>
  rw [hok, if_pos rfl] at hA
  refine callA_of Try.func32 (by kernel_rfl) rfl fun E hE => run_den 400 ?_
  simp (disch := omega) only [Try.ntmps32, Try.results32, go_sem, Nat.reduceEqDiff, Nat.reduceAdd, Nat.reduceSub, Int.reduceAdd, Int.reduceSub, Int.reduceToNat]
  refine den_call (by (try simp (disch := omega) only [go_sem, List.length_set, Nat.reduceEqDiff, Nat.reduceAdd, Nat.reduceSub, Int.reduceAdd, Int.reduceSub, Int.reduceToNat]) <;> omega) (hA) [some (2, none)] (by simp only [go_sem]; repeat' first | rfl | constructor | (rw [List.map_set]; rfl) | (simp [List.map_take, List.map_drop] <;> omega)) (by rfl) (run_den 400 ?_)
  simp (disch := omega) only [go_sem, Nat.reduceEqDiff, Nat.reduceAdd, Nat.reduceSub, Int.reduceAdd, Int.reduceSub, Int.reduceToNat]
  refine den_call (by (try simp (disch := omega) only [go_sem, List.length_set, Nat.reduceEqDiff, Nat.reduceAdd, Nat.reduceSub, Int.reduceAdd, Int.reduceSub, Int.reduceToNat]) <;> omega) (spec_l01In _ _ _) [] (by simp only [go_sem]; repeat' first | rfl | constructor | (rw [List.map_set]; rfl) | (simp [List.map_take, List.map_drop] <;> omega)) (by rfl) (run_den 400 ?_)
  simp (disch := omega) only [go_sem, Nat.reduceEqDiff, Nat.reduceAdd, Nat.reduceSub, Int.reduceAdd, Int.reduceSub, Int.reduceToNat]
  split <;> rename_i h1 <;> (try simp only [beq_true, beq_false, Bool.not_eq_true', Bool.not_eq_false'] at h1) <;> simp (disch := omega) only [go_sem, Nat.reduceEqDiff, Nat.reduceAdd, Nat.reduceSub, Int.reduceAdd, Int.reduceSub, Int.reduceToNat, h1] <;> (try simp only [decide_eq_true_eq, decide_eq_false_iff_not, beq_iff_eq, beq_eq_false_iff_ne, bne_iff_ne, bne_eq_false_iff_eq, ne_eq, Decidable.not_not, Bool.and_eq_true, Bool.and_eq_false_iff, Bool.or_eq_true, Bool.or_eq_false_iff, Int.ofNat_lt, Int.ofNat_le, Bool.not_eq_eq_eq_not, Bool.not_true, Bool.not_false] at h1) <;> try simp (disch := omega) only [go_sem, Nat.reduceEqDiff, Nat.reduceAdd, Nat.reduceSub, Int.reduceAdd, Int.reduceSub, Int.reduceToNat]
  ·refine den_call (by (try simp (disch := omega) only [go_sem, List.length_set, Nat.reduceEqDiff, Nat.reduceAdd, Nat.reduceSub, Int.reduceAdd, Int.reduceSub, Int.reduceToNat]) <;> omega) (spec_PolicyOk p) [] (by simp only [go_sem]; repeat' first | rfl | constructor | (rw [List.map_set]; rfl) | (simp [List.map_take, List.map_drop] <;> omega)) (by rfl) (run_den 400 ?_)
   simp (disch := omega) only [go_sem, Nat.reduceEqDiff, Nat.reduceAdd, Nat.reduceSub, Int.reduceAdd, Int.reduceSub, Int.reduceToNat]
   split <;> rename_i h2 <;> (try simp only [beq_true, beq_false, Bool.not_eq_true', Bool.not_eq_false'] at h2) <;> simp (disch := omega) only [go_sem, Nat.reduceEqDiff, Nat.reduceAdd, Nat.reduceSub, Int.reduceAdd, Int.reduceSub, Int.reduceToNat, h2] <;> (try simp only [decide_eq_true_eq, decide_eq_false_iff_not, beq_iff_eq, beq_eq_false_iff_ne, bne_iff_ne, bne_eq_false_iff_eq, ne_eq, Decidable.not_not, Bool.and_eq_true, Bool.and_eq_false_iff, Bool.or_eq_true, Bool.or_eq_false_iff, Int.ofNat_lt, Int.ofNat_le, Bool.not_eq_eq_eq_not, Bool.not_true, Bool.not_false] at h2) <;> try simp (disch := omega) only [go_sem, Nat.reduceEqDiff, Nat.reduceAdd, Nat.reduceSub, Int.reduceAdd, Int.reduceSub, Int.reduceToNat]
   ·rw [ht (by simp [h1, h2, hok])]
    simp only [inR, Bool.and_eq_true, decide_eq_true_eq] at h1
    try simp (disch := omega) only [go_sem, Nat.reduceEqDiff, Nat.reduceAdd, Nat.reduceSub, Int.reduceAdd, Int.reduceSub, Int.reduceToNat]
    refine den_call (by (try simp (disch := omega) only [go_sem, List.length_set, Nat.reduceEqDiff, Nat.reduceAdd, Nat.reduceSub, Int.reduceAdd, Int.reduceSub, Int.reduceToNat]) <;> omega) (hB) [] (by simp only [go_sem]; repeat' first | rfl | constructor | (rw [List.map_set]; rfl) | (simp [List.map_take, List.map_drop] <;> omega)) (by rfl) (run_den 400 ?_)
    simp (disch := omega) only [go_sem, Nat.reduceEqDiff, Nat.reduceAdd, Nat.reduceSub, Int.reduceAdd, Int.reduceSub, Int.reduceToNat]
    refine den_fin [some (3, none), none, none, none, none, none, none] (by (try simp (disch := omega) only [go_sem, List.length_set, Nat.reduceEqDiff, Nat.reduceAdd, Nat.reduceSub, Int.reduceAdd, Int.reduceSub, Int.reduceToNat]) <;> omega) _ (by simp only [go_sem]; rfl) (by rfl) (by rfl) ?_
    simp (disch := omega) only [go_sem, Nat.reduceEqDiff, Nat.reduceAdd, Nat.reduceSub, Int.reduceAdd, Int.reduceSub, Int.reduceToNat]
   ·rw [hf (by simp [h2])]
    try simp (disch := omega) only [go_sem, Nat.reduceEqDiff, Nat.reduceAdd, Nat.reduceSub, Int.reduceAdd, Int.reduceSub, Int.reduceToNat]
    refine den_fin [none, none, none, none, none, none, none] (by (try simp (disch := omega) only [go_sem, List.length_set, Nat.reduceEqDiff, Nat.reduceAdd, Nat.reduceSub, Int.reduceAdd, Int.reduceSub, Int.reduceToNat]) <;> omega) _ (by simp only [go_sem]; rfl) (by rfl) (by rfl) ?_
    simp (disch := omega) only [go_sem, Nat.reduceEqDiff, Nat.reduceAdd, Nat.reduceSub, Int.reduceAdd, Int.reduceSub, Int.reduceToNat]
    simp [endZero]
  ·rw [hf (by simp [h1])]
   refine den_fin [none, none, none, none, none, none, none] (by (try simp (disch := omega) only [go_sem, List.length_set, Nat.reduceEqDiff, Nat.reduceAdd, Nat.reduceSub, Int.reduceAdd, Int.reduceSub, Int.reduceToNat]) <;> omega) _ (by simp only [go_sem]; rfl) (by rfl) (by rfl) ?_
   simp (disch := omega) only [go_sem, Nat.reduceEqDiff, Nat.reduceAdd, Nat.reduceSub, Int.reduceAdd, Int.reduceSub, Int.reduceToNat]
   simp [endZero]
theorem openE_f {e : EndD} {n : Int} (h : openOk e n = false) : openE e n = (e, []) := by rw [openE, if_neg (by simp [h])]
theorem openE_t {e : EndD} {n : Int} {a : AddrD} (h : openOk e n = true) (ha : e.own.getD 0 default = a) : openE e n = ({ e with state := 1, key := e.draw, subs := e.subs ++ [⟨⟨a.addr, n, 0⟩, 1, false, 0, 0, 0, e.draw + 2, 0⟩], draw := e.draw + 4 },
  [between ⟨a.addr, n, 0⟩ { letNone with kind := 1, key := e.draw, give := e.draw + 2 }]) := by rw [openE, if_pos h, openRoad, ha]
theorem impl_Open (e : EndD) (n : Int) (hs : Small e) : CallA Try.prog 9 [.ag (e.cs 0), .sc (.int .i64 n)] (e.hp false) (.tu [.ag ((openE e n).1.cs 7), .sc (.sl 14 0 (openE e n).2.length)])
  (e.hp false ++ ((openE e n).1.hp true ++ [some ⟨(openE e n).2.map LetterD.cs, 19, 60, true, true⟩])) := by
 have hC := impl_copyEnd e (by have := hs.own; omega) (by have := hs.far; omega) (by have := hs.subs; omega) (by have := hs.halfs; omega) (by have := hs.list; omega) (by have := hs.done; omega) (by have := hs.over; omega)
 have hK := impl_EndOk e (by have := hs.own; omega) (by have := hs.far; omega) (by have := hs.subs; omega) (by have := hs.halfs; omega) (by have := hs.list; omega) (by have := hs.done; omega) (by have := hs.over; omega)
 have hf := openE_f (e := e) (n := n)
 have ht := @openE_t e n
 have hk := openOk.eq_1 e n
 have hS := fun r => impl_SubAt e r (by have := hs.subs; omega)
 rw [openRoad] at hk
 generalize openE e n = R at *
 refine callA_of Try.func9 (by kernel_rfl) rfl fun E hE => run_den 400 ?_
 simp (disch := omega) only [Try.ntmps9, Try.results9, go_sem, Nat.reduceEqDiff, Nat.reduceAdd, Nat.reduceSub, Int.reduceAdd, Int.reduceSub, Int.reduceToNat]
 refine den_call (by (try simp (disch := omega) only [go_sem, List.length_set, Nat.reduceEqDiff, Nat.reduceAdd, Nat.reduceSub, Int.reduceAdd, Int.reduceSub, Int.reduceToNat]) <;> omega) (hC) [some (0, none), some (1, none), some (2, none), some (3, none), some (4, none), some (5, none), some (6, none)] (by simp only [go_sem]; repeat' first | rfl | constructor | (rw [List.map_set]; rfl) | (simp [List.map_take, List.map_drop] <;> omega)) (by rfl) (run_den 400 ?_)
 simp (disch := omega) only [go_sem, Nat.reduceEqDiff, Nat.reduceAdd, Nat.reduceSub, Int.reduceAdd, Int.reduceSub, Int.reduceToNat]
 refine den_call (by (try simp (disch := omega) only [go_sem, List.length_set, Nat.reduceEqDiff, Nat.reduceAdd, Nat.reduceSub, Int.reduceAdd, Int.reduceSub, Int.reduceToNat]) <;> omega) (hK) [some (0, none), some (1, none), some (2, none), some (3, none), some (4, none), some (5, none), some (6, none)] (by simp only [go_sem]; repeat' first | rfl | constructor | (rw [List.map_set]; rfl) | (simp [List.map_take, List.map_drop] <;> omega)) (by rfl) (run_den 400 ?_)
 simp (disch := omega) only [go_sem, Nat.reduceEqDiff, Nat.reduceAdd, Nat.reduceSub, Int.reduceAdd, Int.reduceSub, Int.reduceToNat]
 split <;> rename_i h1 <;> (try simp only [beq_true, beq_false, Bool.not_eq_true', Bool.not_eq_false'] at h1) <;> simp (disch := omega) only [go_sem, Nat.reduceEqDiff, Nat.reduceAdd, Nat.reduceSub, Int.reduceAdd, Int.reduceSub, Int.reduceToNat, h1] <;> (try simp only [decide_eq_true_eq, decide_eq_false_iff_not, beq_iff_eq, beq_eq_false_iff_ne, bne_iff_ne, bne_eq_false_iff_eq, ne_eq, Decidable.not_not, Bool.and_eq_true, Bool.and_eq_false_iff, Bool.or_eq_true, Bool.or_eq_false_iff, Int.ofNat_lt, Int.ofNat_le, Bool.not_eq_eq_eq_not, Bool.not_true, Bool.not_false] at h1) <;> try simp (disch := omega) only [go_sem, Nat.reduceEqDiff, Nat.reduceAdd, Nat.reduceSub, Int.reduceAdd, Int.reduceSub, Int.reduceToNat]
 ·split <;> rename_i h2 <;> (try simp only [beq_true, beq_false, Bool.not_eq_true', Bool.not_eq_false'] at h2) <;> simp (disch := omega) only [go_sem, Nat.reduceEqDiff, Nat.reduceAdd, Nat.reduceSub, Int.reduceAdd, Int.reduceSub, Int.reduceToNat, h2] <;> (try simp only [decide_eq_true_eq, decide_eq_false_iff_not, beq_iff_eq, beq_eq_false_iff_ne, bne_iff_ne, bne_eq_false_iff_eq, ne_eq, Decidable.not_not, Bool.and_eq_true, Bool.and_eq_false_iff, Bool.or_eq_true, Bool.or_eq_false_iff, Int.ofNat_lt, Int.ofNat_le, Bool.not_eq_eq_eq_not, Bool.not_true, Bool.not_false] at h2) <;> try simp (disch := omega) only [go_sem, Nat.reduceEqDiff, Nat.reduceAdd, Nat.reduceSub, Int.reduceAdd, Int.reduceSub, Int.reduceToNat]
  ·split <;> rename_i h3 <;> (try simp only [beq_true, beq_false, Bool.not_eq_true', Bool.not_eq_false'] at h3) <;> simp (disch := omega) only [go_sem, Nat.reduceEqDiff, Nat.reduceAdd, Nat.reduceSub, Int.reduceAdd, Int.reduceSub, Int.reduceToNat, h3] <;> (try simp only [decide_eq_true_eq, decide_eq_false_iff_not, beq_iff_eq, beq_eq_false_iff_ne, bne_iff_ne, bne_eq_false_iff_eq, ne_eq, Decidable.not_not, Bool.and_eq_true, Bool.and_eq_false_iff, Bool.or_eq_true, Bool.or_eq_false_iff, Int.ofNat_lt, Int.ofNat_le, Bool.not_eq_eq_eq_not, Bool.not_true, Bool.not_false] at h3) <;> try simp (disch := omega) only [go_sem, Nat.reduceEqDiff, Nat.reduceAdd, Nat.reduceSub, Int.reduceAdd, Int.reduceSub, Int.reduceToNat]
   ·refine den_call (by (try simp (disch := omega) only [go_sem, List.length_set, Nat.reduceEqDiff, Nat.reduceAdd, Nat.reduceSub, Int.reduceAdd, Int.reduceSub, Int.reduceToNat]) <;> omega) (impl_within _ _ _) [] (by simp only [go_sem]; repeat' first | rfl | constructor | (rw [List.map_set]; rfl) | (simp [List.map_take, List.map_drop] <;> omega)) (by rfl) (run_den 400 ?_)
    simp (disch := omega) only [go_sem, Nat.reduceEqDiff, Nat.reduceAdd, Nat.reduceSub, Int.reduceAdd, Int.reduceSub, Int.reduceToNat]
    split <;> rename_i h4 <;> (try simp only [beq_true, beq_false, Bool.not_eq_true', Bool.not_eq_false'] at h4) <;> simp (disch := omega) only [go_sem, Nat.reduceEqDiff, Nat.reduceAdd, Nat.reduceSub, Int.reduceAdd, Int.reduceSub, Int.reduceToNat, h4] <;> (try simp only [decide_eq_true_eq, decide_eq_false_iff_not, beq_iff_eq, beq_eq_false_iff_ne, bne_iff_ne, bne_eq_false_iff_eq, ne_eq, Decidable.not_not, Bool.and_eq_true, Bool.and_eq_false_iff, Bool.or_eq_true, Bool.or_eq_false_iff, Int.ofNat_lt, Int.ofNat_le, Bool.not_eq_eq_eq_not, Bool.not_true, Bool.not_false] at h4) <;> try simp (disch := omega) only [go_sem, Nat.reduceEqDiff, Nat.reduceAdd, Nat.reduceSub, Int.reduceAdd, Int.reduceSub, Int.reduceToNat]
    ·split <;> rename_i h5 <;> (try simp only [beq_true, beq_false, Bool.not_eq_true', Bool.not_eq_false'] at h5) <;> simp (disch := omega) only [go_sem, Nat.reduceEqDiff, Nat.reduceAdd, Nat.reduceSub, Int.reduceAdd, Int.reduceSub, Int.reduceToNat, h5] <;> (try simp only [decide_eq_true_eq, decide_eq_false_iff_not, beq_iff_eq, beq_eq_false_iff_ne, bne_iff_ne, bne_eq_false_iff_eq, ne_eq, Decidable.not_not, Bool.and_eq_true, Bool.and_eq_false_iff, Bool.or_eq_true, Bool.or_eq_false_iff, Int.ofNat_lt, Int.ofNat_le, Bool.not_eq_eq_eq_not, Bool.not_true, Bool.not_false] at h5) <;> try simp (disch := omega) only [go_sem, Nat.reduceEqDiff, Nat.reduceAdd, Nat.reduceSub, Int.reduceAdd, Int.reduceSub, Int.reduceToNat]
     ·refine den_call (by (try simp (disch := omega) only [go_sem, List.length_set, Nat.reduceEqDiff, Nat.reduceAdd, Nat.reduceSub, Int.reduceAdd, Int.reduceSub, Int.reduceToNat]) <;> omega) (impl_canDrawTwo e) [some (0, none), some (1, none), some (2, none), some (3, none), some (4, none), some (5, none), some (6, none)] (by simp only [go_sem]; repeat' first | rfl | constructor | (rw [List.map_set]; rfl) | (simp [List.map_take, List.map_drop] <;> omega)) (by rfl) (run_den 400 ?_)
      simp (disch := omega) only [go_sem, Nat.reduceEqDiff, Nat.reduceAdd, Nat.reduceSub, Int.reduceAdd, Int.reduceSub, Int.reduceToNat]
      split <;> rename_i h6 <;> (try simp only [beq_true, beq_false, Bool.not_eq_true', Bool.not_eq_false'] at h6) <;> simp (disch := omega) only [go_sem, Nat.reduceEqDiff, Nat.reduceAdd, Nat.reduceSub, Int.reduceAdd, Int.reduceSub, Int.reduceToNat, h6] <;> (try simp only [decide_eq_true_eq, decide_eq_false_iff_not, beq_iff_eq, beq_eq_false_iff_ne, bne_iff_ne, bne_eq_false_iff_eq, ne_eq, Decidable.not_not, Bool.and_eq_true, Bool.and_eq_false_iff, Bool.or_eq_true, Bool.or_eq_false_iff, Int.ofNat_lt, Int.ofNat_le, Bool.not_eq_eq_eq_not, Bool.not_true, Bool.not_false] at h6) <;> try simp (disch := omega) only [go_sem, Nat.reduceEqDiff, Nat.reduceAdd, Nat.reduceSub, Int.reduceAdd, Int.reduceSub, Int.reduceToNat]
      ·rw [hf (by rw [hk]; first | (simp [h6]; done) | (simp [h6]; intros; omega))]
       refine den_fin [some (0, none), some (1, none), some (2, none), some (3, none), some (4, none), some (5, none), some (6, none), some (9, none), some (10, none), some (11, none), some (12, none), some (13, none), some (14, none), some (15, none), none] (by (try simp (disch := omega) only [go_sem, List.length_set, Nat.reduceEqDiff, Nat.reduceAdd, Nat.reduceSub, Int.reduceAdd, Int.reduceSub, Int.reduceToNat]) <;> omega) _ (by simp only [go_sem]; rfl) (by rfl) (by rfl) ?_
       simp (disch := omega) only [go_sem, Nat.reduceEqDiff, Nat.reduceAdd, Nat.reduceSub, Int.reduceAdd, Int.reduceSub, Int.reduceToNat]
      ·obtain ⟨a, ha⟩ : ∃ a, e.own[0]'(by omega) = a := ⟨_, rfl⟩
       have ha2 : e.own.getD 0 default = a := by rw [← ha, List.getD_eq_getElem?_getD, List.getElem?_eq_getElem (by omega)]; rfl
       rw [ha2] at hk
       try simp (disch := omega) only [go_sem, Nat.reduceEqDiff, Nat.reduceAdd, Nat.reduceSub, Int.reduceAdd, Int.reduceSub, Int.reduceToNat, ha]
       refine den_call (by (try simp (disch := omega) only [go_sem, List.length_set, Nat.reduceEqDiff, Nat.reduceAdd, Nat.reduceSub, Int.reduceAdd, Int.reduceSub, Int.reduceToNat]) <;> omega) (hS ⟨a.addr, n, 0⟩) [some (0, none), some (1, none), some (2, none), some (3, none), some (4, none), some (5, none), some (6, none)] (by simp only [go_sem]; repeat' first | rfl | constructor | (rw [List.map_set]; rfl) | (simp [List.map_take, List.map_drop] <;> omega)) (by rfl) (run_den 400 ?_)
       simp (disch := omega) only [go_sem, Nat.reduceEqDiff, Nat.reduceAdd, Nat.reduceSub, Int.reduceAdd, Int.reduceSub, Int.reduceToNat]
       split <;> rename_i h7 <;> (try simp only [beq_true, beq_false, Bool.not_eq_true', Bool.not_eq_false'] at h7) <;> simp (disch := omega) only [go_sem, Nat.reduceEqDiff, Nat.reduceAdd, Nat.reduceSub, Int.reduceAdd, Int.reduceSub, Int.reduceToNat, h7] <;> (try simp only [decide_eq_true_eq, decide_eq_false_iff_not, beq_iff_eq, beq_eq_false_iff_ne, bne_iff_ne, bne_eq_false_iff_eq, ne_eq, Decidable.not_not, Bool.and_eq_true, Bool.and_eq_false_iff, Bool.or_eq_true, Bool.or_eq_false_iff, Int.ofNat_lt, Int.ofNat_le, Bool.not_eq_eq_eq_not, Bool.not_true, Bool.not_false] at h7) <;> try simp (disch := omega) only [go_sem, Nat.reduceEqDiff, Nat.reduceAdd, Nat.reduceSub, Int.reduceAdd, Int.reduceSub, Int.reduceToNat]
       ·rw [hf (by rw [hk]; first | (simp [h7]; done) | (simp [h7]; intros; omega))]
        refine den_fin [some (0, none), some (1, none), some (2, none), some (3, none), some (4, none), some (5, none), some (6, none), some (9, none), some (10, none), some (11, none), some (12, none), some (13, none), some (14, none), some (15, none), none] (by (try simp (disch := omega) only [go_sem, List.length_set, Nat.reduceEqDiff, Nat.reduceAdd, Nat.reduceSub, Int.reduceAdd, Int.reduceSub, Int.reduceToNat]) <;> omega) _ (by simp only [go_sem]; rfl) (by rfl) (by rfl) ?_
        simp (disch := omega) only [go_sem, Nat.reduceEqDiff, Nat.reduceAdd, Nat.reduceSub, Int.reduceAdd, Int.reduceSub, Int.reduceToNat]
       ·rw [ht (a := a) (by rw [hk, h1, h4, h6, decide_eq_true (by omega : e.state = 0), decide_eq_false (by omega : ¬ e.own.length = 0), decide_eq_true (by have := endOk_subs h1; omega : e.subs.length < 8), decide_eq_true (by omega : subAt e.subs ⟨a.addr, n, 0⟩ < 0)]; rfl) ha2]
        refine den_call (by (try simp (disch := omega) only [go_sem, List.length_set, Nat.reduceEqDiff, Nat.reduceAdd, Nat.reduceSub, Int.reduceAdd, Int.reduceSub, Int.reduceToNat]) <;> omega) (impl_drawTwo e h6) [some (9, none), some (10, none), some (11, none), some (12, none), some (13, none), some (14, none), some (15, none), some (16, none)] (by simp only [go_sem]; repeat' first | rfl | constructor | (rw [List.map_set]; rfl) | (simp [List.map_take, List.map_drop] <;> omega)) (by rfl) (run_den 400 ?_)
        simp (disch := omega) only [go_sem, Nat.reduceEqDiff, Nat.reduceAdd, Nat.reduceSub, Int.reduceAdd, Int.reduceSub, Int.reduceToNat]
        refine den_drawC [(6, 7)] [[0, 1, 2, 3, 4, 5, 6, 7, 8], [0, 1, 2, 3, 4, 5, 7, 6, 8]] (by kernel_rfl) (by (try simp (disch := omega) only [go_sem, List.length_set, Nat.reduceEqDiff, Nat.reduceAdd, Nat.reduceSub, Int.reduceAdd, Int.reduceSub, Int.reduceToNat]) <;> omega) (by kernel_rfl) ?_
        simp only [allDn]
        refine ⟨runD_den 400 ?_, runD_den 400 ?_⟩
        all_goals simp (disch := omega) only [go_sem, Nat.reduceEqDiff, Nat.reduceAdd, Nat.reduceSub, Int.reduceAdd, Int.reduceSub, Int.reduceToNat]
        all_goals
         refine den_callD (by (try simp (disch := omega) only [go_sem, List.length_set, Nat.reduceEqDiff, Nat.reduceAdd, Nat.reduceSub, Int.reduceAdd, Int.reduceSub, Int.reduceToNat]) <;> omega) (impl_Between ⟨a.addr, n, 0⟩ { letNone with kind := 1, key := e.draw, give := e.draw + 2 }) [] (by simp only [go_sem]; repeat' first | rfl | constructor | (rw [List.map_set]; rfl) | (simp [List.map_take, List.map_drop] <;> omega)) (by rfl) (by rfl) (runD_den 400 ?_)
         simp (disch := omega) only [go_sem, Nat.reduceEqDiff, Nat.reduceAdd, Nat.reduceSub, Int.reduceAdd, Int.reduceSub, Int.reduceToNat]
         refine ⟨by (try simp (disch := omega) only [go_sem, List.length_set, Nat.reduceEqDiff, Nat.reduceAdd, Nat.reduceSub, Int.reduceAdd, Int.reduceSub, Int.reduceToNat]) <;> omega, run_den 400 ?_⟩
         try simp (disch := omega) only [go_sem, Nat.reduceEqDiff, Nat.reduceAdd, Nat.reduceSub, Int.reduceAdd, Int.reduceSub, Int.reduceToNat]
         refine den_fin [some (0, none), some (1, none), some (2, none), some (3, none), some (4, none), some (5, none), some (6, none), some (9, none), some (10, none), some (19, none), some (12, none), some (13, none), some (14, none), some (15, none), some (20, none)] (by (try simp (disch := omega) only [go_sem, List.length_set, Nat.reduceEqDiff, Nat.reduceAdd, Nat.reduceSub, Int.reduceAdd, Int.reduceSub, Int.reduceToNat]) <;> omega) _ (by simp only [go_sem]; rfl) (by rfl) (by rfl) ?_
         simp (disch := omega) only [go_sem, Nat.reduceEqDiff, Nat.reduceAdd, Nat.reduceSub, Int.reduceAdd, Int.reduceSub, Int.reduceToNat]
         try simp [SubD.cs, LetterD.cs, between, letNone]
     ·rw [hf (by rw [hk]; first | (simp [h5]; done) | (simp [h5]; intros; omega))]
      refine den_fin [some (0, none), some (1, none), some (2, none), some (3, none), some (4, none), some (5, none), some (6, none), some (9, none), some (10, none), some (11, none), some (12, none), some (13, none), some (14, none), some (15, none), none] (by (try simp (disch := omega) only [go_sem, List.length_set, Nat.reduceEqDiff, Nat.reduceAdd, Nat.reduceSub, Int.reduceAdd, Int.reduceSub, Int.reduceToNat]) <;> omega) _ (by simp only [go_sem]; rfl) (by rfl) (by rfl) ?_
      simp (disch := omega) only [go_sem, Nat.reduceEqDiff, Nat.reduceAdd, Nat.reduceSub, Int.reduceAdd, Int.reduceSub, Int.reduceToNat]
    ·rw [hf (by rw [hk]; first | (simp [h4]; done) | (simp [h4]; intros; omega))]
     refine den_fin [some (0, none), some (1, none), some (2, none), some (3, none), some (4, none), some (5, none), some (6, none), some (9, none), some (10, none), some (11, none), some (12, none), some (13, none), some (14, none), some (15, none), none] (by (try simp (disch := omega) only [go_sem, List.length_set, Nat.reduceEqDiff, Nat.reduceAdd, Nat.reduceSub, Int.reduceAdd, Int.reduceSub, Int.reduceToNat]) <;> omega) _ (by simp only [go_sem]; rfl) (by rfl) (by rfl) ?_
     simp (disch := omega) only [go_sem, Nat.reduceEqDiff, Nat.reduceAdd, Nat.reduceSub, Int.reduceAdd, Int.reduceSub, Int.reduceToNat]
   ·rw [hf (by rw [hk, decide_eq_true (by omega : e.own.length = 0)]; simp)]
    refine den_fin [some (0, none), some (1, none), some (2, none), some (3, none), some (4, none), some (5, none), some (6, none), some (9, none), some (10, none), some (11, none), some (12, none), some (13, none), some (14, none), some (15, none), none] (by (try simp (disch := omega) only [go_sem, List.length_set, Nat.reduceEqDiff, Nat.reduceAdd, Nat.reduceSub, Int.reduceAdd, Int.reduceSub, Int.reduceToNat]) <;> omega) _ (by simp only [go_sem]; rfl) (by rfl) (by rfl) ?_
    simp (disch := omega) only [go_sem, Nat.reduceEqDiff, Nat.reduceAdd, Nat.reduceSub, Int.reduceAdd, Int.reduceSub, Int.reduceToNat]
  ·rw [hf (by rw [hk]; first | (simp [h2]; done) | (simp [h2]; intros; omega))]
   refine den_fin [some (0, none), some (1, none), some (2, none), some (3, none), some (4, none), some (5, none), some (6, none), some (9, none), some (10, none), some (11, none), some (12, none), some (13, none), some (14, none), some (15, none), none] (by (try simp (disch := omega) only [go_sem, List.length_set, Nat.reduceEqDiff, Nat.reduceAdd, Nat.reduceSub, Int.reduceAdd, Int.reduceSub, Int.reduceToNat]) <;> omega) _ (by simp only [go_sem]; rfl) (by rfl) (by rfl) ?_
   simp (disch := omega) only [go_sem, Nat.reduceEqDiff, Nat.reduceAdd, Nat.reduceSub, Int.reduceAdd, Int.reduceSub, Int.reduceToNat]
 ·rw [hf (by rw [hk]; first | (simp [h1]; done) | (simp [h1]; intros; omega))]
  refine den_fin [some (0, none), some (1, none), some (2, none), some (3, none), some (4, none), some (5, none), some (6, none), some (9, none), some (10, none), some (11, none), some (12, none), some (13, none), some (14, none), some (15, none), none] (by (try simp (disch := omega) only [go_sem, List.length_set, Nat.reduceEqDiff, Nat.reduceAdd, Nat.reduceSub, Int.reduceAdd, Int.reduceSub, Int.reduceToNat]) <;> omega) _ (by simp only [go_sem]; rfl) (by rfl) (by rfl) ?_
  simp (disch := omega) only [go_sem, Nat.reduceEqDiff, Nat.reduceAdd, Nat.reduceSub, Int.reduceAdd, Int.reduceSub, Int.reduceToNat]
theorem spec_Open (e : EndD) (n : Int) (hs : Small e) : CallA Try.prog 17 [.ag (e.cs 0), .sc (.int .i64 n)] (e.hp false) (.tu [.ag ((openE e n).1.cs 7), .sc (.sl 14 0 (openE e n).2.length)])
  (e.hp false ++ ((openE e n).1.hp true ++ [some ⟨(openE e n).2.map LetterD.cs, 19, 60, true, true⟩])) := by
 have hC := spec_l17Copy e (by have := hs.own; omega) (by have := hs.far; omega) (by have := hs.subs; omega) (by have := hs.halfs; omega) (by have := hs.list; omega) (by have := hs.done; omega) (by have := hs.over; omega)
 have hK := spec_EndOk e (by have := hs.own; omega) (by have := hs.far; omega) (by have := hs.subs; omega) (by have := hs.halfs; omega) (by have := hs.list; omega) (by have := hs.done; omega) (by have := hs.over; omega)
 have hf := openE_f (e := e) (n := n)
 have ht := @openE_t e n
 have hk := openOk.eq_1 e n
 have hS := fun r => spec_SubAt e r (by have := hs.subs; omega)
 rw [openRoad] at hk
 generalize openE e n = R at *
 refine callA_of Try.func17 (by kernel_rfl) rfl fun E hE => run_den 400 ?_
 simp (disch := omega) only [Try.ntmps17, Try.results17, go_sem, Nat.reduceEqDiff, Nat.reduceAdd, Nat.reduceSub, Int.reduceAdd, Int.reduceSub, Int.reduceToNat]
 refine den_call (by (try simp (disch := omega) only [go_sem, List.length_set, Nat.reduceEqDiff, Nat.reduceAdd, Nat.reduceSub, Int.reduceAdd, Int.reduceSub, Int.reduceToNat]) <;> omega) (hC) [some (0, none), some (1, none), some (2, none), some (3, none), some (4, none), some (5, none), some (6, none)] (by simp only [go_sem]; repeat' first | rfl | constructor | (rw [List.map_set]; rfl) | (simp [List.map_take, List.map_drop] <;> omega)) (by rfl) (run_den 400 ?_)
 simp (disch := omega) only [go_sem, Nat.reduceEqDiff, Nat.reduceAdd, Nat.reduceSub, Int.reduceAdd, Int.reduceSub, Int.reduceToNat]
 refine den_draw1 [0, 1, 2, 3, 4, 5, 6, 7, 8, 9, 10, 11, 12, 13, 14, 15, 16, 17, 18, 19, 20, 21, 22, 23, 24, 25, 26, 27, 28, 29, 30, 31, 32, 33, 34, 35, 36, 37, 38, 39, 40, 41] (by kernel_rfl) (by (try simp (disch := omega) only [go_sem, List.length_set, Nat.reduceEqDiff, Nat.reduceAdd, Nat.reduceSub, Int.reduceAdd, Int.reduceSub, Int.reduceToNat]) <;> omega) (by kernel_rfl) (runD_den 400 ?_)
 simp (disch := omega) only [go_sem, Nat.reduceEqDiff, Nat.reduceAdd, Nat.reduceSub, Int.reduceAdd, Int.reduceSub, Int.reduceToNat]
 refine den_callD (by (try simp (disch := omega) only [go_sem, List.length_set, Nat.reduceEqDiff, Nat.reduceAdd, Nat.reduceSub, Int.reduceAdd, Int.reduceSub, Int.reduceToNat]) <;> omega) (hK) [some (0, none), some (1, none), some (2, none), some (3, none), some (4, none), some (5, none), some (6, none)] (by simp only [go_sem]; repeat' first | rfl | constructor | (rw [List.map_set]; rfl) | (simp [List.map_take, List.map_drop] <;> omega)) (by rfl) (by rfl) (runD_den 400 ?_)
 simp (disch := omega) only [go_sem, Nat.reduceEqDiff, Nat.reduceAdd, Nat.reduceSub, Int.reduceAdd, Int.reduceSub, Int.reduceToNat]
 split <;> rename_i h1 <;> (try simp only [beq_true, beq_false, Bool.not_eq_true', Bool.not_eq_false'] at h1) <;> simp (disch := omega) only [go_sem, Nat.reduceEqDiff, Nat.reduceAdd, Nat.reduceSub, Int.reduceAdd, Int.reduceSub, Int.reduceToNat, h1] <;> (try simp only [decide_eq_true_eq, decide_eq_false_iff_not, beq_iff_eq, beq_eq_false_iff_ne, bne_iff_ne, bne_eq_false_iff_eq, ne_eq, Decidable.not_not, Bool.and_eq_true, Bool.and_eq_false_iff, Bool.or_eq_true, Bool.or_eq_false_iff, Int.ofNat_lt, Int.ofNat_le, Bool.not_eq_eq_eq_not, Bool.not_true, Bool.not_false] at h1) <;> try simp (disch := omega) only [go_sem, Nat.reduceEqDiff, Nat.reduceAdd, Nat.reduceSub, Int.reduceAdd, Int.reduceSub, Int.reduceToNat]
 ·split <;> rename_i h2 <;> (try simp only [beq_true, beq_false, Bool.not_eq_true', Bool.not_eq_false'] at h2) <;> simp (disch := omega) only [go_sem, Nat.reduceEqDiff, Nat.reduceAdd, Nat.reduceSub, Int.reduceAdd, Int.reduceSub, Int.reduceToNat, h2] <;> (try simp only [decide_eq_true_eq, decide_eq_false_iff_not, beq_iff_eq, beq_eq_false_iff_ne, bne_iff_ne, bne_eq_false_iff_eq, ne_eq, Decidable.not_not, Bool.and_eq_true, Bool.and_eq_false_iff, Bool.or_eq_true, Bool.or_eq_false_iff, Int.ofNat_lt, Int.ofNat_le, Bool.not_eq_eq_eq_not, Bool.not_true, Bool.not_false] at h2) <;> try simp (disch := omega) only [go_sem, Nat.reduceEqDiff, Nat.reduceAdd, Nat.reduceSub, Int.reduceAdd, Int.reduceSub, Int.reduceToNat]
  ·split <;> rename_i h3 <;> (try simp only [beq_true, beq_false, Bool.not_eq_true', Bool.not_eq_false'] at h3) <;> simp (disch := omega) only [go_sem, Nat.reduceEqDiff, Nat.reduceAdd, Nat.reduceSub, Int.reduceAdd, Int.reduceSub, Int.reduceToNat, h3] <;> (try simp only [decide_eq_true_eq, decide_eq_false_iff_not, beq_iff_eq, beq_eq_false_iff_ne, bne_iff_ne, bne_eq_false_iff_eq, ne_eq, Decidable.not_not, Bool.and_eq_true, Bool.and_eq_false_iff, Bool.or_eq_true, Bool.or_eq_false_iff, Int.ofNat_lt, Int.ofNat_le, Bool.not_eq_eq_eq_not, Bool.not_true, Bool.not_false] at h3) <;> try simp (disch := omega) only [go_sem, Nat.reduceEqDiff, Nat.reduceAdd, Nat.reduceSub, Int.reduceAdd, Int.reduceSub, Int.reduceToNat]
   ·refine den_callD (by (try simp (disch := omega) only [go_sem, List.length_set, Nat.reduceEqDiff, Nat.reduceAdd, Nat.reduceSub, Int.reduceAdd, Int.reduceSub, Int.reduceToNat]) <;> omega) (spec_l01In _ _ _) [] (by simp only [go_sem]; repeat' first | rfl | constructor | (rw [List.map_set]; rfl) | (simp [List.map_take, List.map_drop] <;> omega)) (by rfl) (by rfl) (runD_den 400 ?_)
    simp (disch := omega) only [go_sem, Nat.reduceEqDiff, Nat.reduceAdd, Nat.reduceSub, Int.reduceAdd, Int.reduceSub, Int.reduceToNat]
    split <;> rename_i h4 <;> (try simp only [beq_true, beq_false, Bool.not_eq_true', Bool.not_eq_false'] at h4) <;> simp (disch := omega) only [go_sem, Nat.reduceEqDiff, Nat.reduceAdd, Nat.reduceSub, Int.reduceAdd, Int.reduceSub, Int.reduceToNat, h4] <;> (try simp only [decide_eq_true_eq, decide_eq_false_iff_not, beq_iff_eq, beq_eq_false_iff_ne, bne_iff_ne, bne_eq_false_iff_eq, ne_eq, Decidable.not_not, Bool.and_eq_true, Bool.and_eq_false_iff, Bool.or_eq_true, Bool.or_eq_false_iff, Int.ofNat_lt, Int.ofNat_le, Bool.not_eq_eq_eq_not, Bool.not_true, Bool.not_false] at h4) <;> try simp (disch := omega) only [go_sem, Nat.reduceEqDiff, Nat.reduceAdd, Nat.reduceSub, Int.reduceAdd, Int.reduceSub, Int.reduceToNat]
    ·obtain ⟨a, ha⟩ : ∃ a, e.own[0]'(by omega) = a := ⟨_, rfl⟩
     have ha2 : e.own.getD 0 default = a := by rw [← ha, List.getD_eq_getElem?_getD, List.getElem?_eq_getElem (by omega)]; rfl
     rw [ha2] at hk
     try simp (disch := omega) only [go_sem, Nat.reduceEqDiff, Nat.reduceAdd, Nat.reduceSub, Int.reduceAdd, Int.reduceSub, Int.reduceToNat, ha]
     refine den_callD (by (try simp (disch := omega) only [go_sem, List.length_set, Nat.reduceEqDiff, Nat.reduceAdd, Nat.reduceSub, Int.reduceAdd, Int.reduceSub, Int.reduceToNat]) <;> omega) (hS ⟨a.addr, n, 0⟩) [some (0, none), some (1, none), some (2, none), some (3, none), some (4, none), some (5, none), some (6, none)] (by simp only [go_sem]; repeat' first | rfl | constructor | (rw [List.map_set]; rfl) | (simp [List.map_take, List.map_drop] <;> omega)) (by rfl) (by rfl) (runD_den 400 ?_)
     simp (disch := omega) only [go_sem, Nat.reduceEqDiff, Nat.reduceAdd, Nat.reduceSub, Int.reduceAdd, Int.reduceSub, Int.reduceToNat]
     split <;> rename_i h7 <;> (try simp only [beq_true, beq_false, Bool.not_eq_true', Bool.not_eq_false'] at h7) <;> simp (disch := omega) only [go_sem, Nat.reduceEqDiff, Nat.reduceAdd, Nat.reduceSub, Int.reduceAdd, Int.reduceSub, Int.reduceToNat, h7] <;> (try simp only [decide_eq_true_eq, decide_eq_false_iff_not, beq_iff_eq, beq_eq_false_iff_ne, bne_iff_ne, bne_eq_false_iff_eq, ne_eq, Decidable.not_not, Bool.and_eq_true, Bool.and_eq_false_iff, Bool.or_eq_true, Bool.or_eq_false_iff, Int.ofNat_lt, Int.ofNat_le, Bool.not_eq_eq_eq_not, Bool.not_true, Bool.not_false] at h7) <;> try simp (disch := omega) only [go_sem, Nat.reduceEqDiff, Nat.reduceAdd, Nat.reduceSub, Int.reduceAdd, Int.reduceSub, Int.reduceToNat]
     ·split <;> rename_i h5 <;> (try simp only [beq_true, beq_false, Bool.not_eq_true', Bool.not_eq_false'] at h5) <;> simp (disch := omega) only [go_sem, Nat.reduceEqDiff, Nat.reduceAdd, Nat.reduceSub, Int.reduceAdd, Int.reduceSub, Int.reduceToNat, h5] <;> (try simp only [decide_eq_true_eq, decide_eq_false_iff_not, beq_iff_eq, beq_eq_false_iff_ne, bne_iff_ne, bne_eq_false_iff_eq, ne_eq, Decidable.not_not, Bool.and_eq_true, Bool.and_eq_false_iff, Bool.or_eq_true, Bool.or_eq_false_iff, Int.ofNat_lt, Int.ofNat_le, Bool.not_eq_eq_eq_not, Bool.not_true, Bool.not_false] at h5) <;> try simp (disch := omega) only [go_sem, Nat.reduceEqDiff, Nat.reduceAdd, Nat.reduceSub, Int.reduceAdd, Int.reduceSub, Int.reduceToNat]
      ·refine den_callD (by (try simp (disch := omega) only [go_sem, List.length_set, Nat.reduceEqDiff, Nat.reduceAdd, Nat.reduceSub, Int.reduceAdd, Int.reduceSub, Int.reduceToNat]) <;> omega) (spec_l18Room2 e) [some (0, none), some (1, none), some (2, none), some (3, none), some (4, none), some (5, none), some (6, none)] (by simp only [go_sem]; repeat' first | rfl | constructor | (rw [List.map_set]; rfl) | (simp [List.map_take, List.map_drop] <;> omega)) (by rfl) (by rfl) (runD_den 400 ?_)
       simp (disch := omega) only [go_sem, Nat.reduceEqDiff, Nat.reduceAdd, Nat.reduceSub, Int.reduceAdd, Int.reduceSub, Int.reduceToNat]
       refine ⟨by (try simp (disch := omega) only [go_sem, List.length_set, Nat.reduceEqDiff, Nat.reduceAdd, Nat.reduceSub, Int.reduceAdd, Int.reduceSub, Int.reduceToNat]) <;> omega, run_den 400 ?_⟩
       try simp (disch := omega) only [go_sem, Nat.reduceEqDiff, Nat.reduceAdd, Nat.reduceSub, Int.reduceAdd, Int.reduceSub, Int.reduceToNat]
       split <;> rename_i h6 <;> (try simp only [beq_true, beq_false, Bool.not_eq_true', Bool.not_eq_false'] at h6) <;> simp (disch := omega) only [go_sem, Nat.reduceEqDiff, Nat.reduceAdd, Nat.reduceSub, Int.reduceAdd, Int.reduceSub, Int.reduceToNat, h6] <;> (try simp only [decide_eq_true_eq, decide_eq_false_iff_not, beq_iff_eq, beq_eq_false_iff_ne, bne_iff_ne, bne_eq_false_iff_eq, ne_eq, Decidable.not_not, Bool.and_eq_true, Bool.and_eq_false_iff, Bool.or_eq_true, Bool.or_eq_false_iff, Int.ofNat_lt, Int.ofNat_le, Bool.not_eq_eq_eq_not, Bool.not_true, Bool.not_false] at h6) <;> try simp (disch := omega) only [go_sem, Nat.reduceEqDiff, Nat.reduceAdd, Nat.reduceSub, Int.reduceAdd, Int.reduceSub, Int.reduceToNat]
       ·rw [hf (by rw [hk]; first | (simp [h6]; done) | (simp [h6]; intros; omega))]
        refine den_fin [some (0, none), some (1, none), some (2, none), some (3, none), some (4, none), some (5, none), some (6, none), some (9, none), some (10, none), some (11, none), some (12, none), some (13, none), some (14, none), some (15, none), some (17, none)] (by (try simp (disch := omega) only [go_sem, List.length_set, Nat.reduceEqDiff, Nat.reduceAdd, Nat.reduceSub, Int.reduceAdd, Int.reduceSub, Int.reduceToNat]) <;> omega) _ (by simp only [go_sem]; rfl) (by rfl) (by rfl) ?_
        simp (disch := omega) only [go_sem, Nat.reduceEqDiff, Nat.reduceAdd, Nat.reduceSub, Int.reduceAdd, Int.reduceSub, Int.reduceToNat]
       ·rw [ht (a := a) (by rw [hk, h1, h4, h6, decide_eq_true (by omega : e.state = 0), decide_eq_false (by omega : ¬ e.own.length = 0), decide_eq_true (by have := endOk_subs h1; omega : e.subs.length < 8), decide_eq_true (by omega : subAt e.subs ⟨a.addr, n, 0⟩ < 0)]; rfl) ha2]
        have h8' := h6
        simp only [inR, Bool.and_eq_true, decide_eq_true_eq] at h8'
        have hd1 : inR e.draw 1 999999998 = true := by simp only [inR, Bool.and_eq_true, decide_eq_true_eq]; omega
        have hd2 : inR (e.draw + 2) 1 999999998 = true := by simp only [inR, Bool.and_eq_true, decide_eq_true_eq]; omega
        refine den_call (by (try simp (disch := omega) only [go_sem, List.length_set, Nat.reduceEqDiff, Nat.reduceAdd, Nat.reduceSub, Int.reduceAdd, Int.reduceSub, Int.reduceToNat]) <;> omega) (spec_l18Draw e hs hd1) [some (9, none), some (10, none), some (11, none), some (12, none), some (13, none), some (14, none), some (15, none)] (by simp only [go_sem]; repeat' first | rfl | constructor | (rw [List.map_set]; rfl) | (simp [List.map_take, List.map_drop] <;> omega)) (by rfl) (run_den 400 ?_)
        simp (disch := omega) only [go_sem, Nat.reduceEqDiff, Nat.reduceAdd, Nat.reduceSub, Int.reduceAdd, Int.reduceSub, Int.reduceToNat]
        refine den_call (by (try simp (disch := omega) only [go_sem, List.length_set, Nat.reduceEqDiff, Nat.reduceAdd, Nat.reduceSub, Int.reduceAdd, Int.reduceSub, Int.reduceToNat]) <;> omega) (spec_l18Draw { e with draw := e.draw + 2 } ⟨hs.own, hs.far, hs.subs, hs.halfs, hs.list, hs.done, hs.over⟩ hd2) [some (18, none), some (19, none), some (20, none), some (21, none), some (22, none), some (23, none), some (24, none)] (by simp only [go_sem]; repeat' first | rfl | constructor | (rw [List.map_set]; rfl) | (simp [List.map_take, List.map_drop] <;> omega)) (by rfl) (run_den 400 ?_)
        simp (disch := omega) only [go_sem, Nat.reduceEqDiff, Nat.reduceAdd, Nat.reduceSub, Int.reduceAdd, Int.reduceSub, Int.reduceToNat]
        try simp (disch := omega) only [go_sem, Nat.reduceEqDiff, Nat.reduceAdd, Nat.reduceSub, Int.reduceAdd, Int.reduceSub, Int.reduceToNat, ha]
        refine den_call (by (try simp (disch := omega) only [go_sem, List.length_set, Nat.reduceEqDiff, Nat.reduceAdd, Nat.reduceSub, Int.reduceAdd, Int.reduceSub, Int.reduceToNat]) <;> omega) (spec_l18Sub { e with state := 1, key := e.draw, draw := e.draw + 2 + 2 } ⟨⟨a.addr, n, 0⟩, 1, false, 0, 0, 0, e.draw + 2, 0⟩ (by have := endOk_subs h1; dsimp only; omega)) [some (25, none), some (26, none), some (27, none), some (28, none), some (29, none), some (30, none), some (31, none)] (by simp only [go_sem]; repeat' first | rfl | constructor | (rw [List.map_set]; rfl) | (simp [List.map_take, List.map_drop] <;> omega)) (by rfl) (run_den 400 ?_)
        simp (disch := omega) only [go_sem, Nat.reduceEqDiff, Nat.reduceAdd, Nat.reduceSub, Int.reduceAdd, Int.reduceSub, Int.reduceToNat]
        refine den_drawC [(0, 9), (7, 0), (8, 0)] [[1, 2, 3, 4, 5, 6, 7, 8, 0, 9, 10, 11], [1, 2, 3, 4, 5, 6, 7, 0, 8, 9, 10, 11], [1, 2, 3, 4, 5, 6, 0, 7, 8, 9, 10, 11], [1, 2, 3, 4, 5, 6, 7, 8, 9, 0, 10, 11]] (by kernel_rfl) (by (try simp (disch := omega) only [go_sem, List.length_set, Nat.reduceEqDiff, Nat.reduceAdd, Nat.reduceSub, Int.reduceAdd, Int.reduceSub, Int.reduceToNat]) <;> omega) (by kernel_rfl) ?_
        simp only [allDn]
        refine ⟨runD_den 400 ?_, runD_den 400 ?_, runD_den 400 ?_, runD_den 400 ?_⟩
        all_goals simp (disch := omega) only [go_sem, Nat.reduceEqDiff, Nat.reduceAdd, Nat.reduceSub, Int.reduceAdd, Int.reduceSub, Int.reduceToNat]
        all_goals
         refine den_callD (by (try simp (disch := omega) only [go_sem, List.length_set, Nat.reduceEqDiff, Nat.reduceAdd, Nat.reduceSub, Int.reduceAdd, Int.reduceSub, Int.reduceToNat]) <;> omega) (spec_Between ⟨a.addr, n, 0⟩ { letNone with kind := 1, key := e.draw, give := e.draw + 2 }) [] (by simp only [go_sem]; repeat' first | rfl | constructor | (rw [List.map_set]; rfl) | (simp [List.map_take, List.map_drop] <;> omega)) (by rfl) (by rfl) (runD_den 400 ?_)
         simp (disch := omega) only [go_sem, Nat.reduceEqDiff, Nat.reduceAdd, Nat.reduceSub, Int.reduceAdd, Int.reduceSub, Int.reduceToNat]
         refine ⟨by (try simp (disch := omega) only [go_sem, List.length_set, Nat.reduceEqDiff, Nat.reduceAdd, Nat.reduceSub, Int.reduceAdd, Int.reduceSub, Int.reduceToNat]) <;> omega, run_den 400 ?_⟩
         try simp (disch := omega) only [go_sem, Nat.reduceEqDiff, Nat.reduceAdd, Nat.reduceSub, Int.reduceAdd, Int.reduceSub, Int.reduceToNat]
         refine den_fin [some (0, none), some (1, none), some (2, none), some (3, none), some (4, none), some (5, none), some (6, none), some (25, none), some (26, none), some (33, none), some (28, none), some (29, none), some (30, none), some (31, none), some (35, none)] (by (try simp (disch := omega) only [go_sem, List.length_set, Nat.reduceEqDiff, Nat.reduceAdd, Nat.reduceSub, Int.reduceAdd, Int.reduceSub, Int.reduceToNat]) <;> omega) _ (by simp only [go_sem]; rfl) (by rfl) (by rfl) ?_
         simp (disch := omega) only [go_sem, Nat.reduceEqDiff, Nat.reduceAdd, Nat.reduceSub, Int.reduceAdd, Int.reduceSub, Int.reduceToNat]
         try simp [SubD.cs, LetterD.cs, between, letNone]
         try omega
      ·rw [hf (by rw [hk]; first | (simp [h5]; done) | (simp [h5]; intros; omega))]
       refine ⟨by (try simp (disch := omega) only [go_sem, List.length_set, Nat.reduceEqDiff, Nat.reduceAdd, Nat.reduceSub, Int.reduceAdd, Int.reduceSub, Int.reduceToNat]) <;> omega, run_den 400 ?_⟩
       try simp (disch := omega) only [go_sem, Nat.reduceEqDiff, Nat.reduceAdd, Nat.reduceSub, Int.reduceAdd, Int.reduceSub, Int.reduceToNat]
       refine den_fin [some (0, none), some (1, none), some (2, none), some (3, none), some (4, none), some (5, none), some (6, none), some (9, none), some (10, none), some (11, none), some (12, none), some (13, none), some (14, none), some (15, none), some (17, none)] (by (try simp (disch := omega) only [go_sem, List.length_set, Nat.reduceEqDiff, Nat.reduceAdd, Nat.reduceSub, Int.reduceAdd, Int.reduceSub, Int.reduceToNat]) <;> omega) _ (by simp only [go_sem]; rfl) (by rfl) (by rfl) ?_
       simp (disch := omega) only [go_sem, Nat.reduceEqDiff, Nat.reduceAdd, Nat.reduceSub, Int.reduceAdd, Int.reduceSub, Int.reduceToNat]
     ·rw [hf (by rw [hk]; first | (simp [h7]; done) | (simp [h7]; intros; omega))]
      refine ⟨by (try simp (disch := omega) only [go_sem, List.length_set, Nat.reduceEqDiff, Nat.reduceAdd, Nat.reduceSub, Int.reduceAdd, Int.reduceSub, Int.reduceToNat]) <;> omega, run_den 400 ?_⟩
      try simp (disch := omega) only [go_sem, Nat.reduceEqDiff, Nat.reduceAdd, Nat.reduceSub, Int.reduceAdd, Int.reduceSub, Int.reduceToNat]
      refine den_fin [some (0, none), some (1, none), some (2, none), some (3, none), some (4, none), some (5, none), some (6, none), some (9, none), some (10, none), some (11, none), some (12, none), some (13, none), some (14, none), some (15, none), some (17, none)] (by (try simp (disch := omega) only [go_sem, List.length_set, Nat.reduceEqDiff, Nat.reduceAdd, Nat.reduceSub, Int.reduceAdd, Int.reduceSub, Int.reduceToNat]) <;> omega) _ (by simp only [go_sem]; rfl) (by rfl) (by rfl) ?_
      simp (disch := omega) only [go_sem, Nat.reduceEqDiff, Nat.reduceAdd, Nat.reduceSub, Int.reduceAdd, Int.reduceSub, Int.reduceToNat]
    ·rw [hf (by rw [hk]; first | (simp [h4]; done) | (simp [h4]; intros; omega))]
     refine ⟨by (try simp (disch := omega) only [go_sem, List.length_set, Nat.reduceEqDiff, Nat.reduceAdd, Nat.reduceSub, Int.reduceAdd, Int.reduceSub, Int.reduceToNat]) <;> omega, run_den 400 ?_⟩
     try simp (disch := omega) only [go_sem, Nat.reduceEqDiff, Nat.reduceAdd, Nat.reduceSub, Int.reduceAdd, Int.reduceSub, Int.reduceToNat]
     refine den_fin [some (0, none), some (1, none), some (2, none), some (3, none), some (4, none), some (5, none), some (6, none), some (9, none), some (10, none), some (11, none), some (12, none), some (13, none), some (14, none), some (15, none), some (17, none)] (by (try simp (disch := omega) only [go_sem, List.length_set, Nat.reduceEqDiff, Nat.reduceAdd, Nat.reduceSub, Int.reduceAdd, Int.reduceSub, Int.reduceToNat]) <;> omega) _ (by simp only [go_sem]; rfl) (by rfl) (by rfl) ?_
     simp (disch := omega) only [go_sem, Nat.reduceEqDiff, Nat.reduceAdd, Nat.reduceSub, Int.reduceAdd, Int.reduceSub, Int.reduceToNat]
   ·rw [hf (by rw [hk, decide_eq_true (by omega : e.own.length = 0)]; simp)]
    refine ⟨by (try simp (disch := omega) only [go_sem, List.length_set, Nat.reduceEqDiff, Nat.reduceAdd, Nat.reduceSub, Int.reduceAdd, Int.reduceSub, Int.reduceToNat]) <;> omega, run_den 400 ?_⟩
    try simp (disch := omega) only [go_sem, Nat.reduceEqDiff, Nat.reduceAdd, Nat.reduceSub, Int.reduceAdd, Int.reduceSub, Int.reduceToNat]
    refine den_fin [some (0, none), some (1, none), some (2, none), some (3, none), some (4, none), some (5, none), some (6, none), some (9, none), some (10, none), some (11, none), some (12, none), some (13, none), some (14, none), some (15, none), some (17, none)] (by (try simp (disch := omega) only [go_sem, List.length_set, Nat.reduceEqDiff, Nat.reduceAdd, Nat.reduceSub, Int.reduceAdd, Int.reduceSub, Int.reduceToNat]) <;> omega) _ (by simp only [go_sem]; rfl) (by rfl) (by rfl) ?_
    simp (disch := omega) only [go_sem, Nat.reduceEqDiff, Nat.reduceAdd, Nat.reduceSub, Int.reduceAdd, Int.reduceSub, Int.reduceToNat]
  ·rw [hf (by rw [hk]; first | (simp [h2]; done) | (simp [h2]; intros; omega))]
   refine ⟨by (try simp (disch := omega) only [go_sem, List.length_set, Nat.reduceEqDiff, Nat.reduceAdd, Nat.reduceSub, Int.reduceAdd, Int.reduceSub, Int.reduceToNat]) <;> omega, run_den 400 ?_⟩
   try simp (disch := omega) only [go_sem, Nat.reduceEqDiff, Nat.reduceAdd, Nat.reduceSub, Int.reduceAdd, Int.reduceSub, Int.reduceToNat]
   refine den_fin [some (0, none), some (1, none), some (2, none), some (3, none), some (4, none), some (5, none), some (6, none), some (9, none), some (10, none), some (11, none), some (12, none), some (13, none), some (14, none), some (15, none), some (17, none)] (by (try simp (disch := omega) only [go_sem, List.length_set, Nat.reduceEqDiff, Nat.reduceAdd, Nat.reduceSub, Int.reduceAdd, Int.reduceSub, Int.reduceToNat]) <;> omega) _ (by simp only [go_sem]; rfl) (by rfl) (by rfl) ?_
   simp (disch := omega) only [go_sem, Nat.reduceEqDiff, Nat.reduceAdd, Nat.reduceSub, Int.reduceAdd, Int.reduceSub, Int.reduceToNat]
 ·rw [hf (by rw [hk]; first | (simp [h1]; done) | (simp [h1]; intros; omega))]
  refine ⟨by (try simp (disch := omega) only [go_sem, List.length_set, Nat.reduceEqDiff, Nat.reduceAdd, Nat.reduceSub, Int.reduceAdd, Int.reduceSub, Int.reduceToNat]) <;> omega, run_den 400 ?_⟩
  try simp (disch := omega) only [go_sem, Nat.reduceEqDiff, Nat.reduceAdd, Nat.reduceSub, Int.reduceAdd, Int.reduceSub, Int.reduceToNat]
  refine den_fin [some (0, none), some (1, none), some (2, none), some (3, none), some (4, none), some (5, none), some (6, none), some (9, none), some (10, none), some (11, none), some (12, none), some (13, none), some (14, none), some (15, none), some (17, none)] (by (try simp (disch := omega) only [go_sem, List.length_set, Nat.reduceEqDiff, Nat.reduceAdd, Nat.reduceSub, Int.reduceAdd, Int.reduceSub, Int.reduceToNat]) <;> omega) _ (by simp only [go_sem]; rfl) (by rfl) (by rfl) ?_
  simp (disch := omega) only [go_sem, Nat.reduceEqDiff, Nat.reduceAdd, Nat.reduceSub, Int.reduceAdd, Int.reduceSub, Int.reduceToNat]
end
section
open Go.RowKit

def hbF (a : EndD) (y : LetterD) : EndD := (hearBack a y).1
theorem meet_0 {a b : EndD} (h : b.own.length = 0) : meet a b = (a, b, false) := if_pos h
theorem meet_t {a b : EndD} {h : AddrD} {x : EndD} {L : List LetterD} (hn : ¬ b.own.length = 0) (hb : b.own.getD 0 default = h) (ho : openE a h.addr = (x, L)) : meet a b = ((meetGo x L b).1, (meetGo x L b).2, metB (meetGo x L b).1 (meetGo x L b).2) := by
 rw [meet, if_neg hn, hb, ho]
theorem openE_one (a : EndD) (n : Int) : (openE a n).2.length ≤ 1 := by rw [openE]; split <;> simp
theorem openE_small {a : EndD} {n : Int} (hs : Small a) : Small (openE a n).1 := by
 rw [openE]; split
 ·rename_i h
  simp only [openOk, Bool.and_eq_true, decide_eq_true_eq] at h
  exact ⟨hs.own, hs.far, by simp only [List.length_append, List.length_singleton]; omega, hs.halfs, hs.list, hs.done, hs.over⟩
 ·exact hs
theorem hello_small {e : EndD} {x : LetterD} (hs : Small e) : Small (hearHello e x).1 := by
 rw [hearHello]; split
 ·rename_i h
  simp only [helloOk, Bool.and_eq_true, decide_eq_true_eq] at h
  exact ⟨hs.own, by simp [farOne], by simp only [List.length_append, List.length_singleton]; omega, hs.halfs, hs.list, hs.done, hs.over⟩
 ·exact hs
theorem back_small {e : EndD} {x : LetterD} (hs : Small e) : Small (hearBack e x).1 := by
 rw [hearBack]; split
 ·exact ⟨hs.own, by simp [farOne], by simpa only [List.length_set] using hs.subs, hs.halfs, hs.list, hs.done, hs.over⟩
 ·exact hs
theorem hello_one {e : EndD} {x : LetterD} : (hearHello e x).2.length ≤ 1 := by rw [hearHello]; split <;> simp
theorem meetGo_step {x y : EndD} {l : List LetterD} {k : Nat} (h : k < l.length) : meetGo x (l.drop k) y = meetGo ((hearHello y l[k]).2.foldl hbF x) (l.drop (k + 1)) (hearHello y l[k]).1 := by
 rw [List.drop_eq_getElem_cons h]; rfl
theorem meetGo_end {x y : EndD} {l : List LetterD} {k : Nat} (h : l.length ≤ k) : meetGo x (l.drop k) y = (x, y) := by
 rw [List.drop_eq_nil_of_le h]; rfl
theorem foldB_step {x : EndD} {l : List LetterD} {k : Nat} (h : k < l.length) : (l.drop k).foldl hbF x = (l.drop (k + 1)).foldl hbF (hearBack x l[k]).1 := by
 rw [List.drop_eq_getElem_cons h]; rfl
theorem foldB_end {x : EndD} {l : List LetterD} {k : Nat} (h : l.length ≤ k) : (l.drop k).foldl hbF x = x := by
 rw [List.drop_eq_nil_of_le h]; rfl
theorem meetGo_one (x : EndD) (l : LetterD) (b : EndD) : meetGo x [l] b = ((hearHello b l).2.foldl hbF x, (hearHello b l).1) := rfl
theorem meet_got {x b y X Y : EndD} {L bk : List LetterD} {k : Nat} (hXY : meetGo x L b = (X, Y)) (hL : L.length ≤ 1) (hk : L.length ≤ k) (f1 : k ≤ L.length) (f4 : (k = 0 ∧ y = b ∧ bk = []) ∨ (k = 1 ∧ L.length = 1 ∧ ∀ h : 0 < L.length, (y, bk) = hearHello b L[0])) : bk.foldl hbF x = X ∧ y = Y := by
 refine f4.elim (fun h => ?_) (fun h => ?_)
 ·have : L = [] := List.eq_nil_of_length_eq_zero (by have := h.1; omega)
  subst this
  rw [h.2.1, h.2.2]
  exact ⟨congrArg Prod.fst hXY, congrArg Prod.snd hXY⟩
 ·have hl := List.length_eq_one_iff.1 h.2.1
  refine hl.elim fun l hl => ?_
  subst hl
  have h2 := h.2.2 (by simp)
  simp only [List.getElem_cons_zero] at h2
  rw [meetGo_one, ← h2] at hXY
  exact ⟨congrArg Prod.fst hXY, congrArg Prod.snd hXY⟩
theorem metB_cases (x y : EndD) : (x.state ≠ 2 ∧ metB x y = false) ∨ (x.state = 2 ∧ y.state ≠ 2 ∧ metB x y = false) ∨ (x.state = 2 ∧ y.state = 2 ∧ x.peer ≠ y.key ∧ metB x y = false) ∨ (x.state = 2 ∧ y.state = 2 ∧ x.peer = y.key ∧ y.peer ≠ x.key ∧ metB x y = false) ∨ (x.state = 2 ∧ y.state = 2 ∧ x.peer = y.key ∧ y.peer = x.key ∧ metB x y = true) := by
 by_cases h1 : x.state = 2
 ·by_cases h2 : y.state = 2
  ·by_cases h3 : x.peer = y.key
   ·by_cases h4 : y.peer = x.key
    ·simp [metB, h1, h2, h3, h4]
    ·simp [metB, h1, h2, h3, h4]
   ·simp [metB, h1, h2, h3]
  ·simp [metB, h1, h2]
 ·simp [metB, h1]
theorem impl_Meet (a b : EndD) (ha : Small a) (hb : Small b) : CallA Try.prog 6 [.ag (a.cs 0), .ag (b.cs 7)] (a.hp false ++ b.hp false) (.tu [.ag ((meet a b).1.cs 14), .ag ((meet a b).2.1.cs 21), .sc (.bo (meet a b).2.2)])
  (a.hp false ++ (b.hp false ++ ((meet a b).1.hp true ++ (meet a b).2.1.hp true))) := by
 have hCa := impl_copyEnd a (by have := ha.own; omega) (by have := ha.far; omega) (by have := ha.subs; omega) (by have := ha.halfs; omega) (by have := ha.list; omega) (by have := ha.done; omega) (by have := ha.over; omega)
 have hCb := impl_copyEnd b (by have := hb.own; omega) (by have := hb.far; omega) (by have := hb.subs; omega) (by have := hb.halfs; omega) (by have := hb.list; omega) (by have := hb.done; omega) (by have := hb.over; omega)
 have h0 := @meet_0 a b
 have ht := @meet_t a b
 have hbo := hb.own
 obtain ⟨R, hR⟩ : ∃ R, R = meet a b := ⟨_, rfl⟩
 rw [← hR] at h0 ht ⊢
 clear hR
 refine callA_ofO Try.func6 (by kernel_rfl) rfl fun E hE => run_den 400 ?_
 simp (disch := omega) only [Try.ntmps6, Try.results6, go_sem, Nat.reduceEqDiff, Nat.reduceAdd, Nat.reduceSub, Int.reduceAdd, Int.reduceSub, Int.reduceToNat]
 split <;> rename_i h1 <;> (try simp only [beq_true, beq_false, Bool.not_eq_true', Bool.not_eq_false'] at h1) <;> simp (disch := omega) only [go_sem, Nat.reduceEqDiff, Nat.reduceAdd, Nat.reduceSub, Int.reduceAdd, Int.reduceSub, Int.reduceToNat, h1] <;> (try simp only [decide_eq_true_eq, decide_eq_false_iff_not, beq_iff_eq, beq_eq_false_iff_ne, bne_iff_ne, bne_eq_false_iff_eq, ne_eq, Decidable.not_not, Bool.and_eq_true, Bool.and_eq_false_iff, Bool.or_eq_true, Bool.or_eq_false_iff, Int.ofNat_lt, Int.ofNat_le, Bool.not_eq_eq_eq_not, Bool.not_true, Bool.not_false] at h1) <;> try simp (disch := omega) only [go_sem, Nat.reduceEqDiff, Nat.reduceAdd, Nat.reduceSub, Int.reduceAdd, Int.reduceSub, Int.reduceToNat]
 ·rw [h0 (by omega)]
  refine den_draw1 [0, 2, 1, 3, 4, 5, 6] (by kernel_rfl) (by (try simp (disch := omega) only [go_sem, List.length_set, Nat.reduceEqDiff, Nat.reduceAdd, Nat.reduceSub, Int.reduceAdd, Int.reduceSub, Int.reduceToNat]) <;> omega) (by kernel_rfl) (runD_den 400 ?_)
  simp (disch := omega) only [go_sem, Nat.reduceEqDiff, Nat.reduceAdd, Nat.reduceSub, Int.reduceAdd, Int.reduceSub, Int.reduceToNat]
  refine den_callD (by (try simp (disch := omega) only [go_sem, List.length_set, Nat.reduceEqDiff, Nat.reduceAdd, Nat.reduceSub, Int.reduceAdd, Int.reduceSub, Int.reduceToNat]) <;> omega) (hCa) [some (0, none), some (1, none), some (2, none), some (3, none), some (4, none), some (5, none), some (6, none)] (by simp only [go_sem]; repeat' first | rfl | constructor | (rw [List.map_set]; rfl) | (simp [List.map_take, List.map_drop] <;> omega)) (by rfl) (by rfl) (runD_den 400 ?_)
  simp (disch := omega) only [go_sem, Nat.reduceEqDiff, Nat.reduceAdd, Nat.reduceSub, Int.reduceAdd, Int.reduceSub, Int.reduceToNat]
  refine den_callD (by (try simp (disch := omega) only [go_sem, List.length_set, Nat.reduceEqDiff, Nat.reduceAdd, Nat.reduceSub, Int.reduceAdd, Int.reduceSub, Int.reduceToNat]) <;> omega) (hCb) [some (7, none), some (8, none), some (9, none), some (10, none), some (11, none), some (12, none), some (13, none)] (by simp only [go_sem]; repeat' first | rfl | constructor | (rw [List.map_set]; rfl) | (simp [List.map_take, List.map_drop] <;> omega)) (by rfl) (by rfl) (runD_den 400 ?_)
  simp (disch := omega) only [go_sem, Nat.reduceEqDiff, Nat.reduceAdd, Nat.reduceSub, Int.reduceAdd, Int.reduceSub, Int.reduceToNat]
  refine ⟨by (try simp (disch := omega) only [go_sem, List.length_set, Nat.reduceEqDiff, Nat.reduceAdd, Nat.reduceSub, Int.reduceAdd, Int.reduceSub, Int.reduceToNat]) <;> omega, run_den 400 ?_⟩
  try simp (disch := omega) only [go_sem, Nat.reduceEqDiff, Nat.reduceAdd, Nat.reduceSub, Int.reduceAdd, Int.reduceSub, Int.reduceToNat]
  refine den_finO [some (0, none), some (1, none), some (2, none), some (3, none), some (4, none), some (5, none), some (6, none), some (7, none), some (8, none), some (9, none), some (10, none), some (11, none), some (12, none), some (13, none), some (18, none), some (19, none), some (20, none), some (21, none), some (22, none), some (23, none), some (24, none), some (25, none), some (26, none), some (27, none), some (28, none), some (29, none), some (30, none), some (31, none)] (by (try simp (disch := omega) only [go_sem, List.length_set, Nat.reduceEqDiff, Nat.reduceAdd, Nat.reduceSub, Int.reduceAdd, Int.reduceSub, Int.reduceToNat]) <;> omega) _ (by simp only [go_sem]; rfl) (by rfl) (by rfl) ?_
  simp (disch := omega) only [go_sem, Nat.reduceEqDiff, Nat.reduceAdd, Nat.reduceSub, Int.reduceAdd, Int.reduceSub, Int.reduceToNat]
 ·obtain ⟨d, hd⟩ : ∃ d, b.own[0]'(by omega) = d := ⟨_, rfl⟩
  have hd2 : b.own.getD 0 default = d := by rw [← hd, List.getD_eq_getElem?_getD, List.getElem?_eq_getElem (by omega)]; rfl
  have hO := impl_Open a d.addr ha
  have hx1 := openE_one a d.addr
  have hxs := openE_small (n := d.addr) ha
  obtain ⟨P, hP⟩ : ∃ P, P = openE a d.addr := ⟨_, rfl⟩
  rw [← hP] at hO hx1 hxs
  obtain ⟨x, L⟩ := P
  dsimp only at hO hx1 hxs
  have ht := ht (by omega) hd2 hP.symm
  clear hP
  obtain ⟨X, Y, hXY⟩ : ∃ X Y, meetGo x L b = (X, Y) := ⟨_, _, rfl⟩
  rw [hXY] at ht
  dsimp only at ht
  subst ht
  try simp (disch := omega) only [go_sem, Nat.reduceEqDiff, Nat.reduceAdd, Nat.reduceSub, Int.reduceAdd, Int.reduceSub, Int.reduceToNat]
  refine den_drawX [(6, 10)] [] [[0, 1, 2, 3, 4, 5, 6, 7, 8, 9, 10, 11, 12], [0, 1, 2, 3, 4, 5, 10, 6, 7, 8, 9, 11, 12]] 14 hE (fun s => s.at [26, 27, 28, 29, 30, 31, 32, 33, 34, 35] [(7, .sc (.pt 26 0 0)), (8, .sc (.sl 25 0 L.length))] (s.hp ++ (x.hp true ++ [some ⟨L.map LetterD.cs, 19, 60, true, true⟩, some ⟨[EndD.cs x 18], 25, 38, true, false⟩]))) (by kernel_rfl) (by (try simp (disch := omega) only [go_sem, List.length_set, Nat.reduceEqDiff, Nat.reduceAdd, Nat.reduceSub, Int.reduceAdd, Int.reduceSub, Int.reduceToNat]) <;> omega) (by kernel_rfl) ?_ (run_den 400 ?_)
  rotate_left
  rotate_right
  simp only [allDn]
  refine ⟨runD_den 400 ?_, runD_den 400 ?_⟩
  ·try simp (disch := omega) only [go_sem, Nat.reduceEqDiff, Nat.reduceAdd, Nat.reduceSub, Int.reduceAdd, Int.reduceSub, Int.reduceToNat, hd]
   refine den_callD (by (try simp (disch := omega) only [go_sem, List.length_set, Nat.reduceEqDiff, Nat.reduceAdd, Nat.reduceSub, Int.reduceAdd, Int.reduceSub, Int.reduceToNat]) <;> omega) (hO) [some (0, none), some (1, none), some (2, none), some (3, none), some (4, none), some (5, none), some (6, none)] (by simp only [go_sem]; repeat' first | rfl | constructor | (rw [List.map_set]; rfl) | (simp [List.map_take, List.map_drop] <;> omega)) (by rfl) (by rfl) (runD_den 400 ?_)
   simp (disch := omega) only [go_sem, Nat.reduceEqDiff, Nat.reduceAdd, Nat.reduceSub, Int.reduceAdd, Int.reduceSub, Int.reduceToNat]
   refine ⟨by (try simp (disch := omega) only [go_sem, List.length_set, Nat.reduceEqDiff, Nat.reduceAdd, Nat.reduceSub, Int.reduceAdd, Int.reduceSub, Int.reduceToNat]) <;> omega, [some (0, none), some (1, none), some (2, none), some (3, none), some (4, none), some (5, none), some (6, none), some (7, none), some (8, none), some (9, none), some (10, none), some (11, none), some (12, none), some (13, none), some (14, none), some (15, none), some (16, none), some (17, none), some (18, none), some (19, none), some (20, none), some (21, none), some (22, none), some (23, none), some (24, none), some (25, none), some (26, none)], weak_mkO (by rfl) (by rfl) ?_⟩
   try simp (disch := omega) only [go_sem, Nat.reduceEqDiff, Nat.reduceAdd, Nat.reduceSub, Int.reduceAdd, Int.reduceSub, Int.reduceToNat]
  ·try simp (disch := omega) only [go_sem, Nat.reduceEqDiff, Nat.reduceAdd, Nat.reduceSub, Int.reduceAdd, Int.reduceSub, Int.reduceToNat, hd]
   refine den_callD (by (try simp (disch := omega) only [go_sem, List.length_set, Nat.reduceEqDiff, Nat.reduceAdd, Nat.reduceSub, Int.reduceAdd, Int.reduceSub, Int.reduceToNat]) <;> omega) (hO) [some (0, none), some (1, none), some (2, none), some (3, none), some (4, none), some (5, none), some (6, none)] (by simp only [go_sem]; repeat' first | rfl | constructor | (rw [List.map_set]; rfl) | (simp [List.map_take, List.map_drop] <;> omega)) (by rfl) (by rfl) (runD_den 400 ?_)
   simp (disch := omega) only [go_sem, Nat.reduceEqDiff, Nat.reduceAdd, Nat.reduceSub, Int.reduceAdd, Int.reduceSub, Int.reduceToNat]
   refine ⟨by (try simp (disch := omega) only [go_sem, List.length_set, Nat.reduceEqDiff, Nat.reduceAdd, Nat.reduceSub, Int.reduceAdd, Int.reduceSub, Int.reduceToNat]) <;> omega, [some (0, none), some (1, none), some (2, none), some (3, none), some (4, none), some (5, none), some (6, none), some (7, none), some (8, none), some (9, none), some (10, none), some (11, none), some (12, none), some (13, none), some (14, none), some (15, none), some (16, none), some (17, none), some (19, none), some (20, none), some (21, none), some (22, none), some (23, none), some (24, none), some (25, none), some (26, none), some (18, none)], weak_mkO (by rfl) (by rfl) ?_⟩
   try simp (disch := omega) only [go_sem, Nat.reduceEqDiff, Nat.reduceAdd, Nat.reduceSub, Int.reduceAdd, Int.reduceSub, Int.reduceToNat]
  try simp (disch := omega) only [go_sem, Nat.reduceEqDiff, Nat.reduceAdd, Nat.reduceSub, Int.reduceAdd, Int.reduceSub, Int.reduceToNat]
  refine den_call (by (try simp (disch := omega) only [go_sem, List.length_set, Nat.reduceEqDiff, Nat.reduceAdd, Nat.reduceSub, Int.reduceAdd, Int.reduceSub, Int.reduceToNat]) <;> omega) (hCb) [some (7, none), some (8, none), some (9, none), some (10, none), some (11, none), some (12, none), some (13, none)] (by simp only [go_sem]; repeat' first | rfl | constructor | (rw [List.map_set]; rfl) | (simp [List.map_take, List.map_drop] <;> omega)) (by rfl) (run_den 400 ?_)
  simp (disch := omega) only [go_sem, Nat.reduceEqDiff, Nat.reduceAdd, Nat.reduceSub, Int.reduceAdd, Int.reduceSub, Int.reduceToNat]
  try simp (disch := omega) only [go_sem, Nat.reduceEqDiff, Nat.reduceAdd, Nat.reduceSub, Int.reduceAdd, Int.reduceSub, Int.reduceToNat]
  refine den_lpO 14 hE (fun s (y : Nat × EndD × EndD) => s.at [0, 1, 2, 3, 8, 11, 12, 13, 15, 16, 17, 18, 19, 20, 21, 22, 23, 24, 25, 26, 27, 28, 29, 30, 31, 32, 33, 34, 35, 36, 37, 41, 42, 43, 44, 45, 46, 47, 48, 49, 50, 51, 52, 53, 54, 55, 56, 57, 58, 59, 60, 61, 62, 63, 64, 65] [(40, .sc (.int .i64 (y.1 : Nat)))] ((s.hp.take 18) ++ (y.2.1.hp true ++ (((s.hp.drop 25).take 1) ++ (some ⟨[EndD.cs y.2.1 18], 25, 38, true, false⟩ :: (y.2.2.hp true ++ [some ⟨[EndD.cs y.2.2 27], 25, 38, true, false⟩])))))) (fun (y : Nat × EndD × EndD) => y.1 ≤ L.length ∧ Small y.2.1 ∧ Small y.2.2 ∧ meetGo y.2.1 (L.drop y.1) y.2.2 = (X, Y)) (fun (y : Nat × EndD × EndD) => L.length - y.1) (0, x, b) [some (0, none), some (1, none), some (2, none), some (3, none), some (4, none), some (5, none), some (6, none), some (7, none), some (8, none), some (9, none), some (10, none), some (11, none), some (12, none), some (13, none), some (14, none), some (15, none), some (16, none), some (17, none), some (18, none), some (19, none), some (20, none), some (21, none), some (22, none), some (23, none), some (24, none), some (25, none), some (26, none), some (27, none), some (28, none), some (29, none), some (30, none), some (31, none), some (32, none), some (33, none), some (34, none)] (by (try simp (disch := omega) only [go_sem, List.length_set, Nat.reduceEqDiff, Nat.reduceAdd, Nat.reduceSub, Int.reduceAdd, Int.reduceSub, Int.reduceToNat]) <;> omega) (⟨Nat.zero_le _, hxs, hb, hXY⟩) (weak_mkO (by rfl) (by rfl) ?_) fun y hy N hN => ?_
  ·try simp (disch := omega) only [go_sem, Nat.reduceEqDiff, Nat.reduceAdd, Nat.reduceSub, Int.reduceAdd, Int.reduceSub, Int.reduceToNat]
  ·obtain ⟨k, u, y⟩ := y
   obtain ⟨f1, f2, f3, f4⟩ := hy
   dsimp only at f1 f2 f3 f4
   refine run_den 400 ?_
   try simp (disch := omega) only [go_sem, Nat.reduceEqDiff, Nat.reduceAdd, Nat.reduceSub, Int.reduceAdd, Int.reduceSub, Int.reduceToNat]
   split <;> rename_i b1 <;> (try simp only [beq_true, beq_false, Bool.not_eq_true', Bool.not_eq_false'] at b1) <;> simp (disch := omega) only [go_sem, Nat.reduceEqDiff, Nat.reduceAdd, Nat.reduceSub, Int.reduceAdd, Int.reduceSub, Int.reduceToNat, b1] <;> (try simp only [decide_eq_true_eq, decide_eq_false_iff_not, beq_iff_eq, beq_eq_false_iff_ne, bne_iff_ne, bne_eq_false_iff_eq, ne_eq, Decidable.not_not, Bool.and_eq_true, Bool.and_eq_false_iff, Bool.or_eq_true, Bool.or_eq_false_iff, Int.ofNat_lt, Int.ofNat_le, Bool.not_eq_eq_eq_not, Bool.not_true, Bool.not_false] at b1) <;> try simp (disch := omega) only [go_sem, Nat.reduceEqDiff, Nat.reduceAdd, Nat.reduceSub, Int.reduceAdd, Int.reduceSub, Int.reduceToNat]
   ·have hgl := map_get (enc := LetterD.cs) b1
    rw [meetGo_step b1] at f4
    have hH := impl_HearHello y L[k] f3
    have hHs := hello_small (x := L[k]) f3
    have hH1 := hello_one (e := y) (x := L[k])
    generalize hl0 : L[k] = l0 at *
    obtain ⟨Q, hQ⟩ : ∃ Q, Q = hearHello y l0 := ⟨_, rfl⟩
    rw [← hQ] at hH hHs hH1 f4
    obtain ⟨y1, bk⟩ := Q
    dsimp only at hH hHs hH1 f4
    try simp (disch := omega) only [go_sem, Nat.reduceEqDiff, Nat.reduceAdd, Nat.reduceSub, Int.reduceAdd, Int.reduceSub, Int.reduceToNat, hl0]
    refine den_call (by (try simp (disch := omega) only [go_sem, List.length_set, Nat.reduceEqDiff, Nat.reduceAdd, Nat.reduceSub, Int.reduceAdd, Int.reduceSub, Int.reduceToNat]) <;> omega) (hH) [some (27, none), some (28, none), some (29, none), some (30, none), some (31, none), some (32, none), some (33, none)] (by simp only [go_sem]; repeat' first | rfl | constructor | (rw [List.map_set]; rfl) | (simp [List.map_take, List.map_drop] <;> omega)) (by rfl) (run_den 400 ?_)
    simp (disch := omega) only [go_sem, Nat.reduceEqDiff, Nat.reduceAdd, Nat.reduceSub, Int.reduceAdd, Int.reduceSub, Int.reduceToNat]
    try simp (disch := omega) only [go_sem, Nat.reduceEqDiff, Nat.reduceAdd, Nat.reduceSub, Int.reduceAdd, Int.reduceSub, Int.reduceToNat]
    refine den_lpO 14 hE (fun s (z : Nat × EndD) => s.at [0, 1, 2, 3, 8, 15, 16, 17, 18, 19, 20, 21, 22, 23, 24, 25, 26, 27, 28, 29, 30, 31, 32, 33, 34, 35, 36, 37, 42, 43, 44, 45, 46, 47, 48, 49, 50, 54, 55, 56, 57, 58, 59, 60, 61, 62, 63, 64, 65] [(53, .sc (.int .i64 (z.1 : Nat)))] ((s.hp.take 18) ++ (z.2.hp true ++ (((s.hp.drop 25).take 1) ++ (some ⟨[EndD.cs z.2 18], 25, 38, true, false⟩ :: s.hp.drop 27))))) (fun (z : Nat × EndD) => z.1 ≤ bk.length ∧ Small z.2 ∧ (bk.drop z.1).foldl hbF z.2 = bk.foldl hbF u) (fun (z : Nat × EndD) => bk.length - z.1) (0, u) [some (0, none), some (1, none), some (2, none), some (3, none), some (4, none), some (5, none), some (6, none), some (7, none), some (8, none), some (9, none), some (10, none), some (11, none), some (12, none), some (13, none), some (14, none), some (15, none), some (16, none), some (17, none), some (18, none), some (19, none), some (20, none), some (21, none), some (22, none), some (23, none), some (24, none), some (25, none), some (26, none), some (27, none), some (28, none), some (29, none), some (30, none), some (31, none), some (32, none), some (33, none), some (34, none), some (35, none), some (36, none), some (37, none), some (38, none), some (39, none), some (40, none), some (41, none), some (42, none), some (43, none), some (44, none)] (by (try simp (disch := omega) only [go_sem, List.length_set, Nat.reduceEqDiff, Nat.reduceAdd, Nat.reduceSub, Int.reduceAdd, Int.reduceSub, Int.reduceToNat]) <;> omega) (⟨Nat.zero_le _, f2, rfl⟩) (weak_mkO (by rfl) (by rfl) ?_) fun z hz N2 hN2 => ?_
    ·try simp (disch := omega) only [go_sem, Nat.reduceEqDiff, Nat.reduceAdd, Nat.reduceSub, Int.reduceAdd, Int.reduceSub, Int.reduceToNat]
    ·obtain ⟨j, v⟩ := z
     obtain ⟨q1, q2, q3⟩ := hz
     dsimp only at q1 q2 q3
     refine run_den 400 ?_
     try simp (disch := omega) only [go_sem, Nat.reduceEqDiff, Nat.reduceAdd, Nat.reduceSub, Int.reduceAdd, Int.reduceSub, Int.reduceToNat]
     split <;> rename_i b2 <;> (try simp only [beq_true, beq_false, Bool.not_eq_true', Bool.not_eq_false'] at b2) <;> simp (disch := omega) only [go_sem, Nat.reduceEqDiff, Nat.reduceAdd, Nat.reduceSub, Int.reduceAdd, Int.reduceSub, Int.reduceToNat, b2] <;> (try simp only [decide_eq_true_eq, decide_eq_false_iff_not, beq_iff_eq, beq_eq_false_iff_ne, bne_iff_ne, bne_eq_false_iff_eq, ne_eq, Decidable.not_not, Bool.and_eq_true, Bool.and_eq_false_iff, Bool.or_eq_true, Bool.or_eq_false_iff, Int.ofNat_lt, Int.ofNat_le, Bool.not_eq_eq_eq_not, Bool.not_true, Bool.not_false] at b2) <;> try simp (disch := omega) only [go_sem, Nat.reduceEqDiff, Nat.reduceAdd, Nat.reduceSub, Int.reduceAdd, Int.reduceSub, Int.reduceToNat]
     ·have hgm := map_get (enc := LetterD.cs) b2
      rw [foldB_step b2] at q3
      have hB := impl_HearBack v bk[j] q2
      have hBs := back_small (x := bk[j]) q2
      generalize hm0 : bk[j] = m at *
      obtain ⟨Q, hQ⟩ : ∃ Q, Q = hearBack v m := ⟨_, rfl⟩
      rw [← hQ] at hB hBs q3
      try simp (disch := omega) only [go_sem, Nat.reduceEqDiff, Nat.reduceAdd, Nat.reduceSub, Int.reduceAdd, Int.reduceSub, Int.reduceToNat, hm0]
      refine den_call (by (try simp (disch := omega) only [go_sem, List.length_set, Nat.reduceEqDiff, Nat.reduceAdd, Nat.reduceSub, Int.reduceAdd, Int.reduceSub, Int.reduceToNat]) <;> omega) (hB) [some (18, none), some (19, none), some (20, none), some (21, none), some (22, none), some (23, none), some (24, none)] (by simp only [go_sem]; repeat' first | rfl | constructor | (rw [List.map_set]; rfl) | (simp [List.map_take, List.map_drop] <;> omega)) (by rfl) (run_den 400 ?_)
      simp (disch := omega) only [go_sem, Nat.reduceEqDiff, Nat.reduceAdd, Nat.reduceSub, Int.reduceAdd, Int.reduceSub, Int.reduceToNat]
      try simp (disch := omega) only [go_sem, Nat.reduceEqDiff, Nat.reduceAdd, Nat.reduceSub, Int.reduceAdd, Int.reduceSub, Int.reduceToNat]
      refine ⟨by (try simp (disch := omega) only [go_sem, List.length_set, Nat.reduceEqDiff, Nat.reduceAdd, Nat.reduceSub, Int.reduceAdd, Int.reduceSub, Int.reduceToNat]) <;> omega, hN2 _ (j + 1, Q.1) [some (0, none), some (1, none), some (2, none), some (3, none), some (4, none), some (5, none), some (6, none), some (7, none), some (8, none), some (9, none), some (10, none), some (11, none), some (12, none), some (13, none), some (14, none), some (15, none), some (16, none), some (17, none), some (46, none), some (47, none), some (48, none), some (49, none), some (50, none), some (51, none), some (52, none), some (25, none), some (26, none), some (27, none), some (28, none), some (29, none), some (30, none), some (31, none), some (32, none), some (33, none), some (34, none), some (35, none), some (36, none), some (37, none), some (38, none), some (39, none), some (40, none), some (41, none), some (42, none), some (43, none), some (44, none)] (by (try dsimp only); exact ⟨by omega, hBs, q3⟩) (by (try dsimp only); omega) (weak_mkO (by rfl) (by rfl) ?_)⟩
      try simp (disch := omega) only [go_sem, Nat.reduceEqDiff, Nat.reduceAdd, Nat.reduceSub, Int.reduceAdd, Int.reduceSub, Int.reduceToNat]
     ·rw [foldB_end (by omega)] at q3
      rw [← q3] at f4
      try simp (disch := omega) only [go_sem, Nat.reduceEqDiff, Nat.reduceAdd, Nat.reduceSub, Int.reduceAdd, Int.reduceSub, Int.reduceToNat]
      refine ⟨by (try simp (disch := omega) only [go_sem, List.length_set, Nat.reduceEqDiff, Nat.reduceAdd, Nat.reduceSub, Int.reduceAdd, Int.reduceSub, Int.reduceToNat]) <;> omega, hN _ (k + 1, v, y1) [some (0, none), some (1, none), some (2, none), some (3, none), some (4, none), some (5, none), some (6, none), some (7, none), some (8, none), some (9, none), some (10, none), some (11, none), some (12, none), some (13, none), some (14, none), some (15, none), some (16, none), some (17, none), some (18, none), some (19, none), some (20, none), some (21, none), some (22, none), some (23, none), some (24, none), some (25, none), some (26, none), some (36, none), some (37, none), some (38, none), some (39, none), some (40, none), some (41, none), some (42, none), some (34, none)] (by (try dsimp only); exact ⟨by omega, q2, hHs, f4⟩) (by (try dsimp only); omega) (weak_mkO (by rfl) (by rfl) ?_)⟩
      try simp (disch := omega) only [go_sem, Nat.reduceEqDiff, Nat.reduceAdd, Nat.reduceSub, Int.reduceAdd, Int.reduceSub, Int.reduceToNat]
   ·rw [meetGo_end (by omega)] at f4
    simp only [Prod.mk.injEq] at f4
    obtain ⟨rfl, rfl⟩ := f4
    rcases metB_cases u y with ⟨c1, hm⟩ | ⟨c1, c2, hm⟩ | ⟨c1, c2, c3, hm⟩ | ⟨c1, c2, c3, c4, hm⟩ | ⟨c1, c2, c3, c4, hm⟩
    all_goals
     rw [hm]
     try simp (disch := omega) only [go_sem, Nat.reduceEqDiff, Nat.reduceAdd, Nat.reduceSub, Int.reduceAdd, Int.reduceSub, Int.reduceToNat]
     refine den_drawC [(1, 24), (19, 24), (19, 25), (21, 24), (21, 25)] [[0, 2, 3, 4, 5, 6, 7, 8, 9, 10, 11, 12, 13, 14, 15, 16, 17, 18, 20, 1, 19, 21, 22, 23, 24, 25, 26], [0, 2, 3, 4, 5, 6, 7, 8, 9, 10, 11, 12, 13, 14, 15, 16, 17, 18, 20, 1, 19, 24, 21, 22, 23, 25, 26], [0, 2, 3, 4, 5, 6, 7, 8, 9, 10, 11, 12, 13, 14, 15, 16, 17, 18, 20, 1, 19, 24, 25, 21, 22, 23, 26], [0, 2, 3, 4, 5, 6, 7, 8, 9, 10, 11, 12, 13, 14, 15, 16, 17, 18, 20, 1, 21, 24, 19, 22, 23, 25, 26], [0, 2, 3, 4, 5, 6, 7, 8, 9, 10, 11, 12, 13, 14, 15, 16, 17, 18, 20, 1, 24, 19, 21, 22, 23, 25, 26], [0, 2, 3, 4, 5, 6, 7, 8, 9, 10, 11, 12, 13, 14, 15, 16, 17, 18, 20, 1, 24, 19, 25, 21, 22, 23, 26], [0, 2, 3, 4, 5, 6, 7, 8, 9, 10, 11, 12, 13, 14, 15, 16, 17, 18, 20, 1, 21, 24, 25, 19, 22, 23, 26], [0, 2, 3, 4, 5, 6, 7, 8, 9, 10, 11, 12, 13, 14, 15, 16, 17, 18, 20, 1, 24, 21, 25, 19, 22, 23, 26], [0, 2, 3, 4, 5, 6, 7, 8, 9, 10, 11, 12, 13, 14, 15, 16, 17, 18, 20, 1, 24, 25, 19, 21, 22, 23, 26], [0, 2, 3, 4, 5, 6, 7, 8, 9, 10, 11, 12, 13, 14, 15, 16, 17, 18, 20, 19, 21, 22, 23, 24, 1, 25, 26], [0, 2, 3, 4, 5, 6, 7, 8, 9, 10, 11, 12, 13, 14, 15, 16, 17, 18, 20, 19, 24, 1, 21, 22, 23, 25, 26], [0, 2, 3, 4, 5, 6, 7, 8, 9, 10, 11, 12, 13, 14, 15, 16, 17, 18, 20, 19, 24, 1, 25, 21, 22, 23, 26], [0, 2, 3, 4, 5, 6, 7, 8, 9, 10, 11, 12, 13, 14, 15, 16, 17, 18, 20, 21, 24, 1, 19, 22, 23, 25, 26], [0, 2, 3, 4, 5, 6, 7, 8, 9, 10, 11, 12, 13, 14, 15, 16, 17, 18, 20, 24, 1, 19, 21, 22, 23, 25, 26], [0, 2, 3, 4, 5, 6, 7, 8, 9, 10, 11, 12, 13, 14, 15, 16, 17, 18, 20, 24, 1, 19, 25, 21, 22, 23, 26], [0, 2, 3, 4, 5, 6, 7, 8, 9, 10, 11, 12, 13, 14, 15, 16, 17, 18, 20, 21, 24, 1, 25, 19, 22, 23, 26], [0, 2, 3, 4, 5, 6, 7, 8, 9, 10, 11, 12, 13, 14, 15, 16, 17, 18, 20, 24, 1, 21, 25, 19, 22, 23, 26], [0, 2, 3, 4, 5, 6, 7, 8, 9, 10, 11, 12, 13, 14, 15, 16, 17, 18, 20, 24, 1, 25, 19, 21, 22, 23, 26]] (by kernel_rfl) (by (try simp (disch := omega) only [go_sem, List.length_set, Nat.reduceEqDiff, Nat.reduceAdd, Nat.reduceSub, Int.reduceAdd, Int.reduceSub, Int.reduceToNat]) <;> omega) (by kernel_rfl) ?_
     simp only [allDn]
     refine ⟨runD_den 400 ?_, runD_den 400 ?_, runD_den 400 ?_, runD_den 400 ?_, runD_den 400 ?_, runD_den 400 ?_, runD_den 400 ?_, runD_den 400 ?_, runD_den 400 ?_, runD_den 400 ?_, runD_den 400 ?_, runD_den 400 ?_, runD_den 400 ?_, runD_den 400 ?_, runD_den 400 ?_, runD_den 400 ?_, runD_den 400 ?_, runD_den 400 ?_⟩
     all_goals simp (disch := omega) only [go_sem, Nat.reduceEqDiff, Nat.reduceAdd, Nat.reduceSub, Int.reduceAdd, Int.reduceSub, Int.reduceToNat]
     all_goals
      refine ⟨by (try simp (disch := omega) only [go_sem, List.length_set, Nat.reduceEqDiff, Nat.reduceAdd, Nat.reduceSub, Int.reduceAdd, Int.reduceSub, Int.reduceToNat]) <;> omega, run_den 400 ?_⟩
      try simp (disch := omega) only [go_sem, Nat.reduceEqDiff, Nat.reduceAdd, Nat.reduceSub, Int.reduceAdd, Int.reduceSub, Int.reduceToNat]
      refine den_finO [some (0, none), some (1, none), some (2, none), some (3, none), some (4, none), some (5, none), some (6, none), some (7, none), some (8, none), some (9, none), some (10, none), some (11, none), some (12, none), some (13, none), some (18, none), some (19, none), some (20, none), some (21, none), some (22, none), some (23, none), some (24, none), some (27, none), some (28, none), some (29, none), some (30, none), some (31, none), some (32, none), some (33, none)] (by (try simp (disch := omega) only [go_sem, List.length_set, Nat.reduceEqDiff, Nat.reduceAdd, Nat.reduceSub, Int.reduceAdd, Int.reduceSub, Int.reduceToNat]) <;> omega) _ (by simp only [go_sem]; rfl) (by rfl) (by rfl) ?_
      simp (disch := omega) only [go_sem, Nat.reduceEqDiff, Nat.reduceAdd, Nat.reduceSub, Int.reduceAdd, Int.reduceSub, Int.reduceToNat]
theorem spec_Meet (a b : EndD) (ha : Small a) (hb : Small b) : CallA Try.prog 7 [.ag (a.cs 0), .ag (b.cs 7)] (a.hp false ++ b.hp false) (.tu [.ag ((meet a b).1.cs 14), .ag ((meet a b).2.1.cs 21), .sc (.bo (meet a b).2.2)])
  (a.hp false ++ (b.hp false ++ ((meet a b).1.hp true ++ (meet a b).2.1.hp true))) := by
 have hCa := spec_l17Copy a (by have := ha.own; omega) (by have := ha.far; omega) (by have := ha.subs; omega) (by have := ha.halfs; omega) (by have := ha.list; omega) (by have := ha.done; omega) (by have := ha.over; omega)
 have hCb := spec_l17Copy b (by have := hb.own; omega) (by have := hb.far; omega) (by have := hb.subs; omega) (by have := hb.halfs; omega) (by have := hb.list; omega) (by have := hb.done; omega) (by have := hb.over; omega)
 have h0 := @meet_0 a b
 have ht := @meet_t a b
 have hbo := hb.own
 obtain ⟨R, hR⟩ : ∃ R, R = meet a b := ⟨_, rfl⟩
 rw [← hR] at h0 ht ⊢
 clear hR
 refine callA_ofO Try.func7 (by kernel_rfl) rfl fun E hE => run_den 400 ?_
 simp (disch := omega) only [Try.ntmps7, Try.results7, go_sem, Nat.reduceEqDiff, Nat.reduceAdd, Nat.reduceSub, Int.reduceAdd, Int.reduceSub, Int.reduceToNat]
 split <;> rename_i h1 <;> (try simp only [beq_true, beq_false, Bool.not_eq_true', Bool.not_eq_false'] at h1) <;> simp (disch := omega) only [go_sem, Nat.reduceEqDiff, Nat.reduceAdd, Nat.reduceSub, Int.reduceAdd, Int.reduceSub, Int.reduceToNat, h1] <;> (try simp only [decide_eq_true_eq, decide_eq_false_iff_not, beq_iff_eq, beq_eq_false_iff_ne, bne_iff_ne, bne_eq_false_iff_eq, ne_eq, Decidable.not_not, Bool.and_eq_true, Bool.and_eq_false_iff, Bool.or_eq_true, Bool.or_eq_false_iff, Int.ofNat_lt, Int.ofNat_le, Bool.not_eq_eq_eq_not, Bool.not_true, Bool.not_false] at h1) <;> try simp (disch := omega) only [go_sem, Nat.reduceEqDiff, Nat.reduceAdd, Nat.reduceSub, Int.reduceAdd, Int.reduceSub, Int.reduceToNat]
 ·rw [h0 (by omega)]
  refine den_draw1 [0, 2, 1, 3, 4, 5, 6] (by kernel_rfl) (by (try simp (disch := omega) only [go_sem, List.length_set, Nat.reduceEqDiff, Nat.reduceAdd, Nat.reduceSub, Int.reduceAdd, Int.reduceSub, Int.reduceToNat]) <;> omega) (by kernel_rfl) (runD_den 400 ?_)
  simp (disch := omega) only [go_sem, Nat.reduceEqDiff, Nat.reduceAdd, Nat.reduceSub, Int.reduceAdd, Int.reduceSub, Int.reduceToNat]
  refine den_callD (by (try simp (disch := omega) only [go_sem, List.length_set, Nat.reduceEqDiff, Nat.reduceAdd, Nat.reduceSub, Int.reduceAdd, Int.reduceSub, Int.reduceToNat]) <;> omega) (hCa) [some (0, none), some (1, none), some (2, none), some (3, none), some (4, none), some (5, none), some (6, none)] (by simp only [go_sem]; repeat' first | rfl | constructor | (rw [List.map_set]; rfl) | (simp [List.map_take, List.map_drop] <;> omega)) (by rfl) (by rfl) (runD_den 400 ?_)
  simp (disch := omega) only [go_sem, Nat.reduceEqDiff, Nat.reduceAdd, Nat.reduceSub, Int.reduceAdd, Int.reduceSub, Int.reduceToNat]
  refine den_callD (by (try simp (disch := omega) only [go_sem, List.length_set, Nat.reduceEqDiff, Nat.reduceAdd, Nat.reduceSub, Int.reduceAdd, Int.reduceSub, Int.reduceToNat]) <;> omega) (hCb) [some (7, none), some (8, none), some (9, none), some (10, none), some (11, none), some (12, none), some (13, none)] (by simp only [go_sem]; repeat' first | rfl | constructor | (rw [List.map_set]; rfl) | (simp [List.map_take, List.map_drop] <;> omega)) (by rfl) (by rfl) (runD_den 400 ?_)
  simp (disch := omega) only [go_sem, Nat.reduceEqDiff, Nat.reduceAdd, Nat.reduceSub, Int.reduceAdd, Int.reduceSub, Int.reduceToNat]
  refine ⟨by (try simp (disch := omega) only [go_sem, List.length_set, Nat.reduceEqDiff, Nat.reduceAdd, Nat.reduceSub, Int.reduceAdd, Int.reduceSub, Int.reduceToNat]) <;> omega, run_den 400 ?_⟩
  try simp (disch := omega) only [go_sem, Nat.reduceEqDiff, Nat.reduceAdd, Nat.reduceSub, Int.reduceAdd, Int.reduceSub, Int.reduceToNat]
  refine den_finO [some (0, none), some (1, none), some (2, none), some (3, none), some (4, none), some (5, none), some (6, none), some (7, none), some (8, none), some (9, none), some (10, none), some (11, none), some (12, none), some (13, none), some (18, none), some (19, none), some (20, none), some (21, none), some (22, none), some (23, none), some (24, none), some (25, none), some (26, none), some (27, none), some (28, none), some (29, none), some (30, none), some (31, none)] (by (try simp (disch := omega) only [go_sem, List.length_set, Nat.reduceEqDiff, Nat.reduceAdd, Nat.reduceSub, Int.reduceAdd, Int.reduceSub, Int.reduceToNat]) <;> omega) _ (by simp only [go_sem]; rfl) (by rfl) (by rfl) ?_
  simp (disch := omega) only [go_sem, Nat.reduceEqDiff, Nat.reduceAdd, Nat.reduceSub, Int.reduceAdd, Int.reduceSub, Int.reduceToNat]
 ·obtain ⟨d, hd⟩ : ∃ d, b.own[0]'(by omega) = d := ⟨_, rfl⟩
  have hd2 : b.own.getD 0 default = d := by rw [← hd, List.getD_eq_getElem?_getD, List.getElem?_eq_getElem (by omega)]; rfl
  have hO := spec_Open a d.addr ha
  have hx1 := openE_one a d.addr
  have hxs := openE_small (n := d.addr) ha
  obtain ⟨P, hP⟩ : ∃ P, P = openE a d.addr := ⟨_, rfl⟩
  rw [← hP] at hO hx1 hxs
  obtain ⟨x, L⟩ := P
  dsimp only at hO hx1 hxs
  have ht := ht (by omega) hd2 hP.symm
  clear hP
  obtain ⟨X, Y, hXY⟩ : ∃ X Y, meetGo x L b = (X, Y) := ⟨_, _, rfl⟩
  rw [hXY] at ht
  dsimp only at ht
  subst ht
  try simp (disch := omega) only [go_sem, Nat.reduceEqDiff, Nat.reduceAdd, Nat.reduceSub, Int.reduceAdd, Int.reduceSub, Int.reduceToNat]
  refine den_drawX [(6, 10)] [] [[0, 1, 2, 3, 4, 5, 6, 7, 8, 9, 10, 11, 12], [0, 1, 2, 3, 4, 5, 10, 6, 7, 8, 9, 11, 12]] 14 hE (fun s => s.at [21, 22, 23, 24, 25, 26, 27, 28, 29, 30] [(7, .sc (.pt 26 0 0)), (8, .sc (.sl 25 0 L.length))] (s.hp ++ (x.hp true ++ [some ⟨L.map LetterD.cs, 19, 60, true, true⟩, some ⟨[EndD.cs x 18], 25, 38, true, false⟩]))) (by kernel_rfl) (by (try simp (disch := omega) only [go_sem, List.length_set, Nat.reduceEqDiff, Nat.reduceAdd, Nat.reduceSub, Int.reduceAdd, Int.reduceSub, Int.reduceToNat]) <;> omega) (by kernel_rfl) ?_ (run_den 400 ?_)
  rotate_left
  rotate_right
  simp only [allDn]
  refine ⟨runD_den 400 ?_, runD_den 400 ?_⟩
  ·try simp (disch := omega) only [go_sem, Nat.reduceEqDiff, Nat.reduceAdd, Nat.reduceSub, Int.reduceAdd, Int.reduceSub, Int.reduceToNat, hd]
   refine den_callD (by (try simp (disch := omega) only [go_sem, List.length_set, Nat.reduceEqDiff, Nat.reduceAdd, Nat.reduceSub, Int.reduceAdd, Int.reduceSub, Int.reduceToNat]) <;> omega) (hO) [some (0, none), some (1, none), some (2, none), some (3, none), some (4, none), some (5, none), some (6, none)] (by simp only [go_sem]; repeat' first | rfl | constructor | (rw [List.map_set]; rfl) | (simp [List.map_take, List.map_drop] <;> omega)) (by rfl) (by rfl) (runD_den 400 ?_)
   simp (disch := omega) only [go_sem, Nat.reduceEqDiff, Nat.reduceAdd, Nat.reduceSub, Int.reduceAdd, Int.reduceSub, Int.reduceToNat]
   refine ⟨by (try simp (disch := omega) only [go_sem, List.length_set, Nat.reduceEqDiff, Nat.reduceAdd, Nat.reduceSub, Int.reduceAdd, Int.reduceSub, Int.reduceToNat]) <;> omega, [some (0, none), some (1, none), some (2, none), some (3, none), some (4, none), some (5, none), some (6, none), some (7, none), some (8, none), some (9, none), some (10, none), some (11, none), some (12, none), some (13, none), some (14, none), some (15, none), some (16, none), some (17, none), some (18, none), some (19, none), some (20, none), some (21, none), some (22, none), some (23, none), some (24, none), some (25, none), some (26, none)], weak_mkO (by rfl) (by rfl) ?_⟩
   try simp (disch := omega) only [go_sem, Nat.reduceEqDiff, Nat.reduceAdd, Nat.reduceSub, Int.reduceAdd, Int.reduceSub, Int.reduceToNat]
  ·try simp (disch := omega) only [go_sem, Nat.reduceEqDiff, Nat.reduceAdd, Nat.reduceSub, Int.reduceAdd, Int.reduceSub, Int.reduceToNat, hd]
   refine den_callD (by (try simp (disch := omega) only [go_sem, List.length_set, Nat.reduceEqDiff, Nat.reduceAdd, Nat.reduceSub, Int.reduceAdd, Int.reduceSub, Int.reduceToNat]) <;> omega) (hO) [some (0, none), some (1, none), some (2, none), some (3, none), some (4, none), some (5, none), some (6, none)] (by simp only [go_sem]; repeat' first | rfl | constructor | (rw [List.map_set]; rfl) | (simp [List.map_take, List.map_drop] <;> omega)) (by rfl) (by rfl) (runD_den 400 ?_)
   simp (disch := omega) only [go_sem, Nat.reduceEqDiff, Nat.reduceAdd, Nat.reduceSub, Int.reduceAdd, Int.reduceSub, Int.reduceToNat]
   refine ⟨by (try simp (disch := omega) only [go_sem, List.length_set, Nat.reduceEqDiff, Nat.reduceAdd, Nat.reduceSub, Int.reduceAdd, Int.reduceSub, Int.reduceToNat]) <;> omega, [some (0, none), some (1, none), some (2, none), some (3, none), some (4, none), some (5, none), some (6, none), some (7, none), some (8, none), some (9, none), some (10, none), some (11, none), some (12, none), some (13, none), some (14, none), some (15, none), some (16, none), some (17, none), some (19, none), some (20, none), some (21, none), some (22, none), some (23, none), some (24, none), some (25, none), some (26, none), some (18, none)], weak_mkO (by rfl) (by rfl) ?_⟩
   try simp (disch := omega) only [go_sem, Nat.reduceEqDiff, Nat.reduceAdd, Nat.reduceSub, Int.reduceAdd, Int.reduceSub, Int.reduceToNat]
  try simp (disch := omega) only [go_sem, Nat.reduceEqDiff, Nat.reduceAdd, Nat.reduceSub, Int.reduceAdd, Int.reduceSub, Int.reduceToNat]
  refine den_call (by (try simp (disch := omega) only [go_sem, List.length_set, Nat.reduceEqDiff, Nat.reduceAdd, Nat.reduceSub, Int.reduceAdd, Int.reduceSub, Int.reduceToNat]) <;> omega) (hCb) [some (7, none), some (8, none), some (9, none), some (10, none), some (11, none), some (12, none), some (13, none)] (by simp only [go_sem]; repeat' first | rfl | constructor | (rw [List.map_set]; rfl) | (simp [List.map_take, List.map_drop] <;> omega)) (by rfl) (run_den 400 ?_)
  simp (disch := omega) only [go_sem, Nat.reduceEqDiff, Nat.reduceAdd, Nat.reduceSub, Int.reduceAdd, Int.reduceSub, Int.reduceToNat]
  refine den_lpO 14 hE (fun s (y : Nat × EndD × List LetterD) => s.at [0, 1, 2, 13, 14, 15, 16, 17, 18, 19, 20, 21, 22, 23, 24, 25, 26, 27, 28, 29, 30, 31, 32, 33, 34, 35, 36, 37, 38, 39, 40, 41, 42, 43, 44, 45, 46, 47, 48] [(11, .sc (.int .i64 (y.1 : Nat))), (10, .sc (.sl 35 0 y.2.2.length))] ((s.hp.take 27) ++ (y.2.1.hp true ++ [some ⟨[EndD.cs y.2.1 27], 25, 38, true, false⟩, some ⟨y.2.2.map LetterD.cs, 19, 60, true, true⟩]))) (fun (y : Nat × EndD × List LetterD) => y.1 ≤ L.length ∧ Small y.2.1 ∧ y.2.2.length ≤ 1 ∧ ((y.1 = 0 ∧ y.2.1 = b ∧ y.2.2 = []) ∨ (y.1 = 1 ∧ L.length = 1 ∧ ∀ h : 0 < L.length, y.2 = hearHello b L[0]))) (fun (y : Nat × EndD × List LetterD) => L.length - y.1) (0, b, []) [some (0, none), some (1, none), some (2, none), some (3, none), some (4, none), some (5, none), some (6, none), some (7, none), some (8, none), some (9, none), some (10, none), some (11, none), some (12, none), some (13, none), some (14, none), some (15, none), some (16, none), some (17, none), some (18, none), some (19, none), some (20, none), some (21, none), some (22, none), some (23, none), some (24, none), some (25, none), some (26, none), some (27, none), some (28, none), some (29, none), some (30, none), some (31, none), some (32, none), some (33, none), some (34, none), some (35, none)] (by (try simp (disch := omega) only [go_sem, List.length_set, Nat.reduceEqDiff, Nat.reduceAdd, Nat.reduceSub, Int.reduceAdd, Int.reduceSub, Int.reduceToNat]) <;> omega) (⟨Nat.zero_le _, hb, by simp, .inl ⟨rfl, rfl, rfl⟩⟩) (weak_mkO (by rfl) (by rfl) ?_) fun y hy N hN => ?_
  ·try simp (disch := omega) only [go_sem, Nat.reduceEqDiff, Nat.reduceAdd, Nat.reduceSub, Int.reduceAdd, Int.reduceSub, Int.reduceToNat]
  ·obtain ⟨k, y, bk⟩ := y
   obtain ⟨f1, f2, f3, f4⟩ := hy
   dsimp only at f1 f2 f3 f4
   refine run_den 400 ?_
   try simp (disch := omega) only [go_sem, Nat.reduceEqDiff, Nat.reduceAdd, Nat.reduceSub, Int.reduceAdd, Int.reduceSub, Int.reduceToNat]
   split <;> rename_i b1 <;> (try simp only [beq_true, beq_false, Bool.not_eq_true', Bool.not_eq_false'] at b1) <;> simp (disch := omega) only [go_sem, Nat.reduceEqDiff, Nat.reduceAdd, Nat.reduceSub, Int.reduceAdd, Int.reduceSub, Int.reduceToNat, b1] <;> (try simp only [decide_eq_true_eq, decide_eq_false_iff_not, beq_iff_eq, beq_eq_false_iff_ne, bne_iff_ne, bne_eq_false_iff_eq, ne_eq, Decidable.not_not, Bool.and_eq_true, Bool.and_eq_false_iff, Bool.or_eq_true, Bool.or_eq_false_iff, Int.ofNat_lt, Int.ofNat_le, Bool.not_eq_eq_eq_not, Bool.not_true, Bool.not_false] at b1) <;> try simp (disch := omega) only [go_sem, Nat.reduceEqDiff, Nat.reduceAdd, Nat.reduceSub, Int.reduceAdd, Int.reduceSub, Int.reduceToNat]
   ·have hgl := map_get (enc := LetterD.cs) b1
    obtain rfl : k = 0 := by omega
    have hH := spec_HearHello b L[0] hb
    have hHs := hello_small (x := L[0]) hb
    have hH1 := hello_one (e := b) (x := L[0])
    generalize hl0 : L[0] = l0 at *
    obtain ⟨Q, hQ⟩ : ∃ Q, Q = hearHello b l0 := ⟨_, rfl⟩
    rw [← hQ] at hH hHs hH1
    try simp (disch := omega) only [go_sem, Nat.reduceEqDiff, Nat.reduceAdd, Nat.reduceSub, Int.reduceAdd, Int.reduceSub, Int.reduceToNat, hl0]
    refine den_draw1 [0, 1, 2, 3, 4, 5, 6, 7, 8, 9, 10] (by kernel_rfl) (by (try simp (disch := omega) only [go_sem, List.length_set, Nat.reduceEqDiff, Nat.reduceAdd, Nat.reduceSub, Int.reduceAdd, Int.reduceSub, Int.reduceToNat]) <;> omega) (by kernel_rfl) (runD_den 400 ?_)
    simp (disch := omega) only [go_sem, Nat.reduceEqDiff, Nat.reduceAdd, Nat.reduceSub, Int.reduceAdd, Int.reduceSub, Int.reduceToNat]
    try simp (disch := omega) only [go_sem, Nat.reduceEqDiff, Nat.reduceAdd, Nat.reduceSub, Int.reduceAdd, Int.reduceSub, Int.reduceToNat, hl0]
    refine den_callD (by (try simp (disch := omega) only [go_sem, List.length_set, Nat.reduceEqDiff, Nat.reduceAdd, Nat.reduceSub, Int.reduceAdd, Int.reduceSub, Int.reduceToNat]) <;> omega) (hH) [some (7, none), some (8, none), some (9, none), some (10, none), some (11, none), some (12, none), some (13, none)] (by simp only [go_sem]; repeat' first | rfl | constructor | (rw [List.map_set]; rfl) | (simp [List.map_take, List.map_drop] <;> omega)) (by rfl) (by rfl) (runD_den 400 ?_)
    simp (disch := omega) only [go_sem, Nat.reduceEqDiff, Nat.reduceAdd, Nat.reduceSub, Int.reduceAdd, Int.reduceSub, Int.reduceToNat]
    refine ⟨by (try simp (disch := omega) only [go_sem, List.length_set, Nat.reduceEqDiff, Nat.reduceAdd, Nat.reduceSub, Int.reduceAdd, Int.reduceSub, Int.reduceToNat]) <;> omega, run_den 400 ?_⟩
    try simp (disch := omega) only [go_sem, Nat.reduceEqDiff, Nat.reduceAdd, Nat.reduceSub, Int.reduceAdd, Int.reduceSub, Int.reduceToNat]
    refine ⟨by (try simp (disch := omega) only [go_sem, List.length_set, Nat.reduceEqDiff, Nat.reduceAdd, Nat.reduceSub, Int.reduceAdd, Int.reduceSub, Int.reduceToNat]) <;> omega, hN _ (1, Q.1, Q.2) [some (0, none), some (1, none), some (2, none), some (3, none), some (4, none), some (5, none), some (6, none), some (7, none), some (8, none), some (9, none), some (10, none), some (11, none), some (12, none), some (13, none), some (14, none), some (15, none), some (16, none), some (17, none), some (18, none), some (19, none), some (20, none), some (21, none), some (22, none), some (23, none), some (24, none), some (25, none), some (26, none), some (36, none), some (37, none), some (38, none), some (39, none), some (40, none), some (41, none), some (42, none), some (34, none), some (43, none)] (by (try dsimp only); exact ⟨by omega, hHs, hH1, .inr ⟨rfl, by omega, fun h => by rw [hl0, ← hQ]⟩⟩) (by (try dsimp only); omega) (weak_mkO (by rfl) (by rfl) ?_)⟩
    try simp (disch := omega) only [go_sem, Nat.reduceEqDiff, Nat.reduceAdd, Nat.reduceSub, Int.reduceAdd, Int.reduceSub, Int.reduceToNat]
   ·obtain ⟨g1, g2⟩ := meet_got hXY hx1 (show L.length ≤ k by omega) f1 f4
    subst g2
    clear f4 f1
    try simp (disch := omega) only [go_sem, Nat.reduceEqDiff, Nat.reduceAdd, Nat.reduceSub, Int.reduceAdd, Int.reduceSub, Int.reduceToNat]
    refine den_lpO 14 hE (fun s (z : Nat × EndD) => s.at [0, 1, 2, 3, 8, 11, 13, 14, 15, 16, 17, 18, 19, 20, 21, 22, 23, 24, 25, 26, 27, 28, 29, 30, 31, 32, 33, 34, 35, 36, 37, 38, 39, 40, 41, 42, 43, 44, 45, 46, 47, 48, 49, 50, 51, 52, 53, 54, 55, 56, 57, 58, 59, 60, 61, 62, 63] [(12, .sc (.int .i64 (z.1 : Nat)))] ((s.hp.take 18) ++ (z.2.hp true ++ (((s.hp.drop 25).take 1) ++ (some ⟨[EndD.cs z.2 18], 25, 38, true, false⟩ :: s.hp.drop 27))))) (fun (z : Nat × EndD) => z.1 ≤ bk.length ∧ Small z.2 ∧ (bk.drop z.1).foldl hbF z.2 = X) (fun (z : Nat × EndD) => bk.length - z.1) (0, x) [some (0, none), some (1, none), some (2, none), some (3, none), some (4, none), some (5, none), some (6, none), some (7, none), some (8, none), some (9, none), some (10, none), some (11, none), some (12, none), some (13, none), some (14, none), some (15, none), some (16, none), some (17, none), some (18, none), some (19, none), some (20, none), some (21, none), some (22, none), some (23, none), some (24, none), some (25, none), some (26, none), some (27, none), some (28, none), some (29, none), some (30, none), some (31, none), some (32, none), some (33, none), some (34, none), some (35, none)] (by (try simp (disch := omega) only [go_sem, List.length_set, Nat.reduceEqDiff, Nat.reduceAdd, Nat.reduceSub, Int.reduceAdd, Int.reduceSub, Int.reduceToNat]) <;> omega) (⟨Nat.zero_le _, hxs, g1⟩) (weak_mkO (by rfl) (by rfl) ?_) fun z hz N2 hN2 => ?_
    ·try simp (disch := omega) only [go_sem, Nat.reduceEqDiff, Nat.reduceAdd, Nat.reduceSub, Int.reduceAdd, Int.reduceSub, Int.reduceToNat]
    ·obtain ⟨j, u⟩ := z
     obtain ⟨q1, q2, q3⟩ := hz
     dsimp only at q1 q2 q3
     refine run_den 400 ?_
     try simp (disch := omega) only [go_sem, Nat.reduceEqDiff, Nat.reduceAdd, Nat.reduceSub, Int.reduceAdd, Int.reduceSub, Int.reduceToNat]
     split <;> rename_i b2 <;> (try simp only [beq_true, beq_false, Bool.not_eq_true', Bool.not_eq_false'] at b2) <;> simp (disch := omega) only [go_sem, Nat.reduceEqDiff, Nat.reduceAdd, Nat.reduceSub, Int.reduceAdd, Int.reduceSub, Int.reduceToNat, b2] <;> (try simp only [decide_eq_true_eq, decide_eq_false_iff_not, beq_iff_eq, beq_eq_false_iff_ne, bne_iff_ne, bne_eq_false_iff_eq, ne_eq, Decidable.not_not, Bool.and_eq_true, Bool.and_eq_false_iff, Bool.or_eq_true, Bool.or_eq_false_iff, Int.ofNat_lt, Int.ofNat_le, Bool.not_eq_eq_eq_not, Bool.not_true, Bool.not_false] at b2) <;> try simp (disch := omega) only [go_sem, Nat.reduceEqDiff, Nat.reduceAdd, Nat.reduceSub, Int.reduceAdd, Int.reduceSub, Int.reduceToNat]
     ·have hgm := map_get (enc := LetterD.cs) b2
      rw [foldB_step b2] at q3
      have hB := spec_HearBack u bk[j] q2
      have hBs := back_small (x := bk[j]) q2
      generalize hm0 : bk[j] = m at *
      obtain ⟨Q, hQ⟩ : ∃ Q, Q = hearBack u m := ⟨_, rfl⟩
      rw [← hQ] at hB hBs q3
      try simp (disch := omega) only [go_sem, Nat.reduceEqDiff, Nat.reduceAdd, Nat.reduceSub, Int.reduceAdd, Int.reduceSub, Int.reduceToNat, hm0]
      refine den_draw1 [0, 1, 2, 3, 4, 5, 6, 7, 8, 9] (by kernel_rfl) (by (try simp (disch := omega) only [go_sem, List.length_set, Nat.reduceEqDiff, Nat.reduceAdd, Nat.reduceSub, Int.reduceAdd, Int.reduceSub, Int.reduceToNat]) <;> omega) (by kernel_rfl) (runD_den 400 ?_)
      simp (disch := omega) only [go_sem, Nat.reduceEqDiff, Nat.reduceAdd, Nat.reduceSub, Int.reduceAdd, Int.reduceSub, Int.reduceToNat]
      try simp (disch := omega) only [go_sem, Nat.reduceEqDiff, Nat.reduceAdd, Nat.reduceSub, Int.reduceAdd, Int.reduceSub, Int.reduceToNat, hm0]
      refine den_callD (by (try simp (disch := omega) only [go_sem, List.length_set, Nat.reduceEqDiff, Nat.reduceAdd, Nat.reduceSub, Int.reduceAdd, Int.reduceSub, Int.reduceToNat]) <;> omega) (hB) [some (18, none), some (19, none), some (20, none), some (21, none), some (22, none), some (23, none), some (24, none)] (by simp only [go_sem]; repeat' first | rfl | constructor | (rw [List.map_set]; rfl) | (simp [List.map_take, List.map_drop] <;> omega)) (by rfl) (by rfl) (runD_den 400 ?_)
      simp (disch := omega) only [go_sem, Nat.reduceEqDiff, Nat.reduceAdd, Nat.reduceSub, Int.reduceAdd, Int.reduceSub, Int.reduceToNat]
      refine ⟨by (try simp (disch := omega) only [go_sem, List.length_set, Nat.reduceEqDiff, Nat.reduceAdd, Nat.reduceSub, Int.reduceAdd, Int.reduceSub, Int.reduceToNat]) <;> omega, run_den 400 ?_⟩
      try simp (disch := omega) only [go_sem, Nat.reduceEqDiff, Nat.reduceAdd, Nat.reduceSub, Int.reduceAdd, Int.reduceSub, Int.reduceToNat]
      refine ⟨by (try simp (disch := omega) only [go_sem, List.length_set, Nat.reduceEqDiff, Nat.reduceAdd, Nat.reduceSub, Int.reduceAdd, Int.reduceSub, Int.reduceToNat]) <;> omega, hN2 _ (j + 1, Q.1) [some (0, none), some (1, none), some (2, none), some (3, none), some (4, none), some (5, none), some (6, none), some (7, none), some (8, none), some (9, none), some (10, none), some (11, none), some (12, none), some (13, none), some (14, none), some (15, none), some (16, none), some (17, none), some (36, none), some (37, none), some (38, none), some (39, none), some (40, none), some (41, none), some (42, none), some (25, none), some (26, none), some (27, none), some (28, none), some (29, none), some (30, none), some (31, none), some (32, none), some (33, none), some (34, none), some (35, none)] (by (try dsimp only); exact ⟨by omega, hBs, q3⟩) (by (try dsimp only); omega) (weak_mkO (by rfl) (by rfl) ?_)⟩
      try simp (disch := omega) only [go_sem, Nat.reduceEqDiff, Nat.reduceAdd, Nat.reduceSub, Int.reduceAdd, Int.reduceSub, Int.reduceToNat]
     ·rw [foldB_end (by omega)] at q3
      subst q3
      rcases metB_cases u y with ⟨c1, hm⟩ | ⟨c1, c2, hm⟩ | ⟨c1, c2, c3, hm⟩ | ⟨c1, c2, c3, c4, hm⟩ | ⟨c1, c2, c3, c4, hm⟩
      all_goals
       rw [hm]
       try simp (disch := omega) only [go_sem, Nat.reduceEqDiff, Nat.reduceAdd, Nat.reduceSub, Int.reduceAdd, Int.reduceSub, Int.reduceToNat]
       refine den_drawC [(1, 24), (19, 24), (19, 25), (21, 24), (21, 25)] [[0, 2, 3, 4, 5, 6, 7, 8, 9, 10, 11, 12, 13, 14, 15, 16, 17, 18, 20, 1, 19, 21, 22, 23, 24, 25, 26], [0, 2, 3, 4, 5, 6, 7, 8, 9, 10, 11, 12, 13, 14, 15, 16, 17, 18, 20, 1, 19, 24, 21, 22, 23, 25, 26], [0, 2, 3, 4, 5, 6, 7, 8, 9, 10, 11, 12, 13, 14, 15, 16, 17, 18, 20, 1, 19, 24, 25, 21, 22, 23, 26], [0, 2, 3, 4, 5, 6, 7, 8, 9, 10, 11, 12, 13, 14, 15, 16, 17, 18, 20, 1, 21, 24, 19, 22, 23, 25, 26], [0, 2, 3, 4, 5, 6, 7, 8, 9, 10, 11, 12, 13, 14, 15, 16, 17, 18, 20, 1, 24, 19, 21, 22, 23, 25, 26], [0, 2, 3, 4, 5, 6, 7, 8, 9, 10, 11, 12, 13, 14, 15, 16, 17, 18, 20, 1, 24, 19, 25, 21, 22, 23, 26], [0, 2, 3, 4, 5, 6, 7, 8, 9, 10, 11, 12, 13, 14, 15, 16, 17, 18, 20, 1, 21, 24, 25, 19, 22, 23, 26], [0, 2, 3, 4, 5, 6, 7, 8, 9, 10, 11, 12, 13, 14, 15, 16, 17, 18, 20, 1, 24, 21, 25, 19, 22, 23, 26], [0, 2, 3, 4, 5, 6, 7, 8, 9, 10, 11, 12, 13, 14, 15, 16, 17, 18, 20, 1, 24, 25, 19, 21, 22, 23, 26], [0, 2, 3, 4, 5, 6, 7, 8, 9, 10, 11, 12, 13, 14, 15, 16, 17, 18, 20, 19, 21, 22, 23, 24, 1, 25, 26], [0, 2, 3, 4, 5, 6, 7, 8, 9, 10, 11, 12, 13, 14, 15, 16, 17, 18, 20, 19, 24, 1, 21, 22, 23, 25, 26], [0, 2, 3, 4, 5, 6, 7, 8, 9, 10, 11, 12, 13, 14, 15, 16, 17, 18, 20, 19, 24, 1, 25, 21, 22, 23, 26], [0, 2, 3, 4, 5, 6, 7, 8, 9, 10, 11, 12, 13, 14, 15, 16, 17, 18, 20, 21, 24, 1, 19, 22, 23, 25, 26], [0, 2, 3, 4, 5, 6, 7, 8, 9, 10, 11, 12, 13, 14, 15, 16, 17, 18, 20, 24, 1, 19, 21, 22, 23, 25, 26], [0, 2, 3, 4, 5, 6, 7, 8, 9, 10, 11, 12, 13, 14, 15, 16, 17, 18, 20, 24, 1, 19, 25, 21, 22, 23, 26], [0, 2, 3, 4, 5, 6, 7, 8, 9, 10, 11, 12, 13, 14, 15, 16, 17, 18, 20, 21, 24, 1, 25, 19, 22, 23, 26], [0, 2, 3, 4, 5, 6, 7, 8, 9, 10, 11, 12, 13, 14, 15, 16, 17, 18, 20, 24, 1, 21, 25, 19, 22, 23, 26], [0, 2, 3, 4, 5, 6, 7, 8, 9, 10, 11, 12, 13, 14, 15, 16, 17, 18, 20, 24, 1, 25, 19, 21, 22, 23, 26]] (by kernel_rfl) (by (try simp (disch := omega) only [go_sem, List.length_set, Nat.reduceEqDiff, Nat.reduceAdd, Nat.reduceSub, Int.reduceAdd, Int.reduceSub, Int.reduceToNat]) <;> omega) (by kernel_rfl) ?_
       simp only [allDn]
       refine ⟨runD_den 400 ?_, runD_den 400 ?_, runD_den 400 ?_, runD_den 400 ?_, runD_den 400 ?_, runD_den 400 ?_, runD_den 400 ?_, runD_den 400 ?_, runD_den 400 ?_, runD_den 400 ?_, runD_den 400 ?_, runD_den 400 ?_, runD_den 400 ?_, runD_den 400 ?_, runD_den 400 ?_, runD_den 400 ?_, runD_den 400 ?_, runD_den 400 ?_⟩
       all_goals simp (disch := omega) only [go_sem, Nat.reduceEqDiff, Nat.reduceAdd, Nat.reduceSub, Int.reduceAdd, Int.reduceSub, Int.reduceToNat]
       all_goals
        refine ⟨by (try simp (disch := omega) only [go_sem, List.length_set, Nat.reduceEqDiff, Nat.reduceAdd, Nat.reduceSub, Int.reduceAdd, Int.reduceSub, Int.reduceToNat]) <;> omega, run_den 400 ?_⟩
        try simp (disch := omega) only [go_sem, Nat.reduceEqDiff, Nat.reduceAdd, Nat.reduceSub, Int.reduceAdd, Int.reduceSub, Int.reduceToNat]
        refine den_finO [some (0, none), some (1, none), some (2, none), some (3, none), some (4, none), some (5, none), some (6, none), some (7, none), some (8, none), some (9, none), some (10, none), some (11, none), some (12, none), some (13, none), some (18, none), some (19, none), some (20, none), some (21, none), some (22, none), some (23, none), some (24, none), some (27, none), some (28, none), some (29, none), some (30, none), some (31, none), some (32, none), some (33, none)] (by (try simp (disch := omega) only [go_sem, List.length_set, Nat.reduceEqDiff, Nat.reduceAdd, Nat.reduceSub, Int.reduceAdd, Int.reduceSub, Int.reduceToNat]) <;> omega) _ (by simp only [go_sem]; rfl) (by rfl) (by rfl) ?_
        simp (disch := omega) only [go_sem, Nat.reduceEqDiff, Nat.reduceAdd, Nat.reduceSub, Int.reduceAdd, Int.reduceSub, Int.reduceToNat]
end
section
open Go.RowKit

def goneSub : SubD := ⟨⟨0, 0, 0⟩, 4, false, 0, 0, 0, 0, 0⟩
def idleE (s : Int) (p : PolicyD) : EndD := ⟨s, 0, 0, 0, p, ownOne (10 * s + 1), [], [], [], ⟨1, 3, 3⟩, ⟨[], 0, 0, 120⟩, ⟨0, [], []⟩, [], [], 1000 + s, 0, 0⟩
def idleV (e : EndD) : List EndD := [e, { e with state := 2 }, { e with draw := 999999999 }, { e with draw := 999999996 }, { e with draw := 999999997 }, { e with draw := 0 }, { e with own := [] }, { e with subs := List.replicate 8 goneSub }]
def idles (s : Int) : List EndD := pols.flatMap fun p => idleV (idleE s p)
def lastOn (l : List SubD) : Bool := decide ((subAtN l (l.length - 1)).state = 3)
def metWell (a b x y : EndD) : Bool :=
 decide (x.peer = y.key) && decide (y.peer = x.key) && (decide (a.draw = b.draw) || !decide (x.key = y.key)) && paired x y && paired y x && decide (0 < x.subs.length) && decide (0 < y.subs.length) && lastOn x.subs && lastOn y.subs && !(meet x b).2.2 && decide ((openE x 21).2.length = 0)
def smallB (e : EndD) : Bool := decide (e.own.length ≤ 1048576) && decide (e.far.length ≤ 1048576) && decide (e.subs.length ≤ 1048576) && decide (e.halfs.length ≤ 1048576) && decide (e.inp.list.length ≤ 1048576) && decide (e.done.length ≤ 1048576) && decide (e.over.length ≤ 1048576)
theorem smallB_iff {e : EndD} (h : smallB e = true) : Small e := by
 simp only [smallB, Bool.and_eq_true, decide_eq_true_eq] at h
 exact ⟨h.1.1.1.1.1.1, h.1.1.1.1.1.2, h.1.1.1.1.2, h.1.1.1.2, h.1.1.2, h.1.2, h.2⟩
def meetsB (a b : EndD) : Bool := smallB a && smallB b && smallB (meet a b).1 && smallB (meet a b).2.1 && (!(meet a b).2.2 || !decide (a.state = 0) || !decide (b.state = 0) || metWell a b (meet a b).1 (meet a b).2.1)
theorem meets_all : ((idles 1).all fun a => (idles 2).all fun b => meetsB a b) = true := by decide +kernel
theorem meets {a b : EndD} (ha : a ∈ idles 1) (hb : b ∈ idles 2) : meetsB a b = true :=
 List.all_eq_true.1 (List.all_eq_true.1 meets_all a ha) b hb
end
section
open Go.RowKit

theorem pols_ok : ∀ p ∈ pols, polOk p = true := by decide
theorem idle_new {s : Int} {p : PolicyD} (hs : 1 ≤ s ∧ s ≤ 2) (hp : p ∈ pols) : endNew s (10 * s + 1) p = (idleE s p, true) := by
 have h1 : inR s 1 2 = true := by simp only [inR, Bool.and_eq_true, decide_eq_true_eq]; omega
 have h2 : addrsOk (ownOne (10 * s + 1)) = true := by
  have : s = 1 ∨ s = 2 := by omega
  rcases this with rfl | rfl <;> decide
 rw [endNew_t (by rw [h1, pols_ok p hp, h2]; rfl)]; rfl
theorem idle_mem {s : Int} {p : PolicyD} {e : EndD} (hp : p ∈ pols) (h : e ∈ idleV (idleE s p)) : e ∈ idles s := List.mem_flatMap.2 ⟨p, hp, h⟩
theorem spec_l18Idle (b : List UInt8) (c : CurD) (hc : c.ok b) (s : Int) (hs : 1 ≤ s ∧ s ≤ 2) : ∃ (e : EndD) (c' : CurD), c'.ok b ∧ e ∈ idles s ∧ CallA Try.prog 12 [.sc (.pt 1 0 0), .sc (.int .i64 s)] (c.hp b) (.ag (e.cs 2)) (c'.hp b ++ e.hp true) := by
 obtain ⟨p, c1, o1, hp, hcall⟩ := spec_l12Policy b c hc
 have hEN := spec_EndNew s (10 * s + 1) p
 rw [idle_new hs hp] at hEN
 have hm := fun e => idle_mem (s := s) (e := e) hp
 have hsub : (idleE s p).subs = [] := rfl
 generalize idleE s p = i at hEN hm hsub
 have h10 := spec_l01Below b c1 o1 10
 have o10 := CurD.below_ok o1 10
 have b10 := c1.below_lt b (n := 10) (by omega)
 generalize c1.below b 10 = r10 at h10 o10 b10
 obtain ⟨v, c2⟩ := r10
 dsimp only at h10 o10 b10
 have hv : v = 0 ∨ v = 1 ∨ v = 2 ∨ v = 3 ∨ 4 ≤ v := by omega
 rcases hv with rfl | rfl | rfl | rfl | hv
 ·refine ⟨{ i with state := 2 }, c2, o10, hm _ (by simp [idleV]), ?_⟩
  refine callA_of Try.func12 (by kernel_rfl) rfl fun E hE => run_den 400 ?_
  simp (disch := omega) only [Try.ntmps12, Try.results12, go_sem, Nat.reduceEqDiff, Nat.reduceAdd, Nat.reduceSub, Int.reduceAdd, Int.reduceSub, Int.reduceToNat]
  refine den_call (by (try simp (disch := omega) only [go_sem, List.length_set, Nat.reduceEqDiff, Nat.reduceAdd, Nat.reduceSub, Int.reduceAdd, Int.reduceSub, Int.reduceToNat]) <;> omega) (hcall) [some (0, none), some (1, none)] (by simp only [go_sem]; repeat' first | rfl | constructor | (rw [List.map_set]; rfl) | (simp [List.map_take, List.map_drop] <;> omega)) (by rfl) (run_den 400 ?_)
  simp (disch := omega) only [go_sem, Nat.reduceEqDiff, Nat.reduceAdd, Nat.reduceSub, Int.reduceAdd, Int.reduceSub, Int.reduceToNat]
  refine den_call (by (try simp (disch := omega) only [go_sem, List.length_set, Nat.reduceEqDiff, Nat.reduceAdd, Nat.reduceSub, Int.reduceAdd, Int.reduceSub, Int.reduceToNat]) <;> omega) (hEN) [] (by simp only [go_sem]; repeat' first | rfl | constructor | (rw [List.map_set]; rfl) | (simp [List.map_take, List.map_drop] <;> omega)) (by rfl) (run_den 400 ?_)
  simp (disch := omega) only [go_sem, Nat.reduceEqDiff, Nat.reduceAdd, Nat.reduceSub, Int.reduceAdd, Int.reduceSub, Int.reduceToNat]
  refine den_call (by (try simp (disch := omega) only [go_sem, List.length_set, Nat.reduceEqDiff, Nat.reduceAdd, Nat.reduceSub, Int.reduceAdd, Int.reduceSub, Int.reduceToNat]) <;> omega) (h10) [some (0, none), some (1, none)] (by simp only [go_sem]; repeat' first | rfl | constructor | (rw [List.map_set]; rfl) | (simp [List.map_take, List.map_drop] <;> omega)) (by rfl) (run_den 400 ?_)
  simp (disch := omega) only [go_sem, Nat.reduceEqDiff, Nat.reduceAdd, Nat.reduceSub, Int.reduceAdd, Int.reduceSub, Int.reduceToNat]
  refine den_fin [some (0, none), some (1, none), some (3, none), some (4, none), some (5, none), some (6, none), some (7, none), some (8, none), some (9, none)] (by (try simp (disch := omega) only [go_sem, List.length_set, Nat.reduceEqDiff, Nat.reduceAdd, Nat.reduceSub, Int.reduceAdd, Int.reduceSub, Int.reduceToNat]) <;> omega) _ (by simp only [go_sem]; rfl) (by rfl) (by rfl) ?_
  simp (disch := omega) only [go_sem, Nat.reduceEqDiff, Nat.reduceAdd, Nat.reduceSub, Int.reduceAdd, Int.reduceSub, Int.reduceToNat]
 ·have hp4 := spec_l01PickInt b c2 o10 [999999999, 999999996, 999999997, 0] (by decide) (by decide)
  have o4 := CurD.below_ok o10 (b := b) 4
  have hmem := c2.pick_mem b (l := [999999999, 999999996, 999999997, 0]) (by decide)
  rw [show (([999999999, 999999996, 999999997, 0] : List Int).length : Int) = 4 from rfl] at hp4
  generalize c2.pick b [999999999, 999999996, 999999997, 0] = q at hp4 hmem
  generalize c2.below b 4 = r4 at hp4 o4
  obtain ⟨u, c3⟩ := r4
  dsimp only at hp4 o4
  refine ⟨{ i with draw := q }, c3, o4, hm _ ?_, ?_⟩
  ·simp only [List.mem_cons, List.not_mem_nil, or_false] at hmem
   rcases hmem with rfl | rfl | rfl | rfl <;> simp [idleV]
  ·refine callA_of Try.func12 (by kernel_rfl) rfl fun E hE => run_den 400 ?_
   simp (disch := omega) only [Try.ntmps12, Try.results12, go_sem, Nat.reduceEqDiff, Nat.reduceAdd, Nat.reduceSub, Int.reduceAdd, Int.reduceSub, Int.reduceToNat]
   refine den_call (by (try simp (disch := omega) only [go_sem, List.length_set, Nat.reduceEqDiff, Nat.reduceAdd, Nat.reduceSub, Int.reduceAdd, Int.reduceSub, Int.reduceToNat]) <;> omega) (hcall) [some (0, none), some (1, none)] (by simp only [go_sem]; repeat' first | rfl | constructor | (rw [List.map_set]; rfl) | (simp [List.map_take, List.map_drop] <;> omega)) (by rfl) (run_den 400 ?_)
   simp (disch := omega) only [go_sem, Nat.reduceEqDiff, Nat.reduceAdd, Nat.reduceSub, Int.reduceAdd, Int.reduceSub, Int.reduceToNat]
   refine den_call (by (try simp (disch := omega) only [go_sem, List.length_set, Nat.reduceEqDiff, Nat.reduceAdd, Nat.reduceSub, Int.reduceAdd, Int.reduceSub, Int.reduceToNat]) <;> omega) (hEN) [] (by simp only [go_sem]; repeat' first | rfl | constructor | (rw [List.map_set]; rfl) | (simp [List.map_take, List.map_drop] <;> omega)) (by rfl) (run_den 400 ?_)
   simp (disch := omega) only [go_sem, Nat.reduceEqDiff, Nat.reduceAdd, Nat.reduceSub, Int.reduceAdd, Int.reduceSub, Int.reduceToNat]
   refine den_call (by (try simp (disch := omega) only [go_sem, List.length_set, Nat.reduceEqDiff, Nat.reduceAdd, Nat.reduceSub, Int.reduceAdd, Int.reduceSub, Int.reduceToNat]) <;> omega) (h10) [some (0, none), some (1, none)] (by simp only [go_sem]; repeat' first | rfl | constructor | (rw [List.map_set]; rfl) | (simp [List.map_take, List.map_drop] <;> omega)) (by rfl) (run_den 400 ?_)
   simp (disch := omega) only [go_sem, Nat.reduceEqDiff, Nat.reduceAdd, Nat.reduceSub, Int.reduceAdd, Int.reduceSub, Int.reduceToNat]
   refine den_call (by (try simp (disch := omega) only [go_sem, List.length_set, Nat.reduceEqDiff, Nat.reduceAdd, Nat.reduceSub, Int.reduceAdd, Int.reduceSub, Int.reduceToNat]) <;> omega) (hp4) [some (0, none), some (1, none), some (11, none)] (by simp only [go_sem]; repeat' first | rfl | constructor | (rw [List.map_set]; rfl) | (simp [List.map_take, List.map_drop] <;> omega)) (by rfl) (run_den 400 ?_)
   simp (disch := omega) only [go_sem, Nat.reduceEqDiff, Nat.reduceAdd, Nat.reduceSub, Int.reduceAdd, Int.reduceSub, Int.reduceToNat]
   refine den_fin [some (0, none), some (1, none), some (3, none), some (4, none), some (5, none), some (6, none), some (7, none), some (8, none), some (9, none)] (by (try simp (disch := omega) only [go_sem, List.length_set, Nat.reduceEqDiff, Nat.reduceAdd, Nat.reduceSub, Int.reduceAdd, Int.reduceSub, Int.reduceToNat]) <;> omega) _ (by simp only [go_sem]; rfl) (by rfl) (by rfl) ?_
   simp (disch := omega) only [go_sem, Nat.reduceEqDiff, Nat.reduceAdd, Nat.reduceSub, Int.reduceAdd, Int.reduceSub, Int.reduceToNat]
 ·refine ⟨{ i with own := [] }, c2, o10, hm _ (by simp [idleV]), ?_⟩
  refine callA_of Try.func12 (by kernel_rfl) rfl fun E hE => run_den 400 ?_
  simp (disch := omega) only [Try.ntmps12, Try.results12, go_sem, Nat.reduceEqDiff, Nat.reduceAdd, Nat.reduceSub, Int.reduceAdd, Int.reduceSub, Int.reduceToNat]
  refine den_call (by (try simp (disch := omega) only [go_sem, List.length_set, Nat.reduceEqDiff, Nat.reduceAdd, Nat.reduceSub, Int.reduceAdd, Int.reduceSub, Int.reduceToNat]) <;> omega) (hcall) [some (0, none), some (1, none)] (by simp only [go_sem]; repeat' first | rfl | constructor | (rw [List.map_set]; rfl) | (simp [List.map_take, List.map_drop] <;> omega)) (by rfl) (run_den 400 ?_)
  simp (disch := omega) only [go_sem, Nat.reduceEqDiff, Nat.reduceAdd, Nat.reduceSub, Int.reduceAdd, Int.reduceSub, Int.reduceToNat]
  refine den_call (by (try simp (disch := omega) only [go_sem, List.length_set, Nat.reduceEqDiff, Nat.reduceAdd, Nat.reduceSub, Int.reduceAdd, Int.reduceSub, Int.reduceToNat]) <;> omega) (hEN) [] (by simp only [go_sem]; repeat' first | rfl | constructor | (rw [List.map_set]; rfl) | (simp [List.map_take, List.map_drop] <;> omega)) (by rfl) (run_den 400 ?_)
  simp (disch := omega) only [go_sem, Nat.reduceEqDiff, Nat.reduceAdd, Nat.reduceSub, Int.reduceAdd, Int.reduceSub, Int.reduceToNat]
  refine den_call (by (try simp (disch := omega) only [go_sem, List.length_set, Nat.reduceEqDiff, Nat.reduceAdd, Nat.reduceSub, Int.reduceAdd, Int.reduceSub, Int.reduceToNat]) <;> omega) (h10) [some (0, none), some (1, none)] (by simp only [go_sem]; repeat' first | rfl | constructor | (rw [List.map_set]; rfl) | (simp [List.map_take, List.map_drop] <;> omega)) (by rfl) (run_den 400 ?_)
  simp (disch := omega) only [go_sem, Nat.reduceEqDiff, Nat.reduceAdd, Nat.reduceSub, Int.reduceAdd, Int.reduceSub, Int.reduceToNat]
  refine den_fin [some (0, none), some (1, none), some (11, none), some (4, none), some (5, none), some (6, none), some (7, none), some (8, none), some (9, none)] (by (try simp (disch := omega) only [go_sem, List.length_set, Nat.reduceEqDiff, Nat.reduceAdd, Nat.reduceSub, Int.reduceAdd, Int.reduceSub, Int.reduceToNat]) <;> omega) _ (by simp only [go_sem]; rfl) (by rfl) (by rfl) ?_
  simp (disch := omega) only [go_sem, Nat.reduceEqDiff, Nat.reduceAdd, Nat.reduceSub, Int.reduceAdd, Int.reduceSub, Int.reduceToNat]
 ·refine ⟨{ i with subs := List.replicate 8 goneSub }, c2, o10, hm _ (by simp [idleV]), ?_⟩
  refine callA_of Try.func12 (by kernel_rfl) rfl fun E hE => run_den 400 ?_
  simp (disch := omega) only [Try.ntmps12, Try.results12, go_sem, Nat.reduceEqDiff, Nat.reduceAdd, Nat.reduceSub, Int.reduceAdd, Int.reduceSub, Int.reduceToNat]
  refine den_call (by (try simp (disch := omega) only [go_sem, List.length_set, Nat.reduceEqDiff, Nat.reduceAdd, Nat.reduceSub, Int.reduceAdd, Int.reduceSub, Int.reduceToNat]) <;> omega) (hcall) [some (0, none), some (1, none)] (by simp only [go_sem]; repeat' first | rfl | constructor | (rw [List.map_set]; rfl) | (simp [List.map_take, List.map_drop] <;> omega)) (by rfl) (run_den 400 ?_)
  simp (disch := omega) only [go_sem, Nat.reduceEqDiff, Nat.reduceAdd, Nat.reduceSub, Int.reduceAdd, Int.reduceSub, Int.reduceToNat]
  refine den_call (by (try simp (disch := omega) only [go_sem, List.length_set, Nat.reduceEqDiff, Nat.reduceAdd, Nat.reduceSub, Int.reduceAdd, Int.reduceSub, Int.reduceToNat]) <;> omega) (hEN) [] (by simp only [go_sem]; repeat' first | rfl | constructor | (rw [List.map_set]; rfl) | (simp [List.map_take, List.map_drop] <;> omega)) (by rfl) (run_den 400 ?_)
  simp (disch := omega) only [go_sem, Nat.reduceEqDiff, Nat.reduceAdd, Nat.reduceSub, Int.reduceAdd, Int.reduceSub, Int.reduceToNat]
  refine den_call (by (try simp (disch := omega) only [go_sem, List.length_set, Nat.reduceEqDiff, Nat.reduceAdd, Nat.reduceSub, Int.reduceAdd, Int.reduceSub, Int.reduceToNat]) <;> omega) (h10) [some (0, none), some (1, none)] (by simp only [go_sem]; repeat' first | rfl | constructor | (rw [List.map_set]; rfl) | (simp [List.map_take, List.map_drop] <;> omega)) (by rfl) (run_den 400 ?_)
  simp (disch := omega) only [go_sem, Nat.reduceEqDiff, Nat.reduceAdd, Nat.reduceSub, Int.reduceAdd, Int.reduceSub, Int.reduceToNat]
  refine den_lp 2 hE (fun s (l : List SubD) => s.at [0, 1, 6, 7, 8, 9, 10, 11, 12, 13, 14, 15, 16, 17, 18, 19, 20, 21, 22, 23, 24, 25, 26, 27, 28, 29, 30, 31, 32, 33, 34, 35, 36, 37, 38, 39, 40, 41, 42, 43] [] ((s.hp.set 5 (some ⟨l.map SubD.cs, 10, 50, true, true⟩)).set 10 (some ⟨[EndD.cs { i with subs := l } 3], 25, 38, true, false⟩))) (fun (l : List SubD) => l.length ≤ 8 ∧ l = List.replicate l.length goneSub) (fun (l : List SubD) => 8 - l.length) [] [some (0, none), some (1, none), some (2, none), some (3, none), some (4, none), some (5, none), some (6, none), some (7, none), some (8, none), some (9, none), some (10, none)] (by (try simp (disch := omega) only [go_sem, List.length_set, Nat.reduceEqDiff, Nat.reduceAdd, Nat.reduceSub, Int.reduceAdd, Int.reduceSub, Int.reduceToNat]) <;> omega) (⟨Nat.zero_le _, rfl⟩) (weak_mk (by rfl) (by rfl) ?_) fun l hl N hN => ?_
  ·try simp (disch := omega) only [go_sem, Nat.reduceEqDiff, Nat.reduceAdd, Nat.reduceSub, Int.reduceAdd, Int.reduceSub, Int.reduceToNat]
   try simp [hsub]
  ·obtain ⟨hl1, hl2⟩ := hl
   refine run_den 400 ?_
   try simp (disch := omega) only [go_sem, Nat.reduceEqDiff, Nat.reduceAdd, Nat.reduceSub, Int.reduceAdd, Int.reduceSub, Int.reduceToNat]
   split <;> rename_i b1 <;> (try simp only [beq_true, beq_false, Bool.not_eq_true', Bool.not_eq_false'] at b1) <;> simp (disch := omega) only [go_sem, Nat.reduceEqDiff, Nat.reduceAdd, Nat.reduceSub, Int.reduceAdd, Int.reduceSub, Int.reduceToNat, b1] <;> (try simp only [decide_eq_true_eq, decide_eq_false_iff_not, beq_iff_eq, beq_eq_false_iff_ne, bne_iff_ne, bne_eq_false_iff_eq, ne_eq, Decidable.not_not, Bool.and_eq_true, Bool.and_eq_false_iff, Bool.or_eq_true, Bool.or_eq_false_iff, Int.ofNat_lt, Int.ofNat_le, Bool.not_eq_eq_eq_not, Bool.not_true, Bool.not_false] at b1) <;> try simp (disch := omega) only [go_sem, Nat.reduceEqDiff, Nat.reduceAdd, Nat.reduceSub, Int.reduceAdd, Int.reduceSub, Int.reduceToNat]
   ·try simp (disch := omega) only [go_sem, Nat.reduceEqDiff, Nat.reduceAdd, Nat.reduceSub, Int.reduceAdd, Int.reduceSub, Int.reduceToNat]
    refine ⟨by (try simp (disch := omega) only [go_sem, List.length_set, Nat.reduceEqDiff, Nat.reduceAdd, Nat.reduceSub, Int.reduceAdd, Int.reduceSub, Int.reduceToNat]) <;> omega, hN _ (l ++ [goneSub]) [some (0, none), some (1, none), some (2, none), some (3, none), some (4, none), some (12, none), some (6, none), some (7, none), some (8, none), some (9, none), some (10, none)] (by (try dsimp only); exact ⟨by simp; omega, by rw [List.length_append, List.length_singleton, List.replicate_succ', ← hl2]⟩) (by simp; omega) (weak_mk (by rfl) (by rfl) ?_)⟩
    try simp (disch := omega) only [go_sem, Nat.reduceEqDiff, Nat.reduceAdd, Nat.reduceSub, Int.reduceAdd, Int.reduceSub, Int.reduceToNat]
    try simp [SubD.cs, goneSub]
   ·have h8 : l.length = 8 := by omega
    rw [h8] at hl2
    subst hl2
    try simp (disch := omega) only [go_sem, Nat.reduceEqDiff, Nat.reduceAdd, Nat.reduceSub, Int.reduceAdd, Int.reduceSub, Int.reduceToNat]
    refine den_fin [some (0, none), some (1, none), some (3, none), some (4, none), some (5, none), some (6, none), some (7, none), some (8, none), some (9, none)] (by (try simp (disch := omega) only [go_sem, List.length_set, Nat.reduceEqDiff, Nat.reduceAdd, Nat.reduceSub, Int.reduceAdd, Int.reduceSub, Int.reduceToNat]) <;> omega) _ (by simp only [go_sem]; rfl) (by rfl) (by rfl) ?_
    simp (disch := omega) only [go_sem, Nat.reduceEqDiff, Nat.reduceAdd, Nat.reduceSub, Int.reduceAdd, Int.reduceSub, Int.reduceToNat]
 ·refine ⟨i, c2, o10, hm _ (by simp [idleV]), ?_⟩
  refine callA_of Try.func12 (by kernel_rfl) rfl fun E hE => run_den 400 ?_
  simp (disch := omega) only [Try.ntmps12, Try.results12, go_sem, Nat.reduceEqDiff, Nat.reduceAdd, Nat.reduceSub, Int.reduceAdd, Int.reduceSub, Int.reduceToNat]
  refine den_call (by (try simp (disch := omega) only [go_sem, List.length_set, Nat.reduceEqDiff, Nat.reduceAdd, Nat.reduceSub, Int.reduceAdd, Int.reduceSub, Int.reduceToNat]) <;> omega) (hcall) [some (0, none), some (1, none)] (by simp only [go_sem]; repeat' first | rfl | constructor | (rw [List.map_set]; rfl) | (simp [List.map_take, List.map_drop] <;> omega)) (by rfl) (run_den 400 ?_)
  simp (disch := omega) only [go_sem, Nat.reduceEqDiff, Nat.reduceAdd, Nat.reduceSub, Int.reduceAdd, Int.reduceSub, Int.reduceToNat]
  refine den_call (by (try simp (disch := omega) only [go_sem, List.length_set, Nat.reduceEqDiff, Nat.reduceAdd, Nat.reduceSub, Int.reduceAdd, Int.reduceSub, Int.reduceToNat]) <;> omega) (hEN) [] (by simp only [go_sem]; repeat' first | rfl | constructor | (rw [List.map_set]; rfl) | (simp [List.map_take, List.map_drop] <;> omega)) (by rfl) (run_den 400 ?_)
  simp (disch := omega) only [go_sem, Nat.reduceEqDiff, Nat.reduceAdd, Nat.reduceSub, Int.reduceAdd, Int.reduceSub, Int.reduceToNat]
  refine den_call (by (try simp (disch := omega) only [go_sem, List.length_set, Nat.reduceEqDiff, Nat.reduceAdd, Nat.reduceSub, Int.reduceAdd, Int.reduceSub, Int.reduceToNat]) <;> omega) (h10) [some (0, none), some (1, none)] (by simp only [go_sem]; repeat' first | rfl | constructor | (rw [List.map_set]; rfl) | (simp [List.map_take, List.map_drop] <;> omega)) (by rfl) (run_den 400 ?_)
  simp (disch := omega) only [go_sem, Nat.reduceEqDiff, Nat.reduceAdd, Nat.reduceSub, Int.reduceAdd, Int.reduceSub, Int.reduceToNat]
  refine den_fin [some (0, none), some (1, none), some (3, none), some (4, none), some (5, none), some (6, none), some (7, none), some (8, none), some (9, none)] (by (try simp (disch := omega) only [go_sem, List.length_set, Nat.reduceEqDiff, Nat.reduceAdd, Nat.reduceSub, Int.reduceAdd, Int.reduceSub, Int.reduceToNat]) <;> omega) _ (by simp only [go_sem]; rfl) (by rfl) (by rfl) ?_
  simp (disch := omega) only [go_sem, Nat.reduceEqDiff, Nat.reduceAdd, Nat.reduceSub, Int.reduceAdd, Int.reduceSub, Int.reduceToNat]
theorem spec_DrawMeet (b : List UInt8) (hb : b.length ≤ 1048576) : ∃ x y, x ∈ idles 1 ∧ y ∈ idles 2 ∧ CallA Try.prog 5 [.sc (.sl 0 0 b.length)] [some ⟨b.map byteC, 1, 5, false, true⟩] (.tu [.ag (EndD.cs x 1), .ag (EndD.cs y 8)]) ([some ⟨b.map byteC, 1, 5, false, true⟩] ++ (x.hp true ++ y.hp true)) := by
 obtain ⟨x, c1, o1, hx, h1⟩ := spec_l18Idle b (newCur b) (newCur_ok hb) 1 (by omega)
 obtain ⟨y, c2, o2, hy, h2⟩ := spec_l18Idle b c1 o1 2 (by omega)
 refine ⟨x, y, hx, hy, ?_⟩
 refine callA_of Try.func5 (by kernel_rfl) rfl fun E hE => run_den 400 ?_
 simp (disch := omega) only [Try.ntmps5, Try.results5, go_sem, Nat.reduceEqDiff, Nat.reduceAdd, Nat.reduceSub, Int.reduceAdd, Int.reduceSub, Int.reduceToNat]
 refine den_call (by (try simp (disch := omega) only [go_sem, List.length_set, Nat.reduceEqDiff, Nat.reduceAdd, Nat.reduceSub, Int.reduceAdd, Int.reduceSub, Int.reduceToNat]) <;> omega) (spec_l01New b hb) [some (0, none)] (by simp only [go_sem]; repeat' first | rfl | constructor | (rw [List.map_set]; rfl) | (simp [List.map_take, List.map_drop] <;> omega)) (by rfl) (run_den 400 ?_)
 simp (disch := omega) only [go_sem, Nat.reduceEqDiff, Nat.reduceAdd, Nat.reduceSub, Int.reduceAdd, Int.reduceSub, Int.reduceToNat]
 refine den_call (by (try simp (disch := omega) only [go_sem, List.length_set, Nat.reduceEqDiff, Nat.reduceAdd, Nat.reduceSub, Int.reduceAdd, Int.reduceSub, Int.reduceToNat]) <;> omega) (h1) [some (0, none), some (3, none)] (by simp only [go_sem]; repeat' first | rfl | constructor | (rw [List.map_set]; rfl) | (simp [List.map_take, List.map_drop] <;> omega)) (by rfl) (run_den 400 ?_)
 simp (disch := omega) only [go_sem, Nat.reduceEqDiff, Nat.reduceAdd, Nat.reduceSub, Int.reduceAdd, Int.reduceSub, Int.reduceToNat]
 refine den_drawW [(0, 2)] [[1, 0, 2, 3, 4], [1, 2, 0, 3, 4]] (by kernel_rfl) (by (try simp (disch := omega) only [go_sem, List.length_set, Nat.reduceEqDiff, Nat.reduceAdd, Nat.reduceSub, Int.reduceAdd, Int.reduceSub, Int.reduceToNat]) <;> omega) (by kernel_rfl) ?_
 simp only [allDn]
 refine ⟨runW_den 400 ?_, runW_den 400 ?_⟩
 all_goals simp (disch := omega) only [go_sem, Nat.reduceEqDiff, Nat.reduceAdd, Nat.reduceSub, Int.reduceAdd, Int.reduceSub, Int.reduceToNat]
 all_goals
  refine den_callW (by (try simp (disch := omega) only [go_sem, List.length_set, Nat.reduceEqDiff, Nat.reduceAdd, Nat.reduceSub, Int.reduceAdd, Int.reduceSub, Int.reduceToNat]) <;> omega) (h2) [some (0, none), some (3, none)] (by simp only [go_sem]; repeat' first | rfl | constructor | (rw [List.map_set]; rfl) | (simp [List.map_take, List.map_drop] <;> omega)) (by rfl) (runW_den 400 ?_)
  simp (disch := omega) only [go_sem, Nat.reduceEqDiff, Nat.reduceAdd, Nat.reduceSub, Int.reduceAdd, Int.reduceSub, Int.reduceToNat]
  refine ⟨by (try simp (disch := omega) only [go_sem, List.length_set, Nat.reduceEqDiff, Nat.reduceAdd, Nat.reduceSub, Int.reduceAdd, Int.reduceSub, Int.reduceToNat]) <;> omega, run_den 400 ?_⟩
  try simp (disch := omega) only [go_sem, Nat.reduceEqDiff, Nat.reduceAdd, Nat.reduceSub, Int.reduceAdd, Int.reduceSub, Int.reduceToNat]
  refine den_fin [some (0, none), some (4, none), some (5, none), some (6, none), some (7, none), some (8, none), some (9, none), some (10, none), some (12, none), some (13, none), some (14, none), some (15, none), some (16, none), some (17, none), some (18, none)] (by (try simp (disch := omega) only [go_sem, List.length_set, Nat.reduceEqDiff, Nat.reduceAdd, Nat.reduceSub, Int.reduceAdd, Int.reduceSub, Int.reduceToNat]) <;> omega) _ (by simp only [go_sem]; rfl) (by rfl) (by rfl) ?_
  simp (disch := omega) only [go_sem, Nat.reduceEqDiff, Nat.reduceAdd, Nat.reduceSub, Int.reduceAdd, Int.reduceSub, Int.reduceToNat]
end
section
open Go.RowKit

attribute [go_sem] List.append_eq
theorem laws_sameAddrs (l : List AddrD) (hl : l.length ≤ 4611686018427387904) : CallA Try.prog 20 [.sc (.sl 0 0 l.length), .sc (.sl 1 0 l.length)] [some ⟨l.map AddrD.cs, 4, 56, false, true⟩, some ⟨l.map AddrD.cs, 4, 56, false, true⟩] (.sc (.bo true)) [some ⟨l.map AddrD.cs, 4, 56, false, true⟩, some ⟨l.map AddrD.cs, 4, 56, false, true⟩] := by
 refine callA_of Try.func20 (by kernel_rfl) rfl fun E hE => run_den 400 ?_
 simp (disch := omega) only [Try.ntmps20, Try.results20, go_sem, Nat.reduceEqDiff, Nat.reduceAdd, Nat.reduceSub, Int.reduceAdd, Int.reduceSub, Int.reduceToNat]
 refine den_lp 2 hE (fun s (k : Nat) => s.at [4, 6, 7, 8, 9, 10, 11, 12, 13, 14, 15, 16, 17, 18, 19, 20, 21, 22, 23, 24, 25] [(5, .sc (.int .i64 (k : Nat)))] (s.hp)) (fun (k : Nat) => k ≤ l.length) (fun (k : Nat) => l.length - k) 0 [some (0, none), some (1, none)] (by (try simp (disch := omega) only [go_sem, List.length_set, Nat.reduceEqDiff, Nat.reduceAdd, Nat.reduceSub, Int.reduceAdd, Int.reduceSub, Int.reduceToNat]) <;> omega) (Nat.zero_le _) (weak_mk (by rfl) (by rfl) ?_) fun k hk N hN => ?_
 ·try simp (disch := omega) only [go_sem, Nat.reduceEqDiff, Nat.reduceAdd, Nat.reduceSub, Int.reduceAdd, Int.reduceSub, Int.reduceToNat]
 ·refine run_den 400 ?_
  try simp (disch := omega) only [go_sem, Nat.reduceEqDiff, Nat.reduceAdd, Nat.reduceSub, Int.reduceAdd, Int.reduceSub, Int.reduceToNat]
  split <;> rename_i h <;> (try simp only [beq_true, beq_false, Bool.not_eq_true', Bool.not_eq_false'] at h) <;> simp (disch := omega) only [go_sem, Nat.reduceEqDiff, Nat.reduceAdd, Nat.reduceSub, Int.reduceAdd, Int.reduceSub, Int.reduceToNat, h] <;> (try simp only [decide_eq_true_eq, decide_eq_false_iff_not, beq_iff_eq, beq_eq_false_iff_ne, bne_iff_ne, bne_eq_false_iff_eq, ne_eq, Decidable.not_not, Bool.and_eq_true, Bool.and_eq_false_iff, Bool.or_eq_true, Bool.or_eq_false_iff, Int.ofNat_lt, Int.ofNat_le, Bool.not_eq_eq_eq_not, Bool.not_true, Bool.not_false] at h) <;> try simp (disch := omega) only [go_sem, Nat.reduceEqDiff, Nat.reduceAdd, Nat.reduceSub, Int.reduceAdd, Int.reduceSub, Int.reduceToNat]
  ·refine den_draw1 [0, 1, 2, 3, 4, 5, 6, 7, 8] (by kernel_rfl) (by (try simp (disch := omega) only [go_sem, List.length_set, Nat.reduceEqDiff, Nat.reduceAdd, Nat.reduceSub, Int.reduceAdd, Int.reduceSub, Int.reduceToNat]) <;> omega) (by kernel_rfl) (runD_den 400 ?_)
   simp (disch := omega) only [go_sem, Nat.reduceEqDiff, Nat.reduceAdd, Nat.reduceSub, Int.reduceAdd, Int.reduceSub, Int.reduceToNat]
   refine ⟨by (try simp (disch := omega) only [go_sem, List.length_set, Nat.reduceEqDiff, Nat.reduceAdd, Nat.reduceSub, Int.reduceAdd, Int.reduceSub, Int.reduceToNat]) <;> omega, run_den 400 ?_⟩
   try simp (disch := omega) only [go_sem, Nat.reduceEqDiff, Nat.reduceAdd, Nat.reduceSub, Int.reduceAdd, Int.reduceSub, Int.reduceToNat]
   refine ⟨by (try simp (disch := omega) only [go_sem, List.length_set, Nat.reduceEqDiff, Nat.reduceAdd, Nat.reduceSub, Int.reduceAdd, Int.reduceSub, Int.reduceToNat]) <;> omega, hN _ (k + 1) [some (0, none), some (1, none)] (by (try dsimp only); exact h) (by (try dsimp only); omega) (weak_mk (by rfl) (by rfl) ?_)⟩
   try simp (disch := omega) only [go_sem, Nat.reduceEqDiff, Nat.reduceAdd, Nat.reduceSub, Int.reduceAdd, Int.reduceSub, Int.reduceToNat]
  ·refine den_fin [some (0, none), some (1, none)] (by (try simp (disch := omega) only [go_sem, List.length_set, Nat.reduceEqDiff, Nat.reduceAdd, Nat.reduceSub, Int.reduceAdd, Int.reduceSub, Int.reduceToNat]) <;> omega) _ (by simp only [go_sem]; rfl) (by rfl) (by rfl) ?_
   simp (disch := omega) only [go_sem, Nat.reduceEqDiff, Nat.reduceAdd, Nat.reduceSub, Int.reduceAdd, Int.reduceSub, Int.reduceToNat]

theorem laws_sameSubs (l : List SubD) (hl : l.length ≤ 4611686018427387904) : CallA Try.prog 21 [.sc (.sl 0 0 l.length), .sc (.sl 1 0 l.length)] [some ⟨l.map SubD.cs, 10, 50, false, true⟩, some ⟨l.map SubD.cs, 10, 50, false, true⟩] (.sc (.bo true)) [some ⟨l.map SubD.cs, 10, 50, false, true⟩, some ⟨l.map SubD.cs, 10, 50, false, true⟩] := by
 refine callA_of Try.func21 (by kernel_rfl) rfl fun E hE => run_den 400 ?_
 simp (disch := omega) only [Try.ntmps21, Try.results21, go_sem, Nat.reduceEqDiff, Nat.reduceAdd, Nat.reduceSub, Int.reduceAdd, Int.reduceSub, Int.reduceToNat]
 refine den_lp 2 hE (fun s (k : Nat) => s.at [4, 6, 7, 8, 9, 10, 11, 12, 13, 14, 15, 16, 17, 18, 19, 20, 21, 22, 23, 24, 25] [(5, .sc (.int .i64 (k : Nat)))] (s.hp)) (fun (k : Nat) => k ≤ l.length) (fun (k : Nat) => l.length - k) 0 [some (0, none), some (1, none)] (by (try simp (disch := omega) only [go_sem, List.length_set, Nat.reduceEqDiff, Nat.reduceAdd, Nat.reduceSub, Int.reduceAdd, Int.reduceSub, Int.reduceToNat]) <;> omega) (Nat.zero_le _) (weak_mk (by rfl) (by rfl) ?_) fun k hk N hN => ?_
 ·try simp (disch := omega) only [go_sem, Nat.reduceEqDiff, Nat.reduceAdd, Nat.reduceSub, Int.reduceAdd, Int.reduceSub, Int.reduceToNat]
 ·refine run_den 400 ?_
  try simp (disch := omega) only [go_sem, Nat.reduceEqDiff, Nat.reduceAdd, Nat.reduceSub, Int.reduceAdd, Int.reduceSub, Int.reduceToNat]
  split <;> rename_i h <;> (try simp only [beq_true, beq_false, Bool.not_eq_true', Bool.not_eq_false'] at h) <;> simp (disch := omega) only [go_sem, Nat.reduceEqDiff, Nat.reduceAdd, Nat.reduceSub, Int.reduceAdd, Int.reduceSub, Int.reduceToNat, h] <;> (try simp only [decide_eq_true_eq, decide_eq_false_iff_not, beq_iff_eq, beq_eq_false_iff_ne, bne_iff_ne, bne_eq_false_iff_eq, ne_eq, Decidable.not_not, Bool.and_eq_true, Bool.and_eq_false_iff, Bool.or_eq_true, Bool.or_eq_false_iff, Int.ofNat_lt, Int.ofNat_le, Bool.not_eq_eq_eq_not, Bool.not_true, Bool.not_false] at h) <;> try simp (disch := omega) only [go_sem, Nat.reduceEqDiff, Nat.reduceAdd, Nat.reduceSub, Int.reduceAdd, Int.reduceSub, Int.reduceToNat]
  ·refine den_draw1 [0, 1, 2, 3, 4, 5, 6, 7, 8] (by kernel_rfl) (by (try simp (disch := omega) only [go_sem, List.length_set, Nat.reduceEqDiff, Nat.reduceAdd, Nat.reduceSub, Int.reduceAdd, Int.reduceSub, Int.reduceToNat]) <;> omega) (by kernel_rfl) (runD_den 400 ?_)
   simp (disch := omega) only [go_sem, Nat.reduceEqDiff, Nat.reduceAdd, Nat.reduceSub, Int.reduceAdd, Int.reduceSub, Int.reduceToNat]
   refine ⟨by (try simp (disch := omega) only [go_sem, List.length_set, Nat.reduceEqDiff, Nat.reduceAdd, Nat.reduceSub, Int.reduceAdd, Int.reduceSub, Int.reduceToNat]) <;> omega, run_den 400 ?_⟩
   try simp (disch := omega) only [go_sem, Nat.reduceEqDiff, Nat.reduceAdd, Nat.reduceSub, Int.reduceAdd, Int.reduceSub, Int.reduceToNat]
   refine ⟨by (try simp (disch := omega) only [go_sem, List.length_set, Nat.reduceEqDiff, Nat.reduceAdd, Nat.reduceSub, Int.reduceAdd, Int.reduceSub, Int.reduceToNat]) <;> omega, hN _ (k + 1) [some (0, none), some (1, none)] (by (try dsimp only); exact h) (by (try dsimp only); omega) (weak_mk (by rfl) (by rfl) ?_)⟩
   try simp (disch := omega) only [go_sem, Nat.reduceEqDiff, Nat.reduceAdd, Nat.reduceSub, Int.reduceAdd, Int.reduceSub, Int.reduceToNat]
  ·refine den_fin [some (0, none), some (1, none)] (by (try simp (disch := omega) only [go_sem, List.length_set, Nat.reduceEqDiff, Nat.reduceAdd, Nat.reduceSub, Int.reduceAdd, Int.reduceSub, Int.reduceToNat]) <;> omega) _ (by simp only [go_sem]; rfl) (by rfl) (by rfl) ?_
   simp (disch := omega) only [go_sem, Nat.reduceEqDiff, Nat.reduceAdd, Nat.reduceSub, Int.reduceAdd, Int.reduceSub, Int.reduceToNat]

theorem laws_sameHalfs (l : List HalfD) (hl : l.length ≤ 4611686018427387904) : CallA Try.prog 22 [.sc (.sl 0 0 l.length), .sc (.sl 1 0 l.length)] [some ⟨l.map HalfD.cs, 8, 94, false, true⟩, some ⟨l.map HalfD.cs, 8, 94, false, true⟩] (.sc (.bo true)) [some ⟨l.map HalfD.cs, 8, 94, false, true⟩, some ⟨l.map HalfD.cs, 8, 94, false, true⟩] := by
 refine callA_of Try.func22 (by kernel_rfl) rfl fun E hE => run_den 400 ?_
 simp (disch := omega) only [Try.ntmps22, Try.results22, go_sem, Nat.reduceEqDiff, Nat.reduceAdd, Nat.reduceSub, Int.reduceAdd, Int.reduceSub, Int.reduceToNat]
 refine den_lp 2 hE (fun s (k : Nat) => s.at [4, 6, 7, 8, 9, 10, 11, 12, 13, 14, 15, 16, 17, 18, 19, 20, 21, 22, 23, 24, 25] [(5, .sc (.int .i64 (k : Nat)))] (s.hp)) (fun (k : Nat) => k ≤ l.length) (fun (k : Nat) => l.length - k) 0 [some (0, none), some (1, none)] (by (try simp (disch := omega) only [go_sem, List.length_set, Nat.reduceEqDiff, Nat.reduceAdd, Nat.reduceSub, Int.reduceAdd, Int.reduceSub, Int.reduceToNat]) <;> omega) (Nat.zero_le _) (weak_mk (by rfl) (by rfl) ?_) fun k hk N hN => ?_
 ·try simp (disch := omega) only [go_sem, Nat.reduceEqDiff, Nat.reduceAdd, Nat.reduceSub, Int.reduceAdd, Int.reduceSub, Int.reduceToNat]
 ·refine run_den 400 ?_
  try simp (disch := omega) only [go_sem, Nat.reduceEqDiff, Nat.reduceAdd, Nat.reduceSub, Int.reduceAdd, Int.reduceSub, Int.reduceToNat]
  split <;> rename_i h <;> (try simp only [beq_true, beq_false, Bool.not_eq_true', Bool.not_eq_false'] at h) <;> simp (disch := omega) only [go_sem, Nat.reduceEqDiff, Nat.reduceAdd, Nat.reduceSub, Int.reduceAdd, Int.reduceSub, Int.reduceToNat, h] <;> (try simp only [decide_eq_true_eq, decide_eq_false_iff_not, beq_iff_eq, beq_eq_false_iff_ne, bne_iff_ne, bne_eq_false_iff_eq, ne_eq, Decidable.not_not, Bool.and_eq_true, Bool.and_eq_false_iff, Bool.or_eq_true, Bool.or_eq_false_iff, Int.ofNat_lt, Int.ofNat_le, Bool.not_eq_eq_eq_not, Bool.not_true, Bool.not_false] at h) <;> try simp (disch := omega) only [go_sem, Nat.reduceEqDiff, Nat.reduceAdd, Nat.reduceSub, Int.reduceAdd, Int.reduceSub, Int.reduceToNat]
  ·refine den_draw1 [0, 1, 2, 3, 4, 5, 6, 7, 8] (by kernel_rfl) (by (try simp (disch := omega) only [go_sem, List.length_set, Nat.reduceEqDiff, Nat.reduceAdd, Nat.reduceSub, Int.reduceAdd, Int.reduceSub, Int.reduceToNat]) <;> omega) (by kernel_rfl) (runD_den 400 ?_)
   simp (disch := omega) only [go_sem, Nat.reduceEqDiff, Nat.reduceAdd, Nat.reduceSub, Int.reduceAdd, Int.reduceSub, Int.reduceToNat]
   refine ⟨by (try simp (disch := omega) only [go_sem, List.length_set, Nat.reduceEqDiff, Nat.reduceAdd, Nat.reduceSub, Int.reduceAdd, Int.reduceSub, Int.reduceToNat]) <;> omega, run_den 400 ?_⟩
   try simp (disch := omega) only [go_sem, Nat.reduceEqDiff, Nat.reduceAdd, Nat.reduceSub, Int.reduceAdd, Int.reduceSub, Int.reduceToNat]
   refine ⟨by (try simp (disch := omega) only [go_sem, List.length_set, Nat.reduceEqDiff, Nat.reduceAdd, Nat.reduceSub, Int.reduceAdd, Int.reduceSub, Int.reduceToNat]) <;> omega, hN _ (k + 1) [some (0, none), some (1, none)] (by (try dsimp only); exact h) (by (try dsimp only); omega) (weak_mk (by rfl) (by rfl) ?_)⟩
   try simp (disch := omega) only [go_sem, Nat.reduceEqDiff, Nat.reduceAdd, Nat.reduceSub, Int.reduceAdd, Int.reduceSub, Int.reduceToNat]
  ·refine den_fin [some (0, none), some (1, none)] (by (try simp (disch := omega) only [go_sem, List.length_set, Nat.reduceEqDiff, Nat.reduceAdd, Nat.reduceSub, Int.reduceAdd, Int.reduceSub, Int.reduceToNat]) <;> omega) _ (by simp only [go_sem]; rfl) (by rfl) (by rfl) ?_
   simp (disch := omega) only [go_sem, Nat.reduceEqDiff, Nat.reduceAdd, Nat.reduceSub, Int.reduceAdd, Int.reduceSub, Int.reduceToNat]

theorem laws_samePieceList (l : List PieceD) (hl : l.length ≤ 4611686018427387904) : CallA Try.prog 56 [.sc (.sl 0 0 l.length), .sc (.sl 1 0 l.length)] [some ⟨l.map PieceD.cs, 2, 111, false, true⟩, some ⟨l.map PieceD.cs, 2, 111, false, true⟩] (.sc (.bo true)) [some ⟨l.map PieceD.cs, 2, 111, false, true⟩, some ⟨l.map PieceD.cs, 2, 111, false, true⟩] := by
 refine callA_of Try.func56 (by kernel_rfl) rfl fun E hE => run_den 400 ?_
 simp (disch := omega) only [Try.ntmps56, Try.results56, go_sem, Nat.reduceEqDiff, Nat.reduceAdd, Nat.reduceSub, Int.reduceAdd, Int.reduceSub, Int.reduceToNat]
 refine den_lp 2 hE (fun s (k : Nat) => s.at [4, 6, 7, 8, 9, 10, 11, 12, 13, 14, 15, 16, 17, 18, 19, 20, 21, 22, 23, 24, 25] [(5, .sc (.int .i64 (k : Nat)))] (s.hp)) (fun (k : Nat) => k ≤ l.length) (fun (k : Nat) => l.length - k) 0 [some (0, none), some (1, none)] (by (try simp (disch := omega) only [go_sem, List.length_set, Nat.reduceEqDiff, Nat.reduceAdd, Nat.reduceSub, Int.reduceAdd, Int.reduceSub, Int.reduceToNat]) <;> omega) (Nat.zero_le _) (weak_mk (by rfl) (by rfl) ?_) fun k hk N hN => ?_
 ·try simp (disch := omega) only [go_sem, Nat.reduceEqDiff, Nat.reduceAdd, Nat.reduceSub, Int.reduceAdd, Int.reduceSub, Int.reduceToNat]
 ·refine run_den 400 ?_
  try simp (disch := omega) only [go_sem, Nat.reduceEqDiff, Nat.reduceAdd, Nat.reduceSub, Int.reduceAdd, Int.reduceSub, Int.reduceToNat]
  split <;> rename_i h <;> (try simp only [beq_true, beq_false, Bool.not_eq_true', Bool.not_eq_false'] at h) <;> simp (disch := omega) only [go_sem, Nat.reduceEqDiff, Nat.reduceAdd, Nat.reduceSub, Int.reduceAdd, Int.reduceSub, Int.reduceToNat, h] <;> (try simp only [decide_eq_true_eq, decide_eq_false_iff_not, beq_iff_eq, beq_eq_false_iff_ne, bne_iff_ne, bne_eq_false_iff_eq, ne_eq, Decidable.not_not, Bool.and_eq_true, Bool.and_eq_false_iff, Bool.or_eq_true, Bool.or_eq_false_iff, Int.ofNat_lt, Int.ofNat_le, Bool.not_eq_eq_eq_not, Bool.not_true, Bool.not_false] at h) <;> try simp (disch := omega) only [go_sem, Nat.reduceEqDiff, Nat.reduceAdd, Nat.reduceSub, Int.reduceAdd, Int.reduceSub, Int.reduceToNat]
  ·refine den_draw1 [0, 1, 2, 3, 4, 5, 6, 7, 8] (by kernel_rfl) (by (try simp (disch := omega) only [go_sem, List.length_set, Nat.reduceEqDiff, Nat.reduceAdd, Nat.reduceSub, Int.reduceAdd, Int.reduceSub, Int.reduceToNat]) <;> omega) (by kernel_rfl) (runD_den 400 ?_)
   simp (disch := omega) only [go_sem, Nat.reduceEqDiff, Nat.reduceAdd, Nat.reduceSub, Int.reduceAdd, Int.reduceSub, Int.reduceToNat]
   refine ⟨by (try simp (disch := omega) only [go_sem, List.length_set, Nat.reduceEqDiff, Nat.reduceAdd, Nat.reduceSub, Int.reduceAdd, Int.reduceSub, Int.reduceToNat]) <;> omega, run_den 400 ?_⟩
   try simp (disch := omega) only [go_sem, Nat.reduceEqDiff, Nat.reduceAdd, Nat.reduceSub, Int.reduceAdd, Int.reduceSub, Int.reduceToNat]
   refine ⟨by (try simp (disch := omega) only [go_sem, List.length_set, Nat.reduceEqDiff, Nat.reduceAdd, Nat.reduceSub, Int.reduceAdd, Int.reduceSub, Int.reduceToNat]) <;> omega, hN _ (k + 1) [some (0, none), some (1, none)] (by (try dsimp only); exact h) (by (try dsimp only); omega) (weak_mk (by rfl) (by rfl) ?_)⟩
   try simp (disch := omega) only [go_sem, Nat.reduceEqDiff, Nat.reduceAdd, Nat.reduceSub, Int.reduceAdd, Int.reduceSub, Int.reduceToNat]
  ·refine den_fin [some (0, none), some (1, none)] (by (try simp (disch := omega) only [go_sem, List.length_set, Nat.reduceEqDiff, Nat.reduceAdd, Nat.reduceSub, Int.reduceAdd, Int.reduceSub, Int.reduceToNat]) <;> omega) _ (by simp only [go_sem]; rfl) (by rfl) (by rfl) ?_
   simp (disch := omega) only [go_sem, Nat.reduceEqDiff, Nat.reduceAdd, Nat.reduceSub, Int.reduceAdd, Int.reduceSub, Int.reduceToNat]

theorem laws_sameInts (l : List Int) (hl : l.length ≤ 4611686018427387904) : CallA Try.prog 24 [.sc (.sl 0 0 l.length), .sc (.sl 1 0 l.length)] [some ⟨l.map intC, 1, 3, false, true⟩, some ⟨l.map intC, 1, 3, false, true⟩] (.sc (.bo true)) [some ⟨l.map intC, 1, 3, false, true⟩, some ⟨l.map intC, 1, 3, false, true⟩] := by
 refine callA_of Try.func24 (by kernel_rfl) rfl fun E hE => run_den 400 ?_
 simp (disch := omega) only [Try.ntmps24, Try.results24, go_sem, Nat.reduceEqDiff, Nat.reduceAdd, Nat.reduceSub, Int.reduceAdd, Int.reduceSub, Int.reduceToNat]
 refine den_lp 2 hE (fun s (k : Nat) => s.at [4, 6, 7, 8, 9, 10, 11, 12, 13, 14, 15, 16, 17, 18, 19, 20, 21, 22, 23, 24, 25] [(5, .sc (.int .i64 (k : Nat)))] (s.hp)) (fun (k : Nat) => k ≤ l.length) (fun (k : Nat) => l.length - k) 0 [some (0, none), some (1, none)] (by (try simp (disch := omega) only [go_sem, List.length_set, Nat.reduceEqDiff, Nat.reduceAdd, Nat.reduceSub, Int.reduceAdd, Int.reduceSub, Int.reduceToNat]) <;> omega) (Nat.zero_le _) (weak_mk (by rfl) (by rfl) ?_) fun k hk N hN => ?_
 ·try simp (disch := omega) only [go_sem, Nat.reduceEqDiff, Nat.reduceAdd, Nat.reduceSub, Int.reduceAdd, Int.reduceSub, Int.reduceToNat]
 ·refine run_den 400 ?_
  try simp (disch := omega) only [go_sem, Nat.reduceEqDiff, Nat.reduceAdd, Nat.reduceSub, Int.reduceAdd, Int.reduceSub, Int.reduceToNat]
  split <;> rename_i h <;> (try simp only [beq_true, beq_false, Bool.not_eq_true', Bool.not_eq_false'] at h) <;> simp (disch := omega) only [go_sem, Nat.reduceEqDiff, Nat.reduceAdd, Nat.reduceSub, Int.reduceAdd, Int.reduceSub, Int.reduceToNat, h] <;> (try simp only [decide_eq_true_eq, decide_eq_false_iff_not, beq_iff_eq, beq_eq_false_iff_ne, bne_iff_ne, bne_eq_false_iff_eq, ne_eq, Decidable.not_not, Bool.and_eq_true, Bool.and_eq_false_iff, Bool.or_eq_true, Bool.or_eq_false_iff, Int.ofNat_lt, Int.ofNat_le, Bool.not_eq_eq_eq_not, Bool.not_true, Bool.not_false] at h) <;> try simp (disch := omega) only [go_sem, Nat.reduceEqDiff, Nat.reduceAdd, Nat.reduceSub, Int.reduceAdd, Int.reduceSub, Int.reduceToNat]
  ·refine den_draw1 [0, 1, 2, 3, 4, 5, 6, 7, 8] (by kernel_rfl) (by (try simp (disch := omega) only [go_sem, List.length_set, Nat.reduceEqDiff, Nat.reduceAdd, Nat.reduceSub, Int.reduceAdd, Int.reduceSub, Int.reduceToNat]) <;> omega) (by kernel_rfl) (runD_den 400 ?_)
   simp (disch := omega) only [go_sem, Nat.reduceEqDiff, Nat.reduceAdd, Nat.reduceSub, Int.reduceAdd, Int.reduceSub, Int.reduceToNat]
   refine ⟨by (try simp (disch := omega) only [go_sem, List.length_set, Nat.reduceEqDiff, Nat.reduceAdd, Nat.reduceSub, Int.reduceAdd, Int.reduceSub, Int.reduceToNat]) <;> omega, run_den 400 ?_⟩
   try simp (disch := omega) only [go_sem, Nat.reduceEqDiff, Nat.reduceAdd, Nat.reduceSub, Int.reduceAdd, Int.reduceSub, Int.reduceToNat]
   refine ⟨by (try simp (disch := omega) only [go_sem, List.length_set, Nat.reduceEqDiff, Nat.reduceAdd, Nat.reduceSub, Int.reduceAdd, Int.reduceSub, Int.reduceToNat]) <;> omega, hN _ (k + 1) [some (0, none), some (1, none)] (by (try dsimp only); exact h) (by (try dsimp only); omega) (weak_mk (by rfl) (by rfl) ?_)⟩
   try simp (disch := omega) only [go_sem, Nat.reduceEqDiff, Nat.reduceAdd, Nat.reduceSub, Int.reduceAdd, Int.reduceSub, Int.reduceToNat]
  ·refine den_fin [some (0, none), some (1, none)] (by (try simp (disch := omega) only [go_sem, List.length_set, Nat.reduceEqDiff, Nat.reduceAdd, Nat.reduceSub, Int.reduceAdd, Int.reduceSub, Int.reduceToNat]) <;> omega) _ (by simp only [go_sem]; rfl) (by rfl) (by rfl) ?_
   simp (disch := omega) only [go_sem, Nat.reduceEqDiff, Nat.reduceAdd, Nat.reduceSub, Int.reduceAdd, Int.reduceSub, Int.reduceToNat]
theorem laws_samePieces (x : PiecesD) (hl : x.list.length ≤ 4611686018427387904) : CallA Try.prog 23 [.ag (x.cs 0), .ag (x.cs 1)] (x.hp false ++ x.hp false) (.sc (.bo true)) (x.hp false ++ x.hp false) := by
 refine callA_of Try.func23 (by kernel_rfl) rfl fun E hE => run_den 400 ?_
 simp (disch := omega) only [Try.ntmps23, Try.results23, go_sem, Nat.reduceEqDiff, Nat.reduceAdd, Nat.reduceSub, Int.reduceAdd, Int.reduceSub, Int.reduceToNat]
 refine den_call (by (try simp (disch := omega) only [go_sem, List.length_set, Nat.reduceEqDiff, Nat.reduceAdd, Nat.reduceSub, Int.reduceAdd, Int.reduceSub, Int.reduceToNat]) <;> omega) (laws_samePieceList x.list hl) [some (0, none), some (1, none)] (by simp only [go_sem]; repeat' first | rfl | constructor | (rw [List.map_set]; rfl) | (simp [List.map_take, List.map_drop] <;> omega)) (by rfl) (run_den 400 ?_)
 simp (disch := omega) only [go_sem, Nat.reduceEqDiff, Nat.reduceAdd, Nat.reduceSub, Int.reduceAdd, Int.reduceSub, Int.reduceToNat]
 refine den_fin [some (0, none), some (1, none)] (by (try simp (disch := omega) only [go_sem, List.length_set, Nat.reduceEqDiff, Nat.reduceAdd, Nat.reduceSub, Int.reduceAdd, Int.reduceSub, Int.reduceToNat]) <;> omega) _ (by simp only [go_sem]; rfl) (by rfl) (by rfl) ?_
 simp (disch := omega) only [go_sem, Nat.reduceEqDiff, Nat.reduceAdd, Nat.reduceSub, Int.reduceAdd, Int.reduceSub, Int.reduceToNat]
theorem laws_sameEnd (e : EndD) (h0 : e.own.length ≤ 1048576) (h1 : e.far.length ≤ 1048576) (h2 : e.subs.length ≤ 1048576) (h3 : e.halfs.length ≤ 1048576) (h4 : e.inp.list.length ≤ 1048576) (h5 : e.done.length ≤ 1048576) (h6 : e.over.length ≤ 1048576) : CallA Try.prog 8 [.ag (e.cs 0), .ag (e.cs 7)] (e.hp false ++ e.hp false) (.sc (.bo true)) (e.hp false ++ e.hp false) := by
 refine callA_of Try.func8 (by kernel_rfl) rfl fun E hE => run_den 400 ?_
 simp (disch := omega) only [Try.ntmps8, Try.results8, go_sem, Nat.reduceEqDiff, Nat.reduceAdd, Nat.reduceSub, Int.reduceAdd, Int.reduceSub, Int.reduceToNat]

 refine den_call (by (try simp (disch := omega) only [go_sem, List.length_set, Nat.reduceEqDiff, Nat.reduceAdd, Nat.reduceSub, Int.reduceAdd, Int.reduceSub, Int.reduceToNat]) <;> omega) (laws_sameAddrs e.own (by omega)) [some (0, none), some (7, none)] (by simp only [go_sem]; repeat' first | rfl | constructor | (rw [List.map_set]; rfl) | (simp [List.map_take, List.map_drop] <;> omega)) (by rfl) (run_den 400 ?_)
 simp (disch := omega) only [go_sem, Nat.reduceEqDiff, Nat.reduceAdd, Nat.reduceSub, Int.reduceAdd, Int.reduceSub, Int.reduceToNat]
 refine den_call (by (try simp (disch := omega) only [go_sem, List.length_set, Nat.reduceEqDiff, Nat.reduceAdd, Nat.reduceSub, Int.reduceAdd, Int.reduceSub, Int.reduceToNat]) <;> omega) (laws_sameAddrs e.far (by omega)) [some (1, none), some (8, none)] (by simp only [go_sem]; repeat' first | rfl | constructor | (rw [List.map_set]; rfl) | (simp [List.map_take, List.map_drop] <;> omega)) (by rfl) (run_den 400 ?_)
 simp (disch := omega) only [go_sem, Nat.reduceEqDiff, Nat.reduceAdd, Nat.reduceSub, Int.reduceAdd, Int.reduceSub, Int.reduceToNat]
 refine den_call (by (try simp (disch := omega) only [go_sem, List.length_set, Nat.reduceEqDiff, Nat.reduceAdd, Nat.reduceSub, Int.reduceAdd, Int.reduceSub, Int.reduceToNat]) <;> omega) (laws_sameSubs e.subs (by omega)) [some (2, none), some (9, none)] (by simp only [go_sem]; repeat' first | rfl | constructor | (rw [List.map_set]; rfl) | (simp [List.map_take, List.map_drop] <;> omega)) (by rfl) (run_den 400 ?_)
 simp (disch := omega) only [go_sem, Nat.reduceEqDiff, Nat.reduceAdd, Nat.reduceSub, Int.reduceAdd, Int.reduceSub, Int.reduceToNat]
 refine den_call (by (try simp (disch := omega) only [go_sem, List.length_set, Nat.reduceEqDiff, Nat.reduceAdd, Nat.reduceSub, Int.reduceAdd, Int.reduceSub, Int.reduceToNat]) <;> omega) (laws_sameHalfs e.halfs (by omega)) [some (3, none), some (10, none)] (by simp only [go_sem]; repeat' first | rfl | constructor | (rw [List.map_set]; rfl) | (simp [List.map_take, List.map_drop] <;> omega)) (by rfl) (run_den 400 ?_)
 simp (disch := omega) only [go_sem, Nat.reduceEqDiff, Nat.reduceAdd, Nat.reduceSub, Int.reduceAdd, Int.reduceSub, Int.reduceToNat]
 refine den_call (by (try simp (disch := omega) only [go_sem, List.length_set, Nat.reduceEqDiff, Nat.reduceAdd, Nat.reduceSub, Int.reduceAdd, Int.reduceSub, Int.reduceToNat]) <;> omega) (laws_samePieces e.inp (by omega)) [some (4, none), some (11, none)] (by simp only [go_sem]; repeat' first | rfl | constructor | (rw [List.map_set]; rfl) | (simp [List.map_take, List.map_drop] <;> omega)) (by rfl) (run_den 400 ?_)
 simp (disch := omega) only [go_sem, Nat.reduceEqDiff, Nat.reduceAdd, Nat.reduceSub, Int.reduceAdd, Int.reduceSub, Int.reduceToNat]
 refine den_call (by (try simp (disch := omega) only [go_sem, List.length_set, Nat.reduceEqDiff, Nat.reduceAdd, Nat.reduceSub, Int.reduceAdd, Int.reduceSub, Int.reduceToNat]) <;> omega) (laws_sameInts e.done (by omega)) [some (5, none), some (12, none)] (by simp only [go_sem]; repeat' first | rfl | constructor | (rw [List.map_set]; rfl) | (simp [List.map_take, List.map_drop] <;> omega)) (by rfl) (run_den 400 ?_)
 simp (disch := omega) only [go_sem, Nat.reduceEqDiff, Nat.reduceAdd, Nat.reduceSub, Int.reduceAdd, Int.reduceSub, Int.reduceToNat]
 refine den_call (by (try simp (disch := omega) only [go_sem, List.length_set, Nat.reduceEqDiff, Nat.reduceAdd, Nat.reduceSub, Int.reduceAdd, Int.reduceSub, Int.reduceToNat]) <;> omega) (laws_sameInts e.over (by omega)) [some (6, none), some (13, none)] (by simp only [go_sem]; repeat' first | rfl | constructor | (rw [List.map_set]; rfl) | (simp [List.map_take, List.map_drop] <;> omega)) (by rfl) (run_den 400 ?_)
 simp (disch := omega) only [go_sem, Nat.reduceEqDiff, Nat.reduceAdd, Nat.reduceSub, Int.reduceAdd, Int.reduceSub, Int.reduceToNat]
 refine den_fin [some (0, none), some (1, none), some (2, none), some (3, none), some (4, none), some (5, none), some (6, none), some (7, none), some (8, none), some (9, none), some (10, none), some (11, none), some (12, none), some (13, none)] (by (try simp (disch := omega) only [go_sem, List.length_set, Nat.reduceEqDiff, Nat.reduceAdd, Nat.reduceSub, Int.reduceAdd, Int.reduceSub, Int.reduceToNat]) <;> omega) _ (by simp only [go_sem]; rfl) (by rfl) (by rfl) ?_
 simp (disch := omega) only [go_sem, Nat.reduceEqDiff, Nat.reduceAdd, Nat.reduceSub, Int.reduceAdd, Int.reduceSub, Int.reduceToNat]
end
section
open Go.RowKit

theorem laws_big (b : List UInt8) (hl : b.length ≤ maxLen) : CallA Try.prog 4 [.sc (.sl 0 0 b.length)] [some ⟨b.map byteC, 1, 5, false, true⟩] (.sc (.bo (decide (1048576 < b.length)))) [some ⟨b.map byteC, 1, 5, false, true⟩] := by
 refine callA_of Try.func4 (by kernel_rfl) rfl fun E hE => run_den 400 ?_
 simp (disch := omega) only [Try.ntmps4, Try.results4, go_sem, Nat.reduceEqDiff, Nat.reduceAdd, Nat.reduceSub, Int.reduceAdd, Int.reduceSub, Int.reduceToNat]
 refine den_fin [some (0, none)] (by (try simp (disch := omega) only [go_sem, List.length_set, Nat.reduceEqDiff, Nat.reduceAdd, Nat.reduceSub, Int.reduceAdd, Int.reduceSub, Int.reduceToNat]) <;> omega) _ (by simp only [go_sem]; rfl) (by rfl) (by rfl) ?_
 simp (disch := omega) only [go_sem, Nat.reduceEqDiff, Nat.reduceAdd, Nat.reduceSub, Int.reduceAdd, Int.reduceSub, Int.reduceToNat]
 simp
 omega
theorem sameE (e : EndD) (h : Small e) : CallA Try.prog 8 [.ag (e.cs 0), .ag (e.cs 7)] (e.hp false ++ e.hp false) (.sc (.bo true)) (e.hp false ++ e.hp false) := laws_sameEnd e h.own h.far h.subs h.halfs h.list h.done h.over
theorem law_Meets (b : List UInt8) (hb : b.length ≤ maxLen) (_ : ∀ x ∈ b, True) : CallA Try.prog 3 [.sc (.sl 0 0 b.length)] [some ⟨b.map byteC, 1, 5, false, true⟩] (.sc (.bo true)) [some ⟨b.map byteC, 1, 5, false, true⟩] := by
 refine callA_ofO Try.func3 (by kernel_rfl) rfl fun E hE => run_den 400 ?_
 simp (disch := omega) only [Try.ntmps3, Try.results3, go_sem, Nat.reduceEqDiff, Nat.reduceAdd, Nat.reduceSub, Int.reduceAdd, Int.reduceSub, Int.reduceToNat]
 refine den_call (by (try simp (disch := omega) only [go_sem, List.length_set, Nat.reduceEqDiff, Nat.reduceAdd, Nat.reduceSub, Int.reduceAdd, Int.reduceSub, Int.reduceToNat]) <;> omega) (laws_big b hb) [some (0, none)] (by simp only [go_sem]; repeat' first | rfl | constructor | (rw [List.map_set]; rfl) | (simp [List.map_take, List.map_drop] <;> omega)) (by rfl) (run_den 400 ?_)
 simp (disch := omega) only [go_sem, Nat.reduceEqDiff, Nat.reduceAdd, Nat.reduceSub, Int.reduceAdd, Int.reduceSub, Int.reduceToNat]
 split <;> rename_i h <;> (try simp only [beq_true, beq_false, Bool.not_eq_true', Bool.not_eq_false'] at h) <;> simp (disch := omega) only [go_sem, Nat.reduceEqDiff, Nat.reduceAdd, Nat.reduceSub, Int.reduceAdd, Int.reduceSub, Int.reduceToNat, h] <;> (try simp only [decide_eq_true_eq, decide_eq_false_iff_not, beq_iff_eq, beq_eq_false_iff_ne, bne_iff_ne, bne_eq_false_iff_eq, ne_eq, Decidable.not_not, Bool.and_eq_true, Bool.and_eq_false_iff, Bool.or_eq_true, Bool.or_eq_false_iff, Int.ofNat_lt, Int.ofNat_le, Bool.not_eq_eq_eq_not, Bool.not_true, Bool.not_false] at h) <;> try simp (disch := omega) only [go_sem, Nat.reduceEqDiff, Nat.reduceAdd, Nat.reduceSub, Int.reduceAdd, Int.reduceSub, Int.reduceToNat]
 ·refine den_finO [some (0, none)] (by (try simp (disch := omega) only [go_sem, List.length_set, Nat.reduceEqDiff, Nat.reduceAdd, Nat.reduceSub, Int.reduceAdd, Int.reduceSub, Int.reduceToNat]) <;> omega) _ (by simp only [go_sem]; rfl) (by rfl) (by rfl) ?_
  simp (disch := omega) only [go_sem, Nat.reduceEqDiff, Nat.reduceAdd, Nat.reduceSub, Int.reduceAdd, Int.reduceSub, Int.reduceToNat]
 ·obtain ⟨x, y, hx, hy, hcall⟩ := spec_DrawMeet b (by omega)
  have hm := meets hx hy
  simp only [meetsB, Bool.and_eq_true] at hm
  obtain ⟨⟨⟨⟨m1, m2⟩, m3⟩, m4⟩, m5⟩ := hm
  have s1 := smallB_iff m1
  have s2 := smallB_iff m2
  have s3 := smallB_iff m3
  have s4 := smallB_iff m4
  have hI := impl_Meet x y s1 s2
  have hS := spec_Meet x y s1 s2
  clear m1 m2 m3 m4 hx hy
  obtain ⟨M, hM⟩ : ∃ M, M = meet x y := ⟨_, rfl⟩
  rw [← hM] at hI hS s3 s4 m5
  clear hM
  obtain ⟨X, Y, ok⟩ := M
  dsimp only at hI hS s3 s4 m5
  have hX := sameE X s3
  have hY := sameE Y s4
  refine den_call (by (try simp (disch := omega) only [go_sem, List.length_set, Nat.reduceEqDiff, Nat.reduceAdd, Nat.reduceSub, Int.reduceAdd, Int.reduceSub, Int.reduceToNat]) <;> omega) (hcall) [some (0, none)] (by simp only [go_sem]; repeat' first | rfl | constructor | (rw [List.map_set]; rfl) | (simp [List.map_take, List.map_drop] <;> omega)) (by rfl) (run_den 400 ?_)
  simp (disch := omega) only [go_sem, Nat.reduceEqDiff, Nat.reduceAdd, Nat.reduceSub, Int.reduceAdd, Int.reduceSub, Int.reduceToNat]
  refine den_call (by (try simp (disch := omega) only [go_sem, List.length_set, Nat.reduceEqDiff, Nat.reduceAdd, Nat.reduceSub, Int.reduceAdd, Int.reduceSub, Int.reduceToNat]) <;> omega) (hI) [some (1, none), some (2, none), some (3, none), some (4, none), some (5, none), some (6, none), some (7, none), some (8, none), some (9, none), some (10, none), some (11, none), some (12, none), some (13, none), some (14, none)] (by simp only [go_sem]; repeat' first | rfl | constructor | (rw [List.map_set]; rfl) | (simp [List.map_take, List.map_drop] <;> omega)) (by rfl) (run_den 400 ?_)
  simp (disch := omega) only [go_sem, Nat.reduceEqDiff, Nat.reduceAdd, Nat.reduceSub, Int.reduceAdd, Int.reduceSub, Int.reduceToNat]
  refine den_call (by (try simp (disch := omega) only [go_sem, List.length_set, Nat.reduceEqDiff, Nat.reduceAdd, Nat.reduceSub, Int.reduceAdd, Int.reduceSub, Int.reduceToNat]) <;> omega) (hS) [some (1, none), some (2, none), some (3, none), some (4, none), some (5, none), some (6, none), some (7, none), some (8, none), some (9, none), some (10, none), some (11, none), some (12, none), some (13, none), some (14, none)] (by simp only [go_sem]; repeat' first | rfl | constructor | (rw [List.map_set]; rfl) | (simp [List.map_take, List.map_drop] <;> omega)) (by rfl) (run_den 400 ?_)
  simp (disch := omega) only [go_sem, Nat.reduceEqDiff, Nat.reduceAdd, Nat.reduceSub, Int.reduceAdd, Int.reduceSub, Int.reduceToNat]
  by_cases c : ok = true ∧ x.state = 0 ∧ y.state = 0
  ·obtain ⟨c1, c2, c3⟩ := c
   subst c1
   have hw : metWell x y X Y = true := by simpa [c2, c3] using m5
   simp only [metWell, Bool.and_eq_true, Bool.or_eq_true, decide_eq_true_eq, Bool.not_eq_true', decide_eq_false_iff_not] at hw
   obtain ⟨⟨⟨⟨⟨⟨⟨⟨⟨⟨w1, w2⟩, w3⟩, w4⟩, w5⟩, w6⟩, w7⟩, w8⟩, w9⟩, w10⟩, w11⟩ := hw
   have hI2 := impl_Meet X y s3 s2
   have hO := impl_Open X 21 s3
   have hP1 := spec_Paired X Y s3.subs s4.subs
   have hP2 := spec_Paired Y X s4.subs s3.subs
   rw [w4] at hP1
   rw [w5] at hP2
   obtain ⟨M2, hM2⟩ : ∃ M, M = meet X y := ⟨_, rfl⟩
   rw [← hM2] at hI2 w10
   obtain ⟨O2, hO2⟩ : ∃ O, O = openE X 21 := ⟨_, rfl⟩
   rw [← hO2] at hO w11
   clear hM2 hO2 m5
   obtain ⟨X2, Y2, ok2⟩ := M2
   obtain ⟨X3, L3⟩ := O2
   dsimp only at hI2 hO w10 w11
   subst w10
   have sx := s3.subs
   have sy := s4.subs
   have e1 : ((X.subs.length : Int) - 1) = ((X.subs.length - 1 : Nat) : Int) := by omega
   have e2 : ((Y.subs.length : Int) - 1) = ((Y.subs.length - 1 : Nat) : Int) := by omega
   have g1 : (X.subs[X.subs.length - 1]'(by omega)).state = 3 := by
    simp only [lastOn, decide_eq_true_eq] at w8
    rwa [subAtN_eq (by omega)] at w8
   have g2 : (Y.subs[Y.subs.length - 1]'(by omega)).state = 3 := by
    simp only [lastOn, decide_eq_true_eq] at w9
    rwa [subAtN_eq (by omega)] at w9
   try simp (disch := omega) only [go_sem, Nat.reduceEqDiff, Nat.reduceAdd, Nat.reduceSub, Int.reduceAdd, Int.reduceSub, Int.reduceToNat]
   refine den_call (by (try simp (disch := omega) only [go_sem, List.length_set, Nat.reduceEqDiff, Nat.reduceAdd, Nat.reduceSub, Int.reduceAdd, Int.reduceSub, Int.reduceToNat]) <;> omega) (hI2) [some (17, none), some (18, none), some (19, none), some (20, none), some (21, none), some (22, none), some (23, none), some (8, none), some (9, none), some (10, none), some (11, none), some (12, none), some (13, none), some (14, none)] (by simp only [go_sem]; repeat' first | rfl | constructor | (rw [List.map_set]; rfl) | (simp [List.map_take, List.map_drop] <;> omega)) (by rfl) (run_den 400 ?_)
   simp (disch := omega) only [go_sem, Nat.reduceEqDiff, Nat.reduceAdd, Nat.reduceSub, Int.reduceAdd, Int.reduceSub, Int.reduceToNat]
   refine den_call (by (try simp (disch := omega) only [go_sem, List.length_set, Nat.reduceEqDiff, Nat.reduceAdd, Nat.reduceSub, Int.reduceAdd, Int.reduceSub, Int.reduceToNat]) <;> omega) (hO) [some (17, none), some (18, none), some (19, none), some (20, none), some (21, none), some (22, none), some (23, none)] (by simp only [go_sem]; repeat' first | rfl | constructor | (rw [List.map_set]; rfl) | (simp [List.map_take, List.map_drop] <;> omega)) (by rfl) (run_den 400 ?_)
   simp (disch := omega) only [go_sem, Nat.reduceEqDiff, Nat.reduceAdd, Nat.reduceSub, Int.reduceAdd, Int.reduceSub, Int.reduceToNat]
   refine den_call (by (try simp (disch := omega) only [go_sem, List.length_set, Nat.reduceEqDiff, Nat.reduceAdd, Nat.reduceSub, Int.reduceAdd, Int.reduceSub, Int.reduceToNat]) <;> omega) (hX) [some (17, none), some (18, none), some (19, none), some (20, none), some (21, none), some (22, none), some (23, none), some (33, none), some (34, none), some (35, none), some (36, none), some (37, none), some (38, none), some (39, none)] (by simp only [go_sem]; repeat' first | rfl | constructor | (rw [List.map_set]; rfl) | (simp [List.map_take, List.map_drop] <;> omega)) (by rfl) (run_den 400 ?_)
   simp (disch := omega) only [go_sem, Nat.reduceEqDiff, Nat.reduceAdd, Nat.reduceSub, Int.reduceAdd, Int.reduceSub, Int.reduceToNat]
   refine den_call (by (try simp (disch := omega) only [go_sem, List.length_set, Nat.reduceEqDiff, Nat.reduceAdd, Nat.reduceSub, Int.reduceAdd, Int.reduceSub, Int.reduceToNat]) <;> omega) (hY) [some (24, none), some (25, none), some (26, none), some (27, none), some (28, none), some (29, none), some (30, none), some (40, none), some (41, none), some (42, none), some (43, none), some (44, none), some (45, none), some (46, none)] (by simp only [go_sem]; repeat' first | rfl | constructor | (rw [List.map_set]; rfl) | (simp [List.map_take, List.map_drop] <;> omega)) (by rfl) (run_den 400 ?_)
   simp (disch := omega) only [go_sem, Nat.reduceEqDiff, Nat.reduceAdd, Nat.reduceSub, Int.reduceAdd, Int.reduceSub, Int.reduceToNat]
   by_cases w : x.draw = y.draw
   ·try simp (disch := omega) only [go_sem, Nat.reduceEqDiff, Nat.reduceAdd, Nat.reduceSub, Int.reduceAdd, Int.reduceSub, Int.reduceToNat]
    refine den_call (by (try simp (disch := omega) only [go_sem, List.length_set, Nat.reduceEqDiff, Nat.reduceAdd, Nat.reduceSub, Int.reduceAdd, Int.reduceSub, Int.reduceToNat]) <;> omega) (hP1) [some (17, none), some (18, none), some (19, none), some (20, none), some (21, none), some (22, none), some (23, none), some (24, none), some (25, none), some (26, none), some (27, none), some (28, none), some (29, none), some (30, none)] (by simp only [go_sem]; repeat' first | rfl | constructor | (rw [List.map_set]; rfl) | (simp [List.map_take, List.map_drop] <;> omega)) (by rfl) (run_den 400 ?_)
    simp (disch := omega) only [go_sem, Nat.reduceEqDiff, Nat.reduceAdd, Nat.reduceSub, Int.reduceAdd, Int.reduceSub, Int.reduceToNat]
    refine den_call (by (try simp (disch := omega) only [go_sem, List.length_set, Nat.reduceEqDiff, Nat.reduceAdd, Nat.reduceSub, Int.reduceAdd, Int.reduceSub, Int.reduceToNat]) <;> omega) (hP2) [some (24, none), some (25, none), some (26, none), some (27, none), some (28, none), some (29, none), some (30, none), some (17, none), some (18, none), some (19, none), some (20, none), some (21, none), some (22, none), some (23, none)] (by simp only [go_sem]; repeat' first | rfl | constructor | (rw [List.map_set]; rfl) | (simp [List.map_take, List.map_drop] <;> omega)) (by rfl) (run_den 400 ?_)
    simp (disch := omega) only [go_sem, Nat.reduceEqDiff, Nat.reduceAdd, Nat.reduceSub, Int.reduceAdd, Int.reduceSub, Int.reduceToNat]
    try simp (disch := omega) only [go_sem, Nat.reduceEqDiff, Nat.reduceAdd, Nat.reduceSub, Int.reduceAdd, Int.reduceSub, Int.reduceToNat, e1, e2, g1, g2]
    refine den_finO [some (0, none)] (by (try simp (disch := omega) only [go_sem, List.length_set, Nat.reduceEqDiff, Nat.reduceAdd, Nat.reduceSub, Int.reduceAdd, Int.reduceSub, Int.reduceToNat]) <;> omega) _ (by simp only [go_sem]; rfl) (by rfl) (by rfl) ?_
    simp (disch := omega) only [go_sem, Nat.reduceEqDiff, Nat.reduceAdd, Nat.reduceSub, Int.reduceAdd, Int.reduceSub, Int.reduceToNat]
   ·have w3' : ¬ X.key = Y.key := by rcases w3 with h | h; exact absurd h w; exact h
    try simp (disch := omega) only [go_sem, Nat.reduceEqDiff, Nat.reduceAdd, Nat.reduceSub, Int.reduceAdd, Int.reduceSub, Int.reduceToNat]
    refine den_call (by (try simp (disch := omega) only [go_sem, List.length_set, Nat.reduceEqDiff, Nat.reduceAdd, Nat.reduceSub, Int.reduceAdd, Int.reduceSub, Int.reduceToNat]) <;> omega) (hP1) [some (17, none), some (18, none), some (19, none), some (20, none), some (21, none), some (22, none), some (23, none), some (24, none), some (25, none), some (26, none), some (27, none), some (28, none), some (29, none), some (30, none)] (by simp only [go_sem]; repeat' first | rfl | constructor | (rw [List.map_set]; rfl) | (simp [List.map_take, List.map_drop] <;> omega)) (by rfl) (run_den 400 ?_)
    simp (disch := omega) only [go_sem, Nat.reduceEqDiff, Nat.reduceAdd, Nat.reduceSub, Int.reduceAdd, Int.reduceSub, Int.reduceToNat]
    refine den_call (by (try simp (disch := omega) only [go_sem, List.length_set, Nat.reduceEqDiff, Nat.reduceAdd, Nat.reduceSub, Int.reduceAdd, Int.reduceSub, Int.reduceToNat]) <;> omega) (hP2) [some (24, none), some (25, none), some (26, none), some (27, none), some (28, none), some (29, none), some (30, none), some (17, none), some (18, none), some (19, none), some (20, none), some (21, none), some (22, none), some (23, none)] (by simp only [go_sem]; repeat' first | rfl | constructor | (rw [List.map_set]; rfl) | (simp [List.map_take, List.map_drop] <;> omega)) (by rfl) (run_den 400 ?_)
    simp (disch := omega) only [go_sem, Nat.reduceEqDiff, Nat.reduceAdd, Nat.reduceSub, Int.reduceAdd, Int.reduceSub, Int.reduceToNat]
    try simp (disch := omega) only [go_sem, Nat.reduceEqDiff, Nat.reduceAdd, Nat.reduceSub, Int.reduceAdd, Int.reduceSub, Int.reduceToNat, e1, e2, g1, g2]
    refine den_finO [some (0, none)] (by (try simp (disch := omega) only [go_sem, List.length_set, Nat.reduceEqDiff, Nat.reduceAdd, Nat.reduceSub, Int.reduceAdd, Int.reduceSub, Int.reduceToNat]) <;> omega) _ (by simp only [go_sem]; rfl) (by rfl) (by rfl) ?_
    simp (disch := omega) only [go_sem, Nat.reduceEqDiff, Nat.reduceAdd, Nat.reduceSub, Int.reduceAdd, Int.reduceSub, Int.reduceToNat]
  ·have hc : ok = false ∨ (ok = true ∧ x.state ≠ 0) ∨ (ok = true ∧ x.state = 0 ∧ y.state ≠ 0) := by
    cases ok with
    | false => exact .inl rfl
    | true =>
     by_cases c2 : x.state = 0
     ·exact .inr (.inr ⟨rfl, c2, fun c3 => c ⟨rfl, c2, c3⟩⟩)
     ·exact .inr (.inl ⟨rfl, c2⟩)
   clear c m5
   rcases hc with c1 | ⟨c1, c2⟩ | ⟨c1, c2, c3⟩
   all_goals
    subst c1
    try simp (disch := omega) only [go_sem, Nat.reduceEqDiff, Nat.reduceAdd, Nat.reduceSub, Int.reduceAdd, Int.reduceSub, Int.reduceToNat]
    refine den_call (by (try simp (disch := omega) only [go_sem, List.length_set, Nat.reduceEqDiff, Nat.reduceAdd, Nat.reduceSub, Int.reduceAdd, Int.reduceSub, Int.reduceToNat]) <;> omega) (hX) [some (17, none), some (18, none), some (19, none), some (20, none), some (21, none), some (22, none), some (23, none), some (33, none), some (34, none), some (35, none), some (36, none), some (37, none), some (38, none), some (39, none)] (by simp only [go_sem]; repeat' first | rfl | constructor | (rw [List.map_set]; rfl) | (simp [List.map_take, List.map_drop] <;> omega)) (by rfl) (run_den 400 ?_)
    simp (disch := omega) only [go_sem, Nat.reduceEqDiff, Nat.reduceAdd, Nat.reduceSub, Int.reduceAdd, Int.reduceSub, Int.reduceToNat]
    refine den_call (by (try simp (disch := omega) only [go_sem, List.length_set, Nat.reduceEqDiff, Nat.reduceAdd, Nat.reduceSub, Int.reduceAdd, Int.reduceSub, Int.reduceToNat]) <;> omega) (hY) [some (24, none), some (25, none), some (26, none), some (27, none), some (28, none), some (29, none), some (30, none), some (40, none), some (41, none), some (42, none), some (43, none), some (44, none), some (45, none), some (46, none)] (by simp only [go_sem]; repeat' first | rfl | constructor | (rw [List.map_set]; rfl) | (simp [List.map_take, List.map_drop] <;> omega)) (by rfl) (run_den 400 ?_)
    simp (disch := omega) only [go_sem, Nat.reduceEqDiff, Nat.reduceAdd, Nat.reduceSub, Int.reduceAdd, Int.reduceSub, Int.reduceToNat]
    refine den_finO [some (0, none)] (by (try simp (disch := omega) only [go_sem, List.length_set, Nat.reduceEqDiff, Nat.reduceAdd, Nat.reduceSub, Int.reduceAdd, Int.reduceSub, Int.reduceToNat]) <;> omega) _ (by simp only [go_sem]; rfl) (by rfl) (by rfl) ?_
    simp (disch := omega) only [go_sem, Nat.reduceEqDiff, Nat.reduceAdd, Nat.reduceSub, Int.reduceAdd, Int.reduceSub, Int.reduceToNat]
end
section
open Go.RowKit

def roHp : Hp → Bool
 | [] => true
 | some ob :: h => !ob.own && roHp h
 | none :: h => roHp h
theorem roHp_get : ∀ {h : Hp} {o : Nat} {ob : AObj}, roHp h = true → h[o]? = some (some ob) → ob.own = false
 | some x :: h, 0, ob, hr, ho => by
  simp only [roHp, Bool.and_eq_true, Bool.not_eq_true'] at hr
  simp at ho
  subst ho
  exact hr.1
 | some x :: h, o + 1, ob, hr, ho => by
  simp only [roHp, Bool.and_eq_true] at hr
  exact roHp_get hr.2 (by simpa using ho)
 | none :: h, 0, ob, hr, ho => by simp at ho
 | none :: h, o + 1, ob, hr, ho => roHp_get (h := h) hr (by simpa using ho)
 | [], o, ob, _, ho => by simp at ho
theorem roL_ro {β : Be} {w : World} : ∀ {l : Be} {h : Hp}, RoL β w l h → roHp h = true
 | [], [], _ => rfl
 | p :: l, some ob :: h, hr => by
  have := roL_ro hr.2
  simp [roHp, hr.1.1, this]
 | [], _ :: _, h => h.elim
 | _ :: _, [], h => h.elim
 | _ :: _, none :: _, h => h.elim
theorem callA_ro {P : Program} {f : FuncId} {args : List AV} {b : Bool} {h h' : Hp} (ct : CallA P f args h (.sc (.bo b)) h') {β : Be} {w : World} (hr : RoL β w β h) {vs : List Value} (hvs : L2 (AVR β) args vs) :
  Calls P f vs.toArray w fun e w' => e = .returned (.bool b) ∧ Below w.heap.size w w' :=
 (ct.2 β w vs (hsim_roL hr) hvs).mono fun e w' ⟨β', v, he, hv, hh, hst⟩ => by
  have hv' : v = .bool b := hv
  subst hv'
  exact ⟨he, ⟨hst.os, hst.tape, hst.output, hst.size, fun k hk => hst.block k hk fun ⟨o, ob, p, ho, hown, hp, _⟩ => by
   rw [roHp_get (roL_ro hr) ho] at hown
   cases hown⟩⟩
end
section
open Go

def rkOf (R : Nat) (g : Nat) : Nat := (R >>> (10 * g)) % 1024
def okH (P : Program) (R lo hi : Nat) (g : Nat) : Bool :=
 match P.funcs[g]? with
 | none => true
 | some fn => ((P.leadsTo fn).all fun h => Nat.blt (rkOf R h) (rkOf R g) && (Nat.ble lo h && Nat.blt h hi)) && (!(fn.ours || fn.body.isNone || fn.name == "runtime.NumGoroutine") && (match fn.body with | some c => !c.unfollowed && c.globalsNamed.isEmpty | none => false))
def okG (P : Program) (R lo hi : Nat) (g : Nat) : Bool := Nat.ble 1000 (rkOf R g) || okH P R lo hi g
theorem okG_okH {P : Program} {R lo hi g : Nat} (h : okG P R lo hi g = true) (hr : rkOf R g < 1000) : okH P R lo hi g = true := by
 unfold okG at h
 rw [Bool.or_eq_true, Nat.ble_eq] at h
 exact h.resolve_left (by omega)
theorem closureVia_sub {P : Program} {S : FuncId → Prop} (hS : ∀ g, S g → ∀ h ∈ (P.funcs[g]?).elim [] P.leadsTo, S h) : ∀ (n : Nat) (todo seen : List FuncId), (∀ x ∈ todo, S x) → (∀ x ∈ seen, S x) → ∀ x ∈ P.closureVia n todo seen, S x
 | 0, todo, seen, _, hs, x, hx => by
  unfold Program.closureVia at hx
  exact hs x (List.mem_reverse.1 hx)
 | n + 1, [], seen, _, hs, x, hx => by
  unfold Program.closureVia at hx
  exact hs x (List.mem_reverse.1 hx)
 | n + 1, f :: todo, seen, ht, hs, x, hx => by
  unfold Program.closureVia at hx
  split at hx
  ·exact closureVia_sub hS n todo seen (fun y hy => ht y (List.mem_cons_of_mem _ hy)) hs x hx
  ·refine closureVia_sub hS n _ (f :: seen) (fun y hy => ?_) (fun y hy => ?_) x hx
   ·rcases List.mem_append.1 hy with hy | hy
    ·exact hS f (ht f (List.mem_cons_self ..)) y hy
    ·exact ht y (List.mem_cons_of_mem _ hy)
   ·rcases List.mem_cons.1 hy with rfl | hy
    ·exact ht y (List.mem_cons_self ..)
    ·exact hs y hy
theorem closure_sub {P : Program} {S : FuncId → Prop} (hS : ∀ g, S g → ∀ h ∈ (P.funcs[g]?).elim [] P.leadsTo, S h) {f : FuncId} (hf : S f) : ∀ x ∈ P.closure f, S x :=
 closureVia_sub hS _ [f] [] (fun x hx => by rw [List.mem_singleton.1 hx]; exact hf) (fun x hx => by cases hx)
theorem rk_lt {P : Program} {R lo hi : Nat} (h : ∀ g, lo ≤ g ∧ g < hi → okG P R lo hi g = true) {g k : FuncId} (hb : lo ≤ g ∧ g < hi) (hr : rkOf R g < 1000) (hk : k ∈ (P.funcs[g]?).elim [] P.leadsTo) : rkOf R k < rkOf R g ∧ lo ≤ k ∧ k < hi := by
 have hg := okG_okH (h g hb) hr
 unfold okH at hg
 cases hf : P.funcs[g]? with
 | none => rw [hf] at hk; simp at hk
 | some fn =>
  rw [hf] at hg hk
  simp only [Bool.and_eq_true, List.all_eq_true, Nat.blt_eq, Nat.ble_eq] at hg
  exact hg.1 k hk
theorem graph_facts {P : Program} {R lo hi : Nat} (h : ∀ g, lo ≤ g ∧ g < hi → okG P R lo hi g = true) (f : FuncId) (hf0 : (lo ≤ f ∧ f < hi) ∧ rkOf R f < 1000) : P.inPlace f = [] ∧ P.unfollowed f = false ∧ P.recurses f = false ∧ P.varsNamed f = [] := by
 have hin : ∀ k, (lo ≤ k ∧ k < hi) ∧ rkOf R k < 1000 → ∀ x ∈ P.closure k, (lo ≤ x ∧ x < hi) ∧ rkOf R x < 1000 := fun k hk => closure_sub (S := fun x => (lo ≤ x ∧ x < hi) ∧ rkOf R x < 1000) (fun a ha b hb => ⟨(rk_lt h ha.1 ha.2 hb).2, Nat.lt_trans (rk_lt h ha.1 ha.2 hb).1 ha.2⟩) hk
 have hu : P.unfollowed f = false := by
  unfold Program.unfollowed
  rw [List.any_eq_false]
  intro g hgc
  have hg := okG_okH (h g (hin f hf0 g hgc).1) (hin f hf0 g hgc).2
  unfold okH at hg
  cases hf : P.funcs[g]? with
  | none => simp
  | some fn =>
   rw [hf] at hg
   simp only [Bool.and_eq_true] at hg
   simp only [Option.any_some]
   cases hb : fn.body with
   | none => rw [hb] at hg; simp at hg
   | some c => rw [hb] at hg; simp at hg ⊢; exact hg.2.2.1
 refine ⟨?_, hu, ?_, ?_⟩
 ·unfold Program.inPlace
  rw [List.filterMap_eq_nil_iff]
  intro g hgc
  have hg := okG_okH (h g (hin f hf0 g hgc).1) (hin f hf0 g hgc).2
  unfold okH at hg
  cases hf : P.funcs[g]? with
  | none => rfl
  | some fn =>
   rw [hf] at hg
   simp only [Bool.and_eq_true, Bool.not_eq_true'] at hg
   simp only [Option.bind_some]
   rw [hg.2.1]
   rfl
 ·unfold Program.recurses
  rw [hu, Bool.false_or, List.any_eq_false]
  intro g hgc
  rw [Bool.not_eq_true, List.any_eq_false]
  intro k hk
  rw [Bool.not_eq_true]
  obtain ⟨h1, hkb⟩ := rk_lt h (hin f hf0 g hgc).1 (hin f hf0 g hgc).2 hk
  have hkr : rkOf R k < 1000 := Nat.lt_trans h1 (hin f hf0 g hgc).2
  have h2 : ∀ x ∈ P.closure k, rkOf R x ≤ rkOf R k ∧ lo ≤ x ∧ x < hi := closure_sub (S := fun x => rkOf R x ≤ rkOf R k ∧ lo ≤ x ∧ x < hi) (fun a ha b hb => ⟨Nat.le_trans (Nat.le_of_lt (rk_lt h ha.2 (by omega) hb).1) ha.1, (rk_lt h ha.2 (by omega) hb).2⟩) ⟨Nat.le_refl _, hkb⟩
  cases hc : (P.closure k).contains g with
  | false => rfl
  | true =>
   have := (h2 g (List.contains_iff_mem.1 hc)).1
   omega
 ·unfold Program.varsNamed
  have e1 : ((P.closure f).flatMap fun g => ((P.funcs[g]?).bind (·.body)).elim [] Code.globalsNamed) = [] := by
   rw [List.flatMap_eq_nil_iff]
   intro g hgc
   have hg := okG_okH (h g (hin f hf0 g hgc).1) (hin f hf0 g hgc).2
   unfold okH at hg
   cases hf : P.funcs[g]? with
   | none => rfl
   | some fn =>
    rw [hf] at hg
    simp only [Bool.and_eq_true] at hg
    simp only [Option.bind_some]
    cases hb : fn.body with
    | none => rfl
    | some c => rw [hb] at hg; simp at hg ⊢; exact hg.2.2.2
  have e2 : ((P.closure f).filterMap fun g => (P.funcs[g]?).bind fun fn => if fn.body.isNone then entryReads.lookup fn.name else none) = [] := by
   rw [List.filterMap_eq_nil_iff]
   intro g hgc
   have hg := okG_okH (h g (hin f hf0 g hgc).1) (hin f hf0 g hgc).2
   unfold okH at hg
   cases hf : P.funcs[g]? with
   | none => rfl
   | some fn =>
    rw [hf] at hg
    simp only [Bool.and_eq_true] at hg
    simp only [Option.bind_some]
    cases hb : fn.body with
    | none => rw [hb] at hg; simp at hg
    | some c => rfl
  rw [e1, e2]
  rfl
def chs (l : List Nat) : List Char := l.map Char.ofNat
theorem chs_app (a b : List Nat) : chs (a ++ b) = chs a ++ chs b := by simp [chs]
theorem chs_cons (a : Nat) (b : List Nat) : chs (a :: b) = Char.ofNat a :: chs b := rfl
theorem wordsSigns_cons {c : Char} (h : c ≠ Char.ofNat 32) (r : List Char) : wordsSigns (c :: r) = match wordsSigns r with
  | w :: ws => (c :: w) :: ws
  | [] => [[c]] := by
 conv => lhs; unfold wordsSigns
 split
 ·rename_i e
  simp at e
 ·rename_i r' e
  obtain ⟨e1, _⟩ := List.cons.inj e
  exact absurd e1 h
 ·rename_i c' r' _ e
  obtain ⟨e1, e2⟩ := List.cons.inj e
  subst e1; subst e2
  rfl
theorem wordsSigns_word : ∀ {w : List Char} (r : List Char), (∀ c ∈ w, c ≠ Char.ofNat 32) → wordsSigns (w ++ Char.ofNat 32 :: r) = w :: wordsSigns r
 | [], r, _ => by
  show wordsSigns (Char.ofNat 32 :: r) = [] :: wordsSigns r
  conv => lhs; unfold wordsSigns
  rfl
 | c :: w, r, h => by
  rw [List.cons_append, wordsSigns_cons (h c (List.mem_cons_self ..)), wordsSigns_word r (fun x hx => h x (List.mem_cons_of_mem _ hx))]
def noBlank (l : List Nat) : Bool := (chs l).all fun c => c != Char.ofNat 32
theorem noBlank_mem {l : List Nat} (h : noBlank l = true) : ∀ c ∈ chs l, c ≠ Char.ofNat 32 := by
 intro c hc
 have := List.all_eq_true.1 h c hc
 simpa using this
theorem head_words {P : Program} {a b c r : List Nat} (h : P.initOrder = String.ofList (chs (a ++ 32 :: (b ++ 32 :: (c ++ 32 :: r))))) (ha : noBlank a = true) (hb : noBlank b = true) (hc : noBlank c = true)
  (hm : ((chs a == "harness".toList || chs a == "ownmain".toList) && isSumSigns (chs b)) = true) : ∃ rest, behindMainWord (wordsSigns P.initOrder.toList) = chs c :: rest := by
 refine ⟨wordsSigns (chs r), ?_⟩
 rw [h, String.toList_ofList, chs_app, chs_cons, chs_app, chs_cons, chs_app, chs_cons, wordsSigns_word _ (noBlank_mem ha), wordsSigns_word _ (noBlank_mem hb), wordsSigns_word _ (noBlank_mem hc)]
 exact if_pos hm
def cutN : List Nat := [99, 117, 116]
theorem make_cut {P : Program} {rest : List (List Char)} (h : behindMainWord (wordsSigns P.initOrder.toList) = chs cutN :: rest) : P.make = some .cut := by
 unfold Program.make
 rw [h]
 rfl
theorem final_cut {P : Program} {rest : List (List Char)} (h : behindMainWord (wordsSigns P.initOrder.toList) = chs cutN :: rest) : P.liftsFinal = false := by
 unfold Program.liftsFinal Program.headLifts
 rw [h]
 rfl
theorem may_cut {P : Program} {rest : List (List Char)} (h : behindMainWord (wordsSigns P.initOrder.toList) = chs cutN :: rest) (l1 : P.laysLater = false) (l2 : P.bearsReflect = false) (l3 : P.doorRows = []) : P.mayEnter = true := by
 have l4 : P.doorFits [] = true := by
  unfold Program.doorFits
  rw [l3]
  rfl
 unfold Program.mayEnter
 rw [h]
 show ((_ || _) || _) = true
 have e : stripLifts liftWords (chs cutN :: rest) = ([], chs cutN :: rest) := rfl
 rw [e, l1, l2, l4]
 simp only [List.contains_nil, Bool.and_true, Bool.not_false, Bool.or_true, List.head?_cons]
 rw [show (some (chs cutN) == some "cut".toList) = true from by kernel_rfl]
 simp
def restFacts (P : Program) (f : FuncId) (fn : Func) (s : ChangeSpec) (c : OpenClaim) : Bool :=
 c.wf (OpenSpec.ofChange s) && laidOutB P && mapsRowed P &&
 fn.params.all (P.readableRec ·) && namedTie P c.named s.vars &&
 (c.stops == []) && (P.stops == []) && (c.knobs == []) && (P.stopKnobs == []) &&
 (c.maps == (fn.params.toList ++ s.plain.varTypes P).any (P.mapsRec ·)) && (c.ifaces == (fn.params.toList ++ s.plain.varTypes P).any (P.ifacesRec ·)) && (c.mapsOut == P.mapsAmong fn.resultTypes.toList) &&
 (c.loops == (fn.params.toList ++ s.plain.varTypes P).any (P.loopsFrom ·)) && (c.wideKeys == (fn.params.toList ++ s.plain.varTypes P ++ fn.resultTypes.toList).any (P.wideKeysFrom ·)) &&
 s.vars.all (P.varReadable ·) && fn.resultTypes.all (fun t => P.readableRec t && decide (t < P.types.size)) && (c.ifacesOut == fn.resultTypes.toList.any (P.ifacesRec ·)) && (c.loopsOut == fn.resultTypes.toList.any (P.loopsFrom ·)) && (c.plainKeys == P.plainKeys) && c.shortTexts.isNone && P.stopsHeard && (c.kinds == (if c.domain.isEmpty then [] else fn.params.toList.map fun t => match P.underlying t with | some (.int k) => some k | _ => none)) && (c.pinned == c.pinnedBy) &&
 (c.veiled == (fn.params.toList ++ s.plain.varTypes P ++ fn.resultTypes.toList).any (P.veiledRec ·)) && c.veiledFits P fn.params.toList (fn.params.toList ++ s.plain.varTypes P ++ fn.resultTypes.toList)
theorem joined_of {P : Program} {f : FuncId} {fn : Func} {s : ChangeSpec} {c : OpenClaim} (g : P.inPlace f = [] ∧ P.unfollowed f = false ∧ P.recurses f = false ∧ P.varsNamed f = []) (c1 : c.inPlace = []) (c2 : c.unfollowed = false) (c3 : c.recurses = false) (c4 : c.named = [])
  (m1 : P.mayEnter = true) (m2 : P.liftsFinal = false) (m3 : P.make = some .cut) (d2 : c.lifted = false) (d3 : c.make = .cut) (h : restFacts P f fn s c = true) : joinedFacts P f fn s c = true := by
 obtain ⟨g1, g2, g3, g4⟩ := g
 unfold restFacts at h
 unfold joinedFacts
 simp only [Bool.and_eq_true] at h ⊢
 obtain ⟨⟨⟨⟨⟨⟨⟨⟨⟨⟨⟨⟨⟨⟨⟨⟨⟨⟨⟨⟨⟨⟨⟨⟨k1, k2⟩, k3⟩, k4⟩, k5⟩, k6⟩, k7⟩, k8⟩, k9⟩, k14⟩, k15⟩, k16⟩, k17⟩, k17b⟩, k18⟩, k19⟩, k20⟩, k21⟩, k22⟩, k23⟩, k23b⟩, k25⟩, k26⟩, k27⟩, k28⟩ := h
 refine ⟨⟨⟨⟨⟨⟨⟨⟨⟨⟨⟨⟨⟨⟨⟨⟨⟨⟨⟨⟨⟨⟨⟨⟨⟨⟨⟨⟨⟨⟨⟨k1, k2⟩, k3⟩, k4⟩, k5⟩, k6⟩, k7⟩, k8⟩, k9⟩, ?_⟩, ?_⟩, ?_⟩, ?_⟩, k14⟩, k15⟩, k16⟩, k17⟩, k17b⟩, k18⟩, k19⟩, k20⟩, k21⟩, k22⟩, k23⟩, k23b⟩, m1⟩, ?_⟩, ?_⟩, k25⟩, k26⟩, k27⟩, k28⟩
 ·rw [c1, g1]; rfl
 ·rw [c2, g2]; rfl
 ·rw [c3, g3]; rfl
 ·rw [c4, g4]; rfl
 ·rw [d2, m2]; rfl
 ·rw [d3, m3]; exact beq_self_eq_true _
end
section
open Go

def rkN : Nat := 11516482628185409123064295697316669104827736001169404061653483674245521643795042254590766151405770530730790857437428038885288166507573823980868185688225540643499852290596894745201726002000558441767010056066956527278316549635577040434052519077909823526586132516490383339505173104283265589113174396728476874833920
theorem okG_0 : (List.range' 3 16).all (okG Try.prog rkN 3 88) = true := by kernel_rfl
theorem okG_1 : (List.range' 19 16).all (okG Try.prog rkN 3 88) = true := by kernel_rfl
theorem okG_2 : (List.range' 35 16).all (okG Try.prog rkN 3 88) = true := by kernel_rfl
theorem okG_3 : (List.range' 51 16).all (okG Try.prog rkN 3 88) = true := by kernel_rfl
theorem okG_4 : (List.range' 67 16).all (okG Try.prog rkN 3 88) = true := by kernel_rfl
theorem okG_5 : (List.range' 83 5).all (okG Try.prog rkN 3 88) = true := by kernel_rfl
theorem okG_all (g : Nat) (h : 3 ≤ g ∧ g < 88) : okG Try.prog rkN 3 88 g = true := by
 rcases (by omega : (3 ≤ g ∧ g < 19) ∨ (19 ≤ g ∧ g < 35) ∨ (35 ≤ g ∧ g < 51) ∨ (51 ≤ g ∧ g < 67) ∨ (67 ≤ g ∧ g < 83) ∨ (83 ≤ g ∧ g < 88)) with h | h | h | h | h | h
 ·exact List.all_eq_true.1 okG_0 g (List.mem_range'_1.2 h)
 ·exact List.all_eq_true.1 okG_1 g (List.mem_range'_1.2 h)
 ·exact List.all_eq_true.1 okG_2 g (List.mem_range'_1.2 h)
 ·exact List.all_eq_true.1 okG_3 g (List.mem_range'_1.2 h)
 ·exact List.all_eq_true.1 okG_4 g (List.mem_range'_1.2 h)
 ·exact List.all_eq_true.1 okG_5 g (List.mem_range'_1.2 h)
theorem init_head : ∃ rest, behindMainWord (wordsSigns Try.prog.initOrder.toList) = chs cutN :: rest :=
 head_words (a := [104, 97, 114, 110, 101, 115, 115]) (b := [97, 50, 101, 51, 57, 49, 52, 99, 51, 52, 51, 50, 57, 57, 56, 98, 99, 98, 97, 50, 98, 55, 50, 51, 51, 51, 52, 57, 57, 54, 57, 54, 53, 99, 98, 100, 102, 97, 49, 97, 52, 51, 55, 52, 97, 54, 51, 52, 97, 98, 54, 52, 55, 99, 55, 51, 56, 54, 52, 57, 99, 51, 51, 57]) (c := cutN) (r := [97, 116, 32, 108, 111, 111, 112, 46, 101, 120, 97, 109, 112, 108, 101, 47, 103, 48, 48, 57, 54, 55, 47, 108, 97, 119, 115, 46, 70, 110, 77, 101, 101, 116, 115]) (by kernel_rfl) (by kernel_rfl) (by kernel_rfl) (by kernel_rfl) (by kernel_rfl)
theorem own_l1 : Try.prog.laysLater = false := by kernel_rfl
theorem own_l2 : Try.prog.bearsReflect = false := by kernel_rfl
theorem own_l3 : Try.prog.doorRows = [] := by kernel_rfl
theorem own_may : Try.prog.mayEnter = true := init_head.elim fun _ h => may_cut h own_l1 own_l2 own_l3
theorem own_final : Try.prog.liftsFinal = false := init_head.elim fun _ h => final_cut h
theorem own_make : Try.prog.make = some .cut := init_head.elim fun _ h => make_cut h
theorem own_graph (f : Nat) (h : ((Nat.ble 3 f && Nat.blt f 88) && Nat.blt (rkOf rkN f) 1000) = true) : Try.prog.inPlace f = [] ∧ Try.prog.unfollowed f = false ∧ Try.prog.recurses f = false ∧ Try.prog.varsNamed f = [] :=
 graph_facts okG_all f (by simpa only [Bool.and_eq_true, Nat.ble_eq, Nat.blt_eq] using h)
end
end Go.Proofs.Ytfakgekanapbnaa
