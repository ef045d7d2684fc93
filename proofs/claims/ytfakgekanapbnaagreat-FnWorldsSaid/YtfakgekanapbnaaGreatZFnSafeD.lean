/-
  Texts merged for this claim by shake.py: what its proof needs.
-/
import Derived.Tactics
import Derived.Below
import Derived.Laws.AppendOwn
import Derived.Laws.OwnMore
import Derived.Laws.Slices
import Derived.Laws.Small
import Derived.Laws.Strings
import Derived.KernelRfl
import Derived.Laws.MakeOwn
import Derived.Laws.BytesString
import Derived.Laws.BytesArg
import Derived.Laws.Build
import Derived.Laws.Concat
import Derived.Laws.StructEq
import Derived.Lib.ConvBytes
import Derived.Orders
import Derived.WalkKit
import Derived.ProofKit
import Derived.ShutString
import Derived.OpenShut
import Derived.ChangeOld
import Derived.Carry
import Derived.Test.YtfakgekanapbnaaGreatChecked
import Derived.Laws.BitsLemmas
import Derived.JoinedOf
import Derived.Test.YtfakgekanapbnaaGreatRows
import Derived.Test.YtfakgekanapbnaaGreatZFnSafeC
set_option maxHeartbeats 16000000
set_option maxRecDepth 100000
set_option linter.unusedVariables false
set_option linter.unusedSimpArgs false
namespace Go.Proofs.YtfakgekanapbnaaGreat
section
open Go.RowKit

theorem spec_Came (o : OutD) (n : Int) : CallA Tryz.prog 163 [.ag o.cs, .sc (.int .i64 n)] [] (.ag (came o n).cs) [] := by
 obtain ⟨R, hR⟩ : ∃ R, R = came o n := ⟨_, rfl⟩
 rw [← hR]
 refine callA_of Tryz.func163 (by kernel_rfl) rfl fun E hE => run_den 400 ?_
 simp (disch := omega) only [Tryz.ntmps163, Tryz.results163, go_sem, Nat.reduceEqDiff, Nat.reduceAdd, Nat.reduceSub, Int.reduceAdd, Int.reduceSub, Int.reduceToNat]
 refine den_call (by (try simp (disch := omega) only [go_sem, List.length_set, Nat.reduceEqDiff, Nat.reduceAdd, Nat.reduceSub, Int.reduceAdd, Int.reduceSub, Int.reduceToNat]) <;> omega) (spec_OutOk o) [] (by simp only [go_sem]; repeat' first | rfl | constructor | (rw [List.map_set]; rfl) | (simp [List.map_take, List.map_drop] <;> omega)) (by rfl) (run_den 400 ?_)
 simp (disch := omega) only [go_sem, Nat.reduceEqDiff, Nat.reduceAdd, Nat.reduceSub, Int.reduceAdd, Int.reduceSub, Int.reduceToNat]
 split <;> rename_i h1 <;> (try simp only [beq_true, beq_false, Bool.not_eq_true', Bool.not_eq_false'] at h1) <;> simp (disch := omega) only [go_sem, Nat.reduceEqDiff, Nat.reduceAdd, Nat.reduceSub, Int.reduceAdd, Int.reduceSub, Int.reduceToNat, h1] <;> (try simp only [decide_eq_true_eq, decide_eq_false_iff_not, beq_iff_eq, beq_eq_false_iff_ne, bne_iff_ne, bne_eq_false_iff_eq, ne_eq, Decidable.not_not, Bool.and_eq_true, Bool.and_eq_false_iff, Bool.or_eq_true, Bool.or_eq_false_iff, Int.ofNat_lt, Int.ofNat_le, Bool.not_eq_eq_eq_not, Bool.not_true, Bool.not_false] at h1) <;> try simp (disch := omega) only [go_sem, Nat.reduceEqDiff, Nat.reduceAdd, Nat.reduceSub, Int.reduceAdd, Int.reduceSub, Int.reduceToNat]
 ·have h1' := h1
  simp only [outOk, isN, inR, Bool.and_eq_true, decide_eq_true_eq] at h1'
  obtain ⟨⟨⟨⟨b0, b1⟩, r0, r1⟩, t0⟩, s0, s1⟩ := h1'
  rw [w64 (by omega)] at s1
  split <;> rename_i h2 <;> (try simp only [beq_true, beq_false, Bool.not_eq_true', Bool.not_eq_false'] at h2) <;> simp (disch := omega) only [go_sem, Nat.reduceEqDiff, Nat.reduceAdd, Nat.reduceSub, Int.reduceAdd, Int.reduceSub, Int.reduceToNat, h2] <;> (try simp only [decide_eq_true_eq, decide_eq_false_iff_not, beq_iff_eq, beq_eq_false_iff_ne, bne_iff_ne, bne_eq_false_iff_eq, ne_eq, Decidable.not_not, Bool.and_eq_true, Bool.and_eq_false_iff, Bool.or_eq_true, Bool.or_eq_false_iff, Int.ofNat_lt, Int.ofNat_le, Bool.not_eq_eq_eq_not, Bool.not_true, Bool.not_false] at h2) <;> try simp (disch := omega) only [go_sem, Nat.reduceEqDiff, Nat.reduceAdd, Nat.reduceSub, Int.reduceAdd, Int.reduceSub, Int.reduceToNat]
  ·split <;> rename_i h3 <;> (try simp only [beq_true, beq_false, Bool.not_eq_true', Bool.not_eq_false'] at h3) <;> simp (disch := omega) only [go_sem, Nat.reduceEqDiff, Nat.reduceAdd, Nat.reduceSub, Int.reduceAdd, Int.reduceSub, Int.reduceToNat, h3] <;> (try simp only [decide_eq_true_eq, decide_eq_false_iff_not, beq_iff_eq, beq_eq_false_iff_ne, bne_iff_ne, bne_eq_false_iff_eq, ne_eq, Decidable.not_not, Bool.and_eq_true, Bool.and_eq_false_iff, Bool.or_eq_true, Bool.or_eq_false_iff, Int.ofNat_lt, Int.ofNat_le, Bool.not_eq_eq_eq_not, Bool.not_true, Bool.not_false] at h3) <;> try simp (disch := omega) only [go_sem, Nat.reduceEqDiff, Nat.reduceAdd, Nat.reduceSub, Int.reduceAdd, Int.reduceSub, Int.reduceToNat]
   ·rw [came, if_neg (by rw [w64 (by omega)]; omega)] at hR
    subst hR
    refine den_fin [] (by (try simp (disch := omega) only [go_sem, List.length_set, Nat.reduceEqDiff, Nat.reduceAdd, Nat.reduceSub, Int.reduceAdd, Int.reduceSub, Int.reduceToNat]) <;> omega) _ (by simp only [go_sem]; rfl) (by rfl) (by rfl) ?_
    simp (disch := omega) only [go_sem, Nat.reduceEqDiff, Nat.reduceAdd, Nat.reduceSub, Int.reduceAdd, Int.reduceSub, Int.reduceToNat]
   ·rw [came, if_pos ⟨h1, by omega, by rw [w64 (by omega)]; omega⟩] at hR
    subst hR
    by_cases h4 : o.sent < n
    ·try simp (disch := omega) only [go_sem, Nat.reduceEqDiff, Nat.reduceAdd, Nat.reduceSub, Int.reduceAdd, Int.reduceSub, Int.reduceToNat, h4]
     refine den_fin [] (by (try simp (disch := omega) only [go_sem, List.length_set, Nat.reduceEqDiff, Nat.reduceAdd, Nat.reduceSub, Int.reduceAdd, Int.reduceSub, Int.reduceToNat]) <;> omega) _ (by simp only [go_sem]; rfl) (by rfl) (by rfl) ?_
     simp (disch := omega) only [go_sem, Nat.reduceEqDiff, Nat.reduceAdd, Nat.reduceSub, Int.reduceAdd, Int.reduceSub, Int.reduceToNat]
     all_goals (try simp only [h4, if_true, if_false, go_sem])
     all_goals (repeat' first | rfl | constructor)
     try simp
    ·try simp (disch := omega) only [go_sem, Nat.reduceEqDiff, Nat.reduceAdd, Nat.reduceSub, Int.reduceAdd, Int.reduceSub, Int.reduceToNat, h4]
     refine den_fin [] (by (try simp (disch := omega) only [go_sem, List.length_set, Nat.reduceEqDiff, Nat.reduceAdd, Nat.reduceSub, Int.reduceAdd, Int.reduceSub, Int.reduceToNat]) <;> omega) _ (by simp only [go_sem]; rfl) (by rfl) (by rfl) ?_
     simp (disch := omega) only [go_sem, Nat.reduceEqDiff, Nat.reduceAdd, Nat.reduceSub, Int.reduceAdd, Int.reduceSub, Int.reduceToNat]
     all_goals (try simp only [h4, if_true, if_false, go_sem])
     all_goals (repeat' first | rfl | constructor)
     try simp
  ·rw [came, if_neg (by omega)] at hR
   subst hR
   refine den_fin [] (by (try simp (disch := omega) only [go_sem, List.length_set, Nat.reduceEqDiff, Nat.reduceAdd, Nat.reduceSub, Int.reduceAdd, Int.reduceSub, Int.reduceToNat]) <;> omega) _ (by simp only [go_sem]; rfl) (by rfl) (by rfl) ?_
   simp (disch := omega) only [go_sem, Nat.reduceEqDiff, Nat.reduceAdd, Nat.reduceSub, Int.reduceAdd, Int.reduceSub, Int.reduceToNat]
 ·rw [came, if_neg (by simp [h1])] at hR
  subst hR
  refine den_fin [] (by (try simp (disch := omega) only [go_sem, List.length_set, Nat.reduceEqDiff, Nat.reduceAdd, Nat.reduceSub, Int.reduceAdd, Int.reduceSub, Int.reduceToNat]) <;> omega) _ (by simp only [go_sem]; rfl) (by rfl) (by rfl) ?_
  simp (disch := omega) only [go_sem, Nat.reduceEqDiff, Nat.reduceAdd, Nat.reduceSub, Int.reduceAdd, Int.reduceSub, Int.reduceToNat]

theorem spec_l20On (e : EndD) (x : LetterD) (hs : Small e) : CallA Tryz.prog 227 [.ag (e.cs 0), .ag x.cs] (e.hp false) (.sc (.int .i64 (onAt e x))) (e.hp false) := by
 have hK := spec_EndOk e (by have := hs.own; omega) (by have := hs.far; omega) (by have := hs.subs; omega) (by have := hs.halfs; omega) (by have := hs.list; omega) (by have := hs.done; omega) (by have := hs.over; omega)
 have hS := spec_SignedOn e x (by have := hs.subs; omega)
 obtain ⟨R, hR⟩ : ∃ R, R = onAt e x := ⟨_, rfl⟩
 rw [← hR]
 rw [onAt] at hR
 refine qE Tryz.func227 Tryz.ntmps227 Tryz.results227 fun E hE => ?_
 refine qK (hK) (qA [0, 1, 2, 3, 4, 5, 6]) ?_
 refine qB (fun h1 => ?_) fun h1 => ?_
 ·refine qK (spec_LetterOk x) [] ?_
  refine qB (fun h2 => ?_) fun h2 => ?_
  ·rw [if_neg (by simp [h1, h2])] at hR
   refine qJ (qA [0, 1, 2, 3, 4, 5, 6]) ?_
   exact hR.symm
  ·rw [if_pos (by simp [h1, h2])] at hR
   refine qK (hS) (qA [0, 1, 2, 3, 4, 5, 6]) ?_
   refine qJ (qA [0, 1, 2, 3, 4, 5, 6]) ?_
   exact hR.symm
 ·rw [if_neg (by simp [h1])] at hR
  refine qJ (qA [0, 1, 2, 3, 4, 5, 6]) ?_
  exact hR.symm
theorem spec_HearReset (e : EndD) (x : LetterD) (hs : Small e) : CallA Tryz.prog 219 [.ag (e.cs 0), .ag x.cs] (e.hp false) (.tu [.ag ((hearReset e x).1.cs 7), .sc (.sl 14 0 (hearReset e x).2.length)])
  (e.hp false ++ ((hearReset e x).1.hp true ++ [some ⟨(hearReset e x).2.map LetterD.cs, 19, 67, true, true⟩])) := by
 have hC := spec_l17Copy e (by have := hs.own; omega) (by have := hs.far; omega) (by have := hs.subs; omega) (by have := hs.halfs; omega) (by have := hs.list; omega) (by have := hs.done; omega) (by have := hs.over; omega)
 have hK := spec_EndOk e (by have := hs.own; omega) (by have := hs.far; omega) (by have := hs.subs; omega) (by have := hs.halfs; omega) (by have := hs.list; omega) (by have := hs.done; omega) (by have := hs.over; omega)
 have hS := spec_l20On e x hs
 have hbd := onAt_bd e x
 have hf := hearReset_f (e := e) (x := x)
 have ht := fun (n : Nat) => @hearReset_t e x n
 generalize hearReset e x = R at *
 refine qE Tryz.func219 Tryz.ntmps219 Tryz.results219 fun E hE => ?_
 refine qK (hC) (qA [0, 1, 2, 3, 4, 5, 6]) ?_
 refine qK (hS) (qA [0, 1, 2, 3, 4, 5, 6]) ?_
 rcases hbd with hon | ⟨n, hon, hk, hn, _, _⟩
 ·rw [hf (by omega), hon]
  refine qX ?_
  exact qF (qA [0, 1, 2, 3, 4, 5, 6, 10, 11, 12, 13, 14, 15, 16, 18])
 ·rw [ht _ hon hk, setState_at hn, hon]
  have e1 := sub_set e.subs n { e.subs[n] with state := 4 }
  simp only [SubD.cs] at e1
  try simp (disch := omega) only [go_sem, Nat.reduceEqDiff, Nat.reduceAdd, Nat.reduceSub, Int.reduceAdd, Int.reduceSub, Int.reduceToNat, e1]
  refine den_fin (qA [0, 1, 2, 3, 4, 5, 6, 10, 11, 12, 13, 14, 15, 16, 18]) (qC) _ (by simp only [go_sem]; rfl) (by rfl) (by rfl) ?_
  simp (disch := omega) only [go_sem, Nat.reduceEqDiff, Nat.reduceAdd, Nat.reduceSub, Int.reduceAdd, Int.reduceSub, Int.reduceToNat]
  try simp
theorem spec_HearCame (e : EndD) (x : LetterD) (hs : Small e) : CallA Tryz.prog 218 [.ag (e.cs 0), .ag x.cs] (e.hp false) (.tu [.ag ((hearCame e x).1.cs 7), .sc (.sl 14 0 (hearCame e x).2.length)])
  (e.hp false ++ ((hearCame e x).1.hp true ++ [some ⟨(hearCame e x).2.map LetterD.cs, 19, 67, true, true⟩])) := by
 have hC := spec_l17Copy e (by have := hs.own; omega) (by have := hs.far; omega) (by have := hs.subs; omega) (by have := hs.halfs; omega) (by have := hs.list; omega) (by have := hs.done; omega) (by have := hs.over; omega)
 have hK := spec_EndOk e (by have := hs.own; omega) (by have := hs.far; omega) (by have := hs.subs; omega) (by have := hs.halfs; omega) (by have := hs.list; omega) (by have := hs.done; omega) (by have := hs.over; omega)
 have hS := spec_l20On e x hs
 have hbd := onAt_bd e x
 have hf := hearCame_f (e := e) (x := x)
 have ht := @hearCame_t e x
 generalize hearCame e x = R at *
 refine qE Tryz.func218 Tryz.ntmps218 Tryz.results218 fun E hE => ?_
 refine qK (hC) (qA [0, 1, 2, 3, 4, 5, 6]) ?_
 refine qK (hS) (qA [0, 1, 2, 3, 4, 5, 6]) ?_
 rcases hbd with hon | ⟨n, hon, hk, hn, _, _⟩
 ·rw [hf (by omega), hon]
  refine qX ?_
  exact qF (qA [0, 1, 2, 3, 4, 5, 6, 10, 11, 12, 13, 14, 15, 16, 18])
 ·rw [ht (by omega), hon]
  refine qX ?_
  refine qK (spec_Came e.out x.pos) [] ?_
  exact qF (qA [0, 1, 2, 3, 4, 5, 6, 10, 11, 12, 13, 14, 15, 16, 18])
theorem spec_HearJoinAck (e : EndD) (x : LetterD) (hs : Small e) : CallA Tryz.prog 213 [.ag (e.cs 0), .ag x.cs] (e.hp false) (.tu [.ag ((hearJoinAck e x).1.cs 7), .sc (.sl 14 0 (hearJoinAck e x).2.length)])
  (e.hp false ++ ((hearJoinAck e x).1.hp true ++ [some ⟨(hearJoinAck e x).2.map LetterD.cs, 19, 67, true, true⟩])) := by
 have hC := spec_l17Copy e (by have := hs.own; omega) (by have := hs.far; omega) (by have := hs.subs; omega) (by have := hs.halfs; omega) (by have := hs.list; omega) (by have := hs.done; omega) (by have := hs.over; omega)
 have hK := spec_EndOk e (by have := hs.own; omega) (by have := hs.far; omega) (by have := hs.subs; omega) (by have := hs.halfs; omega) (by have := hs.list; omega) (by have := hs.done; omega) (by have := hs.over; omega)
 have hS := spec_SubAt e (roadOf x) (by have := hs.subs; omega)
 have hL := spec_LetterOk x
 have hbd := subAt_bd e.subs (roadOf x)
 have hf := ack_f (e := e) (x := x)
 have ht := fun (n : Nat) => @ack_t e x n
 generalize hearJoinAck e x = R at *
 refine qE Tryz.func213 Tryz.ntmps213 Tryz.results213 fun E hE => ?_
 refine qK (hC) (qA [0, 1, 2, 3, 4, 5, 6]) ?_
 refine qD [0, 1, 2, 3, 4] ?_
 refine qKD (spec_RoadOf x) [] ?_
 refine qKD (hS) (qA [0, 1, 2, 3, 4, 5, 6]) ?_
 refine qG ?_
 rcases hbd with hk | ⟨hb0, hb1⟩
 ·rw [hf (ack_no hk), hk]
  refine qD [0, 1, 2, 3, 4, 5, 6, 7, 8, 9, 10, 11, 12, 13, 14, 15, 16, 17, 18, 19, 20, 21, 22, 23, 24, 25, 26, 27, 28, 29] ?_
  refine qKD (hK) (qA [0, 1, 2, 3, 4, 5, 6]) ?_
  refine qB (fun h1 => ?_) fun h1 => ?_
  ·refine qKD (hL) [] ?_
   refine qB (fun h2 => ?_) fun h2 => ?_
   ·refine qG ?_
    exact qF (qA [0, 1, 2, 3, 4, 5, 6, 10, 11, 12, 13, 14, 15, 16, 18])
   ·refine qG ?_
    exact qF (qA [0, 1, 2, 3, 4, 5, 6, 10, 11, 12, 13, 14, 15, 16, 18])
  ·refine qG ?_
   exact qF (qA [0, 1, 2, 3, 4, 5, 6, 10, 11, 12, 13, 14, 15, 16, 18])
 ·obtain ⟨n, hk⟩ := Int.eq_ofNat_of_zero_le hb0
  have hn : n < e.subs.length := by omega
  have ha := ack_at hk hn
  rw [hk]
  refine qD [0, 1, 2, 3, 4, 5, 6, 7, 8, 9, 10, 11, 12, 13, 14, 15, 16, 17, 18, 19, 20, 21, 22, 23, 24, 25, 26, 27, 28, 29] ?_
  refine qKD (hK) (qA [0, 1, 2, 3, 4, 5, 6]) ?_
  refine qB (fun h1 => ?_) fun h1 => ?_
  ·refine qKD (hL) [] ?_
   refine qB (fun h2 => ?_) fun h2 => ?_
   ·refine qB (fun h3 => ?_) fun h3 => ?_
    ·refine qG ?_
     refine qB (fun h4 => ?_) fun h4 => ?_
     ·rw [ht _ (by rw [ha]; simp [h1, h2, h3, h4]) hk, setState_at hn]
      have e1 := sub_set e.subs n { e.subs[n] with state := 3 }
      simp only [SubD.cs] at e1
      try simp (disch := omega) only [go_sem, Nat.reduceEqDiff, Nat.reduceAdd, Nat.reduceSub, Int.reduceAdd, Int.reduceSub, Int.reduceToNat, e1]
      refine den_fin (qA [0, 1, 2, 3, 4, 5, 6, 10, 11, 12, 13, 14, 15, 16, 18]) (qC) _ (by simp only [go_sem]; rfl) (by rfl) (by rfl) ?_
      simp (disch := omega) only [go_sem, Nat.reduceEqDiff, Nat.reduceAdd, Nat.reduceSub, Int.reduceAdd, Int.reduceSub, Int.reduceToNat]
      try simp
     ·rw [hf (by rw [ha]; simp [h1, h2, h3, h4])]
      refine qX ?_
      exact qF (qA [0, 1, 2, 3, 4, 5, 6, 10, 11, 12, 13, 14, 15, 16, 18])
    ·rw [hf (by rw [ha]; simp [h1, h2, h3])]
     refine qG ?_
     exact qF (qA [0, 1, 2, 3, 4, 5, 6, 10, 11, 12, 13, 14, 15, 16, 18])
   ·rw [hf (by rw [ha]; simp [h1, h2])]
    refine qG ?_
    exact qF (qA [0, 1, 2, 3, 4, 5, 6, 10, 11, 12, 13, 14, 15, 16, 18])
  ·rw [hf (by rw [ha]; simp [h1])]
   refine qG ?_
   exact qF (qA [0, 1, 2, 3, 4, 5, 6, 10, 11, 12, 13, 14, 15, 16, 18])
theorem spec_HearBack (e : EndD) (x : LetterD) (hs : Small e) : CallA Tryz.prog 173 [.ag (e.cs 0), .ag x.cs] (e.hp false) (.tu [.ag ((hearBack e x).1.cs 7), .sc (.sl 14 0 (hearBack e x).2.length)])
  (e.hp false ++ ((hearBack e x).1.hp true ++ [some ⟨(hearBack e x).2.map LetterD.cs, 19, 67, true, true⟩])) := by
 have hC := spec_l17Copy e (by have := hs.own; omega) (by have := hs.far; omega) (by have := hs.subs; omega) (by have := hs.halfs; omega) (by have := hs.list; omega) (by have := hs.done; omega) (by have := hs.over; omega)
 have hK := spec_EndOk e (by have := hs.own; omega) (by have := hs.far; omega) (by have := hs.subs; omega) (by have := hs.halfs; omega) (by have := hs.list; omega) (by have := hs.done; omega) (by have := hs.over; omega)
 have hS := spec_SubAt e (roadOf x) (by have := hs.subs; omega)
 have hL := spec_LetterOk x
 have hbd := subAt_bd e.subs (roadOf x)
 have hf := back_f (e := e) (x := x)
 have ht := fun (n : Nat) => @back_t e x n
 generalize hearBack e x = R at *
 refine qE Tryz.func173 Tryz.ntmps173 Tryz.results173 fun E hE => ?_
 refine qK (hC) (qA [0, 1, 2, 3, 4, 5, 6]) ?_
 refine qD [0, 1, 2, 3, 4] ?_
 refine qKD (spec_RoadOf x) [] ?_
 refine qKD (hS) (qA [0, 1, 2, 3, 4, 5, 6]) ?_
 refine qG ?_
 rcases hbd with hk | ⟨hb0, hb1⟩
 ·rw [hf (back_no hk), hk]
  refine qX ?_
  refine qK (hK) (qA [0, 1, 2, 3, 4, 5, 6]) ?_
  refine qB (fun h1 => ?_) fun h1 => ?_
  ·refine qK (hL) [] ?_
   refine qB (fun h2 => ?_) fun h2 => ?_
   ·refine qB (fun h3 => ?_) fun h3 => ?_
    ·refine qX ?_
     exact qF (qA [0, 1, 2, 3, 4, 5, 6, 10, 11, 12, 13, 14, 15, 16, 18])
    ·refine qX ?_
     exact qF (qA [0, 1, 2, 3, 4, 5, 6, 10, 11, 12, 13, 14, 15, 16, 18])
   ·refine qX ?_
    exact qF (qA [0, 1, 2, 3, 4, 5, 6, 10, 11, 12, 13, 14, 15, 16, 18])
  ·refine qX ?_
   exact qF (qA [0, 1, 2, 3, 4, 5, 6, 10, 11, 12, 13, 14, 15, 16, 18])
 ·obtain ⟨n, hk⟩ := Int.eq_ofNat_of_zero_le hb0
  have hn : n < e.subs.length := by omega
  have ha := back_at hk hn
  rw [hk]
  refine qX ?_
  refine qK (hK) (qA [0, 1, 2, 3, 4, 5, 6]) ?_
  refine qB (fun h1 => ?_) fun h1 => ?_
  ·refine qK (hL) [] ?_
   refine qB (fun h2 => ?_) fun h2 => ?_
   ·refine qB (fun h3 => ?_) fun h3 => ?_
    ·refine qB (fun h4 => ?_) fun h4 => ?_
     ·refine qK (spec_l01In _ _ _) [] ?_
      refine qB (fun h5 => ?_) fun h5 => ?_
      ·rw [hf (by rw [ha]; simp [h1, h2, h3, h4, h5])]
       refine qX ?_
       exact qF (qA [0, 1, 2, 3, 4, 5, 6, 10, 11, 12, 13, 14, 15, 16, 18])
      ·rw [ht _ (by rw [ha]; simp [h1, h2, h3, h4, h5]) hk hn]
       have e1 := sub_set e.subs n { e.subs[n] with state := 3 }
       have e2 := sub_set (e.subs.set n { e.subs[n] with state := 3 }) n { e.subs[n] with state := 3, give := x.give }
       rw [List.set_set] at e2
       simp only [SubD.cs] at e1 e2
       refine qX ?_
       refine qK (spec_l18Far x.frm) [] ?_
       try simp (disch := omega) only [go_sem, Nat.reduceEqDiff, Nat.reduceAdd, Nat.reduceSub, Int.reduceAdd, Int.reduceSub, Int.reduceToNat, e1, e2]
       refine den_drawC [(0, 7), (3, 0), (5, 0), (6, 0)] [[1, 2, 4, 3, 5, 6, 0, 7, 8, 9], [1, 2, 4, 3, 5, 0, 6, 7, 8, 9], [1, 2, 4, 3, 0, 5, 6, 7, 8, 9], [1, 2, 4, 0, 3, 5, 6, 7, 8, 9], [1, 2, 4, 3, 5, 6, 7, 0, 8, 9]] (by kernel_rfl) (qC) (by kernel_rfl) ?_
       simp only [allDn]
       refine ⟨runD_den 400 ?_, runD_den 400 ?_, runD_den 400 ?_, runD_den 400 ?_, runD_den 400 ?_⟩
       all_goals simp (disch := omega) only [go_sem, Nat.reduceEqDiff, Nat.reduceAdd, Nat.reduceSub, Int.reduceAdd, Int.reduceSub, Int.reduceToNat]
       all_goals
        refine qKD (spec_RoadOf x) [] ?_
        refine qKD (spec_Between (roadOf x) { letNone with kind := 3 }) [] ?_
        refine qG ?_
        refine den_fin (qA [0, 1, 2, 3, 4, 5, 6, 10, 19, 12, 13, 14, 15, 16, 21]) (qC) _ (by simp only [go_sem]; rfl) (by rfl) (by rfl) ?_
        simp (disch := omega) only [go_sem, Nat.reduceEqDiff, Nat.reduceAdd, Nat.reduceSub, Int.reduceAdd, Int.reduceSub, Int.reduceToNat]
        try simp [farOne, SubD.cs, LetterD.cs, roadOf, between, letNone]
        try omega
     ·rw [hf (by rw [ha]; simp [h1, h2, h3, h4])]
      refine qX ?_
      exact qF (qA [0, 1, 2, 3, 4, 5, 6, 10, 11, 12, 13, 14, 15, 16, 18])
    ·rw [hf (by rw [ha]; simp [h1, h2, h3])]
     refine qX ?_
     exact qF (qA [0, 1, 2, 3, 4, 5, 6, 10, 11, 12, 13, 14, 15, 16, 18])
   ·rw [hf (by rw [ha]; simp [h1, h2])]
    refine qX ?_
    exact qF (qA [0, 1, 2, 3, 4, 5, 6, 10, 11, 12, 13, 14, 15, 16, 18])
  ·rw [hf (by rw [ha]; simp [h1])]
   refine qX ?_
   exact qF (qA [0, 1, 2, 3, 4, 5, 6, 10, 11, 12, 13, 14, 15, 16, 18])
end
section
open Go.RowKit

theorem roadEq_eq {a b : RoadD} (h : roadEq a b = true) : a = b := by
 have h' := h
 simp only [roadEq, Bool.and_eq_true, beq_iff_eq] at h'
 obtain ⟨a1, a2, a3⟩ := a
 obtain ⟨b1, b2, b3⟩ := b
 simp_all
theorem idxGo_at {α : Type} {p : α → Bool} : ∀ {l : List α} {k n : Nat}, idxGo p k l = ((k + n : Nat) : Int) → ∃ h : n < l.length, p l[n] = true
 | [], k, n, h => by rw [idxGo] at h; omega
 | a :: r, k, n, h => by
  rw [idxGo] at h
  split at h
  ·rename_i hp
   obtain rfl : n = 0 := by omega
   exact ⟨by simp, hp⟩
  ·rcases n with _ | n
   ·rcases idxGo_bd (p := p) (l := r) (k := k + 1) with h' | h' <;> omega
   ·obtain ⟨h1, h2⟩ := idxGo_at (p := p) (l := r) (k := k + 1) (n := n) (by rw [h]; omega)
    exact ⟨by simp; omega, by simpa using h2⟩
theorem idxOf_at {α : Type} {p : α → Bool} {l : List α} {n : Nat} (h : idxOf p l = (n : Int)) : ∃ h : n < l.length, p l[n] = true := idxGo_at (k := 0) (by rw [← idxOf, h]; omega)
theorem subAt_road {l : List SubD} {r : RoadD} {n : Nat} (h : subAt l r = (n : Int)) (hn : n < l.length) : l[n].road = r := by
 obtain ⟨_, hp⟩ := idxOf_at h
 simp only [Bool.and_eq_true] at hp
 exact roadEq_eq hp.2
theorem halfAt_road {l : List HalfD} {r : RoadD} {n : Nat} (h : halfAt l r = (n : Int)) (hn : n < l.length) : l[n].road = r := by
 obtain ⟨_, hp⟩ := idxOf_at h
 exact roadEq_eq hp
theorem endOk_halfs {e : EndD} (h : endOk e = true) : halfsOk e.halfs = true := by
 simp only [endOk, Bool.and_eq_true] at h
 exact h.1.1.1.1.1.1.1.1.2
theorem endOk_now {e : EndD} (h : endOk e = true) : 0 ≤ e.now ∧ e.now ≤ 1000000000 := by
 simp only [endOk, Bool.and_eq_true, List.all_cons, isN, decide_eq_true_eq] at h
 obtain ⟨⟨_, h⟩, _⟩ := h
 omega
theorem halfsOk_le {l : List HalfD} (h : halfsOk l = true) : l.length ≤ 4 := by
 simp only [halfsOk, Bool.and_eq_true, decide_eq_true_eq] at h
 omega
def doneLetter (e : EndD) (s : SubD) : LetterD := between s.road { letNone with kind := 6, tag := ⟨2, e.key, e.peer, s.mine, s.theirs⟩ }
def jbOk (e : EndD) (x : LetterD) : Bool :=
 endOk e && letOk x && decide (e.state = 2) && decide (0 ≤ subAt e.subs (roadOf x)) && decide ((subAtN e.subs (subAt e.subs (roadOf x)).toNat).state = 1) && decide (x.tag = ⟨1, e.peer, e.key, x.nonce, (subAtN e.subs (subAt e.subs (roadOf x)).toNat).mine⟩)
def jbSub (s : SubD) (x : LetterD) : SubD := { s with state := 2, theirs := x.nonce, give := x.give, tries := 0 }
def hearJoinBack (e : EndD) (x : LetterD) : EndD × List LetterD :=
 if jbOk e x then ({ e with subs := e.subs.set (subAt e.subs (roadOf x)).toNat (jbSub (subAtN e.subs (subAt e.subs (roadOf x)).toNat) x) }, [doneLetter e (jbSub (subAtN e.subs (subAt e.subs (roadOf x)).toNat) x)]) else (e, [])
theorem jb_f {e : EndD} {x : LetterD} (h : jbOk e x = false) : hearJoinBack e x = (e, []) := by rw [hearJoinBack, if_neg (by simp [h])]
theorem jb_t {e : EndD} {x : LetterD} {n : Nat} (h : jbOk e x = true) (hk : subAt e.subs (roadOf x) = (n : Int)) (hn : n < e.subs.length) :
  hearJoinBack e x = ({ e with subs := e.subs.set n (jbSub e.subs[n] x) }, [doneLetter e (jbSub e.subs[n] x)]) := by
 rw [hearJoinBack, if_pos h, hk, Int.toNat_natCast, subAtN_at hn]
theorem jb_at {e : EndD} {x : LetterD} {n : Nat} (hk : subAt e.subs (roadOf x) = (n : Int)) (hn : n < e.subs.length) :
  jbOk e x = (endOk e && letOk x && decide (e.state = 2) && decide (e.subs[n].state = 1) && decide (x.tag = ⟨1, e.peer, e.key, x.nonce, e.subs[n].mine⟩)) := by
 rw [jbOk, hk, Int.toNat_natCast, subAtN_at hn]
 simp
theorem jb_no {e : EndD} {x : LetterD} (hk : subAt e.subs (roadOf x) = -1) : jbOk e x = false := by
 rw [jbOk, hk]
 simp
def haAtN (l : List HalfD) (n : Nat) : HalfD := l.getD n default
theorem haAtN_at {l : List HalfD} {n : Nat} (h : n < l.length) : haAtN l n = l[n] := by simp [haAtN, List.getD_eq_getElem?_getD, h]
def ackL (r : RoadD) (give : Int) : LetterD := between r { letNone with kind := 7, sgn := give }
def jdIn (e : EndD) (x : LetterD) : Bool := endOk e && letOk x && decide (e.state = 2)
def jdH (e : EndD) (x : LetterD) : HalfD := haAtN e.halfs (halfAt e.halfs (roadOf x)).toNat
def jdS (e : EndD) (x : LetterD) : SubD := subAtN e.subs (subAt e.subs (roadOf x)).toNat
def jdA (e : EndD) (x : LetterD) : Bool := decide (0 ≤ halfAt e.halfs (roadOf x)) && decide (e.subs.length < 8) && decide (x.tag = ⟨2, e.peer, e.key, (jdH e x).theirs, (jdH e x).mine⟩)
def jdB (e : EndD) (x : LetterD) : Bool := decide (0 ≤ subAt e.subs (roadOf x)) && decide ((jdS e x).state = 3) && decide (x.tag = ⟨2, e.peer, e.key, (jdS e x).theirs, (jdS e x).mine⟩)
def onSub (r : RoadD) (h : HalfD) : SubD := ⟨r, 3, false, h.mine, h.theirs, h.give, h.take, 0⟩
def hearJoinDone (e : EndD) (x : LetterD) : EndD × List LetterD :=
 if jdIn e x then
  if jdA e x then ({ e with subs := (if 0 ≤ subAt e.subs (roadOf x) then setState e.subs (subAt e.subs (roadOf x)).toNat 4 else e.subs) ++ [onSub (roadOf x) (jdH e x)], halfs := dropHalf e.halfs (roadOf x) }, [ackL (roadOf x) (jdH e x).give])
  else if jdB e x then (e, [ackL (roadOf x) (jdS e x).give]) else (e, [])
 else (e, [])
theorem jd_f {e : EndD} {x : LetterD} (h : jdIn e x = false) : hearJoinDone e x = (e, []) := by rw [hearJoinDone, if_neg (by simp [h])]
theorem jd_f2 {e : EndD} {x : LetterD} (h : jdIn e x = true) (ha : jdA e x = false) (hb : jdB e x = false) : hearJoinDone e x = (e, []) := by rw [hearJoinDone, if_pos h, if_neg (by simp [ha]), if_neg (by simp [hb])]
theorem jd_b {e : EndD} {x : LetterD} {n : Nat} (h : jdIn e x = true) (ha : jdA e x = false) (hb : jdB e x = true) (hk : subAt e.subs (roadOf x) = (n : Int)) (hn : n < e.subs.length) :
  hearJoinDone e x = (e, [ackL (roadOf x) e.subs[n].give]) := by
 rw [hearJoinDone, if_pos h, if_neg (by simp [ha]), if_pos hb, jdS, hk, Int.toNat_natCast, subAtN_at hn]
theorem jd_a1 {e : EndD} {x : LetterD} {i n : Nat} (h : jdIn e x = true) (ha : jdA e x = true) (hi : halfAt e.halfs (roadOf x) = (i : Int)) (hin : i < e.halfs.length) (hk : subAt e.subs (roadOf x) = (n : Int)) (hn : n < e.subs.length) :
  hearJoinDone e x = ({ e with subs := e.subs.set n { e.subs[n] with state := 4 } ++ [onSub (roadOf x) e.halfs[i]], halfs := dropHalf e.halfs (roadOf x) }, [ackL (roadOf x) e.halfs[i].give]) := by
 rw [hearJoinDone, if_pos h, if_pos ha, jdH, hi, Int.toNat_natCast, haAtN_at hin, hk, if_pos (by omega), Int.toNat_natCast, setState_at hn]
theorem jd_a2 {e : EndD} {x : LetterD} {i : Nat} (h : jdIn e x = true) (ha : jdA e x = true) (hi : halfAt e.halfs (roadOf x) = (i : Int)) (hin : i < e.halfs.length) (hk : subAt e.subs (roadOf x) = -1) :
  hearJoinDone e x = ({ e with subs := e.subs ++ [onSub (roadOf x) e.halfs[i]], halfs := dropHalf e.halfs (roadOf x) }, [ackL (roadOf x) e.halfs[i].give]) := by
 rw [hearJoinDone, if_pos h, if_pos ha, jdH, hi, Int.toNat_natCast, haAtN_at hin, hk, if_neg (by omega)]
theorem jdA_at {e : EndD} {x : LetterD} {i : Nat} (hi : halfAt e.halfs (roadOf x) = (i : Int)) (hin : i < e.halfs.length) : jdA e x = (decide (e.subs.length < 8) && decide (x.tag = ⟨2, e.peer, e.key, e.halfs[i].theirs, e.halfs[i].mine⟩)) := by
 rw [jdA, jdH, hi, Int.toNat_natCast, haAtN_at hin]
 simp
theorem jdA_no {e : EndD} {x : LetterD} (hi : halfAt e.halfs (roadOf x) = -1) : jdA e x = false := by
 rw [jdA, hi]
 simp
theorem jdB_at {e : EndD} {x : LetterD} {n : Nat} (hk : subAt e.subs (roadOf x) = (n : Int)) (hn : n < e.subs.length) : jdB e x = (decide (e.subs[n].state = 3) && decide (x.tag = ⟨2, e.peer, e.key, e.subs[n].theirs, e.subs[n].mine⟩)) := by
 rw [jdB, jdS, hk, Int.toNat_natCast, subAtN_at hn]
 simp
theorem jdB_no {e : EndD} {x : LetterD} (hk : subAt e.subs (roadOf x) = -1) : jdB e x = false := by
 rw [jdB, hk]
 simp
theorem dropHalf_f {l : List HalfD} {r : RoadD} (h : halfAt l r = -1) : dropHalf l r = l := by rw [dropHalf, h, if_pos (by omega)]
theorem dropHalf_t {l : List HalfD} {r : RoadD} {n : Nat} (h : halfAt l r = (n : Int)) : dropHalf l r = l.take n ++ l.drop (n + 1) := by
 rw [dropHalf, h, if_neg (by omega), Int.toNat_natCast]
def hjOk (e : EndD) (x : LetterD) : Bool :=
 endOk e && letOk x && decide (e.state = 2) && decide (x.token = tokenFor e.side) && ownsAddr e.own x.to && decide (e.subs.length < 8) &&
  !(decide (halfAt e.halfs (roadOf x) < 0) && decide (4 ≤ e.halfs.length)) && inR e.draw 1 999999996 && decide (e.now ≤ 999999994) && (takeOne e.bucket).2
def hjSame (e : EndD) (x : LetterD) : Bool := decide (0 ≤ halfAt e.halfs (roadOf x)) && decide ((jdH e x).theirs = x.nonce) && decide ((jdH e x).give = x.give)
def backL (e : EndD) (r : RoadD) (h : HalfD) : LetterD := between r { letNone with kind := 5, tag := ⟨1, e.key, e.peer, h.mine, h.theirs⟩, nonce := h.mine, give := h.take }
def newHalf (e : EndD) (x : LetterD) : HalfD := ⟨roadOf x, x.nonce, e.draw, x.give, e.draw + 2, e.now + 6⟩
def hearJoin (e : EndD) (x : LetterD) : EndD × List LetterD :=
 if hjOk e x then
  if hjSame e x then ({ e with bucket := (takeOne e.bucket).1, halfs := e.halfs.set (halfAt e.halfs (roadOf x)).toNat { jdH e x with till := e.now + 6 } }, [backL e (roadOf x) (jdH e x)])
  else ({ e with bucket := (takeOne e.bucket).1, draw := e.draw + 4, halfs := (putHalf e.halfs (newHalf e x)).1 }, [backL e (roadOf x) (newHalf e x)])
 else (e, [])
theorem hj_f {e : EndD} {x : LetterD} (h : hjOk e x = false) : hearJoin e x = (e, []) := by rw [hearJoin, if_neg (by simp [h])]
theorem hj_s {e : EndD} {x : LetterD} {i : Nat} (h : hjOk e x = true) (hs : hjSame e x = true) (hi : halfAt e.halfs (roadOf x) = (i : Int)) (hin : i < e.halfs.length) :
  hearJoin e x = ({ e with bucket := (takeOne e.bucket).1, halfs := e.halfs.set i { e.halfs[i] with till := e.now + 6 } }, [backL e (roadOf x) e.halfs[i]]) := by
 rw [hearJoin, if_pos h, if_pos hs, jdH, hi, Int.toNat_natCast, haAtN_at hin]
theorem hj_n {e : EndD} {x : LetterD} (h : hjOk e x = true) (hs : hjSame e x = false) :
  hearJoin e x = ({ e with bucket := (takeOne e.bucket).1, draw := e.draw + 4, halfs := (putHalf e.halfs (newHalf e x)).1 }, [backL e (roadOf x) (newHalf e x)]) := by
 rw [hearJoin, if_pos h, if_neg (by simp [hs])]
theorem hjSame_at {e : EndD} {x : LetterD} {i : Nat} (hi : halfAt e.halfs (roadOf x) = (i : Int)) (hin : i < e.halfs.length) : hjSame e x = (decide (e.halfs[i].theirs = x.nonce) && decide (e.halfs[i].give = x.give)) := by
 rw [hjSame, jdH, hi, Int.toNat_natCast, haAtN_at hin]
 simp
theorem hjSame_no {e : EndD} {x : LetterD} (hi : halfAt e.halfs (roadOf x) = -1) : hjSame e x = false := by
 rw [hjSame, hi]
 simp
theorem idxGo_map {α β : Type} {p : β → Bool} {f : α → β} : ∀ {l : List α} {k : Nat}, idxGo p k (l.map f) = idxGo (fun a => p (f a)) k l
 | [], k => rfl
 | a :: r, k => by
  rw [List.map_cons, idxGo, idxGo, idxGo_map (l := r)]
theorem halfAt_map (l : List HalfD) (r : RoadD) : halfAt l r = idxOf (fun q => roadEq q r) (l.map HalfD.road) := (idxGo_map (p := fun q => roadEq q r) (f := HalfD.road) (l := l) (k := 0)).symm
theorem set_roads {l : List HalfD} {i : Nat} (hi : i < l.length) (t : Int) : (l.set i { l[i] with till := t }).map HalfD.road = l.map HalfD.road := by
 rw [List.map_set]
 apply List.ext_getElem
 ·simp
 ·intro n h1 h2
  rw [List.getElem_set]
  split
  ·rename_i h; subst h; simp
  ·rfl
theorem halfAt_set {l : List HalfD} {i : Nat} (hi : i < l.length) (t : Int) (r : RoadD) : halfAt (l.set i { l[i] with till := t }) r = halfAt l r := by
 rw [halfAt_map, halfAt_map, set_roads]
theorem halfsOk_set {l : List HalfD} {i : Nat} (h : halfsOk l = true) (hi : i < l.length) {t : Int} (ht : isN t = true) : halfsOk (l.set i { l[i] with till := t }) = true := by
 simp only [halfsOk, Bool.and_eq_true, List.length_set] at h ⊢
 refine ⟨h.1, upto_true fun j hj => ?_⟩
 have hu := h.2
 simp only [upto, List.all_eq_true, List.mem_range] at hu
 have hj' := hu j hj
 simp only [haOk, halfAt_set] at hj' ⊢
 rw [haA_eq hj] at hj'
 rw [haA_eq (by simpa using hj), List.getElem_set]
 split
 ·rename_i he
  subst he
  simp only [Bool.and_eq_true, List.all_cons] at hj' ⊢
  exact ⟨⟨hj'.1.1, hj'.1.2.1, hj'.1.2.2.1, hj'.1.2.2.2.1, hj'.1.2.2.2.2.1, ht, hj'.1.2.2.2.2.2.2⟩, hj'.2⟩
 ·exact hj'
theorem putHalf_same {l : List HalfD} {i : Nat} (h : halfsOk l = true) (hi : i < l.length) {t : Int} (ht : isN t = true) (hk : halfAt l l[i].road = (i : Int)) :
  putHalf l { l[i] with till := t } = (l.set i { l[i] with till := t }, true) := by
 have e : putHalfL l { l[i] with till := t } = l.set i { l[i] with till := t } := by
  rw [putHalfL, if_pos (by dsimp only; omega)]
  dsimp only
  rw [hk, Int.toNat_natCast]
 rw [putHalf_t (by rw [e]; exact halfsOk_set h hi ht), e]
end
section
open Go.RowKit

theorem spec_l19Proves (e : EndD) (s : SubD) : CallA Tryz.prog 179 [.ag (e.cs 0), .ag s.cs] (e.hp false) (.ag (doneLetter e s).cs) (e.hp false) := by
 refine qE Tryz.func179 Tryz.ntmps179 Tryz.results179 fun E hE => ?_
 refine qD [0, 1, 2, 3, 4, 5, 6, 7, 8, 9, 10, 11, 12, 13] ?_
 refine qKD (spec_TagDone _ _ _ _) [] ?_
 refine qKD (spec_Between s.road { letNone with kind := 6, tag := ⟨2, e.key, e.peer, s.mine, s.theirs⟩ }) [] ?_
 refine qG ?_
 refine den_fin (qA [0, 1, 2, 3, 4, 5, 6]) (qC) _ (by simp only [go_sem]; rfl) (by rfl) (by rfl) ?_
 simp (disch := omega) only [go_sem, Nat.reduceEqDiff, Nat.reduceAdd, Nat.reduceSub, Int.reduceAdd, Int.reduceSub, Int.reduceToNat]
 try simp [doneLetter]
theorem spec_l19Ack (s : SubD) : CallA Tryz.prog 226 [.ag s.cs] [] (.ag (ackL s.road s.give).cs) [] := by
 refine qE Tryz.func226 Tryz.ntmps226 Tryz.results226 fun E hE => ?_
 refine qK (spec_Between s.road { letNone with kind := 7, sgn := s.give }) [] ?_
 refine den_fin [] (qC) _ (by simp only [go_sem]; rfl) (by rfl) (by rfl) ?_
 simp (disch := omega) only [go_sem, Nat.reduceEqDiff, Nat.reduceAdd, Nat.reduceSub, Int.reduceAdd, Int.reduceSub, Int.reduceToNat]
 try simp [ackL]
theorem spec_DropHalf (l : List HalfD) (r : RoadD) (hl : l.length ≤ 1048576) : CallA Tryz.prog 225 [.sc (.sl 0 0 l.length), .ag r.cs] [some ⟨l.map HalfD.cs, 8, 118, false, true⟩]
  (.sc (.sl 1 0 (dropHalf l r).length)) [some ⟨l.map HalfD.cs, 8, 118, false, true⟩, some ⟨(dropHalf l r).map HalfD.cs, 8, 118, true, true⟩] := by
 have hA := spec_HalfAt l r hl
 have hbd := halfAt_bd l r
 have hf := @dropHalf_f l r
 have ht := fun n => @dropHalf_t l r n
 generalize dropHalf l r = R at *
 refine qE Tryz.func225 Tryz.ntmps225 Tryz.results225 fun E hE => ?_
 refine qK (hA) (qA [0]) ?_
 rcases hbd with hk | ⟨hb0, hb1⟩
 ·rw [hf hk, hk]
  refine qX ?_
  exact qF (qA [0, 3])
 ·obtain ⟨n, hk⟩ := Int.eq_ofNat_of_zero_le hb0
  have hlt : (l.take n).length = n := by simp; omega
  have hlt2 : (List.take n (List.map HalfD.cs l)).length = n := by simp; omega
  rw [ht _ hk, hk]
  refine qX ?_
  refine qJ (qA [0, 4]) ?_
  refine ⟨by simp; omega, ?_⟩
  simp only [List.map_append, List.map_take, List.map_drop]
  congr 1
  exact List.take_of_length_le (by simp)
end
section
open Go.RowKit

theorem tw_step {α : Type} {p : α → Bool} {l : List α} {k : Nat} (h : k < l.length) : ((l.drop k).takeWhile p).length = if p l[k] then ((l.drop (k + 1)).takeWhile p).length + 1 else 0 := by
 rw [List.drop_eq_getElem_cons h, List.takeWhile_cons]
 split <;> simp
theorem tw_end {α : Type} {p : α → Bool} {l : List α} {k : Nat} (h : l.length ≤ k) : ((l.drop k).takeWhile p).length = 0 := by
 rw [List.drop_eq_nil_of_le h]
 rfl
def lowI (l : List Int) (n : Int) : Nat := (l.takeWhile fun a => decide (a < n)).length
def putI (l : List Int) (n : Int) : List Int := if lowI l n < l.length ∧ l.getD (lowI l n) 0 = n then l else l.take (lowI l n) ++ [n] ++ l.drop (lowI l n)
theorem putI_t {l : List Int} {n : Int} {k : Nat} (hk : lowI l n = k) (h : k < l.length) (e : l[k] = n) : putI l n = l := by
 rw [putI, if_pos ⟨by omega, by subst hk; simp [List.getD_eq_getElem?_getD, h, e]⟩]
theorem putI_f {l : List Int} {n : Int} {k : Nat} (hk : lowI l n = k) (h : k < l.length) (e : ¬ l[k] = n) : putI l n = l.take k ++ [n] ++ l.drop k := by
 subst hk
 rw [putI, if_neg (fun hc => e (by have := hc.2; simpa [List.getD_eq_getElem?_getD, h] using this))]
theorem putI_e {l : List Int} {n : Int} (hk : lowI l n = l.length) : putI l n = l ++ [n] := by
 rw [putI, if_neg (by omega), hk]
 simp
theorem putI_len (l : List Int) (n : Int) : (putI l n).length ≤ l.length + 1 := by
 rw [putI]
 split
 ·omega
 ·simp; omega
theorem putAddrL_t {l : List AddrD} {a : AddrD} {k : Nat} (h : addrAt l a.id = (k : Int)) : putAddrL l a = l.set k a := by
 rw [putAddrL, h, if_pos (by omega), Int.toNat_natCast]
theorem putAddrL_f {l : List AddrD} {a : AddrD} {k : Nat} (h : addrAt l a.id = -1) (hk : lowN l a.id = k) : putAddrL l a = l.take k ++ [a] ++ l.drop k := by
 rw [putAddrL, h, if_neg (by omega), hk]
theorem lowN_le (l : List AddrD) (n : Int) : lowN l n ≤ l.length := (List.takeWhile_prefix _).length_le
theorem putAddrL_len (l : List AddrD) (a : AddrD) : l.length ≤ (putAddrL l a).length ∧ (putAddrL l a).length ≤ l.length + 1 := by
 have := lowN_le l a.id
 rw [putAddrL]
 split <;> simp <;> omega
theorem addrsOk_le {l : List AddrD} (h : addrsOk l = true) : l.length ≤ 6 := by
 simp only [addrsOk, Bool.and_eq_true, decide_eq_true_eq] at h
 omega
theorem putAddr_big {l : List AddrD} {a : AddrD} (h : 6 < l.length) : putAddr l a = (l, false) := by
 refine putAddr_f ?_
 cases hc : addrsOk (putAddrL l a) with
 | false => rfl
 | true => have := addrsOk_le hc; have := (putAddrL_len l a).1; omega
theorem dropAddr_f {l : List AddrD} {n : Int} (h : addrAt l n = -1) : dropAddr l n = (l, false) := by rw [dropAddr, h, if_pos (by omega)]
theorem dropAddr_t {l : List AddrD} {n : Int} {k : Nat} (h : addrAt l n = (k : Int)) : dropAddr l n = (l.take k ++ l.drop (k + 1), true) := by
 rw [dropAddr, h, if_neg (by omega), Int.toNat_natCast]
theorem endOk_far {e : EndD} (h : endOk e = true) : e.far.length ≤ 6 := by
 simp only [endOk, Bool.and_eq_true] at h
 exact addrsOk_le h.1.1.1.1.1.1.1.1.1.2
end
section
open Go.RowKit

theorem ins_cells {α : Type} {f : α → List Sc} {l : List α} {k : Nat} {a : α} {c : List Sc} (hc : f a = c) (h : k ≤ l.length) :
  k + 1 + (l.length - k) = (l.take k).length + 1 + (l.drop k).length ∧ (l.take k).map f ++ [c] ++ ((l.map f).drop k).take (l.length - k) = (l.take k ++ [a] ++ l.drop k).map f := by
 refine ⟨by simp; omega, ?_⟩
 have e : ((l.map f).drop k).take (l.length - k) = (l.map f).drop k := List.take_of_length_le (by simp)
 rw [← hc, e]
 simp [List.map_take, List.map_drop]
theorem spec_l17Put (l : List Int) (n : Int) (hl : l.length ≤ 1048570) : CallA Tryz.prog 220 [.sc (.sl 0 0 l.length), .sc (.int .i64 n)] [some ⟨l.map intC, 1, 3, false, true⟩]
  (.sc (.sl 1 0 (putI l n).length)) [some ⟨l.map intC, 1, 3, false, true⟩, some ⟨(putI l n).map intC, 1, 3, true, true⟩] := by
 have ht := fun k => @putI_t l n k
 have hf := fun k => @putI_f l n k
 have he := @putI_e l n
 have hlen := putI_len l n
 generalize putI l n = R at *
 refine qE Tryz.func220 Tryz.ntmps220 Tryz.results220 fun E hE => ?_
 refine den_lp 1 hE (fun s (x : Nat × Bool × List Int) => s.at [8, 9, 10, 11, 12, 13, 14, 15, 16, 17, 18, 19, 20, 21, 22, 23, 24, 25, 26, 27, 28, 29, 30, 31, 32, 33, 34, 35, 36, 37, 38, 39, 40, 41] [(7, .sc (.int .i64 (x.1 : Nat))), (6, .sc (.bo x.2.1)), (5, .sc (.sl 1 0 x.2.2.length))] ([some ⟨l.map intC, 1, 3, false, true⟩, some ⟨x.2.2.map intC, 1, 3, true, true⟩])) (fun (x : Nat × Bool × List Int) => x.1 ≤ l.length ∧ x.2.2.length ≤ x.1 + 1 ∧ (x.2.1 = true → x.2.2 ++ l.drop x.1 = R) ∧ (x.2.1 = false → x.2.2 = l.take x.1 ∧ x.1 + ((l.drop x.1).takeWhile (fun a => decide (a < n))).length = lowI l n)) (fun (x : Nat × Bool × List Int) => l.length - x.1) (0, false, []) (qA [0, 1]) (qC) (⟨Nat.zero_le _, by simp, by simp, fun _ => ⟨rfl, by simp [lowI]⟩⟩) (weak_mk (by rfl) (by rfl) ?_) fun x hx N hN => ?_
 ·exact qY
 ·obtain ⟨k, b, acc⟩ := x
  obtain ⟨hk1, hk2, hk3, hk4⟩ := hx
  dsimp only at hk1 hk2 hk3 hk4
  refine qR ?_
  refine qB (fun h => ?_) fun h => ?_
  ·cases b with
   | true =>
    have hR := hk3 rfl
    rw [List.drop_eq_getElem_cons h] at hR
    refine qX ?_
    refine ⟨qC, hN _ (k + 1, true, acc ++ [l[k]]) (qA [0, 3]) (by (try dsimp only); exact ⟨by omega, by simp; omega, fun _ => by simpa using hR, fun hc => by cases hc⟩) (by (try dsimp only); omega) (weak_mk (by rfl) (by rfl) ?_)⟩
    try simp (disch := omega) only [go_sem, Nat.reduceEqDiff, Nat.reduceAdd, Nat.reduceSub, Int.reduceAdd, Int.reduceSub, Int.reduceToNat]
    try simp [intC]
   | false =>
    obtain ⟨ha, hw⟩ := hk4 rfl
    rw [tw_step h] at hw
    refine qX ?_
    refine qB (fun h2 => ?_) fun h2 => ?_
    ·refine qX ?_
     refine qB (fun h3 => ?_) fun h3 => ?_
     ·rw [if_neg (by simp; omega)] at hw
      have hR := hf k (by omega) h (by omega)
      rw [List.drop_eq_getElem_cons h] at hR
      refine qX ?_
      refine ⟨qC, hN _ (k + 1, true, acc ++ [n] ++ [l[k]]) (qA [0, 5]) (by (try dsimp only); exact ⟨by omega, by rw [ha]; simp; omega, fun _ => by rw [hR, ha]; simp, fun hc => by cases hc⟩) (by (try dsimp only); omega) (weak_mk (by rfl) (by rfl) ?_)⟩
      try simp (disch := omega) only [go_sem, Nat.reduceEqDiff, Nat.reduceAdd, Nat.reduceSub, Int.reduceAdd, Int.reduceSub, Int.reduceToNat]
      try simp [intC]
     ·have hq : l[k] = n := by omega
      rw [if_neg (by simp; omega)] at hw
      have hR := ht k (by omega) h hq
      refine qX ?_
      refine ⟨qC, hN _ (k + 1, true, acc ++ [l[k]]) (qA [0, 3]) (by (try dsimp only); exact ⟨by omega, by simp; omega, fun _ => by rw [hR, ha]; simp [h], fun hc => by cases hc⟩) (by (try dsimp only); omega) (weak_mk (by rfl) (by rfl) ?_)⟩
      try simp (disch := omega) only [go_sem, Nat.reduceEqDiff, Nat.reduceAdd, Nat.reduceSub, Int.reduceAdd, Int.reduceSub, Int.reduceToNat]
      try simp [intC]
    ·rw [if_pos (by simp; omega)] at hw
     refine qX ?_
     refine ⟨qC, hN _ (k + 1, false, acc ++ [l[k]]) (qA [0, 3]) (by (try dsimp only); exact ⟨by omega, by simp; omega, fun hc => (by cases hc), fun _ => ⟨by rw [ha]; simp [h], by omega⟩⟩) (by (try dsimp only); omega) (weak_mk (by rfl) (by rfl) ?_)⟩
     try simp (disch := omega) only [go_sem, Nat.reduceEqDiff, Nat.reduceAdd, Nat.reduceSub, Int.reduceAdd, Int.reduceSub, Int.reduceToNat]
     try simp [intC]
  ·have hkl : k = l.length := by omega
   subst hkl
   cases b with
   | true =>
    have hR := hk3 rfl
    rw [List.drop_length, List.append_nil] at hR
    subst hR
    refine qX ?_
    exact qF (qA [0, 1])
   | false =>
    obtain ⟨ha, hw⟩ := hk4 rfl
    rw [tw_end (by omega)] at hw
    rw [he (by omega)]
    rw [List.take_length] at ha
    subst ha
    refine qX ?_
    refine den_fin (qA [0, 3]) (qC) _ (by simp only [go_sem]; rfl) (by rfl) (by rfl) ?_
    simp (disch := omega) only [go_sem, Nat.reduceEqDiff, Nat.reduceAdd, Nat.reduceSub, Int.reduceAdd, Int.reduceSub, Int.reduceToNat]
    try simp [intC]
end
section
open Go.RowKit

theorem del_cells {α : Type} {f : α → List Sc} {l : List α} {n : Nat} (h : n < l.length) :
  n + (l.length - (n + 1)) = (l.take n).length + (l.drop (n + 1)).length ∧ (l.take n).map f ++ ((l.map f).drop (n + 1)).take (l.length - (n + 1)) = (l.take n ++ l.drop (n + 1)).map f := by
 refine ⟨by simp; omega, ?_⟩
 simp only [List.map_append, List.map_take, List.map_drop]
 congr 1
 exact List.take_of_length_le (by simp)
theorem spec_DropAddr (l : List AddrD) (r : Int) (hl : l.length ≤ 1048576) : CallA Tryz.prog 221 [.sc (.sl 0 0 l.length), .sc (.int .i64 r)] [some ⟨l.map AddrD.cs, 4, 80, false, true⟩]
  (.tu [.sc (.sl 1 0 (dropAddr l r).1.length), .sc (.bo (dropAddr l r).2)]) [some ⟨l.map AddrD.cs, 4, 80, false, true⟩, some ⟨(dropAddr l r).1.map AddrD.cs, 4, 80, true, true⟩] := by
 have hA := spec_AddrAt l r hl
 have hbd := addrAt_bd l r
 have hf := @dropAddr_f l r
 have ht := fun n => @dropAddr_t l r n
 generalize dropAddr l r = R at *
 refine qE Tryz.func221 Tryz.ntmps221 Tryz.results221 fun E hE => ?_
 refine qK (hA) (qA [0]) ?_
 rcases hbd with hk | ⟨hb0, hb1⟩
 ·rw [hf hk, hk]
  refine qX ?_
  exact qF (qA [0, 2])
 ·obtain ⟨n, hk⟩ := Int.eq_ofNat_of_zero_le hb0
  have hlt : (l.take n).length = n := by simp; omega
  have hlt2 : (List.take n (List.map AddrD.cs l)).length = n := by simp; omega
  rw [ht _ hk, hk]
  refine qX ?_
  refine qJ (qA [0, 3]) ?_
  rw [← List.map_take]
  exact del_cells (by omega)
theorem spec_PutAddr (l : List AddrD) (a : AddrD) (hl : l.length ≤ 1048576) : CallA Tryz.prog 158 [.sc (.sl 0 0 l.length), .ag a.cs] [some ⟨l.map AddrD.cs, 4, 80, false, true⟩]
  (.tu [.sc (.sl 1 0 (putAddr l a).1.length), .sc (.bo (putAddr l a).2)]) [some ⟨l.map AddrD.cs, 4, 80, false, true⟩, some ⟨(putAddr l a).1.map AddrD.cs, 4, 80, true, true⟩] := by
 have hA := spec_AddrAt l a.id (by omega)
 have hbd := addrAt_bd l a.id
 have hO := spec_AddrsOk (putAddrL l a) (by have := putAddrL_len l a; omega)
 have hll := putAddrL_len l a
 have hLt := fun k => @putAddrL_t l a k
 have hLf := fun k => @putAddrL_f l a k
 have ht := putAddr_t (l := l) (a := a)
 have hf := putAddr_f (l := l) (a := a)
 have hbig := putAddr_big (l := l) (a := a)
 generalize putAddrL l a = L at *
 generalize putAddr l a = R at *
 refine qE Tryz.func158 Tryz.ntmps158 Tryz.results158 fun E hE => ?_
 refine qB (fun h0 => ?_) fun h0 => ?_
 ·rw [hbig (by omega)]
  refine qX ?_
  exact qF (qA [0, 3])
 ·refine qX ?_
  refine qK (hA) (qA [0]) ?_
  rcases hbd with hat | ⟨hb0, hb1⟩
  ·rw [hat]
   refine qX ?_
   refine den_lp 1 hE (fun s (k : Nat) => s.at [1, 9, 10, 11, 12, 13, 14, 15, 16, 17, 18, 19, 20, 21, 22, 23, 24, 25, 26, 27, 28, 29, 30, 31, 32, 33, 34, 35, 36, 37, 38, 39, 40, 41, 42, 43, 44] [(8, .sc (.int .i64 (k : Nat)))] (s.hp)) (fun (k : Nat) => k ≤ l.length ∧ k + ((l.drop k).takeWhile (fun b => decide (b.id < a.id))).length = lowN l a.id) (fun (k : Nat) => l.length - k) 0 (qA [0, 1, 2, 3, 4, 5]) (qC) (⟨Nat.zero_le _, by simp [lowN]⟩) (weak_mk (by rfl) (by rfl) ?_) fun k hk N hN => ?_
   ·exact qY
   ·obtain ⟨hk1, hk2⟩ := hk
    refine qR ?_
    refine qD [0, 1, 2, 3, 4, 5, 6, 7, 8, 9, 10, 11, 12, 13] ?_
    refine qB (fun h => ?_) fun h => ?_
    ·refine ⟨qC, run_den 400 ?_⟩
     rw [tw_step h] at hk2
     refine qX ?_
     refine qB (fun h2 => ?_) fun h2 => ?_
     ·rw [if_pos (by simp [h2])] at hk2
      exact qN hN (k + 1) (qA [0, 1, 2, 3, 4, 5]) (by (try dsimp only); exact ⟨by omega, by omega⟩)
     ·rw [if_neg (by simp; omega)] at hk2
      have hq := hLf k hat (by omega)
      have e1 : (l.take k).map AddrD.cs ++ [a.cs] ++ ((l.map AddrD.cs).drop k).take (l.length - k) = L.map AddrD.cs := by rw [hq]; exact (ins_cells rfl hk1).2
      have e2 : k + 1 + (l.length - k) = L.length := by rw [hq]; simp; omega
      have hlt : (l.take k).length = k := by simp; omega
      have hlt2 : ((l.map AddrD.cs).take k).length = k := by simp; omega
      have e3 : ((l.map AddrD.cs).take k) = (l.take k).map AddrD.cs := List.map_take.symm
      simp only [AddrD.cs] at e1
      refine den_drawC [(0, 5), (0, 6), (4, 5), (4, 6)] [[1, 2, 3, 0, 4, 5, 6, 7, 8], [1, 2, 3, 0, 5, 4, 6, 7, 8], [1, 2, 3, 0, 5, 6, 4, 7, 8], [1, 2, 3, 5, 0, 4, 6, 7, 8], [1, 2, 3, 5, 0, 6, 4, 7, 8], [1, 2, 3, 5, 6, 0, 4, 7, 8]] (by kernel_rfl) (qC) (by kernel_rfl) ?_
      simp only [allDn]
      refine ⟨runD_den 400 ?_, runD_den 400 ?_, runD_den 400 ?_, runD_den 400 ?_, runD_den 400 ?_, runD_den 400 ?_⟩
      all_goals simp (disch := omega) only [go_sem, Nat.reduceEqDiff, Nat.reduceAdd, Nat.reduceSub, Int.reduceAdd, Int.reduceSub, Int.reduceToNat]
      all_goals
       refine ⟨qC, run_den 400 ?_⟩
       try simp (disch := omega) only [go_sem, Nat.reduceEqDiff, Nat.reduceAdd, Nat.reduceSub, Int.reduceAdd, Int.reduceSub, Int.reduceToNat, e1, e2, e3]
       refine qK (hO) (qA [10]) ?_
       refine qB (fun h9 => ?_) fun h9 => ?_
       ·rw [hf h9]
        refine qX ?_
        exact qF (qA [0, 3])
       ·rw [ht h9]
        refine qX ?_
        exact qF (qA [0, 10])
    ·refine ⟨qC, run_den 400 ?_⟩
     rw [tw_end (by omega)] at hk2
     refine qX ?_
     have hq := hLf k hat (by omega)
     have e1 : (l.take k).map AddrD.cs ++ [a.cs] ++ ((l.map AddrD.cs).drop k).take (l.length - k) = L.map AddrD.cs := by rw [hq]; exact (ins_cells rfl hk1).2
     have e2 : k + 1 + (l.length - k) = L.length := by rw [hq]; simp; omega
     have hlt : (l.take k).length = k := by simp; omega
     have hlt2 : ((l.map AddrD.cs).take k).length = k := by simp; omega
     have e3 : ((l.map AddrD.cs).take k) = (l.take k).map AddrD.cs := List.map_take.symm
     simp only [AddrD.cs] at e1
     refine den_drawC [(0, 5), (0, 6), (4, 5), (4, 6)] [[1, 2, 3, 0, 4, 5, 6, 7, 8], [1, 2, 3, 0, 5, 4, 6, 7, 8], [1, 2, 3, 0, 5, 6, 4, 7, 8], [1, 2, 3, 5, 0, 4, 6, 7, 8], [1, 2, 3, 5, 0, 6, 4, 7, 8], [1, 2, 3, 5, 6, 0, 4, 7, 8]] (by kernel_rfl) (qC) (by kernel_rfl) ?_
     simp only [allDn]
     refine ⟨runD_den 400 ?_, runD_den 400 ?_, runD_den 400 ?_, runD_den 400 ?_, runD_den 400 ?_, runD_den 400 ?_⟩
     all_goals simp (disch := omega) only [go_sem, Nat.reduceEqDiff, Nat.reduceAdd, Nat.reduceSub, Int.reduceAdd, Int.reduceSub, Int.reduceToNat]
     all_goals
      refine ⟨qC, run_den 400 ?_⟩
      try simp (disch := omega) only [go_sem, Nat.reduceEqDiff, Nat.reduceAdd, Nat.reduceSub, Int.reduceAdd, Int.reduceSub, Int.reduceToNat, e1, e2, e3]
      refine qK (hO) (qA [10]) ?_
      refine qB (fun h9 => ?_) fun h9 => ?_
      ·rw [hf h9]
       refine qX ?_
       exact qF (qA [0, 3])
      ·rw [ht h9]
       refine qX ?_
       exact qF (qA [0, 10])
  ·obtain ⟨n, hk⟩ := Int.eq_ofNat_of_zero_le hb0
   have hn : n < l.length := by omega
   have e := addr_set l n a
   simp only [AddrD.cs] at e
   rw [hLt n hk] at hO ht hf
   rw [List.length_set] at hO
   rw [hk]
   try simp (disch := omega) only [go_sem, Nat.reduceEqDiff, Nat.reduceAdd, Nat.reduceSub, Int.reduceAdd, Int.reduceSub, Int.reduceToNat, e]
   refine qK (hO) (qA [5]) ?_
   refine qB (fun h1 => ?_) fun h1 => ?_
   ·rw [hf h1]
    refine qX ?_
    exact qF (qA [0, 3])
   ·rw [ht h1]
    try simp only [List.length_set]
    refine qX ?_
    exact qF (qA [0, 5])
end
section
open Go.RowKit

theorem spec_BucketNew (r b : Int) : CallA Tryz.prog 170 [.sc (.int .i64 r), .sc (.int .i64 b)] [] (.tu [.ag (BucketD.cs (if bucketOk ⟨r, b, b⟩ then ⟨r, b, b⟩ else ⟨0, 0, 0⟩)), .sc (.bo (bucketOk ⟨r, b, b⟩))]) [] := by
 obtain ⟨R, hR⟩ : ∃ R, R = (if bucketOk ⟨r, b, b⟩ then (⟨r, b, b⟩ : BucketD) else ⟨0, 0, 0⟩) := ⟨_, rfl⟩
 rw [← hR]
 refine qE Tryz.func170 Tryz.ntmps170 Tryz.results170 fun E hE => ?_
 refine qK (spec_BucketOk ⟨r, b, b⟩) [] ?_
 refine qB (fun h1 => ?_) fun h1 => ?_
 ·rw [h1, if_neg (by simp)] at hR
  subst hR
  refine den_fin [] (qC) _ (by simp only [go_sem]; rfl) (by rfl) (by rfl) ?_
  simp (disch := omega) only [go_sem, Nat.reduceEqDiff, Nat.reduceAdd, Nat.reduceSub, Int.reduceAdd, Int.reduceSub, Int.reduceToNat]
  try exact ⟨⟨rfl, rfl, rfl⟩, h1⟩
 ·rw [h1, if_pos rfl] at hR
  subst hR
  refine den_fin [] (qC) _ (by simp only [go_sem]; rfl) (by rfl) (by rfl) ?_
  simp (disch := omega) only [go_sem, Nat.reduceEqDiff, Nat.reduceAdd, Nat.reduceSub, Int.reduceAdd, Int.reduceSub, Int.reduceToNat]
  try exact ⟨⟨rfl, rfl, rfl⟩, h1⟩
theorem putAddr_own (n : Int) : putAddr [] ⟨0, n, false, true⟩ = if addrsOk (ownOne n) then (ownOne n, true) else ([], false) := rfl
theorem bucket13 : bucketOk ⟨1, 3, 3⟩ = true := by decide
theorem endNew_f {who n : Int} {p : PolicyD} (h : (inR who 1 2 && polOk p && addrsOk (ownOne n)) = false) : endNew who n p = (endZero, false) := by rw [endNew, if_neg (by simp [h])]
theorem endNew_t {who n : Int} {p : PolicyD} (h : (inR who 1 2 && polOk p && addrsOk (ownOne n)) = true) : endNew who n p = (⟨who, 0, 0, 0, p, ownOne n, [], [], [], ⟨1, 3, 3⟩, ⟨[], 0, 0, 120⟩, ⟨0, [], []⟩, [], [], 1000 + who, 0, 0⟩, true) := if_pos h
theorem spec_EndNew (who n : Int) (p : PolicyD) : CallA Tryz.prog 149 [.sc (.int .i64 who), .sc (.int .i64 n), .ag p.cs] [] (.tu [.ag ((endNew who n p).1.cs 0), .sc (.bo (endNew who n p).2)]) ((endNew who n p).1.hp true) := by
 have hA := spec_PutAddr [] ⟨0, n, false, true⟩ (by simp)
 have hB := spec_BucketNew 1 3
 rw [bucket13, if_pos rfl] at hB
 rw [putAddr_own] at hA
 have hf := @endNew_f who n p
 have ht := @endNew_t who n p
 generalize endNew who n p = R at *
 have hl : (ownOne n).length = 1 := rfl
 cases hok : addrsOk (ownOne n) with
 | false =>
  rw [hok, if_neg (by simp)] at hA
  rw [hf (by simp [hok])]
  refine qE Tryz.func149 Tryz.ntmps149 Tryz.results149 fun E hE => ?_
  refine qK (hA) (qA [2]) ?_
  refine qK (spec_l01In _ _ _) [] ?_
  refine qB (fun h1 => ?_) fun h1 => ?_
  ·refine qK (spec_PolicyOk p) [] ?_
   refine qB (fun h2 => ?_) fun h2 => ?_
   ·refine qJ [none, none, none, none, none, none, none] ?_
    simp [endZero]
   ·refine qJ [none, none, none, none, none, none, none] ?_
    simp [endZero]
  ·refine qJ [none, none, none, none, none, none, none] ?_
   simp [endZero]
 | true =>
  rw [hok, if_pos rfl] at hA
  refine qE Tryz.func149 Tryz.ntmps149 Tryz.results149 fun E hE => ?_
  refine qK (hA) (qA [2]) ?_
  refine qK (spec_l01In _ _ _) [] ?_
  refine qB (fun h1 => ?_) fun h1 => ?_
  ·refine qK (spec_PolicyOk p) [] ?_
   refine qB (fun h2 => ?_) fun h2 => ?_
   ·rw [ht (by simp [h1, h2, hok])]
    simp only [inR, Bool.and_eq_true, decide_eq_true_eq] at h1
    refine qX ?_
    refine qK (hB) [] ?_
    exact qF [some (3, none), none, none, none, none, none, none]
   ·rw [hf (by simp [h2])]
    refine qX ?_
    refine qJ [none, none, none, none, none, none, none] ?_
    simp [endZero]
  ·rw [hf (by simp [h1])]
   refine qJ [none, none, none, none, none, none, none] ?_
   simp [endZero]
theorem openE_f {e : EndD} {n : Int} (h : openOk e n = false) : openE e n = (e, []) := by rw [openE, if_neg (by simp [h])]
theorem openE_t {e : EndD} {n : Int} {a : AddrD} (h : openOk e n = true) (ha : e.own.getD 0 default = a) : openE e n = ({ e with state := 1, key := e.draw, subs := e.subs ++ [⟨⟨a.addr, n, 0⟩, 1, false, 0, 0, 0, e.draw + 2, 0⟩], draw := e.draw + 4 },
  [between ⟨a.addr, n, 0⟩ { letNone with kind := 1, key := e.draw, give := e.draw + 2 }]) := by rw [openE, if_pos h, openRoad, ha]
theorem spec_Open (e : EndD) (n : Int) (hs : Small e) : CallA Tryz.prog 171 [.ag (e.cs 0), .sc (.int .i64 n)] (e.hp false) (.tu [.ag ((openE e n).1.cs 7), .sc (.sl 14 0 (openE e n).2.length)])
  (e.hp false ++ ((openE e n).1.hp true ++ [some ⟨(openE e n).2.map LetterD.cs, 19, 67, true, true⟩])) := by
 have hC := spec_l17Copy e (by have := hs.own; omega) (by have := hs.far; omega) (by have := hs.subs; omega) (by have := hs.halfs; omega) (by have := hs.list; omega) (by have := hs.done; omega) (by have := hs.over; omega)
 have hK := spec_EndOk e (by have := hs.own; omega) (by have := hs.far; omega) (by have := hs.subs; omega) (by have := hs.halfs; omega) (by have := hs.list; omega) (by have := hs.done; omega) (by have := hs.over; omega)
 have hf := openE_f (e := e) (n := n)
 have ht := @openE_t e n
 have hk := openOk.eq_1 e n
 have hS := fun r => spec_SubAt e r (by have := hs.subs; omega)
 rw [openRoad] at hk
 generalize openE e n = R at *
 refine qE Tryz.func171 Tryz.ntmps171 Tryz.results171 fun E hE => ?_
 refine qK (hC) (qA [0, 1, 2, 3, 4, 5, 6]) ?_
 refine qD [0, 1, 2, 3, 4, 5, 6, 7, 8, 9, 10, 11, 12, 13, 14, 15, 16, 17, 18, 19, 20, 21, 22, 23, 24, 25, 26, 27, 28, 29, 30, 31, 32, 33, 34, 35, 36, 37, 38, 39, 40, 41] ?_
 refine qKD (hK) (qA [0, 1, 2, 3, 4, 5, 6]) ?_
 refine qB (fun h1 => ?_) fun h1 => ?_
 ·refine qB (fun h2 => ?_) fun h2 => ?_
  ·refine qB (fun h3 => ?_) fun h3 => ?_
   ·refine qKD (spec_l01In _ _ _) [] ?_
    refine qB (fun h4 => ?_) fun h4 => ?_
    ·obtain ⟨a, ha⟩ : ∃ a, e.own[0]'(by omega) = a := ⟨_, rfl⟩
     have ha2 : e.own.getD 0 default = a := by rw [← ha, List.getD_eq_getElem?_getD, List.getElem?_eq_getElem (by omega)]; rfl
     rw [ha2] at hk
     try simp (disch := omega) only [go_sem, Nat.reduceEqDiff, Nat.reduceAdd, Nat.reduceSub, Int.reduceAdd, Int.reduceSub, Int.reduceToNat, ha]
     refine qKD (hS ⟨a.addr, n, 0⟩) (qA [0, 1, 2, 3, 4, 5, 6]) ?_
     refine qB (fun h7 => ?_) fun h7 => ?_
     ·refine qB (fun h5 => ?_) fun h5 => ?_
      ·refine qKD (spec_l18Room2 e) (qA [0, 1, 2, 3, 4, 5, 6]) ?_
       refine qG ?_
       refine qB (fun h6 => ?_) fun h6 => ?_
       ·rw [hf (by rw [hk]; first | (simp [h6]; done) | (simp [h6]; intros; omega))]
        exact qF (qA [0, 1, 2, 3, 4, 5, 6, 9, 10, 11, 12, 13, 14, 15, 17])
       ·rw [ht (a := a) (by rw [hk, h1, h4, h6, decide_eq_true (by omega : e.state = 0), decide_eq_false (by omega : ¬ e.own.length = 0), decide_eq_true (by have := endOk_subs h1; omega : e.subs.length < 8), decide_eq_true (by omega : subAt e.subs ⟨a.addr, n, 0⟩ < 0)]; rfl) ha2]
        have h8' := h6
        simp only [inR, Bool.and_eq_true, decide_eq_true_eq] at h8'
        have hd1 : inR e.draw 1 999999998 = true := by simp only [inR, Bool.and_eq_true, decide_eq_true_eq]; omega
        have hd2 : inR (e.draw + 2) 1 999999998 = true := by simp only [inR, Bool.and_eq_true, decide_eq_true_eq]; omega
        refine qK (spec_l18Draw e hs hd1) (qA [9, 10, 11, 12, 13, 14, 15]) ?_
        refine qK (spec_l18Draw { e with draw := e.draw + 2 } ⟨hs.own, hs.far, hs.subs, hs.halfs, hs.list, hs.done, hs.over⟩ hd2) (qA [18, 19, 20, 21, 22, 23, 24]) ?_
        try simp (disch := omega) only [go_sem, Nat.reduceEqDiff, Nat.reduceAdd, Nat.reduceSub, Int.reduceAdd, Int.reduceSub, Int.reduceToNat, ha]
        refine qK (spec_l18Sub { e with state := 1, key := e.draw, draw := e.draw + 2 + 2 } ⟨⟨a.addr, n, 0⟩, 1, false, 0, 0, 0, e.draw + 2, 0⟩ (by have := endOk_subs h1; dsimp only; omega)) (qA [25, 26, 27, 28, 29, 30, 31]) ?_
        refine den_drawC [(0, 9), (7, 0), (8, 0)] [[1, 2, 3, 4, 5, 6, 7, 8, 0, 9, 10, 11], [1, 2, 3, 4, 5, 6, 7, 0, 8, 9, 10, 11], [1, 2, 3, 4, 5, 6, 0, 7, 8, 9, 10, 11], [1, 2, 3, 4, 5, 6, 7, 8, 9, 0, 10, 11]] (by kernel_rfl) (qC) (by kernel_rfl) ?_
        simp only [allDn]
        refine ⟨runD_den 400 ?_, runD_den 400 ?_, runD_den 400 ?_, runD_den 400 ?_⟩
        all_goals simp (disch := omega) only [go_sem, Nat.reduceEqDiff, Nat.reduceAdd, Nat.reduceSub, Int.reduceAdd, Int.reduceSub, Int.reduceToNat]
        all_goals
         refine qKD (spec_Between ⟨a.addr, n, 0⟩ { letNone with kind := 1, key := e.draw, give := e.draw + 2 }) [] ?_
         refine qG ?_
         refine den_fin (qA [0, 1, 2, 3, 4, 5, 6, 25, 26, 33, 28, 29, 30, 31, 35]) (qC) _ (by simp only [go_sem]; rfl) (by rfl) (by rfl) ?_
         simp (disch := omega) only [go_sem, Nat.reduceEqDiff, Nat.reduceAdd, Nat.reduceSub, Int.reduceAdd, Int.reduceSub, Int.reduceToNat]
         try simp [SubD.cs, LetterD.cs, between, letNone]
         try omega
      ·rw [hf (by rw [hk]; first | (simp [h5]; done) | (simp [h5]; intros; omega))]
       refine qG ?_
       exact qF (qA [0, 1, 2, 3, 4, 5, 6, 9, 10, 11, 12, 13, 14, 15, 17])
     ·rw [hf (by rw [hk]; first | (simp [h7]; done) | (simp [h7]; intros; omega))]
      refine qG ?_
      exact qF (qA [0, 1, 2, 3, 4, 5, 6, 9, 10, 11, 12, 13, 14, 15, 17])
    ·rw [hf (by rw [hk]; first | (simp [h4]; done) | (simp [h4]; intros; omega))]
     refine qG ?_
     exact qF (qA [0, 1, 2, 3, 4, 5, 6, 9, 10, 11, 12, 13, 14, 15, 17])
   ·rw [hf (by rw [hk, decide_eq_true (by omega : e.own.length = 0)]; simp)]
    refine qG ?_
    exact qF (qA [0, 1, 2, 3, 4, 5, 6, 9, 10, 11, 12, 13, 14, 15, 17])
  ·rw [hf (by rw [hk]; first | (simp [h2]; done) | (simp [h2]; intros; omega))]
   refine qG ?_
   exact qF (qA [0, 1, 2, 3, 4, 5, 6, 9, 10, 11, 12, 13, 14, 15, 17])
 ·rw [hf (by rw [hk]; first | (simp [h1]; done) | (simp [h1]; intros; omega))]
  refine qG ?_
  exact qF (qA [0, 1, 2, 3, 4, 5, 6, 9, 10, 11, 12, 13, 14, 15, 17])
end
section
open Go.RowKit

def hbF (a : EndD) (y : LetterD) : EndD := (hearBack a y).1
theorem meet_0 {a b : EndD} (h : b.own.length = 0) : meet a b = (a, b, false) := if_pos h
theorem meet_t {a b : EndD} {h : AddrD} {x : EndD} {L : List LetterD} (hn : ¬ b.own.length = 0) (hb : b.own.getD 0 default = h) (ho : openE a h.addr = (x, L)) : meet a b = ((meetGo x L b).1, (meetGo x L b).2, metB (meetGo x L b).1 (meetGo x L b).2) := by
 rw [meet, if_neg hn, hb, ho]
theorem openE_one (a : EndD) (n : Int) : (openE a n).2.length ≤ 1 := by rw [openE]; split <;> simp
theorem openE_small {a : EndD} {n : Int} (hs : Small a) : Small (openE a n).1 := by
 rw [openE]; split
 ·rename_i h
  simp only [openOk, Bool.and_eq_true, decide_eq_true_eq] at h
  exact ⟨hs.own, hs.far, by simp only [List.length_append, List.length_singleton]; omega, hs.halfs, hs.list, hs.done, hs.over⟩
 ·exact hs
theorem hello_small {e : EndD} {x : LetterD} (hs : Small e) : Small (hearHello e x).1 := by
 rw [hearHello]; split
 ·rename_i h
  simp only [helloOk, Bool.and_eq_true, decide_eq_true_eq] at h
  exact ⟨hs.own, by simp [farOne], by simp only [List.length_append, List.length_singleton]; omega, hs.halfs, hs.list, hs.done, hs.over⟩
 ·exact hs
theorem back_small {e : EndD} {x : LetterD} (hs : Small e) : Small (hearBack e x).1 := by
 rw [hearBack]; split
 ·exact ⟨hs.own, by simp [farOne], by simpa only [List.length_set] using hs.subs, hs.halfs, hs.list, hs.done, hs.over⟩
 ·exact hs
theorem hello_one {e : EndD} {x : LetterD} : (hearHello e x).2.length ≤ 1 := by rw [hearHello]; split <;> simp
theorem foldB_step {x : EndD} {l : List LetterD} {k : Nat} (h : k < l.length) : (l.drop k).foldl hbF x = (l.drop (k + 1)).foldl hbF (hearBack x l[k]).1 := by
 rw [List.drop_eq_getElem_cons h]; rfl
theorem foldB_end {x : EndD} {l : List LetterD} {k : Nat} (h : l.length ≤ k) : (l.drop k).foldl hbF x = x := by
 rw [List.drop_eq_nil_of_le h]; rfl
theorem meetGo_one (x : EndD) (l : LetterD) (b : EndD) : meetGo x [l] b = ((hearHello b l).2.foldl hbF x, (hearHello b l).1) := rfl
theorem meet_got {x b y X Y : EndD} {L bk : List LetterD} {k : Nat} (hXY : meetGo x L b = (X, Y)) (hL : L.length ≤ 1) (hk : L.length ≤ k) (f1 : k ≤ L.length) (f4 : (k = 0 ∧ y = b ∧ bk = []) ∨ (k = 1 ∧ L.length = 1 ∧ ∀ h : 0 < L.length, (y, bk) = hearHello b L[0])) : bk.foldl hbF x = X ∧ y = Y := by
 refine f4.elim (fun h => ?_) (fun h => ?_)
 ·have : L = [] := List.eq_nil_of_length_eq_zero (by have := h.1; omega)
  subst this
  rw [h.2.1, h.2.2]
  exact ⟨congrArg Prod.fst hXY, congrArg Prod.snd hXY⟩
 ·have hl := List.length_eq_one_iff.1 h.2.1
  refine hl.elim fun l hl => ?_
  subst hl
  have h2 := h.2.2 (by simp)
  simp only [List.getElem_cons_zero] at h2
  rw [meetGo_one, ← h2] at hXY
  exact ⟨congrArg Prod.fst hXY, congrArg Prod.snd hXY⟩
theorem metB_cases (x y : EndD) : (x.state ≠ 2 ∧ metB x y = false) ∨ (x.state = 2 ∧ y.state ≠ 2 ∧ metB x y = false) ∨ (x.state = 2 ∧ y.state = 2 ∧ x.peer ≠ y.key ∧ metB x y = false) ∨ (x.state = 2 ∧ y.state = 2 ∧ x.peer = y.key ∧ y.peer ≠ x.key ∧ metB x y = false) ∨ (x.state = 2 ∧ y.state = 2 ∧ x.peer = y.key ∧ y.peer = x.key ∧ metB x y = true) := by
 by_cases h1 : x.state = 2
 ·by_cases h2 : y.state = 2
  ·by_cases h3 : x.peer = y.key
   ·by_cases h4 : y.peer = x.key
    ·simp [metB, h1, h2, h3, h4]
    ·simp [metB, h1, h2, h3, h4]
   ·simp [metB, h1, h2, h3]
  ·simp [metB, h1, h2]
 ·simp [metB, h1]
theorem spec_Meet (a b : EndD) (ha : Small a) (hb : Small b) : CallA Tryz.prog 150 [.ag (a.cs 0), .ag (b.cs 7)] (a.hp false ++ b.hp false) (.tu [.ag ((meet a b).1.cs 14), .ag ((meet a b).2.1.cs 21), .sc (.bo (meet a b).2.2)])
  (a.hp false ++ (b.hp false ++ ((meet a b).1.hp true ++ (meet a b).2.1.hp true))) := by
 have hCa := spec_l17Copy a (by have := ha.own; omega) (by have := ha.far; omega) (by have := ha.subs; omega) (by have := ha.halfs; omega) (by have := ha.list; omega) (by have := ha.done; omega) (by have := ha.over; omega)
 have hCb := spec_l17Copy b (by have := hb.own; omega) (by have := hb.far; omega) (by have := hb.subs; omega) (by have := hb.halfs; omega) (by have := hb.list; omega) (by have := hb.done; omega) (by have := hb.over; omega)
 have h0 := @meet_0 a b
 have ht := @meet_t a b
 have hbo := hb.own
 obtain ⟨R, hR⟩ : ∃ R, R = meet a b := ⟨_, rfl⟩
 rw [← hR] at h0 ht ⊢
 clear hR
 refine qEO Tryz.func150 Tryz.ntmps150 Tryz.results150 fun E hE => ?_
 refine qB (fun h1 => ?_) fun h1 => ?_
 ·rw [h0 (by omega)]
  refine qD [0, 2, 1, 3, 4, 5, 6] ?_
  refine qKD (hCa) (qA [0, 1, 2, 3, 4, 5, 6]) ?_
  refine qKD (hCb) (qA [7, 8, 9, 10, 11, 12, 13]) ?_
  refine qG ?_
  exact qFO (qA [0, 1, 2, 3, 4, 5, 6, 7, 8, 9, 10, 11, 12, 13, 18, 19, 20, 21, 22, 23, 24, 25, 26, 27, 28, 29, 30, 31])
 ·obtain ⟨d, hd⟩ : ∃ d, b.own[0]'(by omega) = d := ⟨_, rfl⟩
  have hd2 : b.own.getD 0 default = d := by rw [← hd, List.getD_eq_getElem?_getD, List.getElem?_eq_getElem (by omega)]; rfl
  have hO := spec_Open a d.addr ha
  have hx1 := openE_one a d.addr
  have hxs := openE_small (n := d.addr) ha
  obtain ⟨P, hP⟩ : ∃ P, P = openE a d.addr := ⟨_, rfl⟩
  rw [← hP] at hO hx1 hxs
  obtain ⟨x, L⟩ := P
  dsimp only at hO hx1 hxs
  have ht := ht (by omega) hd2 hP.symm
  clear hP
  obtain ⟨X, Y, hXY⟩ : ∃ X Y, meetGo x L b = (X, Y) := ⟨_, _, rfl⟩
  rw [hXY] at ht
  dsimp only at ht
  subst ht
  refine qX ?_
  refine den_drawX [(6, 10)] [] [[0, 1, 2, 3, 4, 5, 6, 7, 8, 9, 10, 11, 12], [0, 1, 2, 3, 4, 5, 10, 6, 7, 8, 9, 11, 12]] 14 hE (fun s => s.at [21, 22, 23, 24, 25, 26, 27, 28, 29, 30] [(7, .sc (.pt 26 0 0)), (8, .sc (.sl 25 0 L.length))] (s.hp ++ (x.hp true ++ [some ⟨L.map LetterD.cs, 19, 67, true, true⟩, some ⟨[EndD.cs x 18], 25, 38, true, false⟩]))) (by kernel_rfl) (qC) (by kernel_rfl) ?_ (run_den 400 ?_)
  rotate_left
  rotate_right
  simp only [allDn]
  refine ⟨runD_den 400 ?_, runD_den 400 ?_⟩
  ·try simp (disch := omega) only [go_sem, Nat.reduceEqDiff, Nat.reduceAdd, Nat.reduceSub, Int.reduceAdd, Int.reduceSub, Int.reduceToNat, hd]
   refine qKD (hO) (qA [0, 1, 2, 3, 4, 5, 6]) ?_
   refine ⟨qC, (qA [0, 1, 2, 3, 4, 5, 6, 7, 8, 9, 10, 11, 12, 13, 14, 15, 16, 17, 18, 19, 20, 21, 22, 23, 24, 25, 26]), weak_mkO (by rfl) (by rfl) ?_⟩
   try simp (disch := omega) only [go_sem, Nat.reduceEqDiff, Nat.reduceAdd, Nat.reduceSub, Int.reduceAdd, Int.reduceSub, Int.reduceToNat]
  ·try simp (disch := omega) only [go_sem, Nat.reduceEqDiff, Nat.reduceAdd, Nat.reduceSub, Int.reduceAdd, Int.reduceSub, Int.reduceToNat, hd]
   refine qKD (hO) (qA [0, 1, 2, 3, 4, 5, 6]) ?_
   refine ⟨qC, (qA [0, 1, 2, 3, 4, 5, 6, 7, 8, 9, 10, 11, 12, 13, 14, 15, 16, 17, 19, 20, 21, 22, 23, 24, 25, 26, 18]), weak_mkO (by rfl) (by rfl) ?_⟩
   try simp (disch := omega) only [go_sem, Nat.reduceEqDiff, Nat.reduceAdd, Nat.reduceSub, Int.reduceAdd, Int.reduceSub, Int.reduceToNat]
  refine qX ?_
  refine qK (hCb) (qA [7, 8, 9, 10, 11, 12, 13]) ?_
  refine den_lpO 14 hE (fun s (y : Nat × EndD × List LetterD) => s.at [0, 1, 2, 13, 14, 15, 16, 17, 18, 19, 20, 21, 22, 23, 24, 25, 26, 27, 28, 29, 30, 31, 32, 33, 34, 35, 36, 37, 38, 39, 40, 41, 42, 43, 44, 45, 46, 47, 48] [(11, .sc (.int .i64 (y.1 : Nat))), (10, .sc (.sl 35 0 y.2.2.length))] ((s.hp.take 27) ++ (y.2.1.hp true ++ [some ⟨[EndD.cs y.2.1 27], 25, 38, true, false⟩, some ⟨y.2.2.map LetterD.cs, 19, 67, true, true⟩]))) (fun (y : Nat × EndD × List LetterD) => y.1 ≤ L.length ∧ Small y.2.1 ∧ y.2.2.length ≤ 1 ∧ ((y.1 = 0 ∧ y.2.1 = b ∧ y.2.2 = []) ∨ (y.1 = 1 ∧ L.length = 1 ∧ ∀ h : 0 < L.length, y.2 = hearHello b L[0]))) (fun (y : Nat × EndD × List LetterD) => L.length - y.1) (0, b, []) (qA [0, 1, 2, 3, 4, 5, 6, 7, 8, 9, 10, 11, 12, 13, 14, 15, 16, 17, 18, 19, 20, 21, 22, 23, 24, 25, 26, 27, 28, 29, 30, 31, 32, 33, 34, 35]) (qC) (⟨Nat.zero_le _, hb, by simp, .inl ⟨rfl, rfl, rfl⟩⟩) (weak_mkO (by rfl) (by rfl) ?_) fun y hy N hN => ?_
  ·exact qY
  ·obtain ⟨k, y, bk⟩ := y
   obtain ⟨f1, f2, f3, f4⟩ := hy
   dsimp only at f1 f2 f3 f4
   refine qR ?_
   refine qB (fun b1 => ?_) fun b1 => ?_
   ·have hgl := map_get (enc := LetterD.cs) b1
    obtain rfl : k = 0 := by omega
    have hH := spec_HearHello b L[0] hb
    have hHs := hello_small (x := L[0]) hb
    have hH1 := hello_one (e := b) (x := L[0])
    generalize hl0 : L[0] = l0 at *
    obtain ⟨Q, hQ⟩ : ∃ Q, Q = hearHello b l0 := ⟨_, rfl⟩
    rw [← hQ] at hH hHs hH1
    try simp (disch := omega) only [go_sem, Nat.reduceEqDiff, Nat.reduceAdd, Nat.reduceSub, Int.reduceAdd, Int.reduceSub, Int.reduceToNat, hl0]
    refine qD [0, 1, 2, 3, 4, 5, 6, 7, 8, 9, 10] ?_
    try simp (disch := omega) only [go_sem, Nat.reduceEqDiff, Nat.reduceAdd, Nat.reduceSub, Int.reduceAdd, Int.reduceSub, Int.reduceToNat, hl0]
    refine qKD (hH) (qA [7, 8, 9, 10, 11, 12, 13]) ?_
    refine qG ?_
    exact qNO hN (1, Q.1, Q.2) (qA [0, 1, 2, 3, 4, 5, 6, 7, 8, 9, 10, 11, 12, 13, 14, 15, 16, 17, 18, 19, 20, 21, 22, 23, 24, 25, 26, 36, 37, 38, 39, 40, 41, 42, 34, 43]) (by (try dsimp only); exact ⟨by omega, hHs, hH1, .inr ⟨rfl, by omega, fun h => by rw [hl0, ← hQ]⟩⟩)
   ·obtain ⟨g1, g2⟩ := meet_got hXY hx1 (show L.length ≤ k by omega) f1 f4
    subst g2
    clear f4 f1
    refine qX ?_
    refine den_lpO 14 hE (fun s (z : Nat × EndD) => s.at [0, 1, 2, 3, 8, 11, 13, 14, 15, 16, 17, 18, 19, 20, 21, 22, 23, 24, 25, 26, 27, 28, 29, 30, 31, 32, 33, 34, 35, 36, 37, 38, 39, 40, 41, 42, 43, 44, 45, 46, 47, 48, 49, 50, 51, 52, 53, 54, 55, 56, 57, 58, 59, 60, 61, 62, 63] [(12, .sc (.int .i64 (z.1 : Nat)))] ((s.hp.take 18) ++ (z.2.hp true ++ (((s.hp.drop 25).take 1) ++ (some ⟨[EndD.cs z.2 18], 25, 38, true, false⟩ :: s.hp.drop 27))))) (fun (z : Nat × EndD) => z.1 ≤ bk.length ∧ Small z.2 ∧ (bk.drop z.1).foldl hbF z.2 = X) (fun (z : Nat × EndD) => bk.length - z.1) (0, x) (qA [0, 1, 2, 3, 4, 5, 6, 7, 8, 9, 10, 11, 12, 13, 14, 15, 16, 17, 18, 19, 20, 21, 22, 23, 24, 25, 26, 27, 28, 29, 30, 31, 32, 33, 34, 35]) (qC) (⟨Nat.zero_le _, hxs, g1⟩) (weak_mkO (by rfl) (by rfl) ?_) fun z hz N2 hN2 => ?_
    ·exact qY
    ·obtain ⟨j, u⟩ := z
     obtain ⟨q1, q2, q3⟩ := hz
     dsimp only at q1 q2 q3
     refine qR ?_
     refine qB (fun b2 => ?_) fun b2 => ?_
     ·have hgm := map_get (enc := LetterD.cs) b2
      rw [foldB_step b2] at q3
      have hB := spec_HearBack u bk[j] q2
      have hBs := back_small (x := bk[j]) q2
      generalize hm0 : bk[j] = m at *
      obtain ⟨Q, hQ⟩ : ∃ Q, Q = hearBack u m := ⟨_, rfl⟩
      rw [← hQ] at hB hBs q3
      try simp (disch := omega) only [go_sem, Nat.reduceEqDiff, Nat.reduceAdd, Nat.reduceSub, Int.reduceAdd, Int.reduceSub, Int.reduceToNat, hm0]
      refine qD [0, 1, 2, 3, 4, 5, 6, 7, 8, 9] ?_
      try simp (disch := omega) only [go_sem, Nat.reduceEqDiff, Nat.reduceAdd, Nat.reduceSub, Int.reduceAdd, Int.reduceSub, Int.reduceToNat, hm0]
      refine qKD (hB) (qA [18, 19, 20, 21, 22, 23, 24]) ?_
      refine qG ?_
      exact qNO hN2 (j + 1, Q.1) (qA [0, 1, 2, 3, 4, 5, 6, 7, 8, 9, 10, 11, 12, 13, 14, 15, 16, 17, 36, 37, 38, 39, 40, 41, 42, 25, 26, 27, 28, 29, 30, 31, 32, 33, 34, 35]) (by (try dsimp only); exact ⟨by omega, hBs, q3⟩)
     ·rw [foldB_end (by omega)] at q3
      subst q3
      rcases metB_cases u y with ⟨c1, hm⟩ | ⟨c1, c2, hm⟩ | ⟨c1, c2, c3, hm⟩ | ⟨c1, c2, c3, c4, hm⟩ | ⟨c1, c2, c3, c4, hm⟩
      all_goals
       rw [hm]
       refine qX ?_
       refine den_drawC [(1, 24), (19, 24), (19, 25), (21, 24), (21, 25)] [[0, 2, 3, 4, 5, 6, 7, 8, 9, 10, 11, 12, 13, 14, 15, 16, 17, 18, 20, 1, 19, 21, 22, 23, 24, 25, 26], [0, 2, 3, 4, 5, 6, 7, 8, 9, 10, 11, 12, 13, 14, 15, 16, 17, 18, 20, 1, 19, 24, 21, 22, 23, 25, 26], [0, 2, 3, 4, 5, 6, 7, 8, 9, 10, 11, 12, 13, 14, 15, 16, 17, 18, 20, 1, 19, 24, 25, 21, 22, 23, 26], [0, 2, 3, 4, 5, 6, 7, 8, 9, 10, 11, 12, 13, 14, 15, 16, 17, 18, 20, 1, 21, 24, 19, 22, 23, 25, 26], [0, 2, 3, 4, 5, 6, 7, 8, 9, 10, 11, 12, 13, 14, 15, 16, 17, 18, 20, 1, 24, 19, 21, 22, 23, 25, 26], [0, 2, 3, 4, 5, 6, 7, 8, 9, 10, 11, 12, 13, 14, 15, 16, 17, 18, 20, 1, 24, 19, 25, 21, 22, 23, 26], [0, 2, 3, 4, 5, 6, 7, 8, 9, 10, 11, 12, 13, 14, 15, 16, 17, 18, 20, 1, 21, 24, 25, 19, 22, 23, 26], [0, 2, 3, 4, 5, 6, 7, 8, 9, 10, 11, 12, 13, 14, 15, 16, 17, 18, 20, 1, 24, 21, 25, 19, 22, 23, 26], [0, 2, 3, 4, 5, 6, 7, 8, 9, 10, 11, 12, 13, 14, 15, 16, 17, 18, 20, 1, 24, 25, 19, 21, 22, 23, 26], [0, 2, 3, 4, 5, 6, 7, 8, 9, 10, 11, 12, 13, 14, 15, 16, 17, 18, 20, 19, 21, 22, 23, 24, 1, 25, 26], [0, 2, 3, 4, 5, 6, 7, 8, 9, 10, 11, 12, 13, 14, 15, 16, 17, 18, 20, 19, 24, 1, 21, 22, 23, 25, 26], [0, 2, 3, 4, 5, 6, 7, 8, 9, 10, 11, 12, 13, 14, 15, 16, 17, 18, 20, 19, 24, 1, 25, 21, 22, 23, 26], [0, 2, 3, 4, 5, 6, 7, 8, 9, 10, 11, 12, 13, 14, 15, 16, 17, 18, 20, 21, 24, 1, 19, 22, 23, 25, 26], [0, 2, 3, 4, 5, 6, 7, 8, 9, 10, 11, 12, 13, 14, 15, 16, 17, 18, 20, 24, 1, 19, 21, 22, 23, 25, 26], [0, 2, 3, 4, 5, 6, 7, 8, 9, 10, 11, 12, 13, 14, 15, 16, 17, 18, 20, 24, 1, 19, 25, 21, 22, 23, 26], [0, 2, 3, 4, 5, 6, 7, 8, 9, 10, 11, 12, 13, 14, 15, 16, 17, 18, 20, 21, 24, 1, 25, 19, 22, 23, 26], [0, 2, 3, 4, 5, 6, 7, 8, 9, 10, 11, 12, 13, 14, 15, 16, 17, 18, 20, 24, 1, 21, 25, 19, 22, 23, 26], [0, 2, 3, 4, 5, 6, 7, 8, 9, 10, 11, 12, 13, 14, 15, 16, 17, 18, 20, 24, 1, 25, 19, 21, 22, 23, 26]] (by kernel_rfl) (qC) (by kernel_rfl) ?_
       simp only [allDn]
       refine ⟨runD_den 400 ?_, runD_den 400 ?_, runD_den 400 ?_, runD_den 400 ?_, runD_den 400 ?_, runD_den 400 ?_, runD_den 400 ?_, runD_den 400 ?_, runD_den 400 ?_, runD_den 400 ?_, runD_den 400 ?_, runD_den 400 ?_, runD_den 400 ?_, runD_den 400 ?_, runD_den 400 ?_, runD_den 400 ?_, runD_den 400 ?_, runD_den 400 ?_⟩
       all_goals simp (disch := omega) only [go_sem, Nat.reduceEqDiff, Nat.reduceAdd, Nat.reduceSub, Int.reduceAdd, Int.reduceSub, Int.reduceToNat]
       all_goals
        refine qG ?_
        exact qFO (qA [0, 1, 2, 3, 4, 5, 6, 7, 8, 9, 10, 11, 12, 13, 18, 19, 20, 21, 22, 23, 24, 27, 28, 29, 30, 31, 32, 33])
end
section
open Go.RowKit

def idleE (s : Int) (p : PolicyD) : EndD := ⟨s, 0, 0, 0, p, ownOne (10 * s + 1), [], [], [], ⟨1, 3, 3⟩, ⟨[], 0, 0, 120⟩, ⟨0, [], []⟩, [], [], 1000 + s, 0, 0⟩
def smallB (e : EndD) : Bool := decide (e.own.length ≤ 1048576) && decide (e.far.length ≤ 1048576) && decide (e.subs.length ≤ 1048576) && decide (e.halfs.length ≤ 1048576) && decide (e.inp.list.length ≤ 1048576) && decide (e.done.length ≤ 1048576) && decide (e.over.length ≤ 1048576)
theorem smallB_iff {e : EndD} (h : smallB e = true) : Small e := by
 simp only [smallB, Bool.and_eq_true, decide_eq_true_eq] at h
 exact ⟨h.1.1.1.1.1.1, h.1.1.1.1.1.2, h.1.1.1.1.2, h.1.1.1.2, h.1.1.2, h.1.2, h.2⟩
end
section
open Go.RowKit

theorem pols_ok : ∀ p ∈ pols, polOk p = true := by decide
theorem idle_new {s : Int} {p : PolicyD} (hs : 1 ≤ s ∧ s ≤ 2) (hp : p ∈ pols) : endNew s (10 * s + 1) p = (idleE s p, true) := by
 have h1 : inR s 1 2 = true := by simp only [inR, Bool.and_eq_true, decide_eq_true_eq]; omega
 have h2 : addrsOk (ownOne (10 * s + 1)) = true := by
  have : s = 1 ∨ s = 2 := by omega
  rcases this with rfl | rfl <;> decide
 rw [endNew_t (by rw [h1, pols_ok p hp, h2]; rfl)]; rfl
end
section
def actOk (a : ActD) : Bool := inR a.kind 1 12 && inR a.side 1 2 && (isN a.pos && isN a.many) && decide (a.text.length ≤ 120)
def addrNone : AddrD := ⟨0, 0, false, false⟩
end
section
open Go.RowKit

def txtD (b : List UInt8) : Nat → CurD → List UInt8 × CurD
 | 0, c => ([], c)
 | n + 1, c => (UInt8.ofNat (c.bv b).toNat :: (txtD b n (c.bn b)).1, (txtD b n (c.bn b)).2)
theorem txtD_len (b : List UInt8) : ∀ (n : Nat) (c : CurD), (txtD b n c).1.length = n
 | 0, _ => rfl
 | n + 1, c => by simp [txtD, txtD_len b n]
theorem txtD_ok {b : List UInt8} : ∀ {n : Nat} {c : CurD}, c.ok b → (txtD b n c).2.ok b
 | 0, _, h => h
 | n + 1, c, h => txtD_ok (n := n) (CurD.bn_ok h)
theorem spec_l01Text (b : List UInt8) (c : CurD) (hc : c.ok b) (n : Nat) (hn : n ≤ 5000) : CallA Tryz.prog 152 [.sc (.pt 1 0 0), .sc (.int .i64 (n : Int))] (c.hp b) (.sc (.st (txtD b n c).1)) ((txtD b n c).2.hp b) := by
 obtain ⟨T, hT⟩ : ∃ T, T = txtD b n c := ⟨_, rfl⟩
 rw [← hT]
 refine qE Tryz.func152 Tryz.ntmps152 Tryz.results152 fun E hE => ?_
 refine den_lp 2 hE (fun s (y : List UInt8 × CurD) => s.at [7, 8, 9, 10, 11, 12, 13, 14, 15, 16, 17, 18, 19, 20] [(6, .sc (.int .i64 (y.1.length : Nat))), (5, .sc (.sl 2 0 y.1.length))] (y.2.hp b ++ [some ⟨y.1.map byteC, 1, 5, true, true⟩])) (fun (y : List UInt8 × CurD) => y.1.length ≤ n ∧ y.2.ok b ∧ (y.1 ++ (txtD b (n - y.1.length) y.2).1, (txtD b (n - y.1.length) y.2).2) = T) (fun (y : List UInt8 × CurD) => n - y.1.length) ([], c) (qA [0, 1, 2]) (qC) (⟨Nat.zero_le _, hc, hT.symm⟩) (weak_mk (by rfl) (by rfl) ?_) fun y hy N hN => ?_
 ·exact qY
 ·obtain ⟨acc, c1⟩ := y
  obtain ⟨h1, h2, h3⟩ := hy
  dsimp only at h1 h2 h3
  refine qR ?_
  refine qB (fun h => ?_) fun h => ?_
  ·have hb := c1.bv_le b
   have hB := spec_l01Byte b c1 h2
   have o2 := CurD.bn_ok h2
   rw [show n - acc.length = (n - (acc.length + 1)) + 1 from by omega, txtD] at h3
   have hbc := byteC_int (z := c1.bv b) hb.1 (by omega)
   generalize c1.bv b = v at hb hB h3 hbc
   generalize c1.bn b = c2 at hB o2 h3
   refine qK (hB) (qA [0, 1]) ?_
   refine ⟨qC, hN _ (acc ++ [UInt8.ofNat v.toNat], c2) (qA [0, 1, 4]) (by (try dsimp only); exact ⟨by simp; omega, o2, by rw [List.length_append, List.length_singleton, List.append_assoc]; exact h3⟩) (by simp; omega) (weak_mk (by rfl) (by rfl) ?_)⟩
   try simp (disch := omega) only [go_sem, Nat.reduceEqDiff, Nat.reduceAdd, Nat.reduceSub, Int.reduceAdd, Int.reduceSub, Int.reduceToNat, w8 hb]
   simp [hbc]
  ·rw [show n - acc.length = 0 from by omega] at h3
   simp only [txtD, List.append_nil] at h3
   subst h3
   exact qF (qA [0, 1])
def CurD.pickS (c : CurD) (b : List UInt8) (l : List (List UInt8)) : List UInt8 := l.getD (c.below b l.length).1.toNat []
theorem CurD.pickS_mem (c : CurD) (b : List UInt8) {l : List (List UInt8)} (h : 0 < l.length) : c.pickS b l ∈ l := by
 have hb := c.below_lt b (n := (l.length : Int)) (by omega)
 rw [CurD.pickS, List.getD_eq_getElem?_getD, List.getElem?_eq_getElem (by omega)]
 exact List.getElem_mem _
theorem spec_l01Pick (b : List UInt8) (c : CurD) (hc : c.ok b) (l : List (List UInt8)) (h0 : 0 < l.length) (hl : l.length ≤ 1000) : CallA Tryz.prog 113 [.sc (.pt 1 0 0), .sc (.sl 2 0 l.length)] (c.hp b ++ [some ⟨l.map strC, 1, 9, false, true⟩]) (.sc (.st (c.pickS b l))) (((c.below b l.length).2.hp b) ++ [some ⟨l.map strC, 1, 9, false, true⟩]) := by
 have hb := c.below_lt b (n := (l.length : Int)) (by omega)
 have hp : c.pickS b l = l.getD (c.below b l.length).1.toNat [] := rfl
 have hk := spec_l01Below b c hc l.length
 rw [hp]
 generalize c.below b l.length = r at *
 obtain ⟨v, c1⟩ := r
 dsimp only at hb hk ⊢
 obtain ⟨k, rfl⟩ := Int.eq_ofNat_of_zero_le hb.1
 have hlt : k < l.length := by omega
 rw [Int.toNat_natCast, List.getD_eq_getElem?_getD, List.getElem?_eq_getElem hlt, Option.getD_some]
 refine qE Tryz.func113 Tryz.ntmps113 Tryz.results113 fun E hE => ?_
 refine qK (hk) (qA [0, 1]) ?_
 try simp (disch := omega) only [go_sem, Nat.reduceEqDiff, Nat.reduceAdd, Nat.reduceSub, Int.reduceAdd, Int.reduceSub, Int.reduceToNat, strs_get hlt]
 exact qF (qA [0, 1, 2])
theorem spec_l15Tag (b : List UInt8) (c : CurD) (hc : c.ok b) : ∃ (x : TagD) (c' : CurD), c'.ok b ∧ x.wf ∧ CallA Tryz.prog 112 [.sc (.pt 1 0 0)] (c.hp b) (.ag x.cs) (c'.hp b) := by
 have h1 := spec_l01Below b c hc 4
 have o1 := CurD.below_ok hc 4
 have b1 := c.below_lt b (n := 4) (by omega)
 generalize c.below b 4 = r1 at h1 o1 b1
 obtain ⟨v1, c1⟩ := r1
 dsimp only at h1 o1 b1
 have h2 := spec_l01Below b c1 o1 3
 have o2 := CurD.below_ok o1 3
 have b2 := c1.below_lt b (n := 3) (by omega)
 generalize c1.below b 3 = r2 at h2 o2 b2
 obtain ⟨v2, c2⟩ := r2
 dsimp only at h2 o2 b2
 have h3 := spec_l01Below b c2 o2 3
 have o3 := CurD.below_ok o2 3
 have b3 := c2.below_lt b (n := 3) (by omega)
 generalize c2.below b 3 = r3 at h3 o3 b3
 obtain ⟨v3, c3⟩ := r3
 dsimp only at h3 o3 b3
 have h4 := spec_l01Below b c3 o3 4
 have o4 := CurD.below_ok o3 4
 have b4 := c3.below_lt b (n := 4) (by omega)
 generalize c3.below b 4 = r4 at h4 o4 b4
 obtain ⟨v4, c4⟩ := r4
 dsimp only at h4 o4 b4
 have h5 := spec_l01Below b c4 o4 4
 have o5 := CurD.below_ok o4 4
 have b5 := c4.below_lt b (n := 4) (by omega)
 generalize c4.below b 4 = r5 at h5 o5 b5
 obtain ⟨v5, c5⟩ := r5
 dsimp only at h5 o5 b5
 refine ⟨⟨v1, 1 + v2, 1 + v3, v4, v5⟩, c5, o5, by simp only [TagD.wf, I64]; omega, ?_⟩
 refine qE Tryz.func112 Tryz.ntmps112 Tryz.results112 fun E hE => ?_
 refine qK (h1) (qA [0, 1]) ?_
 refine qK (h2) (qA [0, 1]) ?_
 refine qK (h3) (qA [0, 1]) ?_
 refine qK (h4) (qA [0, 1]) ?_
 refine qK (h5) (qA [0, 1]) ?_
 exact qF (qA [0, 1])
theorem spec_l16Letter (b : List UInt8) (c : CurD) (hc : c.ok b) : ∃ (x : LetterD) (c' : CurD), c'.ok b ∧ x.wf ∧ CallA Tryz.prog 70 [.sc (.pt 1 0 0)] (c.hp b) (.ag x.cs) (c'.hp b) := by
 have h1 := spec_l01Below b c hc 13
 have o1 := CurD.below_ok hc 13
 have b1 := c.below_lt b (n := 13) (by omega)
 generalize c.below b 13 = r1 at h1 o1 b1
 obtain ⟨v1, c1⟩ := r1
 dsimp only at h1 o1 b1
 have h2 := spec_l01PickInt b c1 o1 [11, 12, 21, 22, 31] (by decide) (by decide)
 have o2 := CurD.below_ok o1 (b := b) 5
 have m2 := c1.pick_mem b (l := [11, 12, 21, 22, 31]) (by decide)
 have w2 := (by decide : ∀ x ∈ ([11, 12, 21, 22, 31] : List Int), 11 ≤ x ∧ x ≤ 31) _ m2
 rw [show (([11, 12, 21, 22, 31] : List Int).length : Int) = 5 from rfl] at h2
 generalize c1.pick b [11, 12, 21, 22, 31] = v2 at h2 w2
 clear m2
 generalize c1.below b 5 = r2 at h2 o2
 obtain ⟨u2, c2⟩ := r2
 dsimp only at h2 o2
 have h3 := spec_l01PickInt b c2 o2 [11, 12, 21, 22, 31] (by decide) (by decide)
 have o3 := CurD.below_ok o2 (b := b) 5
 have m3 := c2.pick_mem b (l := [11, 12, 21, 22, 31]) (by decide)
 have w3 := (by decide : ∀ x ∈ ([11, 12, 21, 22, 31] : List Int), 11 ≤ x ∧ x ≤ 31) _ m3
 rw [show (([11, 12, 21, 22, 31] : List Int).length : Int) = 5 from rfl] at h3
 generalize c2.pick b [11, 12, 21, 22, 31] = v3 at h3 w3
 clear m3
 generalize c2.below b 5 = r3 at h3 o3
 obtain ⟨u3, c3⟩ := r3
 dsimp only at h3 o3
 have h4 := spec_l01Below b c3 o3 3
 have o4 := CurD.below_ok o3 3
 have b4 := c3.below_lt b (n := 3) (by omega)
 generalize c3.below b 3 = r4 at h4 o4 b4
 obtain ⟨v4, c4⟩ := r4
 dsimp only at h4 o4 b4
 have h5 := spec_l01Below b c4 o4 3
 have o5 := CurD.below_ok o4 3
 have b5 := c4.below_lt b (n := 3) (by omega)
 generalize c4.below b 3 = r5 at h5 o5 b5
 obtain ⟨v5, c5⟩ := r5
 dsimp only at h5 o5 b5
 have h6 := spec_l01PickInt b c5 o5 [101, 102, 7] (by decide) (by decide)
 have o6 := CurD.below_ok o5 (b := b) 3
 have m6 := c5.pick_mem b (l := [101, 102, 7]) (by decide)
 have w6 := (by decide : ∀ x ∈ ([101, 102, 7] : List Int), 7 ≤ x ∧ x ≤ 102) _ m6
 rw [show (([101, 102, 7] : List Int).length : Int) = 3 from rfl] at h6
 generalize c5.pick b [101, 102, 7] = v6 at h6 w6
 clear m6
 generalize c5.below b 3 = r6 at h6 o6
 obtain ⟨u6, c6⟩ := r6
 dsimp only at h6 o6
 have h7 := spec_l01Below b c6 o6 9
 have o7 := CurD.below_ok o6 9
 have b7 := c6.below_lt b (n := 9) (by omega)
 generalize c6.below b 9 = r7 at h7 o7 b7
 obtain ⟨v7, c7⟩ := r7
 dsimp only at h7 o7 b7
 have h8 := spec_l01Below b c7 o7 9
 have o8 := CurD.below_ok o7 9
 have b8 := c7.below_lt b (n := 9) (by omega)
 generalize c7.below b 9 = r8 at h8 o8 b8
 obtain ⟨v8, c8⟩ := r8
 dsimp only at h8 o8 b8
 have h9 := spec_l01Below b c8 o8 9
 have o9 := CurD.below_ok o8 9
 have b9 := c8.below_lt b (n := 9) (by omega)
 generalize c8.below b 9 = r9 at h9 o9 b9
 obtain ⟨v9, c9⟩ := r9
 dsimp only at h9 o9 b9
 have h10 := spec_l01Below b c9 o9 4
 have o10 := CurD.below_ok o9 4
 have b10 := c9.below_lt b (n := 4) (by omega)
 generalize c9.below b 4 = r10 at h10 o10 b10
 obtain ⟨v10, c10⟩ := r10
 dsimp only at h10 o10 b10
 have h11 := spec_l01PickInt b c10 o10 [11, 12, 13, 21, 22, 23, 31] (by decide) (by decide)
 have o11 := CurD.below_ok o10 (b := b) 7
 have m11 := c10.pick_mem b (l := [11, 12, 13, 21, 22, 23, 31]) (by decide)
 have w11 := (by decide : ∀ x ∈ ([11, 12, 13, 21, 22, 23, 31] : List Int), 11 ≤ x ∧ x ≤ 31) _ m11
 rw [show (([11, 12, 13, 21, 22, 23, 31] : List Int).length : Int) = 7 from rfl] at h11
 generalize c10.pick b [11, 12, 13, 21, 22, 23, 31] = v11 at h11 w11
 clear m11
 generalize c10.below b 7 = r11 at h11 o11
 obtain ⟨u11, c11⟩ := r11
 dsimp only at h11 o11
 have h12 := spec_l01Below b c11 o11 30
 have o12 := CurD.below_ok o11 30
 have b12 := c11.below_lt b (n := 30) (by omega)
 generalize c11.below b 30 = r12 at h12 o12 b12
 obtain ⟨v12, c12⟩ := r12
 dsimp only at h12 o12 b12
 have h13 := spec_l01Once b c12 o12 3
 have o13 := CurD.below_ok o12 3
 have b13 := c12.below_lt b (n := 3) (by omega)
 generalize c12.below b 3 = r13 at h13 o13 b13
 obtain ⟨v13, c13⟩ := r13
 dsimp only at h13 o13 b13
 generalize hq13 : (v13 == 0) = q13 at h13
 rcases Bool.eq_false_or_eq_true q13 with e13 | e13 <;> rw [e13] at h13
 ·obtain ⟨t, c14, o14, w14, h14⟩ := spec_l15Tag b c13 o13
  have w14 := w14
  obtain ⟨t1, t2, t3, t4, t5⟩ := t
  by_cases e11 : 1 + v1 = 11
  ·have h15 := spec_l01Pick b c14 o14 [[97], [101, 118, 105, 108], [122, 122], []] (by decide) (by decide)
   have o15 := CurD.below_ok o14 (b := b) 4
   have m15 := c14.pickS_mem b (l := [[97], [101, 118, 105, 108], [122, 122], []]) (by decide)
   have w15 := (by decide : ∀ x ∈ ([[97], [101, 118, 105, 108], [122, 122], []] : List (List UInt8)), x.length ≤ 20) _ m15
   rw [show (([[97], [101, 118, 105, 108], [122, 122], []] : List (List UInt8)).length : Int) = 4 from rfl] at h15
   generalize c14.pickS b [[97], [101, 118, 105, 108], [122, 122], []] = v15 at h15 w15
   clear m15
   generalize c14.below b 4 = r15 at h15 o15
   obtain ⟨u15, c15⟩ := r15
   dsimp only at h15 o15
   refine ⟨⟨1 + v1, v2, v3, v4, v5, v6, v7, v8, v9, ⟨t1, t2, t3, t4, t5⟩, v10, v11, false, v12, v15⟩, c15, o15, by simp only [LetterD.wf, I64, maxLen, TagD.wf, List.length_nil] at *; omega, ?_⟩
   refine qE Tryz.func70 Tryz.ntmps70 Tryz.results70 fun E hE => ?_
   refine qK (h1) (qA [0, 1]) ?_
   refine qK (h2) (qA [0, 1, 3]) ?_
   refine qK (h3) (qA [0, 1, 4]) ?_
   refine qK (h4) (qA [0, 1]) ?_
   refine qK (h5) (qA [0, 1]) ?_
   refine qK (h6) (qA [0, 1, 5]) ?_
   refine qK (h7) (qA [0, 1]) ?_
   refine qK (h8) (qA [0, 1]) ?_
   refine qK (h9) (qA [0, 1]) ?_
   refine qK (h10) (qA [0, 1]) ?_
   refine qK (h11) (qA [0, 1, 6]) ?_
   refine qK (h12) (qA [0, 1]) ?_
   refine qK (h13) (qA [0, 1]) ?_
   refine qK (h14) (qA [0, 1]) ?_
   refine qK (h15) (qA [0, 1, 8]) ?_
   exact qF (qA [0, 1])
  ·refine ⟨⟨1 + v1, v2, v3, v4, v5, v6, v7, v8, v9, ⟨t1, t2, t3, t4, t5⟩, v10, v11, false, v12, []⟩, c14, o14, by simp only [LetterD.wf, I64, maxLen, TagD.wf, List.length_nil] at *; omega, ?_⟩
   refine qE Tryz.func70 Tryz.ntmps70 Tryz.results70 fun E hE => ?_
   refine qK (h1) (qA [0, 1]) ?_
   refine qK (h2) (qA [0, 1, 3]) ?_
   refine qK (h3) (qA [0, 1, 4]) ?_
   refine qK (h4) (qA [0, 1]) ?_
   refine qK (h5) (qA [0, 1]) ?_
   refine qK (h6) (qA [0, 1, 5]) ?_
   refine qK (h7) (qA [0, 1]) ?_
   refine qK (h8) (qA [0, 1]) ?_
   refine qK (h9) (qA [0, 1]) ?_
   refine qK (h10) (qA [0, 1]) ?_
   refine qK (h11) (qA [0, 1, 6]) ?_
   refine qK (h12) (qA [0, 1]) ?_
   refine qK (h13) (qA [0, 1]) ?_
   refine qK (h14) (qA [0, 1]) ?_
   exact qF (qA [0, 1])
 ·by_cases e11 : 1 + v1 = 11
  ·have h14 := spec_l01Pick b c13 o13 [[97], [101, 118, 105, 108], [122, 122], []] (by decide) (by decide)
   have o14 := CurD.below_ok o13 (b := b) 4
   have m14 := c13.pickS_mem b (l := [[97], [101, 118, 105, 108], [122, 122], []]) (by decide)
   have w14 := (by decide : ∀ x ∈ ([[97], [101, 118, 105, 108], [122, 122], []] : List (List UInt8)), x.length ≤ 20) _ m14
   rw [show (([[97], [101, 118, 105, 108], [122, 122], []] : List (List UInt8)).length : Int) = 4 from rfl] at h14
   generalize c13.pickS b [[97], [101, 118, 105, 108], [122, 122], []] = v14 at h14 w14
   clear m14
   generalize c13.below b 4 = r14 at h14 o14
   obtain ⟨u14, c14⟩ := r14
   dsimp only at h14 o14
   refine ⟨⟨1 + v1, v2, v3, v4, v5, v6, v7, v8, v9, ⟨0, 0, 0, 0, 0⟩, v10, v11, false, v12, v14⟩, c14, o14, by simp only [LetterD.wf, I64, maxLen, TagD.wf, List.length_nil] at *; omega, ?_⟩
   refine qE Tryz.func70 Tryz.ntmps70 Tryz.results70 fun E hE => ?_
   refine qK (h1) (qA [0, 1]) ?_
   refine qK (h2) (qA [0, 1, 3]) ?_
   refine qK (h3) (qA [0, 1, 4]) ?_
   refine qK (h4) (qA [0, 1]) ?_
   refine qK (h5) (qA [0, 1]) ?_
   refine qK (h6) (qA [0, 1, 5]) ?_
   refine qK (h7) (qA [0, 1]) ?_
   refine qK (h8) (qA [0, 1]) ?_
   refine qK (h9) (qA [0, 1]) ?_
   refine qK (h10) (qA [0, 1]) ?_
   refine qK (h11) (qA [0, 1, 6]) ?_
   refine qK (h12) (qA [0, 1]) ?_
   refine qK (h13) (qA [0, 1]) ?_
   refine qK (h14) (qA [0, 1, 8]) ?_
   exact qF (qA [0, 1])
  ·refine ⟨⟨1 + v1, v2, v3, v4, v5, v6, v7, v8, v9, ⟨0, 0, 0, 0, 0⟩, v10, v11, false, v12, []⟩, c13, o13, by simp only [LetterD.wf, I64, maxLen, TagD.wf, List.length_nil] at *; omega, ?_⟩
   refine qE Tryz.func70 Tryz.ntmps70 Tryz.results70 fun E hE => ?_
   refine qK (h1) (qA [0, 1]) ?_
   refine qK (h2) (qA [0, 1, 3]) ?_
   refine qK (h3) (qA [0, 1, 4]) ?_
   refine qK (h4) (qA [0, 1]) ?_
   refine qK (h5) (qA [0, 1]) ?_
   refine qK (h6) (qA [0, 1, 5]) ?_
   refine qK (h7) (qA [0, 1]) ?_
   refine qK (h8) (qA [0, 1]) ?_
   refine qK (h9) (qA [0, 1]) ?_
   refine qK (h10) (qA [0, 1]) ?_
   refine qK (h11) (qA [0, 1, 6]) ?_
   refine qK (h12) (qA [0, 1]) ?_
   refine qK (h13) (qA [0, 1]) ?_
   exact qF (qA [0, 1])
theorem spec_l24Act (b : List UInt8) (c : CurD) (hc : c.ok b) : ∃ (x : ActD) (c' : CurD), c'.ok b ∧ (x.wf ∧ x.text.length ≤ 200) ∧ CallA Tryz.prog 143 [.sc (.pt 1 0 0)] (c.hp b) (.ag x.cs) (c'.hp b) := by
 have h1 := spec_l01Below b c hc 2
 have o1 := CurD.below_ok hc 2
 have b1 := c.below_lt b (n := 2) (by omega)
 generalize c.below b 2 = r1 at h1 o1 b1
 obtain ⟨v1, c1⟩ := r1
 dsimp only at h1 o1 b1
 have h2 := spec_l01Below b c1 o1 4
 have o2 := CurD.below_ok o1 4
 have b2 := c1.below_lt b (n := 4) (by omega)
 generalize c1.below b 4 = r2 at h2 o2 b2
 obtain ⟨v2, c2⟩ := r2
 dsimp only at h2 o2 b2
 have h3 := spec_l01PickInt b c2 o2 [1, 1, 2, 3, 3, 4, 4, 5, 5, 6, 7, 8, 8, 8, 8, 8, 8, 8, 8, 8, 8, 9, 10, 11, 12] (by decide) (by decide)
 have o3 := CurD.below_ok o2 (b := b) 25
 have m3 := c2.pick_mem b (l := [1, 1, 2, 3, 3, 4, 4, 5, 5, 6, 7, 8, 8, 8, 8, 8, 8, 8, 8, 8, 8, 9, 10, 11, 12]) (by decide)
 have w3 := (by decide : ∀ x ∈ ([1, 1, 2, 3, 3, 4, 4, 5, 5, 6, 7, 8, 8, 8, 8, 8, 8, 8, 8, 8, 8, 9, 10, 11, 12] : List Int), 1 ≤ x ∧ x ≤ 12) _ m3
 rw [show (([1, 1, 2, 3, 3, 4, 4, 5, 5, 6, 7, 8, 8, 8, 8, 8, 8, 8, 8, 8, 8, 9, 10, 11, 12] : List Int).length : Int) = 25 from rfl] at h3
 generalize c2.pick b [1, 1, 2, 3, 3, 4, 4, 5, 5, 6, 7, 8, 8, 8, 8, 8, 8, 8, 8, 8, 8, 9, 10, 11, 12] = v3 at h3 w3
 clear m3
 generalize c2.below b 25 = r3 at h3 o3
 obtain ⟨u3, c3⟩ := r3
 dsimp only at h3 o3
 have hv : v3 = 1 ∨ v3 = 2 ∨ v3 = 5 ∨ v3 = 6 ∨ v3 = 8 ∨ v3 = 11 ∨ v3 = 12 ∨ (v3 ≠ 1 ∧ v3 ≠ 2 ∧ v3 ≠ 5 ∧ v3 ≠ 6 ∧ v3 ≠ 8 ∧ v3 ≠ 11 ∧ v3 ≠ 12) := by omega
 rcases hv with rfl | rfl | rfl | rfl | rfl | rfl | rfl | hv
 ·have h4 := spec_l01Below b c3 o3 40
  have o4 := CurD.below_ok o3 40
  have b4 := c3.below_lt b (n := 40) (by omega)
  generalize c3.below b 40 = r4 at h4 o4 b4
  obtain ⟨v4, c4⟩ := r4
  dsimp only at h4 o4 b4
  obtain ⟨n, hn⟩ := Int.eq_ofNat_of_zero_le (show 0 ≤ 1 + v4 by omega)
  have hT := spec_l01Text b c4 o4 n (by omega)
  have oT := txtD_ok (n := n) o4
  have lT := txtD_len b n c4
  generalize txtD b n c4 = T at hT oT lT
  obtain ⟨T, cT⟩ := T
  dsimp only at hT oT lT
  refine ⟨⟨1, 1 + v1, v2, 0, T, addrNone, letNone⟩, cT, oT, ⟨by simp only [ActD.wf, LetterD.wf, I64, maxLen, letNone, addrNone, List.length_nil] at *; omega, by simp only [List.length_nil]; omega⟩, ?_⟩
  refine qE Tryz.func143 Tryz.ntmps143 Tryz.results143 fun E hE => ?_
  refine qK (h1) (qA [0, 1]) ?_
  refine qK (h2) (qA [0, 1]) ?_
  refine qK (h3) (qA [0, 1, 4]) ?_
  refine qK (h4) (qA [0, 1]) ?_
  try simp (disch := omega) only [go_sem, Nat.reduceEqDiff, Nat.reduceAdd, Nat.reduceSub, Int.reduceAdd, Int.reduceSub, Int.reduceToNat, hn]
  refine qK (hT) (qA [0, 1]) ?_
  refine den_fin (qA [0, 1]) (qC) _ (by simp only [go_sem]; rfl) (by rfl) (by rfl) ?_
  simp (disch := omega) only [go_sem, Nat.reduceEqDiff, Nat.reduceAdd, Nat.reduceSub, Int.reduceAdd, Int.reduceSub, Int.reduceToNat]
  try simp [addrNone, letNone]
 ·have h4 := spec_l01Below b c3 o3 50
  have o4 := CurD.below_ok o3 50
  have b4 := c3.below_lt b (n := 50) (by omega)
  generalize c3.below b 50 = r4 at h4 o4 b4
  obtain ⟨v4, c4⟩ := r4
  dsimp only at h4 o4 b4
  refine ⟨⟨2, 1 + v1, v2, v4, [], addrNone, letNone⟩, c4, o4, ⟨by simp only [ActD.wf, LetterD.wf, I64, maxLen, letNone, addrNone, List.length_nil] at *; omega, by simp only [List.length_nil]; omega⟩, ?_⟩
  refine qE Tryz.func143 Tryz.ntmps143 Tryz.results143 fun E hE => ?_
  refine qK (h1) (qA [0, 1]) ?_
  refine qK (h2) (qA [0, 1]) ?_
  refine qK (h3) (qA [0, 1, 4]) ?_
  refine qK (h4) (qA [0, 1]) ?_
  refine den_fin (qA [0, 1]) (qC) _ (by simp only [go_sem]; rfl) (by rfl) (by rfl) ?_
  simp (disch := omega) only [go_sem, Nat.reduceEqDiff, Nat.reduceAdd, Nat.reduceSub, Int.reduceAdd, Int.reduceSub, Int.reduceToNat]
  try simp [addrNone, letNone]
 ·have h4 := spec_l01Below b c3 o3 3
  have o4 := CurD.below_ok o3 3
  have b4 := c3.below_lt b (n := 3) (by omega)
  generalize c3.below b 3 = r4 at h4 o4 b4
  obtain ⟨v4, c4⟩ := r4
  dsimp only at h4 o4 b4
  have h5 := spec_l01Below b c4 o4 3
  have o5 := CurD.below_ok o4 3
  have b5 := c4.below_lt b (n := 3) (by omega)
  generalize c4.below b 3 = r5 at h5 o5 b5
  obtain ⟨v5, c5⟩ := r5
  dsimp only at h5 o5 b5
  have h6 := spec_l01Once b c5 o5 4
  have o6 := CurD.below_ok o5 4
  have b6 := c5.below_lt b (n := 4) (by omega)
  generalize c5.below b 4 = r6 at h6 o6 b6
  obtain ⟨v6, c6⟩ := r6
  dsimp only at h6 o6 b6
  generalize hq6 : (v6 == 0) = q6 at h6
  refine ⟨⟨5, 1 + v1, v2, 0, [], ⟨1 + v4, 10 * (1 + v1) + 2 + v5, q6, false⟩, letNone⟩, c6, o6, ⟨by simp only [ActD.wf, LetterD.wf, I64, maxLen, letNone, addrNone, List.length_nil] at *; omega, by simp only [List.length_nil]; omega⟩, ?_⟩
  refine qE Tryz.func143 Tryz.ntmps143 Tryz.results143 fun E hE => ?_
  refine qK (h1) (qA [0, 1]) ?_
  refine qK (h2) (qA [0, 1]) ?_
  refine qK (h3) (qA [0, 1, 4]) ?_
  refine den_drawW [(1, 4), (4, 8), (4, 11)] [[0, 3, 7, 10, 1, 2, 4, 5, 6, 8, 9, 11, 12, 13, 14], [0, 3, 7, 10, 1, 2, 8, 4, 5, 6, 9, 11, 12, 13, 14], [0, 3, 7, 10, 1, 2, 8, 11, 4, 5, 6, 9, 12, 13, 14], [0, 3, 7, 10, 4, 5, 6, 1, 2, 8, 9, 11, 12, 13, 14]] (by kernel_rfl) (qC) (by kernel_rfl) ?_
  simp only [allDn]
  refine ⟨runW_den 400 ?_, runW_den 400 ?_, runW_den 400 ?_, runW_den 400 ?_⟩
  all_goals simp (disch := omega) only [go_sem, Nat.reduceEqDiff, Nat.reduceAdd, Nat.reduceSub, Int.reduceAdd, Int.reduceSub, Int.reduceToNat]
  all_goals
   refine den_callW (qC) (h4) (qA [0, 1]) qM (by rfl) (runW_den 400 ?_)
   simp (disch := omega) only [go_sem, Nat.reduceEqDiff, Nat.reduceAdd, Nat.reduceSub, Int.reduceAdd, Int.reduceSub, Int.reduceToNat]
   refine den_callW (qC) (h5) (qA [0, 1]) qM (by rfl) (runW_den 400 ?_)
   simp (disch := omega) only [go_sem, Nat.reduceEqDiff, Nat.reduceAdd, Nat.reduceSub, Int.reduceAdd, Int.reduceSub, Int.reduceToNat]
   refine den_callW (qC) (h6) (qA [0, 1]) qM (by rfl) (runW_den 400 ?_)
   simp (disch := omega) only [go_sem, Nat.reduceEqDiff, Nat.reduceAdd, Nat.reduceSub, Int.reduceAdd, Int.reduceSub, Int.reduceToNat]
   refine qG ?_
   refine den_fin (qA [0, 1]) (qC) _ (by simp only [go_sem]; rfl) (by rfl) (by rfl) ?_
   simp (disch := omega) only [go_sem, Nat.reduceEqDiff, Nat.reduceAdd, Nat.reduceSub, Int.reduceAdd, Int.reduceSub, Int.reduceToNat]
   try simp [addrNone, letNone]
 ·have h4 := spec_l01Below b c3 o3 4
  have o4 := CurD.below_ok o3 4
  have b4 := c3.below_lt b (n := 4) (by omega)
  generalize c3.below b 4 = r4 at h4 o4 b4
  obtain ⟨v4, c4⟩ := r4
  dsimp only at h4 o4 b4
  refine ⟨⟨6, 1 + v1, v4, 0, [], addrNone, letNone⟩, c4, o4, ⟨by simp only [ActD.wf, LetterD.wf, I64, maxLen, letNone, addrNone, List.length_nil] at *; omega, by simp only [List.length_nil]; omega⟩, ?_⟩
  refine qE Tryz.func143 Tryz.ntmps143 Tryz.results143 fun E hE => ?_
  refine qK (h1) (qA [0, 1]) ?_
  refine qK (h2) (qA [0, 1]) ?_
  refine qK (h3) (qA [0, 1, 4]) ?_
  refine qK (h4) (qA [0, 1]) ?_
  refine den_fin (qA [0, 1]) (qC) _ (by simp only [go_sem]; rfl) (by rfl) (by rfl) ?_
  simp (disch := omega) only [go_sem, Nat.reduceEqDiff, Nat.reduceAdd, Nat.reduceSub, Int.reduceAdd, Int.reduceSub, Int.reduceToNat]
  try simp [addrNone, letNone]
 ·have h4 := spec_l01PickInt b c3 o3 [0, 0, 0, 1, 2] (by decide) (by decide)
  have o4 := CurD.below_ok o3 (b := b) 5
  have m4 := c3.pick_mem b (l := [0, 0, 0, 1, 2]) (by decide)
  have w4 := (by decide : ∀ x ∈ ([0, 0, 0, 1, 2] : List Int), 0 ≤ x ∧ x ≤ 2) _ m4
  rw [show (([0, 0, 0, 1, 2] : List Int).length : Int) = 5 from rfl] at h4
  generalize c3.pick b [0, 0, 0, 1, 2] = v4 at h4 w4
  clear m4
  generalize c3.below b 5 = r4 at h4 o4
  obtain ⟨u4, c4⟩ := r4
  dsimp only at h4 o4
  refine ⟨⟨8, 1 + v1, v4, 0, [], addrNone, letNone⟩, c4, o4, ⟨by simp only [ActD.wf, LetterD.wf, I64, maxLen, letNone, addrNone, List.length_nil] at *; omega, by simp only [List.length_nil]; omega⟩, ?_⟩
  refine qE Tryz.func143 Tryz.ntmps143 Tryz.results143 fun E hE => ?_
  refine qK (h1) (qA [0, 1]) ?_
  refine qK (h2) (qA [0, 1]) ?_
  refine qK (h3) (qA [0, 1, 4]) ?_
  refine qK (h4) (qA [0, 1, 5]) ?_
  refine den_fin (qA [0, 1]) (qC) _ (by simp only [go_sem]; rfl) (by rfl) (by rfl) ?_
  simp (disch := omega) only [go_sem, Nat.reduceEqDiff, Nat.reduceAdd, Nat.reduceSub, Int.reduceAdd, Int.reduceSub, Int.reduceToNat]
  try simp [addrNone, letNone]
 ·obtain ⟨x, c4, o4, w4, h4⟩ := spec_l16Letter b c3 o3
  have h5 := spec_l01Once b c4 o4 2
  have o5 := CurD.below_ok o4 2
  have b5 := c4.below_lt b (n := 2) (by omega)
  generalize c4.below b 2 = r5 at h5 o5 b5
  obtain ⟨v5, c5⟩ := r5
  dsimp only at h5 o5 b5
  generalize hq5 : (v5 == 0) = q5 at h5
  rcases Bool.eq_false_or_eq_true q5 with e5 | e5 <;> rw [e5] at h5
  ·have h6 := spec_l01PickInt b c5 o5 [4, 6, 11, 8, 13] (by decide) (by decide)
   have o6 := CurD.below_ok o5 (b := b) 5
   have m6 := c5.pick_mem b (l := [4, 6, 11, 8, 13]) (by decide)
   have w6 := (by decide : ∀ x ∈ ([4, 6, 11, 8, 13] : List Int), 4 ≤ x ∧ x ≤ 13) _ m6
   rw [show (([4, 6, 11, 8, 13] : List Int).length : Int) = 5 from rfl] at h6
   generalize c5.pick b [4, 6, 11, 8, 13] = v6 at h6 w6
   clear m6
   generalize c5.below b 5 = r6 at h6 o6
   obtain ⟨u6, c6⟩ := r6
   dsimp only at h6 o6
   refine ⟨⟨11, 1 + v1, v2, 0, [], addrNone, { x with kind := v6, token := 102, tag := ⟨0, 0, 0, 0, 0⟩ }⟩, c6, o6, ⟨by simp only [ActD.wf, LetterD.wf, I64, maxLen, letNone, addrNone, List.length_nil] at *; omega, by simp only [List.length_nil]; omega⟩, ?_⟩
   refine qE Tryz.func143 Tryz.ntmps143 Tryz.results143 fun E hE => ?_
   refine qK (h1) (qA [0, 1]) ?_
   refine qK (h2) (qA [0, 1]) ?_
   refine qK (h3) (qA [0, 1, 4]) ?_
   refine qK (h4) (qA [0, 1]) ?_
   refine qK (h5) (qA [0, 1]) ?_
   refine qK (h6) (qA [0, 1, 5]) ?_
   refine den_fin (qA [0, 1]) (qC) _ (by simp only [go_sem]; rfl) (by rfl) (by rfl) ?_
   simp (disch := omega) only [go_sem, Nat.reduceEqDiff, Nat.reduceAdd, Nat.reduceSub, Int.reduceAdd, Int.reduceSub, Int.reduceToNat]
   try simp [addrNone, letNone]
  ·refine ⟨⟨11, 1 + v1, v2, 0, [], addrNone, { x with tag := ⟨0, 0, 0, 0, 0⟩ }⟩, c5, o5, ⟨by simp only [ActD.wf, LetterD.wf, I64, maxLen, letNone, addrNone, List.length_nil] at *; omega, by simp only [List.length_nil]; omega⟩, ?_⟩
   refine qE Tryz.func143 Tryz.ntmps143 Tryz.results143 fun E hE => ?_
   refine qK (h1) (qA [0, 1]) ?_
   refine qK (h2) (qA [0, 1]) ?_
   refine qK (h3) (qA [0, 1, 4]) ?_
   refine qK (h4) (qA [0, 1]) ?_
   refine qK (h5) (qA [0, 1]) ?_
   refine den_fin (qA [0, 1]) (qC) _ (by simp only [go_sem]; rfl) (by rfl) (by rfl) ?_
   simp (disch := omega) only [go_sem, Nat.reduceEqDiff, Nat.reduceAdd, Nat.reduceSub, Int.reduceAdd, Int.reduceSub, Int.reduceToNat]
   try simp [addrNone, letNone]
 ·have h4 := spec_l01Below b c3 o3 30
  have o4 := CurD.below_ok o3 30
  have b4 := c3.below_lt b (n := 30) (by omega)
  generalize c3.below b 30 = r4 at h4 o4 b4
  obtain ⟨v4, c4⟩ := r4
  dsimp only at h4 o4 b4
  refine ⟨⟨12, 1 + v1, v4, 0, [], addrNone, letNone⟩, c4, o4, ⟨by simp only [ActD.wf, LetterD.wf, I64, maxLen, letNone, addrNone, List.length_nil] at *; omega, by simp only [List.length_nil]; omega⟩, ?_⟩
  refine qE Tryz.func143 Tryz.ntmps143 Tryz.results143 fun E hE => ?_
  refine qK (h1) (qA [0, 1]) ?_
  refine qK (h2) (qA [0, 1]) ?_
  refine qK (h3) (qA [0, 1, 4]) ?_
  refine qK (h4) (qA [0, 1]) ?_
  refine den_fin (qA [0, 1]) (qC) _ (by simp only [go_sem]; rfl) (by rfl) (by rfl) ?_
  simp (disch := omega) only [go_sem, Nat.reduceEqDiff, Nat.reduceAdd, Nat.reduceSub, Int.reduceAdd, Int.reduceSub, Int.reduceToNat]
  try simp [addrNone, letNone]
 ·obtain ⟨n1, n2, n5, n6, n8, n11, n12⟩ := hv
  refine ⟨⟨v3, 1 + v1, v2, 0, [], addrNone, letNone⟩, c3, o3, ⟨by simp only [ActD.wf, LetterD.wf, I64, maxLen, letNone, addrNone, List.length_nil] at *; omega, by simp only [List.length_nil]; omega⟩, ?_⟩
  refine qE Tryz.func143 Tryz.ntmps143 Tryz.results143 fun E hE => ?_
  refine qK (h1) (qA [0, 1]) ?_
  refine qK (h2) (qA [0, 1]) ?_
  refine qK (h3) (qA [0, 1, 4]) ?_
  refine den_fin (qA [0, 1]) (qC) _ (by simp only [go_sem]; rfl) (by rfl) (by rfl) ?_
  simp (disch := omega) only [go_sem, Nat.reduceEqDiff, Nat.reduceAdd, Nat.reduceSub, Int.reduceAdd, Int.reduceSub, Int.reduceToNat]
  try simp [addrNone, letNone]
end
section
open Go.RowKit

theorem spec_HearJoinBack (e : EndD) (x : LetterD) (hs : Small e) : CallA Tryz.prog 211 [.ag (e.cs 0), .ag x.cs] (e.hp false) (.tu [.ag ((hearJoinBack e x).1.cs 7), .sc (.sl 14 0 (hearJoinBack e x).2.length)])
  (e.hp false ++ ((hearJoinBack e x).1.hp true ++ [some ⟨(hearJoinBack e x).2.map LetterD.cs, 19, 67, true, true⟩])) := by
 have hC := spec_l17Copy e (by have := hs.own; omega) (by have := hs.far; omega) (by have := hs.subs; omega) (by have := hs.halfs; omega) (by have := hs.list; omega) (by have := hs.done; omega) (by have := hs.over; omega)
 have hK := spec_EndOk e (by have := hs.own; omega) (by have := hs.far; omega) (by have := hs.subs; omega) (by have := hs.halfs; omega) (by have := hs.list; omega) (by have := hs.done; omega) (by have := hs.over; omega)
 have hS := spec_SubAt e (roadOf x) (by have := hs.subs; omega)
 have hL := spec_LetterOk x
 have hbd := subAt_bd e.subs (roadOf x)
 have hf := jb_f (e := e) (x := x)
 have ht := fun (n : Nat) => @jb_t e x n
 generalize hearJoinBack e x = R at *
 refine qE Tryz.func211 Tryz.ntmps211 Tryz.results211 fun E hE => ?_
 refine qK (hC) (qA [0, 1, 2, 3, 4, 5, 6]) ?_
 refine qD [0, 1, 2, 3, 4] ?_
 refine qKD (spec_RoadOf x) [] ?_
 refine qKD (hS) (qA [0, 1, 2, 3, 4, 5, 6]) ?_
 refine qG ?_
 rcases hbd with hk | ⟨hb0, hb1⟩
 ·rw [hf (jb_no hk), hk]
  refine qD [0, 1, 2, 3, 4, 5, 6, 7, 8, 9, 10, 11, 12, 13, 14, 15, 16, 17, 18, 19, 20, 21, 22, 23, 24, 25, 26, 27, 28, 29, 30, 31, 32, 33, 34, 35, 36, 37, 38, 39, 40, 41, 42, 43] ?_
  refine qKD (hK) (qA [0, 1, 2, 3, 4, 5, 6]) ?_
  refine qB (fun h1 => ?_) fun h1 => ?_
  ·refine qKD (hL) [] ?_
   refine qB (fun h2 => ?_) fun h2 => ?_
   ·refine qB (fun h3 => ?_) fun h3 => ?_
    ·refine qG ?_
     exact qF (qA [0, 1, 2, 3, 4, 5, 6, 10, 11, 12, 13, 14, 15, 16, 18])
    ·refine qG ?_
     exact qF (qA [0, 1, 2, 3, 4, 5, 6, 10, 11, 12, 13, 14, 15, 16, 18])
   ·refine qG ?_
    exact qF (qA [0, 1, 2, 3, 4, 5, 6, 10, 11, 12, 13, 14, 15, 16, 18])
  ·refine qG ?_
   exact qF (qA [0, 1, 2, 3, 4, 5, 6, 10, 11, 12, 13, 14, 15, 16, 18])
 ·obtain ⟨n, hk⟩ := Int.eq_ofNat_of_zero_le hb0
  have hn : n < e.subs.length := by omega
  have ha := jb_at hk hn
  have hcmp := TagD.cmp x.tag ⟨1, e.peer, e.key, x.nonce, e.subs[n].mine⟩
  simp only [TagD.cs, go_sem] at hcmp
  rw [hk]
  refine qD [0, 1, 2, 3, 4, 5, 6, 7, 8, 9, 10, 11, 12, 13, 14, 15, 16, 17, 18, 19, 20, 21, 22, 23, 24, 25, 26, 27, 28, 29, 30, 31, 32, 33, 34, 35, 36, 37, 38, 39, 40, 41, 42, 43] ?_
  refine qKD (hK) (qA [0, 1, 2, 3, 4, 5, 6]) ?_
  refine qB (fun h1 => ?_) fun h1 => ?_
  ·refine qKD (hL) [] ?_
   refine qB (fun h2 => ?_) fun h2 => ?_
   ·refine qB (fun h3 => ?_) fun h3 => ?_
    ·refine qB (fun h4 => ?_) fun h4 => ?_
     ·refine qKD (spec_TagBack _ _ _ _) [] ?_
      refine ⟨qC, run_den 400 ?_⟩
      try simp (disch := omega) only [go_sem, Nat.reduceEqDiff, Nat.reduceAdd, Nat.reduceSub, Int.reduceAdd, Int.reduceSub, Int.reduceToNat, hcmp]
      refine qB (fun h5 => ?_) fun h5 => ?_
      ·rw [hf (by rw [ha]; simp [h1, h2, h3, h4, h5])]
       refine qX ?_
       exact qF (qA [0, 1, 2, 3, 4, 5, 6, 10, 11, 12, 13, 14, 15, 16, 18])
      ·rw [ht _ (by rw [ha]; simp [h1, h2, h3, h4, h5]) hk hn]
       refine qX ?_
       refine den_drawC [(0, 10), (8, 0), (9, 0)] [[1, 2, 3, 4, 5, 6, 7, 8, 9, 0, 10, 11, 12], [1, 2, 3, 4, 5, 6, 7, 8, 0, 9, 10, 11, 12], [1, 2, 3, 4, 5, 6, 7, 0, 8, 9, 10, 11, 12], [1, 2, 3, 4, 5, 6, 7, 8, 9, 10, 0, 11, 12]] (by kernel_rfl) (qC) (by kernel_rfl) ?_
       simp only [allDn]
       refine ⟨runD_den 400 ?_, runD_den 400 ?_, runD_den 400 ?_, runD_den 400 ?_⟩
       all_goals simp (disch := omega) only [go_sem, Nat.reduceEqDiff, Nat.reduceAdd, Nat.reduceSub, Int.reduceAdd, Int.reduceSub, Int.reduceToNat]
       all_goals
        refine qKD (spec_l19Proves { e with subs := e.subs.set n (jbSub e.subs[n] x) } (jbSub e.subs[n] x)) (qA [10, 11, 12, 13, 14, 15, 16]) ?_
        refine qG ?_
        refine den_fin (qA [0, 1, 2, 3, 4, 5, 6, 10, 11, 12, 13, 14, 15, 16, 20]) (qC) _ (by simp only [go_sem]; rfl) (by rfl) (by rfl) ?_
        simp (disch := omega) only [go_sem, Nat.reduceEqDiff, Nat.reduceAdd, Nat.reduceSub, Int.reduceAdd, Int.reduceSub, Int.reduceToNat]
        try simp [List.map_set, SubD.cs, jbSub, doneLetter, between, LetterD.cs]
     ·rw [hf (by rw [ha]; simp [h1, h2, h3, h4])]
      refine qG ?_
      exact qF (qA [0, 1, 2, 3, 4, 5, 6, 10, 11, 12, 13, 14, 15, 16, 18])
    ·rw [hf (by rw [ha]; simp [h1, h2, h3])]
     refine qG ?_
     exact qF (qA [0, 1, 2, 3, 4, 5, 6, 10, 11, 12, 13, 14, 15, 16, 18])
   ·rw [hf (by rw [ha]; simp [h1, h2])]
    refine qG ?_
    exact qF (qA [0, 1, 2, 3, 4, 5, 6, 10, 11, 12, 13, 14, 15, 16, 18])
  ·rw [hf (by rw [ha]; simp [h1])]
   refine qG ?_
   exact qF (qA [0, 1, 2, 3, 4, 5, 6, 10, 11, 12, 13, 14, 15, 16, 18])
end
section
open Go.RowKit

theorem spec_HearJoinDone (e : EndD) (x : LetterD) (hs : Small e) : CallA Tryz.prog 212 [.ag (e.cs 0), .ag x.cs] (e.hp false) (.tu [.ag ((hearJoinDone e x).1.cs 7), .sc (.sl 14 0 (hearJoinDone e x).2.length)])
  (e.hp false ++ ((hearJoinDone e x).1.hp true ++ [some ⟨(hearJoinDone e x).2.map LetterD.cs, 19, 67, true, true⟩])) := by
 have hC := spec_l17Copy e (by have := hs.own; omega) (by have := hs.far; omega) (by have := hs.subs; omega) (by have := hs.halfs; omega) (by have := hs.list; omega) (by have := hs.done; omega) (by have := hs.over; omega)
 have hK := spec_EndOk e (by have := hs.own; omega) (by have := hs.far; omega) (by have := hs.subs; omega) (by have := hs.halfs; omega) (by have := hs.list; omega) (by have := hs.done; omega) (by have := hs.over; omega)
 have hS := spec_SubAt e (roadOf x) (by have := hs.subs; omega)
 have hH := spec_HalfAt e.halfs (roadOf x) (by have := hs.halfs; omega)
 have hD := spec_DropHalf e.halfs (roadOf x) (by have := hs.halfs; omega)
 have hL := spec_LetterOk x
 have hbS := subAt_bd e.subs (roadOf x)
 have hbH := halfAt_bd e.halfs (roadOf x)
 have hf := jd_f (e := e) (x := x)
 have hf2 := jd_f2 (e := e) (x := x)
 have hb := fun n => @jd_b e x n
 have ha1 := fun i n => @jd_a1 e x i n
 have ha2 := fun i => @jd_a2 e x i
 generalize hearJoinDone e x = R at *
 refine qE Tryz.func212 Tryz.ntmps212 Tryz.results212 fun E hE => ?_
 refine qK (hC) (qA [0, 1, 2, 3, 4, 5, 6]) ?_
 refine qK (spec_RoadOf x) [] ?_
 refine qK (hK) (qA [0, 1, 2, 3, 4, 5, 6]) ?_
 refine qB (fun h1 => ?_) fun h1 => ?_
 ·refine qK (hL) [] ?_
  refine qB (fun h2 => ?_) fun h2 => ?_
  ·refine qB (fun h3 => ?_) fun h3 => ?_
   ·rw [hf (by simp [jdIn, h1, h2, h3])]
    refine qX ?_
    exact qF (qA [0, 1, 2, 3, 4, 5, 6, 10, 11, 12, 13, 14, 15, 16, 18])
   ·have hin : jdIn e x = true := by simp [jdIn, h1, h2, h3]
    refine qX ?_
    refine qK (hH) (qA [3]) ?_
    refine qK (hS) (qA [0, 1, 2, 3, 4, 5, 6]) ?_
    rcases hbS with hk | ⟨hk0, hk1⟩
    ·rcases hbH with hi | ⟨hi0, hi1⟩
     ·rw [hi]
      rw [hk]
      refine qX ?_
      refine qD [0, 1, 2, 3, 4, 5, 6, 7, 8, 9, 10, 11, 12, 13, 14, 15, 16, 17, 18, 19, 20, 21, 22, 23, 24, 25, 26, 27, 28, 29] ?_
      refine qG ?_
      rw [hf2 hin (jdA_no hi) (jdB_no hk)]
      refine qD [0, 1, 2, 3, 4, 5, 6, 7, 8, 9, 10, 11, 12, 13, 14, 15, 16, 17, 18, 19, 20, 21, 22, 23, 24, 25, 26, 27, 28, 29, 30, 31, 32] ?_
      refine qG ?_
      exact qF (qA [0, 1, 2, 3, 4, 5, 6, 10, 11, 12, 13, 14, 15, 16, 18])
     ·obtain ⟨i, hi⟩ := Int.eq_ofNat_of_zero_le hi0
      have hil : i < e.halfs.length := by omega
      have hcmp := TagD.cmp x.tag ⟨2, e.peer, e.key, e.halfs[i].theirs, e.halfs[i].mine⟩
      simp only [TagD.cs, go_sem] at hcmp
      rw [hi]
      rw [hk]
      refine qX ?_
      refine qD [0, 1, 2, 3, 4, 5, 6, 7, 8, 9, 10, 11, 12, 13, 14, 15, 16, 17, 18, 19, 20, 21, 22, 23, 24, 25, 26, 27, 28, 29] ?_
      refine qB (fun h4 => ?_) fun h4 => ?_
      ·refine qKD (spec_TagDone _ _ _ _) [] ?_
       refine ⟨qC, run_den 400 ?_⟩
       try simp (disch := omega) only [go_sem, Nat.reduceEqDiff, Nat.reduceAdd, Nat.reduceSub, Int.reduceAdd, Int.reduceSub, Int.reduceToNat, hcmp]
       refine qB (fun h5 => ?_) fun h5 => ?_
       ·have hjA : jdA e x = true := by rw [jdA_at hi hil]; simp [h4, h5]; try omega
        rw [ha2 _ hin hjA hi hil hk]
        refine qX ?_
        refine qK (spec_l18Sub { e with subs := e.subs } (onSub (roadOf x) e.halfs[i]) (by have := endOk_subs h1; simp; omega)) (qA [10, 11, 12, 13, 14, 15, 16]) ?_
        refine qK (hD) (qA [13]) ?_
        refine den_drawC [(0, 5), (3, 0), (4, 0)] [[1, 2, 3, 4, 0, 5, 6, 7], [1, 2, 3, 0, 4, 5, 6, 7], [1, 2, 0, 3, 4, 5, 6, 7], [1, 2, 3, 4, 5, 0, 6, 7]] (by kernel_rfl) (qC) (by kernel_rfl) ?_
        simp only [allDn]
        refine ⟨runD_den 400 ?_, runD_den 400 ?_, runD_den 400 ?_, runD_den 400 ?_⟩
        all_goals simp (disch := omega) only [go_sem, Nat.reduceEqDiff, Nat.reduceAdd, Nat.reduceSub, Int.reduceAdd, Int.reduceSub, Int.reduceToNat]
        all_goals
         refine qKD (spec_l19Ack (onSub (roadOf x) e.halfs[i])) [] ?_
         refine qG ?_
         refine den_fin (qA [0, 1, 2, 3, 4, 5, 6, 10, 11, 22, 23, 14, 15, 16, 25]) (qC) _ (by simp only [go_sem]; rfl) (by rfl) (by rfl) ?_
         simp (disch := omega) only [go_sem, Nat.reduceEqDiff, Nat.reduceAdd, Nat.reduceSub, Int.reduceAdd, Int.reduceSub, Int.reduceToNat]
         try simp [List.map_set, SubD.cs, onSub]
       ·have hjA' : jdA e x = false := by rw [jdA_at hi hil]; simp [h5]
        refine qX ?_
        rw [hf2 hin (hjA') (jdB_no hk)]
        refine qD [0, 1, 2, 3, 4, 5, 6, 7, 8, 9, 10, 11, 12, 13, 14, 15, 16, 17, 18, 19, 20, 21, 22, 23, 24, 25, 26, 27, 28, 29, 30, 31, 32] ?_
        refine qG ?_
        exact qF (qA [0, 1, 2, 3, 4, 5, 6, 10, 11, 12, 13, 14, 15, 16, 18])
      ·have hjA' : jdA e x = false := by rw [jdA_at hi hil]; simp; omega
       refine qG ?_
       rw [hf2 hin (hjA') (jdB_no hk)]
       refine qD [0, 1, 2, 3, 4, 5, 6, 7, 8, 9, 10, 11, 12, 13, 14, 15, 16, 17, 18, 19, 20, 21, 22, 23, 24, 25, 26, 27, 28, 29, 30, 31, 32] ?_
       refine qG ?_
       exact qF (qA [0, 1, 2, 3, 4, 5, 6, 10, 11, 12, 13, 14, 15, 16, 18])
    ·obtain ⟨n, hk⟩ := Int.eq_ofNat_of_zero_le hk0
     have hn : n < e.subs.length := by omega
     have hrd := subAt_road hk hn
     rcases hbH with hi | ⟨hi0, hi1⟩
     ·rw [hi]
      rw [hk]
      refine qX ?_
      refine qD [0, 1, 2, 3, 4, 5, 6, 7, 8, 9, 10, 11, 12, 13, 14, 15, 16, 17, 18, 19, 20, 21, 22, 23, 24, 25, 26, 27, 28, 29] ?_
      refine qG ?_
      have hcmp2 := TagD.cmp x.tag ⟨2, e.peer, e.key, e.subs[n].theirs, e.subs[n].mine⟩
      simp only [TagD.cs, go_sem] at hcmp2
      have hjA := jdA_no hi
      refine qD [0, 1, 2, 3, 4, 5, 6, 7, 8, 9, 10, 11, 12, 13, 14, 15, 16, 17, 18, 19, 20, 21, 22, 23, 24, 25, 26, 27, 28, 29, 30, 31, 32] ?_
      refine qB (fun h6 => ?_) fun h6 => ?_
      ·refine qKD (spec_TagDone _ _ _ _) [] ?_
       refine ⟨qC, run_den 400 ?_⟩
       try simp (disch := omega) only [go_sem, Nat.reduceEqDiff, Nat.reduceAdd, Nat.reduceSub, Int.reduceAdd, Int.reduceSub, Int.reduceToNat, hcmp2]
       refine qB (fun h7 => ?_) fun h7 => ?_
       ·rw [hb _ hin hjA (by rw [jdB_at hk hn]; simp [h6, h7]) hk hn]
        refine qX ?_
        refine den_drawC [(0, 9), (7, 0), (8, 0)] [[1, 2, 3, 4, 5, 6, 7, 8, 0, 9, 10, 11], [1, 2, 3, 4, 5, 6, 7, 0, 8, 9, 10, 11], [1, 2, 3, 4, 5, 6, 0, 7, 8, 9, 10, 11], [1, 2, 3, 4, 5, 6, 7, 8, 9, 0, 10, 11]] (by kernel_rfl) (qC) (by kernel_rfl) ?_
        simp only [allDn]
        refine ⟨runD_den 400 ?_, runD_den 400 ?_, runD_den 400 ?_, runD_den 400 ?_⟩
        all_goals simp (disch := omega) only [go_sem, Nat.reduceEqDiff, Nat.reduceAdd, Nat.reduceSub, Int.reduceAdd, Int.reduceSub, Int.reduceToNat]
        all_goals
         refine qKD (spec_l19Ack e.subs[n]) [] ?_
         refine qG ?_
         refine den_fin (qA [0, 1, 2, 3, 4, 5, 6, 10, 11, 12, 13, 14, 15, 16, 21]) (qC) _ (by simp only [go_sem]; rfl) (by rfl) (by rfl) ?_
         simp (disch := omega) only [go_sem, Nat.reduceEqDiff, Nat.reduceAdd, Nat.reduceSub, Int.reduceAdd, Int.reduceSub, Int.reduceToNat]
         try simp [hrd]
       ·rw [hf2 hin hjA (by rw [jdB_at hk hn]; simp [h6, h7])]
        refine qX ?_
        exact qF (qA [0, 1, 2, 3, 4, 5, 6, 10, 11, 12, 13, 14, 15, 16, 18])
      ·rw [hf2 hin hjA (by rw [jdB_at hk hn]; simp [h6])]
       refine qG ?_
       exact qF (qA [0, 1, 2, 3, 4, 5, 6, 10, 11, 12, 13, 14, 15, 16, 18])
     ·obtain ⟨i, hi⟩ := Int.eq_ofNat_of_zero_le hi0
      have hil : i < e.halfs.length := by omega
      have hcmp := TagD.cmp x.tag ⟨2, e.peer, e.key, e.halfs[i].theirs, e.halfs[i].mine⟩
      simp only [TagD.cs, go_sem] at hcmp
      rw [hi]
      rw [hk]
      refine qX ?_
      refine qD [0, 1, 2, 3, 4, 5, 6, 7, 8, 9, 10, 11, 12, 13, 14, 15, 16, 17, 18, 19, 20, 21, 22, 23, 24, 25, 26, 27, 28, 29] ?_
      refine qB (fun h4 => ?_) fun h4 => ?_
      ·refine qKD (spec_TagDone _ _ _ _) [] ?_
       refine ⟨qC, run_den 400 ?_⟩
       try simp (disch := omega) only [go_sem, Nat.reduceEqDiff, Nat.reduceAdd, Nat.reduceSub, Int.reduceAdd, Int.reduceSub, Int.reduceToNat, hcmp]
       refine qB (fun h5 => ?_) fun h5 => ?_
       ·have hjA : jdA e x = true := by rw [jdA_at hi hil]; simp [h4, h5]; try omega
        rw [ha1 _ _ hin hjA hi hil hk hn]
        refine qX ?_
        refine qK (spec_l18Sub { e with subs := e.subs.set n { e.subs[n] with state := 4 } } (onSub (roadOf x) e.halfs[i]) (by have := endOk_subs h1; simp; omega)) (qA [10, 11, 12, 13, 14, 15, 16]) ?_
        refine qK (hD) (qA [13]) ?_
        refine den_drawC [(0, 5), (3, 0), (4, 0)] [[1, 2, 3, 4, 0, 5, 6, 7], [1, 2, 3, 0, 4, 5, 6, 7], [1, 2, 0, 3, 4, 5, 6, 7], [1, 2, 3, 4, 5, 0, 6, 7]] (by kernel_rfl) (qC) (by kernel_rfl) ?_
        simp only [allDn]
        refine ⟨runD_den 400 ?_, runD_den 400 ?_, runD_den 400 ?_, runD_den 400 ?_⟩
        all_goals simp (disch := omega) only [go_sem, Nat.reduceEqDiff, Nat.reduceAdd, Nat.reduceSub, Int.reduceAdd, Int.reduceSub, Int.reduceToNat]
        all_goals
         refine qKD (spec_l19Ack (onSub (roadOf x) e.halfs[i])) [] ?_
         refine qG ?_
         refine den_fin (qA [0, 1, 2, 3, 4, 5, 6, 10, 11, 22, 23, 14, 15, 16, 25]) (qC) _ (by simp only [go_sem]; rfl) (by rfl) (by rfl) ?_
         simp (disch := omega) only [go_sem, Nat.reduceEqDiff, Nat.reduceAdd, Nat.reduceSub, Int.reduceAdd, Int.reduceSub, Int.reduceToNat]
         try simp [List.map_set, SubD.cs, onSub]
       ·have hjA' : jdA e x = false := by rw [jdA_at hi hil]; simp [h5]
        refine qX ?_
        have hcmp2 := TagD.cmp x.tag ⟨2, e.peer, e.key, e.subs[n].theirs, e.subs[n].mine⟩
        simp only [TagD.cs, go_sem] at hcmp2
        have hjA := hjA'
        refine qD [0, 1, 2, 3, 4, 5, 6, 7, 8, 9, 10, 11, 12, 13, 14, 15, 16, 17, 18, 19, 20, 21, 22, 23, 24, 25, 26, 27, 28, 29, 30, 31, 32] ?_
        refine qB (fun h6 => ?_) fun h6 => ?_
        ·refine qKD (spec_TagDone _ _ _ _) [] ?_
         refine ⟨qC, run_den 400 ?_⟩
         try simp (disch := omega) only [go_sem, Nat.reduceEqDiff, Nat.reduceAdd, Nat.reduceSub, Int.reduceAdd, Int.reduceSub, Int.reduceToNat, hcmp2]
         refine qB (fun h7 => ?_) fun h7 => ?_
         ·rw [hb _ hin hjA (by rw [jdB_at hk hn]; simp [h6, h7]) hk hn]
          refine qX ?_
          refine den_drawC [(0, 9), (7, 0), (8, 0)] [[1, 2, 3, 4, 5, 6, 7, 8, 0, 9, 10, 11], [1, 2, 3, 4, 5, 6, 7, 0, 8, 9, 10, 11], [1, 2, 3, 4, 5, 6, 0, 7, 8, 9, 10, 11], [1, 2, 3, 4, 5, 6, 7, 8, 9, 0, 10, 11]] (by kernel_rfl) (qC) (by kernel_rfl) ?_
          simp only [allDn]
          refine ⟨runD_den 400 ?_, runD_den 400 ?_, runD_den 400 ?_, runD_den 400 ?_⟩
          all_goals simp (disch := omega) only [go_sem, Nat.reduceEqDiff, Nat.reduceAdd, Nat.reduceSub, Int.reduceAdd, Int.reduceSub, Int.reduceToNat]
          all_goals
           refine qKD (spec_l19Ack e.subs[n]) [] ?_
           refine qG ?_
           refine den_fin (qA [0, 1, 2, 3, 4, 5, 6, 10, 11, 12, 13, 14, 15, 16, 21]) (qC) _ (by simp only [go_sem]; rfl) (by rfl) (by rfl) ?_
           simp (disch := omega) only [go_sem, Nat.reduceEqDiff, Nat.reduceAdd, Nat.reduceSub, Int.reduceAdd, Int.reduceSub, Int.reduceToNat]
           try simp [hrd]
         ·rw [hf2 hin hjA (by rw [jdB_at hk hn]; simp [h6, h7])]
          refine qX ?_
          exact qF (qA [0, 1, 2, 3, 4, 5, 6, 10, 11, 12, 13, 14, 15, 16, 18])
        ·rw [hf2 hin hjA (by rw [jdB_at hk hn]; simp [h6])]
         refine qG ?_
         exact qF (qA [0, 1, 2, 3, 4, 5, 6, 10, 11, 12, 13, 14, 15, 16, 18])
      ·have hjA' : jdA e x = false := by rw [jdA_at hi hil]; simp; omega
       refine qG ?_
       have hcmp2 := TagD.cmp x.tag ⟨2, e.peer, e.key, e.subs[n].theirs, e.subs[n].mine⟩
       simp only [TagD.cs, go_sem] at hcmp2
       have hjA := hjA'
       refine qD [0, 1, 2, 3, 4, 5, 6, 7, 8, 9, 10, 11, 12, 13, 14, 15, 16, 17, 18, 19, 20, 21, 22, 23, 24, 25, 26, 27, 28, 29, 30, 31, 32] ?_
       refine qB (fun h6 => ?_) fun h6 => ?_
       ·refine qKD (spec_TagDone _ _ _ _) [] ?_
        refine ⟨qC, run_den 400 ?_⟩
        try simp (disch := omega) only [go_sem, Nat.reduceEqDiff, Nat.reduceAdd, Nat.reduceSub, Int.reduceAdd, Int.reduceSub, Int.reduceToNat, hcmp2]
        refine qB (fun h7 => ?_) fun h7 => ?_
        ·rw [hb _ hin hjA (by rw [jdB_at hk hn]; simp [h6, h7]) hk hn]
         refine qX ?_
         refine den_drawC [(0, 9), (7, 0), (8, 0)] [[1, 2, 3, 4, 5, 6, 7, 8, 0, 9, 10, 11], [1, 2, 3, 4, 5, 6, 7, 0, 8, 9, 10, 11], [1, 2, 3, 4, 5, 6, 0, 7, 8, 9, 10, 11], [1, 2, 3, 4, 5, 6, 7, 8, 9, 0, 10, 11]] (by kernel_rfl) (qC) (by kernel_rfl) ?_
         simp only [allDn]
         refine ⟨runD_den 400 ?_, runD_den 400 ?_, runD_den 400 ?_, runD_den 400 ?_⟩
         all_goals simp (disch := omega) only [go_sem, Nat.reduceEqDiff, Nat.reduceAdd, Nat.reduceSub, Int.reduceAdd, Int.reduceSub, Int.reduceToNat]
         all_goals
          refine qKD (spec_l19Ack e.subs[n]) [] ?_
          refine qG ?_
          refine den_fin (qA [0, 1, 2, 3, 4, 5, 6, 10, 11, 12, 13, 14, 15, 16, 21]) (qC) _ (by simp only [go_sem]; rfl) (by rfl) (by rfl) ?_
          simp (disch := omega) only [go_sem, Nat.reduceEqDiff, Nat.reduceAdd, Nat.reduceSub, Int.reduceAdd, Int.reduceSub, Int.reduceToNat]
          try simp [hrd]
        ·rw [hf2 hin hjA (by rw [jdB_at hk hn]; simp [h6, h7])]
         refine qX ?_
         exact qF (qA [0, 1, 2, 3, 4, 5, 6, 10, 11, 12, 13, 14, 15, 16, 18])
       ·rw [hf2 hin hjA (by rw [jdB_at hk hn]; simp [h6])]
        refine qG ?_
        exact qF (qA [0, 1, 2, 3, 4, 5, 6, 10, 11, 12, 13, 14, 15, 16, 18])
  ·rw [hf (by simp [jdIn, h2])]
   refine qX ?_
   exact qF (qA [0, 1, 2, 3, 4, 5, 6, 10, 11, 12, 13, 14, 15, 16, 18])
 ·rw [hf (by simp [jdIn, h1])]
  refine qX ?_
  exact qF (qA [0, 1, 2, 3, 4, 5, 6, 10, 11, 12, 13, 14, 15, 16, 18])

end
section
open Go.RowKit

theorem spec_HearJoin (e : EndD) (x : LetterD) (hs : Small e) : CallA Tryz.prog 210 [.ag (e.cs 0), .ag x.cs] (e.hp false) (.tu [.ag ((hearJoin e x).1.cs 7), .sc (.sl 14 0 (hearJoin e x).2.length)])
  (e.hp false ++ ((hearJoin e x).1.hp true ++ [some ⟨(hearJoin e x).2.map LetterD.cs, 19, 67, true, true⟩])) := by
 have hC := spec_l17Copy e (by have := hs.own; omega) (by have := hs.far; omega) (by have := hs.subs; omega) (by have := hs.halfs; omega) (by have := hs.list; omega) (by have := hs.done; omega) (by have := hs.over; omega)
 have hK := spec_EndOk e (by have := hs.own; omega) (by have := hs.far; omega) (by have := hs.subs; omega) (by have := hs.halfs; omega) (by have := hs.list; omega) (by have := hs.done; omega) (by have := hs.over; omega)
 have hH := spec_HalfAt e.halfs (roadOf x) (by have := hs.halfs; omega)
 have hO := spec_OwnsAddr e x.to (by have := hs.own; omega)
 have hT := spec_TakeOne e.bucket
 have hL := spec_LetterOk x
 have hTk := spec_TokenFor e.side
 have hbH := halfAt_bd e.halfs (roadOf x)
 have hf := hj_f (e := e) (x := x)
 have hns := fun i => @hj_s e x i
 have hnn := @hj_n e x
 have hok := hjOk.eq_1 e x
 generalize hearJoin e x = R at *
 refine qE Tryz.func210 Tryz.ntmps210 Tryz.results210 fun E hE => ?_
 refine qK (hC) (qA [0, 1, 2, 3, 4, 5, 6]) ?_
 refine qK (spec_RoadOf x) [] ?_
 refine qK (hH) (qA [3]) ?_
 rcases hbH with hi | ⟨hi0, hi1⟩
 ·rw [hi]
  refine qX ?_
  refine qD [0, 1, 2, 3, 4, 5, 6, 7, 8, 9, 10, 11, 12, 13, 14, 15, 16, 17, 18, 19, 20, 21, 22, 23, 24, 25, 26, 27, 28, 29, 30, 31, 32, 33, 34, 35, 36, 37, 38, 39, 40, 41, 42, 43, 44, 45, 46, 47, 48, 49, 50, 51, 52, 53] ?_
  refine qKD (hK) (qA [0, 1, 2, 3, 4, 5, 6]) ?_
  refine qB (fun h1 => ?_) fun h1 => ?_
  ·refine qKD (hL) [] ?_
   refine qB (fun h2 => ?_) fun h2 => ?_
   ·refine qB (fun h3 => ?_) fun h3 => ?_
    ·refine qKD (hTk) [] ?_
     refine qB (fun h4 => ?_) fun h4 => ?_
     ·refine qKD (hO) (qA [0, 1, 2, 3, 4, 5, 6]) ?_
      refine qB (fun h5 => ?_) fun h5 => ?_
      ·refine qB (fun h6 => ?_) fun h6 => ?_
       ·refine qB (fun h7 => ?_) fun h7 => ?_
        ·refine qKD (spec_l18Room2 e) (qA [0, 1, 2, 3, 4, 5, 6]) ?_
         refine qB (fun h8 => ?_) fun h8 => ?_
         ·refine qG ?_
          refine qB (fun h9 => ?_) fun h9 => ?_
          ·rw [hf (by rw [hok]; first | (simp [h1, h2, h3, h4, h5, h6, h8, h9, hi]; done) | (simp [h1, h2, h3, h4, h5, h6, h8, h9, hi]; intros; omega))]
           exact qF (qA [0, 1, 2, 3, 4, 5, 6, 10, 11, 12, 13, 14, 15, 16, 18])
          ·refine qX ?_
           refine qK (hT) [] ?_
           refine qB (fun h10 => ?_) fun h10 => ?_
           ·rw [hf (by rw [hok]; first | (simp [h1, h2, h3, h4, h5, h6, h8, h9, h10, hi]; done) | (simp [h1, h2, h3, h4, h5, h6, h8, h9, h10, hi]; intros; omega))]
            exact qF (qA [0, 1, 2, 3, 4, 5, 6, 10, 11, 12, 13, 14, 15, 16, 18])
           ·have hnow := endOk_now h1
            have hok' : hjOk e x = true := by rw [hok]; have := halfsOk_le (endOk_halfs h1); have := endOk_subs h1; simp [h1, h2, h3, h4, h5, h6, h8, h9, h10, hi]; try omega
            refine qX ?_
            have hsm : hjSame e x = false := hjSame_no hi
            refine qD [0, 1, 2, 3, 4, 5, 6, 7, 8, 9, 10, 11, 12, 13, 14, 15, 16, 17, 18, 19, 20, 21, 22, 23] ?_
            refine qG ?_
            rw [hnn hok' hsm]
            refine qX ?_
            have hP := spec_PutHalf e.halfs (newHalf e x) (by have := halfsOk_le (endOk_halfs h1); omega)
            obtain ⟨Q, hQ⟩ : ∃ Q, Q = putHalf e.halfs (newHalf e x) := ⟨_, rfl⟩
            rw [← hQ] at hP ⊢
            have hQl : Q.1.length ≤ 1048576 := by rw [hQ]; have := halfsOk_le (endOk_halfs h1); have := putHalfL_len e.halfs (newHalf e x); unfold putHalf; split <;> dsimp only <;> omega
            have h8' := h8
            simp only [inR, Bool.and_eq_true, decide_eq_true_eq] at h8'
            have hd1 : inR e.draw 1 999999998 = true := by simp only [inR, Bool.and_eq_true, decide_eq_true_eq]; omega
            have hd2 : inR (e.draw + 2) 1 999999998 = true := by simp only [inR, Bool.and_eq_true, decide_eq_true_eq]; omega
            refine qK (spec_l18Draw { e with bucket := (takeOne e.bucket).1 } ⟨hs.own, hs.far, hs.subs, hs.halfs, hs.list, hs.done, hs.over⟩ hd1) (qA [10, 11, 12, 13, 14, 15, 16]) ?_
            refine qK (spec_l18Draw { e with bucket := (takeOne e.bucket).1, draw := e.draw + 2 } ⟨hs.own, hs.far, hs.subs, hs.halfs, hs.list, hs.done, hs.over⟩ hd2) (qA [22, 23, 24, 25, 26, 27, 28]) ?_
            refine qK (hP) (qA [32]) ?_
            refine den_drawC [(0, 19), (11, 0), (17, 0), (18, 0)] [[1, 2, 3, 4, 5, 6, 7, 8, 9, 10, 12, 13, 14, 15, 11, 16, 17, 18, 0, 19, 20, 21], [1, 2, 3, 4, 5, 6, 7, 8, 9, 10, 12, 13, 14, 15, 11, 16, 17, 0, 18, 19, 20, 21], [1, 2, 3, 4, 5, 6, 7, 8, 9, 10, 12, 13, 14, 15, 11, 16, 0, 17, 18, 19, 20, 21], [1, 2, 3, 4, 5, 6, 7, 8, 9, 10, 12, 13, 14, 15, 0, 11, 16, 17, 18, 19, 20, 21], [1, 2, 3, 4, 5, 6, 7, 8, 9, 10, 12, 13, 14, 15, 11, 16, 17, 18, 19, 0, 20, 21]] (by kernel_rfl) (qC) (by kernel_rfl) ?_
            simp only [allDn]
            refine ⟨runD_den 400 ?_, runD_den 400 ?_, runD_den 400 ?_, runD_den 400 ?_, runD_den 400 ?_⟩
            all_goals simp (disch := omega) only [go_sem, Nat.reduceEqDiff, Nat.reduceAdd, Nat.reduceSub, Int.reduceAdd, Int.reduceSub, Int.reduceToNat]
            all_goals
             refine qKD (spec_TagBack _ _ _ _) [] ?_
             refine qKD (spec_Between (roadOf x) { letNone with kind := 5, tag := ⟨1, e.key, e.peer, (newHalf e x).mine, (newHalf e x).theirs⟩, nonce := (newHalf e x).mine, give := (newHalf e x).take }) [] ?_
             refine qG ?_
             refine den_fin (qA [0, 1, 2, 3, 4, 5, 6, 29, 30, 31, 36, 33, 34, 35, 38]) (qC) _ (by simp only [go_sem]; rfl) (by rfl) (by rfl) ?_
             simp (disch := omega) only [go_sem, Nat.reduceEqDiff, Nat.reduceAdd, Nat.reduceSub, Int.reduceAdd, Int.reduceSub, Int.reduceToNat]
             try simp [List.map_set, HalfD.cs, backL, newHalf, between, LetterD.cs, letNone]
             try omega
         ·rw [hf (by rw [hok]; first | (simp [h1, h2, h3, h4, h5, h6, h8, hi]; done) | (simp [h1, h2, h3, h4, h5, h6, h8, hi]; intros; omega))]
          refine qG ?_
          exact qF (qA [0, 1, 2, 3, 4, 5, 6, 10, 11, 12, 13, 14, 15, 16, 18])
        ·rw [hf (by rw [hok]; first | (simp [h1, h2, h3, h4, h5, h6, h7, hi]; done) | (simp [h1, h2, h3, h4, h5, h6, h7, hi]; intros; omega))]
         refine qG ?_
         exact qF (qA [0, 1, 2, 3, 4, 5, 6, 10, 11, 12, 13, 14, 15, 16, 18])
       ·rw [hf (by rw [hok]; first | (simp [h1, h2, h3, h4, h5, h6, hi]; done) | (simp [h1, h2, h3, h4, h5, h6, hi]; intros; omega))]
        refine qG ?_
        exact qF (qA [0, 1, 2, 3, 4, 5, 6, 10, 11, 12, 13, 14, 15, 16, 18])
      ·rw [hf (by rw [hok]; first | (simp [h1, h2, h3, h4, h5, hi]; done) | (simp [h1, h2, h3, h4, h5, hi]; intros; omega))]
       refine qG ?_
       exact qF (qA [0, 1, 2, 3, 4, 5, 6, 10, 11, 12, 13, 14, 15, 16, 18])
     ·rw [hf (by rw [hok]; first | (simp [h1, h2, h3, h4, hi]; done) | (simp [h1, h2, h3, h4, hi]; intros; omega))]
      refine qG ?_
      exact qF (qA [0, 1, 2, 3, 4, 5, 6, 10, 11, 12, 13, 14, 15, 16, 18])
    ·rw [hf (by rw [hok]; first | (simp [h1, h2, h3, hi]; done) | (simp [h1, h2, h3, hi]; intros; omega))]
     refine qG ?_
     exact qF (qA [0, 1, 2, 3, 4, 5, 6, 10, 11, 12, 13, 14, 15, 16, 18])
   ·rw [hf (by rw [hok]; first | (simp [h1, h2, hi]; done) | (simp [h1, h2, hi]; intros; omega))]
    refine qG ?_
    exact qF (qA [0, 1, 2, 3, 4, 5, 6, 10, 11, 12, 13, 14, 15, 16, 18])
  ·rw [hf (by rw [hok]; first | (simp [h1, hi]; done) | (simp [h1, hi]; intros; omega))]
   refine qG ?_
   exact qF (qA [0, 1, 2, 3, 4, 5, 6, 10, 11, 12, 13, 14, 15, 16, 18])
 ·obtain ⟨i, hi⟩ := Int.eq_ofNat_of_zero_le hi0
  have hil : i < e.halfs.length := by omega
  rw [hi]
  refine qX ?_
  refine qD [0, 1, 2, 3, 4, 5, 6, 7, 8, 9, 10, 11, 12, 13, 14, 15, 16, 17, 18, 19, 20, 21, 22, 23, 24, 25, 26, 27, 28, 29, 30, 31, 32, 33, 34, 35, 36, 37, 38, 39, 40, 41, 42, 43, 44, 45, 46, 47, 48, 49, 50, 51, 52, 53] ?_
  refine qKD (hK) (qA [0, 1, 2, 3, 4, 5, 6]) ?_
  refine qB (fun h1 => ?_) fun h1 => ?_
  ·refine qKD (hL) [] ?_
   refine qB (fun h2 => ?_) fun h2 => ?_
   ·refine qB (fun h3 => ?_) fun h3 => ?_
    ·refine qKD (hTk) [] ?_
     refine qB (fun h4 => ?_) fun h4 => ?_
     ·refine qKD (hO) (qA [0, 1, 2, 3, 4, 5, 6]) ?_
      refine qB (fun h5 => ?_) fun h5 => ?_
      ·refine qB (fun h6 => ?_) fun h6 => ?_
       ·refine qKD (spec_l18Room2 e) (qA [0, 1, 2, 3, 4, 5, 6]) ?_
        refine qB (fun h8 => ?_) fun h8 => ?_
        ·refine qG ?_
         refine qB (fun h9 => ?_) fun h9 => ?_
         ·rw [hf (by rw [hok]; first | (simp [h1, h2, h3, h4, h5, h6, h8, h9, hi]; done) | (simp [h1, h2, h3, h4, h5, h6, h8, h9, hi]; intros; omega))]
          exact qF (qA [0, 1, 2, 3, 4, 5, 6, 10, 11, 12, 13, 14, 15, 16, 18])
         ·refine qX ?_
          refine qK (hT) [] ?_
          refine qB (fun h10 => ?_) fun h10 => ?_
          ·rw [hf (by rw [hok]; first | (simp [h1, h2, h3, h4, h5, h6, h8, h9, h10, hi]; done) | (simp [h1, h2, h3, h4, h5, h6, h8, h9, h10, hi]; intros; omega))]
           exact qF (qA [0, 1, 2, 3, 4, 5, 6, 10, 11, 12, 13, 14, 15, 16, 18])
          ·have hnow := endOk_now h1
           have hok' : hjOk e x = true := by rw [hok]; have := halfsOk_le (endOk_halfs h1); have := endOk_subs h1; simp [h1, h2, h3, h4, h5, h6, h8, h9, h10, hi]; try omega
           refine qX ?_
           refine qD [0, 1, 2, 3, 4, 5, 6, 7, 8, 9, 10, 11, 12, 13, 14, 15, 16, 17, 18, 19, 20, 21, 22, 23] ?_
           refine qB (fun h11 => ?_) fun h11 => ?_
           ·refine qG ?_
            refine qB (fun h12 => ?_) fun h12 => ?_
            ·have hsm : hjSame e x = true := by rw [hjSame_at hi hil]; simp [h11, h12]
             rw [hns _ hok' hsm hi hil]
             have hrd := halfAt_road hi hil
             have hP := spec_PutHalf e.halfs { e.halfs[i] with till := e.now + 6 } (by have := halfsOk_le (endOk_halfs h1); omega)
             rw [putHalf_same (endOk_halfs h1) hil (by simp only [isN, Bool.and_eq_true, decide_eq_true_eq]; omega) (by rw [hrd]; exact hi)] at hP
             refine qX ?_
             refine qK (hP) (qA [13]) ?_
             refine den_drawC [(0, 19), (11, 0), (17, 0), (18, 0)] [[1, 2, 3, 4, 5, 6, 7, 8, 9, 10, 12, 13, 14, 15, 11, 16, 17, 18, 0, 19, 20, 21], [1, 2, 3, 4, 5, 6, 7, 8, 9, 10, 12, 13, 14, 15, 11, 16, 17, 0, 18, 19, 20, 21], [1, 2, 3, 4, 5, 6, 7, 8, 9, 10, 12, 13, 14, 15, 11, 16, 0, 17, 18, 19, 20, 21], [1, 2, 3, 4, 5, 6, 7, 8, 9, 10, 12, 13, 14, 15, 0, 11, 16, 17, 18, 19, 20, 21], [1, 2, 3, 4, 5, 6, 7, 8, 9, 10, 12, 13, 14, 15, 11, 16, 17, 18, 19, 0, 20, 21]] (by kernel_rfl) (qC) (by kernel_rfl) ?_
             simp only [allDn]
             refine ⟨runD_den 400 ?_, runD_den 400 ?_, runD_den 400 ?_, runD_den 400 ?_, runD_den 400 ?_⟩
             all_goals simp (disch := omega) only [go_sem, Nat.reduceEqDiff, Nat.reduceAdd, Nat.reduceSub, Int.reduceAdd, Int.reduceSub, Int.reduceToNat]
             all_goals
              refine qKD (spec_TagBack _ _ _ _) [] ?_
              refine qKD (spec_Between (roadOf x) { letNone with kind := 5, tag := ⟨1, e.key, e.peer, (e.halfs[i]).mine, (e.halfs[i]).theirs⟩, nonce := (e.halfs[i]).mine, give := (e.halfs[i]).take }) [] ?_
              refine qG ?_
              refine den_fin (qA [0, 1, 2, 3, 4, 5, 6, 10, 11, 12, 22, 14, 15, 16, 24]) (qC) _ (by simp only [go_sem]; rfl) (by rfl) (by rfl) ?_
              simp (disch := omega) only [go_sem, Nat.reduceEqDiff, Nat.reduceAdd, Nat.reduceSub, Int.reduceAdd, Int.reduceSub, Int.reduceToNat]
              try simp [List.map_set, HalfD.cs, backL, newHalf, between, LetterD.cs, letNone]
              try omega
            ·have hsm : hjSame e x = false := by rw [hjSame_at hi hil]; simp [h11, h12]
             rw [hnn hok' hsm]
             refine qX ?_
             have hP := spec_PutHalf e.halfs (newHalf e x) (by have := halfsOk_le (endOk_halfs h1); omega)
             obtain ⟨Q, hQ⟩ : ∃ Q, Q = putHalf e.halfs (newHalf e x) := ⟨_, rfl⟩
             rw [← hQ] at hP ⊢
             have hQl : Q.1.length ≤ 1048576 := by rw [hQ]; have := halfsOk_le (endOk_halfs h1); have := putHalfL_len e.halfs (newHalf e x); unfold putHalf; split <;> dsimp only <;> omega
             have h8' := h8
             simp only [inR, Bool.and_eq_true, decide_eq_true_eq] at h8'
             have hd1 : inR e.draw 1 999999998 = true := by simp only [inR, Bool.and_eq_true, decide_eq_true_eq]; omega
             have hd2 : inR (e.draw + 2) 1 999999998 = true := by simp only [inR, Bool.and_eq_true, decide_eq_true_eq]; omega
             refine qK (spec_l18Draw { e with bucket := (takeOne e.bucket).1 } ⟨hs.own, hs.far, hs.subs, hs.halfs, hs.list, hs.done, hs.over⟩ hd1) (qA [10, 11, 12, 13, 14, 15, 16]) ?_
             refine qK (spec_l18Draw { e with bucket := (takeOne e.bucket).1, draw := e.draw + 2 } ⟨hs.own, hs.far, hs.subs, hs.halfs, hs.list, hs.done, hs.over⟩ hd2) (qA [22, 23, 24, 25, 26, 27, 28]) ?_
             refine qK (hP) (qA [32]) ?_
             refine den_drawC [(0, 19), (11, 0), (17, 0), (18, 0)] [[1, 2, 3, 4, 5, 6, 7, 8, 9, 10, 12, 13, 14, 15, 11, 16, 17, 18, 0, 19, 20, 21], [1, 2, 3, 4, 5, 6, 7, 8, 9, 10, 12, 13, 14, 15, 11, 16, 17, 0, 18, 19, 20, 21], [1, 2, 3, 4, 5, 6, 7, 8, 9, 10, 12, 13, 14, 15, 11, 16, 0, 17, 18, 19, 20, 21], [1, 2, 3, 4, 5, 6, 7, 8, 9, 10, 12, 13, 14, 15, 0, 11, 16, 17, 18, 19, 20, 21], [1, 2, 3, 4, 5, 6, 7, 8, 9, 10, 12, 13, 14, 15, 11, 16, 17, 18, 19, 0, 20, 21]] (by kernel_rfl) (qC) (by kernel_rfl) ?_
             simp only [allDn]
             refine ⟨runD_den 400 ?_, runD_den 400 ?_, runD_den 400 ?_, runD_den 400 ?_, runD_den 400 ?_⟩
             all_goals simp (disch := omega) only [go_sem, Nat.reduceEqDiff, Nat.reduceAdd, Nat.reduceSub, Int.reduceAdd, Int.reduceSub, Int.reduceToNat]
             all_goals
              refine qKD (spec_TagBack _ _ _ _) [] ?_
              refine qKD (spec_Between (roadOf x) { letNone with kind := 5, tag := ⟨1, e.key, e.peer, (newHalf e x).mine, (newHalf e x).theirs⟩, nonce := (newHalf e x).mine, give := (newHalf e x).take }) [] ?_
              refine qG ?_
              refine den_fin (qA [0, 1, 2, 3, 4, 5, 6, 29, 30, 31, 36, 33, 34, 35, 38]) (qC) _ (by simp only [go_sem]; rfl) (by rfl) (by rfl) ?_
              simp (disch := omega) only [go_sem, Nat.reduceEqDiff, Nat.reduceAdd, Nat.reduceSub, Int.reduceAdd, Int.reduceSub, Int.reduceToNat]
              try simp [List.map_set, HalfD.cs, backL, newHalf, between, LetterD.cs, letNone]
              try omega
           ·have hsm : hjSame e x = false := by rw [hjSame_at hi hil]; simp [h11]
            refine qG ?_
            rw [hnn hok' hsm]
            refine qX ?_
            have hP := spec_PutHalf e.halfs (newHalf e x) (by have := halfsOk_le (endOk_halfs h1); omega)
            obtain ⟨Q, hQ⟩ : ∃ Q, Q = putHalf e.halfs (newHalf e x) := ⟨_, rfl⟩
            rw [← hQ] at hP ⊢
            have hQl : Q.1.length ≤ 1048576 := by rw [hQ]; have := halfsOk_le (endOk_halfs h1); have := putHalfL_len e.halfs (newHalf e x); unfold putHalf; split <;> dsimp only <;> omega
            have h8' := h8
            simp only [inR, Bool.and_eq_true, decide_eq_true_eq] at h8'
            have hd1 : inR e.draw 1 999999998 = true := by simp only [inR, Bool.and_eq_true, decide_eq_true_eq]; omega
            have hd2 : inR (e.draw + 2) 1 999999998 = true := by simp only [inR, Bool.and_eq_true, decide_eq_true_eq]; omega
            refine qK (spec_l18Draw { e with bucket := (takeOne e.bucket).1 } ⟨hs.own, hs.far, hs.subs, hs.halfs, hs.list, hs.done, hs.over⟩ hd1) (qA [10, 11, 12, 13, 14, 15, 16]) ?_
            refine qK (spec_l18Draw { e with bucket := (takeOne e.bucket).1, draw := e.draw + 2 } ⟨hs.own, hs.far, hs.subs, hs.halfs, hs.list, hs.done, hs.over⟩ hd2) (qA [22, 23, 24, 25, 26, 27, 28]) ?_
            refine qK (hP) (qA [32]) ?_
            refine den_drawC [(0, 19), (11, 0), (17, 0), (18, 0)] [[1, 2, 3, 4, 5, 6, 7, 8, 9, 10, 12, 13, 14, 15, 11, 16, 17, 18, 0, 19, 20, 21], [1, 2, 3, 4, 5, 6, 7, 8, 9, 10, 12, 13, 14, 15, 11, 16, 17, 0, 18, 19, 20, 21], [1, 2, 3, 4, 5, 6, 7, 8, 9, 10, 12, 13, 14, 15, 11, 16, 0, 17, 18, 19, 20, 21], [1, 2, 3, 4, 5, 6, 7, 8, 9, 10, 12, 13, 14, 15, 0, 11, 16, 17, 18, 19, 20, 21], [1, 2, 3, 4, 5, 6, 7, 8, 9, 10, 12, 13, 14, 15, 11, 16, 17, 18, 19, 0, 20, 21]] (by kernel_rfl) (qC) (by kernel_rfl) ?_
            simp only [allDn]
            refine ⟨runD_den 400 ?_, runD_den 400 ?_, runD_den 400 ?_, runD_den 400 ?_, runD_den 400 ?_⟩
            all_goals simp (disch := omega) only [go_sem, Nat.reduceEqDiff, Nat.reduceAdd, Nat.reduceSub, Int.reduceAdd, Int.reduceSub, Int.reduceToNat]
            all_goals
             refine qKD (spec_TagBack _ _ _ _) [] ?_
             refine qKD (spec_Between (roadOf x) { letNone with kind := 5, tag := ⟨1, e.key, e.peer, (newHalf e x).mine, (newHalf e x).theirs⟩, nonce := (newHalf e x).mine, give := (newHalf e x).take }) [] ?_
             refine qG ?_
             refine den_fin (qA [0, 1, 2, 3, 4, 5, 6, 29, 30, 31, 36, 33, 34, 35, 38]) (qC) _ (by simp only [go_sem]; rfl) (by rfl) (by rfl) ?_
             simp (disch := omega) only [go_sem, Nat.reduceEqDiff, Nat.reduceAdd, Nat.reduceSub, Int.reduceAdd, Int.reduceSub, Int.reduceToNat]
             try simp [List.map_set, HalfD.cs, backL, newHalf, between, LetterD.cs, letNone]
             try omega
        ·rw [hf (by rw [hok]; first | (simp [h1, h2, h3, h4, h5, h6, h8, hi]; done) | (simp [h1, h2, h3, h4, h5, h6, h8, hi]; intros; omega))]
         refine qG ?_
         exact qF (qA [0, 1, 2, 3, 4, 5, 6, 10, 11, 12, 13, 14, 15, 16, 18])
       ·rw [hf (by rw [hok]; first | (simp [h1, h2, h3, h4, h5, h6, hi]; done) | (simp [h1, h2, h3, h4, h5, h6, hi]; intros; omega))]
        refine qG ?_
        exact qF (qA [0, 1, 2, 3, 4, 5, 6, 10, 11, 12, 13, 14, 15, 16, 18])
      ·rw [hf (by rw [hok]; first | (simp [h1, h2, h3, h4, h5, hi]; done) | (simp [h1, h2, h3, h4, h5, hi]; intros; omega))]
       refine qG ?_
       exact qF (qA [0, 1, 2, 3, 4, 5, 6, 10, 11, 12, 13, 14, 15, 16, 18])
     ·rw [hf (by rw [hok]; first | (simp [h1, h2, h3, h4, hi]; done) | (simp [h1, h2, h3, h4, hi]; intros; omega))]
      refine qG ?_
      exact qF (qA [0, 1, 2, 3, 4, 5, 6, 10, 11, 12, 13, 14, 15, 16, 18])
    ·rw [hf (by rw [hok]; first | (simp [h1, h2, h3, hi]; done) | (simp [h1, h2, h3, hi]; intros; omega))]
     refine qG ?_
     exact qF (qA [0, 1, 2, 3, 4, 5, 6, 10, 11, 12, 13, 14, 15, 16, 18])
   ·rw [hf (by rw [hok]; first | (simp [h1, h2, hi]; done) | (simp [h1, h2, hi]; intros; omega))]
    refine qG ?_
    exact qF (qA [0, 1, 2, 3, 4, 5, 6, 10, 11, 12, 13, 14, 15, 16, 18])
  ·rw [hf (by rw [hok]; first | (simp [h1, hi]; done) | (simp [h1, hi]; intros; omega))]
   refine qG ?_
   exact qF (qA [0, 1, 2, 3, 4, 5, 6, 10, 11, 12, 13, 14, 15, 16, 18])

end
section
open Go.RowKit

def adAtN (l : List AddrD) (n : Nat) : AddrD := l.getD n default
theorem adAtN_at {l : List AddrD} {n : Nat} (h : n < l.length) : adAtN l n = l[n] := by simp [adAtN, List.getD_eq_getElem?_getD, h]
def haNew (x : LetterD) : AddrD := ⟨x.id, x.addr, x.spare, true⟩
def haOther (e : EndD) (x : LetterD) : Bool := decide (0 ≤ addrAt e.far x.id) && !decide ((adAtN e.far (addrAt e.far x.id).toNat).addr = x.addr)
theorem haOther_no {e : EndD} {x : LetterD} (h : addrAt e.far x.id = -1) : haOther e x = false := by rw [haOther, h]; rfl
theorem haOther_at {e : EndD} {x : LetterD} {i : Nat} (h : addrAt e.far x.id = (i : Int)) (hi : i < e.far.length) : haOther e x = !decide (e.far[i].addr = x.addr) := by
 rw [haOther, h, Int.toNat_natCast, adAtN_at hi]
 simp
def haHeard (e : EndD) (x : LetterD) : Bool :=
 decide (0 ≤ onAt e x) && decide (x.tag = ⟨3, e.peer, e.key, x.id, x.addr⟩) && !hasI e.over x.id && !haOther e x && (putAddr e.far (haNew x)).2
def echoL (x : LetterD) (n : Int) : LetterD := between (roadOf x) { letNone with kind := 9, sgn := n, id := x.id, addr := x.addr }
def hearAddr (e : EndD) (x : LetterD) : EndD × List LetterD :=
 if haHeard e x then ({ e with far := (putAddr e.far (haNew x)).1 }, [echoL x (subAtN e.subs (onAt e x).toNat).give]) else (e, [])
theorem hearAddr_f {e : EndD} {x : LetterD} (h : haHeard e x = false) : hearAddr e x = (e, []) := by rw [hearAddr, if_neg (by simp [h])]
theorem hearAddr_t {e : EndD} {x : LetterD} {n : Nat} (h : haHeard e x = true) (ho : onAt e x = (n : Int)) (hn : n < e.subs.length) :
  hearAddr e x = ({ e with far := (putAddr e.far (haNew x)).1 }, [echoL x e.subs[n].give]) := by rw [hearAddr, if_pos h, ho, Int.toNat_natCast, subAtN_at hn]
def echoOk (e : EndD) (x : LetterD) : Bool := decide (0 ≤ onAt e x) && decide (0 ≤ addrAt e.own x.id) && decide ((adAtN e.own (addrAt e.own x.id).toNat).addr = x.addr)
def hearEcho (e : EndD) (x : LetterD) : EndD × List LetterD :=
 (if echoOk e x then { e with own := e.own.set (addrAt e.own x.id).toNat { adAtN e.own (addrAt e.own x.id).toNat with told := true } } else e, [])
theorem hearEcho_f {e : EndD} {x : LetterD} (h : echoOk e x = false) : hearEcho e x = (e, []) := by rw [hearEcho, if_neg (by simp [h])]
theorem hearEcho_t {e : EndD} {x : LetterD} {i : Nat} (h : echoOk e x = true) (hi : addrAt e.own x.id = (i : Int)) (hl : i < e.own.length) :
  hearEcho e x = ({ e with own := e.own.set i { e.own[i] with told := true } }, []) := by rw [hearEcho, if_pos h, hi, Int.toNat_natCast, adAtN_at hl]
theorem echoOk_at {e : EndD} {x : LetterD} {i : Nat} (hi : addrAt e.own x.id = (i : Int)) (hl : i < e.own.length) : echoOk e x = (decide (0 ≤ onAt e x) && decide (e.own[i].addr = x.addr)) := by
 rw [echoOk, hi, Int.toNat_natCast, adAtN_at hl]
 simp
theorem echoOk_no {e : EndD} {x : LetterD} (hi : addrAt e.own x.id = -1) : echoOk e x = false := by
 rw [echoOk, hi]
 simp
def goneS (a : Int) (s : SubD) : SubD := if s.road.far = a then { s with state := 4 } else s
def goneN (a : Int) (l : List SubD) (k : Nat) : List SubD := (l.take k).map (goneS a) ++ l.drop k
theorem goneN_len {a : Int} {l : List SubD} {k : Nat} : (goneN a l k).length = l.length := by simp [goneN]; omega
theorem goneN_at {a : Int} {l : List SubD} {k : Nat} (h : k < l.length) : (goneN a l k)[k]? = some l[k] := by
 have h1 : ((l.take k).map (goneS a)).length = k := by simp; omega
 rw [goneN, List.getElem?_append_right (by omega), List.drop_eq_getElem_cons h, h1]
 simp
theorem goneN_set {a : Int} {l : List SubD} {k : Nat} (h : k < l.length) : (goneN a l k).set k (goneS a l[k]) = goneN a l (k + 1) := by
 have h1 : ((l.take k).map (goneS a)).length = k := by simp; omega
 rw [goneN, goneN, List.set_append_right _ _ (by omega), List.take_succ_eq_append_getElem h, List.map_append, h1]
 simp
 rw [List.drop_eq_getElem_cons h]
 rfl
theorem goneN_same {a : Int} {l : List SubD} {k : Nat} (h : k < l.length) (hs : ¬ l[k].road.far = a) : goneN a l (k + 1) = goneN a l k := by
 rw [goneN, goneN, List.take_succ_eq_append_getElem h, List.map_append, List.drop_eq_getElem_cons h]
 simp [goneS, hs]
theorem goneN_zero {a : Int} {l : List SubD} : goneN a l 0 = l := by simp [goneN]
theorem goneN_all {a : Int} {l : List SubD} : goneN a l l.length = l.map (goneS a) := by simp [goneN]
def goneOk (e : EndD) (x : LetterD) : Bool := decide (0 ≤ onAt e x) && decide (0 ≤ addrAt e.far x.id)
def hearGone (e : EndD) (x : LetterD) : EndD × List LetterD :=
 (if goneOk e x then { e with far := (dropAddr e.far x.id).1, over := putI e.over x.id, subs := e.subs.map (goneS (adAtN e.far (addrAt e.far x.id).toNat).addr) } else e, [])
theorem hearGone_f {e : EndD} {x : LetterD} (h : goneOk e x = false) : hearGone e x = (e, []) := by rw [hearGone, if_neg (by simp [h])]
theorem hearGone_t {e : EndD} {x : LetterD} {i : Nat} (h : goneOk e x = true) (hi : addrAt e.far x.id = (i : Int)) (hl : i < e.far.length) :
  hearGone e x = ({ e with far := (dropAddr e.far x.id).1, over := putI e.over x.id, subs := e.subs.map (goneS e.far[i].addr) }, []) := by rw [hearGone, if_pos h, hi, Int.toNat_natCast, adAtN_at hl]
theorem upto_at {p : Nat → Bool} {n j : Nat} (h : upto p n = true) (hj : j < n) : p j = true := by
 simp only [upto, List.all_eq_true, List.mem_range] at h
 exact h j hj
theorem idsOk_le {l : List Int} {m : List AddrD} (h : idsOk l m = true) : l.length ≤ 256 := by
 simp only [idsOk, Bool.and_eq_true] at h
 have hup : ∀ j : Nat, j < l.length → (j : Int) ≤ l.getD j 0 := by
  intro j
  induction j with
  | zero =>
   intro hj
   have := upto_at h.2 hj
   simp only [idAt, inR, Bool.and_eq_true, decide_eq_true_eq] at this
   omega
  | succ j ih =>
   intro hj
   have h1 := ih (by omega)
   have h2 := upto_at h.1 hj
   simp only [riseAt, Bool.or_eq_true, beq_iff_eq, decide_eq_true_eq, Nat.add_sub_cancel] at h2
   omega
 rcases Nat.eq_zero_or_pos l.length with h0 | h0
 ·omega
 ·have h1 := hup (l.length - 1) (by omega)
  have h2 := upto_at h.2 (j := l.length - 1) (by omega)
  simp only [idAt, inR, Bool.and_eq_true, decide_eq_true_eq] at h2
  omega
theorem endOk_over {e : EndD} (h : endOk e = true) : e.over.length ≤ 256 := by
 simp only [endOk, Bool.and_eq_true] at h
 exact idsOk_le h.1.1.1.2
end
section
open Go.RowKit

theorem spec_HearAddr (e : EndD) (x : LetterD) (hs : Small e) : CallA Tryz.prog 214 [.ag (e.cs 0), .ag x.cs] (e.hp false) (.tu [.ag ((hearAddr e x).1.cs 7), .sc (.sl 14 0 (hearAddr e x).2.length)])
  (e.hp false ++ ((hearAddr e x).1.hp true ++ [some ⟨(hearAddr e x).2.map LetterD.cs, 19, 67, true, true⟩])) := by
 have hC := spec_l17Copy e (by have := hs.own; omega) (by have := hs.far; omega) (by have := hs.subs; omega) (by have := hs.halfs; omega) (by have := hs.list; omega) (by have := hs.done; omega) (by have := hs.over; omega)
 have hK := spec_EndOk e (by have := hs.own; omega) (by have := hs.far; omega) (by have := hs.subs; omega) (by have := hs.halfs; omega) (by have := hs.list; omega) (by have := hs.done; omega) (by have := hs.over; omega)
 have hA := spec_AddrAt e.far x.id (by have := hs.far; omega)
 have hH := spec_l15Has e.over x.id (by have := hs.over; omega)
 have hS := spec_l20On e x hs
 have hbA := addrAt_bd e.far x.id
 have hbd := onAt_bd e x
 have hf := hearAddr_f (e := e) (x := x)
 have ht := fun (n : Nat) => @hearAddr_t e x n
 have hok := haHeard.eq_1 e x
 generalize hearAddr e x = R at *
 refine qE Tryz.func214 Tryz.ntmps214 Tryz.results214 fun E hE => ?_
 refine qK (hC) (qA [0, 1, 2, 3, 4, 5, 6]) ?_
 refine qK (hS) (qA [0, 1, 2, 3, 4, 5, 6]) ?_
 have hcmp := TagD.cmp x.tag ⟨3, e.peer, e.key, x.id, x.addr⟩
 simp only [TagD.cs, go_sem] at hcmp
 rcases hbd with hon | ⟨n, hon, hk, hn, hq1, hq2⟩
 ·rw [hf (by rw [hok]; simp [hon]), hon]
  refine qX ?_
  refine qD [0, 1, 2, 3, 4, 5, 6, 7, 8, 9, 10, 11, 12, 13, 14, 15, 16, 17, 18, 19, 20, 21, 22] ?_
  refine qG ?_
  exact qF (qA [0, 1, 2, 3, 4, 5, 6, 10, 11, 12, 13, 14, 15, 16, 18])
 ·rw [hon]
  refine qX ?_
  refine qD [0, 1, 2, 3, 4, 5, 6, 7, 8, 9, 10, 11, 12, 13, 14, 15, 16, 17, 18, 19, 20, 21, 22] ?_
  refine qKD (spec_TagAddr _ _ _ _) [] ?_
  try simp (disch := omega) only [go_sem, Nat.reduceEqDiff, Nat.reduceAdd, Nat.reduceSub, Int.reduceAdd, Int.reduceSub, Int.reduceToNat, hcmp]
  refine qB (fun h4 => ?_) fun h4 => ?_
  ·refine qKD (hH) (qA [6]) ?_
   refine qG ?_
   refine qB (fun h5 => ?_) fun h5 => ?_
   ·rw [hf (by rw [hok]; simp [h5])]
    refine qX ?_
    exact qF (qA [0, 1, 2, 3, 4, 5, 6, 10, 11, 12, 13, 14, 15, 16, 18])
   ·refine qX ?_
    refine qK (hA) (qA [1]) ?_
    rcases hbA with hi | ⟨hi0, hi1⟩
    ·rw [hi]
     refine qX ?_
     have hoth := haOther_no hi
     refine qD [0, 1, 2, 3, 4, 5, 6, 7, 8, 9, 10, 11, 12] ?_
     refine qG ?_
     have hP := spec_PutAddr e.far (haNew x) (by have := endOk_far hq1; omega)
     obtain ⟨Q, hQ⟩ : ∃ Q, Q = putAddr e.far (haNew x) := ⟨_, rfl⟩
     have hQl : Q.1.length ≤ 1048576 := by rw [hQ]; have := endOk_far hq1; have := putAddrL_len e.far (haNew x); unfold putAddr; split <;> dsimp only <;> omega
     rw [← hQ] at hP
     refine qX ?_
     refine qK (hP) (qA [1]) ?_
     refine qB (fun h7 => ?_) fun h7 => ?_
     ·rw [hf (by rw [hok, ← hQ]; simp [h7])]
      refine qX ?_
      exact qF (qA [0, 1, 2, 3, 4, 5, 6, 10, 11, 12, 13, 14, 15, 16, 18])
     ·rw [ht _ (by rw [hok, hoth, ← hQ]; simp [hon, h4, h5, h7]) hon hn, ← hQ]
      refine qX ?_
      refine den_drawC [(0, 17), (3, 0), (15, 0), (16, 0)] [[1, 2, 4, 5, 6, 7, 8, 9, 10, 11, 12, 13, 14, 3, 15, 16, 0, 17, 18, 19], [1, 2, 4, 5, 6, 7, 8, 9, 10, 11, 12, 13, 14, 3, 15, 0, 16, 17, 18, 19], [1, 2, 4, 5, 6, 7, 8, 9, 10, 11, 12, 13, 14, 3, 0, 15, 16, 17, 18, 19], [1, 2, 4, 5, 6, 7, 8, 9, 10, 11, 12, 13, 14, 0, 3, 15, 16, 17, 18, 19], [1, 2, 4, 5, 6, 7, 8, 9, 10, 11, 12, 13, 14, 3, 15, 16, 17, 0, 18, 19]] (by kernel_rfl) (qC) (by kernel_rfl) ?_
      simp only [allDn]
      refine ⟨runD_den 400 ?_, runD_den 400 ?_, runD_den 400 ?_, runD_den 400 ?_, runD_den 400 ?_⟩
      all_goals simp (disch := omega) only [go_sem, Nat.reduceEqDiff, Nat.reduceAdd, Nat.reduceSub, Int.reduceAdd, Int.reduceSub, Int.reduceToNat]
      all_goals
       refine qKD (spec_RoadOf x) [] ?_
       refine qKD (spec_Between (roadOf x) { letNone with kind := 9, sgn := e.subs[n].give, id := x.id, addr := x.addr }) [] ?_
       refine qG ?_
       refine den_fin (qA [0, 1, 2, 3, 4, 5, 6, 10, 19, 12, 13, 14, 15, 16, 21]) (qC) _ (by simp only [go_sem]; rfl) (by rfl) (by rfl) ?_
       simp (disch := omega) only [go_sem, Nat.reduceEqDiff, Nat.reduceAdd, Nat.reduceSub, Int.reduceAdd, Int.reduceSub, Int.reduceToNat]
       try simp [echoL, between, LetterD.cs]
    ·obtain ⟨i, hi⟩ := Int.eq_ofNat_of_zero_le hi0
     have hil : i < e.far.length := by omega
     have hoth := haOther_at hi hil
     rw [hi]
     refine qX ?_
     refine qD [0, 1, 2, 3, 4, 5, 6, 7, 8, 9, 10, 11, 12] ?_
     refine qG ?_
     refine qB (fun h6 => ?_) fun h6 => ?_
     ·rw [hf (by rw [hok, hoth]; simp [h6])]
      refine qX ?_
      exact qF (qA [0, 1, 2, 3, 4, 5, 6, 10, 11, 12, 13, 14, 15, 16, 18])
     ·simp only [h6, decide_true, Bool.not_true] at hoth
      have hP := spec_PutAddr e.far (haNew x) (by have := endOk_far hq1; omega)
      obtain ⟨Q, hQ⟩ : ∃ Q, Q = putAddr e.far (haNew x) := ⟨_, rfl⟩
      have hQl : Q.1.length ≤ 1048576 := by rw [hQ]; have := endOk_far hq1; have := putAddrL_len e.far (haNew x); unfold putAddr; split <;> dsimp only <;> omega
      rw [← hQ] at hP
      refine qX ?_
      refine qK (hP) (qA [1]) ?_
      refine qB (fun h7 => ?_) fun h7 => ?_
      ·rw [hf (by rw [hok, ← hQ]; simp [h7])]
       refine qX ?_
       exact qF (qA [0, 1, 2, 3, 4, 5, 6, 10, 11, 12, 13, 14, 15, 16, 18])
      ·rw [ht _ (by rw [hok, hoth, ← hQ]; simp [hon, h4, h5, h7]) hon hn, ← hQ]
       refine qX ?_
       refine den_drawC [(0, 17), (3, 0), (15, 0), (16, 0)] [[1, 2, 4, 5, 6, 7, 8, 9, 10, 11, 12, 13, 14, 3, 15, 16, 0, 17, 18, 19], [1, 2, 4, 5, 6, 7, 8, 9, 10, 11, 12, 13, 14, 3, 15, 0, 16, 17, 18, 19], [1, 2, 4, 5, 6, 7, 8, 9, 10, 11, 12, 13, 14, 3, 0, 15, 16, 17, 18, 19], [1, 2, 4, 5, 6, 7, 8, 9, 10, 11, 12, 13, 14, 0, 3, 15, 16, 17, 18, 19], [1, 2, 4, 5, 6, 7, 8, 9, 10, 11, 12, 13, 14, 3, 15, 16, 17, 0, 18, 19]] (by kernel_rfl) (qC) (by kernel_rfl) ?_
       simp only [allDn]
       refine ⟨runD_den 400 ?_, runD_den 400 ?_, runD_den 400 ?_, runD_den 400 ?_, runD_den 400 ?_⟩
       all_goals simp (disch := omega) only [go_sem, Nat.reduceEqDiff, Nat.reduceAdd, Nat.reduceSub, Int.reduceAdd, Int.reduceSub, Int.reduceToNat]
       all_goals
        refine qKD (spec_RoadOf x) [] ?_
        refine qKD (spec_Between (roadOf x) { letNone with kind := 9, sgn := e.subs[n].give, id := x.id, addr := x.addr }) [] ?_
        refine qG ?_
        refine den_fin (qA [0, 1, 2, 3, 4, 5, 6, 10, 19, 12, 13, 14, 15, 16, 21]) (qC) _ (by simp only [go_sem]; rfl) (by rfl) (by rfl) ?_
        simp (disch := omega) only [go_sem, Nat.reduceEqDiff, Nat.reduceAdd, Nat.reduceSub, Int.reduceAdd, Int.reduceSub, Int.reduceToNat]
        try simp [echoL, between, LetterD.cs]
  ·rw [hf (by rw [hok]; simp [h4])]
   refine qG ?_
   exact qF (qA [0, 1, 2, 3, 4, 5, 6, 10, 11, 12, 13, 14, 15, 16, 18])

end
section
open Go.RowKit

theorem spec_HearEcho (e : EndD) (x : LetterD) (hs : Small e) : CallA Tryz.prog 215 [.ag (e.cs 0), .ag x.cs] (e.hp false) (.tu [.ag ((hearEcho e x).1.cs 7), .sc (.sl 14 0 (hearEcho e x).2.length)])
  (e.hp false ++ ((hearEcho e x).1.hp true ++ [some ⟨(hearEcho e x).2.map LetterD.cs, 19, 67, true, true⟩])) := by
 have hC := spec_l17Copy e (by have := hs.own; omega) (by have := hs.far; omega) (by have := hs.subs; omega) (by have := hs.halfs; omega) (by have := hs.list; omega) (by have := hs.done; omega) (by have := hs.over; omega)
 have hK := spec_EndOk e (by have := hs.own; omega) (by have := hs.far; omega) (by have := hs.subs; omega) (by have := hs.halfs; omega) (by have := hs.list; omega) (by have := hs.done; omega) (by have := hs.over; omega)
 have hA := spec_AddrAt e.own x.id (by have := hs.own; omega)
 have hS := spec_l20On e x hs
 have hbA := addrAt_bd e.own x.id
 have hbd := onAt_bd e x
 have hf := hearEcho_f (e := e) (x := x)
 have ht := fun (n : Nat) => @hearEcho_t e x n
 have hok := echoOk.eq_1 e x
 generalize hearEcho e x = R at *
 refine qE Tryz.func215 Tryz.ntmps215 Tryz.results215 fun E hE => ?_
 refine qK (hC) (qA [0, 1, 2, 3, 4, 5, 6]) ?_
 refine qK (hA) (qA [0]) ?_
 rcases hbA with hi | ⟨hi0, hi1⟩
 ·rw [hi]
  refine qX ?_
  refine qD [0, 1, 2, 3, 4, 5, 6, 7, 8, 9, 10, 11, 12, 13, 14, 15, 16, 17, 18] ?_
  refine qKD (hS) (qA [0, 1, 2, 3, 4, 5, 6]) ?_
  rcases hbd with hon | ⟨n, hon, hk, hn, hq1, hq2⟩
  ·rw [hon]
   refine qX ?_
   rw [hf (echoOk_no hi)]
   refine qG ?_
   exact qF (qA [0, 1, 2, 3, 4, 5, 6, 10, 11, 12, 13, 14, 15, 16, 18])
  ·rw [hon]
   refine qX ?_
   rw [hf (echoOk_no hi)]
   refine qG ?_
   exact qF (qA [0, 1, 2, 3, 4, 5, 6, 10, 11, 12, 13, 14, 15, 16, 18])
 ·obtain ⟨i, hi⟩ := Int.eq_ofNat_of_zero_le hi0
  have hil : i < e.own.length := by omega
  rw [hi]
  refine qX ?_
  refine qD [0, 1, 2, 3, 4, 5, 6, 7, 8, 9, 10, 11, 12, 13, 14, 15, 16, 17, 18] ?_
  refine qKD (hS) (qA [0, 1, 2, 3, 4, 5, 6]) ?_
  rcases hbd with hon | ⟨n, hon, hk, hn, hq1, hq2⟩
  ·rw [hon]
   refine qX ?_
   rw [hf (by rw [echoOk_at hi hil]; have := hon; simp; omega)]
   refine qG ?_
   exact qF (qA [0, 1, 2, 3, 4, 5, 6, 10, 11, 12, 13, 14, 15, 16, 18])
  ·rw [hon]
   refine qX ?_
   refine qG ?_
   refine qB (fun h5 => ?_) fun h5 => ?_
   ·rw [ht _ (by rw [echoOk_at hi hil]; simp [hon, h5]) hi hil]
    refine qX ?_
    refine den_fin (qA [0, 1, 2, 3, 4, 5, 6, 10, 11, 12, 13, 14, 15, 16, 18]) (qC) _ (by simp only [go_sem]; rfl) (by rfl) (by rfl) ?_
    simp (disch := omega) only [go_sem, Nat.reduceEqDiff, Nat.reduceAdd, Nat.reduceSub, Int.reduceAdd, Int.reduceSub, Int.reduceToNat]
    try simp [List.map_set, AddrD.cs]
   ·rw [hf (by rw [echoOk_at hi hil]; simp [h5])]
    refine qX ?_
    exact qF (qA [0, 1, 2, 3, 4, 5, 6, 10, 11, 12, 13, 14, 15, 16, 18])

theorem spec_HearGone (e : EndD) (x : LetterD) (hs : Small e) : CallA Tryz.prog 216 [.ag (e.cs 0), .ag x.cs] (e.hp false) (.tu [.ag ((hearGone e x).1.cs 7), .sc (.sl 14 0 (hearGone e x).2.length)])
  (e.hp false ++ ((hearGone e x).1.hp true ++ [some ⟨(hearGone e x).2.map LetterD.cs, 19, 67, true, true⟩])) := by
 have hC := spec_l17Copy e (by have := hs.own; omega) (by have := hs.far; omega) (by have := hs.subs; omega) (by have := hs.halfs; omega) (by have := hs.list; omega) (by have := hs.done; omega) (by have := hs.over; omega)
 have hK := spec_EndOk e (by have := hs.own; omega) (by have := hs.far; omega) (by have := hs.subs; omega) (by have := hs.halfs; omega) (by have := hs.list; omega) (by have := hs.done; omega) (by have := hs.over; omega)
 have hA := spec_AddrAt e.far x.id (by have := hs.far; omega)
 have hD := spec_DropAddr e.far x.id (by have := hs.far; omega)
 have hS := spec_l20On e x hs
 have hbA := addrAt_bd e.far x.id
 have hbd := onAt_bd e x
 have hf := hearGone_f (e := e) (x := x)
 have ht := fun (n : Nat) => @hearGone_t e x n
 have hok := goneOk.eq_1 e x
 have hpl := putI_len e.over x.id
 generalize hearGone e x = R at *
 refine qE Tryz.func216 Tryz.ntmps216 Tryz.results216 fun E hE => ?_
 refine qK (hC) (qA [0, 1, 2, 3, 4, 5, 6]) ?_
 refine qK (hA) (qA [1]) ?_
 rcases hbA with hi | ⟨hi0, hi1⟩
 ·rw [hi]
  refine qX ?_
  refine qK (hS) (qA [0, 1, 2, 3, 4, 5, 6]) ?_
  rcases hbd with hon | ⟨n, hon, hk, hn, hq1, hq2⟩
  ·rw [hon]
   refine qX ?_
   rw [hf (by rw [hok]; have := hon; simp; omega)]
   refine qX ?_
   exact qF (qA [0, 1, 2, 3, 4, 5, 6, 10, 11, 12, 13, 14, 15, 16, 18])
  ·rw [hon]
   refine qX ?_
   rw [hf (by rw [hok]; simp [hi])]
   refine qX ?_
   exact qF (qA [0, 1, 2, 3, 4, 5, 6, 10, 11, 12, 13, 14, 15, 16, 18])
 ·obtain ⟨i, hi⟩ := Int.eq_ofNat_of_zero_le hi0
  have hil : i < e.far.length := by omega
  rw [hi]
  refine qX ?_
  refine qK (hS) (qA [0, 1, 2, 3, 4, 5, 6]) ?_
  rcases hbd with hon | ⟨n, hon, hk, hn, hq1, hq2⟩
  ·rw [hon]
   refine qX ?_
   rw [hf (by rw [hok]; have := hon; simp; omega)]
   refine qX ?_
   exact qF (qA [0, 1, 2, 3, 4, 5, 6, 10, 11, 12, 13, 14, 15, 16, 18])
  ·rw [hon]
   refine qX ?_
   rw [ht _ (by rw [hok]; simp [hon, hi]) hi hil]
   have hdl : (dropAddr e.far x.id).1.length ≤ e.far.length := by rw [dropAddr_t hi]; simp; omega
   refine qX ?_
   refine qK (spec_l17Put e.over x.id (by have := endOk_over hq1; omega)) (qA [6]) ?_
   refine qK (hD) (qA [1]) ?_
   refine den_lp 7 hE (fun s (k : Nat) => s.at [0, 1, 3, 9, 10, 11, 12, 13, 14, 15, 16, 17, 18, 19, 20, 21, 22, 23, 24, 25, 26, 27, 28, 29, 30, 31, 32, 33, 34, 35, 36, 37, 38, 39, 40, 41, 42, 43, 44, 45, 46, 47, 48, 49, 50, 51, 52, 53, 54, 55, 56, 57, 58, 59, 60, 61, 62, 63, 64, 65, 66] [(8, .sc (.int .i64 (k : Nat)))] (s.hp.set 12 (some ⟨(goneN e.far[i].addr e.subs k).map SubD.cs, 10, 78, true, true⟩))) (fun (k : Nat) => k ≤ e.subs.length) (fun (k : Nat) => e.subs.length - k) 0 (qA [0, 1, 2, 3, 4, 5, 6, 7, 8, 9, 10, 11, 12, 13, 14, 15, 16, 17, 18, 19]) (qC) (Nat.zero_le _) (weak_mk (by rfl) (by rfl) ?_) fun k hk N hN => ?_
   ·refine qX ?_
    rw [goneN_zero]
   ·refine run_den 400 ?_
    have hsb := hs.subs
    have hgl : (goneN e.far[i].addr e.subs k).length = e.subs.length := goneN_len
    refine qX ?_
    refine qB (fun h => ?_) fun h => ?_
    ·have hg : ∀ p : k < (goneN e.far[i].addr e.subs k).length, (goneN e.far[i].addr e.subs k)[k]'p = e.subs[k] := by
      intro p
      have hq := goneN_at (a := e.far[i].addr) h
      rw [List.getElem?_eq_getElem p] at hq
      exact Option.some.inj hq
     try simp (disch := omega) only [go_sem, Nat.reduceEqDiff, Nat.reduceAdd, Nat.reduceSub, Int.reduceAdd, Int.reduceSub, Int.reduceToNat, hg]
     refine qD [0, 1, 2, 3, 4, 5, 6, 7, 8, 9, 10, 11, 12, 13] ?_
     refine ⟨qC, run_den 400 ?_⟩
     try simp (disch := omega) only [go_sem, Nat.reduceEqDiff, Nat.reduceAdd, Nat.reduceSub, Int.reduceAdd, Int.reduceSub, Int.reduceToNat, hg]
     refine qB (fun h9 => ?_) fun h9 => ?_
     ·refine qX ?_
      refine ⟨qC, hN _ (k + 1) (qA [0, 1, 2, 3, 4, 5, 6, 7, 8, 9, 10, 11, 12, 13, 14, 15, 16, 17, 18, 19]) (by (try dsimp only); exact by omega) (by (try dsimp only); omega) (weak_mk (by rfl) (by rfl) ?_)⟩
      refine qX ?_
      rw [← goneN_set h, List.map_set]
      simp [goneS, h9, hg, SubD.cs]
     ·refine qX ?_
      refine ⟨qC, hN _ (k + 1) (qA [0, 1, 2, 3, 4, 5, 6, 7, 8, 9, 10, 11, 12, 13, 14, 15, 16, 17, 18, 19]) (by (try dsimp only); exact by omega) (by (try dsimp only); omega) (weak_mk (by rfl) (by rfl) ?_)⟩
      refine qX ?_
      rw [goneN_same h h9]
    ·have hkl : k = e.subs.length := by omega
     subst hkl
     rw [goneN_all]
     refine qX ?_
     exact qF (qA [0, 1, 2, 3, 4, 5, 6, 10, 19, 12, 13, 14, 15, 18, 20])

end
section
open Go.RowKit

def sumT : List PieceD → Nat
 | [] => 0
 | x :: r => x.text.length + sumT r
theorem sumT_le {M : Nat} : ∀ {l : List PieceD}, (∀ x ∈ l, x.text.length ≤ M) → sumT l ≤ l.length * M
 | [], _ => by simp [sumT]
 | x :: r, h => by
  have h1 := h x (by simp)
  have h2 := sumT_le (l := r) (M := M) (fun y hy => h y (by simp [hy]))
  simp only [sumT, List.length_cons, Nat.add_mul, Nat.one_mul]
  omega
theorem sumT_mem : ∀ {l : List PieceD} {x : PieceD}, x ∈ l → x.text.length ≤ sumT l
 | [], x, h => by simp at h
 | y :: r, x, h => by
  simp only [List.mem_cons] at h
  simp only [sumT]
  rcases h with rfl | h
  ·omega
  ·have := sumT_mem h; omega
theorem heldGo_val : ∀ {l : List PieceD} {n : Int}, 0 ≤ n → n + (sumT l : Int) ≤ 4611686018427387904 → heldGo n l = n + (sumT l : Int)
 | [], n, h0, h => by simp [heldGo, sumT]
 | x :: r, n, h0, h => by
  simp only [sumT, Int.natCast_add] at h
  rw [heldGo, w64 (by omega), heldGo_val (by omega) (by omega)]
  simp only [sumT, Int.natCast_add]
  omega
theorem pcGo_facts : ∀ {l : List PieceD} {en : Int}, 0 ≤ en → (∀ x ∈ l, x.text.length ≤ 200) → pcGo en l = true → ∀ x ∈ l, 0 ≤ x.pos ∧ x.pos ≤ 2000000000
 | [], _, _, _, _ => by simp
 | y :: r, en, h0, hl, h => by
  simp only [pcGo, Bool.and_eq_true, decide_eq_true_eq] at h
  obtain ⟨⟨⟨_, h1⟩, h2⟩, h3⟩ := h
  have hy := hl y (by simp)
  rw [w64 (by omega)] at h3
  intro x hx
  simp only [List.mem_cons] at hx
  rcases hx with rfl | hx
  ·exact ⟨by omega, h1⟩
  ·exact pcGo_facts (by omega) (fun z hz => hl z (by simp [hz])) h3 x hx
structure SmallP (p : PiecesD) : Prop where
 list : p.list.length ≤ 1048576
 ready : p.ready.length ≤ 1048576
 texts : ∀ x ∈ p.list, x.text.length ≤ 1048576
structure FineP (p : PiecesD) : Prop where
 r0 : 0 ≤ p.read
 r1 : p.read ≤ 1000000000
 list : p.list.length ≤ 20
 ready : p.ready.length ≤ 200
 texts : ∀ x ∈ p.list, x.text.length ≤ 200 ∧ 0 ≤ x.pos ∧ x.pos ≤ 2000000000
 next : nextOf p = p.read + (p.ready.length : Int)
theorem piecesOk_fine {p : PiecesD} (h : piecesOk p = true) (hs : SmallP p) : FineP p := by
 simp only [piecesOk, isN, Bool.and_eq_true, decide_eq_true_eq] at h
 obtain ⟨⟨⟨⟨h0, h1⟩, h2⟩, h3⟩, h4⟩ := h
 have hle := sumT_le hs.texts
 have hr := hs.ready
 have hm : p.list.length * 1048576 ≤ 20 * 1048576 := Nat.mul_le_mul_right _ (by omega)
 rw [heldOf, heldGo_val (by omega) (by omega)] at h3
 have hn : nextOf p = p.read + (p.ready.length : Int) := by rw [nextOf, w64 (by omega)]
 have ht : ∀ x ∈ p.list, x.text.length ≤ 200 := fun x hx => by have := sumT_mem hx; omega
 refine ⟨h0, h1, by omega, by omega, fun x hx => ⟨ht x hx, ?_⟩, hn⟩
 rw [hn] at h4
 exact pcGo_facts (by omega) ht h4 x hx
def joinP (a b : PieceD) : PieceD :=
 if b.pos < a.pos then ⟨b.pos, b.text.take (a.pos - b.pos).toNat ++ a.text ++ b.text.drop ((a.pos - b.pos).toNat + a.text.length)⟩
 else ⟨a.pos, a.text ++ b.text.drop (a.pos + (a.text.length : Int) - b.pos).toNat⟩
theorem joinP_lt {a b : PieceD} {n : Nat} (h : a.pos - b.pos = (n : Int)) (h0 : 0 < n) : joinP a b = ⟨b.pos, b.text.take n ++ a.text ++ b.text.drop (n + a.text.length)⟩ := by
 rw [joinP, if_pos (by omega), h, Int.toNat_natCast]
theorem joinP_ge {a b : PieceD} {n : Nat} (h : b.pos - a.pos = (n : Int)) : joinP a b = ⟨a.pos, a.text ++ b.text.drop (a.text.length - n)⟩ := by
 rw [joinP, if_neg (by omega), show (a.pos + (a.text.length : Int) - b.pos).toNat = a.text.length - n by omega]
theorem joinP_len {a b : PieceD} : (joinP a b).text.length ≤ a.text.length + b.text.length := by
 rw [joinP]
 split <;> simp <;> omega
theorem joinP_pos {a b : PieceD} : (joinP a b).pos = a.pos ∨ (joinP a b).pos = b.pos := by
 rw [joinP]
 split
 ·exact .inr rfl
 ·exact .inl rfl
structure PpS where
 own : PieceD
 laid : Bool
 acc : List PieceD
def ppStep (g : PpS) (x : PieceD) : PpS :=
 if x.pos + (x.text.length : Int) < g.own.pos then { g with acc := g.acc ++ [x] }
 else if g.own.pos + (g.own.text.length : Int) < x.pos then ⟨g.own, true, (if g.laid then g.acc else g.acc ++ [g.own]) ++ [x]⟩
 else { g with own := joinP x g.own }
theorem ppStep_a {g : PpS} {x : PieceD} (h : x.pos + (x.text.length : Int) < g.own.pos) : ppStep g x = ⟨g.own, g.laid, g.acc ++ [x]⟩ := if_pos h
theorem ppStep_b {g : PpS} {x : PieceD} (h : ¬ x.pos + (x.text.length : Int) < g.own.pos) (h2 : g.own.pos + (g.own.text.length : Int) < x.pos) :
  ppStep g x = ⟨g.own, true, (if g.laid then g.acc else g.acc ++ [g.own]) ++ [x]⟩ := by rw [ppStep, if_neg h, if_pos h2]
theorem ppStep_c {g : PpS} {x : PieceD} (h : ¬ x.pos + (x.text.length : Int) < g.own.pos) (h2 : ¬ g.own.pos + (g.own.text.length : Int) < x.pos) :
  ppStep g x = ⟨joinP x g.own, g.laid, g.acc⟩ := by rw [ppStep, if_neg h, if_neg h2]
def ppGo (g : PpS) (l : List PieceD) : PpS := l.foldl ppStep g
theorem ppGo_step {g : PpS} {l : List PieceD} {k : Nat} (h : k < l.length) : ppGo g (l.drop k) = ppGo (ppStep g l[k]) (l.drop (k + 1)) := by
 rw [List.drop_eq_getElem_cons h]
 rfl
theorem ppGo_end {g : PpS} {l : List PieceD} {k : Nat} (h : l.length ≤ k) : ppGo g (l.drop k) = g := by
 rw [List.drop_eq_nil_of_le h]
 rfl
def ppAll (g : PpS) : List PieceD := if g.laid then g.acc else g.acc ++ [g.own]
def ppOut (p : PiecesD) (l : List PieceD) : PiecesD := if (l.headD default).pos = nextOf p then ⟨p.read, p.ready ++ (l.headD default).text, l.tail⟩ else ⟨p.read, p.ready, l⟩
def ppEnd (p : PiecesD) (l : List PieceD) : PiecesD := if piecesOk (ppOut p l) then ppOut p l else p
def ppOk (p : PiecesD) (at' : Int) (text : List UInt8) : Bool := piecesOk p && isN at' && inR (text.length : Int) 1 200
def ppRun (p : PiecesD) (at' : Int) (text : List UInt8) : PiecesD := ppEnd p (ppAll (ppGo ⟨⟨at', text⟩, false, []⟩ p.list))
def putPiece (p : PiecesD) (at' : Int) (text : List UInt8) : PiecesD :=
 if ppOk p at' text then
  if nextOf p - at' ≥ text.length then p
  else if 0 < nextOf p - at' then ppRun p (nextOf p) (text.drop (nextOf p - at').toNat) else ppRun p at' text
 else p
theorem pp_f {p : PiecesD} {n : Int} {t : List UInt8} (h : ppOk p n t = false) : putPiece p n t = p := by rw [putPiece, if_neg (by simp [h])]
theorem pp_old {p : PiecesD} {n : Int} {t : List UInt8} (h : ppOk p n t = true) (h2 : (t.length : Int) ≤ nextOf p - n) : putPiece p n t = p := by rw [putPiece, if_pos h, if_pos h2]
theorem pp_cut {p : PiecesD} {n : Int} {t : List UInt8} {k : Nat} (h : ppOk p n t = true) (hk : nextOf p - n = (k : Int)) (h1 : k < t.length) (h0 : 0 < k) : putPiece p n t = ppRun p (nextOf p) (t.drop k) := by
 rw [putPiece, if_pos h, if_neg (by omega), if_pos (by omega), hk, Int.toNat_natCast]
theorem pp_new {p : PiecesD} {n : Int} {t : List UInt8} (h : ppOk p n t = true) (h0 : nextOf p ≤ n) : putPiece p n t = ppRun p n t := by
 have : inR (t.length : Int) 1 200 = true := by simp only [ppOk, Bool.and_eq_true] at h; exact h.2
 simp only [inR, Bool.and_eq_true, decide_eq_true_eq] at this
 rw [putPiece, if_pos h, if_neg (by omega), if_neg (by omega)]
theorem ppEnd_f {p : PiecesD} {l : List PieceD} (h : piecesOk (ppOut p l) = false) : ppEnd p l = p := by rw [ppEnd, if_neg (by simp [h])]
theorem ppEnd_t {p : PiecesD} {l : List PieceD} (h : piecesOk (ppOut p l) = true) : ppEnd p l = ppOut p l := by rw [ppEnd, if_pos h]
structure PpI (k : Nat) (g : PpS) : Prop where
 pos : 0 ≤ g.own.pos ∧ g.own.pos ≤ 2000000000
 own : g.own.text.length ≤ 200 + 200 * k
 acc : g.acc.length ≤ k + (if g.laid then 1 else 0)
 texts : ∀ z ∈ g.acc, z.text.length ≤ 5000
 some : g.laid = true → g.acc ≠ []
theorem ppI_zero {n : Int} {t : List UInt8} (h0 : 0 ≤ n) (h1 : n ≤ 2000000000) (ht : t.length ≤ 200) : PpI 0 ⟨⟨n, t⟩, false, []⟩ :=
 ⟨⟨h0, h1⟩, by simpa using ht, by simp, by simp, by simp⟩
theorem ppI_a {k : Nat} {g : PpS} {x : PieceD} (h : PpI k g) (hx : x.text.length ≤ 200) : PpI (k + 1) ⟨g.own, g.laid, g.acc ++ [x]⟩ := by
 refine ⟨h.pos, by have := h.own; dsimp only; omega, ?_, ?_, by simp⟩
 ·have := h.acc
  simp only [List.length_append, List.length_singleton]
  split at this <;> simp_all <;> omega
 ·intro z hz
  simp only [List.mem_append, List.mem_singleton] at hz
  rcases hz with hz | rfl
  ·exact h.texts z hz
  ·omega
theorem ppI_b1 {k : Nat} {g : PpS} {x : PieceD} (h : PpI k g) (hl : g.laid = true) (hx : x.text.length ≤ 200) : PpI (k + 1) ⟨g.own, true, g.acc ++ [x]⟩ := by
 have := ppI_a h hx
 rw [hl] at this
 exact this
theorem ppI_b2 {k : Nat} {g : PpS} {x : PieceD} (h : PpI k g) (hk : k ≤ 20) (hl : g.laid = false) (hx : x.text.length ≤ 200) : PpI (k + 1) ⟨g.own, true, g.acc ++ [g.own] ++ [x]⟩ := by
 refine ⟨h.pos, by have := h.own; dsimp only; omega, ?_, ?_, by simp⟩
 ·have := h.acc
  rw [hl] at this
  simp at this ⊢
  omega
 ·intro z hz
  have ho := h.own
  simp only [List.mem_append, List.mem_singleton] at hz
  rcases hz with (hz | rfl) | rfl
  ·exact h.texts z hz
  ·omega
  ·omega
theorem ppI_c {k : Nat} {g : PpS} {x : PieceD} (h : PpI k g) (hx : x.text.length ≤ 200) (h0 : 0 ≤ x.pos) (h1 : x.pos ≤ 2000000000) : PpI (k + 1) ⟨joinP x g.own, g.laid, g.acc⟩ := by
 have hp := h.pos
 refine ⟨?_, ?_, ?_, h.texts, h.some⟩
 ·dsimp only
  rcases joinP_pos (a := x) (b := g.own) with e | e <;> rw [e] <;> omega
 ·have := h.own
  have := joinP_len (a := x) (b := g.own)
  dsimp only
  omega
 ·have := h.acc
  dsimp only
  omega
theorem ppAll_cons {k : Nat} {g : PpS} (h : PpI k g) (hk : k ≤ 20) : ∃ y r, ppAll g = y :: r ∧ y.text.length ≤ 5000 ∧ (y :: r).length ≤ 100 := by
 have ha := h.acc
 have ho := h.own
 rw [ppAll]
 cases hl : g.laid with
 | true =>
  rw [hl] at ha
  simp at ha ⊢
  cases hg : g.acc with
  | nil => exact absurd hg (h.some hl)
  | cons y r =>
   rw [hg] at ha
   simp at ha
   exact ⟨y, r, rfl, h.texts y (by simp [hg]), by omega⟩
 | false =>
  rw [hl] at ha
  simp at ha ⊢
  cases hg : g.acc with
  | nil => exact ⟨g.own, [], rfl, by omega, by simp⟩
  | cons y r =>
   rw [hg] at ha
   simp at ha
   exact ⟨y, r ++ [g.own], by simp, h.texts y (by simp [hg]), by simp; omega⟩
theorem ppOut_t {p : PiecesD} {y : PieceD} {r : List PieceD} (h : y.pos = nextOf p) : ppOut p (y :: r) = ⟨p.read, p.ready ++ y.text, r⟩ := if_pos h
theorem ppOut_f {p : PiecesD} {y : PieceD} {r : List PieceD} (h : ¬ y.pos = nextOf p) : ppOut p (y :: r) = ⟨p.read, p.ready, y :: r⟩ := if_neg h
theorem ppRun_eq {p : PiecesD} {n : Int} {t : List UInt8} {G : PpS} {l : List PieceD} (hG : ppGo ⟨⟨n, t⟩, false, []⟩ p.list = G) (hl : ppAll G = l) : ppRun p n t = ppEnd p l := by rw [ppRun, hG, hl]
end
section
open Go.RowKit

theorem spec_l09Join (a b : PieceD) (ha : 0 ≤ a.pos ∧ a.pos ≤ 4000000000) (hb : 0 ≤ b.pos ∧ b.pos ≤ 4000000000) (la : a.text.length ≤ 1048576) (lb : b.text.length ≤ 1048576)
  (t1 : ¬ a.pos + (a.text.length : Int) < b.pos) (t2 : ¬ b.pos + (b.text.length : Int) < a.pos) : CallA Tryz.prog 188 [.ag a.cs, .ag b.cs] [] (.ag (joinP a b).cs) [] := by
 by_cases h : b.pos < a.pos
 ·obtain ⟨n, hn⟩ := Int.eq_ofNat_of_zero_le (show 0 ≤ a.pos - b.pos by omega)
  rw [joinP_lt hn (by omega)]
  have hp : a.pos = b.pos + (n : Int) := by omega
  have hlt : (b.text.take n).length = n := by simp; omega
  refine qE Tryz.func188 Tryz.ntmps188 Tryz.results188 fun E hE => ?_
  try simp (disch := omega) only [go_sem, Nat.reduceEqDiff, Nat.reduceAdd, Nat.reduceSub, Int.reduceAdd, Int.reduceSub, Int.reduceToNat, hn]
  refine qB (fun h3 => ?_) fun h3 => ?_
  ·refine qX ?_
   refine qB (fun h4 => ?_) fun h4 => ?_
   ·have he : ((n : Int) + (a.text.length : Int)).toNat = n + a.text.length := by omega
    have hd : (b.text.drop (n + a.text.length)).length ≤ b.text.length := by simp
    try simp (disch := omega) only [go_sem, Nat.reduceEqDiff, Nat.reduceAdd, Nat.reduceSub, Int.reduceAdd, Int.reduceSub, Int.reduceToNat, he]
    refine den_fin [] (by (try simp (disch := omega) only [go_sem, List.length_set, Nat.reduceEqDiff, Nat.reduceAdd, Nat.reduceSub, Int.reduceAdd, Int.reduceSub, Int.reduceToNat, he]) <;> omega) _ (by simp only [go_sem]; rfl) (by rfl) (by rfl) ?_
    simp (disch := omega) only [go_sem, Nat.reduceEqDiff, Nat.reduceAdd, Nat.reduceSub, Int.reduceAdd, Int.reduceSub, Int.reduceToNat]
   ·refine qX ?_
    refine qJ [] ?_
    rw [List.drop_of_length_le (by omega)]
    simp
  ·have h5 : n = b.text.length := by omega
   refine qX ?_
   refine qJ [] ?_
   rw [List.drop_of_length_le (by omega), List.take_of_length_le (by omega)]
   simp
 ·obtain ⟨n, hn⟩ := Int.eq_ofNat_of_zero_le (show 0 ≤ b.pos - a.pos by omega)
  rw [joinP_ge hn]
  have hp : b.pos = a.pos + (n : Int) := by omega
  refine qE Tryz.func188 Tryz.ntmps188 Tryz.results188 fun E hE => ?_
  try simp (disch := omega) only [go_sem, Nat.reduceEqDiff, Nat.reduceAdd, Nat.reduceSub, Int.reduceAdd, Int.reduceSub, Int.reduceToNat, hn]
  refine qB (fun h3 => ?_) fun h3 => ?_
  ·refine qJ [] ?_
   rw [List.drop_of_length_le (by omega)]
   simp
  ·have he : ((b.text.length : Int) - ((n : Int) + (b.text.length : Int) - (a.text.length : Int))).toNat = a.text.length - n := by omega
   have hd : (b.text.drop (a.text.length - n)).length ≤ b.text.length := by simp
   refine qD [0, 1, 2, 3, 4, 5, 6, 7, 8, 9, 10, 11, 12, 13, 14] ?_
   try simp (disch := omega) only [go_sem, Nat.reduceEqDiff, Nat.reduceAdd, Nat.reduceSub, Int.reduceAdd, Int.reduceSub, Int.reduceToNat, he]
   refine ⟨by (try simp (disch := omega) only [go_sem, List.length_set, Nat.reduceEqDiff, Nat.reduceAdd, Nat.reduceSub, Int.reduceAdd, Int.reduceSub, Int.reduceToNat, he]) <;> omega, run_den 400 ?_⟩
   try simp (disch := omega) only [go_sem, Nat.reduceEqDiff, Nat.reduceAdd, Nat.reduceSub, Int.reduceAdd, Int.reduceSub, Int.reduceToNat, he]
   exact qF []
end
section
open Go.RowKit

theorem spec_PutPiece (p : PiecesD) (n : Int) (t : List UInt8) (hs : SmallP p) : CallA Tryz.prog 165 [.ag (p.cs 0), .sc (.int .i64 n), .sc (.st t)] (p.hp false) (.ag ((putPiece p n t).cs 1))
  (p.hp false ++ (putPiece p n t).hp false) := by
 have hO := spec_PiecesOk p hs.list
 have hN := spec_NextOf p
 have hf := pp_f (p := p) (n := n) (t := t)
 have hold := pp_old (p := p) (n := n) (t := t)
 have hcut := fun k => @pp_cut p n t k
 have hnew := pp_new (p := p) (n := n) (t := t)
 have hok := ppOk.eq_1 p n t
 generalize putPiece p n t = R at *
 refine callA_ofV Tryz.func165 (by kernel_rfl) rfl fun E hE => run_den 400 ?_
 simp (disch := omega) only [Tryz.ntmps165, Tryz.results165, go_sem, Nat.reduceEqDiff, Nat.reduceAdd, Nat.reduceSub, Int.reduceAdd, Int.reduceSub, Int.reduceToNat]
 refine qK (spec_l09Copy p hs.list) (qA [0]) ?_
 refine qK (hO) (qA [0]) ?_
 refine qB (fun h1 => ?_) fun h1 => ?_
 ·refine qK (spec_l01In n 0 1000000000) [] ?_
  rw [isN_inR]
  refine qX ?_
  refine qB (fun h2 => ?_) fun h2 => ?_
  ·refine qX ?_
   refine qK (spec_l01In (t.length : Int) 1 200) [] ?_
   refine qB (fun h3 => ?_) fun h3 => ?_
   ·rw [hf (by rw [hok]; simp [h3])]
    refine qX ?_
    refine den_finV (qA [0, 3]) (qC) _ (by simp only [go_sem]; rfl) (by rfl) (by rfl) ?_
    simp (disch := omega) only [go_sem, Nat.reduceEqDiff, Nat.reduceAdd, Nat.reduceSub, Int.reduceAdd, Int.reduceSub, Int.reduceToNat]
   ·have hok1 : ppOk p n t = true := by rw [hok]; simp [h1, h2, h3]
    have hF := piecesOk_fine h1 hs
    have hn1 := h2
    have hn3 := h3
    simp only [isN, inR, Bool.and_eq_true, decide_eq_true_eq] at hn1 hn3
    have hr0 := hF.r0
    have hr1 := hF.r1
    have hrl := hF.list
    have hrr := hF.ready
    have hnx := hF.next
    refine qX ?_
    refine qK (hN) (qA [0]) ?_
    refine qB (fun h4 => ?_) fun h4 => ?_
    ·rw [hold hok1 h4]
     refine qX ?_
     refine den_finV (qA [0, 3]) (qC) _ (by simp only [go_sem]; rfl) (by rfl) (by rfl) ?_
     simp (disch := omega) only [go_sem, Nat.reduceEqDiff, Nat.reduceAdd, Nat.reduceSub, Int.reduceAdd, Int.reduceSub, Int.reduceToNat]
    ·refine qX ?_
     refine qB (fun h7 => ?_) fun h7 => ?_
     ·obtain ⟨m, hm⟩ := Int.eq_ofNat_of_zero_le (show 0 ≤ nextOf p - n by omega)
      rw [hcut m hok1 hm (by omega) (by omega)]
      have hnn : nextOf p = n + (m : Int) := by omega
      have hI0 : PpI 0 ⟨⟨nextOf p, t.drop m⟩, false, []⟩ := ppI_zero (by omega) (by omega) (by simp; omega)
      have hadd : n + (m : Int) = nextOf p := by omega
      try simp (disch := omega) only [go_sem, Nat.reduceEqDiff, Nat.reduceAdd, Nat.reduceSub, Int.reduceAdd, Int.reduceSub, Int.reduceToNat, hm, hadd]
      obtain ⟨G, hG⟩ : ∃ G, ppGo ⟨⟨nextOf p, t.drop m⟩, false, []⟩ p.list = G := ⟨_, rfl⟩
      refine den_lp 1 hE (fun s (x : Nat × PpS) => s.at [0, 1, 2, 9, 13, 14, 15, 16, 17, 18, 19, 20, 21, 22, 23, 24, 25, 26, 27, 28, 29, 30, 31, 32, 33, 34, 35, 36, 37, 38, 39, 40, 41, 42, 43, 44, 45, 46, 47, 48, 49, 50, 51, 52, 53, 54, 55, 56, 57, 58, 59, 60, 61, 62, 63, 64, 65, 66, 67, 68, 69, 70, 71, 72, 73, 74, 75, 76, 77, 78, 79, 80, 81, 82, 83, 84, 85, 86, 87, 88, 89, 90, 91, 92, 93, 94, 95, 96, 97, 98, 99, 100, 101, 102, 103, 104, 105, 106, 107, 108, 109, 110, 111, 112] [(12, .sc (.int .i64 (x.1 : Nat))), (11, .sc (.bo x.2.laid))] ([some ⟨p.list.map PieceD.cs, 2, 121, false, true⟩, some ⟨[p.cs 0], 3, 35, true, false⟩, some ⟨[[.int .i64 0, .st [], .nil]], 3, 35, true, false⟩, some ⟨p.list.map PieceD.cs, 2, 121, true, true⟩, some ⟨[p.cs 3], 3, 35, true, false⟩, some ⟨[x.2.own.cs], 2, 121, true, false⟩, some ⟨x.2.acc.map PieceD.cs, 2, 121, true, true⟩, some ⟨[[.int .i64 p.read, .st p.ready, .sl 6 0 x.2.acc.length]], 3, 35, true, false⟩])) (fun (x : Nat × PpS) => x.1 ≤ p.list.length ∧ PpI x.1 x.2 ∧ ppGo x.2 (p.list.drop x.1) = G) (fun (x : Nat × PpS) => p.list.length - x.1) (0, ⟨⟨nextOf p, t.drop m⟩, false, []⟩) (qA [0, 1, 2, 3, 4, 5, 6, 7]) (qC) (⟨Nat.zero_le _, hI0, hG⟩) (weak_mk (by rfl) (by rfl) ?_) fun x hx N hN => ?_
      ·exact qY
      ·obtain ⟨k, g⟩ := x
       obtain ⟨hk1, hI, hgo⟩ := hx
       dsimp only at hk1 hI hgo
       have hIo := hI.own
       have hIp := hI.pos
       have hIa := hI.acc
       have hac : g.acc.length ≤ 100 := by split at hIa <;> omega
       refine qR ?_
       refine qB (fun h => ?_) fun h => ?_
       ·have hm := hF.texts p.list[k] (List.getElem_mem h)
        obtain ⟨hm1, hm2, hm3⟩ := hm
        rw [ppGo_step h] at hgo
        refine qX ?_
        refine qB (fun h2 => ?_) fun h2 => ?_
        ·rw [ppStep_a (by omega)] at hgo
         refine qX ?_
         refine ⟨qC, hN _ (k + 1, ⟨g.own, g.laid, g.acc ++ [p.list[k]]⟩) (qA [0, 1, 2, 3, 4, 5, 10, 7]) (by (try dsimp only); exact ⟨by omega, ppI_a hI hm1, hgo⟩) (by (try dsimp only); omega) (weak_mk (by rfl) (by rfl) ?_)⟩
         try simp (disch := omega) only [go_sem, Nat.reduceEqDiff, Nat.reduceAdd, Nat.reduceSub, Int.reduceAdd, Int.reduceSub, Int.reduceToNat]
         try simp [PieceD.cs]
        ·refine qX ?_
         refine qB (fun h3 => ?_) fun h3 => ?_
         ·rw [ppStep_b (by omega) (by omega)] at hgo
          cases hgl : g.laid with
          | true =>
           rw [hgl, if_pos rfl] at hgo
           try simp (disch := omega) only [go_sem, Nat.reduceEqDiff, Nat.reduceAdd, Nat.reduceSub, Int.reduceAdd, Int.reduceSub, Int.reduceToNat, hgl]
           refine ⟨qC, hN _ (k + 1, ⟨g.own, true, g.acc ++ [p.list[k]]⟩) (qA [0, 1, 2, 3, 4, 5, 10, 7]) (by (try dsimp only); exact ⟨by omega, ppI_b1 hI hgl hm1, hgo⟩) (by (try dsimp only); omega) (weak_mk (by rfl) (by rfl) ?_)⟩
           try simp (disch := omega) only [go_sem, Nat.reduceEqDiff, Nat.reduceAdd, Nat.reduceSub, Int.reduceAdd, Int.reduceSub, Int.reduceToNat]
           try simp [PieceD.cs]
          | false =>
           rw [hgl, if_neg (by simp)] at hgo
           try simp (disch := omega) only [go_sem, Nat.reduceEqDiff, Nat.reduceAdd, Nat.reduceSub, Int.reduceAdd, Int.reduceSub, Int.reduceToNat, hgl]
           refine ⟨qC, hN _ (k + 1, ⟨g.own, true, g.acc ++ [g.own] ++ [p.list[k]]⟩) (qA [0, 1, 2, 3, 4, 5, 12, 7]) (by (try dsimp only); exact ⟨by omega, ppI_b2 hI (by omega) hgl hm1, hgo⟩) (by (try dsimp only); omega) (weak_mk (by rfl) (by rfl) ?_)⟩
           try simp (disch := omega) only [go_sem, Nat.reduceEqDiff, Nat.reduceAdd, Nat.reduceSub, Int.reduceAdd, Int.reduceSub, Int.reduceToNat]
           try simp [PieceD.cs]
         ·rw [ppStep_c (by omega) (by omega)] at hgo
          refine qX ?_
          refine qK (spec_l09Join p.list[k] g.own (by omega) (by omega) (by omega) (by omega) (by omega) (by omega)) [] ?_
          refine ⟨qC, hN _ (k + 1, ⟨joinP p.list[k] g.own, g.laid, g.acc⟩) (qA [0, 1, 2, 3, 4, 5, 6, 7]) (by (try dsimp only); exact ⟨by omega, ppI_c hI hm1 hm2 hm3, hgo⟩) (by (try dsimp only); omega) (weak_mk (by rfl) (by rfl) ?_)⟩
          try simp (disch := omega) only [go_sem, Nat.reduceEqDiff, Nat.reduceAdd, Nat.reduceSub, Int.reduceAdd, Int.reduceSub, Int.reduceToNat]
          try simp [PieceD.cs]
       ·have hkl : k = p.list.length := by omega
        rw [ppGo_end (by omega)] at hgo
        subst hgo
        obtain ⟨y, r, hyr, hyt, hyl⟩ := ppAll_cons hI (by omega)
        rw [ppRun_eq hG hyr]
        have hyr' := hyr
        rw [ppAll] at hyr'
        cases hgl : g.laid with
        | true =>
         rw [hgl, if_pos rfl] at hyr'
         rw [hyr']
         try simp (disch := omega) only [go_sem, Nat.reduceEqDiff, Nat.reduceAdd, Nat.reduceSub, Int.reduceAdd, Int.reduceSub, Int.reduceToNat, hgl, List.map_cons]
         refine qD [0, 1, 2, 3, 4, 5, 6, 7] ?_
         refine qKD (spec_NextOf ⟨p.read, p.ready, y :: r⟩) (qA [6]) ?_
         refine ⟨qC, run_den 400 ?_⟩
         rw [show nextOf ⟨p.read, p.ready, y :: r⟩ = nextOf p from rfl]
         refine qX ?_
         refine qB (fun h5 => ?_) fun h5 => ?_
         ·refine qD [0, 1, 2, 3, 4, 5, 6, 7, 8, 9] ?_
          refine ⟨qC, run_den 400 ?_⟩
          have hE1 := @ppOut_t p y r h5
          refine qX ?_
          refine qK (spec_PiecesOk ⟨p.read, p.ready ++ y.text, r⟩ (by simp at hyl ⊢; omega)) [some (6, some 1)] ?_
          refine qB (fun h6 => ?_) fun h6 => ?_
          ·rw [ppEnd_f (by rw [hE1]; exact h6)]
           refine qX ?_
           refine den_finV (qA [0, 3]) (qC) _ (by simp only [go_sem]; rfl) (by rfl) (by rfl) ?_
           simp (disch := omega) only [go_sem, Nat.reduceEqDiff, Nat.reduceAdd, Nat.reduceSub, Int.reduceAdd, Int.reduceSub, Int.reduceToNat]
          ·rw [ppEnd_t (by rw [hE1]; exact h6), hE1]
           refine qX ?_
           refine den_finV [some (0, none), some (6, some 1)] (qC) _ (by simp only [go_sem]; rfl) (by rfl) (by rfl) ?_
           simp (disch := omega) only [go_sem, Nat.reduceEqDiff, Nat.reduceAdd, Nat.reduceSub, Int.reduceAdd, Int.reduceSub, Int.reduceToNat]
           try simp
         ·have hE1 := @ppOut_f p y r h5
          refine qX ?_
          refine qK (spec_PiecesOk ⟨p.read, p.ready, y :: r⟩ (by simp at hyl ⊢; omega)) (qA [6]) ?_
          refine qB (fun h6 => ?_) fun h6 => ?_
          ·rw [ppEnd_f (by rw [hE1]; exact h6)]
           refine qX ?_
           refine den_finV (qA [0, 3]) (qC) _ (by simp only [go_sem]; rfl) (by rfl) (by rfl) ?_
           simp (disch := omega) only [go_sem, Nat.reduceEqDiff, Nat.reduceAdd, Nat.reduceSub, Int.reduceAdd, Int.reduceSub, Int.reduceToNat]
          ·rw [ppEnd_t (by rw [hE1]; exact h6), hE1]
           refine qX ?_
           refine den_finV (qA [0, 6]) (qC) _ (by simp only [go_sem]; rfl) (by rfl) (by rfl) ?_
           simp (disch := omega) only [go_sem, Nat.reduceEqDiff, Nat.reduceAdd, Nat.reduceSub, Int.reduceAdd, Int.reduceSub, Int.reduceToNat]
           try simp
        | false =>
         rw [hgl, if_neg (by simp)] at hyr'
         have e1 : g.acc.map PieceD.cs ++ [g.own.cs] = PieceD.cs y :: r.map PieceD.cs := by rw [← List.map_cons, ← hyr']; simp
         have e2 : g.acc.length + 1 = r.length + 1 := by have := congrArg List.length hyr'; simpa using this
         simp only [PieceD.cs] at e1
         try simp (disch := omega) only [go_sem, Nat.reduceEqDiff, Nat.reduceAdd, Nat.reduceSub, Int.reduceAdd, Int.reduceSub, Int.reduceToNat, hgl, e1, e2]
         refine qD [0, 1, 2, 3, 4, 5, 6, 7] ?_
         refine qKD (spec_NextOf ⟨p.read, p.ready, y :: r⟩) (qA [9]) ?_
         refine ⟨qC, run_den 400 ?_⟩
         rw [show nextOf ⟨p.read, p.ready, y :: r⟩ = nextOf p from rfl]
         refine qX ?_
         refine qB (fun h5 => ?_) fun h5 => ?_
         ·refine qD [0, 1, 2, 3, 4, 5, 6, 7, 8, 9] ?_
          refine ⟨qC, run_den 400 ?_⟩
          have hE1 := @ppOut_t p y r h5
          refine qX ?_
          refine qK (spec_PiecesOk ⟨p.read, p.ready ++ y.text, r⟩ (by simp at hyl ⊢; omega)) [some (9, some 1)] ?_
          refine qB (fun h6 => ?_) fun h6 => ?_
          ·rw [ppEnd_f (by rw [hE1]; exact h6)]
           refine qX ?_
           refine den_finV (qA [0, 3]) (qC) _ (by simp only [go_sem]; rfl) (by rfl) (by rfl) ?_
           simp (disch := omega) only [go_sem, Nat.reduceEqDiff, Nat.reduceAdd, Nat.reduceSub, Int.reduceAdd, Int.reduceSub, Int.reduceToNat]
          ·rw [ppEnd_t (by rw [hE1]; exact h6), hE1]
           refine qX ?_
           refine den_finV [some (0, none), some (9, some 1)] (qC) _ (by simp only [go_sem]; rfl) (by rfl) (by rfl) ?_
           simp (disch := omega) only [go_sem, Nat.reduceEqDiff, Nat.reduceAdd, Nat.reduceSub, Int.reduceAdd, Int.reduceSub, Int.reduceToNat]
           try simp
         ·have hE1 := @ppOut_f p y r h5
          refine qX ?_
          refine qK (spec_PiecesOk ⟨p.read, p.ready, y :: r⟩ (by simp at hyl ⊢; omega)) (qA [9]) ?_
          refine qB (fun h6 => ?_) fun h6 => ?_
          ·rw [ppEnd_f (by rw [hE1]; exact h6)]
           refine qX ?_
           refine den_finV (qA [0, 3]) (qC) _ (by simp only [go_sem]; rfl) (by rfl) (by rfl) ?_
           simp (disch := omega) only [go_sem, Nat.reduceEqDiff, Nat.reduceAdd, Nat.reduceSub, Int.reduceAdd, Int.reduceSub, Int.reduceToNat]
          ·rw [ppEnd_t (by rw [hE1]; exact h6), hE1]
           refine qX ?_
           refine den_finV (qA [0, 9]) (qC) _ (by simp only [go_sem]; rfl) (by rfl) (by rfl) ?_
           simp (disch := omega) only [go_sem, Nat.reduceEqDiff, Nat.reduceAdd, Nat.reduceSub, Int.reduceAdd, Int.reduceSub, Int.reduceToNat]
           try simp
     ·rw [hnew hok1 (by omega)]
      have hI0 : PpI 0 ⟨⟨n, t⟩, false, []⟩ := ppI_zero (by omega) (by omega) (by omega)
      refine qX ?_
      obtain ⟨G, hG⟩ : ∃ G, ppGo ⟨⟨n, t⟩, false, []⟩ p.list = G := ⟨_, rfl⟩
      refine den_lp 1 hE (fun s (x : Nat × PpS) => s.at [0, 1, 2, 9, 13, 14, 15, 16, 17, 18, 19, 20, 21, 22, 23, 24, 25, 26, 27, 28, 29, 30, 31, 32, 33, 34, 35, 36, 37, 38, 39, 40, 41, 42, 43, 44, 45, 46, 47, 48, 49, 50, 51, 52, 53, 54, 55, 56, 57, 58, 59, 60, 61, 62, 63, 64, 65, 66, 67, 68, 69, 70, 71, 72, 73, 74, 75, 76, 77, 78, 79, 80, 81, 82, 83, 84, 85, 86, 87, 88, 89, 90, 91, 92, 93, 94, 95, 96, 97, 98, 99, 100, 101, 102, 103, 104, 105, 106, 107, 108, 109, 110, 111, 112] [(12, .sc (.int .i64 (x.1 : Nat))), (11, .sc (.bo x.2.laid))] ([some ⟨p.list.map PieceD.cs, 2, 121, false, true⟩, some ⟨[p.cs 0], 3, 35, true, false⟩, some ⟨[[.int .i64 0, .st [], .nil]], 3, 35, true, false⟩, some ⟨p.list.map PieceD.cs, 2, 121, true, true⟩, some ⟨[p.cs 3], 3, 35, true, false⟩, some ⟨[x.2.own.cs], 2, 121, true, false⟩, some ⟨x.2.acc.map PieceD.cs, 2, 121, true, true⟩, some ⟨[[.int .i64 p.read, .st p.ready, .sl 6 0 x.2.acc.length]], 3, 35, true, false⟩])) (fun (x : Nat × PpS) => x.1 ≤ p.list.length ∧ PpI x.1 x.2 ∧ ppGo x.2 (p.list.drop x.1) = G) (fun (x : Nat × PpS) => p.list.length - x.1) (0, ⟨⟨n, t⟩, false, []⟩) (qA [0, 1, 2, 3, 4, 5, 6, 7]) (qC) (⟨Nat.zero_le _, hI0, hG⟩) (weak_mk (by rfl) (by rfl) ?_) fun x hx N hN => ?_
      ·exact qY
      ·obtain ⟨k, g⟩ := x
       obtain ⟨hk1, hI, hgo⟩ := hx
       dsimp only at hk1 hI hgo
       have hIo := hI.own
       have hIp := hI.pos
       have hIa := hI.acc
       have hac : g.acc.length ≤ 100 := by split at hIa <;> omega
       refine qR ?_
       refine qB (fun h => ?_) fun h => ?_
       ·have hm := hF.texts p.list[k] (List.getElem_mem h)
        obtain ⟨hm1, hm2, hm3⟩ := hm
        rw [ppGo_step h] at hgo
        refine qX ?_
        refine qB (fun h2 => ?_) fun h2 => ?_
        ·rw [ppStep_a (by omega)] at hgo
         refine qX ?_
         refine ⟨qC, hN _ (k + 1, ⟨g.own, g.laid, g.acc ++ [p.list[k]]⟩) (qA [0, 1, 2, 3, 4, 5, 10, 7]) (by (try dsimp only); exact ⟨by omega, ppI_a hI hm1, hgo⟩) (by (try dsimp only); omega) (weak_mk (by rfl) (by rfl) ?_)⟩
         try simp (disch := omega) only [go_sem, Nat.reduceEqDiff, Nat.reduceAdd, Nat.reduceSub, Int.reduceAdd, Int.reduceSub, Int.reduceToNat]
         try simp [PieceD.cs]
        ·refine qX ?_
         refine qB (fun h3 => ?_) fun h3 => ?_
         ·rw [ppStep_b (by omega) (by omega)] at hgo
          cases hgl : g.laid with
          | true =>
           rw [hgl, if_pos rfl] at hgo
           try simp (disch := omega) only [go_sem, Nat.reduceEqDiff, Nat.reduceAdd, Nat.reduceSub, Int.reduceAdd, Int.reduceSub, Int.reduceToNat, hgl]
           refine ⟨qC, hN _ (k + 1, ⟨g.own, true, g.acc ++ [p.list[k]]⟩) (qA [0, 1, 2, 3, 4, 5, 10, 7]) (by (try dsimp only); exact ⟨by omega, ppI_b1 hI hgl hm1, hgo⟩) (by (try dsimp only); omega) (weak_mk (by rfl) (by rfl) ?_)⟩
           try simp (disch := omega) only [go_sem, Nat.reduceEqDiff, Nat.reduceAdd, Nat.reduceSub, Int.reduceAdd, Int.reduceSub, Int.reduceToNat]
           try simp [PieceD.cs]
          | false =>
           rw [hgl, if_neg (by simp)] at hgo
           try simp (disch := omega) only [go_sem, Nat.reduceEqDiff, Nat.reduceAdd, Nat.reduceSub, Int.reduceAdd, Int.reduceSub, Int.reduceToNat, hgl]
           refine ⟨qC, hN _ (k + 1, ⟨g.own, true, g.acc ++ [g.own] ++ [p.list[k]]⟩) (qA [0, 1, 2, 3, 4, 5, 12, 7]) (by (try dsimp only); exact ⟨by omega, ppI_b2 hI (by omega) hgl hm1, hgo⟩) (by (try dsimp only); omega) (weak_mk (by rfl) (by rfl) ?_)⟩
           try simp (disch := omega) only [go_sem, Nat.reduceEqDiff, Nat.reduceAdd, Nat.reduceSub, Int.reduceAdd, Int.reduceSub, Int.reduceToNat]
           try simp [PieceD.cs]
         ·rw [ppStep_c (by omega) (by omega)] at hgo
          refine qX ?_
          refine qK (spec_l09Join p.list[k] g.own (by omega) (by omega) (by omega) (by omega) (by omega) (by omega)) [] ?_
          refine ⟨qC, hN _ (k + 1, ⟨joinP p.list[k] g.own, g.laid, g.acc⟩) (qA [0, 1, 2, 3, 4, 5, 6, 7]) (by (try dsimp only); exact ⟨by omega, ppI_c hI hm1 hm2 hm3, hgo⟩) (by (try dsimp only); omega) (weak_mk (by rfl) (by rfl) ?_)⟩
          try simp (disch := omega) only [go_sem, Nat.reduceEqDiff, Nat.reduceAdd, Nat.reduceSub, Int.reduceAdd, Int.reduceSub, Int.reduceToNat]
          try simp [PieceD.cs]
       ·have hkl : k = p.list.length := by omega
        rw [ppGo_end (by omega)] at hgo
        subst hgo
        obtain ⟨y, r, hyr, hyt, hyl⟩ := ppAll_cons hI (by omega)
        rw [ppRun_eq hG hyr]
        have hyr' := hyr
        rw [ppAll] at hyr'
        cases hgl : g.laid with
        | true =>
         rw [hgl, if_pos rfl] at hyr'
         rw [hyr']
         try simp (disch := omega) only [go_sem, Nat.reduceEqDiff, Nat.reduceAdd, Nat.reduceSub, Int.reduceAdd, Int.reduceSub, Int.reduceToNat, hgl, List.map_cons]
         refine qD [0, 1, 2, 3, 4, 5, 6, 7] ?_
         refine qKD (spec_NextOf ⟨p.read, p.ready, y :: r⟩) (qA [6]) ?_
         refine ⟨qC, run_den 400 ?_⟩
         rw [show nextOf ⟨p.read, p.ready, y :: r⟩ = nextOf p from rfl]
         refine qX ?_
         refine qB (fun h5 => ?_) fun h5 => ?_
         ·refine qD [0, 1, 2, 3, 4, 5, 6, 7, 8, 9] ?_
          refine ⟨qC, run_den 400 ?_⟩
          have hE1 := @ppOut_t p y r h5
          refine qX ?_
          refine qK (spec_PiecesOk ⟨p.read, p.ready ++ y.text, r⟩ (by simp at hyl ⊢; omega)) [some (6, some 1)] ?_
          refine qB (fun h6 => ?_) fun h6 => ?_
          ·rw [ppEnd_f (by rw [hE1]; exact h6)]
           refine qX ?_
           refine den_finV (qA [0, 3]) (qC) _ (by simp only [go_sem]; rfl) (by rfl) (by rfl) ?_
           simp (disch := omega) only [go_sem, Nat.reduceEqDiff, Nat.reduceAdd, Nat.reduceSub, Int.reduceAdd, Int.reduceSub, Int.reduceToNat]
          ·rw [ppEnd_t (by rw [hE1]; exact h6), hE1]
           refine qX ?_
           refine den_finV [some (0, none), some (6, some 1)] (qC) _ (by simp only [go_sem]; rfl) (by rfl) (by rfl) ?_
           simp (disch := omega) only [go_sem, Nat.reduceEqDiff, Nat.reduceAdd, Nat.reduceSub, Int.reduceAdd, Int.reduceSub, Int.reduceToNat]
           try simp
         ·have hE1 := @ppOut_f p y r h5
          refine qX ?_
          refine qK (spec_PiecesOk ⟨p.read, p.ready, y :: r⟩ (by simp at hyl ⊢; omega)) (qA [6]) ?_
          refine qB (fun h6 => ?_) fun h6 => ?_
          ·rw [ppEnd_f (by rw [hE1]; exact h6)]
           refine qX ?_
           refine den_finV (qA [0, 3]) (qC) _ (by simp only [go_sem]; rfl) (by rfl) (by rfl) ?_
           simp (disch := omega) only [go_sem, Nat.reduceEqDiff, Nat.reduceAdd, Nat.reduceSub, Int.reduceAdd, Int.reduceSub, Int.reduceToNat]
          ·rw [ppEnd_t (by rw [hE1]; exact h6), hE1]
           refine qX ?_
           refine den_finV (qA [0, 6]) (qC) _ (by simp only [go_sem]; rfl) (by rfl) (by rfl) ?_
           simp (disch := omega) only [go_sem, Nat.reduceEqDiff, Nat.reduceAdd, Nat.reduceSub, Int.reduceAdd, Int.reduceSub, Int.reduceToNat]
           try simp
        | false =>
         rw [hgl, if_neg (by simp)] at hyr'
         have e1 : g.acc.map PieceD.cs ++ [g.own.cs] = PieceD.cs y :: r.map PieceD.cs := by rw [← List.map_cons, ← hyr']; simp
         have e2 : g.acc.length + 1 = r.length + 1 := by have := congrArg List.length hyr'; simpa using this
         simp only [PieceD.cs] at e1
         try simp (disch := omega) only [go_sem, Nat.reduceEqDiff, Nat.reduceAdd, Nat.reduceSub, Int.reduceAdd, Int.reduceSub, Int.reduceToNat, hgl, e1, e2]
         refine qD [0, 1, 2, 3, 4, 5, 6, 7] ?_
         refine qKD (spec_NextOf ⟨p.read, p.ready, y :: r⟩) (qA [9]) ?_
         refine ⟨qC, run_den 400 ?_⟩
         rw [show nextOf ⟨p.read, p.ready, y :: r⟩ = nextOf p from rfl]
         refine qX ?_
         refine qB (fun h5 => ?_) fun h5 => ?_
         ·refine qD [0, 1, 2, 3, 4, 5, 6, 7, 8, 9] ?_
          refine ⟨qC, run_den 400 ?_⟩
          have hE1 := @ppOut_t p y r h5
          refine qX ?_
          refine qK (spec_PiecesOk ⟨p.read, p.ready ++ y.text, r⟩ (by simp at hyl ⊢; omega)) [some (9, some 1)] ?_
          refine qB (fun h6 => ?_) fun h6 => ?_
          ·rw [ppEnd_f (by rw [hE1]; exact h6)]
           refine qX ?_
           refine den_finV (qA [0, 3]) (qC) _ (by simp only [go_sem]; rfl) (by rfl) (by rfl) ?_
           simp (disch := omega) only [go_sem, Nat.reduceEqDiff, Nat.reduceAdd, Nat.reduceSub, Int.reduceAdd, Int.reduceSub, Int.reduceToNat]
          ·rw [ppEnd_t (by rw [hE1]; exact h6), hE1]
           refine qX ?_
           refine den_finV [some (0, none), some (9, some 1)] (qC) _ (by simp only [go_sem]; rfl) (by rfl) (by rfl) ?_
           simp (disch := omega) only [go_sem, Nat.reduceEqDiff, Nat.reduceAdd, Nat.reduceSub, Int.reduceAdd, Int.reduceSub, Int.reduceToNat]
           try simp
         ·have hE1 := @ppOut_f p y r h5
          refine qX ?_
          refine qK (spec_PiecesOk ⟨p.read, p.ready, y :: r⟩ (by simp at hyl ⊢; omega)) (qA [9]) ?_
          refine qB (fun h6 => ?_) fun h6 => ?_
          ·rw [ppEnd_f (by rw [hE1]; exact h6)]
           refine qX ?_
           refine den_finV (qA [0, 3]) (qC) _ (by simp only [go_sem]; rfl) (by rfl) (by rfl) ?_
           simp (disch := omega) only [go_sem, Nat.reduceEqDiff, Nat.reduceAdd, Nat.reduceSub, Int.reduceAdd, Int.reduceSub, Int.reduceToNat]
          ·rw [ppEnd_t (by rw [hE1]; exact h6), hE1]
           refine qX ?_
           refine den_finV (qA [0, 9]) (qC) _ (by simp only [go_sem]; rfl) (by rfl) (by rfl) ?_
           simp (disch := omega) only [go_sem, Nat.reduceEqDiff, Nat.reduceAdd, Nat.reduceSub, Int.reduceAdd, Int.reduceSub, Int.reduceToNat]
           try simp
  ·rw [hf (by rw [hok]; simp [h2])]
   refine qX ?_
   refine den_finV (qA [0, 3]) (qC) _ (by simp only [go_sem]; rfl) (by rfl) (by rfl) ?_
   simp (disch := omega) only [go_sem, Nat.reduceEqDiff, Nat.reduceAdd, Nat.reduceSub, Int.reduceAdd, Int.reduceSub, Int.reduceToNat]
 ·rw [hf (by rw [hok]; simp [h1])]
  refine qX ?_
  refine den_finV (qA [0, 3]) (qC) _ (by simp only [go_sem]; rfl) (by rfl) (by rfl) ?_
  simp (disch := omega) only [go_sem, Nat.reduceEqDiff, Nat.reduceAdd, Nat.reduceSub, Int.reduceAdd, Int.reduceSub, Int.reduceToNat]

end
section
open Go.RowKit

theorem piecesOk_le {p : PiecesD} (h : piecesOk p = true) : p.list.length ≤ 20 := by
 simp only [piecesOk, Bool.and_eq_true, decide_eq_true_eq] at h
 omega
theorem ppEnd_or (p : PiecesD) (l : List PieceD) : ppEnd p l = p ∨ piecesOk (ppEnd p l) = true := by
 rw [ppEnd]
 split
 ·rename_i h; exact .inr h
 ·exact .inl rfl
theorem putPiece_or (p : PiecesD) (n : Int) (t : List UInt8) : putPiece p n t = p ∨ piecesOk (putPiece p n t) = true := by
 rw [putPiece]
 split
 ·split
  ·exact .inl rfl
  ·split <;> exact ppEnd_or _ _
 ·exact .inl rfl
theorem putPiece_le {p : PiecesD} {n : Int} {t : List UInt8} (h : p.list.length ≤ 1048576) : (putPiece p n t).list.length ≤ 1048576 := by
 rcases putPiece_or p n t with e | e
 ·rw [e]; exact h
 ·have := piecesOk_le e; omega
def inOf (e : EndD) (x : LetterD) : PiecesD := putPiece e.inp x.pos x.text
def dataOk (e : EndD) (x : LetterD) : Bool := decide (0 ≤ onAt e x) && decide (nextOf (inOf e x) ≤ 1000000000)
def cameL (x : LetterD) (n m : Int) : LetterD := between (roadOf x) { letNone with kind := 12, sgn := n, pos := m }
def hearData (e : EndD) (x : LetterD) : EndD × List LetterD :=
 if dataOk e x then ({ e with inp := inOf e x }, [cameL x (subAtN e.subs (onAt e x).toNat).give (nextOf (inOf e x))]) else (e, [])
theorem hearData_f {e : EndD} {x : LetterD} (h : dataOk e x = false) : hearData e x = (e, []) := by rw [hearData, if_neg (by simp [h])]
theorem hearData_t {e : EndD} {x : LetterD} {n : Nat} (h : dataOk e x = true) (ho : onAt e x = (n : Int)) (hn : n < e.subs.length) :
  hearData e x = ({ e with inp := inOf e x }, [cameL x e.subs[n].give (nextOf (inOf e x))]) := by rw [hearData, if_pos h, ho, Int.toNat_natCast, subAtN_at hn]
def EndD.hpS (x : EndD) : Hp := [some ⟨x.own.map AddrD.cs, 4, 80, true, true⟩, some ⟨x.far.map AddrD.cs, 4, 80, true, true⟩, some ⟨x.subs.map SubD.cs, 10, 78, true, true⟩, some ⟨x.halfs.map HalfD.cs, 8, 118, true, true⟩, some ⟨x.inp.list.map PieceD.cs, 2, 121, false, true⟩, some ⟨x.done.map intC, 1, 3, true, true⟩, some ⟨x.over.map intC, 1, 3, true, true⟩]
attribute [go_sem] EndD.hpS
def hearOk (e : EndD) (x : LetterD) : Bool := endOk e && letOk x && ownsAddr e.own x.to
def hear (e : EndD) (x : LetterD) : EndD × List LetterD :=
 if hearOk e x then
  if x.kind = 1 then hearHello e x else if x.kind = 2 then hearBack e x else if x.kind = 4 then hearJoin e x else if x.kind = 5 then hearJoinBack e x
  else if x.kind = 6 then hearJoinDone e x else if x.kind = 7 then hearJoinAck e x else if x.kind = 8 then hearAddr e x else if x.kind = 9 then hearEcho e x
  else if x.kind = 10 then hearGone e x else if x.kind = 11 then hearData e x else if x.kind = 12 then hearCame e x else if x.kind = 13 then hearReset e x else (e, [])
 else (e, [])
theorem hear_f {e : EndD} {x : LetterD} (h : hearOk e x = false) : hear e x = (e, []) := by rw [hear, if_neg (by simp [h])]
theorem hear_n {e : EndD} {x : LetterD} (h : ∀ k : Int, k = 1 ∨ k = 2 ∨ 4 ≤ k ∧ k ≤ 13 → ¬ x.kind = k) : hear e x = (e, []) := by
 by_cases hc : hearOk e x = true
 ·rw [hear, if_pos hc, if_neg (h 1 (by omega)), if_neg (h 2 (by omega)), if_neg (h 4 (by omega)), if_neg (h 5 (by omega)), if_neg (h 6 (by omega)), if_neg (h 7 (by omega)), if_neg (h 8 (by omega)), if_neg (h 9 (by omega)), if_neg (h 10 (by omega)), if_neg (h 11 (by omega)), if_neg (h 12 (by omega)), if_neg (h 13 (by omega))]
 ·exact hear_f (by simpa using hc)
theorem hear_1 {e : EndD} {x : LetterD} (h : hearOk e x = true) (hk : x.kind = 1) : hear e x = hearHello e x := by rw [hear, if_pos h]; simp [hk]
theorem hear_2 {e : EndD} {x : LetterD} (h : hearOk e x = true) (hk : x.kind = 2) : hear e x = hearBack e x := by rw [hear, if_pos h]; simp [hk]
theorem hear_4 {e : EndD} {x : LetterD} (h : hearOk e x = true) (hk : x.kind = 4) : hear e x = hearJoin e x := by rw [hear, if_pos h]; simp [hk]
theorem hear_5 {e : EndD} {x : LetterD} (h : hearOk e x = true) (hk : x.kind = 5) : hear e x = hearJoinBack e x := by rw [hear, if_pos h]; simp [hk]
theorem hear_6 {e : EndD} {x : LetterD} (h : hearOk e x = true) (hk : x.kind = 6) : hear e x = hearJoinDone e x := by rw [hear, if_pos h]; simp [hk]
theorem hear_7 {e : EndD} {x : LetterD} (h : hearOk e x = true) (hk : x.kind = 7) : hear e x = hearJoinAck e x := by rw [hear, if_pos h]; simp [hk]
theorem hear_8 {e : EndD} {x : LetterD} (h : hearOk e x = true) (hk : x.kind = 8) : hear e x = hearAddr e x := by rw [hear, if_pos h]; simp [hk]
theorem hear_9 {e : EndD} {x : LetterD} (h : hearOk e x = true) (hk : x.kind = 9) : hear e x = hearEcho e x := by rw [hear, if_pos h]; simp [hk]
theorem hear_10 {e : EndD} {x : LetterD} (h : hearOk e x = true) (hk : x.kind = 10) : hear e x = hearGone e x := by rw [hear, if_pos h]; simp [hk]
theorem hear_11 {e : EndD} {x : LetterD} (h : hearOk e x = true) (hk : x.kind = 11) : hear e x = hearData e x := by rw [hear, if_pos h]; simp [hk]
theorem hear_12 {e : EndD} {x : LetterD} (h : hearOk e x = true) (hk : x.kind = 12) : hear e x = hearCame e x := by rw [hear, if_pos h]; simp [hk]
theorem hear_13 {e : EndD} {x : LetterD} (h : hearOk e x = true) (hk : x.kind = 13) : hear e x = hearReset e x := by rw [hear, if_pos h]; simp [hk]
end
section
open Go.RowKit

theorem spec_HearData (e : EndD) (x : LetterD) (hs : Small e) (hsp : SmallP e.inp) : CallA Tryz.prog 217 [.ag (e.cs 0), .ag x.cs] (e.hp false) (.tu [.ag ((hearData e x).1.cs 7), .sc (.sl 14 0 (hearData e x).2.length)])
  (e.hp false ++ ((hearData e x).1.hpS ++ [some ⟨(hearData e x).2.map LetterD.cs, 19, 67, true, true⟩])) := by
 have hC := spec_l17Copy e (by have := hs.own; omega) (by have := hs.far; omega) (by have := hs.subs; omega) (by have := hs.halfs; omega) (by have := hs.list; omega) (by have := hs.done; omega) (by have := hs.over; omega)
 have hK := spec_EndOk e (by have := hs.own; omega) (by have := hs.far; omega) (by have := hs.subs; omega) (by have := hs.halfs; omega) (by have := hs.list; omega) (by have := hs.done; omega) (by have := hs.over; omega)
 have hS := spec_l20On e x hs
 have hP := spec_PutPiece e.inp x.pos x.text hsp
 have hbd := onAt_bd e x
 have hf := hearData_f (e := e) (x := x)
 have ht := fun (n : Nat) => @hearData_t e x n
 have hok := dataOk.eq_1 e x
 have hql : (inOf e x).list.length ≤ 1048576 := putPiece_le (by have := hs.list; omega)
 rw [show putPiece e.inp x.pos x.text = inOf e x from rfl] at hP
 generalize inOf e x = Q at *
 generalize hearData e x = R at *
 refine qE Tryz.func217 Tryz.ntmps217 Tryz.results217 fun E hE => ?_
 refine qK (hC) (qA [0, 1, 2, 3, 4, 5, 6]) ?_
 refine qK (hS) (qA [0, 1, 2, 3, 4, 5, 6]) ?_
 rcases hbd with hon | ⟨n, hon, hk, hn, hq1, hq2⟩
 ·rw [hf (by rw [hok]; simp [hon]), hon]
  refine qX ?_
  exact qF (qA [0, 1, 2, 3, 4, 5, 6, 10, 11, 12, 13, 14, 15, 16, 18])
 ·rw [hon]
  refine qX ?_
  refine qX ?_
  refine qK (hP) (qA [4]) ?_
  refine qK (spec_NextOf Q) (qA [19]) ?_
  refine qB (fun h7 => ?_) fun h7 => ?_
  ·rw [hf (by rw [hok]; simp; omega)]
   refine qX ?_
   exact qF (qA [0, 1, 2, 3, 4, 5, 6, 10, 11, 12, 13, 14, 15, 16, 18])
  ·rw [ht _ (by rw [hok]; simp [hon]; omega) hon hn]
   refine qX ?_
   refine den_drawC [(0, 15), (3, 0), (11, 0), (13, 0), (14, 0)] [[1, 2, 4, 5, 6, 7, 8, 9, 10, 3, 11, 12, 13, 14, 0, 15, 16, 17], [1, 2, 4, 5, 6, 7, 8, 9, 10, 3, 11, 12, 13, 0, 14, 15, 16, 17], [1, 2, 4, 5, 6, 7, 8, 9, 10, 3, 11, 12, 0, 13, 14, 15, 16, 17], [1, 2, 4, 5, 6, 7, 8, 9, 10, 3, 0, 11, 12, 13, 14, 15, 16, 17], [1, 2, 4, 5, 6, 7, 8, 9, 10, 0, 3, 11, 12, 13, 14, 15, 16, 17], [1, 2, 4, 5, 6, 7, 8, 9, 10, 3, 11, 12, 13, 14, 15, 0, 16, 17]] (by kernel_rfl) (qC) (by kernel_rfl) ?_
   simp only [allDn]
   refine ⟨runD_den 400 ?_, runD_den 400 ?_, runD_den 400 ?_, runD_den 400 ?_, runD_den 400 ?_, runD_den 400 ?_⟩
   all_goals simp (disch := omega) only [go_sem, Nat.reduceEqDiff, Nat.reduceAdd, Nat.reduceSub, Int.reduceAdd, Int.reduceSub, Int.reduceToNat]
   all_goals
    refine qKD (spec_RoadOf x) [] ?_
    refine qKD (spec_NextOf Q) (qA [19]) ?_
    refine qKD (spec_Between (roadOf x) { letNone with kind := 12, sgn := e.subs[n].give, pos := nextOf Q }) [] ?_
    refine qG ?_
    refine den_fin (qA [0, 1, 2, 3, 4, 5, 6, 10, 11, 12, 13, 19, 15, 16, 22]) (qC) _ (by simp only [go_sem]; rfl) (by rfl) (by rfl) ?_
    simp (disch := omega) only [go_sem, Nat.reduceEqDiff, Nat.reduceAdd, Nat.reduceSub, Int.reduceAdd, Int.reduceSub, Int.reduceToNat]
    try simp [cameL, between, LetterD.cs]

end
section
open Go.RowKit

theorem spec_Hear (e : EndD) (x : LetterD) (hs : Small e) (hsp : SmallP e.inp) : CallA Tryz.prog 186 [.ag (e.cs 0), .ag x.cs] (e.hp false) (.tu [.ag ((hear e x).1.cs 7), .sc (.sl 14 0 (hear e x).2.length)])
  (e.hp false ++ ((hear e x).1.hpS ++ [some ⟨(hear e x).2.map LetterD.cs, 19, 67, true, true⟩])) := by
 have hC := spec_l17Copy e (by have := hs.own; omega) (by have := hs.far; omega) (by have := hs.subs; omega) (by have := hs.halfs; omega) (by have := hs.list; omega) (by have := hs.done; omega) (by have := hs.over; omega)
 have hK := spec_EndOk e (by have := hs.own; omega) (by have := hs.far; omega) (by have := hs.subs; omega) (by have := hs.halfs; omega) (by have := hs.list; omega) (by have := hs.done; omega) (by have := hs.over; omega)
 have hL := spec_LetterOk x
 have hO := spec_OwnsAddr e x.to (by have := hs.own; omega)
 have hf := hear_f (e := e) (x := x)
 have hno := hear_n (e := e) (x := x)
 have hr1 := hear_1 (e := e) (x := x)
 have hr2 := hear_2 (e := e) (x := x)
 have hr4 := hear_4 (e := e) (x := x)
 have hr5 := hear_5 (e := e) (x := x)
 have hr6 := hear_6 (e := e) (x := x)
 have hr7 := hear_7 (e := e) (x := x)
 have hr8 := hear_8 (e := e) (x := x)
 have hr9 := hear_9 (e := e) (x := x)
 have hr10 := hear_10 (e := e) (x := x)
 have hr11 := hear_11 (e := e) (x := x)
 have hr12 := hear_12 (e := e) (x := x)
 have hr13 := hear_13 (e := e) (x := x)
 generalize hear e x = R at *
 refine qE Tryz.func186 Tryz.ntmps186 Tryz.results186 fun E hE => ?_
 refine qK (hK) (qA [0, 1, 2, 3, 4, 5, 6]) ?_
 refine qB (fun h1 => ?_) fun h1 => ?_
 ·refine qK (hL) [] ?_
  refine qB (fun h2 => ?_) fun h2 => ?_
  ·refine qK (hO) (qA [0, 1, 2, 3, 4, 5, 6]) ?_
   refine qB (fun h3 => ?_) fun h3 => ?_
   ·rw [hf (by simp [hearOk, h1, h2, h3])]
    refine qX ?_
    refine qK (hC) (qA [0, 1, 2, 3, 4, 5, 6]) ?_
    exact qF (qA [0, 1, 2, 3, 4, 5, 6, 10, 11, 12, 13, 14, 15, 16, 17])
   ·have hh : hearOk e x = true := by simp [hearOk, h1, h2, h3]
    refine qX ?_
    refine qB (fun k1 => ?_) fun k1 => ?_
    ·rw [hr1 hh k1]
     refine qX ?_
     refine qK (spec_HearHello e x hs) (qA [0, 1, 2, 3, 4, 5, 6]) ?_
     exact qF (qA [0, 1, 2, 3, 4, 5, 6, 10, 11, 12, 13, 14, 15, 16, 17])
    ·refine qX ?_
     refine qB (fun k2 => ?_) fun k2 => ?_
     ·rw [hr2 hh k2]
      refine qX ?_
      refine qK (spec_HearBack e x hs) (qA [0, 1, 2, 3, 4, 5, 6]) ?_
      exact qF (qA [0, 1, 2, 3, 4, 5, 6, 10, 11, 12, 13, 14, 15, 16, 17])
     ·refine qX ?_
      refine qB (fun k4 => ?_) fun k4 => ?_
      ·rw [hr4 hh k4]
       refine qX ?_
       refine qK (spec_HearJoin e x hs) (qA [0, 1, 2, 3, 4, 5, 6]) ?_
       exact qF (qA [0, 1, 2, 3, 4, 5, 6, 10, 11, 12, 13, 14, 15, 16, 17])
      ·refine qX ?_
       refine qB (fun k5 => ?_) fun k5 => ?_
       ·rw [hr5 hh k5]
        refine qX ?_
        refine qK (spec_HearJoinBack e x hs) (qA [0, 1, 2, 3, 4, 5, 6]) ?_
        exact qF (qA [0, 1, 2, 3, 4, 5, 6, 10, 11, 12, 13, 14, 15, 16, 17])
       ·refine qX ?_
        refine qB (fun k6 => ?_) fun k6 => ?_
        ·rw [hr6 hh k6]
         refine qX ?_
         refine qK (spec_HearJoinDone e x hs) (qA [0, 1, 2, 3, 4, 5, 6]) ?_
         exact qF (qA [0, 1, 2, 3, 4, 5, 6, 10, 11, 12, 13, 14, 15, 16, 17])
        ·refine qX ?_
         refine qB (fun k7 => ?_) fun k7 => ?_
         ·rw [hr7 hh k7]
          refine qX ?_
          refine qK (spec_HearJoinAck e x hs) (qA [0, 1, 2, 3, 4, 5, 6]) ?_
          exact qF (qA [0, 1, 2, 3, 4, 5, 6, 10, 11, 12, 13, 14, 15, 16, 17])
         ·refine qX ?_
          refine qB (fun k8 => ?_) fun k8 => ?_
          ·rw [hr8 hh k8]
           refine qX ?_
           refine qK (spec_HearAddr e x hs) (qA [0, 1, 2, 3, 4, 5, 6]) ?_
           exact qF (qA [0, 1, 2, 3, 4, 5, 6, 10, 11, 12, 13, 14, 15, 16, 17])
          ·refine qX ?_
           refine qB (fun k9 => ?_) fun k9 => ?_
           ·rw [hr9 hh k9]
            refine qX ?_
            refine qK (spec_HearEcho e x hs) (qA [0, 1, 2, 3, 4, 5, 6]) ?_
            exact qF (qA [0, 1, 2, 3, 4, 5, 6, 10, 11, 12, 13, 14, 15, 16, 17])
           ·refine qX ?_
            refine qB (fun k10 => ?_) fun k10 => ?_
            ·rw [hr10 hh k10]
             refine qX ?_
             refine qK (spec_HearGone e x hs) (qA [0, 1, 2, 3, 4, 5, 6]) ?_
             exact qF (qA [0, 1, 2, 3, 4, 5, 6, 10, 11, 12, 13, 14, 15, 16, 17])
            ·refine qX ?_
             refine qB (fun k11 => ?_) fun k11 => ?_
             ·rw [hr11 hh k11]
              refine qX ?_
              refine qK (spec_HearData e x hs hsp) (qA [0, 1, 2, 3, 4, 5, 6]) ?_
              exact qF (qA [0, 1, 2, 3, 4, 5, 6, 10, 11, 12, 13, 14, 15, 16, 17])
             ·refine qX ?_
              refine qB (fun k12 => ?_) fun k12 => ?_
              ·rw [hr12 hh k12]
               refine qX ?_
               refine qK (spec_HearCame e x hs) (qA [0, 1, 2, 3, 4, 5, 6]) ?_
               exact qF (qA [0, 1, 2, 3, 4, 5, 6, 10, 11, 12, 13, 14, 15, 16, 17])
              ·refine qX ?_
               refine qB (fun k13 => ?_) fun k13 => ?_
               ·rw [hr13 hh k13]
                refine qX ?_
                refine qK (spec_HearReset e x hs) (qA [0, 1, 2, 3, 4, 5, 6]) ?_
                exact qF (qA [0, 1, 2, 3, 4, 5, 6, 10, 11, 12, 13, 14, 15, 16, 17])
               ·refine qX ?_
                rw [hno (by intro k hk; omega)]
                refine qX ?_
                refine qK (hC) (qA [0, 1, 2, 3, 4, 5, 6]) ?_
                exact qF (qA [0, 1, 2, 3, 4, 5, 6, 10, 11, 12, 13, 14, 15, 16, 17])
  ·rw [hf (by simp [hearOk, h2])]
   refine qX ?_
   refine qK (hC) (qA [0, 1, 2, 3, 4, 5, 6]) ?_
   exact qF (qA [0, 1, 2, 3, 4, 5, 6, 10, 11, 12, 13, 14, 15, 16, 17])
 ·rw [hf (by simp [hearOk, h1])]
  refine qX ?_
  refine qK (hC) (qA [0, 1, 2, 3, 4, 5, 6]) ?_
  exact qF (qA [0, 1, 2, 3, 4, 5, 6, 10, 11, 12, 13, 14, 15, 16, 17])

end
section
open Go.RowKit

theorem spec_CanMake (k : KnownD) (t : TagD) (h0 : k.keys.length ≤ 1048576) (h1 : k.tags.length ≤ 1048576) : CallA Tryz.prog 120 [.ag (k.cs 0), .ag t.cs] (k.hp false) (.sc (.bo (canMake k t))) (k.hp false) := by
 obtain ⟨R, hR⟩ : ∃ R, R = canMake k t := ⟨_, rfl⟩
 rw [← hR]
 rw [canMake] at hR
 have hcmp := TagD.cmp t tagNone
 simp only [TagD.cs, tagNone, go_sem] at hcmp
 have ht : tagNone = ⟨0, 0, 0, 0, 0⟩ := rfl
 refine qE Tryz.func120 Tryz.ntmps120 Tryz.results120 fun E hE => ?_
 try simp (disch := omega) only [go_sem, Nat.reduceEqDiff, Nat.reduceAdd, Nat.reduceSub, Int.reduceAdd, Int.reduceSub, Int.reduceToNat, hcmp]
 refine qB (fun b1 => ?_) fun b1 => ?_
 ·have b1' := of_decide_eq_false b1
  refine qK (spec_l15Has k.keys t.one h0) (qA [0]) ?_
  refine qB (fun b2 => ?_) fun b2 => ?_
  ·refine qK (spec_l15Has k.keys t.two h0) (qA [0]) ?_
   refine qB (fun b3 => ?_) fun b3 => ?_
   ·have hR' : R = true := by rw [hR]; simp [b2, b3]
    subst hR'
    refine qX ?_
    exact qF (qA [0, 1])
   ·have hR' : R = (k.tags.take 300).any (fun u => decide (u = t)) := by rw [hR, ht]; simp [b1', b2, b3]
    refine qX ?_
    refine den_lp 2 hE (fun s (i : Nat) => s.at [0, 1, 4, 6, 7, 8, 9, 10, 11, 12, 13, 14, 15, 16, 17, 18, 19, 20, 21, 22, 23, 24, 25, 26, 27, 28, 29, 30, 31, 32, 33, 34, 35, 36, 37, 38, 39, 40] [(5, .sc (.int .i64 (i : Nat)))] (s.hp)) (fun (i : Nat) => i ≤ k.tags.length ∧ i ≤ 300 ∧ ((k.tags.take 300).drop i).any (fun u => decide (u = t)) = R) (fun (i : Nat) => k.tags.length - i) 0 (qA [0, 1, 2, 3]) (qC) (⟨Nat.zero_le _, Nat.zero_le _, by rw [hR']; rfl⟩) (weak_mk (by rfl) (by rfl) ?_) fun i hi N hN => ?_
    ·exact qY
    ·obtain ⟨hi1, hi2, hi3⟩ := hi
     refine qR ?_
     refine qB (fun h => ?_) fun h => ?_
     ·refine qB (fun h2 => ?_) fun h2 => ?_
      ·rw [any_step (by simp; omega), List.getElem_take] at hi3
       have hcm := TagD.cmp k.tags[i] t
       simp only [TagD.cs, go_sem] at hcm
       refine qX ?_
       refine qD [0, 1, 2, 3, 4, 5, 6] ?_
       refine ⟨qC, run_den 400 ?_⟩
       try simp (disch := omega) only [go_sem, Nat.reduceEqDiff, Nat.reduceAdd, Nat.reduceSub, Int.reduceAdd, Int.reduceSub, Int.reduceToNat, hcm]
       refine qB (fun h3 => ?_) fun h3 => ?_
       ·rw [decide_eq_true h3, Bool.true_or] at hi3
        subst hi3
        refine qX ?_
        exact qF (qA [0, 1])
       ·rw [decide_eq_false h3, Bool.false_or] at hi3
        exact qN hN (i + 1) (qA [0, 1, 2, 3]) (by (try dsimp only); exact ⟨by omega, by omega, hi3⟩)
      ·rw [any_end (by simp; omega)] at hi3
       subst hi3
       refine qX ?_
       exact qF (qA [0, 1])
     ·rw [any_end (by simp; omega)] at hi3
      subst hi3
      refine qX ?_
      exact qF (qA [0, 1])
  ·have hR' : R = (k.tags.take 300).any (fun u => decide (u = t)) := by rw [hR, ht]; simp [b1', b2]
   refine qX ?_
   refine den_lp 2 hE (fun s (i : Nat) => s.at [0, 1, 4, 6, 7, 8, 9, 10, 11, 12, 13, 14, 15, 16, 17, 18, 19, 20, 21, 22, 23, 24, 25, 26, 27, 28, 29, 30, 31, 32, 33, 34, 35, 36, 37, 38, 39, 40] [(5, .sc (.int .i64 (i : Nat)))] (s.hp)) (fun (i : Nat) => i ≤ k.tags.length ∧ i ≤ 300 ∧ ((k.tags.take 300).drop i).any (fun u => decide (u = t)) = R) (fun (i : Nat) => k.tags.length - i) 0 (qA [0, 1, 2, 3]) (qC) (⟨Nat.zero_le _, Nat.zero_le _, by rw [hR']; rfl⟩) (weak_mk (by rfl) (by rfl) ?_) fun i hi N hN => ?_
   ·exact qY
   ·obtain ⟨hi1, hi2, hi3⟩ := hi
    refine qR ?_
    refine qB (fun h => ?_) fun h => ?_
    ·refine qB (fun h2 => ?_) fun h2 => ?_
     ·rw [any_step (by simp; omega), List.getElem_take] at hi3
      have hcm := TagD.cmp k.tags[i] t
      simp only [TagD.cs, go_sem] at hcm
      refine qX ?_
      refine qD [0, 1, 2, 3, 4, 5, 6] ?_
      refine ⟨qC, run_den 400 ?_⟩
      try simp (disch := omega) only [go_sem, Nat.reduceEqDiff, Nat.reduceAdd, Nat.reduceSub, Int.reduceAdd, Int.reduceSub, Int.reduceToNat, hcm]
      refine qB (fun h3 => ?_) fun h3 => ?_
      ·rw [decide_eq_true h3, Bool.true_or] at hi3
       subst hi3
       refine qX ?_
       exact qF (qA [0, 1])
      ·rw [decide_eq_false h3, Bool.false_or] at hi3
       exact qN hN (i + 1) (qA [0, 1, 2, 3]) (by (try dsimp only); exact ⟨by omega, by omega, hi3⟩)
     ·rw [any_end (by simp; omega)] at hi3
      subst hi3
      refine qX ?_
      exact qF (qA [0, 1])
    ·rw [any_end (by simp; omega)] at hi3
     subst hi3
     refine qX ?_
     exact qF (qA [0, 1])
 ·have b1' := of_decide_eq_true b1
  have hR' : R = true := by rw [hR, ht]; simp [b1']
  subst hR'
  refine qX ?_
  exact qF (qA [0, 1])

theorem tag_app (l : List TagD) (h : TagD) : l.map TagD.cs ++ [h.cs] = (l ++ [h]).map TagD.cs := by simp
theorem learn_t {k : KnownD} {t : TagD} (h : canMake k t = false) (h2 : k.tags.length < 300) : learn k t = { k with tags := k.tags ++ [t] } := if_pos ⟨h, h2⟩
theorem learn_f1 {k : KnownD} {t : TagD} (h : canMake k t = true) : learn k t = k := if_neg (by simp [h])
theorem learn_f2 {k : KnownD} {t : TagD} (h2 : ¬ k.tags.length < 300) : learn k t = k := if_neg (fun h => h2 h.2)
end
end Go.Proofs.YtfakgekanapbnaaGreat
