/-
  Texts merged for this claim by shake.py: what its proof needs.
-/
import Derived.Tactics
import Derived.Below
import Derived.Laws.AppendOwn
import Derived.Laws.OwnMore
import Derived.Laws.Slices
import Derived.Laws.Small
import Derived.Laws.Strings
import Derived.KernelRfl
import Derived.Laws.MakeOwn
import Derived.Laws.BytesString
import Derived.Laws.BytesArg
import Derived.Laws.Build
import Derived.Laws.Concat
import Derived.Laws.StructEq
import Derived.Lib.ConvBytes
import Derived.Orders
import Derived.WalkKit
import Derived.ProofKit
import Derived.ShutString
import Derived.OpenShut
import Derived.ChangeOld
import Derived.Carry
import Derived.Test.YtkkcfgfkabkjhaaGreatChecked
import Derived.Laws.BitsLemmas
import Derived.JoinedOf
import Derived.Test.YtkkcfgfkabkjhaaGreatRows
import Derived.Test.YtkkcfgfkabkjhaaGreatZFnExactLandsF
set_option maxHeartbeats 16000000
set_option maxRecDepth 100000
set_option linter.unusedVariables false
set_option linter.unusedSimpArgs false
namespace Go.Proofs.YtkkcfgfkabkjhaaGreat
section
open Go.RowKit

attribute [go_sem] gen_length
def mkAddr (k : Int) : AddrD := ⟨k, k + 1, ((k + 1 + 1).tmod 3 == 0), ((k + 1 + 1 + 1).tmod 3 == 0)⟩
theorem lawsX_markAddrS (l : List AddrD) (k0 : Int) (hl : l.length ≤ 16777216) (h0 : 0 ≤ k0) (h1 : k0 ≤ 1099511627776) : CallA Tryz.prog 146 [.sc (.sl 0 0 l.length), .sc (.int .i64 k0)] [some ⟨l.map AddrD.cs, 4, 95, true, true⟩] (.sc (.int .i64 (k0 + 4 * (l.length : Int)))) [some ⟨(gen mkAddr 4 k0 l.length).map AddrD.cs, 4, 95, true, true⟩] := by
 refine qE Tryz.func146 Tryz.ntmps146 Tryz.results146 fun E hE => ?_
 refine den_lp 1 hE (fun s (x : Nat × Int × List AddrD) => s.at [6, 7, 8, 9, 10, 11, 12, 13, 14, 15, 16, 17, 18, 19, 20, 21, 22, 23, 24, 25, 26, 27, 28, 29, 30, 31, 32, 33, 34, 35, 36, 37, 38, 39, 40, 41, 42, 43] [(5, .sc (.int .i64 (x.1 : Nat))), (1, .sc (.int .i64 x.2.1))] ([some ⟨x.2.2.map AddrD.cs, 4, 95, true, true⟩])) (fun (x : Nat × Int × List AddrD) => x.1 ≤ l.length ∧ x.2.2.length = l.length ∧ x.2.1 = k0 + 4 * (x.1 : Int) ∧ x.2.2.take x.1 = gen mkAddr 4 k0 x.1) (fun (x : Nat × Int × List AddrD) => l.length - x.1) (0, k0, l) (qA [0]) (qC) (⟨Nat.zero_le _, rfl, by simp, rfl⟩) (weak_mk (by rfl) (by rfl) ?_) fun x hx N hN => ?_
 ·exact qY
 ·obtain ⟨i, k, m⟩ := x
  obtain ⟨hx1, hx2, hx3, hx4⟩ := hx
  dsimp only at hx1 hx2 hx3 hx4
  refine qR ?_
  refine qB (fun h => ?_) fun h => ?_
  ·have hi : i < m.length := by omega
   try simp (disch := omega) only [go_sem, Nat.reduceEqDiff, Nat.reduceAdd, Nat.reduceSub, Int.reduceAdd, Int.reduceSub, Int.reduceToNat, map_get hi, strs_get hi]
   have ht := take_set' hi (mkAddr k)
   rw [hx4, hx3, ← gen_succ, ← hx3] at ht
   refine ⟨qC, hN _ (i + 1, k + 1 + 1 + 1 + 1, m.set i (mkAddr k)) (qA [0]) (by (try dsimp only); exact ⟨by omega, by simp; omega, by omega, ht⟩) (by (try dsimp only); omega) (weak_mk (by rfl) (by rfl) ?_)⟩
   try simp (disch := omega) only [go_sem, Nat.reduceEqDiff, Nat.reduceAdd, Nat.reduceSub, Int.reduceAdd, Int.reduceSub, Int.reduceToNat]
   try exact ⟨by omega, map_set' rfl⟩
   try exact map_set' rfl
  ·have e : i = l.length := by omega
   subst e
   rw [List.take_of_length_le (by omega)] at hx4
   subst hx4
   refine den_fin (qA [0]) (qC) _ (by simp only [go_sem]; rfl) (by rfl) (by rfl) ?_
   simp (disch := omega) only [go_sem, Nat.reduceEqDiff, Nat.reduceAdd, Nat.reduceSub, Int.reduceAdd, Int.reduceSub, Int.reduceToNat]
   try exact hx3
   try exact ⟨hx3, rfl⟩
theorem lawsX_heldAddrS (k0 : Int) (n : Nat) (hl : n ≤ 16777216) (h0 : 0 ≤ k0) (h1 : k0 ≤ 1099511627776) : CallA Tryz.prog 151 [.sc (.sl 0 0 n), .sc (.int .i64 k0)] [some ⟨(gen mkAddr 4 k0 n).map AddrD.cs, 4, 95, false, true⟩] (.sc (.int .i64 (k0 + 4 * (n : Int)))) [some ⟨(gen mkAddr 4 k0 n).map AddrD.cs, 4, 95, false, true⟩] := by
 have hg : (gen mkAddr 4 k0 n).length = n := gen_length
 refine qE Tryz.func151 Tryz.ntmps151 Tryz.results151 fun E hE => ?_
 refine den_lp 1 hE (fun s (x : Nat × Int) => s.at [4, 6, 7, 8, 9, 10, 11, 12, 13, 14, 15, 16, 17, 18, 19, 20, 21, 22, 23, 24, 25, 26, 27, 28, 29, 30, 31, 32, 33, 34, 35, 36, 37, 38, 39, 40, 41, 42, 43, 44, 45, 46, 47, 48, 49, 50, 51] [(5, .sc (.int .i64 (x.1 : Nat))), (1, .sc (.int .i64 x.2))] (s.hp)) (fun (x : Nat × Int) => x.1 ≤ n ∧ x.2 = k0 + 4 * (x.1 : Int)) (fun (x : Nat × Int) => n - x.1) (0, k0) (qA [0]) (qC) (⟨Nat.zero_le _, by simp⟩) (weak_mk (by rfl) (by rfl) ?_) fun x hx N hN => ?_
 ·exact qY
 ·obtain ⟨i, k⟩ := x
  obtain ⟨hx1, hx3⟩ := hx
  dsimp only at hx1 hx3
  refine qR ?_
  refine qB (fun h => ?_) fun h => ?_
  ·have hi : i < (gen mkAddr 4 k0 n).length := by omega
   have he := gen_get hi
   rw [← hx3] at he
   try simp (disch := omega) only [go_sem, Nat.reduceEqDiff, Nat.reduceAdd, Nat.reduceSub, Int.reduceAdd, Int.reduceSub, Int.reduceToNat, map_get hi, he, mkAddr]
   refine ⟨qC, hN _ (i + 1, k + 1 + 1 + 1 + 1) (qA [0]) (by (try dsimp only); exact ⟨by omega, by omega⟩) (by (try dsimp only); omega) (weak_mk (by rfl) (by rfl) ?_)⟩
   try simp (disch := omega) only [go_sem, Nat.reduceEqDiff, Nat.reduceAdd, Nat.reduceSub, Int.reduceAdd, Int.reduceSub, Int.reduceToNat]
   try omega
  ·have e : i = n := by omega
   subst e
   refine den_fin (qA [0]) (qC) _ (by simp only [go_sem]; rfl) (by rfl) (by rfl) ?_
   simp (disch := omega) only [go_sem, Nat.reduceEqDiff, Nat.reduceAdd, Nat.reduceSub, Int.reduceAdd, Int.reduceSub, Int.reduceToNat]
   try exact hx3
def mkHalf (k : Int) : HalfD := ⟨⟨k, k + 1, k + 1 + 1⟩, k + 1 + 1 + 1, k + 1 + 1 + 1 + 1, k + 1 + 1 + 1 + 1 + 1, k + 1 + 1 + 1 + 1 + 1 + 1, k + 1 + 1 + 1 + 1 + 1 + 1 + 1⟩
theorem lawsX_markHalfS (l : List HalfD) (k0 : Int) (hl : l.length ≤ 16777216) (h0 : 0 ≤ k0) (h1 : k0 ≤ 1099511627776) : CallA Tryz.prog 148 [.sc (.sl 0 0 l.length), .sc (.int .i64 k0)] [some ⟨l.map HalfD.cs, 8, 215, true, true⟩] (.sc (.int .i64 (k0 + 8 * (l.length : Int)))) [some ⟨(gen mkHalf 8 k0 l.length).map HalfD.cs, 8, 215, true, true⟩] := by
 refine qE Tryz.func148 Tryz.ntmps148 Tryz.results148 fun E hE => ?_
 refine den_lp 1 hE (fun s (x : Nat × Int × List HalfD) => s.at [6, 7, 8, 9, 10, 11, 12, 13, 14, 15, 16, 17, 18, 19, 20, 21, 22, 23, 24, 25, 26, 27, 28, 29, 30, 31, 32, 33, 34, 35, 36, 37, 38, 39, 40, 41, 42, 43, 44, 45, 46, 47, 48, 49, 50, 51, 52, 53, 54, 55, 56, 57, 58, 59, 60, 61, 62, 63, 64, 65, 66, 67, 68, 69, 70] [(5, .sc (.int .i64 (x.1 : Nat))), (1, .sc (.int .i64 x.2.1))] ([some ⟨x.2.2.map HalfD.cs, 8, 215, true, true⟩])) (fun (x : Nat × Int × List HalfD) => x.1 ≤ l.length ∧ x.2.2.length = l.length ∧ x.2.1 = k0 + 8 * (x.1 : Int) ∧ x.2.2.take x.1 = gen mkHalf 8 k0 x.1) (fun (x : Nat × Int × List HalfD) => l.length - x.1) (0, k0, l) (qA [0]) (qC) (⟨Nat.zero_le _, rfl, by simp, rfl⟩) (weak_mk (by rfl) (by rfl) ?_) fun x hx N hN => ?_
 ·exact qY
 ·obtain ⟨i, k, m⟩ := x
  obtain ⟨hx1, hx2, hx3, hx4⟩ := hx
  dsimp only at hx1 hx2 hx3 hx4
  refine qR ?_
  refine qB (fun h => ?_) fun h => ?_
  ·have hi : i < m.length := by omega
   try simp (disch := omega) only [go_sem, Nat.reduceEqDiff, Nat.reduceAdd, Nat.reduceSub, Int.reduceAdd, Int.reduceSub, Int.reduceToNat, map_get hi, strs_get hi]
   have ht := take_set' hi (mkHalf k)
   rw [hx4, hx3, ← gen_succ, ← hx3] at ht
   refine ⟨qC, hN _ (i + 1, k + 1 + 1 + 1 + 1 + 1 + 1 + 1 + 1, m.set i (mkHalf k)) (qA [0]) (by (try dsimp only); exact ⟨by omega, by simp; omega, by omega, ht⟩) (by (try dsimp only); omega) (weak_mk (by rfl) (by rfl) ?_)⟩
   try simp (disch := omega) only [go_sem, Nat.reduceEqDiff, Nat.reduceAdd, Nat.reduceSub, Int.reduceAdd, Int.reduceSub, Int.reduceToNat]
   try exact ⟨by omega, map_set' rfl⟩
   try exact map_set' rfl
  ·have e : i = l.length := by omega
   subst e
   rw [List.take_of_length_le (by omega)] at hx4
   subst hx4
   refine den_fin (qA [0]) (qC) _ (by simp only [go_sem]; rfl) (by rfl) (by rfl) ?_
   simp (disch := omega) only [go_sem, Nat.reduceEqDiff, Nat.reduceAdd, Nat.reduceSub, Int.reduceAdd, Int.reduceSub, Int.reduceToNat]
   try exact hx3
   try exact ⟨hx3, rfl⟩
theorem lawsX_heldHalfS (k0 : Int) (n : Nat) (hl : n ≤ 16777216) (h0 : 0 ≤ k0) (h1 : k0 ≤ 1099511627776) : CallA Tryz.prog 153 [.sc (.sl 0 0 n), .sc (.int .i64 k0)] [some ⟨(gen mkHalf 8 k0 n).map HalfD.cs, 8, 215, false, true⟩] (.sc (.int .i64 (k0 + 8 * (n : Int)))) [some ⟨(gen mkHalf 8 k0 n).map HalfD.cs, 8, 215, false, true⟩] := by
 have hg : (gen mkHalf 8 k0 n).length = n := gen_length
 refine qE Tryz.func153 Tryz.ntmps153 Tryz.results153 fun E hE => ?_
 refine den_lp 1 hE (fun s (x : Nat × Int) => s.at [4, 6, 7, 8, 9, 10, 11, 12, 13, 14, 15, 16, 17, 18, 19, 20, 21, 22, 23, 24, 25, 26, 27, 28, 29, 30, 31, 32, 33, 34, 35, 36, 37, 38, 39, 40, 41, 42, 43, 44, 45, 46, 47, 48, 49, 50, 51, 52, 53, 54, 55, 56, 57, 58, 59, 60, 61, 62, 63, 64, 65, 66, 67, 68, 69, 70, 71, 72, 73, 74, 75, 76, 77, 78, 79, 80, 81, 82, 83, 84, 85, 86] [(5, .sc (.int .i64 (x.1 : Nat))), (1, .sc (.int .i64 x.2))] (s.hp)) (fun (x : Nat × Int) => x.1 ≤ n ∧ x.2 = k0 + 8 * (x.1 : Int)) (fun (x : Nat × Int) => n - x.1) (0, k0) (qA [0]) (qC) (⟨Nat.zero_le _, by simp⟩) (weak_mk (by rfl) (by rfl) ?_) fun x hx N hN => ?_
 ·exact qY
 ·obtain ⟨i, k⟩ := x
  obtain ⟨hx1, hx3⟩ := hx
  dsimp only at hx1 hx3
  refine qR ?_
  refine qB (fun h => ?_) fun h => ?_
  ·have hi : i < (gen mkHalf 8 k0 n).length := by omega
   have he := gen_get hi
   rw [← hx3] at he
   try simp (disch := omega) only [go_sem, Nat.reduceEqDiff, Nat.reduceAdd, Nat.reduceSub, Int.reduceAdd, Int.reduceSub, Int.reduceToNat, map_get hi, he, mkHalf]
   refine ⟨qC, hN _ (i + 1, k + 1 + 1 + 1 + 1 + 1 + 1 + 1 + 1) (qA [0]) (by (try dsimp only); exact ⟨by omega, by omega⟩) (by (try dsimp only); omega) (weak_mk (by rfl) (by rfl) ?_)⟩
   try simp (disch := omega) only [go_sem, Nat.reduceEqDiff, Nat.reduceAdd, Nat.reduceSub, Int.reduceAdd, Int.reduceSub, Int.reduceToNat]
   try omega
  ·have e : i = n := by omega
   subst e
   refine den_fin (qA [0]) (qC) _ (by simp only [go_sem]; rfl) (by rfl) (by rfl) ?_
   simp (disch := omega) only [go_sem, Nat.reduceEqDiff, Nat.reduceAdd, Nat.reduceSub, Int.reduceAdd, Int.reduceSub, Int.reduceToNat]
   try exact hx3
def mkTag (k : Int) : TagD := ⟨k, k + 1, k + 1 + 1, k + 1 + 1 + 1, k + 1 + 1 + 1 + 1⟩
theorem lawsX_markTagS (l : List TagD) (k0 : Int) (hl : l.length ≤ 16777216) (h0 : 0 ≤ k0) (h1 : k0 ≤ 1099511627776) : CallA Tryz.prog 150 [.sc (.sl 0 0 l.length), .sc (.int .i64 k0)] [some ⟨l.map TagD.cs, 5, 68, true, true⟩] (.sc (.int .i64 (k0 + 5 * (l.length : Int)))) [some ⟨(gen mkTag 5 k0 l.length).map TagD.cs, 5, 68, true, true⟩] := by
 refine qE Tryz.func150 Tryz.ntmps150 Tryz.results150 fun E hE => ?_
 refine den_lp 1 hE (fun s (x : Nat × Int × List TagD) => s.at [6, 7, 8, 9, 10, 11, 12, 13, 14, 15, 16, 17, 18, 19, 20, 21, 22, 23, 24, 25, 26, 27, 28, 29, 30, 31, 32, 33, 34, 35, 36, 37, 38, 39, 40, 41, 42, 43, 44, 45, 46] [(5, .sc (.int .i64 (x.1 : Nat))), (1, .sc (.int .i64 x.2.1))] ([some ⟨x.2.2.map TagD.cs, 5, 68, true, true⟩])) (fun (x : Nat × Int × List TagD) => x.1 ≤ l.length ∧ x.2.2.length = l.length ∧ x.2.1 = k0 + 5 * (x.1 : Int) ∧ x.2.2.take x.1 = gen mkTag 5 k0 x.1) (fun (x : Nat × Int × List TagD) => l.length - x.1) (0, k0, l) (qA [0]) (qC) (⟨Nat.zero_le _, rfl, by simp, rfl⟩) (weak_mk (by rfl) (by rfl) ?_) fun x hx N hN => ?_
 ·exact qY
 ·obtain ⟨i, k, m⟩ := x
  obtain ⟨hx1, hx2, hx3, hx4⟩ := hx
  dsimp only at hx1 hx2 hx3 hx4
  refine qR ?_
  refine qB (fun h => ?_) fun h => ?_
  ·have hi : i < m.length := by omega
   try simp (disch := omega) only [go_sem, Nat.reduceEqDiff, Nat.reduceAdd, Nat.reduceSub, Int.reduceAdd, Int.reduceSub, Int.reduceToNat, map_get hi, strs_get hi]
   have ht := take_set' hi (mkTag k)
   rw [hx4, hx3, ← gen_succ, ← hx3] at ht
   refine ⟨qC, hN _ (i + 1, k + 1 + 1 + 1 + 1 + 1, m.set i (mkTag k)) (qA [0]) (by (try dsimp only); exact ⟨by omega, by simp; omega, by omega, ht⟩) (by (try dsimp only); omega) (weak_mk (by rfl) (by rfl) ?_)⟩
   try simp (disch := omega) only [go_sem, Nat.reduceEqDiff, Nat.reduceAdd, Nat.reduceSub, Int.reduceAdd, Int.reduceSub, Int.reduceToNat]
   try exact ⟨by omega, map_set' rfl⟩
   try exact map_set' rfl
  ·have e : i = l.length := by omega
   subst e
   rw [List.take_of_length_le (by omega)] at hx4
   subst hx4
   refine den_fin (qA [0]) (qC) _ (by simp only [go_sem]; rfl) (by rfl) (by rfl) ?_
   simp (disch := omega) only [go_sem, Nat.reduceEqDiff, Nat.reduceAdd, Nat.reduceSub, Int.reduceAdd, Int.reduceSub, Int.reduceToNat]
   try exact hx3
   try exact ⟨hx3, rfl⟩
theorem lawsX_heldTagS (k0 : Int) (n : Nat) (hl : n ≤ 16777216) (h0 : 0 ≤ k0) (h1 : k0 ≤ 1099511627776) : CallA Tryz.prog 155 [.sc (.sl 0 0 n), .sc (.int .i64 k0)] [some ⟨(gen mkTag 5 k0 n).map TagD.cs, 5, 68, false, true⟩] (.sc (.int .i64 (k0 + 5 * (n : Int)))) [some ⟨(gen mkTag 5 k0 n).map TagD.cs, 5, 68, false, true⟩] := by
 have hg : (gen mkTag 5 k0 n).length = n := gen_length
 refine qE Tryz.func155 Tryz.ntmps155 Tryz.results155 fun E hE => ?_
 refine den_lp 1 hE (fun s (x : Nat × Int) => s.at [4, 6, 7, 8, 9, 10, 11, 12, 13, 14, 15, 16, 17, 18, 19, 20, 21, 22, 23, 24, 25, 26, 27, 28, 29, 30, 31, 32, 33, 34, 35, 36, 37, 38, 39, 40, 41, 42, 43, 44, 45, 46, 47, 48, 49, 50, 51, 52, 53, 54, 55, 56] [(5, .sc (.int .i64 (x.1 : Nat))), (1, .sc (.int .i64 x.2))] (s.hp)) (fun (x : Nat × Int) => x.1 ≤ n ∧ x.2 = k0 + 5 * (x.1 : Int)) (fun (x : Nat × Int) => n - x.1) (0, k0) (qA [0]) (qC) (⟨Nat.zero_le _, by simp⟩) (weak_mk (by rfl) (by rfl) ?_) fun x hx N hN => ?_
 ·exact qY
 ·obtain ⟨i, k⟩ := x
  obtain ⟨hx1, hx3⟩ := hx
  dsimp only at hx1 hx3
  refine qR ?_
  refine qB (fun h => ?_) fun h => ?_
  ·have hi : i < (gen mkTag 5 k0 n).length := by omega
   have he := gen_get hi
   rw [← hx3] at he
   try simp (disch := omega) only [go_sem, Nat.reduceEqDiff, Nat.reduceAdd, Nat.reduceSub, Int.reduceAdd, Int.reduceSub, Int.reduceToNat, map_get hi, he, mkTag]
   refine ⟨qC, hN _ (i + 1, k + 1 + 1 + 1 + 1 + 1) (qA [0]) (by (try dsimp only); exact ⟨by omega, by omega⟩) (by (try dsimp only); omega) (weak_mk (by rfl) (by rfl) ?_)⟩
   try simp (disch := omega) only [go_sem, Nat.reduceEqDiff, Nat.reduceAdd, Nat.reduceSub, Int.reduceAdd, Int.reduceSub, Int.reduceToNat]
   try omega
  ·have e : i = n := by omega
   subst e
   refine den_fin (qA [0]) (qC) _ (by simp only [go_sem]; rfl) (by rfl) (by rfl) ?_
   simp (disch := omega) only [go_sem, Nat.reduceEqDiff, Nat.reduceAdd, Nat.reduceSub, Int.reduceAdd, Int.reduceSub, Int.reduceToNat]
   try exact hx3
def mkLetter (k : Int) : LetterD := ⟨k, k + 1, k + 1 + 1, k + 1 + 1 + 1, k + 1 + 1 + 1 + 1, k + 1 + 1 + 1 + 1 + 1, k + 1 + 1 + 1 + 1 + 1 + 1, k + 1 + 1 + 1 + 1 + 1 + 1 + 1, k + 1 + 1 + 1 + 1 + 1 + 1 + 1 + 1, ⟨k + 1 + 1 + 1 + 1 + 1 + 1 + 1 + 1 + 1, k + 1 + 1 + 1 + 1 + 1 + 1 + 1 + 1 + 1 + 1, k + 1 + 1 + 1 + 1 + 1 + 1 + 1 + 1 + 1 + 1 + 1, k + 1 + 1 + 1 + 1 + 1 + 1 + 1 + 1 + 1 + 1 + 1 + 1, k + 1 + 1 + 1 + 1 + 1 + 1 + 1 + 1 + 1 + 1 + 1 + 1 + 1⟩, k + 1 + 1 + 1 + 1 + 1 + 1 + 1 + 1 + 1 + 1 + 1 + 1 + 1 + 1, k + 1 + 1 + 1 + 1 + 1 + 1 + 1 + 1 + 1 + 1 + 1 + 1 + 1 + 1 + 1, ((k + 1 + 1 + 1 + 1 + 1 + 1 + 1 + 1 + 1 + 1 + 1 + 1 + 1 + 1 + 1 + 1).tmod 3 == 0), k + 1 + 1 + 1 + 1 + 1 + 1 + 1 + 1 + 1 + 1 + 1 + 1 + 1 + 1 + 1 + 1 + 1, markT (k + 1 + 1 + 1 + 1 + 1 + 1 + 1 + 1 + 1 + 1 + 1 + 1 + 1 + 1 + 1 + 1 + 1 + 1)⟩
theorem lawsX_markLetterS (l : List LetterD) (k0 : Int) (hl : l.length ≤ 16777216) (h0 : 0 ≤ k0) (h1 : k0 ≤ 1099511627776) : CallA Tryz.prog 63 [.sc (.sl 0 0 l.length), .sc (.int .i64 k0)] [some ⟨l.map LetterD.cs, 19, 70, true, true⟩] (.sc (.int .i64 (k0 + 19 * (l.length : Int)))) [some ⟨(gen mkLetter 19 k0 l.length).map LetterD.cs, 19, 70, true, true⟩] := by
 refine qE Tryz.func63 Tryz.ntmps63 Tryz.results63 fun E hE => ?_
 refine den_lp 1 hE (fun s (x : Nat × Int × List LetterD) => s.at [6, 7, 8, 9, 10, 11, 12, 13, 14, 15, 16, 17, 18, 19, 20, 21, 22, 23, 24, 25, 26, 27, 28, 29, 30, 31, 32, 33, 34, 35, 36, 37, 38, 39, 40, 41, 42, 43, 44, 45, 46, 47, 48, 49, 50, 51, 52, 53, 54, 55, 56, 57, 58, 59, 60, 61, 62, 63, 64, 65, 66, 67, 68, 69, 70, 71, 72, 73, 74, 75, 76, 77, 78, 79, 80, 81, 82, 83, 84, 85, 86, 87, 88, 89, 90, 91, 92, 93, 94, 95, 96, 97, 98, 99, 100, 101, 102, 103, 104, 105, 106, 107, 108, 109, 110, 111, 112, 113, 114, 115, 116, 117, 118, 119, 120, 121, 122, 123, 124, 125, 126, 127, 128, 129, 130, 131, 132, 133, 134, 135, 136, 137, 138, 139, 140, 141, 142, 143, 144, 145, 146, 147, 148, 149, 150, 151, 152] [(5, .sc (.int .i64 (x.1 : Nat))), (1, .sc (.int .i64 x.2.1))] ([some ⟨x.2.2.map LetterD.cs, 19, 70, true, true⟩])) (fun (x : Nat × Int × List LetterD) => x.1 ≤ l.length ∧ x.2.2.length = l.length ∧ x.2.1 = k0 + 19 * (x.1 : Int) ∧ x.2.2.take x.1 = gen mkLetter 19 k0 x.1) (fun (x : Nat × Int × List LetterD) => l.length - x.1) (0, k0, l) (qA [0]) (qC) (⟨Nat.zero_le _, rfl, by simp, rfl⟩) (weak_mk (by rfl) (by rfl) ?_) fun x hx N hN => ?_
 ·exact qY
 ·obtain ⟨i, k, m⟩ := x
  obtain ⟨hx1, hx2, hx3, hx4⟩ := hx
  dsimp only at hx1 hx2 hx3 hx4
  refine qR ?_
  refine qB (fun h => ?_) fun h => ?_
  ·have hi : i < m.length := by omega
   try simp (disch := omega) only [go_sem, Nat.reduceEqDiff, Nat.reduceAdd, Nat.reduceSub, Int.reduceAdd, Int.reduceSub, Int.reduceToNat, map_get hi, strs_get hi]
   refine qK (laws_markText (k + 1 + 1 + 1 + 1 + 1 + 1 + 1 + 1 + 1 + 1 + 1 + 1 + 1 + 1 + 1 + 1 + 1 + 1) (by omega)) [] ?_
   have ht := take_set' hi (mkLetter k)
   rw [hx4, hx3, ← gen_succ, ← hx3] at ht
   refine ⟨qC, hN _ (i + 1, k + 1 + 1 + 1 + 1 + 1 + 1 + 1 + 1 + 1 + 1 + 1 + 1 + 1 + 1 + 1 + 1 + 1 + 1 + 1, m.set i (mkLetter k)) (qA [0]) (by (try dsimp only); exact ⟨by omega, by simp; omega, by omega, ht⟩) (by (try dsimp only); omega) (weak_mk (by rfl) (by rfl) ?_)⟩
   try simp (disch := omega) only [go_sem, Nat.reduceEqDiff, Nat.reduceAdd, Nat.reduceSub, Int.reduceAdd, Int.reduceSub, Int.reduceToNat]
   try exact ⟨by omega, map_set' rfl⟩
   try exact map_set' rfl
  ·have e : i = l.length := by omega
   subst e
   rw [List.take_of_length_le (by omega)] at hx4
   subst hx4
   refine den_fin (qA [0]) (qC) _ (by simp only [go_sem]; rfl) (by rfl) (by rfl) ?_
   simp (disch := omega) only [go_sem, Nat.reduceEqDiff, Nat.reduceAdd, Nat.reduceSub, Int.reduceAdd, Int.reduceSub, Int.reduceToNat]
   try exact hx3
   try exact ⟨hx3, rfl⟩
theorem lawsX_heldLetterS (k0 : Int) (n : Nat) (hl : n ≤ 16777216) (h0 : 0 ≤ k0) (h1 : k0 ≤ 1099511627776) : CallA Tryz.prog 66 [.sc (.sl 0 0 n), .sc (.int .i64 k0)] [some ⟨(gen mkLetter 19 k0 n).map LetterD.cs, 19, 70, false, true⟩] (.sc (.int .i64 (k0 + 19 * (n : Int)))) [some ⟨(gen mkLetter 19 k0 n).map LetterD.cs, 19, 70, false, true⟩] := by
 have hg : (gen mkLetter 19 k0 n).length = n := gen_length
 refine qE Tryz.func66 Tryz.ntmps66 Tryz.results66 fun E hE => ?_
 refine den_lp 1 hE (fun s (x : Nat × Int) => s.at [4, 6, 7, 8, 9, 10, 11, 12, 13, 14, 15, 16, 17, 18, 19, 20, 21, 22, 23, 24, 25, 26, 27, 28, 29, 30, 31, 32, 33, 34, 35, 36, 37, 38, 39, 40, 41, 42, 43, 44, 45, 46, 47, 48, 49, 50, 51, 52, 53, 54, 55, 56, 57, 58, 59, 60, 61, 62, 63, 64, 65, 66, 67, 68, 69, 70, 71, 72, 73, 74, 75, 76, 77, 78, 79, 80, 81, 82, 83, 84, 85, 86, 87, 88, 89, 90, 91, 92, 93, 94, 95, 96, 97, 98, 99, 100, 101, 102, 103, 104, 105, 106, 107, 108, 109, 110, 111, 112, 113, 114, 115, 116, 117, 118, 119, 120, 121, 122, 123, 124, 125, 126, 127, 128, 129, 130, 131, 132, 133, 134, 135, 136, 137, 138, 139, 140, 141, 142, 143, 144, 145, 146, 147, 148, 149, 150, 151, 152, 153, 154, 155, 156, 157, 158, 159, 160, 161, 162, 163, 164, 165, 166, 167, 168, 169, 170, 171, 172, 173, 174, 175, 176, 177, 178, 179, 180, 181, 182, 183, 184, 185, 186, 187, 188, 189, 190] [(5, .sc (.int .i64 (x.1 : Nat))), (1, .sc (.int .i64 x.2))] (s.hp)) (fun (x : Nat × Int) => x.1 ≤ n ∧ x.2 = k0 + 19 * (x.1 : Int)) (fun (x : Nat × Int) => n - x.1) (0, k0) (qA [0]) (qC) (⟨Nat.zero_le _, by simp⟩) (weak_mk (by rfl) (by rfl) ?_) fun x hx N hN => ?_
 ·exact qY
 ·obtain ⟨i, k⟩ := x
  obtain ⟨hx1, hx3⟩ := hx
  dsimp only at hx1 hx3
  refine qR ?_
  refine qB (fun h => ?_) fun h => ?_
  ·have hi : i < (gen mkLetter 19 k0 n).length := by omega
   have he := gen_get hi
   rw [← hx3] at he
   try simp (disch := omega) only [go_sem, Nat.reduceEqDiff, Nat.reduceAdd, Nat.reduceSub, Int.reduceAdd, Int.reduceSub, Int.reduceToNat, map_get hi, he, mkLetter]
   refine qD [0, 1, 2, 3, 4, 5, 6, 7] ?_
   try simp (disch := omega) only [go_sem, Nat.reduceEqDiff, Nat.reduceAdd, Nat.reduceSub, Int.reduceAdd, Int.reduceSub, Int.reduceToNat, map_get hi, he, mkLetter]
   refine qKD (laws_markText (k + 1 + 1 + 1 + 1 + 1 + 1 + 1 + 1 + 1 + 1 + 1 + 1 + 1 + 1 + 1 + 1 + 1 + 1) (by omega)) [] ?_
   refine ⟨qC, run_den 400 ?_⟩
   try simp (disch := omega) only [go_sem, Nat.reduceEqDiff, Nat.reduceAdd, Nat.reduceSub, Int.reduceAdd, Int.reduceSub, Int.reduceToNat, mkLetter, beq_self_eq_true]
   refine ⟨qC, hN _ (i + 1, k + 1 + 1 + 1 + 1 + 1 + 1 + 1 + 1 + 1 + 1 + 1 + 1 + 1 + 1 + 1 + 1 + 1 + 1 + 1) (qA [0]) (by (try dsimp only); exact ⟨by omega, by omega⟩) (by (try dsimp only); omega) (weak_mk (by rfl) (by rfl) ?_)⟩
   try simp (disch := omega) only [go_sem, Nat.reduceEqDiff, Nat.reduceAdd, Nat.reduceSub, Int.reduceAdd, Int.reduceSub, Int.reduceToNat]
   try omega
  ·have e : i = n := by omega
   subst e
   refine den_fin (qA [0]) (qC) _ (by simp only [go_sem]; rfl) (by rfl) (by rfl) ?_
   simp (disch := omega) only [go_sem, Nat.reduceEqDiff, Nat.reduceAdd, Nat.reduceSub, Int.reduceAdd, Int.reduceSub, Int.reduceToNat]
   try exact hx3
def mkSub (k : Int) : SubD := ⟨⟨k, k + 1, k + 1 + 1⟩, k + 1 + 1 + 1, ((k + 1 + 1 + 1 + 1).tmod 3 == 0), k + 1 + 1 + 1 + 1 + 1, k + 1 + 1 + 1 + 1 + 1 + 1, k + 1 + 1 + 1 + 1 + 1 + 1 + 1, k + 1 + 1 + 1 + 1 + 1 + 1 + 1 + 1, k + 1 + 1 + 1 + 1 + 1 + 1 + 1 + 1 + 1⟩
theorem lawsX_markSubS (l : List SubD) (k0 : Int) (hl : l.length ≤ 16777216) (h0 : 0 ≤ k0) (h1 : k0 ≤ 1099511627776) : CallA Tryz.prog 147 [.sc (.sl 0 0 l.length), .sc (.int .i64 k0)] [some ⟨l.map SubD.cs, 10, 202, true, true⟩] (.sc (.int .i64 (k0 + 10 * (l.length : Int)))) [some ⟨(gen mkSub 10 k0 l.length).map SubD.cs, 10, 202, true, true⟩] := by
 refine qE Tryz.func147 Tryz.ntmps147 Tryz.results147 fun E hE => ?_
 refine den_lp 1 hE (fun s (x : Nat × Int × List SubD) => s.at [6, 7, 8, 9, 10, 11, 12, 13, 14, 15, 16, 17, 18, 19, 20, 21, 22, 23, 24, 25, 26, 27, 28, 29, 30, 31, 32, 33, 34, 35, 36, 37, 38, 39, 40, 41, 42, 43, 44, 45, 46, 47, 48, 49, 50, 51, 52, 53, 54, 55, 56, 57, 58, 59, 60, 61, 62, 63, 64, 65, 66, 67, 68, 69, 70, 71, 72, 73, 74, 75, 76, 77, 78, 79, 80, 81, 82, 83, 84, 85, 86] [(5, .sc (.int .i64 (x.1 : Nat))), (1, .sc (.int .i64 x.2.1))] ([some ⟨x.2.2.map SubD.cs, 10, 202, true, true⟩])) (fun (x : Nat × Int × List SubD) => x.1 ≤ l.length ∧ x.2.2.length = l.length ∧ x.2.1 = k0 + 10 * (x.1 : Int) ∧ x.2.2.take x.1 = gen mkSub 10 k0 x.1) (fun (x : Nat × Int × List SubD) => l.length - x.1) (0, k0, l) (qA [0]) (qC) (⟨Nat.zero_le _, rfl, by simp, rfl⟩) (weak_mk (by rfl) (by rfl) ?_) fun x hx N hN => ?_
 ·exact qY
 ·obtain ⟨i, k, m⟩ := x
  obtain ⟨hx1, hx2, hx3, hx4⟩ := hx
  dsimp only at hx1 hx2 hx3 hx4
  refine qR ?_
  refine qB (fun h => ?_) fun h => ?_
  ·have hi : i < m.length := by omega
   try simp (disch := omega) only [go_sem, Nat.reduceEqDiff, Nat.reduceAdd, Nat.reduceSub, Int.reduceAdd, Int.reduceSub, Int.reduceToNat, map_get hi, strs_get hi]
   have ht := take_set' hi (mkSub k)
   rw [hx4, hx3, ← gen_succ, ← hx3] at ht
   refine ⟨qC, hN _ (i + 1, k + 1 + 1 + 1 + 1 + 1 + 1 + 1 + 1 + 1 + 1, m.set i (mkSub k)) (qA [0]) (by (try dsimp only); exact ⟨by omega, by simp; omega, by omega, ht⟩) (by (try dsimp only); omega) (weak_mk (by rfl) (by rfl) ?_)⟩
   try simp (disch := omega) only [go_sem, Nat.reduceEqDiff, Nat.reduceAdd, Nat.reduceSub, Int.reduceAdd, Int.reduceSub, Int.reduceToNat]
   try exact ⟨by omega, map_set' rfl⟩
   try exact map_set' rfl
  ·have e : i = l.length := by omega
   subst e
   rw [List.take_of_length_le (by omega)] at hx4
   subst hx4
   refine den_fin (qA [0]) (qC) _ (by simp only [go_sem]; rfl) (by rfl) (by rfl) ?_
   simp (disch := omega) only [go_sem, Nat.reduceEqDiff, Nat.reduceAdd, Nat.reduceSub, Int.reduceAdd, Int.reduceSub, Int.reduceToNat]
   try exact hx3
   try exact ⟨hx3, rfl⟩
theorem lawsX_heldSubS (k0 : Int) (n : Nat) (hl : n ≤ 16777216) (h0 : 0 ≤ k0) (h1 : k0 ≤ 1099511627776) : CallA Tryz.prog 152 [.sc (.sl 0 0 n), .sc (.int .i64 k0)] [some ⟨(gen mkSub 10 k0 n).map SubD.cs, 10, 202, false, true⟩] (.sc (.int .i64 (k0 + 10 * (n : Int)))) [some ⟨(gen mkSub 10 k0 n).map SubD.cs, 10, 202, false, true⟩] := by
 have hg : (gen mkSub 10 k0 n).length = n := gen_length
 refine qE Tryz.func152 Tryz.ntmps152 Tryz.results152 fun E hE => ?_
 refine den_lp 1 hE (fun s (x : Nat × Int) => s.at [4, 6, 7, 8, 9, 10, 11, 12, 13, 14, 15, 16, 17, 18, 19, 20, 21, 22, 23, 24, 25, 26, 27, 28, 29, 30, 31, 32, 33, 34, 35, 36, 37, 38, 39, 40, 41, 42, 43, 44, 45, 46, 47, 48, 49, 50, 51, 52, 53, 54, 55, 56, 57, 58, 59, 60, 61, 62, 63, 64, 65, 66, 67, 68, 69, 70, 71, 72, 73, 74, 75, 76, 77, 78, 79, 80, 81, 82, 83, 84, 85, 86, 87, 88, 89, 90, 91, 92, 93, 94, 95, 96, 97, 98, 99, 100, 101, 102, 103, 104, 105, 106] [(5, .sc (.int .i64 (x.1 : Nat))), (1, .sc (.int .i64 x.2))] (s.hp)) (fun (x : Nat × Int) => x.1 ≤ n ∧ x.2 = k0 + 10 * (x.1 : Int)) (fun (x : Nat × Int) => n - x.1) (0, k0) (qA [0]) (qC) (⟨Nat.zero_le _, by simp⟩) (weak_mk (by rfl) (by rfl) ?_) fun x hx N hN => ?_
 ·exact qY
 ·obtain ⟨i, k⟩ := x
  obtain ⟨hx1, hx3⟩ := hx
  dsimp only at hx1 hx3
  refine qR ?_
  refine qB (fun h => ?_) fun h => ?_
  ·have hi : i < (gen mkSub 10 k0 n).length := by omega
   have he := gen_get hi
   rw [← hx3] at he
   try simp (disch := omega) only [go_sem, Nat.reduceEqDiff, Nat.reduceAdd, Nat.reduceSub, Int.reduceAdd, Int.reduceSub, Int.reduceToNat, map_get hi, he, mkSub]
   refine ⟨qC, hN _ (i + 1, k + 1 + 1 + 1 + 1 + 1 + 1 + 1 + 1 + 1 + 1) (qA [0]) (by (try dsimp only); exact ⟨by omega, by omega⟩) (by (try dsimp only); omega) (weak_mk (by rfl) (by rfl) ?_)⟩
   try simp (disch := omega) only [go_sem, Nat.reduceEqDiff, Nat.reduceAdd, Nat.reduceSub, Int.reduceAdd, Int.reduceSub, Int.reduceToNat]
   try omega
  ·have e : i = n := by omega
   subst e
   refine den_fin (qA [0]) (qC) _ (by simp only [go_sem]; rfl) (by rfl) (by rfl) ?_
   simp (disch := omega) only [go_sem, Nat.reduceEqDiff, Nat.reduceAdd, Nat.reduceSub, Int.reduceAdd, Int.reduceSub, Int.reduceToNat]
   try exact hx3
def mkPiece (k : Int) : PieceD := ⟨k, markT (k + 1)⟩
theorem lawsX_markPieceS (l : List PieceD) (k0 : Int) (hl : l.length ≤ 16777216) (h0 : 0 ≤ k0) (h1 : k0 ≤ 1099511627776) : CallA Tryz.prog 270 [.sc (.sl 0 0 l.length), .sc (.int .i64 k0)] [some ⟨l.map PieceD.cs, 2, 272, true, true⟩] (.sc (.int .i64 (k0 + 2 * (l.length : Int)))) [some ⟨(gen mkPiece 2 k0 l.length).map PieceD.cs, 2, 272, true, true⟩] := by
 refine qE Tryz.func270 Tryz.ntmps270 Tryz.results270 fun E hE => ?_
 refine den_lp 1 hE (fun s (x : Nat × Int × List PieceD) => s.at [6, 7, 8, 9, 10, 11, 12, 13, 14, 15, 16, 17, 18, 19, 20, 21, 22, 23, 24, 25, 26] [(5, .sc (.int .i64 (x.1 : Nat))), (1, .sc (.int .i64 x.2.1))] ([some ⟨x.2.2.map PieceD.cs, 2, 272, true, true⟩])) (fun (x : Nat × Int × List PieceD) => x.1 ≤ l.length ∧ x.2.2.length = l.length ∧ x.2.1 = k0 + 2 * (x.1 : Int) ∧ x.2.2.take x.1 = gen mkPiece 2 k0 x.1) (fun (x : Nat × Int × List PieceD) => l.length - x.1) (0, k0, l) (qA [0]) (qC) (⟨Nat.zero_le _, rfl, by simp, rfl⟩) (weak_mk (by rfl) (by rfl) ?_) fun x hx N hN => ?_
 ·exact qY
 ·obtain ⟨i, k, m⟩ := x
  obtain ⟨hx1, hx2, hx3, hx4⟩ := hx
  dsimp only at hx1 hx2 hx3 hx4
  refine qR ?_
  refine qB (fun h => ?_) fun h => ?_
  ·have hi : i < m.length := by omega
   try simp (disch := omega) only [go_sem, Nat.reduceEqDiff, Nat.reduceAdd, Nat.reduceSub, Int.reduceAdd, Int.reduceSub, Int.reduceToNat, map_get hi, strs_get hi]
   refine qK (laws_markText (k + 1) (by omega)) [] ?_
   have ht := take_set' hi (mkPiece k)
   rw [hx4, hx3, ← gen_succ, ← hx3] at ht
   refine ⟨qC, hN _ (i + 1, k + 1 + 1, m.set i (mkPiece k)) (qA [0]) (by (try dsimp only); exact ⟨by omega, by simp; omega, by omega, ht⟩) (by (try dsimp only); omega) (weak_mk (by rfl) (by rfl) ?_)⟩
   try simp (disch := omega) only [go_sem, Nat.reduceEqDiff, Nat.reduceAdd, Nat.reduceSub, Int.reduceAdd, Int.reduceSub, Int.reduceToNat]
   try exact ⟨by omega, map_set' rfl⟩
   try exact map_set' rfl
  ·have e : i = l.length := by omega
   subst e
   rw [List.take_of_length_le (by omega)] at hx4
   subst hx4
   refine den_fin (qA [0]) (qC) _ (by simp only [go_sem]; rfl) (by rfl) (by rfl) ?_
   simp (disch := omega) only [go_sem, Nat.reduceEqDiff, Nat.reduceAdd, Nat.reduceSub, Int.reduceAdd, Int.reduceSub, Int.reduceToNat]
   try exact hx3
   try exact ⟨hx3, rfl⟩
theorem lawsX_heldPieceS (k0 : Int) (n : Nat) (hl : n ≤ 16777216) (h0 : 0 ≤ k0) (h1 : k0 ≤ 1099511627776) : CallA Tryz.prog 271 [.sc (.sl 0 0 n), .sc (.int .i64 k0)] [some ⟨(gen mkPiece 2 k0 n).map PieceD.cs, 2, 272, false, true⟩] (.sc (.int .i64 (k0 + 2 * (n : Int)))) [some ⟨(gen mkPiece 2 k0 n).map PieceD.cs, 2, 272, false, true⟩] := by
 have hg : (gen mkPiece 2 k0 n).length = n := gen_length
 refine qE Tryz.func271 Tryz.ntmps271 Tryz.results271 fun E hE => ?_
 refine den_lp 1 hE (fun s (x : Nat × Int) => s.at [4, 6, 7, 8, 9, 10, 11, 12, 13, 14, 15, 16, 17, 18, 19, 20, 21, 22, 23, 24, 25, 26, 27, 28, 29, 30] [(5, .sc (.int .i64 (x.1 : Nat))), (1, .sc (.int .i64 x.2))] (s.hp)) (fun (x : Nat × Int) => x.1 ≤ n ∧ x.2 = k0 + 2 * (x.1 : Int)) (fun (x : Nat × Int) => n - x.1) (0, k0) (qA [0]) (qC) (⟨Nat.zero_le _, by simp⟩) (weak_mk (by rfl) (by rfl) ?_) fun x hx N hN => ?_
 ·exact qY
 ·obtain ⟨i, k⟩ := x
  obtain ⟨hx1, hx3⟩ := hx
  dsimp only at hx1 hx3
  refine qR ?_
  refine qB (fun h => ?_) fun h => ?_
  ·have hi : i < (gen mkPiece 2 k0 n).length := by omega
   have he := gen_get hi
   rw [← hx3] at he
   try simp (disch := omega) only [go_sem, Nat.reduceEqDiff, Nat.reduceAdd, Nat.reduceSub, Int.reduceAdd, Int.reduceSub, Int.reduceToNat, map_get hi, he, mkPiece]
   refine qD [0, 1, 2, 3, 4, 5, 6, 7] ?_
   try simp (disch := omega) only [go_sem, Nat.reduceEqDiff, Nat.reduceAdd, Nat.reduceSub, Int.reduceAdd, Int.reduceSub, Int.reduceToNat, map_get hi, he, mkPiece]
   refine qKD (laws_markText (k + 1) (by omega)) [] ?_
   refine ⟨qC, run_den 400 ?_⟩
   try simp (disch := omega) only [go_sem, Nat.reduceEqDiff, Nat.reduceAdd, Nat.reduceSub, Int.reduceAdd, Int.reduceSub, Int.reduceToNat, mkPiece, beq_self_eq_true]
   refine ⟨qC, hN _ (i + 1, k + 1 + 1) (qA [0]) (by (try dsimp only); exact ⟨by omega, by omega⟩) (by (try dsimp only); omega) (weak_mk (by rfl) (by rfl) ?_)⟩
   try simp (disch := omega) only [go_sem, Nat.reduceEqDiff, Nat.reduceAdd, Nat.reduceSub, Int.reduceAdd, Int.reduceSub, Int.reduceToNat]
   try omega
  ·have e : i = n := by omega
   subst e
   refine den_fin (qA [0]) (qC) _ (by simp only [go_sem]; rfl) (by rfl) (by rfl) ?_
   simp (disch := omega) only [go_sem, Nat.reduceEqDiff, Nat.reduceAdd, Nat.reduceSub, Int.reduceAdd, Int.reduceSub, Int.reduceToNat]
   try exact hx3
def PiecesD.cnt (x : PiecesD) : Int := 2 * (x.list.length : Int)
def markedPieces (x : PiecesD) (k : Int) : PiecesD := { x with list := gen mkPiece 2 (k) x.list.length }
theorem PiecesD.cnt_le (x : PiecesD) (l0 : x.list.length ≤ 1048576) : 0 ≤ x.cnt ∧ x.cnt ≤ 39845888 := by
 unfold PiecesD.cnt
 omega
theorem lawsX_markPieces (x : PiecesD) (k0 : Int) (l0 : x.list.length ≤ 1048576) (h0 : 0 ≤ k0) (h1 : k0 ≤ 549755813888) : CallA Tryz.prog 149 [.ag (x.cs 0), .sc (.int .i64 k0)] (x.hp true) (.sc (.int .i64 (k0 + x.cnt))) ((markedPieces x k0).hp true) := by
 simp only [markedPieces]
 refine qE Tryz.func149 Tryz.ntmps149 Tryz.results149 fun E hE => ?_
 refine qK (lawsX_markPieceS x.list (k0) (by omega) (by omega) (by omega)) (qA [0]) ?_
 refine den_fin (qA [0]) (qC) _ (by simp only [go_sem]; rfl) (by rfl) (by rfl) ?_
 simp (disch := omega) only [go_sem, Nat.reduceEqDiff, Nat.reduceAdd, Nat.reduceSub, Int.reduceAdd, Int.reduceSub, Int.reduceToNat]
 try simp only [PiecesD.cnt]
 try omega
theorem lawsX_heldPieces (x : PiecesD) (k0 : Int) (l0 : x.list.length ≤ 1048576) (h0 : 0 ≤ k0) (h1 : k0 ≤ 549755813888) : CallA Tryz.prog 154 [.ag ((markedPieces x k0).cs 0), .sc (.int .i64 k0)] ((markedPieces x k0).hp false) (.sc (.int .i64 (k0 + x.cnt))) ((markedPieces x k0).hp false) := by
 simp only [markedPieces]
 refine qE Tryz.func154 Tryz.ntmps154 Tryz.results154 fun E hE => ?_
 refine qK (lawsX_heldPieceS (k0) x.list.length (by omega) (by omega) (by omega)) (qA [0]) ?_
 refine den_fin (qA [0]) (qC) _ (by simp only [go_sem]; rfl) (by rfl) (by rfl) ?_
 simp (disch := omega) only [go_sem, Nat.reduceEqDiff, Nat.reduceAdd, Nat.reduceSub, Int.reduceAdd, Int.reduceSub, Int.reduceToNat]
 try simp only [PiecesD.cnt]
 try omega
def KnownD.cnt (x : KnownD) : Int := 1 * (x.keys.length : Int) + 5 * (x.tags.length : Int)
def markedKnown (x : KnownD) (k : Int) : KnownD := { x with keys := gen mkInt 1 (k) x.keys.length, tags := gen mkTag 5 (k + 1 * (x.keys.length : Int)) x.tags.length }
theorem KnownD.cnt_le (x : KnownD) (l0 : x.keys.length ≤ 1048576) (l1 : x.tags.length ≤ 1048576) : 0 ≤ x.cnt ∧ x.cnt ≤ 79691776 := by
 unfold KnownD.cnt
 omega
theorem lawsX_markKnown (x : KnownD) (k0 : Int) (l0 : x.keys.length ≤ 1048576) (l1 : x.tags.length ≤ 1048576) (h0 : 0 ≤ k0) (h1 : k0 ≤ 549755813888) : CallA Tryz.prog 64 [.ag (x.cs 0), .sc (.int .i64 k0)] (x.hp true) (.sc (.int .i64 (k0 + x.cnt))) ((markedKnown x k0).hp true) := by
 simp only [markedKnown]
 refine qE Tryz.func64 Tryz.ntmps64 Tryz.results64 fun E hE => ?_
 refine qK (laws_markIntS x.keys (k0) (by omega) (by omega) (by omega)) (qA [0]) ?_
 refine qK (lawsX_markTagS x.tags (k0 + 1 * (x.keys.length : Int)) (by omega) (by omega) (by omega)) (qA [1]) ?_
 refine den_fin (qA [0, 1]) (qC) _ (by simp only [go_sem]; rfl) (by rfl) (by rfl) ?_
 simp (disch := omega) only [go_sem, Nat.reduceEqDiff, Nat.reduceAdd, Nat.reduceSub, Int.reduceAdd, Int.reduceSub, Int.reduceToNat]
 try simp only [KnownD.cnt]
 try omega
theorem lawsX_heldKnown (x : KnownD) (k0 : Int) (l0 : x.keys.length ≤ 1048576) (l1 : x.tags.length ≤ 1048576) (h0 : 0 ≤ k0) (h1 : k0 ≤ 549755813888) : CallA Tryz.prog 67 [.ag ((markedKnown x k0).cs 0), .sc (.int .i64 k0)] ((markedKnown x k0).hp false) (.sc (.int .i64 (k0 + x.cnt))) ((markedKnown x k0).hp false) := by
 simp only [markedKnown]
 refine qE Tryz.func67 Tryz.ntmps67 Tryz.results67 fun E hE => ?_
 refine qK (laws_heldIntS (k0) x.keys.length (by omega) (by omega) (by omega)) (qA [0]) ?_
 refine qK (lawsX_heldTagS (k0 + 1 * (x.keys.length : Int)) x.tags.length (by omega) (by omega) (by omega)) (qA [1]) ?_
 refine den_fin (qA [0, 1]) (qC) _ (by simp only [go_sem]; rfl) (by rfl) (by rfl) ?_
 simp (disch := omega) only [go_sem, Nat.reduceEqDiff, Nat.reduceAdd, Nat.reduceSub, Int.reduceAdd, Int.reduceSub, Int.reduceToNat]
 try simp only [KnownD.cnt]
 try omega
def EndD.cnt (x : EndD) : Int := 4 * (x.own.length : Int) + 4 * (x.far.length : Int) + 10 * (x.subs.length : Int) + 8 * (x.halfs.length : Int) + PiecesD.cnt x.inp + 1 * (x.done.length : Int) + 1 * (x.over.length : Int)
def markedEnd (x : EndD) (k : Int) : EndD := { x with own := gen mkAddr 4 (k) x.own.length, far := gen mkAddr 4 (k + 4 * (x.own.length : Int)) x.far.length, subs := gen mkSub 10 (k + 4 * (x.own.length : Int) + 4 * (x.far.length : Int)) x.subs.length, halfs := gen mkHalf 8 (k + 4 * (x.own.length : Int) + 4 * (x.far.length : Int) + 10 * (x.subs.length : Int)) x.halfs.length, inp := markedPieces x.inp (k + 4 * (x.own.length : Int) + 4 * (x.far.length : Int) + 10 * (x.subs.length : Int) + 8 * (x.halfs.length : Int)), done := gen mkInt 1 (k + 4 * (x.own.length : Int) + 4 * (x.far.length : Int) + 10 * (x.subs.length : Int) + 8 * (x.halfs.length : Int) + PiecesD.cnt x.inp) x.done.length, over := gen mkInt 1 (k + 4 * (x.own.length : Int) + 4 * (x.far.length : Int) + 10 * (x.subs.length : Int) + 8 * (x.halfs.length : Int) + PiecesD.cnt x.inp + 1 * (x.done.length : Int)) x.over.length }
theorem EndD.cnt_le (x : EndD) (l0 : x.own.length ≤ 1048576) (l1 : x.far.length ≤ 1048576) (l2 : x.subs.length ≤ 1048576) (l3 : x.halfs.length ≤ 1048576) (l4 : x.inp.list.length ≤ 1048576) (l5 : x.done.length ≤ 1048576) (l6 : x.over.length ≤ 1048576) : 0 ≤ x.cnt ∧ x.cnt ≤ 278921216 := by
 have := PiecesD.cnt_le x.inp l4
 unfold EndD.cnt
 omega
theorem lawsX_markEnd (x : EndD) (k0 : Int) (l0 : x.own.length ≤ 1048576) (l1 : x.far.length ≤ 1048576) (l2 : x.subs.length ≤ 1048576) (l3 : x.halfs.length ≤ 1048576) (l4 : x.inp.list.length ≤ 1048576) (l5 : x.done.length ≤ 1048576) (l6 : x.over.length ≤ 1048576) (h0 : 0 ≤ k0) (h1 : k0 ≤ 274877906944) : CallA Tryz.prog 62 [.ag (x.cs 0), .sc (.int .i64 k0)] (x.hp true) (.sc (.int .i64 (k0 + x.cnt))) ((markedEnd x k0).hp true) := by
 have c_inp := PiecesD.cnt_le x.inp l4
 simp only [markedEnd]
 refine qE Tryz.func62 Tryz.ntmps62 Tryz.results62 fun E hE => ?_
 refine qK (lawsX_markAddrS x.own (k0) (by omega) (by omega) (by omega)) (qA [0]) ?_
 refine qK (lawsX_markAddrS x.far (k0 + 4 * (x.own.length : Int)) (by omega) (by omega) (by omega)) (qA [1]) ?_
 refine qK (lawsX_markSubS x.subs (k0 + 4 * (x.own.length : Int) + 4 * (x.far.length : Int)) (by omega) (by omega) (by omega)) (qA [2]) ?_
 refine qK (lawsX_markHalfS x.halfs (k0 + 4 * (x.own.length : Int) + 4 * (x.far.length : Int) + 10 * (x.subs.length : Int)) (by omega) (by omega) (by omega)) (qA [3]) ?_
 refine qK (lawsX_markPieces x.inp (k0 + 4 * (x.own.length : Int) + 4 * (x.far.length : Int) + 10 * (x.subs.length : Int) + 8 * (x.halfs.length : Int)) l4 (by omega) (by omega)) (qA [4]) ?_
 refine qK (laws_markIntS x.done (k0 + 4 * (x.own.length : Int) + 4 * (x.far.length : Int) + 10 * (x.subs.length : Int) + 8 * (x.halfs.length : Int) + PiecesD.cnt x.inp) (by omega) (by omega) (by omega)) (qA [5]) ?_
 refine qK (laws_markIntS x.over (k0 + 4 * (x.own.length : Int) + 4 * (x.far.length : Int) + 10 * (x.subs.length : Int) + 8 * (x.halfs.length : Int) + PiecesD.cnt x.inp + 1 * (x.done.length : Int)) (by omega) (by omega) (by omega)) (qA [6]) ?_
 refine den_fin (qA [0, 1, 2, 3, 4, 5, 6]) (qC) _ (by simp only [go_sem]; rfl) (by rfl) (by rfl) ?_
 simp (disch := omega) only [go_sem, Nat.reduceEqDiff, Nat.reduceAdd, Nat.reduceSub, Int.reduceAdd, Int.reduceSub, Int.reduceToNat]
 try simp only [EndD.cnt]
 try omega
theorem lawsX_heldEnd (x : EndD) (k0 : Int) (l0 : x.own.length ≤ 1048576) (l1 : x.far.length ≤ 1048576) (l2 : x.subs.length ≤ 1048576) (l3 : x.halfs.length ≤ 1048576) (l4 : x.inp.list.length ≤ 1048576) (l5 : x.done.length ≤ 1048576) (l6 : x.over.length ≤ 1048576) (h0 : 0 ≤ k0) (h1 : k0 ≤ 274877906944) : CallA Tryz.prog 65 [.ag ((markedEnd x k0).cs 0), .sc (.int .i64 k0)] ((markedEnd x k0).hp false) (.sc (.int .i64 (k0 + x.cnt))) ((markedEnd x k0).hp false) := by
 have c_inp := PiecesD.cnt_le x.inp l4
 simp only [markedEnd]
 refine qE Tryz.func65 Tryz.ntmps65 Tryz.results65 fun E hE => ?_
 refine qK (lawsX_heldAddrS (k0) x.own.length (by omega) (by omega) (by omega)) (qA [0]) ?_
 refine qK (lawsX_heldAddrS (k0 + 4 * (x.own.length : Int)) x.far.length (by omega) (by omega) (by omega)) (qA [1]) ?_
 refine qK (lawsX_heldSubS (k0 + 4 * (x.own.length : Int) + 4 * (x.far.length : Int)) x.subs.length (by omega) (by omega) (by omega)) (qA [2]) ?_
 refine qK (lawsX_heldHalfS (k0 + 4 * (x.own.length : Int) + 4 * (x.far.length : Int) + 10 * (x.subs.length : Int)) x.halfs.length (by omega) (by omega) (by omega)) (qA [3]) ?_
 refine qK (lawsX_heldPieces x.inp (k0 + 4 * (x.own.length : Int) + 4 * (x.far.length : Int) + 10 * (x.subs.length : Int) + 8 * (x.halfs.length : Int)) l4 (by omega) (by omega)) (qA [4]) ?_
 refine qK (laws_heldIntS (k0 + 4 * (x.own.length : Int) + 4 * (x.far.length : Int) + 10 * (x.subs.length : Int) + 8 * (x.halfs.length : Int) + PiecesD.cnt x.inp) x.done.length (by omega) (by omega) (by omega)) (qA [5]) ?_
 refine qK (laws_heldIntS (k0 + 4 * (x.own.length : Int) + 4 * (x.far.length : Int) + 10 * (x.subs.length : Int) + 8 * (x.halfs.length : Int) + PiecesD.cnt x.inp + 1 * (x.done.length : Int)) x.over.length (by omega) (by omega) (by omega)) (qA [6]) ?_
 refine den_fin (qA [0, 1, 2, 3, 4, 5, 6]) (qC) _ (by simp only [go_sem]; rfl) (by rfl) (by rfl) ?_
 simp (disch := omega) only [go_sem, Nat.reduceEqDiff, Nat.reduceAdd, Nat.reduceSub, Int.reduceAdd, Int.reduceSub, Int.reduceToNat]
 try simp only [EndD.cnt]
 try omega
def WorldD.cnt (x : WorldD) : Int := EndD.cnt x.a + EndD.cnt x.b + 19 * (x.bag.length : Int) + 19 * (x.past.length : Int) + KnownD.cnt x.known + 1 * (x.nums.length : Int) + 1 * (x.answersA.length : Int) + 1 * (x.answersB.length : Int)
def markedWorld (x : WorldD) (k : Int) : WorldD := { x with a := markedEnd x.a (k), b := markedEnd x.b (k + EndD.cnt x.a), bag := gen mkLetter 19 (k + EndD.cnt x.a + EndD.cnt x.b) x.bag.length, past := gen mkLetter 19 (k + EndD.cnt x.a + EndD.cnt x.b + 19 * (x.bag.length : Int)) x.past.length, known := markedKnown x.known (k + EndD.cnt x.a + EndD.cnt x.b + 19 * (x.bag.length : Int) + 19 * (x.past.length : Int)), nums := gen mkInt 1 (k + EndD.cnt x.a + EndD.cnt x.b + 19 * (x.bag.length : Int) + 19 * (x.past.length : Int) + KnownD.cnt x.known) x.nums.length, answersA := gen mkInt 1 (k + EndD.cnt x.a + EndD.cnt x.b + 19 * (x.bag.length : Int) + 19 * (x.past.length : Int) + KnownD.cnt x.known + 1 * (x.nums.length : Int)) x.answersA.length, answersB := gen mkInt 1 (k + EndD.cnt x.a + EndD.cnt x.b + 19 * (x.bag.length : Int) + 19 * (x.past.length : Int) + KnownD.cnt x.known + 1 * (x.nums.length : Int) + 1 * (x.answersA.length : Int)) x.answersB.length }
theorem WorldD.cnt_le (x : WorldD) (l0 : x.a.own.length ≤ 1048576) (l1 : x.a.far.length ≤ 1048576) (l2 : x.a.subs.length ≤ 1048576) (l3 : x.a.halfs.length ≤ 1048576) (l4 : x.a.inp.list.length ≤ 1048576) (l5 : x.a.done.length ≤ 1048576) (l6 : x.a.over.length ≤ 1048576) (l7 : x.b.own.length ≤ 1048576) (l8 : x.b.far.length ≤ 1048576) (l9 : x.b.subs.length ≤ 1048576) (l10 : x.b.halfs.length ≤ 1048576) (l11 : x.b.inp.list.length ≤ 1048576) (l12 : x.b.done.length ≤ 1048576) (l13 : x.b.over.length ≤ 1048576) (l14 : x.bag.length ≤ 1048576) (l15 : x.past.length ≤ 1048576) (l16 : x.known.keys.length ≤ 1048576) (l17 : x.known.tags.length ≤ 1048576) (l18 : x.nums.length ≤ 1048576) (l19 : x.answersA.length ≤ 1048576) (l20 : x.answersB.length ≤ 1048576) : 0 ≤ x.cnt ∧ x.cnt ≤ 836763648 := by
 have := EndD.cnt_le x.a l0 l1 l2 l3 l4 l5 l6
 have := EndD.cnt_le x.b l7 l8 l9 l10 l11 l12 l13
 have := KnownD.cnt_le x.known l16 l17
 unfold WorldD.cnt
 omega
theorem lawsX_markWorld (x : WorldD) (k0 : Int) (l0 : x.a.own.length ≤ 1048576) (l1 : x.a.far.length ≤ 1048576) (l2 : x.a.subs.length ≤ 1048576) (l3 : x.a.halfs.length ≤ 1048576) (l4 : x.a.inp.list.length ≤ 1048576) (l5 : x.a.done.length ≤ 1048576) (l6 : x.a.over.length ≤ 1048576) (l7 : x.b.own.length ≤ 1048576) (l8 : x.b.far.length ≤ 1048576) (l9 : x.b.subs.length ≤ 1048576) (l10 : x.b.halfs.length ≤ 1048576) (l11 : x.b.inp.list.length ≤ 1048576) (l12 : x.b.done.length ≤ 1048576) (l13 : x.b.over.length ≤ 1048576) (l14 : x.bag.length ≤ 1048576) (l15 : x.past.length ≤ 1048576) (l16 : x.known.keys.length ≤ 1048576) (l17 : x.known.tags.length ≤ 1048576) (l18 : x.nums.length ≤ 1048576) (l19 : x.answersA.length ≤ 1048576) (l20 : x.answersB.length ≤ 1048576) (h0 : 0 ≤ k0) (h1 : k0 ≤ 137438953472) : CallA Tryz.prog 16 [.ag (x.cs 0), .sc (.int .i64 k0)] (x.hp true) (.sc (.int .i64 (k0 + x.cnt))) ((markedWorld x k0).hp true) := by
 have c_a := EndD.cnt_le x.a l0 l1 l2 l3 l4 l5 l6
 have c_b := EndD.cnt_le x.b l7 l8 l9 l10 l11 l12 l13
 have c_known := KnownD.cnt_le x.known l16 l17
 simp only [markedWorld]
 refine qE Tryz.func16 Tryz.ntmps16 Tryz.results16 fun E hE => ?_
 refine qK (lawsX_markEnd x.a (k0) l0 l1 l2 l3 l4 l5 l6 (by omega) (by omega)) (qA [0, 1, 2, 3, 4, 5, 6]) ?_
 refine qK (lawsX_markEnd x.b (k0 + EndD.cnt x.a) l7 l8 l9 l10 l11 l12 l13 (by omega) (by omega)) (qA [7, 8, 9, 10, 11, 12, 13]) ?_
 refine qK (lawsX_markLetterS x.bag (k0 + EndD.cnt x.a + EndD.cnt x.b) (by omega) (by omega) (by omega)) (qA [14]) ?_
 refine qK (lawsX_markLetterS x.past (k0 + EndD.cnt x.a + EndD.cnt x.b + 19 * (x.bag.length : Int)) (by omega) (by omega) (by omega)) (qA [15]) ?_
 refine qK (lawsX_markKnown x.known (k0 + EndD.cnt x.a + EndD.cnt x.b + 19 * (x.bag.length : Int) + 19 * (x.past.length : Int)) l16 l17 (by omega) (by omega)) (qA [16, 17]) ?_
 refine qK (laws_markIntS x.nums (k0 + EndD.cnt x.a + EndD.cnt x.b + 19 * (x.bag.length : Int) + 19 * (x.past.length : Int) + KnownD.cnt x.known) (by omega) (by omega) (by omega)) (qA [18]) ?_
 refine qK (laws_markIntS x.answersA (k0 + EndD.cnt x.a + EndD.cnt x.b + 19 * (x.bag.length : Int) + 19 * (x.past.length : Int) + KnownD.cnt x.known + 1 * (x.nums.length : Int)) (by omega) (by omega) (by omega)) (qA [19]) ?_
 refine qK (laws_markIntS x.answersB (k0 + EndD.cnt x.a + EndD.cnt x.b + 19 * (x.bag.length : Int) + 19 * (x.past.length : Int) + KnownD.cnt x.known + 1 * (x.nums.length : Int) + 1 * (x.answersA.length : Int)) (by omega) (by omega) (by omega)) (qA [20]) ?_
 refine den_fin (qA [0, 1, 2, 3, 4, 5, 6, 7, 8, 9, 10, 11, 12, 13, 14, 15, 16, 17, 18, 19, 20]) (qC) _ (by simp only [go_sem]; rfl) (by rfl) (by rfl) ?_
 simp (disch := omega) only [go_sem, Nat.reduceEqDiff, Nat.reduceAdd, Nat.reduceSub, Int.reduceAdd, Int.reduceSub, Int.reduceToNat]
 try simp only [WorldD.cnt]
 try omega
theorem lawsX_heldWorld (x : WorldD) (k0 : Int) (l0 : x.a.own.length ≤ 1048576) (l1 : x.a.far.length ≤ 1048576) (l2 : x.a.subs.length ≤ 1048576) (l3 : x.a.halfs.length ≤ 1048576) (l4 : x.a.inp.list.length ≤ 1048576) (l5 : x.a.done.length ≤ 1048576) (l6 : x.a.over.length ≤ 1048576) (l7 : x.b.own.length ≤ 1048576) (l8 : x.b.far.length ≤ 1048576) (l9 : x.b.subs.length ≤ 1048576) (l10 : x.b.halfs.length ≤ 1048576) (l11 : x.b.inp.list.length ≤ 1048576) (l12 : x.b.done.length ≤ 1048576) (l13 : x.b.over.length ≤ 1048576) (l14 : x.bag.length ≤ 1048576) (l15 : x.past.length ≤ 1048576) (l16 : x.known.keys.length ≤ 1048576) (l17 : x.known.tags.length ≤ 1048576) (l18 : x.nums.length ≤ 1048576) (l19 : x.answersA.length ≤ 1048576) (l20 : x.answersB.length ≤ 1048576) (h0 : 0 ≤ k0) (h1 : k0 ≤ 137438953472) : CallA Tryz.prog 17 [.ag ((markedWorld x k0).cs 0), .sc (.int .i64 k0)] ((markedWorld x k0).hp false) (.sc (.int .i64 (k0 + x.cnt))) ((markedWorld x k0).hp false) := by
 have c_a := EndD.cnt_le x.a l0 l1 l2 l3 l4 l5 l6
 have c_b := EndD.cnt_le x.b l7 l8 l9 l10 l11 l12 l13
 have c_known := KnownD.cnt_le x.known l16 l17
 simp only [markedWorld]
 refine qE Tryz.func17 Tryz.ntmps17 Tryz.results17 fun E hE => ?_
 refine qK (lawsX_heldEnd x.a (k0) l0 l1 l2 l3 l4 l5 l6 (by omega) (by omega)) (qA [0, 1, 2, 3, 4, 5, 6]) ?_
 refine qK (lawsX_heldEnd x.b (k0 + EndD.cnt x.a) l7 l8 l9 l10 l11 l12 l13 (by omega) (by omega)) (qA [7, 8, 9, 10, 11, 12, 13]) ?_
 refine qK (lawsX_heldLetterS (k0 + EndD.cnt x.a + EndD.cnt x.b) x.bag.length (by omega) (by omega) (by omega)) (qA [14]) ?_
 refine qK (lawsX_heldLetterS (k0 + EndD.cnt x.a + EndD.cnt x.b + 19 * (x.bag.length : Int)) x.past.length (by omega) (by omega) (by omega)) (qA [15]) ?_
 refine qK (lawsX_heldKnown x.known (k0 + EndD.cnt x.a + EndD.cnt x.b + 19 * (x.bag.length : Int) + 19 * (x.past.length : Int)) l16 l17 (by omega) (by omega)) (qA [16, 17]) ?_
 refine qK (laws_heldIntS (k0 + EndD.cnt x.a + EndD.cnt x.b + 19 * (x.bag.length : Int) + 19 * (x.past.length : Int) + KnownD.cnt x.known) x.nums.length (by omega) (by omega) (by omega)) (qA [18]) ?_
 refine qK (laws_heldIntS (k0 + EndD.cnt x.a + EndD.cnt x.b + 19 * (x.bag.length : Int) + 19 * (x.past.length : Int) + KnownD.cnt x.known + 1 * (x.nums.length : Int)) x.answersA.length (by omega) (by omega) (by omega)) (qA [19]) ?_
 refine qK (laws_heldIntS (k0 + EndD.cnt x.a + EndD.cnt x.b + 19 * (x.bag.length : Int) + 19 * (x.past.length : Int) + KnownD.cnt x.known + 1 * (x.nums.length : Int) + 1 * (x.answersA.length : Int)) x.answersB.length (by omega) (by omega) (by omega)) (qA [20]) ?_
 refine den_fin (qA [0, 1, 2, 3, 4, 5, 6, 7, 8, 9, 10, 11, 12, 13, 14, 15, 16, 17, 18, 19, 20]) (qC) _ (by simp only [go_sem]; rfl) (by rfl) (by rfl) ?_
 simp (disch := omega) only [go_sem, Nat.reduceEqDiff, Nat.reduceAdd, Nat.reduceSub, Int.reduceAdd, Int.reduceSub, Int.reduceToNat]
 try simp only [WorldD.cnt]
 try omega
end
section
open Go.RowKit

attribute [go_sem] markedWorld markedEnd markedPieces markedKnown
theorem LetterD.wf_text {x : LetterD} (h : LetterD.wf x) : x.text.length ≤ 9223372036854775807 := by
 have := h.2.2.2.2.2.2.2.2.2.2.2.2.2.2.2.2.2
 simp only [maxLen] at this
 omega
theorem WorldD.txt_le {x : WorldD} {m r : Int} (hm0 : 0 ≤ m) (hm : m ≤ 1048576) (h : szGo m x.szL = r) (h0 : 0 ≤ r) : (∀ y ∈ x.a.inp.list, y.text.length ≤ 1048576) ∧ (∀ y ∈ x.b.inp.list, y.text.length ≤ 1048576) := by
 have k := szGo_mem hm0 x.szL_nn (by rw [h]; exact h0)
 refine ⟨fun y hy => ?_, fun y hy => ?_⟩
 ·have := k (y.text.length : Int) (by
   simp only [WorldD.szL, EndD.szL, PiecesD.szL, szLPiece, List.mem_append, List.mem_cons, List.mem_map]
   refine .inl (.inr (.inr (.inr (.inr (.inr (.inl (.inr (.inl (.inr ⟨y, hy, rfl⟩)))))))))
   )
  omega
 ·have := k (y.text.length : Int) (by
   simp only [WorldD.szL, EndD.szL, PiecesD.szL, szLPiece, List.mem_append, List.mem_cons, List.mem_map]
   refine .inr (.inl (.inr (.inr (.inr (.inr (.inr (.inl (.inr (.inl (.inr ⟨y, hy, rfl⟩))))))))))
   )
  omega

theorem setEnd_small1 {w : WorldD} {e : EndD} (hw : SmallW w) (h : Small e) : SmallW { w with a := e } := ⟨h, hw.b, hw.bag, hw.past, hw.keys, hw.tags, hw.nums, hw.ansA, hw.ansB⟩
theorem setEnd_small2 {w : WorldD} {e : EndD} (hw : SmallW w) (h : Small e) : SmallW { w with b := e } := ⟨hw.a, h, hw.bag, hw.past, hw.keys, hw.tags, hw.nums, hw.ansA, hw.ansB⟩
theorem postL_smallW {side : Int} {w : WorldD} {l : List LetterD} (hw : SmallW w) : SmallW (postL side w l) := by
 have h := postL_small (side := side) (l := l) hw.rest
 have he := postL_ends (side := side) (l := l) (w := w)
 exact ⟨by rw [he.1]; exact hw.a, by rw [he.2.1]; exact hw.b, h.bag, h.past, h.keys, h.tags, h.nums, h.ansA, h.ansB⟩
theorem lands_small (w : WorldD) (x : LetterD) (hw : SmallW w) : SmallW (lands w x) := by
 rcases sideAt_12 x.to with h0 | h0 | h0
 ·rw [lands_0 h0]; exact hw
 ·rw [lands_1 h0]; exact postL_smallW (setEnd_small1 hw (hear_small hw.a))
 ·rw [lands_2 h0]; exact postL_smallW (setEnd_small2 hw (hear_small hw.b))
theorem law_Lands (a0 : WorldD) (w0 : a0.wf) (a1 : LetterD) (w1 : LetterD.wf a1) : CallA Tryz.prog 3 [.ag (a0.cs 0), .ag a1.cs] (a0.hpL) (.sc (.bo true)) (a0.hpL) := by
 refine qEO Tryz.func3 Tryz.ntmps3 Tryz.results3 fun E hE => ?_
 refine qK (laws_szWorld a0 1048576 w0 (by omega) (by omega)) (qA [0, 1, 2, 3, 4, 5, 6, 7, 8, 9, 10, 11, 12, 13, 14, 15, 16, 17, 18, 19, 20]) ?_
 generalize hr0 : szGo 1048576 a0.szL = r0
 have hb0 := szGo_le (by omega) a0.szL_nn hr0
 refine qB (fun h0 => ?_) fun h0 => ?_
 ·exact qFO (qA [0, 1, 2, 3, 4, 5, 6, 7, 8, 9, 10, 11, 12, 13, 14, 15, 16, 17, 18, 19, 20])
 ·have hn0 : 0 ≤ r0 := by omega
  have hm0 : r0 ≤ 1048576 := by omega
  obtain ⟨l0_0, l0_1, l0_2, l0_3, l0_4, l0_5, l0_6, l0_7, l0_8, l0_9, l0_10, l0_11, l0_12, l0_13, l0_14, l0_15, l0_16, l0_17, l0_18, l0_19, l0_20⟩ := WorldD.sz_le (by omega) (by omega) hr0 hn0
  obtain ⟨s0_0, s0_1, s0_2, s0_3, s0_4, s0_5, s0_6, s0_7⟩ := WorldD.str_le (by omega) (by omega) hr0 hn0
  obtain ⟨x0_0, x0_1⟩ := WorldD.txt_le (by omega) (by omega) hr0 hn0
  refine qX ?_
  refine qK (laws_szLetter a1 r0 (LetterD.wf_text w1) hn0 hm0) [] ?_
  generalize hr1 : szGo r0 [(a1.text.length : Int)] = r1
  have hb1 := szGo_le hn0 (by simp) hr1
  refine qB (fun h1 => ?_) fun h1 => ?_
  ·exact qFO (qA [0, 1, 2, 3, 4, 5, 6, 7, 8, 9, 10, 11, 12, 13, 14, 15, 16, 17, 18, 19, 20])
  ·have hn1 : 0 ≤ r1 := by omega
   have hm1 : r1 ≤ 1048576 := by omega
   refine qX ?_
   have hsw : SmallWP a0 := ⟨⟨⟨l0_0, l0_1, l0_2, l0_3, l0_4, l0_5, l0_6⟩, ⟨l0_7, l0_8, l0_9, l0_10, l0_11, l0_12, l0_13⟩, l0_14, l0_15, l0_16, l0_17, l0_18, l0_19, l0_20⟩, ⟨l0_4, s0_1, x0_0⟩, ⟨l0_11, s0_3, x0_1⟩⟩
   have hSp := spec_Lands a0 a1 hsw
   have hIm := impl_Lands a0 a1 hsw
   have hsm := lands_small a0 a1 hsw.s
   obtain ⟨W, hW⟩ : ∃ W, W = (lands a0 a1) := ⟨_, rfl⟩
   rw [← hW] at hSp hIm hsm
   clear hW
   have q0 := hsm.a.own
   have q1 := hsm.a.far
   have q2 := hsm.a.subs
   have q3 := hsm.a.halfs
   have q4 := hsm.a.list
   have q5 := hsm.a.done
   have q6 := hsm.a.over
   have q7 := hsm.b.own
   have q8 := hsm.b.far
   have q9 := hsm.b.subs
   have q10 := hsm.b.halfs
   have q11 := hsm.b.list
   have q12 := hsm.b.done
   have q13 := hsm.b.over
   have q14 := hsm.bag
   have q15 := hsm.past
   have q16 := hsm.keys
   have q17 := hsm.tags
   have q18 := hsm.nums
   have q19 := hsm.ansA
   have q20 := hsm.ansB
   have hcnt := WorldD.cnt_le W q0 q1 q2 q3 q4 q5 q6 q7 q8 q9 q10 q11 q12 q13 q14 q15 q16 q17 q18 q19 q20
   refine den_drawX [(1, 5), (3, 5), (4, 5)] [(1, 3), (1, 4), (3, 4)] [[0, 2, 1, 3, 4, 5, 6], [0, 2, 1, 3, 5, 4, 6], [0, 2, 1, 5, 3, 4, 6], [0, 2, 5, 1, 3, 4, 6]] 21 hE (fun s => s.at [23, 24, 25, 26, 27] [(6, .sc (.pt 65 0 0))] (s.hp ++ (a0.hp true ++ (W.hp true ++ ([some ⟨[W.cs 44], 61, 65, true, false⟩]))))) (by kernel_rfl) (qC) (by kernel_rfl) ?_ (run_den 400 ?_)
   rotate_left
   rotate_right
   simp only [allDn]
   refine ⟨runD_den 400 ?_, runD_den 400 ?_, runD_den 400 ?_, runD_den 400 ?_⟩
   ·simp (disch := omega) only [go_sem, Nat.reduceEqDiff, Nat.reduceAdd, Nat.reduceSub, Int.reduceAdd, Int.reduceSub, Int.reduceToNat]
    refine qKD (laws_toWorld a0 l0_0 l0_1 l0_2 l0_3 l0_4 l0_5 l0_6 l0_7 l0_8 l0_9 l0_10 l0_11 l0_12 l0_13 l0_14 l0_15 l0_16 l0_17 l0_18 l0_19 l0_20) (qA [0, 1, 2, 3, 4, 5, 6, 7, 8, 9, 10, 11, 12, 13, 14, 15, 16, 17, 18, 19, 20]) ?_
    refine qKD (laws_toLetter a1) [] ?_
    refine qKD (hSp) (qA [23, 24, 25, 26, 27, 28, 29, 30, 31, 32, 33, 34, 35, 36, 37, 38, 39, 40, 41, 42, 43]) ?_
    refine ⟨qC, (qA [0, 1, 2, 3, 4, 5, 6, 7, 8, 9, 10, 11, 12, 13, 14, 15, 16, 17, 18, 19, 20, 21, 22, 23, 24, 25, 26, 27, 28, 29, 30, 31, 32, 33, 34, 35, 36, 37, 38, 39, 40, 41, 42, 43, 44, 45, 46, 47, 48, 49, 50, 51, 52, 53, 54, 55, 56, 57, 58, 59, 60, 61, 62, 63, 64, 65]), weak_mkO (by rfl) (by rfl) ?_⟩
    try simp (disch := omega) only [go_sem, Nat.reduceEqDiff, Nat.reduceAdd, Nat.reduceSub, Int.reduceAdd, Int.reduceSub, Int.reduceToNat]
   ·simp (disch := omega) only [go_sem, Nat.reduceEqDiff, Nat.reduceAdd, Nat.reduceSub, Int.reduceAdd, Int.reduceSub, Int.reduceToNat]
    refine qKD (laws_toWorld a0 l0_0 l0_1 l0_2 l0_3 l0_4 l0_5 l0_6 l0_7 l0_8 l0_9 l0_10 l0_11 l0_12 l0_13 l0_14 l0_15 l0_16 l0_17 l0_18 l0_19 l0_20) (qA [0, 1, 2, 3, 4, 5, 6, 7, 8, 9, 10, 11, 12, 13, 14, 15, 16, 17, 18, 19, 20]) ?_
    refine qKD (laws_toLetter a1) [] ?_
    refine qKD (hSp) (qA [23, 24, 25, 26, 27, 28, 29, 30, 31, 32, 33, 34, 35, 36, 37, 38, 39, 40, 41, 42, 43]) ?_
    refine ⟨qC, (qA [0, 1, 2, 3, 4, 5, 6, 7, 8, 9, 10, 11, 12, 13, 14, 15, 16, 17, 18, 19, 20, 21, 22, 23, 24, 25, 26, 27, 28, 29, 30, 31, 32, 33, 34, 35, 36, 37, 38, 39, 40, 41, 42, 43, 45, 46, 47, 48, 49, 50, 51, 52, 53, 54, 55, 56, 57, 58, 59, 60, 61, 62, 63, 64, 65, 44]), weak_mkO (by rfl) (by rfl) ?_⟩
    try simp (disch := omega) only [go_sem, Nat.reduceEqDiff, Nat.reduceAdd, Nat.reduceSub, Int.reduceAdd, Int.reduceSub, Int.reduceToNat]
   ·simp (disch := omega) only [go_sem, Nat.reduceEqDiff, Nat.reduceAdd, Nat.reduceSub, Int.reduceAdd, Int.reduceSub, Int.reduceToNat]
    refine qKD (laws_toWorld a0 l0_0 l0_1 l0_2 l0_3 l0_4 l0_5 l0_6 l0_7 l0_8 l0_9 l0_10 l0_11 l0_12 l0_13 l0_14 l0_15 l0_16 l0_17 l0_18 l0_19 l0_20) (qA [0, 1, 2, 3, 4, 5, 6, 7, 8, 9, 10, 11, 12, 13, 14, 15, 16, 17, 18, 19, 20]) ?_
    refine qKD (laws_toLetter a1) [] ?_
    refine qKD (hSp) (qA [23, 24, 25, 26, 27, 28, 29, 30, 31, 32, 33, 34, 35, 36, 37, 38, 39, 40, 41, 42, 43]) ?_
    refine ⟨qC, (qA [0, 1, 2, 3, 4, 5, 6, 7, 8, 9, 10, 11, 12, 13, 14, 15, 16, 17, 18, 19, 20, 21, 22, 23, 24, 25, 26, 27, 28, 29, 30, 31, 32, 33, 34, 35, 36, 37, 38, 39, 40, 41, 42, 43, 45, 46, 47, 48, 49, 50, 51, 52, 53, 54, 55, 56, 57, 58, 59, 60, 61, 62, 63, 64, 65, 44]), weak_mkO (by rfl) (by rfl) ?_⟩
    try simp (disch := omega) only [go_sem, Nat.reduceEqDiff, Nat.reduceAdd, Nat.reduceSub, Int.reduceAdd, Int.reduceSub, Int.reduceToNat]
   ·simp (disch := omega) only [go_sem, Nat.reduceEqDiff, Nat.reduceAdd, Nat.reduceSub, Int.reduceAdd, Int.reduceSub, Int.reduceToNat]
    refine qKD (laws_toWorld a0 l0_0 l0_1 l0_2 l0_3 l0_4 l0_5 l0_6 l0_7 l0_8 l0_9 l0_10 l0_11 l0_12 l0_13 l0_14 l0_15 l0_16 l0_17 l0_18 l0_19 l0_20) (qA [0, 1, 2, 3, 4, 5, 6, 7, 8, 9, 10, 11, 12, 13, 14, 15, 16, 17, 18, 19, 20]) ?_
    refine qKD (laws_toLetter a1) [] ?_
    refine qKD (hSp) (qA [24, 25, 26, 27, 28, 29, 30, 31, 32, 33, 34, 35, 36, 37, 38, 39, 40, 41, 42, 43, 44]) ?_
    refine ⟨qC, (qA [0, 1, 2, 3, 4, 5, 6, 7, 8, 9, 10, 11, 12, 13, 14, 15, 16, 17, 18, 19, 20, 21, 22, 24, 25, 26, 27, 28, 29, 30, 31, 32, 33, 34, 35, 36, 37, 38, 39, 40, 41, 42, 43, 44, 45, 46, 47, 48, 49, 50, 51, 52, 53, 54, 55, 56, 57, 58, 59, 60, 61, 62, 63, 64, 65, 23]), weak_mkO (by rfl) (by rfl) ?_⟩
    try simp (disch := omega) only [go_sem, Nat.reduceEqDiff, Nat.reduceAdd, Nat.reduceSub, Int.reduceAdd, Int.reduceSub, Int.reduceToNat]
   refine qX ?_
   refine qK (laws_toWorld a0 l0_0 l0_1 l0_2 l0_3 l0_4 l0_5 l0_6 l0_7 l0_8 l0_9 l0_10 l0_11 l0_12 l0_13 l0_14 l0_15 l0_16 l0_17 l0_18 l0_19 l0_20) (qA [0, 1, 2, 3, 4, 5, 6, 7, 8, 9, 10, 11, 12, 13, 14, 15, 16, 17, 18, 19, 20]) ?_
   refine den_drawX [(2, 4), (3, 4)] [(2, 3)] [[0, 1, 2, 3, 4, 5], [0, 1, 2, 4, 3, 5], [0, 1, 4, 2, 3, 5]] 21 hE (fun s => s.at [30, 31, 32, 33] [(8, .sc (.pt 109 0 0))] (s.hp ++ (W.hp true ++ ([some ⟨[W.cs 88], 61, 65, true, false⟩])))) (by kernel_rfl) (qC) (by kernel_rfl) ?_ (run_den 400 ?_)
   rotate_left
   rotate_right
   simp only [allDn]
   refine ⟨runD_den 400 ?_, runD_den 400 ?_, runD_den 400 ?_⟩
   ·simp (disch := omega) only [go_sem, Nat.reduceEqDiff, Nat.reduceAdd, Nat.reduceSub, Int.reduceAdd, Int.reduceSub, Int.reduceToNat]
    refine qKD (laws_toLetter a1) [] ?_
    refine qKD (hIm) (qA [66, 67, 68, 69, 70, 71, 72, 73, 74, 75, 76, 77, 78, 79, 80, 81, 82, 83, 84, 85, 86]) ?_
    refine ⟨qC, (qA [0, 1, 2, 3, 4, 5, 6, 7, 8, 9, 10, 11, 12, 13, 14, 15, 16, 17, 18, 19, 20, 21, 22, 23, 24, 25, 26, 27, 28, 29, 30, 31, 32, 33, 34, 35, 36, 37, 38, 39, 40, 41, 42, 43, 44, 45, 46, 47, 48, 49, 50, 51, 52, 53, 54, 55, 56, 57, 58, 59, 60, 61, 62, 63, 64, 65, 66, 67, 68, 69, 70, 71, 72, 73, 74, 75, 76, 77, 78, 79, 80, 81, 82, 83, 84, 85, 86, 87, 88, 89, 90, 91, 92, 93, 94, 95, 96, 97, 98, 99, 100, 101, 102, 103, 104, 105, 106, 107, 108, 109]), weak_mkO (by rfl) (by rfl) ?_⟩
    try simp (disch := omega) only [go_sem, Nat.reduceEqDiff, Nat.reduceAdd, Nat.reduceSub, Int.reduceAdd, Int.reduceSub, Int.reduceToNat]
   ·simp (disch := omega) only [go_sem, Nat.reduceEqDiff, Nat.reduceAdd, Nat.reduceSub, Int.reduceAdd, Int.reduceSub, Int.reduceToNat]
    refine qKD (laws_toLetter a1) [] ?_
    refine qKD (hIm) (qA [66, 67, 68, 69, 70, 71, 72, 73, 74, 75, 76, 77, 78, 79, 80, 81, 82, 83, 84, 85, 86]) ?_
    refine ⟨qC, (qA [0, 1, 2, 3, 4, 5, 6, 7, 8, 9, 10, 11, 12, 13, 14, 15, 16, 17, 18, 19, 20, 21, 22, 23, 24, 25, 26, 27, 28, 29, 30, 31, 32, 33, 34, 35, 36, 37, 38, 39, 40, 41, 42, 43, 44, 45, 46, 47, 48, 49, 50, 51, 52, 53, 54, 55, 56, 57, 58, 59, 60, 61, 62, 63, 64, 65, 66, 67, 68, 69, 70, 71, 72, 73, 74, 75, 76, 77, 78, 79, 80, 81, 82, 83, 84, 85, 86, 87, 89, 90, 91, 92, 93, 94, 95, 96, 97, 98, 99, 100, 101, 102, 103, 104, 105, 106, 107, 108, 109, 88]), weak_mkO (by rfl) (by rfl) ?_⟩
    try simp (disch := omega) only [go_sem, Nat.reduceEqDiff, Nat.reduceAdd, Nat.reduceSub, Int.reduceAdd, Int.reduceSub, Int.reduceToNat]
   ·simp (disch := omega) only [go_sem, Nat.reduceEqDiff, Nat.reduceAdd, Nat.reduceSub, Int.reduceAdd, Int.reduceSub, Int.reduceToNat]
    refine qKD (laws_toLetter a1) [] ?_
    refine qKD (hIm) (qA [66, 67, 68, 69, 70, 71, 72, 73, 74, 75, 76, 77, 78, 79, 80, 81, 82, 83, 84, 85, 86]) ?_
    refine ⟨qC, (qA [0, 1, 2, 3, 4, 5, 6, 7, 8, 9, 10, 11, 12, 13, 14, 15, 16, 17, 18, 19, 20, 21, 22, 23, 24, 25, 26, 27, 28, 29, 30, 31, 32, 33, 34, 35, 36, 37, 38, 39, 40, 41, 42, 43, 44, 45, 46, 47, 48, 49, 50, 51, 52, 53, 54, 55, 56, 57, 58, 59, 60, 61, 62, 63, 64, 65, 66, 67, 68, 69, 70, 71, 72, 73, 74, 75, 76, 77, 78, 79, 80, 81, 82, 83, 84, 85, 86, 87, 89, 90, 91, 92, 93, 94, 95, 96, 97, 98, 99, 100, 101, 102, 103, 104, 105, 106, 107, 108, 109, 88]), weak_mkO (by rfl) (by rfl) ?_⟩
    try simp (disch := omega) only [go_sem, Nat.reduceEqDiff, Nat.reduceAdd, Nat.reduceSub, Int.reduceAdd, Int.reduceSub, Int.reduceToNat]
   refine qX ?_
   refine qK (laws_eqWorld W (by omega) (by omega) (by omega) (by omega) (by omega) (by omega) (by omega) (by omega) (by omega) (by omega) (by omega) (by omega) (by omega) (by omega) (by omega) (by omega) (by omega) (by omega) (by omega) (by omega) (by omega)) (qA [88, 89, 90, 91, 92, 93, 94, 95, 96, 97, 98, 99, 100, 101, 102, 103, 104, 105, 106, 107, 108, 44, 45, 46, 47, 48, 49, 50, 51, 52, 53, 54, 55, 56, 57, 58, 59, 60, 61, 62, 63, 64]) ?_
   refine qD [0, 1, 2, 3, 4] ?_
   refine qKD (laws_toWorld a0 l0_0 l0_1 l0_2 l0_3 l0_4 l0_5 l0_6 l0_7 l0_8 l0_9 l0_10 l0_11 l0_12 l0_13 l0_14 l0_15 l0_16 l0_17 l0_18 l0_19 l0_20) (qA [0, 1, 2, 3, 4, 5, 6, 7, 8, 9, 10, 11, 12, 13, 14, 15, 16, 17, 18, 19, 20]) ?_
   refine qKD (laws_eqWorld a0 (by omega) (by omega) (by omega) (by omega) (by omega) (by omega) (by omega) (by omega) (by omega) (by omega) (by omega) (by omega) (by omega) (by omega) (by omega) (by omega) (by omega) (by omega) (by omega) (by omega) (by omega)) (qA [66, 67, 68, 69, 70, 71, 72, 73, 74, 75, 76, 77, 78, 79, 80, 81, 82, 83, 84, 85, 86, 110, 111, 112, 113, 114, 115, 116, 117, 118, 119, 120, 121, 122, 123, 124, 125, 126, 127, 128, 129, 130]) ?_
   refine qG ?_
   refine qK (laws_markWorldE a0 1 l0_0 l0_1 l0_2 l0_3 l0_4 l0_5 l0_6 l0_7 l0_8 l0_9 l0_10 l0_11 l0_12 l0_13 l0_14 l0_15 l0_16 l0_17 l0_18 l0_19 l0_20 (by omega) (by omega)) (qA [66, 67, 68, 69, 70, 71, 72, 73, 74, 75, 76, 77, 78, 79, 80, 81, 82, 83, 84, 85, 86]) ?_
   refine qK (laws_eqWorld W (by omega) (by omega) (by omega) (by omega) (by omega) (by omega) (by omega) (by omega) (by omega) (by omega) (by omega) (by omega) (by omega) (by omega) (by omega) (by omega) (by omega) (by omega) (by omega) (by omega) (by omega)) (qA [88, 89, 90, 91, 92, 93, 94, 95, 96, 97, 98, 99, 100, 101, 102, 103, 104, 105, 106, 107, 108, 44, 45, 46, 47, 48, 49, 50, 51, 52, 53, 54, 55, 56, 57, 58, 59, 60, 61, 62, 63, 64]) ?_
   refine qK (lawsX_markWorld W 1 q0 q1 q2 q3 q4 q5 q6 q7 q8 q9 q10 q11 q12 q13 q14 q15 q16 q17 q18 q19 q20 (by omega) (by omega)) (qA [88, 89, 90, 91, 92, 93, 94, 95, 96, 97, 98, 99, 100, 101, 102, 103, 104, 105, 106, 107, 108]) ?_
   refine qK (lawsX_heldWorld W 1 q0 q1 q2 q3 q4 q5 q6 q7 q8 q9 q10 q11 q12 q13 q14 q15 q16 q17 q18 q19 q20 (by omega) (by omega)) (qA [88, 89, 90, 91, 92, 93, 94, 95, 96, 97, 98, 99, 100, 101, 102, 103, 104, 105, 106, 107, 108]) ?_
   refine den_drawX [(1, 5), (3, 5), (4, 5)] [(1, 3), (1, 4), (3, 4)] [[0, 2, 1, 3, 4, 5, 6], [0, 2, 1, 3, 5, 4, 6], [0, 2, 1, 5, 3, 4, 6], [0, 2, 5, 1, 3, 4, 6]] 21 hE (fun s => s.at [65, 66, 67, 68, 69] [(12, .sc (.pt 173 0 0))] (s.hp ++ (a0.hp true ++ (W.hp true ++ ([some ⟨[W.cs 152], 61, 65, true, false⟩]))))) (by kernel_rfl) (qC) (by kernel_rfl) ?_ (run_den 400 ?_)
   rotate_left
   rotate_right
   simp only [allDn]
   refine ⟨runD_den 400 ?_, runD_den 400 ?_, runD_den 400 ?_, runD_den 400 ?_⟩
   ·simp (disch := omega) only [go_sem, Nat.reduceEqDiff, Nat.reduceAdd, Nat.reduceSub, Int.reduceAdd, Int.reduceSub, Int.reduceToNat]
    refine qKD (laws_toWorld a0 l0_0 l0_1 l0_2 l0_3 l0_4 l0_5 l0_6 l0_7 l0_8 l0_9 l0_10 l0_11 l0_12 l0_13 l0_14 l0_15 l0_16 l0_17 l0_18 l0_19 l0_20) (qA [0, 1, 2, 3, 4, 5, 6, 7, 8, 9, 10, 11, 12, 13, 14, 15, 16, 17, 18, 19, 20]) ?_
    refine qKD (laws_toLetter a1) [] ?_
    refine qKD (hIm) (qA [131, 132, 133, 134, 135, 136, 137, 138, 139, 140, 141, 142, 143, 144, 145, 146, 147, 148, 149, 150, 151]) ?_
    refine ⟨qC, (qA [0, 1, 2, 3, 4, 5, 6, 7, 8, 9, 10, 11, 12, 13, 14, 15, 16, 17, 18, 19, 20, 21, 22, 23, 24, 25, 26, 27, 28, 29, 30, 31, 32, 33, 34, 35, 36, 37, 38, 39, 40, 41, 42, 43, 44, 45, 46, 47, 48, 49, 50, 51, 52, 53, 54, 55, 56, 57, 58, 59, 60, 61, 62, 63, 64, 65, 66, 67, 68, 69, 70, 71, 72, 73, 74, 75, 76, 77, 78, 79, 80, 81, 82, 83, 84, 85, 86, 87, 88, 89, 90, 91, 92, 93, 94, 95, 96, 97, 98, 99, 100, 101, 102, 103, 104, 105, 106, 107, 108, 109, 110, 111, 112, 113, 114, 115, 116, 117, 118, 119, 120, 121, 122, 123, 124, 125, 126, 127, 128, 129, 130, 131, 132, 133, 134, 135, 136, 137, 138, 139, 140, 141, 142, 143, 144, 145, 146, 147, 148, 149, 150, 151, 152, 153, 154, 155, 156, 157, 158, 159, 160, 161, 162, 163, 164, 165, 166, 167, 168, 169, 170, 171, 172, 173]), weak_mkO (by rfl) (by rfl) ?_⟩
    try simp (disch := omega) only [go_sem, Nat.reduceEqDiff, Nat.reduceAdd, Nat.reduceSub, Int.reduceAdd, Int.reduceSub, Int.reduceToNat]
   ·simp (disch := omega) only [go_sem, Nat.reduceEqDiff, Nat.reduceAdd, Nat.reduceSub, Int.reduceAdd, Int.reduceSub, Int.reduceToNat]
    refine qKD (laws_toWorld a0 l0_0 l0_1 l0_2 l0_3 l0_4 l0_5 l0_6 l0_7 l0_8 l0_9 l0_10 l0_11 l0_12 l0_13 l0_14 l0_15 l0_16 l0_17 l0_18 l0_19 l0_20) (qA [0, 1, 2, 3, 4, 5, 6, 7, 8, 9, 10, 11, 12, 13, 14, 15, 16, 17, 18, 19, 20]) ?_
    refine qKD (laws_toLetter a1) [] ?_
    refine qKD (hIm) (qA [131, 132, 133, 134, 135, 136, 137, 138, 139, 140, 141, 142, 143, 144, 145, 146, 147, 148, 149, 150, 151]) ?_
    refine ⟨qC, (qA [0, 1, 2, 3, 4, 5, 6, 7, 8, 9, 10, 11, 12, 13, 14, 15, 16, 17, 18, 19, 20, 21, 22, 23, 24, 25, 26, 27, 28, 29, 30, 31, 32, 33, 34, 35, 36, 37, 38, 39, 40, 41, 42, 43, 44, 45, 46, 47, 48, 49, 50, 51, 52, 53, 54, 55, 56, 57, 58, 59, 60, 61, 62, 63, 64, 65, 66, 67, 68, 69, 70, 71, 72, 73, 74, 75, 76, 77, 78, 79, 80, 81, 82, 83, 84, 85, 86, 87, 88, 89, 90, 91, 92, 93, 94, 95, 96, 97, 98, 99, 100, 101, 102, 103, 104, 105, 106, 107, 108, 109, 110, 111, 112, 113, 114, 115, 116, 117, 118, 119, 120, 121, 122, 123, 124, 125, 126, 127, 128, 129, 130, 131, 132, 133, 134, 135, 136, 137, 138, 139, 140, 141, 142, 143, 144, 145, 146, 147, 148, 149, 150, 151, 153, 154, 155, 156, 157, 158, 159, 160, 161, 162, 163, 164, 165, 166, 167, 168, 169, 170, 171, 172, 173, 152]), weak_mkO (by rfl) (by rfl) ?_⟩
    try simp (disch := omega) only [go_sem, Nat.reduceEqDiff, Nat.reduceAdd, Nat.reduceSub, Int.reduceAdd, Int.reduceSub, Int.reduceToNat]
   ·simp (disch := omega) only [go_sem, Nat.reduceEqDiff, Nat.reduceAdd, Nat.reduceSub, Int.reduceAdd, Int.reduceSub, Int.reduceToNat]
    refine qKD (laws_toWorld a0 l0_0 l0_1 l0_2 l0_3 l0_4 l0_5 l0_6 l0_7 l0_8 l0_9 l0_10 l0_11 l0_12 l0_13 l0_14 l0_15 l0_16 l0_17 l0_18 l0_19 l0_20) (qA [0, 1, 2, 3, 4, 5, 6, 7, 8, 9, 10, 11, 12, 13, 14, 15, 16, 17, 18, 19, 20]) ?_
    refine qKD (laws_toLetter a1) [] ?_
    refine qKD (hIm) (qA [131, 132, 133, 134, 135, 136, 137, 138, 139, 140, 141, 142, 143, 144, 145, 146, 147, 148, 149, 150, 151]) ?_
    refine ⟨qC, (qA [0, 1, 2, 3, 4, 5, 6, 7, 8, 9, 10, 11, 12, 13, 14, 15, 16, 17, 18, 19, 20, 21, 22, 23, 24, 25, 26, 27, 28, 29, 30, 31, 32, 33, 34, 35, 36, 37, 38, 39, 40, 41, 42, 43, 44, 45, 46, 47, 48, 49, 50, 51, 52, 53, 54, 55, 56, 57, 58, 59, 60, 61, 62, 63, 64, 65, 66, 67, 68, 69, 70, 71, 72, 73, 74, 75, 76, 77, 78, 79, 80, 81, 82, 83, 84, 85, 86, 87, 88, 89, 90, 91, 92, 93, 94, 95, 96, 97, 98, 99, 100, 101, 102, 103, 104, 105, 106, 107, 108, 109, 110, 111, 112, 113, 114, 115, 116, 117, 118, 119, 120, 121, 122, 123, 124, 125, 126, 127, 128, 129, 130, 131, 132, 133, 134, 135, 136, 137, 138, 139, 140, 141, 142, 143, 144, 145, 146, 147, 148, 149, 150, 151, 153, 154, 155, 156, 157, 158, 159, 160, 161, 162, 163, 164, 165, 166, 167, 168, 169, 170, 171, 172, 173, 152]), weak_mkO (by rfl) (by rfl) ?_⟩
    try simp (disch := omega) only [go_sem, Nat.reduceEqDiff, Nat.reduceAdd, Nat.reduceSub, Int.reduceAdd, Int.reduceSub, Int.reduceToNat]
   ·simp (disch := omega) only [go_sem, Nat.reduceEqDiff, Nat.reduceAdd, Nat.reduceSub, Int.reduceAdd, Int.reduceSub, Int.reduceToNat]
    refine qKD (laws_toWorld a0 l0_0 l0_1 l0_2 l0_3 l0_4 l0_5 l0_6 l0_7 l0_8 l0_9 l0_10 l0_11 l0_12 l0_13 l0_14 l0_15 l0_16 l0_17 l0_18 l0_19 l0_20) (qA [0, 1, 2, 3, 4, 5, 6, 7, 8, 9, 10, 11, 12, 13, 14, 15, 16, 17, 18, 19, 20]) ?_
    refine qKD (laws_toLetter a1) [] ?_
    refine qKD (hIm) (qA [132, 133, 134, 135, 136, 137, 138, 139, 140, 141, 142, 143, 144, 145, 146, 147, 148, 149, 150, 151, 152]) ?_
    refine ⟨qC, (qA [0, 1, 2, 3, 4, 5, 6, 7, 8, 9, 10, 11, 12, 13, 14, 15, 16, 17, 18, 19, 20, 21, 22, 23, 24, 25, 26, 27, 28, 29, 30, 31, 32, 33, 34, 35, 36, 37, 38, 39, 40, 41, 42, 43, 44, 45, 46, 47, 48, 49, 50, 51, 52, 53, 54, 55, 56, 57, 58, 59, 60, 61, 62, 63, 64, 65, 66, 67, 68, 69, 70, 71, 72, 73, 74, 75, 76, 77, 78, 79, 80, 81, 82, 83, 84, 85, 86, 87, 88, 89, 90, 91, 92, 93, 94, 95, 96, 97, 98, 99, 100, 101, 102, 103, 104, 105, 106, 107, 108, 109, 110, 111, 112, 113, 114, 115, 116, 117, 118, 119, 120, 121, 122, 123, 124, 125, 126, 127, 128, 129, 130, 132, 133, 134, 135, 136, 137, 138, 139, 140, 141, 142, 143, 144, 145, 146, 147, 148, 149, 150, 151, 152, 153, 154, 155, 156, 157, 158, 159, 160, 161, 162, 163, 164, 165, 166, 167, 168, 169, 170, 171, 172, 173, 131]), weak_mkO (by rfl) (by rfl) ?_⟩
    try simp (disch := omega) only [go_sem, Nat.reduceEqDiff, Nat.reduceAdd, Nat.reduceSub, Int.reduceAdd, Int.reduceSub, Int.reduceToNat]
   refine qX ?_
   refine qK (laws_eqWorld W (by omega) (by omega) (by omega) (by omega) (by omega) (by omega) (by omega) (by omega) (by omega) (by omega) (by omega) (by omega) (by omega) (by omega) (by omega) (by omega) (by omega) (by omega) (by omega) (by omega) (by omega)) (qA [152, 153, 154, 155, 156, 157, 158, 159, 160, 161, 162, 163, 164, 165, 166, 167, 168, 169, 170, 171, 172, 44, 45, 46, 47, 48, 49, 50, 51, 52, 53, 54, 55, 56, 57, 58, 59, 60, 61, 62, 63, 64]) ?_
   refine qK (lawsX_heldWorld W 1 q0 q1 q2 q3 q4 q5 q6 q7 q8 q9 q10 q11 q12 q13 q14 q15 q16 q17 q18 q19 q20 (by omega) (by omega)) (qA [88, 89, 90, 91, 92, 93, 94, 95, 96, 97, 98, 99, 100, 101, 102, 103, 104, 105, 106, 107, 108]) ?_
   exact qFO (qA [0, 1, 2, 3, 4, 5, 6, 7, 8, 9, 10, 11, 12, 13, 14, 15, 16, 17, 18, 19, 20])
end
section
open Go.RowKit

def roHp : Hp → Bool
 | [] => true
 | some ob :: h => !ob.own && roHp h
 | none :: h => roHp h
theorem roHp_get : ∀ {h : Hp} {o : Nat} {ob : AObj}, roHp h = true → h[o]? = some (some ob) → ob.own = false
 | some x :: h, 0, ob, hr, ho => by
  simp only [roHp, Bool.and_eq_true, Bool.not_eq_true'] at hr
  simp at ho
  subst ho
  exact hr.1
 | some x :: h, o + 1, ob, hr, ho => by
  simp only [roHp, Bool.and_eq_true] at hr
  exact roHp_get hr.2 (by simpa using ho)
 | none :: h, 0, ob, hr, ho => by simp at ho
 | none :: h, o + 1, ob, hr, ho => roHp_get (h := h) hr (by simpa using ho)
 | [], o, ob, _, ho => by simp at ho
theorem roL_ro {β : Be} {w : World} : ∀ {l : Be} {h : Hp}, RoL β w l h → roHp h = true
 | [], [], _ => rfl
 | p :: l, some ob :: h, hr => by
  have := roL_ro hr.2
  simp [roHp, hr.1.1, this]
 | [], _ :: _, h => h.elim
 | _ :: _, [], h => h.elim
 | _ :: _, none :: _, h => h.elim
theorem callA_ro {P : Program} {f : FuncId} {args : List AV} {b : Bool} {h h' : Hp} (ct : CallA P f args h (.sc (.bo b)) h') {β : Be} {w : World} (hr : RoL β w β h) {vs : List Value} (hvs : L2 (AVR β) args vs) :
  Calls P f vs.toArray w fun e w' => e = .returned (.bool b) ∧ Below w.heap.size w w' :=
 (ct.2 β w vs (hsim_roL hr) hvs).mono fun e w' ⟨β', v, he, hv, hh, hst⟩ => by
  have hv' : v = .bool b := hv
  subst hv'
  exact ⟨he, ⟨hst.os, hst.tape, hst.output, hst.size, fun k hk => hst.block k hk fun ⟨o, ob, p, ho, hown, hp, _⟩ => by
   rw [roHp_get (roL_ro hr) ho] at hown
   cases hown⟩⟩
end
section
open Go

def rkOf (R : Nat) (g : Nat) : Nat := (R >>> (10 * g)) % 1024
def okH (P : Program) (R lo hi : Nat) (g : Nat) : Bool :=
 match P.funcs[g]? with
 | none => true
 | some fn => ((P.leadsTo fn).all fun h => Nat.blt (rkOf R h) (rkOf R g) && (Nat.ble lo h && Nat.blt h hi)) && (!(fn.ours || fn.body.isNone || fn.name == "runtime.NumGoroutine") && (match fn.body with | some c => !c.unfollowed && c.globalsNamed.isEmpty | none => false))
def okG (P : Program) (R lo hi : Nat) (g : Nat) : Bool := Nat.ble 1000 (rkOf R g) || okH P R lo hi g
theorem okG_okH {P : Program} {R lo hi g : Nat} (h : okG P R lo hi g = true) (hr : rkOf R g < 1000) : okH P R lo hi g = true := by
 unfold okG at h
 rw [Bool.or_eq_true, Nat.ble_eq] at h
 exact h.resolve_left (by omega)
theorem closureVia_sub {P : Program} {S : FuncId → Prop} (hS : ∀ g, S g → ∀ h ∈ (P.funcs[g]?).elim [] P.leadsTo, S h) : ∀ (n : Nat) (todo seen : List FuncId), (∀ x ∈ todo, S x) → (∀ x ∈ seen, S x) → ∀ x ∈ P.closureVia n todo seen, S x
 | 0, todo, seen, _, hs, x, hx => by
  unfold Program.closureVia at hx
  exact hs x (List.mem_reverse.1 hx)
 | n + 1, [], seen, _, hs, x, hx => by
  unfold Program.closureVia at hx
  exact hs x (List.mem_reverse.1 hx)
 | n + 1, f :: todo, seen, ht, hs, x, hx => by
  unfold Program.closureVia at hx
  split at hx
  ·exact closureVia_sub hS n todo seen (fun y hy => ht y (List.mem_cons_of_mem _ hy)) hs x hx
  ·refine closureVia_sub hS n _ (f :: seen) (fun y hy => ?_) (fun y hy => ?_) x hx
   ·rcases List.mem_append.1 hy with hy | hy
    ·exact hS f (ht f (List.mem_cons_self ..)) y hy
    ·exact ht y (List.mem_cons_of_mem _ hy)
   ·rcases List.mem_cons.1 hy with rfl | hy
    ·exact ht y (List.mem_cons_self ..)
    ·exact hs y hy
theorem closure_sub {P : Program} {S : FuncId → Prop} (hS : ∀ g, S g → ∀ h ∈ (P.funcs[g]?).elim [] P.leadsTo, S h) {f : FuncId} (hf : S f) : ∀ x ∈ P.closure f, S x :=
 closureVia_sub hS _ [f] [] (fun x hx => by rw [List.mem_singleton.1 hx]; exact hf) (fun x hx => by cases hx)
theorem rk_lt {P : Program} {R lo hi : Nat} (h : ∀ g, lo ≤ g ∧ g < hi → okG P R lo hi g = true) {g k : FuncId} (hb : lo ≤ g ∧ g < hi) (hr : rkOf R g < 1000) (hk : k ∈ (P.funcs[g]?).elim [] P.leadsTo) : rkOf R k < rkOf R g ∧ lo ≤ k ∧ k < hi := by
 have hg := okG_okH (h g hb) hr
 unfold okH at hg
 cases hf : P.funcs[g]? with
 | none => rw [hf] at hk; simp at hk
 | some fn =>
  rw [hf] at hg hk
  simp only [Bool.and_eq_true, List.all_eq_true, Nat.blt_eq, Nat.ble_eq] at hg
  exact hg.1 k hk
theorem graph_facts {P : Program} {R lo hi : Nat} (h : ∀ g, lo ≤ g ∧ g < hi → okG P R lo hi g = true) (f : FuncId) (hf0 : (lo ≤ f ∧ f < hi) ∧ rkOf R f < 1000) : P.inPlace f = [] ∧ P.unfollowed f = false ∧ P.recurses f = false ∧ P.varsNamed f = [] := by
 have hin : ∀ k, (lo ≤ k ∧ k < hi) ∧ rkOf R k < 1000 → ∀ x ∈ P.closure k, (lo ≤ x ∧ x < hi) ∧ rkOf R x < 1000 := fun k hk => closure_sub (S := fun x => (lo ≤ x ∧ x < hi) ∧ rkOf R x < 1000) (fun a ha b hb => ⟨(rk_lt h ha.1 ha.2 hb).2, Nat.lt_trans (rk_lt h ha.1 ha.2 hb).1 ha.2⟩) hk
 have hu : P.unfollowed f = false := by
  unfold Program.unfollowed
  rw [List.any_eq_false]
  intro g hgc
  have hg := okG_okH (h g (hin f hf0 g hgc).1) (hin f hf0 g hgc).2
  unfold okH at hg
  cases hf : P.funcs[g]? with
  | none => simp
  | some fn =>
   rw [hf] at hg
   simp only [Bool.and_eq_true] at hg
   simp only [Option.any_some]
   cases hb : fn.body with
   | none => rw [hb] at hg; simp at hg
   | some c => rw [hb] at hg; simp at hg ⊢; exact hg.2.2.1
 refine ⟨?_, hu, ?_, ?_⟩
 ·unfold Program.inPlace
  rw [List.filterMap_eq_nil_iff]
  intro g hgc
  have hg := okG_okH (h g (hin f hf0 g hgc).1) (hin f hf0 g hgc).2
  unfold okH at hg
  cases hf : P.funcs[g]? with
  | none => rfl
  | some fn =>
   rw [hf] at hg
   simp only [Bool.and_eq_true, Bool.not_eq_true'] at hg
   simp only [Option.bind_some]
   rw [hg.2.1]
   rfl
 ·unfold Program.recurses
  rw [hu, Bool.false_or, List.any_eq_false]
  intro g hgc
  rw [Bool.not_eq_true, List.any_eq_false]
  intro k hk
  rw [Bool.not_eq_true]
  obtain ⟨h1, hkb⟩ := rk_lt h (hin f hf0 g hgc).1 (hin f hf0 g hgc).2 hk
  have hkr : rkOf R k < 1000 := Nat.lt_trans h1 (hin f hf0 g hgc).2
  have h2 : ∀ x ∈ P.closure k, rkOf R x ≤ rkOf R k ∧ lo ≤ x ∧ x < hi := closure_sub (S := fun x => rkOf R x ≤ rkOf R k ∧ lo ≤ x ∧ x < hi) (fun a ha b hb => ⟨Nat.le_trans (Nat.le_of_lt (rk_lt h ha.2 (by omega) hb).1) ha.1, (rk_lt h ha.2 (by omega) hb).2⟩) ⟨Nat.le_refl _, hkb⟩
  cases hc : (P.closure k).contains g with
  | false => rfl
  | true =>
   have := (h2 g (List.contains_iff_mem.1 hc)).1
   omega
 ·unfold Program.varsNamed
  have e1 : ((P.closure f).flatMap fun g => ((P.funcs[g]?).bind (·.body)).elim [] Code.globalsNamed) = [] := by
   rw [List.flatMap_eq_nil_iff]
   intro g hgc
   have hg := okG_okH (h g (hin f hf0 g hgc).1) (hin f hf0 g hgc).2
   unfold okH at hg
   cases hf : P.funcs[g]? with
   | none => rfl
   | some fn =>
    rw [hf] at hg
    simp only [Bool.and_eq_true] at hg
    simp only [Option.bind_some]
    cases hb : fn.body with
    | none => rfl
    | some c => rw [hb] at hg; simp at hg ⊢; exact hg.2.2.2
  have e2 : ((P.closure f).filterMap fun g => (P.funcs[g]?).bind fun fn => if fn.body.isNone then entryReads.lookup fn.name else none) = [] := by
   rw [List.filterMap_eq_nil_iff]
   intro g hgc
   have hg := okG_okH (h g (hin f hf0 g hgc).1) (hin f hf0 g hgc).2
   unfold okH at hg
   cases hf : P.funcs[g]? with
   | none => rfl
   | some fn =>
    rw [hf] at hg
    simp only [Bool.and_eq_true] at hg
    simp only [Option.bind_some]
    cases hb : fn.body with
    | none => rw [hb] at hg; simp at hg
    | some c => rfl
  rw [e1, e2]
  rfl
def chs (l : List Nat) : List Char := l.map Char.ofNat
theorem chs_app (a b : List Nat) : chs (a ++ b) = chs a ++ chs b := by simp [chs]
theorem chs_cons (a : Nat) (b : List Nat) : chs (a :: b) = Char.ofNat a :: chs b := rfl
theorem wordsSigns_cons {c : Char} (h : c ≠ Char.ofNat 32) (r : List Char) : wordsSigns (c :: r) = match wordsSigns r with
  | w :: ws => (c :: w) :: ws
  | [] => [[c]] := by
 conv => lhs; unfold wordsSigns
 split
 ·rename_i e
  simp at e
 ·rename_i r' e
  obtain ⟨e1, _⟩ := List.cons.inj e
  exact absurd e1 h
 ·rename_i c' r' _ e
  obtain ⟨e1, e2⟩ := List.cons.inj e
  subst e1; subst e2
  rfl
theorem wordsSigns_word : ∀ {w : List Char} (r : List Char), (∀ c ∈ w, c ≠ Char.ofNat 32) → wordsSigns (w ++ Char.ofNat 32 :: r) = w :: wordsSigns r
 | [], r, _ => by
  show wordsSigns (Char.ofNat 32 :: r) = [] :: wordsSigns r
  conv => lhs; unfold wordsSigns
  rfl
 | c :: w, r, h => by
  rw [List.cons_append, wordsSigns_cons (h c (List.mem_cons_self ..)), wordsSigns_word r (fun x hx => h x (List.mem_cons_of_mem _ hx))]
def noBlank (l : List Nat) : Bool := (chs l).all fun c => c != Char.ofNat 32
theorem noBlank_mem {l : List Nat} (h : noBlank l = true) : ∀ c ∈ chs l, c ≠ Char.ofNat 32 := by
 intro c hc
 have := List.all_eq_true.1 h c hc
 simpa using this
theorem head_words {P : Program} {a b c r : List Nat} (h : P.initOrder = String.ofList (chs (a ++ 32 :: (b ++ 32 :: (c ++ 32 :: r))))) (ha : noBlank a = true) (hb : noBlank b = true) (hc : noBlank c = true)
  (hm : ((chs a == "harness".toList || chs a == "ownmain".toList) && isSumSigns (chs b)) = true) : ∃ rest, behindMainWord (wordsSigns P.initOrder.toList) = chs c :: rest := by
 refine ⟨wordsSigns (chs r), ?_⟩
 rw [h, String.toList_ofList, chs_app, chs_cons, chs_app, chs_cons, chs_app, chs_cons, wordsSigns_word _ (noBlank_mem ha), wordsSigns_word _ (noBlank_mem hb), wordsSigns_word _ (noBlank_mem hc)]
 exact if_pos hm
def cutN : List Nat := [99, 117, 116]
theorem make_cut {P : Program} {rest : List (List Char)} (h : behindMainWord (wordsSigns P.initOrder.toList) = chs cutN :: rest) : P.make = some .cut := by
 unfold Program.make
 rw [h]
 rfl
theorem final_cut {P : Program} {rest : List (List Char)} (h : behindMainWord (wordsSigns P.initOrder.toList) = chs cutN :: rest) : P.liftsFinal = false := by
 unfold Program.liftsFinal Program.headLifts
 rw [h]
 rfl
theorem may_cut {P : Program} {rest : List (List Char)} (h : behindMainWord (wordsSigns P.initOrder.toList) = chs cutN :: rest) (l1 : P.laysLater = false) (l2 : P.bearsReflect = false) (l3 : P.doorRows = []) : P.mayEnter = true := by
 have l4 : P.doorFits [] = true := by
  unfold Program.doorFits
  rw [l3]
  rfl
 unfold Program.mayEnter
 rw [h]
 show ((_ || _) || _) = true
 have e : stripLifts liftWords (chs cutN :: rest) = ([], chs cutN :: rest) := rfl
 rw [e, l1, l2, l4]
 simp only [List.contains_nil, Bool.and_true, Bool.not_false, Bool.or_true, List.head?_cons]
 rw [show (some (chs cutN) == some "cut".toList) = true from by kernel_rfl]
 simp
def restFacts (P : Program) (f : FuncId) (fn : Func) (s : ChangeSpec) (c : OpenClaim) : Bool :=
 c.wf (OpenSpec.ofChange s) && laidOutB P && mapsRowed P &&
 fn.params.all (P.readableRec ·) && namedTie P c.named s.vars &&
 (c.stops == []) && (P.stops == []) && (c.knobs == []) && (P.stopKnobs == []) &&
 (c.maps == (fn.params.toList ++ s.plain.varTypes P).any (P.mapsRec ·)) && (c.ifaces == (fn.params.toList ++ s.plain.varTypes P).any (P.ifacesRec ·)) && (c.mapsOut == P.mapsAmong fn.resultTypes.toList) &&
 (c.loops == (fn.params.toList ++ s.plain.varTypes P).any (P.loopsFrom ·)) && (c.wideKeys == (fn.params.toList ++ s.plain.varTypes P ++ fn.resultTypes.toList).any (P.wideKeysFrom ·)) &&
 s.vars.all (P.varReadable ·) && fn.resultTypes.all (fun t => P.readableRec t && decide (t < P.types.size)) && (c.ifacesOut == fn.resultTypes.toList.any (P.ifacesRec ·)) && (c.loopsOut == fn.resultTypes.toList.any (P.loopsFrom ·)) && (c.plainKeys == P.plainKeys) && c.shortTexts.isNone && P.stopsHeard && (c.kinds == (if c.domain.isEmpty then [] else fn.params.toList.map fun t => match P.underlying t with | some (.int k) => some k | _ => none)) && (c.pinned == c.pinnedBy) &&
 (c.veiled == (fn.params.toList ++ s.plain.varTypes P ++ fn.resultTypes.toList).any (P.veiledRec ·)) && c.veiledFits P fn.params.toList (fn.params.toList ++ s.plain.varTypes P ++ fn.resultTypes.toList)
theorem joined_of {P : Program} {f : FuncId} {fn : Func} {s : ChangeSpec} {c : OpenClaim} (g : P.inPlace f = [] ∧ P.unfollowed f = false ∧ P.recurses f = false ∧ P.varsNamed f = []) (c1 : c.inPlace = []) (c2 : c.unfollowed = false) (c3 : c.recurses = false) (c4 : c.named = [])
  (m1 : P.mayEnter = true) (m2 : P.liftsFinal = false) (m3 : P.make = some .cut) (d2 : c.lifted = false) (d3 : c.make = .cut) (h : restFacts P f fn s c = true) : joinedFacts P f fn s c = true := by
 obtain ⟨g1, g2, g3, g4⟩ := g
 unfold restFacts at h
 unfold joinedFacts
 simp only [Bool.and_eq_true] at h ⊢
 obtain ⟨⟨⟨⟨⟨⟨⟨⟨⟨⟨⟨⟨⟨⟨⟨⟨⟨⟨⟨⟨⟨⟨⟨⟨k1, k2⟩, k3⟩, k4⟩, k5⟩, k6⟩, k7⟩, k8⟩, k9⟩, k14⟩, k15⟩, k16⟩, k17⟩, k17b⟩, k18⟩, k19⟩, k20⟩, k21⟩, k22⟩, k23⟩, k23b⟩, k25⟩, k26⟩, k27⟩, k28⟩ := h
 refine ⟨⟨⟨⟨⟨⟨⟨⟨⟨⟨⟨⟨⟨⟨⟨⟨⟨⟨⟨⟨⟨⟨⟨⟨⟨⟨⟨⟨⟨⟨⟨k1, k2⟩, k3⟩, k4⟩, k5⟩, k6⟩, k7⟩, k8⟩, k9⟩, ?_⟩, ?_⟩, ?_⟩, ?_⟩, k14⟩, k15⟩, k16⟩, k17⟩, k17b⟩, k18⟩, k19⟩, k20⟩, k21⟩, k22⟩, k23⟩, k23b⟩, m1⟩, ?_⟩, ?_⟩, k25⟩, k26⟩, k27⟩, k28⟩
 ·rw [c1, g1]; rfl
 ·rw [c2, g2]; rfl
 ·rw [c3, g3]; rfl
 ·rw [c4, g4]; rfl
 ·rw [d2, m2]; rfl
 ·rw [d3, m3]; exact beq_self_eq_true _
end
section
open Go

def rkN : Nat := 4226774319631324755531909332887690728464476757876456933781267224804614138122824562112220878277850106666623432575143837377376585041444606834443169981901728379920772088486262755811404141597837727744437102780667299437605818164356606098061708689268179194088595161665640022297321503472390041157194300545387646101044054533726505820285576318762872178889264799639784786175857614227609239217557829776123139477224185341673386784136920384385434752861355869107698245669218023515866193227701121105172862701763542974966699993200996433173928103188689261920725749548397341623402431056930303899904441724728943468438969475410599850288576125892831153130770111865252261981306017644534634080503861159458756601822827073576617904052347557887987893667754439334349500908363125844470574811971235486396560249432168347218576355951834200787773662799499391837949454386671266395990909570131292661193410831433549824752802395281734377791577009701507770796939082636180345744118030294951916692921823440125078519133405271202356906326586949797517247627076403017152395689127168625413407355646771200
theorem okG_0 : (List.range' 3 16).all (okG Tryz.prog rkN 3 337) = true := by kernel_rfl
theorem okG_1 : (List.range' 19 16).all (okG Tryz.prog rkN 3 337) = true := by kernel_rfl
theorem okG_2 : (List.range' 35 16).all (okG Tryz.prog rkN 3 337) = true := by kernel_rfl
theorem okG_3 : (List.range' 51 16).all (okG Tryz.prog rkN 3 337) = true := by kernel_rfl
theorem okG_4 : (List.range' 67 16).all (okG Tryz.prog rkN 3 337) = true := by kernel_rfl
theorem okG_5 : (List.range' 83 16).all (okG Tryz.prog rkN 3 337) = true := by kernel_rfl
theorem okG_6 : (List.range' 99 16).all (okG Tryz.prog rkN 3 337) = true := by kernel_rfl
theorem okG_7 : (List.range' 115 16).all (okG Tryz.prog rkN 3 337) = true := by kernel_rfl
theorem okG_8 : (List.range' 131 16).all (okG Tryz.prog rkN 3 337) = true := by kernel_rfl
theorem okG_9 : (List.range' 147 16).all (okG Tryz.prog rkN 3 337) = true := by kernel_rfl
theorem okG_10 : (List.range' 163 16).all (okG Tryz.prog rkN 3 337) = true := by kernel_rfl
theorem okG_11 : (List.range' 179 16).all (okG Tryz.prog rkN 3 337) = true := by kernel_rfl
theorem okG_12 : (List.range' 195 16).all (okG Tryz.prog rkN 3 337) = true := by kernel_rfl
theorem okG_13 : (List.range' 211 16).all (okG Tryz.prog rkN 3 337) = true := by kernel_rfl
theorem okG_14 : (List.range' 227 16).all (okG Tryz.prog rkN 3 337) = true := by kernel_rfl
theorem okG_15 : (List.range' 243 16).all (okG Tryz.prog rkN 3 337) = true := by kernel_rfl
theorem okG_16 : (List.range' 259 16).all (okG Tryz.prog rkN 3 337) = true := by kernel_rfl
theorem okG_17 : (List.range' 275 16).all (okG Tryz.prog rkN 3 337) = true := by kernel_rfl
theorem okG_18 : (List.range' 291 16).all (okG Tryz.prog rkN 3 337) = true := by kernel_rfl
theorem okG_19 : (List.range' 307 16).all (okG Tryz.prog rkN 3 337) = true := by kernel_rfl
theorem okG_20 : (List.range' 323 14).all (okG Tryz.prog rkN 3 337) = true := by kernel_rfl
theorem okG_all (g : Nat) (h : 3 ≤ g ∧ g < 337) : okG Tryz.prog rkN 3 337 g = true := by
 rcases (by omega : (3 ≤ g ∧ g < 19) ∨ (19 ≤ g ∧ g < 35) ∨ (35 ≤ g ∧ g < 51) ∨ (51 ≤ g ∧ g < 67) ∨ (67 ≤ g ∧ g < 83) ∨ (83 ≤ g ∧ g < 99) ∨ (99 ≤ g ∧ g < 115) ∨ (115 ≤ g ∧ g < 131) ∨ (131 ≤ g ∧ g < 147) ∨ (147 ≤ g ∧ g < 163) ∨ (163 ≤ g ∧ g < 179) ∨ (179 ≤ g ∧ g < 195) ∨ (195 ≤ g ∧ g < 211) ∨ (211 ≤ g ∧ g < 227) ∨ (227 ≤ g ∧ g < 243) ∨ (243 ≤ g ∧ g < 259) ∨ (259 ≤ g ∧ g < 275) ∨ (275 ≤ g ∧ g < 291) ∨ (291 ≤ g ∧ g < 307) ∨ (307 ≤ g ∧ g < 323) ∨ (323 ≤ g ∧ g < 337)) with h | h | h | h | h | h | h | h | h | h | h | h | h | h | h | h | h | h | h | h | h
 ·exact List.all_eq_true.1 okG_0 g (List.mem_range'_1.2 h)
 ·exact List.all_eq_true.1 okG_1 g (List.mem_range'_1.2 h)
 ·exact List.all_eq_true.1 okG_2 g (List.mem_range'_1.2 h)
 ·exact List.all_eq_true.1 okG_3 g (List.mem_range'_1.2 h)
 ·exact List.all_eq_true.1 okG_4 g (List.mem_range'_1.2 h)
 ·exact List.all_eq_true.1 okG_5 g (List.mem_range'_1.2 h)
 ·exact List.all_eq_true.1 okG_6 g (List.mem_range'_1.2 h)
 ·exact List.all_eq_true.1 okG_7 g (List.mem_range'_1.2 h)
 ·exact List.all_eq_true.1 okG_8 g (List.mem_range'_1.2 h)
 ·exact List.all_eq_true.1 okG_9 g (List.mem_range'_1.2 h)
 ·exact List.all_eq_true.1 okG_10 g (List.mem_range'_1.2 h)
 ·exact List.all_eq_true.1 okG_11 g (List.mem_range'_1.2 h)
 ·exact List.all_eq_true.1 okG_12 g (List.mem_range'_1.2 h)
 ·exact List.all_eq_true.1 okG_13 g (List.mem_range'_1.2 h)
 ·exact List.all_eq_true.1 okG_14 g (List.mem_range'_1.2 h)
 ·exact List.all_eq_true.1 okG_15 g (List.mem_range'_1.2 h)
 ·exact List.all_eq_true.1 okG_16 g (List.mem_range'_1.2 h)
 ·exact List.all_eq_true.1 okG_17 g (List.mem_range'_1.2 h)
 ·exact List.all_eq_true.1 okG_18 g (List.mem_range'_1.2 h)
 ·exact List.all_eq_true.1 okG_19 g (List.mem_range'_1.2 h)
 ·exact List.all_eq_true.1 okG_20 g (List.mem_range'_1.2 h)
theorem init_head : ∃ rest, behindMainWord (wordsSigns Tryz.prog.initOrder.toList) = chs cutN :: rest :=
 head_words (a := [104, 97, 114, 110, 101, 115, 115]) (b := [55, 99, 55, 49, 101, 99, 55, 98, 57, 56, 51, 101, 97, 49, 48, 99, 100, 97, 50, 57, 48, 57, 98, 99, 50, 54, 97, 51, 51, 48, 53, 56, 55, 100, 50, 51, 55, 99, 54, 48, 48, 102, 102, 50, 101, 48, 49, 57, 53, 99, 97, 54, 102, 97, 55, 48, 102, 99, 49, 49, 102, 50, 97, 99]) (c := cutN) (r := [97, 116, 32, 108, 111, 111, 112, 46, 101, 120, 97, 109, 112, 108, 101, 47, 103, 48, 48, 57, 54, 55, 47, 108, 97, 119, 115, 46, 70, 110, 69, 120, 97, 99, 116, 76, 97, 110, 100, 115, 32, 108, 111, 111, 112, 46, 101, 120, 97, 109, 112, 108, 101, 47, 103, 48, 48, 57, 54, 55, 47, 108, 97, 119, 115, 46, 70, 110, 69, 120, 97, 99, 116, 70, 105, 114, 115, 116, 85, 110, 115, 97, 102, 101, 32, 108, 111, 111, 112, 46, 101, 120, 97, 109, 112, 108, 101, 47, 103, 48, 48, 57, 54, 55, 47, 108, 97, 119, 115, 46, 70, 110, 69, 120, 97, 99, 116, 76, 105, 118, 101, 100, 32, 108, 111, 111, 112, 46, 101, 120, 97, 109, 112, 108, 101, 47, 103, 48, 48, 57, 54, 55, 47, 108, 97, 119, 115, 46, 70, 110, 69, 120, 97, 99, 116, 68, 111, 110, 101, 32, 108, 111, 111, 112, 46, 101, 120, 97, 109, 112, 108, 101, 47, 103, 48, 48, 57, 54, 55, 47, 108, 97, 119, 115, 46, 70, 110, 69, 120, 97, 99, 116, 67, 97, 108, 109, 82, 111, 117, 110, 100, 32, 108, 111, 111, 112, 46, 101, 120, 97, 109, 112, 108, 101, 47, 103, 48, 48, 57, 54, 55, 47, 108, 97, 119, 115, 46, 70, 110, 69, 120, 97, 99, 116, 67, 97, 108, 109, 82, 111, 117, 110, 100, 115]) (by kernel_rfl) (by kernel_rfl) (by kernel_rfl) (by kernel_rfl) (by kernel_rfl)
theorem own_l1 : Tryz.prog.laysLater = false := by kernel_rfl
theorem own_l2 : Tryz.prog.bearsReflect = false := by kernel_rfl
theorem own_l3 : Tryz.prog.doorRows = [] := by kernel_rfl
theorem own_may : Tryz.prog.mayEnter = true := init_head.elim fun _ h => may_cut h own_l1 own_l2 own_l3
theorem own_final : Tryz.prog.liftsFinal = false := init_head.elim fun _ h => final_cut h
theorem own_make : Tryz.prog.make = some .cut := init_head.elim fun _ h => make_cut h
theorem own_graph (f : Nat) (h : ((Nat.ble 3 f && Nat.blt f 337) && Nat.blt (rkOf rkN f) 1000) = true) : Tryz.prog.inPlace f = [] ∧ Tryz.prog.unfollowed f = false ∧ Tryz.prog.recurses f = false ∧ Tryz.prog.varsNamed f = [] :=
 graph_facts okG_all f (by simpa only [Bool.and_eq_true, Nat.ble_eq, Nat.blt_eq] using h)
end
end Go.Proofs.YtkkcfgfkabkjhaaGreat
