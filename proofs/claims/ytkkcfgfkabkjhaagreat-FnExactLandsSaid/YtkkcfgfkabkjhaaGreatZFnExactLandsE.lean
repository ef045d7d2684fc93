/-
  Texts merged for this claim by shake.py: what its proof needs.
-/
import Derived.Tactics
import Derived.Below
import Derived.Laws.AppendOwn
import Derived.Laws.OwnMore
import Derived.Laws.Slices
import Derived.Laws.Small
import Derived.Laws.Strings
import Derived.KernelRfl
import Derived.Laws.MakeOwn
import Derived.Laws.BytesString
import Derived.Laws.BytesArg
import Derived.Laws.Build
import Derived.Laws.Concat
import Derived.Laws.StructEq
import Derived.Lib.ConvBytes
import Derived.Orders
import Derived.WalkKit
import Derived.ProofKit
import Derived.ShutString
import Derived.OpenShut
import Derived.ChangeOld
import Derived.Carry
import Derived.Test.YtkkcfgfkabkjhaaGreatChecked
import Derived.Laws.BitsLemmas
import Derived.JoinedOf
import Derived.Test.YtkkcfgfkabkjhaaGreatRows
import Derived.Test.YtkkcfgfkabkjhaaGreatZFnExactLandsD
set_option maxHeartbeats 16000000
set_option maxRecDepth 100000
set_option linter.unusedVariables false
set_option linter.unusedSimpArgs false
namespace Go.Proofs.YtkkcfgfkabkjhaaGreat
section
open Go.RowKit

theorem del_cells {α : Type} {f : α → List Sc} {l : List α} {n : Nat} (h : n < l.length) :
  n + (l.length - (n + 1)) = (l.take n).length + (l.drop (n + 1)).length ∧ (l.take n).map f ++ ((l.map f).drop (n + 1)).take (l.length - (n + 1)) = (l.take n ++ l.drop (n + 1)).map f := by
 refine ⟨by simp; omega, ?_⟩
 simp only [List.map_append, List.map_take, List.map_drop]
 congr 1
 exact List.take_of_length_le (by simp)
theorem impl_DropAddr (l : List AddrD) (r : Int) (hl : l.length ≤ 1048576) : CallA Tryz.prog 260 [.sc (.sl 0 0 l.length), .sc (.int .i64 r)] [some ⟨l.map AddrD.cs, 4, 95, false, true⟩]
  (.tu [.sc (.sl 1 0 (dropAddr l r).1.length), .sc (.bo (dropAddr l r).2)]) [some ⟨l.map AddrD.cs, 4, 95, false, true⟩, some ⟨(dropAddr l r).1.map AddrD.cs, 4, 95, true, true⟩] := by
 have hA := impl_AddrAt l r hl
 have hbd := addrAt_bd l r
 have hf := @dropAddr_f l r
 have ht := fun n => @dropAddr_t l r n
 generalize dropAddr l r = R at *
 refine qE Tryz.func260 Tryz.ntmps260 Tryz.results260 fun E hE => ?_
 refine qK (hA) (qA [0]) ?_
 rcases hbd with hk | ⟨hb0, hb1⟩
 ·rw [hf hk, hk]
  refine qX ?_
  refine qK (impl_copyAddrs l hl) (qA [0]) ?_
  exact qF (qA [0, 1])
 ·obtain ⟨n, hk⟩ := Int.eq_ofNat_of_zero_le hb0
  rw [ht _ hk, hk]
  refine qX ?_
  refine qD [0, 1, 2, 4, 5, 6, 7, 3, 8, 9, 10] ?_
  have hlt : (l.take n).length = n := by simp; omega
  have hlt2 : (List.take n (List.map AddrD.cs l)).length = n := by simp; omega
  have hC := impl_copyAddrs (l.take n) (by simp; omega)
  rw [List.length_take, show min n l.length = n by omega] at hC
  refine qKD (hC) [some (0, some 0)] ?_
  refine qG ?_
  refine qJ (qA [0, 2]) ?_
  exact del_cells (by omega)
theorem spec_DropAddr (l : List AddrD) (r : Int) (hl : l.length ≤ 1048576) : CallA Tryz.prog 223 [.sc (.sl 0 0 l.length), .sc (.int .i64 r)] [some ⟨l.map AddrD.cs, 4, 95, false, true⟩]
  (.tu [.sc (.sl 1 0 (dropAddr l r).1.length), .sc (.bo (dropAddr l r).2)]) [some ⟨l.map AddrD.cs, 4, 95, false, true⟩, some ⟨(dropAddr l r).1.map AddrD.cs, 4, 95, true, true⟩] := by
 have hA := spec_AddrAt l r hl
 have hbd := addrAt_bd l r
 have hf := @dropAddr_f l r
 have ht := fun n => @dropAddr_t l r n
 generalize dropAddr l r = R at *
 refine qE Tryz.func223 Tryz.ntmps223 Tryz.results223 fun E hE => ?_
 refine qK (hA) (qA [0]) ?_
 rcases hbd with hk | ⟨hb0, hb1⟩
 ·rw [hf hk, hk]
  refine qX ?_
  exact qF (qA [0, 2])
 ·obtain ⟨n, hk⟩ := Int.eq_ofNat_of_zero_le hb0
  have hlt : (l.take n).length = n := by simp; omega
  have hlt2 : (List.take n (List.map AddrD.cs l)).length = n := by simp; omega
  rw [ht _ hk, hk]
  refine qX ?_
  refine qJ (qA [0, 3]) ?_
  rw [← List.map_take]
  exact del_cells (by omega)
theorem impl_PutAddr (l : List AddrD) (a : AddrD) (hl : l.length ≤ 1000000) : CallA Tryz.prog 259 [.sc (.sl 0 0 l.length), .ag a.cs] [some ⟨l.map AddrD.cs, 4, 95, false, true⟩]
  (.tu [.sc (.sl 1 0 (putAddr l a).1.length), .sc (.bo (putAddr l a).2)]) [some ⟨l.map AddrD.cs, 4, 95, false, true⟩, some ⟨(putAddr l a).1.map AddrD.cs, 4, 95, true, true⟩] := by
 have hA := impl_AddrAt l a.id (by omega)
 have hbd := addrAt_bd l a.id
 have hO := impl_AddrsOk (putAddrL l a) (by have := putAddrL_len l a; omega)
 have hll := putAddrL_len l a
 have hLt := fun k => @putAddrL_t l a k
 have hLf := fun k => @putAddrL_f l a k
 have ht := putAddr_t (l := l) (a := a)
 have hf := putAddr_f (l := l) (a := a)
 have hbig := putAddr_big (l := l) (a := a)
 generalize putAddrL l a = L at *
 generalize putAddr l a = R at *
 refine qE Tryz.func259 Tryz.ntmps259 Tryz.results259 fun E hE => ?_
 refine qK (impl_copyAddrs l (by omega)) (qA [0]) ?_
 refine qK (hA) (qA [0]) ?_
 rcases hbd with hat | ⟨hb0, hb1⟩
 ·rw [hat]
  refine qX ?_
  refine den_lp 1 hE (fun s (k : Nat) => s.at [1, 8, 9, 10, 11, 12, 13, 14, 15, 16, 17, 18, 19, 20, 21, 22, 23, 24, 25, 26, 27, 28, 29, 30, 31, 32, 33, 34, 35] [(7, .sc (.int .i64 (k : Nat)))] (s.hp)) (fun (k : Nat) => k ≤ l.length ∧ k + ((l.drop k).takeWhile (fun b => decide (b.id < a.id))).length = lowN l a.id) (fun (k : Nat) => l.length - k) 0 (qA [0, 1, 2]) (qC) (⟨Nat.zero_le _, by simp [lowN]⟩) (weak_mk (by rfl) (by rfl) ?_) fun k hk N hN => ?_
  ·exact qY
  ·obtain ⟨hk1, hk2⟩ := hk
   refine qR ?_
   refine qD [0, 1, 2, 3, 4, 5, 6, 7, 8, 9, 10, 11, 12, 13] ?_
   refine qB (fun h => ?_) fun h => ?_
   ·refine ⟨qC, run_den 400 ?_⟩
    rw [tw_step h] at hk2
    refine qX ?_
    refine qB (fun h2 => ?_) fun h2 => ?_
    ·rw [if_pos (by simp [h2])] at hk2
     exact qN hN (k + 1) (qA [0, 1, 2]) (by (try dsimp only); exact ⟨by omega, by omega⟩)
    ·rw [if_neg (by simp; omega)] at hk2
     have hq := hLf k hat (by omega)
     have e1 : (l.take k).map AddrD.cs ++ [a.cs] ++ ((l.map AddrD.cs).drop k).take (l.length - k) = L.map AddrD.cs := by rw [hq]; exact (ins_cells rfl hk1).2
     have e2 : k + 1 + (l.length - k) = L.length := by rw [hq]; simp; omega
     have hlt : (l.take k).length = k := by simp; omega
     have hlt2 : ((l.map AddrD.cs).take k).length = k := by simp; omega
     have hC := impl_copyAddrs (l.take k) (by omega)
     rw [hlt] at hC
     simp only [AddrD.cs] at e1
     refine den_drawC [(3, 5), (3, 9), (5, 9), (6, 9)] [[0, 1, 2, 4, 7, 8, 3, 5, 6, 9, 10, 11], [0, 1, 2, 4, 7, 8, 3, 5, 9, 6, 10, 11], [0, 1, 2, 4, 7, 8, 3, 9, 5, 6, 10, 11], [0, 1, 2, 4, 7, 8, 9, 3, 5, 6, 10, 11], [0, 1, 2, 4, 7, 8, 5, 3, 6, 9, 10, 11], [0, 1, 2, 4, 7, 8, 5, 3, 9, 6, 10, 11], [0, 1, 2, 4, 7, 8, 5, 9, 3, 6, 10, 11], [0, 1, 2, 4, 7, 8, 9, 5, 3, 6, 10, 11]] (by kernel_rfl) (qC) (by kernel_rfl) ?_
     simp only [allDn]
     refine ⟨runD_den 400 ?_, runD_den 400 ?_, runD_den 400 ?_, runD_den 400 ?_, runD_den 400 ?_, runD_den 400 ?_, runD_den 400 ?_, runD_den 400 ?_⟩
     all_goals simp (disch := omega) only [go_sem, Nat.reduceEqDiff, Nat.reduceAdd, Nat.reduceSub, Int.reduceAdd, Int.reduceSub, Int.reduceToNat]
     all_goals
      refine qKD (hC) [some (0, some 0)] ?_
      refine ⟨qC, run_den 400 ?_⟩
      try simp (disch := omega) only [go_sem, Nat.reduceEqDiff, Nat.reduceAdd, Nat.reduceSub, Int.reduceAdd, Int.reduceSub, Int.reduceToNat, e1, e2]
      refine qK (hO) (qA [6]) ?_
      refine qB (fun h9 => ?_) fun h9 => ?_
      ·rw [hf h9]
       refine qX ?_
       refine qK (impl_copyAddrs l (by omega)) (qA [0]) ?_
       exact qF (qA [0, 7])
      ·rw [ht h9]
       refine qX ?_
       exact qF (qA [0, 6])
   ·refine ⟨qC, run_den 400 ?_⟩
    rw [tw_end (by omega)] at hk2
    refine qX ?_
    have hq := hLf k hat (by omega)
    have e1 : (l.take k).map AddrD.cs ++ [a.cs] ++ ((l.map AddrD.cs).drop k).take (l.length - k) = L.map AddrD.cs := by rw [hq]; exact (ins_cells rfl hk1).2
    have e2 : k + 1 + (l.length - k) = L.length := by rw [hq]; simp; omega
    have hlt : (l.take k).length = k := by simp; omega
    have hlt2 : ((l.map AddrD.cs).take k).length = k := by simp; omega
    have hC := impl_copyAddrs (l.take k) (by omega)
    rw [hlt] at hC
    simp only [AddrD.cs] at e1
    refine den_drawC [(3, 5), (3, 9), (5, 9), (6, 9)] [[0, 1, 2, 4, 7, 8, 3, 5, 6, 9, 10, 11], [0, 1, 2, 4, 7, 8, 3, 5, 9, 6, 10, 11], [0, 1, 2, 4, 7, 8, 3, 9, 5, 6, 10, 11], [0, 1, 2, 4, 7, 8, 9, 3, 5, 6, 10, 11], [0, 1, 2, 4, 7, 8, 5, 3, 6, 9, 10, 11], [0, 1, 2, 4, 7, 8, 5, 3, 9, 6, 10, 11], [0, 1, 2, 4, 7, 8, 5, 9, 3, 6, 10, 11], [0, 1, 2, 4, 7, 8, 9, 5, 3, 6, 10, 11]] (by kernel_rfl) (qC) (by kernel_rfl) ?_
    simp only [allDn]
    refine ⟨runD_den 400 ?_, runD_den 400 ?_, runD_den 400 ?_, runD_den 400 ?_, runD_den 400 ?_, runD_den 400 ?_, runD_den 400 ?_, runD_den 400 ?_⟩
    all_goals simp (disch := omega) only [go_sem, Nat.reduceEqDiff, Nat.reduceAdd, Nat.reduceSub, Int.reduceAdd, Int.reduceSub, Int.reduceToNat]
    all_goals
     refine qKD (hC) [some (0, some 0)] ?_
     refine ⟨qC, run_den 400 ?_⟩
     try simp (disch := omega) only [go_sem, Nat.reduceEqDiff, Nat.reduceAdd, Nat.reduceSub, Int.reduceAdd, Int.reduceSub, Int.reduceToNat, e1, e2]
     refine qK (hO) (qA [6]) ?_
     refine qB (fun h9 => ?_) fun h9 => ?_
     ·rw [hf h9]
      refine qX ?_
      refine qK (impl_copyAddrs l (by omega)) (qA [0]) ?_
      exact qF (qA [0, 7])
     ·rw [ht h9]
      refine qX ?_
      exact qF (qA [0, 6])
 ·obtain ⟨n, hk⟩ := Int.eq_ofNat_of_zero_le hb0
  have hn : n < l.length := by omega
  have e := addr_set l n a
  simp only [AddrD.cs] at e
  rw [hLt n hk] at hO ht hf
  rw [List.length_set] at hO
  rw [hk]
  try simp (disch := omega) only [go_sem, Nat.reduceEqDiff, Nat.reduceAdd, Nat.reduceSub, Int.reduceAdd, Int.reduceSub, Int.reduceToNat, e]
  refine qK (hO) (qA [2]) ?_
  refine qB (fun h1 => ?_) fun h1 => ?_
  ·rw [hf h1]
   refine qX ?_
   refine qK (impl_copyAddrs l (by omega)) (qA [0]) ?_
   exact qF (qA [0, 3])
  ·rw [ht h1]
   try simp only [List.length_set]
   refine qX ?_
   exact qF (qA [0, 2])
theorem spec_PutAddr (l : List AddrD) (a : AddrD) (hl : l.length ≤ 1000000) : CallA Tryz.prog 221 [.sc (.sl 0 0 l.length), .ag a.cs] [some ⟨l.map AddrD.cs, 4, 95, false, true⟩]
  (.tu [.sc (.sl 1 0 (putAddr l a).1.length), .sc (.bo (putAddr l a).2)]) [some ⟨l.map AddrD.cs, 4, 95, false, true⟩, some ⟨(putAddr l a).1.map AddrD.cs, 4, 95, true, true⟩] := by
 have hA := spec_AddrAt l a.id (by omega)
 have hbd := addrAt_bd l a.id
 have hO := spec_AddrsOk (putAddrL l a) (by have := putAddrL_len l a; omega)
 have hll := putAddrL_len l a
 have hLt := fun k => @putAddrL_t l a k
 have hLf := fun k => @putAddrL_f l a k
 have ht := putAddr_t (l := l) (a := a)
 have hf := putAddr_f (l := l) (a := a)
 have hbig := putAddr_big (l := l) (a := a)
 generalize putAddrL l a = L at *
 generalize putAddr l a = R at *
 refine qE Tryz.func221 Tryz.ntmps221 Tryz.results221 fun E hE => ?_
 refine qB (fun h0 => ?_) fun h0 => ?_
 ·rw [hbig (by omega)]
  refine qX ?_
  exact qF (qA [0, 3])
 ·refine qX ?_
  refine qK (hA) (qA [0]) ?_
  rcases hbd with hat | ⟨hb0, hb1⟩
  ·rw [hat]
   refine qX ?_
   refine den_lp 1 hE (fun s (k : Nat) => s.at [1, 9, 10, 11, 12, 13, 14, 15, 16, 17, 18, 19, 20, 21, 22, 23, 24, 25, 26, 27, 28, 29, 30, 31, 32, 33, 34, 35, 36, 37, 38, 39, 40, 41, 42, 43, 44] [(8, .sc (.int .i64 (k : Nat)))] (s.hp)) (fun (k : Nat) => k ≤ l.length ∧ k + ((l.drop k).takeWhile (fun b => decide (b.id < a.id))).length = lowN l a.id) (fun (k : Nat) => l.length - k) 0 (qA [0, 1, 2, 3, 4, 5]) (qC) (⟨Nat.zero_le _, by simp [lowN]⟩) (weak_mk (by rfl) (by rfl) ?_) fun k hk N hN => ?_
   ·exact qY
   ·obtain ⟨hk1, hk2⟩ := hk
    refine qR ?_
    refine qD [0, 1, 2, 3, 4, 5, 6, 7, 8, 9, 10, 11, 12, 13] ?_
    refine qB (fun h => ?_) fun h => ?_
    ·refine ⟨qC, run_den 400 ?_⟩
     rw [tw_step h] at hk2
     refine qX ?_
     refine qB (fun h2 => ?_) fun h2 => ?_
     ·rw [if_pos (by simp [h2])] at hk2
      exact qN hN (k + 1) (qA [0, 1, 2, 3, 4, 5]) (by (try dsimp only); exact ⟨by omega, by omega⟩)
     ·rw [if_neg (by simp; omega)] at hk2
      have hq := hLf k hat (by omega)
      have e1 : (l.take k).map AddrD.cs ++ [a.cs] ++ ((l.map AddrD.cs).drop k).take (l.length - k) = L.map AddrD.cs := by rw [hq]; exact (ins_cells rfl hk1).2
      have e2 : k + 1 + (l.length - k) = L.length := by rw [hq]; simp; omega
      have hlt : (l.take k).length = k := by simp; omega
      have hlt2 : ((l.map AddrD.cs).take k).length = k := by simp; omega
      have e3 : ((l.map AddrD.cs).take k) = (l.take k).map AddrD.cs := List.map_take.symm
      simp only [AddrD.cs] at e1
      refine den_drawC [(0, 5), (0, 6), (4, 5), (4, 6)] [[1, 2, 3, 0, 4, 5, 6, 7, 8], [1, 2, 3, 0, 5, 4, 6, 7, 8], [1, 2, 3, 0, 5, 6, 4, 7, 8], [1, 2, 3, 5, 0, 4, 6, 7, 8], [1, 2, 3, 5, 0, 6, 4, 7, 8], [1, 2, 3, 5, 6, 0, 4, 7, 8]] (by kernel_rfl) (qC) (by kernel_rfl) ?_
      simp only [allDn]
      refine ⟨runD_den 400 ?_, runD_den 400 ?_, runD_den 400 ?_, runD_den 400 ?_, runD_den 400 ?_, runD_den 400 ?_⟩
      all_goals simp (disch := omega) only [go_sem, Nat.reduceEqDiff, Nat.reduceAdd, Nat.reduceSub, Int.reduceAdd, Int.reduceSub, Int.reduceToNat]
      all_goals
       refine ⟨qC, run_den 400 ?_⟩
       try simp (disch := omega) only [go_sem, Nat.reduceEqDiff, Nat.reduceAdd, Nat.reduceSub, Int.reduceAdd, Int.reduceSub, Int.reduceToNat, e1, e2, e3]
       refine qK (hO) (qA [10]) ?_
       refine qB (fun h9 => ?_) fun h9 => ?_
       ·rw [hf h9]
        refine qX ?_
        exact qF (qA [0, 3])
       ·rw [ht h9]
        refine qX ?_
        exact qF (qA [0, 10])
    ·refine ⟨qC, run_den 400 ?_⟩
     rw [tw_end (by omega)] at hk2
     refine qX ?_
     have hq := hLf k hat (by omega)
     have e1 : (l.take k).map AddrD.cs ++ [a.cs] ++ ((l.map AddrD.cs).drop k).take (l.length - k) = L.map AddrD.cs := by rw [hq]; exact (ins_cells rfl hk1).2
     have e2 : k + 1 + (l.length - k) = L.length := by rw [hq]; simp; omega
     have hlt : (l.take k).length = k := by simp; omega
     have hlt2 : ((l.map AddrD.cs).take k).length = k := by simp; omega
     have e3 : ((l.map AddrD.cs).take k) = (l.take k).map AddrD.cs := List.map_take.symm
     simp only [AddrD.cs] at e1
     refine den_drawC [(0, 5), (0, 6), (4, 5), (4, 6)] [[1, 2, 3, 0, 4, 5, 6, 7, 8], [1, 2, 3, 0, 5, 4, 6, 7, 8], [1, 2, 3, 0, 5, 6, 4, 7, 8], [1, 2, 3, 5, 0, 4, 6, 7, 8], [1, 2, 3, 5, 0, 6, 4, 7, 8], [1, 2, 3, 5, 6, 0, 4, 7, 8]] (by kernel_rfl) (qC) (by kernel_rfl) ?_
     simp only [allDn]
     refine ⟨runD_den 400 ?_, runD_den 400 ?_, runD_den 400 ?_, runD_den 400 ?_, runD_den 400 ?_, runD_den 400 ?_⟩
     all_goals simp (disch := omega) only [go_sem, Nat.reduceEqDiff, Nat.reduceAdd, Nat.reduceSub, Int.reduceAdd, Int.reduceSub, Int.reduceToNat]
     all_goals
      refine ⟨qC, run_den 400 ?_⟩
      try simp (disch := omega) only [go_sem, Nat.reduceEqDiff, Nat.reduceAdd, Nat.reduceSub, Int.reduceAdd, Int.reduceSub, Int.reduceToNat, e1, e2, e3]
      refine qK (hO) (qA [10]) ?_
      refine qB (fun h9 => ?_) fun h9 => ?_
      ·rw [hf h9]
       refine qX ?_
       exact qF (qA [0, 3])
      ·rw [ht h9]
       refine qX ?_
       exact qF (qA [0, 10])
  ·obtain ⟨n, hk⟩ := Int.eq_ofNat_of_zero_le hb0
   have hn : n < l.length := by omega
   have e := addr_set l n a
   simp only [AddrD.cs] at e
   rw [hLt n hk] at hO ht hf
   rw [List.length_set] at hO
   rw [hk]
   try simp (disch := omega) only [go_sem, Nat.reduceEqDiff, Nat.reduceAdd, Nat.reduceSub, Int.reduceAdd, Int.reduceSub, Int.reduceToNat, e]
   refine qK (hO) (qA [5]) ?_
   refine qB (fun h1 => ?_) fun h1 => ?_
   ·rw [hf h1]
    refine qX ?_
    exact qF (qA [0, 3])
   ·rw [ht h1]
    try simp only [List.length_set]
    refine qX ?_
    exact qF (qA [0, 5])
end
section
open Go.RowKit

theorem impl_HearJoinBack (e : EndD) (x : LetterD) (hs : Small e) : CallA Tryz.prog 126 [.ag (e.cs 0), .ag x.cs] (e.hp false) (.tu [.ag ((hearJoinBack e x).1.cs 7), .sc (.sl 14 0 (hearJoinBack e x).2.length)])
  (e.hp false ++ ((hearJoinBack e x).1.hp true ++ [some ⟨(hearJoinBack e x).2.map LetterD.cs, 19, 70, true, true⟩])) := by
 have hC := impl_copyEnd e (by have := hs.own; omega) (by have := hs.far; omega) (by have := hs.subs; omega) (by have := hs.halfs; omega) (by have := hs.list; omega) (by have := hs.done; omega) (by have := hs.over; omega)
 have hK := impl_EndOk e (by have := hs.own; omega) (by have := hs.far; omega) (by have := hs.subs; omega) (by have := hs.halfs; omega) (by have := hs.list; omega) (by have := hs.done; omega) (by have := hs.over; omega)
 have hS := impl_SubAt e (roadOf x) (by have := hs.subs; omega)
 have hL := impl_LetterOk x
 have hbd := subAt_bd e.subs (roadOf x)
 have hf := jb_f (e := e) (x := x)
 have ht := fun (n : Nat) => @jb_t e x n
 generalize hearJoinBack e x = R at *
 refine qE Tryz.func126 Tryz.ntmps126 Tryz.results126 fun E hE => ?_
 refine qK (hC) (qA [0, 1, 2, 3, 4, 5, 6]) ?_
 refine qD [0, 1, 2, 3, 4] ?_
 refine qKD (impl_RoadOf x) [] ?_
 refine qKD (hS) (qA [0, 1, 2, 3, 4, 5, 6]) ?_
 refine qG ?_
 rcases hbd with hk | ⟨hb0, hb1⟩
 ·rw [hf (jb_no hk), hk]
  refine qD [0, 1, 2, 3, 4, 5, 6, 7, 8, 9, 10, 11, 12, 13, 14, 15, 16, 17, 18, 19, 20, 21, 22, 23, 24, 25, 26, 27, 28, 29, 30, 31, 32, 33, 34, 35, 36, 37, 38, 39, 40, 41, 42, 43] ?_
  refine qKD (hK) (qA [0, 1, 2, 3, 4, 5, 6]) ?_
  refine qB (fun h1 => ?_) fun h1 => ?_
  ·refine qKD (hL) [] ?_
   refine qB (fun h2 => ?_) fun h2 => ?_
   ·refine qB (fun h3 => ?_) fun h3 => ?_
    ·refine qG ?_
     exact qF [some (0, none), some (1, none), some (2, none), some (3, none), some (4, none), some (5, none), some (6, none), some (10, none), some (11, none), some (12, none), some (13, none), some (14, none), some (15, none), some (16, none), none]
    ·refine qG ?_
     exact qF [some (0, none), some (1, none), some (2, none), some (3, none), some (4, none), some (5, none), some (6, none), some (10, none), some (11, none), some (12, none), some (13, none), some (14, none), some (15, none), some (16, none), none]
   ·refine qG ?_
    exact qF [some (0, none), some (1, none), some (2, none), some (3, none), some (4, none), some (5, none), some (6, none), some (10, none), some (11, none), some (12, none), some (13, none), some (14, none), some (15, none), some (16, none), none]
  ·refine qG ?_
   exact qF [some (0, none), some (1, none), some (2, none), some (3, none), some (4, none), some (5, none), some (6, none), some (10, none), some (11, none), some (12, none), some (13, none), some (14, none), some (15, none), some (16, none), none]
 ·obtain ⟨n, hk⟩ := Int.eq_ofNat_of_zero_le hb0
  have hn : n < e.subs.length := by omega
  have ha := jb_at hk hn
  have hcmp := TagD.cmp x.tag ⟨1, e.peer, e.key, x.nonce, e.subs[n].mine⟩
  simp only [TagD.cs, go_sem] at hcmp
  rw [hk]
  refine qD [0, 1, 2, 3, 4, 5, 6, 7, 8, 9, 10, 11, 12, 13, 14, 15, 16, 17, 18, 19, 20, 21, 22, 23, 24, 25, 26, 27, 28, 29, 30, 31, 32, 33, 34, 35, 36, 37, 38, 39, 40, 41, 42, 43] ?_
  refine qKD (hK) (qA [0, 1, 2, 3, 4, 5, 6]) ?_
  refine qB (fun h1 => ?_) fun h1 => ?_
  ·refine qKD (hL) [] ?_
   refine qB (fun h2 => ?_) fun h2 => ?_
   ·refine qB (fun h3 => ?_) fun h3 => ?_
    ·refine qB (fun h4 => ?_) fun h4 => ?_
     ·refine qKD (impl_TagBack _ _ _ _) [] ?_
      refine ⟨qC, run_den 400 ?_⟩
      try simp (disch := omega) only [go_sem, Nat.reduceEqDiff, Nat.reduceAdd, Nat.reduceSub, Int.reduceAdd, Int.reduceSub, Int.reduceToNat, hcmp]
      refine qB (fun h5 => ?_) fun h5 => ?_
      ·rw [hf (by rw [ha]; simp [h1, h2, h3, h4, h5])]
       refine qX ?_
       exact qF [some (0, none), some (1, none), some (2, none), some (3, none), some (4, none), some (5, none), some (6, none), some (10, none), some (11, none), some (12, none), some (13, none), some (14, none), some (15, none), some (16, none), none]
      ·rw [ht _ (by rw [ha]; simp [h1, h2, h3, h4, h5]) hk hn]
       refine qX ?_
       refine den_drawC [(6, 7)] [[0, 1, 2, 3, 4, 5, 6, 7, 8], [0, 1, 2, 3, 4, 5, 7, 6, 8]] (by kernel_rfl) (qC) (by kernel_rfl) ?_
       simp only [allDn]
       refine ⟨runD_den 400 ?_, runD_den 400 ?_⟩
       all_goals simp (disch := omega) only [go_sem, Nat.reduceEqDiff, Nat.reduceAdd, Nat.reduceSub, Int.reduceAdd, Int.reduceSub, Int.reduceToNat]
       all_goals
        refine qKD (impl_doneLetter e (jbSub e.subs[n] x)) (qA [0, 1, 2, 3, 4, 5, 6]) ?_
        refine qG ?_
        refine den_fin (qA [0, 1, 2, 3, 4, 5, 6, 10, 11, 12, 13, 14, 15, 16, 18]) (qC) _ (by simp only [go_sem]; rfl) (by rfl) (by rfl) ?_
        simp (disch := omega) only [go_sem, Nat.reduceEqDiff, Nat.reduceAdd, Nat.reduceSub, Int.reduceAdd, Int.reduceSub, Int.reduceToNat]
        try simp [List.map_set, SubD.cs, jbSub, doneLetter, between, LetterD.cs]
     ·rw [hf (by rw [ha]; simp [h1, h2, h3, h4])]
      refine qG ?_
      exact qF [some (0, none), some (1, none), some (2, none), some (3, none), some (4, none), some (5, none), some (6, none), some (10, none), some (11, none), some (12, none), some (13, none), some (14, none), some (15, none), some (16, none), none]
    ·rw [hf (by rw [ha]; simp [h1, h2, h3])]
     refine qG ?_
     exact qF [some (0, none), some (1, none), some (2, none), some (3, none), some (4, none), some (5, none), some (6, none), some (10, none), some (11, none), some (12, none), some (13, none), some (14, none), some (15, none), some (16, none), none]
   ·rw [hf (by rw [ha]; simp [h1, h2])]
    refine qG ?_
    exact qF [some (0, none), some (1, none), some (2, none), some (3, none), some (4, none), some (5, none), some (6, none), some (10, none), some (11, none), some (12, none), some (13, none), some (14, none), some (15, none), some (16, none), none]
  ·rw [hf (by rw [ha]; simp [h1])]
   refine qG ?_
   exact qF [some (0, none), some (1, none), some (2, none), some (3, none), some (4, none), some (5, none), some (6, none), some (10, none), some (11, none), some (12, none), some (13, none), some (14, none), some (15, none), some (16, none), none]
theorem spec_HearJoinBack (e : EndD) (x : LetterD) (hs : Small e) : CallA Tryz.prog 97 [.ag (e.cs 0), .ag x.cs] (e.hp false) (.tu [.ag ((hearJoinBack e x).1.cs 7), .sc (.sl 14 0 (hearJoinBack e x).2.length)])
  (e.hp false ++ ((hearJoinBack e x).1.hp true ++ [some ⟨(hearJoinBack e x).2.map LetterD.cs, 19, 70, true, true⟩])) := by
 have hC := spec_l17Copy e (by have := hs.own; omega) (by have := hs.far; omega) (by have := hs.subs; omega) (by have := hs.halfs; omega) (by have := hs.list; omega) (by have := hs.done; omega) (by have := hs.over; omega)
 have hK := spec_EndOk e (by have := hs.own; omega) (by have := hs.far; omega) (by have := hs.subs; omega) (by have := hs.halfs; omega) (by have := hs.list; omega) (by have := hs.done; omega) (by have := hs.over; omega)
 have hS := spec_SubAt e (roadOf x) (by have := hs.subs; omega)
 have hL := spec_LetterOk x
 have hbd := subAt_bd e.subs (roadOf x)
 have hf := jb_f (e := e) (x := x)
 have ht := fun (n : Nat) => @jb_t e x n
 generalize hearJoinBack e x = R at *
 refine qE Tryz.func97 Tryz.ntmps97 Tryz.results97 fun E hE => ?_
 refine qK (hC) (qA [0, 1, 2, 3, 4, 5, 6]) ?_
 refine qD [0, 1, 2, 3, 4] ?_
 refine qKD (spec_RoadOf x) [] ?_
 refine qKD (hS) (qA [0, 1, 2, 3, 4, 5, 6]) ?_
 refine qG ?_
 rcases hbd with hk | ⟨hb0, hb1⟩
 ·rw [hf (jb_no hk), hk]
  refine qD [0, 1, 2, 3, 4, 5, 6, 7, 8, 9, 10, 11, 12, 13, 14, 15, 16, 17, 18, 19, 20, 21, 22, 23, 24, 25, 26, 27, 28, 29, 30, 31, 32, 33, 34, 35, 36, 37, 38, 39, 40, 41, 42, 43] ?_
  refine qKD (hK) (qA [0, 1, 2, 3, 4, 5, 6]) ?_
  refine qB (fun h1 => ?_) fun h1 => ?_
  ·refine qKD (hL) [] ?_
   refine qB (fun h2 => ?_) fun h2 => ?_
   ·refine qB (fun h3 => ?_) fun h3 => ?_
    ·refine qG ?_
     exact qF (qA [0, 1, 2, 3, 4, 5, 6, 10, 11, 12, 13, 14, 15, 16, 18])
    ·refine qG ?_
     exact qF (qA [0, 1, 2, 3, 4, 5, 6, 10, 11, 12, 13, 14, 15, 16, 18])
   ·refine qG ?_
    exact qF (qA [0, 1, 2, 3, 4, 5, 6, 10, 11, 12, 13, 14, 15, 16, 18])
  ·refine qG ?_
   exact qF (qA [0, 1, 2, 3, 4, 5, 6, 10, 11, 12, 13, 14, 15, 16, 18])
 ·obtain ⟨n, hk⟩ := Int.eq_ofNat_of_zero_le hb0
  have hn : n < e.subs.length := by omega
  have ha := jb_at hk hn
  have hcmp := TagD.cmp x.tag ⟨1, e.peer, e.key, x.nonce, e.subs[n].mine⟩
  simp only [TagD.cs, go_sem] at hcmp
  rw [hk]
  refine qD [0, 1, 2, 3, 4, 5, 6, 7, 8, 9, 10, 11, 12, 13, 14, 15, 16, 17, 18, 19, 20, 21, 22, 23, 24, 25, 26, 27, 28, 29, 30, 31, 32, 33, 34, 35, 36, 37, 38, 39, 40, 41, 42, 43] ?_
  refine qKD (hK) (qA [0, 1, 2, 3, 4, 5, 6]) ?_
  refine qB (fun h1 => ?_) fun h1 => ?_
  ·refine qKD (hL) [] ?_
   refine qB (fun h2 => ?_) fun h2 => ?_
   ·refine qB (fun h3 => ?_) fun h3 => ?_
    ·refine qB (fun h4 => ?_) fun h4 => ?_
     ·refine qKD (spec_TagBack _ _ _ _) [] ?_
      refine ⟨qC, run_den 400 ?_⟩
      try simp (disch := omega) only [go_sem, Nat.reduceEqDiff, Nat.reduceAdd, Nat.reduceSub, Int.reduceAdd, Int.reduceSub, Int.reduceToNat, hcmp]
      refine qB (fun h5 => ?_) fun h5 => ?_
      ·rw [hf (by rw [ha]; simp [h1, h2, h3, h4, h5])]
       refine qX ?_
       exact qF (qA [0, 1, 2, 3, 4, 5, 6, 10, 11, 12, 13, 14, 15, 16, 18])
      ·rw [ht _ (by rw [ha]; simp [h1, h2, h3, h4, h5]) hk hn]
       refine qX ?_
       refine den_drawC [(0, 10), (8, 0), (9, 0)] [[1, 2, 3, 4, 5, 6, 7, 8, 9, 0, 10, 11, 12], [1, 2, 3, 4, 5, 6, 7, 8, 0, 9, 10, 11, 12], [1, 2, 3, 4, 5, 6, 7, 0, 8, 9, 10, 11, 12], [1, 2, 3, 4, 5, 6, 7, 8, 9, 10, 0, 11, 12]] (by kernel_rfl) (qC) (by kernel_rfl) ?_
       simp only [allDn]
       refine ⟨runD_den 400 ?_, runD_den 400 ?_, runD_den 400 ?_, runD_den 400 ?_⟩
       all_goals simp (disch := omega) only [go_sem, Nat.reduceEqDiff, Nat.reduceAdd, Nat.reduceSub, Int.reduceAdd, Int.reduceSub, Int.reduceToNat]
       all_goals
        refine qKD (spec_l19Proves { e with subs := e.subs.set n (jbSub e.subs[n] x) } (jbSub e.subs[n] x)) (qA [10, 11, 12, 13, 14, 15, 16]) ?_
        refine qG ?_
        refine den_fin (qA [0, 1, 2, 3, 4, 5, 6, 10, 11, 12, 13, 14, 15, 16, 20]) (qC) _ (by simp only [go_sem]; rfl) (by rfl) (by rfl) ?_
        simp (disch := omega) only [go_sem, Nat.reduceEqDiff, Nat.reduceAdd, Nat.reduceSub, Int.reduceAdd, Int.reduceSub, Int.reduceToNat]
        try simp [List.map_set, SubD.cs, jbSub, doneLetter, between, LetterD.cs]
     ·rw [hf (by rw [ha]; simp [h1, h2, h3, h4])]
      refine qG ?_
      exact qF (qA [0, 1, 2, 3, 4, 5, 6, 10, 11, 12, 13, 14, 15, 16, 18])
    ·rw [hf (by rw [ha]; simp [h1, h2, h3])]
     refine qG ?_
     exact qF (qA [0, 1, 2, 3, 4, 5, 6, 10, 11, 12, 13, 14, 15, 16, 18])
   ·rw [hf (by rw [ha]; simp [h1, h2])]
    refine qG ?_
    exact qF (qA [0, 1, 2, 3, 4, 5, 6, 10, 11, 12, 13, 14, 15, 16, 18])
  ·rw [hf (by rw [ha]; simp [h1])]
   refine qG ?_
   exact qF (qA [0, 1, 2, 3, 4, 5, 6, 10, 11, 12, 13, 14, 15, 16, 18])
end
section
open Go.RowKit

theorem impl_HearJoinDone (e : EndD) (x : LetterD) (hs : Small e) : CallA Tryz.prog 127 [.ag (e.cs 0), .ag x.cs] (e.hp false) (.tu [.ag ((hearJoinDone e x).1.cs 7), .sc (.sl 14 0 (hearJoinDone e x).2.length)])
  (e.hp false ++ ((hearJoinDone e x).1.hp true ++ [some ⟨(hearJoinDone e x).2.map LetterD.cs, 19, 70, true, true⟩])) := by
 have hC := impl_copyEnd e (by have := hs.own; omega) (by have := hs.far; omega) (by have := hs.subs; omega) (by have := hs.halfs; omega) (by have := hs.list; omega) (by have := hs.done; omega) (by have := hs.over; omega)
 have hK := impl_EndOk e (by have := hs.own; omega) (by have := hs.far; omega) (by have := hs.subs; omega) (by have := hs.halfs; omega) (by have := hs.list; omega) (by have := hs.done; omega) (by have := hs.over; omega)
 have hS := impl_SubAt e (roadOf x) (by have := hs.subs; omega)
 have hH := impl_HalfAt e.halfs (roadOf x) (by have := hs.halfs; omega)
 have hD := impl_DropHalf e.halfs (roadOf x) (by have := hs.halfs; omega)
 have hL := impl_LetterOk x
 have hbS := subAt_bd e.subs (roadOf x)
 have hbH := halfAt_bd e.halfs (roadOf x)
 have hf := jd_f (e := e) (x := x)
 have hf2 := jd_f2 (e := e) (x := x)
 have hb := fun n => @jd_b e x n
 have ha1 := fun i n => @jd_a1 e x i n
 have ha2 := fun i => @jd_a2 e x i
 generalize hearJoinDone e x = R at *
 refine qE Tryz.func127 Tryz.ntmps127 Tryz.results127 fun E hE => ?_
 refine qK (hC) (qA [0, 1, 2, 3, 4, 5, 6]) ?_
 refine qK (hK) (qA [0, 1, 2, 3, 4, 5, 6]) ?_
 refine qB (fun h1 => ?_) fun h1 => ?_
 ·refine qK (hL) [] ?_
  refine qB (fun h2 => ?_) fun h2 => ?_
  ·refine qB (fun h3 => ?_) fun h3 => ?_
   ·rw [hf (by simp [jdIn, h1, h2, h3])]
    refine qX ?_
    exact qF [some (0, none), some (1, none), some (2, none), some (3, none), some (4, none), some (5, none), some (6, none), some (10, none), some (11, none), some (12, none), some (13, none), some (14, none), some (15, none), some (16, none), none]
   ·have hin : jdIn e x = true := by simp [jdIn, h1, h2, h3]
    refine qX ?_
    refine qK (impl_RoadOf x) [] ?_
    refine qK (hH) (qA [3]) ?_
    refine qK (hS) (qA [0, 1, 2, 3, 4, 5, 6]) ?_
    rcases hbS with hk | ⟨hk0, hk1⟩
    ·rcases hbH with hi | ⟨hi0, hi1⟩
     ·rw [hi]
      rw [hk]
      refine qX ?_
      refine qD [0, 1, 2, 3, 4, 5, 6, 7, 8, 9, 10, 11, 12, 13, 14, 15, 16, 17, 18, 19, 20, 21, 22, 23, 24, 25, 26, 27, 28, 29] ?_
      refine qG ?_
      rw [hf2 hin (jdA_no hi) (jdB_no hk)]
      refine qD [0, 1, 2, 3, 4, 5, 6, 7, 8, 9, 10, 11, 12, 13, 14, 15, 16, 17, 18, 19, 20, 21, 22, 23, 24, 25, 26, 27, 28, 29, 30, 31, 32] ?_
      refine qG ?_
      exact qF [some (0, none), some (1, none), some (2, none), some (3, none), some (4, none), some (5, none), some (6, none), some (10, none), some (11, none), some (12, none), some (13, none), some (14, none), some (15, none), some (16, none), none]
     ·obtain ⟨i, hi⟩ := Int.eq_ofNat_of_zero_le hi0
      have hil : i < e.halfs.length := by omega
      have hcmp := TagD.cmp x.tag ⟨2, e.peer, e.key, e.halfs[i].theirs, e.halfs[i].mine⟩
      simp only [TagD.cs, go_sem] at hcmp
      rw [hi]
      rw [hk]
      refine qX ?_
      refine qD [0, 1, 2, 3, 4, 5, 6, 7, 8, 9, 10, 11, 12, 13, 14, 15, 16, 17, 18, 19, 20, 21, 22, 23, 24, 25, 26, 27, 28, 29] ?_
      refine qB (fun h4 => ?_) fun h4 => ?_
      ·refine qKD (impl_TagDone _ _ _ _) [] ?_
       refine ⟨qC, run_den 400 ?_⟩
       try simp (disch := omega) only [go_sem, Nat.reduceEqDiff, Nat.reduceAdd, Nat.reduceSub, Int.reduceAdd, Int.reduceSub, Int.reduceToNat, hcmp]
       refine qB (fun h5 => ?_) fun h5 => ?_
       ·have hjA : jdA e x = true := by rw [jdA_at hi hil]; simp [h4, h5]; try omega
        rw [ha2 _ hin hjA hi hil hk]
        refine qX ?_
        refine qK (hD) (qA [3]) ?_
        refine qD [0, 1, 2, 3, 4, 5, 6] ?_
        refine qKD (impl_ackLetter (roadOf x) e.halfs[i].give) [] ?_
        refine qG ?_
        refine den_fin (qA [0, 1, 2, 3, 4, 5, 6, 10, 11, 21, 22, 14, 15, 16, 23]) (qC) _ (by simp only [go_sem]; rfl) (by rfl) (by rfl) ?_
        simp (disch := omega) only [go_sem, Nat.reduceEqDiff, Nat.reduceAdd, Nat.reduceSub, Int.reduceAdd, Int.reduceSub, Int.reduceToNat]
        try simp [List.map_set, SubD.cs, onSub]
       ·have hjA' : jdA e x = false := by rw [jdA_at hi hil]; simp [h5]
        refine qX ?_
        rw [hf2 hin (hjA') (jdB_no hk)]
        refine qD [0, 1, 2, 3, 4, 5, 6, 7, 8, 9, 10, 11, 12, 13, 14, 15, 16, 17, 18, 19, 20, 21, 22, 23, 24, 25, 26, 27, 28, 29, 30, 31, 32] ?_
        refine qG ?_
        exact qF [some (0, none), some (1, none), some (2, none), some (3, none), some (4, none), some (5, none), some (6, none), some (10, none), some (11, none), some (12, none), some (13, none), some (14, none), some (15, none), some (16, none), none]
      ·have hjA' : jdA e x = false := by rw [jdA_at hi hil]; simp; omega
       refine qG ?_
       rw [hf2 hin (hjA') (jdB_no hk)]
       refine qD [0, 1, 2, 3, 4, 5, 6, 7, 8, 9, 10, 11, 12, 13, 14, 15, 16, 17, 18, 19, 20, 21, 22, 23, 24, 25, 26, 27, 28, 29, 30, 31, 32] ?_
       refine qG ?_
       exact qF [some (0, none), some (1, none), some (2, none), some (3, none), some (4, none), some (5, none), some (6, none), some (10, none), some (11, none), some (12, none), some (13, none), some (14, none), some (15, none), some (16, none), none]
    ·obtain ⟨n, hk⟩ := Int.eq_ofNat_of_zero_le hk0
     have hn : n < e.subs.length := by omega
     have hrd := subAt_road hk hn
     rcases hbH with hi | ⟨hi0, hi1⟩
     ·rw [hi]
      rw [hk]
      refine qX ?_
      refine qD [0, 1, 2, 3, 4, 5, 6, 7, 8, 9, 10, 11, 12, 13, 14, 15, 16, 17, 18, 19, 20, 21, 22, 23, 24, 25, 26, 27, 28, 29] ?_
      refine qG ?_
      have hcmp2 := TagD.cmp x.tag ⟨2, e.peer, e.key, e.subs[n].theirs, e.subs[n].mine⟩
      simp only [TagD.cs, go_sem] at hcmp2
      have hjA := jdA_no hi
      refine qD [0, 1, 2, 3, 4, 5, 6, 7, 8, 9, 10, 11, 12, 13, 14, 15, 16, 17, 18, 19, 20, 21, 22, 23, 24, 25, 26, 27, 28, 29, 30, 31, 32] ?_
      refine qB (fun h6 => ?_) fun h6 => ?_
      ·refine qKD (impl_TagDone _ _ _ _) [] ?_
       refine ⟨qC, run_den 400 ?_⟩
       try simp (disch := omega) only [go_sem, Nat.reduceEqDiff, Nat.reduceAdd, Nat.reduceSub, Int.reduceAdd, Int.reduceSub, Int.reduceToNat, hcmp2]
       refine qB (fun h7 => ?_) fun h7 => ?_
       ·rw [hb _ hin hjA (by rw [jdB_at hk hn]; simp [h6, h7]) hk hn]
        refine qX ?_
        refine qD [0, 1, 2, 3, 4, 5, 6, 7, 8, 9, 10] ?_
        refine qKD (impl_ackLetter (roadOf x) e.subs[n].give) [] ?_
        refine qG ?_
        refine den_fin (qA [0, 1, 2, 3, 4, 5, 6, 10, 11, 12, 13, 14, 15, 16, 19]) (qC) _ (by simp only [go_sem]; rfl) (by rfl) (by rfl) ?_
        simp (disch := omega) only [go_sem, Nat.reduceEqDiff, Nat.reduceAdd, Nat.reduceSub, Int.reduceAdd, Int.reduceSub, Int.reduceToNat]
        try simp
       ·rw [hf2 hin hjA (by rw [jdB_at hk hn]; simp [h6, h7])]
        refine qX ?_
        exact qF [some (0, none), some (1, none), some (2, none), some (3, none), some (4, none), some (5, none), some (6, none), some (10, none), some (11, none), some (12, none), some (13, none), some (14, none), some (15, none), some (16, none), none]
      ·rw [hf2 hin hjA (by rw [jdB_at hk hn]; simp [h6])]
       refine qG ?_
       exact qF [some (0, none), some (1, none), some (2, none), some (3, none), some (4, none), some (5, none), some (6, none), some (10, none), some (11, none), some (12, none), some (13, none), some (14, none), some (15, none), some (16, none), none]
     ·obtain ⟨i, hi⟩ := Int.eq_ofNat_of_zero_le hi0
      have hil : i < e.halfs.length := by omega
      have hcmp := TagD.cmp x.tag ⟨2, e.peer, e.key, e.halfs[i].theirs, e.halfs[i].mine⟩
      simp only [TagD.cs, go_sem] at hcmp
      rw [hi]
      rw [hk]
      refine qX ?_
      refine qD [0, 1, 2, 3, 4, 5, 6, 7, 8, 9, 10, 11, 12, 13, 14, 15, 16, 17, 18, 19, 20, 21, 22, 23, 24, 25, 26, 27, 28, 29] ?_
      refine qB (fun h4 => ?_) fun h4 => ?_
      ·refine qKD (impl_TagDone _ _ _ _) [] ?_
       refine ⟨qC, run_den 400 ?_⟩
       try simp (disch := omega) only [go_sem, Nat.reduceEqDiff, Nat.reduceAdd, Nat.reduceSub, Int.reduceAdd, Int.reduceSub, Int.reduceToNat, hcmp]
       refine qB (fun h5 => ?_) fun h5 => ?_
       ·have hjA : jdA e x = true := by rw [jdA_at hi hil]; simp [h4, h5]; try omega
        rw [ha1 _ _ hin hjA hi hil hk hn]
        refine qX ?_
        refine qK (hD) (qA [3]) ?_
        refine qD [0, 1, 2, 3, 4, 5, 6] ?_
        refine qKD (impl_ackLetter (roadOf x) e.halfs[i].give) [] ?_
        refine qG ?_
        refine den_fin (qA [0, 1, 2, 3, 4, 5, 6, 10, 11, 21, 22, 14, 15, 16, 23]) (qC) _ (by simp only [go_sem]; rfl) (by rfl) (by rfl) ?_
        simp (disch := omega) only [go_sem, Nat.reduceEqDiff, Nat.reduceAdd, Nat.reduceSub, Int.reduceAdd, Int.reduceSub, Int.reduceToNat]
        try simp [List.map_set, SubD.cs, onSub]
       ·have hjA' : jdA e x = false := by rw [jdA_at hi hil]; simp [h5]
        refine qX ?_
        have hcmp2 := TagD.cmp x.tag ⟨2, e.peer, e.key, e.subs[n].theirs, e.subs[n].mine⟩
        simp only [TagD.cs, go_sem] at hcmp2
        have hjA := hjA'
        refine qD [0, 1, 2, 3, 4, 5, 6, 7, 8, 9, 10, 11, 12, 13, 14, 15, 16, 17, 18, 19, 20, 21, 22, 23, 24, 25, 26, 27, 28, 29, 30, 31, 32] ?_
        refine qB (fun h6 => ?_) fun h6 => ?_
        ·refine qKD (impl_TagDone _ _ _ _) [] ?_
         refine ⟨qC, run_den 400 ?_⟩
         try simp (disch := omega) only [go_sem, Nat.reduceEqDiff, Nat.reduceAdd, Nat.reduceSub, Int.reduceAdd, Int.reduceSub, Int.reduceToNat, hcmp2]
         refine qB (fun h7 => ?_) fun h7 => ?_
         ·rw [hb _ hin hjA (by rw [jdB_at hk hn]; simp [h6, h7]) hk hn]
          refine qX ?_
          refine qD [0, 1, 2, 3, 4, 5, 6, 7, 8, 9, 10] ?_
          refine qKD (impl_ackLetter (roadOf x) e.subs[n].give) [] ?_
          refine qG ?_
          refine den_fin (qA [0, 1, 2, 3, 4, 5, 6, 10, 11, 12, 13, 14, 15, 16, 19]) (qC) _ (by simp only [go_sem]; rfl) (by rfl) (by rfl) ?_
          simp (disch := omega) only [go_sem, Nat.reduceEqDiff, Nat.reduceAdd, Nat.reduceSub, Int.reduceAdd, Int.reduceSub, Int.reduceToNat]
          try simp
         ·rw [hf2 hin hjA (by rw [jdB_at hk hn]; simp [h6, h7])]
          refine qX ?_
          exact qF [some (0, none), some (1, none), some (2, none), some (3, none), some (4, none), some (5, none), some (6, none), some (10, none), some (11, none), some (12, none), some (13, none), some (14, none), some (15, none), some (16, none), none]
        ·rw [hf2 hin hjA (by rw [jdB_at hk hn]; simp [h6])]
         refine qG ?_
         exact qF [some (0, none), some (1, none), some (2, none), some (3, none), some (4, none), some (5, none), some (6, none), some (10, none), some (11, none), some (12, none), some (13, none), some (14, none), some (15, none), some (16, none), none]
      ·have hjA' : jdA e x = false := by rw [jdA_at hi hil]; simp; omega
       refine qG ?_
       have hcmp2 := TagD.cmp x.tag ⟨2, e.peer, e.key, e.subs[n].theirs, e.subs[n].mine⟩
       simp only [TagD.cs, go_sem] at hcmp2
       have hjA := hjA'
       refine qD [0, 1, 2, 3, 4, 5, 6, 7, 8, 9, 10, 11, 12, 13, 14, 15, 16, 17, 18, 19, 20, 21, 22, 23, 24, 25, 26, 27, 28, 29, 30, 31, 32] ?_
       refine qB (fun h6 => ?_) fun h6 => ?_
       ·refine qKD (impl_TagDone _ _ _ _) [] ?_
        refine ⟨qC, run_den 400 ?_⟩
        try simp (disch := omega) only [go_sem, Nat.reduceEqDiff, Nat.reduceAdd, Nat.reduceSub, Int.reduceAdd, Int.reduceSub, Int.reduceToNat, hcmp2]
        refine qB (fun h7 => ?_) fun h7 => ?_
        ·rw [hb _ hin hjA (by rw [jdB_at hk hn]; simp [h6, h7]) hk hn]
         refine qX ?_
         refine qD [0, 1, 2, 3, 4, 5, 6, 7, 8, 9, 10] ?_
         refine qKD (impl_ackLetter (roadOf x) e.subs[n].give) [] ?_
         refine qG ?_
         refine den_fin (qA [0, 1, 2, 3, 4, 5, 6, 10, 11, 12, 13, 14, 15, 16, 19]) (qC) _ (by simp only [go_sem]; rfl) (by rfl) (by rfl) ?_
         simp (disch := omega) only [go_sem, Nat.reduceEqDiff, Nat.reduceAdd, Nat.reduceSub, Int.reduceAdd, Int.reduceSub, Int.reduceToNat]
         try simp
        ·rw [hf2 hin hjA (by rw [jdB_at hk hn]; simp [h6, h7])]
         refine qX ?_
         exact qF [some (0, none), some (1, none), some (2, none), some (3, none), some (4, none), some (5, none), some (6, none), some (10, none), some (11, none), some (12, none), some (13, none), some (14, none), some (15, none), some (16, none), none]
       ·rw [hf2 hin hjA (by rw [jdB_at hk hn]; simp [h6])]
        refine qG ?_
        exact qF [some (0, none), some (1, none), some (2, none), some (3, none), some (4, none), some (5, none), some (6, none), some (10, none), some (11, none), some (12, none), some (13, none), some (14, none), some (15, none), some (16, none), none]
  ·rw [hf (by simp [jdIn, h2])]
   refine qX ?_
   exact qF [some (0, none), some (1, none), some (2, none), some (3, none), some (4, none), some (5, none), some (6, none), some (10, none), some (11, none), some (12, none), some (13, none), some (14, none), some (15, none), some (16, none), none]
 ·rw [hf (by simp [jdIn, h1])]
  refine qX ?_
  exact qF [some (0, none), some (1, none), some (2, none), some (3, none), some (4, none), some (5, none), some (6, none), some (10, none), some (11, none), some (12, none), some (13, none), some (14, none), some (15, none), some (16, none), none]

theorem spec_HearJoinDone (e : EndD) (x : LetterD) (hs : Small e) : CallA Tryz.prog 98 [.ag (e.cs 0), .ag x.cs] (e.hp false) (.tu [.ag ((hearJoinDone e x).1.cs 7), .sc (.sl 14 0 (hearJoinDone e x).2.length)])
  (e.hp false ++ ((hearJoinDone e x).1.hp true ++ [some ⟨(hearJoinDone e x).2.map LetterD.cs, 19, 70, true, true⟩])) := by
 have hC := spec_l17Copy e (by have := hs.own; omega) (by have := hs.far; omega) (by have := hs.subs; omega) (by have := hs.halfs; omega) (by have := hs.list; omega) (by have := hs.done; omega) (by have := hs.over; omega)
 have hK := spec_EndOk e (by have := hs.own; omega) (by have := hs.far; omega) (by have := hs.subs; omega) (by have := hs.halfs; omega) (by have := hs.list; omega) (by have := hs.done; omega) (by have := hs.over; omega)
 have hS := spec_SubAt e (roadOf x) (by have := hs.subs; omega)
 have hH := spec_HalfAt e.halfs (roadOf x) (by have := hs.halfs; omega)
 have hD := spec_DropHalf e.halfs (roadOf x) (by have := hs.halfs; omega)
 have hL := spec_LetterOk x
 have hbS := subAt_bd e.subs (roadOf x)
 have hbH := halfAt_bd e.halfs (roadOf x)
 have hf := jd_f (e := e) (x := x)
 have hf2 := jd_f2 (e := e) (x := x)
 have hb := fun n => @jd_b e x n
 have ha1 := fun i n => @jd_a1 e x i n
 have ha2 := fun i => @jd_a2 e x i
 generalize hearJoinDone e x = R at *
 refine qE Tryz.func98 Tryz.ntmps98 Tryz.results98 fun E hE => ?_
 refine qK (hC) (qA [0, 1, 2, 3, 4, 5, 6]) ?_
 refine qK (spec_RoadOf x) [] ?_
 refine qK (hK) (qA [0, 1, 2, 3, 4, 5, 6]) ?_
 refine qB (fun h1 => ?_) fun h1 => ?_
 ·refine qK (hL) [] ?_
  refine qB (fun h2 => ?_) fun h2 => ?_
  ·refine qB (fun h3 => ?_) fun h3 => ?_
   ·rw [hf (by simp [jdIn, h1, h2, h3])]
    refine qX ?_
    exact qF (qA [0, 1, 2, 3, 4, 5, 6, 10, 11, 12, 13, 14, 15, 16, 18])
   ·have hin : jdIn e x = true := by simp [jdIn, h1, h2, h3]
    refine qX ?_
    refine qK (hH) (qA [3]) ?_
    refine qK (hS) (qA [0, 1, 2, 3, 4, 5, 6]) ?_
    rcases hbS with hk | ⟨hk0, hk1⟩
    ·rcases hbH with hi | ⟨hi0, hi1⟩
     ·rw [hi]
      rw [hk]
      refine qX ?_
      refine qD [0, 1, 2, 3, 4, 5, 6, 7, 8, 9, 10, 11, 12, 13, 14, 15, 16, 17, 18, 19, 20, 21, 22, 23, 24, 25, 26, 27, 28, 29] ?_
      refine qG ?_
      rw [hf2 hin (jdA_no hi) (jdB_no hk)]
      refine qD [0, 1, 2, 3, 4, 5, 6, 7, 8, 9, 10, 11, 12, 13, 14, 15, 16, 17, 18, 19, 20, 21, 22, 23, 24, 25, 26, 27, 28, 29, 30, 31, 32] ?_
      refine qG ?_
      exact qF (qA [0, 1, 2, 3, 4, 5, 6, 10, 11, 12, 13, 14, 15, 16, 18])
     ·obtain ⟨i, hi⟩ := Int.eq_ofNat_of_zero_le hi0
      have hil : i < e.halfs.length := by omega
      have hcmp := TagD.cmp x.tag ⟨2, e.peer, e.key, e.halfs[i].theirs, e.halfs[i].mine⟩
      simp only [TagD.cs, go_sem] at hcmp
      rw [hi]
      rw [hk]
      refine qX ?_
      refine qD [0, 1, 2, 3, 4, 5, 6, 7, 8, 9, 10, 11, 12, 13, 14, 15, 16, 17, 18, 19, 20, 21, 22, 23, 24, 25, 26, 27, 28, 29] ?_
      refine qB (fun h4 => ?_) fun h4 => ?_
      ·refine qKD (spec_TagDone _ _ _ _) [] ?_
       refine ⟨qC, run_den 400 ?_⟩
       try simp (disch := omega) only [go_sem, Nat.reduceEqDiff, Nat.reduceAdd, Nat.reduceSub, Int.reduceAdd, Int.reduceSub, Int.reduceToNat, hcmp]
       refine qB (fun h5 => ?_) fun h5 => ?_
       ·have hjA : jdA e x = true := by rw [jdA_at hi hil]; simp [h4, h5]; try omega
        rw [ha2 _ hin hjA hi hil hk]
        refine qX ?_
        refine qK (spec_l18Sub { e with subs := e.subs } (onSub (roadOf x) e.halfs[i]) (by have := endOk_subs h1; simp; omega)) (qA [10, 11, 12, 13, 14, 15, 16]) ?_
        refine qK (hD) (qA [13]) ?_
        refine den_drawC [(0, 5), (3, 0), (4, 0)] [[1, 2, 3, 4, 0, 5, 6, 7], [1, 2, 3, 0, 4, 5, 6, 7], [1, 2, 0, 3, 4, 5, 6, 7], [1, 2, 3, 4, 5, 0, 6, 7]] (by kernel_rfl) (qC) (by kernel_rfl) ?_
        simp only [allDn]
        refine ⟨runD_den 400 ?_, runD_den 400 ?_, runD_den 400 ?_, runD_den 400 ?_⟩
        all_goals simp (disch := omega) only [go_sem, Nat.reduceEqDiff, Nat.reduceAdd, Nat.reduceSub, Int.reduceAdd, Int.reduceSub, Int.reduceToNat]
        all_goals
         refine qKD (spec_l19Ack (onSub (roadOf x) e.halfs[i])) [] ?_
         refine qG ?_
         refine den_fin (qA [0, 1, 2, 3, 4, 5, 6, 10, 11, 22, 23, 14, 15, 16, 25]) (qC) _ (by simp only [go_sem]; rfl) (by rfl) (by rfl) ?_
         simp (disch := omega) only [go_sem, Nat.reduceEqDiff, Nat.reduceAdd, Nat.reduceSub, Int.reduceAdd, Int.reduceSub, Int.reduceToNat]
         try simp [List.map_set, SubD.cs, onSub]
       ·have hjA' : jdA e x = false := by rw [jdA_at hi hil]; simp [h5]
        refine qX ?_
        rw [hf2 hin (hjA') (jdB_no hk)]
        refine qD [0, 1, 2, 3, 4, 5, 6, 7, 8, 9, 10, 11, 12, 13, 14, 15, 16, 17, 18, 19, 20, 21, 22, 23, 24, 25, 26, 27, 28, 29, 30, 31, 32] ?_
        refine qG ?_
        exact qF (qA [0, 1, 2, 3, 4, 5, 6, 10, 11, 12, 13, 14, 15, 16, 18])
      ·have hjA' : jdA e x = false := by rw [jdA_at hi hil]; simp; omega
       refine qG ?_
       rw [hf2 hin (hjA') (jdB_no hk)]
       refine qD [0, 1, 2, 3, 4, 5, 6, 7, 8, 9, 10, 11, 12, 13, 14, 15, 16, 17, 18, 19, 20, 21, 22, 23, 24, 25, 26, 27, 28, 29, 30, 31, 32] ?_
       refine qG ?_
       exact qF (qA [0, 1, 2, 3, 4, 5, 6, 10, 11, 12, 13, 14, 15, 16, 18])
    ·obtain ⟨n, hk⟩ := Int.eq_ofNat_of_zero_le hk0
     have hn : n < e.subs.length := by omega
     have hrd := subAt_road hk hn
     rcases hbH with hi | ⟨hi0, hi1⟩
     ·rw [hi]
      rw [hk]
      refine qX ?_
      refine qD [0, 1, 2, 3, 4, 5, 6, 7, 8, 9, 10, 11, 12, 13, 14, 15, 16, 17, 18, 19, 20, 21, 22, 23, 24, 25, 26, 27, 28, 29] ?_
      refine qG ?_
      have hcmp2 := TagD.cmp x.tag ⟨2, e.peer, e.key, e.subs[n].theirs, e.subs[n].mine⟩
      simp only [TagD.cs, go_sem] at hcmp2
      have hjA := jdA_no hi
      refine qD [0, 1, 2, 3, 4, 5, 6, 7, 8, 9, 10, 11, 12, 13, 14, 15, 16, 17, 18, 19, 20, 21, 22, 23, 24, 25, 26, 27, 28, 29, 30, 31, 32] ?_
      refine qB (fun h6 => ?_) fun h6 => ?_
      ·refine qKD (spec_TagDone _ _ _ _) [] ?_
       refine ⟨qC, run_den 400 ?_⟩
       try simp (disch := omega) only [go_sem, Nat.reduceEqDiff, Nat.reduceAdd, Nat.reduceSub, Int.reduceAdd, Int.reduceSub, Int.reduceToNat, hcmp2]
       refine qB (fun h7 => ?_) fun h7 => ?_
       ·rw [hb _ hin hjA (by rw [jdB_at hk hn]; simp [h6, h7]) hk hn]
        refine qX ?_
        refine den_drawC [(0, 9), (7, 0), (8, 0)] [[1, 2, 3, 4, 5, 6, 7, 8, 0, 9, 10, 11], [1, 2, 3, 4, 5, 6, 7, 0, 8, 9, 10, 11], [1, 2, 3, 4, 5, 6, 0, 7, 8, 9, 10, 11], [1, 2, 3, 4, 5, 6, 7, 8, 9, 0, 10, 11]] (by kernel_rfl) (qC) (by kernel_rfl) ?_
        simp only [allDn]
        refine ⟨runD_den 400 ?_, runD_den 400 ?_, runD_den 400 ?_, runD_den 400 ?_⟩
        all_goals simp (disch := omega) only [go_sem, Nat.reduceEqDiff, Nat.reduceAdd, Nat.reduceSub, Int.reduceAdd, Int.reduceSub, Int.reduceToNat]
        all_goals
         refine qKD (spec_l19Ack e.subs[n]) [] ?_
         refine qG ?_
         refine den_fin (qA [0, 1, 2, 3, 4, 5, 6, 10, 11, 12, 13, 14, 15, 16, 21]) (qC) _ (by simp only [go_sem]; rfl) (by rfl) (by rfl) ?_
         simp (disch := omega) only [go_sem, Nat.reduceEqDiff, Nat.reduceAdd, Nat.reduceSub, Int.reduceAdd, Int.reduceSub, Int.reduceToNat]
         try simp [hrd]
       ·rw [hf2 hin hjA (by rw [jdB_at hk hn]; simp [h6, h7])]
        refine qX ?_
        exact qF (qA [0, 1, 2, 3, 4, 5, 6, 10, 11, 12, 13, 14, 15, 16, 18])
      ·rw [hf2 hin hjA (by rw [jdB_at hk hn]; simp [h6])]
       refine qG ?_
       exact qF (qA [0, 1, 2, 3, 4, 5, 6, 10, 11, 12, 13, 14, 15, 16, 18])
     ·obtain ⟨i, hi⟩ := Int.eq_ofNat_of_zero_le hi0
      have hil : i < e.halfs.length := by omega
      have hcmp := TagD.cmp x.tag ⟨2, e.peer, e.key, e.halfs[i].theirs, e.halfs[i].mine⟩
      simp only [TagD.cs, go_sem] at hcmp
      rw [hi]
      rw [hk]
      refine qX ?_
      refine qD [0, 1, 2, 3, 4, 5, 6, 7, 8, 9, 10, 11, 12, 13, 14, 15, 16, 17, 18, 19, 20, 21, 22, 23, 24, 25, 26, 27, 28, 29] ?_
      refine qB (fun h4 => ?_) fun h4 => ?_
      ·refine qKD (spec_TagDone _ _ _ _) [] ?_
       refine ⟨qC, run_den 400 ?_⟩
       try simp (disch := omega) only [go_sem, Nat.reduceEqDiff, Nat.reduceAdd, Nat.reduceSub, Int.reduceAdd, Int.reduceSub, Int.reduceToNat, hcmp]
       refine qB (fun h5 => ?_) fun h5 => ?_
       ·have hjA : jdA e x = true := by rw [jdA_at hi hil]; simp [h4, h5]; try omega
        rw [ha1 _ _ hin hjA hi hil hk hn]
        refine qX ?_
        refine qK (spec_l18Sub { e with subs := e.subs.set n { e.subs[n] with state := 4 } } (onSub (roadOf x) e.halfs[i]) (by have := endOk_subs h1; simp; omega)) (qA [10, 11, 12, 13, 14, 15, 16]) ?_
        refine qK (hD) (qA [13]) ?_
        refine den_drawC [(0, 5), (3, 0), (4, 0)] [[1, 2, 3, 4, 0, 5, 6, 7], [1, 2, 3, 0, 4, 5, 6, 7], [1, 2, 0, 3, 4, 5, 6, 7], [1, 2, 3, 4, 5, 0, 6, 7]] (by kernel_rfl) (qC) (by kernel_rfl) ?_
        simp only [allDn]
        refine ⟨runD_den 400 ?_, runD_den 400 ?_, runD_den 400 ?_, runD_den 400 ?_⟩
        all_goals simp (disch := omega) only [go_sem, Nat.reduceEqDiff, Nat.reduceAdd, Nat.reduceSub, Int.reduceAdd, Int.reduceSub, Int.reduceToNat]
        all_goals
         refine qKD (spec_l19Ack (onSub (roadOf x) e.halfs[i])) [] ?_
         refine qG ?_
         refine den_fin (qA [0, 1, 2, 3, 4, 5, 6, 10, 11, 22, 23, 14, 15, 16, 25]) (qC) _ (by simp only [go_sem]; rfl) (by rfl) (by rfl) ?_
         simp (disch := omega) only [go_sem, Nat.reduceEqDiff, Nat.reduceAdd, Nat.reduceSub, Int.reduceAdd, Int.reduceSub, Int.reduceToNat]
         try simp [List.map_set, SubD.cs, onSub]
       ·have hjA' : jdA e x = false := by rw [jdA_at hi hil]; simp [h5]
        refine qX ?_
        have hcmp2 := TagD.cmp x.tag ⟨2, e.peer, e.key, e.subs[n].theirs, e.subs[n].mine⟩
        simp only [TagD.cs, go_sem] at hcmp2
        have hjA := hjA'
        refine qD [0, 1, 2, 3, 4, 5, 6, 7, 8, 9, 10, 11, 12, 13, 14, 15, 16, 17, 18, 19, 20, 21, 22, 23, 24, 25, 26, 27, 28, 29, 30, 31, 32] ?_
        refine qB (fun h6 => ?_) fun h6 => ?_
        ·refine qKD (spec_TagDone _ _ _ _) [] ?_
         refine ⟨qC, run_den 400 ?_⟩
         try simp (disch := omega) only [go_sem, Nat.reduceEqDiff, Nat.reduceAdd, Nat.reduceSub, Int.reduceAdd, Int.reduceSub, Int.reduceToNat, hcmp2]
         refine qB (fun h7 => ?_) fun h7 => ?_
         ·rw [hb _ hin hjA (by rw [jdB_at hk hn]; simp [h6, h7]) hk hn]
          refine qX ?_
          refine den_drawC [(0, 9), (7, 0), (8, 0)] [[1, 2, 3, 4, 5, 6, 7, 8, 0, 9, 10, 11], [1, 2, 3, 4, 5, 6, 7, 0, 8, 9, 10, 11], [1, 2, 3, 4, 5, 6, 0, 7, 8, 9, 10, 11], [1, 2, 3, 4, 5, 6, 7, 8, 9, 0, 10, 11]] (by kernel_rfl) (qC) (by kernel_rfl) ?_
          simp only [allDn]
          refine ⟨runD_den 400 ?_, runD_den 400 ?_, runD_den 400 ?_, runD_den 400 ?_⟩
          all_goals simp (disch := omega) only [go_sem, Nat.reduceEqDiff, Nat.reduceAdd, Nat.reduceSub, Int.reduceAdd, Int.reduceSub, Int.reduceToNat]
          all_goals
           refine qKD (spec_l19Ack e.subs[n]) [] ?_
           refine qG ?_
           refine den_fin (qA [0, 1, 2, 3, 4, 5, 6, 10, 11, 12, 13, 14, 15, 16, 21]) (qC) _ (by simp only [go_sem]; rfl) (by rfl) (by rfl) ?_
           simp (disch := omega) only [go_sem, Nat.reduceEqDiff, Nat.reduceAdd, Nat.reduceSub, Int.reduceAdd, Int.reduceSub, Int.reduceToNat]
           try simp [hrd]
         ·rw [hf2 hin hjA (by rw [jdB_at hk hn]; simp [h6, h7])]
          refine qX ?_
          exact qF (qA [0, 1, 2, 3, 4, 5, 6, 10, 11, 12, 13, 14, 15, 16, 18])
        ·rw [hf2 hin hjA (by rw [jdB_at hk hn]; simp [h6])]
         refine qG ?_
         exact qF (qA [0, 1, 2, 3, 4, 5, 6, 10, 11, 12, 13, 14, 15, 16, 18])
      ·have hjA' : jdA e x = false := by rw [jdA_at hi hil]; simp; omega
       refine qG ?_
       have hcmp2 := TagD.cmp x.tag ⟨2, e.peer, e.key, e.subs[n].theirs, e.subs[n].mine⟩
       simp only [TagD.cs, go_sem] at hcmp2
       have hjA := hjA'
       refine qD [0, 1, 2, 3, 4, 5, 6, 7, 8, 9, 10, 11, 12, 13, 14, 15, 16, 17, 18, 19, 20, 21, 22, 23, 24, 25, 26, 27, 28, 29, 30, 31, 32] ?_
       refine qB (fun h6 => ?_) fun h6 => ?_
       ·refine qKD (spec_TagDone _ _ _ _) [] ?_
        refine ⟨qC, run_den 400 ?_⟩
        try simp (disch := omega) only [go_sem, Nat.reduceEqDiff, Nat.reduceAdd, Nat.reduceSub, Int.reduceAdd, Int.reduceSub, Int.reduceToNat, hcmp2]
        refine qB (fun h7 => ?_) fun h7 => ?_
        ·rw [hb _ hin hjA (by rw [jdB_at hk hn]; simp [h6, h7]) hk hn]
         refine qX ?_
         refine den_drawC [(0, 9), (7, 0), (8, 0)] [[1, 2, 3, 4, 5, 6, 7, 8, 0, 9, 10, 11], [1, 2, 3, 4, 5, 6, 7, 0, 8, 9, 10, 11], [1, 2, 3, 4, 5, 6, 0, 7, 8, 9, 10, 11], [1, 2, 3, 4, 5, 6, 7, 8, 9, 0, 10, 11]] (by kernel_rfl) (qC) (by kernel_rfl) ?_
         simp only [allDn]
         refine ⟨runD_den 400 ?_, runD_den 400 ?_, runD_den 400 ?_, runD_den 400 ?_⟩
         all_goals simp (disch := omega) only [go_sem, Nat.reduceEqDiff, Nat.reduceAdd, Nat.reduceSub, Int.reduceAdd, Int.reduceSub, Int.reduceToNat]
         all_goals
          refine qKD (spec_l19Ack e.subs[n]) [] ?_
          refine qG ?_
          refine den_fin (qA [0, 1, 2, 3, 4, 5, 6, 10, 11, 12, 13, 14, 15, 16, 21]) (qC) _ (by simp only [go_sem]; rfl) (by rfl) (by rfl) ?_
          simp (disch := omega) only [go_sem, Nat.reduceEqDiff, Nat.reduceAdd, Nat.reduceSub, Int.reduceAdd, Int.reduceSub, Int.reduceToNat]
          try simp [hrd]
        ·rw [hf2 hin hjA (by rw [jdB_at hk hn]; simp [h6, h7])]
         refine qX ?_
         exact qF (qA [0, 1, 2, 3, 4, 5, 6, 10, 11, 12, 13, 14, 15, 16, 18])
       ·rw [hf2 hin hjA (by rw [jdB_at hk hn]; simp [h6])]
        refine qG ?_
        exact qF (qA [0, 1, 2, 3, 4, 5, 6, 10, 11, 12, 13, 14, 15, 16, 18])
  ·rw [hf (by simp [jdIn, h2])]
   refine qX ?_
   exact qF (qA [0, 1, 2, 3, 4, 5, 6, 10, 11, 12, 13, 14, 15, 16, 18])
 ·rw [hf (by simp [jdIn, h1])]
  refine qX ?_
  exact qF (qA [0, 1, 2, 3, 4, 5, 6, 10, 11, 12, 13, 14, 15, 16, 18])

end
section
open Go.RowKit

theorem impl_HearJoin (e : EndD) (x : LetterD) (hs : Small e) : CallA Tryz.prog 125 [.ag (e.cs 0), .ag x.cs] (e.hp false) (.tu [.ag ((hearJoin e x).1.cs 7), .sc (.sl 14 0 (hearJoin e x).2.length)])
  (e.hp false ++ ((hearJoin e x).1.hp true ++ [some ⟨(hearJoin e x).2.map LetterD.cs, 19, 70, true, true⟩])) := by
 have hC := impl_copyEnd e (by have := hs.own; omega) (by have := hs.far; omega) (by have := hs.subs; omega) (by have := hs.halfs; omega) (by have := hs.list; omega) (by have := hs.done; omega) (by have := hs.over; omega)
 have hK := impl_EndOk e (by have := hs.own; omega) (by have := hs.far; omega) (by have := hs.subs; omega) (by have := hs.halfs; omega) (by have := hs.list; omega) (by have := hs.done; omega) (by have := hs.over; omega)
 have hH := impl_HalfAt e.halfs (roadOf x) (by have := hs.halfs; omega)
 have hO := impl_OwnsAddr e x.to (by have := hs.own; omega)
 have hT := impl_TakeOne e.bucket
 have hL := impl_LetterOk x
 have hTk := impl_TokenFor e.side
 have hbH := halfAt_bd e.halfs (roadOf x)
 have hf := hj_f (e := e) (x := x)
 have hns := fun i => @hj_s e x i
 have hnn := @hj_n e x
 have hok := hjOk.eq_1 e x
 generalize hearJoin e x = R at *
 refine qE Tryz.func125 Tryz.ntmps125 Tryz.results125 fun E hE => ?_
 refine qK (hC) (qA [0, 1, 2, 3, 4, 5, 6]) ?_
 refine qK (impl_RoadOf x) [] ?_
 refine qK (hH) (qA [3]) ?_
 rcases hbH with hi | ⟨hi0, hi1⟩
 ·rw [hi]
  refine qX ?_
  refine qD [0, 1, 2, 3, 4, 5, 6, 7, 8, 9, 10, 11, 12, 13, 14, 15, 16, 17, 18, 19, 20, 21, 22, 23, 24, 25, 26, 27, 28, 29, 30, 31, 32, 33, 34, 35, 36, 37, 38, 39, 40, 41, 42, 43, 44, 45, 46, 47, 48, 49, 50, 51, 52, 53] ?_
  refine qKD (hK) (qA [0, 1, 2, 3, 4, 5, 6]) ?_
  refine qB (fun h1 => ?_) fun h1 => ?_
  ·refine qKD (hL) [] ?_
   refine qB (fun h2 => ?_) fun h2 => ?_
   ·refine qB (fun h3 => ?_) fun h3 => ?_
    ·refine qKD (hTk) [] ?_
     refine qB (fun h4 => ?_) fun h4 => ?_
     ·refine qKD (hO) (qA [0, 1, 2, 3, 4, 5, 6]) ?_
      refine qB (fun h5 => ?_) fun h5 => ?_
      ·refine qB (fun h6 => ?_) fun h6 => ?_
       ·refine qB (fun h7 => ?_) fun h7 => ?_
        ·refine qKD (impl_canDrawTwo e) (qA [0, 1, 2, 3, 4, 5, 6]) ?_
         refine qB (fun h8 => ?_) fun h8 => ?_
         ·refine qG ?_
          refine qB (fun h9 => ?_) fun h9 => ?_
          ·rw [hf (by rw [hok]; first | (simp [h1, h2, h3, h4, h5, h6, h8, h9, hi]; done) | (simp [h1, h2, h3, h4, h5, h6, h8, h9, hi]; intros; omega))]
           exact qF [some (0, none), some (1, none), some (2, none), some (3, none), some (4, none), some (5, none), some (6, none), some (10, none), some (11, none), some (12, none), some (13, none), some (14, none), some (15, none), some (16, none), none]
          ·refine qX ?_
           refine qK (hT) [] ?_
           refine qB (fun h10 => ?_) fun h10 => ?_
           ·rw [hf (by rw [hok]; first | (simp [h1, h2, h3, h4, h5, h6, h8, h9, h10, hi]; done) | (simp [h1, h2, h3, h4, h5, h6, h8, h9, h10, hi]; intros; omega))]
            exact qF [some (0, none), some (1, none), some (2, none), some (3, none), some (4, none), some (5, none), some (6, none), some (10, none), some (11, none), some (12, none), some (13, none), some (14, none), some (15, none), some (16, none), none]
           ·have hnow := endOk_now h1
            have hok' : hjOk e x = true := by rw [hok]; have := halfsOk_le (endOk_halfs h1); have := endOk_subs h1; simp [h1, h2, h3, h4, h5, h6, h8, h9, h10, hi]; try omega
            refine qX ?_
            have hsm : hjSame e x = false := hjSame_no hi
            refine qD [0, 1, 2, 3, 4, 5, 6, 7, 8, 9, 10, 11, 12, 13, 14, 15, 16, 17, 18, 19, 20, 21, 22, 23] ?_
            refine qG ?_
            rw [hnn hok' hsm]
            refine qX ?_
            have hP := impl_PutHalf e.halfs (newHalf e x) (by have := halfsOk_le (endOk_halfs h1); omega)
            obtain ⟨Q, hQ⟩ : ∃ Q, Q = putHalf e.halfs (newHalf e x) := ⟨_, rfl⟩
            rw [← hQ] at hP ⊢
            have hQl : Q.1.length ≤ 1048576 := by rw [hQ]; have := halfsOk_le (endOk_halfs h1); have := putHalfL_len e.halfs (newHalf e x); unfold putHalf; split <;> dsimp only <;> omega
            refine qK (impl_drawTwo { e with bucket := (takeOne e.bucket).1 } h8) (qA [10, 11, 12, 13, 14, 15, 16, 17]) ?_
            refine qK (hP) (qA [13]) ?_
            refine den_drawC [(17, 18)] [[0, 1, 2, 3, 4, 5, 6, 7, 8, 9, 11, 12, 13, 14, 10, 15, 16, 17, 18, 19], [0, 1, 2, 3, 4, 5, 6, 7, 8, 9, 11, 12, 13, 14, 10, 15, 16, 18, 17, 19]] (by kernel_rfl) (qC) (by kernel_rfl) ?_
            simp only [allDn]
            refine ⟨runD_den 400 ?_, runD_den 400 ?_⟩
            all_goals simp (disch := omega) only [go_sem, Nat.reduceEqDiff, Nat.reduceAdd, Nat.reduceSub, Int.reduceAdd, Int.reduceSub, Int.reduceToNat]
            all_goals
             refine qKD (impl_TagBack _ _ _ _) [] ?_
             refine qKD (impl_Between (roadOf x) { letNone with kind := 5, tag := ⟨1, e.key, e.peer, (newHalf e x).mine, (newHalf e x).theirs⟩, nonce := (newHalf e x).mine, give := (newHalf e x).take }) [] ?_
             refine qG ?_
             refine den_fin (qA [0, 1, 2, 3, 4, 5, 6, 10, 11, 12, 21, 14, 15, 16, 22]) (qC) _ (by simp only [go_sem]; rfl) (by rfl) (by rfl) ?_
             simp (disch := omega) only [go_sem, Nat.reduceEqDiff, Nat.reduceAdd, Nat.reduceSub, Int.reduceAdd, Int.reduceSub, Int.reduceToNat]
             try simp [List.map_set, HalfD.cs, backL, newHalf, between, LetterD.cs, letNone]
             try omega
         ·rw [hf (by rw [hok]; first | (simp [h1, h2, h3, h4, h5, h6, h8, hi]; done) | (simp [h1, h2, h3, h4, h5, h6, h8, hi]; intros; omega))]
          refine qG ?_
          exact qF [some (0, none), some (1, none), some (2, none), some (3, none), some (4, none), some (5, none), some (6, none), some (10, none), some (11, none), some (12, none), some (13, none), some (14, none), some (15, none), some (16, none), none]
        ·rw [hf (by rw [hok]; first | (simp [h1, h2, h3, h4, h5, h6, h7, hi]; done) | (simp [h1, h2, h3, h4, h5, h6, h7, hi]; intros; omega))]
         refine qG ?_
         exact qF [some (0, none), some (1, none), some (2, none), some (3, none), some (4, none), some (5, none), some (6, none), some (10, none), some (11, none), some (12, none), some (13, none), some (14, none), some (15, none), some (16, none), none]
       ·rw [hf (by rw [hok]; first | (simp [h1, h2, h3, h4, h5, h6, hi]; done) | (simp [h1, h2, h3, h4, h5, h6, hi]; intros; omega))]
        refine qG ?_
        exact qF [some (0, none), some (1, none), some (2, none), some (3, none), some (4, none), some (5, none), some (6, none), some (10, none), some (11, none), some (12, none), some (13, none), some (14, none), some (15, none), some (16, none), none]
      ·rw [hf (by rw [hok]; first | (simp [h1, h2, h3, h4, h5, hi]; done) | (simp [h1, h2, h3, h4, h5, hi]; intros; omega))]
       refine qG ?_
       exact qF [some (0, none), some (1, none), some (2, none), some (3, none), some (4, none), some (5, none), some (6, none), some (10, none), some (11, none), some (12, none), some (13, none), some (14, none), some (15, none), some (16, none), none]
     ·rw [hf (by rw [hok]; first | (simp [h1, h2, h3, h4, hi]; done) | (simp [h1, h2, h3, h4, hi]; intros; omega))]
      refine qG ?_
      exact qF [some (0, none), some (1, none), some (2, none), some (3, none), some (4, none), some (5, none), some (6, none), some (10, none), some (11, none), some (12, none), some (13, none), some (14, none), some (15, none), some (16, none), none]
    ·rw [hf (by rw [hok]; first | (simp [h1, h2, h3, hi]; done) | (simp [h1, h2, h3, hi]; intros; omega))]
     refine qG ?_
     exact qF [some (0, none), some (1, none), some (2, none), some (3, none), some (4, none), some (5, none), some (6, none), some (10, none), some (11, none), some (12, none), some (13, none), some (14, none), some (15, none), some (16, none), none]
   ·rw [hf (by rw [hok]; first | (simp [h1, h2, hi]; done) | (simp [h1, h2, hi]; intros; omega))]
    refine qG ?_
    exact qF [some (0, none), some (1, none), some (2, none), some (3, none), some (4, none), some (5, none), some (6, none), some (10, none), some (11, none), some (12, none), some (13, none), some (14, none), some (15, none), some (16, none), none]
  ·rw [hf (by rw [hok]; first | (simp [h1, hi]; done) | (simp [h1, hi]; intros; omega))]
   refine qG ?_
   exact qF [some (0, none), some (1, none), some (2, none), some (3, none), some (4, none), some (5, none), some (6, none), some (10, none), some (11, none), some (12, none), some (13, none), some (14, none), some (15, none), some (16, none), none]
 ·obtain ⟨i, hi⟩ := Int.eq_ofNat_of_zero_le hi0
  have hil : i < e.halfs.length := by omega
  rw [hi]
  refine qX ?_
  refine qD [0, 1, 2, 3, 4, 5, 6, 7, 8, 9, 10, 11, 12, 13, 14, 15, 16, 17, 18, 19, 20, 21, 22, 23, 24, 25, 26, 27, 28, 29, 30, 31, 32, 33, 34, 35, 36, 37, 38, 39, 40, 41, 42, 43, 44, 45, 46, 47, 48, 49, 50, 51, 52, 53] ?_
  refine qKD (hK) (qA [0, 1, 2, 3, 4, 5, 6]) ?_
  refine qB (fun h1 => ?_) fun h1 => ?_
  ·refine qKD (hL) [] ?_
   refine qB (fun h2 => ?_) fun h2 => ?_
   ·refine qB (fun h3 => ?_) fun h3 => ?_
    ·refine qKD (hTk) [] ?_
     refine qB (fun h4 => ?_) fun h4 => ?_
     ·refine qKD (hO) (qA [0, 1, 2, 3, 4, 5, 6]) ?_
      refine qB (fun h5 => ?_) fun h5 => ?_
      ·refine qB (fun h6 => ?_) fun h6 => ?_
       ·refine qKD (impl_canDrawTwo e) (qA [0, 1, 2, 3, 4, 5, 6]) ?_
        refine qB (fun h8 => ?_) fun h8 => ?_
        ·refine qG ?_
         refine qB (fun h9 => ?_) fun h9 => ?_
         ·rw [hf (by rw [hok]; first | (simp [h1, h2, h3, h4, h5, h6, h8, h9, hi]; done) | (simp [h1, h2, h3, h4, h5, h6, h8, h9, hi]; intros; omega))]
          exact qF [some (0, none), some (1, none), some (2, none), some (3, none), some (4, none), some (5, none), some (6, none), some (10, none), some (11, none), some (12, none), some (13, none), some (14, none), some (15, none), some (16, none), none]
         ·refine qX ?_
          refine qK (hT) [] ?_
          refine qB (fun h10 => ?_) fun h10 => ?_
          ·rw [hf (by rw [hok]; first | (simp [h1, h2, h3, h4, h5, h6, h8, h9, h10, hi]; done) | (simp [h1, h2, h3, h4, h5, h6, h8, h9, h10, hi]; intros; omega))]
           exact qF [some (0, none), some (1, none), some (2, none), some (3, none), some (4, none), some (5, none), some (6, none), some (10, none), some (11, none), some (12, none), some (13, none), some (14, none), some (15, none), some (16, none), none]
          ·have hnow := endOk_now h1
           have hok' : hjOk e x = true := by rw [hok]; have := halfsOk_le (endOk_halfs h1); have := endOk_subs h1; simp [h1, h2, h3, h4, h5, h6, h8, h9, h10, hi]; try omega
           refine qX ?_
           refine qD [0, 1, 2, 3, 4, 5, 6, 7, 8, 9, 10, 11, 12, 13, 14, 15, 16, 17, 18, 19, 20, 21, 22, 23] ?_
           refine qB (fun h11 => ?_) fun h11 => ?_
           ·refine qG ?_
            refine qB (fun h12 => ?_) fun h12 => ?_
            ·have hsm : hjSame e x = true := by rw [hjSame_at hi hil]; simp [h11, h12]
             rw [hns _ hok' hsm hi hil]
             have hrd := halfAt_road hi hil
             refine qX ?_
             refine den_drawC [(17, 18)] [[0, 1, 2, 3, 4, 5, 6, 7, 8, 9, 11, 12, 13, 14, 10, 15, 16, 17, 18, 19], [0, 1, 2, 3, 4, 5, 6, 7, 8, 9, 11, 12, 13, 14, 10, 15, 16, 18, 17, 19]] (by kernel_rfl) (qC) (by kernel_rfl) ?_
             simp only [allDn]
             refine ⟨runD_den 400 ?_, runD_den 400 ?_⟩
             all_goals simp (disch := omega) only [go_sem, Nat.reduceEqDiff, Nat.reduceAdd, Nat.reduceSub, Int.reduceAdd, Int.reduceSub, Int.reduceToNat]
             all_goals
              refine qKD (impl_TagBack _ _ _ _) [] ?_
              refine qKD (impl_Between (roadOf x) { letNone with kind := 5, tag := ⟨1, e.key, e.peer, (e.halfs[i]).mine, (e.halfs[i]).theirs⟩, nonce := (e.halfs[i]).mine, give := (e.halfs[i]).take }) [] ?_
              refine qG ?_
              refine den_fin (qA [0, 1, 2, 3, 4, 5, 6, 10, 11, 12, 13, 14, 15, 16, 21]) (qC) _ (by simp only [go_sem]; rfl) (by rfl) (by rfl) ?_
              simp (disch := omega) only [go_sem, Nat.reduceEqDiff, Nat.reduceAdd, Nat.reduceSub, Int.reduceAdd, Int.reduceSub, Int.reduceToNat]
              try simp [List.map_set, HalfD.cs, backL, newHalf, between, LetterD.cs, letNone]
              try omega
            ·have hsm : hjSame e x = false := by rw [hjSame_at hi hil]; simp [h11, h12]
             rw [hnn hok' hsm]
             refine qX ?_
             have hP := impl_PutHalf e.halfs (newHalf e x) (by have := halfsOk_le (endOk_halfs h1); omega)
             obtain ⟨Q, hQ⟩ : ∃ Q, Q = putHalf e.halfs (newHalf e x) := ⟨_, rfl⟩
             rw [← hQ] at hP ⊢
             have hQl : Q.1.length ≤ 1048576 := by rw [hQ]; have := halfsOk_le (endOk_halfs h1); have := putHalfL_len e.halfs (newHalf e x); unfold putHalf; split <;> dsimp only <;> omega
             refine qK (impl_drawTwo { e with bucket := (takeOne e.bucket).1 } h8) (qA [10, 11, 12, 13, 14, 15, 16, 17]) ?_
             refine qK (hP) (qA [13]) ?_
             refine den_drawC [(17, 18)] [[0, 1, 2, 3, 4, 5, 6, 7, 8, 9, 11, 12, 13, 14, 10, 15, 16, 17, 18, 19], [0, 1, 2, 3, 4, 5, 6, 7, 8, 9, 11, 12, 13, 14, 10, 15, 16, 18, 17, 19]] (by kernel_rfl) (qC) (by kernel_rfl) ?_
             simp only [allDn]
             refine ⟨runD_den 400 ?_, runD_den 400 ?_⟩
             all_goals simp (disch := omega) only [go_sem, Nat.reduceEqDiff, Nat.reduceAdd, Nat.reduceSub, Int.reduceAdd, Int.reduceSub, Int.reduceToNat]
             all_goals
              refine qKD (impl_TagBack _ _ _ _) [] ?_
              refine qKD (impl_Between (roadOf x) { letNone with kind := 5, tag := ⟨1, e.key, e.peer, (newHalf e x).mine, (newHalf e x).theirs⟩, nonce := (newHalf e x).mine, give := (newHalf e x).take }) [] ?_
              refine qG ?_
              refine den_fin (qA [0, 1, 2, 3, 4, 5, 6, 10, 11, 12, 21, 14, 15, 16, 22]) (qC) _ (by simp only [go_sem]; rfl) (by rfl) (by rfl) ?_
              simp (disch := omega) only [go_sem, Nat.reduceEqDiff, Nat.reduceAdd, Nat.reduceSub, Int.reduceAdd, Int.reduceSub, Int.reduceToNat]
              try simp [List.map_set, HalfD.cs, backL, newHalf, between, LetterD.cs, letNone]
              try omega
           ·have hsm : hjSame e x = false := by rw [hjSame_at hi hil]; simp [h11]
            refine qG ?_
            rw [hnn hok' hsm]
            refine qX ?_
            have hP := impl_PutHalf e.halfs (newHalf e x) (by have := halfsOk_le (endOk_halfs h1); omega)
            obtain ⟨Q, hQ⟩ : ∃ Q, Q = putHalf e.halfs (newHalf e x) := ⟨_, rfl⟩
            rw [← hQ] at hP ⊢
            have hQl : Q.1.length ≤ 1048576 := by rw [hQ]; have := halfsOk_le (endOk_halfs h1); have := putHalfL_len e.halfs (newHalf e x); unfold putHalf; split <;> dsimp only <;> omega
            refine qK (impl_drawTwo { e with bucket := (takeOne e.bucket).1 } h8) (qA [10, 11, 12, 13, 14, 15, 16, 17]) ?_
            refine qK (hP) (qA [13]) ?_
            refine den_drawC [(17, 18)] [[0, 1, 2, 3, 4, 5, 6, 7, 8, 9, 11, 12, 13, 14, 10, 15, 16, 17, 18, 19], [0, 1, 2, 3, 4, 5, 6, 7, 8, 9, 11, 12, 13, 14, 10, 15, 16, 18, 17, 19]] (by kernel_rfl) (qC) (by kernel_rfl) ?_
            simp only [allDn]
            refine ⟨runD_den 400 ?_, runD_den 400 ?_⟩
            all_goals simp (disch := omega) only [go_sem, Nat.reduceEqDiff, Nat.reduceAdd, Nat.reduceSub, Int.reduceAdd, Int.reduceSub, Int.reduceToNat]
            all_goals
             refine qKD (impl_TagBack _ _ _ _) [] ?_
             refine qKD (impl_Between (roadOf x) { letNone with kind := 5, tag := ⟨1, e.key, e.peer, (newHalf e x).mine, (newHalf e x).theirs⟩, nonce := (newHalf e x).mine, give := (newHalf e x).take }) [] ?_
             refine qG ?_
             refine den_fin (qA [0, 1, 2, 3, 4, 5, 6, 10, 11, 12, 21, 14, 15, 16, 22]) (qC) _ (by simp only [go_sem]; rfl) (by rfl) (by rfl) ?_
             simp (disch := omega) only [go_sem, Nat.reduceEqDiff, Nat.reduceAdd, Nat.reduceSub, Int.reduceAdd, Int.reduceSub, Int.reduceToNat]
             try simp [List.map_set, HalfD.cs, backL, newHalf, between, LetterD.cs, letNone]
             try omega
        ·rw [hf (by rw [hok]; first | (simp [h1, h2, h3, h4, h5, h6, h8, hi]; done) | (simp [h1, h2, h3, h4, h5, h6, h8, hi]; intros; omega))]
         refine qG ?_
         exact qF [some (0, none), some (1, none), some (2, none), some (3, none), some (4, none), some (5, none), some (6, none), some (10, none), some (11, none), some (12, none), some (13, none), some (14, none), some (15, none), some (16, none), none]
       ·rw [hf (by rw [hok]; first | (simp [h1, h2, h3, h4, h5, h6, hi]; done) | (simp [h1, h2, h3, h4, h5, h6, hi]; intros; omega))]
        refine qG ?_
        exact qF [some (0, none), some (1, none), some (2, none), some (3, none), some (4, none), some (5, none), some (6, none), some (10, none), some (11, none), some (12, none), some (13, none), some (14, none), some (15, none), some (16, none), none]
      ·rw [hf (by rw [hok]; first | (simp [h1, h2, h3, h4, h5, hi]; done) | (simp [h1, h2, h3, h4, h5, hi]; intros; omega))]
       refine qG ?_
       exact qF [some (0, none), some (1, none), some (2, none), some (3, none), some (4, none), some (5, none), some (6, none), some (10, none), some (11, none), some (12, none), some (13, none), some (14, none), some (15, none), some (16, none), none]
     ·rw [hf (by rw [hok]; first | (simp [h1, h2, h3, h4, hi]; done) | (simp [h1, h2, h3, h4, hi]; intros; omega))]
      refine qG ?_
      exact qF [some (0, none), some (1, none), some (2, none), some (3, none), some (4, none), some (5, none), some (6, none), some (10, none), some (11, none), some (12, none), some (13, none), some (14, none), some (15, none), some (16, none), none]
    ·rw [hf (by rw [hok]; first | (simp [h1, h2, h3, hi]; done) | (simp [h1, h2, h3, hi]; intros; omega))]
     refine qG ?_
     exact qF [some (0, none), some (1, none), some (2, none), some (3, none), some (4, none), some (5, none), some (6, none), some (10, none), some (11, none), some (12, none), some (13, none), some (14, none), some (15, none), some (16, none), none]
   ·rw [hf (by rw [hok]; first | (simp [h1, h2, hi]; done) | (simp [h1, h2, hi]; intros; omega))]
    refine qG ?_
    exact qF [some (0, none), some (1, none), some (2, none), some (3, none), some (4, none), some (5, none), some (6, none), some (10, none), some (11, none), some (12, none), some (13, none), some (14, none), some (15, none), some (16, none), none]
  ·rw [hf (by rw [hok]; first | (simp [h1, hi]; done) | (simp [h1, hi]; intros; omega))]
   refine qG ?_
   exact qF [some (0, none), some (1, none), some (2, none), some (3, none), some (4, none), some (5, none), some (6, none), some (10, none), some (11, none), some (12, none), some (13, none), some (14, none), some (15, none), some (16, none), none]

theorem spec_HearJoin (e : EndD) (x : LetterD) (hs : Small e) : CallA Tryz.prog 96 [.ag (e.cs 0), .ag x.cs] (e.hp false) (.tu [.ag ((hearJoin e x).1.cs 7), .sc (.sl 14 0 (hearJoin e x).2.length)])
  (e.hp false ++ ((hearJoin e x).1.hp true ++ [some ⟨(hearJoin e x).2.map LetterD.cs, 19, 70, true, true⟩])) := by
 have hC := spec_l17Copy e (by have := hs.own; omega) (by have := hs.far; omega) (by have := hs.subs; omega) (by have := hs.halfs; omega) (by have := hs.list; omega) (by have := hs.done; omega) (by have := hs.over; omega)
 have hK := spec_EndOk e (by have := hs.own; omega) (by have := hs.far; omega) (by have := hs.subs; omega) (by have := hs.halfs; omega) (by have := hs.list; omega) (by have := hs.done; omega) (by have := hs.over; omega)
 have hH := spec_HalfAt e.halfs (roadOf x) (by have := hs.halfs; omega)
 have hO := spec_OwnsAddr e x.to (by have := hs.own; omega)
 have hT := spec_TakeOne e.bucket
 have hL := spec_LetterOk x
 have hTk := spec_TokenFor e.side
 have hbH := halfAt_bd e.halfs (roadOf x)
 have hf := hj_f (e := e) (x := x)
 have hns := fun i => @hj_s e x i
 have hnn := @hj_n e x
 have hok := hjOk.eq_1 e x
 generalize hearJoin e x = R at *
 refine qE Tryz.func96 Tryz.ntmps96 Tryz.results96 fun E hE => ?_
 refine qK (hC) (qA [0, 1, 2, 3, 4, 5, 6]) ?_
 refine qK (spec_RoadOf x) [] ?_
 refine qK (hH) (qA [3]) ?_
 rcases hbH with hi | ⟨hi0, hi1⟩
 ·rw [hi]
  refine qX ?_
  refine qD [0, 1, 2, 3, 4, 5, 6, 7, 8, 9, 10, 11, 12, 13, 14, 15, 16, 17, 18, 19, 20, 21, 22, 23, 24, 25, 26, 27, 28, 29, 30, 31, 32, 33, 34, 35, 36, 37, 38, 39, 40, 41, 42, 43, 44, 45, 46, 47, 48, 49, 50, 51, 52, 53] ?_
  refine qKD (hK) (qA [0, 1, 2, 3, 4, 5, 6]) ?_
  refine qB (fun h1 => ?_) fun h1 => ?_
  ·refine qKD (hL) [] ?_
   refine qB (fun h2 => ?_) fun h2 => ?_
   ·refine qB (fun h3 => ?_) fun h3 => ?_
    ·refine qKD (hTk) [] ?_
     refine qB (fun h4 => ?_) fun h4 => ?_
     ·refine qKD (hO) (qA [0, 1, 2, 3, 4, 5, 6]) ?_
      refine qB (fun h5 => ?_) fun h5 => ?_
      ·refine qB (fun h6 => ?_) fun h6 => ?_
       ·refine qB (fun h7 => ?_) fun h7 => ?_
        ·refine qKD (spec_l18Room2 e) (qA [0, 1, 2, 3, 4, 5, 6]) ?_
         refine qB (fun h8 => ?_) fun h8 => ?_
         ·refine qG ?_
          refine qB (fun h9 => ?_) fun h9 => ?_
          ·rw [hf (by rw [hok]; first | (simp [h1, h2, h3, h4, h5, h6, h8, h9, hi]; done) | (simp [h1, h2, h3, h4, h5, h6, h8, h9, hi]; intros; omega))]
           exact qF (qA [0, 1, 2, 3, 4, 5, 6, 10, 11, 12, 13, 14, 15, 16, 18])
          ·refine qX ?_
           refine qK (hT) [] ?_
           refine qB (fun h10 => ?_) fun h10 => ?_
           ·rw [hf (by rw [hok]; first | (simp [h1, h2, h3, h4, h5, h6, h8, h9, h10, hi]; done) | (simp [h1, h2, h3, h4, h5, h6, h8, h9, h10, hi]; intros; omega))]
            exact qF (qA [0, 1, 2, 3, 4, 5, 6, 10, 11, 12, 13, 14, 15, 16, 18])
           ·have hnow := endOk_now h1
            have hok' : hjOk e x = true := by rw [hok]; have := halfsOk_le (endOk_halfs h1); have := endOk_subs h1; simp [h1, h2, h3, h4, h5, h6, h8, h9, h10, hi]; try omega
            refine qX ?_
            have hsm : hjSame e x = false := hjSame_no hi
            refine qD [0, 1, 2, 3, 4, 5, 6, 7, 8, 9, 10, 11, 12, 13, 14, 15, 16, 17, 18, 19, 20, 21, 22, 23] ?_
            refine qG ?_
            rw [hnn hok' hsm]
            refine qX ?_
            have hP := spec_PutHalf e.halfs (newHalf e x) (by have := halfsOk_le (endOk_halfs h1); omega)
            obtain ⟨Q, hQ⟩ : ∃ Q, Q = putHalf e.halfs (newHalf e x) := ⟨_, rfl⟩
            rw [← hQ] at hP ⊢
            have hQl : Q.1.length ≤ 1048576 := by rw [hQ]; have := halfsOk_le (endOk_halfs h1); have := putHalfL_len e.halfs (newHalf e x); unfold putHalf; split <;> dsimp only <;> omega
            have h8' := h8
            simp only [inR, Bool.and_eq_true, decide_eq_true_eq] at h8'
            have hd1 : inR e.draw 1 999999998 = true := by simp only [inR, Bool.and_eq_true, decide_eq_true_eq]; omega
            have hd2 : inR (e.draw + 2) 1 999999998 = true := by simp only [inR, Bool.and_eq_true, decide_eq_true_eq]; omega
            refine qK (spec_l18Draw { e with bucket := (takeOne e.bucket).1 } ⟨hs.own, hs.far, hs.subs, hs.halfs, hs.list, hs.done, hs.over⟩ hd1) (qA [10, 11, 12, 13, 14, 15, 16]) ?_
            refine qK (spec_l18Draw { e with bucket := (takeOne e.bucket).1, draw := e.draw + 2 } ⟨hs.own, hs.far, hs.subs, hs.halfs, hs.list, hs.done, hs.over⟩ hd2) (qA [22, 23, 24, 25, 26, 27, 28]) ?_
            refine qK (hP) (qA [32]) ?_
            refine den_drawC [(0, 19), (11, 0), (17, 0), (18, 0)] [[1, 2, 3, 4, 5, 6, 7, 8, 9, 10, 12, 13, 14, 15, 11, 16, 17, 18, 0, 19, 20, 21], [1, 2, 3, 4, 5, 6, 7, 8, 9, 10, 12, 13, 14, 15, 11, 16, 17, 0, 18, 19, 20, 21], [1, 2, 3, 4, 5, 6, 7, 8, 9, 10, 12, 13, 14, 15, 11, 16, 0, 17, 18, 19, 20, 21], [1, 2, 3, 4, 5, 6, 7, 8, 9, 10, 12, 13, 14, 15, 0, 11, 16, 17, 18, 19, 20, 21], [1, 2, 3, 4, 5, 6, 7, 8, 9, 10, 12, 13, 14, 15, 11, 16, 17, 18, 19, 0, 20, 21]] (by kernel_rfl) (qC) (by kernel_rfl) ?_
            simp only [allDn]
            refine ⟨runD_den 400 ?_, runD_den 400 ?_, runD_den 400 ?_, runD_den 400 ?_, runD_den 400 ?_⟩
            all_goals simp (disch := omega) only [go_sem, Nat.reduceEqDiff, Nat.reduceAdd, Nat.reduceSub, Int.reduceAdd, Int.reduceSub, Int.reduceToNat]
            all_goals
             refine qKD (spec_TagBack _ _ _ _) [] ?_
             refine qKD (spec_Between (roadOf x) { letNone with kind := 5, tag := ⟨1, e.key, e.peer, (newHalf e x).mine, (newHalf e x).theirs⟩, nonce := (newHalf e x).mine, give := (newHalf e x).take }) [] ?_
             refine qG ?_
             refine den_fin (qA [0, 1, 2, 3, 4, 5, 6, 29, 30, 31, 36, 33, 34, 35, 38]) (qC) _ (by simp only [go_sem]; rfl) (by rfl) (by rfl) ?_
             simp (disch := omega) only [go_sem, Nat.reduceEqDiff, Nat.reduceAdd, Nat.reduceSub, Int.reduceAdd, Int.reduceSub, Int.reduceToNat]
             try simp [List.map_set, HalfD.cs, backL, newHalf, between, LetterD.cs, letNone]
             try omega
         ·rw [hf (by rw [hok]; first | (simp [h1, h2, h3, h4, h5, h6, h8, hi]; done) | (simp [h1, h2, h3, h4, h5, h6, h8, hi]; intros; omega))]
          refine qG ?_
          exact qF (qA [0, 1, 2, 3, 4, 5, 6, 10, 11, 12, 13, 14, 15, 16, 18])
        ·rw [hf (by rw [hok]; first | (simp [h1, h2, h3, h4, h5, h6, h7, hi]; done) | (simp [h1, h2, h3, h4, h5, h6, h7, hi]; intros; omega))]
         refine qG ?_
         exact qF (qA [0, 1, 2, 3, 4, 5, 6, 10, 11, 12, 13, 14, 15, 16, 18])
       ·rw [hf (by rw [hok]; first | (simp [h1, h2, h3, h4, h5, h6, hi]; done) | (simp [h1, h2, h3, h4, h5, h6, hi]; intros; omega))]
        refine qG ?_
        exact qF (qA [0, 1, 2, 3, 4, 5, 6, 10, 11, 12, 13, 14, 15, 16, 18])
      ·rw [hf (by rw [hok]; first | (simp [h1, h2, h3, h4, h5, hi]; done) | (simp [h1, h2, h3, h4, h5, hi]; intros; omega))]
       refine qG ?_
       exact qF (qA [0, 1, 2, 3, 4, 5, 6, 10, 11, 12, 13, 14, 15, 16, 18])
     ·rw [hf (by rw [hok]; first | (simp [h1, h2, h3, h4, hi]; done) | (simp [h1, h2, h3, h4, hi]; intros; omega))]
      refine qG ?_
      exact qF (qA [0, 1, 2, 3, 4, 5, 6, 10, 11, 12, 13, 14, 15, 16, 18])
    ·rw [hf (by rw [hok]; first | (simp [h1, h2, h3, hi]; done) | (simp [h1, h2, h3, hi]; intros; omega))]
     refine qG ?_
     exact qF (qA [0, 1, 2, 3, 4, 5, 6, 10, 11, 12, 13, 14, 15, 16, 18])
   ·rw [hf (by rw [hok]; first | (simp [h1, h2, hi]; done) | (simp [h1, h2, hi]; intros; omega))]
    refine qG ?_
    exact qF (qA [0, 1, 2, 3, 4, 5, 6, 10, 11, 12, 13, 14, 15, 16, 18])
  ·rw [hf (by rw [hok]; first | (simp [h1, hi]; done) | (simp [h1, hi]; intros; omega))]
   refine qG ?_
   exact qF (qA [0, 1, 2, 3, 4, 5, 6, 10, 11, 12, 13, 14, 15, 16, 18])
 ·obtain ⟨i, hi⟩ := Int.eq_ofNat_of_zero_le hi0
  have hil : i < e.halfs.length := by omega
  rw [hi]
  refine qX ?_
  refine qD [0, 1, 2, 3, 4, 5, 6, 7, 8, 9, 10, 11, 12, 13, 14, 15, 16, 17, 18, 19, 20, 21, 22, 23, 24, 25, 26, 27, 28, 29, 30, 31, 32, 33, 34, 35, 36, 37, 38, 39, 40, 41, 42, 43, 44, 45, 46, 47, 48, 49, 50, 51, 52, 53] ?_
  refine qKD (hK) (qA [0, 1, 2, 3, 4, 5, 6]) ?_
  refine qB (fun h1 => ?_) fun h1 => ?_
  ·refine qKD (hL) [] ?_
   refine qB (fun h2 => ?_) fun h2 => ?_
   ·refine qB (fun h3 => ?_) fun h3 => ?_
    ·refine qKD (hTk) [] ?_
     refine qB (fun h4 => ?_) fun h4 => ?_
     ·refine qKD (hO) (qA [0, 1, 2, 3, 4, 5, 6]) ?_
      refine qB (fun h5 => ?_) fun h5 => ?_
      ·refine qB (fun h6 => ?_) fun h6 => ?_
       ·refine qKD (spec_l18Room2 e) (qA [0, 1, 2, 3, 4, 5, 6]) ?_
        refine qB (fun h8 => ?_) fun h8 => ?_
        ·refine qG ?_
         refine qB (fun h9 => ?_) fun h9 => ?_
         ·rw [hf (by rw [hok]; first | (simp [h1, h2, h3, h4, h5, h6, h8, h9, hi]; done) | (simp [h1, h2, h3, h4, h5, h6, h8, h9, hi]; intros; omega))]
          exact qF (qA [0, 1, 2, 3, 4, 5, 6, 10, 11, 12, 13, 14, 15, 16, 18])
         ·refine qX ?_
          refine qK (hT) [] ?_
          refine qB (fun h10 => ?_) fun h10 => ?_
          ·rw [hf (by rw [hok]; first | (simp [h1, h2, h3, h4, h5, h6, h8, h9, h10, hi]; done) | (simp [h1, h2, h3, h4, h5, h6, h8, h9, h10, hi]; intros; omega))]
           exact qF (qA [0, 1, 2, 3, 4, 5, 6, 10, 11, 12, 13, 14, 15, 16, 18])
          ·have hnow := endOk_now h1
           have hok' : hjOk e x = true := by rw [hok]; have := halfsOk_le (endOk_halfs h1); have := endOk_subs h1; simp [h1, h2, h3, h4, h5, h6, h8, h9, h10, hi]; try omega
           refine qX ?_
           refine qD [0, 1, 2, 3, 4, 5, 6, 7, 8, 9, 10, 11, 12, 13, 14, 15, 16, 17, 18, 19, 20, 21, 22, 23] ?_
           refine qB (fun h11 => ?_) fun h11 => ?_
           ·refine qG ?_
            refine qB (fun h12 => ?_) fun h12 => ?_
            ·have hsm : hjSame e x = true := by rw [hjSame_at hi hil]; simp [h11, h12]
             rw [hns _ hok' hsm hi hil]
             have hrd := halfAt_road hi hil
             have hP := spec_PutHalf e.halfs { e.halfs[i] with till := e.now + 6 } (by have := halfsOk_le (endOk_halfs h1); omega)
             rw [putHalf_same (endOk_halfs h1) hil (by simp only [isN, Bool.and_eq_true, decide_eq_true_eq]; omega) (by rw [hrd]; exact hi)] at hP
             refine qX ?_
             refine qK (hP) (qA [13]) ?_
             refine den_drawC [(0, 19), (11, 0), (17, 0), (18, 0)] [[1, 2, 3, 4, 5, 6, 7, 8, 9, 10, 12, 13, 14, 15, 11, 16, 17, 18, 0, 19, 20, 21], [1, 2, 3, 4, 5, 6, 7, 8, 9, 10, 12, 13, 14, 15, 11, 16, 17, 0, 18, 19, 20, 21], [1, 2, 3, 4, 5, 6, 7, 8, 9, 10, 12, 13, 14, 15, 11, 16, 0, 17, 18, 19, 20, 21], [1, 2, 3, 4, 5, 6, 7, 8, 9, 10, 12, 13, 14, 15, 0, 11, 16, 17, 18, 19, 20, 21], [1, 2, 3, 4, 5, 6, 7, 8, 9, 10, 12, 13, 14, 15, 11, 16, 17, 18, 19, 0, 20, 21]] (by kernel_rfl) (qC) (by kernel_rfl) ?_
             simp only [allDn]
             refine ⟨runD_den 400 ?_, runD_den 400 ?_, runD_den 400 ?_, runD_den 400 ?_, runD_den 400 ?_⟩
             all_goals simp (disch := omega) only [go_sem, Nat.reduceEqDiff, Nat.reduceAdd, Nat.reduceSub, Int.reduceAdd, Int.reduceSub, Int.reduceToNat]
             all_goals
              refine qKD (spec_TagBack _ _ _ _) [] ?_
              refine qKD (spec_Between (roadOf x) { letNone with kind := 5, tag := ⟨1, e.key, e.peer, (e.halfs[i]).mine, (e.halfs[i]).theirs⟩, nonce := (e.halfs[i]).mine, give := (e.halfs[i]).take }) [] ?_
              refine qG ?_
              refine den_fin (qA [0, 1, 2, 3, 4, 5, 6, 10, 11, 12, 22, 14, 15, 16, 24]) (qC) _ (by simp only [go_sem]; rfl) (by rfl) (by rfl) ?_
              simp (disch := omega) only [go_sem, Nat.reduceEqDiff, Nat.reduceAdd, Nat.reduceSub, Int.reduceAdd, Int.reduceSub, Int.reduceToNat]
              try simp [List.map_set, HalfD.cs, backL, newHalf, between, LetterD.cs, letNone]
              try omega
            ·have hsm : hjSame e x = false := by rw [hjSame_at hi hil]; simp [h11, h12]
             rw [hnn hok' hsm]
             refine qX ?_
             have hP := spec_PutHalf e.halfs (newHalf e x) (by have := halfsOk_le (endOk_halfs h1); omega)
             obtain ⟨Q, hQ⟩ : ∃ Q, Q = putHalf e.halfs (newHalf e x) := ⟨_, rfl⟩
             rw [← hQ] at hP ⊢
             have hQl : Q.1.length ≤ 1048576 := by rw [hQ]; have := halfsOk_le (endOk_halfs h1); have := putHalfL_len e.halfs (newHalf e x); unfold putHalf; split <;> dsimp only <;> omega
             have h8' := h8
             simp only [inR, Bool.and_eq_true, decide_eq_true_eq] at h8'
             have hd1 : inR e.draw 1 999999998 = true := by simp only [inR, Bool.and_eq_true, decide_eq_true_eq]; omega
             have hd2 : inR (e.draw + 2) 1 999999998 = true := by simp only [inR, Bool.and_eq_true, decide_eq_true_eq]; omega
             refine qK (spec_l18Draw { e with bucket := (takeOne e.bucket).1 } ⟨hs.own, hs.far, hs.subs, hs.halfs, hs.list, hs.done, hs.over⟩ hd1) (qA [10, 11, 12, 13, 14, 15, 16]) ?_
             refine qK (spec_l18Draw { e with bucket := (takeOne e.bucket).1, draw := e.draw + 2 } ⟨hs.own, hs.far, hs.subs, hs.halfs, hs.list, hs.done, hs.over⟩ hd2) (qA [22, 23, 24, 25, 26, 27, 28]) ?_
             refine qK (hP) (qA [32]) ?_
             refine den_drawC [(0, 19), (11, 0), (17, 0), (18, 0)] [[1, 2, 3, 4, 5, 6, 7, 8, 9, 10, 12, 13, 14, 15, 11, 16, 17, 18, 0, 19, 20, 21], [1, 2, 3, 4, 5, 6, 7, 8, 9, 10, 12, 13, 14, 15, 11, 16, 17, 0, 18, 19, 20, 21], [1, 2, 3, 4, 5, 6, 7, 8, 9, 10, 12, 13, 14, 15, 11, 16, 0, 17, 18, 19, 20, 21], [1, 2, 3, 4, 5, 6, 7, 8, 9, 10, 12, 13, 14, 15, 0, 11, 16, 17, 18, 19, 20, 21], [1, 2, 3, 4, 5, 6, 7, 8, 9, 10, 12, 13, 14, 15, 11, 16, 17, 18, 19, 0, 20, 21]] (by kernel_rfl) (qC) (by kernel_rfl) ?_
             simp only [allDn]
             refine ⟨runD_den 400 ?_, runD_den 400 ?_, runD_den 400 ?_, runD_den 400 ?_, runD_den 400 ?_⟩
             all_goals simp (disch := omega) only [go_sem, Nat.reduceEqDiff, Nat.reduceAdd, Nat.reduceSub, Int.reduceAdd, Int.reduceSub, Int.reduceToNat]
             all_goals
              refine qKD (spec_TagBack _ _ _ _) [] ?_
              refine qKD (spec_Between (roadOf x) { letNone with kind := 5, tag := ⟨1, e.key, e.peer, (newHalf e x).mine, (newHalf e x).theirs⟩, nonce := (newHalf e x).mine, give := (newHalf e x).take }) [] ?_
              refine qG ?_
              refine den_fin (qA [0, 1, 2, 3, 4, 5, 6, 29, 30, 31, 36, 33, 34, 35, 38]) (qC) _ (by simp only [go_sem]; rfl) (by rfl) (by rfl) ?_
              simp (disch := omega) only [go_sem, Nat.reduceEqDiff, Nat.reduceAdd, Nat.reduceSub, Int.reduceAdd, Int.reduceSub, Int.reduceToNat]
              try simp [List.map_set, HalfD.cs, backL, newHalf, between, LetterD.cs, letNone]
              try omega
           ·have hsm : hjSame e x = false := by rw [hjSame_at hi hil]; simp [h11]
            refine qG ?_
            rw [hnn hok' hsm]
            refine qX ?_
            have hP := spec_PutHalf e.halfs (newHalf e x) (by have := halfsOk_le (endOk_halfs h1); omega)
            obtain ⟨Q, hQ⟩ : ∃ Q, Q = putHalf e.halfs (newHalf e x) := ⟨_, rfl⟩
            rw [← hQ] at hP ⊢
            have hQl : Q.1.length ≤ 1048576 := by rw [hQ]; have := halfsOk_le (endOk_halfs h1); have := putHalfL_len e.halfs (newHalf e x); unfold putHalf; split <;> dsimp only <;> omega
            have h8' := h8
            simp only [inR, Bool.and_eq_true, decide_eq_true_eq] at h8'
            have hd1 : inR e.draw 1 999999998 = true := by simp only [inR, Bool.and_eq_true, decide_eq_true_eq]; omega
            have hd2 : inR (e.draw + 2) 1 999999998 = true := by simp only [inR, Bool.and_eq_true, decide_eq_true_eq]; omega
            refine qK (spec_l18Draw { e with bucket := (takeOne e.bucket).1 } ⟨hs.own, hs.far, hs.subs, hs.halfs, hs.list, hs.done, hs.over⟩ hd1) (qA [10, 11, 12, 13, 14, 15, 16]) ?_
            refine qK (spec_l18Draw { e with bucket := (takeOne e.bucket).1, draw := e.draw + 2 } ⟨hs.own, hs.far, hs.subs, hs.halfs, hs.list, hs.done, hs.over⟩ hd2) (qA [22, 23, 24, 25, 26, 27, 28]) ?_
            refine qK (hP) (qA [32]) ?_
            refine den_drawC [(0, 19), (11, 0), (17, 0), (18, 0)] [[1, 2, 3, 4, 5, 6, 7, 8, 9, 10, 12, 13, 14, 15, 11, 16, 17, 18, 0, 19, 20, 21], [1, 2, 3, 4, 5, 6, 7, 8, 9, 10, 12, 13, 14, 15, 11, 16, 17, 0, 18, 19, 20, 21], [1, 2, 3, 4, 5, 6, 7, 8, 9, 10, 12, 13, 14, 15, 11, 16, 0, 17, 18, 19, 20, 21], [1, 2, 3, 4, 5, 6, 7, 8, 9, 10, 12, 13, 14, 15, 0, 11, 16, 17, 18, 19, 20, 21], [1, 2, 3, 4, 5, 6, 7, 8, 9, 10, 12, 13, 14, 15, 11, 16, 17, 18, 19, 0, 20, 21]] (by kernel_rfl) (qC) (by kernel_rfl) ?_
            simp only [allDn]
            refine ⟨runD_den 400 ?_, runD_den 400 ?_, runD_den 400 ?_, runD_den 400 ?_, runD_den 400 ?_⟩
            all_goals simp (disch := omega) only [go_sem, Nat.reduceEqDiff, Nat.reduceAdd, Nat.reduceSub, Int.reduceAdd, Int.reduceSub, Int.reduceToNat]
            all_goals
             refine qKD (spec_TagBack _ _ _ _) [] ?_
             refine qKD (spec_Between (roadOf x) { letNone with kind := 5, tag := ⟨1, e.key, e.peer, (newHalf e x).mine, (newHalf e x).theirs⟩, nonce := (newHalf e x).mine, give := (newHalf e x).take }) [] ?_
             refine qG ?_
             refine den_fin (qA [0, 1, 2, 3, 4, 5, 6, 29, 30, 31, 36, 33, 34, 35, 38]) (qC) _ (by simp only [go_sem]; rfl) (by rfl) (by rfl) ?_
             simp (disch := omega) only [go_sem, Nat.reduceEqDiff, Nat.reduceAdd, Nat.reduceSub, Int.reduceAdd, Int.reduceSub, Int.reduceToNat]
             try simp [List.map_set, HalfD.cs, backL, newHalf, between, LetterD.cs, letNone]
             try omega
        ·rw [hf (by rw [hok]; first | (simp [h1, h2, h3, h4, h5, h6, h8, hi]; done) | (simp [h1, h2, h3, h4, h5, h6, h8, hi]; intros; omega))]
         refine qG ?_
         exact qF (qA [0, 1, 2, 3, 4, 5, 6, 10, 11, 12, 13, 14, 15, 16, 18])
       ·rw [hf (by rw [hok]; first | (simp [h1, h2, h3, h4, h5, h6, hi]; done) | (simp [h1, h2, h3, h4, h5, h6, hi]; intros; omega))]
        refine qG ?_
        exact qF (qA [0, 1, 2, 3, 4, 5, 6, 10, 11, 12, 13, 14, 15, 16, 18])
      ·rw [hf (by rw [hok]; first | (simp [h1, h2, h3, h4, h5, hi]; done) | (simp [h1, h2, h3, h4, h5, hi]; intros; omega))]
       refine qG ?_
       exact qF (qA [0, 1, 2, 3, 4, 5, 6, 10, 11, 12, 13, 14, 15, 16, 18])
     ·rw [hf (by rw [hok]; first | (simp [h1, h2, h3, h4, hi]; done) | (simp [h1, h2, h3, h4, hi]; intros; omega))]
      refine qG ?_
      exact qF (qA [0, 1, 2, 3, 4, 5, 6, 10, 11, 12, 13, 14, 15, 16, 18])
    ·rw [hf (by rw [hok]; first | (simp [h1, h2, h3, hi]; done) | (simp [h1, h2, h3, hi]; intros; omega))]
     refine qG ?_
     exact qF (qA [0, 1, 2, 3, 4, 5, 6, 10, 11, 12, 13, 14, 15, 16, 18])
   ·rw [hf (by rw [hok]; first | (simp [h1, h2, hi]; done) | (simp [h1, h2, hi]; intros; omega))]
    refine qG ?_
    exact qF (qA [0, 1, 2, 3, 4, 5, 6, 10, 11, 12, 13, 14, 15, 16, 18])
  ·rw [hf (by rw [hok]; first | (simp [h1, hi]; done) | (simp [h1, hi]; intros; omega))]
   refine qG ?_
   exact qF (qA [0, 1, 2, 3, 4, 5, 6, 10, 11, 12, 13, 14, 15, 16, 18])

end
section
open Go.RowKit

def adAtN (l : List AddrD) (n : Nat) : AddrD := l.getD n default
theorem adAtN_at {l : List AddrD} {n : Nat} (h : n < l.length) : adAtN l n = l[n] := by simp [adAtN, List.getD_eq_getElem?_getD, h]
def haNew (x : LetterD) : AddrD := ⟨x.id, x.addr, x.spare, true⟩
def haOther (e : EndD) (x : LetterD) : Bool := decide (0 ≤ addrAt e.far x.id) && !decide ((adAtN e.far (addrAt e.far x.id).toNat).addr = x.addr)
theorem haOther_no {e : EndD} {x : LetterD} (h : addrAt e.far x.id = -1) : haOther e x = false := by rw [haOther, h]; rfl
theorem haOther_at {e : EndD} {x : LetterD} {i : Nat} (h : addrAt e.far x.id = (i : Int)) (hi : i < e.far.length) : haOther e x = !decide (e.far[i].addr = x.addr) := by
 rw [haOther, h, Int.toNat_natCast, adAtN_at hi]
 simp
def haHeard (e : EndD) (x : LetterD) : Bool :=
 decide (0 ≤ onAt e x) && decide (x.tag = ⟨3, e.peer, e.key, x.id, x.addr⟩) && !hasI e.over x.id && !haOther e x && (putAddr e.far (haNew x)).2
def echoL (x : LetterD) (n : Int) : LetterD := between (roadOf x) { letNone with kind := 9, sgn := n, id := x.id, addr := x.addr }
def hearAddr (e : EndD) (x : LetterD) : EndD × List LetterD :=
 if haHeard e x then ({ e with far := (putAddr e.far (haNew x)).1 }, [echoL x (subAtN e.subs (onAt e x).toNat).give]) else (e, [])
theorem hearAddr_f {e : EndD} {x : LetterD} (h : haHeard e x = false) : hearAddr e x = (e, []) := by rw [hearAddr, if_neg (by simp [h])]
theorem hearAddr_t {e : EndD} {x : LetterD} {n : Nat} (h : haHeard e x = true) (ho : onAt e x = (n : Int)) (hn : n < e.subs.length) :
  hearAddr e x = ({ e with far := (putAddr e.far (haNew x)).1 }, [echoL x e.subs[n].give]) := by rw [hearAddr, if_pos h, ho, Int.toNat_natCast, subAtN_at hn]
def echoOk (e : EndD) (x : LetterD) : Bool := decide (0 ≤ onAt e x) && decide (0 ≤ addrAt e.own x.id) && decide ((adAtN e.own (addrAt e.own x.id).toNat).addr = x.addr)
def hearEcho (e : EndD) (x : LetterD) : EndD × List LetterD :=
 (if echoOk e x then { e with own := e.own.set (addrAt e.own x.id).toNat { adAtN e.own (addrAt e.own x.id).toNat with told := true } } else e, [])
theorem hearEcho_f {e : EndD} {x : LetterD} (h : echoOk e x = false) : hearEcho e x = (e, []) := by rw [hearEcho, if_neg (by simp [h])]
theorem hearEcho_t {e : EndD} {x : LetterD} {i : Nat} (h : echoOk e x = true) (hi : addrAt e.own x.id = (i : Int)) (hl : i < e.own.length) :
  hearEcho e x = ({ e with own := e.own.set i { e.own[i] with told := true } }, []) := by rw [hearEcho, if_pos h, hi, Int.toNat_natCast, adAtN_at hl]
theorem echoOk_at {e : EndD} {x : LetterD} {i : Nat} (hi : addrAt e.own x.id = (i : Int)) (hl : i < e.own.length) : echoOk e x = (decide (0 ≤ onAt e x) && decide (e.own[i].addr = x.addr)) := by
 rw [echoOk, hi, Int.toNat_natCast, adAtN_at hl]
 simp
theorem echoOk_no {e : EndD} {x : LetterD} (hi : addrAt e.own x.id = -1) : echoOk e x = false := by
 rw [echoOk, hi]
 simp
def goneS (a : Int) (s : SubD) : SubD := if s.road.far = a then { s with state := 4 } else s
def goneN (a : Int) (l : List SubD) (k : Nat) : List SubD := (l.take k).map (goneS a) ++ l.drop k
theorem goneN_len {a : Int} {l : List SubD} {k : Nat} : (goneN a l k).length = l.length := by simp [goneN]; omega
theorem goneN_at {a : Int} {l : List SubD} {k : Nat} (h : k < l.length) : (goneN a l k)[k]? = some l[k] := by
 have h1 : ((l.take k).map (goneS a)).length = k := by simp; omega
 rw [goneN, List.getElem?_append_right (by omega), List.drop_eq_getElem_cons h, h1]
 simp
theorem goneN_set {a : Int} {l : List SubD} {k : Nat} (h : k < l.length) : (goneN a l k).set k (goneS a l[k]) = goneN a l (k + 1) := by
 have h1 : ((l.take k).map (goneS a)).length = k := by simp; omega
 rw [goneN, goneN, List.set_append_right _ _ (by omega), List.take_succ_eq_append_getElem h, List.map_append, h1]
 simp
 rw [List.drop_eq_getElem_cons h]
 rfl
theorem goneN_same {a : Int} {l : List SubD} {k : Nat} (h : k < l.length) (hs : ¬ l[k].road.far = a) : goneN a l (k + 1) = goneN a l k := by
 rw [goneN, goneN, List.take_succ_eq_append_getElem h, List.map_append, List.drop_eq_getElem_cons h]
 simp [goneS, hs]
theorem goneN_zero {a : Int} {l : List SubD} : goneN a l 0 = l := by simp [goneN]
theorem goneN_all {a : Int} {l : List SubD} : goneN a l l.length = l.map (goneS a) := by simp [goneN]
def goneOk (e : EndD) (x : LetterD) : Bool := decide (0 ≤ onAt e x) && decide (0 ≤ addrAt e.far x.id)
def hearGone (e : EndD) (x : LetterD) : EndD × List LetterD :=
 (if goneOk e x then { e with far := (dropAddr e.far x.id).1, over := putI e.over x.id, subs := e.subs.map (goneS (adAtN e.far (addrAt e.far x.id).toNat).addr) } else e, [])
theorem hearGone_f {e : EndD} {x : LetterD} (h : goneOk e x = false) : hearGone e x = (e, []) := by rw [hearGone, if_neg (by simp [h])]
theorem hearGone_t {e : EndD} {x : LetterD} {i : Nat} (h : goneOk e x = true) (hi : addrAt e.far x.id = (i : Int)) (hl : i < e.far.length) :
  hearGone e x = ({ e with far := (dropAddr e.far x.id).1, over := putI e.over x.id, subs := e.subs.map (goneS e.far[i].addr) }, []) := by rw [hearGone, if_pos h, hi, Int.toNat_natCast, adAtN_at hl]
theorem upto_at {p : Nat → Bool} {n j : Nat} (h : upto p n = true) (hj : j < n) : p j = true := by
 simp only [upto, List.all_eq_true, List.mem_range] at h
 exact h j hj
theorem idsOk_le {l : List Int} {m : List AddrD} (h : idsOk l m = true) : l.length ≤ 256 := by
 simp only [idsOk, Bool.and_eq_true] at h
 have hup : ∀ j : Nat, j < l.length → (j : Int) ≤ l.getD j 0 := by
  intro j
  induction j with
  | zero =>
   intro hj
   have := upto_at h.2 hj
   simp only [idAt, inR, Bool.and_eq_true, decide_eq_true_eq] at this
   omega
  | succ j ih =>
   intro hj
   have h1 := ih (by omega)
   have h2 := upto_at h.1 hj
   simp only [riseAt, Bool.or_eq_true, beq_iff_eq, decide_eq_true_eq, Nat.add_sub_cancel] at h2
   omega
 rcases Nat.eq_zero_or_pos l.length with h0 | h0
 ·omega
 ·have h1 := hup (l.length - 1) (by omega)
  have h2 := upto_at h.2 (j := l.length - 1) (by omega)
  simp only [idAt, inR, Bool.and_eq_true, decide_eq_true_eq] at h2
  omega
theorem endOk_over {e : EndD} (h : endOk e = true) : e.over.length ≤ 256 := by
 simp only [endOk, Bool.and_eq_true] at h
 exact idsOk_le h.1.1.1.2
end
section
open Go.RowKit

theorem impl_HearAddr (e : EndD) (x : LetterD) (hs : Small e) : CallA Tryz.prog 129 [.ag (e.cs 0), .ag x.cs] (e.hp false) (.tu [.ag ((hearAddr e x).1.cs 7), .sc (.sl 14 0 (hearAddr e x).2.length)])
  (e.hp false ++ ((hearAddr e x).1.hp true ++ [some ⟨(hearAddr e x).2.map LetterD.cs, 19, 70, true, true⟩])) := by
 have hC := impl_copyEnd e (by have := hs.own; omega) (by have := hs.far; omega) (by have := hs.subs; omega) (by have := hs.halfs; omega) (by have := hs.list; omega) (by have := hs.done; omega) (by have := hs.over; omega)
 have hK := impl_EndOk e (by have := hs.own; omega) (by have := hs.far; omega) (by have := hs.subs; omega) (by have := hs.halfs; omega) (by have := hs.list; omega) (by have := hs.done; omega) (by have := hs.over; omega)
 have hA := impl_AddrAt e.far x.id (by have := hs.far; omega)
 have hH := impl_hasInt e.over x.id (by have := hs.over; omega)
 have hS := impl_SignedOn e x (by have := hs.subs; omega)
 have hL := impl_LetterOk x
 have hbs := signedOn_bd e x
 have hbA := addrAt_bd e.far x.id
 have hbd := onAt_bd e x
 have hf := hearAddr_f (e := e) (x := x)
 have ht := fun (n : Nat) => @hearAddr_t e x n
 have hok := haHeard.eq_1 e x
 generalize hearAddr e x = R at *
 refine qE Tryz.func129 Tryz.ntmps129 Tryz.results129 fun E hE => ?_
 refine qK (hC) (qA [0, 1, 2, 3, 4, 5, 6]) ?_
 refine qK (hS) (qA [0, 1, 2, 3, 4, 5, 6]) ?_
 have hcmp := TagD.cmp x.tag ⟨3, e.peer, e.key, x.id, x.addr⟩
 simp only [TagD.cs, go_sem] at hcmp
 rcases hbs with hk | ⟨hk0, hk1⟩
 ·rw [hk]
  refine qX ?_
  refine qD [0, 1, 2, 3, 4, 5, 6, 7, 8, 9, 10, 11, 12, 13, 14, 15, 16, 17, 18, 19, 20, 21, 22, 23, 24, 25, 26, 27, 28, 29, 30, 31, 32] ?_
  refine qKD (hK) (qA [0, 1, 2, 3, 4, 5, 6]) ?_
  refine qB (fun h1 => ?_) fun h1 => ?_
  ·refine qKD (hL) [] ?_
   refine qB (fun h2 => ?_) fun h2 => ?_
   ·rw [hf (by rw [hok]; have := onAt_f (e := e) (x := x) (by rintro ⟨_, _, hh⟩; omega); simp; omega)]
    refine qG ?_
    exact qF [some (0, none), some (1, none), some (2, none), some (3, none), some (4, none), some (5, none), some (6, none), some (10, none), some (11, none), some (12, none), some (13, none), some (14, none), some (15, none), some (16, none), none]
   ·rw [hf (by rw [hok]; have := onAt_f (e := e) (x := x) (by rintro ⟨_, hh, _⟩; rw [h2] at hh; cases hh); simp; omega)]
    refine qG ?_
    exact qF [some (0, none), some (1, none), some (2, none), some (3, none), some (4, none), some (5, none), some (6, none), some (10, none), some (11, none), some (12, none), some (13, none), some (14, none), some (15, none), some (16, none), none]
  ·rw [hf (by rw [hok]; have := onAt_f (e := e) (x := x) (by rintro ⟨hh, _⟩; rw [h1] at hh; cases hh); simp; omega)]
   refine qG ?_
   exact qF [some (0, none), some (1, none), some (2, none), some (3, none), some (4, none), some (5, none), some (6, none), some (10, none), some (11, none), some (12, none), some (13, none), some (14, none), some (15, none), some (16, none), none]
 ·obtain ⟨n, hk⟩ := Int.eq_ofNat_of_zero_le hk0
  have hn : n < e.subs.length := by omega
  rw [hk]
  refine qX ?_
  refine qD [0, 1, 2, 3, 4, 5, 6, 7, 8, 9, 10, 11, 12, 13, 14, 15, 16, 17, 18, 19, 20, 21, 22, 23, 24, 25, 26, 27, 28, 29, 30, 31, 32] ?_
  refine qKD (hK) (qA [0, 1, 2, 3, 4, 5, 6]) ?_
  refine qB (fun h1 => ?_) fun h1 => ?_
  ·refine qKD (hL) [] ?_
   refine qB (fun h2 => ?_) fun h2 => ?_
   ·have hon := onAt_t h1 h2 hk
    have hq1 := h1
    refine qKD (impl_TagAddr _ _ _ _) [] ?_
    try simp (disch := omega) only [go_sem, Nat.reduceEqDiff, Nat.reduceAdd, Nat.reduceSub, Int.reduceAdd, Int.reduceSub, Int.reduceToNat, hcmp]
    refine qB (fun h4 => ?_) fun h4 => ?_
    ·refine qKD (hH) (qA [6]) ?_
     refine qG ?_
     refine qB (fun h5 => ?_) fun h5 => ?_
     ·rw [hf (by rw [hok]; simp [h5])]
      refine qX ?_
      exact qF [some (0, none), some (1, none), some (2, none), some (3, none), some (4, none), some (5, none), some (6, none), some (10, none), some (11, none), some (12, none), some (13, none), some (14, none), some (15, none), some (16, none), none]
     ·refine qX ?_
      refine qK (hA) (qA [1]) ?_
      rcases hbA with hi | ⟨hi0, hi1⟩
      ·rw [hi]
       refine qX ?_
       have hoth := haOther_no hi
       refine qD [0, 1, 2, 3, 4, 5, 6, 7, 8, 9, 10, 11, 12] ?_
       refine qG ?_
       have hP := impl_PutAddr e.far (haNew x) (by have := endOk_far hq1; omega)
       obtain ⟨Q, hQ⟩ : ∃ Q, Q = putAddr e.far (haNew x) := ⟨_, rfl⟩
       have hQl : Q.1.length ≤ 1048576 := by rw [hQ]; have := endOk_far hq1; have := putAddrL_len e.far (haNew x); unfold putAddr; split <;> dsimp only <;> omega
       rw [← hQ] at hP
       refine qX ?_
       refine qK (hP) (qA [1]) ?_
       refine qB (fun h7 => ?_) fun h7 => ?_
       ·rw [hf (by rw [hok, ← hQ]; simp [h7])]
        refine qX ?_
        exact qF [some (0, none), some (1, none), some (2, none), some (3, none), some (4, none), some (5, none), some (6, none), some (10, none), some (11, none), some (12, none), some (13, none), some (14, none), some (15, none), some (16, none), none]
       ·rw [ht _ (by rw [hok, hoth, ← hQ]; simp [hon, h4, h5, h7]) hon hn, ← hQ]
        refine qX ?_
        refine den_drawC [(15, 16)] [[0, 1, 3, 4, 5, 6, 7, 8, 9, 10, 11, 12, 13, 2, 14, 15, 16, 17], [0, 1, 3, 4, 5, 6, 7, 8, 9, 10, 11, 12, 13, 2, 14, 16, 15, 17]] (by kernel_rfl) (qC) (by kernel_rfl) ?_
        simp only [allDn]
        refine ⟨runD_den 400 ?_, runD_den 400 ?_⟩
        all_goals simp (disch := omega) only [go_sem, Nat.reduceEqDiff, Nat.reduceAdd, Nat.reduceSub, Int.reduceAdd, Int.reduceSub, Int.reduceToNat]
        all_goals
         refine qKD (impl_RoadOf x) [] ?_
         refine qKD (impl_Between (roadOf x) { letNone with kind := 9, sgn := e.subs[n].give, id := x.id, addr := x.addr }) [] ?_
         refine qG ?_
         refine den_fin (qA [0, 1, 2, 3, 4, 5, 6, 10, 18, 12, 13, 14, 15, 16, 19]) (qC) _ (by simp only [go_sem]; rfl) (by rfl) (by rfl) ?_
         simp (disch := omega) only [go_sem, Nat.reduceEqDiff, Nat.reduceAdd, Nat.reduceSub, Int.reduceAdd, Int.reduceSub, Int.reduceToNat]
         try simp [echoL, between, LetterD.cs]
      ·obtain ⟨i, hi⟩ := Int.eq_ofNat_of_zero_le hi0
       have hil : i < e.far.length := by omega
       have hoth := haOther_at hi hil
       rw [hi]
       refine qX ?_
       refine qD [0, 1, 2, 3, 4, 5, 6, 7, 8, 9, 10, 11, 12] ?_
       refine qG ?_
       refine qB (fun h6 => ?_) fun h6 => ?_
       ·rw [hf (by rw [hok, hoth]; simp [h6])]
        refine qX ?_
        exact qF [some (0, none), some (1, none), some (2, none), some (3, none), some (4, none), some (5, none), some (6, none), some (10, none), some (11, none), some (12, none), some (13, none), some (14, none), some (15, none), some (16, none), none]
       ·simp only [h6, decide_true, Bool.not_true] at hoth
        have hP := impl_PutAddr e.far (haNew x) (by have := endOk_far hq1; omega)
        obtain ⟨Q, hQ⟩ : ∃ Q, Q = putAddr e.far (haNew x) := ⟨_, rfl⟩
        have hQl : Q.1.length ≤ 1048576 := by rw [hQ]; have := endOk_far hq1; have := putAddrL_len e.far (haNew x); unfold putAddr; split <;> dsimp only <;> omega
        rw [← hQ] at hP
        refine qX ?_
        refine qK (hP) (qA [1]) ?_
        refine qB (fun h7 => ?_) fun h7 => ?_
        ·rw [hf (by rw [hok, ← hQ]; simp [h7])]
         refine qX ?_
         exact qF [some (0, none), some (1, none), some (2, none), some (3, none), some (4, none), some (5, none), some (6, none), some (10, none), some (11, none), some (12, none), some (13, none), some (14, none), some (15, none), some (16, none), none]
        ·rw [ht _ (by rw [hok, hoth, ← hQ]; simp [hon, h4, h5, h7]) hon hn, ← hQ]
         refine qX ?_
         refine den_drawC [(15, 16)] [[0, 1, 3, 4, 5, 6, 7, 8, 9, 10, 11, 12, 13, 2, 14, 15, 16, 17], [0, 1, 3, 4, 5, 6, 7, 8, 9, 10, 11, 12, 13, 2, 14, 16, 15, 17]] (by kernel_rfl) (qC) (by kernel_rfl) ?_
         simp only [allDn]
         refine ⟨runD_den 400 ?_, runD_den 400 ?_⟩
         all_goals simp (disch := omega) only [go_sem, Nat.reduceEqDiff, Nat.reduceAdd, Nat.reduceSub, Int.reduceAdd, Int.reduceSub, Int.reduceToNat]
         all_goals
          refine qKD (impl_RoadOf x) [] ?_
          refine qKD (impl_Between (roadOf x) { letNone with kind := 9, sgn := e.subs[n].give, id := x.id, addr := x.addr }) [] ?_
          refine qG ?_
          refine den_fin (qA [0, 1, 2, 3, 4, 5, 6, 10, 18, 12, 13, 14, 15, 16, 19]) (qC) _ (by simp only [go_sem]; rfl) (by rfl) (by rfl) ?_
          simp (disch := omega) only [go_sem, Nat.reduceEqDiff, Nat.reduceAdd, Nat.reduceSub, Int.reduceAdd, Int.reduceSub, Int.reduceToNat]
          try simp [echoL, between, LetterD.cs]
    ·rw [hf (by rw [hok]; simp [h4])]
     refine qG ?_
     exact qF [some (0, none), some (1, none), some (2, none), some (3, none), some (4, none), some (5, none), some (6, none), some (10, none), some (11, none), some (12, none), some (13, none), some (14, none), some (15, none), some (16, none), none]
   ·rw [hf (by rw [hok]; have := onAt_f (e := e) (x := x) (by rintro ⟨_, hh, _⟩; rw [h2] at hh; cases hh); simp; omega)]
    refine qG ?_
    exact qF [some (0, none), some (1, none), some (2, none), some (3, none), some (4, none), some (5, none), some (6, none), some (10, none), some (11, none), some (12, none), some (13, none), some (14, none), some (15, none), some (16, none), none]
  ·rw [hf (by rw [hok]; have := onAt_f (e := e) (x := x) (by rintro ⟨hh, _⟩; rw [h1] at hh; cases hh); simp; omega)]
   refine qG ?_
   exact qF [some (0, none), some (1, none), some (2, none), some (3, none), some (4, none), some (5, none), some (6, none), some (10, none), some (11, none), some (12, none), some (13, none), some (14, none), some (15, none), some (16, none), none]

theorem spec_HearAddr (e : EndD) (x : LetterD) (hs : Small e) : CallA Tryz.prog 100 [.ag (e.cs 0), .ag x.cs] (e.hp false) (.tu [.ag ((hearAddr e x).1.cs 7), .sc (.sl 14 0 (hearAddr e x).2.length)])
  (e.hp false ++ ((hearAddr e x).1.hp true ++ [some ⟨(hearAddr e x).2.map LetterD.cs, 19, 70, true, true⟩])) := by
 have hC := spec_l17Copy e (by have := hs.own; omega) (by have := hs.far; omega) (by have := hs.subs; omega) (by have := hs.halfs; omega) (by have := hs.list; omega) (by have := hs.done; omega) (by have := hs.over; omega)
 have hK := spec_EndOk e (by have := hs.own; omega) (by have := hs.far; omega) (by have := hs.subs; omega) (by have := hs.halfs; omega) (by have := hs.list; omega) (by have := hs.done; omega) (by have := hs.over; omega)
 have hA := spec_AddrAt e.far x.id (by have := hs.far; omega)
 have hH := spec_l15Has e.over x.id (by have := hs.over; omega)
 have hS := spec_l20On e x hs
 have hbA := addrAt_bd e.far x.id
 have hbd := onAt_bd e x
 have hf := hearAddr_f (e := e) (x := x)
 have ht := fun (n : Nat) => @hearAddr_t e x n
 have hok := haHeard.eq_1 e x
 generalize hearAddr e x = R at *
 refine qE Tryz.func100 Tryz.ntmps100 Tryz.results100 fun E hE => ?_
 refine qK (hC) (qA [0, 1, 2, 3, 4, 5, 6]) ?_
 refine qK (hS) (qA [0, 1, 2, 3, 4, 5, 6]) ?_
 have hcmp := TagD.cmp x.tag ⟨3, e.peer, e.key, x.id, x.addr⟩
 simp only [TagD.cs, go_sem] at hcmp
 rcases hbd with hon | ⟨n, hon, hk, hn, hq1, hq2⟩
 ·rw [hf (by rw [hok]; simp [hon]), hon]
  refine qX ?_
  refine qD [0, 1, 2, 3, 4, 5, 6, 7, 8, 9, 10, 11, 12, 13, 14, 15, 16, 17, 18, 19, 20, 21, 22] ?_
  refine qG ?_
  exact qF (qA [0, 1, 2, 3, 4, 5, 6, 10, 11, 12, 13, 14, 15, 16, 18])
 ·rw [hon]
  refine qX ?_
  refine qD [0, 1, 2, 3, 4, 5, 6, 7, 8, 9, 10, 11, 12, 13, 14, 15, 16, 17, 18, 19, 20, 21, 22] ?_
  refine qKD (spec_TagAddr _ _ _ _) [] ?_
  try simp (disch := omega) only [go_sem, Nat.reduceEqDiff, Nat.reduceAdd, Nat.reduceSub, Int.reduceAdd, Int.reduceSub, Int.reduceToNat, hcmp]
  refine qB (fun h4 => ?_) fun h4 => ?_
  ·refine qKD (hH) (qA [6]) ?_
   refine qG ?_
   refine qB (fun h5 => ?_) fun h5 => ?_
   ·rw [hf (by rw [hok]; simp [h5])]
    refine qX ?_
    exact qF (qA [0, 1, 2, 3, 4, 5, 6, 10, 11, 12, 13, 14, 15, 16, 18])
   ·refine qX ?_
    refine qK (hA) (qA [1]) ?_
    rcases hbA with hi | ⟨hi0, hi1⟩
    ·rw [hi]
     refine qX ?_
     have hoth := haOther_no hi
     refine qD [0, 1, 2, 3, 4, 5, 6, 7, 8, 9, 10, 11, 12] ?_
     refine qG ?_
     have hP := spec_PutAddr e.far (haNew x) (by have := endOk_far hq1; omega)
     obtain ⟨Q, hQ⟩ : ∃ Q, Q = putAddr e.far (haNew x) := ⟨_, rfl⟩
     have hQl : Q.1.length ≤ 1048576 := by rw [hQ]; have := endOk_far hq1; have := putAddrL_len e.far (haNew x); unfold putAddr; split <;> dsimp only <;> omega
     rw [← hQ] at hP
     refine qX ?_
     refine qK (hP) (qA [1]) ?_
     refine qB (fun h7 => ?_) fun h7 => ?_
     ·rw [hf (by rw [hok, ← hQ]; simp [h7])]
      refine qX ?_
      exact qF (qA [0, 1, 2, 3, 4, 5, 6, 10, 11, 12, 13, 14, 15, 16, 18])
     ·rw [ht _ (by rw [hok, hoth, ← hQ]; simp [hon, h4, h5, h7]) hon hn, ← hQ]
      refine qX ?_
      refine den_drawC [(0, 17), (3, 0), (15, 0), (16, 0)] [[1, 2, 4, 5, 6, 7, 8, 9, 10, 11, 12, 13, 14, 3, 15, 16, 0, 17, 18, 19], [1, 2, 4, 5, 6, 7, 8, 9, 10, 11, 12, 13, 14, 3, 15, 0, 16, 17, 18, 19], [1, 2, 4, 5, 6, 7, 8, 9, 10, 11, 12, 13, 14, 3, 0, 15, 16, 17, 18, 19], [1, 2, 4, 5, 6, 7, 8, 9, 10, 11, 12, 13, 14, 0, 3, 15, 16, 17, 18, 19], [1, 2, 4, 5, 6, 7, 8, 9, 10, 11, 12, 13, 14, 3, 15, 16, 17, 0, 18, 19]] (by kernel_rfl) (qC) (by kernel_rfl) ?_
      simp only [allDn]
      refine ⟨runD_den 400 ?_, runD_den 400 ?_, runD_den 400 ?_, runD_den 400 ?_, runD_den 400 ?_⟩
      all_goals simp (disch := omega) only [go_sem, Nat.reduceEqDiff, Nat.reduceAdd, Nat.reduceSub, Int.reduceAdd, Int.reduceSub, Int.reduceToNat]
      all_goals
       refine qKD (spec_RoadOf x) [] ?_
       refine qKD (spec_Between (roadOf x) { letNone with kind := 9, sgn := e.subs[n].give, id := x.id, addr := x.addr }) [] ?_
       refine qG ?_
       refine den_fin (qA [0, 1, 2, 3, 4, 5, 6, 10, 19, 12, 13, 14, 15, 16, 21]) (qC) _ (by simp only [go_sem]; rfl) (by rfl) (by rfl) ?_
       simp (disch := omega) only [go_sem, Nat.reduceEqDiff, Nat.reduceAdd, Nat.reduceSub, Int.reduceAdd, Int.reduceSub, Int.reduceToNat]
       try simp [echoL, between, LetterD.cs]
    ·obtain ⟨i, hi⟩ := Int.eq_ofNat_of_zero_le hi0
     have hil : i < e.far.length := by omega
     have hoth := haOther_at hi hil
     rw [hi]
     refine qX ?_
     refine qD [0, 1, 2, 3, 4, 5, 6, 7, 8, 9, 10, 11, 12] ?_
     refine qG ?_
     refine qB (fun h6 => ?_) fun h6 => ?_
     ·rw [hf (by rw [hok, hoth]; simp [h6])]
      refine qX ?_
      exact qF (qA [0, 1, 2, 3, 4, 5, 6, 10, 11, 12, 13, 14, 15, 16, 18])
     ·simp only [h6, decide_true, Bool.not_true] at hoth
      have hP := spec_PutAddr e.far (haNew x) (by have := endOk_far hq1; omega)
      obtain ⟨Q, hQ⟩ : ∃ Q, Q = putAddr e.far (haNew x) := ⟨_, rfl⟩
      have hQl : Q.1.length ≤ 1048576 := by rw [hQ]; have := endOk_far hq1; have := putAddrL_len e.far (haNew x); unfold putAddr; split <;> dsimp only <;> omega
      rw [← hQ] at hP
      refine qX ?_
      refine qK (hP) (qA [1]) ?_
      refine qB (fun h7 => ?_) fun h7 => ?_
      ·rw [hf (by rw [hok, ← hQ]; simp [h7])]
       refine qX ?_
       exact qF (qA [0, 1, 2, 3, 4, 5, 6, 10, 11, 12, 13, 14, 15, 16, 18])
      ·rw [ht _ (by rw [hok, hoth, ← hQ]; simp [hon, h4, h5, h7]) hon hn, ← hQ]
       refine qX ?_
       refine den_drawC [(0, 17), (3, 0), (15, 0), (16, 0)] [[1, 2, 4, 5, 6, 7, 8, 9, 10, 11, 12, 13, 14, 3, 15, 16, 0, 17, 18, 19], [1, 2, 4, 5, 6, 7, 8, 9, 10, 11, 12, 13, 14, 3, 15, 0, 16, 17, 18, 19], [1, 2, 4, 5, 6, 7, 8, 9, 10, 11, 12, 13, 14, 3, 0, 15, 16, 17, 18, 19], [1, 2, 4, 5, 6, 7, 8, 9, 10, 11, 12, 13, 14, 0, 3, 15, 16, 17, 18, 19], [1, 2, 4, 5, 6, 7, 8, 9, 10, 11, 12, 13, 14, 3, 15, 16, 17, 0, 18, 19]] (by kernel_rfl) (qC) (by kernel_rfl) ?_
       simp only [allDn]
       refine ⟨runD_den 400 ?_, runD_den 400 ?_, runD_den 400 ?_, runD_den 400 ?_, runD_den 400 ?_⟩
       all_goals simp (disch := omega) only [go_sem, Nat.reduceEqDiff, Nat.reduceAdd, Nat.reduceSub, Int.reduceAdd, Int.reduceSub, Int.reduceToNat]
       all_goals
        refine qKD (spec_RoadOf x) [] ?_
        refine qKD (spec_Between (roadOf x) { letNone with kind := 9, sgn := e.subs[n].give, id := x.id, addr := x.addr }) [] ?_
        refine qG ?_
        refine den_fin (qA [0, 1, 2, 3, 4, 5, 6, 10, 19, 12, 13, 14, 15, 16, 21]) (qC) _ (by simp only [go_sem]; rfl) (by rfl) (by rfl) ?_
        simp (disch := omega) only [go_sem, Nat.reduceEqDiff, Nat.reduceAdd, Nat.reduceSub, Int.reduceAdd, Int.reduceSub, Int.reduceToNat]
        try simp [echoL, between, LetterD.cs]
  ·rw [hf (by rw [hok]; simp [h4])]
   refine qG ?_
   exact qF (qA [0, 1, 2, 3, 4, 5, 6, 10, 11, 12, 13, 14, 15, 16, 18])

end
section
open Go.RowKit

theorem impl_HearEcho (e : EndD) (x : LetterD) (hs : Small e) : CallA Tryz.prog 130 [.ag (e.cs 0), .ag x.cs] (e.hp false) (.tu [.ag ((hearEcho e x).1.cs 7), .sc (.sl 14 0 (hearEcho e x).2.length)])
  (e.hp false ++ ((hearEcho e x).1.hp true ++ [some ⟨(hearEcho e x).2.map LetterD.cs, 19, 70, true, true⟩])) := by
 have hC := impl_copyEnd e (by have := hs.own; omega) (by have := hs.far; omega) (by have := hs.subs; omega) (by have := hs.halfs; omega) (by have := hs.list; omega) (by have := hs.done; omega) (by have := hs.over; omega)
 have hK := impl_EndOk e (by have := hs.own; omega) (by have := hs.far; omega) (by have := hs.subs; omega) (by have := hs.halfs; omega) (by have := hs.list; omega) (by have := hs.done; omega) (by have := hs.over; omega)
 have hA := impl_AddrAt e.own x.id (by have := hs.own; omega)
 have hS := impl_SignedOn e x (by have := hs.subs; omega)
 have hL := impl_LetterOk x
 have hbs := signedOn_bd e x
 have hbA := addrAt_bd e.own x.id
 have hbd := onAt_bd e x
 have hf := hearEcho_f (e := e) (x := x)
 have ht := fun (n : Nat) => @hearEcho_t e x n
 have hok := echoOk.eq_1 e x
 generalize hearEcho e x = R at *
 refine qE Tryz.func130 Tryz.ntmps130 Tryz.results130 fun E hE => ?_
 refine qK (hC) (qA [0, 1, 2, 3, 4, 5, 6]) ?_
 refine qK (hA) (qA [0]) ?_
 rcases hbA with hi | ⟨hi0, hi1⟩
 ·rw [hi]
  refine qX ?_
  rcases hbs with hk | ⟨hk0, hk1⟩
  ·refine qD [0, 1, 2, 3, 4, 5, 6, 7, 8, 9, 10, 11, 12, 13, 14, 15, 16, 17, 18, 19, 20, 21, 22, 23, 24, 25, 26] ?_
   refine qKD (hK) (qA [0, 1, 2, 3, 4, 5, 6]) ?_
   refine qB (fun h1 => ?_) fun h1 => ?_
   ·refine qKD (hL) [] ?_
    refine qB (fun h2 => ?_) fun h2 => ?_
    ·refine qKD (hS) (qA [0, 1, 2, 3, 4, 5, 6]) ?_
     rw [hk]
     refine qX ?_
     rw [hf (echoOk_no hi)]
     refine qG ?_
     exact qF [some (0, none), some (1, none), some (2, none), some (3, none), some (4, none), some (5, none), some (6, none), some (10, none), some (11, none), some (12, none), some (13, none), some (14, none), some (15, none), some (16, none), none]
    ·rw [hf (echoOk_no hi)]
     refine qG ?_
     exact qF [some (0, none), some (1, none), some (2, none), some (3, none), some (4, none), some (5, none), some (6, none), some (10, none), some (11, none), some (12, none), some (13, none), some (14, none), some (15, none), some (16, none), none]
   ·rw [hf (echoOk_no hi)]
    refine qG ?_
    exact qF [some (0, none), some (1, none), some (2, none), some (3, none), some (4, none), some (5, none), some (6, none), some (10, none), some (11, none), some (12, none), some (13, none), some (14, none), some (15, none), some (16, none), none]
  ·obtain ⟨n, hk⟩ := Int.eq_ofNat_of_zero_le hk0
   have hn : n < e.subs.length := by omega
   refine qD [0, 1, 2, 3, 4, 5, 6, 7, 8, 9, 10, 11, 12, 13, 14, 15, 16, 17, 18, 19, 20, 21, 22, 23, 24, 25, 26] ?_
   refine qKD (hK) (qA [0, 1, 2, 3, 4, 5, 6]) ?_
   refine qB (fun h1 => ?_) fun h1 => ?_
   ·refine qKD (hL) [] ?_
    refine qB (fun h2 => ?_) fun h2 => ?_
    ·refine qKD (hS) (qA [0, 1, 2, 3, 4, 5, 6]) ?_
     rw [hk]
     refine qX ?_
     have hon := onAt_t h1 h2 hk
     rw [hf (echoOk_no hi)]
     refine qG ?_
     exact qF [some (0, none), some (1, none), some (2, none), some (3, none), some (4, none), some (5, none), some (6, none), some (10, none), some (11, none), some (12, none), some (13, none), some (14, none), some (15, none), some (16, none), none]
    ·rw [hf (echoOk_no hi)]
     refine qG ?_
     exact qF [some (0, none), some (1, none), some (2, none), some (3, none), some (4, none), some (5, none), some (6, none), some (10, none), some (11, none), some (12, none), some (13, none), some (14, none), some (15, none), some (16, none), none]
   ·rw [hf (echoOk_no hi)]
    refine qG ?_
    exact qF [some (0, none), some (1, none), some (2, none), some (3, none), some (4, none), some (5, none), some (6, none), some (10, none), some (11, none), some (12, none), some (13, none), some (14, none), some (15, none), some (16, none), none]
 ·obtain ⟨i, hi⟩ := Int.eq_ofNat_of_zero_le hi0
  have hil : i < e.own.length := by omega
  rw [hi]
  refine qX ?_
  rcases hbs with hk | ⟨hk0, hk1⟩
  ·refine qD [0, 1, 2, 3, 4, 5, 6, 7, 8, 9, 10, 11, 12, 13, 14, 15, 16, 17, 18, 19, 20, 21, 22, 23, 24, 25, 26] ?_
   refine qKD (hK) (qA [0, 1, 2, 3, 4, 5, 6]) ?_
   refine qB (fun h1 => ?_) fun h1 => ?_
   ·refine qKD (hL) [] ?_
    refine qB (fun h2 => ?_) fun h2 => ?_
    ·refine qKD (hS) (qA [0, 1, 2, 3, 4, 5, 6]) ?_
     rw [hk]
     refine qX ?_
     rw [hf (by rw [echoOk_at hi hil]; have := onAt_f (e := e) (x := x) (by rintro ⟨_, _, hh⟩; omega); simp; omega)]
     refine qG ?_
     exact qF [some (0, none), some (1, none), some (2, none), some (3, none), some (4, none), some (5, none), some (6, none), some (10, none), some (11, none), some (12, none), some (13, none), some (14, none), some (15, none), some (16, none), none]
    ·rw [hf (by rw [echoOk_at hi hil]; have := onAt_f (e := e) (x := x) (by rintro ⟨_, hh, _⟩; rw [h2] at hh; cases hh); simp; omega)]
     refine qG ?_
     exact qF [some (0, none), some (1, none), some (2, none), some (3, none), some (4, none), some (5, none), some (6, none), some (10, none), some (11, none), some (12, none), some (13, none), some (14, none), some (15, none), some (16, none), none]
   ·rw [hf (by rw [echoOk_at hi hil]; have := onAt_f (e := e) (x := x) (by rintro ⟨hh, _⟩; rw [h1] at hh; cases hh); simp; omega)]
    refine qG ?_
    exact qF [some (0, none), some (1, none), some (2, none), some (3, none), some (4, none), some (5, none), some (6, none), some (10, none), some (11, none), some (12, none), some (13, none), some (14, none), some (15, none), some (16, none), none]
  ·obtain ⟨n, hk⟩ := Int.eq_ofNat_of_zero_le hk0
   have hn : n < e.subs.length := by omega
   refine qD [0, 1, 2, 3, 4, 5, 6, 7, 8, 9, 10, 11, 12, 13, 14, 15, 16, 17, 18, 19, 20, 21, 22, 23, 24, 25, 26] ?_
   refine qKD (hK) (qA [0, 1, 2, 3, 4, 5, 6]) ?_
   refine qB (fun h1 => ?_) fun h1 => ?_
   ·refine qKD (hL) [] ?_
    refine qB (fun h2 => ?_) fun h2 => ?_
    ·refine qKD (hS) (qA [0, 1, 2, 3, 4, 5, 6]) ?_
     rw [hk]
     refine qX ?_
     have hon := onAt_t h1 h2 hk
     refine qG ?_
     refine qB (fun h5 => ?_) fun h5 => ?_
     ·rw [ht _ (by rw [echoOk_at hi hil]; simp [hon, h5]) hi hil]
      refine qX ?_
      refine den_fin [some (0, none), some (1, none), some (2, none), some (3, none), some (4, none), some (5, none), some (6, none), some (10, none), some (11, none), some (12, none), some (13, none), some (14, none), some (15, none), some (16, none), none] (qC) _ (by simp only [go_sem]; rfl) (by rfl) (by rfl) ?_
      simp (disch := omega) only [go_sem, Nat.reduceEqDiff, Nat.reduceAdd, Nat.reduceSub, Int.reduceAdd, Int.reduceSub, Int.reduceToNat]
      try simp [List.map_set, AddrD.cs]
     ·rw [hf (by rw [echoOk_at hi hil]; simp [h5])]
      refine qX ?_
      exact qF [some (0, none), some (1, none), some (2, none), some (3, none), some (4, none), some (5, none), some (6, none), some (10, none), some (11, none), some (12, none), some (13, none), some (14, none), some (15, none), some (16, none), none]
    ·rw [hf (by rw [echoOk_at hi hil]; have := onAt_f (e := e) (x := x) (by rintro ⟨_, hh, _⟩; rw [h2] at hh; cases hh); simp; omega)]
     refine qG ?_
     exact qF [some (0, none), some (1, none), some (2, none), some (3, none), some (4, none), some (5, none), some (6, none), some (10, none), some (11, none), some (12, none), some (13, none), some (14, none), some (15, none), some (16, none), none]
   ·rw [hf (by rw [echoOk_at hi hil]; have := onAt_f (e := e) (x := x) (by rintro ⟨hh, _⟩; rw [h1] at hh; cases hh); simp; omega)]
    refine qG ?_
    exact qF [some (0, none), some (1, none), some (2, none), some (3, none), some (4, none), some (5, none), some (6, none), some (10, none), some (11, none), some (12, none), some (13, none), some (14, none), some (15, none), some (16, none), none]

theorem impl_HearGone (e : EndD) (x : LetterD) (hs : Small e) : CallA Tryz.prog 131 [.ag (e.cs 0), .ag x.cs] (e.hp false) (.tu [.ag ((hearGone e x).1.cs 7), .sc (.sl 14 0 (hearGone e x).2.length)])
  (e.hp false ++ ((hearGone e x).1.hp true ++ [some ⟨(hearGone e x).2.map LetterD.cs, 19, 70, true, true⟩])) := by
 have hC := impl_copyEnd e (by have := hs.own; omega) (by have := hs.far; omega) (by have := hs.subs; omega) (by have := hs.halfs; omega) (by have := hs.list; omega) (by have := hs.done; omega) (by have := hs.over; omega)
 have hK := impl_EndOk e (by have := hs.own; omega) (by have := hs.far; omega) (by have := hs.subs; omega) (by have := hs.halfs; omega) (by have := hs.list; omega) (by have := hs.done; omega) (by have := hs.over; omega)
 have hA := impl_AddrAt e.far x.id (by have := hs.far; omega)
 have hD := impl_DropAddr e.far x.id (by have := hs.far; omega)
 have hS := impl_SignedOn e x (by have := hs.subs; omega)
 have hL := impl_LetterOk x
 have hbs := signedOn_bd e x
 have hbA := addrAt_bd e.far x.id
 have hbd := onAt_bd e x
 have hf := hearGone_f (e := e) (x := x)
 have ht := fun (n : Nat) => @hearGone_t e x n
 have hok := goneOk.eq_1 e x
 have hpl := putI_len e.over x.id
 generalize hearGone e x = R at *
 refine qE Tryz.func131 Tryz.ntmps131 Tryz.results131 fun E hE => ?_
 refine qK (hC) (qA [0, 1, 2, 3, 4, 5, 6]) ?_
 refine qK (hA) (qA [1]) ?_
 rcases hbA with hi | ⟨hi0, hi1⟩
 ·rw [hi]
  refine qX ?_
  rcases hbs with hk | ⟨hk0, hk1⟩
  ·refine qK (hK) (qA [0, 1, 2, 3, 4, 5, 6]) ?_
   refine qB (fun h1 => ?_) fun h1 => ?_
   ·refine qK (hL) [] ?_
    refine qB (fun h2 => ?_) fun h2 => ?_
    ·refine qK (hS) (qA [0, 1, 2, 3, 4, 5, 6]) ?_
     rw [hk]
     refine qX ?_
     rw [hf (by rw [hok]; have := onAt_f (e := e) (x := x) (by rintro ⟨_, _, hh⟩; omega); simp; omega)]
     refine qX ?_
     exact qF [some (0, none), some (1, none), some (2, none), some (3, none), some (4, none), some (5, none), some (6, none), some (10, none), some (11, none), some (12, none), some (13, none), some (14, none), some (15, none), some (16, none), none]
    ·rw [hf (by rw [hok]; have := onAt_f (e := e) (x := x) (by rintro ⟨_, hh, _⟩; rw [h2] at hh; cases hh); simp; omega)]
     refine qX ?_
     exact qF [some (0, none), some (1, none), some (2, none), some (3, none), some (4, none), some (5, none), some (6, none), some (10, none), some (11, none), some (12, none), some (13, none), some (14, none), some (15, none), some (16, none), none]
   ·rw [hf (by rw [hok]; have := onAt_f (e := e) (x := x) (by rintro ⟨hh, _⟩; rw [h1] at hh; cases hh); simp; omega)]
    refine qX ?_
    exact qF [some (0, none), some (1, none), some (2, none), some (3, none), some (4, none), some (5, none), some (6, none), some (10, none), some (11, none), some (12, none), some (13, none), some (14, none), some (15, none), some (16, none), none]
  ·obtain ⟨n, hk⟩ := Int.eq_ofNat_of_zero_le hk0
   have hn : n < e.subs.length := by omega
   refine qK (hK) (qA [0, 1, 2, 3, 4, 5, 6]) ?_
   refine qB (fun h1 => ?_) fun h1 => ?_
   ·refine qK (hL) [] ?_
    refine qB (fun h2 => ?_) fun h2 => ?_
    ·refine qK (hS) (qA [0, 1, 2, 3, 4, 5, 6]) ?_
     rw [hk]
     refine qX ?_
     have hon := onAt_t h1 h2 hk
     have hq1 := h1
     rw [hf (by rw [hok]; simp [hi])]
     refine qX ?_
     exact qF [some (0, none), some (1, none), some (2, none), some (3, none), some (4, none), some (5, none), some (6, none), some (10, none), some (11, none), some (12, none), some (13, none), some (14, none), some (15, none), some (16, none), none]
    ·rw [hf (by rw [hok]; have := onAt_f (e := e) (x := x) (by rintro ⟨_, hh, _⟩; rw [h2] at hh; cases hh); simp; omega)]
     refine qX ?_
     exact qF [some (0, none), some (1, none), some (2, none), some (3, none), some (4, none), some (5, none), some (6, none), some (10, none), some (11, none), some (12, none), some (13, none), some (14, none), some (15, none), some (16, none), none]
   ·rw [hf (by rw [hok]; have := onAt_f (e := e) (x := x) (by rintro ⟨hh, _⟩; rw [h1] at hh; cases hh); simp; omega)]
    refine qX ?_
    exact qF [some (0, none), some (1, none), some (2, none), some (3, none), some (4, none), some (5, none), some (6, none), some (10, none), some (11, none), some (12, none), some (13, none), some (14, none), some (15, none), some (16, none), none]
 ·obtain ⟨i, hi⟩ := Int.eq_ofNat_of_zero_le hi0
  have hil : i < e.far.length := by omega
  rw [hi]
  refine qX ?_
  rcases hbs with hk | ⟨hk0, hk1⟩
  ·refine qK (hK) (qA [0, 1, 2, 3, 4, 5, 6]) ?_
   refine qB (fun h1 => ?_) fun h1 => ?_
   ·refine qK (hL) [] ?_
    refine qB (fun h2 => ?_) fun h2 => ?_
    ·refine qK (hS) (qA [0, 1, 2, 3, 4, 5, 6]) ?_
     rw [hk]
     refine qX ?_
     rw [hf (by rw [hok]; have := onAt_f (e := e) (x := x) (by rintro ⟨_, _, hh⟩; omega); simp; omega)]
     refine qX ?_
     exact qF [some (0, none), some (1, none), some (2, none), some (3, none), some (4, none), some (5, none), some (6, none), some (10, none), some (11, none), some (12, none), some (13, none), some (14, none), some (15, none), some (16, none), none]
    ·rw [hf (by rw [hok]; have := onAt_f (e := e) (x := x) (by rintro ⟨_, hh, _⟩; rw [h2] at hh; cases hh); simp; omega)]
     refine qX ?_
     exact qF [some (0, none), some (1, none), some (2, none), some (3, none), some (4, none), some (5, none), some (6, none), some (10, none), some (11, none), some (12, none), some (13, none), some (14, none), some (15, none), some (16, none), none]
   ·rw [hf (by rw [hok]; have := onAt_f (e := e) (x := x) (by rintro ⟨hh, _⟩; rw [h1] at hh; cases hh); simp; omega)]
    refine qX ?_
    exact qF [some (0, none), some (1, none), some (2, none), some (3, none), some (4, none), some (5, none), some (6, none), some (10, none), some (11, none), some (12, none), some (13, none), some (14, none), some (15, none), some (16, none), none]
  ·obtain ⟨n, hk⟩ := Int.eq_ofNat_of_zero_le hk0
   have hn : n < e.subs.length := by omega
   refine qK (hK) (qA [0, 1, 2, 3, 4, 5, 6]) ?_
   refine qB (fun h1 => ?_) fun h1 => ?_
   ·refine qK (hL) [] ?_
    refine qB (fun h2 => ?_) fun h2 => ?_
    ·refine qK (hS) (qA [0, 1, 2, 3, 4, 5, 6]) ?_
     rw [hk]
     refine qX ?_
     have hon := onAt_t h1 h2 hk
     have hq1 := h1
     rw [ht _ (by rw [hok]; simp [hon, hi]) hi hil]
     have hdl : (dropAddr e.far x.id).1.length ≤ e.far.length := by rw [dropAddr_t hi]; simp; omega
     refine qX ?_
     refine qK (hD) (qA [1]) ?_
     refine qK (impl_put e.over x.id (by have := endOk_over hq1; omega)) (qA [6]) ?_
     refine den_lp 7 hE (fun s (k : Nat) => s.at [0, 1, 2, 3, 7, 9, 10, 11, 12, 13, 14, 15, 16, 17, 18, 19, 20, 21, 22, 23, 24, 25, 26, 27, 28, 29, 30, 31, 32, 33, 34, 35, 36, 37, 38, 39, 40, 41, 42, 43, 44, 45, 46, 47, 48, 49, 50, 51, 52, 53, 54, 55, 56, 57, 58, 61, 62, 63, 64, 65, 66, 67, 68, 69, 70, 71, 72, 73, 74, 75, 76, 77] [(60, .sc (.int .i64 (k : Nat)))] (s.hp.set 12 (some ⟨(goneN e.far[i].addr e.subs k).map SubD.cs, 10, 202, true, true⟩))) (fun (k : Nat) => k ≤ e.subs.length) (fun (k : Nat) => e.subs.length - k) 0 (qA [0, 1, 2, 3, 4, 5, 6, 7, 8, 9, 10, 11, 12, 13, 14, 15, 16, 17, 18, 19]) (qC) (Nat.zero_le _) (weak_mk (by rfl) (by rfl) ?_) fun k hk N hN => ?_
     ·refine qX ?_
      rw [goneN_zero]
     ·refine run_den 400 ?_
      have hsb := hs.subs
      have hgl : (goneN e.far[i].addr e.subs k).length = e.subs.length := goneN_len
      refine qX ?_
      refine qB (fun h => ?_) fun h => ?_
      ·have hg : ∀ p : k < (goneN e.far[i].addr e.subs k).length, (goneN e.far[i].addr e.subs k)[k]'p = e.subs[k] := by
        intro p
        have hq := goneN_at (a := e.far[i].addr) h
        rw [List.getElem?_eq_getElem p] at hq
        exact Option.some.inj hq
       try simp (disch := omega) only [go_sem, Nat.reduceEqDiff, Nat.reduceAdd, Nat.reduceSub, Int.reduceAdd, Int.reduceSub, Int.reduceToNat, hg]
       refine qB (fun h9 => ?_) fun h9 => ?_
       ·refine qX ?_
        refine ⟨qC, hN _ (k + 1) (qA [0, 1, 2, 3, 4, 5, 6, 7, 8, 9, 10, 11, 12, 13, 14, 15, 16, 17, 18, 19]) (by (try dsimp only); exact by omega) (by (try dsimp only); omega) (weak_mk (by rfl) (by rfl) ?_)⟩
        refine qX ?_
        rw [← goneN_set h, List.map_set]
        simp [goneS, h9, hg, SubD.cs]
       ·refine qX ?_
        refine ⟨qC, hN _ (k + 1) (qA [0, 1, 2, 3, 4, 5, 6, 7, 8, 9, 10, 11, 12, 13, 14, 15, 16, 17, 18, 19]) (by (try dsimp only); exact by omega) (by (try dsimp only); omega) (weak_mk (by rfl) (by rfl) ?_)⟩
        refine qX ?_
        rw [goneN_same h h9]
      ·have hkl : k = e.subs.length := by omega
       subst hkl
       rw [goneN_all]
       refine qX ?_
       exact qF [some (0, none), some (1, none), some (2, none), some (3, none), some (4, none), some (5, none), some (6, none), some (10, none), some (18, none), some (12, none), some (13, none), some (14, none), some (15, none), some (19, none), none]
    ·rw [hf (by rw [hok]; have := onAt_f (e := e) (x := x) (by rintro ⟨_, hh, _⟩; rw [h2] at hh; cases hh); simp; omega)]
     refine qX ?_
     exact qF [some (0, none), some (1, none), some (2, none), some (3, none), some (4, none), some (5, none), some (6, none), some (10, none), some (11, none), some (12, none), some (13, none), some (14, none), some (15, none), some (16, none), none]
   ·rw [hf (by rw [hok]; have := onAt_f (e := e) (x := x) (by rintro ⟨hh, _⟩; rw [h1] at hh; cases hh); simp; omega)]
    refine qX ?_
    exact qF [some (0, none), some (1, none), some (2, none), some (3, none), some (4, none), some (5, none), some (6, none), some (10, none), some (11, none), some (12, none), some (13, none), some (14, none), some (15, none), some (16, none), none]

theorem spec_HearEcho (e : EndD) (x : LetterD) (hs : Small e) : CallA Tryz.prog 101 [.ag (e.cs 0), .ag x.cs] (e.hp false) (.tu [.ag ((hearEcho e x).1.cs 7), .sc (.sl 14 0 (hearEcho e x).2.length)])
  (e.hp false ++ ((hearEcho e x).1.hp true ++ [some ⟨(hearEcho e x).2.map LetterD.cs, 19, 70, true, true⟩])) := by
 have hC := spec_l17Copy e (by have := hs.own; omega) (by have := hs.far; omega) (by have := hs.subs; omega) (by have := hs.halfs; omega) (by have := hs.list; omega) (by have := hs.done; omega) (by have := hs.over; omega)
 have hK := spec_EndOk e (by have := hs.own; omega) (by have := hs.far; omega) (by have := hs.subs; omega) (by have := hs.halfs; omega) (by have := hs.list; omega) (by have := hs.done; omega) (by have := hs.over; omega)
 have hA := spec_AddrAt e.own x.id (by have := hs.own; omega)
 have hS := spec_l20On e x hs
 have hbA := addrAt_bd e.own x.id
 have hbd := onAt_bd e x
 have hf := hearEcho_f (e := e) (x := x)
 have ht := fun (n : Nat) => @hearEcho_t e x n
 have hok := echoOk.eq_1 e x
 generalize hearEcho e x = R at *
 refine qE Tryz.func101 Tryz.ntmps101 Tryz.results101 fun E hE => ?_
 refine qK (hC) (qA [0, 1, 2, 3, 4, 5, 6]) ?_
 refine qK (hA) (qA [0]) ?_
 rcases hbA with hi | ⟨hi0, hi1⟩
 ·rw [hi]
  refine qX ?_
  refine qD [0, 1, 2, 3, 4, 5, 6, 7, 8, 9, 10, 11, 12, 13, 14, 15, 16, 17, 18] ?_
  refine qKD (hS) (qA [0, 1, 2, 3, 4, 5, 6]) ?_
  rcases hbd with hon | ⟨n, hon, hk, hn, hq1, hq2⟩
  ·rw [hon]
   refine qX ?_
   rw [hf (echoOk_no hi)]
   refine qG ?_
   exact qF (qA [0, 1, 2, 3, 4, 5, 6, 10, 11, 12, 13, 14, 15, 16, 18])
  ·rw [hon]
   refine qX ?_
   rw [hf (echoOk_no hi)]
   refine qG ?_
   exact qF (qA [0, 1, 2, 3, 4, 5, 6, 10, 11, 12, 13, 14, 15, 16, 18])
 ·obtain ⟨i, hi⟩ := Int.eq_ofNat_of_zero_le hi0
  have hil : i < e.own.length := by omega
  rw [hi]
  refine qX ?_
  refine qD [0, 1, 2, 3, 4, 5, 6, 7, 8, 9, 10, 11, 12, 13, 14, 15, 16, 17, 18] ?_
  refine qKD (hS) (qA [0, 1, 2, 3, 4, 5, 6]) ?_
  rcases hbd with hon | ⟨n, hon, hk, hn, hq1, hq2⟩
  ·rw [hon]
   refine qX ?_
   rw [hf (by rw [echoOk_at hi hil]; have := hon; simp; omega)]
   refine qG ?_
   exact qF (qA [0, 1, 2, 3, 4, 5, 6, 10, 11, 12, 13, 14, 15, 16, 18])
  ·rw [hon]
   refine qX ?_
   refine qG ?_
   refine qB (fun h5 => ?_) fun h5 => ?_
   ·rw [ht _ (by rw [echoOk_at hi hil]; simp [hon, h5]) hi hil]
    refine qX ?_
    refine den_fin (qA [0, 1, 2, 3, 4, 5, 6, 10, 11, 12, 13, 14, 15, 16, 18]) (qC) _ (by simp only [go_sem]; rfl) (by rfl) (by rfl) ?_
    simp (disch := omega) only [go_sem, Nat.reduceEqDiff, Nat.reduceAdd, Nat.reduceSub, Int.reduceAdd, Int.reduceSub, Int.reduceToNat]
    try simp [List.map_set, AddrD.cs]
   ·rw [hf (by rw [echoOk_at hi hil]; simp [h5])]
    refine qX ?_
    exact qF (qA [0, 1, 2, 3, 4, 5, 6, 10, 11, 12, 13, 14, 15, 16, 18])

theorem spec_HearGone (e : EndD) (x : LetterD) (hs : Small e) : CallA Tryz.prog 102 [.ag (e.cs 0), .ag x.cs] (e.hp false) (.tu [.ag ((hearGone e x).1.cs 7), .sc (.sl 14 0 (hearGone e x).2.length)])
  (e.hp false ++ ((hearGone e x).1.hp true ++ [some ⟨(hearGone e x).2.map LetterD.cs, 19, 70, true, true⟩])) := by
 have hC := spec_l17Copy e (by have := hs.own; omega) (by have := hs.far; omega) (by have := hs.subs; omega) (by have := hs.halfs; omega) (by have := hs.list; omega) (by have := hs.done; omega) (by have := hs.over; omega)
 have hK := spec_EndOk e (by have := hs.own; omega) (by have := hs.far; omega) (by have := hs.subs; omega) (by have := hs.halfs; omega) (by have := hs.list; omega) (by have := hs.done; omega) (by have := hs.over; omega)
 have hA := spec_AddrAt e.far x.id (by have := hs.far; omega)
 have hD := spec_DropAddr e.far x.id (by have := hs.far; omega)
 have hS := spec_l20On e x hs
 have hbA := addrAt_bd e.far x.id
 have hbd := onAt_bd e x
 have hf := hearGone_f (e := e) (x := x)
 have ht := fun (n : Nat) => @hearGone_t e x n
 have hok := goneOk.eq_1 e x
 have hpl := putI_len e.over x.id
 generalize hearGone e x = R at *
 refine qE Tryz.func102 Tryz.ntmps102 Tryz.results102 fun E hE => ?_
 refine qK (hC) (qA [0, 1, 2, 3, 4, 5, 6]) ?_
 refine qK (hA) (qA [1]) ?_
 rcases hbA with hi | ⟨hi0, hi1⟩
 ·rw [hi]
  refine qX ?_
  refine qK (hS) (qA [0, 1, 2, 3, 4, 5, 6]) ?_
  rcases hbd with hon | ⟨n, hon, hk, hn, hq1, hq2⟩
  ·rw [hon]
   refine qX ?_
   rw [hf (by rw [hok]; have := hon; simp; omega)]
   refine qX ?_
   exact qF (qA [0, 1, 2, 3, 4, 5, 6, 10, 11, 12, 13, 14, 15, 16, 18])
  ·rw [hon]
   refine qX ?_
   rw [hf (by rw [hok]; simp [hi])]
   refine qX ?_
   exact qF (qA [0, 1, 2, 3, 4, 5, 6, 10, 11, 12, 13, 14, 15, 16, 18])
 ·obtain ⟨i, hi⟩ := Int.eq_ofNat_of_zero_le hi0
  have hil : i < e.far.length := by omega
  rw [hi]
  refine qX ?_
  refine qK (hS) (qA [0, 1, 2, 3, 4, 5, 6]) ?_
  rcases hbd with hon | ⟨n, hon, hk, hn, hq1, hq2⟩
  ·rw [hon]
   refine qX ?_
   rw [hf (by rw [hok]; have := hon; simp; omega)]
   refine qX ?_
   exact qF (qA [0, 1, 2, 3, 4, 5, 6, 10, 11, 12, 13, 14, 15, 16, 18])
  ·rw [hon]
   refine qX ?_
   rw [ht _ (by rw [hok]; simp [hon, hi]) hi hil]
   have hdl : (dropAddr e.far x.id).1.length ≤ e.far.length := by rw [dropAddr_t hi]; simp; omega
   refine qX ?_
   refine qK (spec_l17Put e.over x.id (by have := endOk_over hq1; omega)) (qA [6]) ?_
   refine qK (hD) (qA [1]) ?_
   refine den_lp 7 hE (fun s (k : Nat) => s.at [0, 1, 3, 9, 10, 11, 12, 13, 14, 15, 16, 17, 18, 19, 20, 21, 22, 23, 24, 25, 26, 27, 28, 29, 30, 31, 32, 33, 34, 35, 36, 37, 38, 39, 40, 41, 42, 43, 44, 45, 46, 47, 48, 49, 50, 51, 52, 53, 54, 55, 56, 57, 58, 59, 60, 61, 62, 63, 64, 65, 66] [(8, .sc (.int .i64 (k : Nat)))] (s.hp.set 12 (some ⟨(goneN e.far[i].addr e.subs k).map SubD.cs, 10, 202, true, true⟩))) (fun (k : Nat) => k ≤ e.subs.length) (fun (k : Nat) => e.subs.length - k) 0 (qA [0, 1, 2, 3, 4, 5, 6, 7, 8, 9, 10, 11, 12, 13, 14, 15, 16, 17, 18, 19]) (qC) (Nat.zero_le _) (weak_mk (by rfl) (by rfl) ?_) fun k hk N hN => ?_
   ·refine qX ?_
    rw [goneN_zero]
   ·refine run_den 400 ?_
    have hsb := hs.subs
    have hgl : (goneN e.far[i].addr e.subs k).length = e.subs.length := goneN_len
    refine qX ?_
    refine qB (fun h => ?_) fun h => ?_
    ·have hg : ∀ p : k < (goneN e.far[i].addr e.subs k).length, (goneN e.far[i].addr e.subs k)[k]'p = e.subs[k] := by
      intro p
      have hq := goneN_at (a := e.far[i].addr) h
      rw [List.getElem?_eq_getElem p] at hq
      exact Option.some.inj hq
     try simp (disch := omega) only [go_sem, Nat.reduceEqDiff, Nat.reduceAdd, Nat.reduceSub, Int.reduceAdd, Int.reduceSub, Int.reduceToNat, hg]
     refine qD [0, 1, 2, 3, 4, 5, 6, 7, 8, 9, 10, 11, 12, 13] ?_
     refine ⟨qC, run_den 400 ?_⟩
     try simp (disch := omega) only [go_sem, Nat.reduceEqDiff, Nat.reduceAdd, Nat.reduceSub, Int.reduceAdd, Int.reduceSub, Int.reduceToNat, hg]
     refine qB (fun h9 => ?_) fun h9 => ?_
     ·refine qX ?_
      refine ⟨qC, hN _ (k + 1) (qA [0, 1, 2, 3, 4, 5, 6, 7, 8, 9, 10, 11, 12, 13, 14, 15, 16, 17, 18, 19]) (by (try dsimp only); exact by omega) (by (try dsimp only); omega) (weak_mk (by rfl) (by rfl) ?_)⟩
      refine qX ?_
      rw [← goneN_set h, List.map_set]
      simp [goneS, h9, hg, SubD.cs]
     ·refine qX ?_
      refine ⟨qC, hN _ (k + 1) (qA [0, 1, 2, 3, 4, 5, 6, 7, 8, 9, 10, 11, 12, 13, 14, 15, 16, 17, 18, 19]) (by (try dsimp only); exact by omega) (by (try dsimp only); omega) (weak_mk (by rfl) (by rfl) ?_)⟩
      refine qX ?_
      rw [goneN_same h h9]
    ·have hkl : k = e.subs.length := by omega
     subst hkl
     rw [goneN_all]
     refine qX ?_
     exact qF (qA [0, 1, 2, 3, 4, 5, 6, 10, 19, 12, 13, 14, 15, 18, 20])

end
section
open Go.RowKit

def sumT : List PieceD → Nat
 | [] => 0
 | x :: r => x.text.length + sumT r
theorem sumT_le {M : Nat} : ∀ {l : List PieceD}, (∀ x ∈ l, x.text.length ≤ M) → sumT l ≤ l.length * M
 | [], _ => by simp [sumT]
 | x :: r, h => by
  have h1 := h x (by simp)
  have h2 := sumT_le (l := r) (M := M) (fun y hy => h y (by simp [hy]))
  simp only [sumT, List.length_cons, Nat.add_mul, Nat.one_mul]
  omega
theorem sumT_mem : ∀ {l : List PieceD} {x : PieceD}, x ∈ l → x.text.length ≤ sumT l
 | [], x, h => by simp at h
 | y :: r, x, h => by
  simp only [List.mem_cons] at h
  simp only [sumT]
  rcases h with rfl | h
  ·omega
  ·have := sumT_mem h; omega
theorem heldGo_val : ∀ {l : List PieceD} {n : Int}, 0 ≤ n → n + (sumT l : Int) ≤ 4611686018427387904 → heldGo n l = n + (sumT l : Int)
 | [], n, h0, h => by simp [heldGo, sumT]
 | x :: r, n, h0, h => by
  simp only [sumT, Int.natCast_add] at h
  rw [heldGo, w64 (by omega), heldGo_val (by omega) (by omega)]
  simp only [sumT, Int.natCast_add]
  omega
theorem pcGo_facts : ∀ {l : List PieceD} {en : Int}, 0 ≤ en → (∀ x ∈ l, x.text.length ≤ 200) → pcGo en l = true → ∀ x ∈ l, 0 ≤ x.pos ∧ x.pos ≤ 2000000000
 | [], _, _, _, _ => by simp
 | y :: r, en, h0, hl, h => by
  simp only [pcGo, Bool.and_eq_true, decide_eq_true_eq] at h
  obtain ⟨⟨⟨_, h1⟩, h2⟩, h3⟩ := h
  have hy := hl y (by simp)
  rw [w64 (by omega)] at h3
  intro x hx
  simp only [List.mem_cons] at hx
  rcases hx with rfl | hx
  ·exact ⟨by omega, h1⟩
  ·exact pcGo_facts (by omega) (fun z hz => hl z (by simp [hz])) h3 x hx
structure SmallP (p : PiecesD) : Prop where
 list : p.list.length ≤ 1048576
 ready : p.ready.length ≤ 1048576
 texts : ∀ x ∈ p.list, x.text.length ≤ 1048576
structure FineP (p : PiecesD) : Prop where
 r0 : 0 ≤ p.read
 r1 : p.read ≤ 1000000000
 list : p.list.length ≤ 20
 ready : p.ready.length ≤ 200
 texts : ∀ x ∈ p.list, x.text.length ≤ 200 ∧ 0 ≤ x.pos ∧ x.pos ≤ 2000000000
 next : nextOf p = p.read + (p.ready.length : Int)
theorem piecesOk_fine {p : PiecesD} (h : piecesOk p = true) (hs : SmallP p) : FineP p := by
 simp only [piecesOk, isN, Bool.and_eq_true, decide_eq_true_eq] at h
 obtain ⟨⟨⟨⟨h0, h1⟩, h2⟩, h3⟩, h4⟩ := h
 have hle := sumT_le hs.texts
 have hr := hs.ready
 have hm : p.list.length * 1048576 ≤ 20 * 1048576 := Nat.mul_le_mul_right _ (by omega)
 rw [heldOf, heldGo_val (by omega) (by omega)] at h3
 have hn : nextOf p = p.read + (p.ready.length : Int) := by rw [nextOf, w64 (by omega)]
 have ht : ∀ x ∈ p.list, x.text.length ≤ 200 := fun x hx => by have := sumT_mem hx; omega
 refine ⟨h0, h1, by omega, by omega, fun x hx => ⟨ht x hx, ?_⟩, hn⟩
 rw [hn] at h4
 exact pcGo_facts (by omega) ht h4 x hx
def joinP (a b : PieceD) : PieceD :=
 if b.pos < a.pos then ⟨b.pos, b.text.take (a.pos - b.pos).toNat ++ a.text ++ b.text.drop ((a.pos - b.pos).toNat + a.text.length)⟩
 else ⟨a.pos, a.text ++ b.text.drop (a.pos + (a.text.length : Int) - b.pos).toNat⟩
theorem joinP_lt {a b : PieceD} {n : Nat} (h : a.pos - b.pos = (n : Int)) (h0 : 0 < n) : joinP a b = ⟨b.pos, b.text.take n ++ a.text ++ b.text.drop (n + a.text.length)⟩ := by
 rw [joinP, if_pos (by omega), h, Int.toNat_natCast]
theorem joinP_ge {a b : PieceD} {n : Nat} (h : b.pos - a.pos = (n : Int)) : joinP a b = ⟨a.pos, a.text ++ b.text.drop (a.text.length - n)⟩ := by
 rw [joinP, if_neg (by omega), show (a.pos + (a.text.length : Int) - b.pos).toNat = a.text.length - n by omega]
theorem joinP_len {a b : PieceD} : (joinP a b).text.length ≤ a.text.length + b.text.length := by
 rw [joinP]
 split <;> simp <;> omega
theorem joinP_pos {a b : PieceD} : (joinP a b).pos = a.pos ∨ (joinP a b).pos = b.pos := by
 rw [joinP]
 split
 ·exact .inr rfl
 ·exact .inl rfl
structure PpS where
 own : PieceD
 laid : Bool
 acc : List PieceD
def ppStep (g : PpS) (x : PieceD) : PpS :=
 if x.pos + (x.text.length : Int) < g.own.pos then { g with acc := g.acc ++ [x] }
 else if g.own.pos + (g.own.text.length : Int) < x.pos then ⟨g.own, true, (if g.laid then g.acc else g.acc ++ [g.own]) ++ [x]⟩
 else { g with own := joinP x g.own }
theorem ppStep_a {g : PpS} {x : PieceD} (h : x.pos + (x.text.length : Int) < g.own.pos) : ppStep g x = ⟨g.own, g.laid, g.acc ++ [x]⟩ := if_pos h
theorem ppStep_b {g : PpS} {x : PieceD} (h : ¬ x.pos + (x.text.length : Int) < g.own.pos) (h2 : g.own.pos + (g.own.text.length : Int) < x.pos) :
  ppStep g x = ⟨g.own, true, (if g.laid then g.acc else g.acc ++ [g.own]) ++ [x]⟩ := by rw [ppStep, if_neg h, if_pos h2]
theorem ppStep_c {g : PpS} {x : PieceD} (h : ¬ x.pos + (x.text.length : Int) < g.own.pos) (h2 : ¬ g.own.pos + (g.own.text.length : Int) < x.pos) :
  ppStep g x = ⟨joinP x g.own, g.laid, g.acc⟩ := by rw [ppStep, if_neg h, if_neg h2]
def ppGo (g : PpS) (l : List PieceD) : PpS := l.foldl ppStep g
theorem ppGo_step {g : PpS} {l : List PieceD} {k : Nat} (h : k < l.length) : ppGo g (l.drop k) = ppGo (ppStep g l[k]) (l.drop (k + 1)) := by
 rw [List.drop_eq_getElem_cons h]
 rfl
theorem ppGo_end {g : PpS} {l : List PieceD} {k : Nat} (h : l.length ≤ k) : ppGo g (l.drop k) = g := by
 rw [List.drop_eq_nil_of_le h]
 rfl
def ppAll (g : PpS) : List PieceD := if g.laid then g.acc else g.acc ++ [g.own]
def ppOut (p : PiecesD) (l : List PieceD) : PiecesD := if (l.headD default).pos = nextOf p then ⟨p.read, p.ready ++ (l.headD default).text, l.tail⟩ else ⟨p.read, p.ready, l⟩
def ppEnd (p : PiecesD) (l : List PieceD) : PiecesD := if piecesOk (ppOut p l) then ppOut p l else p
def ppOk (p : PiecesD) (at' : Int) (text : List UInt8) : Bool := piecesOk p && isN at' && inR (text.length : Int) 1 200
def ppRun (p : PiecesD) (at' : Int) (text : List UInt8) : PiecesD := ppEnd p (ppAll (ppGo ⟨⟨at', text⟩, false, []⟩ p.list))
def putPiece (p : PiecesD) (at' : Int) (text : List UInt8) : PiecesD :=
 if ppOk p at' text then
  if nextOf p - at' ≥ text.length then p
  else if 0 < nextOf p - at' then ppRun p (nextOf p) (text.drop (nextOf p - at').toNat) else ppRun p at' text
 else p
theorem pp_f {p : PiecesD} {n : Int} {t : List UInt8} (h : ppOk p n t = false) : putPiece p n t = p := by rw [putPiece, if_neg (by simp [h])]
theorem pp_old {p : PiecesD} {n : Int} {t : List UInt8} (h : ppOk p n t = true) (h2 : (t.length : Int) ≤ nextOf p - n) : putPiece p n t = p := by rw [putPiece, if_pos h, if_pos h2]
theorem pp_cut {p : PiecesD} {n : Int} {t : List UInt8} {k : Nat} (h : ppOk p n t = true) (hk : nextOf p - n = (k : Int)) (h1 : k < t.length) (h0 : 0 < k) : putPiece p n t = ppRun p (nextOf p) (t.drop k) := by
 rw [putPiece, if_pos h, if_neg (by omega), if_pos (by omega), hk, Int.toNat_natCast]
theorem pp_new {p : PiecesD} {n : Int} {t : List UInt8} (h : ppOk p n t = true) (h0 : nextOf p ≤ n) : putPiece p n t = ppRun p n t := by
 have : inR (t.length : Int) 1 200 = true := by simp only [ppOk, Bool.and_eq_true] at h; exact h.2
 simp only [inR, Bool.and_eq_true, decide_eq_true_eq] at this
 rw [putPiece, if_pos h, if_neg (by omega), if_neg (by omega)]
theorem ppEnd_f {p : PiecesD} {l : List PieceD} (h : piecesOk (ppOut p l) = false) : ppEnd p l = p := by rw [ppEnd, if_neg (by simp [h])]
theorem ppEnd_t {p : PiecesD} {l : List PieceD} (h : piecesOk (ppOut p l) = true) : ppEnd p l = ppOut p l := by rw [ppEnd, if_pos h]
structure PpI (k : Nat) (g : PpS) : Prop where
 pos : 0 ≤ g.own.pos ∧ g.own.pos ≤ 2000000000
 own : g.own.text.length ≤ 200 + 200 * k
 acc : g.acc.length ≤ k + (if g.laid then 1 else 0)
 texts : ∀ z ∈ g.acc, z.text.length ≤ 5000
 some : g.laid = true → g.acc ≠ []
theorem ppI_zero {n : Int} {t : List UInt8} (h0 : 0 ≤ n) (h1 : n ≤ 2000000000) (ht : t.length ≤ 200) : PpI 0 ⟨⟨n, t⟩, false, []⟩ :=
 ⟨⟨h0, h1⟩, by simpa using ht, by simp, by simp, by simp⟩
theorem ppI_a {k : Nat} {g : PpS} {x : PieceD} (h : PpI k g) (hx : x.text.length ≤ 200) : PpI (k + 1) ⟨g.own, g.laid, g.acc ++ [x]⟩ := by
 refine ⟨h.pos, by have := h.own; dsimp only; omega, ?_, ?_, by simp⟩
 ·have := h.acc
  simp only [List.length_append, List.length_singleton]
  split at this <;> simp_all <;> omega
 ·intro z hz
  simp only [List.mem_append, List.mem_singleton] at hz
  rcases hz with hz | rfl
  ·exact h.texts z hz
  ·omega
theorem ppI_b1 {k : Nat} {g : PpS} {x : PieceD} (h : PpI k g) (hl : g.laid = true) (hx : x.text.length ≤ 200) : PpI (k + 1) ⟨g.own, true, g.acc ++ [x]⟩ := by
 have := ppI_a h hx
 rw [hl] at this
 exact this
theorem ppI_b2 {k : Nat} {g : PpS} {x : PieceD} (h : PpI k g) (hk : k ≤ 20) (hl : g.laid = false) (hx : x.text.length ≤ 200) : PpI (k + 1) ⟨g.own, true, g.acc ++ [g.own] ++ [x]⟩ := by
 refine ⟨h.pos, by have := h.own; dsimp only; omega, ?_, ?_, by simp⟩
 ·have := h.acc
  rw [hl] at this
  simp at this ⊢
  omega
 ·intro z hz
  have ho := h.own
  simp only [List.mem_append, List.mem_singleton] at hz
  rcases hz with (hz | rfl) | rfl
  ·exact h.texts z hz
  ·omega
  ·omega
theorem ppI_c {k : Nat} {g : PpS} {x : PieceD} (h : PpI k g) (hx : x.text.length ≤ 200) (h0 : 0 ≤ x.pos) (h1 : x.pos ≤ 2000000000) : PpI (k + 1) ⟨joinP x g.own, g.laid, g.acc⟩ := by
 have hp := h.pos
 refine ⟨?_, ?_, ?_, h.texts, h.some⟩
 ·dsimp only
  rcases joinP_pos (a := x) (b := g.own) with e | e <;> rw [e] <;> omega
 ·have := h.own
  have := joinP_len (a := x) (b := g.own)
  dsimp only
  omega
 ·have := h.acc
  dsimp only
  omega
theorem ppAll_cons {k : Nat} {g : PpS} (h : PpI k g) (hk : k ≤ 20) : ∃ y r, ppAll g = y :: r ∧ y.text.length ≤ 5000 ∧ (y :: r).length ≤ 100 := by
 have ha := h.acc
 have ho := h.own
 rw [ppAll]
 cases hl : g.laid with
 | true =>
  rw [hl] at ha
  simp at ha ⊢
  cases hg : g.acc with
  | nil => exact absurd hg (h.some hl)
  | cons y r =>
   rw [hg] at ha
   simp at ha
   exact ⟨y, r, rfl, h.texts y (by simp [hg]), by omega⟩
 | false =>
  rw [hl] at ha
  simp at ha ⊢
  cases hg : g.acc with
  | nil => exact ⟨g.own, [], rfl, by omega, by simp⟩
  | cons y r =>
   rw [hg] at ha
   simp at ha
   exact ⟨y, r ++ [g.own], by simp, h.texts y (by simp [hg]), by simp; omega⟩
theorem ppOut_t {p : PiecesD} {y : PieceD} {r : List PieceD} (h : y.pos = nextOf p) : ppOut p (y :: r) = ⟨p.read, p.ready ++ y.text, r⟩ := if_pos h
theorem ppOut_f {p : PiecesD} {y : PieceD} {r : List PieceD} (h : ¬ y.pos = nextOf p) : ppOut p (y :: r) = ⟨p.read, p.ready, y :: r⟩ := if_neg h
theorem ppRun_eq {p : PiecesD} {n : Int} {t : List UInt8} {G : PpS} {l : List PieceD} (hG : ppGo ⟨⟨n, t⟩, false, []⟩ p.list = G) (hl : ppAll G = l) : ppRun p n t = ppEnd p l := by rw [ppRun, hG, hl]
end
section
open Go.RowKit

theorem impl_merged (a b : PieceD) (ha : 0 ≤ a.pos ∧ a.pos ≤ 4000000000) (hb : 0 ≤ b.pos ∧ b.pos ≤ 4000000000) (la : a.text.length ≤ 1048576) (lb : b.text.length ≤ 1048576)
  (t1 : ¬ a.pos + (a.text.length : Int) < b.pos) (t2 : ¬ b.pos + (b.text.length : Int) < a.pos) : CallA Tryz.prog 318 [.ag a.cs, .ag b.cs] [] (.ag (joinP a b).cs) [] := by
 by_cases h : b.pos < a.pos
 ·obtain ⟨n, hn⟩ := Int.eq_ofNat_of_zero_le (show 0 ≤ a.pos - b.pos by omega)
  rw [joinP_lt hn (by omega)]
  have hp : a.pos = b.pos + (n : Int) := by omega
  refine qE Tryz.func318 Tryz.ntmps318 Tryz.results318 fun E hE => ?_
  have hlt : (b.text.take n).length = n := by simp; omega
  have hmin : (if a.pos - b.pos < (b.text.length : Int) then a.pos - b.pos else (b.text.length : Int)) = (n : Int) := by split <;> omega
  refine qD [0, 1, 2, 3, 4, 5, 6, 7, 8, 9, 10, 11, 12, 13, 14, 15, 16, 17, 18] ?_
  try simp (disch := omega) only [go_sem, Nat.reduceEqDiff, Nat.reduceAdd, Nat.reduceSub, Int.reduceAdd, Int.reduceSub, Int.reduceToNat, hmin]
  refine ⟨qC, run_den 400 ?_⟩
  try simp (disch := omega) only [go_sem, Nat.reduceEqDiff, Nat.reduceAdd, Nat.reduceSub, Int.reduceAdd, Int.reduceSub, Int.reduceToNat, hmin]
  refine qB (fun h3 => ?_) fun h3 => ?_
  ·have he : (b.pos + (((b.text.take n).length : Int) + (a.text.length : Int)) - b.pos).toNat = n + a.text.length := by omega
   have hd : (b.text.drop (n + a.text.length)).length ≤ b.text.length := by simp
   refine qD [0, 1, 2, 3, 4, 5, 6, 7, 8, 9, 10, 11] ?_
   try simp (disch := omega) only [go_sem, Nat.reduceEqDiff, Nat.reduceAdd, Nat.reduceSub, Int.reduceAdd, Int.reduceSub, Int.reduceToNat, he]
   refine ⟨by (try simp (disch := omega) only [go_sem, List.length_set, Nat.reduceEqDiff, Nat.reduceAdd, Nat.reduceSub, Int.reduceAdd, Int.reduceSub, Int.reduceToNat, he]) <;> omega, run_den 400 ?_⟩
   try simp (disch := omega) only [go_sem, Nat.reduceEqDiff, Nat.reduceAdd, Nat.reduceSub, Int.reduceAdd, Int.reduceSub, Int.reduceToNat, he]
   exact qF []
  ·refine qJ [] ?_
   rw [List.drop_of_length_le (by omega)]
   simp
 ·obtain ⟨n, hn⟩ := Int.eq_ofNat_of_zero_le (show 0 ≤ b.pos - a.pos by omega)
  rw [joinP_ge hn]
  have hp : b.pos = a.pos + (n : Int) := by omega
  refine qE Tryz.func318 Tryz.ntmps318 Tryz.results318 fun E hE => ?_
  refine qB (fun h3 => ?_) fun h3 => ?_
  ·have he : (a.pos + (a.text.length : Int) - b.pos).toNat = a.text.length - n := by omega
   have hd : (b.text.drop (a.text.length - n)).length ≤ b.text.length := by simp
   refine qD [0, 1, 2, 3, 4, 5, 6, 7, 8, 9, 10, 11] ?_
   try simp (disch := omega) only [go_sem, Nat.reduceEqDiff, Nat.reduceAdd, Nat.reduceSub, Int.reduceAdd, Int.reduceSub, Int.reduceToNat, he]
   refine ⟨by (try simp (disch := omega) only [go_sem, List.length_set, Nat.reduceEqDiff, Nat.reduceAdd, Nat.reduceSub, Int.reduceAdd, Int.reduceSub, Int.reduceToNat, he]) <;> omega, run_den 400 ?_⟩
   try simp (disch := omega) only [go_sem, Nat.reduceEqDiff, Nat.reduceAdd, Nat.reduceSub, Int.reduceAdd, Int.reduceSub, Int.reduceToNat, he]
   exact qF []
  ·refine qJ [] ?_
   rw [List.drop_of_length_le (by omega)]
   simp
theorem spec_l09Join (a b : PieceD) (ha : 0 ≤ a.pos ∧ a.pos ≤ 4000000000) (hb : 0 ≤ b.pos ∧ b.pos ≤ 4000000000) (la : a.text.length ≤ 1048576) (lb : b.text.length ≤ 1048576)
  (t1 : ¬ a.pos + (a.text.length : Int) < b.pos) (t2 : ¬ b.pos + (b.text.length : Int) < a.pos) : CallA Tryz.prog 313 [.ag a.cs, .ag b.cs] [] (.ag (joinP a b).cs) [] := by
 by_cases h : b.pos < a.pos
 ·obtain ⟨n, hn⟩ := Int.eq_ofNat_of_zero_le (show 0 ≤ a.pos - b.pos by omega)
  rw [joinP_lt hn (by omega)]
  have hp : a.pos = b.pos + (n : Int) := by omega
  have hlt : (b.text.take n).length = n := by simp; omega
  refine qE Tryz.func313 Tryz.ntmps313 Tryz.results313 fun E hE => ?_
  try simp (disch := omega) only [go_sem, Nat.reduceEqDiff, Nat.reduceAdd, Nat.reduceSub, Int.reduceAdd, Int.reduceSub, Int.reduceToNat, hn]
  refine qB (fun h3 => ?_) fun h3 => ?_
  ·refine qX ?_
   refine qB (fun h4 => ?_) fun h4 => ?_
   ·have he : ((n : Int) + (a.text.length : Int)).toNat = n + a.text.length := by omega
    have hd : (b.text.drop (n + a.text.length)).length ≤ b.text.length := by simp
    try simp (disch := omega) only [go_sem, Nat.reduceEqDiff, Nat.reduceAdd, Nat.reduceSub, Int.reduceAdd, Int.reduceSub, Int.reduceToNat, he]
    refine den_fin [] (by (try simp (disch := omega) only [go_sem, List.length_set, Nat.reduceEqDiff, Nat.reduceAdd, Nat.reduceSub, Int.reduceAdd, Int.reduceSub, Int.reduceToNat, he]) <;> omega) _ (by simp only [go_sem]; rfl) (by rfl) (by rfl) ?_
    simp (disch := omega) only [go_sem, Nat.reduceEqDiff, Nat.reduceAdd, Nat.reduceSub, Int.reduceAdd, Int.reduceSub, Int.reduceToNat]
   ·refine qX ?_
    refine qJ [] ?_
    rw [List.drop_of_length_le (by omega)]
    simp
  ·have h5 : n = b.text.length := by omega
   refine qX ?_
   refine qJ [] ?_
   rw [List.drop_of_length_le (by omega), List.take_of_length_le (by omega)]
   simp
 ·obtain ⟨n, hn⟩ := Int.eq_ofNat_of_zero_le (show 0 ≤ b.pos - a.pos by omega)
  rw [joinP_ge hn]
  have hp : b.pos = a.pos + (n : Int) := by omega
  refine qE Tryz.func313 Tryz.ntmps313 Tryz.results313 fun E hE => ?_
  try simp (disch := omega) only [go_sem, Nat.reduceEqDiff, Nat.reduceAdd, Nat.reduceSub, Int.reduceAdd, Int.reduceSub, Int.reduceToNat, hn]
  refine qB (fun h3 => ?_) fun h3 => ?_
  ·refine qJ [] ?_
   rw [List.drop_of_length_le (by omega)]
   simp
  ·have he : ((b.text.length : Int) - ((n : Int) + (b.text.length : Int) - (a.text.length : Int))).toNat = a.text.length - n := by omega
   have hd : (b.text.drop (a.text.length - n)).length ≤ b.text.length := by simp
   refine qD [0, 1, 2, 3, 4, 5, 6, 7, 8, 9, 10, 11, 12, 13, 14] ?_
   try simp (disch := omega) only [go_sem, Nat.reduceEqDiff, Nat.reduceAdd, Nat.reduceSub, Int.reduceAdd, Int.reduceSub, Int.reduceToNat, he]
   refine ⟨by (try simp (disch := omega) only [go_sem, List.length_set, Nat.reduceEqDiff, Nat.reduceAdd, Nat.reduceSub, Int.reduceAdd, Int.reduceSub, Int.reduceToNat, he]) <;> omega, run_den 400 ?_⟩
   try simp (disch := omega) only [go_sem, Nat.reduceEqDiff, Nat.reduceAdd, Nat.reduceSub, Int.reduceAdd, Int.reduceSub, Int.reduceToNat, he]
   exact qF []
end
section
open Go.RowKit

theorem impl_PutPiece (p : PiecesD) (n : Int) (t : List UInt8) (hs : SmallP p) : CallA Tryz.prog 262 [.ag (p.cs 0), .sc (.int .i64 n), .sc (.st t)] (p.hp false) (.ag ((putPiece p n t).cs 1))
  (p.hp false ++ (putPiece p n t).hp true) := by
 have hO := impl_PiecesOk p hs.list
 have hN := impl_NextOf p
 have hf := pp_f (p := p) (n := n) (t := t)
 have hold := pp_old (p := p) (n := n) (t := t)
 have hcut := fun k => @pp_cut p n t k
 have hnew := pp_new (p := p) (n := n) (t := t)
 have hok := ppOk.eq_1 p n t
 generalize putPiece p n t = R at *
 refine qE Tryz.func262 Tryz.ntmps262 Tryz.results262 fun E hE => ?_
 refine qK (hO) (qA [0]) ?_
 refine qB (fun h1 => ?_) fun h1 => ?_
 ·refine qK (impl_isNumber [n] (by simp)) (qA [3]) ?_
  simp only [List.all_cons, List.all_nil, Bool.and_true]
  refine qX ?_
  refine qB (fun h2 => ?_) fun h2 => ?_
  ·refine qX ?_
   refine qK (impl_within (t.length : Int) 1 200) [] ?_
   refine qB (fun h3 => ?_) fun h3 => ?_
   ·rw [hf (by rw [hok]; simp [h3])]
    refine qX ?_
    refine qK (impl_copyPieces p hs.list) (qA [0]) ?_
    exact qF (qA [0, 4])
   ·have hok1 : ppOk p n t = true := by rw [hok]; simp [h1, h2, h3]
    have hF := piecesOk_fine h1 hs
    have hn1 := h2
    have hn3 := h3
    simp only [isN, inR, Bool.and_eq_true, decide_eq_true_eq] at hn1 hn3
    have hr0 := hF.r0
    have hr1 := hF.r1
    have hrl := hF.list
    have hrr := hF.ready
    have hnx := hF.next
    refine qX ?_
    refine qK (hN) (qA [0]) ?_
    refine qB (fun h4 => ?_) fun h4 => ?_
    ·obtain ⟨m, hm⟩ := Int.eq_ofNat_of_zero_le (show 0 ≤ nextOf p - n by omega)
     by_cases h7 : t.length ≤ m
     ·rw [hold hok1 (by omega)]
      have hmin : (if nextOf p - n < (t.length : Int) then nextOf p - n else (t.length : Int)) = (t.length : Int) := by split <;> omega
      have hz : (t.drop t.length == []) = true := by simp
      try simp (disch := omega) only [go_sem, Nat.reduceEqDiff, Nat.reduceAdd, Nat.reduceSub, Int.reduceAdd, Int.reduceSub, Int.reduceToNat, hmin, hz]
      refine qX ?_
      refine qK (impl_copyPieces p hs.list) (qA [0]) ?_
      exact qF (qA [0, 5])
     ·rw [hcut m hok1 hm (by omega) (by omega)]
      have hmin : (if nextOf p - n < (t.length : Int) then nextOf p - n else (t.length : Int)) = (m : Int) := by split <;> omega
      have hz : (t.drop m == []) = false := by simp; omega
      have hI0 : PpI 0 ⟨⟨nextOf p, t.drop m⟩, false, []⟩ := ppI_zero (by omega) (by omega) (by simp; omega)
      try simp (disch := omega) only [go_sem, Nat.reduceEqDiff, Nat.reduceAdd, Nat.reduceSub, Int.reduceAdd, Int.reduceSub, Int.reduceToNat, hmin, hz]
      obtain ⟨G, hG⟩ : ∃ G, ppGo ⟨⟨nextOf p, t.drop m⟩, false, []⟩ p.list = G := ⟨_, rfl⟩
      refine den_lp 1 hE (fun s (x : Nat × PpS) => s.at [0, 1, 2, 12, 13, 14, 15, 16, 17, 18, 19, 20, 21, 22, 23, 24, 25, 26, 27, 28, 29, 30, 31, 32, 33, 34, 35, 36, 37, 38, 39, 40, 41, 42, 43, 44, 45, 46, 47, 48, 49, 50, 51, 52, 53, 54, 55, 56, 60, 61, 62, 63, 64, 65, 66, 67, 68, 69, 70, 71, 72, 73, 74, 75, 76, 77, 78, 79, 80, 81, 82, 83, 84, 85, 86, 87, 88, 89, 90, 91, 92, 93, 94, 95, 96, 97, 98, 99, 100, 101, 102, 103, 104, 105, 106] [(59, .sc (.int .i64 (x.1 : Nat))), (10, .sc (.bo x.2.laid))] ([some ⟨p.list.map PieceD.cs, 2, 272, false, true⟩, some ⟨[p.cs 0], 3, 57, true, false⟩, some ⟨[[.int .i64 0, .st [], .nil]], 3, 57, true, false⟩, some ⟨[[.int .i64 n]], 1, 3, true, true⟩, some ⟨[[.int .i64 p.read, .st p.ready, .sl 6 0 x.2.acc.length]], 3, 57, true, false⟩, some ⟨[x.2.own.cs], 2, 272, true, false⟩, some ⟨x.2.acc.map PieceD.cs, 2, 272, true, true⟩])) (fun (x : Nat × PpS) => x.1 ≤ p.list.length ∧ PpI x.1 x.2 ∧ ppGo x.2 (p.list.drop x.1) = G) (fun (x : Nat × PpS) => p.list.length - x.1) (0, ⟨⟨nextOf p, t.drop m⟩, false, []⟩) [some (0, none), some (1, none), some (2, none), some (3, none), some (4, none), some (5, none), none] (qC) (⟨Nat.zero_le _, hI0, hG⟩) (weak_mk (by rfl) (by rfl) ?_) fun x hx N hN => ?_
      ·exact qY
      ·obtain ⟨k, g⟩ := x
       obtain ⟨hk1, hI, hgo⟩ := hx
       dsimp only at hk1 hI hgo
       have hIo := hI.own
       have hIp := hI.pos
       have hIa := hI.acc
       have hac : g.acc.length ≤ 100 := by split at hIa <;> omega
       refine qR ?_
       refine qB (fun h => ?_) fun h => ?_
       ·have hm := hF.texts p.list[k] (List.getElem_mem h)
        obtain ⟨hm1, hm2, hm3⟩ := hm
        rw [ppGo_step h] at hgo
        refine qX ?_
        refine qB (fun h2 => ?_) fun h2 => ?_
        ·rw [ppStep_a (by omega)] at hgo
         refine qX ?_
         refine ⟨qC, hN _ (k + 1, ⟨g.own, g.laid, g.acc ++ [p.list[k]]⟩) (qA [0, 1, 2, 3, 4, 5, 9]) (by (try dsimp only); exact ⟨by omega, ppI_a hI hm1, hgo⟩) (by (try dsimp only); omega) (weak_mk (by rfl) (by rfl) ?_)⟩
         try simp (disch := omega) only [go_sem, Nat.reduceEqDiff, Nat.reduceAdd, Nat.reduceSub, Int.reduceAdd, Int.reduceSub, Int.reduceToNat]
         try simp [PieceD.cs]
        ·refine qX ?_
         refine qB (fun h3 => ?_) fun h3 => ?_
         ·rw [ppStep_b (by omega) (by omega)] at hgo
          cases hgl : g.laid with
          | true =>
           rw [hgl, if_pos rfl] at hgo
           try simp (disch := omega) only [go_sem, Nat.reduceEqDiff, Nat.reduceAdd, Nat.reduceSub, Int.reduceAdd, Int.reduceSub, Int.reduceToNat, hgl]
           refine ⟨qC, hN _ (k + 1, ⟨g.own, true, g.acc ++ [p.list[k]]⟩) (qA [0, 1, 2, 3, 4, 5, 9]) (by (try dsimp only); exact ⟨by omega, ppI_b1 hI hgl hm1, hgo⟩) (by (try dsimp only); omega) (weak_mk (by rfl) (by rfl) ?_)⟩
           try simp (disch := omega) only [go_sem, Nat.reduceEqDiff, Nat.reduceAdd, Nat.reduceSub, Int.reduceAdd, Int.reduceSub, Int.reduceToNat]
           try simp [PieceD.cs]
          | false =>
           rw [hgl, if_neg (by simp)] at hgo
           try simp (disch := omega) only [go_sem, Nat.reduceEqDiff, Nat.reduceAdd, Nat.reduceSub, Int.reduceAdd, Int.reduceSub, Int.reduceToNat, hgl]
           refine ⟨qC, hN _ (k + 1, ⟨g.own, true, g.acc ++ [g.own] ++ [p.list[k]]⟩) (qA [0, 1, 2, 3, 4, 5, 11]) (by (try dsimp only); exact ⟨by omega, ppI_b2 hI (by omega) hgl hm1, hgo⟩) (by (try dsimp only); omega) (weak_mk (by rfl) (by rfl) ?_)⟩
           try simp (disch := omega) only [go_sem, Nat.reduceEqDiff, Nat.reduceAdd, Nat.reduceSub, Int.reduceAdd, Int.reduceSub, Int.reduceToNat]
           try simp [PieceD.cs]
         ·rw [ppStep_c (by omega) (by omega)] at hgo
          refine qX ?_
          refine qK (impl_merged p.list[k] g.own (by omega) (by omega) (by omega) (by omega) (by omega) (by omega)) [] ?_
          refine ⟨qC, hN _ (k + 1, ⟨joinP p.list[k] g.own, g.laid, g.acc⟩) (qA [0, 1, 2, 3, 4, 5, 6]) (by (try dsimp only); exact ⟨by omega, ppI_c hI hm1 hm2 hm3, hgo⟩) (by (try dsimp only); omega) (weak_mk (by rfl) (by rfl) ?_)⟩
          try simp (disch := omega) only [go_sem, Nat.reduceEqDiff, Nat.reduceAdd, Nat.reduceSub, Int.reduceAdd, Int.reduceSub, Int.reduceToNat]
          try simp [PieceD.cs]
       ·have hkl : k = p.list.length := by omega
        rw [ppGo_end (by omega)] at hgo
        subst hgo
        obtain ⟨y, r, hyr, hyt, hyl⟩ := ppAll_cons hI (by omega)
        rw [ppRun_eq hG hyr]
        have hyr' := hyr
        rw [ppAll] at hyr'
        cases hgl : g.laid with
        | true =>
         rw [hgl, if_pos rfl] at hyr'
         rw [hyr']
         try simp (disch := omega) only [go_sem, Nat.reduceEqDiff, Nat.reduceAdd, Nat.reduceSub, Int.reduceAdd, Int.reduceSub, Int.reduceToNat, hgl, List.map_cons]
         refine qX ?_
         refine qB (fun h5 => ?_) fun h5 => ?_
         ·refine qD [0, 1, 2, 3, 4, 5, 6, 7, 8, 9] ?_
          refine ⟨qC, run_den 400 ?_⟩
          have hE1 := @ppOut_t p y r h5
          refine qX ?_
          refine qK (impl_PiecesOk ⟨p.read, p.ready ++ y.text, r⟩ (by simp at hyl ⊢; omega)) [some (6, some 1)] ?_
          refine qB (fun h6 => ?_) fun h6 => ?_
          ·rw [ppEnd_f (by rw [hE1]; exact h6)]
           refine qX ?_
           refine qK (impl_copyPieces p hs.list) (qA [0]) ?_
           exact qF (qA [0, 7])
          ·rw [ppEnd_t (by rw [hE1]; exact h6), hE1]
           refine qX ?_
           refine qK (impl_copyPieces ⟨p.read, p.ready ++ y.text, r⟩ (by simp at hyl ⊢; omega)) [some (6, some 1)] ?_
           refine den_fin (qA [0, 7]) (qC) _ (by simp only [go_sem]; rfl) (by rfl) (by rfl) ?_
           simp (disch := omega) only [go_sem, Nat.reduceEqDiff, Nat.reduceAdd, Nat.reduceSub, Int.reduceAdd, Int.reduceSub, Int.reduceToNat]
           try simp
         ·have hE1 := @ppOut_f p y r h5
          refine qX ?_
          refine qK (impl_PiecesOk ⟨p.read, p.ready, y :: r⟩ (by simp at hyl ⊢; omega)) (qA [6]) ?_
          refine qB (fun h6 => ?_) fun h6 => ?_
          ·rw [ppEnd_f (by rw [hE1]; exact h6)]
           refine qX ?_
           refine qK (impl_copyPieces p hs.list) (qA [0]) ?_
           exact qF (qA [0, 7])
          ·rw [ppEnd_t (by rw [hE1]; exact h6), hE1]
           refine qX ?_
           refine qK (impl_copyPieces ⟨p.read, p.ready, y :: r⟩ (by simp at hyl ⊢; omega)) (qA [6]) ?_
           refine den_fin (qA [0, 7]) (qC) _ (by simp only [go_sem]; rfl) (by rfl) (by rfl) ?_
           simp (disch := omega) only [go_sem, Nat.reduceEqDiff, Nat.reduceAdd, Nat.reduceSub, Int.reduceAdd, Int.reduceSub, Int.reduceToNat]
           try simp
        | false =>
         rw [hgl, if_neg (by simp)] at hyr'
         have e1 : g.acc.map PieceD.cs ++ [g.own.cs] = PieceD.cs y :: r.map PieceD.cs := by rw [← List.map_cons, ← hyr']; simp
         have e2 : g.acc.length + 1 = r.length + 1 := by have := congrArg List.length hyr'; simpa using this
         simp only [PieceD.cs] at e1
         try simp (disch := omega) only [go_sem, Nat.reduceEqDiff, Nat.reduceAdd, Nat.reduceSub, Int.reduceAdd, Int.reduceSub, Int.reduceToNat, hgl, e1, e2]
         refine qX ?_
         refine qB (fun h5 => ?_) fun h5 => ?_
         ·refine qD [0, 1, 2, 3, 4, 5, 6, 7, 8, 9] ?_
          refine ⟨qC, run_den 400 ?_⟩
          have hE1 := @ppOut_t p y r h5
          refine qX ?_
          refine qK (impl_PiecesOk ⟨p.read, p.ready ++ y.text, r⟩ (by simp at hyl ⊢; omega)) [some (8, some 1)] ?_
          refine qB (fun h6 => ?_) fun h6 => ?_
          ·rw [ppEnd_f (by rw [hE1]; exact h6)]
           refine qX ?_
           refine qK (impl_copyPieces p hs.list) (qA [0]) ?_
           exact qF (qA [0, 9])
          ·rw [ppEnd_t (by rw [hE1]; exact h6), hE1]
           refine qX ?_
           refine qK (impl_copyPieces ⟨p.read, p.ready ++ y.text, r⟩ (by simp at hyl ⊢; omega)) [some (8, some 1)] ?_
           refine den_fin (qA [0, 9]) (qC) _ (by simp only [go_sem]; rfl) (by rfl) (by rfl) ?_
           simp (disch := omega) only [go_sem, Nat.reduceEqDiff, Nat.reduceAdd, Nat.reduceSub, Int.reduceAdd, Int.reduceSub, Int.reduceToNat]
           try simp
         ·have hE1 := @ppOut_f p y r h5
          refine qX ?_
          refine qK (impl_PiecesOk ⟨p.read, p.ready, y :: r⟩ (by simp at hyl ⊢; omega)) (qA [8]) ?_
          refine qB (fun h6 => ?_) fun h6 => ?_
          ·rw [ppEnd_f (by rw [hE1]; exact h6)]
           refine qX ?_
           refine qK (impl_copyPieces p hs.list) (qA [0]) ?_
           exact qF (qA [0, 9])
          ·rw [ppEnd_t (by rw [hE1]; exact h6), hE1]
           refine qX ?_
           refine qK (impl_copyPieces ⟨p.read, p.ready, y :: r⟩ (by simp at hyl ⊢; omega)) (qA [8]) ?_
           refine den_fin (qA [0, 9]) (qC) _ (by simp only [go_sem]; rfl) (by rfl) (by rfl) ?_
           simp (disch := omega) only [go_sem, Nat.reduceEqDiff, Nat.reduceAdd, Nat.reduceSub, Int.reduceAdd, Int.reduceSub, Int.reduceToNat]
           try simp
    ·rw [hnew hok1 (by omega)]
     have hz : (t == []) = false := by cases t <;> simp_all
     have hI0 : PpI 0 ⟨⟨n, t⟩, false, []⟩ := ppI_zero (by omega) (by omega) (by omega)
     try simp (disch := omega) only [go_sem, Nat.reduceEqDiff, Nat.reduceAdd, Nat.reduceSub, Int.reduceAdd, Int.reduceSub, Int.reduceToNat, hz]
     obtain ⟨G, hG⟩ : ∃ G, ppGo ⟨⟨n, t⟩, false, []⟩ p.list = G := ⟨_, rfl⟩
     refine den_lp 1 hE (fun s (x : Nat × PpS) => s.at [0, 1, 2, 12, 13, 14, 15, 16, 17, 18, 19, 20, 21, 22, 23, 24, 25, 26, 27, 28, 29, 30, 31, 32, 33, 34, 35, 36, 37, 38, 39, 40, 41, 42, 43, 44, 45, 46, 47, 48, 49, 50, 51, 52, 53, 54, 55, 56, 60, 61, 62, 63, 64, 65, 66, 67, 68, 69, 70, 71, 72, 73, 74, 75, 76, 77, 78, 79, 80, 81, 82, 83, 84, 85, 86, 87, 88, 89, 90, 91, 92, 93, 94, 95, 96, 97, 98, 99, 100, 101, 102, 103, 104, 105, 106] [(59, .sc (.int .i64 (x.1 : Nat))), (10, .sc (.bo x.2.laid))] ([some ⟨p.list.map PieceD.cs, 2, 272, false, true⟩, some ⟨[p.cs 0], 3, 57, true, false⟩, some ⟨[[.int .i64 0, .st [], .nil]], 3, 57, true, false⟩, some ⟨[[.int .i64 n]], 1, 3, true, true⟩, some ⟨[[.int .i64 p.read, .st p.ready, .sl 6 0 x.2.acc.length]], 3, 57, true, false⟩, some ⟨[x.2.own.cs], 2, 272, true, false⟩, some ⟨x.2.acc.map PieceD.cs, 2, 272, true, true⟩])) (fun (x : Nat × PpS) => x.1 ≤ p.list.length ∧ PpI x.1 x.2 ∧ ppGo x.2 (p.list.drop x.1) = G) (fun (x : Nat × PpS) => p.list.length - x.1) (0, ⟨⟨n, t⟩, false, []⟩) [some (0, none), some (1, none), some (2, none), some (3, none), some (4, none), some (5, none), none] (qC) (⟨Nat.zero_le _, hI0, hG⟩) (weak_mk (by rfl) (by rfl) ?_) fun x hx N hN => ?_
     ·exact qY
     ·obtain ⟨k, g⟩ := x
      obtain ⟨hk1, hI, hgo⟩ := hx
      dsimp only at hk1 hI hgo
      have hIo := hI.own
      have hIp := hI.pos
      have hIa := hI.acc
      have hac : g.acc.length ≤ 100 := by split at hIa <;> omega
      refine qR ?_
      refine qB (fun h => ?_) fun h => ?_
      ·have hm := hF.texts p.list[k] (List.getElem_mem h)
       obtain ⟨hm1, hm2, hm3⟩ := hm
       rw [ppGo_step h] at hgo
       refine qX ?_
       refine qB (fun h2 => ?_) fun h2 => ?_
       ·rw [ppStep_a (by omega)] at hgo
        refine qX ?_
        refine ⟨qC, hN _ (k + 1, ⟨g.own, g.laid, g.acc ++ [p.list[k]]⟩) (qA [0, 1, 2, 3, 4, 5, 9]) (by (try dsimp only); exact ⟨by omega, ppI_a hI hm1, hgo⟩) (by (try dsimp only); omega) (weak_mk (by rfl) (by rfl) ?_)⟩
        try simp (disch := omega) only [go_sem, Nat.reduceEqDiff, Nat.reduceAdd, Nat.reduceSub, Int.reduceAdd, Int.reduceSub, Int.reduceToNat]
        try simp [PieceD.cs]
       ·refine qX ?_
        refine qB (fun h3 => ?_) fun h3 => ?_
        ·rw [ppStep_b (by omega) (by omega)] at hgo
         cases hgl : g.laid with
         | true =>
          rw [hgl, if_pos rfl] at hgo
          try simp (disch := omega) only [go_sem, Nat.reduceEqDiff, Nat.reduceAdd, Nat.reduceSub, Int.reduceAdd, Int.reduceSub, Int.reduceToNat, hgl]
          refine ⟨qC, hN _ (k + 1, ⟨g.own, true, g.acc ++ [p.list[k]]⟩) (qA [0, 1, 2, 3, 4, 5, 9]) (by (try dsimp only); exact ⟨by omega, ppI_b1 hI hgl hm1, hgo⟩) (by (try dsimp only); omega) (weak_mk (by rfl) (by rfl) ?_)⟩
          try simp (disch := omega) only [go_sem, Nat.reduceEqDiff, Nat.reduceAdd, Nat.reduceSub, Int.reduceAdd, Int.reduceSub, Int.reduceToNat]
          try simp [PieceD.cs]
         | false =>
          rw [hgl, if_neg (by simp)] at hgo
          try simp (disch := omega) only [go_sem, Nat.reduceEqDiff, Nat.reduceAdd, Nat.reduceSub, Int.reduceAdd, Int.reduceSub, Int.reduceToNat, hgl]
          refine ⟨qC, hN _ (k + 1, ⟨g.own, true, g.acc ++ [g.own] ++ [p.list[k]]⟩) (qA [0, 1, 2, 3, 4, 5, 11]) (by (try dsimp only); exact ⟨by omega, ppI_b2 hI (by omega) hgl hm1, hgo⟩) (by (try dsimp only); omega) (weak_mk (by rfl) (by rfl) ?_)⟩
          try simp (disch := omega) only [go_sem, Nat.reduceEqDiff, Nat.reduceAdd, Nat.reduceSub, Int.reduceAdd, Int.reduceSub, Int.reduceToNat]
          try simp [PieceD.cs]
        ·rw [ppStep_c (by omega) (by omega)] at hgo
         refine qX ?_
         refine qK (impl_merged p.list[k] g.own (by omega) (by omega) (by omega) (by omega) (by omega) (by omega)) [] ?_
         refine ⟨qC, hN _ (k + 1, ⟨joinP p.list[k] g.own, g.laid, g.acc⟩) (qA [0, 1, 2, 3, 4, 5, 6]) (by (try dsimp only); exact ⟨by omega, ppI_c hI hm1 hm2 hm3, hgo⟩) (by (try dsimp only); omega) (weak_mk (by rfl) (by rfl) ?_)⟩
         try simp (disch := omega) only [go_sem, Nat.reduceEqDiff, Nat.reduceAdd, Nat.reduceSub, Int.reduceAdd, Int.reduceSub, Int.reduceToNat]
         try simp [PieceD.cs]
      ·have hkl : k = p.list.length := by omega
       rw [ppGo_end (by omega)] at hgo
       subst hgo
       obtain ⟨y, r, hyr, hyt, hyl⟩ := ppAll_cons hI (by omega)
       rw [ppRun_eq hG hyr]
       have hyr' := hyr
       rw [ppAll] at hyr'
       cases hgl : g.laid with
       | true =>
        rw [hgl, if_pos rfl] at hyr'
        rw [hyr']
        try simp (disch := omega) only [go_sem, Nat.reduceEqDiff, Nat.reduceAdd, Nat.reduceSub, Int.reduceAdd, Int.reduceSub, Int.reduceToNat, hgl, List.map_cons]
        refine qX ?_
        refine qB (fun h5 => ?_) fun h5 => ?_
        ·refine qD [0, 1, 2, 3, 4, 5, 6, 7, 8, 9] ?_
         refine ⟨qC, run_den 400 ?_⟩
         have hE1 := @ppOut_t p y r h5
         refine qX ?_
         refine qK (impl_PiecesOk ⟨p.read, p.ready ++ y.text, r⟩ (by simp at hyl ⊢; omega)) [some (6, some 1)] ?_
         refine qB (fun h6 => ?_) fun h6 => ?_
         ·rw [ppEnd_f (by rw [hE1]; exact h6)]
          refine qX ?_
          refine qK (impl_copyPieces p hs.list) (qA [0]) ?_
          exact qF (qA [0, 7])
         ·rw [ppEnd_t (by rw [hE1]; exact h6), hE1]
          refine qX ?_
          refine qK (impl_copyPieces ⟨p.read, p.ready ++ y.text, r⟩ (by simp at hyl ⊢; omega)) [some (6, some 1)] ?_
          refine den_fin (qA [0, 7]) (qC) _ (by simp only [go_sem]; rfl) (by rfl) (by rfl) ?_
          simp (disch := omega) only [go_sem, Nat.reduceEqDiff, Nat.reduceAdd, Nat.reduceSub, Int.reduceAdd, Int.reduceSub, Int.reduceToNat]
          try simp
        ·have hE1 := @ppOut_f p y r h5
         refine qX ?_
         refine qK (impl_PiecesOk ⟨p.read, p.ready, y :: r⟩ (by simp at hyl ⊢; omega)) (qA [6]) ?_
         refine qB (fun h6 => ?_) fun h6 => ?_
         ·rw [ppEnd_f (by rw [hE1]; exact h6)]
          refine qX ?_
          refine qK (impl_copyPieces p hs.list) (qA [0]) ?_
          exact qF (qA [0, 7])
         ·rw [ppEnd_t (by rw [hE1]; exact h6), hE1]
          refine qX ?_
          refine qK (impl_copyPieces ⟨p.read, p.ready, y :: r⟩ (by simp at hyl ⊢; omega)) (qA [6]) ?_
          refine den_fin (qA [0, 7]) (qC) _ (by simp only [go_sem]; rfl) (by rfl) (by rfl) ?_
          simp (disch := omega) only [go_sem, Nat.reduceEqDiff, Nat.reduceAdd, Nat.reduceSub, Int.reduceAdd, Int.reduceSub, Int.reduceToNat]
          try simp
       | false =>
        rw [hgl, if_neg (by simp)] at hyr'
        have e1 : g.acc.map PieceD.cs ++ [g.own.cs] = PieceD.cs y :: r.map PieceD.cs := by rw [← List.map_cons, ← hyr']; simp
        have e2 : g.acc.length + 1 = r.length + 1 := by have := congrArg List.length hyr'; simpa using this
        simp only [PieceD.cs] at e1
        try simp (disch := omega) only [go_sem, Nat.reduceEqDiff, Nat.reduceAdd, Nat.reduceSub, Int.reduceAdd, Int.reduceSub, Int.reduceToNat, hgl, e1, e2]
        refine qX ?_
        refine qB (fun h5 => ?_) fun h5 => ?_
        ·refine qD [0, 1, 2, 3, 4, 5, 6, 7, 8, 9] ?_
         refine ⟨qC, run_den 400 ?_⟩
         have hE1 := @ppOut_t p y r h5
         refine qX ?_
         refine qK (impl_PiecesOk ⟨p.read, p.ready ++ y.text, r⟩ (by simp at hyl ⊢; omega)) [some (8, some 1)] ?_
         refine qB (fun h6 => ?_) fun h6 => ?_
         ·rw [ppEnd_f (by rw [hE1]; exact h6)]
          refine qX ?_
          refine qK (impl_copyPieces p hs.list) (qA [0]) ?_
          exact qF (qA [0, 9])
         ·rw [ppEnd_t (by rw [hE1]; exact h6), hE1]
          refine qX ?_
          refine qK (impl_copyPieces ⟨p.read, p.ready ++ y.text, r⟩ (by simp at hyl ⊢; omega)) [some (8, some 1)] ?_
          refine den_fin (qA [0, 9]) (qC) _ (by simp only [go_sem]; rfl) (by rfl) (by rfl) ?_
          simp (disch := omega) only [go_sem, Nat.reduceEqDiff, Nat.reduceAdd, Nat.reduceSub, Int.reduceAdd, Int.reduceSub, Int.reduceToNat]
          try simp
        ·have hE1 := @ppOut_f p y r h5
         refine qX ?_
         refine qK (impl_PiecesOk ⟨p.read, p.ready, y :: r⟩ (by simp at hyl ⊢; omega)) (qA [8]) ?_
         refine qB (fun h6 => ?_) fun h6 => ?_
         ·rw [ppEnd_f (by rw [hE1]; exact h6)]
          refine qX ?_
          refine qK (impl_copyPieces p hs.list) (qA [0]) ?_
          exact qF (qA [0, 9])
         ·rw [ppEnd_t (by rw [hE1]; exact h6), hE1]
          refine qX ?_
          refine qK (impl_copyPieces ⟨p.read, p.ready, y :: r⟩ (by simp at hyl ⊢; omega)) (qA [8]) ?_
          refine den_fin (qA [0, 9]) (qC) _ (by simp only [go_sem]; rfl) (by rfl) (by rfl) ?_
          simp (disch := omega) only [go_sem, Nat.reduceEqDiff, Nat.reduceAdd, Nat.reduceSub, Int.reduceAdd, Int.reduceSub, Int.reduceToNat]
          try simp
  ·rw [hf (by rw [hok]; simp [h2])]
   refine qX ?_
   refine qK (impl_copyPieces p hs.list) (qA [0]) ?_
   exact qF (qA [0, 4])
 ·rw [hf (by rw [hok]; simp [h1])]
  refine qX ?_
  refine qK (impl_copyPieces p hs.list) (qA [0]) ?_
  exact qF (qA [0, 3])

theorem spec_PutPiece (p : PiecesD) (n : Int) (t : List UInt8) (hs : SmallP p) : CallA Tryz.prog 224 [.ag (p.cs 0), .sc (.int .i64 n), .sc (.st t)] (p.hp false) (.ag ((putPiece p n t).cs 1))
  (p.hp false ++ (putPiece p n t).hp false) := by
 have hO := spec_PiecesOk p hs.list
 have hN := spec_NextOf p
 have hf := pp_f (p := p) (n := n) (t := t)
 have hold := pp_old (p := p) (n := n) (t := t)
 have hcut := fun k => @pp_cut p n t k
 have hnew := pp_new (p := p) (n := n) (t := t)
 have hok := ppOk.eq_1 p n t
 generalize putPiece p n t = R at *
 refine callA_ofV Tryz.func224 (by kernel_rfl) rfl fun E hE => run_den 400 ?_
 simp (disch := omega) only [Tryz.ntmps224, Tryz.results224, go_sem, Nat.reduceEqDiff, Nat.reduceAdd, Nat.reduceSub, Int.reduceAdd, Int.reduceSub, Int.reduceToNat]
 refine qK (spec_l09Copy p hs.list) (qA [0]) ?_
 refine qK (hO) (qA [0]) ?_
 refine qB (fun h1 => ?_) fun h1 => ?_
 ·refine qK (spec_l01In n 0 1000000000) [] ?_
  rw [isN_inR]
  refine qX ?_
  refine qB (fun h2 => ?_) fun h2 => ?_
  ·refine qX ?_
   refine qK (spec_l01In (t.length : Int) 1 200) [] ?_
   refine qB (fun h3 => ?_) fun h3 => ?_
   ·rw [hf (by rw [hok]; simp [h3])]
    refine qX ?_
    refine den_finV (qA [0, 3]) (qC) _ (by simp only [go_sem]; rfl) (by rfl) (by rfl) ?_
    simp (disch := omega) only [go_sem, Nat.reduceEqDiff, Nat.reduceAdd, Nat.reduceSub, Int.reduceAdd, Int.reduceSub, Int.reduceToNat]
   ·have hok1 : ppOk p n t = true := by rw [hok]; simp [h1, h2, h3]
    have hF := piecesOk_fine h1 hs
    have hn1 := h2
    have hn3 := h3
    simp only [isN, inR, Bool.and_eq_true, decide_eq_true_eq] at hn1 hn3
    have hr0 := hF.r0
    have hr1 := hF.r1
    have hrl := hF.list
    have hrr := hF.ready
    have hnx := hF.next
    refine qX ?_
    refine qK (hN) (qA [0]) ?_
    refine qB (fun h4 => ?_) fun h4 => ?_
    ·rw [hold hok1 h4]
     refine qX ?_
     refine den_finV (qA [0, 3]) (qC) _ (by simp only [go_sem]; rfl) (by rfl) (by rfl) ?_
     simp (disch := omega) only [go_sem, Nat.reduceEqDiff, Nat.reduceAdd, Nat.reduceSub, Int.reduceAdd, Int.reduceSub, Int.reduceToNat]
    ·refine qX ?_
     refine qB (fun h7 => ?_) fun h7 => ?_
     ·obtain ⟨m, hm⟩ := Int.eq_ofNat_of_zero_le (show 0 ≤ nextOf p - n by omega)
      rw [hcut m hok1 hm (by omega) (by omega)]
      have hnn : nextOf p = n + (m : Int) := by omega
      have hI0 : PpI 0 ⟨⟨nextOf p, t.drop m⟩, false, []⟩ := ppI_zero (by omega) (by omega) (by simp; omega)
      have hadd : n + (m : Int) = nextOf p := by omega
      try simp (disch := omega) only [go_sem, Nat.reduceEqDiff, Nat.reduceAdd, Nat.reduceSub, Int.reduceAdd, Int.reduceSub, Int.reduceToNat, hm, hadd]
      obtain ⟨G, hG⟩ : ∃ G, ppGo ⟨⟨nextOf p, t.drop m⟩, false, []⟩ p.list = G := ⟨_, rfl⟩
      refine den_lp 1 hE (fun s (x : Nat × PpS) => s.at [0, 1, 2, 9, 13, 14, 15, 16, 17, 18, 19, 20, 21, 22, 23, 24, 25, 26, 27, 28, 29, 30, 31, 32, 33, 34, 35, 36, 37, 38, 39, 40, 41, 42, 43, 44, 45, 46, 47, 48, 49, 50, 51, 52, 53, 54, 55, 56, 57, 58, 59, 60, 61, 62, 63, 64, 65, 66, 67, 68, 69, 70, 71, 72, 73, 74, 75, 76, 77, 78, 79, 80, 81, 82, 83, 84, 85, 86, 87, 88, 89, 90, 91, 92, 93, 94, 95, 96, 97, 98, 99, 100, 101, 102, 103, 104, 105, 106, 107, 108, 109, 110, 111, 112] [(12, .sc (.int .i64 (x.1 : Nat))), (11, .sc (.bo x.2.laid))] ([some ⟨p.list.map PieceD.cs, 2, 272, false, true⟩, some ⟨[p.cs 0], 3, 57, true, false⟩, some ⟨[[.int .i64 0, .st [], .nil]], 3, 57, true, false⟩, some ⟨p.list.map PieceD.cs, 2, 272, true, true⟩, some ⟨[p.cs 3], 3, 57, true, false⟩, some ⟨[x.2.own.cs], 2, 272, true, false⟩, some ⟨x.2.acc.map PieceD.cs, 2, 272, true, true⟩, some ⟨[[.int .i64 p.read, .st p.ready, .sl 6 0 x.2.acc.length]], 3, 57, true, false⟩])) (fun (x : Nat × PpS) => x.1 ≤ p.list.length ∧ PpI x.1 x.2 ∧ ppGo x.2 (p.list.drop x.1) = G) (fun (x : Nat × PpS) => p.list.length - x.1) (0, ⟨⟨nextOf p, t.drop m⟩, false, []⟩) (qA [0, 1, 2, 3, 4, 5, 6, 7]) (qC) (⟨Nat.zero_le _, hI0, hG⟩) (weak_mk (by rfl) (by rfl) ?_) fun x hx N hN => ?_
      ·exact qY
      ·obtain ⟨k, g⟩ := x
       obtain ⟨hk1, hI, hgo⟩ := hx
       dsimp only at hk1 hI hgo
       have hIo := hI.own
       have hIp := hI.pos
       have hIa := hI.acc
       have hac : g.acc.length ≤ 100 := by split at hIa <;> omega
       refine qR ?_
       refine qB (fun h => ?_) fun h => ?_
       ·have hm := hF.texts p.list[k] (List.getElem_mem h)
        obtain ⟨hm1, hm2, hm3⟩ := hm
        rw [ppGo_step h] at hgo
        refine qX ?_
        refine qB (fun h2 => ?_) fun h2 => ?_
        ·rw [ppStep_a (by omega)] at hgo
         refine qX ?_
         refine ⟨qC, hN _ (k + 1, ⟨g.own, g.laid, g.acc ++ [p.list[k]]⟩) (qA [0, 1, 2, 3, 4, 5, 10, 7]) (by (try dsimp only); exact ⟨by omega, ppI_a hI hm1, hgo⟩) (by (try dsimp only); omega) (weak_mk (by rfl) (by rfl) ?_)⟩
         try simp (disch := omega) only [go_sem, Nat.reduceEqDiff, Nat.reduceAdd, Nat.reduceSub, Int.reduceAdd, Int.reduceSub, Int.reduceToNat]
         try simp [PieceD.cs]
        ·refine qX ?_
         refine qB (fun h3 => ?_) fun h3 => ?_
         ·rw [ppStep_b (by omega) (by omega)] at hgo
          cases hgl : g.laid with
          | true =>
           rw [hgl, if_pos rfl] at hgo
           try simp (disch := omega) only [go_sem, Nat.reduceEqDiff, Nat.reduceAdd, Nat.reduceSub, Int.reduceAdd, Int.reduceSub, Int.reduceToNat, hgl]
           refine ⟨qC, hN _ (k + 1, ⟨g.own, true, g.acc ++ [p.list[k]]⟩) (qA [0, 1, 2, 3, 4, 5, 10, 7]) (by (try dsimp only); exact ⟨by omega, ppI_b1 hI hgl hm1, hgo⟩) (by (try dsimp only); omega) (weak_mk (by rfl) (by rfl) ?_)⟩
           try simp (disch := omega) only [go_sem, Nat.reduceEqDiff, Nat.reduceAdd, Nat.reduceSub, Int.reduceAdd, Int.reduceSub, Int.reduceToNat]
           try simp [PieceD.cs]
          | false =>
           rw [hgl, if_neg (by simp)] at hgo
           try simp (disch := omega) only [go_sem, Nat.reduceEqDiff, Nat.reduceAdd, Nat.reduceSub, Int.reduceAdd, Int.reduceSub, Int.reduceToNat, hgl]
           refine ⟨qC, hN _ (k + 1, ⟨g.own, true, g.acc ++ [g.own] ++ [p.list[k]]⟩) (qA [0, 1, 2, 3, 4, 5, 12, 7]) (by (try dsimp only); exact ⟨by omega, ppI_b2 hI (by omega) hgl hm1, hgo⟩) (by (try dsimp only); omega) (weak_mk (by rfl) (by rfl) ?_)⟩
           try simp (disch := omega) only [go_sem, Nat.reduceEqDiff, Nat.reduceAdd, Nat.reduceSub, Int.reduceAdd, Int.reduceSub, Int.reduceToNat]
           try simp [PieceD.cs]
         ·rw [ppStep_c (by omega) (by omega)] at hgo
          refine qX ?_
          refine qK (spec_l09Join p.list[k] g.own (by omega) (by omega) (by omega) (by omega) (by omega) (by omega)) [] ?_
          refine ⟨qC, hN _ (k + 1, ⟨joinP p.list[k] g.own, g.laid, g.acc⟩) (qA [0, 1, 2, 3, 4, 5, 6, 7]) (by (try dsimp only); exact ⟨by omega, ppI_c hI hm1 hm2 hm3, hgo⟩) (by (try dsimp only); omega) (weak_mk (by rfl) (by rfl) ?_)⟩
          try simp (disch := omega) only [go_sem, Nat.reduceEqDiff, Nat.reduceAdd, Nat.reduceSub, Int.reduceAdd, Int.reduceSub, Int.reduceToNat]
          try simp [PieceD.cs]
       ·have hkl : k = p.list.length := by omega
        rw [ppGo_end (by omega)] at hgo
        subst hgo
        obtain ⟨y, r, hyr, hyt, hyl⟩ := ppAll_cons hI (by omega)
        rw [ppRun_eq hG hyr]
        have hyr' := hyr
        rw [ppAll] at hyr'
        cases hgl : g.laid with
        | true =>
         rw [hgl, if_pos rfl] at hyr'
         rw [hyr']
         try simp (disch := omega) only [go_sem, Nat.reduceEqDiff, Nat.reduceAdd, Nat.reduceSub, Int.reduceAdd, Int.reduceSub, Int.reduceToNat, hgl, List.map_cons]
         refine qD [0, 1, 2, 3, 4, 5, 6, 7] ?_
         refine qKD (spec_NextOf ⟨p.read, p.ready, y :: r⟩) (qA [6]) ?_
         refine ⟨qC, run_den 400 ?_⟩
         rw [show nextOf ⟨p.read, p.ready, y :: r⟩ = nextOf p from rfl]
         refine qX ?_
         refine qB (fun h5 => ?_) fun h5 => ?_
         ·refine qD [0, 1, 2, 3, 4, 5, 6, 7, 8, 9] ?_
          refine ⟨qC, run_den 400 ?_⟩
          have hE1 := @ppOut_t p y r h5
          refine qX ?_
          refine qK (spec_PiecesOk ⟨p.read, p.ready ++ y.text, r⟩ (by simp at hyl ⊢; omega)) [some (6, some 1)] ?_
          refine qB (fun h6 => ?_) fun h6 => ?_
          ·rw [ppEnd_f (by rw [hE1]; exact h6)]
           refine qX ?_
           refine den_finV (qA [0, 3]) (qC) _ (by simp only [go_sem]; rfl) (by rfl) (by rfl) ?_
           simp (disch := omega) only [go_sem, Nat.reduceEqDiff, Nat.reduceAdd, Nat.reduceSub, Int.reduceAdd, Int.reduceSub, Int.reduceToNat]
          ·rw [ppEnd_t (by rw [hE1]; exact h6), hE1]
           refine qX ?_
           refine den_finV [some (0, none), some (6, some 1)] (qC) _ (by simp only [go_sem]; rfl) (by rfl) (by rfl) ?_
           simp (disch := omega) only [go_sem, Nat.reduceEqDiff, Nat.reduceAdd, Nat.reduceSub, Int.reduceAdd, Int.reduceSub, Int.reduceToNat]
           try simp
         ·have hE1 := @ppOut_f p y r h5
          refine qX ?_
          refine qK (spec_PiecesOk ⟨p.read, p.ready, y :: r⟩ (by simp at hyl ⊢; omega)) (qA [6]) ?_
          refine qB (fun h6 => ?_) fun h6 => ?_
          ·rw [ppEnd_f (by rw [hE1]; exact h6)]
           refine qX ?_
           refine den_finV (qA [0, 3]) (qC) _ (by simp only [go_sem]; rfl) (by rfl) (by rfl) ?_
           simp (disch := omega) only [go_sem, Nat.reduceEqDiff, Nat.reduceAdd, Nat.reduceSub, Int.reduceAdd, Int.reduceSub, Int.reduceToNat]
          ·rw [ppEnd_t (by rw [hE1]; exact h6), hE1]
           refine qX ?_
           refine den_finV (qA [0, 6]) (qC) _ (by simp only [go_sem]; rfl) (by rfl) (by rfl) ?_
           simp (disch := omega) only [go_sem, Nat.reduceEqDiff, Nat.reduceAdd, Nat.reduceSub, Int.reduceAdd, Int.reduceSub, Int.reduceToNat]
           try simp
        | false =>
         rw [hgl, if_neg (by simp)] at hyr'
         have e1 : g.acc.map PieceD.cs ++ [g.own.cs] = PieceD.cs y :: r.map PieceD.cs := by rw [← List.map_cons, ← hyr']; simp
         have e2 : g.acc.length + 1 = r.length + 1 := by have := congrArg List.length hyr'; simpa using this
         simp only [PieceD.cs] at e1
         try simp (disch := omega) only [go_sem, Nat.reduceEqDiff, Nat.reduceAdd, Nat.reduceSub, Int.reduceAdd, Int.reduceSub, Int.reduceToNat, hgl, e1, e2]
         refine qD [0, 1, 2, 3, 4, 5, 6, 7] ?_
         refine qKD (spec_NextOf ⟨p.read, p.ready, y :: r⟩) (qA [9]) ?_
         refine ⟨qC, run_den 400 ?_⟩
         rw [show nextOf ⟨p.read, p.ready, y :: r⟩ = nextOf p from rfl]
         refine qX ?_
         refine qB (fun h5 => ?_) fun h5 => ?_
         ·refine qD [0, 1, 2, 3, 4, 5, 6, 7, 8, 9] ?_
          refine ⟨qC, run_den 400 ?_⟩
          have hE1 := @ppOut_t p y r h5
          refine qX ?_
          refine qK (spec_PiecesOk ⟨p.read, p.ready ++ y.text, r⟩ (by simp at hyl ⊢; omega)) [some (9, some 1)] ?_
          refine qB (fun h6 => ?_) fun h6 => ?_
          ·rw [ppEnd_f (by rw [hE1]; exact h6)]
           refine qX ?_
           refine den_finV (qA [0, 3]) (qC) _ (by simp only [go_sem]; rfl) (by rfl) (by rfl) ?_
           simp (disch := omega) only [go_sem, Nat.reduceEqDiff, Nat.reduceAdd, Nat.reduceSub, Int.reduceAdd, Int.reduceSub, Int.reduceToNat]
          ·rw [ppEnd_t (by rw [hE1]; exact h6), hE1]
           refine qX ?_
           refine den_finV [some (0, none), some (9, some 1)] (qC) _ (by simp only [go_sem]; rfl) (by rfl) (by rfl) ?_
           simp (disch := omega) only [go_sem, Nat.reduceEqDiff, Nat.reduceAdd, Nat.reduceSub, Int.reduceAdd, Int.reduceSub, Int.reduceToNat]
           try simp
         ·have hE1 := @ppOut_f p y r h5
          refine qX ?_
          refine qK (spec_PiecesOk ⟨p.read, p.ready, y :: r⟩ (by simp at hyl ⊢; omega)) (qA [9]) ?_
          refine qB (fun h6 => ?_) fun h6 => ?_
          ·rw [ppEnd_f (by rw [hE1]; exact h6)]
           refine qX ?_
           refine den_finV (qA [0, 3]) (qC) _ (by simp only [go_sem]; rfl) (by rfl) (by rfl) ?_
           simp (disch := omega) only [go_sem, Nat.reduceEqDiff, Nat.reduceAdd, Nat.reduceSub, Int.reduceAdd, Int.reduceSub, Int.reduceToNat]
          ·rw [ppEnd_t (by rw [hE1]; exact h6), hE1]
           refine qX ?_
           refine den_finV (qA [0, 9]) (qC) _ (by simp only [go_sem]; rfl) (by rfl) (by rfl) ?_
           simp (disch := omega) only [go_sem, Nat.reduceEqDiff, Nat.reduceAdd, Nat.reduceSub, Int.reduceAdd, Int.reduceSub, Int.reduceToNat]
           try simp
     ·rw [hnew hok1 (by omega)]
      have hI0 : PpI 0 ⟨⟨n, t⟩, false, []⟩ := ppI_zero (by omega) (by omega) (by omega)
      refine qX ?_
      obtain ⟨G, hG⟩ : ∃ G, ppGo ⟨⟨n, t⟩, false, []⟩ p.list = G := ⟨_, rfl⟩
      refine den_lp 1 hE (fun s (x : Nat × PpS) => s.at [0, 1, 2, 9, 13, 14, 15, 16, 17, 18, 19, 20, 21, 22, 23, 24, 25, 26, 27, 28, 29, 30, 31, 32, 33, 34, 35, 36, 37, 38, 39, 40, 41, 42, 43, 44, 45, 46, 47, 48, 49, 50, 51, 52, 53, 54, 55, 56, 57, 58, 59, 60, 61, 62, 63, 64, 65, 66, 67, 68, 69, 70, 71, 72, 73, 74, 75, 76, 77, 78, 79, 80, 81, 82, 83, 84, 85, 86, 87, 88, 89, 90, 91, 92, 93, 94, 95, 96, 97, 98, 99, 100, 101, 102, 103, 104, 105, 106, 107, 108, 109, 110, 111, 112] [(12, .sc (.int .i64 (x.1 : Nat))), (11, .sc (.bo x.2.laid))] ([some ⟨p.list.map PieceD.cs, 2, 272, false, true⟩, some ⟨[p.cs 0], 3, 57, true, false⟩, some ⟨[[.int .i64 0, .st [], .nil]], 3, 57, true, false⟩, some ⟨p.list.map PieceD.cs, 2, 272, true, true⟩, some ⟨[p.cs 3], 3, 57, true, false⟩, some ⟨[x.2.own.cs], 2, 272, true, false⟩, some ⟨x.2.acc.map PieceD.cs, 2, 272, true, true⟩, some ⟨[[.int .i64 p.read, .st p.ready, .sl 6 0 x.2.acc.length]], 3, 57, true, false⟩])) (fun (x : Nat × PpS) => x.1 ≤ p.list.length ∧ PpI x.1 x.2 ∧ ppGo x.2 (p.list.drop x.1) = G) (fun (x : Nat × PpS) => p.list.length - x.1) (0, ⟨⟨n, t⟩, false, []⟩) (qA [0, 1, 2, 3, 4, 5, 6, 7]) (qC) (⟨Nat.zero_le _, hI0, hG⟩) (weak_mk (by rfl) (by rfl) ?_) fun x hx N hN => ?_
      ·exact qY
      ·obtain ⟨k, g⟩ := x
       obtain ⟨hk1, hI, hgo⟩ := hx
       dsimp only at hk1 hI hgo
       have hIo := hI.own
       have hIp := hI.pos
       have hIa := hI.acc
       have hac : g.acc.length ≤ 100 := by split at hIa <;> omega
       refine qR ?_
       refine qB (fun h => ?_) fun h => ?_
       ·have hm := hF.texts p.list[k] (List.getElem_mem h)
        obtain ⟨hm1, hm2, hm3⟩ := hm
        rw [ppGo_step h] at hgo
        refine qX ?_
        refine qB (fun h2 => ?_) fun h2 => ?_
        ·rw [ppStep_a (by omega)] at hgo
         refine qX ?_
         refine ⟨qC, hN _ (k + 1, ⟨g.own, g.laid, g.acc ++ [p.list[k]]⟩) (qA [0, 1, 2, 3, 4, 5, 10, 7]) (by (try dsimp only); exact ⟨by omega, ppI_a hI hm1, hgo⟩) (by (try dsimp only); omega) (weak_mk (by rfl) (by rfl) ?_)⟩
         try simp (disch := omega) only [go_sem, Nat.reduceEqDiff, Nat.reduceAdd, Nat.reduceSub, Int.reduceAdd, Int.reduceSub, Int.reduceToNat]
         try simp [PieceD.cs]
        ·refine qX ?_
         refine qB (fun h3 => ?_) fun h3 => ?_
         ·rw [ppStep_b (by omega) (by omega)] at hgo
          cases hgl : g.laid with
          | true =>
           rw [hgl, if_pos rfl] at hgo
           try simp (disch := omega) only [go_sem, Nat.reduceEqDiff, Nat.reduceAdd, Nat.reduceSub, Int.reduceAdd, Int.reduceSub, Int.reduceToNat, hgl]
           refine ⟨qC, hN _ (k + 1, ⟨g.own, true, g.acc ++ [p.list[k]]⟩) (qA [0, 1, 2, 3, 4, 5, 10, 7]) (by (try dsimp only); exact ⟨by omega, ppI_b1 hI hgl hm1, hgo⟩) (by (try dsimp only); omega) (weak_mk (by rfl) (by rfl) ?_)⟩
           try simp (disch := omega) only [go_sem, Nat.reduceEqDiff, Nat.reduceAdd, Nat.reduceSub, Int.reduceAdd, Int.reduceSub, Int.reduceToNat]
           try simp [PieceD.cs]
          | false =>
           rw [hgl, if_neg (by simp)] at hgo
           try simp (disch := omega) only [go_sem, Nat.reduceEqDiff, Nat.reduceAdd, Nat.reduceSub, Int.reduceAdd, Int.reduceSub, Int.reduceToNat, hgl]
           refine ⟨qC, hN _ (k + 1, ⟨g.own, true, g.acc ++ [g.own] ++ [p.list[k]]⟩) (qA [0, 1, 2, 3, 4, 5, 12, 7]) (by (try dsimp only); exact ⟨by omega, ppI_b2 hI (by omega) hgl hm1, hgo⟩) (by (try dsimp only); omega) (weak_mk (by rfl) (by rfl) ?_)⟩
           try simp (disch := omega) only [go_sem, Nat.reduceEqDiff, Nat.reduceAdd, Nat.reduceSub, Int.reduceAdd, Int.reduceSub, Int.reduceToNat]
           try simp [PieceD.cs]
         ·rw [ppStep_c (by omega) (by omega)] at hgo
          refine qX ?_
          refine qK (spec_l09Join p.list[k] g.own (by omega) (by omega) (by omega) (by omega) (by omega) (by omega)) [] ?_
          refine ⟨qC, hN _ (k + 1, ⟨joinP p.list[k] g.own, g.laid, g.acc⟩) (qA [0, 1, 2, 3, 4, 5, 6, 7]) (by (try dsimp only); exact ⟨by omega, ppI_c hI hm1 hm2 hm3, hgo⟩) (by (try dsimp only); omega) (weak_mk (by rfl) (by rfl) ?_)⟩
          try simp (disch := omega) only [go_sem, Nat.reduceEqDiff, Nat.reduceAdd, Nat.reduceSub, Int.reduceAdd, Int.reduceSub, Int.reduceToNat]
          try simp [PieceD.cs]
       ·have hkl : k = p.list.length := by omega
        rw [ppGo_end (by omega)] at hgo
        subst hgo
        obtain ⟨y, r, hyr, hyt, hyl⟩ := ppAll_cons hI (by omega)
        rw [ppRun_eq hG hyr]
        have hyr' := hyr
        rw [ppAll] at hyr'
        cases hgl : g.laid with
        | true =>
         rw [hgl, if_pos rfl] at hyr'
         rw [hyr']
         try simp (disch := omega) only [go_sem, Nat.reduceEqDiff, Nat.reduceAdd, Nat.reduceSub, Int.reduceAdd, Int.reduceSub, Int.reduceToNat, hgl, List.map_cons]
         refine qD [0, 1, 2, 3, 4, 5, 6, 7] ?_
         refine qKD (spec_NextOf ⟨p.read, p.ready, y :: r⟩) (qA [6]) ?_
         refine ⟨qC, run_den 400 ?_⟩
         rw [show nextOf ⟨p.read, p.ready, y :: r⟩ = nextOf p from rfl]
         refine qX ?_
         refine qB (fun h5 => ?_) fun h5 => ?_
         ·refine qD [0, 1, 2, 3, 4, 5, 6, 7, 8, 9] ?_
          refine ⟨qC, run_den 400 ?_⟩
          have hE1 := @ppOut_t p y r h5
          refine qX ?_
          refine qK (spec_PiecesOk ⟨p.read, p.ready ++ y.text, r⟩ (by simp at hyl ⊢; omega)) [some (6, some 1)] ?_
          refine qB (fun h6 => ?_) fun h6 => ?_
          ·rw [ppEnd_f (by rw [hE1]; exact h6)]
           refine qX ?_
           refine den_finV (qA [0, 3]) (qC) _ (by simp only [go_sem]; rfl) (by rfl) (by rfl) ?_
           simp (disch := omega) only [go_sem, Nat.reduceEqDiff, Nat.reduceAdd, Nat.reduceSub, Int.reduceAdd, Int.reduceSub, Int.reduceToNat]
          ·rw [ppEnd_t (by rw [hE1]; exact h6), hE1]
           refine qX ?_
           refine den_finV [some (0, none), some (6, some 1)] (qC) _ (by simp only [go_sem]; rfl) (by rfl) (by rfl) ?_
           simp (disch := omega) only [go_sem, Nat.reduceEqDiff, Nat.reduceAdd, Nat.reduceSub, Int.reduceAdd, Int.reduceSub, Int.reduceToNat]
           try simp
         ·have hE1 := @ppOut_f p y r h5
          refine qX ?_
          refine qK (spec_PiecesOk ⟨p.read, p.ready, y :: r⟩ (by simp at hyl ⊢; omega)) (qA [6]) ?_
          refine qB (fun h6 => ?_) fun h6 => ?_
          ·rw [ppEnd_f (by rw [hE1]; exact h6)]
           refine qX ?_
           refine den_finV (qA [0, 3]) (qC) _ (by simp only [go_sem]; rfl) (by rfl) (by rfl) ?_
           simp (disch := omega) only [go_sem, Nat.reduceEqDiff, Nat.reduceAdd, Nat.reduceSub, Int.reduceAdd, Int.reduceSub, Int.reduceToNat]
          ·rw [ppEnd_t (by rw [hE1]; exact h6), hE1]
           refine qX ?_
           refine den_finV (qA [0, 6]) (qC) _ (by simp only [go_sem]; rfl) (by rfl) (by rfl) ?_
           simp (disch := omega) only [go_sem, Nat.reduceEqDiff, Nat.reduceAdd, Nat.reduceSub, Int.reduceAdd, Int.reduceSub, Int.reduceToNat]
           try simp
        | false =>
         rw [hgl, if_neg (by simp)] at hyr'
         have e1 : g.acc.map PieceD.cs ++ [g.own.cs] = PieceD.cs y :: r.map PieceD.cs := by rw [← List.map_cons, ← hyr']; simp
         have e2 : g.acc.length + 1 = r.length + 1 := by have := congrArg List.length hyr'; simpa using this
         simp only [PieceD.cs] at e1
         try simp (disch := omega) only [go_sem, Nat.reduceEqDiff, Nat.reduceAdd, Nat.reduceSub, Int.reduceAdd, Int.reduceSub, Int.reduceToNat, hgl, e1, e2]
         refine qD [0, 1, 2, 3, 4, 5, 6, 7] ?_
         refine qKD (spec_NextOf ⟨p.read, p.ready, y :: r⟩) (qA [9]) ?_
         refine ⟨qC, run_den 400 ?_⟩
         rw [show nextOf ⟨p.read, p.ready, y :: r⟩ = nextOf p from rfl]
         refine qX ?_
         refine qB (fun h5 => ?_) fun h5 => ?_
         ·refine qD [0, 1, 2, 3, 4, 5, 6, 7, 8, 9] ?_
          refine ⟨qC, run_den 400 ?_⟩
          have hE1 := @ppOut_t p y r h5
          refine qX ?_
          refine qK (spec_PiecesOk ⟨p.read, p.ready ++ y.text, r⟩ (by simp at hyl ⊢; omega)) [some (9, some 1)] ?_
          refine qB (fun h6 => ?_) fun h6 => ?_
          ·rw [ppEnd_f (by rw [hE1]; exact h6)]
           refine qX ?_
           refine den_finV (qA [0, 3]) (qC) _ (by simp only [go_sem]; rfl) (by rfl) (by rfl) ?_
           simp (disch := omega) only [go_sem, Nat.reduceEqDiff, Nat.reduceAdd, Nat.reduceSub, Int.reduceAdd, Int.reduceSub, Int.reduceToNat]
          ·rw [ppEnd_t (by rw [hE1]; exact h6), hE1]
           refine qX ?_
           refine den_finV [some (0, none), some (9, some 1)] (qC) _ (by simp only [go_sem]; rfl) (by rfl) (by rfl) ?_
           simp (disch := omega) only [go_sem, Nat.reduceEqDiff, Nat.reduceAdd, Nat.reduceSub, Int.reduceAdd, Int.reduceSub, Int.reduceToNat]
           try simp
         ·have hE1 := @ppOut_f p y r h5
          refine qX ?_
          refine qK (spec_PiecesOk ⟨p.read, p.ready, y :: r⟩ (by simp at hyl ⊢; omega)) (qA [9]) ?_
          refine qB (fun h6 => ?_) fun h6 => ?_
          ·rw [ppEnd_f (by rw [hE1]; exact h6)]
           refine qX ?_
           refine den_finV (qA [0, 3]) (qC) _ (by simp only [go_sem]; rfl) (by rfl) (by rfl) ?_
           simp (disch := omega) only [go_sem, Nat.reduceEqDiff, Nat.reduceAdd, Nat.reduceSub, Int.reduceAdd, Int.reduceSub, Int.reduceToNat]
          ·rw [ppEnd_t (by rw [hE1]; exact h6), hE1]
           refine qX ?_
           refine den_finV (qA [0, 9]) (qC) _ (by simp only [go_sem]; rfl) (by rfl) (by rfl) ?_
           simp (disch := omega) only [go_sem, Nat.reduceEqDiff, Nat.reduceAdd, Nat.reduceSub, Int.reduceAdd, Int.reduceSub, Int.reduceToNat]
           try simp
  ·rw [hf (by rw [hok]; simp [h2])]
   refine qX ?_
   refine den_finV (qA [0, 3]) (qC) _ (by simp only [go_sem]; rfl) (by rfl) (by rfl) ?_
   simp (disch := omega) only [go_sem, Nat.reduceEqDiff, Nat.reduceAdd, Nat.reduceSub, Int.reduceAdd, Int.reduceSub, Int.reduceToNat]
 ·rw [hf (by rw [hok]; simp [h1])]
  refine qX ?_
  refine den_finV (qA [0, 3]) (qC) _ (by simp only [go_sem]; rfl) (by rfl) (by rfl) ?_
  simp (disch := omega) only [go_sem, Nat.reduceEqDiff, Nat.reduceAdd, Nat.reduceSub, Int.reduceAdd, Int.reduceSub, Int.reduceToNat]

end
section
open Go.RowKit

theorem piecesOk_le {p : PiecesD} (h : piecesOk p = true) : p.list.length ≤ 20 := by
 simp only [piecesOk, Bool.and_eq_true, decide_eq_true_eq] at h
 omega
theorem ppEnd_or (p : PiecesD) (l : List PieceD) : ppEnd p l = p ∨ piecesOk (ppEnd p l) = true := by
 rw [ppEnd]
 split
 ·rename_i h; exact .inr h
 ·exact .inl rfl
theorem putPiece_or (p : PiecesD) (n : Int) (t : List UInt8) : putPiece p n t = p ∨ piecesOk (putPiece p n t) = true := by
 rw [putPiece]
 split
 ·split
  ·exact .inl rfl
  ·split <;> exact ppEnd_or _ _
 ·exact .inl rfl
theorem putPiece_le {p : PiecesD} {n : Int} {t : List UInt8} (h : p.list.length ≤ 1048576) : (putPiece p n t).list.length ≤ 1048576 := by
 rcases putPiece_or p n t with e | e
 ·rw [e]; exact h
 ·have := piecesOk_le e; omega
def inOf (e : EndD) (x : LetterD) : PiecesD := putPiece e.inp x.pos x.text
def dataOk (e : EndD) (x : LetterD) : Bool := decide (0 ≤ onAt e x) && decide (nextOf (inOf e x) ≤ 1000000000)
def cameL (x : LetterD) (n m : Int) : LetterD := between (roadOf x) { letNone with kind := 12, sgn := n, pos := m }
def hearData (e : EndD) (x : LetterD) : EndD × List LetterD :=
 if dataOk e x then ({ e with inp := inOf e x }, [cameL x (subAtN e.subs (onAt e x).toNat).give (nextOf (inOf e x))]) else (e, [])
theorem hearData_f {e : EndD} {x : LetterD} (h : dataOk e x = false) : hearData e x = (e, []) := by rw [hearData, if_neg (by simp [h])]
theorem hearData_t {e : EndD} {x : LetterD} {n : Nat} (h : dataOk e x = true) (ho : onAt e x = (n : Int)) (hn : n < e.subs.length) :
  hearData e x = ({ e with inp := inOf e x }, [cameL x e.subs[n].give (nextOf (inOf e x))]) := by rw [hearData, if_pos h, ho, Int.toNat_natCast, subAtN_at hn]
def EndD.hpS (x : EndD) : Hp := [some ⟨x.own.map AddrD.cs, 4, 95, true, true⟩, some ⟨x.far.map AddrD.cs, 4, 95, true, true⟩, some ⟨x.subs.map SubD.cs, 10, 202, true, true⟩, some ⟨x.halfs.map HalfD.cs, 8, 215, true, true⟩, some ⟨x.inp.list.map PieceD.cs, 2, 272, false, true⟩, some ⟨x.done.map intC, 1, 3, true, true⟩, some ⟨x.over.map intC, 1, 3, true, true⟩]
attribute [go_sem] EndD.hpS
def hearOk (e : EndD) (x : LetterD) : Bool := endOk e && letOk x && ownsAddr e.own x.to
def hear (e : EndD) (x : LetterD) : EndD × List LetterD :=
 if hearOk e x then
  if x.kind = 1 then hearHello e x else if x.kind = 2 then hearBack e x else if x.kind = 4 then hearJoin e x else if x.kind = 5 then hearJoinBack e x
  else if x.kind = 6 then hearJoinDone e x else if x.kind = 7 then hearJoinAck e x else if x.kind = 8 then hearAddr e x else if x.kind = 9 then hearEcho e x
  else if x.kind = 10 then hearGone e x else if x.kind = 11 then hearData e x else if x.kind = 12 then hearCame e x else if x.kind = 13 then hearReset e x else (e, [])
 else (e, [])
theorem hear_f {e : EndD} {x : LetterD} (h : hearOk e x = false) : hear e x = (e, []) := by rw [hear, if_neg (by simp [h])]
theorem hear_n {e : EndD} {x : LetterD} (h : ∀ k : Int, k = 1 ∨ k = 2 ∨ 4 ≤ k ∧ k ≤ 13 → ¬ x.kind = k) : hear e x = (e, []) := by
 by_cases hc : hearOk e x = true
 ·rw [hear, if_pos hc, if_neg (h 1 (by omega)), if_neg (h 2 (by omega)), if_neg (h 4 (by omega)), if_neg (h 5 (by omega)), if_neg (h 6 (by omega)), if_neg (h 7 (by omega)), if_neg (h 8 (by omega)), if_neg (h 9 (by omega)), if_neg (h 10 (by omega)), if_neg (h 11 (by omega)), if_neg (h 12 (by omega)), if_neg (h 13 (by omega))]
 ·exact hear_f (by simpa using hc)
theorem hear_1 {e : EndD} {x : LetterD} (h : hearOk e x = true) (hk : x.kind = 1) : hear e x = hearHello e x := by rw [hear, if_pos h]; simp [hk]
theorem hear_2 {e : EndD} {x : LetterD} (h : hearOk e x = true) (hk : x.kind = 2) : hear e x = hearBack e x := by rw [hear, if_pos h]; simp [hk]
theorem hear_4 {e : EndD} {x : LetterD} (h : hearOk e x = true) (hk : x.kind = 4) : hear e x = hearJoin e x := by rw [hear, if_pos h]; simp [hk]
theorem hear_5 {e : EndD} {x : LetterD} (h : hearOk e x = true) (hk : x.kind = 5) : hear e x = hearJoinBack e x := by rw [hear, if_pos h]; simp [hk]
theorem hear_6 {e : EndD} {x : LetterD} (h : hearOk e x = true) (hk : x.kind = 6) : hear e x = hearJoinDone e x := by rw [hear, if_pos h]; simp [hk]
theorem hear_7 {e : EndD} {x : LetterD} (h : hearOk e x = true) (hk : x.kind = 7) : hear e x = hearJoinAck e x := by rw [hear, if_pos h]; simp [hk]
theorem hear_8 {e : EndD} {x : LetterD} (h : hearOk e x = true) (hk : x.kind = 8) : hear e x = hearAddr e x := by rw [hear, if_pos h]; simp [hk]
theorem hear_9 {e : EndD} {x : LetterD} (h : hearOk e x = true) (hk : x.kind = 9) : hear e x = hearEcho e x := by rw [hear, if_pos h]; simp [hk]
theorem hear_10 {e : EndD} {x : LetterD} (h : hearOk e x = true) (hk : x.kind = 10) : hear e x = hearGone e x := by rw [hear, if_pos h]; simp [hk]
theorem hear_11 {e : EndD} {x : LetterD} (h : hearOk e x = true) (hk : x.kind = 11) : hear e x = hearData e x := by rw [hear, if_pos h]; simp [hk]
theorem hear_12 {e : EndD} {x : LetterD} (h : hearOk e x = true) (hk : x.kind = 12) : hear e x = hearCame e x := by rw [hear, if_pos h]; simp [hk]
theorem hear_13 {e : EndD} {x : LetterD} (h : hearOk e x = true) (hk : x.kind = 13) : hear e x = hearReset e x := by rw [hear, if_pos h]; simp [hk]
end
section
open Go.RowKit

theorem impl_HearData (e : EndD) (x : LetterD) (hs : Small e) (hsp : SmallP e.inp) : CallA Tryz.prog 132 [.ag (e.cs 0), .ag x.cs] (e.hp false) (.tu [.ag ((hearData e x).1.cs 7), .sc (.sl 14 0 (hearData e x).2.length)])
  (e.hp false ++ ((hearData e x).1.hp true ++ [some ⟨(hearData e x).2.map LetterD.cs, 19, 70, true, true⟩])) := by
 have hC := impl_copyEnd e (by have := hs.own; omega) (by have := hs.far; omega) (by have := hs.subs; omega) (by have := hs.halfs; omega) (by have := hs.list; omega) (by have := hs.done; omega) (by have := hs.over; omega)
 have hK := impl_EndOk e (by have := hs.own; omega) (by have := hs.far; omega) (by have := hs.subs; omega) (by have := hs.halfs; omega) (by have := hs.list; omega) (by have := hs.done; omega) (by have := hs.over; omega)
 have hS := impl_SignedOn e x (by have := hs.subs; omega)
 have hL := impl_LetterOk x
 have hbs := signedOn_bd e x
 have hP := impl_PutPiece e.inp x.pos x.text hsp
 have hbd := onAt_bd e x
 have hf := hearData_f (e := e) (x := x)
 have ht := fun (n : Nat) => @hearData_t e x n
 have hok := dataOk.eq_1 e x
 have hql : (inOf e x).list.length ≤ 1048576 := putPiece_le (by have := hs.list; omega)
 rw [show putPiece e.inp x.pos x.text = inOf e x from rfl] at hP
 generalize inOf e x = Q at *
 generalize hearData e x = R at *
 refine qE Tryz.func132 Tryz.ntmps132 Tryz.results132 fun E hE => ?_
 refine qK (hC) (qA [0, 1, 2, 3, 4, 5, 6]) ?_
 refine qK (hS) (qA [0, 1, 2, 3, 4, 5, 6]) ?_
 rcases hbs with hk | ⟨hk0, hk1⟩
 ·rw [hk]
  refine qX ?_
  refine qK (hK) (qA [0, 1, 2, 3, 4, 5, 6]) ?_
  refine qB (fun h1 => ?_) fun h1 => ?_
  ·refine qK (hL) [] ?_
   refine qB (fun h2 => ?_) fun h2 => ?_
   ·rw [hf (by rw [hok]; have := onAt_f (e := e) (x := x) (by rintro ⟨_, _, hh⟩; omega); simp; omega)]
    refine qX ?_
    exact qF [some (0, none), some (1, none), some (2, none), some (3, none), some (4, none), some (5, none), some (6, none), some (10, none), some (11, none), some (12, none), some (13, none), some (14, none), some (15, none), some (16, none), none]
   ·rw [hf (by rw [hok]; have := onAt_f (e := e) (x := x) (by rintro ⟨_, hh, _⟩; rw [h2] at hh; cases hh); simp; omega)]
    refine qX ?_
    exact qF [some (0, none), some (1, none), some (2, none), some (3, none), some (4, none), some (5, none), some (6, none), some (10, none), some (11, none), some (12, none), some (13, none), some (14, none), some (15, none), some (16, none), none]
  ·rw [hf (by rw [hok]; have := onAt_f (e := e) (x := x) (by rintro ⟨hh, _⟩; rw [h1] at hh; cases hh); simp; omega)]
   refine qX ?_
   exact qF [some (0, none), some (1, none), some (2, none), some (3, none), some (4, none), some (5, none), some (6, none), some (10, none), some (11, none), some (12, none), some (13, none), some (14, none), some (15, none), some (16, none), none]
 ·obtain ⟨n, hk⟩ := Int.eq_ofNat_of_zero_le hk0
  have hn : n < e.subs.length := by omega
  rw [hk]
  refine qX ?_
  refine qK (hK) (qA [0, 1, 2, 3, 4, 5, 6]) ?_
  refine qB (fun h1 => ?_) fun h1 => ?_
  ·refine qK (hL) [] ?_
   refine qB (fun h2 => ?_) fun h2 => ?_
   ·have hon := onAt_t h1 h2 hk
    have hq1 := h1
    refine qX ?_
    refine qK (hP) (qA [4]) ?_
    refine qK (impl_NextOf Q) (qA [18]) ?_
    refine qB (fun h7 => ?_) fun h7 => ?_
    ·rw [hf (by rw [hok]; simp; omega)]
     refine qX ?_
     exact qF [some (0, none), some (1, none), some (2, none), some (3, none), some (4, none), some (5, none), some (6, none), some (10, none), some (11, none), some (12, none), some (13, none), some (14, none), some (15, none), some (16, none), none]
    ·rw [ht _ (by rw [hok]; simp [hon]; omega) hon hn]
     refine qX ?_
     refine den_drawC [(13, 14)] [[0, 1, 3, 4, 5, 6, 7, 8, 9, 2, 10, 11, 12, 13, 14, 15], [0, 1, 3, 4, 5, 6, 7, 8, 9, 2, 10, 11, 12, 14, 13, 15]] (by kernel_rfl) (qC) (by kernel_rfl) ?_
     simp only [allDn]
     refine ⟨runD_den 400 ?_, runD_den 400 ?_⟩
     all_goals simp (disch := omega) only [go_sem, Nat.reduceEqDiff, Nat.reduceAdd, Nat.reduceSub, Int.reduceAdd, Int.reduceSub, Int.reduceToNat]
     all_goals
      refine qKD (impl_RoadOf x) [] ?_
      refine qKD (impl_NextOf Q) (qA [18]) ?_
      refine qKD (impl_Between (roadOf x) { letNone with kind := 12, sgn := e.subs[n].give, pos := nextOf Q }) [] ?_
      refine qG ?_
      refine den_fin (qA [0, 1, 2, 3, 4, 5, 6, 10, 11, 12, 13, 18, 15, 16, 20]) (qC) _ (by simp only [go_sem]; rfl) (by rfl) (by rfl) ?_
      simp (disch := omega) only [go_sem, Nat.reduceEqDiff, Nat.reduceAdd, Nat.reduceSub, Int.reduceAdd, Int.reduceSub, Int.reduceToNat]
      try simp [cameL, between, LetterD.cs]
   ·rw [hf (by rw [hok]; have := onAt_f (e := e) (x := x) (by rintro ⟨_, hh, _⟩; rw [h2] at hh; cases hh); simp; omega)]
    refine qX ?_
    exact qF [some (0, none), some (1, none), some (2, none), some (3, none), some (4, none), some (5, none), some (6, none), some (10, none), some (11, none), some (12, none), some (13, none), some (14, none), some (15, none), some (16, none), none]
  ·rw [hf (by rw [hok]; have := onAt_f (e := e) (x := x) (by rintro ⟨hh, _⟩; rw [h1] at hh; cases hh); simp; omega)]
   refine qX ?_
   exact qF [some (0, none), some (1, none), some (2, none), some (3, none), some (4, none), some (5, none), some (6, none), some (10, none), some (11, none), some (12, none), some (13, none), some (14, none), some (15, none), some (16, none), none]

theorem spec_HearData (e : EndD) (x : LetterD) (hs : Small e) (hsp : SmallP e.inp) : CallA Tryz.prog 103 [.ag (e.cs 0), .ag x.cs] (e.hp false) (.tu [.ag ((hearData e x).1.cs 7), .sc (.sl 14 0 (hearData e x).2.length)])
  (e.hp false ++ ((hearData e x).1.hpS ++ [some ⟨(hearData e x).2.map LetterD.cs, 19, 70, true, true⟩])) := by
 have hC := spec_l17Copy e (by have := hs.own; omega) (by have := hs.far; omega) (by have := hs.subs; omega) (by have := hs.halfs; omega) (by have := hs.list; omega) (by have := hs.done; omega) (by have := hs.over; omega)
 have hK := spec_EndOk e (by have := hs.own; omega) (by have := hs.far; omega) (by have := hs.subs; omega) (by have := hs.halfs; omega) (by have := hs.list; omega) (by have := hs.done; omega) (by have := hs.over; omega)
 have hS := spec_l20On e x hs
 have hP := spec_PutPiece e.inp x.pos x.text hsp
 have hbd := onAt_bd e x
 have hf := hearData_f (e := e) (x := x)
 have ht := fun (n : Nat) => @hearData_t e x n
 have hok := dataOk.eq_1 e x
 have hql : (inOf e x).list.length ≤ 1048576 := putPiece_le (by have := hs.list; omega)
 rw [show putPiece e.inp x.pos x.text = inOf e x from rfl] at hP
 generalize inOf e x = Q at *
 generalize hearData e x = R at *
 refine qE Tryz.func103 Tryz.ntmps103 Tryz.results103 fun E hE => ?_
 refine qK (hC) (qA [0, 1, 2, 3, 4, 5, 6]) ?_
 refine qK (hS) (qA [0, 1, 2, 3, 4, 5, 6]) ?_
 rcases hbd with hon | ⟨n, hon, hk, hn, hq1, hq2⟩
 ·rw [hf (by rw [hok]; simp [hon]), hon]
  refine qX ?_
  exact qF (qA [0, 1, 2, 3, 4, 5, 6, 10, 11, 12, 13, 14, 15, 16, 18])
 ·rw [hon]
  refine qX ?_
  refine qX ?_
  refine qK (hP) (qA [4]) ?_
  refine qK (spec_NextOf Q) (qA [19]) ?_
  refine qB (fun h7 => ?_) fun h7 => ?_
  ·rw [hf (by rw [hok]; simp; omega)]
   refine qX ?_
   exact qF (qA [0, 1, 2, 3, 4, 5, 6, 10, 11, 12, 13, 14, 15, 16, 18])
  ·rw [ht _ (by rw [hok]; simp [hon]; omega) hon hn]
   refine qX ?_
   refine den_drawC [(0, 15), (3, 0), (11, 0), (13, 0), (14, 0)] [[1, 2, 4, 5, 6, 7, 8, 9, 10, 3, 11, 12, 13, 14, 0, 15, 16, 17], [1, 2, 4, 5, 6, 7, 8, 9, 10, 3, 11, 12, 13, 0, 14, 15, 16, 17], [1, 2, 4, 5, 6, 7, 8, 9, 10, 3, 11, 12, 0, 13, 14, 15, 16, 17], [1, 2, 4, 5, 6, 7, 8, 9, 10, 3, 0, 11, 12, 13, 14, 15, 16, 17], [1, 2, 4, 5, 6, 7, 8, 9, 10, 0, 3, 11, 12, 13, 14, 15, 16, 17], [1, 2, 4, 5, 6, 7, 8, 9, 10, 3, 11, 12, 13, 14, 15, 0, 16, 17]] (by kernel_rfl) (qC) (by kernel_rfl) ?_
   simp only [allDn]
   refine ⟨runD_den 400 ?_, runD_den 400 ?_, runD_den 400 ?_, runD_den 400 ?_, runD_den 400 ?_, runD_den 400 ?_⟩
   all_goals simp (disch := omega) only [go_sem, Nat.reduceEqDiff, Nat.reduceAdd, Nat.reduceSub, Int.reduceAdd, Int.reduceSub, Int.reduceToNat]
   all_goals
    refine qKD (spec_RoadOf x) [] ?_
    refine qKD (spec_NextOf Q) (qA [19]) ?_
    refine qKD (spec_Between (roadOf x) { letNone with kind := 12, sgn := e.subs[n].give, pos := nextOf Q }) [] ?_
    refine qG ?_
    refine den_fin (qA [0, 1, 2, 3, 4, 5, 6, 10, 11, 12, 13, 19, 15, 16, 22]) (qC) _ (by simp only [go_sem]; rfl) (by rfl) (by rfl) ?_
    simp (disch := omega) only [go_sem, Nat.reduceEqDiff, Nat.reduceAdd, Nat.reduceSub, Int.reduceAdd, Int.reduceSub, Int.reduceToNat]
    try simp [cameL, between, LetterD.cs]

end
section
open Go.RowKit

theorem impl_Hear (e : EndD) (x : LetterD) (hs : Small e) (hsp : SmallP e.inp) : CallA Tryz.prog 55 [.ag (e.cs 0), .ag x.cs] (e.hp false) (.tu [.ag ((hear e x).1.cs 7), .sc (.sl 14 0 (hear e x).2.length)])
  (e.hp false ++ ((hear e x).1.hp true ++ [some ⟨(hear e x).2.map LetterD.cs, 19, 70, true, true⟩])) := by
 have hC := impl_copyEnd e (by have := hs.own; omega) (by have := hs.far; omega) (by have := hs.subs; omega) (by have := hs.halfs; omega) (by have := hs.list; omega) (by have := hs.done; omega) (by have := hs.over; omega)
 have hK := impl_EndOk e (by have := hs.own; omega) (by have := hs.far; omega) (by have := hs.subs; omega) (by have := hs.halfs; omega) (by have := hs.list; omega) (by have := hs.done; omega) (by have := hs.over; omega)
 have hL := impl_LetterOk x
 have hO := impl_OwnsAddr e x.to (by have := hs.own; omega)
 have hf := hear_f (e := e) (x := x)
 have hno := hear_n (e := e) (x := x)
 have hr1 := hear_1 (e := e) (x := x)
 have hr2 := hear_2 (e := e) (x := x)
 have hr4 := hear_4 (e := e) (x := x)
 have hr5 := hear_5 (e := e) (x := x)
 have hr6 := hear_6 (e := e) (x := x)
 have hr7 := hear_7 (e := e) (x := x)
 have hr8 := hear_8 (e := e) (x := x)
 have hr9 := hear_9 (e := e) (x := x)
 have hr10 := hear_10 (e := e) (x := x)
 have hr11 := hear_11 (e := e) (x := x)
 have hr12 := hear_12 (e := e) (x := x)
 have hr13 := hear_13 (e := e) (x := x)
 generalize hear e x = R at *
 refine qE Tryz.func55 Tryz.ntmps55 Tryz.results55 fun E hE => ?_
 refine qK (hK) (qA [0, 1, 2, 3, 4, 5, 6]) ?_
 refine qB (fun h1 => ?_) fun h1 => ?_
 ·refine qK (hL) [] ?_
  refine qB (fun h2 => ?_) fun h2 => ?_
  ·refine qK (hO) (qA [0, 1, 2, 3, 4, 5, 6]) ?_
   refine qB (fun h3 => ?_) fun h3 => ?_
   ·rw [hf (by simp [hearOk, h1, h2, h3])]
    refine qX ?_
    refine qK (hC) (qA [0, 1, 2, 3, 4, 5, 6]) ?_
    exact qF [some (0, none), some (1, none), some (2, none), some (3, none), some (4, none), some (5, none), some (6, none), some (10, none), some (11, none), some (12, none), some (13, none), some (14, none), some (15, none), some (16, none), none]
   ·have hh : hearOk e x = true := by simp [hearOk, h1, h2, h3]
    refine qX ?_
    refine qB (fun k1 => ?_) fun k1 => ?_
    ·rw [hr1 hh k1]
     refine qX ?_
     refine qK (impl_HearHello e x hs) (qA [0, 1, 2, 3, 4, 5, 6]) ?_
     exact qF (qA [0, 1, 2, 3, 4, 5, 6, 10, 11, 12, 13, 14, 15, 16, 17])
    ·refine qX ?_
     refine qB (fun k2 => ?_) fun k2 => ?_
     ·rw [hr2 hh k2]
      refine qX ?_
      refine qK (impl_HearBack e x hs) (qA [0, 1, 2, 3, 4, 5, 6]) ?_
      exact qF (qA [0, 1, 2, 3, 4, 5, 6, 10, 11, 12, 13, 14, 15, 16, 17])
     ·refine qX ?_
      refine qB (fun k4 => ?_) fun k4 => ?_
      ·rw [hr4 hh k4]
       refine qX ?_
       refine qK (impl_HearJoin e x hs) (qA [0, 1, 2, 3, 4, 5, 6]) ?_
       exact qF (qA [0, 1, 2, 3, 4, 5, 6, 10, 11, 12, 13, 14, 15, 16, 17])
      ·refine qX ?_
       refine qB (fun k5 => ?_) fun k5 => ?_
       ·rw [hr5 hh k5]
        refine qX ?_
        refine qK (impl_HearJoinBack e x hs) (qA [0, 1, 2, 3, 4, 5, 6]) ?_
        exact qF (qA [0, 1, 2, 3, 4, 5, 6, 10, 11, 12, 13, 14, 15, 16, 17])
       ·refine qX ?_
        refine qB (fun k6 => ?_) fun k6 => ?_
        ·rw [hr6 hh k6]
         refine qX ?_
         refine qK (impl_HearJoinDone e x hs) (qA [0, 1, 2, 3, 4, 5, 6]) ?_
         exact qF (qA [0, 1, 2, 3, 4, 5, 6, 10, 11, 12, 13, 14, 15, 16, 17])
        ·refine qX ?_
         refine qB (fun k7 => ?_) fun k7 => ?_
         ·rw [hr7 hh k7]
          refine qX ?_
          refine qK (impl_HearJoinAck e x hs) (qA [0, 1, 2, 3, 4, 5, 6]) ?_
          exact qF (qA [0, 1, 2, 3, 4, 5, 6, 10, 11, 12, 13, 14, 15, 16, 17])
         ·refine qX ?_
          refine qB (fun k8 => ?_) fun k8 => ?_
          ·rw [hr8 hh k8]
           refine qX ?_
           refine qK (impl_HearAddr e x hs) (qA [0, 1, 2, 3, 4, 5, 6]) ?_
           exact qF (qA [0, 1, 2, 3, 4, 5, 6, 10, 11, 12, 13, 14, 15, 16, 17])
          ·refine qX ?_
           refine qB (fun k9 => ?_) fun k9 => ?_
           ·rw [hr9 hh k9]
            refine qX ?_
            refine qK (impl_HearEcho e x hs) (qA [0, 1, 2, 3, 4, 5, 6]) ?_
            exact qF (qA [0, 1, 2, 3, 4, 5, 6, 10, 11, 12, 13, 14, 15, 16, 17])
           ·refine qX ?_
            refine qB (fun k10 => ?_) fun k10 => ?_
            ·rw [hr10 hh k10]
             refine qX ?_
             refine qK (impl_HearGone e x hs) (qA [0, 1, 2, 3, 4, 5, 6]) ?_
             exact qF (qA [0, 1, 2, 3, 4, 5, 6, 10, 11, 12, 13, 14, 15, 16, 17])
            ·refine qX ?_
             refine qB (fun k11 => ?_) fun k11 => ?_
             ·rw [hr11 hh k11]
              refine qX ?_
              refine qK (impl_HearData e x hs hsp) (qA [0, 1, 2, 3, 4, 5, 6]) ?_
              exact qF (qA [0, 1, 2, 3, 4, 5, 6, 10, 11, 12, 13, 14, 15, 16, 17])
             ·refine qX ?_
              refine qB (fun k12 => ?_) fun k12 => ?_
              ·rw [hr12 hh k12]
               refine qX ?_
               refine qK (impl_HearCame e x hs) (qA [0, 1, 2, 3, 4, 5, 6]) ?_
               exact qF (qA [0, 1, 2, 3, 4, 5, 6, 10, 11, 12, 13, 14, 15, 16, 17])
              ·refine qX ?_
               refine qB (fun k13 => ?_) fun k13 => ?_
               ·rw [hr13 hh k13]
                refine qX ?_
                refine qK (impl_HearReset e x hs) (qA [0, 1, 2, 3, 4, 5, 6]) ?_
                exact qF (qA [0, 1, 2, 3, 4, 5, 6, 10, 11, 12, 13, 14, 15, 16, 17])
               ·refine qX ?_
                rw [hno (by intro k hk; omega)]
                refine qX ?_
                refine qK (hC) (qA [0, 1, 2, 3, 4, 5, 6]) ?_
                exact qF [some (0, none), some (1, none), some (2, none), some (3, none), some (4, none), some (5, none), some (6, none), some (10, none), some (11, none), some (12, none), some (13, none), some (14, none), some (15, none), some (16, none), none]
  ·rw [hf (by simp [hearOk, h2])]
   refine qX ?_
   refine qK (hC) (qA [0, 1, 2, 3, 4, 5, 6]) ?_
   exact qF [some (0, none), some (1, none), some (2, none), some (3, none), some (4, none), some (5, none), some (6, none), some (10, none), some (11, none), some (12, none), some (13, none), some (14, none), some (15, none), some (16, none), none]
 ·rw [hf (by simp [hearOk, h1])]
  refine qX ?_
  refine qK (hC) (qA [0, 1, 2, 3, 4, 5, 6]) ?_
  exact qF [some (0, none), some (1, none), some (2, none), some (3, none), some (4, none), some (5, none), some (6, none), some (10, none), some (11, none), some (12, none), some (13, none), some (14, none), some (15, none), some (16, none), none]

theorem spec_Hear (e : EndD) (x : LetterD) (hs : Small e) (hsp : SmallP e.inp) : CallA Tryz.prog 44 [.ag (e.cs 0), .ag x.cs] (e.hp false) (.tu [.ag ((hear e x).1.cs 7), .sc (.sl 14 0 (hear e x).2.length)])
  (e.hp false ++ ((hear e x).1.hpS ++ [some ⟨(hear e x).2.map LetterD.cs, 19, 70, true, true⟩])) := by
 have hC := spec_l17Copy e (by have := hs.own; omega) (by have := hs.far; omega) (by have := hs.subs; omega) (by have := hs.halfs; omega) (by have := hs.list; omega) (by have := hs.done; omega) (by have := hs.over; omega)
 have hK := spec_EndOk e (by have := hs.own; omega) (by have := hs.far; omega) (by have := hs.subs; omega) (by have := hs.halfs; omega) (by have := hs.list; omega) (by have := hs.done; omega) (by have := hs.over; omega)
 have hL := spec_LetterOk x
 have hO := spec_OwnsAddr e x.to (by have := hs.own; omega)
 have hf := hear_f (e := e) (x := x)
 have hno := hear_n (e := e) (x := x)
 have hr1 := hear_1 (e := e) (x := x)
 have hr2 := hear_2 (e := e) (x := x)
 have hr4 := hear_4 (e := e) (x := x)
 have hr5 := hear_5 (e := e) (x := x)
 have hr6 := hear_6 (e := e) (x := x)
 have hr7 := hear_7 (e := e) (x := x)
 have hr8 := hear_8 (e := e) (x := x)
 have hr9 := hear_9 (e := e) (x := x)
 have hr10 := hear_10 (e := e) (x := x)
 have hr11 := hear_11 (e := e) (x := x)
 have hr12 := hear_12 (e := e) (x := x)
 have hr13 := hear_13 (e := e) (x := x)
 generalize hear e x = R at *
 refine qE Tryz.func44 Tryz.ntmps44 Tryz.results44 fun E hE => ?_
 refine qK (hK) (qA [0, 1, 2, 3, 4, 5, 6]) ?_
 refine qB (fun h1 => ?_) fun h1 => ?_
 ·refine qK (hL) [] ?_
  refine qB (fun h2 => ?_) fun h2 => ?_
  ·refine qK (hO) (qA [0, 1, 2, 3, 4, 5, 6]) ?_
   refine qB (fun h3 => ?_) fun h3 => ?_
   ·rw [hf (by simp [hearOk, h1, h2, h3])]
    refine qX ?_
    refine qK (hC) (qA [0, 1, 2, 3, 4, 5, 6]) ?_
    exact qF (qA [0, 1, 2, 3, 4, 5, 6, 10, 11, 12, 13, 14, 15, 16, 17])
   ·have hh : hearOk e x = true := by simp [hearOk, h1, h2, h3]
    refine qX ?_
    refine qB (fun k1 => ?_) fun k1 => ?_
    ·rw [hr1 hh k1]
     refine qX ?_
     refine qK (spec_HearHello e x hs) (qA [0, 1, 2, 3, 4, 5, 6]) ?_
     exact qF (qA [0, 1, 2, 3, 4, 5, 6, 10, 11, 12, 13, 14, 15, 16, 17])
    ·refine qX ?_
     refine qB (fun k2 => ?_) fun k2 => ?_
     ·rw [hr2 hh k2]
      refine qX ?_
      refine qK (spec_HearBack e x hs) (qA [0, 1, 2, 3, 4, 5, 6]) ?_
      exact qF (qA [0, 1, 2, 3, 4, 5, 6, 10, 11, 12, 13, 14, 15, 16, 17])
     ·refine qX ?_
      refine qB (fun k4 => ?_) fun k4 => ?_
      ·rw [hr4 hh k4]
       refine qX ?_
       refine qK (spec_HearJoin e x hs) (qA [0, 1, 2, 3, 4, 5, 6]) ?_
       exact qF (qA [0, 1, 2, 3, 4, 5, 6, 10, 11, 12, 13, 14, 15, 16, 17])
      ·refine qX ?_
       refine qB (fun k5 => ?_) fun k5 => ?_
       ·rw [hr5 hh k5]
        refine qX ?_
        refine qK (spec_HearJoinBack e x hs) (qA [0, 1, 2, 3, 4, 5, 6]) ?_
        exact qF (qA [0, 1, 2, 3, 4, 5, 6, 10, 11, 12, 13, 14, 15, 16, 17])
       ·refine qX ?_
        refine qB (fun k6 => ?_) fun k6 => ?_
        ·rw [hr6 hh k6]
         refine qX ?_
         refine qK (spec_HearJoinDone e x hs) (qA [0, 1, 2, 3, 4, 5, 6]) ?_
         exact qF (qA [0, 1, 2, 3, 4, 5, 6, 10, 11, 12, 13, 14, 15, 16, 17])
        ·refine qX ?_
         refine qB (fun k7 => ?_) fun k7 => ?_
         ·rw [hr7 hh k7]
          refine qX ?_
          refine qK (spec_HearJoinAck e x hs) (qA [0, 1, 2, 3, 4, 5, 6]) ?_
          exact qF (qA [0, 1, 2, 3, 4, 5, 6, 10, 11, 12, 13, 14, 15, 16, 17])
         ·refine qX ?_
          refine qB (fun k8 => ?_) fun k8 => ?_
          ·rw [hr8 hh k8]
           refine qX ?_
           refine qK (spec_HearAddr e x hs) (qA [0, 1, 2, 3, 4, 5, 6]) ?_
           exact qF (qA [0, 1, 2, 3, 4, 5, 6, 10, 11, 12, 13, 14, 15, 16, 17])
          ·refine qX ?_
           refine qB (fun k9 => ?_) fun k9 => ?_
           ·rw [hr9 hh k9]
            refine qX ?_
            refine qK (spec_HearEcho e x hs) (qA [0, 1, 2, 3, 4, 5, 6]) ?_
            exact qF (qA [0, 1, 2, 3, 4, 5, 6, 10, 11, 12, 13, 14, 15, 16, 17])
           ·refine qX ?_
            refine qB (fun k10 => ?_) fun k10 => ?_
            ·rw [hr10 hh k10]
             refine qX ?_
             refine qK (spec_HearGone e x hs) (qA [0, 1, 2, 3, 4, 5, 6]) ?_
             exact qF (qA [0, 1, 2, 3, 4, 5, 6, 10, 11, 12, 13, 14, 15, 16, 17])
            ·refine qX ?_
             refine qB (fun k11 => ?_) fun k11 => ?_
             ·rw [hr11 hh k11]
              refine qX ?_
              refine qK (spec_HearData e x hs hsp) (qA [0, 1, 2, 3, 4, 5, 6]) ?_
              exact qF (qA [0, 1, 2, 3, 4, 5, 6, 10, 11, 12, 13, 14, 15, 16, 17])
             ·refine qX ?_
              refine qB (fun k12 => ?_) fun k12 => ?_
              ·rw [hr12 hh k12]
               refine qX ?_
               refine qK (spec_HearCame e x hs) (qA [0, 1, 2, 3, 4, 5, 6]) ?_
               exact qF (qA [0, 1, 2, 3, 4, 5, 6, 10, 11, 12, 13, 14, 15, 16, 17])
              ·refine qX ?_
               refine qB (fun k13 => ?_) fun k13 => ?_
               ·rw [hr13 hh k13]
                refine qX ?_
                refine qK (spec_HearReset e x hs) (qA [0, 1, 2, 3, 4, 5, 6]) ?_
                exact qF (qA [0, 1, 2, 3, 4, 5, 6, 10, 11, 12, 13, 14, 15, 16, 17])
               ·refine qX ?_
                rw [hno (by intro k hk; omega)]
                refine qX ?_
                refine qK (hC) (qA [0, 1, 2, 3, 4, 5, 6]) ?_
                exact qF (qA [0, 1, 2, 3, 4, 5, 6, 10, 11, 12, 13, 14, 15, 16, 17])
  ·rw [hf (by simp [hearOk, h2])]
   refine qX ?_
   refine qK (hC) (qA [0, 1, 2, 3, 4, 5, 6]) ?_
   exact qF (qA [0, 1, 2, 3, 4, 5, 6, 10, 11, 12, 13, 14, 15, 16, 17])
 ·rw [hf (by simp [hearOk, h1])]
  refine qX ?_
  refine qK (hC) (qA [0, 1, 2, 3, 4, 5, 6]) ?_
  exact qF (qA [0, 1, 2, 3, 4, 5, 6, 10, 11, 12, 13, 14, 15, 16, 17])

end
section
open Go.RowKit

theorem impl_CanMake (k : KnownD) (t : TagD) (h0 : k.keys.length ≤ 1048576) (h1 : k.tags.length ≤ 1048576) : CallA Tryz.prog 265 [.ag (k.cs 0), .ag t.cs] (k.hp false) (.sc (.bo (canMake k t))) (k.hp false) := by
 obtain ⟨R, hR⟩ : ∃ R, R = canMake k t := ⟨_, rfl⟩
 rw [← hR]
 rw [canMake] at hR
 have hcmp := TagD.cmp t tagNone
 simp only [TagD.cs, tagNone, go_sem] at hcmp
 have ht : tagNone = ⟨0, 0, 0, 0, 0⟩ := rfl
 refine qE Tryz.func265 Tryz.ntmps265 Tryz.results265 fun E hE => ?_
 try simp (disch := omega) only [go_sem, Nat.reduceEqDiff, Nat.reduceAdd, Nat.reduceSub, Int.reduceAdd, Int.reduceSub, Int.reduceToNat, hcmp]
 refine qB (fun b1 => ?_) fun b1 => ?_
 ·have b1' := of_decide_eq_false b1
  refine qK (impl_hasInt k.keys t.one h0) (qA [0]) ?_
  refine qB (fun b2 => ?_) fun b2 => ?_
  ·refine qK (impl_hasInt k.keys t.two h0) (qA [0]) ?_
   refine qB (fun b3 => ?_) fun b3 => ?_
   ·have hR' : R = true := by rw [hR]; simp [b2, b3]
    subst hR'
    refine qX ?_
    exact qF (qA [0, 1])
   ·have hR' : R = (k.tags.take 300).any (fun u => decide (u = t)) := by rw [hR, ht]; simp [b1', b2, b3]
    refine qX ?_
    refine den_lp 2 hE (fun s (i : Nat) => s.at [0, 1, 4, 6, 7, 8, 9, 10, 11, 12, 13, 14, 15, 16, 17, 18, 19, 20, 21, 22, 23, 24, 25, 26, 27, 28, 29, 30, 31, 32, 33, 34, 35, 36, 37, 38, 39, 40] [(5, .sc (.int .i64 (i : Nat)))] (s.hp)) (fun (i : Nat) => i ≤ k.tags.length ∧ i ≤ 300 ∧ ((k.tags.take 300).drop i).any (fun u => decide (u = t)) = R) (fun (i : Nat) => k.tags.length - i) 0 (qA [0, 1, 2, 3]) (qC) (⟨Nat.zero_le _, Nat.zero_le _, by rw [hR']; rfl⟩) (weak_mk (by rfl) (by rfl) ?_) fun i hi N hN => ?_
    ·exact qY
    ·obtain ⟨hi1, hi2, hi3⟩ := hi
     refine qR ?_
     refine qB (fun h => ?_) fun h => ?_
     ·refine qB (fun h2 => ?_) fun h2 => ?_
      ·rw [any_step (by simp; omega), List.getElem_take] at hi3
       have hcm := TagD.cmp k.tags[i] t
       simp only [TagD.cs, go_sem] at hcm
       refine qX ?_
       refine qD [0, 1, 2, 3, 4, 5, 6] ?_
       refine ⟨qC, run_den 400 ?_⟩
       try simp (disch := omega) only [go_sem, Nat.reduceEqDiff, Nat.reduceAdd, Nat.reduceSub, Int.reduceAdd, Int.reduceSub, Int.reduceToNat, hcm]
       refine qB (fun h3 => ?_) fun h3 => ?_
       ·rw [decide_eq_true h3, Bool.true_or] at hi3
        subst hi3
        refine qX ?_
        exact qF (qA [0, 1])
       ·rw [decide_eq_false h3, Bool.false_or] at hi3
        exact qN hN (i + 1) (qA [0, 1, 2, 3]) (by (try dsimp only); exact ⟨by omega, by omega, hi3⟩)
      ·rw [any_end (by simp; omega)] at hi3
       subst hi3
       refine qX ?_
       exact qF (qA [0, 1])
     ·rw [any_end (by simp; omega)] at hi3
      subst hi3
      refine qX ?_
      exact qF (qA [0, 1])
  ·have hR' : R = (k.tags.take 300).any (fun u => decide (u = t)) := by rw [hR, ht]; simp [b1', b2]
   refine qX ?_
   refine den_lp 2 hE (fun s (i : Nat) => s.at [0, 1, 4, 6, 7, 8, 9, 10, 11, 12, 13, 14, 15, 16, 17, 18, 19, 20, 21, 22, 23, 24, 25, 26, 27, 28, 29, 30, 31, 32, 33, 34, 35, 36, 37, 38, 39, 40] [(5, .sc (.int .i64 (i : Nat)))] (s.hp)) (fun (i : Nat) => i ≤ k.tags.length ∧ i ≤ 300 ∧ ((k.tags.take 300).drop i).any (fun u => decide (u = t)) = R) (fun (i : Nat) => k.tags.length - i) 0 (qA [0, 1, 2, 3]) (qC) (⟨Nat.zero_le _, Nat.zero_le _, by rw [hR']; rfl⟩) (weak_mk (by rfl) (by rfl) ?_) fun i hi N hN => ?_
   ·exact qY
   ·obtain ⟨hi1, hi2, hi3⟩ := hi
    refine qR ?_
    refine qB (fun h => ?_) fun h => ?_
    ·refine qB (fun h2 => ?_) fun h2 => ?_
     ·rw [any_step (by simp; omega), List.getElem_take] at hi3
      have hcm := TagD.cmp k.tags[i] t
      simp only [TagD.cs, go_sem] at hcm
      refine qX ?_
      refine qD [0, 1, 2, 3, 4, 5, 6] ?_
      refine ⟨qC, run_den 400 ?_⟩
      try simp (disch := omega) only [go_sem, Nat.reduceEqDiff, Nat.reduceAdd, Nat.reduceSub, Int.reduceAdd, Int.reduceSub, Int.reduceToNat, hcm]
      refine qB (fun h3 => ?_) fun h3 => ?_
      ·rw [decide_eq_true h3, Bool.true_or] at hi3
       subst hi3
       refine qX ?_
       exact qF (qA [0, 1])
      ·rw [decide_eq_false h3, Bool.false_or] at hi3
       exact qN hN (i + 1) (qA [0, 1, 2, 3]) (by (try dsimp only); exact ⟨by omega, by omega, hi3⟩)
     ·rw [any_end (by simp; omega)] at hi3
      subst hi3
      refine qX ?_
      exact qF (qA [0, 1])
    ·rw [any_end (by simp; omega)] at hi3
     subst hi3
     refine qX ?_
     exact qF (qA [0, 1])
 ·have b1' := of_decide_eq_true b1
  have hR' : R = true := by rw [hR, ht]; simp [b1']
  subst hR'
  refine qX ?_
  exact qF (qA [0, 1])

theorem spec_CanMake (k : KnownD) (t : TagD) (h0 : k.keys.length ≤ 1048576) (h1 : k.tags.length ≤ 1048576) : CallA Tryz.prog 179 [.ag (k.cs 0), .ag t.cs] (k.hp false) (.sc (.bo (canMake k t))) (k.hp false) := by
 obtain ⟨R, hR⟩ : ∃ R, R = canMake k t := ⟨_, rfl⟩
 rw [← hR]
 rw [canMake] at hR
 have hcmp := TagD.cmp t tagNone
 simp only [TagD.cs, tagNone, go_sem] at hcmp
 have ht : tagNone = ⟨0, 0, 0, 0, 0⟩ := rfl
 refine qE Tryz.func179 Tryz.ntmps179 Tryz.results179 fun E hE => ?_
 try simp (disch := omega) only [go_sem, Nat.reduceEqDiff, Nat.reduceAdd, Nat.reduceSub, Int.reduceAdd, Int.reduceSub, Int.reduceToNat, hcmp]
 refine qB (fun b1 => ?_) fun b1 => ?_
 ·have b1' := of_decide_eq_false b1
  refine qK (spec_l15Has k.keys t.one h0) (qA [0]) ?_
  refine qB (fun b2 => ?_) fun b2 => ?_
  ·refine qK (spec_l15Has k.keys t.two h0) (qA [0]) ?_
   refine qB (fun b3 => ?_) fun b3 => ?_
   ·have hR' : R = true := by rw [hR]; simp [b2, b3]
    subst hR'
    refine qX ?_
    exact qF (qA [0, 1])
   ·have hR' : R = (k.tags.take 300).any (fun u => decide (u = t)) := by rw [hR, ht]; simp [b1', b2, b3]
    refine qX ?_
    refine den_lp 2 hE (fun s (i : Nat) => s.at [0, 1, 4, 6, 7, 8, 9, 10, 11, 12, 13, 14, 15, 16, 17, 18, 19, 20, 21, 22, 23, 24, 25, 26, 27, 28, 29, 30, 31, 32, 33, 34, 35, 36, 37, 38, 39, 40] [(5, .sc (.int .i64 (i : Nat)))] (s.hp)) (fun (i : Nat) => i ≤ k.tags.length ∧ i ≤ 300 ∧ ((k.tags.take 300).drop i).any (fun u => decide (u = t)) = R) (fun (i : Nat) => k.tags.length - i) 0 (qA [0, 1, 2, 3]) (qC) (⟨Nat.zero_le _, Nat.zero_le _, by rw [hR']; rfl⟩) (weak_mk (by rfl) (by rfl) ?_) fun i hi N hN => ?_
    ·exact qY
    ·obtain ⟨hi1, hi2, hi3⟩ := hi
     refine qR ?_
     refine qB (fun h => ?_) fun h => ?_
     ·refine qB (fun h2 => ?_) fun h2 => ?_
      ·rw [any_step (by simp; omega), List.getElem_take] at hi3
       have hcm := TagD.cmp k.tags[i] t
       simp only [TagD.cs, go_sem] at hcm
       refine qX ?_
       refine qD [0, 1, 2, 3, 4, 5, 6] ?_
       refine ⟨qC, run_den 400 ?_⟩
       try simp (disch := omega) only [go_sem, Nat.reduceEqDiff, Nat.reduceAdd, Nat.reduceSub, Int.reduceAdd, Int.reduceSub, Int.reduceToNat, hcm]
       refine qB (fun h3 => ?_) fun h3 => ?_
       ·rw [decide_eq_true h3, Bool.true_or] at hi3
        subst hi3
        refine qX ?_
        exact qF (qA [0, 1])
       ·rw [decide_eq_false h3, Bool.false_or] at hi3
        exact qN hN (i + 1) (qA [0, 1, 2, 3]) (by (try dsimp only); exact ⟨by omega, by omega, hi3⟩)
      ·rw [any_end (by simp; omega)] at hi3
       subst hi3
       refine qX ?_
       exact qF (qA [0, 1])
     ·rw [any_end (by simp; omega)] at hi3
      subst hi3
      refine qX ?_
      exact qF (qA [0, 1])
  ·have hR' : R = (k.tags.take 300).any (fun u => decide (u = t)) := by rw [hR, ht]; simp [b1', b2]
   refine qX ?_
   refine den_lp 2 hE (fun s (i : Nat) => s.at [0, 1, 4, 6, 7, 8, 9, 10, 11, 12, 13, 14, 15, 16, 17, 18, 19, 20, 21, 22, 23, 24, 25, 26, 27, 28, 29, 30, 31, 32, 33, 34, 35, 36, 37, 38, 39, 40] [(5, .sc (.int .i64 (i : Nat)))] (s.hp)) (fun (i : Nat) => i ≤ k.tags.length ∧ i ≤ 300 ∧ ((k.tags.take 300).drop i).any (fun u => decide (u = t)) = R) (fun (i : Nat) => k.tags.length - i) 0 (qA [0, 1, 2, 3]) (qC) (⟨Nat.zero_le _, Nat.zero_le _, by rw [hR']; rfl⟩) (weak_mk (by rfl) (by rfl) ?_) fun i hi N hN => ?_
   ·exact qY
   ·obtain ⟨hi1, hi2, hi3⟩ := hi
    refine qR ?_
    refine qB (fun h => ?_) fun h => ?_
    ·refine qB (fun h2 => ?_) fun h2 => ?_
     ·rw [any_step (by simp; omega), List.getElem_take] at hi3
      have hcm := TagD.cmp k.tags[i] t
      simp only [TagD.cs, go_sem] at hcm
      refine qX ?_
      refine qD [0, 1, 2, 3, 4, 5, 6] ?_
      refine ⟨qC, run_den 400 ?_⟩
      try simp (disch := omega) only [go_sem, Nat.reduceEqDiff, Nat.reduceAdd, Nat.reduceSub, Int.reduceAdd, Int.reduceSub, Int.reduceToNat, hcm]
      refine qB (fun h3 => ?_) fun h3 => ?_
      ·rw [decide_eq_true h3, Bool.true_or] at hi3
       subst hi3
       refine qX ?_
       exact qF (qA [0, 1])
      ·rw [decide_eq_false h3, Bool.false_or] at hi3
       exact qN hN (i + 1) (qA [0, 1, 2, 3]) (by (try dsimp only); exact ⟨by omega, by omega, hi3⟩)
     ·rw [any_end (by simp; omega)] at hi3
      subst hi3
      refine qX ?_
      exact qF (qA [0, 1])
    ·rw [any_end (by simp; omega)] at hi3
     subst hi3
     refine qX ?_
     exact qF (qA [0, 1])
 ·have b1' := of_decide_eq_true b1
  have hR' : R = true := by rw [hR, ht]; simp [b1']
  subst hR'
  refine qX ?_
  exact qF (qA [0, 1])

theorem impl_copyLetters (l : List LetterD) (hl : l.length ≤ 1048576) : CallA Tryz.prog 116 [.sc (.sl 0 0 l.length)] [some ⟨l.map LetterD.cs, 19, 70, false, true⟩] (.sc (.sl 1 0 l.length)) [some ⟨l.map LetterD.cs, 19, 70, false, true⟩, some ⟨l.map LetterD.cs, 19, 70, true, true⟩] := by
 refine qE Tryz.func116 Tryz.ntmps116 Tryz.results116 fun E hE => ?_
 exact qF (qA [0, 2])
theorem impl_copyKnown (k : KnownD) (h0 : k.keys.length ≤ 1048576) (h1 : k.tags.length ≤ 1048576) : CallA Tryz.prog 117 [.ag (k.cs 0)] (k.hp false) (.ag (k.cs 2)) (k.hp false ++ k.hp true) := by
 refine qE Tryz.func117 Tryz.ntmps117 Tryz.results117 fun E hE => ?_
 refine den_drawC [(2, 3)] [[0, 1, 4, 5, 2, 3, 6, 7, 8], [0, 1, 4, 5, 3, 2, 6, 7, 8]] (by kernel_rfl) (qC) (by kernel_rfl) ?_
 simp only [allDn]
 refine ⟨runD_den 400 ?_, runD_den 400 ?_⟩
 all_goals simp (disch := omega) only [go_sem, Nat.reduceEqDiff, Nat.reduceAdd, Nat.reduceSub, Int.reduceAdd, Int.reduceSub, Int.reduceToNat]
 ·refine qKD (impl_copyInts k.keys h0) (qA [0]) ?_
  refine qG ?_
  exact qF (qA [0, 1, 4, 6])
 ·refine qKD (impl_copyInts k.keys h0) (qA [0]) ?_
  refine qG ?_
  exact qF (qA [0, 1, 5, 6])
theorem tag_app (l : List TagD) (h : TagD) : l.map TagD.cs ++ [h.cs] = (l ++ [h]).map TagD.cs := by simp
theorem learn_t {k : KnownD} {t : TagD} (h : canMake k t = false) (h2 : k.tags.length < 300) : learn k t = { k with tags := k.tags ++ [t] } := if_pos ⟨h, h2⟩
theorem learn_f1 {k : KnownD} {t : TagD} (h : canMake k t = true) : learn k t = k := if_neg (by simp [h])
theorem learn_f2 {k : KnownD} {t : TagD} (h2 : ¬ k.tags.length < 300) : learn k t = k := if_neg (fun h => h2 h.2)
theorem impl_Learn (k : KnownD) (t : TagD) (h0 : k.keys.length ≤ 1048576) (h1 : k.tags.length ≤ 1048576) : CallA Tryz.prog 135 [.ag (k.cs 0), .ag t.cs] (k.hp false) (.ag ((learn k t).cs 2)) (k.hp false ++ (learn k t).hp true) := by
 have hM := impl_CanMake k t h0 h1
 have ht := learn_t (k := k) (t := t)
 have hf1 := learn_f1 (k := k) (t := t)
 have hf2 := learn_f2 (k := k) (t := t)
 generalize learn k t = R at *
 refine qE Tryz.func135 Tryz.ntmps135 Tryz.results135 fun E hE => ?_
 refine qK (impl_copyKnown k h0 h1) (qA [0, 1]) ?_
 refine qK (hM) (qA [0, 1]) ?_
 refine qB (fun b1 => ?_) fun b1 => ?_
 ·refine qB (fun b2 => ?_) fun b2 => ?_
  ·rw [ht b1 (by omega)]
   have e := tag_app k.tags t
   simp only [TagD.cs] at e
   try simp (disch := omega) only [go_sem, Nat.reduceEqDiff, Nat.reduceAdd, Nat.reduceSub, Int.reduceAdd, Int.reduceSub, Int.reduceToNat, e]
   refine den_fin (qA [0, 1, 5, 9]) (qC) _ (by simp only [go_sem]; rfl) (by rfl) (by rfl) ?_
   simp (disch := omega) only [go_sem, Nat.reduceEqDiff, Nat.reduceAdd, Nat.reduceSub, Int.reduceAdd, Int.reduceSub, Int.reduceToNat]
   try simp
  ·rw [hf2 (by omega)]
   refine qX ?_
   exact qF (qA [0, 1, 5, 6])
 ·rw [hf1 b1]
  refine qX ?_
  exact qF (qA [0, 1, 5, 6])
end
end Go.Proofs.YtkkcfgfkabkjhaaGreat
