/-
  Texts merged for this claim by shake.py: what its proof needs.
-/
import Derived.Tactics
import Derived.Below
import Derived.Laws.AppendOwn
import Derived.Laws.OwnMore
import Derived.Laws.Slices
import Derived.Laws.Small
import Derived.Laws.Strings
import Derived.KernelRfl
import Derived.Laws.MakeOwn
import Derived.Laws.BytesString
import Derived.Laws.BytesArg
import Derived.Laws.Build
import Derived.Laws.Concat
import Derived.Laws.StructEq
import Derived.Lib.ConvBytes
import Derived.Orders
import Derived.WalkKit
import Derived.ProofKit
import Derived.ShutString
import Derived.OpenShut
import Derived.ChangeOld
import Derived.Carry
import Derived.Test.YtfnnpnifiejlpaaDoorChecked
import Derived.Laws.BitsLemmas
import Derived.StillTail
import Derived.Test.YtfnnpnifiejlpaaDoorRows
import Derived.Test.YtfnnpnifiejlpaaDoorCards
import Derived.Test.YtfnnpnifiejlpaaDoorTie
import Derived.ChangeVars
import Derived.LaidMore
import Derived.Lay
import Derived.SevenTiedAt
import Derived.Stop.Joined
import Derived.Test.YtfnnpnifiejlpaaDoorZFnWordsB
set_option maxHeartbeats 16000000
set_option maxRecDepth 100000
set_option linter.unusedVariables false
set_option linter.unusedSimpArgs false
namespace Go.Proofs.YtfnnpnifiejlpaaDoor
section
open Go.RowKit

theorem impl_bit (b : Bool) : CallA Tryd.prog 20 [.sc (.bo b)] [] (.sc (.int .i64 (cond b 1 0))) [] := by
 refine qE Tryd.func20 Tryd.ntmps20 Tryd.results20 fun E hE => ?_
 cases b
 ·refine qX ?_
  refine den_fin [] (trivial) _ (by simp only [go_sem]; rfl) (by rfl) (by rfl) ?_
  simp (disch := omega) only [go_sem, Nat.reduceEqDiff, Nat.reduceAdd, Nat.reduceSub, Int.reduceAdd, Int.reduceSub, Int.reduceToNat]
  rfl
 ·refine qX ?_
  refine den_fin [] (trivial) _ (by simp only [go_sem]; rfl) (by rfl) (by rfl) ?_
  simp (disch := omega) only [go_sem, Nat.reduceEqDiff, Nat.reduceAdd, Nat.reduceSub, Int.reduceAdd, Int.reduceSub, Int.reduceToNat]
  rfl
theorem spec_l28Flag (b : Bool) : CallA Tryd.prog 43 [.sc (.bo b)] [] (.sc (.int .i64 (cond b 1 0))) [] := by
 refine qE Tryd.func43 Tryd.ntmps43 Tryd.results43 fun E hE => ?_
 cases b
 ·refine qX ?_
  refine den_fin [] (trivial) _ (by simp only [go_sem]; rfl) (by rfl) (by rfl) ?_
  simp (disch := omega) only [go_sem, Nat.reduceEqDiff, Nat.reduceAdd, Nat.reduceSub, Int.reduceAdd, Int.reduceSub, Int.reduceToNat]
  rfl
 ·refine qX ?_
  refine den_fin [] (trivial) _ (by simp only [go_sem]; rfl) (by rfl) (by rfl) ?_
  simp (disch := omega) only [go_sem, Nat.reduceEqDiff, Nat.reduceAdd, Nat.reduceSub, Int.reduceAdd, Int.reduceSub, Int.reduceToNat]
  rfl
def figI (n : Int) : Int := if n < 10 then 48 + n else 87 + n
theorem spec_l01Figure (n : Int) (h0 : 0 ≤ n) (h : n < 16) : CallA Tryd.prog 57 [.sc (.int .i64 n)] [] (.sc (.int .u8 (figI n))) [] := by
 refine qE Tryd.func57 Tryd.ntmps57 Tryd.results57 fun E hE => ?_
 refine qB (fun h2 => ?_) fun h2 => ?_
 ·refine qX ?_
  refine den_fin [] (trivial) _ (by simp only [go_sem]; rfl) (by rfl) (by rfl) ?_
  simp (disch := omega) only [go_sem, Nat.reduceEqDiff, Nat.reduceAdd, Nat.reduceSub, Int.reduceAdd, Int.reduceSub, Int.reduceToNat]
  simp [figI, h2]
 ·refine qX ?_
  refine den_fin [] (trivial) _ (by simp only [go_sem]; rfl) (by rfl) (by rfl) ?_
  simp (disch := omega) only [go_sem, Nat.reduceEqDiff, Nat.reduceAdd, Nat.reduceSub, Int.reduceAdd, Int.reduceSub, Int.reduceToNat]
  simp [figI, h2]
  omega
theorem tmod10 (m : Int) : ∃ z, m.tmod 10 = z ∧ z.natAbs = m.natAbs % 10 := ⟨_, rfl, by rw [Int.natAbs_tmod]; rfl⟩
theorem tdiv10 (m : Int) : ∃ z, m.tdiv 10 = z ∧ z.natAbs = m.natAbs / 10 := ⟨_, rfl, by rw [Int.natAbs_tdiv]; rfl⟩
theorem byteC_ofNat {n : Nat} {z : Int} (h : z = n) (hn : n < 256) : byteC (UInt8.ofNat n) = [.int .u8 z] := by
 subst h
 simp [byteC]
 omega
theorem impl_Decimal (n : Int) (hn : I64 n) : CallA Tryd.prog 22 [.sc (.int .i64 n)] [] (.sc (.st (dec n))) [] := by
 refine qE Tryd.func22 Tryd.ntmps22 Tryd.results22 fun E hE => ?_
 refine den_lp 0 hE (fun s (x : Int × List UInt8) => s.at [5, 6, 7, 8, 9, 10, 11, 12, 13, 14, 15, 16, 17, 18, 19, 20, 21, 22, 23] [(0, .sc (.int .i64 x.1)), (3, .sc (.sl 0 0 x.2.length))] ([some ⟨x.2.map byteC, 1, 5, true, true⟩])) (fun (x : Int × List UInt8) => I64 x.1 ∧ decGo x.1.natAbs x.2 = decGo n.natAbs []) (fun (x : Int × List UInt8) => x.1.natAbs) (n, []) [none] (trivial) (⟨hn, rfl⟩) (weak_mk (by rfl) (by rfl) ?_) fun x hx N hN => ?_
 ·exact qY
 ·obtain ⟨m, acc⟩ := x
  obtain ⟨hm, hx⟩ := hx
  dsimp only at hm hx
  obtain ⟨z, hz, hz2⟩ := tmod10 m
  obtain ⟨t, ht, ht2⟩ := tdiv10 m
  have hm' : -9223372036854775808 ≤ m ∧ m ≤ 9223372036854775807 := hm
  have hlen := decGo_lt m.natAbs acc
  rw [hx] at hlen
  have hlen2 := decGo_20 hn
  have hb : ∀ d : Int, d = (m.natAbs % 10 : Nat) → [Sc.int .u8 (48 + d)] = byteC (UInt8.ofNat (48 + m.natAbs % 10)) := fun d hd => (byteC_ofNat (by omega) (by omega)).symm
  refine run_den 400 ?_
  try simp (disch := omega) only [go_sem, Nat.reduceEqDiff, Nat.reduceAdd, Nat.reduceSub, Int.reduceAdd, Int.reduceSub, Int.reduceToNat, hz]
  refine qB (fun h => ?_) fun h => ?_
  all_goals
   try simp (disch := omega) only [go_sem, Nat.reduceEqDiff, Nat.reduceAdd, Nat.reduceSub, Int.reduceAdd, Int.reduceSub, Int.reduceToNat, hz, ht]
   refine qB (fun h2 => ?_) fun h2 => ?_
   ·rw [decGo, dif_pos (by omega)] at hx
    rw [Nat.mod_eq_of_lt (by omega)] at hb
    refine qX ?_
    refine qB (fun h3 => ?_) fun h3 => ?_
    ·refine qX ?_
     refine den_fin [] (by (try simp (disch := omega) only [go_sem, List.length_set, Nat.reduceEqDiff, Nat.reduceAdd, Nat.reduceSub, Int.reduceAdd, Int.reduceSub, Int.reduceToNat, hb]) <;> omega) _ (by simp only [go_sem]; rfl) (by rfl) (by rfl) ?_
     simp (disch := omega) only [go_sem, Nat.reduceEqDiff, Nat.reduceAdd, Nat.reduceSub, Int.reduceAdd, Int.reduceSub, Int.reduceToNat]
     try simp (disch := omega) only [go_sem, Nat.reduceEqDiff, Nat.reduceAdd, Nat.reduceSub, Int.reduceAdd, Int.reduceSub, Int.reduceToNat, hb]
     rw [dec, if_pos h3, ← hx]
    ·refine qX ?_
     refine den_fin [] (by (try simp (disch := omega) only [go_sem, List.length_set, Nat.reduceEqDiff, Nat.reduceAdd, Nat.reduceSub, Int.reduceAdd, Int.reduceSub, Int.reduceToNat, hb]) <;> omega) _ (by simp only [go_sem]; rfl) (by rfl) (by rfl) ?_
     simp (disch := omega) only [go_sem, Nat.reduceEqDiff, Nat.reduceAdd, Nat.reduceSub, Int.reduceAdd, Int.reduceSub, Int.reduceToNat]
     try simp (disch := omega) only [go_sem, Nat.reduceEqDiff, Nat.reduceAdd, Nat.reduceSub, Int.reduceAdd, Int.reduceSub, Int.reduceToNat, hb]
     rw [dec, if_neg h3, ← hx]
   ·rw [decGo, dif_neg (by omega)] at hx
    refine qX ?_
    refine ⟨by omega, hN _ (t, UInt8.ofNat (48 + m.natAbs % 10) :: acc) (qA [2]) (by (try dsimp only); exact ⟨by omega, by rw [ht2]; exact hx⟩) (by (try dsimp only); omega) (weak_mk (by rfl) (by rfl) ?_)⟩
    try simp (disch := omega) only [go_sem, Nat.reduceEqDiff, Nat.reduceAdd, Nat.reduceSub, Int.reduceAdd, Int.reduceSub, Int.reduceToNat, hb]
    omega
end
section
open Go.RowKit

theorem spec_Decimal (n : Int) (hn : I64 n) : CallA Tryd.prog 41 [.sc (.int .i64 n)] [] (.sc (.st (dec n))) [] := by
 refine qE Tryd.func41 Tryd.ntmps41 Tryd.results41 fun E hE => ?_
 refine qB (fun h0 => ?_) fun h0 => ?_
 ·subst h0
  refine qX ?_
  refine den_fin [] (trivial) _ (by simp only [go_sem]; rfl) (by rfl) (by rfl) ?_
  simp (disch := omega) only [go_sem, Nat.reduceEqDiff, Nat.reduceAdd, Nat.reduceSub, Int.reduceAdd, Int.reduceSub, Int.reduceToNat]
  simp [dec, decGo]
 ·refine qX ?_
  refine den_lp 0 hE (fun s (x : Int × List UInt8) => s.at [5, 6, 7, 8, 9, 10, 11, 12, 13, 14, 15, 16, 17, 18, 19, 20, 21, 22, 23, 24, 25] [(0, .sc (.int .i64 x.1)), (4, .sc (.st x.2))] ([])) (fun (x : Int × List UInt8) => I64 x.1 ∧ (if x.1 = 0 then x.2 else decGo x.1.natAbs x.2) = decGo n.natAbs []) (fun (x : Int × List UInt8) => x.1.natAbs) (n, []) [] (trivial) (⟨hn, if_neg h0⟩) (weak_mk (by rfl) (by rfl) ?_) fun x hx N hN => ?_
  ·exact qY
  ·obtain ⟨m, acc⟩ := x
   obtain ⟨hm, hx⟩ := hx
   dsimp only at hm hx
   obtain ⟨z, hz, hz2⟩ := tmod10 m
   obtain ⟨t, ht, ht2⟩ := tdiv10 m
   have hlen2 := decGo_20 hn
   refine qR ?_
   refine qB (fun h1 => ?_) fun h1 => ?_
   ·rw [if_neg h1] at hx
    have hlen := decGo_lt m.natAbs acc
    rw [hx] at hlen
    have hb : ∀ d : Int, d = (m.natAbs % 10 : Nat) → [Sc.int .u8 (figI d)] = byteC (UInt8.ofNat (48 + m.natAbs % 10)) := fun d hd => by
     rw [figI, if_pos (by omega)]
     exact (byteC_ofNat (by omega) (by omega)).symm
    try simp (disch := omega) only [go_sem, Nat.reduceEqDiff, Nat.reduceAdd, Nat.reduceSub, Int.reduceAdd, Int.reduceSub, Int.reduceToNat, hz]
    refine qB (fun h => ?_) fun h => ?_
    all_goals
     refine qX ?_
     refine den_call (qC) (spec_l01Figure _ ?_ ?_) [] qM (by rfl) (run_den 400 ?_)
     ·omega
     ·omega
     simp (disch := omega) only [go_sem, Nat.reduceEqDiff, Nat.reduceAdd, Nat.reduceSub, Int.reduceAdd, Int.reduceSub, Int.reduceToNat]
     try simp (disch := omega) only [go_sem, Nat.reduceEqDiff, Nat.reduceAdd, Nat.reduceSub, Int.reduceAdd, Int.reduceSub, Int.reduceToNat, ht, hb]
     refine ⟨by (try simp (disch := omega) only [go_sem, List.length_set, Nat.reduceEqDiff, Nat.reduceAdd, Nat.reduceSub, Int.reduceAdd, Int.reduceSub, Int.reduceToNat, hb]) <;> omega, hN _ (t, UInt8.ofNat (48 + m.natAbs % 10) :: acc) [] (⟨by omega, ?_⟩) (by (try dsimp only); omega) (weak_mk (by rfl) (by rfl) ?_)⟩
     ·dsimp only
      rw [decGo] at hx
      split
      ·rw [dif_pos (by omega)] at hx
       rw [← hx, Nat.mod_eq_of_lt (by omega)]
      ·rw [dif_neg (by omega)] at hx
       rw [ht2]
       exact hx
     ·try simp (disch := omega) only [go_sem, Nat.reduceEqDiff, Nat.reduceAdd, Nat.reduceSub, Int.reduceAdd, Int.reduceSub, Int.reduceToNat, hb]
   ·rw [if_pos h1] at hx
    have hla : acc.length ≤ 20 := by rw [hx]; exact hlen2
    refine qX ?_
    refine qB (fun h3 => ?_) fun h3 => ?_
    ·refine qX ?_
     refine qJ [] ?_
     rw [dec, if_pos h3, hx]
    ·refine qX ?_
     refine qJ [] ?_
     rw [dec, if_neg h3, hx]
theorem impl_hexValue (b : UInt8) : CallA Tryd.prog 51 [.sc (.int .u8 b.toNat)] [] (.sc (.int .i64 (hexV b))) [] := by
 have hb := b.toNat_lt
 refine qE Tryd.func51 Tryd.ntmps51 Tryd.results51 fun E hE => ?_
 repeat' (split <;> rename_i h <;> (try simp only [beq_true, beq_false, Bool.not_eq_true', Bool.not_eq_false'] at h) <;> simp (disch := omega) only [go_sem, Nat.reduceEqDiff, Nat.reduceAdd, Nat.reduceSub, Int.reduceAdd, Int.reduceSub, Int.reduceToNat, h] <;> (try simp only [decide_eq_true_eq, decide_eq_false_iff_not, beq_iff_eq, beq_eq_false_iff_ne, bne_iff_ne, bne_eq_false_iff_eq, ne_eq, Decidable.not_not, Bool.and_eq_true, Bool.and_eq_false_iff, Bool.or_eq_true, Bool.or_eq_false_iff, Int.ofNat_lt, Int.ofNat_le, Bool.not_eq_eq_eq_not, Bool.not_true, Bool.not_false] at h) <;> try simp (disch := omega) only [go_sem, Nat.reduceEqDiff, Nat.reduceAdd, Nat.reduceSub, Int.reduceAdd, Int.reduceSub, Int.reduceToNat])
 all_goals
  refine qX ?_
  refine den_fin [] (trivial) _ (by simp only [go_sem]; rfl) (by rfl) (by rfl) ?_
  simp (disch := omega) only [go_sem, Nat.reduceEqDiff, Nat.reduceAdd, Nat.reduceSub, Int.reduceAdd, Int.reduceSub, Int.reduceToNat]
  simp only [hexV]
  (repeat' split) <;> omega
theorem impl_Hex (l : List UInt8) : CallA Tryd.prog 23 [.sc (.st l)] [] (.tu [.sc (.st (hexR l)), .sc (.bo (decide (l.length ≤ 20000)))]) [] := by
 refine qE Tryd.func23 Tryd.ntmps23 Tryd.results23 fun E hE => ?_
 refine qB (fun h1 => ?_) fun h1 => ?_
 ·refine den_fin [] (trivial) _ (by simp only [go_sem]; rfl) (by rfl) (by rfl) ?_
  simp (disch := omega) only [go_sem, Nat.reduceEqDiff, Nat.reduceAdd, Nat.reduceSub, Int.reduceAdd, Int.reduceSub, Int.reduceToNat]
  simp [hexR]
  omega
 ·refine den_lp 0 hE (fun s (k : Nat) => s.at [6, 7, 8, 9, 10, 11, 12, 13, 14, 15, 16, 17, 18, 19, 20, 21, 22, 23, 24, 25, 26, 27] [(5, .sc (.int .i64 (k : Nat))), (4, .sc (.sl 0 0 (hexL (l.take k)).length))] ([some ⟨(hexL (l.take k)).map byteC, 1, 5, true, true⟩])) (fun (k : Nat) => k ≤ l.length) (fun (k : Nat) => l.length - k) 0 [none] (trivial) (Nat.zero_le _) (weak_mk (by rfl) (by rfl) ?_) fun k hk N hN => ?_
  ·refine qX ?_
   exact ⟨rfl, rfl⟩
  ·refine qR ?_
   refine qB (fun h => ?_) fun h => ?_
   ·have hb := l[k].toNat_lt
    have hlen := hexL_length (l.take k)
    rw [List.length_take, Nat.min_eq_left hk] at hlen
    refine den_draw1 [0, 1, 2, 3, 4, 5, 6, 7, 8, 9, 10, 11, 12, 13] (by kernel_rfl) (trivial) (by kernel_rfl) (runD_den 400 ?_)
    simp (disch := omega) only [go_sem, Nat.reduceEqDiff, Nat.reduceAdd, Nat.reduceSub, Int.reduceAdd, Int.reduceSub, Int.reduceToNat]
    try simp (disch := omega) only [go_sem, Nat.reduceEqDiff, Nat.reduceAdd, Nat.reduceSub, Int.reduceAdd, Int.reduceSub, Int.reduceToNat, shr4, and15, figB_at, figB_get]
    refine qG ?_
    refine ⟨trivial, hN _ (k + 1) (qA [2]) (by (try dsimp only); exact by omega) (by (try dsimp only); omega) (weak_mk (by rfl) (by rfl) ?_)⟩
    try simp (disch := omega) only [go_sem, Nat.reduceEqDiff, Nat.reduceAdd, Nat.reduceSub, Int.reduceAdd, Int.reduceSub, Int.reduceToNat, hexL_take h]
    simp [byteC]
   ·refine qJ [] ?_
    rw [List.take_of_length_le (by omega)]
    simp [hexR]
    omega
end
section
open Go.RowKit

theorem figI_figB {n : Nat} (h : n < 16) : figI n = ((figB n).toNat : Int) := by
 have : ∀ m : Fin 16, figI m.1 = ((figB m.1).toNat : Int) := by decide
 exact this ⟨n, h⟩
theorem tdiv16 (b : UInt8) : (b.toNat : Int).tdiv 16 = ((b.toNat / 16 : Nat) : Int) := by
 rw [Int.tdiv_eq_ediv_of_nonneg (by omega)]; omega
theorem tmod16 (b : UInt8) : (b.toNat : Int).tmod 16 = ((b.toNat % 16 : Nat) : Int) := by
 rw [Int.tmod_eq_emod_of_nonneg (by omega)]; omega
theorem spec_Hex (l : List UInt8) : CallA Tryd.prog 42 [.sc (.st l)] [] (.tu [.sc (.st (hexR l)), .sc (.bo (decide (l.length ≤ 20000)))]) [] := by
 refine qE Tryd.func42 Tryd.ntmps42 Tryd.results42 fun E hE => ?_
 refine qB (fun h1 => ?_) fun h1 => ?_
 ·refine den_fin [] (trivial) _ (by simp only [go_sem]; rfl) (by rfl) (by rfl) ?_
  simp (disch := omega) only [go_sem, Nat.reduceEqDiff, Nat.reduceAdd, Nat.reduceSub, Int.reduceAdd, Int.reduceSub, Int.reduceToNat]
  simp [hexR]
  omega
 ·refine den_lp 0 hE (fun s (k : Nat) => s.at [6, 7, 8, 9, 10, 11, 12, 13, 14, 15, 16, 17, 18, 19, 20, 21, 22, 23, 24, 25, 26, 27, 28, 29, 30] [(5, .sc (.int .i64 (k : Nat))), (4, .sc (.sl 0 0 (hexL (l.take k)).length))] ([some ⟨(hexL (l.take k)).map byteC, 1, 5, true, true⟩])) (fun (k : Nat) => k ≤ l.length) (fun (k : Nat) => l.length - k) 0 (qA [0]) (trivial) (Nat.zero_le _) (weak_mk (by rfl) (by rfl) ?_) fun k hk N hN => ?_
  ·refine qX ?_
   exact ⟨rfl, rfl⟩
  ·refine qR ?_
   refine qB (fun h => ?_) fun h => ?_
   ·have hb := l[k].toNat_lt
    have hlen := hexL_length (l.take k)
    rw [List.length_take, Nat.min_eq_left hk] at hlen
    refine den_draw1 [0, 1, 2, 3, 4, 5, 7, 8, 9, 10, 11, 6, 12, 13, 14, 15] (by kernel_rfl) (trivial) (by kernel_rfl) (runD_den 400 ?_)
    simp (disch := omega) only [go_sem, Nat.reduceEqDiff, Nat.reduceAdd, Nat.reduceSub, Int.reduceAdd, Int.reduceSub, Int.reduceToNat]
    try simp (disch := omega) only [go_sem, Nat.reduceEqDiff, Nat.reduceAdd, Nat.reduceSub, Int.reduceAdd, Int.reduceSub, Int.reduceToNat, getD_at' _ h, tdiv16, tmod16]
    refine den_callD (qC) (spec_l01Figure _ ?_ ?_) [] qM (by rfl) (by rfl) (runD_den 400 ?_)
    ·omega
    ·omega
    simp (disch := omega) only [go_sem, Nat.reduceEqDiff, Nat.reduceAdd, Nat.reduceSub, Int.reduceAdd, Int.reduceSub, Int.reduceToNat]
    refine den_callD (trivial) (spec_l01Figure _ ?_ ?_) [] qM (by rfl) (by rfl) (runD_den 400 ?_)
    ·omega
    ·omega
    simp (disch := omega) only [go_sem, Nat.reduceEqDiff, Nat.reduceAdd, Nat.reduceSub, Int.reduceAdd, Int.reduceSub, Int.reduceToNat]
    refine qG ?_
    refine ⟨trivial, hN _ (k + 1) (qA [2]) (by (try dsimp only); exact by omega) (by (try dsimp only); omega) (weak_mk (by rfl) (by rfl) ?_)⟩
    try simp (disch := omega) only [go_sem, Nat.reduceEqDiff, Nat.reduceAdd, Nat.reduceSub, Int.reduceAdd, Int.reduceSub, Int.reduceToNat, hexL_take h, figI_figB]
    simp [byteC]
   ·refine qJ [] ?_
    rw [List.take_of_length_le (by omega)]
    simp [hexR]
    omega
theorem hexV_le (b : UInt8) : hexV b ≤ 15 := by
 unfold hexV
 (repeat' split) <;> omega
theorem hexV_ge (b : UInt8) : -1 ≤ hexV b := by
 unfold hexV
 (repeat' split) <;> omega
theorem unhexGo_step {l acc : List UInt8} {k : Nat} (h : k + 1 < l.length) : unhexGo acc (l.drop k) = if hexV l[k] < 0 ∨ hexV l[k + 1] < 0 then none else unhexGo (acc ++ [UInt8.ofNat (16 * hexV l[k] + hexV l[k + 1]).toNat]) (l.drop (k + 2)) := by
 rw [List.drop_eq_getElem_cons (by omega), List.drop_eq_getElem_cons (i := k + 1) (by omega), unhexGo]
theorem unhexGo_end {acc : List UInt8} : unhexGo acc [] = some acc := by rw [unhexGo]; simp
theorem byteC_int {z : Int} (h0 : 0 ≤ z) (h : z < 256) : byteC (UInt8.ofNat z.toNat) = [.int .u8 z] := by
 rw [byteC_ofNat (z := z) (n := z.toNat) (by omega) (by omega)]
theorem impl_Unhex (l : List UInt8) (hln : l.length ≤ 1073741824) : CallA Tryd.prog 26 [.sc (.st l)] [] (.tu [.sc (.st (unhex l).1), .sc (.bo (unhex l).2)]) [] := by
 refine qE Tryd.func26 Tryd.ntmps26 Tryd.results26 fun E hE => ?_
 refine qB (fun h1 => ?_) fun h1 => ?_
 ·refine qX ?_
  refine qB (fun h2 => ?_) fun h2 => ?_
  ·have hc : l.length % 2 ≠ 0 ∨ l.length / 2 > 20000 := by omega
   refine qJ [] ?_
   rw [unhex, if_pos hc]
   exact ⟨rfl, rfl⟩
  ·have hu : unhex l = unhexR (unhexGo [] l) := by rw [unhex, if_neg (by omega)]
   refine den_lp 0 hE (fun s (x : Nat × List UInt8) => s.at [2, 3, 6, 7, 8, 9, 10, 11, 12, 13, 14, 15, 16, 17, 18, 19, 20, 21, 22, 23, 24, 25, 26, 27, 28, 29, 30, 31, 32, 33, 34, 35, 36, 37, 38, 39, 40, 41, 42, 43, 44, 45, 46] [(5, .sc (.int .i64 (x.1 : Nat))), (4, .sc (.sl 0 0 x.2.length))] ([some ⟨x.2.map byteC, 1, 5, true, true⟩])) (fun (x : Nat × List UInt8) => x.1 ≤ l.length ∧ x.1 % 2 = 0 ∧ 2 * x.2.length = x.1 ∧ unhexGo x.2 (l.drop x.1) = unhexGo [] l) (fun (x : Nat × List UInt8) => l.length - x.1) (0, []) [none] (qC) (⟨Nat.zero_le _, rfl, rfl, rfl⟩) (weak_mk (by rfl) (by rfl) ?_) fun x hx N hN => ?_
   ·exact qY
   ·obtain ⟨k, acc⟩ := x
    obtain ⟨hk, hk2, hl, hx⟩ := hx
    dsimp only at hk hk2 hl hx
    refine qR ?_
    refine qB (fun h => ?_) fun h => ?_
    ·have h' : k + 1 < l.length := by omega
     have ha := hexV_le l[k]
     have hb := hexV_le l[k + 1]
     have ha2 := hexV_ge l[k]
     have hb2 := hexV_ge l[k + 1]
     rw [unhexGo_step h'] at hx
     refine den_draw1 [0, 1, 2, 4, 5, 6, 7, 3, 8, 9, 10] (by kernel_rfl) (trivial) (by kernel_rfl) (runD_den 400 ?_)
     simp (disch := omega) only [go_sem, Nat.reduceEqDiff, Nat.reduceAdd, Nat.reduceSub, Int.reduceAdd, Int.reduceSub, Int.reduceToNat]
     try simp (disch := omega) only [go_sem, Nat.reduceEqDiff, Nat.reduceAdd, Nat.reduceSub, Int.reduceAdd, Int.reduceSub, Int.reduceToNat, getD_at' _ h, getD_at' _ h']
     refine qKD (impl_hexValue _) [] ?_
     refine qKD (impl_hexValue _) [] ?_
     refine qG ?_
     refine qB (fun h3 => ?_) fun h3 => ?_
     ·refine qB (fun h4 => ?_) fun h4 => ?_
      ·rw [if_pos (.inr h4)] at hx
       refine qJ [] ?_
       rw [hu, ← hx]
       exact ⟨rfl, rfl⟩
      ·rw [if_neg (by omega)] at hx
       refine qX ?_
       refine ⟨qC, hN _ (k + 2, acc ++ [UInt8.ofNat (16 * hexV l[k] + hexV l[k + 1]).toNat]) (qA [2]) (by (try dsimp only); exact ⟨by omega, by omega, by simp; omega, hx⟩) (by (try dsimp only); omega) (weak_mk (by rfl) (by rfl) ?_)⟩
       have hbc := byteC_int (z := 16 * hexV l[k] + hexV l[k + 1]) (by omega) (by omega)
       refine qX ?_
       simp [hbc]
     ·rw [if_pos (.inl h3)] at hx
      refine qJ [] ?_
      rw [hu, ← hx]
      exact ⟨rfl, rfl⟩
    ·refine qJ [] ?_
     rw [List.drop_eq_nil_of_le (by omega), unhexGo_end] at hx
     rw [hu, ← hx]
     exact ⟨rfl, rfl⟩
 ·have hc : l.length % 2 ≠ 0 ∨ l.length / 2 > 20000 := by omega
  refine qJ [] ?_
  rw [unhex, if_pos hc]
  exact ⟨rfl, rfl⟩
theorem rdGo_step {l : List UInt8} {k : Nat} {a : Int} (h : k < l.length) : rdGo a (l.drop k) = if l[k].toNat < 48 ∨ 57 < l[k].toNat then none else rdGo (10 * a + l[k].toNat - 48) (l.drop (k + 1)) := by
 rw [List.drop_eq_getElem_cons h, rdGo]
theorem pow10_le {a : Int} {k : Nat} (h : a < 10 ^ k) (hk : k ≤ 10) : a < 10000000000 := by
 have : (10 : Nat) ^ k ≤ 10 ^ 10 := Nat.pow_le_pow_right (by omega) hk
 have h2 : ((10 ^ k : Nat) : Int) ≤ ((10 ^ 10 : Nat) : Int) := by exact_mod_cast this
 rw [Int.natCast_pow] at h2
 have h3 : (10 : Int) ^ k ≤ 10000000000 := h2
 omega
theorem impl_ReadDecimal (l : List UInt8) : CallA Tryd.prog 25 [.sc (.st l)] [] (.tu [.sc (.int .i64 (readDec l).1), .sc (.bo (readDec l).2)]) [] := by
 refine qE Tryd.func25 Tryd.ntmps25 Tryd.results25 fun E hE => ?_
 refine qB (fun h0 => ?_) fun h0 => ?_
 ·refine qB (fun h1 => ?_) fun h1 => ?_
  ·refine qJ [] ?_
   rw [readDec, if_pos (by omega)]
   exact ⟨rfl, rfl⟩
  ·have hu : readDec l = readR l (rdGo 0 l) := by rw [readDec, if_neg (by omega)]
   refine den_lp 0 hE (fun s (x : Nat × Int) => s.at [2, 3, 6, 7, 8, 9, 10, 11, 12, 13, 14, 15, 16, 17, 18, 19, 20, 21, 22, 23, 24, 25, 26, 27, 28, 29, 30, 31, 32, 33, 34, 35, 36] [(5, .sc (.int .i64 (x.1 : Nat))), (4, .sc (.int .i64 x.2))] ([])) (fun (x : Nat × Int) => x.1 ≤ l.length ∧ 0 ≤ x.2 ∧ x.2 < 10 ^ x.1 ∧ rdGo x.2 (l.drop x.1) = rdGo 0 l) (fun (x : Nat × Int) => l.length - x.1) (0, 0) [] (qC) (⟨Nat.zero_le _, by omega, by simp, rfl⟩) (weak_mk (by rfl) (by rfl) ?_) fun x hx N hN => ?_
   ·exact qY
   ·obtain ⟨k, a⟩ := x
    obtain ⟨hk, ha, ha2, hx⟩ := hx
    dsimp only at hk ha ha2 hx
    have ha3 := pow10_le ha2 (by omega)
    refine qR ?_
    refine qB (fun h => ?_) fun h => ?_
    ·rw [rdGo_step h] at hx
     have hb := l[k].toNat_lt
     try simp (disch := omega) only [go_sem, Nat.reduceEqDiff, Nat.reduceAdd, Nat.reduceSub, Int.reduceAdd, Int.reduceSub, Int.reduceToNat, getD_at' _ h]
     refine qB (fun h3 => ?_) fun h3 => ?_
     ·try simp (disch := omega) only [go_sem, Nat.reduceEqDiff, Nat.reduceAdd, Nat.reduceSub, Int.reduceAdd, Int.reduceSub, Int.reduceToNat, getD_at' _ h]
      refine qB (fun h4 => ?_) fun h4 => ?_
      ·rw [if_pos (by omega)] at hx
       refine qJ [] ?_
       rw [hu, ← hx]
       exact ⟨rfl, rfl⟩
      ·rw [if_neg (by omega)] at hx
       try simp (disch := omega) only [go_sem, Nat.reduceEqDiff, Nat.reduceAdd, Nat.reduceSub, Int.reduceAdd, Int.reduceSub, Int.reduceToNat, getD_at' _ h]
       refine ⟨qC, hN _ (k + 1, 10 * a + l[k].toNat - 48) [] (by (try dsimp only); exact ⟨by omega, by omega, by rw [Int.pow_succ]; omega, hx⟩) (by (try dsimp only); omega) (weak_mk (by rfl) (by rfl) ?_)⟩
       refine qX ?_
       omega
     ·rw [if_pos (by omega)] at hx
      refine qJ [] ?_
      rw [hu, ← hx]
      exact ⟨rfl, rfl⟩
    ·rw [List.drop_eq_nil_of_le (by omega), rdGo] at hx
     rw [← hx] at hu
     refine qB (fun h3 => ?_) fun h3 => ?_
     ·refine qX ?_
      refine qK (impl_Decimal a ⟨by omega, by omega⟩) [] ?_
      refine qB (fun h4 => ?_) fun h4 => ?_
      ·refine qJ [] ?_
       rw [hu, readR, if_pos (.inr h4)]
       exact ⟨rfl, rfl⟩
      ·refine qJ [] ?_
       rw [hu, readR, if_neg (not_or.2 ⟨h3, fun h => h h4⟩)]
       exact ⟨rfl, rfl⟩
     ·refine qJ [] ?_
      rw [hu, readR, if_pos (.inl h3)]
      exact ⟨rfl, rfl⟩
 ·subst h0
  refine den_fin [] (trivial) _ (by simp only [go_sem]; rfl) (by rfl) (by rfl) ?_
  simp (disch := omega) only [go_sem, Nat.reduceEqDiff, Nat.reduceAdd, Nat.reduceSub, Int.reduceAdd, Int.reduceSub, Int.reduceToNat]
  simp [readDec, rdGo, readR, dec, decGo]
end
section
open Go.RowKit

theorem impl_cut (l : List UInt8) (hln : l.length ≤ 1073741000) : CallA Tryd.prog 24 [.sc (.st l)] [] (.sc (.sl 0 0 (cutL 44 l).length)) [some ⟨(cutL 44 l).map strC, 1, 9, true, true⟩] := by
 refine qE Tryd.func24 Tryd.ntmps24 Tryd.results24 fun E hE => ?_
 refine den_lp 0 hE (fun s (x : Nat × Nat × List (List UInt8)) => s.at [6, 7, 8, 9, 10, 11, 12, 13, 14, 15, 16, 17, 18, 19, 20, 21, 22, 23, 24, 25, 26, 27, 28, 29, 30] [(5, .sc (.int .i64 (x.1 : Nat))), (4, .sc (.int .i64 (x.2.1 : Nat))), (3, .sc (.sl 0 0 x.2.2.length))] ([some ⟨x.2.2.map strC, 1, 9, true, true⟩])) (fun (x : Nat × Nat × List (List UInt8)) => x.2.2.length ≤ x.1 ∧ ((x.1 ≤ l.length ∧ x.2.1 ≤ x.1 ∧ cutGo 44 x.2.2 ((l.take x.1).drop x.2.1) (l.drop x.1) = cutL 44 l) ∨ (x.1 = l.length + 1 ∧ x.2.2 = cutL 44 l))) (fun (x : Nat × Nat × List (List UInt8)) => l.length + 1 - x.1) (0, 0, []) [none] (qC) (⟨Nat.zero_le _, .inl ⟨Nat.zero_le _, Nat.le_refl _, rfl⟩⟩) (weak_mk (by rfl) (by rfl) ?_) fun x hx N hN => ?_
 ·exact qY
 ·obtain ⟨k, fr, acc⟩ := x
  obtain ⟨hn, hx⟩ := hx
  dsimp only at hn hx
  refine qR ?_
  refine qB (fun h => ?_) fun h => ?_
  ·obtain ⟨hk, hfr, hx⟩ : k ≤ l.length ∧ fr ≤ k ∧ cutGo 44 acc ((l.take k).drop fr) (l.drop k) = cutL 44 l := by
    rcases hx with hx | hx
    ·exact hx
    ·omega
   refine qB (fun h2 => ?_) fun h2 => ?_
   ·have h' : k < l.length := by omega
    rw [cutGo_step h'] at hx
    try simp (disch := omega) only [go_sem, Nat.reduceEqDiff, Nat.reduceAdd, Nat.reduceSub, Int.reduceAdd, Int.reduceSub, Int.reduceToNat, getD_at' _ h']
    refine qB (fun h3 => ?_) fun h3 => ?_
    ·have h4 : l[k] = 44 := UInt8.toNat_inj.1 (by show l[k].toNat = 44; omega)
     rw [if_pos h4] at hx
     refine qX ?_
     refine ⟨qC, hN _ (k + 1, k + 1, acc ++ [(l.take k).drop fr]) (qA [2]) (by (try dsimp only); exact ⟨by simp; omega, .inl ⟨by omega, Nat.le_refl _, by simpa using hx⟩⟩) (by (try dsimp only); omega) (weak_mk (by rfl) (by rfl) ?_)⟩
     refine qX ?_
     simp [strC]
    ·have h4 : l[k] ≠ 44 := fun e => by rw [e] at h3; exact h3 rfl
     rw [if_neg h4, ← take_drop_succ h' hfr] at hx
     refine qX ?_
     exact qN hN (k + 1, fr, acc) (qA [0]) (by (try dsimp only); exact ⟨by omega, .inl ⟨by omega, by omega, hx⟩⟩)
   ·have h' : k = l.length := by omega
    subst h'
    rw [List.drop_length, cutGo] at hx
    refine qX ?_
    refine ⟨qC, hN _ (l.length + 1, l.length + 1, acc ++ [(l.take l.length).drop fr]) (qA [2]) (by (try dsimp only); exact ⟨by simp; omega, .inr ⟨rfl, hx⟩⟩) (by (try dsimp only); omega) (weak_mk (by rfl) (by rfl) ?_)⟩
    refine qX ?_
    simp [strC]
  ·obtain ⟨hk, hx⟩ : k = l.length + 1 ∧ acc = cutL 44 l := by
    rcases hx with hx | hx
    ·omega
    ·exact hx
   subst hx
   exact qF (qA [0])
theorem joined_loop_le {y : List UInt8} {l : List (List UInt8)} {k : Nat} {acc : List UInt8} (h : k < l.length) (hx : joinGo y k acc (l.drop k) = joinL y l) : (if 0 < k then acc ++ y else acc).length + l[k].length ≤ (joinL y l).length := by
 rw [joinGo_step h] at hx
 rw [← hx]
 have := joinGo_le (y := y) (l := l.drop (k + 1)) (k := k + 1) (acc := (if 0 < k then acc ++ y else acc) ++ l[k])
 simpa using this
theorem impl_joined (y : List UInt8) (l : List (List UInt8)) (hln : l.length ≤ 1073741000) (hj : (joinL y l).length ≤ 4611686018427387904) : CallA Tryd.prog 32 [.sc (.sl 0 0 l.length), .sc (.st y)] [some ⟨l.map strC, 1, 9, false, true⟩] (.sc (.st (joinL y l))) [some ⟨l.map strC, 1, 9, false, true⟩] := by
 refine qE Tryd.func32 Tryd.ntmps32 Tryd.results32 fun E hE => ?_
 refine den_lp 1 hE (fun s (x : Nat × List UInt8) => s.at [0, 6, 7, 11, 12, 13, 14, 15, 16, 17, 18, 19, 20, 21, 22, 23] [(10, .sc (.int .i64 (x.1 : Nat))), (5, .sc (.st x.2))] (s.hp)) (fun (x : Nat × List UInt8) => x.1 ≤ l.length ∧ joinGo y x.1 x.2 (l.drop x.1) = joinL y l) (fun (x : Nat × List UInt8) => l.length - x.1) (0, []) (qA [0]) (qC) (⟨Nat.zero_le _, rfl⟩) (weak_mk (by rfl) (by rfl) ?_) fun x hx N hN => ?_
 ·exact qY
 ·obtain ⟨k, acc⟩ := x
  obtain ⟨hk, hx⟩ := hx
  dsimp only at hk hx
  refine qR ?_
  refine qB (fun h => ?_) fun h => ?_
  ·have hle := joined_loop_le h hx
   rw [joinGo_step h] at hx
   try simp (disch := omega) only [go_sem, Nat.reduceEqDiff, Nat.reduceAdd, Nat.reduceSub, Int.reduceAdd, Int.reduceSub, Int.reduceToNat, strs_get h]
   refine qB (fun h2 => ?_) fun h2 => ?_
   ·rw [if_pos (by omega)] at hle hx
    rw [List.length_append] at hle
    try simp (disch := omega) only [go_sem, Nat.reduceEqDiff, Nat.reduceAdd, Nat.reduceSub, Int.reduceAdd, Int.reduceSub, Int.reduceToNat, strs_get h]
    exact qN hN (k + 1, (acc ++ y) ++ l[k]) (qA [0]) (by (try dsimp only); exact ⟨by omega, hx⟩)
   ·rw [if_neg (by omega)] at hle hx
    try simp (disch := omega) only [go_sem, Nat.reduceEqDiff, Nat.reduceAdd, Nat.reduceSub, Int.reduceAdd, Int.reduceSub, Int.reduceToNat, strs_get h]
    exact qN hN (k + 1, acc ++ l[k]) (qA [0]) (by (try dsimp only); exact ⟨by omega, hx⟩)
  ·refine qJ (qA [0]) ?_
   rw [List.drop_eq_nil_of_le (by omega), joinGo] at hx
   exact hx
theorem impl_PartsOf (l : List UInt8) : CallA Tryd.prog 33 [.sc (.st l)] [] (.tu [.sc (.sl 0 0 (partsL l).1.length), .sc (.bo (partsL l).2)]) [some ⟨(partsL l).1.map strC, 1, 9, true, true⟩] := by
 refine qE Tryd.func33 Tryd.ntmps33 Tryd.results33 fun E hE => ?_
 refine qB (fun h1 => ?_) fun h1 => ?_
 ·refine qJ [none] ?_
  rw [partsL, if_pos (by omega)]
  simp
 ·have hu : partsL l = partsR (partsGo [] [] l) := by rw [partsL, if_neg (by omega)]
  refine den_lp 0 hE (fun s (x : Nat × Int × List (List UInt8)) => s.at [2, 3, 7, 8, 9, 10, 11, 12, 13, 14, 15, 16, 17, 18, 19, 20, 21, 22, 23, 24, 25, 26, 27, 28, 29, 30, 31, 32, 33, 34, 35, 36, 37, 38, 39, 40, 41, 42, 43, 44, 45, 46, 47, 48, 49, 50, 51, 52, 53, 54, 55, 56, 57, 58, 59, 60, 61] [(6, .sc (.int .i64 (x.1 : Nat))), (5, .sc (.int .i64 x.2.1)), (4, .sc (.sl 0 0 x.2.2.length))] ([some ⟨x.2.2.map strC, 1, 9, true, true⟩])) (fun (x : Nat × Int × List (List UInt8)) => x.2.2.length ≤ x.1 ∧ -1 ≤ x.2.1 ∧ x.2.1 < x.1 ∧ ((x.1 ≤ l.length ∧ partsGo x.2.2 (if x.2.1 < 0 then [] else (l.take x.1).drop x.2.1.toNat) (l.drop x.1) = partsGo [] [] l) ∨ (x.1 = l.length + 1 ∧ some x.2.2 = partsGo [] [] l))) (fun (x : Nat × Int × List (List UInt8)) => l.length + 1 - x.1) (0, -1, []) [none] (qC) (⟨Nat.zero_le _, by decide, by decide, .inl ⟨Nat.zero_le _, rfl⟩⟩) (weak_mk (by rfl) (by rfl) ?_) fun x hx N hN => ?_
  ·exact qY
  ·obtain ⟨k, fr, acc⟩ := x
   obtain ⟨hn, hf1, hf2, hx⟩ := hx
   dsimp only at hn hx hf1 hf2
   refine qR ?_
   refine qB (fun h => ?_) fun h => ?_
   ·obtain ⟨hk, hx⟩ : k ≤ l.length ∧ partsGo acc (if fr < 0 then [] else (l.take k).drop fr.toNat) (l.drop k) = partsGo [] [] l := by
     rcases hx with hx | hx
     ·exact hx
     ·omega
    rcases (by omega : fr = -1 ∨ 0 ≤ fr) with rfl | hf
    ·rw [if_pos (by omega)] at hx
     refine qB (fun h2 => ?_) fun h2 => ?_
     ·have hb := l[k].toNat_lt
      rw [partsGo_step h2] at hx
      refine qB (fun h3 => ?_) fun h3 => ?_
      ·refine qB (fun h4 => ?_) fun h4 => ?_
       ·rw [if_pos (by omega)] at hx
        rw [← hx] at hu
        refine qJ [none] ?_
        rw [hu]
        exact ⟨⟨rfl, rfl⟩, rfl⟩
       ·rw [if_neg (by omega)] at hx
        refine qX ?_
        refine qB (fun h5 => ?_) fun h5 => ?_
        ·have h6 : l[k] ≠ 32 := fun e => by rw [e] at h5; exact h5 rfl
         rw [if_neg h6, List.nil_append] at hx
         refine qX ?_
         exact qN hN (k + 1, (k : Int), acc) (qA [0]) (by (try dsimp only); exact ⟨by omega, by omega, by omega, .inl ⟨by omega, by rw [if_neg (by omega), Int.toNat_natCast, take_drop_succ h2 (Nat.le_refl _), drop_take_self (Nat.le_refl _)]; exact hx⟩⟩)
        ·have h6 : l[k] = 32 := UInt8.toNat_inj.1 (by show l[k].toNat = 32; omega)
         rw [if_pos h6, app1, if_pos rfl] at hx
         refine qX ?_
         exact qN hN (k + 1, -1, acc) (qA [0]) (by (try dsimp only); exact ⟨by omega, by omega, by omega, .inl ⟨by omega, by rw [if_pos (by omega)]; exact hx⟩⟩)
      ·rw [if_pos (by omega)] at hx
       rw [← hx] at hu
       refine qJ [none] ?_
       rw [hu]
       exact ⟨⟨rfl, rfl⟩, rfl⟩
     ·have h' : k = l.length := by omega
      subst h'
      rw [List.drop_length, partsGo, app1, if_pos rfl] at hx
      refine qX ?_
      exact qN hN (l.length + 1, -1, acc) (qA [0]) (by (try dsimp only); exact ⟨by omega, by omega, by omega, .inr ⟨rfl, hx⟩⟩)
    ·obtain ⟨f, rfl⟩ := Int.eq_ofNat_of_zero_le hf
     rw [if_neg (by omega), Int.toNat_natCast] at hx
     refine qB (fun h2 => ?_) fun h2 => ?_
     ·have hb := l[k].toNat_lt
      rw [partsGo_step h2] at hx
      refine qB (fun h3 => ?_) fun h3 => ?_
      ·refine qB (fun h4 => ?_) fun h4 => ?_
       ·rw [if_pos (by omega)] at hx
        rw [← hx] at hu
        refine qJ [none] ?_
        rw [hu]
        exact ⟨⟨rfl, rfl⟩, rfl⟩
       ·rw [if_neg (by omega)] at hx
        refine qX ?_
        refine qB (fun h5 => ?_) fun h5 => ?_
        ·have h6 : l[k] ≠ 32 := fun e => by rw [e] at h5; exact h5 rfl
         rw [if_neg h6, ← take_drop_succ h2 (by omega)] at hx
         refine qX ?_
         exact qN hN (k + 1, (f : Int), acc) (qA [0]) (by (try dsimp only); exact ⟨by omega, by omega, by omega, .inl ⟨by omega, by rw [if_neg (by omega), Int.toNat_natCast]; exact hx⟩⟩)
        ·have h6 : l[k] = 32 := UInt8.toNat_inj.1 (by show l[k].toNat = 32; omega)
         rw [if_pos h6, app1_pos hk (by omega)] at hx
         refine qX ?_
         refine ⟨qC, hN _ (k + 1, -1, acc ++ [(l.take k).drop f]) (qA [2]) (by (try dsimp only); exact ⟨by simp; omega, by omega, by omega, .inl ⟨by omega, by rw [if_pos (by omega)]; exact hx⟩⟩) (by (try dsimp only); omega) (weak_mk (by rfl) (by rfl) ?_)⟩
         refine qX ?_
         simp [strC]
      ·rw [if_pos (by omega)] at hx
       rw [← hx] at hu
       refine qJ [none] ?_
       rw [hu]
       exact ⟨⟨rfl, rfl⟩, rfl⟩
     ·have h' : k = l.length := by omega
      subst h'
      rw [List.drop_length, partsGo, app1_pos (Nat.le_refl _) (by omega)] at hx
      refine qX ?_
      refine ⟨qC, hN _ (l.length + 1, -1, acc ++ [(l.take l.length).drop f]) (qA [2]) (by (try dsimp only); exact ⟨by simp; omega, by omega, by omega, .inr ⟨rfl, hx⟩⟩) (by (try dsimp only); omega) (weak_mk (by rfl) (by rfl) ?_)⟩
      refine qX ?_
      simp [strC]
   ·obtain ⟨hk, hx⟩ : k = l.length + 1 ∧ some acc = partsGo [] [] l := by
     rcases hx with hx | hx
     ·omega
     ·exact hx
    rw [← hx] at hu
    refine qB (fun h5 => ?_) fun h5 => ?_
    ·refine qJ [none] ?_
     rw [hu, partsR, if_pos (by omega)]
     exact ⟨⟨rfl, rfl⟩, rfl⟩
    ·refine qJ (qA [0]) ?_
     rw [hu, partsR, if_neg (by omega)]
     simp
end
section
open Go.RowKit

theorem impl_LetterOk (x : LetterD) : CallA Tryd.prog 19 [.ag x.cs] [] (.sc (.bo (letOk x))) [] := by
 refine qE Tryd.func19 Tryd.ntmps19 Tryd.results19 fun E hE => ?_
 refine qK (impl_within _ _ _) [] ?_
 refine qB (fun h1 => ?_) fun h1 => ?_
 ·refine qK (impl_isNumber (letNums x) (by show 16 ≤ 1000000; omega)) (qA [2]) ?_
  refine qB (fun h2 => ?_) fun h2 => ?_
  ·refine qJ [] ?_
   simp [letOk, h1, h2]
   omega
  ·refine qJ [] ?_
   simp [letOk, h1, h2]
 ·refine qJ [] ?_
  simp [letOk, h1]
theorem spec_LetterOk (x : LetterD) : CallA Tryd.prog 8 [.ag x.cs] [] (.sc (.bo (letOk x))) [] := by
 refine qE Tryd.func8 Tryd.ntmps8 Tryd.results8 fun E hE => ?_
 refine qK (spec_l01In _ _ _) [] ?_
 refine qB (fun h1 => ?_) fun h1 => ?_
 ·refine qB (fun h2 => ?_) fun h2 => ?_
  ·refine qJ [] ?_
   simp [letOk]
   omega
  ·have hlen : (letNums x).length = 16 := rfl
   refine den_lp 0 hE (fun s (k : Nat) => s.at [0, 1, 2, 5, 6, 7, 8, 9, 10, 11, 12, 13, 14, 15, 16, 17, 18, 19, 20, 21, 22, 23, 24, 25, 26, 27, 28, 29, 30, 31, 32, 33, 34, 35, 36, 37, 38, 39, 40, 41, 42, 43, 44, 45, 46, 47, 48, 49, 50, 51, 52, 53, 54, 55, 56, 57, 58, 59, 60, 61, 62, 63, 64] [(4, .sc (.int .i64 (k : Nat))), (3, .sc (.sl 0 0 16))] ([some ⟨(letNums x).map intC, 1, 3, true, true⟩])) (fun (k : Nat) => k ≤ 16 ∧ (letNums x).all isN = ((letNums x).drop k).all isN) (fun (k : Nat) => 16 - k) 0 (qA [1]) (qC) (⟨Nat.zero_le _, rfl⟩) (weak_mk (by rfl) (by rfl) ?_) fun k hk N hN => ?_
   ·refine qX ?_
    rfl
   ·obtain ⟨hk1, hk2⟩ := hk
    refine qR ?_
    refine qB (fun h => ?_) fun h => ?_
    ·have h' : k < (letNums x).length := by omega
     rw [List.drop_eq_getElem_cons h', List.all_cons] at hk2
     refine qK (spec_l14Num _) [] ?_
     refine qB (fun h3 => ?_) fun h3 => ?_
     ·refine qJ [] ?_
      rw [letOk, hk2, h3]
      simp
     ·rw [h3, Bool.true_and] at hk2
      exact qN hN (k + 1) (qA [0]) (by (try dsimp only); exact ⟨by omega, hk2⟩)
    ·refine qJ [] ?_
     rw [List.drop_eq_nil_of_le (by omega)] at hk2
     simp [letOk, h1, hk2]
     omega
 ·refine qJ [] ?_
  simp [letOk, h1]
theorem impl_letterInts (x : LetterD) (n : Int) : CallA Tryd.prog 21 [.sc (.pt 0 0 0), .sc (.pt 1 0 0)] [some ⟨[x.cs], 19, 27, false, false⟩, some ⟨[[.int .i64 n]], 1, 3, false, false⟩] (.sc (.sl 2 0 18))
  [some ⟨[x.cs], 19, 27, false, false⟩, some ⟨[[.int .i64 n]], 1, 3, false, false⟩, some ⟨[[.pt 0 0 0], [.pt 0 0 1], [.pt 0 0 2], [.pt 0 0 3], [.pt 0 0 4], [.pt 0 0 5], [.pt 0 0 6], [.pt 0 0 7], [.pt 0 0 8], [.pt 0 0 9], [.pt 0 0 10], [.pt 0 0 11], [.pt 0 0 12], [.pt 0 0 13], [.pt 0 0 14], [.pt 0 0 15], [.pt 1 0 0], [.pt 0 0 17]], 1, 55, true, false⟩] := by
 refine qE Tryd.func21 Tryd.ntmps21 Tryd.results21 fun E hE => ?_
 refine den_draw1 [0, 1, 2, 3, 4, 5, 6, 7, 8, 9, 10, 11, 12, 13, 14, 15, 16, 17, 18, 19, 20, 21, 22, 23, 24, 25, 26, 27, 28, 29, 30, 31, 32, 33, 34, 35, 36, 37, 38, 39, 40, 41, 42, 43, 44, 45, 46, 47, 48, 49, 50, 51, 52, 53, 54, 55, 56, 57, 58] (by kernel_rfl) (trivial) (by kernel_rfl) (runD_den 400 ?_)
 simp (disch := omega) only [go_sem, Nat.reduceEqDiff, Nat.reduceAdd, Nat.reduceSub, Int.reduceAdd, Int.reduceSub, Int.reduceToNat]
 refine qG ?_
 exact qF (qA [0, 1, 2])
theorem impl_LetterWord (x : LetterD) (hx : x.wf) : CallA Tryd.prog 6 [.ag x.cs] [] (.sc (.st (letWord x))) [] := by
 refine qE Tryd.func6 Tryd.ntmps6 Tryd.results6 fun E hE => ?_
 refine qK (impl_LetterOk x) [] ?_
 refine qB (fun h1 => ?_) fun h1 => ?_
 ·refine qJ [] ?_
  simp [letWord, h1]
 ·refine qK (impl_bit _) [] ?_
  refine qK (impl_letterInts x (cond x.spare 1 0)) (qA [0, 1]) ?_
  have hlen : (letInts x).length = 18 := rfl
  refine den_lp 0 hE (fun s (y : Nat × List UInt8) => s.at [0, 3, 6, 9, 10, 11, 12, 13, 14, 18, 19, 20, 21, 22, 23, 24, 25, 26, 27, 28] [(17, .sc (.int .i64 (y.1 : Nat))), (4, .sc (.st y.2))] ([some ⟨[x.cs], 19, 27, true, false⟩, some ⟨[[.int .i64 (cond x.spare 1 0)]], 1, 3, true, false⟩, some ⟨ptrL, 1, 55, true, false⟩])) (fun (y : Nat × List UInt8) => y.1 ≤ 18 ∧ y.2.length ≤ 22 * y.1 ∧ wordGo y.2 ((letInts x).drop y.1) = wordGo [] (letInts x)) (fun (y : Nat × List UInt8) => 18 - y.1) (0, []) (qA [0, 1, 2]) (qC) (⟨Nat.zero_le _, Nat.le_refl _, rfl⟩) (weak_mk (by rfl) (by rfl) ?_) fun y hy N hN => ?_
  ·try simp (disch := omega) only [go_sem, Nat.reduceEqDiff, Nat.reduceAdd, Nat.reduceSub, Int.reduceAdd, Int.reduceSub, Int.reduceToNat, ptrL_eq]
  ·obtain ⟨k, acc⟩ := y
   obtain ⟨hk, hl, hw⟩ := hy
   dsimp only at hk hl hw
   refine qR ?_
   refine qB (fun h => ?_) fun h => ?_
   ·have h' : k < (letInts x).length := by omega
    have hwf := letInts_wf hx _ (List.getElem_mem h')
    have hdl := dec_le hwf
    rw [wordGo_step h'] at hw
    try simp (disch := omega) only [go_sem, Nat.reduceEqDiff, Nat.reduceAdd, Nat.reduceSub, Int.reduceAdd, Int.reduceSub, Int.reduceToNat, ptrL_get (show k < 18 by omega)]
    by_cases h16 : k = 16
    ·subst h16
     try simp (disch := omega) only [go_sem, Nat.reduceEqDiff, Nat.reduceAdd, Nat.reduceSub, Int.reduceAdd, Int.reduceSub, Int.reduceToNat, ptrOf_16]
     refine qK (impl_Decimal _ hwf) [] ?_
     have e16 : (letInts x)[16] = cond x.spare 1 0 := rfl
     refine ⟨qC, hN _ (17, acc ++ (dec (letInts x)[16] ++ [44])) (qA [0, 1, 2]) (by (try dsimp only); exact ⟨by omega, by simp; omega, hw⟩) (by (try dsimp only); omega) (weak_mk (by rfl) (by rfl) ?_)⟩
     try simp (disch := omega) only [go_sem, Nat.reduceEqDiff, Nat.reduceAdd, Nat.reduceSub, Int.reduceAdd, Int.reduceSub, Int.reduceToNat, ptrL_eq]
     rfl
    ·have hc := letCell x h' h16
     simp only [LetterD.cs] at hc
     try simp (disch := omega) only [go_sem, Nat.reduceEqDiff, Nat.reduceAdd, Nat.reduceSub, Int.reduceAdd, Int.reduceSub, Int.reduceToNat, ptrOf_ne h16, hc]
     refine qK (impl_Decimal _ hwf) [] ?_
     refine ⟨qC, hN _ (k + 1, acc ++ (dec (letInts x)[k] ++ [44])) (qA [0, 1, 2]) (by (try dsimp only); exact ⟨by omega, by simp; omega, hw⟩) (by (try dsimp only); omega) (weak_mk (by rfl) (by rfl) ?_)⟩
     try simp (disch := omega) only [go_sem, Nat.reduceEqDiff, Nat.reduceAdd, Nat.reduceSub, Int.reduceAdd, Int.reduceSub, Int.reduceToNat, ptrL_eq]
   ·rw [List.drop_eq_nil_of_le (by omega), wordGo] at hw
    have hh := hexR_le x.text
    refine qK (impl_Hex _) [] ?_
    refine qJ [] ?_
    rw [letWord, if_pos h1, ← hw]
theorem spec_LetterWord (x : LetterD) (hx : x.wf) : CallA Tryd.prog 44 [.ag x.cs] [] (.sc (.st (letWord x))) [] := by
 refine qE Tryd.func44 Tryd.ntmps44 Tryd.results44 fun E hE => ?_
 refine qK (spec_LetterOk x) [] ?_
 refine qB (fun h1 => ?_) fun h1 => ?_
 ·refine qJ [] ?_
  simp [letWord, h1]
 ·have hlen : (letInts x).length = 18 := rfl
  refine den_draw1 [0, 1, 2, 3, 4, 5, 6, 7, 8, 9, 10, 11, 12, 13, 14, 15, 16, 17, 18, 19, 20, 21, 22, 23, 24, 25, 26, 27, 28, 29, 30, 31, 32, 33, 34, 35, 36, 37, 38, 40, 41, 39, 42, 43] (by kernel_rfl) (trivial) (by kernel_rfl) (runD_den 400 ?_)
  simp (disch := omega) only [go_sem, Nat.reduceEqDiff, Nat.reduceAdd, Nat.reduceSub, Int.reduceAdd, Int.reduceSub, Int.reduceToNat]
  refine qKD (spec_l28Flag _) [] ?_
  refine qG ?_
  refine den_lp 0 hE (fun s (y : Nat × List UInt8) => s.at [0, 8, 9, 10, 11, 12, 13, 14, 15, 16, 17, 18, 19, 20, 21, 22, 23, 24, 25, 26, 27, 28, 29, 30, 31, 32, 33, 34, 35, 36, 37, 38, 39, 40, 41, 42, 43, 44, 45, 46, 47, 48, 49, 50, 51, 52, 53, 54, 55, 56, 57, 58, 59, 60, 61, 62, 63, 64, 65, 66, 67] [(5, .sc (.int .i64 (y.1 : Nat))), (4, .sc (.st y.2)), (3, .sc (.sl 1 0 18))] ([some ⟨[x.cs], 19, 27, true, false⟩, some ⟨(letInts x).map intC, 1, 3, true, true⟩])) (fun (y : Nat × List UInt8) => y.1 ≤ 18 ∧ y.2.length ≤ 22 * y.1 ∧ wordGo y.2 ((letInts x).drop y.1) = wordGo [] (letInts x)) (fun (y : Nat × List UInt8) => 18 - y.1) (0, []) (qA [0, 1]) (qC) (⟨Nat.zero_le _, Nat.le_refl _, rfl⟩) (weak_mk (by rfl) (by rfl) ?_) fun y hy N hN => ?_
  ·refine qX ?_
   rfl
  ·obtain ⟨k, acc⟩ := y
   obtain ⟨hk, hl, hw⟩ := hy
   dsimp only at hk hl hw
   refine qR ?_
   refine qB (fun h => ?_) fun h => ?_
   ·have h' : k < (letInts x).length := by omega
    have hwf := letInts_wf hx _ (List.getElem_mem h')
    have hdl := dec_le hwf
    rw [wordGo_step h'] at hw
    refine qX ?_
    refine qK (spec_Decimal _ hwf) [] ?_
    refine ⟨qC, hN _ (k + 1, acc ++ (dec (letInts x)[k] ++ [44])) (qA [0, 1]) (by (try dsimp only); exact ⟨by omega, by simp; omega, hw⟩) (by (try dsimp only); omega) (weak_mk (by rfl) (by rfl) ?_)⟩
    refine qX ?_
    simp
   ·rw [List.drop_eq_nil_of_le (by omega), wordGo] at hw
    have hh := hexR_le x.text
    refine qK (spec_Hex _) [] ?_
    refine qJ [] ?_
    rw [letWord, if_pos h1, ← hw]
end
section
open Go.RowKit

theorem impl_PolicyOk (p : PolicyD) : CallA Tryd.prog 37 [.ag p.cs] [] (.sc (.bo (polOk p))) [] := by
 refine qE Tryd.func37 Tryd.ntmps37 Tryd.results37 fun E hE => ?_
 refine qB (fun h1 => ?_) fun h1 => ?_
 ·refine qK (impl_within _ _ _) [] ?_
  refine qJ [] ?_
  simp [polOk, h1]
 ·refine qB (fun h2 => ?_) fun h2 => ?_
  ·refine qB (fun h3 => ?_) fun h3 => ?_
   ·refine qJ [] ?_
    simp [polOk, h1, h2, h3]
   ·refine qJ [] ?_
    simp [polOk, h1, h2, h3]
  ·refine qJ [] ?_
   simp [polOk, h1, h2]
theorem spec_PolicyOk (p : PolicyD) : CallA Tryd.prog 16 [.ag p.cs] [] (.sc (.bo (polOk p))) [] := by
 refine qE Tryd.func16 Tryd.ntmps16 Tryd.results16 fun E hE => ?_
 refine qB (fun h1 => ?_) fun h1 => ?_
 ·refine qK (spec_l01In _ _ _) [] ?_
  refine qJ [] ?_
  simp [polOk, h1]
 ·refine qB (fun h2 => ?_) fun h2 => ?_
  ·refine qB (fun h3 => ?_) fun h3 => ?_
   ·refine qJ [] ?_
    simp [polOk, h1, h2, h3]
   ·refine qJ [] ?_
    simp [polOk, h1, h2, h3]
  ·refine qJ [] ?_
   simp [polOk, h1, h2]
theorem impl_PolicyLine (p : PolicyD) (hp : p.wf) : CallA Tryd.prog 14 [.ag p.cs] [] (.sc (.st (polLine p))) [] := by
 have hd := dec_le hp.2
 refine qE Tryd.func14 Tryd.ntmps14 Tryd.results14 fun E hE => ?_
 refine qK (impl_PolicyOk p) [] ?_
 refine qB (fun h1 => ?_) fun h1 => ?_
 ·refine qJ [] ?_
  simp [polLine, h1]
 ·refine qB (fun h2 => ?_) fun h2 => ?_
  ·refine qJ [] ?_
   simp [polLine, h1, h2]
  ·refine qB (fun h3 => ?_) fun h3 => ?_
   ·refine qJ [] ?_
    simp [polLine, h1, h2, h3]
   ·refine qK (impl_Decimal _ hp.2) [] ?_
    refine qJ [] ?_
    simp [polLine, h1, h2, h3]
theorem impl_sameParts (a : List UInt8) (l : List (List UInt8)) (hl : l.length ≤ 1073741000) (hj : (joinL [32] l).length ≤ 4611686018427387904) : CallA Tryd.prog 35 [.sc (.st a), .sc (.sl 0 0 l.length)] [some ⟨l.map strC, 1, 9, false, true⟩] (.sc (.bo (sameB a l))) [some ⟨l.map strC, 1, 9, false, true⟩] := by
 have hp := partsL_tot a
 have hq := partsL_join a
 refine qE Tryd.func35 Tryd.ntmps35 Tryd.results35 fun E hE => ?_
 refine qK (impl_PartsOf a) [] ?_
 refine qB (fun h1 => ?_) fun h1 => ?_
 ·refine qB (fun h2 => ?_) fun h2 => ?_
  ·refine den_call (qC) (impl_joined [32] (partsL a).1 ?_ ?_) (qA [1]) qM (by rfl) (run_den 400 ?_)
   ·omega
   ·omega
   simp (disch := omega) only [go_sem, Nat.reduceEqDiff, Nat.reduceAdd, Nat.reduceSub, Int.reduceAdd, Int.reduceSub, Int.reduceToNat]
   refine qK (impl_joined [32] l hl hj) (qA [0]) ?_
   refine qB (fun h3 => ?_) fun h3 => ?_
   ·refine qJ (qA [0]) ?_
    simp [sameB, h1, h2, h3, nat_beq]
   ·refine qJ (qA [0]) ?_
    simp [sameB, h1, h2, h3]
  ·refine qJ (qA [0]) ?_
   simp [sameB, h1, h2]
 ·refine qJ (qA [0]) ?_
  simp [sameB, h1]
def polRes (line : List UInt8) : PolicyD × Bool := if (partsL line).2 then readGo (partsL line).1 cands else (polNone, false)
theorem impl_ReadPolicy (line : List UInt8) : CallA Tryd.prog 13 [.sc (.st line)] [] (.tu [.ag (polRes line).1.cs, .sc (.bo (polRes line).2)]) [] := by
 have hp := partsL_tot line
 have hq := partsL_join line
 refine qE Tryd.func13 Tryd.ntmps13 Tryd.results13 fun E hE => ?_
 refine qK (impl_PartsOf line) [] ?_
 rw [polRes]
 generalize partsL line = pr at hp hq ⊢
 obtain ⟨parts, ok⟩ := pr
 dsimp only at hp hq ⊢
 cases ok with
 | false =>
  refine qX ?_
  refine qJ [] ?_
  exact ⟨rfl, rfl⟩
 | true =>
  rw [if_pos rfl]
  refine qX ?_
  have h10 : cands.length = 10 := rfl
  refine den_lp 0 hE (fun s (k : Nat) => s.at [0, 5, 10, 11, 12, 13, 14, 15, 16, 17, 18, 19, 20, 21, 22, 23, 24, 25, 26, 27, 28, 29] [(7, .sc (.int .i64 (k : Nat))), (6, .sc (.sl 2 0 (k + 1)))] ([some ⟨[[.int .i64 0, .int .i64 0]], 2, 42, true, false⟩, some ⟨parts.map strC, 1, 9, true, true⟩, some ⟨(cands.take (k + 1)).map PolicyD.cs, 2, 42, true, true⟩])) (fun (k : Nat) => 1 ≤ k ∧ k ≤ 9) (fun (k : Nat) => 9 - k) 1 (qA [0, 1, 2]) (qC) (⟨by decide, by decide⟩) (weak_mk (by rfl) (by rfl) ?_) fun k hk N hN => ?_
  ·refine qX ?_
   rfl
  ·obtain ⟨hk1, hk2⟩ := hk
   have hl : (cands.take (k + 1)).length = k + 1 := by rw [List.length_take, h10]; omega
   refine qR ?_
   refine qB (fun h => ?_) fun h => ?_
   ·refine ⟨⟨hl, by omega⟩, hN _ (k + 1) (qA [0, 1, 4]) (by (try dsimp only); exact ⟨by omega, by omega⟩) (by (try dsimp only); omega) (weak_mk (by rfl) (by rfl) ?_)⟩
    try simp (disch := omega) only [go_sem, Nat.reduceEqDiff, Nat.reduceAdd, Nat.reduceSub, Int.reduceAdd, Int.reduceSub, Int.reduceToNat, cands_take hk1 (show k ≤ 8 by omega)]
    simp [PolicyD.cs]
   ·have hk : k = 9 := by omega
    subst hk
    refine qX ?_
    refine den_lp 0 hE (fun s (i : Nat) => s.at [0, 3, 5, 6, 7, 9, 10, 11, 12, 13, 14, 15, 16, 17, 18, 19, 20, 21, 22, 23, 24, 25, 26, 27, 28, 29, 33, 34, 35, 36, 37, 38, 39, 40, 41] [(32, .sc (.int .i64 (i : Nat))), (31, .sc (.int .i64 10)), (30, .sc (.sl 2 0 10))] ([some ⟨[[.int .i64 0, .int .i64 0]], 2, 42, true, false⟩, some ⟨parts.map strC, 1, 9, true, true⟩, some ⟨cands.map PolicyD.cs, 2, 42, true, true⟩])) (fun (i : Nat) => i ≤ 10 ∧ readGo parts (cands.drop i) = readGo parts cands) (fun (i : Nat) => 10 - i) 0 (qA [0, 1, 2]) (qC) (⟨by decide, rfl⟩) (weak_mk (by rfl) (by rfl) ?_) fun i hi N hN => ?_
    ·refine qX ?_
     exact ⟨rfl, rfl⟩
    ·obtain ⟨hi1, hi2⟩ := hi
     refine qR ?_
     refine qB (fun h2 => ?_) fun h2 => ?_
     ·have h' : i < cands.length := by omega
      have hwf := cand_wf _ (List.getElem_mem h')
      rw [readGo_step h'] at hi2
      refine qX ?_
      refine qK (impl_PolicyLine cands[i] hwf) [] ?_
      refine den_call (qC) (impl_sameParts (polLine cands[i]) parts ?_ ?_) (qA [1]) qM (by rfl) (run_den 400 ?_)
      ·omega
      ·omega
      simp (disch := omega) only [go_sem, Nat.reduceEqDiff, Nat.reduceAdd, Nat.reduceSub, Int.reduceAdd, Int.reduceSub, Int.reduceToNat]
      refine qB (fun h3 => ?_) fun h3 => ?_
      ·refine qJ [] ?_
       rw [← hi2, if_pos h3]
       exact ⟨⟨rfl, rfl⟩, rfl⟩
      ·rw [if_neg (by simp [h3])] at hi2
       exact qN hN (i + 1) (qA [0, 1, 2]) (by (try dsimp only); exact ⟨by omega, hi2⟩)
     ·rw [List.drop_eq_nil_of_le (by omega), readGo] at hi2
      refine qJ [] ?_
      rw [← hi2]
      exact ⟨⟨rfl, rfl⟩, rfl⟩
end
section
open Go.RowKit

def txtD (b : List UInt8) : Nat → CurD → List UInt8 × CurD
 | 0, c => ([], c)
 | n + 1, c => (UInt8.ofNat (c.bv b).toNat :: (txtD b n (c.bn b)).1, (txtD b n (c.bn b)).2)
theorem txtD_len (b : List UInt8) : ∀ (n : Nat) (c : CurD), (txtD b n c).1.length = n
 | 0, _ => rfl
 | n + 1, c => by simp [txtD, txtD_len b n]
theorem txtD_ok {b : List UInt8} : ∀ {n : Nat} {c : CurD}, c.ok b → (txtD b n c).2.ok b
 | 0, _, h => h
 | n + 1, c, h => txtD_ok (n := n) (CurD.bn_ok h)
theorem spec_l01Text (b : List UInt8) (c : CurD) (hc : c.ok b) (n : Nat) (hn : n ≤ 5000) : CallA Tryd.prog 62 [.sc (.pt 1 0 0), .sc (.int .i64 (n : Int))] (c.hp b) (.sc (.st (txtD b n c).1)) ((txtD b n c).2.hp b) := by
 obtain ⟨T, hT⟩ : ∃ T, T = txtD b n c := ⟨_, rfl⟩
 rw [← hT]
 refine callA_of Tryd.func62 (by kernel_rfl) rfl fun E hE => run_den 400 ?_
 simp (disch := omega) only [Tryd.ntmps62, Tryd.results62, go_sem, Nat.reduceEqDiff, Nat.reduceAdd, Nat.reduceSub, Int.reduceAdd, Int.reduceSub, Int.reduceToNat]
 refine den_lp 2 hE (fun s (y : List UInt8 × CurD) => s.at [7, 8, 9, 10, 11, 12, 13, 14, 15, 16, 17, 18, 19, 20] [(6, .sc (.int .i64 (y.1.length : Nat))), (5, .sc (.sl 2 0 y.1.length))] (y.2.hp b ++ [some ⟨y.1.map byteC, 1, 5, true, true⟩])) (fun (y : List UInt8 × CurD) => y.1.length ≤ n ∧ y.2.ok b ∧ (y.1 ++ (txtD b (n - y.1.length) y.2).1, (txtD b (n - y.1.length) y.2).2) = T) (fun (y : List UInt8 × CurD) => n - y.1.length) ([], c) [some (0, none), some (1, none), some (2, none)] (by (try simp (disch := omega) only [go_sem, List.length_set, Nat.reduceEqDiff, Nat.reduceAdd, Nat.reduceSub, Int.reduceAdd, Int.reduceSub, Int.reduceToNat]) <;> omega) (⟨Nat.zero_le _, hc, hT.symm⟩) (weak_mk (by rfl) (by rfl) ?_) fun y hy N hN => ?_
 ·try simp (disch := omega) only [go_sem, Nat.reduceEqDiff, Nat.reduceAdd, Nat.reduceSub, Int.reduceAdd, Int.reduceSub, Int.reduceToNat]
 ·obtain ⟨acc, c1⟩ := y
  obtain ⟨h1, h2, h3⟩ := hy
  dsimp only at h1 h2 h3
  refine run_den 400 ?_
  try simp (disch := omega) only [go_sem, Nat.reduceEqDiff, Nat.reduceAdd, Nat.reduceSub, Int.reduceAdd, Int.reduceSub, Int.reduceToNat]
  split <;> rename_i h <;> (try simp only [beq_true, beq_false, Bool.not_eq_true', Bool.not_eq_false'] at h) <;> simp (disch := omega) only [go_sem, Nat.reduceEqDiff, Nat.reduceAdd, Nat.reduceSub, Int.reduceAdd, Int.reduceSub, Int.reduceToNat, h] <;> (try simp only [decide_eq_true_eq, decide_eq_false_iff_not, beq_iff_eq, beq_eq_false_iff_ne, bne_iff_ne, bne_eq_false_iff_eq, ne_eq, Decidable.not_not, Bool.and_eq_true, Bool.and_eq_false_iff, Bool.or_eq_true, Bool.or_eq_false_iff, Int.ofNat_lt, Int.ofNat_le, Bool.not_eq_eq_eq_not, Bool.not_true, Bool.not_false] at h) <;> try simp (disch := omega) only [go_sem, Nat.reduceEqDiff, Nat.reduceAdd, Nat.reduceSub, Int.reduceAdd, Int.reduceSub, Int.reduceToNat]
  ·have hb := c1.bv_le b
   have hB := spec_l01Byte b c1 h2
   have o2 := CurD.bn_ok h2
   rw [show n - acc.length = (n - (acc.length + 1)) + 1 from by omega, txtD] at h3
   have hbc := byteC_int (z := c1.bv b) hb.1 (by omega)
   generalize c1.bv b = v at hb hB h3 hbc
   generalize c1.bn b = c2 at hB o2 h3
   refine den_call (by (try simp (disch := omega) only [go_sem, List.length_set, Nat.reduceEqDiff, Nat.reduceAdd, Nat.reduceSub, Int.reduceAdd, Int.reduceSub, Int.reduceToNat]) <;> omega) (hB) [some (0, none), some (1, none)] (by simp only [go_sem]; repeat' first | rfl | constructor | (rw [List.map_set]; rfl) | (simp [List.map_take, List.map_drop] <;> omega)) (by rfl) (run_den 400 ?_)
   simp (disch := omega) only [go_sem, Nat.reduceEqDiff, Nat.reduceAdd, Nat.reduceSub, Int.reduceAdd, Int.reduceSub, Int.reduceToNat]
   refine ⟨by (try simp (disch := omega) only [go_sem, List.length_set, Nat.reduceEqDiff, Nat.reduceAdd, Nat.reduceSub, Int.reduceAdd, Int.reduceSub, Int.reduceToNat]) <;> omega, hN _ (acc ++ [UInt8.ofNat v.toNat], c2) [some (0, none), some (1, none), some (4, none)] (by (try dsimp only); exact ⟨by simp; omega, o2, by rw [List.length_append, List.length_singleton, List.append_assoc]; exact h3⟩) (by simp; omega) (weak_mk (by rfl) (by rfl) ?_)⟩
   try simp (disch := omega) only [go_sem, Nat.reduceEqDiff, Nat.reduceAdd, Nat.reduceSub, Int.reduceAdd, Int.reduceSub, Int.reduceToNat, w8 hb]
   simp [hbc]
  ·rw [show n - acc.length = 0 from by omega] at h3
   simp only [txtD, List.append_nil] at h3
   subst h3
   refine den_fin [some (0, none), some (1, none)] (by (try simp (disch := omega) only [go_sem, List.length_set, Nat.reduceEqDiff, Nat.reduceAdd, Nat.reduceSub, Int.reduceAdd, Int.reduceSub, Int.reduceToNat]) <;> omega) _ (by simp only [go_sem]; rfl) (by rfl) (by rfl) ?_
   simp (disch := omega) only [go_sem, Nat.reduceEqDiff, Nat.reduceAdd, Nat.reduceSub, Int.reduceAdd, Int.reduceSub, Int.reduceToNat]
theorem rep_step {l : List UInt8} {k : Nat} {x : UInt8} (h : k < l.length) (hl : l.take k = List.replicate k x) : (l.set k x).take (k + 1) = List.replicate (k + 1) x := by
 rw [List.take_succ_eq_append_getElem (by simpa using h), List.getElem_set_self, List.take_set, List.set_eq_of_length_le (by rw [List.length_take]; omega), hl, List.replicate_succ']
theorem byte_set (l : List UInt8) (k : Nat) (x : UInt8) : (l.map byteC).set k [.int .u8 (x.toNat : Nat)] = (l.set k x).map byteC := by rw [List.map_set]; rfl
theorem spec_l01Long (n : Nat) (x : UInt8) (hn : n ≤ 5000) : CallA Tryd.prog 48 [.sc (.int .i64 (n : Int)), .sc (.int .u8 (x.toNat : Nat))] [] (.sc (.st (List.replicate n x))) [] := by
 refine callA_of Tryd.func48 (by kernel_rfl) rfl fun E hE => run_den 400 ?_
 simp (disch := omega) only [Tryd.ntmps48, Tryd.results48, go_sem, Nat.reduceEqDiff, Nat.reduceAdd, Nat.reduceSub, Int.reduceAdd, Int.reduceSub, Int.reduceToNat]
 refine den_lp 0 hE (fun s (y : Nat × List UInt8) => s.at [7, 8, 9, 10, 11, 12, 13, 14, 15, 16, 17] [(6, .sc (.int .i64 (y.1 : Nat)))] ([some ⟨y.2.map byteC, 1, 5, true, true⟩])) (fun (y : Nat × List UInt8) => y.1 ≤ n ∧ y.2.length = n ∧ y.2.take y.1 = List.replicate y.1 x) (fun (y : Nat × List UInt8) => n - y.1) (0, List.replicate n 0) [some (0, none)] (by (try simp (disch := omega) only [go_sem, List.length_set, Nat.reduceEqDiff, Nat.reduceAdd, Nat.reduceSub, Int.reduceAdd, Int.reduceSub, Int.reduceToNat]) <;> omega) (⟨Nat.zero_le _, by simp, by simp⟩) (weak_mk (by rfl) (by rfl) ?_) fun y hy N hN => ?_
 ·try simp (disch := omega) only [go_sem, Nat.reduceEqDiff, Nat.reduceAdd, Nat.reduceSub, Int.reduceAdd, Int.reduceSub, Int.reduceToNat]
  try simp [byteC]
 ·obtain ⟨k, l⟩ := y
  obtain ⟨h1, h2, h3⟩ := hy
  dsimp only at h1 h2 h3
  refine run_den 400 ?_
  try simp (disch := omega) only [go_sem, Nat.reduceEqDiff, Nat.reduceAdd, Nat.reduceSub, Int.reduceAdd, Int.reduceSub, Int.reduceToNat]
  split <;> rename_i h <;> (try simp only [beq_true, beq_false, Bool.not_eq_true', Bool.not_eq_false'] at h) <;> simp (disch := omega) only [go_sem, Nat.reduceEqDiff, Nat.reduceAdd, Nat.reduceSub, Int.reduceAdd, Int.reduceSub, Int.reduceToNat, h] <;> (try simp only [decide_eq_true_eq, decide_eq_false_iff_not, beq_iff_eq, beq_eq_false_iff_ne, bne_iff_ne, bne_eq_false_iff_eq, ne_eq, Decidable.not_not, Bool.and_eq_true, Bool.and_eq_false_iff, Bool.or_eq_true, Bool.or_eq_false_iff, Int.ofNat_lt, Int.ofNat_le, Bool.not_eq_eq_eq_not, Bool.not_true, Bool.not_false] at h) <;> try simp (disch := omega) only [go_sem, Nat.reduceEqDiff, Nat.reduceAdd, Nat.reduceSub, Int.reduceAdd, Int.reduceSub, Int.reduceToNat]
  ·try simp (disch := omega) only [go_sem, Nat.reduceEqDiff, Nat.reduceAdd, Nat.reduceSub, Int.reduceAdd, Int.reduceSub, Int.reduceToNat]
   refine ⟨by (try simp (disch := omega) only [go_sem, List.length_set, Nat.reduceEqDiff, Nat.reduceAdd, Nat.reduceSub, Int.reduceAdd, Int.reduceSub, Int.reduceToNat]) <;> omega, hN _ (k + 1, l.set k x) [some (0, none)] (by (try dsimp only); exact ⟨by omega, by rw [List.length_set]; exact h2, rep_step (by omega) h3⟩) (by (try dsimp only); omega) (weak_mk (by rfl) (by rfl) ?_)⟩
   try simp (disch := omega) only [go_sem, Nat.reduceEqDiff, Nat.reduceAdd, Nat.reduceSub, Int.reduceAdd, Int.reduceSub, Int.reduceToNat, byteC, byte_set]
  ·have hk : k = n := by omega
   subst hk
   rw [List.take_of_length_le (by omega)] at h3
   subst h3
   try simp (disch := omega) only [go_sem, Nat.reduceEqDiff, Nat.reduceAdd, Nat.reduceSub, Int.reduceAdd, Int.reduceSub, Int.reduceToNat]
   refine den_fin [] (by (try simp (disch := omega) only [go_sem, List.length_set, Nat.reduceEqDiff, Nat.reduceAdd, Nat.reduceSub, Int.reduceAdd, Int.reduceSub, Int.reduceToNat]) <;> omega) _ (by simp only [go_sem]; rfl) (by rfl) (by rfl) ?_
   simp (disch := omega) only [go_sem, Nat.reduceEqDiff, Nat.reduceAdd, Nat.reduceSub, Int.reduceAdd, Int.reduceSub, Int.reduceToNat]
   simp [byteSc, byteC]
def CurD.pickS (c : CurD) (b : List UInt8) (l : List (List UInt8)) : List UInt8 := l.getD (c.below b l.length).1.toNat []
theorem CurD.pickS_mem (c : CurD) (b : List UInt8) {l : List (List UInt8)} (h : 0 < l.length) : c.pickS b l ∈ l := by
 have hb := c.below_lt b (n := (l.length : Int)) (by omega)
 rw [CurD.pickS, List.getD_eq_getElem?_getD, List.getElem?_eq_getElem (by omega)]
 exact List.getElem_mem _
theorem spec_l01Pick (b : List UInt8) (c : CurD) (hc : c.ok b) (l : List (List UInt8)) (h0 : 0 < l.length) (hl : l.length ≤ 1000) : CallA Tryd.prog 59 [.sc (.pt 1 0 0), .sc (.sl 2 0 l.length)] (c.hp b ++ [some ⟨l.map strC, 1, 9, false, true⟩]) (.sc (.st (c.pickS b l))) (((c.below b l.length).2.hp b) ++ [some ⟨l.map strC, 1, 9, false, true⟩]) := by
 have hb := c.below_lt b (n := (l.length : Int)) (by omega)
 have hp : c.pickS b l = l.getD (c.below b l.length).1.toNat [] := rfl
 have hk := spec_l01Below b c hc l.length
 rw [hp]
 generalize c.below b l.length = r at *
 obtain ⟨v, c1⟩ := r
 dsimp only at hb hk ⊢
 obtain ⟨k, rfl⟩ := Int.eq_ofNat_of_zero_le hb.1
 have hlt : k < l.length := by omega
 rw [Int.toNat_natCast, List.getD_eq_getElem?_getD, List.getElem?_eq_getElem hlt, Option.getD_some]
 refine callA_of Tryd.func59 (by kernel_rfl) rfl fun E hE => run_den 400 ?_
 simp (disch := omega) only [Tryd.ntmps59, Tryd.results59, go_sem, Nat.reduceEqDiff, Nat.reduceAdd, Nat.reduceSub, Int.reduceAdd, Int.reduceSub, Int.reduceToNat]
 refine den_call (by (try simp (disch := omega) only [go_sem, List.length_set, Nat.reduceEqDiff, Nat.reduceAdd, Nat.reduceSub, Int.reduceAdd, Int.reduceSub, Int.reduceToNat]) <;> omega) (hk) [some (0, none), some (1, none)] (by simp only [go_sem]; repeat' first | rfl | constructor | (rw [List.map_set]; rfl) | (simp [List.map_take, List.map_drop] <;> omega)) (by rfl) (run_den 400 ?_)
 simp (disch := omega) only [go_sem, Nat.reduceEqDiff, Nat.reduceAdd, Nat.reduceSub, Int.reduceAdd, Int.reduceSub, Int.reduceToNat]
 try simp (disch := omega) only [go_sem, Nat.reduceEqDiff, Nat.reduceAdd, Nat.reduceSub, Int.reduceAdd, Int.reduceSub, Int.reduceToNat, strs_get hlt]
 refine den_fin [some (0, none), some (1, none), some (2, none)] (by (try simp (disch := omega) only [go_sem, List.length_set, Nat.reduceEqDiff, Nat.reduceAdd, Nat.reduceSub, Int.reduceAdd, Int.reduceSub, Int.reduceToNat]) <;> omega) _ (by simp only [go_sem]; rfl) (by rfl) (by rfl) ?_
 simp (disch := omega) only [go_sem, Nat.reduceEqDiff, Nat.reduceAdd, Nat.reduceSub, Int.reduceAdd, Int.reduceSub, Int.reduceToNat]
theorem spec_l15Tag (b : List UInt8) (c : CurD) (hc : c.ok b) : ∃ (x : TagD) (c' : CurD), c'.ok b ∧ x.wf ∧ CallA Tryd.prog 58 [.sc (.pt 1 0 0)] (c.hp b) (.ag x.cs) (c'.hp b) := by
 have h1 := spec_l01Below b c hc 4
 have o1 := CurD.below_ok hc 4
 have b1 := c.below_lt b (n := 4) (by omega)
 generalize c.below b 4 = r1 at h1 o1 b1
 obtain ⟨v1, c1⟩ := r1
 dsimp only at h1 o1 b1
 have h2 := spec_l01Below b c1 o1 3
 have o2 := CurD.below_ok o1 3
 have b2 := c1.below_lt b (n := 3) (by omega)
 generalize c1.below b 3 = r2 at h2 o2 b2
 obtain ⟨v2, c2⟩ := r2
 dsimp only at h2 o2 b2
 have h3 := spec_l01Below b c2 o2 3
 have o3 := CurD.below_ok o2 3
 have b3 := c2.below_lt b (n := 3) (by omega)
 generalize c2.below b 3 = r3 at h3 o3 b3
 obtain ⟨v3, c3⟩ := r3
 dsimp only at h3 o3 b3
 have h4 := spec_l01Below b c3 o3 4
 have o4 := CurD.below_ok o3 4
 have b4 := c3.below_lt b (n := 4) (by omega)
 generalize c3.below b 4 = r4 at h4 o4 b4
 obtain ⟨v4, c4⟩ := r4
 dsimp only at h4 o4 b4
 have h5 := spec_l01Below b c4 o4 4
 have o5 := CurD.below_ok o4 4
 have b5 := c4.below_lt b (n := 4) (by omega)
 generalize c4.below b 4 = r5 at h5 o5 b5
 obtain ⟨v5, c5⟩ := r5
 dsimp only at h5 o5 b5
 refine ⟨⟨v1, 1 + v2, 1 + v3, v4, v5⟩, c5, o5, by simp only [TagD.wf, I64]; omega, ?_⟩
 refine callA_of Tryd.func58 (by kernel_rfl) rfl fun E hE => run_den 400 ?_
 simp (disch := omega) only [Tryd.ntmps58, Tryd.results58, go_sem, Nat.reduceEqDiff, Nat.reduceAdd, Nat.reduceSub, Int.reduceAdd, Int.reduceSub, Int.reduceToNat]
 refine den_call (by (try simp (disch := omega) only [go_sem, List.length_set, Nat.reduceEqDiff, Nat.reduceAdd, Nat.reduceSub, Int.reduceAdd, Int.reduceSub, Int.reduceToNat]) <;> omega) (h1) [some (0, none), some (1, none)] (by simp only [go_sem]; repeat' first | rfl | constructor | (rw [List.map_set]; rfl) | (simp [List.map_take, List.map_drop] <;> omega)) (by rfl) (run_den 400 ?_)
 simp (disch := omega) only [go_sem, Nat.reduceEqDiff, Nat.reduceAdd, Nat.reduceSub, Int.reduceAdd, Int.reduceSub, Int.reduceToNat]
 refine den_call (by (try simp (disch := omega) only [go_sem, List.length_set, Nat.reduceEqDiff, Nat.reduceAdd, Nat.reduceSub, Int.reduceAdd, Int.reduceSub, Int.reduceToNat]) <;> omega) (h2) [some (0, none), some (1, none)] (by simp only [go_sem]; repeat' first | rfl | constructor | (rw [List.map_set]; rfl) | (simp [List.map_take, List.map_drop] <;> omega)) (by rfl) (run_den 400 ?_)
 simp (disch := omega) only [go_sem, Nat.reduceEqDiff, Nat.reduceAdd, Nat.reduceSub, Int.reduceAdd, Int.reduceSub, Int.reduceToNat]
 refine den_call (by (try simp (disch := omega) only [go_sem, List.length_set, Nat.reduceEqDiff, Nat.reduceAdd, Nat.reduceSub, Int.reduceAdd, Int.reduceSub, Int.reduceToNat]) <;> omega) (h3) [some (0, none), some (1, none)] (by simp only [go_sem]; repeat' first | rfl | constructor | (rw [List.map_set]; rfl) | (simp [List.map_take, List.map_drop] <;> omega)) (by rfl) (run_den 400 ?_)
 simp (disch := omega) only [go_sem, Nat.reduceEqDiff, Nat.reduceAdd, Nat.reduceSub, Int.reduceAdd, Int.reduceSub, Int.reduceToNat]
 refine den_call (by (try simp (disch := omega) only [go_sem, List.length_set, Nat.reduceEqDiff, Nat.reduceAdd, Nat.reduceSub, Int.reduceAdd, Int.reduceSub, Int.reduceToNat]) <;> omega) (h4) [some (0, none), some (1, none)] (by simp only [go_sem]; repeat' first | rfl | constructor | (rw [List.map_set]; rfl) | (simp [List.map_take, List.map_drop] <;> omega)) (by rfl) (run_den 400 ?_)
 simp (disch := omega) only [go_sem, Nat.reduceEqDiff, Nat.reduceAdd, Nat.reduceSub, Int.reduceAdd, Int.reduceSub, Int.reduceToNat]
 refine den_call (by (try simp (disch := omega) only [go_sem, List.length_set, Nat.reduceEqDiff, Nat.reduceAdd, Nat.reduceSub, Int.reduceAdd, Int.reduceSub, Int.reduceToNat]) <;> omega) (h5) [some (0, none), some (1, none)] (by simp only [go_sem]; repeat' first | rfl | constructor | (rw [List.map_set]; rfl) | (simp [List.map_take, List.map_drop] <;> omega)) (by rfl) (run_den 400 ?_)
 simp (disch := omega) only [go_sem, Nat.reduceEqDiff, Nat.reduceAdd, Nat.reduceSub, Int.reduceAdd, Int.reduceSub, Int.reduceToNat]
 refine den_fin [some (0, none), some (1, none)] (by (try simp (disch := omega) only [go_sem, List.length_set, Nat.reduceEqDiff, Nat.reduceAdd, Nat.reduceSub, Int.reduceAdd, Int.reduceSub, Int.reduceToNat]) <;> omega) _ (by simp only [go_sem]; rfl) (by rfl) (by rfl) ?_
 simp (disch := omega) only [go_sem, Nat.reduceEqDiff, Nat.reduceAdd, Nat.reduceSub, Int.reduceAdd, Int.reduceSub, Int.reduceToNat]
theorem pols_wf : ∀ p ∈ pols, p.wf := by
 intro p hp
 simp only [pols, List.mem_cons, List.not_mem_nil, or_false] at hp
 rcases hp with rfl | rfl | rfl | rfl | rfl | rfl <;> exact ⟨⟨by decide, by decide⟩, ⟨by decide, by decide⟩⟩
theorem spec_l12Any (b : List UInt8) (c : CurD) (hc : c.ok b) : ∃ (x : PolicyD) (c' : CurD), c'.ok b ∧ x.wf ∧ CallA Tryd.prog 36 [.sc (.pt 1 0 0)] (c.hp b) (.ag x.cs) (c'.hp b) := by
 obtain ⟨p, c0, o0, hp, h0⟩ := spec_l12Policy b c hc
 have wp := pols_wf p hp
 simp only [PolicyD.wf, I64] at wp
 have h1 := spec_l01Once b c0 o0 6
 have o1 := CurD.below_ok o0 6
 have b1 := c0.below_lt b (n := 6) (by omega)
 generalize c0.below b 6 = r1 at h1 o1 b1
 obtain ⟨v1, c1⟩ := r1
 dsimp only at h1 o1 b1
 generalize hq1 : (v1 == 0) = q1 at h1
 rcases Bool.eq_false_or_eq_true q1 with e1 | e1 <;> rw [e1] at h1
 ·have h2 := spec_l01PickInt b c1 o1 [0, 8, 9, -1] (by decide) (by decide)
  have o2 := CurD.below_ok o1 (b := b) 4
  have m2 := c1.pick_mem b (l := [0, 8, 9, -1]) (by decide)
  have w2 := (by decide : ∀ x ∈ ([0, 8, 9, -1] : List Int), -1 ≤ x ∧ x ≤ 9) _ m2
  rw [show (([0, 8, 9, -1] : List Int).length : Int) = 4 from rfl] at h2
  generalize c1.pick b [0, 8, 9, -1] = v2 at h2 w2
  clear m2
  generalize c1.below b 4 = r2 at h2 o2
  obtain ⟨u2, c2⟩ := r2
  dsimp only at h2 o2
  have h3 := spec_l01Once b c2 o2 12
  have o3 := CurD.below_ok o2 12
  have b3 := c2.below_lt b (n := 12) (by omega)
  generalize c2.below b 12 = r3 at h3 o3 b3
  obtain ⟨v3, c3⟩ := r3
  dsimp only at h3 o3 b3
  generalize hq3 : (v3 == 0) = q3 at h3
  rcases Bool.eq_false_or_eq_true q3 with e3 | e3 <;> rw [e3] at h3
  ·have h4 := spec_l01Below b c3 o3 5
   have o4 := CurD.below_ok o3 5
   have b4 := c3.below_lt b (n := 5) (by omega)
   generalize c3.below b 5 = r4 at h4 o4 b4
   obtain ⟨v4, c4⟩ := r4
   dsimp only at h4 o4 b4
   refine ⟨⟨v4, v2⟩, c4, o4, by simp only [PolicyD.wf, I64]; omega, ?_⟩
   refine callA_of Tryd.func36 (by kernel_rfl) rfl fun E hE => run_den 400 ?_
   simp (disch := omega) only [Tryd.ntmps36, Tryd.results36, go_sem, Nat.reduceEqDiff, Nat.reduceAdd, Nat.reduceSub, Int.reduceAdd, Int.reduceSub, Int.reduceToNat]
   refine den_call (by (try simp (disch := omega) only [go_sem, List.length_set, Nat.reduceEqDiff, Nat.reduceAdd, Nat.reduceSub, Int.reduceAdd, Int.reduceSub, Int.reduceToNat]) <;> omega) (h0) [some (0, none), some (1, none)] (by simp only [go_sem]; repeat' first | rfl | constructor | (rw [List.map_set]; rfl) | (simp [List.map_take, List.map_drop] <;> omega)) (by rfl) (run_den 400 ?_)
   simp (disch := omega) only [go_sem, Nat.reduceEqDiff, Nat.reduceAdd, Nat.reduceSub, Int.reduceAdd, Int.reduceSub, Int.reduceToNat]
   refine den_call (by (try simp (disch := omega) only [go_sem, List.length_set, Nat.reduceEqDiff, Nat.reduceAdd, Nat.reduceSub, Int.reduceAdd, Int.reduceSub, Int.reduceToNat]) <;> omega) (h1) [some (0, none), some (1, none)] (by simp only [go_sem]; repeat' first | rfl | constructor | (rw [List.map_set]; rfl) | (simp [List.map_take, List.map_drop] <;> omega)) (by rfl) (run_den 400 ?_)
   simp (disch := omega) only [go_sem, Nat.reduceEqDiff, Nat.reduceAdd, Nat.reduceSub, Int.reduceAdd, Int.reduceSub, Int.reduceToNat]
   refine den_call (by (try simp (disch := omega) only [go_sem, List.length_set, Nat.reduceEqDiff, Nat.reduceAdd, Nat.reduceSub, Int.reduceAdd, Int.reduceSub, Int.reduceToNat]) <;> omega) (h2) [some (0, none), some (1, none), some (4, none)] (by simp only [go_sem]; repeat' first | rfl | constructor | (rw [List.map_set]; rfl) | (simp [List.map_take, List.map_drop] <;> omega)) (by rfl) (run_den 400 ?_)
   simp (disch := omega) only [go_sem, Nat.reduceEqDiff, Nat.reduceAdd, Nat.reduceSub, Int.reduceAdd, Int.reduceSub, Int.reduceToNat]
   refine den_call (by (try simp (disch := omega) only [go_sem, List.length_set, Nat.reduceEqDiff, Nat.reduceAdd, Nat.reduceSub, Int.reduceAdd, Int.reduceSub, Int.reduceToNat]) <;> omega) (h3) [some (0, none), some (1, none)] (by simp only [go_sem]; repeat' first | rfl | constructor | (rw [List.map_set]; rfl) | (simp [List.map_take, List.map_drop] <;> omega)) (by rfl) (run_den 400 ?_)
   simp (disch := omega) only [go_sem, Nat.reduceEqDiff, Nat.reduceAdd, Nat.reduceSub, Int.reduceAdd, Int.reduceSub, Int.reduceToNat]
   refine den_call (by (try simp (disch := omega) only [go_sem, List.length_set, Nat.reduceEqDiff, Nat.reduceAdd, Nat.reduceSub, Int.reduceAdd, Int.reduceSub, Int.reduceToNat]) <;> omega) (h4) [some (0, none), some (1, none)] (by simp only [go_sem]; repeat' first | rfl | constructor | (rw [List.map_set]; rfl) | (simp [List.map_take, List.map_drop] <;> omega)) (by rfl) (run_den 400 ?_)
   simp (disch := omega) only [go_sem, Nat.reduceEqDiff, Nat.reduceAdd, Nat.reduceSub, Int.reduceAdd, Int.reduceSub, Int.reduceToNat]
   refine den_fin [some (0, none), some (1, none)] (by (try simp (disch := omega) only [go_sem, List.length_set, Nat.reduceEqDiff, Nat.reduceAdd, Nat.reduceSub, Int.reduceAdd, Int.reduceSub, Int.reduceToNat]) <;> omega) _ (by simp only [go_sem]; rfl) (by rfl) (by rfl) ?_
   simp (disch := omega) only [go_sem, Nat.reduceEqDiff, Nat.reduceAdd, Nat.reduceSub, Int.reduceAdd, Int.reduceSub, Int.reduceToNat]
  ·refine ⟨⟨p.kind, v2⟩, c3, o3, by simp only [PolicyD.wf, I64]; omega, ?_⟩
   refine callA_of Tryd.func36 (by kernel_rfl) rfl fun E hE => run_den 400 ?_
   simp (disch := omega) only [Tryd.ntmps36, Tryd.results36, go_sem, Nat.reduceEqDiff, Nat.reduceAdd, Nat.reduceSub, Int.reduceAdd, Int.reduceSub, Int.reduceToNat]
   refine den_call (by (try simp (disch := omega) only [go_sem, List.length_set, Nat.reduceEqDiff, Nat.reduceAdd, Nat.reduceSub, Int.reduceAdd, Int.reduceSub, Int.reduceToNat]) <;> omega) (h0) [some (0, none), some (1, none)] (by simp only [go_sem]; repeat' first | rfl | constructor | (rw [List.map_set]; rfl) | (simp [List.map_take, List.map_drop] <;> omega)) (by rfl) (run_den 400 ?_)
   simp (disch := omega) only [go_sem, Nat.reduceEqDiff, Nat.reduceAdd, Nat.reduceSub, Int.reduceAdd, Int.reduceSub, Int.reduceToNat]
   refine den_call (by (try simp (disch := omega) only [go_sem, List.length_set, Nat.reduceEqDiff, Nat.reduceAdd, Nat.reduceSub, Int.reduceAdd, Int.reduceSub, Int.reduceToNat]) <;> omega) (h1) [some (0, none), some (1, none)] (by simp only [go_sem]; repeat' first | rfl | constructor | (rw [List.map_set]; rfl) | (simp [List.map_take, List.map_drop] <;> omega)) (by rfl) (run_den 400 ?_)
   simp (disch := omega) only [go_sem, Nat.reduceEqDiff, Nat.reduceAdd, Nat.reduceSub, Int.reduceAdd, Int.reduceSub, Int.reduceToNat]
   refine den_call (by (try simp (disch := omega) only [go_sem, List.length_set, Nat.reduceEqDiff, Nat.reduceAdd, Nat.reduceSub, Int.reduceAdd, Int.reduceSub, Int.reduceToNat]) <;> omega) (h2) [some (0, none), some (1, none), some (4, none)] (by simp only [go_sem]; repeat' first | rfl | constructor | (rw [List.map_set]; rfl) | (simp [List.map_take, List.map_drop] <;> omega)) (by rfl) (run_den 400 ?_)
   simp (disch := omega) only [go_sem, Nat.reduceEqDiff, Nat.reduceAdd, Nat.reduceSub, Int.reduceAdd, Int.reduceSub, Int.reduceToNat]
   refine den_call (by (try simp (disch := omega) only [go_sem, List.length_set, Nat.reduceEqDiff, Nat.reduceAdd, Nat.reduceSub, Int.reduceAdd, Int.reduceSub, Int.reduceToNat]) <;> omega) (h3) [some (0, none), some (1, none)] (by simp only [go_sem]; repeat' first | rfl | constructor | (rw [List.map_set]; rfl) | (simp [List.map_take, List.map_drop] <;> omega)) (by rfl) (run_den 400 ?_)
   simp (disch := omega) only [go_sem, Nat.reduceEqDiff, Nat.reduceAdd, Nat.reduceSub, Int.reduceAdd, Int.reduceSub, Int.reduceToNat]
   refine den_fin [some (0, none), some (1, none)] (by (try simp (disch := omega) only [go_sem, List.length_set, Nat.reduceEqDiff, Nat.reduceAdd, Nat.reduceSub, Int.reduceAdd, Int.reduceSub, Int.reduceToNat]) <;> omega) _ (by simp only [go_sem]; rfl) (by rfl) (by rfl) ?_
   simp (disch := omega) only [go_sem, Nat.reduceEqDiff, Nat.reduceAdd, Nat.reduceSub, Int.reduceAdd, Int.reduceSub, Int.reduceToNat]
 ·have h2 := spec_l01Once b c1 o1 12
  have o2 := CurD.below_ok o1 12
  have b2 := c1.below_lt b (n := 12) (by omega)
  generalize c1.below b 12 = r2 at h2 o2 b2
  obtain ⟨v2, c2⟩ := r2
  dsimp only at h2 o2 b2
  generalize hq2 : (v2 == 0) = q2 at h2
  rcases Bool.eq_false_or_eq_true q2 with e2 | e2 <;> rw [e2] at h2
  ·have h3 := spec_l01Below b c2 o2 5
   have o3 := CurD.below_ok o2 5
   have b3 := c2.below_lt b (n := 5) (by omega)
   generalize c2.below b 5 = r3 at h3 o3 b3
   obtain ⟨v3, c3⟩ := r3
   dsimp only at h3 o3 b3
   refine ⟨⟨v3, p.many⟩, c3, o3, by simp only [PolicyD.wf, I64]; omega, ?_⟩
   refine callA_of Tryd.func36 (by kernel_rfl) rfl fun E hE => run_den 400 ?_
   simp (disch := omega) only [Tryd.ntmps36, Tryd.results36, go_sem, Nat.reduceEqDiff, Nat.reduceAdd, Nat.reduceSub, Int.reduceAdd, Int.reduceSub, Int.reduceToNat]
   refine den_call (by (try simp (disch := omega) only [go_sem, List.length_set, Nat.reduceEqDiff, Nat.reduceAdd, Nat.reduceSub, Int.reduceAdd, Int.reduceSub, Int.reduceToNat]) <;> omega) (h0) [some (0, none), some (1, none)] (by simp only [go_sem]; repeat' first | rfl | constructor | (rw [List.map_set]; rfl) | (simp [List.map_take, List.map_drop] <;> omega)) (by rfl) (run_den 400 ?_)
   simp (disch := omega) only [go_sem, Nat.reduceEqDiff, Nat.reduceAdd, Nat.reduceSub, Int.reduceAdd, Int.reduceSub, Int.reduceToNat]
   refine den_call (by (try simp (disch := omega) only [go_sem, List.length_set, Nat.reduceEqDiff, Nat.reduceAdd, Nat.reduceSub, Int.reduceAdd, Int.reduceSub, Int.reduceToNat]) <;> omega) (h1) [some (0, none), some (1, none)] (by simp only [go_sem]; repeat' first | rfl | constructor | (rw [List.map_set]; rfl) | (simp [List.map_take, List.map_drop] <;> omega)) (by rfl) (run_den 400 ?_)
   simp (disch := omega) only [go_sem, Nat.reduceEqDiff, Nat.reduceAdd, Nat.reduceSub, Int.reduceAdd, Int.reduceSub, Int.reduceToNat]
   refine den_call (by (try simp (disch := omega) only [go_sem, List.length_set, Nat.reduceEqDiff, Nat.reduceAdd, Nat.reduceSub, Int.reduceAdd, Int.reduceSub, Int.reduceToNat]) <;> omega) (h2) [some (0, none), some (1, none)] (by simp only [go_sem]; repeat' first | rfl | constructor | (rw [List.map_set]; rfl) | (simp [List.map_take, List.map_drop] <;> omega)) (by rfl) (run_den 400 ?_)
   simp (disch := omega) only [go_sem, Nat.reduceEqDiff, Nat.reduceAdd, Nat.reduceSub, Int.reduceAdd, Int.reduceSub, Int.reduceToNat]
   refine den_call (by (try simp (disch := omega) only [go_sem, List.length_set, Nat.reduceEqDiff, Nat.reduceAdd, Nat.reduceSub, Int.reduceAdd, Int.reduceSub, Int.reduceToNat]) <;> omega) (h3) [some (0, none), some (1, none)] (by simp only [go_sem]; repeat' first | rfl | constructor | (rw [List.map_set]; rfl) | (simp [List.map_take, List.map_drop] <;> omega)) (by rfl) (run_den 400 ?_)
   simp (disch := omega) only [go_sem, Nat.reduceEqDiff, Nat.reduceAdd, Nat.reduceSub, Int.reduceAdd, Int.reduceSub, Int.reduceToNat]
   refine den_fin [some (0, none), some (1, none)] (by (try simp (disch := omega) only [go_sem, List.length_set, Nat.reduceEqDiff, Nat.reduceAdd, Nat.reduceSub, Int.reduceAdd, Int.reduceSub, Int.reduceToNat]) <;> omega) _ (by simp only [go_sem]; rfl) (by rfl) (by rfl) ?_
   simp (disch := omega) only [go_sem, Nat.reduceEqDiff, Nat.reduceAdd, Nat.reduceSub, Int.reduceAdd, Int.reduceSub, Int.reduceToNat]
  ·refine ⟨⟨p.kind, p.many⟩, c2, o2, by simp only [PolicyD.wf, I64]; omega, ?_⟩
   refine callA_of Tryd.func36 (by kernel_rfl) rfl fun E hE => run_den 400 ?_
   simp (disch := omega) only [Tryd.ntmps36, Tryd.results36, go_sem, Nat.reduceEqDiff, Nat.reduceAdd, Nat.reduceSub, Int.reduceAdd, Int.reduceSub, Int.reduceToNat]
   refine den_call (by (try simp (disch := omega) only [go_sem, List.length_set, Nat.reduceEqDiff, Nat.reduceAdd, Nat.reduceSub, Int.reduceAdd, Int.reduceSub, Int.reduceToNat]) <;> omega) (h0) [some (0, none), some (1, none)] (by simp only [go_sem]; repeat' first | rfl | constructor | (rw [List.map_set]; rfl) | (simp [List.map_take, List.map_drop] <;> omega)) (by rfl) (run_den 400 ?_)
   simp (disch := omega) only [go_sem, Nat.reduceEqDiff, Nat.reduceAdd, Nat.reduceSub, Int.reduceAdd, Int.reduceSub, Int.reduceToNat]
   refine den_call (by (try simp (disch := omega) only [go_sem, List.length_set, Nat.reduceEqDiff, Nat.reduceAdd, Nat.reduceSub, Int.reduceAdd, Int.reduceSub, Int.reduceToNat]) <;> omega) (h1) [some (0, none), some (1, none)] (by simp only [go_sem]; repeat' first | rfl | constructor | (rw [List.map_set]; rfl) | (simp [List.map_take, List.map_drop] <;> omega)) (by rfl) (run_den 400 ?_)
   simp (disch := omega) only [go_sem, Nat.reduceEqDiff, Nat.reduceAdd, Nat.reduceSub, Int.reduceAdd, Int.reduceSub, Int.reduceToNat]
   refine den_call (by (try simp (disch := omega) only [go_sem, List.length_set, Nat.reduceEqDiff, Nat.reduceAdd, Nat.reduceSub, Int.reduceAdd, Int.reduceSub, Int.reduceToNat]) <;> omega) (h2) [some (0, none), some (1, none)] (by simp only [go_sem]; repeat' first | rfl | constructor | (rw [List.map_set]; rfl) | (simp [List.map_take, List.map_drop] <;> omega)) (by rfl) (run_den 400 ?_)
   simp (disch := omega) only [go_sem, Nat.reduceEqDiff, Nat.reduceAdd, Nat.reduceSub, Int.reduceAdd, Int.reduceSub, Int.reduceToNat]
   refine den_fin [some (0, none), some (1, none)] (by (try simp (disch := omega) only [go_sem, List.length_set, Nat.reduceEqDiff, Nat.reduceAdd, Nat.reduceSub, Int.reduceAdd, Int.reduceSub, Int.reduceToNat]) <;> omega) _ (by simp only [go_sem]; rfl) (by rfl) (by rfl) ?_
   simp (disch := omega) only [go_sem, Nat.reduceEqDiff, Nat.reduceAdd, Nat.reduceSub, Int.reduceAdd, Int.reduceSub, Int.reduceToNat]
theorem spec_l16Letter (b : List UInt8) (c : CurD) (hc : c.ok b) : ∃ (x : LetterD) (c' : CurD), c'.ok b ∧ x.wf ∧ CallA Tryd.prog 45 [.sc (.pt 1 0 0)] (c.hp b) (.ag x.cs) (c'.hp b) := by
 have h1 := spec_l01Below b c hc 13
 have o1 := CurD.below_ok hc 13
 have b1 := c.below_lt b (n := 13) (by omega)
 generalize c.below b 13 = r1 at h1 o1 b1
 obtain ⟨v1, c1⟩ := r1
 dsimp only at h1 o1 b1
 have h2 := spec_l01PickInt b c1 o1 [11, 12, 21, 22, 31] (by decide) (by decide)
 have o2 := CurD.below_ok o1 (b := b) 5
 have m2 := c1.pick_mem b (l := [11, 12, 21, 22, 31]) (by decide)
 have w2 := (by decide : ∀ x ∈ ([11, 12, 21, 22, 31] : List Int), 11 ≤ x ∧ x ≤ 31) _ m2
 rw [show (([11, 12, 21, 22, 31] : List Int).length : Int) = 5 from rfl] at h2
 generalize c1.pick b [11, 12, 21, 22, 31] = v2 at h2 w2
 clear m2
 generalize c1.below b 5 = r2 at h2 o2
 obtain ⟨u2, c2⟩ := r2
 dsimp only at h2 o2
 have h3 := spec_l01PickInt b c2 o2 [11, 12, 21, 22, 31] (by decide) (by decide)
 have o3 := CurD.below_ok o2 (b := b) 5
 have m3 := c2.pick_mem b (l := [11, 12, 21, 22, 31]) (by decide)
 have w3 := (by decide : ∀ x ∈ ([11, 12, 21, 22, 31] : List Int), 11 ≤ x ∧ x ≤ 31) _ m3
 rw [show (([11, 12, 21, 22, 31] : List Int).length : Int) = 5 from rfl] at h3
 generalize c2.pick b [11, 12, 21, 22, 31] = v3 at h3 w3
 clear m3
 generalize c2.below b 5 = r3 at h3 o3
 obtain ⟨u3, c3⟩ := r3
 dsimp only at h3 o3
 have h4 := spec_l01Below b c3 o3 3
 have o4 := CurD.below_ok o3 3
 have b4 := c3.below_lt b (n := 3) (by omega)
 generalize c3.below b 3 = r4 at h4 o4 b4
 obtain ⟨v4, c4⟩ := r4
 dsimp only at h4 o4 b4
 have h5 := spec_l01Below b c4 o4 3
 have o5 := CurD.below_ok o4 3
 have b5 := c4.below_lt b (n := 3) (by omega)
 generalize c4.below b 3 = r5 at h5 o5 b5
 obtain ⟨v5, c5⟩ := r5
 dsimp only at h5 o5 b5
 have h6 := spec_l01PickInt b c5 o5 [101, 102, 7] (by decide) (by decide)
 have o6 := CurD.below_ok o5 (b := b) 3
 have m6 := c5.pick_mem b (l := [101, 102, 7]) (by decide)
 have w6 := (by decide : ∀ x ∈ ([101, 102, 7] : List Int), 7 ≤ x ∧ x ≤ 102) _ m6
 rw [show (([101, 102, 7] : List Int).length : Int) = 3 from rfl] at h6
 generalize c5.pick b [101, 102, 7] = v6 at h6 w6
 clear m6
 generalize c5.below b 3 = r6 at h6 o6
 obtain ⟨u6, c6⟩ := r6
 dsimp only at h6 o6
 have h7 := spec_l01Below b c6 o6 9
 have o7 := CurD.below_ok o6 9
 have b7 := c6.below_lt b (n := 9) (by omega)
 generalize c6.below b 9 = r7 at h7 o7 b7
 obtain ⟨v7, c7⟩ := r7
 dsimp only at h7 o7 b7
 have h8 := spec_l01Below b c7 o7 9
 have o8 := CurD.below_ok o7 9
 have b8 := c7.below_lt b (n := 9) (by omega)
 generalize c7.below b 9 = r8 at h8 o8 b8
 obtain ⟨v8, c8⟩ := r8
 dsimp only at h8 o8 b8
 have h9 := spec_l01Below b c8 o8 9
 have o9 := CurD.below_ok o8 9
 have b9 := c8.below_lt b (n := 9) (by omega)
 generalize c8.below b 9 = r9 at h9 o9 b9
 obtain ⟨v9, c9⟩ := r9
 dsimp only at h9 o9 b9
 have h10 := spec_l01Below b c9 o9 4
 have o10 := CurD.below_ok o9 4
 have b10 := c9.below_lt b (n := 4) (by omega)
 generalize c9.below b 4 = r10 at h10 o10 b10
 obtain ⟨v10, c10⟩ := r10
 dsimp only at h10 o10 b10
 have h11 := spec_l01PickInt b c10 o10 [11, 12, 13, 21, 22, 23, 31] (by decide) (by decide)
 have o11 := CurD.below_ok o10 (b := b) 7
 have m11 := c10.pick_mem b (l := [11, 12, 13, 21, 22, 23, 31]) (by decide)
 have w11 := (by decide : ∀ x ∈ ([11, 12, 13, 21, 22, 23, 31] : List Int), 11 ≤ x ∧ x ≤ 31) _ m11
 rw [show (([11, 12, 13, 21, 22, 23, 31] : List Int).length : Int) = 7 from rfl] at h11
 generalize c10.pick b [11, 12, 13, 21, 22, 23, 31] = v11 at h11 w11
 clear m11
 generalize c10.below b 7 = r11 at h11 o11
 obtain ⟨u11, c11⟩ := r11
 dsimp only at h11 o11
 have h12 := spec_l01Below b c11 o11 30
 have o12 := CurD.below_ok o11 30
 have b12 := c11.below_lt b (n := 30) (by omega)
 generalize c11.below b 30 = r12 at h12 o12 b12
 obtain ⟨v12, c12⟩ := r12
 dsimp only at h12 o12 b12
 have h13 := spec_l01Once b c12 o12 3
 have o13 := CurD.below_ok o12 3
 have b13 := c12.below_lt b (n := 3) (by omega)
 generalize c12.below b 3 = r13 at h13 o13 b13
 obtain ⟨v13, c13⟩ := r13
 dsimp only at h13 o13 b13
 generalize hq13 : (v13 == 0) = q13 at h13
 rcases Bool.eq_false_or_eq_true q13 with e13 | e13 <;> rw [e13] at h13
 ·obtain ⟨t, c14, o14, w14, h14⟩ := spec_l15Tag b c13 o13
  have w14 := w14
  obtain ⟨t1, t2, t3, t4, t5⟩ := t
  by_cases e11 : 1 + v1 = 11
  ·have h15 := spec_l01Pick b c14 o14 [[97], [101, 118, 105, 108], [122, 122], []] (by decide) (by decide)
   have o15 := CurD.below_ok o14 (b := b) 4
   have m15 := c14.pickS_mem b (l := [[97], [101, 118, 105, 108], [122, 122], []]) (by decide)
   have w15 := (by decide : ∀ x ∈ ([[97], [101, 118, 105, 108], [122, 122], []] : List (List UInt8)), x.length ≤ 20) _ m15
   rw [show (([[97], [101, 118, 105, 108], [122, 122], []] : List (List UInt8)).length : Int) = 4 from rfl] at h15
   generalize c14.pickS b [[97], [101, 118, 105, 108], [122, 122], []] = v15 at h15 w15
   clear m15
   generalize c14.below b 4 = r15 at h15 o15
   obtain ⟨u15, c15⟩ := r15
   dsimp only at h15 o15
   refine ⟨⟨1 + v1, v2, v3, v4, v5, v6, v7, v8, v9, ⟨t1, t2, t3, t4, t5⟩, v10, v11, false, v12, v15⟩, c15, o15, by simp only [LetterD.wf, I64, maxLen, TagD.wf, List.length_nil] at *; omega, ?_⟩
   refine callA_of Tryd.func45 (by kernel_rfl) rfl fun E hE => run_den 400 ?_
   simp (disch := omega) only [Tryd.ntmps45, Tryd.results45, go_sem, Nat.reduceEqDiff, Nat.reduceAdd, Nat.reduceSub, Int.reduceAdd, Int.reduceSub, Int.reduceToNat]
   refine den_call (by (try simp (disch := omega) only [go_sem, List.length_set, Nat.reduceEqDiff, Nat.reduceAdd, Nat.reduceSub, Int.reduceAdd, Int.reduceSub, Int.reduceToNat]) <;> omega) (h1) [some (0, none), some (1, none)] (by simp only [go_sem]; repeat' first | rfl | constructor | (rw [List.map_set]; rfl) | (simp [List.map_take, List.map_drop] <;> omega)) (by rfl) (run_den 400 ?_)
   simp (disch := omega) only [go_sem, Nat.reduceEqDiff, Nat.reduceAdd, Nat.reduceSub, Int.reduceAdd, Int.reduceSub, Int.reduceToNat]
   refine den_call (by (try simp (disch := omega) only [go_sem, List.length_set, Nat.reduceEqDiff, Nat.reduceAdd, Nat.reduceSub, Int.reduceAdd, Int.reduceSub, Int.reduceToNat]) <;> omega) (h2) [some (0, none), some (1, none), some (3, none)] (by simp only [go_sem]; repeat' first | rfl | constructor | (rw [List.map_set]; rfl) | (simp [List.map_take, List.map_drop] <;> omega)) (by rfl) (run_den 400 ?_)
   simp (disch := omega) only [go_sem, Nat.reduceEqDiff, Nat.reduceAdd, Nat.reduceSub, Int.reduceAdd, Int.reduceSub, Int.reduceToNat]
   refine den_call (by (try simp (disch := omega) only [go_sem, List.length_set, Nat.reduceEqDiff, Nat.reduceAdd, Nat.reduceSub, Int.reduceAdd, Int.reduceSub, Int.reduceToNat]) <;> omega) (h3) [some (0, none), some (1, none), some (4, none)] (by simp only [go_sem]; repeat' first | rfl | constructor | (rw [List.map_set]; rfl) | (simp [List.map_take, List.map_drop] <;> omega)) (by rfl) (run_den 400 ?_)
   simp (disch := omega) only [go_sem, Nat.reduceEqDiff, Nat.reduceAdd, Nat.reduceSub, Int.reduceAdd, Int.reduceSub, Int.reduceToNat]
   refine den_call (by (try simp (disch := omega) only [go_sem, List.length_set, Nat.reduceEqDiff, Nat.reduceAdd, Nat.reduceSub, Int.reduceAdd, Int.reduceSub, Int.reduceToNat]) <;> omega) (h4) [some (0, none), some (1, none)] (by simp only [go_sem]; repeat' first | rfl | constructor | (rw [List.map_set]; rfl) | (simp [List.map_take, List.map_drop] <;> omega)) (by rfl) (run_den 400 ?_)
   simp (disch := omega) only [go_sem, Nat.reduceEqDiff, Nat.reduceAdd, Nat.reduceSub, Int.reduceAdd, Int.reduceSub, Int.reduceToNat]
   refine den_call (by (try simp (disch := omega) only [go_sem, List.length_set, Nat.reduceEqDiff, Nat.reduceAdd, Nat.reduceSub, Int.reduceAdd, Int.reduceSub, Int.reduceToNat]) <;> omega) (h5) [some (0, none), some (1, none)] (by simp only [go_sem]; repeat' first | rfl | constructor | (rw [List.map_set]; rfl) | (simp [List.map_take, List.map_drop] <;> omega)) (by rfl) (run_den 400 ?_)
   simp (disch := omega) only [go_sem, Nat.reduceEqDiff, Nat.reduceAdd, Nat.reduceSub, Int.reduceAdd, Int.reduceSub, Int.reduceToNat]
   refine den_call (by (try simp (disch := omega) only [go_sem, List.length_set, Nat.reduceEqDiff, Nat.reduceAdd, Nat.reduceSub, Int.reduceAdd, Int.reduceSub, Int.reduceToNat]) <;> omega) (h6) [some (0, none), some (1, none), some (5, none)] (by simp only [go_sem]; repeat' first | rfl | constructor | (rw [List.map_set]; rfl) | (simp [List.map_take, List.map_drop] <;> omega)) (by rfl) (run_den 400 ?_)
   simp (disch := omega) only [go_sem, Nat.reduceEqDiff, Nat.reduceAdd, Nat.reduceSub, Int.reduceAdd, Int.reduceSub, Int.reduceToNat]
   refine den_call (by (try simp (disch := omega) only [go_sem, List.length_set, Nat.reduceEqDiff, Nat.reduceAdd, Nat.reduceSub, Int.reduceAdd, Int.reduceSub, Int.reduceToNat]) <;> omega) (h7) [some (0, none), some (1, none)] (by simp only [go_sem]; repeat' first | rfl | constructor | (rw [List.map_set]; rfl) | (simp [List.map_take, List.map_drop] <;> omega)) (by rfl) (run_den 400 ?_)
   simp (disch := omega) only [go_sem, Nat.reduceEqDiff, Nat.reduceAdd, Nat.reduceSub, Int.reduceAdd, Int.reduceSub, Int.reduceToNat]
   refine den_call (by (try simp (disch := omega) only [go_sem, List.length_set, Nat.reduceEqDiff, Nat.reduceAdd, Nat.reduceSub, Int.reduceAdd, Int.reduceSub, Int.reduceToNat]) <;> omega) (h8) [some (0, none), some (1, none)] (by simp only [go_sem]; repeat' first | rfl | constructor | (rw [List.map_set]; rfl) | (simp [List.map_take, List.map_drop] <;> omega)) (by rfl) (run_den 400 ?_)
   simp (disch := omega) only [go_sem, Nat.reduceEqDiff, Nat.reduceAdd, Nat.reduceSub, Int.reduceAdd, Int.reduceSub, Int.reduceToNat]
   refine den_call (by (try simp (disch := omega) only [go_sem, List.length_set, Nat.reduceEqDiff, Nat.reduceAdd, Nat.reduceSub, Int.reduceAdd, Int.reduceSub, Int.reduceToNat]) <;> omega) (h9) [some (0, none), some (1, none)] (by simp only [go_sem]; repeat' first | rfl | constructor | (rw [List.map_set]; rfl) | (simp [List.map_take, List.map_drop] <;> omega)) (by rfl) (run_den 400 ?_)
   simp (disch := omega) only [go_sem, Nat.reduceEqDiff, Nat.reduceAdd, Nat.reduceSub, Int.reduceAdd, Int.reduceSub, Int.reduceToNat]
   refine den_call (by (try simp (disch := omega) only [go_sem, List.length_set, Nat.reduceEqDiff, Nat.reduceAdd, Nat.reduceSub, Int.reduceAdd, Int.reduceSub, Int.reduceToNat]) <;> omega) (h10) [some (0, none), some (1, none)] (by simp only [go_sem]; repeat' first | rfl | constructor | (rw [List.map_set]; rfl) | (simp [List.map_take, List.map_drop] <;> omega)) (by rfl) (run_den 400 ?_)
   simp (disch := omega) only [go_sem, Nat.reduceEqDiff, Nat.reduceAdd, Nat.reduceSub, Int.reduceAdd, Int.reduceSub, Int.reduceToNat]
   refine den_call (by (try simp (disch := omega) only [go_sem, List.length_set, Nat.reduceEqDiff, Nat.reduceAdd, Nat.reduceSub, Int.reduceAdd, Int.reduceSub, Int.reduceToNat]) <;> omega) (h11) [some (0, none), some (1, none), some (6, none)] (by simp only [go_sem]; repeat' first | rfl | constructor | (rw [List.map_set]; rfl) | (simp [List.map_take, List.map_drop] <;> omega)) (by rfl) (run_den 400 ?_)
   simp (disch := omega) only [go_sem, Nat.reduceEqDiff, Nat.reduceAdd, Nat.reduceSub, Int.reduceAdd, Int.reduceSub, Int.reduceToNat]
   refine den_call (by (try simp (disch := omega) only [go_sem, List.length_set, Nat.reduceEqDiff, Nat.reduceAdd, Nat.reduceSub, Int.reduceAdd, Int.reduceSub, Int.reduceToNat]) <;> omega) (h12) [some (0, none), some (1, none)] (by simp only [go_sem]; repeat' first | rfl | constructor | (rw [List.map_set]; rfl) | (simp [List.map_take, List.map_drop] <;> omega)) (by rfl) (run_den 400 ?_)
   simp (disch := omega) only [go_sem, Nat.reduceEqDiff, Nat.reduceAdd, Nat.reduceSub, Int.reduceAdd, Int.reduceSub, Int.reduceToNat]
   refine den_call (by (try simp (disch := omega) only [go_sem, List.length_set, Nat.reduceEqDiff, Nat.reduceAdd, Nat.reduceSub, Int.reduceAdd, Int.reduceSub, Int.reduceToNat]) <;> omega) (h13) [some (0, none), some (1, none)] (by simp only [go_sem]; repeat' first | rfl | constructor | (rw [List.map_set]; rfl) | (simp [List.map_take, List.map_drop] <;> omega)) (by rfl) (run_den 400 ?_)
   simp (disch := omega) only [go_sem, Nat.reduceEqDiff, Nat.reduceAdd, Nat.reduceSub, Int.reduceAdd, Int.reduceSub, Int.reduceToNat]
   refine den_call (by (try simp (disch := omega) only [go_sem, List.length_set, Nat.reduceEqDiff, Nat.reduceAdd, Nat.reduceSub, Int.reduceAdd, Int.reduceSub, Int.reduceToNat]) <;> omega) (h14) [some (0, none), some (1, none)] (by simp only [go_sem]; repeat' first | rfl | constructor | (rw [List.map_set]; rfl) | (simp [List.map_take, List.map_drop] <;> omega)) (by rfl) (run_den 400 ?_)
   simp (disch := omega) only [go_sem, Nat.reduceEqDiff, Nat.reduceAdd, Nat.reduceSub, Int.reduceAdd, Int.reduceSub, Int.reduceToNat]
   refine den_call (by (try simp (disch := omega) only [go_sem, List.length_set, Nat.reduceEqDiff, Nat.reduceAdd, Nat.reduceSub, Int.reduceAdd, Int.reduceSub, Int.reduceToNat]) <;> omega) (h15) [some (0, none), some (1, none), some (8, none)] (by simp only [go_sem]; repeat' first | rfl | constructor | (rw [List.map_set]; rfl) | (simp [List.map_take, List.map_drop] <;> omega)) (by rfl) (run_den 400 ?_)
   simp (disch := omega) only [go_sem, Nat.reduceEqDiff, Nat.reduceAdd, Nat.reduceSub, Int.reduceAdd, Int.reduceSub, Int.reduceToNat]
   refine den_fin [some (0, none), some (1, none)] (by (try simp (disch := omega) only [go_sem, List.length_set, Nat.reduceEqDiff, Nat.reduceAdd, Nat.reduceSub, Int.reduceAdd, Int.reduceSub, Int.reduceToNat]) <;> omega) _ (by simp only [go_sem]; rfl) (by rfl) (by rfl) ?_
   simp (disch := omega) only [go_sem, Nat.reduceEqDiff, Nat.reduceAdd, Nat.reduceSub, Int.reduceAdd, Int.reduceSub, Int.reduceToNat]
  ·refine ⟨⟨1 + v1, v2, v3, v4, v5, v6, v7, v8, v9, ⟨t1, t2, t3, t4, t5⟩, v10, v11, false, v12, []⟩, c14, o14, by simp only [LetterD.wf, I64, maxLen, TagD.wf, List.length_nil] at *; omega, ?_⟩
   refine callA_of Tryd.func45 (by kernel_rfl) rfl fun E hE => run_den 400 ?_
   simp (disch := omega) only [Tryd.ntmps45, Tryd.results45, go_sem, Nat.reduceEqDiff, Nat.reduceAdd, Nat.reduceSub, Int.reduceAdd, Int.reduceSub, Int.reduceToNat]
   refine den_call (by (try simp (disch := omega) only [go_sem, List.length_set, Nat.reduceEqDiff, Nat.reduceAdd, Nat.reduceSub, Int.reduceAdd, Int.reduceSub, Int.reduceToNat]) <;> omega) (h1) [some (0, none), some (1, none)] (by simp only [go_sem]; repeat' first | rfl | constructor | (rw [List.map_set]; rfl) | (simp [List.map_take, List.map_drop] <;> omega)) (by rfl) (run_den 400 ?_)
   simp (disch := omega) only [go_sem, Nat.reduceEqDiff, Nat.reduceAdd, Nat.reduceSub, Int.reduceAdd, Int.reduceSub, Int.reduceToNat]
   refine den_call (by (try simp (disch := omega) only [go_sem, List.length_set, Nat.reduceEqDiff, Nat.reduceAdd, Nat.reduceSub, Int.reduceAdd, Int.reduceSub, Int.reduceToNat]) <;> omega) (h2) [some (0, none), some (1, none), some (3, none)] (by simp only [go_sem]; repeat' first | rfl | constructor | (rw [List.map_set]; rfl) | (simp [List.map_take, List.map_drop] <;> omega)) (by rfl) (run_den 400 ?_)
   simp (disch := omega) only [go_sem, Nat.reduceEqDiff, Nat.reduceAdd, Nat.reduceSub, Int.reduceAdd, Int.reduceSub, Int.reduceToNat]
   refine den_call (by (try simp (disch := omega) only [go_sem, List.length_set, Nat.reduceEqDiff, Nat.reduceAdd, Nat.reduceSub, Int.reduceAdd, Int.reduceSub, Int.reduceToNat]) <;> omega) (h3) [some (0, none), some (1, none), some (4, none)] (by simp only [go_sem]; repeat' first | rfl | constructor | (rw [List.map_set]; rfl) | (simp [List.map_take, List.map_drop] <;> omega)) (by rfl) (run_den 400 ?_)
   simp (disch := omega) only [go_sem, Nat.reduceEqDiff, Nat.reduceAdd, Nat.reduceSub, Int.reduceAdd, Int.reduceSub, Int.reduceToNat]
   refine den_call (by (try simp (disch := omega) only [go_sem, List.length_set, Nat.reduceEqDiff, Nat.reduceAdd, Nat.reduceSub, Int.reduceAdd, Int.reduceSub, Int.reduceToNat]) <;> omega) (h4) [some (0, none), some (1, none)] (by simp only [go_sem]; repeat' first | rfl | constructor | (rw [List.map_set]; rfl) | (simp [List.map_take, List.map_drop] <;> omega)) (by rfl) (run_den 400 ?_)
   simp (disch := omega) only [go_sem, Nat.reduceEqDiff, Nat.reduceAdd, Nat.reduceSub, Int.reduceAdd, Int.reduceSub, Int.reduceToNat]
   refine den_call (by (try simp (disch := omega) only [go_sem, List.length_set, Nat.reduceEqDiff, Nat.reduceAdd, Nat.reduceSub, Int.reduceAdd, Int.reduceSub, Int.reduceToNat]) <;> omega) (h5) [some (0, none), some (1, none)] (by simp only [go_sem]; repeat' first | rfl | constructor | (rw [List.map_set]; rfl) | (simp [List.map_take, List.map_drop] <;> omega)) (by rfl) (run_den 400 ?_)
   simp (disch := omega) only [go_sem, Nat.reduceEqDiff, Nat.reduceAdd, Nat.reduceSub, Int.reduceAdd, Int.reduceSub, Int.reduceToNat]
   refine den_call (by (try simp (disch := omega) only [go_sem, List.length_set, Nat.reduceEqDiff, Nat.reduceAdd, Nat.reduceSub, Int.reduceAdd, Int.reduceSub, Int.reduceToNat]) <;> omega) (h6) [some (0, none), some (1, none), some (5, none)] (by simp only [go_sem]; repeat' first | rfl | constructor | (rw [List.map_set]; rfl) | (simp [List.map_take, List.map_drop] <;> omega)) (by rfl) (run_den 400 ?_)
   simp (disch := omega) only [go_sem, Nat.reduceEqDiff, Nat.reduceAdd, Nat.reduceSub, Int.reduceAdd, Int.reduceSub, Int.reduceToNat]
   refine den_call (by (try simp (disch := omega) only [go_sem, List.length_set, Nat.reduceEqDiff, Nat.reduceAdd, Nat.reduceSub, Int.reduceAdd, Int.reduceSub, Int.reduceToNat]) <;> omega) (h7) [some (0, none), some (1, none)] (by simp only [go_sem]; repeat' first | rfl | constructor | (rw [List.map_set]; rfl) | (simp [List.map_take, List.map_drop] <;> omega)) (by rfl) (run_den 400 ?_)
   simp (disch := omega) only [go_sem, Nat.reduceEqDiff, Nat.reduceAdd, Nat.reduceSub, Int.reduceAdd, Int.reduceSub, Int.reduceToNat]
   refine den_call (by (try simp (disch := omega) only [go_sem, List.length_set, Nat.reduceEqDiff, Nat.reduceAdd, Nat.reduceSub, Int.reduceAdd, Int.reduceSub, Int.reduceToNat]) <;> omega) (h8) [some (0, none), some (1, none)] (by simp only [go_sem]; repeat' first | rfl | constructor | (rw [List.map_set]; rfl) | (simp [List.map_take, List.map_drop] <;> omega)) (by rfl) (run_den 400 ?_)
   simp (disch := omega) only [go_sem, Nat.reduceEqDiff, Nat.reduceAdd, Nat.reduceSub, Int.reduceAdd, Int.reduceSub, Int.reduceToNat]
   refine den_call (by (try simp (disch := omega) only [go_sem, List.length_set, Nat.reduceEqDiff, Nat.reduceAdd, Nat.reduceSub, Int.reduceAdd, Int.reduceSub, Int.reduceToNat]) <;> omega) (h9) [some (0, none), some (1, none)] (by simp only [go_sem]; repeat' first | rfl | constructor | (rw [List.map_set]; rfl) | (simp [List.map_take, List.map_drop] <;> omega)) (by rfl) (run_den 400 ?_)
   simp (disch := omega) only [go_sem, Nat.reduceEqDiff, Nat.reduceAdd, Nat.reduceSub, Int.reduceAdd, Int.reduceSub, Int.reduceToNat]
   refine den_call (by (try simp (disch := omega) only [go_sem, List.length_set, Nat.reduceEqDiff, Nat.reduceAdd, Nat.reduceSub, Int.reduceAdd, Int.reduceSub, Int.reduceToNat]) <;> omega) (h10) [some (0, none), some (1, none)] (by simp only [go_sem]; repeat' first | rfl | constructor | (rw [List.map_set]; rfl) | (simp [List.map_take, List.map_drop] <;> omega)) (by rfl) (run_den 400 ?_)
   simp (disch := omega) only [go_sem, Nat.reduceEqDiff, Nat.reduceAdd, Nat.reduceSub, Int.reduceAdd, Int.reduceSub, Int.reduceToNat]
   refine den_call (by (try simp (disch := omega) only [go_sem, List.length_set, Nat.reduceEqDiff, Nat.reduceAdd, Nat.reduceSub, Int.reduceAdd, Int.reduceSub, Int.reduceToNat]) <;> omega) (h11) [some (0, none), some (1, none), some (6, none)] (by simp only [go_sem]; repeat' first | rfl | constructor | (rw [List.map_set]; rfl) | (simp [List.map_take, List.map_drop] <;> omega)) (by rfl) (run_den 400 ?_)
   simp (disch := omega) only [go_sem, Nat.reduceEqDiff, Nat.reduceAdd, Nat.reduceSub, Int.reduceAdd, Int.reduceSub, Int.reduceToNat]
   refine den_call (by (try simp (disch := omega) only [go_sem, List.length_set, Nat.reduceEqDiff, Nat.reduceAdd, Nat.reduceSub, Int.reduceAdd, Int.reduceSub, Int.reduceToNat]) <;> omega) (h12) [some (0, none), some (1, none)] (by simp only [go_sem]; repeat' first | rfl | constructor | (rw [List.map_set]; rfl) | (simp [List.map_take, List.map_drop] <;> omega)) (by rfl) (run_den 400 ?_)
   simp (disch := omega) only [go_sem, Nat.reduceEqDiff, Nat.reduceAdd, Nat.reduceSub, Int.reduceAdd, Int.reduceSub, Int.reduceToNat]
   refine den_call (by (try simp (disch := omega) only [go_sem, List.length_set, Nat.reduceEqDiff, Nat.reduceAdd, Nat.reduceSub, Int.reduceAdd, Int.reduceSub, Int.reduceToNat]) <;> omega) (h13) [some (0, none), some (1, none)] (by simp only [go_sem]; repeat' first | rfl | constructor | (rw [List.map_set]; rfl) | (simp [List.map_take, List.map_drop] <;> omega)) (by rfl) (run_den 400 ?_)
   simp (disch := omega) only [go_sem, Nat.reduceEqDiff, Nat.reduceAdd, Nat.reduceSub, Int.reduceAdd, Int.reduceSub, Int.reduceToNat]
   refine den_call (by (try simp (disch := omega) only [go_sem, List.length_set, Nat.reduceEqDiff, Nat.reduceAdd, Nat.reduceSub, Int.reduceAdd, Int.reduceSub, Int.reduceToNat]) <;> omega) (h14) [some (0, none), some (1, none)] (by simp only [go_sem]; repeat' first | rfl | constructor | (rw [List.map_set]; rfl) | (simp [List.map_take, List.map_drop] <;> omega)) (by rfl) (run_den 400 ?_)
   simp (disch := omega) only [go_sem, Nat.reduceEqDiff, Nat.reduceAdd, Nat.reduceSub, Int.reduceAdd, Int.reduceSub, Int.reduceToNat]
   refine den_fin [some (0, none), some (1, none)] (by (try simp (disch := omega) only [go_sem, List.length_set, Nat.reduceEqDiff, Nat.reduceAdd, Nat.reduceSub, Int.reduceAdd, Int.reduceSub, Int.reduceToNat]) <;> omega) _ (by simp only [go_sem]; rfl) (by rfl) (by rfl) ?_
   simp (disch := omega) only [go_sem, Nat.reduceEqDiff, Nat.reduceAdd, Nat.reduceSub, Int.reduceAdd, Int.reduceSub, Int.reduceToNat]
 ·by_cases e11 : 1 + v1 = 11
  ·have h14 := spec_l01Pick b c13 o13 [[97], [101, 118, 105, 108], [122, 122], []] (by decide) (by decide)
   have o14 := CurD.below_ok o13 (b := b) 4
   have m14 := c13.pickS_mem b (l := [[97], [101, 118, 105, 108], [122, 122], []]) (by decide)
   have w14 := (by decide : ∀ x ∈ ([[97], [101, 118, 105, 108], [122, 122], []] : List (List UInt8)), x.length ≤ 20) _ m14
   rw [show (([[97], [101, 118, 105, 108], [122, 122], []] : List (List UInt8)).length : Int) = 4 from rfl] at h14
   generalize c13.pickS b [[97], [101, 118, 105, 108], [122, 122], []] = v14 at h14 w14
   clear m14
   generalize c13.below b 4 = r14 at h14 o14
   obtain ⟨u14, c14⟩ := r14
   dsimp only at h14 o14
   refine ⟨⟨1 + v1, v2, v3, v4, v5, v6, v7, v8, v9, ⟨0, 0, 0, 0, 0⟩, v10, v11, false, v12, v14⟩, c14, o14, by simp only [LetterD.wf, I64, maxLen, TagD.wf, List.length_nil] at *; omega, ?_⟩
   refine callA_of Tryd.func45 (by kernel_rfl) rfl fun E hE => run_den 400 ?_
   simp (disch := omega) only [Tryd.ntmps45, Tryd.results45, go_sem, Nat.reduceEqDiff, Nat.reduceAdd, Nat.reduceSub, Int.reduceAdd, Int.reduceSub, Int.reduceToNat]
   refine den_call (by (try simp (disch := omega) only [go_sem, List.length_set, Nat.reduceEqDiff, Nat.reduceAdd, Nat.reduceSub, Int.reduceAdd, Int.reduceSub, Int.reduceToNat]) <;> omega) (h1) [some (0, none), some (1, none)] (by simp only [go_sem]; repeat' first | rfl | constructor | (rw [List.map_set]; rfl) | (simp [List.map_take, List.map_drop] <;> omega)) (by rfl) (run_den 400 ?_)
   simp (disch := omega) only [go_sem, Nat.reduceEqDiff, Nat.reduceAdd, Nat.reduceSub, Int.reduceAdd, Int.reduceSub, Int.reduceToNat]
   refine den_call (by (try simp (disch := omega) only [go_sem, List.length_set, Nat.reduceEqDiff, Nat.reduceAdd, Nat.reduceSub, Int.reduceAdd, Int.reduceSub, Int.reduceToNat]) <;> omega) (h2) [some (0, none), some (1, none), some (3, none)] (by simp only [go_sem]; repeat' first | rfl | constructor | (rw [List.map_set]; rfl) | (simp [List.map_take, List.map_drop] <;> omega)) (by rfl) (run_den 400 ?_)
   simp (disch := omega) only [go_sem, Nat.reduceEqDiff, Nat.reduceAdd, Nat.reduceSub, Int.reduceAdd, Int.reduceSub, Int.reduceToNat]
   refine den_call (by (try simp (disch := omega) only [go_sem, List.length_set, Nat.reduceEqDiff, Nat.reduceAdd, Nat.reduceSub, Int.reduceAdd, Int.reduceSub, Int.reduceToNat]) <;> omega) (h3) [some (0, none), some (1, none), some (4, none)] (by simp only [go_sem]; repeat' first | rfl | constructor | (rw [List.map_set]; rfl) | (simp [List.map_take, List.map_drop] <;> omega)) (by rfl) (run_den 400 ?_)
   simp (disch := omega) only [go_sem, Nat.reduceEqDiff, Nat.reduceAdd, Nat.reduceSub, Int.reduceAdd, Int.reduceSub, Int.reduceToNat]
   refine den_call (by (try simp (disch := omega) only [go_sem, List.length_set, Nat.reduceEqDiff, Nat.reduceAdd, Nat.reduceSub, Int.reduceAdd, Int.reduceSub, Int.reduceToNat]) <;> omega) (h4) [some (0, none), some (1, none)] (by simp only [go_sem]; repeat' first | rfl | constructor | (rw [List.map_set]; rfl) | (simp [List.map_take, List.map_drop] <;> omega)) (by rfl) (run_den 400 ?_)
   simp (disch := omega) only [go_sem, Nat.reduceEqDiff, Nat.reduceAdd, Nat.reduceSub, Int.reduceAdd, Int.reduceSub, Int.reduceToNat]
   refine den_call (by (try simp (disch := omega) only [go_sem, List.length_set, Nat.reduceEqDiff, Nat.reduceAdd, Nat.reduceSub, Int.reduceAdd, Int.reduceSub, Int.reduceToNat]) <;> omega) (h5) [some (0, none), some (1, none)] (by simp only [go_sem]; repeat' first | rfl | constructor | (rw [List.map_set]; rfl) | (simp [List.map_take, List.map_drop] <;> omega)) (by rfl) (run_den 400 ?_)
   simp (disch := omega) only [go_sem, Nat.reduceEqDiff, Nat.reduceAdd, Nat.reduceSub, Int.reduceAdd, Int.reduceSub, Int.reduceToNat]
   refine den_call (by (try simp (disch := omega) only [go_sem, List.length_set, Nat.reduceEqDiff, Nat.reduceAdd, Nat.reduceSub, Int.reduceAdd, Int.reduceSub, Int.reduceToNat]) <;> omega) (h6) [some (0, none), some (1, none), some (5, none)] (by simp only [go_sem]; repeat' first | rfl | constructor | (rw [List.map_set]; rfl) | (simp [List.map_take, List.map_drop] <;> omega)) (by rfl) (run_den 400 ?_)
   simp (disch := omega) only [go_sem, Nat.reduceEqDiff, Nat.reduceAdd, Nat.reduceSub, Int.reduceAdd, Int.reduceSub, Int.reduceToNat]
   refine den_call (by (try simp (disch := omega) only [go_sem, List.length_set, Nat.reduceEqDiff, Nat.reduceAdd, Nat.reduceSub, Int.reduceAdd, Int.reduceSub, Int.reduceToNat]) <;> omega) (h7) [some (0, none), some (1, none)] (by simp only [go_sem]; repeat' first | rfl | constructor | (rw [List.map_set]; rfl) | (simp [List.map_take, List.map_drop] <;> omega)) (by rfl) (run_den 400 ?_)
   simp (disch := omega) only [go_sem, Nat.reduceEqDiff, Nat.reduceAdd, Nat.reduceSub, Int.reduceAdd, Int.reduceSub, Int.reduceToNat]
   refine den_call (by (try simp (disch := omega) only [go_sem, List.length_set, Nat.reduceEqDiff, Nat.reduceAdd, Nat.reduceSub, Int.reduceAdd, Int.reduceSub, Int.reduceToNat]) <;> omega) (h8) [some (0, none), some (1, none)] (by simp only [go_sem]; repeat' first | rfl | constructor | (rw [List.map_set]; rfl) | (simp [List.map_take, List.map_drop] <;> omega)) (by rfl) (run_den 400 ?_)
   simp (disch := omega) only [go_sem, Nat.reduceEqDiff, Nat.reduceAdd, Nat.reduceSub, Int.reduceAdd, Int.reduceSub, Int.reduceToNat]
   refine den_call (by (try simp (disch := omega) only [go_sem, List.length_set, Nat.reduceEqDiff, Nat.reduceAdd, Nat.reduceSub, Int.reduceAdd, Int.reduceSub, Int.reduceToNat]) <;> omega) (h9) [some (0, none), some (1, none)] (by simp only [go_sem]; repeat' first | rfl | constructor | (rw [List.map_set]; rfl) | (simp [List.map_take, List.map_drop] <;> omega)) (by rfl) (run_den 400 ?_)
   simp (disch := omega) only [go_sem, Nat.reduceEqDiff, Nat.reduceAdd, Nat.reduceSub, Int.reduceAdd, Int.reduceSub, Int.reduceToNat]
   refine den_call (by (try simp (disch := omega) only [go_sem, List.length_set, Nat.reduceEqDiff, Nat.reduceAdd, Nat.reduceSub, Int.reduceAdd, Int.reduceSub, Int.reduceToNat]) <;> omega) (h10) [some (0, none), some (1, none)] (by simp only [go_sem]; repeat' first | rfl | constructor | (rw [List.map_set]; rfl) | (simp [List.map_take, List.map_drop] <;> omega)) (by rfl) (run_den 400 ?_)
   simp (disch := omega) only [go_sem, Nat.reduceEqDiff, Nat.reduceAdd, Nat.reduceSub, Int.reduceAdd, Int.reduceSub, Int.reduceToNat]
   refine den_call (by (try simp (disch := omega) only [go_sem, List.length_set, Nat.reduceEqDiff, Nat.reduceAdd, Nat.reduceSub, Int.reduceAdd, Int.reduceSub, Int.reduceToNat]) <;> omega) (h11) [some (0, none), some (1, none), some (6, none)] (by simp only [go_sem]; repeat' first | rfl | constructor | (rw [List.map_set]; rfl) | (simp [List.map_take, List.map_drop] <;> omega)) (by rfl) (run_den 400 ?_)
   simp (disch := omega) only [go_sem, Nat.reduceEqDiff, Nat.reduceAdd, Nat.reduceSub, Int.reduceAdd, Int.reduceSub, Int.reduceToNat]
   refine den_call (by (try simp (disch := omega) only [go_sem, List.length_set, Nat.reduceEqDiff, Nat.reduceAdd, Nat.reduceSub, Int.reduceAdd, Int.reduceSub, Int.reduceToNat]) <;> omega) (h12) [some (0, none), some (1, none)] (by simp only [go_sem]; repeat' first | rfl | constructor | (rw [List.map_set]; rfl) | (simp [List.map_take, List.map_drop] <;> omega)) (by rfl) (run_den 400 ?_)
   simp (disch := omega) only [go_sem, Nat.reduceEqDiff, Nat.reduceAdd, Nat.reduceSub, Int.reduceAdd, Int.reduceSub, Int.reduceToNat]
   refine den_call (by (try simp (disch := omega) only [go_sem, List.length_set, Nat.reduceEqDiff, Nat.reduceAdd, Nat.reduceSub, Int.reduceAdd, Int.reduceSub, Int.reduceToNat]) <;> omega) (h13) [some (0, none), some (1, none)] (by simp only [go_sem]; repeat' first | rfl | constructor | (rw [List.map_set]; rfl) | (simp [List.map_take, List.map_drop] <;> omega)) (by rfl) (run_den 400 ?_)
   simp (disch := omega) only [go_sem, Nat.reduceEqDiff, Nat.reduceAdd, Nat.reduceSub, Int.reduceAdd, Int.reduceSub, Int.reduceToNat]
   refine den_call (by (try simp (disch := omega) only [go_sem, List.length_set, Nat.reduceEqDiff, Nat.reduceAdd, Nat.reduceSub, Int.reduceAdd, Int.reduceSub, Int.reduceToNat]) <;> omega) (h14) [some (0, none), some (1, none), some (8, none)] (by simp only [go_sem]; repeat' first | rfl | constructor | (rw [List.map_set]; rfl) | (simp [List.map_take, List.map_drop] <;> omega)) (by rfl) (run_den 400 ?_)
   simp (disch := omega) only [go_sem, Nat.reduceEqDiff, Nat.reduceAdd, Nat.reduceSub, Int.reduceAdd, Int.reduceSub, Int.reduceToNat]
   refine den_fin [some (0, none), some (1, none)] (by (try simp (disch := omega) only [go_sem, List.length_set, Nat.reduceEqDiff, Nat.reduceAdd, Nat.reduceSub, Int.reduceAdd, Int.reduceSub, Int.reduceToNat]) <;> omega) _ (by simp only [go_sem]; rfl) (by rfl) (by rfl) ?_
   simp (disch := omega) only [go_sem, Nat.reduceEqDiff, Nat.reduceAdd, Nat.reduceSub, Int.reduceAdd, Int.reduceSub, Int.reduceToNat]
  ·refine ⟨⟨1 + v1, v2, v3, v4, v5, v6, v7, v8, v9, ⟨0, 0, 0, 0, 0⟩, v10, v11, false, v12, []⟩, c13, o13, by simp only [LetterD.wf, I64, maxLen, TagD.wf, List.length_nil] at *; omega, ?_⟩
   refine callA_of Tryd.func45 (by kernel_rfl) rfl fun E hE => run_den 400 ?_
   simp (disch := omega) only [Tryd.ntmps45, Tryd.results45, go_sem, Nat.reduceEqDiff, Nat.reduceAdd, Nat.reduceSub, Int.reduceAdd, Int.reduceSub, Int.reduceToNat]
   refine den_call (by (try simp (disch := omega) only [go_sem, List.length_set, Nat.reduceEqDiff, Nat.reduceAdd, Nat.reduceSub, Int.reduceAdd, Int.reduceSub, Int.reduceToNat]) <;> omega) (h1) [some (0, none), some (1, none)] (by simp only [go_sem]; repeat' first | rfl | constructor | (rw [List.map_set]; rfl) | (simp [List.map_take, List.map_drop] <;> omega)) (by rfl) (run_den 400 ?_)
   simp (disch := omega) only [go_sem, Nat.reduceEqDiff, Nat.reduceAdd, Nat.reduceSub, Int.reduceAdd, Int.reduceSub, Int.reduceToNat]
   refine den_call (by (try simp (disch := omega) only [go_sem, List.length_set, Nat.reduceEqDiff, Nat.reduceAdd, Nat.reduceSub, Int.reduceAdd, Int.reduceSub, Int.reduceToNat]) <;> omega) (h2) [some (0, none), some (1, none), some (3, none)] (by simp only [go_sem]; repeat' first | rfl | constructor | (rw [List.map_set]; rfl) | (simp [List.map_take, List.map_drop] <;> omega)) (by rfl) (run_den 400 ?_)
   simp (disch := omega) only [go_sem, Nat.reduceEqDiff, Nat.reduceAdd, Nat.reduceSub, Int.reduceAdd, Int.reduceSub, Int.reduceToNat]
   refine den_call (by (try simp (disch := omega) only [go_sem, List.length_set, Nat.reduceEqDiff, Nat.reduceAdd, Nat.reduceSub, Int.reduceAdd, Int.reduceSub, Int.reduceToNat]) <;> omega) (h3) [some (0, none), some (1, none), some (4, none)] (by simp only [go_sem]; repeat' first | rfl | constructor | (rw [List.map_set]; rfl) | (simp [List.map_take, List.map_drop] <;> omega)) (by rfl) (run_den 400 ?_)
   simp (disch := omega) only [go_sem, Nat.reduceEqDiff, Nat.reduceAdd, Nat.reduceSub, Int.reduceAdd, Int.reduceSub, Int.reduceToNat]
   refine den_call (by (try simp (disch := omega) only [go_sem, List.length_set, Nat.reduceEqDiff, Nat.reduceAdd, Nat.reduceSub, Int.reduceAdd, Int.reduceSub, Int.reduceToNat]) <;> omega) (h4) [some (0, none), some (1, none)] (by simp only [go_sem]; repeat' first | rfl | constructor | (rw [List.map_set]; rfl) | (simp [List.map_take, List.map_drop] <;> omega)) (by rfl) (run_den 400 ?_)
   simp (disch := omega) only [go_sem, Nat.reduceEqDiff, Nat.reduceAdd, Nat.reduceSub, Int.reduceAdd, Int.reduceSub, Int.reduceToNat]
   refine den_call (by (try simp (disch := omega) only [go_sem, List.length_set, Nat.reduceEqDiff, Nat.reduceAdd, Nat.reduceSub, Int.reduceAdd, Int.reduceSub, Int.reduceToNat]) <;> omega) (h5) [some (0, none), some (1, none)] (by simp only [go_sem]; repeat' first | rfl | constructor | (rw [List.map_set]; rfl) | (simp [List.map_take, List.map_drop] <;> omega)) (by rfl) (run_den 400 ?_)
   simp (disch := omega) only [go_sem, Nat.reduceEqDiff, Nat.reduceAdd, Nat.reduceSub, Int.reduceAdd, Int.reduceSub, Int.reduceToNat]
   refine den_call (by (try simp (disch := omega) only [go_sem, List.length_set, Nat.reduceEqDiff, Nat.reduceAdd, Nat.reduceSub, Int.reduceAdd, Int.reduceSub, Int.reduceToNat]) <;> omega) (h6) [some (0, none), some (1, none), some (5, none)] (by simp only [go_sem]; repeat' first | rfl | constructor | (rw [List.map_set]; rfl) | (simp [List.map_take, List.map_drop] <;> omega)) (by rfl) (run_den 400 ?_)
   simp (disch := omega) only [go_sem, Nat.reduceEqDiff, Nat.reduceAdd, Nat.reduceSub, Int.reduceAdd, Int.reduceSub, Int.reduceToNat]
   refine den_call (by (try simp (disch := omega) only [go_sem, List.length_set, Nat.reduceEqDiff, Nat.reduceAdd, Nat.reduceSub, Int.reduceAdd, Int.reduceSub, Int.reduceToNat]) <;> omega) (h7) [some (0, none), some (1, none)] (by simp only [go_sem]; repeat' first | rfl | constructor | (rw [List.map_set]; rfl) | (simp [List.map_take, List.map_drop] <;> omega)) (by rfl) (run_den 400 ?_)
   simp (disch := omega) only [go_sem, Nat.reduceEqDiff, Nat.reduceAdd, Nat.reduceSub, Int.reduceAdd, Int.reduceSub, Int.reduceToNat]
   refine den_call (by (try simp (disch := omega) only [go_sem, List.length_set, Nat.reduceEqDiff, Nat.reduceAdd, Nat.reduceSub, Int.reduceAdd, Int.reduceSub, Int.reduceToNat]) <;> omega) (h8) [some (0, none), some (1, none)] (by simp only [go_sem]; repeat' first | rfl | constructor | (rw [List.map_set]; rfl) | (simp [List.map_take, List.map_drop] <;> omega)) (by rfl) (run_den 400 ?_)
   simp (disch := omega) only [go_sem, Nat.reduceEqDiff, Nat.reduceAdd, Nat.reduceSub, Int.reduceAdd, Int.reduceSub, Int.reduceToNat]
   refine den_call (by (try simp (disch := omega) only [go_sem, List.length_set, Nat.reduceEqDiff, Nat.reduceAdd, Nat.reduceSub, Int.reduceAdd, Int.reduceSub, Int.reduceToNat]) <;> omega) (h9) [some (0, none), some (1, none)] (by simp only [go_sem]; repeat' first | rfl | constructor | (rw [List.map_set]; rfl) | (simp [List.map_take, List.map_drop] <;> omega)) (by rfl) (run_den 400 ?_)
   simp (disch := omega) only [go_sem, Nat.reduceEqDiff, Nat.reduceAdd, Nat.reduceSub, Int.reduceAdd, Int.reduceSub, Int.reduceToNat]
   refine den_call (by (try simp (disch := omega) only [go_sem, List.length_set, Nat.reduceEqDiff, Nat.reduceAdd, Nat.reduceSub, Int.reduceAdd, Int.reduceSub, Int.reduceToNat]) <;> omega) (h10) [some (0, none), some (1, none)] (by simp only [go_sem]; repeat' first | rfl | constructor | (rw [List.map_set]; rfl) | (simp [List.map_take, List.map_drop] <;> omega)) (by rfl) (run_den 400 ?_)
   simp (disch := omega) only [go_sem, Nat.reduceEqDiff, Nat.reduceAdd, Nat.reduceSub, Int.reduceAdd, Int.reduceSub, Int.reduceToNat]
   refine den_call (by (try simp (disch := omega) only [go_sem, List.length_set, Nat.reduceEqDiff, Nat.reduceAdd, Nat.reduceSub, Int.reduceAdd, Int.reduceSub, Int.reduceToNat]) <;> omega) (h11) [some (0, none), some (1, none), some (6, none)] (by simp only [go_sem]; repeat' first | rfl | constructor | (rw [List.map_set]; rfl) | (simp [List.map_take, List.map_drop] <;> omega)) (by rfl) (run_den 400 ?_)
   simp (disch := omega) only [go_sem, Nat.reduceEqDiff, Nat.reduceAdd, Nat.reduceSub, Int.reduceAdd, Int.reduceSub, Int.reduceToNat]
   refine den_call (by (try simp (disch := omega) only [go_sem, List.length_set, Nat.reduceEqDiff, Nat.reduceAdd, Nat.reduceSub, Int.reduceAdd, Int.reduceSub, Int.reduceToNat]) <;> omega) (h12) [some (0, none), some (1, none)] (by simp only [go_sem]; repeat' first | rfl | constructor | (rw [List.map_set]; rfl) | (simp [List.map_take, List.map_drop] <;> omega)) (by rfl) (run_den 400 ?_)
   simp (disch := omega) only [go_sem, Nat.reduceEqDiff, Nat.reduceAdd, Nat.reduceSub, Int.reduceAdd, Int.reduceSub, Int.reduceToNat]
   refine den_call (by (try simp (disch := omega) only [go_sem, List.length_set, Nat.reduceEqDiff, Nat.reduceAdd, Nat.reduceSub, Int.reduceAdd, Int.reduceSub, Int.reduceToNat]) <;> omega) (h13) [some (0, none), some (1, none)] (by simp only [go_sem]; repeat' first | rfl | constructor | (rw [List.map_set]; rfl) | (simp [List.map_take, List.map_drop] <;> omega)) (by rfl) (run_den 400 ?_)
   simp (disch := omega) only [go_sem, Nat.reduceEqDiff, Nat.reduceAdd, Nat.reduceSub, Int.reduceAdd, Int.reduceSub, Int.reduceToNat]
   refine den_fin [some (0, none), some (1, none)] (by (try simp (disch := omega) only [go_sem, List.length_set, Nat.reduceEqDiff, Nat.reduceAdd, Nat.reduceSub, Int.reduceAdd, Int.reduceSub, Int.reduceToNat]) <;> omega) _ (by simp only [go_sem]; rfl) (by rfl) (by rfl) ?_
   simp (disch := omega) only [go_sem, Nat.reduceEqDiff, Nat.reduceAdd, Nat.reduceSub, Int.reduceAdd, Int.reduceSub, Int.reduceToNat]
theorem spec_l16Any (b : List UInt8) (c : CurD) (hc : c.ok b) : ∃ (x : LetterD) (c' : CurD), c'.ok b ∧ x.wf ∧ CallA Tryd.prog 17 [.sc (.pt 1 0 0)] (c.hp b) (.ag x.cs) (c'.hp b) := by
 obtain ⟨x, c1, o1, w1, h1⟩ := spec_l16Letter b c hc
 have h2 := spec_l01Below b c1 o1 12
 have o2 := CurD.below_ok o1 12
 have b2 := c1.below_lt b (n := 12) (by omega)
 generalize c1.below b 12 = r2 at h2 o2 b2
 obtain ⟨v2, c2⟩ := r2
 dsimp only at h2 o2 b2
 have hv : v2 = 0 ∨ v2 = 1 ∨ v2 = 2 ∨ v2 = 3 ∨ 4 ≤ v2 := by omega
 rcases hv with rfl | rfl | rfl | rfl | hv
 ·have h3 := spec_l01PickInt b c2 o2 [0, 14, 13] (by decide) (by decide)
  have o3 := CurD.below_ok o2 (b := b) 3
  have m3 := c2.pick_mem b (l := [0, 14, 13]) (by decide)
  have w3 := (by decide : ∀ x ∈ ([0, 14, 13] : List Int), 0 ≤ x ∧ x ≤ 14) _ m3
  rw [show (([0, 14, 13] : List Int).length : Int) = 3 from rfl] at h3
  generalize c2.pick b [0, 14, 13] = v3 at h3 w3
  clear m3
  generalize c2.below b 3 = r3 at h3 o3
  obtain ⟨u3, c3⟩ := r3
  dsimp only at h3 o3
  refine ⟨{ x with kind := v3 }, c3, o3, by simp only [LetterD.wf, I64, maxLen, List.length_replicate] at *; omega, ?_⟩
  refine callA_of Tryd.func17 (by kernel_rfl) rfl fun E hE => run_den 400 ?_
  simp (disch := omega) only [Tryd.ntmps17, Tryd.results17, go_sem, Nat.reduceEqDiff, Nat.reduceAdd, Nat.reduceSub, Int.reduceAdd, Int.reduceSub, Int.reduceToNat]
  refine den_call (by (try simp (disch := omega) only [go_sem, List.length_set, Nat.reduceEqDiff, Nat.reduceAdd, Nat.reduceSub, Int.reduceAdd, Int.reduceSub, Int.reduceToNat]) <;> omega) (h1) [some (0, none), some (1, none)] (by simp only [go_sem]; repeat' first | rfl | constructor | (rw [List.map_set]; rfl) | (simp [List.map_take, List.map_drop] <;> omega)) (by rfl) (run_den 400 ?_)
  simp (disch := omega) only [go_sem, Nat.reduceEqDiff, Nat.reduceAdd, Nat.reduceSub, Int.reduceAdd, Int.reduceSub, Int.reduceToNat]
  refine den_call (by (try simp (disch := omega) only [go_sem, List.length_set, Nat.reduceEqDiff, Nat.reduceAdd, Nat.reduceSub, Int.reduceAdd, Int.reduceSub, Int.reduceToNat]) <;> omega) (h2) [some (0, none), some (1, none)] (by simp only [go_sem]; repeat' first | rfl | constructor | (rw [List.map_set]; rfl) | (simp [List.map_take, List.map_drop] <;> omega)) (by rfl) (run_den 400 ?_)
  simp (disch := omega) only [go_sem, Nat.reduceEqDiff, Nat.reduceAdd, Nat.reduceSub, Int.reduceAdd, Int.reduceSub, Int.reduceToNat]
  refine den_call (by (try simp (disch := omega) only [go_sem, List.length_set, Nat.reduceEqDiff, Nat.reduceAdd, Nat.reduceSub, Int.reduceAdd, Int.reduceSub, Int.reduceToNat]) <;> omega) (h3) [some (0, none), some (1, none), some (4, none)] (by simp only [go_sem]; repeat' first | rfl | constructor | (rw [List.map_set]; rfl) | (simp [List.map_take, List.map_drop] <;> omega)) (by rfl) (run_den 400 ?_)
  simp (disch := omega) only [go_sem, Nat.reduceEqDiff, Nat.reduceAdd, Nat.reduceSub, Int.reduceAdd, Int.reduceSub, Int.reduceToNat]
  refine den_fin [some (0, none), some (1, none)] (by (try simp (disch := omega) only [go_sem, List.length_set, Nat.reduceEqDiff, Nat.reduceAdd, Nat.reduceSub, Int.reduceAdd, Int.reduceSub, Int.reduceToNat]) <;> omega) _ (by simp only [go_sem]; rfl) (by rfl) (by rfl) ?_
  simp (disch := omega) only [go_sem, Nat.reduceEqDiff, Nat.reduceAdd, Nat.reduceSub, Int.reduceAdd, Int.reduceSub, Int.reduceToNat]
 ·have h3 := spec_l01PickInt b c2 o2 [20, 21] (by decide) (by decide)
  have o3 := CurD.below_ok o2 (b := b) 2
  have m3 := c2.pick_mem b (l := [20, 21]) (by decide)
  have w3 := (by decide : ∀ x ∈ ([20, 21] : List Int), 20 ≤ x ∧ x ≤ 21) _ m3
  rw [show (([20, 21] : List Int).length : Int) = 2 from rfl] at h3
  generalize c2.pick b [20, 21] = v3 at h3 w3
  clear m3
  generalize c2.below b 2 = r3 at h3 o3
  obtain ⟨u3, c3⟩ := r3
  dsimp only at h3 o3
  obtain ⟨n, rfl⟩ := Int.eq_ofNat_of_zero_le (show 0 ≤ v3 by omega)
  refine ⟨{ x with text := List.replicate n 97 }, c3, o3, by simp only [LetterD.wf, I64, maxLen, List.length_replicate] at *; omega, ?_⟩
  refine callA_of Tryd.func17 (by kernel_rfl) rfl fun E hE => run_den 400 ?_
  simp (disch := omega) only [Tryd.ntmps17, Tryd.results17, go_sem, Nat.reduceEqDiff, Nat.reduceAdd, Nat.reduceSub, Int.reduceAdd, Int.reduceSub, Int.reduceToNat]
  refine den_call (by (try simp (disch := omega) only [go_sem, List.length_set, Nat.reduceEqDiff, Nat.reduceAdd, Nat.reduceSub, Int.reduceAdd, Int.reduceSub, Int.reduceToNat]) <;> omega) (h1) [some (0, none), some (1, none)] (by simp only [go_sem]; repeat' first | rfl | constructor | (rw [List.map_set]; rfl) | (simp [List.map_take, List.map_drop] <;> omega)) (by rfl) (run_den 400 ?_)
  simp (disch := omega) only [go_sem, Nat.reduceEqDiff, Nat.reduceAdd, Nat.reduceSub, Int.reduceAdd, Int.reduceSub, Int.reduceToNat]
  refine den_call (by (try simp (disch := omega) only [go_sem, List.length_set, Nat.reduceEqDiff, Nat.reduceAdd, Nat.reduceSub, Int.reduceAdd, Int.reduceSub, Int.reduceToNat]) <;> omega) (h2) [some (0, none), some (1, none)] (by simp only [go_sem]; repeat' first | rfl | constructor | (rw [List.map_set]; rfl) | (simp [List.map_take, List.map_drop] <;> omega)) (by rfl) (run_den 400 ?_)
  simp (disch := omega) only [go_sem, Nat.reduceEqDiff, Nat.reduceAdd, Nat.reduceSub, Int.reduceAdd, Int.reduceSub, Int.reduceToNat]
  refine den_call (by (try simp (disch := omega) only [go_sem, List.length_set, Nat.reduceEqDiff, Nat.reduceAdd, Nat.reduceSub, Int.reduceAdd, Int.reduceSub, Int.reduceToNat]) <;> omega) (h3) [some (0, none), some (1, none), some (4, none)] (by simp only [go_sem]; repeat' first | rfl | constructor | (rw [List.map_set]; rfl) | (simp [List.map_take, List.map_drop] <;> omega)) (by rfl) (run_den 400 ?_)
  simp (disch := omega) only [go_sem, Nat.reduceEqDiff, Nat.reduceAdd, Nat.reduceSub, Int.reduceAdd, Int.reduceSub, Int.reduceToNat]
  refine den_call (by (try simp (disch := omega) only [go_sem, List.length_set, Nat.reduceEqDiff, Nat.reduceAdd, Nat.reduceSub, Int.reduceAdd, Int.reduceSub, Int.reduceToNat]) <;> omega) (spec_l01Long n 97 (by omega)) [] (by simp only [go_sem]; repeat' first | rfl | constructor | (rw [List.map_set]; rfl) | (simp [List.map_take, List.map_drop] <;> omega)) (by rfl) (run_den 400 ?_)
  simp (disch := omega) only [go_sem, Nat.reduceEqDiff, Nat.reduceAdd, Nat.reduceSub, Int.reduceAdd, Int.reduceSub, Int.reduceToNat]
  refine den_fin [some (0, none), some (1, none)] (by (try simp (disch := omega) only [go_sem, List.length_set, Nat.reduceEqDiff, Nat.reduceAdd, Nat.reduceSub, Int.reduceAdd, Int.reduceSub, Int.reduceToNat]) <;> omega) _ (by simp only [go_sem]; rfl) (by rfl) (by rfl) ?_
  simp (disch := omega) only [go_sem, Nat.reduceEqDiff, Nat.reduceAdd, Nat.reduceSub, Int.reduceAdd, Int.reduceSub, Int.reduceToNat]
 ·have h3 := spec_l01PickInt b c2 o2 [-1, 1000000001] (by decide) (by decide)
  have o3 := CurD.below_ok o2 (b := b) 2
  have m3 := c2.pick_mem b (l := [-1, 1000000001]) (by decide)
  have w3 := (by decide : ∀ x ∈ ([-1, 1000000001] : List Int), -1 ≤ x ∧ x ≤ 1000000001) _ m3
  rw [show (([-1, 1000000001] : List Int).length : Int) = 2 from rfl] at h3
  generalize c2.pick b [-1, 1000000001] = v3 at h3 w3
  clear m3
  generalize c2.below b 2 = r3 at h3 o3
  obtain ⟨u3, c3⟩ := r3
  dsimp only at h3 o3
  refine ⟨{ x with sgn := v3 }, c3, o3, by simp only [LetterD.wf, I64, maxLen, List.length_replicate] at *; omega, ?_⟩
  refine callA_of Tryd.func17 (by kernel_rfl) rfl fun E hE => run_den 400 ?_
  simp (disch := omega) only [Tryd.ntmps17, Tryd.results17, go_sem, Nat.reduceEqDiff, Nat.reduceAdd, Nat.reduceSub, Int.reduceAdd, Int.reduceSub, Int.reduceToNat]
  refine den_call (by (try simp (disch := omega) only [go_sem, List.length_set, Nat.reduceEqDiff, Nat.reduceAdd, Nat.reduceSub, Int.reduceAdd, Int.reduceSub, Int.reduceToNat]) <;> omega) (h1) [some (0, none), some (1, none)] (by simp only [go_sem]; repeat' first | rfl | constructor | (rw [List.map_set]; rfl) | (simp [List.map_take, List.map_drop] <;> omega)) (by rfl) (run_den 400 ?_)
  simp (disch := omega) only [go_sem, Nat.reduceEqDiff, Nat.reduceAdd, Nat.reduceSub, Int.reduceAdd, Int.reduceSub, Int.reduceToNat]
  refine den_call (by (try simp (disch := omega) only [go_sem, List.length_set, Nat.reduceEqDiff, Nat.reduceAdd, Nat.reduceSub, Int.reduceAdd, Int.reduceSub, Int.reduceToNat]) <;> omega) (h2) [some (0, none), some (1, none)] (by simp only [go_sem]; repeat' first | rfl | constructor | (rw [List.map_set]; rfl) | (simp [List.map_take, List.map_drop] <;> omega)) (by rfl) (run_den 400 ?_)
  simp (disch := omega) only [go_sem, Nat.reduceEqDiff, Nat.reduceAdd, Nat.reduceSub, Int.reduceAdd, Int.reduceSub, Int.reduceToNat]
  refine den_call (by (try simp (disch := omega) only [go_sem, List.length_set, Nat.reduceEqDiff, Nat.reduceAdd, Nat.reduceSub, Int.reduceAdd, Int.reduceSub, Int.reduceToNat]) <;> omega) (h3) [some (0, none), some (1, none), some (4, none)] (by simp only [go_sem]; repeat' first | rfl | constructor | (rw [List.map_set]; rfl) | (simp [List.map_take, List.map_drop] <;> omega)) (by rfl) (run_den 400 ?_)
  simp (disch := omega) only [go_sem, Nat.reduceEqDiff, Nat.reduceAdd, Nat.reduceSub, Int.reduceAdd, Int.reduceSub, Int.reduceToNat]
  refine den_fin [some (0, none), some (1, none)] (by (try simp (disch := omega) only [go_sem, List.length_set, Nat.reduceEqDiff, Nat.reduceAdd, Nat.reduceSub, Int.reduceAdd, Int.reduceSub, Int.reduceToNat]) <;> omega) _ (by simp only [go_sem]; rfl) (by rfl) (by rfl) ?_
  simp (disch := omega) only [go_sem, Nat.reduceEqDiff, Nat.reduceAdd, Nat.reduceSub, Int.reduceAdd, Int.reduceSub, Int.reduceToNat]
 ·refine ⟨{ x with tag := { x.tag with a := -1 } }, c2, o2, by simp only [LetterD.wf, I64, maxLen, List.length_replicate] at *; omega, ?_⟩
  refine callA_of Tryd.func17 (by kernel_rfl) rfl fun E hE => run_den 400 ?_
  simp (disch := omega) only [Tryd.ntmps17, Tryd.results17, go_sem, Nat.reduceEqDiff, Nat.reduceAdd, Nat.reduceSub, Int.reduceAdd, Int.reduceSub, Int.reduceToNat]
  refine den_call (by (try simp (disch := omega) only [go_sem, List.length_set, Nat.reduceEqDiff, Nat.reduceAdd, Nat.reduceSub, Int.reduceAdd, Int.reduceSub, Int.reduceToNat]) <;> omega) (h1) [some (0, none), some (1, none)] (by simp only [go_sem]; repeat' first | rfl | constructor | (rw [List.map_set]; rfl) | (simp [List.map_take, List.map_drop] <;> omega)) (by rfl) (run_den 400 ?_)
  simp (disch := omega) only [go_sem, Nat.reduceEqDiff, Nat.reduceAdd, Nat.reduceSub, Int.reduceAdd, Int.reduceSub, Int.reduceToNat]
  refine den_call (by (try simp (disch := omega) only [go_sem, List.length_set, Nat.reduceEqDiff, Nat.reduceAdd, Nat.reduceSub, Int.reduceAdd, Int.reduceSub, Int.reduceToNat]) <;> omega) (h2) [some (0, none), some (1, none)] (by simp only [go_sem]; repeat' first | rfl | constructor | (rw [List.map_set]; rfl) | (simp [List.map_take, List.map_drop] <;> omega)) (by rfl) (run_den 400 ?_)
  simp (disch := omega) only [go_sem, Nat.reduceEqDiff, Nat.reduceAdd, Nat.reduceSub, Int.reduceAdd, Int.reduceSub, Int.reduceToNat]
  refine den_fin [some (0, none), some (1, none)] (by (try simp (disch := omega) only [go_sem, List.length_set, Nat.reduceEqDiff, Nat.reduceAdd, Nat.reduceSub, Int.reduceAdd, Int.reduceSub, Int.reduceToNat]) <;> omega) _ (by simp only [go_sem]; rfl) (by rfl) (by rfl) ?_
  simp (disch := omega) only [go_sem, Nat.reduceEqDiff, Nat.reduceAdd, Nat.reduceSub, Int.reduceAdd, Int.reduceSub, Int.reduceToNat]
 ·refine ⟨x, c2, o2, w1, ?_⟩
  refine callA_of Tryd.func17 (by kernel_rfl) rfl fun E hE => run_den 400 ?_
  simp (disch := omega) only [Tryd.ntmps17, Tryd.results17, go_sem, Nat.reduceEqDiff, Nat.reduceAdd, Nat.reduceSub, Int.reduceAdd, Int.reduceSub, Int.reduceToNat]
  refine den_call (by (try simp (disch := omega) only [go_sem, List.length_set, Nat.reduceEqDiff, Nat.reduceAdd, Nat.reduceSub, Int.reduceAdd, Int.reduceSub, Int.reduceToNat]) <;> omega) (h1) [some (0, none), some (1, none)] (by simp only [go_sem]; repeat' first | rfl | constructor | (rw [List.map_set]; rfl) | (simp [List.map_take, List.map_drop] <;> omega)) (by rfl) (run_den 400 ?_)
  simp (disch := omega) only [go_sem, Nat.reduceEqDiff, Nat.reduceAdd, Nat.reduceSub, Int.reduceAdd, Int.reduceSub, Int.reduceToNat]
  refine den_call (by (try simp (disch := omega) only [go_sem, List.length_set, Nat.reduceEqDiff, Nat.reduceAdd, Nat.reduceSub, Int.reduceAdd, Int.reduceSub, Int.reduceToNat]) <;> omega) (h2) [some (0, none), some (1, none)] (by simp only [go_sem]; repeat' first | rfl | constructor | (rw [List.map_set]; rfl) | (simp [List.map_take, List.map_drop] <;> omega)) (by rfl) (run_den 400 ?_)
  simp (disch := omega) only [go_sem, Nat.reduceEqDiff, Nat.reduceAdd, Nat.reduceSub, Int.reduceAdd, Int.reduceSub, Int.reduceToNat]
  refine den_fin [some (0, none), some (1, none)] (by (try simp (disch := omega) only [go_sem, List.length_set, Nat.reduceEqDiff, Nat.reduceAdd, Nat.reduceSub, Int.reduceAdd, Int.reduceSub, Int.reduceToNat]) <;> omega) _ (by simp only [go_sem]; rfl) (by rfl) (by rfl) ?_
  simp (disch := omega) only [go_sem, Nat.reduceEqDiff, Nat.reduceAdd, Nat.reduceSub, Int.reduceAdd, Int.reduceSub, Int.reduceToNat]
theorem spec_l24Act (b : List UInt8) (c : CurD) (hc : c.ok b) : ∃ (x : ActD) (c' : CurD), c'.ok b ∧ x.wf ∧ CallA Tryd.prog 61 [.sc (.pt 1 0 0)] (c.hp b) (.ag x.cs) (c'.hp b) := by
 have h1 := spec_l01Below b c hc 2
 have o1 := CurD.below_ok hc 2
 have b1 := c.below_lt b (n := 2) (by omega)
 generalize c.below b 2 = r1 at h1 o1 b1
 obtain ⟨v1, c1⟩ := r1
 dsimp only at h1 o1 b1
 have h2 := spec_l01Below b c1 o1 4
 have o2 := CurD.below_ok o1 4
 have b2 := c1.below_lt b (n := 4) (by omega)
 generalize c1.below b 4 = r2 at h2 o2 b2
 obtain ⟨v2, c2⟩ := r2
 dsimp only at h2 o2 b2
 have h3 := spec_l01PickInt b c2 o2 [1, 1, 2, 3, 3, 4, 4, 5, 5, 6, 7, 8, 8, 8, 8, 8, 8, 8, 8, 8, 8, 9, 10, 11, 12] (by decide) (by decide)
 have o3 := CurD.below_ok o2 (b := b) 25
 have m3 := c2.pick_mem b (l := [1, 1, 2, 3, 3, 4, 4, 5, 5, 6, 7, 8, 8, 8, 8, 8, 8, 8, 8, 8, 8, 9, 10, 11, 12]) (by decide)
 have w3 := (by decide : ∀ x ∈ ([1, 1, 2, 3, 3, 4, 4, 5, 5, 6, 7, 8, 8, 8, 8, 8, 8, 8, 8, 8, 8, 9, 10, 11, 12] : List Int), 1 ≤ x ∧ x ≤ 12) _ m3
 rw [show (([1, 1, 2, 3, 3, 4, 4, 5, 5, 6, 7, 8, 8, 8, 8, 8, 8, 8, 8, 8, 8, 9, 10, 11, 12] : List Int).length : Int) = 25 from rfl] at h3
 generalize c2.pick b [1, 1, 2, 3, 3, 4, 4, 5, 5, 6, 7, 8, 8, 8, 8, 8, 8, 8, 8, 8, 8, 9, 10, 11, 12] = v3 at h3 w3
 clear m3
 generalize c2.below b 25 = r3 at h3 o3
 obtain ⟨u3, c3⟩ := r3
 dsimp only at h3 o3
 have hv : v3 = 1 ∨ v3 = 2 ∨ v3 = 5 ∨ v3 = 6 ∨ v3 = 8 ∨ v3 = 11 ∨ v3 = 12 ∨ (v3 ≠ 1 ∧ v3 ≠ 2 ∧ v3 ≠ 5 ∧ v3 ≠ 6 ∧ v3 ≠ 8 ∧ v3 ≠ 11 ∧ v3 ≠ 12) := by omega
 rcases hv with rfl | rfl | rfl | rfl | rfl | rfl | rfl | hv
 ·have h4 := spec_l01Below b c3 o3 40
  have o4 := CurD.below_ok o3 40
  have b4 := c3.below_lt b (n := 40) (by omega)
  generalize c3.below b 40 = r4 at h4 o4 b4
  obtain ⟨v4, c4⟩ := r4
  dsimp only at h4 o4 b4
  obtain ⟨n, hn⟩ := Int.eq_ofNat_of_zero_le (show 0 ≤ 1 + v4 by omega)
  have hT := spec_l01Text b c4 o4 n (by omega)
  have oT := txtD_ok (n := n) o4
  have lT := txtD_len b n c4
  generalize txtD b n c4 = T at hT oT lT
  obtain ⟨T, cT⟩ := T
  dsimp only at hT oT lT
  refine ⟨⟨1, 1 + v1, v2, 0, T, addrNone, letNone⟩, cT, oT, by simp only [ActD.wf, LetterD.wf, I64, maxLen, letNone, addrNone, List.length_nil] at *; omega, ?_⟩
  refine callA_of Tryd.func61 (by kernel_rfl) rfl fun E hE => run_den 400 ?_
  simp (disch := omega) only [Tryd.ntmps61, Tryd.results61, go_sem, Nat.reduceEqDiff, Nat.reduceAdd, Nat.reduceSub, Int.reduceAdd, Int.reduceSub, Int.reduceToNat]
  refine den_call (by (try simp (disch := omega) only [go_sem, List.length_set, Nat.reduceEqDiff, Nat.reduceAdd, Nat.reduceSub, Int.reduceAdd, Int.reduceSub, Int.reduceToNat]) <;> omega) (h1) [some (0, none), some (1, none)] (by simp only [go_sem]; repeat' first | rfl | constructor | (rw [List.map_set]; rfl) | (simp [List.map_take, List.map_drop] <;> omega)) (by rfl) (run_den 400 ?_)
  simp (disch := omega) only [go_sem, Nat.reduceEqDiff, Nat.reduceAdd, Nat.reduceSub, Int.reduceAdd, Int.reduceSub, Int.reduceToNat]
  refine den_call (by (try simp (disch := omega) only [go_sem, List.length_set, Nat.reduceEqDiff, Nat.reduceAdd, Nat.reduceSub, Int.reduceAdd, Int.reduceSub, Int.reduceToNat]) <;> omega) (h2) [some (0, none), some (1, none)] (by simp only [go_sem]; repeat' first | rfl | constructor | (rw [List.map_set]; rfl) | (simp [List.map_take, List.map_drop] <;> omega)) (by rfl) (run_den 400 ?_)
  simp (disch := omega) only [go_sem, Nat.reduceEqDiff, Nat.reduceAdd, Nat.reduceSub, Int.reduceAdd, Int.reduceSub, Int.reduceToNat]
  refine den_call (by (try simp (disch := omega) only [go_sem, List.length_set, Nat.reduceEqDiff, Nat.reduceAdd, Nat.reduceSub, Int.reduceAdd, Int.reduceSub, Int.reduceToNat]) <;> omega) (h3) [some (0, none), some (1, none), some (4, none)] (by simp only [go_sem]; repeat' first | rfl | constructor | (rw [List.map_set]; rfl) | (simp [List.map_take, List.map_drop] <;> omega)) (by rfl) (run_den 400 ?_)
  simp (disch := omega) only [go_sem, Nat.reduceEqDiff, Nat.reduceAdd, Nat.reduceSub, Int.reduceAdd, Int.reduceSub, Int.reduceToNat]
  refine den_call (by (try simp (disch := omega) only [go_sem, List.length_set, Nat.reduceEqDiff, Nat.reduceAdd, Nat.reduceSub, Int.reduceAdd, Int.reduceSub, Int.reduceToNat]) <;> omega) (h4) [some (0, none), some (1, none)] (by simp only [go_sem]; repeat' first | rfl | constructor | (rw [List.map_set]; rfl) | (simp [List.map_take, List.map_drop] <;> omega)) (by rfl) (run_den 400 ?_)
  simp (disch := omega) only [go_sem, Nat.reduceEqDiff, Nat.reduceAdd, Nat.reduceSub, Int.reduceAdd, Int.reduceSub, Int.reduceToNat]
  try simp (disch := omega) only [go_sem, Nat.reduceEqDiff, Nat.reduceAdd, Nat.reduceSub, Int.reduceAdd, Int.reduceSub, Int.reduceToNat, hn]
  refine den_call (by (try simp (disch := omega) only [go_sem, List.length_set, Nat.reduceEqDiff, Nat.reduceAdd, Nat.reduceSub, Int.reduceAdd, Int.reduceSub, Int.reduceToNat]) <;> omega) (hT) [some (0, none), some (1, none)] (by simp only [go_sem]; repeat' first | rfl | constructor | (rw [List.map_set]; rfl) | (simp [List.map_take, List.map_drop] <;> omega)) (by rfl) (run_den 400 ?_)
  simp (disch := omega) only [go_sem, Nat.reduceEqDiff, Nat.reduceAdd, Nat.reduceSub, Int.reduceAdd, Int.reduceSub, Int.reduceToNat]
  refine den_fin [some (0, none), some (1, none)] (by (try simp (disch := omega) only [go_sem, List.length_set, Nat.reduceEqDiff, Nat.reduceAdd, Nat.reduceSub, Int.reduceAdd, Int.reduceSub, Int.reduceToNat]) <;> omega) _ (by simp only [go_sem]; rfl) (by rfl) (by rfl) ?_
  simp (disch := omega) only [go_sem, Nat.reduceEqDiff, Nat.reduceAdd, Nat.reduceSub, Int.reduceAdd, Int.reduceSub, Int.reduceToNat]
  try simp [addrNone, letNone]
 ·have h4 := spec_l01Below b c3 o3 50
  have o4 := CurD.below_ok o3 50
  have b4 := c3.below_lt b (n := 50) (by omega)
  generalize c3.below b 50 = r4 at h4 o4 b4
  obtain ⟨v4, c4⟩ := r4
  dsimp only at h4 o4 b4
  refine ⟨⟨2, 1 + v1, v2, v4, [], addrNone, letNone⟩, c4, o4, by simp only [ActD.wf, LetterD.wf, I64, maxLen, letNone, addrNone, List.length_nil] at *; omega, ?_⟩
  refine callA_of Tryd.func61 (by kernel_rfl) rfl fun E hE => run_den 400 ?_
  simp (disch := omega) only [Tryd.ntmps61, Tryd.results61, go_sem, Nat.reduceEqDiff, Nat.reduceAdd, Nat.reduceSub, Int.reduceAdd, Int.reduceSub, Int.reduceToNat]
  refine den_call (by (try simp (disch := omega) only [go_sem, List.length_set, Nat.reduceEqDiff, Nat.reduceAdd, Nat.reduceSub, Int.reduceAdd, Int.reduceSub, Int.reduceToNat]) <;> omega) (h1) [some (0, none), some (1, none)] (by simp only [go_sem]; repeat' first | rfl | constructor | (rw [List.map_set]; rfl) | (simp [List.map_take, List.map_drop] <;> omega)) (by rfl) (run_den 400 ?_)
  simp (disch := omega) only [go_sem, Nat.reduceEqDiff, Nat.reduceAdd, Nat.reduceSub, Int.reduceAdd, Int.reduceSub, Int.reduceToNat]
  refine den_call (by (try simp (disch := omega) only [go_sem, List.length_set, Nat.reduceEqDiff, Nat.reduceAdd, Nat.reduceSub, Int.reduceAdd, Int.reduceSub, Int.reduceToNat]) <;> omega) (h2) [some (0, none), some (1, none)] (by simp only [go_sem]; repeat' first | rfl | constructor | (rw [List.map_set]; rfl) | (simp [List.map_take, List.map_drop] <;> omega)) (by rfl) (run_den 400 ?_)
  simp (disch := omega) only [go_sem, Nat.reduceEqDiff, Nat.reduceAdd, Nat.reduceSub, Int.reduceAdd, Int.reduceSub, Int.reduceToNat]
  refine den_call (by (try simp (disch := omega) only [go_sem, List.length_set, Nat.reduceEqDiff, Nat.reduceAdd, Nat.reduceSub, Int.reduceAdd, Int.reduceSub, Int.reduceToNat]) <;> omega) (h3) [some (0, none), some (1, none), some (4, none)] (by simp only [go_sem]; repeat' first | rfl | constructor | (rw [List.map_set]; rfl) | (simp [List.map_take, List.map_drop] <;> omega)) (by rfl) (run_den 400 ?_)
  simp (disch := omega) only [go_sem, Nat.reduceEqDiff, Nat.reduceAdd, Nat.reduceSub, Int.reduceAdd, Int.reduceSub, Int.reduceToNat]
  refine den_call (by (try simp (disch := omega) only [go_sem, List.length_set, Nat.reduceEqDiff, Nat.reduceAdd, Nat.reduceSub, Int.reduceAdd, Int.reduceSub, Int.reduceToNat]) <;> omega) (h4) [some (0, none), some (1, none)] (by simp only [go_sem]; repeat' first | rfl | constructor | (rw [List.map_set]; rfl) | (simp [List.map_take, List.map_drop] <;> omega)) (by rfl) (run_den 400 ?_)
  simp (disch := omega) only [go_sem, Nat.reduceEqDiff, Nat.reduceAdd, Nat.reduceSub, Int.reduceAdd, Int.reduceSub, Int.reduceToNat]
  refine den_fin [some (0, none), some (1, none)] (by (try simp (disch := omega) only [go_sem, List.length_set, Nat.reduceEqDiff, Nat.reduceAdd, Nat.reduceSub, Int.reduceAdd, Int.reduceSub, Int.reduceToNat]) <;> omega) _ (by simp only [go_sem]; rfl) (by rfl) (by rfl) ?_
  simp (disch := omega) only [go_sem, Nat.reduceEqDiff, Nat.reduceAdd, Nat.reduceSub, Int.reduceAdd, Int.reduceSub, Int.reduceToNat]
  try simp [addrNone, letNone]
 ·have h4 := spec_l01Below b c3 o3 3
  have o4 := CurD.below_ok o3 3
  have b4 := c3.below_lt b (n := 3) (by omega)
  generalize c3.below b 3 = r4 at h4 o4 b4
  obtain ⟨v4, c4⟩ := r4
  dsimp only at h4 o4 b4
  have h5 := spec_l01Below b c4 o4 3
  have o5 := CurD.below_ok o4 3
  have b5 := c4.below_lt b (n := 3) (by omega)
  generalize c4.below b 3 = r5 at h5 o5 b5
  obtain ⟨v5, c5⟩ := r5
  dsimp only at h5 o5 b5
  have h6 := spec_l01Once b c5 o5 4
  have o6 := CurD.below_ok o5 4
  have b6 := c5.below_lt b (n := 4) (by omega)
  generalize c5.below b 4 = r6 at h6 o6 b6
  obtain ⟨v6, c6⟩ := r6
  dsimp only at h6 o6 b6
  generalize hq6 : (v6 == 0) = q6 at h6
  refine ⟨⟨5, 1 + v1, v2, 0, [], ⟨1 + v4, 10 * (1 + v1) + 2 + v5, q6, false⟩, letNone⟩, c6, o6, by simp only [ActD.wf, LetterD.wf, I64, maxLen, letNone, addrNone, List.length_nil] at *; omega, ?_⟩
  refine callA_of Tryd.func61 (by kernel_rfl) rfl fun E hE => run_den 400 ?_
  simp (disch := omega) only [Tryd.ntmps61, Tryd.results61, go_sem, Nat.reduceEqDiff, Nat.reduceAdd, Nat.reduceSub, Int.reduceAdd, Int.reduceSub, Int.reduceToNat]
  refine den_call (by (try simp (disch := omega) only [go_sem, List.length_set, Nat.reduceEqDiff, Nat.reduceAdd, Nat.reduceSub, Int.reduceAdd, Int.reduceSub, Int.reduceToNat]) <;> omega) (h1) [some (0, none), some (1, none)] (by simp only [go_sem]; repeat' first | rfl | constructor | (rw [List.map_set]; rfl) | (simp [List.map_take, List.map_drop] <;> omega)) (by rfl) (run_den 400 ?_)
  simp (disch := omega) only [go_sem, Nat.reduceEqDiff, Nat.reduceAdd, Nat.reduceSub, Int.reduceAdd, Int.reduceSub, Int.reduceToNat]
  refine den_call (by (try simp (disch := omega) only [go_sem, List.length_set, Nat.reduceEqDiff, Nat.reduceAdd, Nat.reduceSub, Int.reduceAdd, Int.reduceSub, Int.reduceToNat]) <;> omega) (h2) [some (0, none), some (1, none)] (by simp only [go_sem]; repeat' first | rfl | constructor | (rw [List.map_set]; rfl) | (simp [List.map_take, List.map_drop] <;> omega)) (by rfl) (run_den 400 ?_)
  simp (disch := omega) only [go_sem, Nat.reduceEqDiff, Nat.reduceAdd, Nat.reduceSub, Int.reduceAdd, Int.reduceSub, Int.reduceToNat]
  refine den_call (by (try simp (disch := omega) only [go_sem, List.length_set, Nat.reduceEqDiff, Nat.reduceAdd, Nat.reduceSub, Int.reduceAdd, Int.reduceSub, Int.reduceToNat]) <;> omega) (h3) [some (0, none), some (1, none), some (4, none)] (by simp only [go_sem]; repeat' first | rfl | constructor | (rw [List.map_set]; rfl) | (simp [List.map_take, List.map_drop] <;> omega)) (by rfl) (run_den 400 ?_)
  simp (disch := omega) only [go_sem, Nat.reduceEqDiff, Nat.reduceAdd, Nat.reduceSub, Int.reduceAdd, Int.reduceSub, Int.reduceToNat]
  refine den_drawW [(1, 4), (4, 8), (4, 11)] [[0, 3, 7, 10, 1, 2, 4, 5, 6, 8, 9, 11, 12, 13, 14], [0, 3, 7, 10, 1, 2, 8, 4, 5, 6, 9, 11, 12, 13, 14], [0, 3, 7, 10, 1, 2, 8, 11, 4, 5, 6, 9, 12, 13, 14], [0, 3, 7, 10, 4, 5, 6, 1, 2, 8, 9, 11, 12, 13, 14]] (by kernel_rfl) (by (try simp (disch := omega) only [go_sem, List.length_set, Nat.reduceEqDiff, Nat.reduceAdd, Nat.reduceSub, Int.reduceAdd, Int.reduceSub, Int.reduceToNat]) <;> omega) (by kernel_rfl) ?_
  simp only [allDn]
  refine ⟨runW_den 400 ?_, runW_den 400 ?_, runW_den 400 ?_, runW_den 400 ?_⟩
  all_goals simp (disch := omega) only [go_sem, Nat.reduceEqDiff, Nat.reduceAdd, Nat.reduceSub, Int.reduceAdd, Int.reduceSub, Int.reduceToNat]
  all_goals
   refine den_callW (by (try simp (disch := omega) only [go_sem, List.length_set, Nat.reduceEqDiff, Nat.reduceAdd, Nat.reduceSub, Int.reduceAdd, Int.reduceSub, Int.reduceToNat]) <;> omega) (h4) [some (0, none), some (1, none)] (by simp only [go_sem]; repeat' first | rfl | constructor | (rw [List.map_set]; rfl) | (simp [List.map_take, List.map_drop] <;> omega)) (by rfl) (runW_den 400 ?_)
   simp (disch := omega) only [go_sem, Nat.reduceEqDiff, Nat.reduceAdd, Nat.reduceSub, Int.reduceAdd, Int.reduceSub, Int.reduceToNat]
   refine den_callW (by (try simp (disch := omega) only [go_sem, List.length_set, Nat.reduceEqDiff, Nat.reduceAdd, Nat.reduceSub, Int.reduceAdd, Int.reduceSub, Int.reduceToNat]) <;> omega) (h5) [some (0, none), some (1, none)] (by simp only [go_sem]; repeat' first | rfl | constructor | (rw [List.map_set]; rfl) | (simp [List.map_take, List.map_drop] <;> omega)) (by rfl) (runW_den 400 ?_)
   simp (disch := omega) only [go_sem, Nat.reduceEqDiff, Nat.reduceAdd, Nat.reduceSub, Int.reduceAdd, Int.reduceSub, Int.reduceToNat]
   refine den_callW (by (try simp (disch := omega) only [go_sem, List.length_set, Nat.reduceEqDiff, Nat.reduceAdd, Nat.reduceSub, Int.reduceAdd, Int.reduceSub, Int.reduceToNat]) <;> omega) (h6) [some (0, none), some (1, none)] (by simp only [go_sem]; repeat' first | rfl | constructor | (rw [List.map_set]; rfl) | (simp [List.map_take, List.map_drop] <;> omega)) (by rfl) (runW_den 400 ?_)
   simp (disch := omega) only [go_sem, Nat.reduceEqDiff, Nat.reduceAdd, Nat.reduceSub, Int.reduceAdd, Int.reduceSub, Int.reduceToNat]
   refine ⟨by (try simp (disch := omega) only [go_sem, List.length_set, Nat.reduceEqDiff, Nat.reduceAdd, Nat.reduceSub, Int.reduceAdd, Int.reduceSub, Int.reduceToNat]) <;> omega, run_den 400 ?_⟩
   try simp (disch := omega) only [go_sem, Nat.reduceEqDiff, Nat.reduceAdd, Nat.reduceSub, Int.reduceAdd, Int.reduceSub, Int.reduceToNat]
   refine den_fin [some (0, none), some (1, none)] (by (try simp (disch := omega) only [go_sem, List.length_set, Nat.reduceEqDiff, Nat.reduceAdd, Nat.reduceSub, Int.reduceAdd, Int.reduceSub, Int.reduceToNat]) <;> omega) _ (by simp only [go_sem]; rfl) (by rfl) (by rfl) ?_
   simp (disch := omega) only [go_sem, Nat.reduceEqDiff, Nat.reduceAdd, Nat.reduceSub, Int.reduceAdd, Int.reduceSub, Int.reduceToNat]
   try simp [addrNone, letNone]
 ·have h4 := spec_l01Below b c3 o3 4
  have o4 := CurD.below_ok o3 4
  have b4 := c3.below_lt b (n := 4) (by omega)
  generalize c3.below b 4 = r4 at h4 o4 b4
  obtain ⟨v4, c4⟩ := r4
  dsimp only at h4 o4 b4
  refine ⟨⟨6, 1 + v1, v4, 0, [], addrNone, letNone⟩, c4, o4, by simp only [ActD.wf, LetterD.wf, I64, maxLen, letNone, addrNone, List.length_nil] at *; omega, ?_⟩
  refine callA_of Tryd.func61 (by kernel_rfl) rfl fun E hE => run_den 400 ?_
  simp (disch := omega) only [Tryd.ntmps61, Tryd.results61, go_sem, Nat.reduceEqDiff, Nat.reduceAdd, Nat.reduceSub, Int.reduceAdd, Int.reduceSub, Int.reduceToNat]
  refine den_call (by (try simp (disch := omega) only [go_sem, List.length_set, Nat.reduceEqDiff, Nat.reduceAdd, Nat.reduceSub, Int.reduceAdd, Int.reduceSub, Int.reduceToNat]) <;> omega) (h1) [some (0, none), some (1, none)] (by simp only [go_sem]; repeat' first | rfl | constructor | (rw [List.map_set]; rfl) | (simp [List.map_take, List.map_drop] <;> omega)) (by rfl) (run_den 400 ?_)
  simp (disch := omega) only [go_sem, Nat.reduceEqDiff, Nat.reduceAdd, Nat.reduceSub, Int.reduceAdd, Int.reduceSub, Int.reduceToNat]
  refine den_call (by (try simp (disch := omega) only [go_sem, List.length_set, Nat.reduceEqDiff, Nat.reduceAdd, Nat.reduceSub, Int.reduceAdd, Int.reduceSub, Int.reduceToNat]) <;> omega) (h2) [some (0, none), some (1, none)] (by simp only [go_sem]; repeat' first | rfl | constructor | (rw [List.map_set]; rfl) | (simp [List.map_take, List.map_drop] <;> omega)) (by rfl) (run_den 400 ?_)
  simp (disch := omega) only [go_sem, Nat.reduceEqDiff, Nat.reduceAdd, Nat.reduceSub, Int.reduceAdd, Int.reduceSub, Int.reduceToNat]
  refine den_call (by (try simp (disch := omega) only [go_sem, List.length_set, Nat.reduceEqDiff, Nat.reduceAdd, Nat.reduceSub, Int.reduceAdd, Int.reduceSub, Int.reduceToNat]) <;> omega) (h3) [some (0, none), some (1, none), some (4, none)] (by simp only [go_sem]; repeat' first | rfl | constructor | (rw [List.map_set]; rfl) | (simp [List.map_take, List.map_drop] <;> omega)) (by rfl) (run_den 400 ?_)
  simp (disch := omega) only [go_sem, Nat.reduceEqDiff, Nat.reduceAdd, Nat.reduceSub, Int.reduceAdd, Int.reduceSub, Int.reduceToNat]
  refine den_call (by (try simp (disch := omega) only [go_sem, List.length_set, Nat.reduceEqDiff, Nat.reduceAdd, Nat.reduceSub, Int.reduceAdd, Int.reduceSub, Int.reduceToNat]) <;> omega) (h4) [some (0, none), some (1, none)] (by simp only [go_sem]; repeat' first | rfl | constructor | (rw [List.map_set]; rfl) | (simp [List.map_take, List.map_drop] <;> omega)) (by rfl) (run_den 400 ?_)
  simp (disch := omega) only [go_sem, Nat.reduceEqDiff, Nat.reduceAdd, Nat.reduceSub, Int.reduceAdd, Int.reduceSub, Int.reduceToNat]
  refine den_fin [some (0, none), some (1, none)] (by (try simp (disch := omega) only [go_sem, List.length_set, Nat.reduceEqDiff, Nat.reduceAdd, Nat.reduceSub, Int.reduceAdd, Int.reduceSub, Int.reduceToNat]) <;> omega) _ (by simp only [go_sem]; rfl) (by rfl) (by rfl) ?_
  simp (disch := omega) only [go_sem, Nat.reduceEqDiff, Nat.reduceAdd, Nat.reduceSub, Int.reduceAdd, Int.reduceSub, Int.reduceToNat]
  try simp [addrNone, letNone]
 ·have h4 := spec_l01PickInt b c3 o3 [0, 0, 0, 1, 2] (by decide) (by decide)
  have o4 := CurD.below_ok o3 (b := b) 5
  have m4 := c3.pick_mem b (l := [0, 0, 0, 1, 2]) (by decide)
  have w4 := (by decide : ∀ x ∈ ([0, 0, 0, 1, 2] : List Int), 0 ≤ x ∧ x ≤ 2) _ m4
  rw [show (([0, 0, 0, 1, 2] : List Int).length : Int) = 5 from rfl] at h4
  generalize c3.pick b [0, 0, 0, 1, 2] = v4 at h4 w4
  clear m4
  generalize c3.below b 5 = r4 at h4 o4
  obtain ⟨u4, c4⟩ := r4
  dsimp only at h4 o4
  refine ⟨⟨8, 1 + v1, v4, 0, [], addrNone, letNone⟩, c4, o4, by simp only [ActD.wf, LetterD.wf, I64, maxLen, letNone, addrNone, List.length_nil] at *; omega, ?_⟩
  refine callA_of Tryd.func61 (by kernel_rfl) rfl fun E hE => run_den 400 ?_
  simp (disch := omega) only [Tryd.ntmps61, Tryd.results61, go_sem, Nat.reduceEqDiff, Nat.reduceAdd, Nat.reduceSub, Int.reduceAdd, Int.reduceSub, Int.reduceToNat]
  refine den_call (by (try simp (disch := omega) only [go_sem, List.length_set, Nat.reduceEqDiff, Nat.reduceAdd, Nat.reduceSub, Int.reduceAdd, Int.reduceSub, Int.reduceToNat]) <;> omega) (h1) [some (0, none), some (1, none)] (by simp only [go_sem]; repeat' first | rfl | constructor | (rw [List.map_set]; rfl) | (simp [List.map_take, List.map_drop] <;> omega)) (by rfl) (run_den 400 ?_)
  simp (disch := omega) only [go_sem, Nat.reduceEqDiff, Nat.reduceAdd, Nat.reduceSub, Int.reduceAdd, Int.reduceSub, Int.reduceToNat]
  refine den_call (by (try simp (disch := omega) only [go_sem, List.length_set, Nat.reduceEqDiff, Nat.reduceAdd, Nat.reduceSub, Int.reduceAdd, Int.reduceSub, Int.reduceToNat]) <;> omega) (h2) [some (0, none), some (1, none)] (by simp only [go_sem]; repeat' first | rfl | constructor | (rw [List.map_set]; rfl) | (simp [List.map_take, List.map_drop] <;> omega)) (by rfl) (run_den 400 ?_)
  simp (disch := omega) only [go_sem, Nat.reduceEqDiff, Nat.reduceAdd, Nat.reduceSub, Int.reduceAdd, Int.reduceSub, Int.reduceToNat]
  refine den_call (by (try simp (disch := omega) only [go_sem, List.length_set, Nat.reduceEqDiff, Nat.reduceAdd, Nat.reduceSub, Int.reduceAdd, Int.reduceSub, Int.reduceToNat]) <;> omega) (h3) [some (0, none), some (1, none), some (4, none)] (by simp only [go_sem]; repeat' first | rfl | constructor | (rw [List.map_set]; rfl) | (simp [List.map_take, List.map_drop] <;> omega)) (by rfl) (run_den 400 ?_)
  simp (disch := omega) only [go_sem, Nat.reduceEqDiff, Nat.reduceAdd, Nat.reduceSub, Int.reduceAdd, Int.reduceSub, Int.reduceToNat]
  refine den_call (by (try simp (disch := omega) only [go_sem, List.length_set, Nat.reduceEqDiff, Nat.reduceAdd, Nat.reduceSub, Int.reduceAdd, Int.reduceSub, Int.reduceToNat]) <;> omega) (h4) [some (0, none), some (1, none), some (5, none)] (by simp only [go_sem]; repeat' first | rfl | constructor | (rw [List.map_set]; rfl) | (simp [List.map_take, List.map_drop] <;> omega)) (by rfl) (run_den 400 ?_)
  simp (disch := omega) only [go_sem, Nat.reduceEqDiff, Nat.reduceAdd, Nat.reduceSub, Int.reduceAdd, Int.reduceSub, Int.reduceToNat]
  refine den_fin [some (0, none), some (1, none)] (by (try simp (disch := omega) only [go_sem, List.length_set, Nat.reduceEqDiff, Nat.reduceAdd, Nat.reduceSub, Int.reduceAdd, Int.reduceSub, Int.reduceToNat]) <;> omega) _ (by simp only [go_sem]; rfl) (by rfl) (by rfl) ?_
  simp (disch := omega) only [go_sem, Nat.reduceEqDiff, Nat.reduceAdd, Nat.reduceSub, Int.reduceAdd, Int.reduceSub, Int.reduceToNat]
  try simp [addrNone, letNone]
 ·obtain ⟨x, c4, o4, w4, h4⟩ := spec_l16Letter b c3 o3
  have h5 := spec_l01Once b c4 o4 2
  have o5 := CurD.below_ok o4 2
  have b5 := c4.below_lt b (n := 2) (by omega)
  generalize c4.below b 2 = r5 at h5 o5 b5
  obtain ⟨v5, c5⟩ := r5
  dsimp only at h5 o5 b5
  generalize hq5 : (v5 == 0) = q5 at h5
  rcases Bool.eq_false_or_eq_true q5 with e5 | e5 <;> rw [e5] at h5
  ·have h6 := spec_l01PickInt b c5 o5 [4, 6, 11, 8, 13] (by decide) (by decide)
   have o6 := CurD.below_ok o5 (b := b) 5
   have m6 := c5.pick_mem b (l := [4, 6, 11, 8, 13]) (by decide)
   have w6 := (by decide : ∀ x ∈ ([4, 6, 11, 8, 13] : List Int), 4 ≤ x ∧ x ≤ 13) _ m6
   rw [show (([4, 6, 11, 8, 13] : List Int).length : Int) = 5 from rfl] at h6
   generalize c5.pick b [4, 6, 11, 8, 13] = v6 at h6 w6
   clear m6
   generalize c5.below b 5 = r6 at h6 o6
   obtain ⟨u6, c6⟩ := r6
   dsimp only at h6 o6
   refine ⟨⟨11, 1 + v1, v2, 0, [], addrNone, { x with kind := v6, token := 102, tag := ⟨0, 0, 0, 0, 0⟩ }⟩, c6, o6, by simp only [ActD.wf, LetterD.wf, I64, maxLen, letNone, addrNone, List.length_nil] at *; omega, ?_⟩
   refine callA_of Tryd.func61 (by kernel_rfl) rfl fun E hE => run_den 400 ?_
   simp (disch := omega) only [Tryd.ntmps61, Tryd.results61, go_sem, Nat.reduceEqDiff, Nat.reduceAdd, Nat.reduceSub, Int.reduceAdd, Int.reduceSub, Int.reduceToNat]
   refine den_call (by (try simp (disch := omega) only [go_sem, List.length_set, Nat.reduceEqDiff, Nat.reduceAdd, Nat.reduceSub, Int.reduceAdd, Int.reduceSub, Int.reduceToNat]) <;> omega) (h1) [some (0, none), some (1, none)] (by simp only [go_sem]; repeat' first | rfl | constructor | (rw [List.map_set]; rfl) | (simp [List.map_take, List.map_drop] <;> omega)) (by rfl) (run_den 400 ?_)
   simp (disch := omega) only [go_sem, Nat.reduceEqDiff, Nat.reduceAdd, Nat.reduceSub, Int.reduceAdd, Int.reduceSub, Int.reduceToNat]
   refine den_call (by (try simp (disch := omega) only [go_sem, List.length_set, Nat.reduceEqDiff, Nat.reduceAdd, Nat.reduceSub, Int.reduceAdd, Int.reduceSub, Int.reduceToNat]) <;> omega) (h2) [some (0, none), some (1, none)] (by simp only [go_sem]; repeat' first | rfl | constructor | (rw [List.map_set]; rfl) | (simp [List.map_take, List.map_drop] <;> omega)) (by rfl) (run_den 400 ?_)
   simp (disch := omega) only [go_sem, Nat.reduceEqDiff, Nat.reduceAdd, Nat.reduceSub, Int.reduceAdd, Int.reduceSub, Int.reduceToNat]
   refine den_call (by (try simp (disch := omega) only [go_sem, List.length_set, Nat.reduceEqDiff, Nat.reduceAdd, Nat.reduceSub, Int.reduceAdd, Int.reduceSub, Int.reduceToNat]) <;> omega) (h3) [some (0, none), some (1, none), some (4, none)] (by simp only [go_sem]; repeat' first | rfl | constructor | (rw [List.map_set]; rfl) | (simp [List.map_take, List.map_drop] <;> omega)) (by rfl) (run_den 400 ?_)
   simp (disch := omega) only [go_sem, Nat.reduceEqDiff, Nat.reduceAdd, Nat.reduceSub, Int.reduceAdd, Int.reduceSub, Int.reduceToNat]
   refine den_call (by (try simp (disch := omega) only [go_sem, List.length_set, Nat.reduceEqDiff, Nat.reduceAdd, Nat.reduceSub, Int.reduceAdd, Int.reduceSub, Int.reduceToNat]) <;> omega) (h4) [some (0, none), some (1, none)] (by simp only [go_sem]; repeat' first | rfl | constructor | (rw [List.map_set]; rfl) | (simp [List.map_take, List.map_drop] <;> omega)) (by rfl) (run_den 400 ?_)
   simp (disch := omega) only [go_sem, Nat.reduceEqDiff, Nat.reduceAdd, Nat.reduceSub, Int.reduceAdd, Int.reduceSub, Int.reduceToNat]
   refine den_call (by (try simp (disch := omega) only [go_sem, List.length_set, Nat.reduceEqDiff, Nat.reduceAdd, Nat.reduceSub, Int.reduceAdd, Int.reduceSub, Int.reduceToNat]) <;> omega) (h5) [some (0, none), some (1, none)] (by simp only [go_sem]; repeat' first | rfl | constructor | (rw [List.map_set]; rfl) | (simp [List.map_take, List.map_drop] <;> omega)) (by rfl) (run_den 400 ?_)
   simp (disch := omega) only [go_sem, Nat.reduceEqDiff, Nat.reduceAdd, Nat.reduceSub, Int.reduceAdd, Int.reduceSub, Int.reduceToNat]
   refine den_call (by (try simp (disch := omega) only [go_sem, List.length_set, Nat.reduceEqDiff, Nat.reduceAdd, Nat.reduceSub, Int.reduceAdd, Int.reduceSub, Int.reduceToNat]) <;> omega) (h6) [some (0, none), some (1, none), some (5, none)] (by simp only [go_sem]; repeat' first | rfl | constructor | (rw [List.map_set]; rfl) | (simp [List.map_take, List.map_drop] <;> omega)) (by rfl) (run_den 400 ?_)
   simp (disch := omega) only [go_sem, Nat.reduceEqDiff, Nat.reduceAdd, Nat.reduceSub, Int.reduceAdd, Int.reduceSub, Int.reduceToNat]
   refine den_fin [some (0, none), some (1, none)] (by (try simp (disch := omega) only [go_sem, List.length_set, Nat.reduceEqDiff, Nat.reduceAdd, Nat.reduceSub, Int.reduceAdd, Int.reduceSub, Int.reduceToNat]) <;> omega) _ (by simp only [go_sem]; rfl) (by rfl) (by rfl) ?_
   simp (disch := omega) only [go_sem, Nat.reduceEqDiff, Nat.reduceAdd, Nat.reduceSub, Int.reduceAdd, Int.reduceSub, Int.reduceToNat]
   try simp [addrNone, letNone]
  ·refine ⟨⟨11, 1 + v1, v2, 0, [], addrNone, { x with tag := ⟨0, 0, 0, 0, 0⟩ }⟩, c5, o5, by simp only [ActD.wf, LetterD.wf, I64, maxLen, letNone, addrNone, List.length_nil] at *; omega, ?_⟩
   refine callA_of Tryd.func61 (by kernel_rfl) rfl fun E hE => run_den 400 ?_
   simp (disch := omega) only [Tryd.ntmps61, Tryd.results61, go_sem, Nat.reduceEqDiff, Nat.reduceAdd, Nat.reduceSub, Int.reduceAdd, Int.reduceSub, Int.reduceToNat]
   refine den_call (by (try simp (disch := omega) only [go_sem, List.length_set, Nat.reduceEqDiff, Nat.reduceAdd, Nat.reduceSub, Int.reduceAdd, Int.reduceSub, Int.reduceToNat]) <;> omega) (h1) [some (0, none), some (1, none)] (by simp only [go_sem]; repeat' first | rfl | constructor | (rw [List.map_set]; rfl) | (simp [List.map_take, List.map_drop] <;> omega)) (by rfl) (run_den 400 ?_)
   simp (disch := omega) only [go_sem, Nat.reduceEqDiff, Nat.reduceAdd, Nat.reduceSub, Int.reduceAdd, Int.reduceSub, Int.reduceToNat]
   refine den_call (by (try simp (disch := omega) only [go_sem, List.length_set, Nat.reduceEqDiff, Nat.reduceAdd, Nat.reduceSub, Int.reduceAdd, Int.reduceSub, Int.reduceToNat]) <;> omega) (h2) [some (0, none), some (1, none)] (by simp only [go_sem]; repeat' first | rfl | constructor | (rw [List.map_set]; rfl) | (simp [List.map_take, List.map_drop] <;> omega)) (by rfl) (run_den 400 ?_)
   simp (disch := omega) only [go_sem, Nat.reduceEqDiff, Nat.reduceAdd, Nat.reduceSub, Int.reduceAdd, Int.reduceSub, Int.reduceToNat]
   refine den_call (by (try simp (disch := omega) only [go_sem, List.length_set, Nat.reduceEqDiff, Nat.reduceAdd, Nat.reduceSub, Int.reduceAdd, Int.reduceSub, Int.reduceToNat]) <;> omega) (h3) [some (0, none), some (1, none), some (4, none)] (by simp only [go_sem]; repeat' first | rfl | constructor | (rw [List.map_set]; rfl) | (simp [List.map_take, List.map_drop] <;> omega)) (by rfl) (run_den 400 ?_)
   simp (disch := omega) only [go_sem, Nat.reduceEqDiff, Nat.reduceAdd, Nat.reduceSub, Int.reduceAdd, Int.reduceSub, Int.reduceToNat]
   refine den_call (by (try simp (disch := omega) only [go_sem, List.length_set, Nat.reduceEqDiff, Nat.reduceAdd, Nat.reduceSub, Int.reduceAdd, Int.reduceSub, Int.reduceToNat]) <;> omega) (h4) [some (0, none), some (1, none)] (by simp only [go_sem]; repeat' first | rfl | constructor | (rw [List.map_set]; rfl) | (simp [List.map_take, List.map_drop] <;> omega)) (by rfl) (run_den 400 ?_)
   simp (disch := omega) only [go_sem, Nat.reduceEqDiff, Nat.reduceAdd, Nat.reduceSub, Int.reduceAdd, Int.reduceSub, Int.reduceToNat]
   refine den_call (by (try simp (disch := omega) only [go_sem, List.length_set, Nat.reduceEqDiff, Nat.reduceAdd, Nat.reduceSub, Int.reduceAdd, Int.reduceSub, Int.reduceToNat]) <;> omega) (h5) [some (0, none), some (1, none)] (by simp only [go_sem]; repeat' first | rfl | constructor | (rw [List.map_set]; rfl) | (simp [List.map_take, List.map_drop] <;> omega)) (by rfl) (run_den 400 ?_)
   simp (disch := omega) only [go_sem, Nat.reduceEqDiff, Nat.reduceAdd, Nat.reduceSub, Int.reduceAdd, Int.reduceSub, Int.reduceToNat]
   refine den_fin [some (0, none), some (1, none)] (by (try simp (disch := omega) only [go_sem, List.length_set, Nat.reduceEqDiff, Nat.reduceAdd, Nat.reduceSub, Int.reduceAdd, Int.reduceSub, Int.reduceToNat]) <;> omega) _ (by simp only [go_sem]; rfl) (by rfl) (by rfl) ?_
   simp (disch := omega) only [go_sem, Nat.reduceEqDiff, Nat.reduceAdd, Nat.reduceSub, Int.reduceAdd, Int.reduceSub, Int.reduceToNat]
   try simp [addrNone, letNone]
 ·have h4 := spec_l01Below b c3 o3 30
  have o4 := CurD.below_ok o3 30
  have b4 := c3.below_lt b (n := 30) (by omega)
  generalize c3.below b 30 = r4 at h4 o4 b4
  obtain ⟨v4, c4⟩ := r4
  dsimp only at h4 o4 b4
  refine ⟨⟨12, 1 + v1, v4, 0, [], addrNone, letNone⟩, c4, o4, by simp only [ActD.wf, LetterD.wf, I64, maxLen, letNone, addrNone, List.length_nil] at *; omega, ?_⟩
  refine callA_of Tryd.func61 (by kernel_rfl) rfl fun E hE => run_den 400 ?_
  simp (disch := omega) only [Tryd.ntmps61, Tryd.results61, go_sem, Nat.reduceEqDiff, Nat.reduceAdd, Nat.reduceSub, Int.reduceAdd, Int.reduceSub, Int.reduceToNat]
  refine den_call (by (try simp (disch := omega) only [go_sem, List.length_set, Nat.reduceEqDiff, Nat.reduceAdd, Nat.reduceSub, Int.reduceAdd, Int.reduceSub, Int.reduceToNat]) <;> omega) (h1) [some (0, none), some (1, none)] (by simp only [go_sem]; repeat' first | rfl | constructor | (rw [List.map_set]; rfl) | (simp [List.map_take, List.map_drop] <;> omega)) (by rfl) (run_den 400 ?_)
  simp (disch := omega) only [go_sem, Nat.reduceEqDiff, Nat.reduceAdd, Nat.reduceSub, Int.reduceAdd, Int.reduceSub, Int.reduceToNat]
  refine den_call (by (try simp (disch := omega) only [go_sem, List.length_set, Nat.reduceEqDiff, Nat.reduceAdd, Nat.reduceSub, Int.reduceAdd, Int.reduceSub, Int.reduceToNat]) <;> omega) (h2) [some (0, none), some (1, none)] (by simp only [go_sem]; repeat' first | rfl | constructor | (rw [List.map_set]; rfl) | (simp [List.map_take, List.map_drop] <;> omega)) (by rfl) (run_den 400 ?_)
  simp (disch := omega) only [go_sem, Nat.reduceEqDiff, Nat.reduceAdd, Nat.reduceSub, Int.reduceAdd, Int.reduceSub, Int.reduceToNat]
  refine den_call (by (try simp (disch := omega) only [go_sem, List.length_set, Nat.reduceEqDiff, Nat.reduceAdd, Nat.reduceSub, Int.reduceAdd, Int.reduceSub, Int.reduceToNat]) <;> omega) (h3) [some (0, none), some (1, none), some (4, none)] (by simp only [go_sem]; repeat' first | rfl | constructor | (rw [List.map_set]; rfl) | (simp [List.map_take, List.map_drop] <;> omega)) (by rfl) (run_den 400 ?_)
  simp (disch := omega) only [go_sem, Nat.reduceEqDiff, Nat.reduceAdd, Nat.reduceSub, Int.reduceAdd, Int.reduceSub, Int.reduceToNat]
  refine den_call (by (try simp (disch := omega) only [go_sem, List.length_set, Nat.reduceEqDiff, Nat.reduceAdd, Nat.reduceSub, Int.reduceAdd, Int.reduceSub, Int.reduceToNat]) <;> omega) (h4) [some (0, none), some (1, none)] (by simp only [go_sem]; repeat' first | rfl | constructor | (rw [List.map_set]; rfl) | (simp [List.map_take, List.map_drop] <;> omega)) (by rfl) (run_den 400 ?_)
  simp (disch := omega) only [go_sem, Nat.reduceEqDiff, Nat.reduceAdd, Nat.reduceSub, Int.reduceAdd, Int.reduceSub, Int.reduceToNat]
  refine den_fin [some (0, none), some (1, none)] (by (try simp (disch := omega) only [go_sem, List.length_set, Nat.reduceEqDiff, Nat.reduceAdd, Nat.reduceSub, Int.reduceAdd, Int.reduceSub, Int.reduceToNat]) <;> omega) _ (by simp only [go_sem]; rfl) (by rfl) (by rfl) ?_
  simp (disch := omega) only [go_sem, Nat.reduceEqDiff, Nat.reduceAdd, Nat.reduceSub, Int.reduceAdd, Int.reduceSub, Int.reduceToNat]
  try simp [addrNone, letNone]
 ·obtain ⟨n1, n2, n5, n6, n8, n11, n12⟩ := hv
  refine ⟨⟨v3, 1 + v1, v2, 0, [], addrNone, letNone⟩, c3, o3, by simp only [ActD.wf, LetterD.wf, I64, maxLen, letNone, addrNone, List.length_nil] at *; omega, ?_⟩
  refine callA_of Tryd.func61 (by kernel_rfl) rfl fun E hE => run_den 400 ?_
  simp (disch := omega) only [Tryd.ntmps61, Tryd.results61, go_sem, Nat.reduceEqDiff, Nat.reduceAdd, Nat.reduceSub, Int.reduceAdd, Int.reduceSub, Int.reduceToNat]
  refine den_call (by (try simp (disch := omega) only [go_sem, List.length_set, Nat.reduceEqDiff, Nat.reduceAdd, Nat.reduceSub, Int.reduceAdd, Int.reduceSub, Int.reduceToNat]) <;> omega) (h1) [some (0, none), some (1, none)] (by simp only [go_sem]; repeat' first | rfl | constructor | (rw [List.map_set]; rfl) | (simp [List.map_take, List.map_drop] <;> omega)) (by rfl) (run_den 400 ?_)
  simp (disch := omega) only [go_sem, Nat.reduceEqDiff, Nat.reduceAdd, Nat.reduceSub, Int.reduceAdd, Int.reduceSub, Int.reduceToNat]
  refine den_call (by (try simp (disch := omega) only [go_sem, List.length_set, Nat.reduceEqDiff, Nat.reduceAdd, Nat.reduceSub, Int.reduceAdd, Int.reduceSub, Int.reduceToNat]) <;> omega) (h2) [some (0, none), some (1, none)] (by simp only [go_sem]; repeat' first | rfl | constructor | (rw [List.map_set]; rfl) | (simp [List.map_take, List.map_drop] <;> omega)) (by rfl) (run_den 400 ?_)
  simp (disch := omega) only [go_sem, Nat.reduceEqDiff, Nat.reduceAdd, Nat.reduceSub, Int.reduceAdd, Int.reduceSub, Int.reduceToNat]
  refine den_call (by (try simp (disch := omega) only [go_sem, List.length_set, Nat.reduceEqDiff, Nat.reduceAdd, Nat.reduceSub, Int.reduceAdd, Int.reduceSub, Int.reduceToNat]) <;> omega) (h3) [some (0, none), some (1, none), some (4, none)] (by simp only [go_sem]; repeat' first | rfl | constructor | (rw [List.map_set]; rfl) | (simp [List.map_take, List.map_drop] <;> omega)) (by rfl) (run_den 400 ?_)
  simp (disch := omega) only [go_sem, Nat.reduceEqDiff, Nat.reduceAdd, Nat.reduceSub, Int.reduceAdd, Int.reduceSub, Int.reduceToNat]
  refine den_fin [some (0, none), some (1, none)] (by (try simp (disch := omega) only [go_sem, List.length_set, Nat.reduceEqDiff, Nat.reduceAdd, Nat.reduceSub, Int.reduceAdd, Int.reduceSub, Int.reduceToNat]) <;> omega) _ (by simp only [go_sem]; rfl) (by rfl) (by rfl) ?_
  simp (disch := omega) only [go_sem, Nat.reduceEqDiff, Nat.reduceAdd, Nat.reduceSub, Int.reduceAdd, Int.reduceSub, Int.reduceToNat]
  try simp [addrNone, letNone]
theorem spec_l24AnyAct (b : List UInt8) (c : CurD) (hc : c.ok b) : ∃ (x : ActD) (c' : CurD), c'.ok b ∧ x.wf ∧ CallA Tryd.prog 52 [.sc (.pt 1 0 0)] (c.hp b) (.ag x.cs) (c'.hp b) := by
 obtain ⟨x, c1, o1, w1, h1⟩ := spec_l24Act b c hc
 have h2 := spec_l01Below b c1 o1 14
 have o2 := CurD.below_ok o1 14
 have b2 := c1.below_lt b (n := 14) (by omega)
 generalize c1.below b 14 = r2 at h2 o2 b2
 obtain ⟨v2, c2⟩ := r2
 dsimp only at h2 o2 b2
 have hv : v2 = 0 ∨ v2 = 1 ∨ v2 = 2 ∨ v2 = 3 ∨ 4 ≤ v2 := by omega
 rcases hv with rfl | rfl | rfl | rfl | hv
 ·have h3 := spec_l01PickInt b c2 o2 [0, 13, -1] (by decide) (by decide)
  have o3 := CurD.below_ok o2 (b := b) 3
  have m3 := c2.pick_mem b (l := [0, 13, -1]) (by decide)
  have w3 := (by decide : ∀ x ∈ ([0, 13, -1] : List Int), -1 ≤ x ∧ x ≤ 13) _ m3
  rw [show (([0, 13, -1] : List Int).length : Int) = 3 from rfl] at h3
  generalize c2.pick b [0, 13, -1] = v3 at h3 w3
  clear m3
  generalize c2.below b 3 = r3 at h3 o3
  obtain ⟨u3, c3⟩ := r3
  dsimp only at h3 o3
  refine ⟨{ x with kind := v3 }, c3, o3, by simp only [ActD.wf, LetterD.wf, I64, maxLen, List.length_replicate] at *; omega, ?_⟩
  refine callA_of Tryd.func52 (by kernel_rfl) rfl fun E hE => run_den 400 ?_
  simp (disch := omega) only [Tryd.ntmps52, Tryd.results52, go_sem, Nat.reduceEqDiff, Nat.reduceAdd, Nat.reduceSub, Int.reduceAdd, Int.reduceSub, Int.reduceToNat]
  refine den_call (by (try simp (disch := omega) only [go_sem, List.length_set, Nat.reduceEqDiff, Nat.reduceAdd, Nat.reduceSub, Int.reduceAdd, Int.reduceSub, Int.reduceToNat]) <;> omega) (h1) [some (0, none), some (1, none)] (by simp only [go_sem]; repeat' first | rfl | constructor | (rw [List.map_set]; rfl) | (simp [List.map_take, List.map_drop] <;> omega)) (by rfl) (run_den 400 ?_)
  simp (disch := omega) only [go_sem, Nat.reduceEqDiff, Nat.reduceAdd, Nat.reduceSub, Int.reduceAdd, Int.reduceSub, Int.reduceToNat]
  refine den_call (by (try simp (disch := omega) only [go_sem, List.length_set, Nat.reduceEqDiff, Nat.reduceAdd, Nat.reduceSub, Int.reduceAdd, Int.reduceSub, Int.reduceToNat]) <;> omega) (h2) [some (0, none), some (1, none)] (by simp only [go_sem]; repeat' first | rfl | constructor | (rw [List.map_set]; rfl) | (simp [List.map_take, List.map_drop] <;> omega)) (by rfl) (run_den 400 ?_)
  simp (disch := omega) only [go_sem, Nat.reduceEqDiff, Nat.reduceAdd, Nat.reduceSub, Int.reduceAdd, Int.reduceSub, Int.reduceToNat]
  refine den_call (by (try simp (disch := omega) only [go_sem, List.length_set, Nat.reduceEqDiff, Nat.reduceAdd, Nat.reduceSub, Int.reduceAdd, Int.reduceSub, Int.reduceToNat]) <;> omega) (h3) [some (0, none), some (1, none), some (4, none)] (by simp only [go_sem]; repeat' first | rfl | constructor | (rw [List.map_set]; rfl) | (simp [List.map_take, List.map_drop] <;> omega)) (by rfl) (run_den 400 ?_)
  simp (disch := omega) only [go_sem, Nat.reduceEqDiff, Nat.reduceAdd, Nat.reduceSub, Int.reduceAdd, Int.reduceSub, Int.reduceToNat]
  refine den_fin [some (0, none), some (1, none)] (by (try simp (disch := omega) only [go_sem, List.length_set, Nat.reduceEqDiff, Nat.reduceAdd, Nat.reduceSub, Int.reduceAdd, Int.reduceSub, Int.reduceToNat]) <;> omega) _ (by simp only [go_sem]; rfl) (by rfl) (by rfl) ?_
  simp (disch := omega) only [go_sem, Nat.reduceEqDiff, Nat.reduceAdd, Nat.reduceSub, Int.reduceAdd, Int.reduceSub, Int.reduceToNat]
 ·have h3 := spec_l01PickInt b c2 o2 [0, 3] (by decide) (by decide)
  have o3 := CurD.below_ok o2 (b := b) 2
  have m3 := c2.pick_mem b (l := [0, 3]) (by decide)
  have w3 := (by decide : ∀ x ∈ ([0, 3] : List Int), 0 ≤ x ∧ x ≤ 3) _ m3
  rw [show (([0, 3] : List Int).length : Int) = 2 from rfl] at h3
  generalize c2.pick b [0, 3] = v3 at h3 w3
  clear m3
  generalize c2.below b 2 = r3 at h3 o3
  obtain ⟨u3, c3⟩ := r3
  dsimp only at h3 o3
  refine ⟨{ x with side := v3 }, c3, o3, by simp only [ActD.wf, LetterD.wf, I64, maxLen, List.length_replicate] at *; omega, ?_⟩
  refine callA_of Tryd.func52 (by kernel_rfl) rfl fun E hE => run_den 400 ?_
  simp (disch := omega) only [Tryd.ntmps52, Tryd.results52, go_sem, Nat.reduceEqDiff, Nat.reduceAdd, Nat.reduceSub, Int.reduceAdd, Int.reduceSub, Int.reduceToNat]
  refine den_call (by (try simp (disch := omega) only [go_sem, List.length_set, Nat.reduceEqDiff, Nat.reduceAdd, Nat.reduceSub, Int.reduceAdd, Int.reduceSub, Int.reduceToNat]) <;> omega) (h1) [some (0, none), some (1, none)] (by simp only [go_sem]; repeat' first | rfl | constructor | (rw [List.map_set]; rfl) | (simp [List.map_take, List.map_drop] <;> omega)) (by rfl) (run_den 400 ?_)
  simp (disch := omega) only [go_sem, Nat.reduceEqDiff, Nat.reduceAdd, Nat.reduceSub, Int.reduceAdd, Int.reduceSub, Int.reduceToNat]
  refine den_call (by (try simp (disch := omega) only [go_sem, List.length_set, Nat.reduceEqDiff, Nat.reduceAdd, Nat.reduceSub, Int.reduceAdd, Int.reduceSub, Int.reduceToNat]) <;> omega) (h2) [some (0, none), some (1, none)] (by simp only [go_sem]; repeat' first | rfl | constructor | (rw [List.map_set]; rfl) | (simp [List.map_take, List.map_drop] <;> omega)) (by rfl) (run_den 400 ?_)
  simp (disch := omega) only [go_sem, Nat.reduceEqDiff, Nat.reduceAdd, Nat.reduceSub, Int.reduceAdd, Int.reduceSub, Int.reduceToNat]
  refine den_call (by (try simp (disch := omega) only [go_sem, List.length_set, Nat.reduceEqDiff, Nat.reduceAdd, Nat.reduceSub, Int.reduceAdd, Int.reduceSub, Int.reduceToNat]) <;> omega) (h3) [some (0, none), some (1, none), some (4, none)] (by simp only [go_sem]; repeat' first | rfl | constructor | (rw [List.map_set]; rfl) | (simp [List.map_take, List.map_drop] <;> omega)) (by rfl) (run_den 400 ?_)
  simp (disch := omega) only [go_sem, Nat.reduceEqDiff, Nat.reduceAdd, Nat.reduceSub, Int.reduceAdd, Int.reduceSub, Int.reduceToNat]
  refine den_fin [some (0, none), some (1, none)] (by (try simp (disch := omega) only [go_sem, List.length_set, Nat.reduceEqDiff, Nat.reduceAdd, Nat.reduceSub, Int.reduceAdd, Int.reduceSub, Int.reduceToNat]) <;> omega) _ (by simp only [go_sem]; rfl) (by rfl) (by rfl) ?_
  simp (disch := omega) only [go_sem, Nat.reduceEqDiff, Nat.reduceAdd, Nat.reduceSub, Int.reduceAdd, Int.reduceSub, Int.reduceToNat]
 ·have h3 := spec_l01PickInt b c2 o2 [-1, 1000000001, 1000000000] (by decide) (by decide)
  have o3 := CurD.below_ok o2 (b := b) 3
  have m3 := c2.pick_mem b (l := [-1, 1000000001, 1000000000]) (by decide)
  have w3 := (by decide : ∀ x ∈ ([-1, 1000000001, 1000000000] : List Int), -1 ≤ x ∧ x ≤ 1000000001) _ m3
  rw [show (([-1, 1000000001, 1000000000] : List Int).length : Int) = 3 from rfl] at h3
  generalize c2.pick b [-1, 1000000001, 1000000000] = v3 at h3 w3
  clear m3
  generalize c2.below b 3 = r3 at h3 o3
  obtain ⟨u3, c3⟩ := r3
  dsimp only at h3 o3
  refine ⟨{ x with pos := v3 }, c3, o3, by simp only [ActD.wf, LetterD.wf, I64, maxLen, List.length_replicate] at *; omega, ?_⟩
  refine callA_of Tryd.func52 (by kernel_rfl) rfl fun E hE => run_den 400 ?_
  simp (disch := omega) only [Tryd.ntmps52, Tryd.results52, go_sem, Nat.reduceEqDiff, Nat.reduceAdd, Nat.reduceSub, Int.reduceAdd, Int.reduceSub, Int.reduceToNat]
  refine den_call (by (try simp (disch := omega) only [go_sem, List.length_set, Nat.reduceEqDiff, Nat.reduceAdd, Nat.reduceSub, Int.reduceAdd, Int.reduceSub, Int.reduceToNat]) <;> omega) (h1) [some (0, none), some (1, none)] (by simp only [go_sem]; repeat' first | rfl | constructor | (rw [List.map_set]; rfl) | (simp [List.map_take, List.map_drop] <;> omega)) (by rfl) (run_den 400 ?_)
  simp (disch := omega) only [go_sem, Nat.reduceEqDiff, Nat.reduceAdd, Nat.reduceSub, Int.reduceAdd, Int.reduceSub, Int.reduceToNat]
  refine den_call (by (try simp (disch := omega) only [go_sem, List.length_set, Nat.reduceEqDiff, Nat.reduceAdd, Nat.reduceSub, Int.reduceAdd, Int.reduceSub, Int.reduceToNat]) <;> omega) (h2) [some (0, none), some (1, none)] (by simp only [go_sem]; repeat' first | rfl | constructor | (rw [List.map_set]; rfl) | (simp [List.map_take, List.map_drop] <;> omega)) (by rfl) (run_den 400 ?_)
  simp (disch := omega) only [go_sem, Nat.reduceEqDiff, Nat.reduceAdd, Nat.reduceSub, Int.reduceAdd, Int.reduceSub, Int.reduceToNat]
  refine den_call (by (try simp (disch := omega) only [go_sem, List.length_set, Nat.reduceEqDiff, Nat.reduceAdd, Nat.reduceSub, Int.reduceAdd, Int.reduceSub, Int.reduceToNat]) <;> omega) (h3) [some (0, none), some (1, none), some (4, none)] (by simp only [go_sem]; repeat' first | rfl | constructor | (rw [List.map_set]; rfl) | (simp [List.map_take, List.map_drop] <;> omega)) (by rfl) (run_den 400 ?_)
  simp (disch := omega) only [go_sem, Nat.reduceEqDiff, Nat.reduceAdd, Nat.reduceSub, Int.reduceAdd, Int.reduceSub, Int.reduceToNat]
  refine den_fin [some (0, none), some (1, none)] (by (try simp (disch := omega) only [go_sem, List.length_set, Nat.reduceEqDiff, Nat.reduceAdd, Nat.reduceSub, Int.reduceAdd, Int.reduceSub, Int.reduceToNat]) <;> omega) _ (by simp only [go_sem]; rfl) (by rfl) (by rfl) ?_
  simp (disch := omega) only [go_sem, Nat.reduceEqDiff, Nat.reduceAdd, Nat.reduceSub, Int.reduceAdd, Int.reduceSub, Int.reduceToNat]
 ·have h3 := spec_l01PickInt b c2 o2 [120, 121] (by decide) (by decide)
  have o3 := CurD.below_ok o2 (b := b) 2
  have m3 := c2.pick_mem b (l := [120, 121]) (by decide)
  have w3 := (by decide : ∀ x ∈ ([120, 121] : List Int), 120 ≤ x ∧ x ≤ 121) _ m3
  rw [show (([120, 121] : List Int).length : Int) = 2 from rfl] at h3
  generalize c2.pick b [120, 121] = v3 at h3 w3
  clear m3
  generalize c2.below b 2 = r3 at h3 o3
  obtain ⟨u3, c3⟩ := r3
  dsimp only at h3 o3
  obtain ⟨n, rfl⟩ := Int.eq_ofNat_of_zero_le (show 0 ≤ v3 by omega)
  refine ⟨{ x with text := List.replicate n 97 }, c3, o3, by simp only [ActD.wf, LetterD.wf, I64, maxLen, List.length_replicate] at *; omega, ?_⟩
  refine callA_of Tryd.func52 (by kernel_rfl) rfl fun E hE => run_den 400 ?_
  simp (disch := omega) only [Tryd.ntmps52, Tryd.results52, go_sem, Nat.reduceEqDiff, Nat.reduceAdd, Nat.reduceSub, Int.reduceAdd, Int.reduceSub, Int.reduceToNat]
  refine den_call (by (try simp (disch := omega) only [go_sem, List.length_set, Nat.reduceEqDiff, Nat.reduceAdd, Nat.reduceSub, Int.reduceAdd, Int.reduceSub, Int.reduceToNat]) <;> omega) (h1) [some (0, none), some (1, none)] (by simp only [go_sem]; repeat' first | rfl | constructor | (rw [List.map_set]; rfl) | (simp [List.map_take, List.map_drop] <;> omega)) (by rfl) (run_den 400 ?_)
  simp (disch := omega) only [go_sem, Nat.reduceEqDiff, Nat.reduceAdd, Nat.reduceSub, Int.reduceAdd, Int.reduceSub, Int.reduceToNat]
  refine den_call (by (try simp (disch := omega) only [go_sem, List.length_set, Nat.reduceEqDiff, Nat.reduceAdd, Nat.reduceSub, Int.reduceAdd, Int.reduceSub, Int.reduceToNat]) <;> omega) (h2) [some (0, none), some (1, none)] (by simp only [go_sem]; repeat' first | rfl | constructor | (rw [List.map_set]; rfl) | (simp [List.map_take, List.map_drop] <;> omega)) (by rfl) (run_den 400 ?_)
  simp (disch := omega) only [go_sem, Nat.reduceEqDiff, Nat.reduceAdd, Nat.reduceSub, Int.reduceAdd, Int.reduceSub, Int.reduceToNat]
  refine den_call (by (try simp (disch := omega) only [go_sem, List.length_set, Nat.reduceEqDiff, Nat.reduceAdd, Nat.reduceSub, Int.reduceAdd, Int.reduceSub, Int.reduceToNat]) <;> omega) (h3) [some (0, none), some (1, none), some (4, none)] (by simp only [go_sem]; repeat' first | rfl | constructor | (rw [List.map_set]; rfl) | (simp [List.map_take, List.map_drop] <;> omega)) (by rfl) (run_den 400 ?_)
  simp (disch := omega) only [go_sem, Nat.reduceEqDiff, Nat.reduceAdd, Nat.reduceSub, Int.reduceAdd, Int.reduceSub, Int.reduceToNat]
  refine den_call (by (try simp (disch := omega) only [go_sem, List.length_set, Nat.reduceEqDiff, Nat.reduceAdd, Nat.reduceSub, Int.reduceAdd, Int.reduceSub, Int.reduceToNat]) <;> omega) (spec_l01Long n 97 (by omega)) [] (by simp only [go_sem]; repeat' first | rfl | constructor | (rw [List.map_set]; rfl) | (simp [List.map_take, List.map_drop] <;> omega)) (by rfl) (run_den 400 ?_)
  simp (disch := omega) only [go_sem, Nat.reduceEqDiff, Nat.reduceAdd, Nat.reduceSub, Int.reduceAdd, Int.reduceSub, Int.reduceToNat]
  refine den_fin [some (0, none), some (1, none)] (by (try simp (disch := omega) only [go_sem, List.length_set, Nat.reduceEqDiff, Nat.reduceAdd, Nat.reduceSub, Int.reduceAdd, Int.reduceSub, Int.reduceToNat]) <;> omega) _ (by simp only [go_sem]; rfl) (by rfl) (by rfl) ?_
  simp (disch := omega) only [go_sem, Nat.reduceEqDiff, Nat.reduceAdd, Nat.reduceSub, Int.reduceAdd, Int.reduceSub, Int.reduceToNat]
 ·refine ⟨x, c2, o2, w1, ?_⟩
  refine callA_of Tryd.func52 (by kernel_rfl) rfl fun E hE => run_den 400 ?_
  simp (disch := omega) only [Tryd.ntmps52, Tryd.results52, go_sem, Nat.reduceEqDiff, Nat.reduceAdd, Nat.reduceSub, Int.reduceAdd, Int.reduceSub, Int.reduceToNat]
  refine den_call (by (try simp (disch := omega) only [go_sem, List.length_set, Nat.reduceEqDiff, Nat.reduceAdd, Nat.reduceSub, Int.reduceAdd, Int.reduceSub, Int.reduceToNat]) <;> omega) (h1) [some (0, none), some (1, none)] (by simp only [go_sem]; repeat' first | rfl | constructor | (rw [List.map_set]; rfl) | (simp [List.map_take, List.map_drop] <;> omega)) (by rfl) (run_den 400 ?_)
  simp (disch := omega) only [go_sem, Nat.reduceEqDiff, Nat.reduceAdd, Nat.reduceSub, Int.reduceAdd, Int.reduceSub, Int.reduceToNat]
  refine den_call (by (try simp (disch := omega) only [go_sem, List.length_set, Nat.reduceEqDiff, Nat.reduceAdd, Nat.reduceSub, Int.reduceAdd, Int.reduceSub, Int.reduceToNat]) <;> omega) (h2) [some (0, none), some (1, none)] (by simp only [go_sem]; repeat' first | rfl | constructor | (rw [List.map_set]; rfl) | (simp [List.map_take, List.map_drop] <;> omega)) (by rfl) (run_den 400 ?_)
  simp (disch := omega) only [go_sem, Nat.reduceEqDiff, Nat.reduceAdd, Nat.reduceSub, Int.reduceAdd, Int.reduceSub, Int.reduceToNat]
  refine den_fin [some (0, none), some (1, none)] (by (try simp (disch := omega) only [go_sem, List.length_set, Nat.reduceEqDiff, Nat.reduceAdd, Nat.reduceSub, Int.reduceAdd, Int.reduceSub, Int.reduceToNat]) <;> omega) _ (by simp only [go_sem]; rfl) (by rfl) (by rfl) ?_
  simp (disch := omega) only [go_sem, Nat.reduceEqDiff, Nat.reduceAdd, Nat.reduceSub, Int.reduceAdd, Int.reduceSub, Int.reduceToNat]
theorem drawn_l28Told (a : ActD) (hw : a.wf) : ∃ x : ActD, x.wf ∧ CallA Tryd.prog 39 [.ag a.cs] [] (.ag x.cs) [] := by
 have hk : a.kind = 1 ∨ a.kind = 2 ∨ a.kind = 5 ∨ a.kind = 3 ∨ a.kind = 4 ∨ a.kind = 11 ∨ (a.kind < 8 ∧ a.kind ≠ 1 ∧ a.kind ≠ 2 ∧ a.kind ≠ 5 ∧ a.kind ≠ 3 ∧ a.kind ≠ 4) ∨ (8 ≤ a.kind ∧ a.kind ≠ 11) := by omega
 rcases hk with h | h | h | h | h | h | ⟨h, h1, h2, h5, h3, h4⟩ | ⟨h, h11⟩
 ·refine ⟨⟨a.kind, a.side, 0, 0, a.text, addrNone, letNone⟩, by simp only [ActD.wf, LetterD.wf, I64, maxLen, letNone, addrNone, List.length_nil] at *; omega, ?_⟩
  refine callA_of Tryd.func39 (by kernel_rfl) rfl fun E hE => run_den 400 ?_
  simp (disch := omega) only [Tryd.ntmps39, Tryd.results39, go_sem, Nat.reduceEqDiff, Nat.reduceAdd, Nat.reduceSub, Int.reduceAdd, Int.reduceSub, Int.reduceToNat]
  refine den_fin [] (by (try simp (disch := omega) only [go_sem, List.length_set, Nat.reduceEqDiff, Nat.reduceAdd, Nat.reduceSub, Int.reduceAdd, Int.reduceSub, Int.reduceToNat]) <;> omega) _ (by simp only [go_sem]; rfl) (by rfl) (by rfl) ?_
  simp (disch := omega) only [go_sem, Nat.reduceEqDiff, Nat.reduceAdd, Nat.reduceSub, Int.reduceAdd, Int.reduceSub, Int.reduceToNat]
  try simp [addrNone, letNone]
  try omega
 ·refine ⟨⟨a.kind, a.side, 0, a.many, [], addrNone, letNone⟩, by simp only [ActD.wf, LetterD.wf, I64, maxLen, letNone, addrNone, List.length_nil] at *; omega, ?_⟩
  refine callA_of Tryd.func39 (by kernel_rfl) rfl fun E hE => run_den 400 ?_
  simp (disch := omega) only [Tryd.ntmps39, Tryd.results39, go_sem, Nat.reduceEqDiff, Nat.reduceAdd, Nat.reduceSub, Int.reduceAdd, Int.reduceSub, Int.reduceToNat]
  refine den_fin [] (by (try simp (disch := omega) only [go_sem, List.length_set, Nat.reduceEqDiff, Nat.reduceAdd, Nat.reduceSub, Int.reduceAdd, Int.reduceSub, Int.reduceToNat]) <;> omega) _ (by simp only [go_sem]; rfl) (by rfl) (by rfl) ?_
  simp (disch := omega) only [go_sem, Nat.reduceEqDiff, Nat.reduceAdd, Nat.reduceSub, Int.reduceAdd, Int.reduceSub, Int.reduceToNat]
  try simp [addrNone, letNone]
  try omega
 ·refine ⟨⟨a.kind, a.side, 0, 0, [], ⟨a.addr.id, a.addr.addr, a.addr.spare, false⟩, letNone⟩, by simp only [ActD.wf, LetterD.wf, I64, maxLen, letNone, addrNone, List.length_nil] at *; omega, ?_⟩
  refine callA_of Tryd.func39 (by kernel_rfl) rfl fun E hE => run_den 400 ?_
  simp (disch := omega) only [Tryd.ntmps39, Tryd.results39, go_sem, Nat.reduceEqDiff, Nat.reduceAdd, Nat.reduceSub, Int.reduceAdd, Int.reduceSub, Int.reduceToNat]
  refine den_fin [] (by (try simp (disch := omega) only [go_sem, List.length_set, Nat.reduceEqDiff, Nat.reduceAdd, Nat.reduceSub, Int.reduceAdd, Int.reduceSub, Int.reduceToNat]) <;> omega) _ (by simp only [go_sem]; rfl) (by rfl) (by rfl) ?_
  simp (disch := omega) only [go_sem, Nat.reduceEqDiff, Nat.reduceAdd, Nat.reduceSub, Int.reduceAdd, Int.reduceSub, Int.reduceToNat]
  try simp [addrNone, letNone]
  try omega
 ·refine ⟨⟨a.kind, a.side, 0, 0, [], addrNone, letNone⟩, by simp only [ActD.wf, LetterD.wf, I64, maxLen, letNone, addrNone, List.length_nil] at *; omega, ?_⟩
  refine callA_of Tryd.func39 (by kernel_rfl) rfl fun E hE => run_den 400 ?_
  simp (disch := omega) only [Tryd.ntmps39, Tryd.results39, go_sem, Nat.reduceEqDiff, Nat.reduceAdd, Nat.reduceSub, Int.reduceAdd, Int.reduceSub, Int.reduceToNat]
  refine den_fin [] (by (try simp (disch := omega) only [go_sem, List.length_set, Nat.reduceEqDiff, Nat.reduceAdd, Nat.reduceSub, Int.reduceAdd, Int.reduceSub, Int.reduceToNat]) <;> omega) _ (by simp only [go_sem]; rfl) (by rfl) (by rfl) ?_
  simp (disch := omega) only [go_sem, Nat.reduceEqDiff, Nat.reduceAdd, Nat.reduceSub, Int.reduceAdd, Int.reduceSub, Int.reduceToNat]
  try simp [addrNone, letNone]
  try omega
 ·refine ⟨⟨a.kind, a.side, 0, 0, [], addrNone, letNone⟩, by simp only [ActD.wf, LetterD.wf, I64, maxLen, letNone, addrNone, List.length_nil] at *; omega, ?_⟩
  refine callA_of Tryd.func39 (by kernel_rfl) rfl fun E hE => run_den 400 ?_
  simp (disch := omega) only [Tryd.ntmps39, Tryd.results39, go_sem, Nat.reduceEqDiff, Nat.reduceAdd, Nat.reduceSub, Int.reduceAdd, Int.reduceSub, Int.reduceToNat]
  refine den_fin [] (by (try simp (disch := omega) only [go_sem, List.length_set, Nat.reduceEqDiff, Nat.reduceAdd, Nat.reduceSub, Int.reduceAdd, Int.reduceSub, Int.reduceToNat]) <;> omega) _ (by simp only [go_sem]; rfl) (by rfl) (by rfl) ?_
  simp (disch := omega) only [go_sem, Nat.reduceEqDiff, Nat.reduceAdd, Nat.reduceSub, Int.reduceAdd, Int.reduceSub, Int.reduceToNat]
  try simp [addrNone, letNone]
  try omega
 ·refine ⟨⟨a.kind, 1, 0, 0, [], addrNone, a.letter⟩, by simp only [ActD.wf, LetterD.wf, I64, maxLen, letNone, addrNone, List.length_nil] at *; omega, ?_⟩
  refine callA_of Tryd.func39 (by kernel_rfl) rfl fun E hE => run_den 400 ?_
  simp (disch := omega) only [Tryd.ntmps39, Tryd.results39, go_sem, Nat.reduceEqDiff, Nat.reduceAdd, Nat.reduceSub, Int.reduceAdd, Int.reduceSub, Int.reduceToNat]
  refine den_fin [] (by (try simp (disch := omega) only [go_sem, List.length_set, Nat.reduceEqDiff, Nat.reduceAdd, Nat.reduceSub, Int.reduceAdd, Int.reduceSub, Int.reduceToNat]) <;> omega) _ (by simp only [go_sem]; rfl) (by rfl) (by rfl) ?_
  simp (disch := omega) only [go_sem, Nat.reduceEqDiff, Nat.reduceAdd, Nat.reduceSub, Int.reduceAdd, Int.reduceSub, Int.reduceToNat]
  try simp [addrNone, letNone]
  try omega
 ·refine ⟨⟨a.kind, a.side, a.pos, 0, [], addrNone, letNone⟩, by simp only [ActD.wf, LetterD.wf, I64, maxLen, letNone, addrNone, List.length_nil] at *; omega, ?_⟩
  refine callA_of Tryd.func39 (by kernel_rfl) rfl fun E hE => run_den 400 ?_
  simp (disch := omega) only [Tryd.ntmps39, Tryd.results39, go_sem, Nat.reduceEqDiff, Nat.reduceAdd, Nat.reduceSub, Int.reduceAdd, Int.reduceSub, Int.reduceToNat]
  refine den_fin [] (by (try simp (disch := omega) only [go_sem, List.length_set, Nat.reduceEqDiff, Nat.reduceAdd, Nat.reduceSub, Int.reduceAdd, Int.reduceSub, Int.reduceToNat]) <;> omega) _ (by simp only [go_sem]; rfl) (by rfl) (by rfl) ?_
  simp (disch := omega) only [go_sem, Nat.reduceEqDiff, Nat.reduceAdd, Nat.reduceSub, Int.reduceAdd, Int.reduceSub, Int.reduceToNat]
  try simp [addrNone, letNone]
  try omega
 ·refine ⟨⟨a.kind, 1, a.pos, 0, [], addrNone, letNone⟩, by simp only [ActD.wf, LetterD.wf, I64, maxLen, letNone, addrNone, List.length_nil] at *; omega, ?_⟩
  refine callA_of Tryd.func39 (by kernel_rfl) rfl fun E hE => run_den 400 ?_
  simp (disch := omega) only [Tryd.ntmps39, Tryd.results39, go_sem, Nat.reduceEqDiff, Nat.reduceAdd, Nat.reduceSub, Int.reduceAdd, Int.reduceSub, Int.reduceToNat]
  refine den_fin [] (by (try simp (disch := omega) only [go_sem, List.length_set, Nat.reduceEqDiff, Nat.reduceAdd, Nat.reduceSub, Int.reduceAdd, Int.reduceSub, Int.reduceToNat]) <;> omega) _ (by simp only [go_sem]; rfl) (by rfl) (by rfl) ?_
  simp (disch := omega) only [go_sem, Nat.reduceEqDiff, Nat.reduceAdd, Nat.reduceSub, Int.reduceAdd, Int.reduceSub, Int.reduceToNat]
  try simp [addrNone, letNone]
  try omega
theorem spec_l28Act (b : List UInt8) (c : CurD) (hc : c.ok b) : ∃ (x : ActD) (c' : CurD), c'.ok b ∧ x.wf ∧ CallA Tryd.prog 29 [.sc (.pt 1 0 0)] (c.hp b) (.ag x.cs) (c'.hp b) := by
 obtain ⟨x, c1, o1, w1, h1⟩ := spec_l24AnyAct b c hc
 have h2 := spec_l01Once b c1 o1 6
 have o2 := CurD.below_ok o1 6
 have b2 := c1.below_lt b (n := 6) (by omega)
 generalize c1.below b 6 = r2 at h2 o2 b2
 obtain ⟨v2, c2⟩ := r2
 dsimp only at h2 o2 b2
 generalize hq2 : (v2 == 0) = q2 at h2
 rcases Bool.eq_false_or_eq_true q2 with e2 | e2 <;> rw [e2] at h2
 ·refine ⟨x, c2, o2, w1, ?_⟩
  refine callA_of Tryd.func29 (by kernel_rfl) rfl fun E hE => run_den 400 ?_
  simp (disch := omega) only [Tryd.ntmps29, Tryd.results29, go_sem, Nat.reduceEqDiff, Nat.reduceAdd, Nat.reduceSub, Int.reduceAdd, Int.reduceSub, Int.reduceToNat]
  refine den_call (by (try simp (disch := omega) only [go_sem, List.length_set, Nat.reduceEqDiff, Nat.reduceAdd, Nat.reduceSub, Int.reduceAdd, Int.reduceSub, Int.reduceToNat]) <;> omega) (h1) [some (0, none), some (1, none)] (by simp only [go_sem]; repeat' first | rfl | constructor | (rw [List.map_set]; rfl) | (simp [List.map_take, List.map_drop] <;> omega)) (by rfl) (run_den 400 ?_)
  simp (disch := omega) only [go_sem, Nat.reduceEqDiff, Nat.reduceAdd, Nat.reduceSub, Int.reduceAdd, Int.reduceSub, Int.reduceToNat]
  refine den_call (by (try simp (disch := omega) only [go_sem, List.length_set, Nat.reduceEqDiff, Nat.reduceAdd, Nat.reduceSub, Int.reduceAdd, Int.reduceSub, Int.reduceToNat]) <;> omega) (h2) [some (0, none), some (1, none)] (by simp only [go_sem]; repeat' first | rfl | constructor | (rw [List.map_set]; rfl) | (simp [List.map_take, List.map_drop] <;> omega)) (by rfl) (run_den 400 ?_)
  simp (disch := omega) only [go_sem, Nat.reduceEqDiff, Nat.reduceAdd, Nat.reduceSub, Int.reduceAdd, Int.reduceSub, Int.reduceToNat]
  refine den_fin [some (0, none), some (1, none)] (by (try simp (disch := omega) only [go_sem, List.length_set, Nat.reduceEqDiff, Nat.reduceAdd, Nat.reduceSub, Int.reduceAdd, Int.reduceSub, Int.reduceToNat]) <;> omega) _ (by simp only [go_sem]; rfl) (by rfl) (by rfl) ?_
  simp (disch := omega) only [go_sem, Nat.reduceEqDiff, Nat.reduceAdd, Nat.reduceSub, Int.reduceAdd, Int.reduceSub, Int.reduceToNat]
 ·obtain ⟨y, wy, hy⟩ := drawn_l28Told x w1
  refine ⟨y, c2, o2, wy, ?_⟩
  refine callA_of Tryd.func29 (by kernel_rfl) rfl fun E hE => run_den 400 ?_
  simp (disch := omega) only [Tryd.ntmps29, Tryd.results29, go_sem, Nat.reduceEqDiff, Nat.reduceAdd, Nat.reduceSub, Int.reduceAdd, Int.reduceSub, Int.reduceToNat]
  refine den_call (by (try simp (disch := omega) only [go_sem, List.length_set, Nat.reduceEqDiff, Nat.reduceAdd, Nat.reduceSub, Int.reduceAdd, Int.reduceSub, Int.reduceToNat]) <;> omega) (h1) [some (0, none), some (1, none)] (by simp only [go_sem]; repeat' first | rfl | constructor | (rw [List.map_set]; rfl) | (simp [List.map_take, List.map_drop] <;> omega)) (by rfl) (run_den 400 ?_)
  simp (disch := omega) only [go_sem, Nat.reduceEqDiff, Nat.reduceAdd, Nat.reduceSub, Int.reduceAdd, Int.reduceSub, Int.reduceToNat]
  refine den_call (by (try simp (disch := omega) only [go_sem, List.length_set, Nat.reduceEqDiff, Nat.reduceAdd, Nat.reduceSub, Int.reduceAdd, Int.reduceSub, Int.reduceToNat]) <;> omega) (h2) [some (0, none), some (1, none)] (by simp only [go_sem]; repeat' first | rfl | constructor | (rw [List.map_set]; rfl) | (simp [List.map_take, List.map_drop] <;> omega)) (by rfl) (run_den 400 ?_)
  simp (disch := omega) only [go_sem, Nat.reduceEqDiff, Nat.reduceAdd, Nat.reduceSub, Int.reduceAdd, Int.reduceSub, Int.reduceToNat]
  refine den_call (by (try simp (disch := omega) only [go_sem, List.length_set, Nat.reduceEqDiff, Nat.reduceAdd, Nat.reduceSub, Int.reduceAdd, Int.reduceSub, Int.reduceToNat]) <;> omega) (hy) [] (by simp only [go_sem]; repeat' first | rfl | constructor | (rw [List.map_set]; rfl) | (simp [List.map_take, List.map_drop] <;> omega)) (by rfl) (run_den 400 ?_)
  simp (disch := omega) only [go_sem, Nat.reduceEqDiff, Nat.reduceAdd, Nat.reduceSub, Int.reduceAdd, Int.reduceSub, Int.reduceToNat]
  refine den_fin [some (0, none), some (1, none)] (by (try simp (disch := omega) only [go_sem, List.length_set, Nat.reduceEqDiff, Nat.reduceAdd, Nat.reduceSub, Int.reduceAdd, Int.reduceSub, Int.reduceToNat]) <;> omega) _ (by simp only [go_sem]; rfl) (by rfl) (by rfl) ?_
  simp (disch := omega) only [go_sem, Nat.reduceEqDiff, Nat.reduceAdd, Nat.reduceSub, Int.reduceAdd, Int.reduceSub, Int.reduceToNat]
theorem spec_DrawLetterWord (b : List UInt8) (hb : b.length ≤ 1048576) : ∃ x : LetterD, x.wf ∧ CallA Tryd.prog 5 [.sc (.sl 0 0 b.length)] [some ⟨b.map byteC, 1, 5, false, true⟩] (.ag x.cs) [some ⟨b.map byteC, 1, 5, false, true⟩] := by
 obtain ⟨x, c, hc, w, h⟩ := spec_l16Any b (newCur b) (newCur_ok hb)
 refine ⟨x, w, ?_⟩
 refine callA_of Tryd.func5 (by kernel_rfl) rfl fun E hE => run_den 400 ?_
 simp (disch := omega) only [Tryd.ntmps5, Tryd.results5, go_sem, Nat.reduceEqDiff, Nat.reduceAdd, Nat.reduceSub, Int.reduceAdd, Int.reduceSub, Int.reduceToNat]
 refine den_call (by (try simp (disch := omega) only [go_sem, List.length_set, Nat.reduceEqDiff, Nat.reduceAdd, Nat.reduceSub, Int.reduceAdd, Int.reduceSub, Int.reduceToNat]) <;> omega) (spec_l01New b hb) [some (0, none)] (by simp only [go_sem]; repeat' first | rfl | constructor | (rw [List.map_set]; rfl) | (simp [List.map_take, List.map_drop] <;> omega)) (by rfl) (run_den 400 ?_)
 simp (disch := omega) only [go_sem, Nat.reduceEqDiff, Nat.reduceAdd, Nat.reduceSub, Int.reduceAdd, Int.reduceSub, Int.reduceToNat]
 refine den_call (by (try simp (disch := omega) only [go_sem, List.length_set, Nat.reduceEqDiff, Nat.reduceAdd, Nat.reduceSub, Int.reduceAdd, Int.reduceSub, Int.reduceToNat]) <;> omega) (h) [some (0, none), some (2, none)] (by simp only [go_sem]; repeat' first | rfl | constructor | (rw [List.map_set]; rfl) | (simp [List.map_take, List.map_drop] <;> omega)) (by rfl) (run_den 400 ?_)
 simp (disch := omega) only [go_sem, Nat.reduceEqDiff, Nat.reduceAdd, Nat.reduceSub, Int.reduceAdd, Int.reduceSub, Int.reduceToNat]
 refine den_fin [some (0, none)] (by (try simp (disch := omega) only [go_sem, List.length_set, Nat.reduceEqDiff, Nat.reduceAdd, Nat.reduceSub, Int.reduceAdd, Int.reduceSub, Int.reduceToNat]) <;> omega) _ (by simp only [go_sem]; rfl) (by rfl) (by rfl) ?_
 simp (disch := omega) only [go_sem, Nat.reduceEqDiff, Nat.reduceAdd, Nat.reduceSub, Int.reduceAdd, Int.reduceSub, Int.reduceToNat]
theorem spec_DrawActLine (b : List UInt8) (hb : b.length ≤ 1048576) : ∃ x : ActD, x.wf ∧ CallA Tryd.prog 9 [.sc (.sl 0 0 b.length)] [some ⟨b.map byteC, 1, 5, false, true⟩] (.ag x.cs) [some ⟨b.map byteC, 1, 5, false, true⟩] := by
 obtain ⟨x, c, hc, w, h⟩ := spec_l28Act b (newCur b) (newCur_ok hb)
 refine ⟨x, w, ?_⟩
 refine callA_of Tryd.func9 (by kernel_rfl) rfl fun E hE => run_den 400 ?_
 simp (disch := omega) only [Tryd.ntmps9, Tryd.results9, go_sem, Nat.reduceEqDiff, Nat.reduceAdd, Nat.reduceSub, Int.reduceAdd, Int.reduceSub, Int.reduceToNat]
 refine den_call (by (try simp (disch := omega) only [go_sem, List.length_set, Nat.reduceEqDiff, Nat.reduceAdd, Nat.reduceSub, Int.reduceAdd, Int.reduceSub, Int.reduceToNat]) <;> omega) (spec_l01New b hb) [some (0, none)] (by simp only [go_sem]; repeat' first | rfl | constructor | (rw [List.map_set]; rfl) | (simp [List.map_take, List.map_drop] <;> omega)) (by rfl) (run_den 400 ?_)
 simp (disch := omega) only [go_sem, Nat.reduceEqDiff, Nat.reduceAdd, Nat.reduceSub, Int.reduceAdd, Int.reduceSub, Int.reduceToNat]
 refine den_call (by (try simp (disch := omega) only [go_sem, List.length_set, Nat.reduceEqDiff, Nat.reduceAdd, Nat.reduceSub, Int.reduceAdd, Int.reduceSub, Int.reduceToNat]) <;> omega) (h) [some (0, none), some (2, none)] (by simp only [go_sem]; repeat' first | rfl | constructor | (rw [List.map_set]; rfl) | (simp [List.map_take, List.map_drop] <;> omega)) (by rfl) (run_den 400 ?_)
 simp (disch := omega) only [go_sem, Nat.reduceEqDiff, Nat.reduceAdd, Nat.reduceSub, Int.reduceAdd, Int.reduceSub, Int.reduceToNat]
 refine den_fin [some (0, none)] (by (try simp (disch := omega) only [go_sem, List.length_set, Nat.reduceEqDiff, Nat.reduceAdd, Nat.reduceSub, Int.reduceAdd, Int.reduceSub, Int.reduceToNat]) <;> omega) _ (by simp only [go_sem]; rfl) (by rfl) (by rfl) ?_
 simp (disch := omega) only [go_sem, Nat.reduceEqDiff, Nat.reduceAdd, Nat.reduceSub, Int.reduceAdd, Int.reduceSub, Int.reduceToNat]
theorem spec_DrawPolicyLine (b : List UInt8) (hb : b.length ≤ 1048576) : ∃ x : PolicyD, x.wf ∧ CallA Tryd.prog 12 [.sc (.sl 0 0 b.length)] [some ⟨b.map byteC, 1, 5, false, true⟩] (.ag x.cs) [some ⟨b.map byteC, 1, 5, false, true⟩] := by
 obtain ⟨x, c, hc, w, h⟩ := spec_l12Any b (newCur b) (newCur_ok hb)
 refine ⟨x, w, ?_⟩
 refine callA_of Tryd.func12 (by kernel_rfl) rfl fun E hE => run_den 400 ?_
 simp (disch := omega) only [Tryd.ntmps12, Tryd.results12, go_sem, Nat.reduceEqDiff, Nat.reduceAdd, Nat.reduceSub, Int.reduceAdd, Int.reduceSub, Int.reduceToNat]
 refine den_call (by (try simp (disch := omega) only [go_sem, List.length_set, Nat.reduceEqDiff, Nat.reduceAdd, Nat.reduceSub, Int.reduceAdd, Int.reduceSub, Int.reduceToNat]) <;> omega) (spec_l01New b hb) [some (0, none)] (by simp only [go_sem]; repeat' first | rfl | constructor | (rw [List.map_set]; rfl) | (simp [List.map_take, List.map_drop] <;> omega)) (by rfl) (run_den 400 ?_)
 simp (disch := omega) only [go_sem, Nat.reduceEqDiff, Nat.reduceAdd, Nat.reduceSub, Int.reduceAdd, Int.reduceSub, Int.reduceToNat]
 refine den_call (by (try simp (disch := omega) only [go_sem, List.length_set, Nat.reduceEqDiff, Nat.reduceAdd, Nat.reduceSub, Int.reduceAdd, Int.reduceSub, Int.reduceToNat]) <;> omega) (h) [some (0, none), some (2, none)] (by simp only [go_sem]; repeat' first | rfl | constructor | (rw [List.map_set]; rfl) | (simp [List.map_take, List.map_drop] <;> omega)) (by rfl) (run_den 400 ?_)
 simp (disch := omega) only [go_sem, Nat.reduceEqDiff, Nat.reduceAdd, Nat.reduceSub, Int.reduceAdd, Int.reduceSub, Int.reduceToNat]
 refine den_fin [some (0, none)] (by (try simp (disch := omega) only [go_sem, List.length_set, Nat.reduceEqDiff, Nat.reduceAdd, Nat.reduceSub, Int.reduceAdd, Int.reduceSub, Int.reduceToNat]) <;> omega) _ (by simp only [go_sem]; rfl) (by rfl) (by rfl) ?_
 simp (disch := omega) only [go_sem, Nat.reduceEqDiff, Nat.reduceAdd, Nat.reduceSub, Int.reduceAdd, Int.reduceSub, Int.reduceToNat]
end
section
def actK (k s : Int) : ActD := ⟨k, s, 0, 0, [], addrNone, letNone⟩
def kindOf (s : List UInt8) : Int := if s = actTab.getD 12 [] then 12 else if s = actTab.getD 11 [] then 11 else if s = actTab.getD 10 [] then 10 else if s = actTab.getD 9 [] then 9 else if s = actTab.getD 8 [] then 8 else if s = actTab.getD 7 [] then 7 else if s = actTab.getD 6 [] then 6 else if s = actTab.getD 5 [] then 5 else if s = actTab.getD 4 [] then 4 else if s = actTab.getD 3 [] then 3 else if s = actTab.getD 2 [] then 2 else if s = actTab.getD 1 [] then 1 else 0
def selA (p : List (List UInt8)) : ActD :=
 let k := kindOf (p.getD 0 [])
 let s := if 1 ≤ k ∧ k ≤ 7 then numAt p 1 else 1
 if k = 1 then ⟨k, s, 0, 0, (if 2 < p.length then (unhex (p.getD 2 [])).1 else []), addrNone, letNone⟩ else
 if k = 2 then ⟨k, s, 0, numAt p 2, [], addrNone, letNone⟩ else
 if k = 5 then ⟨k, s, 0, 0, [], ⟨numAt p 2, numAt p 3, numAt p 4 == 1, false⟩, letNone⟩ else
 if k = 6 ∨ k = 7 then ⟨k, s, numAt p 2, 0, [], addrNone, letNone⟩ else
 if k = 11 then ⟨k, s, 0, 0, [], addrNone, (rlw (p.getD 1 [])).1⟩ else
 if k = 8 ∨ k = 9 ∨ k = 10 ∨ k = 12 then ⟨k, s, numAt p 1, 0, [], addrNone, letNone⟩ else ⟨k, s, 0, 0, [], addrNone, letNone⟩
def specAct (line : List UInt8) : ActD × Bool :=
 if (partsL line).2 = true ∧ 2 ≤ (partsL line).1.length ∧ actLine (selA (partsL line).1) ≠ [] ∧ actLine (selA (partsL line).1) = joinL [32] (partsL line).1 then (selA (partsL line).1, true) else (actNone, false)
def rdM (kind : Int) (a : ActD) (l : List Int) : ActD × Bool :=
 if (l.length : Int) ≠ (if kind = 1 ∨ kind = 3 ∨ kind = 4 then 0 else if kind = 5 then 3 else 1) then (a, false) else
 if kind = 5 then ({ a with addr := ⟨letAt l 0, letAt l 1, letAt l 2 == 1, false⟩ }, true) else
 if kind = 2 then ({ a with many := letAt l 0 }, true) else
 if kind = 1 ∨ kind = 3 ∨ kind = 4 then (a, true) else ({ a with pos := letAt l 0 }, true)
def rdN (kind : Int) (a : ActD) : Option (List Int) → ActD × Bool
 | none => (a, false)
 | some l => if kind ≤ 7 then (if l.length = 0 then (a, false) else rdM kind { a with side := letAt l 0 } (l.drop 1)) else rdM kind a l
def unhexW (t : List UInt8) : List UInt8 × Bool := if t = [45] then ([], true) else unhex t
def rdF (kind : Int) (p : List (List UInt8)) : ActD × Bool :=
 if kind = 11 then (if p.length ≠ 1 then (actK kind 1, false) else ({ actK kind 1 with letter := (rlw (p.getD 0 [])).1 }, (rlw (p.getD 0 [])).2)) else
 if kind = 1 then (if p.length ≠ 2 then (actK kind 1, false) else
  if (unhexW (p.getD 1 [])).2 = false then ({ actK kind 1 with text := (unhexW (p.getD 1 [])).1 }, false) else rdN kind { actK kind 1 with text := (unhexW (p.getD 1 [])).1 } (rdAll (p.take 1))) else
 rdN kind (actK kind 1) (rdAll p)
def tryK (parts : List (List UInt8)) (k : Int) : Bool := decide (parts.getD 0 [] = actTab.getD k.toNat []) && ((rdF k (parts.drop 1)).2 && sameB (actLine (rdF k (parts.drop 1)).1) parts)
def implGo (parts : List (List UInt8)) : List Int → ActD × Bool
 | [] => (actNone, false)
 | k :: r => if tryK parts k then ((rdF k (parts.drop 1)).1, true) else implGo parts r
def kinds12 : List Int := [1, 2, 3, 4, 5, 6, 7, 8, 9, 10, 11, 12]
def implAct (line : List UInt8) : ActD × Bool :=
 if (partsL line).2 = false ∨ (partsL line).1.length = 0 then (actNone, false) else implGo (partsL line).1 kinds12

theorem good_kind {a : ActD} (h : actGood a = true) : a.kind = 1 ∨ a.kind = 2 ∨ a.kind = 3 ∨ a.kind = 4 ∨ a.kind = 5 ∨ a.kind = 6 ∨ a.kind = 7 ∨ a.kind = 8 ∨ a.kind = 9 ∨ a.kind = 10 ∨ a.kind = 11 ∨ a.kind = 12 := by
 simp only [actGood, actOk, inR, Bool.and_eq_true, decide_eq_true_eq] at h
 omega
inductive GoodA : ActD → Prop
 | write (s : Int) (t : List UInt8) : (1 ≤ s ∧ s ≤ 2) → t.length ≤ 120 → GoodA ⟨1, s, 0, 0, t, addrNone, letNone⟩
 | read (s m : Int) : (1 ≤ s ∧ s ≤ 2) → (0 ≤ m ∧ m ≤ 1000000000) → GoodA ⟨2, s, 0, m, [], addrNone, letNone⟩
 | tick (s : Int) : (1 ≤ s ∧ s ≤ 2) → GoodA ⟨3, s, 0, 0, [], addrNone, letNone⟩
 | manage (s : Int) : (1 ≤ s ∧ s ≤ 2) → GoodA ⟨4, s, 0, 0, [], addrNone, letNone⟩
 | addr (s i d : Int) (b : Bool) : (1 ≤ s ∧ s ≤ 2) → (0 ≤ i ∧ i ≤ 1000000000) → (0 ≤ d ∧ d ≤ 1000000000) → GoodA ⟨5, s, 0, 0, [], ⟨i, d, b, false⟩, letNone⟩
 | drop (s n : Int) : (1 ≤ s ∧ s ≤ 2) → (0 ≤ n ∧ n ≤ 1000000000) → GoodA ⟨6, s, n, 0, [], addrNone, letNone⟩
 | reset (s n : Int) : (1 ≤ s ∧ s ≤ 2) → (0 ≤ n ∧ n ≤ 1000000000) → GoodA ⟨7, s, n, 0, [], addrNone, letNone⟩
 | deliver (n : Int) : (0 ≤ n ∧ n ≤ 1000000000) → GoodA ⟨8, 1, n, 0, [], addrNone, letNone⟩
 | lose (n : Int) : (0 ≤ n ∧ n ≤ 1000000000) → GoodA ⟨9, 1, n, 0, [], addrNone, letNone⟩
 | copy (n : Int) : (0 ≤ n ∧ n ≤ 1000000000) → GoodA ⟨10, 1, n, 0, [], addrNone, letNone⟩
 | inject (x : LetterD) : letOk x = true → GoodA ⟨11, 1, 0, 0, [], addrNone, x⟩
 | again (n : Int) : (0 ≤ n ∧ n ≤ 1000000000) → GoodA ⟨12, 1, n, 0, [], addrNone, letNone⟩
theorem good_of {a : ActD} (h : actGood a = true) : GoodA a := by
 have hk := good_kind h
 obtain ⟨k, s, p, m, t, ad, le⟩ := a
 simp only [actGood, actOk, inR, Bool.and_eq_true, decide_eq_true_eq, isN_iff] at h
 obtain ⟨⟨⟨⟨⟨_, hs⟩, hp, hm⟩, ht⟩, htold⟩, hf⟩ := h
 try dsimp only at hk
 simp only [fieldsOk, Bool.and_eq_true] at hf
 obtain ⟨_, hf⟩ := hf
 simp only [toldA, ActD.mk.injEq] at htold
 obtain ⟨_, e1, e2, e3, e4, e5, e6⟩ := htold
 try dsimp only at hs hp hm ht hf e1 e2 e3 e4 e5 e6
 rcases hk with rfl | rfl | rfl | rfl | rfl | rfl | rfl | rfl | rfl | rfl | rfl | rfl <;> simp at e1 e2 e3 e4 e5 e6 hf <;> (try subst e1) <;> (try subst e2) <;> (try subst e3) <;> (try subst e4) <;> (try subst e5) <;> (try subst e6)
 ·exact .write _ _ hs ht
 ·exact .read _ _ hs hm
 ·exact .tick _ hs
 ·exact .manage _ hs
 ·obtain ⟨i, d, b, td⟩ := ad
  simp only [AddrD.mk.injEq, true_and] at e5
  subst e5
  simp only [isN_iff] at hf
  exact .addr _ _ _ _ hs hf.1 hf.2
 ·exact .drop _ _ hs hp
 ·exact .reset _ _ hs hp
 ·exact .deliver _ hp
 ·exact .lose _ hp
 ·exact .copy _ hp
 ·exact .inject _ (letWord_ne.1 hf)
 ·exact .again _ hp
theorem hexW_char {t : List UInt8} (h : t.length ≤ 120) : hexW t ≠ [] ∧ ∀ b ∈ hexW t, 32 < b.toNat ∧ b.toNat ≤ 126 := by
 rw [hexW]
 split
 ·exact ⟨by simp, by intro b hb; simp at hb; subst hb; decide⟩
 ·rename_i hne
  refine ⟨hne, fun b hb => ?_⟩
  rw [hexR, if_pos (by omega)] at hb
  have := hexL_char b hb
  omega
theorem dec_clean {n : Int} (h : 0 ≤ n) : dec n ≠ [] ∧ ∀ b ∈ dec n, 32 < b.toNat ∧ b.toNat ≤ 126 := ⟨dec_ne n, fun b hb => by have := dec_digit' h b hb; omega⟩
theorem unhexW_hexW {t : List UInt8} (h : t.length ≤ 120) : unhexW (hexW t) = (t, true) := by
 rw [hexW]
 split
 ·rename_i he
  rw [hexR, if_pos (by omega)] at he
  have hl := hexL_length t
  rw [he] at hl
  have : t = [] := List.eq_nil_of_length_eq_zero (by simp at hl; omega)
  subst this
  rfl
 ·rename_i hne
  rw [hexR, if_pos (by omega)] at hne ⊢
  have hl := hexL_length t
  rw [unhexW, if_neg, unhex_hexL (by omega)]
  intro e
  rw [e] at hl
  simp at hl
  omega
theorem unhex_hexW {t : List UInt8} (h : t.length ≤ 120) : (unhex (hexW t)).1 = t := by
 have h1 := unhexW_hexW h
 rw [unhexW] at h1
 split at h1
 ·rename_i he
  have : t = [] := (Prod.mk.inj h1).1.symm
  subst this
  rfl
 ·rw [h1]
theorem clean_cons {s : List UInt8} {l : List (List UInt8)} (h : s ≠ [] ∧ ∀ b ∈ s, 32 < b.toNat ∧ b.toNat ≤ 126) (hl : Clean l) : Clean (s :: l) := by
 intro x hx
 rcases List.mem_cons.1 hx with rfl | hx
 ·exact h
 ·exact hl x hx
theorem clean_nil : Clean [] := fun s hs => by simp at hs
theorem tab_clean : ∀ k : Fin 12, (actTab.getD (k.1 + 1) [] ≠ [] ∧ ∀ b ∈ actTab.getD (k.1 + 1) [], 32 < b.toNat ∧ b.toNat ≤ 126) ∧ (actTab.getD (k.1 + 1) []).length ≤ 7 ∧ kindOf (actTab.getD (k.1 + 1) []) = (k.1 : Int) + 1 := by decide
theorem dec_len {n : Int} (h : 0 ≤ n ∧ n ≤ 1000000000) : (dec n).length ≤ 10 := by
 rw [dec, if_neg (by omega)]
 have := decGo_le 9 n.natAbs [] (by omega)
 simpa using this
theorem hexW_len {t : List UInt8} (h : t.length ≤ 120) : (hexW t).length ≤ 240 := by
 rw [hexW]
 split
 ·simp
 ·rw [hexR, if_pos (by omega), hexL_length]; omega
theorem isN_cond (b : Bool) : 0 ≤ (cond b 1 0 : Int) ∧ (cond b 1 0 : Int) ≤ 1000000000 := by cases b <;> decide
structure PartsA (a : ActD) : Prop where
 clean : Clean (actParts a)
 len : (actParts a).length ≤ 5 ∧ 2 ≤ (actParts a).length
 tot : tot (actParts a) ≤ 590
 sel : selA (actParts a) = a
 rd : rdF a.kind ((actParts a).drop 1) = (a, true)
 word : (actParts a).getD 0 [] = actTab.getD a.kind.toNat []
 kin : kindOf ((actParts a).getD 0 []) = a.kind
theorem numAt_dec {l : List (List UInt8)} {n : Int} {k : Nat} (h : l[k]? = some (dec n)) (hn : 0 ≤ n ∧ n ≤ 1000000000) : numAt l k = n := by
 obtain ⟨h1, h2⟩ := List.getElem?_eq_some_iff.1 h
 rw [numAt, dif_pos h1, h2, readDec_dec hn]
theorem partsA_of {a : ActD} (h : GoodA a) : PartsA a := by
 have T := tab_clean
 have W : ∀ {s : Int}, (1 ≤ s ∧ s ≤ 2) → 0 ≤ s ∧ s ≤ 1000000000 := fun h => by omega
 cases h with
 | write s t hs ht =>
  have e : actParts ⟨1, s, 0, 0, t, addrNone, letNone⟩ = [actTab.getD 1 [], dec s, hexW t] := rfl
  have l1 := dec_len (W hs)
  have l2 := hexW_len ht
  refine ⟨?_, ?_, ?_, ?_, ?_, rfl, (T 0).2.2⟩
  ·rw [e]; exact clean_cons (T 0).1 (clean_cons (dec_clean (by omega)) (clean_cons (hexW_char ht) clean_nil))
  ·rw [e]; exact ⟨by simp, by simp⟩
  ·rw [e]; have : (actTab.getD 1 []).length ≤ 7 := (T 0).2.1; simp only [tot, List.map_cons, List.map_nil, List.sum_cons, List.sum_nil]; omega
  ·rw [e]
   have hk : kindOf (actTab.getD 1 []) = 1 := (T 0).2.2
   simp only [selA, List.getD_cons_zero, hk]
   rw [numAt_dec (n := s) rfl (W hs)]
   simp [unhex_hexW ht]
  ·rw [e]
   simp [rdF, unhexW_hexW ht, rdAll, readDec_dec (W hs), rdN, rdM, letAt, actK]
 | read s m hs hm =>
  have e : actParts ⟨2, s, 0, m, [], addrNone, letNone⟩ = [actTab.getD 2 [], dec s, dec m] := rfl
  have l1 := dec_len (W hs)
  have l2 := dec_len hm
  refine ⟨?_, ?_, ?_, ?_, ?_, rfl, (T 1).2.2⟩
  ·rw [e]; exact clean_cons (T 1).1 (clean_cons (dec_clean (by omega)) (clean_cons (dec_clean (by omega)) clean_nil))
  ·rw [e]; exact ⟨by simp, by simp⟩
  ·rw [e]; have : (actTab.getD 2 []).length ≤ 7 := (T 1).2.1; simp only [tot, List.map_cons, List.map_nil, List.sum_cons, List.sum_nil]; omega
  ·rw [e]
   have hk : kindOf (actTab.getD 2 []) = 2 := (T 1).2.2
   simp only [selA, List.getD_cons_zero, hk]
   rw [numAt_dec (n := s) rfl (W hs), numAt_dec (n := m) rfl hm]
   simp
  ·rw [e]
   simp [rdF, rdAll, readDec_dec (W hs), readDec_dec hm, rdN, rdM, letAt, actK]
 | tick s hs =>
  have e : actParts ⟨3, s, 0, 0, [], addrNone, letNone⟩ = [actTab.getD 3 [], dec s] := rfl
  have l1 := dec_len (W hs)
  refine ⟨?_, ?_, ?_, ?_, ?_, rfl, (T 2).2.2⟩
  ·rw [e]; exact clean_cons (T 2).1 (clean_cons (dec_clean (by omega)) clean_nil)
  ·rw [e]; exact ⟨by simp, by simp⟩
  ·rw [e]; have : (actTab.getD 3 []).length ≤ 7 := (T 2).2.1; simp only [tot, List.map_cons, List.map_nil, List.sum_cons, List.sum_nil]; omega
  ·rw [e]
   have hk : kindOf (actTab.getD 3 []) = 3 := (T 2).2.2
   simp only [selA, List.getD_cons_zero, hk]
   rw [numAt_dec (n := s) rfl (W hs)]
   simp
  ·rw [e]
   simp [rdF, rdAll, readDec_dec (W hs), rdN, rdM, letAt, actK]
 | manage s hs =>
  have e : actParts ⟨4, s, 0, 0, [], addrNone, letNone⟩ = [actTab.getD 4 [], dec s] := rfl
  have l1 := dec_len (W hs)
  refine ⟨?_, ?_, ?_, ?_, ?_, rfl, (T 3).2.2⟩
  ·rw [e]; exact clean_cons (T 3).1 (clean_cons (dec_clean (by omega)) clean_nil)
  ·rw [e]; exact ⟨by simp, by simp⟩
  ·rw [e]; have : (actTab.getD 4 []).length ≤ 7 := (T 3).2.1; simp only [tot, List.map_cons, List.map_nil, List.sum_cons, List.sum_nil]; omega
  ·rw [e]
   have hk : kindOf (actTab.getD 4 []) = 4 := (T 3).2.2
   simp only [selA, List.getD_cons_zero, hk]
   rw [numAt_dec (n := s) rfl (W hs)]
   simp
  ·rw [e]
   simp [rdF, rdAll, readDec_dec (W hs), rdN, rdM, letAt, actK]
 | addr s i d b hs hi hd =>
  have e : actParts ⟨5, s, 0, 0, [], ⟨i, d, b, false⟩, letNone⟩ = [actTab.getD 5 [], dec s, dec i, dec d, dec (cond b 1 0)] := rfl
  have l1 := dec_len (W hs)
  have l2 := dec_len hi
  have l3 := dec_len hd
  have hb := isN_cond b
  have l4 := dec_len hb
  refine ⟨?_, ?_, ?_, ?_, ?_, rfl, (T 4).2.2⟩
  ·rw [e]; exact clean_cons (T 4).1 (clean_cons (dec_clean (by omega)) (clean_cons (dec_clean (by omega)) (clean_cons (dec_clean (by omega)) (clean_cons (dec_clean hb.1) clean_nil))))
  ·rw [e]; exact ⟨by simp, by simp⟩
  ·rw [e]; have : (actTab.getD 5 []).length ≤ 7 := (T 4).2.1; simp only [tot, List.map_cons, List.map_nil, List.sum_cons, List.sum_nil]; omega
  ·rw [e]
   have hk : kindOf (actTab.getD 5 []) = 5 := (T 4).2.2
   simp only [selA, List.getD_cons_zero, hk]
   rw [numAt_dec (n := s) rfl (W hs), numAt_dec (n := i) rfl hi, numAt_dec (n := d) rfl hd, numAt_dec (n := cond b 1 0) rfl hb]
   cases b <;> simp
  ·rw [e]
   cases b <;> simp [rdF, rdAll, readDec_dec (W hs), readDec_dec hi, readDec_dec hd, readDec_dec (n := 0) (by omega), readDec_dec (n := 1) (by omega), rdN, rdM, letAt, actK]
 | inject x hx =>
  have e : actParts ⟨11, 1, 0, 0, [], addrNone, x⟩ = [actTab.getD 11 [], letWord x] := rfl
  have l1 := letWord_len x
  refine ⟨?_, ?_, ?_, ?_, ?_, rfl, (T 10).2.2⟩
  ·rw [e]; exact clean_cons (T 10).1 (clean_cons ⟨letWord_ne.2 hx, letWord_char hx⟩ clean_nil)
  ·rw [e]; exact ⟨by simp, by simp⟩
  ·rw [e]; have : (actTab.getD 11 []).length ≤ 7 := (T 10).2.1; simp only [tot, List.map_cons, List.map_nil, List.sum_cons, List.sum_nil]; omega
  ·rw [e]
   have hk : kindOf (actTab.getD 11 []) = 11 := (T 10).2.2
   simp only [selA, List.getD_cons_zero, hk]
   simp [rlw_letWord hx]
  ·rw [e]
   simp [rdF, rlw_letWord hx, actK]
 | drop s n hs hn =>
  have e : actParts ⟨6, s, n, 0, [], addrNone, letNone⟩ = [actTab.getD 6 [], dec s, dec n] := rfl
  have l1 := dec_len (W hs)
  have l2 := dec_len hn
  refine ⟨?_, ?_, ?_, ?_, ?_, rfl, (T (6 - 1)).2.2⟩
  ·rw [e]; exact clean_cons (T (6 - 1)).1 (clean_cons (dec_clean (by omega)) (clean_cons (dec_clean (by omega)) clean_nil))
  ·rw [e]; exact ⟨by simp, by simp⟩
  ·rw [e]; have : (actTab.getD 6 []).length ≤ 7 := (T (6 - 1)).2.1; simp only [tot, List.map_cons, List.map_nil, List.sum_cons, List.sum_nil]; omega
  ·rw [e]
   have hk : kindOf (actTab.getD 6 []) = 6 := (T (6 - 1)).2.2
   simp only [selA, List.getD_cons_zero, hk]
   rw [numAt_dec (n := s) rfl (W hs), numAt_dec (n := n) rfl hn]
   simp
  ·rw [e]
   simp [rdF, rdAll, readDec_dec (W hs), readDec_dec hn, rdN, rdM, letAt, actK]

 | reset s n hs hn =>
  have e : actParts ⟨7, s, n, 0, [], addrNone, letNone⟩ = [actTab.getD 7 [], dec s, dec n] := rfl
  have l1 := dec_len (W hs)
  have l2 := dec_len hn
  refine ⟨?_, ?_, ?_, ?_, ?_, rfl, (T (7 - 1)).2.2⟩
  ·rw [e]; exact clean_cons (T (7 - 1)).1 (clean_cons (dec_clean (by omega)) (clean_cons (dec_clean (by omega)) clean_nil))
  ·rw [e]; exact ⟨by simp, by simp⟩
  ·rw [e]; have : (actTab.getD 7 []).length ≤ 7 := (T (7 - 1)).2.1; simp only [tot, List.map_cons, List.map_nil, List.sum_cons, List.sum_nil]; omega
  ·rw [e]
   have hk : kindOf (actTab.getD 7 []) = 7 := (T (7 - 1)).2.2
   simp only [selA, List.getD_cons_zero, hk]
   rw [numAt_dec (n := s) rfl (W hs), numAt_dec (n := n) rfl hn]
   simp
  ·rw [e]
   simp [rdF, rdAll, readDec_dec (W hs), readDec_dec hn, rdN, rdM, letAt, actK]

 | deliver n hn =>
  have e : actParts ⟨8, 1, n, 0, [], addrNone, letNone⟩ = [actTab.getD 8 [], dec n] := rfl
  have l2 := dec_len hn
  refine ⟨?_, ?_, ?_, ?_, ?_, rfl, (T (8 - 1)).2.2⟩
  ·rw [e]; exact clean_cons (T (8 - 1)).1 (clean_cons (dec_clean (by omega)) clean_nil)
  ·rw [e]; exact ⟨by simp, by simp⟩
  ·rw [e]; have : (actTab.getD 8 []).length ≤ 7 := (T (8 - 1)).2.1; simp only [tot, List.map_cons, List.map_nil, List.sum_cons, List.sum_nil]; omega
  ·rw [e]
   have hk : kindOf (actTab.getD 8 []) = 8 := (T (8 - 1)).2.2
   simp only [selA, List.getD_cons_zero, hk]
   rw [numAt_dec (n := n) rfl hn]
   simp
  ·rw [e]
   simp [rdF, rdAll, readDec_dec hn, rdN, rdM, letAt, actK]

 | lose n hn =>
  have e : actParts ⟨9, 1, n, 0, [], addrNone, letNone⟩ = [actTab.getD 9 [], dec n] := rfl
  have l2 := dec_len hn
  refine ⟨?_, ?_, ?_, ?_, ?_, rfl, (T (9 - 1)).2.2⟩
  ·rw [e]; exact clean_cons (T (9 - 1)).1 (clean_cons (dec_clean (by omega)) clean_nil)
  ·rw [e]; exact ⟨by simp, by simp⟩
  ·rw [e]; have : (actTab.getD 9 []).length ≤ 7 := (T (9 - 1)).2.1; simp only [tot, List.map_cons, List.map_nil, List.sum_cons, List.sum_nil]; omega
  ·rw [e]
   have hk : kindOf (actTab.getD 9 []) = 9 := (T (9 - 1)).2.2
   simp only [selA, List.getD_cons_zero, hk]
   rw [numAt_dec (n := n) rfl hn]
   simp
  ·rw [e]
   simp [rdF, rdAll, readDec_dec hn, rdN, rdM, letAt, actK]

 | copy n hn =>
  have e : actParts ⟨10, 1, n, 0, [], addrNone, letNone⟩ = [actTab.getD 10 [], dec n] := rfl
  have l2 := dec_len hn
  refine ⟨?_, ?_, ?_, ?_, ?_, rfl, (T (10 - 1)).2.2⟩
  ·rw [e]; exact clean_cons (T (10 - 1)).1 (clean_cons (dec_clean (by omega)) clean_nil)
  ·rw [e]; exact ⟨by simp, by simp⟩
  ·rw [e]; have : (actTab.getD 10 []).length ≤ 7 := (T (10 - 1)).2.1; simp only [tot, List.map_cons, List.map_nil, List.sum_cons, List.sum_nil]; omega
  ·rw [e]
   have hk : kindOf (actTab.getD 10 []) = 10 := (T (10 - 1)).2.2
   simp only [selA, List.getD_cons_zero, hk]
   rw [numAt_dec (n := n) rfl hn]
   simp
  ·rw [e]
   simp [rdF, rdAll, readDec_dec hn, rdN, rdM, letAt, actK]

 | again n hn =>
  have e : actParts ⟨12, 1, n, 0, [], addrNone, letNone⟩ = [actTab.getD 12 [], dec n] := rfl
  have l2 := dec_len hn
  refine ⟨?_, ?_, ?_, ?_, ?_, rfl, (T (12 - 1)).2.2⟩
  ·rw [e]; exact clean_cons (T (12 - 1)).1 (clean_cons (dec_clean (by omega)) clean_nil)
  ·rw [e]; exact ⟨by simp, by simp⟩
  ·rw [e]; have : (actTab.getD 12 []).length ≤ 7 := (T (12 - 1)).2.1; simp only [tot, List.map_cons, List.map_nil, List.sum_cons, List.sum_nil]; omega
  ·rw [e]
   have hk : kindOf (actTab.getD 12 []) = 12 := (T (12 - 1)).2.2
   simp only [selA, List.getD_cons_zero, hk]
   rw [numAt_dec (n := n) rfl hn]
   simp
  ·rw [e]
   simp [rdF, rdAll, readDec_dec hn, rdN, rdM, letAt, actK]

theorem actLine_good {a : ActD} (h : actGood a = true) : actLine a = joinL [32] (actParts a) := if_pos h
theorem actLine_bad {a : ActD} (h : actLine a ≠ []) : actGood a = true := by
 rw [actLine] at h
 split at h
 ·assumption
 ·exact absurd rfl h
theorem joinL_ne {s : List UInt8} {r : List (List UInt8)} (h : s ≠ []) : joinL [32] (s :: r) ≠ [] := by
 rw [joinL_cons]
 intro e
 exact h (List.append_eq_nil_iff.1 e).1
theorem actLine_ne {a : ActD} (h : actGood a = true) : actLine a ≠ [] := by
 have hp := (partsA_of (good_of h)).clean
 rw [actLine_good h, actParts]
 exact joinL_ne (hp _ (by simp [actParts])).1
theorem parts_line {a : ActD} (h : actGood a = true) : partsL (actLine a) = (actParts a, true) := by
 have hp := partsA_of (good_of h)
 have hl := joinL_len (y := [32]) (l := actParts a)
 have h1 := hp.tot
 have h2 := hp.len
 simp only [List.length_singleton, Nat.mul_one] at hl
 rw [actLine_good h, partsL, if_neg (by omega), parts_join hp.clean, partsR, if_neg (by omega)]
def ofParts (parts : List (List UInt8)) : ActD × Bool := if actGood (selA parts) = true ∧ actParts (selA parts) = parts then (selA parts, true) else (actNone, false)
theorem specAct_eq (line : List UInt8) : specAct line = if (partsL line).2 = true then ofParts (partsL line).1 else (actNone, false) := by
 rw [specAct]
 have hc := partsL_clean line
 generalize partsL line = q at hc
 obtain ⟨p, ok⟩ := q
 dsimp only at hc ⊢
 cases ok with
 | false => simp
 | true =>
  simp only [true_and, if_true, ofParts]
  by_cases hg : actGood (selA p) = true
  ·have hp := partsA_of (good_of hg)
   by_cases he : actParts (selA p) = p
   ·have h2 : 2 ≤ p.length := by
     have := hp.len.2
     rw [he] at this
     exact this
    rw [if_pos ⟨h2, actLine_ne hg, by rw [actLine_good hg, he]⟩, if_pos ⟨hg, he⟩]
   ·rw [if_neg, if_neg (fun h => he h.2)]
    rintro ⟨_, _, h⟩
    rw [actLine_good hg] at h
    exact he (join_inj hp.clean hc h)
  ·rw [if_neg, if_neg (fun h => hg h.1)]
   rintro ⟨_, h, _⟩
   exact hg (actLine_bad h)
theorem sameB_good {a : ActD} {parts : List (List UInt8)} (hc : Clean parts) : sameB (actLine a) parts = (actGood a && decide (actParts a = parts)) := by
 cases hg : actGood a with
 | false =>
  have : actLine a = [] := if_neg (by simp [hg])
  rw [this]
  simp [sameB]
 | true =>
  have hp := partsA_of (good_of hg)
  have hne := actLine_ne hg
  rw [sameB, parts_line hg]
  by_cases he : actParts a = parts
  ·subst he; simp [hne]
  ·have : joinL [32] (actParts a) ≠ joinL [32] parts := fun h => he (join_inj hp.clean hc h)
   simp [this, he]
theorem implGo_none {parts : List (List UInt8)} : ∀ {l : List Int}, (∀ k ∈ l, tryK parts k = false) → implGo parts l = (actNone, false)
 | [], _ => rfl
 | k :: r, h => by rw [implGo, if_neg (by simp [h k (by simp)]), implGo_none fun x hx => h x (by simp [hx])]
theorem tryK_good {parts : List (List UInt8)} {k : Int} (hc : Clean parts) (hk : tryK parts k = true) : actGood (selA parts) = true ∧ actParts (selA parts) = parts ∧ (rdF k (parts.drop 1)).1 = selA parts := by
 simp only [tryK, sameB_good hc, Bool.and_eq_true, decide_eq_true_eq] at hk
 obtain ⟨_, _, hg, he⟩ := hk
 have hp := partsA_of (good_of hg)
 have hs := hp.sel
 rw [he] at hs
 rw [hs]
 exact ⟨hg, he, rfl⟩
theorem implGo_eq {parts : List (List UInt8)} (hc : Clean parts) (hg : actGood (selA parts) = true) (he : actParts (selA parts) = parts) : ∀ {l : List Int}, (selA parts).kind ∈ l → implGo parts l = (selA parts, true)
 | [], h => by simp at h
 | k :: r, h => by
  have hp := partsA_of (good_of hg)
  rw [implGo]
  by_cases ht : tryK parts k = true
  ·rw [if_pos ht, (tryK_good hc ht).2.2]
  ·rw [if_neg ht]
   refine implGo_eq hc hg he ?_
   rcases List.mem_cons.1 h with rfl | h
   ·exfalso
    apply ht
    have h1 := hp.rd
    have h2 := hp.word
    rw [he] at h1 h2
    simp only [tryK, sameB_good hc, h1, hg, he, h2, decide_true, Bool.and_self]
   ·exact h
theorem implAct_eq (line : List UInt8) : implAct line = specAct line := by
 rw [specAct_eq, implAct]
 have hc := partsL_clean line
 generalize partsL line = q at hc
 obtain ⟨p, ok⟩ := q
 dsimp only at hc ⊢
 cases ok with
 | false => simp
 | true =>
  simp only [Bool.true_eq_false, false_or, if_true, ofParts]
  by_cases hg : actGood (selA p) = true ∧ actParts (selA p) = p
  ·have hp := partsA_of (good_of hg.1)
   have hl := hp.len
   rw [hg.2] at hl
   rw [if_pos hg, if_neg (by omega), implGo_eq hc hg.1 hg.2]
   have := good_kind hg.1
   simp only [kinds12, List.mem_cons, List.not_mem_nil, or_false]
   exact this
  ·rw [if_neg hg]
   split
   ·rfl
   ·refine implGo_none fun k _ => ?_
    cases ht : tryK p k with
    | false => rfl
    | true => exact absurd ⟨(tryK_good hc ht).1, (tryK_good hc ht).2.1⟩ hg
end
section
theorem partsGo_restB : ∀ {r : List (List UInt8)} {acc : List (List UInt8)} {cur : List UInt8}, cur ≠ [] → Clean r → partsGo acc cur (r.flatMap ([32] ++ ·) ++ [32]) = some (acc ++ cur :: r)
 | [], acc, cur, h, _ => by
  rw [List.flatMap_nil, List.nil_append, partsGo, if_neg (by decide), if_pos rfl, partsGo]
  simp [app1, h]
 | s :: r, acc, cur, h, hr => by
  obtain ⟨h1, h2⟩ := hr s (by simp)
  rw [List.flatMap_cons, List.append_assoc, List.append_assoc, List.singleton_append, partsGo, if_neg (by decide), if_pos rfl, app1, if_neg h, partsGo_word h2, partsGo_restB (by simpa using h1) (fun x hx => hr x (by simp [hx]))]
  simp
theorem partsGo_blank {l : List UInt8} : partsGo [] [] (32 :: l) = partsGo [] [] l := by
 rw [partsGo, if_neg (by decide), if_pos rfl]; rfl
theorem parts_joinB {l : List (List UInt8)} (h : Clean l) : partsGo [] [] (joinL [32] l ++ [32]) = some l := by
 cases l with
 | nil => simp [joinL, joinGo, partsGo, app1]
 | cons s r =>
  obtain ⟨h1, h2⟩ := h s (by simp)
  rw [joinL_cons, List.append_assoc, partsGo_word h2, partsGo_restB (by simpa using h1) (fun x hx => h x (by simp [hx]))]
  simp
theorem implAct_line {a : ActD} (h : actGood a = true) : implAct ((32 :: 32 :: actLine a) ++ [32]) = (a, true) := by
 have hp := partsA_of (good_of h)
 have hl := joinL_len (y := [32]) (l := actParts a)
 have h1 := hp.tot
 have h2 := hp.len
 simp only [List.length_singleton, Nat.mul_one] at hl
 have e : partsL ((32 :: 32 :: actLine a) ++ [32]) = (actParts a, true) := by
  rw [actLine_good h, partsL, if_neg (by simp only [List.length_append, List.length_cons, List.length_nil]; omega), List.cons_append, List.cons_append, partsGo_blank, partsGo_blank, parts_joinB hp.clean, partsR, if_neg (by omega)]
 rw [implAct_eq, specAct_eq, e, if_pos rfl, ofParts, hp.sel, if_pos ⟨h, rfl⟩]
theorem implAct_none {a : ActD} (h : ¬ actGood a = true) : implAct ((32 :: 32 :: actLine a) ++ [32]) = (actNone, false) := by
 rw [actLine, if_neg h]; rfl
theorem actLine_iff (a : ActD) : actLine a = [] ↔ ¬ actGood a = true := by
 constructor
 ·intro h hg; exact actLine_ne hg h
 ·intro h; exact if_neg h
theorem polRes_line {p : PolicyD} (h : polOk p = true) : polRes (32 :: polLine p) = (p, true) := by
 have hc := polOk_cand h
 obtain ⟨h1, h2, h3, h4, h5, h6, _⟩ := cand_facts p hc
 have hk : ∀ c ∈ cands, (joinL [32] (cpOf c)).length ≤ 10 := by decide
 have h7 := hk p hc
 have e : partsL (32 :: polLine p) = (cpOf p, true) := by
  rw [h1, partsL, if_neg (by simp only [List.length_cons]; omega), partsGo_blank, h2, partsR, if_neg (by omega)]
 rw [polRes, e, if_pos rfl]
 exact readGo_some h6 rfl hc (fun _ h => h) hc
theorem polRes_none {p : PolicyD} (h : ¬ polOk p = true) : polRes (32 :: polLine p) = (polNone, false) := by
 rw [polLine, if_neg h]
 have e : partsL [32] = ([], true) := rfl
 rw [polRes, e, if_pos rfl]
 refine readGo_none (fun s hs => by simp at hs) (fun _ h => h) ?_
 decide
theorem rlw_none {x : LetterD} (h : ¬ letOk x = true) : rlw (letWord x) = (letNone, false) := by
 rw [letWord, if_neg h]; rfl
end
section
open Go.RowKit

theorem unhexGo_len : ∀ {l acc r : List UInt8}, unhexGo acc l = some r → r.length ≤ acc.length + l.length
 | a :: b :: l, acc, r, h => by
  rw [unhexGo] at h
  split at h
  ·cases h
  ·have := unhexGo_len h
   simp at this ⊢
   omega
 | [], acc, r, h => by simp [unhexGo] at h; subst h; simp
 | [_], acc, r, h => by simp [unhexGo] at h; subst h; simp
theorem unhex_le (l : List UInt8) : (unhex l).1.length ≤ l.length := by
 rw [unhex]
 split
 ·simp
 ·cases h : unhexGo [] l with
  | none => simp [unhexR]
  | some r =>
   have := unhexGo_len h
   simpa [unhexR] using this
theorem cutGo_len {y : UInt8} : ∀ {l : List UInt8} {acc : List (List UInt8)} {cur s : List UInt8}, s ∈ cutGo y acc cur l → s ∈ acc ∨ s.length ≤ cur.length + l.length
 | [], acc, cur, s, h => by
  rw [cutGo] at h
  rcases List.mem_append.1 h with h | h
  ·exact .inl h
  ·simp at h; subst h; exact .inr (by simp)
 | b :: r, acc, cur, s, h => by
  rw [cutGo] at h
  split at h
  ·rcases cutGo_len h with h | h
   ·rcases List.mem_append.1 h with h | h
    ·exact .inl h
    ·simp at h; subst h; exact .inr (by simp)
   ·exact .inr (by simp at h ⊢; omega)
  ·rcases cutGo_len h with h | h
   ·exact .inl h
   ·exact .inr (by simp at h ⊢; omega)
theorem cutL_len {y : UInt8} (l s : List UInt8) (h : s ∈ cutL y l) : s.length ≤ l.length := by
 rcases cutGo_len h with h | h
 ·cases h
 ·simpa using h
theorem list18 {n : List Int} (hn : n.length = 18) : ∃ a0 a1 a2 a3 a4 a5 a6 a7 a8 a9 a10 a11 a12 a13 a14 a15 a16 a17, n = [a0, a1, a2, a3, a4, a5, a6, a7, a8, a9, a10, a11, a12, a13, a14, a15, a16, a17] := by
 match n, hn with
 | [a0, a1, a2, a3, a4, a5, a6, a7, a8, a9, a10, a11, a12, a13, a14, a15, a16, a17], _ => exact ⟨a0, a1, a2, a3, a4, a5, a6, a7, a8, a9, a10, a11, a12, a13, a14, a15, a16, a17, rfl⟩
theorem rd_start (l : List (List UInt8)) : (rdAll (l.drop 0)).map (([] : List Int) ++ ·) = rdAll l := by
 rw [List.drop_zero]
 cases rdAll l <;> rfl
theorem rd_step {l : List (List UInt8)} {k : Nat} {acc : List Int} {R : Option (List Int)} (h : k < l.length) (hr : (rdAll (l.drop k)).map (acc ++ ·) = R) : (if (readDec l[k]).2 then (rdAll (l.drop (k + 1))).map ((acc ++ [(readDec l[k]).1]) ++ ·) else none) = R := by
 rw [rdAll_step h] at hr
 rw [← hr]
 split
 ·cases rdAll (l.drop (k + 1)) with
  | none => rfl
  | some m => simp
 ·rfl
theorem rd_end {l : List (List UInt8)} {k : Nat} {acc : List Int} {R : Option (List Int)} (h : l.length ≤ k) (hr : (rdAll (l.drop k)).map (acc ++ ·) = R) : R = some acc := by
 rw [List.drop_eq_nil_of_le h, rdAll] at hr
 rw [← hr]
 simp
def letC (n : List Int) : List Sc := (letOf n false []).cs
theorem letC_fits (n : List Int) {k : Nat} (h : k < 18) : fits (letC n) k 1 = true := by
 match k, h with
 | 0, _ | 1, _ | 2, _ | 3, _ | 4, _ | 5, _ | 6, _ | 7, _ | 8, _ | 9, _ | 10, _ | 11, _ | 12, _ | 13, _ | 14, _ | 15, _ | 16, _ | 17, _ => rfl
 | m + 18, h => exact absurd h (by omega)
theorem letC_set {n : List Int} {k : Nat} (hk : k < 18) (h16 : k ≠ 16) (v : Int) (hn : n.length = 18) : spl (letC n) k [.int .i64 v] = letC (n.set k v) := letOf_set hk h16 v hn
theorem letC_16 (n : List Int) (v : Int) : letC (n.set 16 v) = letC n := letOf_16 v
def ptrM (k : Nat) : List Sc := if k = 16 then [.pt 2 0 0] else [.pt 1 0 k]
def ptrN : List (List Sc) := (List.range 18).map ptrM
theorem ptrN_eq : ptrN = [[.pt 1 0 0], [.pt 1 0 1], [.pt 1 0 2], [.pt 1 0 3], [.pt 1 0 4], [.pt 1 0 5], [.pt 1 0 6], [.pt 1 0 7], [.pt 1 0 8], [.pt 1 0 9], [.pt 1 0 10], [.pt 1 0 11], [.pt 1 0 12], [.pt 1 0 13], [.pt 1 0 14], [.pt 1 0 15], [.pt 2 0 0], [.pt 1 0 17]] := rfl
theorem ptrN_get {k : Nat} (h : k < 18) : ptrN[k]? = some (ptrM k) := by simp [ptrN, h]
theorem ptrM_16 : ptrM 16 = [.pt 2 0 0] := rfl
theorem ptrM_ne {k : Nat} (h : k ≠ 16) : ptrM k = [.pt 1 0 k] := if_neg h
theorem getD_set16 {n : List Int} (h : n.length = 18) (v : Int) : letAt (n.set 16 v) 16 = v := by
 simp [letAt, h]
theorem getD_setn {n : List Int} {k : Nat} (h : k ≠ 16) (v : Int) : letAt (n.set k v) 16 = letAt n 16 := by
 rw [letAt, letAt, List.getD_eq_getElem?_getD, List.getD_eq_getElem?_getD, List.getElem?_set_ne h]
theorem take_set {n : List Int} {k : Nat} (h : k < n.length) (v : Int) : (n.set k v).take (k + 1) = n.take k ++ [v] := by
 rw [List.take_succ_eq_append_getElem (by simpa using h), List.getElem_set_self, List.take_set_of_le (Nat.le_refl _)]
theorem letC_cM (ρ : Rho) (n : List Int) : cM ρ (letC n) (letC n) := by
 simp [letC, letOf, LetterD.cs, cM, scM]
theorem impl_ReadLetterWord (l : List UInt8) (hl : l.length ≤ 1048576) : CallA Tryd.prog 7 [.sc (.st l)] [] (.tu [.ag (rlw l).1.cs, .sc (.bo (rlw l).2)]) [] := by
 obtain ⟨R, hR⟩ : ∃ R, R = rlw l := ⟨_, rfl⟩
 rw [← hR]
 refine qE Tryd.func7 Tryd.ntmps7 Tryd.results7 fun E hE => ?_
 refine den_call (qC) (impl_cut l ?_) [] qM (by rfl) (run_den 400 ?_)
 ·omega
 simp (disch := omega) only [go_sem, Nat.reduceEqDiff, Nat.reduceAdd, Nat.reduceSub, Int.reduceAdd, Int.reduceSub, Int.reduceToNat]
 rw [rlw] at hR
 generalize hp : cutL 44 l = p at hR
 refine qK (impl_letterInts letNone 0) (qA [1, 2]) ?_
 refine qB (fun h2 => ?_) fun h2 => ?_
 ·rw [if_neg (by omega)] at hR
  subst hR
  refine den_fin [] (qC) _ (by simp only [go_sem]; rfl) (by rfl) (by rfl) ?_
  simp (disch := omega) only [go_sem, Nat.reduceEqDiff, Nat.reduceAdd, Nat.reduceSub, Int.reduceAdd, Int.reduceSub, Int.reduceToNat]
  try simp [letNone]
 ·have h19 : p.length = 19 := by omega
  rw [if_pos h19] at hR
  have hq : (p.take 18).length = 18 := by simp; omega
  have hz : letC [0, 0, 0, 0, 0, 0, 0, 0, 0, 0, 0, 0, 0, 0, 0, 0, 0, 0] = [.int .i64 0, .int .i64 0, .int .i64 0, .int .i64 0, .int .i64 0, .int .i64 0, .int .i64 0, .int .i64 0, .int .i64 0, .int .i64 0, .int .i64 0, .int .i64 0, .int .i64 0, .int .i64 0, .int .i64 0, .int .i64 0, .bo false, .int .i64 0, .st []] := rfl
  have hz6 : letAt [0, 0, 0, 0, 0, 0, 0, 0, 0, 0, 0, 0, 0, 0, 0, 0, 0, 0] 16 = 0 := rfl
  refine qX ?_
  refine den_lp 0 hE (fun s (x : Nat × List Int) => s.at [3, 8, 9, 10, 11, 14, 15, 16, 17, 18, 19, 20, 21, 22, 23, 27, 28, 29, 30, 31, 32, 33, 34, 35, 36, 37, 38, 39, 40, 41, 42, 43, 44, 45] [(26, .sc (.int .i64 (x.1 : Nat)))] ([some ⟨[letNone.cs], 19, 27, true, false⟩, some ⟨[letC x.2], 19, 27, true, false⟩, some ⟨[[.int .i64 (letAt x.2 16)]], 1, 3, true, false⟩, some ⟨p.map strC, 1, 9, true, true⟩, some ⟨ptrN, 1, 55, true, false⟩])) (fun (x : Nat × List Int) => x.1 ≤ 18 ∧ x.2.length = 18 ∧ (rdAll ((p.take 18).drop x.1)).map (x.2.take x.1 ++ ·) = rdAll (p.take 18)) (fun (x : Nat × List Int) => 18 - x.1) (0, List.replicate 18 0) (qA [0, 1, 2, 3, 4]) (qC) (⟨Nat.zero_le _, rfl, rd_start _⟩) (weak_mk (by rfl) (by rfl) ?_) fun x hx N hN => ?_
  ·try simp (disch := omega) only [go_sem, Nat.reduceEqDiff, Nat.reduceAdd, Nat.reduceSub, Int.reduceAdd, Int.reduceSub, Int.reduceToNat, ptrN_eq, hz, hz6]
   try simp [letNone]
  ·obtain ⟨k, n⟩ := x
   obtain ⟨hk1, hk2, hk3⟩ := hx
   dsimp only at hk1 hk2 hk3
   refine qR ?_
   refine qB (fun h3 => ?_) fun h3 => ?_
   ·have hs := rd_step (by omega) hk3
    rw [List.getElem_take] at hs
    have hkp : k < p.length := by omega
    have h18 : k < 18 := by omega
    by_cases h16 : k = 16
    ·subst h16
     try simp (disch := omega) only [go_sem, Nat.reduceEqDiff, Nat.reduceAdd, Nat.reduceSub, Int.reduceAdd, Int.reduceSub, Int.reduceToNat, strs_get hkp, ptrN_get h18, ptrM_16]
     refine qK (impl_ReadDecimal _) [] ?_
     refine qB (fun h4 => ?_) fun h4 => ?_
     ·rw [h4, if_neg (by simp)] at hs
      rw [← hs, rlwR] at hR
      subst hR
      refine den_fin [] (qC) _ (by simp only [go_sem]; rfl) (by rfl) (by rfl) ?_
      simp (disch := omega) only [go_sem, Nat.reduceEqDiff, Nat.reduceAdd, Nat.reduceSub, Int.reduceAdd, Int.reduceSub, Int.reduceToNat]
      try simp [letNone]
     ·rw [h4, if_pos rfl, ← take_set (by omega)] at hs
      refine qX ?_
      refine ⟨qC, hN _ (17, n.set 16 (readDec p[16]).1) (qA [0, 1, 2, 3, 4]) (by (try dsimp only); exact ⟨by omega, by simp; omega, hs⟩) (by (try dsimp only); omega) (weak_mk (by rfl) (by rfl) ?_)⟩
      try simp (disch := omega) only [go_sem, Nat.reduceEqDiff, Nat.reduceAdd, Nat.reduceSub, Int.reduceAdd, Int.reduceSub, Int.reduceToNat, letC_16, getD_set16 hk2, ptrN_eq]
      exact ⟨rfl, letC_cM _ _⟩
    ·have hf := letC_fits n h18
     try simp (disch := omega) only [go_sem, Nat.reduceEqDiff, Nat.reduceAdd, Nat.reduceSub, Int.reduceAdd, Int.reduceSub, Int.reduceToNat, strs_get hkp, ptrN_get h18, ptrM_ne h16]
     refine qK (impl_ReadDecimal _) [] ?_
     refine qB (fun h4 => ?_) fun h4 => ?_
     ·rw [h4, if_neg (by simp)] at hs
      rw [← hs, rlwR] at hR
      subst hR
      refine den_fin [] (qC) _ (by simp only [go_sem]; rfl) (by rfl) (by rfl) ?_
      simp (disch := omega) only [go_sem, Nat.reduceEqDiff, Nat.reduceAdd, Nat.reduceSub, Int.reduceAdd, Int.reduceSub, Int.reduceToNat]
      try simp [letNone]
     ·rw [h4, if_pos rfl, ← take_set (by omega)] at hs
      try simp (disch := omega) only [go_sem, Nat.reduceEqDiff, Nat.reduceAdd, Nat.reduceSub, Int.reduceAdd, Int.reduceSub, Int.reduceToNat, hf, letC_set h18 h16 _ hk2]
      refine ⟨qC, hN _ (k + 1, n.set k (readDec p[k]).1) (qA [0, 1, 2, 3, 4]) (by (try dsimp only); exact ⟨by omega, by simp; omega, hs⟩) (by (try dsimp only); omega) (weak_mk (by rfl) (by rfl) ?_)⟩
      try simp (disch := omega) only [go_sem, Nat.reduceEqDiff, Nat.reduceAdd, Nat.reduceSub, Int.reduceAdd, Int.reduceSub, Int.reduceToNat, getD_setn h16, ptrN_eq]
      exact letC_cM _ _
   ·have hk : k = 18 := by omega
    subst hk
    have hn := rd_end (by omega) hk3
    rw [show n.take 18 = n from List.take_of_length_le (by omega)] at hn
    have hwf := rdAll_wf hn
    rw [hn, rlwR, List.getD_eq_getElem?_getD, List.getElem?_eq_getElem (show 18 < p.length by omega)] at hR
    simp only [Option.getD_some] at hR
    have h18 : 18 < p.length := by omega
    have hps : p[18].length ≤ 1048576 := by
     have := cutL_len l p[18] (by rw [hp]; exact List.getElem_mem _)
     omega
    try simp (disch := omega) only [go_sem, Nat.reduceEqDiff, Nat.reduceAdd, Nat.reduceSub, Int.reduceAdd, Int.reduceSub, Int.reduceToNat, strs_get h18]
    refine den_call (qC) (impl_Unhex _ ?_) [] qM (by rfl) (run_den 400 ?_)
    ·omega
    simp (disch := omega) only [go_sem, Nat.reduceEqDiff, Nat.reduceAdd, Nat.reduceSub, Int.reduceAdd, Int.reduceSub, Int.reduceToNat]
    have hul := unhex_le p[18]
    obtain ⟨a0, a1, a2, a3, a4, a5, a6, a7, a8, a9, a10, a11, a12, a13, a14, a15, a16, a17, rfl⟩ := list18 hk2
    have hX : letOf [a0, a1, a2, a3, a4, a5, a6, a7, a8, a9, a10, a11, a12, a13, a14, a15, a16, a17] (letAt [a0, a1, a2, a3, a4, a5, a6, a7, a8, a9, a10, a11, a12, a13, a14, a15, a16, a17] 16 == 1) (unhex p[18]).1 = ⟨a0, a1, a2, a3, a4, a5, a6, a7, a8, ⟨a9, a10, a11, a12, a13⟩, a14, a15, a16 == 1, a17, (unhex p[18]).1⟩ := rfl
    have hC : letC [a0, a1, a2, a3, a4, a5, a6, a7, a8, a9, a10, a11, a12, a13, a14, a15, a16, a17] = [.int .i64 a0, .int .i64 a1, .int .i64 a2, .int .i64 a3, .int .i64 a4, .int .i64 a5, .int .i64 a6, .int .i64 a7, .int .i64 a8, .int .i64 a9, .int .i64 a10, .int .i64 a11, .int .i64 a12, .int .i64 a13, .int .i64 a14, .int .i64 a15, .bo false, .int .i64 a17, .st []] := rfl
    have h6 : letAt [a0, a1, a2, a3, a4, a5, a6, a7, a8, a9, a10, a11, a12, a13, a14, a15, a16, a17] 16 = a16 := rfl
    have hXw := letOf_wf hwf (letAt [a0, a1, a2, a3, a4, a5, a6, a7, a8, a9, a10, a11, a12, a13, a14, a15, a16, a17] 16 == 1) (t := (unhex p[18]).1) (by simp only [maxLen]; omega)
    rw [hX] at hR hXw
    try simp (disch := omega) only [go_sem, Nat.reduceEqDiff, Nat.reduceAdd, Nat.reduceSub, Int.reduceAdd, Int.reduceSub, Int.reduceToNat, hC, h6]
    refine qB (fun h5 => ?_) fun h5 => ?_
    ·rw [h5] at hR
     simp only [true_and] at hR
     refine qX ?_
     refine qK (impl_LetterWord _ hXw) [] ?_
     refine qB (fun h7 => ?_) fun h7 => ?_
     ·rw [if_neg h7] at hR
      subst hR
      refine den_fin [] (qC) _ (by simp only [go_sem]; rfl) (by rfl) (by rfl) ?_
      simp (disch := omega) only [go_sem, Nat.reduceEqDiff, Nat.reduceAdd, Nat.reduceSub, Int.reduceAdd, Int.reduceSub, Int.reduceToNat]
      try simp [letNone]
     ·rw [if_pos h7] at hR
      subst hR
      refine den_fin [] (qC) _ (by simp only [go_sem]; rfl) (by rfl) (by rfl) ?_
      simp (disch := omega) only [go_sem, Nat.reduceEqDiff, Nat.reduceAdd, Nat.reduceSub, Int.reduceAdd, Int.reduceSub, Int.reduceToNat]
      try simp
    ·rw [if_neg (by rw [h5]; simp)] at hR
     subst hR
     refine den_fin [] (qC) _ (by simp only [go_sem]; rfl) (by rfl) (by rfl) ?_
     simp (disch := omega) only [go_sem, Nat.reduceEqDiff, Nat.reduceAdd, Nat.reduceSub, Int.reduceAdd, Int.reduceSub, Int.reduceToNat]
     try simp [letNone]
end
end Go.Proofs.YtfnnpnifiejlpaaDoor
