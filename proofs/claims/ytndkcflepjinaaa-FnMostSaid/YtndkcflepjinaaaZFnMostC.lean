/-
  Texts merged for this claim by shake.py: what its proof needs.
-/
import Derived.WalkKit
import Derived.ProofKit
import Derived.ShutString
import Derived.OpenShut
import Derived.ChangeOld
import Derived.Below
import Derived.Carry
import Derived.Tactics
import Derived.Laws.AppendOwn
import Derived.Laws.OwnMore
import Derived.Laws.Slices
import Derived.Laws.Small
import Derived.Laws.Strings
import Derived.KernelRfl
import Derived.Laws.MakeOwn
import Derived.Laws.BytesString
import Derived.Laws.BytesArg
import Derived.Laws.Build
import Derived.Laws.Concat
import Derived.Laws.StructEq
import Derived.Lib.ConvBytes
import Derived.Test.YtndkcflepjinaaaChecked
import Derived.Orders
import Derived.Laws.BitsLemmas
import Derived.JoinedOf
import Derived.Test.YtndkcflepjinaaaRows
import Derived.Test.YtndkcflepjinaaaZFnMostB
namespace Go.Proofs.Ytndkcflepjinaaa
section
open Go.RowKit
set_option linter.unusedVariables false
set_option linter.unusedSimpArgs false
set_option maxRecDepth 20000

theorem byteC_conv {cs : List Value} (h : See0s [.byte] cs) : ∃ n : UInt8, L2 (ScR []) (byteC n) cs ∧ True := by
  obtain ⟨_, _, rfl, ⟨n, rfl, h0, h1⟩, rfl⟩ := h
  refine ⟨UInt8.ofNat n.toNat, ⟨?_, trivial⟩, trivial⟩
  show Value.int .u8 n = .int .u8 ((UInt8.ofNat n.toNat).toNat : Nat)
  congr 1
  rw [UInt8.toNat_ofNat']
  omega
structure CurD where
  i : Nat
  h : Int
def CurD.cs (c : CurD) (b : List UInt8) : List Sc := [.sl 0 0 b.length, .int .i64 (c.i : Nat), .int .i64 c.h]
def CurD.hp (c : CurD) (b : List UInt8) : Hp := [some ⟨b.map byteC, 1, 5, false, true⟩, some ⟨[c.cs b], 3, 104, true, false⟩]
def CurD.ok (c : CurD) (b : List UInt8) : Prop := c.i ≤ b.length ∧ b.length ≤ 1048576
attribute [go_sem] CurD.cs CurD.hp
def and64 (a b : Int) : Int := IntKind.i64.wrap (BitVec.ofInt 64 a &&& BitVec.ofInt 64 b).toNat
def xor64 (a b : Int) : Int := IntKind.i64.wrap (BitVec.ofInt 64 a ^^^ BitVec.ofInt 64 b).toNat
theorem and_255 (a : Int) : 0 ≤ and64 a 255 ∧ and64 a 255 ≤ 255 := by
  have h : (BitVec.ofInt 64 a &&& BitVec.ofInt 64 255).toNat ≤ 255 := by
    rw [BitVec.toNat_and]
    exact Nat.le_trans Nat.and_le_right (by decide)
  have e : and64 a 255 = ((BitVec.ofInt 64 a &&& BitVec.ofInt 64 255).toNat : Int) := w64 (by
    have h' : (BitVec.ofInt 64 a &&& BitVec.ofInt 64 255).toNat ≤ 255 := h
    omega)
  rw [e]
  omega
def CurD.nxt (c : CurD) : Int := IntKind.i64.wrap (IntKind.i64.wrap (c.h * 6364136223846793005) + 1442695040888963407)
def CurD.x0 (c : CurD) : Int := and64 (xor64 (c.nxt.fdiv (2 ^ min 33 64)) (c.nxt.fdiv (2 ^ min 45 64))) 255
def CurD.bv (c : CurD) (b : List UInt8) : Int := if h : c.i < b.length then and64 (IntKind.i64.wrap (c.x0 + b[c.i].toNat)) 255 else c.x0
def CurD.bn (c : CurD) (b : List UInt8) : CurD := if c.i < b.length then ⟨c.i + 1, c.nxt⟩ else ⟨c.i, c.nxt⟩
theorem CurD.bv_le (c : CurD) (b : List UInt8) : 0 ≤ c.bv b ∧ c.bv b ≤ 255 := by
  rw [CurD.bv]
  split
  · exact and_255 _
  · exact and_255 _
theorem CurD.bn_ok {c : CurD} {b : List UInt8} (h : c.ok b) : (c.bn b).ok b := by
  rw [CurD.bn]
  split
  · rename_i hi; exact ⟨hi, h.2⟩
  · exact h
theorem aInt_and (a b : Int) : aInt .and .i64 a b = some (.int .i64 (and64 a b), True) := rfl
theorem aInt_xor (a b : Int) : aInt .xor .i64 a b = some (.int .i64 (xor64 a b), True) := rfl
theorem nxt_def (c : CurD) : IntKind.i64.wrap (IntKind.i64.wrap (c.h * 6364136223846793005) + 1442695040888963407) = c.nxt := rfl
theorem x0_def (c : CurD) : and64 (xor64 (c.nxt.fdiv (2 ^ min 33 64)) (c.nxt.fdiv (2 ^ min 45 64))) 255 = c.x0 := rfl
theorem spec_l01Byte (b : List UInt8) (c : CurD) (hc : c.ok b) : CallA Try.prog 40 [.sc (.pt 1 0 0)] (c.hp b) (.sc (.int .i64 (c.bv b))) ((c.bn b).hp b) := by
  have hi := hc.1
  have hb := hc.2
  refine callA_of Try.func40 (by kernel_rfl) rfl fun E hE => run_den 400 ?_
  simp (disch := omega) only [Try.ntmps40, Try.results40, go_sem, ↓aInt_and, ↓aInt_xor, Nat.reduceEqDiff, Nat.reduceAdd, Nat.reduceSub, Int.reduceAdd, Int.reduceSub, Int.reduceToNat]
  simp only [nxt_def]
  refine den_draw1 [0, 1, 2, 3, 4, 5, 6, 7, 8, 9, 10, 11, 12] (by kernel_rfl) (by (try simp (disch := omega) only [go_sem, Nat.reduceEqDiff, Nat.reduceAdd, Nat.reduceSub, Int.reduceAdd, Int.reduceSub, Int.reduceToNat]) <;> omega) (by kernel_rfl) (runD_den 400 ?_)
  simp (disch := omega) only [go_sem, ↓aInt_and, ↓aInt_xor, Nat.reduceEqDiff, Nat.reduceAdd, Nat.reduceSub, Int.reduceAdd, Int.reduceSub, Int.reduceToNat]
  simp only [x0_def]
  have hx := and_255 (xor64 (c.nxt.fdiv (2 ^ min 33 64)) (c.nxt.fdiv (2 ^ min 45 64)))
  rw [x0_def] at hx
  have e1 : c.bv b = if h : c.i < b.length then and64 (IntKind.i64.wrap (c.x0 + b[c.i].toNat)) 255 else c.x0 := by rw [CurD.bv]
  have e2 : (c.bn b) = if c.i < b.length then ⟨c.i + 1, c.nxt⟩ else ⟨c.i, c.nxt⟩ := by rw [CurD.bn]
  generalize c.x0 = x0 at *
  generalize c.nxt = nx at *
  refine ⟨by (try simp (disch := omega) only [go_sem, Nat.reduceEqDiff, Nat.reduceAdd, Nat.reduceSub, Int.reduceAdd, Int.reduceSub, Int.reduceToNat]) <;> omega, run_den 400 ?_⟩
  try simp (disch := omega) only [go_sem, Nat.reduceEqDiff, Nat.reduceAdd, Nat.reduceSub, Int.reduceAdd, Int.reduceSub, Int.reduceToNat]
  refine den_draw1 [0, 1, 2, 3, 4, 5, 6, 7, 8, 9] (by kernel_rfl) (by (try simp (disch := omega) only [go_sem, Nat.reduceEqDiff, Nat.reduceAdd, Nat.reduceSub, Int.reduceAdd, Int.reduceSub, Int.reduceToNat]) <;> omega) (by kernel_rfl) (runD_den 400 ?_)
  simp (disch := omega) only [go_sem, Nat.reduceEqDiff, Nat.reduceAdd, Nat.reduceSub, Int.reduceAdd, Int.reduceSub, Int.reduceToNat]
  refine ⟨by (try simp (disch := omega) only [go_sem, Nat.reduceEqDiff, Nat.reduceAdd, Nat.reduceSub, Int.reduceAdd, Int.reduceSub, Int.reduceToNat]) <;> omega, run_den 400 ?_⟩
  try simp (disch := omega) only [go_sem, Nat.reduceEqDiff, Nat.reduceAdd, Nat.reduceSub, Int.reduceAdd, Int.reduceSub, Int.reduceToNat]
  split <;> rename_i h <;> (try simp only [beq_true, beq_false, Bool.not_eq_true', Bool.not_eq_false'] at h) <;> simp (disch := omega) only [go_sem, Nat.reduceEqDiff, Nat.reduceAdd, Nat.reduceSub, Int.reduceAdd, Int.reduceSub, Int.reduceToNat, h] <;> (try simp only [decide_eq_true_eq, decide_eq_false_iff_not, beq_iff_eq, beq_eq_false_iff_ne, bne_iff_ne, bne_eq_false_iff_eq, ne_eq, Decidable.not_not, Bool.and_eq_true, Bool.and_eq_false_iff, Bool.or_eq_true, Bool.or_eq_false_iff, Int.ofNat_lt, Int.ofNat_le, Bool.not_eq_eq_eq_not, Bool.not_true, Bool.not_false] at h) <;> try simp (disch := omega) only [go_sem, Nat.reduceEqDiff, Nat.reduceAdd, Nat.reduceSub, Int.reduceAdd, Int.reduceSub, Int.reduceToNat]
  · have hbn := b[c.i].toNat_lt
    rw [dif_pos h, w64 (by omega)] at e1
    rw [if_pos h] at e2
    rw [e1, e2]
    refine den_draw1 [0, 1, 2, 3, 4, 5, 6, 7, 8, 9, 10, 11, 12, 13, 14] (by kernel_rfl) (by (try simp (disch := omega) only [go_sem, Nat.reduceEqDiff, Nat.reduceAdd, Nat.reduceSub, Int.reduceAdd, Int.reduceSub, Int.reduceToNat]) <;> omega) (by kernel_rfl) (runD_den 400 ?_)
    simp (disch := omega) only [go_sem, byteC, ↓aInt_and, ↓aInt_xor, Nat.reduceEqDiff, Nat.reduceAdd, Nat.reduceSub, Int.reduceAdd, Int.reduceSub, Int.reduceToNat]
    generalize and64 (x0 + b[c.i].toNat) 255 = y
    refine ⟨by (try simp (disch := omega) only [go_sem, Nat.reduceEqDiff, Nat.reduceAdd, Nat.reduceSub, Int.reduceAdd, Int.reduceSub, Int.reduceToNat]) <;> omega, run_den 400 ?_⟩
    try simp (disch := omega) only [go_sem, Nat.reduceEqDiff, Nat.reduceAdd, Nat.reduceSub, Int.reduceAdd, Int.reduceSub, Int.reduceToNat]
    refine den_fin [some (0, none), some (1, none)] (by (try simp (disch := omega) only [go_sem, Nat.reduceEqDiff, Nat.reduceAdd, Nat.reduceSub, Int.reduceAdd, Int.reduceSub, Int.reduceToNat]) <;> omega) _ (by simp only [go_sem]; rfl) (by rfl) (by rfl) ?_
    simp (disch := omega) only [go_sem, Nat.reduceEqDiff, Nat.reduceAdd, Nat.reduceSub, Int.reduceAdd, Int.reduceSub, Int.reduceToNat]
  · rw [dif_neg h] at e1
    rw [if_neg h] at e2
    rw [e1, e2]
    refine den_fin [some (0, none), some (1, none)] (by (try simp (disch := omega) only [go_sem, Nat.reduceEqDiff, Nat.reduceAdd, Nat.reduceSub, Int.reduceAdd, Int.reduceSub, Int.reduceToNat]) <;> omega) _ (by simp only [go_sem]; rfl) (by rfl) (by rfl) ?_
    simp (disch := omega) only [go_sem, Nat.reduceEqDiff, Nat.reduceAdd, Nat.reduceSub, Int.reduceAdd, Int.reduceSub, Int.reduceToNat]
def CurD.below (c : CurD) (b : List UInt8) (n : Int) : Int × CurD :=
  if n ≤ 0 then (0, c) else if n ≤ 256 then ((c.bv b).tmod n, (c.bn b)) else ((c.bv b * 16777216 + (c.bn b).bv b * 65536 + ((c.bn b).bn b).bv b * 256 + (((c.bn b).bn b).bn b).bv b).tmod n, (((c.bn b).bn b).bn b).bn b)
theorem CurD.below_ok {b : List UInt8} {c : CurD} (h : c.ok b) (n : Int) : (c.below b n).2.ok b := by
  rw [CurD.below]
  split
  · exact h
  · split
    · exact CurD.bn_ok h
    · exact CurD.bn_ok (CurD.bn_ok (CurD.bn_ok (CurD.bn_ok h)))
theorem CurD.below_lt (c : CurD) (b : List UInt8) {n : Int} (h : 0 < n) : 0 ≤ (c.below b n).1 ∧ (c.below b n).1 < n := by
  have t : ∀ m : Int, 0 ≤ m → 0 ≤ m.tmod n ∧ m.tmod n < n := fun m hm => ⟨Int.tmod_nonneg _ hm, Int.tmod_lt_of_pos _ h⟩
  have h0 := c.bv_le b
  have h1 := (c.bn b).bv_le b
  have h2 := ((c.bn b).bn b).bv_le b
  have h3 := (((c.bn b).bn b).bn b).bv_le b
  rw [CurD.below, if_neg (by omega)]
  split
  · exact t _ h0.1
  · exact t _ (by omega)
theorem spec_l01Below (b : List UInt8) (c : CurD) (hc : c.ok b) (n : Int) : CallA Try.prog 20 [.sc (.pt 1 0 0), .sc (.int .i64 n)] (c.hp b) (.sc (.int .i64 (c.below b n).1)) ((c.below b n).2.hp b) := by
  have h0 := c.bv_le b
  have h1 := (c.bn b).bv_le b
  have h2 := ((c.bn b).bn b).bv_le b
  have h3 := (((c.bn b).bn b).bn b).bv_le b
  have k1 := CurD.bn_ok hc
  have k2 := CurD.bn_ok k1
  have k3 := CurD.bn_ok k2
  obtain ⟨r, hr⟩ : ∃ r, r = c.below b n := ⟨_, rfl⟩
  rw [← hr]
  rw [CurD.below] at hr
  refine callA_of Try.func20 (by kernel_rfl) rfl fun E hE => run_den 400 ?_
  simp (disch := omega) only [Try.ntmps20, Try.results20, go_sem, Nat.reduceEqDiff, Nat.reduceAdd, Nat.reduceSub, Int.reduceAdd, Int.reduceSub, Int.reduceToNat]
  split <;> rename_i h <;> (try simp only [beq_true, beq_false, Bool.not_eq_true', Bool.not_eq_false'] at h) <;> simp (disch := omega) only [go_sem, Nat.reduceEqDiff, Nat.reduceAdd, Nat.reduceSub, Int.reduceAdd, Int.reduceSub, Int.reduceToNat, h] <;> (try simp only [decide_eq_true_eq, decide_eq_false_iff_not, beq_iff_eq, beq_eq_false_iff_ne, bne_iff_ne, bne_eq_false_iff_eq, ne_eq, Decidable.not_not, Bool.and_eq_true, Bool.and_eq_false_iff, Bool.or_eq_true, Bool.or_eq_false_iff, Int.ofNat_lt, Int.ofNat_le, Bool.not_eq_eq_eq_not, Bool.not_true, Bool.not_false] at h) <;> try simp (disch := omega) only [go_sem, Nat.reduceEqDiff, Nat.reduceAdd, Nat.reduceSub, Int.reduceAdd, Int.reduceSub, Int.reduceToNat]
  · rw [if_pos (by omega)] at hr
    subst hr
    refine den_fin [some (0, none), some (1, none)] (by (try simp (disch := omega) only [go_sem, Nat.reduceEqDiff, Nat.reduceAdd, Nat.reduceSub, Int.reduceAdd, Int.reduceSub, Int.reduceToNat]) <;> omega) _ (by simp only [go_sem]; rfl) (by rfl) (by rfl) ?_
    simp (disch := omega) only [go_sem, Nat.reduceEqDiff, Nat.reduceAdd, Nat.reduceSub, Int.reduceAdd, Int.reduceSub, Int.reduceToNat]
  · rw [if_neg (by omega)] at hr
    split <;> rename_i h4 <;> (try simp only [beq_true, beq_false, Bool.not_eq_true', Bool.not_eq_false'] at h4) <;> simp (disch := omega) only [go_sem, Nat.reduceEqDiff, Nat.reduceAdd, Nat.reduceSub, Int.reduceAdd, Int.reduceSub, Int.reduceToNat, h4] <;> (try simp only [decide_eq_true_eq, decide_eq_false_iff_not, beq_iff_eq, beq_eq_false_iff_ne, bne_iff_ne, bne_eq_false_iff_eq, ne_eq, Decidable.not_not, Bool.and_eq_true, Bool.and_eq_false_iff, Bool.or_eq_true, Bool.or_eq_false_iff, Int.ofNat_lt, Int.ofNat_le, Bool.not_eq_eq_eq_not, Bool.not_true, Bool.not_false] at h4) <;> try simp (disch := omega) only [go_sem, Nat.reduceEqDiff, Nat.reduceAdd, Nat.reduceSub, Int.reduceAdd, Int.reduceSub, Int.reduceToNat]
    · rw [if_pos (by omega)] at hr
      refine den_call (by (try simp (disch := omega) only [go_sem, Nat.reduceEqDiff, Nat.reduceAdd, Nat.reduceSub, Int.reduceAdd, Int.reduceSub, Int.reduceToNat]) <;> omega) (spec_l01Byte b c hc) [some (0, none), some (1, none)] (by simp only [go_sem]; repeat' first | rfl | constructor) (by rfl) (run_den 400 ?_)
      simp (disch := omega) only [go_sem, Nat.reduceEqDiff, Nat.reduceAdd, Nat.reduceSub, Int.reduceAdd, Int.reduceSub, Int.reduceToNat]
      subst hr
      refine den_fin [some (0, none), some (1, none)] (by (try simp (disch := omega) only [go_sem, Nat.reduceEqDiff, Nat.reduceAdd, Nat.reduceSub, Int.reduceAdd, Int.reduceSub, Int.reduceToNat]) <;> omega) _ (by simp only [go_sem]; rfl) (by rfl) (by rfl) ?_
      simp (disch := omega) only [go_sem, Nat.reduceEqDiff, Nat.reduceAdd, Nat.reduceSub, Int.reduceAdd, Int.reduceSub, Int.reduceToNat]
    · rw [if_neg (by omega)] at hr
      refine den_call (by (try simp (disch := omega) only [go_sem, Nat.reduceEqDiff, Nat.reduceAdd, Nat.reduceSub, Int.reduceAdd, Int.reduceSub, Int.reduceToNat]) <;> omega) (spec_l01Byte b c hc) [some (0, none), some (1, none)] (by simp only [go_sem]; repeat' first | rfl | constructor) (by rfl) (run_den 400 ?_)
      simp (disch := omega) only [go_sem, Nat.reduceEqDiff, Nat.reduceAdd, Nat.reduceSub, Int.reduceAdd, Int.reduceSub, Int.reduceToNat]
      refine den_call (by (try simp (disch := omega) only [go_sem, Nat.reduceEqDiff, Nat.reduceAdd, Nat.reduceSub, Int.reduceAdd, Int.reduceSub, Int.reduceToNat]) <;> omega) (spec_l01Byte b (c.bn b) k1) [some (0, none), some (1, none)] (by simp only [go_sem]; repeat' first | rfl | constructor) (by rfl) (run_den 400 ?_)
      simp (disch := omega) only [go_sem, Nat.reduceEqDiff, Nat.reduceAdd, Nat.reduceSub, Int.reduceAdd, Int.reduceSub, Int.reduceToNat]
      refine den_call (by (try simp (disch := omega) only [go_sem, Nat.reduceEqDiff, Nat.reduceAdd, Nat.reduceSub, Int.reduceAdd, Int.reduceSub, Int.reduceToNat]) <;> omega) (spec_l01Byte b ((c.bn b).bn b) k2) [some (0, none), some (1, none)] (by simp only [go_sem]; repeat' first | rfl | constructor) (by rfl) (run_den 400 ?_)
      simp (disch := omega) only [go_sem, Nat.reduceEqDiff, Nat.reduceAdd, Nat.reduceSub, Int.reduceAdd, Int.reduceSub, Int.reduceToNat]
      refine den_call (by (try simp (disch := omega) only [go_sem, Nat.reduceEqDiff, Nat.reduceAdd, Nat.reduceSub, Int.reduceAdd, Int.reduceSub, Int.reduceToNat]) <;> omega) (spec_l01Byte b (((c.bn b).bn b).bn b) k3) [some (0, none), some (1, none)] (by simp only [go_sem]; repeat' first | rfl | constructor) (by rfl) (run_den 400 ?_)
      simp (disch := omega) only [go_sem, Nat.reduceEqDiff, Nat.reduceAdd, Nat.reduceSub, Int.reduceAdd, Int.reduceSub, Int.reduceToNat]
      subst hr
      refine den_fin [some (0, none), some (1, none)] (by (try simp (disch := omega) only [go_sem, Nat.reduceEqDiff, Nat.reduceAdd, Nat.reduceSub, Int.reduceAdd, Int.reduceSub, Int.reduceToNat]) <;> omega) _ (by simp only [go_sem]; rfl) (by rfl) (by rfl) ?_
      simp (disch := omega) only [go_sem, Nat.reduceEqDiff, Nat.reduceAdd, Nat.reduceSub, Int.reduceAdd, Int.reduceSub, Int.reduceToNat]
theorem spec_l01Once (b : List UInt8) (c : CurD) (hc : c.ok b) (n : Int) : CallA Try.prog 19 [.sc (.pt 1 0 0), .sc (.int .i64 n)] (c.hp b) (.sc (.bo ((c.below b n).1 == 0))) ((c.below b n).2.hp b) := by
  refine callA_of Try.func19 (by kernel_rfl) rfl fun E hE => run_den 400 ?_
  simp (disch := omega) only [Try.ntmps19, Try.results19, go_sem, Nat.reduceEqDiff, Nat.reduceAdd, Nat.reduceSub, Int.reduceAdd, Int.reduceSub, Int.reduceToNat]
  refine den_call (by (try simp (disch := omega) only [go_sem, Nat.reduceEqDiff, Nat.reduceAdd, Nat.reduceSub, Int.reduceAdd, Int.reduceSub, Int.reduceToNat]) <;> omega) (spec_l01Below b c hc n) [some (0, none), some (1, none)] (by simp only [go_sem]; repeat' first | rfl | constructor) (by rfl) (run_den 400 ?_)
  simp (disch := omega) only [go_sem, Nat.reduceEqDiff, Nat.reduceAdd, Nat.reduceSub, Int.reduceAdd, Int.reduceSub, Int.reduceToNat]
  refine den_fin [some (0, none), some (1, none)] (by (try simp (disch := omega) only [go_sem, Nat.reduceEqDiff, Nat.reduceAdd, Nat.reduceSub, Int.reduceAdd, Int.reduceSub, Int.reduceToNat]) <;> omega) _ (by simp only [go_sem]; rfl) (by rfl) (by rfl) ?_
  simp (disch := omega) only [go_sem, Nat.reduceEqDiff, Nat.reduceAdd, Nat.reduceSub, Int.reduceAdd, Int.reduceSub, Int.reduceToNat]
def CurD.pick (c : CurD) (b : List UInt8) (l : List Int) : Int := l.getD (c.below b l.length).1.toNat 0
theorem spec_l01PickInt (b : List UInt8) (c : CurD) (hc : c.ok b) (l : List Int) (h0 : 0 < l.length) (hl : l.length ≤ 1000) : CallA Try.prog 21 [.sc (.pt 1 0 0), .sc (.sl 2 0 l.length)] (c.hp b ++ [some ⟨l.map intC, 1, 3, false, true⟩]) (.sc (.int .i64 (c.pick b l))) (((c.below b l.length).2.hp b) ++ [some ⟨l.map intC, 1, 3, false, true⟩]) := by
  have hb := c.below_lt b (n := (l.length : Int)) (by omega)
  have hp : c.pick b l = l.getD (c.below b l.length).1.toNat 0 := rfl
  have hk := spec_l01Below b c hc l.length
  rw [hp]
  generalize c.below b l.length = r at *
  obtain ⟨v, c1⟩ := r
  dsimp only at hb hk ⊢
  obtain ⟨k, rfl⟩ := Int.eq_ofNat_of_zero_le hb.1
  refine callA_of Try.func21 (by kernel_rfl) rfl fun E hE => run_den 400 ?_
  simp (disch := omega) only [Try.ntmps21, Try.results21, go_sem, Nat.reduceEqDiff, Nat.reduceAdd, Nat.reduceSub, Int.reduceAdd, Int.reduceSub, Int.reduceToNat]
  refine den_call (by (try simp (disch := omega) only [go_sem, Nat.reduceEqDiff, Nat.reduceAdd, Nat.reduceSub, Int.reduceAdd, Int.reduceSub, Int.reduceToNat]) <;> omega) (hk) [some (0, none), some (1, none)] (by simp only [go_sem]; repeat' first | rfl | constructor) (by rfl) (run_den 400 ?_)
  simp (disch := omega) only [go_sem, Nat.reduceEqDiff, Nat.reduceAdd, Nat.reduceSub, Int.reduceAdd, Int.reduceSub, Int.reduceToNat]
  have hlt : k < l.length := by omega
  try simp (disch := omega) only [go_sem, Nat.reduceEqDiff, Nat.reduceAdd, Nat.reduceSub, Int.reduceAdd, Int.reduceSub, Int.reduceToNat, getD_at' _ hlt]
  refine den_fin [some (0, none), some (1, none), some (2, none)] (by (try simp (disch := omega) only [go_sem, Nat.reduceEqDiff, Nat.reduceAdd, Nat.reduceSub, Int.reduceAdd, Int.reduceSub, Int.reduceToNat]) <;> omega) _ (by simp only [go_sem]; rfl) (by rfl) (by rfl) ?_
  simp (disch := omega) only [go_sem, Nat.reduceEqDiff, Nat.reduceAdd, Nat.reduceSub, Int.reduceAdd, Int.reduceSub, Int.reduceToNat]
def stepH (h : Int) (x : UInt8) : Int := and64 (IntKind.i64.wrap (IntKind.i64.wrap (IntKind.i64.wrap (h * 131) + x.toNat) + 7)) 1073741823
def newH (b : List UInt8) : Int := (b.take 4000).foldl stepH (94701 + (b.length : Int))
def newCur (b : List UInt8) : CurD := ⟨0, newH b⟩
theorem newCur_ok {b : List UInt8} (h : b.length ≤ 1048576) : (newCur b).ok b := ⟨Nat.zero_le _, h⟩
theorem newH_step {b : List UInt8} {k : Nat} {h0 : Int} (h : k < b.length) : (b.take (k + 1)).foldl stepH h0 = stepH ((b.take k).foldl stepH h0) b[k] := by
  rw [List.take_succ_eq_append_getElem h, List.foldl_append]
  rfl
theorem spec_l01New (b : List UInt8) (hb : b.length ≤ 1048576) : CallA Try.prog 17 [.sc (.sl 0 0 b.length)] [some ⟨b.map byteC, 1, 5, false, true⟩] (.sc (.pt 1 0 0)) ((newCur b).hp b) := by
  refine callA_of Try.func17 (by kernel_rfl) rfl fun E hE => run_den 400 ?_
  simp (disch := omega) only [Try.ntmps17, Try.results17, go_sem, Nat.reduceEqDiff, Nat.reduceAdd, Nat.reduceSub, Int.reduceAdd, Int.reduceSub, Int.reduceToNat]
  refine den_lp 1 hE (fun s (k : Nat) => s.at [5, 6, 7, 8, 9, 10, 11, 12, 13, 14, 15, 16, 17, 18, 19, 20, 21, 22, 23, 24, 25, 26, 27] [(4, .sc (.int .i64 (k : Nat))), (3, .sc (.int .i64 ((b.take k).foldl stepH (94701 + (b.length : Int)))))] (s.hp)) (fun (k : Nat) => k ≤ b.length ∧ k ≤ 4000) (fun (k : Nat) => b.length - k) 0 [some (0, none)] (by (try simp (disch := omega) only [go_sem, Nat.reduceEqDiff, Nat.reduceAdd, Nat.reduceSub, Int.reduceAdd, Int.reduceSub, Int.reduceToNat]) <;> omega) (⟨Nat.zero_le _, Nat.zero_le _⟩) (weak_mk (by rfl) (by rfl) ?_) fun k hk N hN => ?_
  · try simp (disch := omega) only [go_sem, Nat.reduceEqDiff, Nat.reduceAdd, Nat.reduceSub, Int.reduceAdd, Int.reduceSub, Int.reduceToNat]
    rfl
  · refine run_den 400 ?_
    try simp (disch := omega) only [go_sem, Nat.reduceEqDiff, Nat.reduceAdd, Nat.reduceSub, Int.reduceAdd, Int.reduceSub, Int.reduceToNat]
    split <;> rename_i h1 <;> (try simp only [beq_true, beq_false, Bool.not_eq_true', Bool.not_eq_false'] at h1) <;> simp (disch := omega) only [go_sem, Nat.reduceEqDiff, Nat.reduceAdd, Nat.reduceSub, Int.reduceAdd, Int.reduceSub, Int.reduceToNat, h1] <;> (try simp only [decide_eq_true_eq, decide_eq_false_iff_not, beq_iff_eq, beq_eq_false_iff_ne, bne_iff_ne, bne_eq_false_iff_eq, ne_eq, Decidable.not_not, Bool.and_eq_true, Bool.and_eq_false_iff, Bool.or_eq_true, Bool.or_eq_false_iff, Int.ofNat_lt, Int.ofNat_le, Bool.not_eq_eq_eq_not, Bool.not_true, Bool.not_false] at h1) <;> try simp (disch := omega) only [go_sem, Nat.reduceEqDiff, Nat.reduceAdd, Nat.reduceSub, Int.reduceAdd, Int.reduceSub, Int.reduceToNat]
    · split <;> rename_i h2 <;> simp only [decide_eq_true_eq, decide_eq_false_iff_not] at h2
      · simp (disch := omega) only [go_sem, byteC, ↓aInt_and, Nat.reduceEqDiff, Nat.reduceAdd, Nat.reduceSub, Int.reduceAdd, Int.reduceSub, Int.reduceToNat]
        refine ⟨by (try simp (disch := omega) only [go_sem, Nat.reduceEqDiff, Nat.reduceAdd, Nat.reduceSub, Int.reduceAdd, Int.reduceSub, Int.reduceToNat]) <;> omega, hN _ (k + 1) [some (0, none)] (by (try dsimp only); exact ⟨by omega, by omega⟩) (by (try dsimp only); omega) (weak_mk (by rfl) (by rfl) ?_)⟩
        try simp (disch := omega) only [go_sem, Nat.reduceEqDiff, Nat.reduceAdd, Nat.reduceSub, Int.reduceAdd, Int.reduceSub, Int.reduceToNat]
        rw [newH_step h1, w64 (n := (b[k].toNat : Int)) (by have := b[k].toNat_lt; omega)]
        rfl
      · have e : newH b = (b.take k).foldl stepH (94701 + (b.length : Int)) := by
          rw [newH, show k = 4000 by omega]
        try simp (disch := omega) only [go_sem, Nat.reduceEqDiff, Nat.reduceAdd, Nat.reduceSub, Int.reduceAdd, Int.reduceSub, Int.reduceToNat]
        refine den_fin [some (0, none), some (1, none)] (by (try simp (disch := omega) only [go_sem, Nat.reduceEqDiff, Nat.reduceAdd, Nat.reduceSub, Int.reduceAdd, Int.reduceSub, Int.reduceToNat]) <;> omega) _ (by simp only [go_sem]; rfl) (by rfl) (by rfl) ?_
        simp (disch := omega) only [go_sem, Nat.reduceEqDiff, Nat.reduceAdd, Nat.reduceSub, Int.reduceAdd, Int.reduceSub, Int.reduceToNat]
        rw [newCur, e]
        exact ⟨rfl, rfl⟩
    · have e : newH b = (b.take k).foldl stepH (94701 + (b.length : Int)) := by
        rw [newH, List.take_of_length_le (by omega), List.take_of_length_le (by omega)]
      refine den_fin [some (0, none), some (1, none)] (by (try simp (disch := omega) only [go_sem, Nat.reduceEqDiff, Nat.reduceAdd, Nat.reduceSub, Int.reduceAdd, Int.reduceSub, Int.reduceToNat]) <;> omega) _ (by simp only [go_sem]; rfl) (by rfl) (by rfl) ?_
      simp (disch := omega) only [go_sem, Nat.reduceEqDiff, Nat.reduceAdd, Nat.reduceSub, Int.reduceAdd, Int.reduceSub, Int.reduceToNat]
      rw [newCur, e]
      exact ⟨rfl, rfl⟩
end
section
set_option linter.unusedVariables false
def inR (n a b : Int) : Bool := decide (a ≤ n) && decide (n ≤ b)
def polOk (p : PolicyD) : Bool := if p.kind = 2 then inR p.many 1 8 else (p.kind == 1 || p.kind == 3) && p.many == 0
end
section
open Go.ChangeShapes Go.WideShapes Go.ChangeAt Go.RowKit
set_option linter.unusedVariables false

structure PiecesD where
  read : Int
  ready : List UInt8
  list : List PieceD
deriving DecidableEq, Inhabited
/-- The cells, the slices being objects o, o+1 and so on. -/
def PiecesD.cs (x : PiecesD) (o : Nat) : List Sc := [.int .i64 x.read, .st x.ready, .sl (o + 0) 0 x.list.length]
def PiecesD.hp (x : PiecesD) (own : Bool) : Hp := [some ⟨x.list.map PieceD.cs, 2, 170, own, true⟩]
/-- As they come in. -/
def PiecesD.hpL (x : PiecesD) : Hp := [some ⟨x.list.map PieceD.cs, 2, 169, false, true⟩]
def PiecesD.wf (x : PiecesD) : Prop := I64 x.read ∧ x.ready.length ≤ maxLen ∧ (∀ y ∈ x.list, PieceD.wf y) ∧ x.list.length ≤ maxLen
structure KnownD where
  keys : List Int
  tags : List TagD
deriving DecidableEq, Inhabited
/-- The cells, the slices being objects o, o+1 and so on. -/
def KnownD.cs (x : KnownD) (o : Nat) : List Sc := [.sl (o + 0) 0 x.keys.length, .sl (o + 1) 0 x.tags.length]
def KnownD.hp (x : KnownD) (own : Bool) : Hp := [some ⟨x.keys.map intC, 1, 3, own, true⟩, some ⟨x.tags.map TagD.cs, 5, 89, own, true⟩]
/-- As they come in. -/
def KnownD.hpL (x : KnownD) : Hp := [some ⟨x.keys.map intC, 1, 3, false, true⟩, some ⟨x.tags.map TagD.cs, 5, 112, false, true⟩]
def KnownD.wf (x : KnownD) : Prop := (∀ y ∈ x.keys, I64 y) ∧ (∀ y ∈ x.tags, TagD.wf y) ∧ x.keys.length ≤ maxLen ∧ x.tags.length ≤ maxLen
structure EndD where
  side : Int
  state : Int
  key : Int
  peer : Int
  policy : PolicyD
  own : List AddrD
  far : List AddrD
  subs : List SubD
  halfs : List HalfD
  bucket : BucketD
  out : OutD
  inp : PiecesD
  done : List Int
  over : List Int
  draw : Int
  now : Int
  pick : Int
deriving DecidableEq, Inhabited
/-- The cells, the slices being objects o, o+1 and so on. -/
def EndD.cs (x : EndD) (o : Nat) : List Sc := [.int .i64 x.side, .int .i64 x.state, .int .i64 x.key, .int .i64 x.peer, .int .i64 x.policy.kind, .int .i64 x.policy.many, .sl (o + 0) 0 x.own.length, .sl (o + 1) 0 x.far.length, .sl (o + 2) 0 x.subs.length, .sl (o + 3) 0 x.halfs.length, .int .i64 x.bucket.rate, .int .i64 x.bucket.burst, .int .i64 x.bucket.cur, .st x.out.text, .int .i64 x.out.base, .int .i64 x.out.sent, .int .i64 x.out.room, .int .i64 x.inp.read, .st x.inp.ready, .sl (o + 4) 0 x.inp.list.length, .sl (o + 5) 0 x.done.length, .sl (o + 6) 0 x.over.length, .int .i64 x.draw, .int .i64 x.now, .int .i64 x.pick]
def EndD.hp (x : EndD) (own : Bool) : Hp := [some ⟨x.own.map AddrD.cs, 4, 145, own, true⟩, some ⟨x.far.map AddrD.cs, 4, 145, own, true⟩, some ⟨x.subs.map SubD.cs, 10, 87, own, true⟩, some ⟨x.halfs.map HalfD.cs, 8, 153, own, true⟩, some ⟨x.inp.list.map PieceD.cs, 2, 170, own, true⟩, some ⟨x.done.map intC, 1, 3, own, true⟩, some ⟨x.over.map intC, 1, 3, own, true⟩]
/-- As they come in. -/
def EndD.hpL (x : EndD) : Hp := [some ⟨x.own.map AddrD.cs, 4, 147, false, true⟩, some ⟨x.far.map AddrD.cs, 4, 147, false, true⟩, some ⟨x.subs.map SubD.cs, 10, 151, false, true⟩, some ⟨x.halfs.map HalfD.cs, 8, 156, false, true⟩, some ⟨x.inp.list.map PieceD.cs, 2, 169, false, true⟩, some ⟨x.done.map intC, 1, 3, false, true⟩, some ⟨x.over.map intC, 1, 3, false, true⟩]
def EndD.wf (x : EndD) : Prop := I64 x.side ∧ I64 x.state ∧ I64 x.key ∧ I64 x.peer ∧ I64 x.policy.kind ∧ I64 x.policy.many ∧ I64 x.bucket.rate ∧ I64 x.bucket.burst ∧ I64 x.bucket.cur ∧ x.out.text.length ≤ maxLen ∧ I64 x.out.base ∧ I64 x.out.sent ∧ I64 x.out.room ∧ I64 x.inp.read ∧ x.inp.ready.length ≤ maxLen ∧ I64 x.draw ∧ I64 x.now ∧ I64 x.pick ∧ (∀ y ∈ x.own, AddrD.wf y) ∧ (∀ y ∈ x.far, AddrD.wf y) ∧ (∀ y ∈ x.subs, SubD.wf y) ∧ (∀ y ∈ x.halfs, HalfD.wf y) ∧ (∀ y ∈ x.inp.list, PieceD.wf y) ∧ (∀ y ∈ x.done, I64 y) ∧ (∀ y ∈ x.over, I64 y) ∧ x.own.length ≤ maxLen ∧ x.far.length ≤ maxLen ∧ x.subs.length ≤ maxLen ∧ x.halfs.length ≤ maxLen ∧ x.inp.list.length ≤ maxLen ∧ x.done.length ≤ maxLen ∧ x.over.length ≤ maxLen
attribute [go_sem] PiecesD.cs PiecesD.hp PiecesD.hpL KnownD.cs KnownD.hp KnownD.hpL EndD.cs EndD.hp EndD.hpL
end
section
open Go.ChangeShapes Go.WideShapes Go.ChangeAt Go.RowKit
set_option linter.unusedVariables false

structure WorldD where
  a : EndD
  b : EndD
  bag : List LetterD
  past : List LetterD
  wroteA : List UInt8
  wroteB : List UInt8
  readA : List UInt8
  readB : List UInt8
  known : KnownD
  nums : List Int
  answersA : List Int
  answersB : List Int
deriving DecidableEq, Inhabited
/-- The cells, the slices being objects o, o+1 and so on. -/
def WorldD.cs (x : WorldD) (o : Nat) : List Sc := [.int .i64 x.a.side, .int .i64 x.a.state, .int .i64 x.a.key, .int .i64 x.a.peer, .int .i64 x.a.policy.kind, .int .i64 x.a.policy.many, .sl (o + 0) 0 x.a.own.length, .sl (o + 1) 0 x.a.far.length, .sl (o + 2) 0 x.a.subs.length, .sl (o + 3) 0 x.a.halfs.length, .int .i64 x.a.bucket.rate, .int .i64 x.a.bucket.burst, .int .i64 x.a.bucket.cur, .st x.a.out.text, .int .i64 x.a.out.base, .int .i64 x.a.out.sent, .int .i64 x.a.out.room, .int .i64 x.a.inp.read, .st x.a.inp.ready, .sl (o + 4) 0 x.a.inp.list.length, .sl (o + 5) 0 x.a.done.length, .sl (o + 6) 0 x.a.over.length, .int .i64 x.a.draw, .int .i64 x.a.now, .int .i64 x.a.pick, .int .i64 x.b.side, .int .i64 x.b.state, .int .i64 x.b.key, .int .i64 x.b.peer, .int .i64 x.b.policy.kind, .int .i64 x.b.policy.many, .sl (o + 7) 0 x.b.own.length, .sl (o + 8) 0 x.b.far.length, .sl (o + 9) 0 x.b.subs.length, .sl (o + 10) 0 x.b.halfs.length, .int .i64 x.b.bucket.rate, .int .i64 x.b.bucket.burst, .int .i64 x.b.bucket.cur, .st x.b.out.text, .int .i64 x.b.out.base, .int .i64 x.b.out.sent, .int .i64 x.b.out.room, .int .i64 x.b.inp.read, .st x.b.inp.ready, .sl (o + 11) 0 x.b.inp.list.length, .sl (o + 12) 0 x.b.done.length, .sl (o + 13) 0 x.b.over.length, .int .i64 x.b.draw, .int .i64 x.b.now, .int .i64 x.b.pick, .sl (o + 14) 0 x.bag.length, .sl (o + 15) 0 x.past.length, .st x.wroteA, .st x.wroteB, .st x.readA, .st x.readB, .sl (o + 16) 0 x.known.keys.length, .sl (o + 17) 0 x.known.tags.length, .sl (o + 18) 0 x.nums.length, .sl (o + 19) 0 x.answersA.length, .sl (o + 20) 0 x.answersB.length]
def WorldD.hp (x : WorldD) (own : Bool) : Hp := [some ⟨x.a.own.map AddrD.cs, 4, 145, own, true⟩, some ⟨x.a.far.map AddrD.cs, 4, 145, own, true⟩, some ⟨x.a.subs.map SubD.cs, 10, 87, own, true⟩, some ⟨x.a.halfs.map HalfD.cs, 8, 153, own, true⟩, some ⟨x.a.inp.list.map PieceD.cs, 2, 170, own, true⟩, some ⟨x.a.done.map intC, 1, 3, own, true⟩, some ⟨x.a.over.map intC, 1, 3, own, true⟩, some ⟨x.b.own.map AddrD.cs, 4, 145, own, true⟩, some ⟨x.b.far.map AddrD.cs, 4, 145, own, true⟩, some ⟨x.b.subs.map SubD.cs, 10, 87, own, true⟩, some ⟨x.b.halfs.map HalfD.cs, 8, 153, own, true⟩, some ⟨x.b.inp.list.map PieceD.cs, 2, 170, own, true⟩, some ⟨x.b.done.map intC, 1, 3, own, true⟩, some ⟨x.b.over.map intC, 1, 3, own, true⟩, some ⟨x.bag.map LetterD.cs, 19, 91, own, true⟩, some ⟨x.past.map LetterD.cs, 19, 91, own, true⟩, some ⟨x.known.keys.map intC, 1, 3, own, true⟩, some ⟨x.known.tags.map TagD.cs, 5, 89, own, true⟩, some ⟨x.nums.map intC, 1, 3, own, true⟩, some ⟨x.answersA.map intC, 1, 3, own, true⟩, some ⟨x.answersB.map intC, 1, 3, own, true⟩]
/-- As they come in. -/
def WorldD.hpL (x : WorldD) : Hp := [some ⟨x.a.own.map AddrD.cs, 4, 147, false, true⟩, some ⟨x.a.far.map AddrD.cs, 4, 147, false, true⟩, some ⟨x.a.subs.map SubD.cs, 10, 151, false, true⟩, some ⟨x.a.halfs.map HalfD.cs, 8, 156, false, true⟩, some ⟨x.a.inp.list.map PieceD.cs, 2, 169, false, true⟩, some ⟨x.a.done.map intC, 1, 3, false, true⟩, some ⟨x.a.over.map intC, 1, 3, false, true⟩, some ⟨x.b.own.map AddrD.cs, 4, 147, false, true⟩, some ⟨x.b.far.map AddrD.cs, 4, 147, false, true⟩, some ⟨x.b.subs.map SubD.cs, 10, 151, false, true⟩, some ⟨x.b.halfs.map HalfD.cs, 8, 156, false, true⟩, some ⟨x.b.inp.list.map PieceD.cs, 2, 169, false, true⟩, some ⟨x.b.done.map intC, 1, 3, false, true⟩, some ⟨x.b.over.map intC, 1, 3, false, true⟩, some ⟨x.bag.map LetterD.cs, 19, 114, false, true⟩, some ⟨x.past.map LetterD.cs, 19, 114, false, true⟩, some ⟨x.known.keys.map intC, 1, 3, false, true⟩, some ⟨x.known.tags.map TagD.cs, 5, 112, false, true⟩, some ⟨x.nums.map intC, 1, 3, false, true⟩, some ⟨x.answersA.map intC, 1, 3, false, true⟩, some ⟨x.answersB.map intC, 1, 3, false, true⟩]
def WorldD.wf (x : WorldD) : Prop := I64 x.a.side ∧ I64 x.a.state ∧ I64 x.a.key ∧ I64 x.a.peer ∧ I64 x.a.policy.kind ∧ I64 x.a.policy.many ∧ I64 x.a.bucket.rate ∧ I64 x.a.bucket.burst ∧ I64 x.a.bucket.cur ∧ x.a.out.text.length ≤ maxLen ∧ I64 x.a.out.base ∧ I64 x.a.out.sent ∧ I64 x.a.out.room ∧ I64 x.a.inp.read ∧ x.a.inp.ready.length ≤ maxLen ∧ I64 x.a.draw ∧ I64 x.a.now ∧ I64 x.a.pick ∧ I64 x.b.side ∧ I64 x.b.state ∧ I64 x.b.key ∧ I64 x.b.peer ∧ I64 x.b.policy.kind ∧ I64 x.b.policy.many ∧ I64 x.b.bucket.rate ∧ I64 x.b.bucket.burst ∧ I64 x.b.bucket.cur ∧ x.b.out.text.length ≤ maxLen ∧ I64 x.b.out.base ∧ I64 x.b.out.sent ∧ I64 x.b.out.room ∧ I64 x.b.inp.read ∧ x.b.inp.ready.length ≤ maxLen ∧ I64 x.b.draw ∧ I64 x.b.now ∧ I64 x.b.pick ∧ x.wroteA.length ≤ maxLen ∧ x.wroteB.length ≤ maxLen ∧ x.readA.length ≤ maxLen ∧ x.readB.length ≤ maxLen ∧ (∀ y ∈ x.a.own, AddrD.wf y) ∧ (∀ y ∈ x.a.far, AddrD.wf y) ∧ (∀ y ∈ x.a.subs, SubD.wf y) ∧ (∀ y ∈ x.a.halfs, HalfD.wf y) ∧ (∀ y ∈ x.a.inp.list, PieceD.wf y) ∧ (∀ y ∈ x.a.done, I64 y) ∧ (∀ y ∈ x.a.over, I64 y) ∧ (∀ y ∈ x.b.own, AddrD.wf y) ∧ (∀ y ∈ x.b.far, AddrD.wf y) ∧ (∀ y ∈ x.b.subs, SubD.wf y) ∧ (∀ y ∈ x.b.halfs, HalfD.wf y) ∧ (∀ y ∈ x.b.inp.list, PieceD.wf y) ∧ (∀ y ∈ x.b.done, I64 y) ∧ (∀ y ∈ x.b.over, I64 y) ∧ (∀ y ∈ x.bag, LetterD.wf y) ∧ (∀ y ∈ x.past, LetterD.wf y) ∧ (∀ y ∈ x.known.keys, I64 y) ∧ (∀ y ∈ x.known.tags, TagD.wf y) ∧ (∀ y ∈ x.nums, I64 y) ∧ (∀ y ∈ x.answersA, I64 y) ∧ (∀ y ∈ x.answersB, I64 y) ∧ x.a.own.length ≤ maxLen ∧ x.a.far.length ≤ maxLen ∧ x.a.subs.length ≤ maxLen ∧ x.a.halfs.length ≤ maxLen ∧ x.a.inp.list.length ≤ maxLen ∧ x.a.done.length ≤ maxLen ∧ x.a.over.length ≤ maxLen ∧ x.b.own.length ≤ maxLen ∧ x.b.far.length ≤ maxLen ∧ x.b.subs.length ≤ maxLen ∧ x.b.halfs.length ≤ maxLen ∧ x.b.inp.list.length ≤ maxLen ∧ x.b.done.length ≤ maxLen ∧ x.b.over.length ≤ maxLen ∧ x.bag.length ≤ maxLen ∧ x.past.length ≤ maxLen ∧ x.known.keys.length ≤ maxLen ∧ x.known.tags.length ≤ maxLen ∧ x.nums.length ≤ maxLen ∧ x.answersA.length ≤ maxLen ∧ x.answersB.length ≤ maxLen
attribute [go_sem] WorldD.cs WorldD.hp WorldD.hpL
end
section
set_option linter.unusedVariables false
def natC (n : Nat) : List Sc := [.int .i64 (n : Int)]
attribute [go_sem] natC
def lateP (now : Int) (h : HalfD) : Bool := decide (h.till ≤ now) || decide (6 < IntKind.u64.wrap (IntKind.u64.wrap h.till - IntKind.u64.wrap now))
def fresh (e : EndD) : Bool := e.halfs.all fun h => !lateP e.now h
def inWin (x frm ticks : Int) : Bool := decide (frm ≤ x) && decide (IntKind.u64.wrap (IntKind.u64.wrap x - IntKind.u64.wrap frm) < IntKind.u64.wrap ticks)
def cntW (l : List Int) (frm ticks : Int) : Nat := (l.filter fun x => inWin x frm ticks).length
def mostGo (l : List Int) (ticks : Int) (most : Nat) : List Int → Nat
  | [] => most
  | f :: r => mostGo l ticks (max most (cntW l f ticks)) r
def mostW (l : List Int) (ticks : Int) : Nat := if inR ticks 1 1000 = true ∧ l.length ≤ 300 then mostGo l ticks 0 l else 0
theorem mostGo_step {l m : List Int} {t : Int} {most k : Nat} (h : k < m.length) : mostGo l t most (m.drop k) = mostGo l t (max most (cntW l m[k] t)) (m.drop (k + 1)) := by
  rw [List.drop_eq_getElem_cons h, mostGo]
theorem filter_take {α : Type} {p : α → Bool} {l : List α} {k : Nat} (h : k < l.length) : ((l.take (k + 1)).filter p).length = ((l.take k).filter p).length + (if p l[k] then 1 else 0) := by
  rw [List.take_succ_eq_append_getElem h, List.filter_append, List.length_append]
  by_cases hp : p l[k] <;> simp [hp]
theorem filter_take_le {α : Type} {p : α → Bool} {l : List α} {k : Nat} : ((l.take k).filter p).length ≤ l.length := by
  refine Nat.le_trans (List.length_filter_le _ _) ?_
  simp; omega
theorem cntW_le (l : List Int) (f t : Int) : cntW l f t ≤ l.length := List.length_filter_le _ _
theorem mostGo_le {l : List Int} {t : Int} : ∀ {m : List Int} {most : Nat}, most ≤ l.length → mostGo l t most m ≤ l.length
  | [], most, h => h
  | f :: r, most, h => by
    rw [mostGo]
    exact mostGo_le (by have := cntW_le l f t; omega)
theorem mostW_le (l : List Int) (t : Int) : mostW l t ≤ 300 := by
  rw [mostW]
  split
  · rename_i h
    have := mostGo_le (l := l) (t := t) (m := l) (most := 0) (Nat.zero_le _)
    omega
  · omega
def wantGo (far : List AddrD) (acc : List RoadD) : List AddrD → List RoadD
  | [] => acc
  | a :: r => wantGo far ((acc ++ far.map fun b => (⟨a.addr, b.addr, 0⟩ : RoadD)).take 8) r
def manyL (o f : Int) (n : Nat) : List RoadD := (List.range n).map fun (k : Nat) => (⟨o, f, (k : Int)⟩ : RoadD)
def addr0 (l : List AddrD) : Int := match l with
  | [] => 0
  | a :: _ => a.addr
def wanted (p : PolicyD) (own far : List AddrD) : List RoadD :=
  if polOk p = true ∧ inR own.length 1 6 = true ∧ inR far.length 1 6 = true then
    (if p.kind = 1 then wantGo far [] own else manyL (addr0 own) (addr0 far) (if p.kind = 2 then p.many.toNat else 1))
  else []
end
section
open Go.RowKit
set_option linter.unusedVariables false
set_option linter.unusedSimpArgs false
set_option maxRecDepth 10000

theorem impl_within (n a b : Int) : CallA Try.prog 22 [.sc (.int .i64 n), .sc (.int .i64 a), .sc (.int .i64 b)] [] (.sc (.bo (inR n a b))) [] := by
  refine callA_of Try.func22 (by kernel_rfl) rfl fun E hE => run_den 400 ?_
  simp (disch := omega) only [Try.ntmps22, Try.results22, go_sem, Nat.reduceEqDiff, Nat.reduceAdd, Nat.reduceSub, Int.reduceAdd, Int.reduceSub, Int.reduceToNat]
  split <;> rename_i h <;> (try simp only [beq_true, beq_false, Bool.not_eq_true', Bool.not_eq_false'] at h) <;> simp (disch := omega) only [go_sem, Nat.reduceEqDiff, Nat.reduceAdd, Nat.reduceSub, Int.reduceAdd, Int.reduceSub, Int.reduceToNat, h] <;> (try simp only [decide_eq_true_eq, decide_eq_false_iff_not, beq_iff_eq, beq_eq_false_iff_ne, bne_iff_ne, bne_eq_false_iff_eq, ne_eq, Decidable.not_not, Bool.and_eq_true, Bool.and_eq_false_iff, Bool.or_eq_true, Bool.or_eq_false_iff, Int.ofNat_lt, Int.ofNat_le, Bool.not_eq_eq_eq_not, Bool.not_true, Bool.not_false] at h) <;> try simp (disch := omega) only [go_sem, Nat.reduceEqDiff, Nat.reduceAdd, Nat.reduceSub, Int.reduceAdd, Int.reduceSub, Int.reduceToNat]
  · refine den_fin [] (trivial) _ (by simp only [go_sem]; rfl) (by rfl) (by rfl) ?_
    simp (disch := omega) only [go_sem, Nat.reduceEqDiff, Nat.reduceAdd, Nat.reduceSub, Int.reduceAdd, Int.reduceSub, Int.reduceToNat]
    simp [inR, h]
  · refine den_fin [] (trivial) _ (by simp only [go_sem]; rfl) (by rfl) (by rfl) ?_
    simp (disch := omega) only [go_sem, Nat.reduceEqDiff, Nat.reduceAdd, Nat.reduceSub, Int.reduceAdd, Int.reduceSub, Int.reduceToNat]
    simp [inR, h]
end
section
open Go.RowKit
set_option linter.unusedVariables false
set_option linter.unusedSimpArgs false
set_option maxRecDepth 20000

end
section
open Go.RowKit
set_option linter.unusedVariables false
set_option linter.unusedSimpArgs false
set_option maxRecDepth 20000

theorem max_cast (a b : Nat) : (if (a : Int) < (b : Int) then (b : Int) else (a : Int)) = ((max a b : Nat) : Int) := by
  split <;> omega
theorem impl_MostWithin (l : List Int) (t : Int) (hl : l.length ≤ 1048576) : CallA Try.prog 7 [.sc (.sl 0 0 l.length), .sc (.int .i64 t)] [some ⟨l.map intC, 1, 3, false, true⟩] (.sc (.int .i64 (mostW l t : Nat))) [some ⟨l.map intC, 1, 3, false, true⟩] := by
  refine callA_of Try.func7 (by kernel_rfl) rfl fun E hE => run_den 400 ?_
  simp (disch := omega) only [Try.ntmps7, Try.results7, go_sem, Nat.reduceEqDiff, Nat.reduceAdd, Nat.reduceSub, Int.reduceAdd, Int.reduceSub, Int.reduceToNat]
  refine den_call (by (try simp (disch := omega) only [go_sem, Nat.reduceEqDiff, Nat.reduceAdd, Nat.reduceSub, Int.reduceAdd, Int.reduceSub, Int.reduceToNat]) <;> omega) (impl_within _ _ _) [] (by simp only [go_sem]; repeat' first | rfl | constructor) (by rfl) (run_den 400 ?_)
  simp (disch := omega) only [go_sem, Nat.reduceEqDiff, Nat.reduceAdd, Nat.reduceSub, Int.reduceAdd, Int.reduceSub, Int.reduceToNat]
  split <;> rename_i h1 <;> (try simp only [beq_true, beq_false, Bool.not_eq_true', Bool.not_eq_false'] at h1) <;> simp (disch := omega) only [go_sem, Nat.reduceEqDiff, Nat.reduceAdd, Nat.reduceSub, Int.reduceAdd, Int.reduceSub, Int.reduceToNat, h1] <;> (try simp only [decide_eq_true_eq, decide_eq_false_iff_not, beq_iff_eq, beq_eq_false_iff_ne, bne_iff_ne, bne_eq_false_iff_eq, ne_eq, Decidable.not_not, Bool.and_eq_true, Bool.and_eq_false_iff, Bool.or_eq_true, Bool.or_eq_false_iff, Int.ofNat_lt, Int.ofNat_le, Bool.not_eq_eq_eq_not, Bool.not_true, Bool.not_false] at h1) <;> try simp (disch := omega) only [go_sem, Nat.reduceEqDiff, Nat.reduceAdd, Nat.reduceSub, Int.reduceAdd, Int.reduceSub, Int.reduceToNat]
  · split <;> rename_i h2 <;> (try simp only [beq_true, beq_false, Bool.not_eq_true', Bool.not_eq_false'] at h2) <;> simp (disch := omega) only [go_sem, Nat.reduceEqDiff, Nat.reduceAdd, Nat.reduceSub, Int.reduceAdd, Int.reduceSub, Int.reduceToNat, h2] <;> (try simp only [decide_eq_true_eq, decide_eq_false_iff_not, beq_iff_eq, beq_eq_false_iff_ne, bne_iff_ne, bne_eq_false_iff_eq, ne_eq, Decidable.not_not, Bool.and_eq_true, Bool.and_eq_false_iff, Bool.or_eq_true, Bool.or_eq_false_iff, Int.ofNat_lt, Int.ofNat_le, Bool.not_eq_eq_eq_not, Bool.not_true, Bool.not_false] at h2) <;> try simp (disch := omega) only [go_sem, Nat.reduceEqDiff, Nat.reduceAdd, Nat.reduceSub, Int.reduceAdd, Int.reduceSub, Int.reduceToNat]
    · refine den_fin [some (0, none)] (by (try simp (disch := omega) only [go_sem, Nat.reduceEqDiff, Nat.reduceAdd, Nat.reduceSub, Int.reduceAdd, Int.reduceSub, Int.reduceToNat]) <;> omega) _ (by simp only [go_sem]; rfl) (by rfl) (by rfl) ?_
      simp (disch := omega) only [go_sem, Nat.reduceEqDiff, Nat.reduceAdd, Nat.reduceSub, Int.reduceAdd, Int.reduceSub, Int.reduceToNat]
      rw [mostW, if_neg (by simp [inR]; omega)]
      rfl
    · have hm : mostW l t = mostGo l t 0 l := by rw [mostW, if_pos ⟨h1, by omega⟩]
      rw [hm]
      try simp (disch := omega) only [go_sem, Nat.reduceEqDiff, Nat.reduceAdd, Nat.reduceSub, Int.reduceAdd, Int.reduceSub, Int.reduceToNat]
      refine den_lp 1 hE (fun s (x : Nat × Nat) => s.at [7, 8, 10, 11, 12, 13, 14, 15, 16, 17, 18, 22, 23, 24, 25, 26, 27, 28, 29, 30, 31, 32, 33, 34, 35, 36, 37, 38, 39, 40, 41, 42, 43, 44, 45, 46, 47, 48, 49, 50] [(21, .sc (.int .i64 (x.1 : Nat))), (5, .sc (.int .i64 (x.2 : Nat)))] (s.hp)) (fun (x : Nat × Nat) => x.1 ≤ l.length ∧ x.2 ≤ l.length ∧ mostGo l t x.2 (l.drop x.1) = mostGo l t 0 l) (fun (x : Nat × Nat) => l.length - x.1) (0, 0) [some (0, none)] (by (try simp (disch := omega) only [go_sem, Nat.reduceEqDiff, Nat.reduceAdd, Nat.reduceSub, Int.reduceAdd, Int.reduceSub, Int.reduceToNat]) <;> omega) (⟨Nat.zero_le _, Nat.zero_le _, rfl⟩) (weak_mk (by rfl) (by rfl) ?_) fun x hx N hN => ?_
      · try simp (disch := omega) only [go_sem, Nat.reduceEqDiff, Nat.reduceAdd, Nat.reduceSub, Int.reduceAdd, Int.reduceSub, Int.reduceToNat]
      · obtain ⟨k, most⟩ := x
        obtain ⟨hk1, hk2, hk3⟩ := hx
        dsimp only at hk1 hk2 hk3
        refine run_den 400 ?_
        try simp (disch := omega) only [go_sem, Nat.reduceEqDiff, Nat.reduceAdd, Nat.reduceSub, Int.reduceAdd, Int.reduceSub, Int.reduceToNat]
        split <;> rename_i h3 <;> (try simp only [beq_true, beq_false, Bool.not_eq_true', Bool.not_eq_false'] at h3) <;> simp (disch := omega) only [go_sem, Nat.reduceEqDiff, Nat.reduceAdd, Nat.reduceSub, Int.reduceAdd, Int.reduceSub, Int.reduceToNat, h3] <;> (try simp only [decide_eq_true_eq, decide_eq_false_iff_not, beq_iff_eq, beq_eq_false_iff_ne, bne_iff_ne, bne_eq_false_iff_eq, ne_eq, Decidable.not_not, Bool.and_eq_true, Bool.and_eq_false_iff, Bool.or_eq_true, Bool.or_eq_false_iff, Int.ofNat_lt, Int.ofNat_le, Bool.not_eq_eq_eq_not, Bool.not_true, Bool.not_false] at h3) <;> try simp (disch := omega) only [go_sem, Nat.reduceEqDiff, Nat.reduceAdd, Nat.reduceSub, Int.reduceAdd, Int.reduceSub, Int.reduceToNat]
        · rw [mostGo_step h3] at hk3
          try simp (disch := omega) only [go_sem, Nat.reduceEqDiff, Nat.reduceAdd, Nat.reduceSub, Int.reduceAdd, Int.reduceSub, Int.reduceToNat]
          refine den_lp 1 hE (fun s (y : Nat × Nat) => s.at [10, 11, 12, 13, 14, 15, 16, 17, 18, 23, 24, 28, 29, 30, 31, 32, 33, 34, 35, 36, 37, 38, 39, 40, 41, 42, 43, 44, 45, 46, 47, 48, 49, 50] [(27, .sc (.int .i64 (y.1 : Nat))), (8, .sc (.int .i64 (y.2 : Nat)))] (s.hp)) (fun (y : Nat × Nat) => y.1 ≤ l.length ∧ y.2 = ((l.take y.1).filter fun x => inWin x l[k] t).length) (fun (y : Nat × Nat) => l.length - y.1) (0, 0) [some (0, none)] (by (try simp (disch := omega) only [go_sem, Nat.reduceEqDiff, Nat.reduceAdd, Nat.reduceSub, Int.reduceAdd, Int.reduceSub, Int.reduceToNat]) <;> omega) (⟨Nat.zero_le _, by simp⟩) (weak_mk (by rfl) (by rfl) ?_) fun y hy N2 hN2 => ?_
          · try simp (disch := omega) only [go_sem, Nat.reduceEqDiff, Nat.reduceAdd, Nat.reduceSub, Int.reduceAdd, Int.reduceSub, Int.reduceToNat]
          · obtain ⟨j, n⟩ := y
            obtain ⟨hy1, hy2⟩ := hy
            dsimp only at hy1 hy2
            have hn : n ≤ l.length := by rw [hy2]; exact filter_take_le
            refine run_den 400 ?_
            try simp (disch := omega) only [go_sem, Nat.reduceEqDiff, Nat.reduceAdd, Nat.reduceSub, Int.reduceAdd, Int.reduceSub, Int.reduceToNat]
            split <;> rename_i h4 <;> (try simp only [beq_true, beq_false, Bool.not_eq_true', Bool.not_eq_false'] at h4) <;> simp (disch := omega) only [go_sem, Nat.reduceEqDiff, Nat.reduceAdd, Nat.reduceSub, Int.reduceAdd, Int.reduceSub, Int.reduceToNat, h4] <;> (try simp only [decide_eq_true_eq, decide_eq_false_iff_not, beq_iff_eq, beq_eq_false_iff_ne, bne_iff_ne, bne_eq_false_iff_eq, ne_eq, Decidable.not_not, Bool.and_eq_true, Bool.and_eq_false_iff, Bool.or_eq_true, Bool.or_eq_false_iff, Int.ofNat_lt, Int.ofNat_le, Bool.not_eq_eq_eq_not, Bool.not_true, Bool.not_false] at h4) <;> try simp (disch := omega) only [go_sem, Nat.reduceEqDiff, Nat.reduceAdd, Nat.reduceSub, Int.reduceAdd, Int.reduceSub, Int.reduceToNat]
            · have hs := filter_take (p := fun x => inWin x l[k] t) h4
              try simp (disch := omega) only [go_sem, Nat.reduceEqDiff, Nat.reduceAdd, Nat.reduceSub, Int.reduceAdd, Int.reduceSub, Int.reduceToNat]
              split <;> rename_i h5 <;> (try simp only [beq_true, beq_false, Bool.not_eq_true', Bool.not_eq_false'] at h5) <;> simp (disch := omega) only [go_sem, Nat.reduceEqDiff, Nat.reduceAdd, Nat.reduceSub, Int.reduceAdd, Int.reduceSub, Int.reduceToNat, h5] <;> (try simp only [decide_eq_true_eq, decide_eq_false_iff_not, beq_iff_eq, beq_eq_false_iff_ne, bne_iff_ne, bne_eq_false_iff_eq, ne_eq, Decidable.not_not, Bool.and_eq_true, Bool.and_eq_false_iff, Bool.or_eq_true, Bool.or_eq_false_iff, Int.ofNat_lt, Int.ofNat_le, Bool.not_eq_eq_eq_not, Bool.not_true, Bool.not_false] at h5) <;> try simp (disch := omega) only [go_sem, Nat.reduceEqDiff, Nat.reduceAdd, Nat.reduceSub, Int.reduceAdd, Int.reduceSub, Int.reduceToNat]
              · split <;> rename_i h6 <;> (try simp only [beq_true, beq_false, Bool.not_eq_true', Bool.not_eq_false'] at h6) <;> simp (disch := omega) only [go_sem, Nat.reduceEqDiff, Nat.reduceAdd, Nat.reduceSub, Int.reduceAdd, Int.reduceSub, Int.reduceToNat, h6] <;> (try simp only [decide_eq_true_eq, decide_eq_false_iff_not, beq_iff_eq, beq_eq_false_iff_ne, bne_iff_ne, bne_eq_false_iff_eq, ne_eq, Decidable.not_not, Bool.and_eq_true, Bool.and_eq_false_iff, Bool.or_eq_true, Bool.or_eq_false_iff, Int.ofNat_lt, Int.ofNat_le, Bool.not_eq_eq_eq_not, Bool.not_true, Bool.not_false] at h6) <;> try simp (disch := omega) only [go_sem, Nat.reduceEqDiff, Nat.reduceAdd, Nat.reduceSub, Int.reduceAdd, Int.reduceSub, Int.reduceToNat]
                · have hp : inWin l[j] l[k] t = true := by simp [inWin, h5, h6]
                  rw [hp, if_pos rfl, ← hy2] at hs
                  refine ⟨by (try simp (disch := omega) only [go_sem, Nat.reduceEqDiff, Nat.reduceAdd, Nat.reduceSub, Int.reduceAdd, Int.reduceSub, Int.reduceToNat]) <;> omega, hN2 _ (j + 1, n + 1) [some (0, none)] (by (try dsimp only); exact ⟨by omega, hs.symm⟩) (by (try dsimp only); omega) (weak_mk (by rfl) (by rfl) ?_)⟩
                  try simp (disch := omega) only [go_sem, Nat.reduceEqDiff, Nat.reduceAdd, Nat.reduceSub, Int.reduceAdd, Int.reduceSub, Int.reduceToNat]
                · have hp : inWin l[j] l[k] t = false := by simp [inWin, h5]; omega
                  rw [hp, if_neg (by simp), ← hy2] at hs
                  refine ⟨by (try simp (disch := omega) only [go_sem, Nat.reduceEqDiff, Nat.reduceAdd, Nat.reduceSub, Int.reduceAdd, Int.reduceSub, Int.reduceToNat]) <;> omega, hN2 _ (j + 1, n) [some (0, none)] (by (try dsimp only); exact ⟨by omega, hs.symm⟩) (by (try dsimp only); omega) (weak_mk (by rfl) (by rfl) ?_)⟩
                  try simp (disch := omega) only [go_sem, Nat.reduceEqDiff, Nat.reduceAdd, Nat.reduceSub, Int.reduceAdd, Int.reduceSub, Int.reduceToNat]
              · have hp : inWin l[j] l[k] t = false := by simp [inWin]; omega
                rw [hp, if_neg (by simp), ← hy2] at hs
                refine ⟨by (try simp (disch := omega) only [go_sem, Nat.reduceEqDiff, Nat.reduceAdd, Nat.reduceSub, Int.reduceAdd, Int.reduceSub, Int.reduceToNat]) <;> omega, hN2 _ (j + 1, n) [some (0, none)] (by (try dsimp only); exact ⟨by omega, hs.symm⟩) (by (try dsimp only); omega) (weak_mk (by rfl) (by rfl) ?_)⟩
                try simp (disch := omega) only [go_sem, Nat.reduceEqDiff, Nat.reduceAdd, Nat.reduceSub, Int.reduceAdd, Int.reduceSub, Int.reduceToNat]
            · have hj : j = l.length := by omega
              subst hj
              rw [List.take_length] at hy2
              rw [show cntW l l[k] t = n from hy2.symm] at hk3
              try simp (disch := omega) only [go_sem, Nat.reduceEqDiff, Nat.reduceAdd, Nat.reduceSub, Int.reduceAdd, Int.reduceSub, Int.reduceToNat]
              refine ⟨by (try simp (disch := omega) only [go_sem, Nat.reduceEqDiff, Nat.reduceAdd, Nat.reduceSub, Int.reduceAdd, Int.reduceSub, Int.reduceToNat]) <;> omega, hN _ (k + 1, max most n) [some (0, none)] (by (try dsimp only); exact ⟨by omega, by omega, hk3⟩) (by (try dsimp only); omega) (weak_mk (by rfl) (by rfl) ?_)⟩
              try simp (disch := omega) only [go_sem, Nat.reduceEqDiff, Nat.reduceAdd, Nat.reduceSub, Int.reduceAdd, Int.reduceSub, Int.reduceToNat, max_cast]
        · rw [List.drop_eq_nil_of_le (by omega), mostGo] at hk3
          refine den_fin [some (0, none)] (by (try simp (disch := omega) only [go_sem, Nat.reduceEqDiff, Nat.reduceAdd, Nat.reduceSub, Int.reduceAdd, Int.reduceSub, Int.reduceToNat]) <;> omega) _ (by simp only [go_sem]; rfl) (by rfl) (by rfl) ?_
          simp (disch := omega) only [go_sem, Nat.reduceEqDiff, Nat.reduceAdd, Nat.reduceSub, Int.reduceAdd, Int.reduceSub, Int.reduceToNat]
          rw [hk3]
  · refine den_fin [some (0, none)] (by (try simp (disch := omega) only [go_sem, Nat.reduceEqDiff, Nat.reduceAdd, Nat.reduceSub, Int.reduceAdd, Int.reduceSub, Int.reduceToNat]) <;> omega) _ (by simp only [go_sem]; rfl) (by rfl) (by rfl) ?_
    simp (disch := omega) only [go_sem, Nat.reduceEqDiff, Nat.reduceAdd, Nat.reduceSub, Int.reduceAdd, Int.reduceSub, Int.reduceToNat]
    rw [mostW, if_neg (by simp [h1])]
    rfl
end
section
set_option linter.unusedVariables false
def cntP (l : List Int) (a t : Int) : Nat := (l.filter fun x => decide (a ≤ x) && decide (x < a + t)).length
theorem inWin_eq {x f t : Int} (hx : -100000 ≤ x ∧ x ≤ 100000) (hf : -100000 ≤ f ∧ f ≤ 100000) (ht : 1 ≤ t ∧ t ≤ 1000) : inWin x f t = (decide (f ≤ x) && decide (x < f + t)) := by
  rw [inWin]
  by_cases h : f ≤ x
  · have e : IntKind.u64.wrap (IntKind.u64.wrap x - IntKind.u64.wrap f) = x - f := by
      simp only [IntKind.wrap_u64]; omega
    have e2 : IntKind.u64.wrap t = t := by rw [IntKind.wrap_u64]; omega
    rw [e, e2]
    congr 1
    exact decide_eq_decide.2 ⟨fun h => by omega, fun h => by omega⟩
  · simp [h]
theorem cntW_eq {l : List Int} {f t : Int} (hl : ∀ x ∈ l, 0 ≤ x ∧ x ≤ 110) (hf : -100000 ≤ f ∧ f ≤ 100000) (ht : 1 ≤ t ∧ t ≤ 1000) : cntW l f t = cntP l f t := by
  rw [cntW, cntP]
  congr 1
  refine List.filter_congr fun x hx => ?_
  have := hl x hx
  exact inWin_eq (by omega) hf ht
theorem mostGo_ge {l : List Int} {t : Int} : ∀ {r : List Int} {m : Nat}, m ≤ mostGo l t m r ∧ ∀ f ∈ r, cntW l f t ≤ mostGo l t m r
  | [], m => ⟨Nat.le_refl _, fun f h => by simp at h⟩
  | g :: r, m => by
    rw [mostGo]
    obtain ⟨h1, h2⟩ := mostGo_ge (l := l) (t := t) (r := r) (m := max m (cntW l g t))
    refine ⟨by omega, fun f hf => ?_⟩
    rcases List.mem_cons.1 hf with rfl | hf
    · omega
    · exact h2 f hf
theorem mostGo_is {l : List Int} {t : Int} : ∀ {r : List Int} {m : Nat}, mostGo l t m r = m ∨ ∃ f ∈ r, mostGo l t m r = cntW l f t
  | [], m => .inl rfl
  | g :: r, m => by
    rw [mostGo]
    rcases mostGo_is (l := l) (t := t) (r := r) (m := max m (cntW l g t)) with h | ⟨f, hf, h⟩
    · by_cases hm : cntW l g t ≤ m
      · left; omega
      · right; exact ⟨g, by simp, by omega⟩
    · right; exact ⟨f, by simp [hf], h⟩
theorem exists_min : ∀ {l : List Int}, l ≠ [] → ∃ m ∈ l, ∀ y ∈ l, m ≤ y
  | [], h => absurd rfl h
  | [x], _ => ⟨x, by simp, by simp⟩
  | x :: y :: r, _ => by
    obtain ⟨m, hm, hy⟩ := exists_min (l := y :: r) (by simp)
    by_cases h : x ≤ m
    · refine ⟨x, by simp, fun z hz => ?_⟩
      rcases List.mem_cons.1 hz with rfl | hz
      · omega
      · have := hy z hz; omega
    · refine ⟨m, List.mem_cons_of_mem _ hm, fun z hz => ?_⟩
      rcases List.mem_cons.1 hz with rfl | hz
      · omega
      · exact hy z hz
theorem mostW_is {l : List Int} {t : Int} (ht : 1 ≤ t ∧ t ≤ 1000) (hn : l.length ≤ 300) : mostW l t = mostGo l t 0 l := by
  rw [mostW, if_pos ⟨by simp [inR]; omega, hn⟩]
theorem mostW_not {l : List Int} {t : Int} (h : ¬ (1 ≤ t ∧ t ≤ 1000 ∧ l.length ≤ 300)) : mostW l t = 0 := by
  rw [mostW, if_neg]
  rintro ⟨h1, h2⟩
  simp [inR] at h1
  omega
/-- No window has more. -/
theorem mostW_ge {l : List Int} {t a : Int} (hl : ∀ x ∈ l, 0 ≤ x ∧ x ≤ 110) (ht : 1 ≤ t ∧ t ≤ 1000) (hn : l.length ≤ 300) : cntP l a t ≤ mostW l t := by
  rw [mostW_is ht hn]
  by_cases he : (l.filter fun x => decide (a ≤ x) && decide (x < a + t)) = []
  · rw [cntP, he]; simp
  · obtain ⟨m, hm, hy⟩ := exists_min he
    simp only [List.mem_filter, Bool.and_eq_true, decide_eq_true_eq] at hm hy
    obtain ⟨hml, h1, h2⟩ := hm
    have hb := hl m hml
    refine Nat.le_trans ?_ ((mostGo_ge (l := l) (t := t) (r := l) (m := 0)).2 m hml)
    rw [cntW_eq hl (by omega) ht, cntP, cntP, ← List.countP_eq_length_filter, ← List.countP_eq_length_filter]
    refine List.countP_mono_left fun x hx hp => ?_
    simp only [Bool.and_eq_true, decide_eq_true_eq] at hp ⊢
    have := hy x ⟨hx, hp⟩
    omega
/-- A window has as many. -/
theorem mostW_met {l : List Int} {t : Int} (hl : ∀ x ∈ l, 0 ≤ x ∧ x ≤ 110) (ht : 1 ≤ t ∧ t ≤ 1000) (hn : l.length ≤ 300) (h0 : l ≠ []) : ∃ f, 0 ≤ f ∧ f ≤ 110 ∧ cntP l f t = mostW l t := by
  rw [mostW_is ht hn]
  have key : ∀ f ∈ l, cntW l f t = cntP l f t := fun f hf => cntW_eq hl (by have := hl f hf; omega) ht
  rcases mostGo_is (l := l) (t := t) (r := l) (m := 0) with h | ⟨f, hf, h⟩
  · cases l with
    | nil => exact absurd rfl h0
    | cons x r =>
      have hx := hl x (by simp)
      have h2 := (mostGo_ge (l := x :: r) (t := t) (r := x :: r) (m := 0)).2 x (by simp)
      rw [key x (by simp), h] at h2
      exact ⟨x, hx.1, hx.2, by omega⟩
  · have hx := hl f hf
    exact ⟨f, hx.1, hx.2, by rw [h, key f hf]⟩
theorem mostW_two : mostW [5, 5] 1 = 2 := by decide
end
section
open Go.RowKit
set_option linter.unusedVariables false
set_option linter.unusedSimpArgs false
set_option maxRecDepth 20000

theorem CurD.pick_mem (c : CurD) (b : List UInt8) {l : List Int} (h : 0 < l.length) : c.pick b l ∈ l := by
  have hb := c.below_lt b (n := (l.length : Int)) (by omega)
  rw [CurD.pick, List.getD_eq_getElem?_getD, List.getElem?_eq_getElem (by omega)]
  exact List.getElem_mem _
def stepsL : List Int := [0, 0, 1, 1, 2, 5]
def l26Go (b : List UInt8) : Nat → Nat → Int → List Int → CurD → List Int × CurD
  | 0, _, _, acc, c => (acc, c)
  | f + 1, i, n, acc, c => if (i : Int) < (c.below b 20).1 then l26Go b f (i + 1) (n + (c.below b 20).2.pick b stepsL) (acc ++ [n]) ((c.below b 20).2.below b 6).2 else (acc, (c.below b 20).2)
theorem steps_mem {x : Int} (h : x ∈ stepsL) : 0 ≤ x ∧ x ≤ 5 := by
  simp only [stepsL, List.mem_cons, List.not_mem_nil, or_false] at h
  omega
theorem l26Go_inv (b : List UInt8) : ∀ (f i : Nat) (n : Int) (acc : List Int) (c : CurD), c.ok b → i ≤ 20 → 0 ≤ n ∧ n ≤ 4 + 5 * i → acc.length = i → (∀ x ∈ acc, 0 ≤ x ∧ x ≤ 104) →
    (l26Go b f i n acc c).2.ok b ∧ (l26Go b f i n acc c).1.length ≤ 20 ∧ ∀ x ∈ (l26Go b f i n acc c).1, 0 ≤ x ∧ x ≤ 104
  | 0, i, n, acc, c, hc, hi, hn, ha, hx => ⟨hc, by simp only [l26Go]; omega, hx⟩
  | f + 1, i, n, acc, c, hc, hi, hn, ha, hx => by
    rw [l26Go]
    have h1 := CurD.below_ok hc 20
    have h2 := c.below_lt b (n := 20) (by omega)
    split
    · rename_i h
      have h3 := steps_mem ((c.below b 20).2.pick_mem b (l := stepsL) (by decide))
      refine l26Go_inv b f (i + 1) _ _ _ (CurD.below_ok h1 6) (by omega) (by omega) (by simp [ha]) fun x hm => ?_
      rcases List.mem_append.1 hm with hm | hm
      · exact hx x hm
      · simp at hm; subst hm; omega
    · exact ⟨h1, by show acc.length ≤ 20; omega, hx⟩
theorem spec_l26List (b : List UInt8) (c : CurD) (hc : c.ok b) : ∃ (l : List Int) (c' : CurD), c'.ok b ∧ l.length ≤ 20 ∧ (∀ x ∈ l, 0 ≤ x ∧ x ≤ 104) ∧
    CallA Try.prog 18 [.sc (.pt 1 0 0)] (c.hp b) (.sc (.sl 2 0 l.length)) (c'.hp b ++ [some ⟨l.map intC, 1, 3, true, true⟩]) := by
  have h5 := spec_l01Below b c hc 5
  have o5 := CurD.below_ok hc 5
  have b5 := c.below_lt b (n := 5) (by omega)
  generalize c.below b 5 = r5 at h5 o5 b5
  obtain ⟨n0, c1⟩ := r5
  dsimp only at h5 o5 b5
  have hinv := l26Go_inv b 21 0 n0 [] c1 o5 (by omega) (by omega) rfl (by simp)
  obtain ⟨R, hR⟩ : ∃ R, l26Go b 21 0 n0 [] c1 = R := ⟨_, rfl⟩
  rw [hR] at hinv
  refine ⟨R.1, R.2, hinv.1, hinv.2.1, hinv.2.2, ?_⟩
  refine callA_of Try.func18 (by kernel_rfl) rfl fun E hE => run_den 400 ?_
  simp (disch := omega) only [Try.ntmps18, Try.results18, go_sem, Nat.reduceEqDiff, Nat.reduceAdd, Nat.reduceSub, Int.reduceAdd, Int.reduceSub, Int.reduceToNat]
  refine den_call (by (try simp (disch := omega) only [go_sem, Nat.reduceEqDiff, Nat.reduceAdd, Nat.reduceSub, Int.reduceAdd, Int.reduceSub, Int.reduceToNat]) <;> omega) (h5) [some (0, none), some (1, none)] (by simp only [go_sem]; repeat' first | rfl | constructor) (by rfl) (run_den 400 ?_)
  simp (disch := omega) only [go_sem, Nat.reduceEqDiff, Nat.reduceAdd, Nat.reduceSub, Int.reduceAdd, Int.reduceSub, Int.reduceToNat]
  refine den_lp 2 hE (fun s (x : Nat × Int × List Int × CurD) => s.at [6, 7, 8, 9, 10, 11, 12, 13, 14, 15, 16, 17, 18, 19, 20, 21, 22, 23] [(3, .sc (.sl 2 0 x.2.2.1.length)), (4, .sc (.int .i64 x.2.1)), (5, .sc (.int .i64 (x.1 : Nat)))] (x.2.2.2.hp b ++ [some ⟨x.2.2.1.map intC, 1, 3, true, true⟩])) (fun (x : Nat × Int × List Int × CurD) => x.1 ≤ 20 ∧ x.2.2.2.ok b ∧ x.2.2.1.length = x.1 ∧ 0 ≤ x.2.1 ∧ x.2.1 ≤ 4 + 5 * x.1 ∧ l26Go b (21 - x.1) x.1 x.2.1 x.2.2.1 x.2.2.2 = R) (fun (x : Nat × Int × List Int × CurD) => 20 - x.1) (0, n0, [], c1) [some (0, none), some (1, none), some (2, none)] (by (try simp (disch := omega) only [go_sem, Nat.reduceEqDiff, Nat.reduceAdd, Nat.reduceSub, Int.reduceAdd, Int.reduceSub, Int.reduceToNat]) <;> omega) (⟨Nat.zero_le _, o5, rfl, b5.1, by dsimp only; omega, hR⟩) (weak_mk (by rfl) (by rfl) ?_) fun x hx N hN => ?_
  · try simp (disch := omega) only [go_sem, Nat.reduceEqDiff, Nat.reduceAdd, Nat.reduceSub, Int.reduceAdd, Int.reduceSub, Int.reduceToNat]
  · obtain ⟨i, n, acc, c⟩ := x
    obtain ⟨hi, hok, hl, hn0, hn1, hx⟩ := hx
    dsimp only at hi hok hl hn0 hn1 hx
    have h20 := spec_l01Below b c hok 20
    have o20 := CurD.below_ok hok 20
    have b20 := c.below_lt b (n := 20) (by omega)
    rw [show 21 - i = (20 - i) + 1 from by omega, l26Go] at hx
    generalize c.below b 20 = r20 at h20 o20 b20 hx
    obtain ⟨m, c2⟩ := r20
    dsimp only at h20 o20 b20 hx
    refine run_den 400 ?_
    try simp (disch := omega) only [go_sem, Nat.reduceEqDiff, Nat.reduceAdd, Nat.reduceSub, Int.reduceAdd, Int.reduceSub, Int.reduceToNat]
    refine den_call (by (try simp (disch := omega) only [go_sem, Nat.reduceEqDiff, Nat.reduceAdd, Nat.reduceSub, Int.reduceAdd, Int.reduceSub, Int.reduceToNat]) <;> omega) (h20) [some (0, none), some (1, none)] (by simp only [go_sem]; repeat' first | rfl | constructor) (by rfl) (run_den 400 ?_)
    simp (disch := omega) only [go_sem, Nat.reduceEqDiff, Nat.reduceAdd, Nat.reduceSub, Int.reduceAdd, Int.reduceSub, Int.reduceToNat]
    split <;> rename_i h <;> (try simp only [beq_true, beq_false, Bool.not_eq_true', Bool.not_eq_false'] at h) <;> simp (disch := omega) only [go_sem, Nat.reduceEqDiff, Nat.reduceAdd, Nat.reduceSub, Int.reduceAdd, Int.reduceSub, Int.reduceToNat, h] <;> (try simp only [decide_eq_true_eq, decide_eq_false_iff_not, beq_iff_eq, beq_eq_false_iff_ne, bne_iff_ne, bne_eq_false_iff_eq, ne_eq, Decidable.not_not, Bool.and_eq_true, Bool.and_eq_false_iff, Bool.or_eq_true, Bool.or_eq_false_iff, Int.ofNat_lt, Int.ofNat_le, Bool.not_eq_eq_eq_not, Bool.not_true, Bool.not_false] at h) <;> try simp (disch := omega) only [go_sem, Nat.reduceEqDiff, Nat.reduceAdd, Nat.reduceSub, Int.reduceAdd, Int.reduceSub, Int.reduceToNat]
    · rw [if_pos h] at hx
      have hp := spec_l01PickInt b c2 o20 stepsL (by decide) (by decide)
      have o6 := CurD.below_ok o20 (b := b) 6
      have hs := steps_mem (c2.pick_mem b (l := stepsL) (by decide))
      rw [show (stepsL.length : Int) = 6 from rfl] at hp
      generalize c2.pick b stepsL = p at hp hs hx
      generalize c2.below b 6 = r6 at hp hx o6
      obtain ⟨q, c3⟩ := r6
      dsimp only at hp hx o6
      refine den_call (by (try simp (disch := omega) only [go_sem, Nat.reduceEqDiff, Nat.reduceAdd, Nat.reduceSub, Int.reduceAdd, Int.reduceSub, Int.reduceToNat]) <;> omega) (hp) [some (0, none), some (1, none), some (5, none)] (by simp only [go_sem]; repeat' first | rfl | constructor) (by rfl) (run_den 400 ?_)
      simp (disch := omega) only [go_sem, Nat.reduceEqDiff, Nat.reduceAdd, Nat.reduceSub, Int.reduceAdd, Int.reduceSub, Int.reduceToNat]
      refine ⟨by (try simp (disch := omega) only [go_sem, Nat.reduceEqDiff, Nat.reduceAdd, Nat.reduceSub, Int.reduceAdd, Int.reduceSub, Int.reduceToNat]) <;> omega, hN _ (i + 1, n + p, acc ++ [n], c3) [some (0, none), some (1, none), some (4, none)] (by (try dsimp only); exact ⟨by omega, o6, by simp [hl], by omega, by omega, by rw [show 21 - (i + 1) = 20 - i from by omega]; exact hx⟩) (by (try dsimp only); omega) (weak_mk (by rfl) (by rfl) ?_)⟩
      try simp (disch := omega) only [go_sem, Nat.reduceEqDiff, Nat.reduceAdd, Nat.reduceSub, Int.reduceAdd, Int.reduceSub, Int.reduceToNat]
      simp [intC]
    · rw [if_neg h] at hx
      subst hx
      refine den_fin [some (0, none), some (1, none), some (2, none)] (by (try simp (disch := omega) only [go_sem, Nat.reduceEqDiff, Nat.reduceAdd, Nat.reduceSub, Int.reduceAdd, Int.reduceSub, Int.reduceToNat]) <;> omega) _ (by simp only [go_sem]; rfl) (by rfl) (by rfl) ?_
      simp (disch := omega) only [go_sem, Nat.reduceEqDiff, Nat.reduceAdd, Nat.reduceSub, Int.reduceAdd, Int.reduceSub, Int.reduceToNat]
def fillGo (b : List UInt8) : Nat → List Int → CurD → List Int × CurD
  | 0, acc, c => (acc, c)
  | f + 1, acc, c => if (acc.length : Int) < 300 + (c.below b 2).1 then fillGo b f (acc ++ [7]) (c.below b 2).2 else (acc, (c.below b 2).2)
theorem fillGo_inv (b : List UInt8) : ∀ (f : Nat) (acc : List Int) (c : CurD), c.ok b → acc.length ≤ 301 → (∀ x ∈ acc, 0 ≤ x ∧ x ≤ 104) →
    (fillGo b f acc c).2.ok b ∧ (fillGo b f acc c).1.length ≤ 301 ∧ ∀ x ∈ (fillGo b f acc c).1, 0 ≤ x ∧ x ≤ 104
  | 0, acc, c, hc, ha, hx => ⟨hc, ha, hx⟩
  | f + 1, acc, c, hc, ha, hx => by
    rw [fillGo]
    have h1 := CurD.below_ok hc 2
    have h2 := c.below_lt b (n := 2) (by omega)
    split
    · rename_i h
      refine fillGo_inv b f _ _ h1 (by simp; omega) fun x hm => ?_
      rcases List.mem_append.1 hm with hm | hm
      · exact hx x hm
      · simp at hm; subst hm; omega
    · exact ⟨h1, ha, hx⟩
def ticksL : List Int := [1, 2, 3, 10, 1000, 0, 1001]
theorem spec_DrawMostWithin (b : List UInt8) (hb : b.length ≤ 1048576) : ∃ (l : List Int) (t : Int), l.length ≤ 301 ∧ (∀ x ∈ l, 0 ≤ x ∧ x ≤ 104) ∧ (0 ≤ t ∧ t ≤ 1001) ∧
    CallA Try.prog 6 [.sc (.sl 0 0 b.length)] [some ⟨b.map byteC, 1, 5, false, true⟩] (.tu [.sc (.sl 1 0 l.length), .sc (.int .i64 t)]) [some ⟨b.map byteC, 1, 5, false, true⟩, some ⟨l.map intC, 1, 3, true, true⟩] := by
  obtain ⟨l, c1, o1, hl, hx, hcall⟩ := spec_l26List b (newCur b) (newCur_ok hb)
  have h20 := spec_l01Once b c1 o1 20
  have o20 := CurD.below_ok (b := b) o1 20
  generalize c1.below b 20 = r20 at h20 o20
  obtain ⟨m, c2⟩ := r20
  dsimp only at h20 o20
  have hmem : ∀ {x : Int}, x ∈ ticksL → 0 ≤ x ∧ x ≤ 1001 := fun h => by
    simp only [ticksL, List.mem_cons, List.not_mem_nil, or_false] at h
    omega
  by_cases hm : m = 0
  · have hinv := fillGo_inv b 302 l c2 o20 (by omega) hx
    obtain ⟨R, hR⟩ : ∃ R, fillGo b 302 l c2 = R := ⟨_, rfl⟩
    rw [hR] at hinv
    have hp := spec_l01PickInt b R.2 hinv.1 ticksL (by decide) (by decide)
    refine ⟨R.1, R.2.pick b ticksL, hinv.2.1, hinv.2.2, hmem (R.2.pick_mem b (by decide)), ?_⟩
    subst hm
    refine callA_of Try.func6 (by kernel_rfl) rfl fun E hE => run_den 400 ?_
    simp (disch := omega) only [Try.ntmps6, Try.results6, go_sem, Nat.reduceEqDiff, Nat.reduceAdd, Nat.reduceSub, Int.reduceAdd, Int.reduceSub, Int.reduceToNat]
    refine den_call (by (try simp (disch := omega) only [go_sem, Nat.reduceEqDiff, Nat.reduceAdd, Nat.reduceSub, Int.reduceAdd, Int.reduceSub, Int.reduceToNat]) <;> omega) (spec_l01New b hb) [some (0, none)] (by simp only [go_sem]; repeat' first | rfl | constructor) (by rfl) (run_den 400 ?_)
    simp (disch := omega) only [go_sem, Nat.reduceEqDiff, Nat.reduceAdd, Nat.reduceSub, Int.reduceAdd, Int.reduceSub, Int.reduceToNat]
    refine den_call (by (try simp (disch := omega) only [go_sem, Nat.reduceEqDiff, Nat.reduceAdd, Nat.reduceSub, Int.reduceAdd, Int.reduceSub, Int.reduceToNat]) <;> omega) (hcall) [some (0, none), some (1, none)] (by simp only [go_sem]; repeat' first | rfl | constructor) (by rfl) (run_den 400 ?_)
    simp (disch := omega) only [go_sem, Nat.reduceEqDiff, Nat.reduceAdd, Nat.reduceSub, Int.reduceAdd, Int.reduceSub, Int.reduceToNat]
    refine den_call (by (try simp (disch := omega) only [go_sem, Nat.reduceEqDiff, Nat.reduceAdd, Nat.reduceSub, Int.reduceAdd, Int.reduceSub, Int.reduceToNat]) <;> omega) (h20) [some (0, none), some (1, none)] (by simp only [go_sem]; repeat' first | rfl | constructor) (by rfl) (run_den 400 ?_)
    simp (disch := omega) only [go_sem, Nat.reduceEqDiff, Nat.reduceAdd, Nat.reduceSub, Int.reduceAdd, Int.reduceSub, Int.reduceToNat]
    refine den_lp 1 hE (fun s (x : List Int × CurD) => s.at [0, 6, 7, 8, 9, 10, 11, 12, 13, 14, 15, 16, 17, 18, 19, 20] [(5, .sc (.sl 2 0 x.1.length))] (x.2.hp b ++ [some ⟨x.1.map intC, 1, 3, true, true⟩])) (fun (x : List Int × CurD) => x.1.length ≤ 301 ∧ x.2.ok b ∧ ∃ f, 302 - x.1.length ≤ f ∧ fillGo b f x.1 x.2 = R) (fun (x : List Int × CurD) => 302 - x.1.length) (l, c2) [some (0, none), some (1, none), some (2, none)] (by (try simp (disch := omega) only [go_sem, Nat.reduceEqDiff, Nat.reduceAdd, Nat.reduceSub, Int.reduceAdd, Int.reduceSub, Int.reduceToNat]) <;> omega) (⟨by dsimp only; omega, o20, 302, by dsimp only; omega, hR⟩) (weak_mk (by rfl) (by rfl) ?_) fun x hx N hN => ?_
    · try simp (disch := omega) only [go_sem, Nat.reduceEqDiff, Nat.reduceAdd, Nat.reduceSub, Int.reduceAdd, Int.reduceSub, Int.reduceToNat]
    · obtain ⟨acc, c⟩ := x
      obtain ⟨ha, hok, f, hf, hx⟩ := hx
      dsimp only at ha hok hf hx
      obtain ⟨f, rfl⟩ : ∃ g, f = g + 1 := ⟨f - 1, by omega⟩
      have h2 := spec_l01Below b c hok 2
      have o2 := CurD.below_ok hok 2
      have b2 := c.below_lt b (n := 2) (by omega)
      rw [fillGo] at hx
      generalize c.below b 2 = r2 at h2 o2 b2 hx
      obtain ⟨v, c3⟩ := r2
      dsimp only at h2 o2 b2 hx
      refine run_den 400 ?_
      try simp (disch := omega) only [go_sem, Nat.reduceEqDiff, Nat.reduceAdd, Nat.reduceSub, Int.reduceAdd, Int.reduceSub, Int.reduceToNat]
      refine den_call (by (try simp (disch := omega) only [go_sem, Nat.reduceEqDiff, Nat.reduceAdd, Nat.reduceSub, Int.reduceAdd, Int.reduceSub, Int.reduceToNat]) <;> omega) (h2) [some (0, none), some (1, none)] (by simp only [go_sem]; repeat' first | rfl | constructor) (by rfl) (run_den 400 ?_)
      simp (disch := omega) only [go_sem, Nat.reduceEqDiff, Nat.reduceAdd, Nat.reduceSub, Int.reduceAdd, Int.reduceSub, Int.reduceToNat]
      split <;> rename_i h <;> (try simp only [beq_true, beq_false, Bool.not_eq_true', Bool.not_eq_false'] at h) <;> simp (disch := omega) only [go_sem, Nat.reduceEqDiff, Nat.reduceAdd, Nat.reduceSub, Int.reduceAdd, Int.reduceSub, Int.reduceToNat, h] <;> (try simp only [decide_eq_true_eq, decide_eq_false_iff_not, beq_iff_eq, beq_eq_false_iff_ne, bne_iff_ne, bne_eq_false_iff_eq, ne_eq, Decidable.not_not, Bool.and_eq_true, Bool.and_eq_false_iff, Bool.or_eq_true, Bool.or_eq_false_iff, Int.ofNat_lt, Int.ofNat_le, Bool.not_eq_eq_eq_not, Bool.not_true, Bool.not_false] at h) <;> try simp (disch := omega) only [go_sem, Nat.reduceEqDiff, Nat.reduceAdd, Nat.reduceSub, Int.reduceAdd, Int.reduceSub, Int.reduceToNat]
      · rw [if_pos h] at hx
        refine ⟨by (try simp (disch := omega) only [go_sem, Nat.reduceEqDiff, Nat.reduceAdd, Nat.reduceSub, Int.reduceAdd, Int.reduceSub, Int.reduceToNat]) <;> omega, hN _ (acc ++ [7], c3) [some (0, none), some (1, none), some (4, none)] (by (try dsimp only); exact ⟨by simp; omega, o2, f, by simp; omega, hx⟩) (by simp; omega) (weak_mk (by rfl) (by rfl) ?_)⟩
        try simp (disch := omega) only [go_sem, Nat.reduceEqDiff, Nat.reduceAdd, Nat.reduceSub, Int.reduceAdd, Int.reduceSub, Int.reduceToNat]
        simp [intC]
      · rw [if_neg h] at hx
        subst hx
        refine den_call (by (try simp (disch := omega) only [go_sem, Nat.reduceEqDiff, Nat.reduceAdd, Nat.reduceSub, Int.reduceAdd, Int.reduceSub, Int.reduceToNat]) <;> omega) (hp) [some (0, none), some (1, none), some (3, none)] (by simp only [go_sem]; repeat' first | rfl | constructor) (by rfl) (run_den 400 ?_)
        simp (disch := omega) only [go_sem, Nat.reduceEqDiff, Nat.reduceAdd, Nat.reduceSub, Int.reduceAdd, Int.reduceSub, Int.reduceToNat]
        refine den_fin [some (0, none), some (2, none)] (by (try simp (disch := omega) only [go_sem, Nat.reduceEqDiff, Nat.reduceAdd, Nat.reduceSub, Int.reduceAdd, Int.reduceSub, Int.reduceToNat]) <;> omega) _ (by simp only [go_sem]; rfl) (by rfl) (by rfl) ?_
        simp (disch := omega) only [go_sem, Nat.reduceEqDiff, Nat.reduceAdd, Nat.reduceSub, Int.reduceAdd, Int.reduceSub, Int.reduceToNat]
  · have hp := spec_l01PickInt b c2 o20 ticksL (by decide) (by decide)
    refine ⟨l, c2.pick b ticksL, by omega, hx, hmem (c2.pick_mem b (by decide)), ?_⟩
    have hm' : (m == 0) = false := by simpa using hm
    rw [hm'] at h20
    refine callA_of Try.func6 (by kernel_rfl) rfl fun E hE => run_den 400 ?_
    simp (disch := omega) only [Try.ntmps6, Try.results6, go_sem, Nat.reduceEqDiff, Nat.reduceAdd, Nat.reduceSub, Int.reduceAdd, Int.reduceSub, Int.reduceToNat]
    refine den_call (by (try simp (disch := omega) only [go_sem, Nat.reduceEqDiff, Nat.reduceAdd, Nat.reduceSub, Int.reduceAdd, Int.reduceSub, Int.reduceToNat]) <;> omega) (spec_l01New b hb) [some (0, none)] (by simp only [go_sem]; repeat' first | rfl | constructor) (by rfl) (run_den 400 ?_)
    simp (disch := omega) only [go_sem, Nat.reduceEqDiff, Nat.reduceAdd, Nat.reduceSub, Int.reduceAdd, Int.reduceSub, Int.reduceToNat]
    refine den_call (by (try simp (disch := omega) only [go_sem, Nat.reduceEqDiff, Nat.reduceAdd, Nat.reduceSub, Int.reduceAdd, Int.reduceSub, Int.reduceToNat]) <;> omega) (hcall) [some (0, none), some (1, none)] (by simp only [go_sem]; repeat' first | rfl | constructor) (by rfl) (run_den 400 ?_)
    simp (disch := omega) only [go_sem, Nat.reduceEqDiff, Nat.reduceAdd, Nat.reduceSub, Int.reduceAdd, Int.reduceSub, Int.reduceToNat]
    refine den_call (by (try simp (disch := omega) only [go_sem, Nat.reduceEqDiff, Nat.reduceAdd, Nat.reduceSub, Int.reduceAdd, Int.reduceSub, Int.reduceToNat]) <;> omega) (h20) [some (0, none), some (1, none)] (by simp only [go_sem]; repeat' first | rfl | constructor) (by rfl) (run_den 400 ?_)
    simp (disch := omega) only [go_sem, Nat.reduceEqDiff, Nat.reduceAdd, Nat.reduceSub, Int.reduceAdd, Int.reduceSub, Int.reduceToNat]
    refine den_call (by (try simp (disch := omega) only [go_sem, Nat.reduceEqDiff, Nat.reduceAdd, Nat.reduceSub, Int.reduceAdd, Int.reduceSub, Int.reduceToNat]) <;> omega) (hp) [some (0, none), some (1, none), some (3, none)] (by simp only [go_sem]; repeat' first | rfl | constructor) (by rfl) (run_den 400 ?_)
    simp (disch := omega) only [go_sem, Nat.reduceEqDiff, Nat.reduceAdd, Nat.reduceSub, Int.reduceAdd, Int.reduceSub, Int.reduceToNat]
    refine den_fin [some (0, none), some (2, none)] (by (try simp (disch := omega) only [go_sem, Nat.reduceEqDiff, Nat.reduceAdd, Nat.reduceSub, Int.reduceAdd, Int.reduceSub, Int.reduceToNat]) <;> omega) _ (by simp only [go_sem]; rfl) (by rfl) (by rfl) ?_
    simp (disch := omega) only [go_sem, Nat.reduceEqDiff, Nat.reduceAdd, Nat.reduceSub, Int.reduceAdd, Int.reduceSub, Int.reduceToNat]
theorem laws_big (b : List UInt8) (hl : b.length ≤ maxLen) : CallA Try.prog 5 [.sc (.sl 0 0 b.length)] [some ⟨b.map byteC, 1, 5, false, true⟩] (.sc (.bo (decide (1048576 < b.length)))) [some ⟨b.map byteC, 1, 5, false, true⟩] := by
  refine callA_of Try.func5 (by kernel_rfl) rfl fun E hE => run_den 400 ?_
  simp (disch := omega) only [Try.ntmps5, Try.results5, go_sem, Nat.reduceEqDiff, Nat.reduceAdd, Nat.reduceSub, Int.reduceAdd, Int.reduceSub, Int.reduceToNat]
  refine den_fin [some (0, none)] (by (try simp (disch := omega) only [go_sem, Nat.reduceEqDiff, Nat.reduceAdd, Nat.reduceSub, Int.reduceAdd, Int.reduceSub, Int.reduceToNat]) <;> omega) _ (by simp only [go_sem]; rfl) (by rfl) (by rfl) ?_
  simp (disch := omega) only [go_sem, Nat.reduceEqDiff, Nat.reduceAdd, Nat.reduceSub, Int.reduceAdd, Int.reduceSub, Int.reduceToNat]
  simp
  omega
theorem cntP_step {l : List Int} {a t : Int} {k : Nat} (h : k < l.length) : cntP (l.take (k + 1)) a t = cntP (l.take k) a t + (if decide (a ≤ l[k]) && decide (l[k] < a + t) then 1 else 0) := filter_take h
theorem cntP_le {l : List Int} {a t : Int} {k : Nat} : cntP (l.take k) a t ≤ l.length := filter_take_le
def metB (l : List Int) (t : Int) (n : Nat) (j : Nat) : Bool := decide (l.length = 0) || (List.range j).any fun i => cntP l ((i : Int) - 1) t == n
theorem len0 (n : Nat) : ((n : Int) == 0) = decide (n = 0) := by
  rw [Bool.eq_iff_iff]
  simp
theorem metB_step (l : List Int) (t : Int) (n : Nat) (j : Nat) : metB l t n (j + 1) = (metB l t n j || cntP l ((j : Int) - 1) t == n) := by
  simp [metB, List.range_succ, Bool.or_assoc]
theorem metB_all {l : List Int} {t : Int} (hl : ∀ x ∈ l, 0 ≤ x ∧ x ≤ 104) (ht : 1 ≤ t ∧ t ≤ 1000) (hn : l.length ≤ 300) : metB l t (mostW l t) 121 = true := by
  by_cases h0 : l = []
  · subst h0; rfl
  · obtain ⟨f, h1, h2, h3⟩ := mostW_met (l := l) (t := t) (fun x hx => by have := hl x hx; omega) ht hn h0
    simp only [metB, Bool.or_eq_true, List.any_eq_true, List.mem_range, beq_iff_eq]
    refine .inr ⟨(f + 1).toNat, by omega, ?_⟩
    rw [show (((f + 1).toNat : Nat) : Int) - 1 = f from by omega]
    exact h3
theorem law_Most (b : List UInt8) (hb : b.length ≤ maxLen) (_ : ∀ x ∈ b, True) : CallA Try.prog 3 [.sc (.sl 0 0 b.length)] [some ⟨b.map byteC, 1, 5, false, true⟩] (.sc (.bo true)) [some ⟨b.map byteC, 1, 5, false, true⟩] := by
  refine callA_of Try.func3 (by kernel_rfl) rfl fun E hE => run_den 400 ?_
  simp (disch := omega) only [Try.ntmps3, Try.results3, go_sem, Nat.reduceEqDiff, Nat.reduceAdd, Nat.reduceSub, Int.reduceAdd, Int.reduceSub, Int.reduceToNat]
  refine den_call (by (try simp (disch := omega) only [go_sem, Nat.reduceEqDiff, Nat.reduceAdd, Nat.reduceSub, Int.reduceAdd, Int.reduceSub, Int.reduceToNat]) <;> omega) (laws_big b hb) [some (0, none)] (by simp only [go_sem]; repeat' first | rfl | constructor) (by rfl) (run_den 400 ?_)
  simp (disch := omega) only [go_sem, Nat.reduceEqDiff, Nat.reduceAdd, Nat.reduceSub, Int.reduceAdd, Int.reduceSub, Int.reduceToNat]
  split <;> rename_i h <;> (try simp only [beq_true, beq_false, Bool.not_eq_true', Bool.not_eq_false'] at h) <;> simp (disch := omega) only [go_sem, Nat.reduceEqDiff, Nat.reduceAdd, Nat.reduceSub, Int.reduceAdd, Int.reduceSub, Int.reduceToNat, h] <;> (try simp only [decide_eq_true_eq, decide_eq_false_iff_not, beq_iff_eq, beq_eq_false_iff_ne, bne_iff_ne, bne_eq_false_iff_eq, ne_eq, Decidable.not_not, Bool.and_eq_true, Bool.and_eq_false_iff, Bool.or_eq_true, Bool.or_eq_false_iff, Int.ofNat_lt, Int.ofNat_le, Bool.not_eq_eq_eq_not, Bool.not_true, Bool.not_false] at h) <;> try simp (disch := omega) only [go_sem, Nat.reduceEqDiff, Nat.reduceAdd, Nat.reduceSub, Int.reduceAdd, Int.reduceSub, Int.reduceToNat]
  · refine den_fin [some (0, none)] (by (try simp (disch := omega) only [go_sem, Nat.reduceEqDiff, Nat.reduceAdd, Nat.reduceSub, Int.reduceAdd, Int.reduceSub, Int.reduceToNat]) <;> omega) _ (by simp only [go_sem]; rfl) (by rfl) (by rfl) ?_
    simp (disch := omega) only [go_sem, Nat.reduceEqDiff, Nat.reduceAdd, Nat.reduceSub, Int.reduceAdd, Int.reduceSub, Int.reduceToNat]
  · obtain ⟨l, t, hl, hx, ht, hcall⟩ := spec_DrawMostWithin b (by omega)
    have two := impl_MostWithin [5, 5] 1 (by decide)
    rw [mostW_two] at two
    have hle := mostW_le l t
    refine den_call (by (try simp (disch := omega) only [go_sem, Nat.reduceEqDiff, Nat.reduceAdd, Nat.reduceSub, Int.reduceAdd, Int.reduceSub, Int.reduceToNat]) <;> omega) (hcall) [some (0, none)] (by simp only [go_sem]; repeat' first | rfl | constructor) (by rfl) (run_den 400 ?_)
    simp (disch := omega) only [go_sem, Nat.reduceEqDiff, Nat.reduceAdd, Nat.reduceSub, Int.reduceAdd, Int.reduceSub, Int.reduceToNat]
    refine den_call (by (try simp (disch := omega) only [go_sem, Nat.reduceEqDiff, Nat.reduceAdd, Nat.reduceSub, Int.reduceAdd, Int.reduceSub, Int.reduceToNat]) <;> omega) (impl_MostWithin l t (by omega)) [some (1, none)] (by simp only [go_sem]; repeat' first | rfl | constructor) (by rfl) (run_den 400 ?_)
    simp (disch := omega) only [go_sem, Nat.reduceEqDiff, Nat.reduceAdd, Nat.reduceSub, Int.reduceAdd, Int.reduceSub, Int.reduceToNat]
    split <;> rename_i h1 <;> (try simp only [beq_true, beq_false, Bool.not_eq_true', Bool.not_eq_false'] at h1) <;> simp (disch := omega) only [go_sem, Nat.reduceEqDiff, Nat.reduceAdd, Nat.reduceSub, Int.reduceAdd, Int.reduceSub, Int.reduceToNat, h1] <;> (try simp only [decide_eq_true_eq, decide_eq_false_iff_not, beq_iff_eq, beq_eq_false_iff_ne, bne_iff_ne, bne_eq_false_iff_eq, ne_eq, Decidable.not_not, Bool.and_eq_true, Bool.and_eq_false_iff, Bool.or_eq_true, Bool.or_eq_false_iff, Int.ofNat_lt, Int.ofNat_le, Bool.not_eq_eq_eq_not, Bool.not_true, Bool.not_false] at h1) <;> try simp (disch := omega) only [go_sem, Nat.reduceEqDiff, Nat.reduceAdd, Nat.reduceSub, Int.reduceAdd, Int.reduceSub, Int.reduceToNat]
    · split <;> rename_i h2 <;> (try simp only [beq_true, beq_false, Bool.not_eq_true', Bool.not_eq_false'] at h2) <;> simp (disch := omega) only [go_sem, Nat.reduceEqDiff, Nat.reduceAdd, Nat.reduceSub, Int.reduceAdd, Int.reduceSub, Int.reduceToNat, h2] <;> (try simp only [decide_eq_true_eq, decide_eq_false_iff_not, beq_iff_eq, beq_eq_false_iff_ne, bne_iff_ne, bne_eq_false_iff_eq, ne_eq, Decidable.not_not, Bool.and_eq_true, Bool.and_eq_false_iff, Bool.or_eq_true, Bool.or_eq_false_iff, Int.ofNat_lt, Int.ofNat_le, Bool.not_eq_eq_eq_not, Bool.not_true, Bool.not_false] at h2) <;> try simp (disch := omega) only [go_sem, Nat.reduceEqDiff, Nat.reduceAdd, Nat.reduceSub, Int.reduceAdd, Int.reduceSub, Int.reduceToNat]
      · split <;> rename_i h3 <;> (try simp only [beq_true, beq_false, Bool.not_eq_true', Bool.not_eq_false'] at h3) <;> simp (disch := omega) only [go_sem, Nat.reduceEqDiff, Nat.reduceAdd, Nat.reduceSub, Int.reduceAdd, Int.reduceSub, Int.reduceToNat, h3] <;> (try simp only [decide_eq_true_eq, decide_eq_false_iff_not, beq_iff_eq, beq_eq_false_iff_ne, bne_iff_ne, bne_eq_false_iff_eq, ne_eq, Decidable.not_not, Bool.and_eq_true, Bool.and_eq_false_iff, Bool.or_eq_true, Bool.or_eq_false_iff, Int.ofNat_lt, Int.ofNat_le, Bool.not_eq_eq_eq_not, Bool.not_true, Bool.not_false] at h3) <;> try simp (disch := omega) only [go_sem, Nat.reduceEqDiff, Nat.reduceAdd, Nat.reduceSub, Int.reduceAdd, Int.reduceSub, Int.reduceToNat]
        · have hm : mostW l t = 0 := mostW_not (by omega)
          rw [hm]
          try simp (disch := omega) only [go_sem, Nat.reduceEqDiff, Nat.reduceAdd, Nat.reduceSub, Int.reduceAdd, Int.reduceSub, Int.reduceToNat]
          refine den_call (by (try simp (disch := omega) only [go_sem, Nat.reduceEqDiff, Nat.reduceAdd, Nat.reduceSub, Int.reduceAdd, Int.reduceSub, Int.reduceToNat]) <;> omega) (two) [some (2, none)] (by simp only [go_sem]; repeat' first | rfl | constructor) (by rfl) (run_den 400 ?_)
          simp (disch := omega) only [go_sem, Nat.reduceEqDiff, Nat.reduceAdd, Nat.reduceSub, Int.reduceAdd, Int.reduceSub, Int.reduceToNat]
          refine den_fin [some (0, none)] (by (try simp (disch := omega) only [go_sem, Nat.reduceEqDiff, Nat.reduceAdd, Nat.reduceSub, Int.reduceAdd, Int.reduceSub, Int.reduceToNat]) <;> omega) _ (by simp only [go_sem]; rfl) (by rfl) (by rfl) ?_
          simp (disch := omega) only [go_sem, Nat.reduceEqDiff, Nat.reduceAdd, Nat.reduceSub, Int.reduceAdd, Int.reduceSub, Int.reduceToNat]
        · have ht' : 1 ≤ t ∧ t ≤ 1000 := by omega
          have hn' : l.length ≤ 300 := by omega
          have hge := fun a => mostW_ge (a := a) (l := l) (t := t) (fun x hm => by have := hx x hm; omega) ht' hn'
          have hmet := metB_all hx ht' hn'
          generalize mostW l t = n at *
          try simp (disch := omega) only [go_sem, Nat.reduceEqDiff, Nat.reduceAdd, Nat.reduceSub, Int.reduceAdd, Int.reduceSub, Int.reduceToNat]
          refine den_lp 1 hE (fun s (j : Nat) => s.at [0, 2, 8, 9, 10, 11, 12, 13, 14, 15, 16, 17, 18, 19, 20, 21, 22, 23, 24, 25, 26, 27, 28, 29, 30, 31, 32, 33, 34, 35, 36, 37, 38, 39, 40, 41, 42, 43, 44, 45, 46, 47, 48, 49, 50, 51, 52, 53, 54, 55, 56, 57, 58, 59, 60, 61, 62, 63, 64, 65, 66, 67, 68, 69, 70, 71, 72, 73, 74, 75, 76, 77] [(6, .sc (.bo (metB l t n j))), (7, .sc (.int .i64 ((j : Int) - 1)))] (s.hp)) (fun (j : Nat) => j ≤ 121) (fun (j : Nat) => 121 - j) 0 [some (0, none), some (1, none)] (by (try simp (disch := omega) only [go_sem, Nat.reduceEqDiff, Nat.reduceAdd, Nat.reduceSub, Int.reduceAdd, Int.reduceSub, Int.reduceToNat]) <;> omega) (Nat.zero_le _) (weak_mk (by rfl) (by rfl) ?_) fun j hj N hN => ?_
          · try simp (disch := omega) only [go_sem, Nat.reduceEqDiff, Nat.reduceAdd, Nat.reduceSub, Int.reduceAdd, Int.reduceSub, Int.reduceToNat]
            simp only [metB, List.range_zero, List.any_nil, Bool.or_false, len0]
          · refine run_den 400 ?_
            try simp (disch := omega) only [go_sem, Nat.reduceEqDiff, Nat.reduceAdd, Nat.reduceSub, Int.reduceAdd, Int.reduceSub, Int.reduceToNat]
            split <;> rename_i h4 <;> (try simp only [beq_true, beq_false, Bool.not_eq_true', Bool.not_eq_false'] at h4) <;> simp (disch := omega) only [go_sem, Nat.reduceEqDiff, Nat.reduceAdd, Nat.reduceSub, Int.reduceAdd, Int.reduceSub, Int.reduceToNat, h4] <;> (try simp only [decide_eq_true_eq, decide_eq_false_iff_not, beq_iff_eq, beq_eq_false_iff_ne, bne_iff_ne, bne_eq_false_iff_eq, ne_eq, Decidable.not_not, Bool.and_eq_true, Bool.and_eq_false_iff, Bool.or_eq_true, Bool.or_eq_false_iff, Int.ofNat_lt, Int.ofNat_le, Bool.not_eq_eq_eq_not, Bool.not_true, Bool.not_false] at h4) <;> try simp (disch := omega) only [go_sem, Nat.reduceEqDiff, Nat.reduceAdd, Nat.reduceSub, Int.reduceAdd, Int.reduceSub, Int.reduceToNat]
            · try simp (disch := omega) only [go_sem, Nat.reduceEqDiff, Nat.reduceAdd, Nat.reduceSub, Int.reduceAdd, Int.reduceSub, Int.reduceToNat]
              refine den_lp 1 hE (fun s (i : Nat) => s.at [0, 10, 11, 12, 13, 14, 15, 16, 17, 18, 19, 20, 21, 22, 23, 24, 25, 26, 27, 28, 29, 30, 31, 32, 33, 34, 35, 36, 37, 38, 39, 40, 41, 43, 44, 45, 46, 47, 48, 49, 50, 51, 52, 53, 54, 55, 56, 57, 58, 59, 60, 61, 62, 63, 64, 65, 66, 67, 68, 69, 70, 72, 73, 74, 75, 76, 77] [(8, .sc (.int .i64 (cntP (l.take i) ((j : Int) - 1) t : Nat))), (9, .sc (.int .i64 (i : Nat)))] (s.hp)) (fun (i : Nat) => i ≤ l.length) (fun (i : Nat) => l.length - i) 0 [some (0, none), some (1, none)] (by (try simp (disch := omega) only [go_sem, Nat.reduceEqDiff, Nat.reduceAdd, Nat.reduceSub, Int.reduceAdd, Int.reduceSub, Int.reduceToNat]) <;> omega) (Nat.zero_le _) (weak_mk (by rfl) (by rfl) ?_) fun i hi N2 hN2 => ?_
              · try simp (disch := omega) only [go_sem, Nat.reduceEqDiff, Nat.reduceAdd, Nat.reduceSub, Int.reduceAdd, Int.reduceSub, Int.reduceToNat]
                simp [cntP]
              · refine run_den 400 ?_
                try simp (disch := omega) only [go_sem, Nat.reduceEqDiff, Nat.reduceAdd, Nat.reduceSub, Int.reduceAdd, Int.reduceSub, Int.reduceToNat]
                have hcl := cntP_le (l := l) (a := (j : Int) - 1) (t := t) (k := i)
                split <;> rename_i h5 <;> (try simp only [beq_true, beq_false, Bool.not_eq_true', Bool.not_eq_false'] at h5) <;> simp (disch := omega) only [go_sem, Nat.reduceEqDiff, Nat.reduceAdd, Nat.reduceSub, Int.reduceAdd, Int.reduceSub, Int.reduceToNat, h5] <;> (try simp only [decide_eq_true_eq, decide_eq_false_iff_not, beq_iff_eq, beq_eq_false_iff_ne, bne_iff_ne, bne_eq_false_iff_eq, ne_eq, Decidable.not_not, Bool.and_eq_true, Bool.and_eq_false_iff, Bool.or_eq_true, Bool.or_eq_false_iff, Int.ofNat_lt, Int.ofNat_le, Bool.not_eq_eq_eq_not, Bool.not_true, Bool.not_false] at h5) <;> try simp (disch := omega) only [go_sem, Nat.reduceEqDiff, Nat.reduceAdd, Nat.reduceSub, Int.reduceAdd, Int.reduceSub, Int.reduceToNat]
                · have hs := cntP_step (a := (j : Int) - 1) (t := t) h5
                  have hb5 := hx l[i] (List.getElem_mem h5)
                  split <;> rename_i h6 <;> (try simp only [beq_true, beq_false, Bool.not_eq_true', Bool.not_eq_false'] at h6) <;> simp (disch := omega) only [go_sem, Nat.reduceEqDiff, Nat.reduceAdd, Nat.reduceSub, Int.reduceAdd, Int.reduceSub, Int.reduceToNat, h6] <;> (try simp only [decide_eq_true_eq, decide_eq_false_iff_not, beq_iff_eq, beq_eq_false_iff_ne, bne_iff_ne, bne_eq_false_iff_eq, ne_eq, Decidable.not_not, Bool.and_eq_true, Bool.and_eq_false_iff, Bool.or_eq_true, Bool.or_eq_false_iff, Int.ofNat_lt, Int.ofNat_le, Bool.not_eq_eq_eq_not, Bool.not_true, Bool.not_false] at h6) <;> try simp (disch := omega) only [go_sem, Nat.reduceEqDiff, Nat.reduceAdd, Nat.reduceSub, Int.reduceAdd, Int.reduceSub, Int.reduceToNat]
                  · split <;> rename_i h7 <;> (try simp only [beq_true, beq_false, Bool.not_eq_true', Bool.not_eq_false'] at h7) <;> simp (disch := omega) only [go_sem, Nat.reduceEqDiff, Nat.reduceAdd, Nat.reduceSub, Int.reduceAdd, Int.reduceSub, Int.reduceToNat, h7] <;> (try simp only [decide_eq_true_eq, decide_eq_false_iff_not, beq_iff_eq, beq_eq_false_iff_ne, bne_iff_ne, bne_eq_false_iff_eq, ne_eq, Decidable.not_not, Bool.and_eq_true, Bool.and_eq_false_iff, Bool.or_eq_true, Bool.or_eq_false_iff, Int.ofNat_lt, Int.ofNat_le, Bool.not_eq_eq_eq_not, Bool.not_true, Bool.not_false] at h7) <;> try simp (disch := omega) only [go_sem, Nat.reduceEqDiff, Nat.reduceAdd, Nat.reduceSub, Int.reduceAdd, Int.reduceSub, Int.reduceToNat]
                    · rw [if_pos (by simp; omega)] at hs
                      refine ⟨by (try simp (disch := omega) only [go_sem, Nat.reduceEqDiff, Nat.reduceAdd, Nat.reduceSub, Int.reduceAdd, Int.reduceSub, Int.reduceToNat]) <;> omega, hN2 _ (i + 1) [some (0, none), some (1, none)] (by (try dsimp only); exact h5) (by (try dsimp only); omega) (weak_mk (by rfl) (by rfl) ?_)⟩
                      try simp (disch := omega) only [go_sem, Nat.reduceEqDiff, Nat.reduceAdd, Nat.reduceSub, Int.reduceAdd, Int.reduceSub, Int.reduceToNat]
                      rw [hs]
                      try simp (disch := omega) only [go_sem, Nat.reduceEqDiff, Nat.reduceAdd, Nat.reduceSub, Int.reduceAdd, Int.reduceSub, Int.reduceToNat]
                    · rw [if_neg (by simp; omega)] at hs
                      refine ⟨by (try simp (disch := omega) only [go_sem, Nat.reduceEqDiff, Nat.reduceAdd, Nat.reduceSub, Int.reduceAdd, Int.reduceSub, Int.reduceToNat]) <;> omega, hN2 _ (i + 1) [some (0, none), some (1, none)] (by (try dsimp only); exact h5) (by (try dsimp only); omega) (weak_mk (by rfl) (by rfl) ?_)⟩
                      try simp (disch := omega) only [go_sem, Nat.reduceEqDiff, Nat.reduceAdd, Nat.reduceSub, Int.reduceAdd, Int.reduceSub, Int.reduceToNat]
                      rw [hs]
                      rfl
                  · rw [if_neg (by simp; omega)] at hs
                    refine ⟨by (try simp (disch := omega) only [go_sem, Nat.reduceEqDiff, Nat.reduceAdd, Nat.reduceSub, Int.reduceAdd, Int.reduceSub, Int.reduceToNat]) <;> omega, hN2 _ (i + 1) [some (0, none), some (1, none)] (by (try dsimp only); exact h5) (by (try dsimp only); omega) (weak_mk (by rfl) (by rfl) ?_)⟩
                    try simp (disch := omega) only [go_sem, Nat.reduceEqDiff, Nat.reduceAdd, Nat.reduceSub, Int.reduceAdd, Int.reduceSub, Int.reduceToNat]
                    rw [hs]
                    rfl
                · have e : i = l.length := by omega
                  subst e
                  rw [List.take_length]
                  have hg := hge ((j : Int) - 1)
                  have hms := metB_step l t n j
                  generalize cntP l ((j : Int) - 1) t = kk at *
                  try simp (disch := omega) only [go_sem, Nat.reduceEqDiff, Nat.reduceAdd, Nat.reduceSub, Int.reduceAdd, Int.reduceSub, Int.reduceToNat]
                  split <;> rename_i h6 <;> (try simp only [beq_true, beq_false, Bool.not_eq_true', Bool.not_eq_false'] at h6) <;> simp (disch := omega) only [go_sem, Nat.reduceEqDiff, Nat.reduceAdd, Nat.reduceSub, Int.reduceAdd, Int.reduceSub, Int.reduceToNat, h6] <;> (try simp only [decide_eq_true_eq, decide_eq_false_iff_not, beq_iff_eq, beq_eq_false_iff_ne, bne_iff_ne, bne_eq_false_iff_eq, ne_eq, Decidable.not_not, Bool.and_eq_true, Bool.and_eq_false_iff, Bool.or_eq_true, Bool.or_eq_false_iff, Int.ofNat_lt, Int.ofNat_le, Bool.not_eq_eq_eq_not, Bool.not_true, Bool.not_false] at h6) <;> try simp (disch := omega) only [go_sem, Nat.reduceEqDiff, Nat.reduceAdd, Nat.reduceSub, Int.reduceAdd, Int.reduceSub, Int.reduceToNat]
                  · have e2 : metB l t n (j + 1) = (kk == n) := by rw [hms, h6]; rfl
                    refine ⟨by (try simp (disch := omega) only [go_sem, Nat.reduceEqDiff, Nat.reduceAdd, Nat.reduceSub, Int.reduceAdd, Int.reduceSub, Int.reduceToNat]) <;> omega, hN _ (j + 1) [some (0, none), some (1, none)] (by (try dsimp only); exact by omega) (by (try dsimp only); omega) (weak_mk (by rfl) (by rfl) ?_)⟩
                    try simp (disch := omega) only [go_sem, Nat.reduceEqDiff, Nat.reduceAdd, Nat.reduceSub, Int.reduceAdd, Int.reduceSub, Int.reduceToNat]
                    rw [e2]
                    refine ⟨?_, by omega⟩
                    rw [Bool.eq_iff_iff]
                    simp
                    omega
                  · have e2 : metB l t n (j + 1) = true := by rw [hms, h6]; rfl
                    refine ⟨by (try simp (disch := omega) only [go_sem, Nat.reduceEqDiff, Nat.reduceAdd, Nat.reduceSub, Int.reduceAdd, Int.reduceSub, Int.reduceToNat]) <;> omega, hN _ (j + 1) [some (0, none), some (1, none)] (by (try dsimp only); exact by omega) (by (try dsimp only); omega) (weak_mk (by rfl) (by rfl) ?_)⟩
                    try simp (disch := omega) only [go_sem, Nat.reduceEqDiff, Nat.reduceAdd, Nat.reduceSub, Int.reduceAdd, Int.reduceSub, Int.reduceToNat]
                    rw [e2]
                    exact ⟨rfl, by omega⟩
            · have e : j = 121 := by omega
              subst e
              rw [hmet]
              try simp (disch := omega) only [go_sem, Nat.reduceEqDiff, Nat.reduceAdd, Nat.reduceSub, Int.reduceAdd, Int.reduceSub, Int.reduceToNat]
              refine den_call (by (try simp (disch := omega) only [go_sem, Nat.reduceEqDiff, Nat.reduceAdd, Nat.reduceSub, Int.reduceAdd, Int.reduceSub, Int.reduceToNat]) <;> omega) (two) [some (2, none)] (by simp only [go_sem]; repeat' first | rfl | constructor) (by rfl) (run_den 400 ?_)
              simp (disch := omega) only [go_sem, Nat.reduceEqDiff, Nat.reduceAdd, Nat.reduceSub, Int.reduceAdd, Int.reduceSub, Int.reduceToNat]
              refine den_fin [some (0, none)] (by (try simp (disch := omega) only [go_sem, Nat.reduceEqDiff, Nat.reduceAdd, Nat.reduceSub, Int.reduceAdd, Int.reduceSub, Int.reduceToNat]) <;> omega) _ (by simp only [go_sem]; rfl) (by rfl) (by rfl) ?_
              simp (disch := omega) only [go_sem, Nat.reduceEqDiff, Nat.reduceAdd, Nat.reduceSub, Int.reduceAdd, Int.reduceSub, Int.reduceToNat]
      · have hm : mostW l t = 0 := mostW_not (by omega)
        rw [hm]
        try simp (disch := omega) only [go_sem, Nat.reduceEqDiff, Nat.reduceAdd, Nat.reduceSub, Int.reduceAdd, Int.reduceSub, Int.reduceToNat]
        refine den_call (by (try simp (disch := omega) only [go_sem, Nat.reduceEqDiff, Nat.reduceAdd, Nat.reduceSub, Int.reduceAdd, Int.reduceSub, Int.reduceToNat]) <;> omega) (two) [some (2, none)] (by simp only [go_sem]; repeat' first | rfl | constructor) (by rfl) (run_den 400 ?_)
        simp (disch := omega) only [go_sem, Nat.reduceEqDiff, Nat.reduceAdd, Nat.reduceSub, Int.reduceAdd, Int.reduceSub, Int.reduceToNat]
        refine den_fin [some (0, none)] (by (try simp (disch := omega) only [go_sem, Nat.reduceEqDiff, Nat.reduceAdd, Nat.reduceSub, Int.reduceAdd, Int.reduceSub, Int.reduceToNat]) <;> omega) _ (by simp only [go_sem]; rfl) (by rfl) (by rfl) ?_
        simp (disch := omega) only [go_sem, Nat.reduceEqDiff, Nat.reduceAdd, Nat.reduceSub, Int.reduceAdd, Int.reduceSub, Int.reduceToNat]
    · have hm : mostW l t = 0 := mostW_not (by omega)
      rw [hm]
      try simp (disch := omega) only [go_sem, Nat.reduceEqDiff, Nat.reduceAdd, Nat.reduceSub, Int.reduceAdd, Int.reduceSub, Int.reduceToNat]
      refine den_call (by (try simp (disch := omega) only [go_sem, Nat.reduceEqDiff, Nat.reduceAdd, Nat.reduceSub, Int.reduceAdd, Int.reduceSub, Int.reduceToNat]) <;> omega) (two) [some (2, none)] (by simp only [go_sem]; repeat' first | rfl | constructor) (by rfl) (run_den 400 ?_)
      simp (disch := omega) only [go_sem, Nat.reduceEqDiff, Nat.reduceAdd, Nat.reduceSub, Int.reduceAdd, Int.reduceSub, Int.reduceToNat]
      refine den_fin [some (0, none)] (by (try simp (disch := omega) only [go_sem, Nat.reduceEqDiff, Nat.reduceAdd, Nat.reduceSub, Int.reduceAdd, Int.reduceSub, Int.reduceToNat]) <;> omega) _ (by simp only [go_sem]; rfl) (by rfl) (by rfl) ?_
      simp (disch := omega) only [go_sem, Nat.reduceEqDiff, Nat.reduceAdd, Nat.reduceSub, Int.reduceAdd, Int.reduceSub, Int.reduceToNat]
end
section
open Go.RowKit
set_option linter.unusedVariables false

def roHp : Hp → Bool
  | [] => true
  | some ob :: h => !ob.own && roHp h
  | none :: h => roHp h
theorem roHp_get : ∀ {h : Hp} {o : Nat} {ob : AObj}, roHp h = true → h[o]? = some (some ob) → ob.own = false
  | some x :: h, 0, ob, hr, ho => by
    simp only [roHp, Bool.and_eq_true, Bool.not_eq_true'] at hr
    simp at ho
    subst ho
    exact hr.1
  | some x :: h, o + 1, ob, hr, ho => by
    simp only [roHp, Bool.and_eq_true] at hr
    exact roHp_get hr.2 (by simpa using ho)
  | none :: h, 0, ob, hr, ho => by simp at ho
  | none :: h, o + 1, ob, hr, ho => roHp_get (h := h) hr (by simpa using ho)
  | [], o, ob, _, ho => by simp at ho
theorem roL_ro {β : Be} {w : World} : ∀ {l : Be} {h : Hp}, RoL β w l h → roHp h = true
  | [], [], _ => rfl
  | p :: l, some ob :: h, hr => by
    have := roL_ro hr.2
    simp [roHp, hr.1.1, this]
  | [], _ :: _, h => h.elim
  | _ :: _, [], h => h.elim
  | _ :: _, none :: _, h => h.elim
/-- A contract over a heap that may not be written: all that was there is as it was. -/
theorem callA_ro {P : Program} {f : FuncId} {args : List AV} {b : Bool} {h h' : Hp} (ct : CallA P f args h (.sc (.bo b)) h') {β : Be} {w : World} (hr : RoL β w β h) {vs : List Value} (hvs : L2 (AVR β) args vs) :
    Calls P f vs.toArray w fun e w' => e = .returned (.bool b) ∧ Below w.heap.size w w' :=
  (ct.2 β w vs (hsim_roL hr) hvs).mono fun e w' ⟨β', v, he, hv, hh, hst⟩ => by
    have hv' : v = .bool b := hv
    subst hv'
    exact ⟨he, ⟨hst.os, hst.tape, hst.output, hst.size, fun k hk => hst.block k hk fun ⟨o, ob, p, ho, hown, hp, _⟩ => by
      rw [roHp_get (roL_ro hr) ho] at hown
      cases hown⟩⟩
end
section
open Go

def rkOf (R : Nat) (g : Nat) : Nat := (R >>> (10 * g)) % 1024
def okG (P : Program) (R lo hi : Nat) (g : Nat) : Bool :=
  match P.funcs[g]? with
  | none => true
  | some fn => ((P.leadsTo fn).all fun h => Nat.blt (rkOf R h) (rkOf R g) && (Nat.ble lo h && Nat.blt h hi)) && (!(fn.ours || fn.body.isNone || fn.name == "runtime.NumGoroutine") && (match fn.body with | some c => !c.unfollowed && c.globalsNamed.isEmpty | none => false))
theorem closureVia_sub {P : Program} {S : FuncId → Prop} (hS : ∀ g, S g → ∀ h ∈ (P.funcs[g]?).elim [] P.leadsTo, S h) : ∀ (n : Nat) (todo seen : List FuncId), (∀ x ∈ todo, S x) → (∀ x ∈ seen, S x) → ∀ x ∈ P.closureVia n todo seen, S x
  | 0, todo, seen, _, hs, x, hx => by
    unfold Program.closureVia at hx
    exact hs x (List.mem_reverse.1 hx)
  | n + 1, [], seen, _, hs, x, hx => by
    unfold Program.closureVia at hx
    exact hs x (List.mem_reverse.1 hx)
  | n + 1, f :: todo, seen, ht, hs, x, hx => by
    unfold Program.closureVia at hx
    split at hx
    · exact closureVia_sub hS n todo seen (fun y hy => ht y (List.mem_cons_of_mem _ hy)) hs x hx
    · refine closureVia_sub hS n _ (f :: seen) (fun y hy => ?_) (fun y hy => ?_) x hx
      · rcases List.mem_append.1 hy with hy | hy
        · exact hS f (ht f (List.mem_cons_self ..)) y hy
        · exact ht y (List.mem_cons_of_mem _ hy)
      · rcases List.mem_cons.1 hy with rfl | hy
        · exact ht y (List.mem_cons_self ..)
        · exact hs y hy
theorem closure_sub {P : Program} {S : FuncId → Prop} (hS : ∀ g, S g → ∀ h ∈ (P.funcs[g]?).elim [] P.leadsTo, S h) {f : FuncId} (hf : S f) : ∀ x ∈ P.closure f, S x :=
  closureVia_sub hS _ [f] [] (fun x hx => by rw [List.mem_singleton.1 hx]; exact hf) (fun x hx => by cases hx)
theorem rk_lt {P : Program} {R lo hi : Nat} (h : ∀ g, lo ≤ g ∧ g < hi → okG P R lo hi g = true) {g k : FuncId} (hb : lo ≤ g ∧ g < hi) (hk : k ∈ (P.funcs[g]?).elim [] P.leadsTo) : rkOf R k < rkOf R g ∧ lo ≤ k ∧ k < hi := by
  have hg := h g hb
  unfold okG at hg
  cases hf : P.funcs[g]? with
  | none => rw [hf] at hk; simp at hk
  | some fn =>
    rw [hf] at hg hk
    simp only [Bool.and_eq_true, List.all_eq_true, Nat.blt_eq, Nat.ble_eq] at hg
    exact hg.1 k hk
theorem graph_facts {P : Program} {R lo hi : Nat} (h : ∀ g, lo ≤ g ∧ g < hi → okG P R lo hi g = true) (f : FuncId) (hf0 : lo ≤ f ∧ f < hi) : P.inPlace f = [] ∧ P.unfollowed f = false ∧ P.recurses f = false ∧ P.varsNamed f = [] := by
  have hin : ∀ k, lo ≤ k ∧ k < hi → ∀ x ∈ P.closure k, lo ≤ x ∧ x < hi := fun k hk => closure_sub (S := fun x => lo ≤ x ∧ x < hi) (fun a ha b hb => (rk_lt h ha hb).2) hk
  have hu : P.unfollowed f = false := by
    unfold Program.unfollowed
    rw [List.any_eq_false]
    intro g hgc
    have hg := h g (hin f hf0 g hgc)
    unfold okG at hg
    cases hf : P.funcs[g]? with
    | none => simp
    | some fn =>
      rw [hf] at hg
      simp only [Bool.and_eq_true] at hg
      simp only [Option.any_some]
      cases hb : fn.body with
      | none => rw [hb] at hg; simp at hg
      | some c => rw [hb] at hg; simp at hg ⊢; exact hg.2.2.1
  refine ⟨?_, hu, ?_, ?_⟩
  · unfold Program.inPlace
    rw [List.filterMap_eq_nil_iff]
    intro g hgc
    have hg := h g (hin f hf0 g hgc)
    unfold okG at hg
    cases hf : P.funcs[g]? with
    | none => rfl
    | some fn =>
      rw [hf] at hg
      simp only [Bool.and_eq_true, Bool.not_eq_true'] at hg
      simp only [Option.bind_some]
      rw [hg.2.1]
      rfl
  · unfold Program.recurses
    rw [hu, Bool.false_or, List.any_eq_false]
    intro g hgc
    rw [Bool.not_eq_true, List.any_eq_false]
    intro k hk
    rw [Bool.not_eq_true]
    obtain ⟨h1, hkb⟩ := rk_lt h (hin f hf0 g hgc) hk
    have h2 : ∀ x ∈ P.closure k, rkOf R x ≤ rkOf R k ∧ lo ≤ x ∧ x < hi := closure_sub (S := fun x => rkOf R x ≤ rkOf R k ∧ lo ≤ x ∧ x < hi) (fun a ha b hb => ⟨Nat.le_trans (Nat.le_of_lt (rk_lt h ha.2 hb).1) ha.1, (rk_lt h ha.2 hb).2⟩) ⟨Nat.le_refl _, hkb⟩
    cases hc : (P.closure k).contains g with
    | false => rfl
    | true =>
      have := (h2 g (List.contains_iff_mem.1 hc)).1
      omega
  · unfold Program.varsNamed
    have e1 : ((P.closure f).flatMap fun g => ((P.funcs[g]?).bind (·.body)).elim [] Code.globalsNamed) = [] := by
      rw [List.flatMap_eq_nil_iff]
      intro g hgc
      have hg := h g (hin f hf0 g hgc)
      unfold okG at hg
      cases hf : P.funcs[g]? with
      | none => rfl
      | some fn =>
        rw [hf] at hg
        simp only [Bool.and_eq_true] at hg
        simp only [Option.bind_some]
        cases hb : fn.body with
        | none => rfl
        | some c => rw [hb] at hg; simp at hg ⊢; exact hg.2.2.2
    have e2 : ((P.closure f).filterMap fun g => (P.funcs[g]?).bind fun fn => if fn.body.isNone then entryReads.lookup fn.name else none) = [] := by
      rw [List.filterMap_eq_nil_iff]
      intro g hgc
      have hg := h g (hin f hf0 g hgc)
      unfold okG at hg
      cases hf : P.funcs[g]? with
      | none => rfl
      | some fn =>
        rw [hf] at hg
        simp only [Bool.and_eq_true] at hg
        simp only [Option.bind_some]
        cases hb : fn.body with
        | none => rw [hb] at hg; simp at hg
        | some c => rfl
    rw [e1, e2]
    rfl
def chs (l : List Nat) : List Char := l.map Char.ofNat
theorem chs_app (a b : List Nat) : chs (a ++ b) = chs a ++ chs b := by simp [chs]
theorem chs_cons (a : Nat) (b : List Nat) : chs (a :: b) = Char.ofNat a :: chs b := rfl
theorem wordsSigns_cons {c : Char} (h : c ≠ Char.ofNat 32) (r : List Char) : wordsSigns (c :: r) = match wordsSigns r with
    | w :: ws => (c :: w) :: ws
    | [] => [[c]] := by
  conv => lhs; unfold wordsSigns
  split
  · rename_i e
    simp at e
  · rename_i r' e
    obtain ⟨e1, _⟩ := List.cons.inj e
    exact absurd e1 h
  · rename_i c' r' _ e
    obtain ⟨e1, e2⟩ := List.cons.inj e
    subst e1; subst e2
    rfl
theorem wordsSigns_word : ∀ {w : List Char} (r : List Char), (∀ c ∈ w, c ≠ Char.ofNat 32) → wordsSigns (w ++ Char.ofNat 32 :: r) = w :: wordsSigns r
  | [], r, _ => by
    show wordsSigns (Char.ofNat 32 :: r) = [] :: wordsSigns r
    conv => lhs; unfold wordsSigns
    rfl
  | c :: w, r, h => by
    rw [List.cons_append, wordsSigns_cons (h c (List.mem_cons_self ..)), wordsSigns_word r (fun x hx => h x (List.mem_cons_of_mem _ hx))]
/-- No blank. -/
def noBlank (l : List Nat) : Bool := (chs l).all fun c => c != Char.ofNat 32
theorem noBlank_mem {l : List Nat} (h : noBlank l = true) : ∀ c ∈ chs l, c ≠ Char.ofNat 32 := by
  intro c hc
  have := List.all_eq_true.1 h c hc
  simpa using this
theorem head_words {P : Program} {a b c r : List Nat} (h : P.initOrder = String.ofList (chs (a ++ 32 :: (b ++ 32 :: (c ++ 32 :: r))))) (ha : noBlank a = true) (hb : noBlank b = true) (hc : noBlank c = true)
    (hm : ((chs a == "harness".toList || chs a == "ownmain".toList) && isSumSigns (chs b)) = true) : ∃ rest, behindMainWord (wordsSigns P.initOrder.toList) = chs c :: rest := by
  refine ⟨wordsSigns (chs r), ?_⟩
  rw [h, String.toList_ofList, chs_app, chs_cons, chs_app, chs_cons, chs_app, chs_cons, wordsSigns_word _ (noBlank_mem ha), wordsSigns_word _ (noBlank_mem hb), wordsSigns_word _ (noBlank_mem hc)]
  exact if_pos hm
def cutN : List Nat := [99, 117, 116]
theorem make_cut {P : Program} {rest : List (List Char)} (h : behindMainWord (wordsSigns P.initOrder.toList) = chs cutN :: rest) : P.make = some .cut := by
  unfold Program.make
  rw [h]
  rfl
theorem final_cut {P : Program} {rest : List (List Char)} (h : behindMainWord (wordsSigns P.initOrder.toList) = chs cutN :: rest) : P.liftsFinal = false := by
  unfold Program.liftsFinal Program.headLifts
  rw [h]
  rfl
theorem may_cut {P : Program} {rest : List (List Char)} (h : behindMainWord (wordsSigns P.initOrder.toList) = chs cutN :: rest) (l1 : P.laysLater = false) (l2 : P.bearsReflect = false) (l3 : P.doorRows = []) : P.mayEnter = true := by
  have l4 : P.doorFits [] = true := by
    unfold Program.doorFits
    rw [l3]
    rfl
  unfold Program.mayEnter
  rw [h]
  show ((_ || _) || _) = true
  have e : stripLifts liftWords (chs cutN :: rest) = ([], chs cutN :: rest) := rfl
  rw [e, l1, l2, l4]
  simp only [List.contains_nil, Bool.and_true, Bool.not_false, Bool.or_true, List.head?_cons]
  rw [show (some (chs cutN) == some "cut".toList) = true from by kernel_rfl]
  simp
/-- What the kernel reckons of a row's closed facts; the others come by the rank and by the head's words. -/
def restFacts (P : Program) (f : FuncId) (fn : Func) (s : ChangeSpec) (c : OpenClaim) : Bool :=
  c.wf (OpenSpec.ofChange s) && laidOutB P && mapsRowed P &&
  fn.params.all (P.readableRec ·) && namedTie P c.named s.vars &&
  (c.stops == []) && (P.stops == []) && (c.knobs == []) && (P.stopKnobs == []) &&
  (c.maps == (fn.params.toList ++ s.plain.varTypes P).any (P.mapsRec ·)) && (c.ifaces == (fn.params.toList ++ s.plain.varTypes P).any (P.ifacesRec ·)) && (c.mapsOut == P.mapsAmong fn.resultTypes.toList) &&
  (c.loops == (fn.params.toList ++ s.plain.varTypes P).any (P.loopsFrom ·)) && (c.wideKeys == (fn.params.toList ++ s.plain.varTypes P ++ fn.resultTypes.toList).any (P.wideKeysFrom ·)) &&
  s.vars.all (P.varReadable ·) && fn.resultTypes.all (fun t => P.readableRec t && decide (t < P.types.size)) && (c.ifacesOut == fn.resultTypes.toList.any (P.ifacesRec ·)) && (c.loopsOut == fn.resultTypes.toList.any (P.loopsFrom ·)) && (c.plainKeys == P.plainKeys) && c.shortTexts.isNone && P.stopsHeard && (c.kinds == (if c.domain.isEmpty then [] else fn.params.toList.map fun t => match P.underlying t with | some (.int k) => some k | _ => none)) && (c.pinned == c.pinnedBy) &&
  (c.veiled == (fn.params.toList ++ s.plain.varTypes P ++ fn.resultTypes.toList).any (P.veiledRec ·)) && c.veiledFits P fn.params.toList (fn.params.toList ++ s.plain.varTypes P ++ fn.resultTypes.toList)
theorem joined_of {P : Program} {f : FuncId} {fn : Func} {s : ChangeSpec} {c : OpenClaim} (g : P.inPlace f = [] ∧ P.unfollowed f = false ∧ P.recurses f = false ∧ P.varsNamed f = []) (c1 : c.inPlace = []) (c2 : c.unfollowed = false) (c3 : c.recurses = false) (c4 : c.named = [])
    (m1 : P.mayEnter = true) (m2 : P.liftsFinal = false) (m3 : P.make = some .cut) (d2 : c.lifted = false) (d3 : c.make = .cut) (h : restFacts P f fn s c = true) : joinedFacts P f fn s c = true := by
  obtain ⟨g1, g2, g3, g4⟩ := g
  unfold restFacts at h
  unfold joinedFacts
  simp only [Bool.and_eq_true] at h ⊢
  obtain ⟨⟨⟨⟨⟨⟨⟨⟨⟨⟨⟨⟨⟨⟨⟨⟨⟨⟨⟨⟨⟨⟨⟨⟨k1, k2⟩, k3⟩, k4⟩, k5⟩, k6⟩, k7⟩, k8⟩, k9⟩, k14⟩, k15⟩, k16⟩, k17⟩, k17b⟩, k18⟩, k19⟩, k20⟩, k21⟩, k22⟩, k23⟩, k23b⟩, k25⟩, k26⟩, k27⟩, k28⟩ := h
  refine ⟨⟨⟨⟨⟨⟨⟨⟨⟨⟨⟨⟨⟨⟨⟨⟨⟨⟨⟨⟨⟨⟨⟨⟨⟨⟨⟨⟨⟨⟨⟨k1, k2⟩, k3⟩, k4⟩, k5⟩, k6⟩, k7⟩, k8⟩, k9⟩, ?_⟩, ?_⟩, ?_⟩, ?_⟩, k14⟩, k15⟩, k16⟩, k17⟩, k17b⟩, k18⟩, k19⟩, k20⟩, k21⟩, k22⟩, k23⟩, k23b⟩, m1⟩, ?_⟩, ?_⟩, k25⟩, k26⟩, k27⟩, k28⟩
  · rw [c1, g1]; rfl
  · rw [c2, g2]; rfl
  · rw [c3, g3]; rfl
  · rw [c4, g4]; rfl
  · rw [d2, m2]; rfl
  · rw [d3, m3]; exact beq_self_eq_true _
end
section
open Go
set_option maxRecDepth 10000
def rkN : Nat := 13922573200356684421230186230139262186128418025809393675436009404391247855043332421316930955866183156648573175476632804780213709811077723419645398725815428688219556445878019371921164275331219448040219399365539408052500373560161634107305219171276636259066224500876427557952239368148748686984922678509045170861612531001281801340114173952
theorem okG_0 : (List.range' 3 16).all (okG Try.prog rkN 3 96) = true := by kernel_rfl
theorem okG_1 : (List.range' 19 16).all (okG Try.prog rkN 3 96) = true := by kernel_rfl
theorem okG_2 : (List.range' 35 16).all (okG Try.prog rkN 3 96) = true := by kernel_rfl
theorem okG_3 : (List.range' 51 16).all (okG Try.prog rkN 3 96) = true := by kernel_rfl
theorem okG_4 : (List.range' 67 16).all (okG Try.prog rkN 3 96) = true := by kernel_rfl
theorem okG_5 : (List.range' 83 13).all (okG Try.prog rkN 3 96) = true := by kernel_rfl
theorem okG_all (g : Nat) (h : 3 ≤ g ∧ g < 96) : okG Try.prog rkN 3 96 g = true := by
  rcases (by omega : (3 ≤ g ∧ g < 19) ∨ (19 ≤ g ∧ g < 35) ∨ (35 ≤ g ∧ g < 51) ∨ (51 ≤ g ∧ g < 67) ∨ (67 ≤ g ∧ g < 83) ∨ (83 ≤ g ∧ g < 96)) with h | h | h | h | h | h
  · exact List.all_eq_true.1 okG_0 g (List.mem_range'_1.2 h)
  · exact List.all_eq_true.1 okG_1 g (List.mem_range'_1.2 h)
  · exact List.all_eq_true.1 okG_2 g (List.mem_range'_1.2 h)
  · exact List.all_eq_true.1 okG_3 g (List.mem_range'_1.2 h)
  · exact List.all_eq_true.1 okG_4 g (List.mem_range'_1.2 h)
  · exact List.all_eq_true.1 okG_5 g (List.mem_range'_1.2 h)
theorem init_head : ∃ rest, behindMainWord (wordsSigns Try.prog.initOrder.toList) = chs cutN :: rest :=
  head_words (a := [104, 97, 114, 110, 101, 115, 115]) (b := [48, 49, 99, 52, 99, 99, 102, 54, 100, 57, 101, 100, 57, 55, 50, 98, 53, 98, 98, 50, 52, 100, 49, 48, 49, 97, 56, 50, 48, 53, 98, 98, 52, 52, 52, 98, 53, 53, 50, 49, 52, 51, 53, 100, 101, 50, 97, 57, 50, 101, 51, 48, 52, 98, 50, 52, 50, 102, 99, 53, 98, 50, 49, 55]) (c := cutN) (r := [97, 116, 32, 108, 111, 111, 112, 46, 101, 120, 97, 109, 112, 108, 101, 47, 103, 48, 48, 57, 54, 55, 47, 108, 97, 119, 115, 46, 70, 110, 77, 111, 115, 116, 32, 108, 111, 111, 112, 46, 101, 120, 97, 109, 112, 108, 101, 47, 103, 48, 48, 57, 54, 55, 47, 108, 97, 119, 115, 46, 70, 110, 69, 120, 97, 99, 116, 67, 97, 114, 114, 105, 101, 100, 66, 121]) (by kernel_rfl) (by kernel_rfl) (by kernel_rfl) (by kernel_rfl) (by kernel_rfl)
theorem own_l1 : Try.prog.laysLater = false := by kernel_rfl
theorem own_l2 : Try.prog.bearsReflect = false := by kernel_rfl
theorem own_l3 : Try.prog.doorRows = [] := by kernel_rfl
theorem own_may : Try.prog.mayEnter = true := init_head.elim fun _ h => may_cut h own_l1 own_l2 own_l3
theorem own_final : Try.prog.liftsFinal = false := init_head.elim fun _ h => final_cut h
theorem own_make : Try.prog.make = some .cut := init_head.elim fun _ h => make_cut h
theorem own_graph (f : Nat) (h : (Nat.ble 3 f && Nat.blt f 96) = true) : Try.prog.inPlace f = [] ∧ Try.prog.unfollowed f = false ∧ Try.prog.recurses f = false ∧ Try.prog.varsNamed f = [] :=
  graph_facts okG_all f (by simpa only [Bool.and_eq_true, Nat.ble_eq, Nat.blt_eq] using h)
end
end Go.Proofs.Ytndkcflepjinaaa
