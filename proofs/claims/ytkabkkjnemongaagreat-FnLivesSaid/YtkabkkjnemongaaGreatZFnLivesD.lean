/-
  Texts merged for this claim by shake.py: what its proof needs.
-/
import Derived.Tactics
import Derived.Below
import Derived.Laws.AppendOwn
import Derived.Laws.OwnMore
import Derived.Laws.Slices
import Derived.Laws.Small
import Derived.Laws.Strings
import Derived.KernelRfl
import Derived.Laws.MakeOwn
import Derived.Laws.BytesString
import Derived.Laws.BytesArg
import Derived.Laws.Build
import Derived.Laws.Concat
import Derived.Laws.StructEq
import Derived.Lib.ConvBytes
import Derived.Orders
import Derived.WalkKit
import Derived.ProofKit
import Derived.ShutString
import Derived.OpenShut
import Derived.ChangeOld
import Derived.Carry
import Derived.Test.YtkabkkjnemongaaGreatChecked
import Derived.Laws.BitsLemmas
import Derived.JoinedOf
import Derived.Test.YtkabkkjnemongaaGreatRows
import Derived.Test.YtkabkkjnemongaaGreatZFnLivesC
set_option maxHeartbeats 16000000
set_option maxRecDepth 100000
set_option linter.unusedVariables false
set_option linter.unusedSimpArgs false
namespace Go.Proofs.YtkabkkjnemongaaGreat
section
open Go.RowKit

def txtD (b : List UInt8) : Nat → CurD → List UInt8 × CurD
 | 0, c => ([], c)
 | n + 1, c => (UInt8.ofNat (c.bv b).toNat :: (txtD b n (c.bn b)).1, (txtD b n (c.bn b)).2)
theorem txtD_len (b : List UInt8) : ∀ (n : Nat) (c : CurD), (txtD b n c).1.length = n
 | 0, _ => rfl
 | n + 1, c => by simp [txtD, txtD_len b n]
theorem txtD_ok {b : List UInt8} : ∀ {n : Nat} {c : CurD}, c.ok b → (txtD b n c).2.ok b
 | 0, _, h => h
 | n + 1, c, h => txtD_ok (n := n) (CurD.bn_ok h)
theorem spec_l01Text (b : List UInt8) (c : CurD) (hc : c.ok b) (n : Nat) (hn : n ≤ 5000) : CallA Tryz.prog 59 [.sc (.pt 1 0 0), .sc (.int .i64 (n : Int))] (c.hp b) (.sc (.st (txtD b n c).1)) ((txtD b n c).2.hp b) := by
 obtain ⟨T, hT⟩ : ∃ T, T = txtD b n c := ⟨_, rfl⟩
 rw [← hT]
 refine qE Tryz.func59 Tryz.ntmps59 Tryz.results59 fun E hE => ?_
 refine den_lp 2 hE (fun s (y : List UInt8 × CurD) => s.at [7, 8, 9, 10, 11, 12, 13, 14, 15, 16, 17, 18, 19, 20] [(6, .sc (.int .i64 (y.1.length : Nat))), (5, .sc (.sl 2 0 y.1.length))] (y.2.hp b ++ [some ⟨y.1.map byteC, 1, 5, true, true⟩])) (fun (y : List UInt8 × CurD) => y.1.length ≤ n ∧ y.2.ok b ∧ (y.1 ++ (txtD b (n - y.1.length) y.2).1, (txtD b (n - y.1.length) y.2).2) = T) (fun (y : List UInt8 × CurD) => n - y.1.length) ([], c) (qA [0, 1, 2]) (qC) (⟨Nat.zero_le _, hc, hT.symm⟩) (weak_mk (by rfl) (by rfl) ?_) fun y hy N hN => ?_
 ·exact qY
 ·obtain ⟨acc, c1⟩ := y
  obtain ⟨h1, h2, h3⟩ := hy
  dsimp only at h1 h2 h3
  refine qR ?_
  refine qB (fun h => ?_) fun h => ?_
  ·have hb := c1.bv_le b
   have hB := spec_l01Byte b c1 h2
   have o2 := CurD.bn_ok h2
   rw [show n - acc.length = (n - (acc.length + 1)) + 1 from by omega, txtD] at h3
   have hbc := byteC_int (z := c1.bv b) hb.1 (by omega)
   generalize c1.bv b = v at hb hB h3 hbc
   generalize c1.bn b = c2 at hB o2 h3
   refine qK (hB) (qA [0, 1]) ?_
   refine ⟨qC, hN _ (acc ++ [UInt8.ofNat v.toNat], c2) (qA [0, 1, 4]) (by (try dsimp only); exact ⟨by simp; omega, o2, by rw [List.length_append, List.length_singleton, List.append_assoc]; exact h3⟩) (by simp; omega) (weak_mk (by rfl) (by rfl) ?_)⟩
   try simp (disch := omega) only [go_sem, Nat.reduceEqDiff, Nat.reduceAdd, Nat.reduceSub, Int.reduceAdd, Int.reduceSub, Int.reduceToNat, w8 hb]
   simp [hbc]
  ·rw [show n - acc.length = 0 from by omega] at h3
   simp only [txtD, List.append_nil] at h3
   subst h3
   exact qF (qA [0, 1])
def CurD.pickS (c : CurD) (b : List UInt8) (l : List (List UInt8)) : List UInt8 := l.getD (c.below b l.length).1.toNat []
theorem CurD.pickS_mem (c : CurD) (b : List UInt8) {l : List (List UInt8)} (h : 0 < l.length) : c.pickS b l ∈ l := by
 have hb := c.below_lt b (n := (l.length : Int)) (by omega)
 rw [CurD.pickS, List.getD_eq_getElem?_getD, List.getElem?_eq_getElem (by omega)]
 exact List.getElem_mem _
theorem spec_l01Pick (b : List UInt8) (c : CurD) (hc : c.ok b) (l : List (List UInt8)) (h0 : 0 < l.length) (hl : l.length ≤ 1000) : CallA Tryz.prog 100 [.sc (.pt 1 0 0), .sc (.sl 2 0 l.length)] (c.hp b ++ [some ⟨l.map strC, 1, 9, false, true⟩]) (.sc (.st (c.pickS b l))) (((c.below b l.length).2.hp b) ++ [some ⟨l.map strC, 1, 9, false, true⟩]) := by
 have hb := c.below_lt b (n := (l.length : Int)) (by omega)
 have hp : c.pickS b l = l.getD (c.below b l.length).1.toNat [] := rfl
 have hk := spec_l01Below b c hc l.length
 rw [hp]
 generalize c.below b l.length = r at *
 obtain ⟨v, c1⟩ := r
 dsimp only at hb hk ⊢
 obtain ⟨k, rfl⟩ := Int.eq_ofNat_of_zero_le hb.1
 have hlt : k < l.length := by omega
 rw [Int.toNat_natCast, List.getD_eq_getElem?_getD, List.getElem?_eq_getElem hlt, Option.getD_some]
 refine qE Tryz.func100 Tryz.ntmps100 Tryz.results100 fun E hE => ?_
 refine qK (hk) (qA [0, 1]) ?_
 try simp (disch := omega) only [go_sem, Nat.reduceEqDiff, Nat.reduceAdd, Nat.reduceSub, Int.reduceAdd, Int.reduceSub, Int.reduceToNat, strs_get hlt]
 exact qF (qA [0, 1, 2])
theorem spec_l15Tag (b : List UInt8) (c : CurD) (hc : c.ok b) : ∃ (x : TagD) (c' : CurD), c'.ok b ∧ x.wf ∧ CallA Tryz.prog 99 [.sc (.pt 1 0 0)] (c.hp b) (.ag x.cs) (c'.hp b) := by
 have h1 := spec_l01Below b c hc 4
 have o1 := CurD.below_ok hc 4
 have b1 := c.below_lt b (n := 4) (by omega)
 generalize c.below b 4 = r1 at h1 o1 b1
 obtain ⟨v1, c1⟩ := r1
 dsimp only at h1 o1 b1
 have h2 := spec_l01Below b c1 o1 3
 have o2 := CurD.below_ok o1 3
 have b2 := c1.below_lt b (n := 3) (by omega)
 generalize c1.below b 3 = r2 at h2 o2 b2
 obtain ⟨v2, c2⟩ := r2
 dsimp only at h2 o2 b2
 have h3 := spec_l01Below b c2 o2 3
 have o3 := CurD.below_ok o2 3
 have b3 := c2.below_lt b (n := 3) (by omega)
 generalize c2.below b 3 = r3 at h3 o3 b3
 obtain ⟨v3, c3⟩ := r3
 dsimp only at h3 o3 b3
 have h4 := spec_l01Below b c3 o3 4
 have o4 := CurD.below_ok o3 4
 have b4 := c3.below_lt b (n := 4) (by omega)
 generalize c3.below b 4 = r4 at h4 o4 b4
 obtain ⟨v4, c4⟩ := r4
 dsimp only at h4 o4 b4
 have h5 := spec_l01Below b c4 o4 4
 have o5 := CurD.below_ok o4 4
 have b5 := c4.below_lt b (n := 4) (by omega)
 generalize c4.below b 4 = r5 at h5 o5 b5
 obtain ⟨v5, c5⟩ := r5
 dsimp only at h5 o5 b5
 refine ⟨⟨v1, 1 + v2, 1 + v3, v4, v5⟩, c5, o5, by simp only [TagD.wf, I64]; omega, ?_⟩
 refine qE Tryz.func99 Tryz.ntmps99 Tryz.results99 fun E hE => ?_
 refine qK (h1) (qA [0, 1]) ?_
 refine qK (h2) (qA [0, 1]) ?_
 refine qK (h3) (qA [0, 1]) ?_
 refine qK (h4) (qA [0, 1]) ?_
 refine qK (h5) (qA [0, 1]) ?_
 exact qF (qA [0, 1])
theorem spec_l16Letter (b : List UInt8) (c : CurD) (hc : c.ok b) : ∃ (x : LetterD) (c' : CurD), c'.ok b ∧ x.wf ∧ CallA Tryz.prog 61 [.sc (.pt 1 0 0)] (c.hp b) (.ag x.cs) (c'.hp b) := by
 have h1 := spec_l01Below b c hc 13
 have o1 := CurD.below_ok hc 13
 have b1 := c.below_lt b (n := 13) (by omega)
 generalize c.below b 13 = r1 at h1 o1 b1
 obtain ⟨v1, c1⟩ := r1
 dsimp only at h1 o1 b1
 have h2 := spec_l01PickInt b c1 o1 [11, 12, 21, 22, 31] (by decide) (by decide)
 have o2 := CurD.below_ok o1 (b := b) 5
 have m2 := c1.pick_mem b (l := [11, 12, 21, 22, 31]) (by decide)
 have w2 := (by decide : ∀ x ∈ ([11, 12, 21, 22, 31] : List Int), 11 ≤ x ∧ x ≤ 31) _ m2
 rw [show (([11, 12, 21, 22, 31] : List Int).length : Int) = 5 from rfl] at h2
 generalize c1.pick b [11, 12, 21, 22, 31] = v2 at h2 w2
 clear m2
 generalize c1.below b 5 = r2 at h2 o2
 obtain ⟨u2, c2⟩ := r2
 dsimp only at h2 o2
 have h3 := spec_l01PickInt b c2 o2 [11, 12, 21, 22, 31] (by decide) (by decide)
 have o3 := CurD.below_ok o2 (b := b) 5
 have m3 := c2.pick_mem b (l := [11, 12, 21, 22, 31]) (by decide)
 have w3 := (by decide : ∀ x ∈ ([11, 12, 21, 22, 31] : List Int), 11 ≤ x ∧ x ≤ 31) _ m3
 rw [show (([11, 12, 21, 22, 31] : List Int).length : Int) = 5 from rfl] at h3
 generalize c2.pick b [11, 12, 21, 22, 31] = v3 at h3 w3
 clear m3
 generalize c2.below b 5 = r3 at h3 o3
 obtain ⟨u3, c3⟩ := r3
 dsimp only at h3 o3
 have h4 := spec_l01Below b c3 o3 3
 have o4 := CurD.below_ok o3 3
 have b4 := c3.below_lt b (n := 3) (by omega)
 generalize c3.below b 3 = r4 at h4 o4 b4
 obtain ⟨v4, c4⟩ := r4
 dsimp only at h4 o4 b4
 have h5 := spec_l01Below b c4 o4 3
 have o5 := CurD.below_ok o4 3
 have b5 := c4.below_lt b (n := 3) (by omega)
 generalize c4.below b 3 = r5 at h5 o5 b5
 obtain ⟨v5, c5⟩ := r5
 dsimp only at h5 o5 b5
 have h6 := spec_l01PickInt b c5 o5 [101, 102, 7] (by decide) (by decide)
 have o6 := CurD.below_ok o5 (b := b) 3
 have m6 := c5.pick_mem b (l := [101, 102, 7]) (by decide)
 have w6 := (by decide : ∀ x ∈ ([101, 102, 7] : List Int), 7 ≤ x ∧ x ≤ 102) _ m6
 rw [show (([101, 102, 7] : List Int).length : Int) = 3 from rfl] at h6
 generalize c5.pick b [101, 102, 7] = v6 at h6 w6
 clear m6
 generalize c5.below b 3 = r6 at h6 o6
 obtain ⟨u6, c6⟩ := r6
 dsimp only at h6 o6
 have h7 := spec_l01Below b c6 o6 9
 have o7 := CurD.below_ok o6 9
 have b7 := c6.below_lt b (n := 9) (by omega)
 generalize c6.below b 9 = r7 at h7 o7 b7
 obtain ⟨v7, c7⟩ := r7
 dsimp only at h7 o7 b7
 have h8 := spec_l01Below b c7 o7 9
 have o8 := CurD.below_ok o7 9
 have b8 := c7.below_lt b (n := 9) (by omega)
 generalize c7.below b 9 = r8 at h8 o8 b8
 obtain ⟨v8, c8⟩ := r8
 dsimp only at h8 o8 b8
 have h9 := spec_l01Below b c8 o8 9
 have o9 := CurD.below_ok o8 9
 have b9 := c8.below_lt b (n := 9) (by omega)
 generalize c8.below b 9 = r9 at h9 o9 b9
 obtain ⟨v9, c9⟩ := r9
 dsimp only at h9 o9 b9
 have h10 := spec_l01Below b c9 o9 4
 have o10 := CurD.below_ok o9 4
 have b10 := c9.below_lt b (n := 4) (by omega)
 generalize c9.below b 4 = r10 at h10 o10 b10
 obtain ⟨v10, c10⟩ := r10
 dsimp only at h10 o10 b10
 have h11 := spec_l01PickInt b c10 o10 [11, 12, 13, 21, 22, 23, 31] (by decide) (by decide)
 have o11 := CurD.below_ok o10 (b := b) 7
 have m11 := c10.pick_mem b (l := [11, 12, 13, 21, 22, 23, 31]) (by decide)
 have w11 := (by decide : ∀ x ∈ ([11, 12, 13, 21, 22, 23, 31] : List Int), 11 ≤ x ∧ x ≤ 31) _ m11
 rw [show (([11, 12, 13, 21, 22, 23, 31] : List Int).length : Int) = 7 from rfl] at h11
 generalize c10.pick b [11, 12, 13, 21, 22, 23, 31] = v11 at h11 w11
 clear m11
 generalize c10.below b 7 = r11 at h11 o11
 obtain ⟨u11, c11⟩ := r11
 dsimp only at h11 o11
 have h12 := spec_l01Below b c11 o11 30
 have o12 := CurD.below_ok o11 30
 have b12 := c11.below_lt b (n := 30) (by omega)
 generalize c11.below b 30 = r12 at h12 o12 b12
 obtain ⟨v12, c12⟩ := r12
 dsimp only at h12 o12 b12
 have h13 := spec_l01Once b c12 o12 3
 have o13 := CurD.below_ok o12 3
 have b13 := c12.below_lt b (n := 3) (by omega)
 generalize c12.below b 3 = r13 at h13 o13 b13
 obtain ⟨v13, c13⟩ := r13
 dsimp only at h13 o13 b13
 generalize hq13 : (v13 == 0) = q13 at h13
 rcases Bool.eq_false_or_eq_true q13 with e13 | e13 <;> rw [e13] at h13
 ·obtain ⟨t, c14, o14, w14, h14⟩ := spec_l15Tag b c13 o13
  have w14 := w14
  obtain ⟨t1, t2, t3, t4, t5⟩ := t
  by_cases e11 : 1 + v1 = 11
  ·have h15 := spec_l01Pick b c14 o14 [[97], [101, 118, 105, 108], [122, 122], []] (by decide) (by decide)
   have o15 := CurD.below_ok o14 (b := b) 4
   have m15 := c14.pickS_mem b (l := [[97], [101, 118, 105, 108], [122, 122], []]) (by decide)
   have w15 := (by decide : ∀ x ∈ ([[97], [101, 118, 105, 108], [122, 122], []] : List (List UInt8)), x.length ≤ 20) _ m15
   rw [show (([[97], [101, 118, 105, 108], [122, 122], []] : List (List UInt8)).length : Int) = 4 from rfl] at h15
   generalize c14.pickS b [[97], [101, 118, 105, 108], [122, 122], []] = v15 at h15 w15
   clear m15
   generalize c14.below b 4 = r15 at h15 o15
   obtain ⟨u15, c15⟩ := r15
   dsimp only at h15 o15
   refine ⟨⟨1 + v1, v2, v3, v4, v5, v6, v7, v8, v9, ⟨t1, t2, t3, t4, t5⟩, v10, v11, false, v12, v15⟩, c15, o15, by simp only [LetterD.wf, I64, maxLen, TagD.wf, List.length_nil] at *; omega, ?_⟩
   refine qE Tryz.func61 Tryz.ntmps61 Tryz.results61 fun E hE => ?_
   refine qK (h1) (qA [0, 1]) ?_
   refine qK (h2) (qA [0, 1, 3]) ?_
   refine qK (h3) (qA [0, 1, 4]) ?_
   refine qK (h4) (qA [0, 1]) ?_
   refine qK (h5) (qA [0, 1]) ?_
   refine qK (h6) (qA [0, 1, 5]) ?_
   refine qK (h7) (qA [0, 1]) ?_
   refine qK (h8) (qA [0, 1]) ?_
   refine qK (h9) (qA [0, 1]) ?_
   refine qK (h10) (qA [0, 1]) ?_
   refine qK (h11) (qA [0, 1, 6]) ?_
   refine qK (h12) (qA [0, 1]) ?_
   refine qK (h13) (qA [0, 1]) ?_
   refine qK (h14) (qA [0, 1]) ?_
   refine qK (h15) (qA [0, 1, 8]) ?_
   exact qF (qA [0, 1])
  ·refine ⟨⟨1 + v1, v2, v3, v4, v5, v6, v7, v8, v9, ⟨t1, t2, t3, t4, t5⟩, v10, v11, false, v12, []⟩, c14, o14, by simp only [LetterD.wf, I64, maxLen, TagD.wf, List.length_nil] at *; omega, ?_⟩
   refine qE Tryz.func61 Tryz.ntmps61 Tryz.results61 fun E hE => ?_
   refine qK (h1) (qA [0, 1]) ?_
   refine qK (h2) (qA [0, 1, 3]) ?_
   refine qK (h3) (qA [0, 1, 4]) ?_
   refine qK (h4) (qA [0, 1]) ?_
   refine qK (h5) (qA [0, 1]) ?_
   refine qK (h6) (qA [0, 1, 5]) ?_
   refine qK (h7) (qA [0, 1]) ?_
   refine qK (h8) (qA [0, 1]) ?_
   refine qK (h9) (qA [0, 1]) ?_
   refine qK (h10) (qA [0, 1]) ?_
   refine qK (h11) (qA [0, 1, 6]) ?_
   refine qK (h12) (qA [0, 1]) ?_
   refine qK (h13) (qA [0, 1]) ?_
   refine qK (h14) (qA [0, 1]) ?_
   exact qF (qA [0, 1])
 ·by_cases e11 : 1 + v1 = 11
  ·have h14 := spec_l01Pick b c13 o13 [[97], [101, 118, 105, 108], [122, 122], []] (by decide) (by decide)
   have o14 := CurD.below_ok o13 (b := b) 4
   have m14 := c13.pickS_mem b (l := [[97], [101, 118, 105, 108], [122, 122], []]) (by decide)
   have w14 := (by decide : ∀ x ∈ ([[97], [101, 118, 105, 108], [122, 122], []] : List (List UInt8)), x.length ≤ 20) _ m14
   rw [show (([[97], [101, 118, 105, 108], [122, 122], []] : List (List UInt8)).length : Int) = 4 from rfl] at h14
   generalize c13.pickS b [[97], [101, 118, 105, 108], [122, 122], []] = v14 at h14 w14
   clear m14
   generalize c13.below b 4 = r14 at h14 o14
   obtain ⟨u14, c14⟩ := r14
   dsimp only at h14 o14
   refine ⟨⟨1 + v1, v2, v3, v4, v5, v6, v7, v8, v9, ⟨0, 0, 0, 0, 0⟩, v10, v11, false, v12, v14⟩, c14, o14, by simp only [LetterD.wf, I64, maxLen, TagD.wf, List.length_nil] at *; omega, ?_⟩
   refine qE Tryz.func61 Tryz.ntmps61 Tryz.results61 fun E hE => ?_
   refine qK (h1) (qA [0, 1]) ?_
   refine qK (h2) (qA [0, 1, 3]) ?_
   refine qK (h3) (qA [0, 1, 4]) ?_
   refine qK (h4) (qA [0, 1]) ?_
   refine qK (h5) (qA [0, 1]) ?_
   refine qK (h6) (qA [0, 1, 5]) ?_
   refine qK (h7) (qA [0, 1]) ?_
   refine qK (h8) (qA [0, 1]) ?_
   refine qK (h9) (qA [0, 1]) ?_
   refine qK (h10) (qA [0, 1]) ?_
   refine qK (h11) (qA [0, 1, 6]) ?_
   refine qK (h12) (qA [0, 1]) ?_
   refine qK (h13) (qA [0, 1]) ?_
   refine qK (h14) (qA [0, 1, 8]) ?_
   exact qF (qA [0, 1])
  ·refine ⟨⟨1 + v1, v2, v3, v4, v5, v6, v7, v8, v9, ⟨0, 0, 0, 0, 0⟩, v10, v11, false, v12, []⟩, c13, o13, by simp only [LetterD.wf, I64, maxLen, TagD.wf, List.length_nil] at *; omega, ?_⟩
   refine qE Tryz.func61 Tryz.ntmps61 Tryz.results61 fun E hE => ?_
   refine qK (h1) (qA [0, 1]) ?_
   refine qK (h2) (qA [0, 1, 3]) ?_
   refine qK (h3) (qA [0, 1, 4]) ?_
   refine qK (h4) (qA [0, 1]) ?_
   refine qK (h5) (qA [0, 1]) ?_
   refine qK (h6) (qA [0, 1, 5]) ?_
   refine qK (h7) (qA [0, 1]) ?_
   refine qK (h8) (qA [0, 1]) ?_
   refine qK (h9) (qA [0, 1]) ?_
   refine qK (h10) (qA [0, 1]) ?_
   refine qK (h11) (qA [0, 1, 6]) ?_
   refine qK (h12) (qA [0, 1]) ?_
   refine qK (h13) (qA [0, 1]) ?_
   exact qF (qA [0, 1])
theorem spec_l24Act (b : List UInt8) (c : CurD) (hc : c.ok b) : ∃ (x : ActD) (c' : CurD), c'.ok b ∧ (x.wf ∧ x.text.length ≤ 200 ∧ actOk x = true) ∧ CallA Tryz.prog 27 [.sc (.pt 1 0 0)] (c.hp b) (.ag x.cs) (c'.hp b) := by
 have h1 := spec_l01Below b c hc 2
 have o1 := CurD.below_ok hc 2
 have b1 := c.below_lt b (n := 2) (by omega)
 generalize c.below b 2 = r1 at h1 o1 b1
 obtain ⟨v1, c1⟩ := r1
 dsimp only at h1 o1 b1
 have h2 := spec_l01Below b c1 o1 4
 have o2 := CurD.below_ok o1 4
 have b2 := c1.below_lt b (n := 4) (by omega)
 generalize c1.below b 4 = r2 at h2 o2 b2
 obtain ⟨v2, c2⟩ := r2
 dsimp only at h2 o2 b2
 have h3 := spec_l01PickInt b c2 o2 [1, 1, 2, 3, 3, 4, 4, 5, 5, 6, 7, 8, 8, 8, 8, 8, 8, 8, 8, 8, 8, 9, 10, 11, 12] (by decide) (by decide)
 have o3 := CurD.below_ok o2 (b := b) 25
 have m3 := c2.pick_mem b (l := [1, 1, 2, 3, 3, 4, 4, 5, 5, 6, 7, 8, 8, 8, 8, 8, 8, 8, 8, 8, 8, 9, 10, 11, 12]) (by decide)
 have w3 := (by decide : ∀ x ∈ ([1, 1, 2, 3, 3, 4, 4, 5, 5, 6, 7, 8, 8, 8, 8, 8, 8, 8, 8, 8, 8, 9, 10, 11, 12] : List Int), 1 ≤ x ∧ x ≤ 12) _ m3
 rw [show (([1, 1, 2, 3, 3, 4, 4, 5, 5, 6, 7, 8, 8, 8, 8, 8, 8, 8, 8, 8, 8, 9, 10, 11, 12] : List Int).length : Int) = 25 from rfl] at h3
 generalize c2.pick b [1, 1, 2, 3, 3, 4, 4, 5, 5, 6, 7, 8, 8, 8, 8, 8, 8, 8, 8, 8, 8, 9, 10, 11, 12] = v3 at h3 w3
 clear m3
 generalize c2.below b 25 = r3 at h3 o3
 obtain ⟨u3, c3⟩ := r3
 dsimp only at h3 o3
 have hv : v3 = 1 ∨ v3 = 2 ∨ v3 = 5 ∨ v3 = 6 ∨ v3 = 8 ∨ v3 = 11 ∨ v3 = 12 ∨ (v3 ≠ 1 ∧ v3 ≠ 2 ∧ v3 ≠ 5 ∧ v3 ≠ 6 ∧ v3 ≠ 8 ∧ v3 ≠ 11 ∧ v3 ≠ 12) := by omega
 rcases hv with rfl | rfl | rfl | rfl | rfl | rfl | rfl | hv
 ·have h4 := spec_l01Below b c3 o3 40
  have o4 := CurD.below_ok o3 40
  have b4 := c3.below_lt b (n := 40) (by omega)
  generalize c3.below b 40 = r4 at h4 o4 b4
  obtain ⟨v4, c4⟩ := r4
  dsimp only at h4 o4 b4
  obtain ⟨n, hn⟩ := Int.eq_ofNat_of_zero_le (show 0 ≤ 1 + v4 by omega)
  have hT := spec_l01Text b c4 o4 n (by omega)
  have oT := txtD_ok (n := n) o4
  have lT := txtD_len b n c4
  generalize txtD b n c4 = T at hT oT lT
  obtain ⟨T, cT⟩ := T
  dsimp only at hT oT lT
  refine ⟨⟨1, 1 + v1, v2, 0, T, addrNone, letNone⟩, cT, oT, ⟨by simp only [ActD.wf, LetterD.wf, I64, maxLen, letNone, addrNone, List.length_nil] at *; omega, by simp only [List.length_nil]; omega, by simp only [actOk, inR, isN, Bool.and_eq_true, decide_eq_true_eq, List.length_nil]; omega⟩, ?_⟩
  refine qE Tryz.func27 Tryz.ntmps27 Tryz.results27 fun E hE => ?_
  refine qK (h1) (qA [0, 1]) ?_
  refine qK (h2) (qA [0, 1]) ?_
  refine qK (h3) (qA [0, 1, 4]) ?_
  refine qK (h4) (qA [0, 1]) ?_
  try simp (disch := omega) only [go_sem, Nat.reduceEqDiff, Nat.reduceAdd, Nat.reduceSub, Int.reduceAdd, Int.reduceSub, Int.reduceToNat, hn]
  refine qK (hT) (qA [0, 1]) ?_
  refine den_fin (qA [0, 1]) (qC) _ (by simp only [go_sem]; rfl) (by rfl) (by rfl) ?_
  simp (disch := omega) only [go_sem, Nat.reduceEqDiff, Nat.reduceAdd, Nat.reduceSub, Int.reduceAdd, Int.reduceSub, Int.reduceToNat]
  try simp [addrNone, letNone]
 ·have h4 := spec_l01Below b c3 o3 50
  have o4 := CurD.below_ok o3 50
  have b4 := c3.below_lt b (n := 50) (by omega)
  generalize c3.below b 50 = r4 at h4 o4 b4
  obtain ⟨v4, c4⟩ := r4
  dsimp only at h4 o4 b4
  refine ⟨⟨2, 1 + v1, v2, v4, [], addrNone, letNone⟩, c4, o4, ⟨by simp only [ActD.wf, LetterD.wf, I64, maxLen, letNone, addrNone, List.length_nil] at *; omega, by simp only [List.length_nil]; omega, by simp only [actOk, inR, isN, Bool.and_eq_true, decide_eq_true_eq, List.length_nil]; omega⟩, ?_⟩
  refine qE Tryz.func27 Tryz.ntmps27 Tryz.results27 fun E hE => ?_
  refine qK (h1) (qA [0, 1]) ?_
  refine qK (h2) (qA [0, 1]) ?_
  refine qK (h3) (qA [0, 1, 4]) ?_
  refine qK (h4) (qA [0, 1]) ?_
  refine den_fin (qA [0, 1]) (qC) _ (by simp only [go_sem]; rfl) (by rfl) (by rfl) ?_
  simp (disch := omega) only [go_sem, Nat.reduceEqDiff, Nat.reduceAdd, Nat.reduceSub, Int.reduceAdd, Int.reduceSub, Int.reduceToNat]
  try simp [addrNone, letNone]
 ·have h4 := spec_l01Below b c3 o3 3
  have o4 := CurD.below_ok o3 3
  have b4 := c3.below_lt b (n := 3) (by omega)
  generalize c3.below b 3 = r4 at h4 o4 b4
  obtain ⟨v4, c4⟩ := r4
  dsimp only at h4 o4 b4
  have h5 := spec_l01Below b c4 o4 3
  have o5 := CurD.below_ok o4 3
  have b5 := c4.below_lt b (n := 3) (by omega)
  generalize c4.below b 3 = r5 at h5 o5 b5
  obtain ⟨v5, c5⟩ := r5
  dsimp only at h5 o5 b5
  have h6 := spec_l01Once b c5 o5 4
  have o6 := CurD.below_ok o5 4
  have b6 := c5.below_lt b (n := 4) (by omega)
  generalize c5.below b 4 = r6 at h6 o6 b6
  obtain ⟨v6, c6⟩ := r6
  dsimp only at h6 o6 b6
  generalize hq6 : (v6 == 0) = q6 at h6
  refine ⟨⟨5, 1 + v1, v2, 0, [], ⟨1 + v4, 10 * (1 + v1) + 2 + v5, q6, false⟩, letNone⟩, c6, o6, ⟨by simp only [ActD.wf, LetterD.wf, I64, maxLen, letNone, addrNone, List.length_nil] at *; omega, by simp only [List.length_nil]; omega, by simp only [actOk, inR, isN, Bool.and_eq_true, decide_eq_true_eq, List.length_nil]; omega⟩, ?_⟩
  refine qE Tryz.func27 Tryz.ntmps27 Tryz.results27 fun E hE => ?_
  refine qK (h1) (qA [0, 1]) ?_
  refine qK (h2) (qA [0, 1]) ?_
  refine qK (h3) (qA [0, 1, 4]) ?_
  refine den_drawW [(1, 4), (4, 8), (4, 11)] [[0, 3, 7, 10, 1, 2, 4, 5, 6, 8, 9, 11, 12, 13, 14], [0, 3, 7, 10, 1, 2, 8, 4, 5, 6, 9, 11, 12, 13, 14], [0, 3, 7, 10, 1, 2, 8, 11, 4, 5, 6, 9, 12, 13, 14], [0, 3, 7, 10, 4, 5, 6, 1, 2, 8, 9, 11, 12, 13, 14]] (by kernel_rfl) (qC) (by kernel_rfl) ?_
  simp only [allDn]
  refine ⟨runW_den 400 ?_, runW_den 400 ?_, runW_den 400 ?_, runW_den 400 ?_⟩
  all_goals simp (disch := omega) only [go_sem, Nat.reduceEqDiff, Nat.reduceAdd, Nat.reduceSub, Int.reduceAdd, Int.reduceSub, Int.reduceToNat]
  all_goals
   refine den_callW (qC) (h4) (qA [0, 1]) qM (by rfl) (runW_den 400 ?_)
   simp (disch := omega) only [go_sem, Nat.reduceEqDiff, Nat.reduceAdd, Nat.reduceSub, Int.reduceAdd, Int.reduceSub, Int.reduceToNat]
   refine den_callW (qC) (h5) (qA [0, 1]) qM (by rfl) (runW_den 400 ?_)
   simp (disch := omega) only [go_sem, Nat.reduceEqDiff, Nat.reduceAdd, Nat.reduceSub, Int.reduceAdd, Int.reduceSub, Int.reduceToNat]
   refine den_callW (qC) (h6) (qA [0, 1]) qM (by rfl) (runW_den 400 ?_)
   simp (disch := omega) only [go_sem, Nat.reduceEqDiff, Nat.reduceAdd, Nat.reduceSub, Int.reduceAdd, Int.reduceSub, Int.reduceToNat]
   refine qG ?_
   refine den_fin (qA [0, 1]) (qC) _ (by simp only [go_sem]; rfl) (by rfl) (by rfl) ?_
   simp (disch := omega) only [go_sem, Nat.reduceEqDiff, Nat.reduceAdd, Nat.reduceSub, Int.reduceAdd, Int.reduceSub, Int.reduceToNat]
   try simp [addrNone, letNone]
 ·have h4 := spec_l01Below b c3 o3 4
  have o4 := CurD.below_ok o3 4
  have b4 := c3.below_lt b (n := 4) (by omega)
  generalize c3.below b 4 = r4 at h4 o4 b4
  obtain ⟨v4, c4⟩ := r4
  dsimp only at h4 o4 b4
  refine ⟨⟨6, 1 + v1, v4, 0, [], addrNone, letNone⟩, c4, o4, ⟨by simp only [ActD.wf, LetterD.wf, I64, maxLen, letNone, addrNone, List.length_nil] at *; omega, by simp only [List.length_nil]; omega, by simp only [actOk, inR, isN, Bool.and_eq_true, decide_eq_true_eq, List.length_nil]; omega⟩, ?_⟩
  refine qE Tryz.func27 Tryz.ntmps27 Tryz.results27 fun E hE => ?_
  refine qK (h1) (qA [0, 1]) ?_
  refine qK (h2) (qA [0, 1]) ?_
  refine qK (h3) (qA [0, 1, 4]) ?_
  refine qK (h4) (qA [0, 1]) ?_
  refine den_fin (qA [0, 1]) (qC) _ (by simp only [go_sem]; rfl) (by rfl) (by rfl) ?_
  simp (disch := omega) only [go_sem, Nat.reduceEqDiff, Nat.reduceAdd, Nat.reduceSub, Int.reduceAdd, Int.reduceSub, Int.reduceToNat]
  try simp [addrNone, letNone]
 ·have h4 := spec_l01PickInt b c3 o3 [0, 0, 0, 1, 2] (by decide) (by decide)
  have o4 := CurD.below_ok o3 (b := b) 5
  have m4 := c3.pick_mem b (l := [0, 0, 0, 1, 2]) (by decide)
  have w4 := (by decide : ∀ x ∈ ([0, 0, 0, 1, 2] : List Int), 0 ≤ x ∧ x ≤ 2) _ m4
  rw [show (([0, 0, 0, 1, 2] : List Int).length : Int) = 5 from rfl] at h4
  generalize c3.pick b [0, 0, 0, 1, 2] = v4 at h4 w4
  clear m4
  generalize c3.below b 5 = r4 at h4 o4
  obtain ⟨u4, c4⟩ := r4
  dsimp only at h4 o4
  refine ⟨⟨8, 1 + v1, v4, 0, [], addrNone, letNone⟩, c4, o4, ⟨by simp only [ActD.wf, LetterD.wf, I64, maxLen, letNone, addrNone, List.length_nil] at *; omega, by simp only [List.length_nil]; omega, by simp only [actOk, inR, isN, Bool.and_eq_true, decide_eq_true_eq, List.length_nil]; omega⟩, ?_⟩
  refine qE Tryz.func27 Tryz.ntmps27 Tryz.results27 fun E hE => ?_
  refine qK (h1) (qA [0, 1]) ?_
  refine qK (h2) (qA [0, 1]) ?_
  refine qK (h3) (qA [0, 1, 4]) ?_
  refine qK (h4) (qA [0, 1, 5]) ?_
  refine den_fin (qA [0, 1]) (qC) _ (by simp only [go_sem]; rfl) (by rfl) (by rfl) ?_
  simp (disch := omega) only [go_sem, Nat.reduceEqDiff, Nat.reduceAdd, Nat.reduceSub, Int.reduceAdd, Int.reduceSub, Int.reduceToNat]
  try simp [addrNone, letNone]
 ·obtain ⟨x, c4, o4, w4, h4⟩ := spec_l16Letter b c3 o3
  have h5 := spec_l01Once b c4 o4 2
  have o5 := CurD.below_ok o4 2
  have b5 := c4.below_lt b (n := 2) (by omega)
  generalize c4.below b 2 = r5 at h5 o5 b5
  obtain ⟨v5, c5⟩ := r5
  dsimp only at h5 o5 b5
  generalize hq5 : (v5 == 0) = q5 at h5
  rcases Bool.eq_false_or_eq_true q5 with e5 | e5 <;> rw [e5] at h5
  ·have h6 := spec_l01PickInt b c5 o5 [4, 6, 11, 8, 13] (by decide) (by decide)
   have o6 := CurD.below_ok o5 (b := b) 5
   have m6 := c5.pick_mem b (l := [4, 6, 11, 8, 13]) (by decide)
   have w6 := (by decide : ∀ x ∈ ([4, 6, 11, 8, 13] : List Int), 4 ≤ x ∧ x ≤ 13) _ m6
   rw [show (([4, 6, 11, 8, 13] : List Int).length : Int) = 5 from rfl] at h6
   generalize c5.pick b [4, 6, 11, 8, 13] = v6 at h6 w6
   clear m6
   generalize c5.below b 5 = r6 at h6 o6
   obtain ⟨u6, c6⟩ := r6
   dsimp only at h6 o6
   refine ⟨⟨11, 1 + v1, v2, 0, [], addrNone, { x with kind := v6, token := 102, tag := ⟨0, 0, 0, 0, 0⟩ }⟩, c6, o6, ⟨by simp only [ActD.wf, LetterD.wf, I64, maxLen, letNone, addrNone, List.length_nil] at *; omega, by simp only [List.length_nil]; omega, by simp only [actOk, inR, isN, Bool.and_eq_true, decide_eq_true_eq, List.length_nil]; omega⟩, ?_⟩
   refine qE Tryz.func27 Tryz.ntmps27 Tryz.results27 fun E hE => ?_
   refine qK (h1) (qA [0, 1]) ?_
   refine qK (h2) (qA [0, 1]) ?_
   refine qK (h3) (qA [0, 1, 4]) ?_
   refine qK (h4) (qA [0, 1]) ?_
   refine qK (h5) (qA [0, 1]) ?_
   refine qK (h6) (qA [0, 1, 5]) ?_
   refine den_fin (qA [0, 1]) (qC) _ (by simp only [go_sem]; rfl) (by rfl) (by rfl) ?_
   simp (disch := omega) only [go_sem, Nat.reduceEqDiff, Nat.reduceAdd, Nat.reduceSub, Int.reduceAdd, Int.reduceSub, Int.reduceToNat]
   try simp [addrNone, letNone]
  ·refine ⟨⟨11, 1 + v1, v2, 0, [], addrNone, { x with tag := ⟨0, 0, 0, 0, 0⟩ }⟩, c5, o5, ⟨by simp only [ActD.wf, LetterD.wf, I64, maxLen, letNone, addrNone, List.length_nil] at *; omega, by simp only [List.length_nil]; omega, by simp only [actOk, inR, isN, Bool.and_eq_true, decide_eq_true_eq, List.length_nil]; omega⟩, ?_⟩
   refine qE Tryz.func27 Tryz.ntmps27 Tryz.results27 fun E hE => ?_
   refine qK (h1) (qA [0, 1]) ?_
   refine qK (h2) (qA [0, 1]) ?_
   refine qK (h3) (qA [0, 1, 4]) ?_
   refine qK (h4) (qA [0, 1]) ?_
   refine qK (h5) (qA [0, 1]) ?_
   refine den_fin (qA [0, 1]) (qC) _ (by simp only [go_sem]; rfl) (by rfl) (by rfl) ?_
   simp (disch := omega) only [go_sem, Nat.reduceEqDiff, Nat.reduceAdd, Nat.reduceSub, Int.reduceAdd, Int.reduceSub, Int.reduceToNat]
   try simp [addrNone, letNone]
 ·have h4 := spec_l01Below b c3 o3 30
  have o4 := CurD.below_ok o3 30
  have b4 := c3.below_lt b (n := 30) (by omega)
  generalize c3.below b 30 = r4 at h4 o4 b4
  obtain ⟨v4, c4⟩ := r4
  dsimp only at h4 o4 b4
  refine ⟨⟨12, 1 + v1, v4, 0, [], addrNone, letNone⟩, c4, o4, ⟨by simp only [ActD.wf, LetterD.wf, I64, maxLen, letNone, addrNone, List.length_nil] at *; omega, by simp only [List.length_nil]; omega, by simp only [actOk, inR, isN, Bool.and_eq_true, decide_eq_true_eq, List.length_nil]; omega⟩, ?_⟩
  refine qE Tryz.func27 Tryz.ntmps27 Tryz.results27 fun E hE => ?_
  refine qK (h1) (qA [0, 1]) ?_
  refine qK (h2) (qA [0, 1]) ?_
  refine qK (h3) (qA [0, 1, 4]) ?_
  refine qK (h4) (qA [0, 1]) ?_
  refine den_fin (qA [0, 1]) (qC) _ (by simp only [go_sem]; rfl) (by rfl) (by rfl) ?_
  simp (disch := omega) only [go_sem, Nat.reduceEqDiff, Nat.reduceAdd, Nat.reduceSub, Int.reduceAdd, Int.reduceSub, Int.reduceToNat]
  try simp [addrNone, letNone]
 ·obtain ⟨n1, n2, n5, n6, n8, n11, n12⟩ := hv
  refine ⟨⟨v3, 1 + v1, v2, 0, [], addrNone, letNone⟩, c3, o3, ⟨by simp only [ActD.wf, LetterD.wf, I64, maxLen, letNone, addrNone, List.length_nil] at *; omega, by simp only [List.length_nil]; omega, by simp only [actOk, inR, isN, Bool.and_eq_true, decide_eq_true_eq, List.length_nil]; omega⟩, ?_⟩
  refine qE Tryz.func27 Tryz.ntmps27 Tryz.results27 fun E hE => ?_
  refine qK (h1) (qA [0, 1]) ?_
  refine qK (h2) (qA [0, 1]) ?_
  refine qK (h3) (qA [0, 1, 4]) ?_
  refine den_fin (qA [0, 1]) (qC) _ (by simp only [go_sem]; rfl) (by rfl) (by rfl) ?_
  simp (disch := omega) only [go_sem, Nat.reduceEqDiff, Nat.reduceAdd, Nat.reduceSub, Int.reduceAdd, Int.reduceSub, Int.reduceToNat]
  try simp [addrNone, letNone]
end
section
open Go.RowKit

theorem impl_HearJoinBack (e : EndD) (x : LetterD) (hs : Small e) : CallA Tryz.prog 112 [.ag (e.cs 0), .ag x.cs] (e.hp false) (.tu [.ag ((hearJoinBack e x).1.cs 7), .sc (.sl 14 0 (hearJoinBack e x).2.length)])
  (e.hp false ++ ((hearJoinBack e x).1.hp true ++ [some ⟨(hearJoinBack e x).2.map LetterD.cs, 19, 57, true, true⟩])) := by
 have hC := impl_copyEnd e (by have := hs.own; omega) (by have := hs.far; omega) (by have := hs.subs; omega) (by have := hs.halfs; omega) (by have := hs.list; omega) (by have := hs.done; omega) (by have := hs.over; omega)
 have hK := impl_EndOk e (by have := hs.own; omega) (by have := hs.far; omega) (by have := hs.subs; omega) (by have := hs.halfs; omega) (by have := hs.list; omega) (by have := hs.done; omega) (by have := hs.over; omega)
 have hS := impl_SubAt e (roadOf x) (by have := hs.subs; omega)
 have hL := impl_LetterOk x
 have hbd := subAt_bd e.subs (roadOf x)
 have hf := jb_f (e := e) (x := x)
 have ht := fun (n : Nat) => @jb_t e x n
 generalize hearJoinBack e x = R at *
 refine qE Tryz.func112 Tryz.ntmps112 Tryz.results112 fun E hE => ?_
 refine qK (hC) (qA [0, 1, 2, 3, 4, 5, 6]) ?_
 refine qD [0, 1, 2, 3, 4] ?_
 refine qKD (impl_RoadOf x) [] ?_
 refine qKD (hS) (qA [0, 1, 2, 3, 4, 5, 6]) ?_
 refine qG ?_
 rcases hbd with hk | ⟨hb0, hb1⟩
 ·rw [hf (jb_no hk), hk]
  refine qD [0, 1, 2, 3, 4, 5, 6, 7, 8, 9, 10, 11, 12, 13, 14, 15, 16, 17, 18, 19, 20, 21, 22, 23, 24, 25, 26, 27, 28, 29, 30, 31, 32, 33, 34, 35, 36, 37, 38, 39, 40, 41, 42, 43] ?_
  refine qKD (hK) (qA [0, 1, 2, 3, 4, 5, 6]) ?_
  refine qB (fun h1 => ?_) fun h1 => ?_
  ·refine qKD (hL) [] ?_
   refine qB (fun h2 => ?_) fun h2 => ?_
   ·refine qB (fun h3 => ?_) fun h3 => ?_
    ·refine qG ?_
     exact qF [some (0, none), some (1, none), some (2, none), some (3, none), some (4, none), some (5, none), some (6, none), some (10, none), some (11, none), some (12, none), some (13, none), some (14, none), some (15, none), some (16, none), none]
    ·refine qG ?_
     exact qF [some (0, none), some (1, none), some (2, none), some (3, none), some (4, none), some (5, none), some (6, none), some (10, none), some (11, none), some (12, none), some (13, none), some (14, none), some (15, none), some (16, none), none]
   ·refine qG ?_
    exact qF [some (0, none), some (1, none), some (2, none), some (3, none), some (4, none), some (5, none), some (6, none), some (10, none), some (11, none), some (12, none), some (13, none), some (14, none), some (15, none), some (16, none), none]
  ·refine qG ?_
   exact qF [some (0, none), some (1, none), some (2, none), some (3, none), some (4, none), some (5, none), some (6, none), some (10, none), some (11, none), some (12, none), some (13, none), some (14, none), some (15, none), some (16, none), none]
 ·obtain ⟨n, hk⟩ := Int.eq_ofNat_of_zero_le hb0
  have hn : n < e.subs.length := by omega
  have ha := jb_at hk hn
  have hcmp := TagD.cmp x.tag ⟨1, e.peer, e.key, x.nonce, e.subs[n].mine⟩
  simp only [TagD.cs, go_sem] at hcmp
  rw [hk]
  refine qD [0, 1, 2, 3, 4, 5, 6, 7, 8, 9, 10, 11, 12, 13, 14, 15, 16, 17, 18, 19, 20, 21, 22, 23, 24, 25, 26, 27, 28, 29, 30, 31, 32, 33, 34, 35, 36, 37, 38, 39, 40, 41, 42, 43] ?_
  refine qKD (hK) (qA [0, 1, 2, 3, 4, 5, 6]) ?_
  refine qB (fun h1 => ?_) fun h1 => ?_
  ·refine qKD (hL) [] ?_
   refine qB (fun h2 => ?_) fun h2 => ?_
   ·refine qB (fun h3 => ?_) fun h3 => ?_
    ·refine qB (fun h4 => ?_) fun h4 => ?_
     ·refine qKD (impl_TagBack _ _ _ _) [] ?_
      refine ⟨qC, run_den 400 ?_⟩
      try simp (disch := omega) only [go_sem, Nat.reduceEqDiff, Nat.reduceAdd, Nat.reduceSub, Int.reduceAdd, Int.reduceSub, Int.reduceToNat, hcmp]
      refine qB (fun h5 => ?_) fun h5 => ?_
      ·rw [hf (by rw [ha]; simp [h1, h2, h3, h4, h5])]
       refine qX ?_
       exact qF [some (0, none), some (1, none), some (2, none), some (3, none), some (4, none), some (5, none), some (6, none), some (10, none), some (11, none), some (12, none), some (13, none), some (14, none), some (15, none), some (16, none), none]
      ·rw [ht _ (by rw [ha]; simp [h1, h2, h3, h4, h5]) hk hn]
       refine qX ?_
       refine den_drawC [(6, 7)] [[0, 1, 2, 3, 4, 5, 6, 7, 8], [0, 1, 2, 3, 4, 5, 7, 6, 8]] (by kernel_rfl) (qC) (by kernel_rfl) ?_
       simp only [allDn]
       refine ⟨runD_den 400 ?_, runD_den 400 ?_⟩
       all_goals simp (disch := omega) only [go_sem, Nat.reduceEqDiff, Nat.reduceAdd, Nat.reduceSub, Int.reduceAdd, Int.reduceSub, Int.reduceToNat]
       all_goals
        refine qKD (impl_doneLetter e (jbSub e.subs[n] x)) (qA [0, 1, 2, 3, 4, 5, 6]) ?_
        refine qG ?_
        refine den_fin (qA [0, 1, 2, 3, 4, 5, 6, 10, 11, 12, 13, 14, 15, 16, 18]) (qC) _ (by simp only [go_sem]; rfl) (by rfl) (by rfl) ?_
        simp (disch := omega) only [go_sem, Nat.reduceEqDiff, Nat.reduceAdd, Nat.reduceSub, Int.reduceAdd, Int.reduceSub, Int.reduceToNat]
        try simp [List.map_set, SubD.cs, jbSub, doneLetter, between, LetterD.cs]
     ·rw [hf (by rw [ha]; simp [h1, h2, h3, h4])]
      refine qG ?_
      exact qF [some (0, none), some (1, none), some (2, none), some (3, none), some (4, none), some (5, none), some (6, none), some (10, none), some (11, none), some (12, none), some (13, none), some (14, none), some (15, none), some (16, none), none]
    ·rw [hf (by rw [ha]; simp [h1, h2, h3])]
     refine qG ?_
     exact qF [some (0, none), some (1, none), some (2, none), some (3, none), some (4, none), some (5, none), some (6, none), some (10, none), some (11, none), some (12, none), some (13, none), some (14, none), some (15, none), some (16, none), none]
   ·rw [hf (by rw [ha]; simp [h1, h2])]
    refine qG ?_
    exact qF [some (0, none), some (1, none), some (2, none), some (3, none), some (4, none), some (5, none), some (6, none), some (10, none), some (11, none), some (12, none), some (13, none), some (14, none), some (15, none), some (16, none), none]
  ·rw [hf (by rw [ha]; simp [h1])]
   refine qG ?_
   exact qF [some (0, none), some (1, none), some (2, none), some (3, none), some (4, none), some (5, none), some (6, none), some (10, none), some (11, none), some (12, none), some (13, none), some (14, none), some (15, none), some (16, none), none]
end
section
open Go.RowKit

theorem impl_HearJoinDone (e : EndD) (x : LetterD) (hs : Small e) : CallA Tryz.prog 113 [.ag (e.cs 0), .ag x.cs] (e.hp false) (.tu [.ag ((hearJoinDone e x).1.cs 7), .sc (.sl 14 0 (hearJoinDone e x).2.length)])
  (e.hp false ++ ((hearJoinDone e x).1.hp true ++ [some ⟨(hearJoinDone e x).2.map LetterD.cs, 19, 57, true, true⟩])) := by
 have hC := impl_copyEnd e (by have := hs.own; omega) (by have := hs.far; omega) (by have := hs.subs; omega) (by have := hs.halfs; omega) (by have := hs.list; omega) (by have := hs.done; omega) (by have := hs.over; omega)
 have hK := impl_EndOk e (by have := hs.own; omega) (by have := hs.far; omega) (by have := hs.subs; omega) (by have := hs.halfs; omega) (by have := hs.list; omega) (by have := hs.done; omega) (by have := hs.over; omega)
 have hS := impl_SubAt e (roadOf x) (by have := hs.subs; omega)
 have hH := impl_HalfAt e.halfs (roadOf x) (by have := hs.halfs; omega)
 have hD := impl_DropHalf e.halfs (roadOf x) (by have := hs.halfs; omega)
 have hL := impl_LetterOk x
 have hbS := subAt_bd e.subs (roadOf x)
 have hbH := halfAt_bd e.halfs (roadOf x)
 have hf := jd_f (e := e) (x := x)
 have hf2 := jd_f2 (e := e) (x := x)
 have hb := fun n => @jd_b e x n
 have ha1 := fun i n => @jd_a1 e x i n
 have ha2 := fun i => @jd_a2 e x i
 generalize hearJoinDone e x = R at *
 refine qE Tryz.func113 Tryz.ntmps113 Tryz.results113 fun E hE => ?_
 refine qK (hC) (qA [0, 1, 2, 3, 4, 5, 6]) ?_
 refine qK (hK) (qA [0, 1, 2, 3, 4, 5, 6]) ?_
 refine qB (fun h1 => ?_) fun h1 => ?_
 ·refine qK (hL) [] ?_
  refine qB (fun h2 => ?_) fun h2 => ?_
  ·refine qB (fun h3 => ?_) fun h3 => ?_
   ·rw [hf (by simp [jdIn, h1, h2, h3])]
    refine qX ?_
    exact qF [some (0, none), some (1, none), some (2, none), some (3, none), some (4, none), some (5, none), some (6, none), some (10, none), some (11, none), some (12, none), some (13, none), some (14, none), some (15, none), some (16, none), none]
   ·have hin : jdIn e x = true := by simp [jdIn, h1, h2, h3]
    refine qX ?_
    refine qK (impl_RoadOf x) [] ?_
    refine qK (hH) (qA [3]) ?_
    refine qK (hS) (qA [0, 1, 2, 3, 4, 5, 6]) ?_
    rcases hbS with hk | ⟨hk0, hk1⟩
    ·rcases hbH with hi | ⟨hi0, hi1⟩
     ·rw [hi]
      rw [hk]
      refine qX ?_
      refine qD [0, 1, 2, 3, 4, 5, 6, 7, 8, 9, 10, 11, 12, 13, 14, 15, 16, 17, 18, 19, 20, 21, 22, 23, 24, 25, 26, 27, 28, 29] ?_
      refine qG ?_
      rw [hf2 hin (jdA_no hi) (jdB_no hk)]
      refine qD [0, 1, 2, 3, 4, 5, 6, 7, 8, 9, 10, 11, 12, 13, 14, 15, 16, 17, 18, 19, 20, 21, 22, 23, 24, 25, 26, 27, 28, 29, 30, 31, 32] ?_
      refine qG ?_
      exact qF [some (0, none), some (1, none), some (2, none), some (3, none), some (4, none), some (5, none), some (6, none), some (10, none), some (11, none), some (12, none), some (13, none), some (14, none), some (15, none), some (16, none), none]
     ·obtain ⟨i, hi⟩ := Int.eq_ofNat_of_zero_le hi0
      have hil : i < e.halfs.length := by omega
      have hcmp := TagD.cmp x.tag ⟨2, e.peer, e.key, e.halfs[i].theirs, e.halfs[i].mine⟩
      simp only [TagD.cs, go_sem] at hcmp
      rw [hi]
      rw [hk]
      refine qX ?_
      refine qD [0, 1, 2, 3, 4, 5, 6, 7, 8, 9, 10, 11, 12, 13, 14, 15, 16, 17, 18, 19, 20, 21, 22, 23, 24, 25, 26, 27, 28, 29] ?_
      refine qB (fun h4 => ?_) fun h4 => ?_
      ·refine qKD (impl_TagDone _ _ _ _) [] ?_
       refine ⟨qC, run_den 400 ?_⟩
       try simp (disch := omega) only [go_sem, Nat.reduceEqDiff, Nat.reduceAdd, Nat.reduceSub, Int.reduceAdd, Int.reduceSub, Int.reduceToNat, hcmp]
       refine qB (fun h5 => ?_) fun h5 => ?_
       ·have hjA : jdA e x = true := by rw [jdA_at hi hil]; simp [h4, h5]; try omega
        rw [ha2 _ hin hjA hi hil hk]
        refine qX ?_
        refine qK (hD) (qA [3]) ?_
        refine qD [0, 1, 2, 3, 4, 5, 6] ?_
        refine qKD (impl_ackLetter (roadOf x) e.halfs[i].give) [] ?_
        refine qG ?_
        refine den_fin (qA [0, 1, 2, 3, 4, 5, 6, 10, 11, 21, 22, 14, 15, 16, 23]) (qC) _ (by simp only [go_sem]; rfl) (by rfl) (by rfl) ?_
        simp (disch := omega) only [go_sem, Nat.reduceEqDiff, Nat.reduceAdd, Nat.reduceSub, Int.reduceAdd, Int.reduceSub, Int.reduceToNat]
        try simp [List.map_set, SubD.cs, onSub]
       ·have hjA' : jdA e x = false := by rw [jdA_at hi hil]; simp [h5]
        refine qX ?_
        rw [hf2 hin (hjA') (jdB_no hk)]
        refine qD [0, 1, 2, 3, 4, 5, 6, 7, 8, 9, 10, 11, 12, 13, 14, 15, 16, 17, 18, 19, 20, 21, 22, 23, 24, 25, 26, 27, 28, 29, 30, 31, 32] ?_
        refine qG ?_
        exact qF [some (0, none), some (1, none), some (2, none), some (3, none), some (4, none), some (5, none), some (6, none), some (10, none), some (11, none), some (12, none), some (13, none), some (14, none), some (15, none), some (16, none), none]
      ·have hjA' : jdA e x = false := by rw [jdA_at hi hil]; simp; omega
       refine qG ?_
       rw [hf2 hin (hjA') (jdB_no hk)]
       refine qD [0, 1, 2, 3, 4, 5, 6, 7, 8, 9, 10, 11, 12, 13, 14, 15, 16, 17, 18, 19, 20, 21, 22, 23, 24, 25, 26, 27, 28, 29, 30, 31, 32] ?_
       refine qG ?_
       exact qF [some (0, none), some (1, none), some (2, none), some (3, none), some (4, none), some (5, none), some (6, none), some (10, none), some (11, none), some (12, none), some (13, none), some (14, none), some (15, none), some (16, none), none]
    ·obtain ⟨n, hk⟩ := Int.eq_ofNat_of_zero_le hk0
     have hn : n < e.subs.length := by omega
     have hrd := subAt_road hk hn
     rcases hbH with hi | ⟨hi0, hi1⟩
     ·rw [hi]
      rw [hk]
      refine qX ?_
      refine qD [0, 1, 2, 3, 4, 5, 6, 7, 8, 9, 10, 11, 12, 13, 14, 15, 16, 17, 18, 19, 20, 21, 22, 23, 24, 25, 26, 27, 28, 29] ?_
      refine qG ?_
      have hcmp2 := TagD.cmp x.tag ⟨2, e.peer, e.key, e.subs[n].theirs, e.subs[n].mine⟩
      simp only [TagD.cs, go_sem] at hcmp2
      have hjA := jdA_no hi
      refine qD [0, 1, 2, 3, 4, 5, 6, 7, 8, 9, 10, 11, 12, 13, 14, 15, 16, 17, 18, 19, 20, 21, 22, 23, 24, 25, 26, 27, 28, 29, 30, 31, 32] ?_
      refine qB (fun h6 => ?_) fun h6 => ?_
      ·refine qKD (impl_TagDone _ _ _ _) [] ?_
       refine ⟨qC, run_den 400 ?_⟩
       try simp (disch := omega) only [go_sem, Nat.reduceEqDiff, Nat.reduceAdd, Nat.reduceSub, Int.reduceAdd, Int.reduceSub, Int.reduceToNat, hcmp2]
       refine qB (fun h7 => ?_) fun h7 => ?_
       ·rw [hb _ hin hjA (by rw [jdB_at hk hn]; simp [h6, h7]) hk hn]
        refine qX ?_
        refine qD [0, 1, 2, 3, 4, 5, 6, 7, 8, 9, 10] ?_
        refine qKD (impl_ackLetter (roadOf x) e.subs[n].give) [] ?_
        refine qG ?_
        refine den_fin (qA [0, 1, 2, 3, 4, 5, 6, 10, 11, 12, 13, 14, 15, 16, 19]) (qC) _ (by simp only [go_sem]; rfl) (by rfl) (by rfl) ?_
        simp (disch := omega) only [go_sem, Nat.reduceEqDiff, Nat.reduceAdd, Nat.reduceSub, Int.reduceAdd, Int.reduceSub, Int.reduceToNat]
        try simp
       ·rw [hf2 hin hjA (by rw [jdB_at hk hn]; simp [h6, h7])]
        refine qX ?_
        exact qF [some (0, none), some (1, none), some (2, none), some (3, none), some (4, none), some (5, none), some (6, none), some (10, none), some (11, none), some (12, none), some (13, none), some (14, none), some (15, none), some (16, none), none]
      ·rw [hf2 hin hjA (by rw [jdB_at hk hn]; simp [h6])]
       refine qG ?_
       exact qF [some (0, none), some (1, none), some (2, none), some (3, none), some (4, none), some (5, none), some (6, none), some (10, none), some (11, none), some (12, none), some (13, none), some (14, none), some (15, none), some (16, none), none]
     ·obtain ⟨i, hi⟩ := Int.eq_ofNat_of_zero_le hi0
      have hil : i < e.halfs.length := by omega
      have hcmp := TagD.cmp x.tag ⟨2, e.peer, e.key, e.halfs[i].theirs, e.halfs[i].mine⟩
      simp only [TagD.cs, go_sem] at hcmp
      rw [hi]
      rw [hk]
      refine qX ?_
      refine qD [0, 1, 2, 3, 4, 5, 6, 7, 8, 9, 10, 11, 12, 13, 14, 15, 16, 17, 18, 19, 20, 21, 22, 23, 24, 25, 26, 27, 28, 29] ?_
      refine qB (fun h4 => ?_) fun h4 => ?_
      ·refine qKD (impl_TagDone _ _ _ _) [] ?_
       refine ⟨qC, run_den 400 ?_⟩
       try simp (disch := omega) only [go_sem, Nat.reduceEqDiff, Nat.reduceAdd, Nat.reduceSub, Int.reduceAdd, Int.reduceSub, Int.reduceToNat, hcmp]
       refine qB (fun h5 => ?_) fun h5 => ?_
       ·have hjA : jdA e x = true := by rw [jdA_at hi hil]; simp [h4, h5]; try omega
        rw [ha1 _ _ hin hjA hi hil hk hn]
        refine qX ?_
        refine qK (hD) (qA [3]) ?_
        refine qD [0, 1, 2, 3, 4, 5, 6] ?_
        refine qKD (impl_ackLetter (roadOf x) e.halfs[i].give) [] ?_
        refine qG ?_
        refine den_fin (qA [0, 1, 2, 3, 4, 5, 6, 10, 11, 21, 22, 14, 15, 16, 23]) (qC) _ (by simp only [go_sem]; rfl) (by rfl) (by rfl) ?_
        simp (disch := omega) only [go_sem, Nat.reduceEqDiff, Nat.reduceAdd, Nat.reduceSub, Int.reduceAdd, Int.reduceSub, Int.reduceToNat]
        try simp [List.map_set, SubD.cs, onSub]
       ·have hjA' : jdA e x = false := by rw [jdA_at hi hil]; simp [h5]
        refine qX ?_
        have hcmp2 := TagD.cmp x.tag ⟨2, e.peer, e.key, e.subs[n].theirs, e.subs[n].mine⟩
        simp only [TagD.cs, go_sem] at hcmp2
        have hjA := hjA'
        refine qD [0, 1, 2, 3, 4, 5, 6, 7, 8, 9, 10, 11, 12, 13, 14, 15, 16, 17, 18, 19, 20, 21, 22, 23, 24, 25, 26, 27, 28, 29, 30, 31, 32] ?_
        refine qB (fun h6 => ?_) fun h6 => ?_
        ·refine qKD (impl_TagDone _ _ _ _) [] ?_
         refine ⟨qC, run_den 400 ?_⟩
         try simp (disch := omega) only [go_sem, Nat.reduceEqDiff, Nat.reduceAdd, Nat.reduceSub, Int.reduceAdd, Int.reduceSub, Int.reduceToNat, hcmp2]
         refine qB (fun h7 => ?_) fun h7 => ?_
         ·rw [hb _ hin hjA (by rw [jdB_at hk hn]; simp [h6, h7]) hk hn]
          refine qX ?_
          refine qD [0, 1, 2, 3, 4, 5, 6, 7, 8, 9, 10] ?_
          refine qKD (impl_ackLetter (roadOf x) e.subs[n].give) [] ?_
          refine qG ?_
          refine den_fin (qA [0, 1, 2, 3, 4, 5, 6, 10, 11, 12, 13, 14, 15, 16, 19]) (qC) _ (by simp only [go_sem]; rfl) (by rfl) (by rfl) ?_
          simp (disch := omega) only [go_sem, Nat.reduceEqDiff, Nat.reduceAdd, Nat.reduceSub, Int.reduceAdd, Int.reduceSub, Int.reduceToNat]
          try simp
         ·rw [hf2 hin hjA (by rw [jdB_at hk hn]; simp [h6, h7])]
          refine qX ?_
          exact qF [some (0, none), some (1, none), some (2, none), some (3, none), some (4, none), some (5, none), some (6, none), some (10, none), some (11, none), some (12, none), some (13, none), some (14, none), some (15, none), some (16, none), none]
        ·rw [hf2 hin hjA (by rw [jdB_at hk hn]; simp [h6])]
         refine qG ?_
         exact qF [some (0, none), some (1, none), some (2, none), some (3, none), some (4, none), some (5, none), some (6, none), some (10, none), some (11, none), some (12, none), some (13, none), some (14, none), some (15, none), some (16, none), none]
      ·have hjA' : jdA e x = false := by rw [jdA_at hi hil]; simp; omega
       refine qG ?_
       have hcmp2 := TagD.cmp x.tag ⟨2, e.peer, e.key, e.subs[n].theirs, e.subs[n].mine⟩
       simp only [TagD.cs, go_sem] at hcmp2
       have hjA := hjA'
       refine qD [0, 1, 2, 3, 4, 5, 6, 7, 8, 9, 10, 11, 12, 13, 14, 15, 16, 17, 18, 19, 20, 21, 22, 23, 24, 25, 26, 27, 28, 29, 30, 31, 32] ?_
       refine qB (fun h6 => ?_) fun h6 => ?_
       ·refine qKD (impl_TagDone _ _ _ _) [] ?_
        refine ⟨qC, run_den 400 ?_⟩
        try simp (disch := omega) only [go_sem, Nat.reduceEqDiff, Nat.reduceAdd, Nat.reduceSub, Int.reduceAdd, Int.reduceSub, Int.reduceToNat, hcmp2]
        refine qB (fun h7 => ?_) fun h7 => ?_
        ·rw [hb _ hin hjA (by rw [jdB_at hk hn]; simp [h6, h7]) hk hn]
         refine qX ?_
         refine qD [0, 1, 2, 3, 4, 5, 6, 7, 8, 9, 10] ?_
         refine qKD (impl_ackLetter (roadOf x) e.subs[n].give) [] ?_
         refine qG ?_
         refine den_fin (qA [0, 1, 2, 3, 4, 5, 6, 10, 11, 12, 13, 14, 15, 16, 19]) (qC) _ (by simp only [go_sem]; rfl) (by rfl) (by rfl) ?_
         simp (disch := omega) only [go_sem, Nat.reduceEqDiff, Nat.reduceAdd, Nat.reduceSub, Int.reduceAdd, Int.reduceSub, Int.reduceToNat]
         try simp
        ·rw [hf2 hin hjA (by rw [jdB_at hk hn]; simp [h6, h7])]
         refine qX ?_
         exact qF [some (0, none), some (1, none), some (2, none), some (3, none), some (4, none), some (5, none), some (6, none), some (10, none), some (11, none), some (12, none), some (13, none), some (14, none), some (15, none), some (16, none), none]
       ·rw [hf2 hin hjA (by rw [jdB_at hk hn]; simp [h6])]
        refine qG ?_
        exact qF [some (0, none), some (1, none), some (2, none), some (3, none), some (4, none), some (5, none), some (6, none), some (10, none), some (11, none), some (12, none), some (13, none), some (14, none), some (15, none), some (16, none), none]
  ·rw [hf (by simp [jdIn, h2])]
   refine qX ?_
   exact qF [some (0, none), some (1, none), some (2, none), some (3, none), some (4, none), some (5, none), some (6, none), some (10, none), some (11, none), some (12, none), some (13, none), some (14, none), some (15, none), some (16, none), none]
 ·rw [hf (by simp [jdIn, h1])]
  refine qX ?_
  exact qF [some (0, none), some (1, none), some (2, none), some (3, none), some (4, none), some (5, none), some (6, none), some (10, none), some (11, none), some (12, none), some (13, none), some (14, none), some (15, none), some (16, none), none]

end
section
open Go.RowKit

theorem impl_HearJoin (e : EndD) (x : LetterD) (hs : Small e) : CallA Tryz.prog 111 [.ag (e.cs 0), .ag x.cs] (e.hp false) (.tu [.ag ((hearJoin e x).1.cs 7), .sc (.sl 14 0 (hearJoin e x).2.length)])
  (e.hp false ++ ((hearJoin e x).1.hp true ++ [some ⟨(hearJoin e x).2.map LetterD.cs, 19, 57, true, true⟩])) := by
 have hC := impl_copyEnd e (by have := hs.own; omega) (by have := hs.far; omega) (by have := hs.subs; omega) (by have := hs.halfs; omega) (by have := hs.list; omega) (by have := hs.done; omega) (by have := hs.over; omega)
 have hK := impl_EndOk e (by have := hs.own; omega) (by have := hs.far; omega) (by have := hs.subs; omega) (by have := hs.halfs; omega) (by have := hs.list; omega) (by have := hs.done; omega) (by have := hs.over; omega)
 have hH := impl_HalfAt e.halfs (roadOf x) (by have := hs.halfs; omega)
 have hO := impl_OwnsAddr e x.to (by have := hs.own; omega)
 have hT := impl_TakeOne e.bucket
 have hL := impl_LetterOk x
 have hTk := impl_TokenFor e.side
 have hbH := halfAt_bd e.halfs (roadOf x)
 have hf := hj_f (e := e) (x := x)
 have hns := fun i => @hj_s e x i
 have hnn := @hj_n e x
 have hok := hjOk.eq_1 e x
 generalize hearJoin e x = R at *
 refine qE Tryz.func111 Tryz.ntmps111 Tryz.results111 fun E hE => ?_
 refine qK (hC) (qA [0, 1, 2, 3, 4, 5, 6]) ?_
 refine qK (impl_RoadOf x) [] ?_
 refine qK (hH) (qA [3]) ?_
 rcases hbH with hi | ⟨hi0, hi1⟩
 ·rw [hi]
  refine qX ?_
  refine qD [0, 1, 2, 3, 4, 5, 6, 7, 8, 9, 10, 11, 12, 13, 14, 15, 16, 17, 18, 19, 20, 21, 22, 23, 24, 25, 26, 27, 28, 29, 30, 31, 32, 33, 34, 35, 36, 37, 38, 39, 40, 41, 42, 43, 44, 45, 46, 47, 48, 49, 50, 51, 52, 53] ?_
  refine qKD (hK) (qA [0, 1, 2, 3, 4, 5, 6]) ?_
  refine qB (fun h1 => ?_) fun h1 => ?_
  ·refine qKD (hL) [] ?_
   refine qB (fun h2 => ?_) fun h2 => ?_
   ·refine qB (fun h3 => ?_) fun h3 => ?_
    ·refine qKD (hTk) [] ?_
     refine qB (fun h4 => ?_) fun h4 => ?_
     ·refine qKD (hO) (qA [0, 1, 2, 3, 4, 5, 6]) ?_
      refine qB (fun h5 => ?_) fun h5 => ?_
      ·refine qB (fun h6 => ?_) fun h6 => ?_
       ·refine qB (fun h7 => ?_) fun h7 => ?_
        ·refine qKD (impl_canDrawTwo e) (qA [0, 1, 2, 3, 4, 5, 6]) ?_
         refine qB (fun h8 => ?_) fun h8 => ?_
         ·refine qG ?_
          refine qB (fun h9 => ?_) fun h9 => ?_
          ·rw [hf (by rw [hok]; first | (simp [h1, h2, h3, h4, h5, h6, h8, h9, hi]; done) | (simp [h1, h2, h3, h4, h5, h6, h8, h9, hi]; intros; omega))]
           exact qF [some (0, none), some (1, none), some (2, none), some (3, none), some (4, none), some (5, none), some (6, none), some (10, none), some (11, none), some (12, none), some (13, none), some (14, none), some (15, none), some (16, none), none]
          ·refine qX ?_
           refine qK (hT) [] ?_
           refine qB (fun h10 => ?_) fun h10 => ?_
           ·rw [hf (by rw [hok]; first | (simp [h1, h2, h3, h4, h5, h6, h8, h9, h10, hi]; done) | (simp [h1, h2, h3, h4, h5, h6, h8, h9, h10, hi]; intros; omega))]
            exact qF [some (0, none), some (1, none), some (2, none), some (3, none), some (4, none), some (5, none), some (6, none), some (10, none), some (11, none), some (12, none), some (13, none), some (14, none), some (15, none), some (16, none), none]
           ·have hnow := endOk_now h1
            have hok' : hjOk e x = true := by rw [hok]; have := halfsOk_le (endOk_halfs h1); have := endOk_subs h1; simp [h1, h2, h3, h4, h5, h6, h8, h9, h10, hi]; try omega
            refine qX ?_
            have hsm : hjSame e x = false := hjSame_no hi
            refine qD [0, 1, 2, 3, 4, 5, 6, 7, 8, 9, 10, 11, 12, 13, 14, 15, 16, 17, 18, 19, 20, 21, 22, 23] ?_
            refine qG ?_
            rw [hnn hok' hsm]
            refine qX ?_
            have hP := impl_PutHalf e.halfs (newHalf e x) (by have := halfsOk_le (endOk_halfs h1); omega)
            obtain ⟨Q, hQ⟩ : ∃ Q, Q = putHalf e.halfs (newHalf e x) := ⟨_, rfl⟩
            rw [← hQ] at hP ⊢
            have hQl : Q.1.length ≤ 1048576 := by rw [hQ]; have := halfsOk_le (endOk_halfs h1); have := putHalfL_len e.halfs (newHalf e x); unfold putHalf; split <;> dsimp only <;> omega
            refine qK (impl_drawTwo { e with bucket := (takeOne e.bucket).1 } h8) (qA [10, 11, 12, 13, 14, 15, 16, 17]) ?_
            refine qK (hP) (qA [13]) ?_
            refine den_drawC [(17, 18)] [[0, 1, 2, 3, 4, 5, 6, 7, 8, 9, 11, 12, 13, 14, 10, 15, 16, 17, 18, 19], [0, 1, 2, 3, 4, 5, 6, 7, 8, 9, 11, 12, 13, 14, 10, 15, 16, 18, 17, 19]] (by kernel_rfl) (qC) (by kernel_rfl) ?_
            simp only [allDn]
            refine ⟨runD_den 400 ?_, runD_den 400 ?_⟩
            all_goals simp (disch := omega) only [go_sem, Nat.reduceEqDiff, Nat.reduceAdd, Nat.reduceSub, Int.reduceAdd, Int.reduceSub, Int.reduceToNat]
            all_goals
             refine qKD (impl_TagBack _ _ _ _) [] ?_
             refine qKD (impl_Between (roadOf x) { letNone with kind := 5, tag := ⟨1, e.key, e.peer, (newHalf e x).mine, (newHalf e x).theirs⟩, nonce := (newHalf e x).mine, give := (newHalf e x).take }) [] ?_
             refine qG ?_
             refine den_fin (qA [0, 1, 2, 3, 4, 5, 6, 10, 11, 12, 21, 14, 15, 16, 22]) (qC) _ (by simp only [go_sem]; rfl) (by rfl) (by rfl) ?_
             simp (disch := omega) only [go_sem, Nat.reduceEqDiff, Nat.reduceAdd, Nat.reduceSub, Int.reduceAdd, Int.reduceSub, Int.reduceToNat]
             try simp [List.map_set, HalfD.cs, backL, newHalf, between, LetterD.cs, letNone]
             try omega
         ·rw [hf (by rw [hok]; first | (simp [h1, h2, h3, h4, h5, h6, h8, hi]; done) | (simp [h1, h2, h3, h4, h5, h6, h8, hi]; intros; omega))]
          refine qG ?_
          exact qF [some (0, none), some (1, none), some (2, none), some (3, none), some (4, none), some (5, none), some (6, none), some (10, none), some (11, none), some (12, none), some (13, none), some (14, none), some (15, none), some (16, none), none]
        ·rw [hf (by rw [hok]; first | (simp [h1, h2, h3, h4, h5, h6, h7, hi]; done) | (simp [h1, h2, h3, h4, h5, h6, h7, hi]; intros; omega))]
         refine qG ?_
         exact qF [some (0, none), some (1, none), some (2, none), some (3, none), some (4, none), some (5, none), some (6, none), some (10, none), some (11, none), some (12, none), some (13, none), some (14, none), some (15, none), some (16, none), none]
       ·rw [hf (by rw [hok]; first | (simp [h1, h2, h3, h4, h5, h6, hi]; done) | (simp [h1, h2, h3, h4, h5, h6, hi]; intros; omega))]
        refine qG ?_
        exact qF [some (0, none), some (1, none), some (2, none), some (3, none), some (4, none), some (5, none), some (6, none), some (10, none), some (11, none), some (12, none), some (13, none), some (14, none), some (15, none), some (16, none), none]
      ·rw [hf (by rw [hok]; first | (simp [h1, h2, h3, h4, h5, hi]; done) | (simp [h1, h2, h3, h4, h5, hi]; intros; omega))]
       refine qG ?_
       exact qF [some (0, none), some (1, none), some (2, none), some (3, none), some (4, none), some (5, none), some (6, none), some (10, none), some (11, none), some (12, none), some (13, none), some (14, none), some (15, none), some (16, none), none]
     ·rw [hf (by rw [hok]; first | (simp [h1, h2, h3, h4, hi]; done) | (simp [h1, h2, h3, h4, hi]; intros; omega))]
      refine qG ?_
      exact qF [some (0, none), some (1, none), some (2, none), some (3, none), some (4, none), some (5, none), some (6, none), some (10, none), some (11, none), some (12, none), some (13, none), some (14, none), some (15, none), some (16, none), none]
    ·rw [hf (by rw [hok]; first | (simp [h1, h2, h3, hi]; done) | (simp [h1, h2, h3, hi]; intros; omega))]
     refine qG ?_
     exact qF [some (0, none), some (1, none), some (2, none), some (3, none), some (4, none), some (5, none), some (6, none), some (10, none), some (11, none), some (12, none), some (13, none), some (14, none), some (15, none), some (16, none), none]
   ·rw [hf (by rw [hok]; first | (simp [h1, h2, hi]; done) | (simp [h1, h2, hi]; intros; omega))]
    refine qG ?_
    exact qF [some (0, none), some (1, none), some (2, none), some (3, none), some (4, none), some (5, none), some (6, none), some (10, none), some (11, none), some (12, none), some (13, none), some (14, none), some (15, none), some (16, none), none]
  ·rw [hf (by rw [hok]; first | (simp [h1, hi]; done) | (simp [h1, hi]; intros; omega))]
   refine qG ?_
   exact qF [some (0, none), some (1, none), some (2, none), some (3, none), some (4, none), some (5, none), some (6, none), some (10, none), some (11, none), some (12, none), some (13, none), some (14, none), some (15, none), some (16, none), none]
 ·obtain ⟨i, hi⟩ := Int.eq_ofNat_of_zero_le hi0
  have hil : i < e.halfs.length := by omega
  rw [hi]
  refine qX ?_
  refine qD [0, 1, 2, 3, 4, 5, 6, 7, 8, 9, 10, 11, 12, 13, 14, 15, 16, 17, 18, 19, 20, 21, 22, 23, 24, 25, 26, 27, 28, 29, 30, 31, 32, 33, 34, 35, 36, 37, 38, 39, 40, 41, 42, 43, 44, 45, 46, 47, 48, 49, 50, 51, 52, 53] ?_
  refine qKD (hK) (qA [0, 1, 2, 3, 4, 5, 6]) ?_
  refine qB (fun h1 => ?_) fun h1 => ?_
  ·refine qKD (hL) [] ?_
   refine qB (fun h2 => ?_) fun h2 => ?_
   ·refine qB (fun h3 => ?_) fun h3 => ?_
    ·refine qKD (hTk) [] ?_
     refine qB (fun h4 => ?_) fun h4 => ?_
     ·refine qKD (hO) (qA [0, 1, 2, 3, 4, 5, 6]) ?_
      refine qB (fun h5 => ?_) fun h5 => ?_
      ·refine qB (fun h6 => ?_) fun h6 => ?_
       ·refine qKD (impl_canDrawTwo e) (qA [0, 1, 2, 3, 4, 5, 6]) ?_
        refine qB (fun h8 => ?_) fun h8 => ?_
        ·refine qG ?_
         refine qB (fun h9 => ?_) fun h9 => ?_
         ·rw [hf (by rw [hok]; first | (simp [h1, h2, h3, h4, h5, h6, h8, h9, hi]; done) | (simp [h1, h2, h3, h4, h5, h6, h8, h9, hi]; intros; omega))]
          exact qF [some (0, none), some (1, none), some (2, none), some (3, none), some (4, none), some (5, none), some (6, none), some (10, none), some (11, none), some (12, none), some (13, none), some (14, none), some (15, none), some (16, none), none]
         ·refine qX ?_
          refine qK (hT) [] ?_
          refine qB (fun h10 => ?_) fun h10 => ?_
          ·rw [hf (by rw [hok]; first | (simp [h1, h2, h3, h4, h5, h6, h8, h9, h10, hi]; done) | (simp [h1, h2, h3, h4, h5, h6, h8, h9, h10, hi]; intros; omega))]
           exact qF [some (0, none), some (1, none), some (2, none), some (3, none), some (4, none), some (5, none), some (6, none), some (10, none), some (11, none), some (12, none), some (13, none), some (14, none), some (15, none), some (16, none), none]
          ·have hnow := endOk_now h1
           have hok' : hjOk e x = true := by rw [hok]; have := halfsOk_le (endOk_halfs h1); have := endOk_subs h1; simp [h1, h2, h3, h4, h5, h6, h8, h9, h10, hi]; try omega
           refine qX ?_
           refine qD [0, 1, 2, 3, 4, 5, 6, 7, 8, 9, 10, 11, 12, 13, 14, 15, 16, 17, 18, 19, 20, 21, 22, 23] ?_
           refine qB (fun h11 => ?_) fun h11 => ?_
           ·refine qG ?_
            refine qB (fun h12 => ?_) fun h12 => ?_
            ·have hsm : hjSame e x = true := by rw [hjSame_at hi hil]; simp [h11, h12]
             rw [hns _ hok' hsm hi hil]
             have hrd := halfAt_road hi hil
             refine qX ?_
             refine den_drawC [(17, 18)] [[0, 1, 2, 3, 4, 5, 6, 7, 8, 9, 11, 12, 13, 14, 10, 15, 16, 17, 18, 19], [0, 1, 2, 3, 4, 5, 6, 7, 8, 9, 11, 12, 13, 14, 10, 15, 16, 18, 17, 19]] (by kernel_rfl) (qC) (by kernel_rfl) ?_
             simp only [allDn]
             refine ⟨runD_den 400 ?_, runD_den 400 ?_⟩
             all_goals simp (disch := omega) only [go_sem, Nat.reduceEqDiff, Nat.reduceAdd, Nat.reduceSub, Int.reduceAdd, Int.reduceSub, Int.reduceToNat]
             all_goals
              refine qKD (impl_TagBack _ _ _ _) [] ?_
              refine qKD (impl_Between (roadOf x) { letNone with kind := 5, tag := ⟨1, e.key, e.peer, (e.halfs[i]).mine, (e.halfs[i]).theirs⟩, nonce := (e.halfs[i]).mine, give := (e.halfs[i]).take }) [] ?_
              refine qG ?_
              refine den_fin (qA [0, 1, 2, 3, 4, 5, 6, 10, 11, 12, 13, 14, 15, 16, 21]) (qC) _ (by simp only [go_sem]; rfl) (by rfl) (by rfl) ?_
              simp (disch := omega) only [go_sem, Nat.reduceEqDiff, Nat.reduceAdd, Nat.reduceSub, Int.reduceAdd, Int.reduceSub, Int.reduceToNat]
              try simp [List.map_set, HalfD.cs, backL, newHalf, between, LetterD.cs, letNone]
              try omega
            ·have hsm : hjSame e x = false := by rw [hjSame_at hi hil]; simp [h11, h12]
             rw [hnn hok' hsm]
             refine qX ?_
             have hP := impl_PutHalf e.halfs (newHalf e x) (by have := halfsOk_le (endOk_halfs h1); omega)
             obtain ⟨Q, hQ⟩ : ∃ Q, Q = putHalf e.halfs (newHalf e x) := ⟨_, rfl⟩
             rw [← hQ] at hP ⊢
             have hQl : Q.1.length ≤ 1048576 := by rw [hQ]; have := halfsOk_le (endOk_halfs h1); have := putHalfL_len e.halfs (newHalf e x); unfold putHalf; split <;> dsimp only <;> omega
             refine qK (impl_drawTwo { e with bucket := (takeOne e.bucket).1 } h8) (qA [10, 11, 12, 13, 14, 15, 16, 17]) ?_
             refine qK (hP) (qA [13]) ?_
             refine den_drawC [(17, 18)] [[0, 1, 2, 3, 4, 5, 6, 7, 8, 9, 11, 12, 13, 14, 10, 15, 16, 17, 18, 19], [0, 1, 2, 3, 4, 5, 6, 7, 8, 9, 11, 12, 13, 14, 10, 15, 16, 18, 17, 19]] (by kernel_rfl) (qC) (by kernel_rfl) ?_
             simp only [allDn]
             refine ⟨runD_den 400 ?_, runD_den 400 ?_⟩
             all_goals simp (disch := omega) only [go_sem, Nat.reduceEqDiff, Nat.reduceAdd, Nat.reduceSub, Int.reduceAdd, Int.reduceSub, Int.reduceToNat]
             all_goals
              refine qKD (impl_TagBack _ _ _ _) [] ?_
              refine qKD (impl_Between (roadOf x) { letNone with kind := 5, tag := ⟨1, e.key, e.peer, (newHalf e x).mine, (newHalf e x).theirs⟩, nonce := (newHalf e x).mine, give := (newHalf e x).take }) [] ?_
              refine qG ?_
              refine den_fin (qA [0, 1, 2, 3, 4, 5, 6, 10, 11, 12, 21, 14, 15, 16, 22]) (qC) _ (by simp only [go_sem]; rfl) (by rfl) (by rfl) ?_
              simp (disch := omega) only [go_sem, Nat.reduceEqDiff, Nat.reduceAdd, Nat.reduceSub, Int.reduceAdd, Int.reduceSub, Int.reduceToNat]
              try simp [List.map_set, HalfD.cs, backL, newHalf, between, LetterD.cs, letNone]
              try omega
           ·have hsm : hjSame e x = false := by rw [hjSame_at hi hil]; simp [h11]
            refine qG ?_
            rw [hnn hok' hsm]
            refine qX ?_
            have hP := impl_PutHalf e.halfs (newHalf e x) (by have := halfsOk_le (endOk_halfs h1); omega)
            obtain ⟨Q, hQ⟩ : ∃ Q, Q = putHalf e.halfs (newHalf e x) := ⟨_, rfl⟩
            rw [← hQ] at hP ⊢
            have hQl : Q.1.length ≤ 1048576 := by rw [hQ]; have := halfsOk_le (endOk_halfs h1); have := putHalfL_len e.halfs (newHalf e x); unfold putHalf; split <;> dsimp only <;> omega
            refine qK (impl_drawTwo { e with bucket := (takeOne e.bucket).1 } h8) (qA [10, 11, 12, 13, 14, 15, 16, 17]) ?_
            refine qK (hP) (qA [13]) ?_
            refine den_drawC [(17, 18)] [[0, 1, 2, 3, 4, 5, 6, 7, 8, 9, 11, 12, 13, 14, 10, 15, 16, 17, 18, 19], [0, 1, 2, 3, 4, 5, 6, 7, 8, 9, 11, 12, 13, 14, 10, 15, 16, 18, 17, 19]] (by kernel_rfl) (qC) (by kernel_rfl) ?_
            simp only [allDn]
            refine ⟨runD_den 400 ?_, runD_den 400 ?_⟩
            all_goals simp (disch := omega) only [go_sem, Nat.reduceEqDiff, Nat.reduceAdd, Nat.reduceSub, Int.reduceAdd, Int.reduceSub, Int.reduceToNat]
            all_goals
             refine qKD (impl_TagBack _ _ _ _) [] ?_
             refine qKD (impl_Between (roadOf x) { letNone with kind := 5, tag := ⟨1, e.key, e.peer, (newHalf e x).mine, (newHalf e x).theirs⟩, nonce := (newHalf e x).mine, give := (newHalf e x).take }) [] ?_
             refine qG ?_
             refine den_fin (qA [0, 1, 2, 3, 4, 5, 6, 10, 11, 12, 21, 14, 15, 16, 22]) (qC) _ (by simp only [go_sem]; rfl) (by rfl) (by rfl) ?_
             simp (disch := omega) only [go_sem, Nat.reduceEqDiff, Nat.reduceAdd, Nat.reduceSub, Int.reduceAdd, Int.reduceSub, Int.reduceToNat]
             try simp [List.map_set, HalfD.cs, backL, newHalf, between, LetterD.cs, letNone]
             try omega
        ·rw [hf (by rw [hok]; first | (simp [h1, h2, h3, h4, h5, h6, h8, hi]; done) | (simp [h1, h2, h3, h4, h5, h6, h8, hi]; intros; omega))]
         refine qG ?_
         exact qF [some (0, none), some (1, none), some (2, none), some (3, none), some (4, none), some (5, none), some (6, none), some (10, none), some (11, none), some (12, none), some (13, none), some (14, none), some (15, none), some (16, none), none]
       ·rw [hf (by rw [hok]; first | (simp [h1, h2, h3, h4, h5, h6, hi]; done) | (simp [h1, h2, h3, h4, h5, h6, hi]; intros; omega))]
        refine qG ?_
        exact qF [some (0, none), some (1, none), some (2, none), some (3, none), some (4, none), some (5, none), some (6, none), some (10, none), some (11, none), some (12, none), some (13, none), some (14, none), some (15, none), some (16, none), none]
      ·rw [hf (by rw [hok]; first | (simp [h1, h2, h3, h4, h5, hi]; done) | (simp [h1, h2, h3, h4, h5, hi]; intros; omega))]
       refine qG ?_
       exact qF [some (0, none), some (1, none), some (2, none), some (3, none), some (4, none), some (5, none), some (6, none), some (10, none), some (11, none), some (12, none), some (13, none), some (14, none), some (15, none), some (16, none), none]
     ·rw [hf (by rw [hok]; first | (simp [h1, h2, h3, h4, hi]; done) | (simp [h1, h2, h3, h4, hi]; intros; omega))]
      refine qG ?_
      exact qF [some (0, none), some (1, none), some (2, none), some (3, none), some (4, none), some (5, none), some (6, none), some (10, none), some (11, none), some (12, none), some (13, none), some (14, none), some (15, none), some (16, none), none]
    ·rw [hf (by rw [hok]; first | (simp [h1, h2, h3, hi]; done) | (simp [h1, h2, h3, hi]; intros; omega))]
     refine qG ?_
     exact qF [some (0, none), some (1, none), some (2, none), some (3, none), some (4, none), some (5, none), some (6, none), some (10, none), some (11, none), some (12, none), some (13, none), some (14, none), some (15, none), some (16, none), none]
   ·rw [hf (by rw [hok]; first | (simp [h1, h2, hi]; done) | (simp [h1, h2, hi]; intros; omega))]
    refine qG ?_
    exact qF [some (0, none), some (1, none), some (2, none), some (3, none), some (4, none), some (5, none), some (6, none), some (10, none), some (11, none), some (12, none), some (13, none), some (14, none), some (15, none), some (16, none), none]
  ·rw [hf (by rw [hok]; first | (simp [h1, hi]; done) | (simp [h1, hi]; intros; omega))]
   refine qG ?_
   exact qF [some (0, none), some (1, none), some (2, none), some (3, none), some (4, none), some (5, none), some (6, none), some (10, none), some (11, none), some (12, none), some (13, none), some (14, none), some (15, none), some (16, none), none]

end
section
open Go.RowKit

def adAtN (l : List AddrD) (n : Nat) : AddrD := l.getD n default
theorem adAtN_at {l : List AddrD} {n : Nat} (h : n < l.length) : adAtN l n = l[n] := by simp [adAtN, List.getD_eq_getElem?_getD, h]
def haNew (x : LetterD) : AddrD := ⟨x.id, x.addr, x.spare, true⟩
def haOther (e : EndD) (x : LetterD) : Bool := decide (0 ≤ addrAt e.far x.id) && !decide ((adAtN e.far (addrAt e.far x.id).toNat).addr = x.addr)
theorem haOther_no {e : EndD} {x : LetterD} (h : addrAt e.far x.id = -1) : haOther e x = false := by rw [haOther, h]; rfl
theorem haOther_at {e : EndD} {x : LetterD} {i : Nat} (h : addrAt e.far x.id = (i : Int)) (hi : i < e.far.length) : haOther e x = !decide (e.far[i].addr = x.addr) := by
 rw [haOther, h, Int.toNat_natCast, adAtN_at hi]
 simp
def haHeard (e : EndD) (x : LetterD) : Bool :=
 decide (0 ≤ onAt e x) && decide (x.tag = ⟨3, e.peer, e.key, x.id, x.addr⟩) && !hasI e.over x.id && !haOther e x && (putAddr e.far (haNew x)).2
def echoL (x : LetterD) (n : Int) : LetterD := between (roadOf x) { letNone with kind := 9, sgn := n, id := x.id, addr := x.addr }
def hearAddr (e : EndD) (x : LetterD) : EndD × List LetterD :=
 if haHeard e x then ({ e with far := (putAddr e.far (haNew x)).1 }, [echoL x (subAtN e.subs (onAt e x).toNat).give]) else (e, [])
theorem hearAddr_f {e : EndD} {x : LetterD} (h : haHeard e x = false) : hearAddr e x = (e, []) := by rw [hearAddr, if_neg (by simp [h])]
theorem hearAddr_t {e : EndD} {x : LetterD} {n : Nat} (h : haHeard e x = true) (ho : onAt e x = (n : Int)) (hn : n < e.subs.length) :
  hearAddr e x = ({ e with far := (putAddr e.far (haNew x)).1 }, [echoL x e.subs[n].give]) := by rw [hearAddr, if_pos h, ho, Int.toNat_natCast, subAtN_at hn]
def echoOk (e : EndD) (x : LetterD) : Bool := decide (0 ≤ onAt e x) && decide (0 ≤ addrAt e.own x.id) && decide ((adAtN e.own (addrAt e.own x.id).toNat).addr = x.addr)
def hearEcho (e : EndD) (x : LetterD) : EndD × List LetterD :=
 (if echoOk e x then { e with own := e.own.set (addrAt e.own x.id).toNat { adAtN e.own (addrAt e.own x.id).toNat with told := true } } else e, [])
theorem hearEcho_f {e : EndD} {x : LetterD} (h : echoOk e x = false) : hearEcho e x = (e, []) := by rw [hearEcho, if_neg (by simp [h])]
theorem hearEcho_t {e : EndD} {x : LetterD} {i : Nat} (h : echoOk e x = true) (hi : addrAt e.own x.id = (i : Int)) (hl : i < e.own.length) :
  hearEcho e x = ({ e with own := e.own.set i { e.own[i] with told := true } }, []) := by rw [hearEcho, if_pos h, hi, Int.toNat_natCast, adAtN_at hl]
theorem echoOk_at {e : EndD} {x : LetterD} {i : Nat} (hi : addrAt e.own x.id = (i : Int)) (hl : i < e.own.length) : echoOk e x = (decide (0 ≤ onAt e x) && decide (e.own[i].addr = x.addr)) := by
 rw [echoOk, hi, Int.toNat_natCast, adAtN_at hl]
 simp
theorem echoOk_no {e : EndD} {x : LetterD} (hi : addrAt e.own x.id = -1) : echoOk e x = false := by
 rw [echoOk, hi]
 simp
def goneS (a : Int) (s : SubD) : SubD := if s.road.far = a then { s with state := 4 } else s
def goneN (a : Int) (l : List SubD) (k : Nat) : List SubD := (l.take k).map (goneS a) ++ l.drop k
theorem goneN_len {a : Int} {l : List SubD} {k : Nat} : (goneN a l k).length = l.length := by simp [goneN]; omega
theorem goneN_at {a : Int} {l : List SubD} {k : Nat} (h : k < l.length) : (goneN a l k)[k]? = some l[k] := by
 have h1 : ((l.take k).map (goneS a)).length = k := by simp; omega
 rw [goneN, List.getElem?_append_right (by omega), List.drop_eq_getElem_cons h, h1]
 simp
theorem goneN_set {a : Int} {l : List SubD} {k : Nat} (h : k < l.length) : (goneN a l k).set k (goneS a l[k]) = goneN a l (k + 1) := by
 have h1 : ((l.take k).map (goneS a)).length = k := by simp; omega
 rw [goneN, goneN, List.set_append_right _ _ (by omega), List.take_succ_eq_append_getElem h, List.map_append, h1]
 simp
 rw [List.drop_eq_getElem_cons h]
 rfl
theorem goneN_same {a : Int} {l : List SubD} {k : Nat} (h : k < l.length) (hs : ¬ l[k].road.far = a) : goneN a l (k + 1) = goneN a l k := by
 rw [goneN, goneN, List.take_succ_eq_append_getElem h, List.map_append, List.drop_eq_getElem_cons h]
 simp [goneS, hs]
theorem goneN_zero {a : Int} {l : List SubD} : goneN a l 0 = l := by simp [goneN]
theorem goneN_all {a : Int} {l : List SubD} : goneN a l l.length = l.map (goneS a) := by simp [goneN]
def goneOk (e : EndD) (x : LetterD) : Bool := decide (0 ≤ onAt e x) && decide (0 ≤ addrAt e.far x.id)
def hearGone (e : EndD) (x : LetterD) : EndD × List LetterD :=
 (if goneOk e x then { e with far := (dropAddr e.far x.id).1, over := putI e.over x.id, subs := e.subs.map (goneS (adAtN e.far (addrAt e.far x.id).toNat).addr) } else e, [])
theorem hearGone_f {e : EndD} {x : LetterD} (h : goneOk e x = false) : hearGone e x = (e, []) := by rw [hearGone, if_neg (by simp [h])]
theorem hearGone_t {e : EndD} {x : LetterD} {i : Nat} (h : goneOk e x = true) (hi : addrAt e.far x.id = (i : Int)) (hl : i < e.far.length) :
  hearGone e x = ({ e with far := (dropAddr e.far x.id).1, over := putI e.over x.id, subs := e.subs.map (goneS e.far[i].addr) }, []) := by rw [hearGone, if_pos h, hi, Int.toNat_natCast, adAtN_at hl]
theorem upto_at {p : Nat → Bool} {n j : Nat} (h : upto p n = true) (hj : j < n) : p j = true := by
 simp only [upto, List.all_eq_true, List.mem_range] at h
 exact h j hj
theorem idsOk_le {l : List Int} {m : List AddrD} (h : idsOk l m = true) : l.length ≤ 256 := by
 simp only [idsOk, Bool.and_eq_true] at h
 have hup : ∀ j : Nat, j < l.length → (j : Int) ≤ l.getD j 0 := by
  intro j
  induction j with
  | zero =>
   intro hj
   have := upto_at h.2 hj
   simp only [idAt, inR, Bool.and_eq_true, decide_eq_true_eq] at this
   omega
  | succ j ih =>
   intro hj
   have h1 := ih (by omega)
   have h2 := upto_at h.1 hj
   simp only [riseAt, Bool.or_eq_true, beq_iff_eq, decide_eq_true_eq, Nat.add_sub_cancel] at h2
   omega
 rcases Nat.eq_zero_or_pos l.length with h0 | h0
 ·omega
 ·have h1 := hup (l.length - 1) (by omega)
  have h2 := upto_at h.2 (j := l.length - 1) (by omega)
  simp only [idAt, inR, Bool.and_eq_true, decide_eq_true_eq] at h2
  omega
theorem endOk_over {e : EndD} (h : endOk e = true) : e.over.length ≤ 256 := by
 simp only [endOk, Bool.and_eq_true] at h
 exact idsOk_le h.1.1.1.2
end
section
open Go.RowKit

theorem impl_HearAddr (e : EndD) (x : LetterD) (hs : Small e) : CallA Tryz.prog 115 [.ag (e.cs 0), .ag x.cs] (e.hp false) (.tu [.ag ((hearAddr e x).1.cs 7), .sc (.sl 14 0 (hearAddr e x).2.length)])
  (e.hp false ++ ((hearAddr e x).1.hp true ++ [some ⟨(hearAddr e x).2.map LetterD.cs, 19, 57, true, true⟩])) := by
 have hC := impl_copyEnd e (by have := hs.own; omega) (by have := hs.far; omega) (by have := hs.subs; omega) (by have := hs.halfs; omega) (by have := hs.list; omega) (by have := hs.done; omega) (by have := hs.over; omega)
 have hK := impl_EndOk e (by have := hs.own; omega) (by have := hs.far; omega) (by have := hs.subs; omega) (by have := hs.halfs; omega) (by have := hs.list; omega) (by have := hs.done; omega) (by have := hs.over; omega)
 have hA := impl_AddrAt e.far x.id (by have := hs.far; omega)
 have hH := impl_hasInt e.over x.id (by have := hs.over; omega)
 have hS := impl_SignedOn e x (by have := hs.subs; omega)
 have hL := impl_LetterOk x
 have hbs := signedOn_bd e x
 have hbA := addrAt_bd e.far x.id
 have hbd := onAt_bd e x
 have hf := hearAddr_f (e := e) (x := x)
 have ht := fun (n : Nat) => @hearAddr_t e x n
 have hok := haHeard.eq_1 e x
 generalize hearAddr e x = R at *
 refine qE Tryz.func115 Tryz.ntmps115 Tryz.results115 fun E hE => ?_
 refine qK (hC) (qA [0, 1, 2, 3, 4, 5, 6]) ?_
 refine qK (hS) (qA [0, 1, 2, 3, 4, 5, 6]) ?_
 have hcmp := TagD.cmp x.tag ⟨3, e.peer, e.key, x.id, x.addr⟩
 simp only [TagD.cs, go_sem] at hcmp
 rcases hbs with hk | ⟨hk0, hk1⟩
 ·rw [hk]
  refine qX ?_
  refine qD [0, 1, 2, 3, 4, 5, 6, 7, 8, 9, 10, 11, 12, 13, 14, 15, 16, 17, 18, 19, 20, 21, 22, 23, 24, 25, 26, 27, 28, 29, 30, 31, 32] ?_
  refine qKD (hK) (qA [0, 1, 2, 3, 4, 5, 6]) ?_
  refine qB (fun h1 => ?_) fun h1 => ?_
  ·refine qKD (hL) [] ?_
   refine qB (fun h2 => ?_) fun h2 => ?_
   ·rw [hf (by rw [hok]; have := onAt_f (e := e) (x := x) (by rintro ⟨_, _, hh⟩; omega); simp; omega)]
    refine qG ?_
    exact qF [some (0, none), some (1, none), some (2, none), some (3, none), some (4, none), some (5, none), some (6, none), some (10, none), some (11, none), some (12, none), some (13, none), some (14, none), some (15, none), some (16, none), none]
   ·rw [hf (by rw [hok]; have := onAt_f (e := e) (x := x) (by rintro ⟨_, hh, _⟩; rw [h2] at hh; cases hh); simp; omega)]
    refine qG ?_
    exact qF [some (0, none), some (1, none), some (2, none), some (3, none), some (4, none), some (5, none), some (6, none), some (10, none), some (11, none), some (12, none), some (13, none), some (14, none), some (15, none), some (16, none), none]
  ·rw [hf (by rw [hok]; have := onAt_f (e := e) (x := x) (by rintro ⟨hh, _⟩; rw [h1] at hh; cases hh); simp; omega)]
   refine qG ?_
   exact qF [some (0, none), some (1, none), some (2, none), some (3, none), some (4, none), some (5, none), some (6, none), some (10, none), some (11, none), some (12, none), some (13, none), some (14, none), some (15, none), some (16, none), none]
 ·obtain ⟨n, hk⟩ := Int.eq_ofNat_of_zero_le hk0
  have hn : n < e.subs.length := by omega
  rw [hk]
  refine qX ?_
  refine qD [0, 1, 2, 3, 4, 5, 6, 7, 8, 9, 10, 11, 12, 13, 14, 15, 16, 17, 18, 19, 20, 21, 22, 23, 24, 25, 26, 27, 28, 29, 30, 31, 32] ?_
  refine qKD (hK) (qA [0, 1, 2, 3, 4, 5, 6]) ?_
  refine qB (fun h1 => ?_) fun h1 => ?_
  ·refine qKD (hL) [] ?_
   refine qB (fun h2 => ?_) fun h2 => ?_
   ·have hon := onAt_t h1 h2 hk
    have hq1 := h1
    refine qKD (impl_TagAddr _ _ _ _) [] ?_
    try simp (disch := omega) only [go_sem, Nat.reduceEqDiff, Nat.reduceAdd, Nat.reduceSub, Int.reduceAdd, Int.reduceSub, Int.reduceToNat, hcmp]
    refine qB (fun h4 => ?_) fun h4 => ?_
    ·refine qKD (hH) (qA [6]) ?_
     refine qG ?_
     refine qB (fun h5 => ?_) fun h5 => ?_
     ·rw [hf (by rw [hok]; simp [h5])]
      refine qX ?_
      exact qF [some (0, none), some (1, none), some (2, none), some (3, none), some (4, none), some (5, none), some (6, none), some (10, none), some (11, none), some (12, none), some (13, none), some (14, none), some (15, none), some (16, none), none]
     ·refine qX ?_
      refine qK (hA) (qA [1]) ?_
      rcases hbA with hi | ⟨hi0, hi1⟩
      ·rw [hi]
       refine qX ?_
       have hoth := haOther_no hi
       refine qD [0, 1, 2, 3, 4, 5, 6, 7, 8, 9, 10, 11, 12] ?_
       refine qG ?_
       have hP := impl_PutAddr e.far (haNew x) (by have := endOk_far hq1; omega)
       obtain ⟨Q, hQ⟩ : ∃ Q, Q = putAddr e.far (haNew x) := ⟨_, rfl⟩
       have hQl : Q.1.length ≤ 1048576 := by rw [hQ]; have := endOk_far hq1; have := putAddrL_len e.far (haNew x); unfold putAddr; split <;> dsimp only <;> omega
       rw [← hQ] at hP
       refine qX ?_
       refine qK (hP) (qA [1]) ?_
       refine qB (fun h7 => ?_) fun h7 => ?_
       ·rw [hf (by rw [hok, ← hQ]; simp [h7])]
        refine qX ?_
        exact qF [some (0, none), some (1, none), some (2, none), some (3, none), some (4, none), some (5, none), some (6, none), some (10, none), some (11, none), some (12, none), some (13, none), some (14, none), some (15, none), some (16, none), none]
       ·rw [ht _ (by rw [hok, hoth, ← hQ]; simp [hon, h4, h5, h7]) hon hn, ← hQ]
        refine qX ?_
        refine den_drawC [(15, 16)] [[0, 1, 3, 4, 5, 6, 7, 8, 9, 10, 11, 12, 13, 2, 14, 15, 16, 17], [0, 1, 3, 4, 5, 6, 7, 8, 9, 10, 11, 12, 13, 2, 14, 16, 15, 17]] (by kernel_rfl) (qC) (by kernel_rfl) ?_
        simp only [allDn]
        refine ⟨runD_den 400 ?_, runD_den 400 ?_⟩
        all_goals simp (disch := omega) only [go_sem, Nat.reduceEqDiff, Nat.reduceAdd, Nat.reduceSub, Int.reduceAdd, Int.reduceSub, Int.reduceToNat]
        all_goals
         refine qKD (impl_RoadOf x) [] ?_
         refine qKD (impl_Between (roadOf x) { letNone with kind := 9, sgn := e.subs[n].give, id := x.id, addr := x.addr }) [] ?_
         refine qG ?_
         refine den_fin (qA [0, 1, 2, 3, 4, 5, 6, 10, 18, 12, 13, 14, 15, 16, 19]) (qC) _ (by simp only [go_sem]; rfl) (by rfl) (by rfl) ?_
         simp (disch := omega) only [go_sem, Nat.reduceEqDiff, Nat.reduceAdd, Nat.reduceSub, Int.reduceAdd, Int.reduceSub, Int.reduceToNat]
         try simp [echoL, between, LetterD.cs]
      ·obtain ⟨i, hi⟩ := Int.eq_ofNat_of_zero_le hi0
       have hil : i < e.far.length := by omega
       have hoth := haOther_at hi hil
       rw [hi]
       refine qX ?_
       refine qD [0, 1, 2, 3, 4, 5, 6, 7, 8, 9, 10, 11, 12] ?_
       refine qG ?_
       refine qB (fun h6 => ?_) fun h6 => ?_
       ·rw [hf (by rw [hok, hoth]; simp [h6])]
        refine qX ?_
        exact qF [some (0, none), some (1, none), some (2, none), some (3, none), some (4, none), some (5, none), some (6, none), some (10, none), some (11, none), some (12, none), some (13, none), some (14, none), some (15, none), some (16, none), none]
       ·simp only [h6, decide_true, Bool.not_true] at hoth
        have hP := impl_PutAddr e.far (haNew x) (by have := endOk_far hq1; omega)
        obtain ⟨Q, hQ⟩ : ∃ Q, Q = putAddr e.far (haNew x) := ⟨_, rfl⟩
        have hQl : Q.1.length ≤ 1048576 := by rw [hQ]; have := endOk_far hq1; have := putAddrL_len e.far (haNew x); unfold putAddr; split <;> dsimp only <;> omega
        rw [← hQ] at hP
        refine qX ?_
        refine qK (hP) (qA [1]) ?_
        refine qB (fun h7 => ?_) fun h7 => ?_
        ·rw [hf (by rw [hok, ← hQ]; simp [h7])]
         refine qX ?_
         exact qF [some (0, none), some (1, none), some (2, none), some (3, none), some (4, none), some (5, none), some (6, none), some (10, none), some (11, none), some (12, none), some (13, none), some (14, none), some (15, none), some (16, none), none]
        ·rw [ht _ (by rw [hok, hoth, ← hQ]; simp [hon, h4, h5, h7]) hon hn, ← hQ]
         refine qX ?_
         refine den_drawC [(15, 16)] [[0, 1, 3, 4, 5, 6, 7, 8, 9, 10, 11, 12, 13, 2, 14, 15, 16, 17], [0, 1, 3, 4, 5, 6, 7, 8, 9, 10, 11, 12, 13, 2, 14, 16, 15, 17]] (by kernel_rfl) (qC) (by kernel_rfl) ?_
         simp only [allDn]
         refine ⟨runD_den 400 ?_, runD_den 400 ?_⟩
         all_goals simp (disch := omega) only [go_sem, Nat.reduceEqDiff, Nat.reduceAdd, Nat.reduceSub, Int.reduceAdd, Int.reduceSub, Int.reduceToNat]
         all_goals
          refine qKD (impl_RoadOf x) [] ?_
          refine qKD (impl_Between (roadOf x) { letNone with kind := 9, sgn := e.subs[n].give, id := x.id, addr := x.addr }) [] ?_
          refine qG ?_
          refine den_fin (qA [0, 1, 2, 3, 4, 5, 6, 10, 18, 12, 13, 14, 15, 16, 19]) (qC) _ (by simp only [go_sem]; rfl) (by rfl) (by rfl) ?_
          simp (disch := omega) only [go_sem, Nat.reduceEqDiff, Nat.reduceAdd, Nat.reduceSub, Int.reduceAdd, Int.reduceSub, Int.reduceToNat]
          try simp [echoL, between, LetterD.cs]
    ·rw [hf (by rw [hok]; simp [h4])]
     refine qG ?_
     exact qF [some (0, none), some (1, none), some (2, none), some (3, none), some (4, none), some (5, none), some (6, none), some (10, none), some (11, none), some (12, none), some (13, none), some (14, none), some (15, none), some (16, none), none]
   ·rw [hf (by rw [hok]; have := onAt_f (e := e) (x := x) (by rintro ⟨_, hh, _⟩; rw [h2] at hh; cases hh); simp; omega)]
    refine qG ?_
    exact qF [some (0, none), some (1, none), some (2, none), some (3, none), some (4, none), some (5, none), some (6, none), some (10, none), some (11, none), some (12, none), some (13, none), some (14, none), some (15, none), some (16, none), none]
  ·rw [hf (by rw [hok]; have := onAt_f (e := e) (x := x) (by rintro ⟨hh, _⟩; rw [h1] at hh; cases hh); simp; omega)]
   refine qG ?_
   exact qF [some (0, none), some (1, none), some (2, none), some (3, none), some (4, none), some (5, none), some (6, none), some (10, none), some (11, none), some (12, none), some (13, none), some (14, none), some (15, none), some (16, none), none]

end
section
open Go.RowKit

theorem impl_HearEcho (e : EndD) (x : LetterD) (hs : Small e) : CallA Tryz.prog 116 [.ag (e.cs 0), .ag x.cs] (e.hp false) (.tu [.ag ((hearEcho e x).1.cs 7), .sc (.sl 14 0 (hearEcho e x).2.length)])
  (e.hp false ++ ((hearEcho e x).1.hp true ++ [some ⟨(hearEcho e x).2.map LetterD.cs, 19, 57, true, true⟩])) := by
 have hC := impl_copyEnd e (by have := hs.own; omega) (by have := hs.far; omega) (by have := hs.subs; omega) (by have := hs.halfs; omega) (by have := hs.list; omega) (by have := hs.done; omega) (by have := hs.over; omega)
 have hK := impl_EndOk e (by have := hs.own; omega) (by have := hs.far; omega) (by have := hs.subs; omega) (by have := hs.halfs; omega) (by have := hs.list; omega) (by have := hs.done; omega) (by have := hs.over; omega)
 have hA := impl_AddrAt e.own x.id (by have := hs.own; omega)
 have hS := impl_SignedOn e x (by have := hs.subs; omega)
 have hL := impl_LetterOk x
 have hbs := signedOn_bd e x
 have hbA := addrAt_bd e.own x.id
 have hbd := onAt_bd e x
 have hf := hearEcho_f (e := e) (x := x)
 have ht := fun (n : Nat) => @hearEcho_t e x n
 have hok := echoOk.eq_1 e x
 generalize hearEcho e x = R at *
 refine qE Tryz.func116 Tryz.ntmps116 Tryz.results116 fun E hE => ?_
 refine qK (hC) (qA [0, 1, 2, 3, 4, 5, 6]) ?_
 refine qK (hA) (qA [0]) ?_
 rcases hbA with hi | ⟨hi0, hi1⟩
 ·rw [hi]
  refine qX ?_
  rcases hbs with hk | ⟨hk0, hk1⟩
  ·refine qD [0, 1, 2, 3, 4, 5, 6, 7, 8, 9, 10, 11, 12, 13, 14, 15, 16, 17, 18, 19, 20, 21, 22, 23, 24, 25, 26] ?_
   refine qKD (hK) (qA [0, 1, 2, 3, 4, 5, 6]) ?_
   refine qB (fun h1 => ?_) fun h1 => ?_
   ·refine qKD (hL) [] ?_
    refine qB (fun h2 => ?_) fun h2 => ?_
    ·refine qKD (hS) (qA [0, 1, 2, 3, 4, 5, 6]) ?_
     rw [hk]
     refine qX ?_
     rw [hf (echoOk_no hi)]
     refine qG ?_
     exact qF [some (0, none), some (1, none), some (2, none), some (3, none), some (4, none), some (5, none), some (6, none), some (10, none), some (11, none), some (12, none), some (13, none), some (14, none), some (15, none), some (16, none), none]
    ·rw [hf (echoOk_no hi)]
     refine qG ?_
     exact qF [some (0, none), some (1, none), some (2, none), some (3, none), some (4, none), some (5, none), some (6, none), some (10, none), some (11, none), some (12, none), some (13, none), some (14, none), some (15, none), some (16, none), none]
   ·rw [hf (echoOk_no hi)]
    refine qG ?_
    exact qF [some (0, none), some (1, none), some (2, none), some (3, none), some (4, none), some (5, none), some (6, none), some (10, none), some (11, none), some (12, none), some (13, none), some (14, none), some (15, none), some (16, none), none]
  ·obtain ⟨n, hk⟩ := Int.eq_ofNat_of_zero_le hk0
   have hn : n < e.subs.length := by omega
   refine qD [0, 1, 2, 3, 4, 5, 6, 7, 8, 9, 10, 11, 12, 13, 14, 15, 16, 17, 18, 19, 20, 21, 22, 23, 24, 25, 26] ?_
   refine qKD (hK) (qA [0, 1, 2, 3, 4, 5, 6]) ?_
   refine qB (fun h1 => ?_) fun h1 => ?_
   ·refine qKD (hL) [] ?_
    refine qB (fun h2 => ?_) fun h2 => ?_
    ·refine qKD (hS) (qA [0, 1, 2, 3, 4, 5, 6]) ?_
     rw [hk]
     refine qX ?_
     have hon := onAt_t h1 h2 hk
     rw [hf (echoOk_no hi)]
     refine qG ?_
     exact qF [some (0, none), some (1, none), some (2, none), some (3, none), some (4, none), some (5, none), some (6, none), some (10, none), some (11, none), some (12, none), some (13, none), some (14, none), some (15, none), some (16, none), none]
    ·rw [hf (echoOk_no hi)]
     refine qG ?_
     exact qF [some (0, none), some (1, none), some (2, none), some (3, none), some (4, none), some (5, none), some (6, none), some (10, none), some (11, none), some (12, none), some (13, none), some (14, none), some (15, none), some (16, none), none]
   ·rw [hf (echoOk_no hi)]
    refine qG ?_
    exact qF [some (0, none), some (1, none), some (2, none), some (3, none), some (4, none), some (5, none), some (6, none), some (10, none), some (11, none), some (12, none), some (13, none), some (14, none), some (15, none), some (16, none), none]
 ·obtain ⟨i, hi⟩ := Int.eq_ofNat_of_zero_le hi0
  have hil : i < e.own.length := by omega
  rw [hi]
  refine qX ?_
  rcases hbs with hk | ⟨hk0, hk1⟩
  ·refine qD [0, 1, 2, 3, 4, 5, 6, 7, 8, 9, 10, 11, 12, 13, 14, 15, 16, 17, 18, 19, 20, 21, 22, 23, 24, 25, 26] ?_
   refine qKD (hK) (qA [0, 1, 2, 3, 4, 5, 6]) ?_
   refine qB (fun h1 => ?_) fun h1 => ?_
   ·refine qKD (hL) [] ?_
    refine qB (fun h2 => ?_) fun h2 => ?_
    ·refine qKD (hS) (qA [0, 1, 2, 3, 4, 5, 6]) ?_
     rw [hk]
     refine qX ?_
     rw [hf (by rw [echoOk_at hi hil]; have := onAt_f (e := e) (x := x) (by rintro ⟨_, _, hh⟩; omega); simp; omega)]
     refine qG ?_
     exact qF [some (0, none), some (1, none), some (2, none), some (3, none), some (4, none), some (5, none), some (6, none), some (10, none), some (11, none), some (12, none), some (13, none), some (14, none), some (15, none), some (16, none), none]
    ·rw [hf (by rw [echoOk_at hi hil]; have := onAt_f (e := e) (x := x) (by rintro ⟨_, hh, _⟩; rw [h2] at hh; cases hh); simp; omega)]
     refine qG ?_
     exact qF [some (0, none), some (1, none), some (2, none), some (3, none), some (4, none), some (5, none), some (6, none), some (10, none), some (11, none), some (12, none), some (13, none), some (14, none), some (15, none), some (16, none), none]
   ·rw [hf (by rw [echoOk_at hi hil]; have := onAt_f (e := e) (x := x) (by rintro ⟨hh, _⟩; rw [h1] at hh; cases hh); simp; omega)]
    refine qG ?_
    exact qF [some (0, none), some (1, none), some (2, none), some (3, none), some (4, none), some (5, none), some (6, none), some (10, none), some (11, none), some (12, none), some (13, none), some (14, none), some (15, none), some (16, none), none]
  ·obtain ⟨n, hk⟩ := Int.eq_ofNat_of_zero_le hk0
   have hn : n < e.subs.length := by omega
   refine qD [0, 1, 2, 3, 4, 5, 6, 7, 8, 9, 10, 11, 12, 13, 14, 15, 16, 17, 18, 19, 20, 21, 22, 23, 24, 25, 26] ?_
   refine qKD (hK) (qA [0, 1, 2, 3, 4, 5, 6]) ?_
   refine qB (fun h1 => ?_) fun h1 => ?_
   ·refine qKD (hL) [] ?_
    refine qB (fun h2 => ?_) fun h2 => ?_
    ·refine qKD (hS) (qA [0, 1, 2, 3, 4, 5, 6]) ?_
     rw [hk]
     refine qX ?_
     have hon := onAt_t h1 h2 hk
     refine qG ?_
     refine qB (fun h5 => ?_) fun h5 => ?_
     ·rw [ht _ (by rw [echoOk_at hi hil]; simp [hon, h5]) hi hil]
      refine qX ?_
      refine den_fin [some (0, none), some (1, none), some (2, none), some (3, none), some (4, none), some (5, none), some (6, none), some (10, none), some (11, none), some (12, none), some (13, none), some (14, none), some (15, none), some (16, none), none] (qC) _ (by simp only [go_sem]; rfl) (by rfl) (by rfl) ?_
      simp (disch := omega) only [go_sem, Nat.reduceEqDiff, Nat.reduceAdd, Nat.reduceSub, Int.reduceAdd, Int.reduceSub, Int.reduceToNat]
      try simp [List.map_set, AddrD.cs]
     ·rw [hf (by rw [echoOk_at hi hil]; simp [h5])]
      refine qX ?_
      exact qF [some (0, none), some (1, none), some (2, none), some (3, none), some (4, none), some (5, none), some (6, none), some (10, none), some (11, none), some (12, none), some (13, none), some (14, none), some (15, none), some (16, none), none]
    ·rw [hf (by rw [echoOk_at hi hil]; have := onAt_f (e := e) (x := x) (by rintro ⟨_, hh, _⟩; rw [h2] at hh; cases hh); simp; omega)]
     refine qG ?_
     exact qF [some (0, none), some (1, none), some (2, none), some (3, none), some (4, none), some (5, none), some (6, none), some (10, none), some (11, none), some (12, none), some (13, none), some (14, none), some (15, none), some (16, none), none]
   ·rw [hf (by rw [echoOk_at hi hil]; have := onAt_f (e := e) (x := x) (by rintro ⟨hh, _⟩; rw [h1] at hh; cases hh); simp; omega)]
    refine qG ?_
    exact qF [some (0, none), some (1, none), some (2, none), some (3, none), some (4, none), some (5, none), some (6, none), some (10, none), some (11, none), some (12, none), some (13, none), some (14, none), some (15, none), some (16, none), none]

theorem impl_HearGone (e : EndD) (x : LetterD) (hs : Small e) : CallA Tryz.prog 117 [.ag (e.cs 0), .ag x.cs] (e.hp false) (.tu [.ag ((hearGone e x).1.cs 7), .sc (.sl 14 0 (hearGone e x).2.length)])
  (e.hp false ++ ((hearGone e x).1.hp true ++ [some ⟨(hearGone e x).2.map LetterD.cs, 19, 57, true, true⟩])) := by
 have hC := impl_copyEnd e (by have := hs.own; omega) (by have := hs.far; omega) (by have := hs.subs; omega) (by have := hs.halfs; omega) (by have := hs.list; omega) (by have := hs.done; omega) (by have := hs.over; omega)
 have hK := impl_EndOk e (by have := hs.own; omega) (by have := hs.far; omega) (by have := hs.subs; omega) (by have := hs.halfs; omega) (by have := hs.list; omega) (by have := hs.done; omega) (by have := hs.over; omega)
 have hA := impl_AddrAt e.far x.id (by have := hs.far; omega)
 have hD := impl_DropAddr e.far x.id (by have := hs.far; omega)
 have hS := impl_SignedOn e x (by have := hs.subs; omega)
 have hL := impl_LetterOk x
 have hbs := signedOn_bd e x
 have hbA := addrAt_bd e.far x.id
 have hbd := onAt_bd e x
 have hf := hearGone_f (e := e) (x := x)
 have ht := fun (n : Nat) => @hearGone_t e x n
 have hok := goneOk.eq_1 e x
 have hpl := putI_len e.over x.id
 generalize hearGone e x = R at *
 refine qE Tryz.func117 Tryz.ntmps117 Tryz.results117 fun E hE => ?_
 refine qK (hC) (qA [0, 1, 2, 3, 4, 5, 6]) ?_
 refine qK (hA) (qA [1]) ?_
 rcases hbA with hi | ⟨hi0, hi1⟩
 ·rw [hi]
  refine qX ?_
  rcases hbs with hk | ⟨hk0, hk1⟩
  ·refine qK (hK) (qA [0, 1, 2, 3, 4, 5, 6]) ?_
   refine qB (fun h1 => ?_) fun h1 => ?_
   ·refine qK (hL) [] ?_
    refine qB (fun h2 => ?_) fun h2 => ?_
    ·refine qK (hS) (qA [0, 1, 2, 3, 4, 5, 6]) ?_
     rw [hk]
     refine qX ?_
     rw [hf (by rw [hok]; have := onAt_f (e := e) (x := x) (by rintro ⟨_, _, hh⟩; omega); simp; omega)]
     refine qX ?_
     exact qF [some (0, none), some (1, none), some (2, none), some (3, none), some (4, none), some (5, none), some (6, none), some (10, none), some (11, none), some (12, none), some (13, none), some (14, none), some (15, none), some (16, none), none]
    ·rw [hf (by rw [hok]; have := onAt_f (e := e) (x := x) (by rintro ⟨_, hh, _⟩; rw [h2] at hh; cases hh); simp; omega)]
     refine qX ?_
     exact qF [some (0, none), some (1, none), some (2, none), some (3, none), some (4, none), some (5, none), some (6, none), some (10, none), some (11, none), some (12, none), some (13, none), some (14, none), some (15, none), some (16, none), none]
   ·rw [hf (by rw [hok]; have := onAt_f (e := e) (x := x) (by rintro ⟨hh, _⟩; rw [h1] at hh; cases hh); simp; omega)]
    refine qX ?_
    exact qF [some (0, none), some (1, none), some (2, none), some (3, none), some (4, none), some (5, none), some (6, none), some (10, none), some (11, none), some (12, none), some (13, none), some (14, none), some (15, none), some (16, none), none]
  ·obtain ⟨n, hk⟩ := Int.eq_ofNat_of_zero_le hk0
   have hn : n < e.subs.length := by omega
   refine qK (hK) (qA [0, 1, 2, 3, 4, 5, 6]) ?_
   refine qB (fun h1 => ?_) fun h1 => ?_
   ·refine qK (hL) [] ?_
    refine qB (fun h2 => ?_) fun h2 => ?_
    ·refine qK (hS) (qA [0, 1, 2, 3, 4, 5, 6]) ?_
     rw [hk]
     refine qX ?_
     have hon := onAt_t h1 h2 hk
     have hq1 := h1
     rw [hf (by rw [hok]; simp [hi])]
     refine qX ?_
     exact qF [some (0, none), some (1, none), some (2, none), some (3, none), some (4, none), some (5, none), some (6, none), some (10, none), some (11, none), some (12, none), some (13, none), some (14, none), some (15, none), some (16, none), none]
    ·rw [hf (by rw [hok]; have := onAt_f (e := e) (x := x) (by rintro ⟨_, hh, _⟩; rw [h2] at hh; cases hh); simp; omega)]
     refine qX ?_
     exact qF [some (0, none), some (1, none), some (2, none), some (3, none), some (4, none), some (5, none), some (6, none), some (10, none), some (11, none), some (12, none), some (13, none), some (14, none), some (15, none), some (16, none), none]
   ·rw [hf (by rw [hok]; have := onAt_f (e := e) (x := x) (by rintro ⟨hh, _⟩; rw [h1] at hh; cases hh); simp; omega)]
    refine qX ?_
    exact qF [some (0, none), some (1, none), some (2, none), some (3, none), some (4, none), some (5, none), some (6, none), some (10, none), some (11, none), some (12, none), some (13, none), some (14, none), some (15, none), some (16, none), none]
 ·obtain ⟨i, hi⟩ := Int.eq_ofNat_of_zero_le hi0
  have hil : i < e.far.length := by omega
  rw [hi]
  refine qX ?_
  rcases hbs with hk | ⟨hk0, hk1⟩
  ·refine qK (hK) (qA [0, 1, 2, 3, 4, 5, 6]) ?_
   refine qB (fun h1 => ?_) fun h1 => ?_
   ·refine qK (hL) [] ?_
    refine qB (fun h2 => ?_) fun h2 => ?_
    ·refine qK (hS) (qA [0, 1, 2, 3, 4, 5, 6]) ?_
     rw [hk]
     refine qX ?_
     rw [hf (by rw [hok]; have := onAt_f (e := e) (x := x) (by rintro ⟨_, _, hh⟩; omega); simp; omega)]
     refine qX ?_
     exact qF [some (0, none), some (1, none), some (2, none), some (3, none), some (4, none), some (5, none), some (6, none), some (10, none), some (11, none), some (12, none), some (13, none), some (14, none), some (15, none), some (16, none), none]
    ·rw [hf (by rw [hok]; have := onAt_f (e := e) (x := x) (by rintro ⟨_, hh, _⟩; rw [h2] at hh; cases hh); simp; omega)]
     refine qX ?_
     exact qF [some (0, none), some (1, none), some (2, none), some (3, none), some (4, none), some (5, none), some (6, none), some (10, none), some (11, none), some (12, none), some (13, none), some (14, none), some (15, none), some (16, none), none]
   ·rw [hf (by rw [hok]; have := onAt_f (e := e) (x := x) (by rintro ⟨hh, _⟩; rw [h1] at hh; cases hh); simp; omega)]
    refine qX ?_
    exact qF [some (0, none), some (1, none), some (2, none), some (3, none), some (4, none), some (5, none), some (6, none), some (10, none), some (11, none), some (12, none), some (13, none), some (14, none), some (15, none), some (16, none), none]
  ·obtain ⟨n, hk⟩ := Int.eq_ofNat_of_zero_le hk0
   have hn : n < e.subs.length := by omega
   refine qK (hK) (qA [0, 1, 2, 3, 4, 5, 6]) ?_
   refine qB (fun h1 => ?_) fun h1 => ?_
   ·refine qK (hL) [] ?_
    refine qB (fun h2 => ?_) fun h2 => ?_
    ·refine qK (hS) (qA [0, 1, 2, 3, 4, 5, 6]) ?_
     rw [hk]
     refine qX ?_
     have hon := onAt_t h1 h2 hk
     have hq1 := h1
     rw [ht _ (by rw [hok]; simp [hon, hi]) hi hil]
     have hdl : (dropAddr e.far x.id).1.length ≤ e.far.length := by rw [dropAddr_t hi]; simp; omega
     refine qX ?_
     refine qK (hD) (qA [1]) ?_
     refine qK (impl_put e.over x.id (by have := endOk_over hq1; omega)) (qA [6]) ?_
     refine den_lp 7 hE (fun s (k : Nat) => s.at [0, 1, 2, 3, 7, 9, 10, 11, 12, 13, 14, 15, 16, 17, 18, 19, 20, 21, 22, 23, 24, 25, 26, 27, 28, 29, 30, 31, 32, 33, 34, 35, 36, 37, 38, 39, 40, 41, 42, 43, 44, 45, 46, 47, 48, 49, 50, 51, 52, 53, 54, 55, 56, 57, 58, 61, 62, 63, 64, 65, 66, 67, 68, 69, 70, 71, 72, 73, 74, 75, 76, 77] [(60, .sc (.int .i64 (k : Nat)))] (s.hp.set 12 (some ⟨(goneN e.far[i].addr e.subs k).map SubD.cs, 10, 132, true, true⟩))) (fun (k : Nat) => k ≤ e.subs.length) (fun (k : Nat) => e.subs.length - k) 0 (qA [0, 1, 2, 3, 4, 5, 6, 7, 8, 9, 10, 11, 12, 13, 14, 15, 16, 17, 18, 19]) (qC) (Nat.zero_le _) (weak_mk (by rfl) (by rfl) ?_) fun k hk N hN => ?_
     ·refine qX ?_
      rw [goneN_zero]
     ·refine run_den 400 ?_
      have hsb := hs.subs
      have hgl : (goneN e.far[i].addr e.subs k).length = e.subs.length := goneN_len
      refine qX ?_
      refine qB (fun h => ?_) fun h => ?_
      ·have hg : ∀ p : k < (goneN e.far[i].addr e.subs k).length, (goneN e.far[i].addr e.subs k)[k]'p = e.subs[k] := by
        intro p
        have hq := goneN_at (a := e.far[i].addr) h
        rw [List.getElem?_eq_getElem p] at hq
        exact Option.some.inj hq
       try simp (disch := omega) only [go_sem, Nat.reduceEqDiff, Nat.reduceAdd, Nat.reduceSub, Int.reduceAdd, Int.reduceSub, Int.reduceToNat, hg]
       refine qB (fun h9 => ?_) fun h9 => ?_
       ·refine qX ?_
        refine ⟨qC, hN _ (k + 1) (qA [0, 1, 2, 3, 4, 5, 6, 7, 8, 9, 10, 11, 12, 13, 14, 15, 16, 17, 18, 19]) (by (try dsimp only); exact by omega) (by (try dsimp only); omega) (weak_mk (by rfl) (by rfl) ?_)⟩
        refine qX ?_
        rw [← goneN_set h, List.map_set]
        simp [goneS, h9, hg, SubD.cs]
       ·refine qX ?_
        refine ⟨qC, hN _ (k + 1) (qA [0, 1, 2, 3, 4, 5, 6, 7, 8, 9, 10, 11, 12, 13, 14, 15, 16, 17, 18, 19]) (by (try dsimp only); exact by omega) (by (try dsimp only); omega) (weak_mk (by rfl) (by rfl) ?_)⟩
        refine qX ?_
        rw [goneN_same h h9]
      ·have hkl : k = e.subs.length := by omega
       subst hkl
       rw [goneN_all]
       refine qX ?_
       exact qF [some (0, none), some (1, none), some (2, none), some (3, none), some (4, none), some (5, none), some (6, none), some (10, none), some (18, none), some (12, none), some (13, none), some (14, none), some (15, none), some (19, none), none]
    ·rw [hf (by rw [hok]; have := onAt_f (e := e) (x := x) (by rintro ⟨_, hh, _⟩; rw [h2] at hh; cases hh); simp; omega)]
     refine qX ?_
     exact qF [some (0, none), some (1, none), some (2, none), some (3, none), some (4, none), some (5, none), some (6, none), some (10, none), some (11, none), some (12, none), some (13, none), some (14, none), some (15, none), some (16, none), none]
   ·rw [hf (by rw [hok]; have := onAt_f (e := e) (x := x) (by rintro ⟨hh, _⟩; rw [h1] at hh; cases hh); simp; omega)]
    refine qX ?_
    exact qF [some (0, none), some (1, none), some (2, none), some (3, none), some (4, none), some (5, none), some (6, none), some (10, none), some (11, none), some (12, none), some (13, none), some (14, none), some (15, none), some (16, none), none]

end
section
open Go.RowKit

def sumT : List PieceD → Nat
 | [] => 0
 | x :: r => x.text.length + sumT r
theorem sumT_le {M : Nat} : ∀ {l : List PieceD}, (∀ x ∈ l, x.text.length ≤ M) → sumT l ≤ l.length * M
 | [], _ => by simp [sumT]
 | x :: r, h => by
  have h1 := h x (by simp)
  have h2 := sumT_le (l := r) (M := M) (fun y hy => h y (by simp [hy]))
  simp only [sumT, List.length_cons, Nat.add_mul, Nat.one_mul]
  omega
theorem sumT_mem : ∀ {l : List PieceD} {x : PieceD}, x ∈ l → x.text.length ≤ sumT l
 | [], x, h => by simp at h
 | y :: r, x, h => by
  simp only [List.mem_cons] at h
  simp only [sumT]
  rcases h with rfl | h
  ·omega
  ·have := sumT_mem h; omega
theorem heldGo_val : ∀ {l : List PieceD} {n : Int}, 0 ≤ n → n + (sumT l : Int) ≤ 4611686018427387904 → heldGo n l = n + (sumT l : Int)
 | [], n, h0, h => by simp [heldGo, sumT]
 | x :: r, n, h0, h => by
  simp only [sumT, Int.natCast_add] at h
  rw [heldGo, w64 (by omega), heldGo_val (by omega) (by omega)]
  simp only [sumT, Int.natCast_add]
  omega
theorem pcGo_facts : ∀ {l : List PieceD} {en : Int}, 0 ≤ en → (∀ x ∈ l, x.text.length ≤ 200) → pcGo en l = true → ∀ x ∈ l, 0 ≤ x.pos ∧ x.pos ≤ 2000000000
 | [], _, _, _, _ => by simp
 | y :: r, en, h0, hl, h => by
  simp only [pcGo, Bool.and_eq_true, decide_eq_true_eq] at h
  obtain ⟨⟨⟨_, h1⟩, h2⟩, h3⟩ := h
  have hy := hl y (by simp)
  rw [w64 (by omega)] at h3
  intro x hx
  simp only [List.mem_cons] at hx
  rcases hx with rfl | hx
  ·exact ⟨by omega, h1⟩
  ·exact pcGo_facts (by omega) (fun z hz => hl z (by simp [hz])) h3 x hx
structure SmallP (p : PiecesD) : Prop where
 list : p.list.length ≤ 1048576
 ready : p.ready.length ≤ 1048576
 texts : ∀ x ∈ p.list, x.text.length ≤ 1048576
structure FineP (p : PiecesD) : Prop where
 r0 : 0 ≤ p.read
 r1 : p.read ≤ 1000000000
 list : p.list.length ≤ 20
 ready : p.ready.length ≤ 200
 texts : ∀ x ∈ p.list, x.text.length ≤ 200 ∧ 0 ≤ x.pos ∧ x.pos ≤ 2000000000
 next : nextOf p = p.read + (p.ready.length : Int)
theorem piecesOk_fine {p : PiecesD} (h : piecesOk p = true) (hs : SmallP p) : FineP p := by
 simp only [piecesOk, isN, Bool.and_eq_true, decide_eq_true_eq] at h
 obtain ⟨⟨⟨⟨h0, h1⟩, h2⟩, h3⟩, h4⟩ := h
 have hle := sumT_le hs.texts
 have hr := hs.ready
 have hm : p.list.length * 1048576 ≤ 20 * 1048576 := Nat.mul_le_mul_right _ (by omega)
 rw [heldOf, heldGo_val (by omega) (by omega)] at h3
 have hn : nextOf p = p.read + (p.ready.length : Int) := by rw [nextOf, w64 (by omega)]
 have ht : ∀ x ∈ p.list, x.text.length ≤ 200 := fun x hx => by have := sumT_mem hx; omega
 refine ⟨h0, h1, by omega, by omega, fun x hx => ⟨ht x hx, ?_⟩, hn⟩
 rw [hn] at h4
 exact pcGo_facts (by omega) ht h4 x hx
def joinP (a b : PieceD) : PieceD :=
 if b.pos < a.pos then ⟨b.pos, b.text.take (a.pos - b.pos).toNat ++ a.text ++ b.text.drop ((a.pos - b.pos).toNat + a.text.length)⟩
 else ⟨a.pos, a.text ++ b.text.drop (a.pos + (a.text.length : Int) - b.pos).toNat⟩
theorem joinP_lt {a b : PieceD} {n : Nat} (h : a.pos - b.pos = (n : Int)) (h0 : 0 < n) : joinP a b = ⟨b.pos, b.text.take n ++ a.text ++ b.text.drop (n + a.text.length)⟩ := by
 rw [joinP, if_pos (by omega), h, Int.toNat_natCast]
theorem joinP_ge {a b : PieceD} {n : Nat} (h : b.pos - a.pos = (n : Int)) : joinP a b = ⟨a.pos, a.text ++ b.text.drop (a.text.length - n)⟩ := by
 rw [joinP, if_neg (by omega), show (a.pos + (a.text.length : Int) - b.pos).toNat = a.text.length - n by omega]
theorem joinP_len {a b : PieceD} : (joinP a b).text.length ≤ a.text.length + b.text.length := by
 rw [joinP]
 split <;> simp <;> omega
theorem joinP_pos {a b : PieceD} : (joinP a b).pos = a.pos ∨ (joinP a b).pos = b.pos := by
 rw [joinP]
 split
 ·exact .inr rfl
 ·exact .inl rfl
structure PpS where
 own : PieceD
 laid : Bool
 acc : List PieceD
def ppStep (g : PpS) (x : PieceD) : PpS :=
 if x.pos + (x.text.length : Int) < g.own.pos then { g with acc := g.acc ++ [x] }
 else if g.own.pos + (g.own.text.length : Int) < x.pos then ⟨g.own, true, (if g.laid then g.acc else g.acc ++ [g.own]) ++ [x]⟩
 else { g with own := joinP x g.own }
theorem ppStep_a {g : PpS} {x : PieceD} (h : x.pos + (x.text.length : Int) < g.own.pos) : ppStep g x = ⟨g.own, g.laid, g.acc ++ [x]⟩ := if_pos h
theorem ppStep_b {g : PpS} {x : PieceD} (h : ¬ x.pos + (x.text.length : Int) < g.own.pos) (h2 : g.own.pos + (g.own.text.length : Int) < x.pos) :
  ppStep g x = ⟨g.own, true, (if g.laid then g.acc else g.acc ++ [g.own]) ++ [x]⟩ := by rw [ppStep, if_neg h, if_pos h2]
theorem ppStep_c {g : PpS} {x : PieceD} (h : ¬ x.pos + (x.text.length : Int) < g.own.pos) (h2 : ¬ g.own.pos + (g.own.text.length : Int) < x.pos) :
  ppStep g x = ⟨joinP x g.own, g.laid, g.acc⟩ := by rw [ppStep, if_neg h, if_neg h2]
def ppGo (g : PpS) (l : List PieceD) : PpS := l.foldl ppStep g
theorem ppGo_step {g : PpS} {l : List PieceD} {k : Nat} (h : k < l.length) : ppGo g (l.drop k) = ppGo (ppStep g l[k]) (l.drop (k + 1)) := by
 rw [List.drop_eq_getElem_cons h]
 rfl
theorem ppGo_end {g : PpS} {l : List PieceD} {k : Nat} (h : l.length ≤ k) : ppGo g (l.drop k) = g := by
 rw [List.drop_eq_nil_of_le h]
 rfl
def ppAll (g : PpS) : List PieceD := if g.laid then g.acc else g.acc ++ [g.own]
def ppOut (p : PiecesD) (l : List PieceD) : PiecesD := if (l.headD default).pos = nextOf p then ⟨p.read, p.ready ++ (l.headD default).text, l.tail⟩ else ⟨p.read, p.ready, l⟩
def ppEnd (p : PiecesD) (l : List PieceD) : PiecesD := if piecesOk (ppOut p l) then ppOut p l else p
def ppOk (p : PiecesD) (at' : Int) (text : List UInt8) : Bool := piecesOk p && isN at' && inR (text.length : Int) 1 200
def ppRun (p : PiecesD) (at' : Int) (text : List UInt8) : PiecesD := ppEnd p (ppAll (ppGo ⟨⟨at', text⟩, false, []⟩ p.list))
def putPiece (p : PiecesD) (at' : Int) (text : List UInt8) : PiecesD :=
 if ppOk p at' text then
  if nextOf p - at' ≥ text.length then p
  else if 0 < nextOf p - at' then ppRun p (nextOf p) (text.drop (nextOf p - at').toNat) else ppRun p at' text
 else p
theorem pp_f {p : PiecesD} {n : Int} {t : List UInt8} (h : ppOk p n t = false) : putPiece p n t = p := by rw [putPiece, if_neg (by simp [h])]
theorem pp_old {p : PiecesD} {n : Int} {t : List UInt8} (h : ppOk p n t = true) (h2 : (t.length : Int) ≤ nextOf p - n) : putPiece p n t = p := by rw [putPiece, if_pos h, if_pos h2]
theorem pp_cut {p : PiecesD} {n : Int} {t : List UInt8} {k : Nat} (h : ppOk p n t = true) (hk : nextOf p - n = (k : Int)) (h1 : k < t.length) (h0 : 0 < k) : putPiece p n t = ppRun p (nextOf p) (t.drop k) := by
 rw [putPiece, if_pos h, if_neg (by omega), if_pos (by omega), hk, Int.toNat_natCast]
theorem pp_new {p : PiecesD} {n : Int} {t : List UInt8} (h : ppOk p n t = true) (h0 : nextOf p ≤ n) : putPiece p n t = ppRun p n t := by
 have : inR (t.length : Int) 1 200 = true := by simp only [ppOk, Bool.and_eq_true] at h; exact h.2
 simp only [inR, Bool.and_eq_true, decide_eq_true_eq] at this
 rw [putPiece, if_pos h, if_neg (by omega), if_neg (by omega)]
theorem ppEnd_f {p : PiecesD} {l : List PieceD} (h : piecesOk (ppOut p l) = false) : ppEnd p l = p := by rw [ppEnd, if_neg (by simp [h])]
theorem ppEnd_t {p : PiecesD} {l : List PieceD} (h : piecesOk (ppOut p l) = true) : ppEnd p l = ppOut p l := by rw [ppEnd, if_pos h]
structure PpI (k : Nat) (g : PpS) : Prop where
 pos : 0 ≤ g.own.pos ∧ g.own.pos ≤ 2000000000
 own : g.own.text.length ≤ 200 + 200 * k
 acc : g.acc.length ≤ k + (if g.laid then 1 else 0)
 texts : ∀ z ∈ g.acc, z.text.length ≤ 5000
 some : g.laid = true → g.acc ≠ []
theorem ppI_zero {n : Int} {t : List UInt8} (h0 : 0 ≤ n) (h1 : n ≤ 2000000000) (ht : t.length ≤ 200) : PpI 0 ⟨⟨n, t⟩, false, []⟩ :=
 ⟨⟨h0, h1⟩, by simpa using ht, by simp, by simp, by simp⟩
theorem ppI_a {k : Nat} {g : PpS} {x : PieceD} (h : PpI k g) (hx : x.text.length ≤ 200) : PpI (k + 1) ⟨g.own, g.laid, g.acc ++ [x]⟩ := by
 refine ⟨h.pos, by have := h.own; dsimp only; omega, ?_, ?_, by simp⟩
 ·have := h.acc
  simp only [List.length_append, List.length_singleton]
  split at this <;> simp_all <;> omega
 ·intro z hz
  simp only [List.mem_append, List.mem_singleton] at hz
  rcases hz with hz | rfl
  ·exact h.texts z hz
  ·omega
theorem ppI_b1 {k : Nat} {g : PpS} {x : PieceD} (h : PpI k g) (hl : g.laid = true) (hx : x.text.length ≤ 200) : PpI (k + 1) ⟨g.own, true, g.acc ++ [x]⟩ := by
 have := ppI_a h hx
 rw [hl] at this
 exact this
theorem ppI_b2 {k : Nat} {g : PpS} {x : PieceD} (h : PpI k g) (hk : k ≤ 20) (hl : g.laid = false) (hx : x.text.length ≤ 200) : PpI (k + 1) ⟨g.own, true, g.acc ++ [g.own] ++ [x]⟩ := by
 refine ⟨h.pos, by have := h.own; dsimp only; omega, ?_, ?_, by simp⟩
 ·have := h.acc
  rw [hl] at this
  simp at this ⊢
  omega
 ·intro z hz
  have ho := h.own
  simp only [List.mem_append, List.mem_singleton] at hz
  rcases hz with (hz | rfl) | rfl
  ·exact h.texts z hz
  ·omega
  ·omega
theorem ppI_c {k : Nat} {g : PpS} {x : PieceD} (h : PpI k g) (hx : x.text.length ≤ 200) (h0 : 0 ≤ x.pos) (h1 : x.pos ≤ 2000000000) : PpI (k + 1) ⟨joinP x g.own, g.laid, g.acc⟩ := by
 have hp := h.pos
 refine ⟨?_, ?_, ?_, h.texts, h.some⟩
 ·dsimp only
  rcases joinP_pos (a := x) (b := g.own) with e | e <;> rw [e] <;> omega
 ·have := h.own
  have := joinP_len (a := x) (b := g.own)
  dsimp only
  omega
 ·have := h.acc
  dsimp only
  omega
theorem ppAll_cons {k : Nat} {g : PpS} (h : PpI k g) (hk : k ≤ 20) : ∃ y r, ppAll g = y :: r ∧ y.text.length ≤ 5000 ∧ (y :: r).length ≤ 100 := by
 have ha := h.acc
 have ho := h.own
 rw [ppAll]
 cases hl : g.laid with
 | true =>
  rw [hl] at ha
  simp at ha ⊢
  cases hg : g.acc with
  | nil => exact absurd hg (h.some hl)
  | cons y r =>
   rw [hg] at ha
   simp at ha
   exact ⟨y, r, rfl, h.texts y (by simp [hg]), by omega⟩
 | false =>
  rw [hl] at ha
  simp at ha ⊢
  cases hg : g.acc with
  | nil => exact ⟨g.own, [], rfl, by omega, by simp⟩
  | cons y r =>
   rw [hg] at ha
   simp at ha
   exact ⟨y, r ++ [g.own], by simp, h.texts y (by simp [hg]), by simp; omega⟩
theorem ppOut_t {p : PiecesD} {y : PieceD} {r : List PieceD} (h : y.pos = nextOf p) : ppOut p (y :: r) = ⟨p.read, p.ready ++ y.text, r⟩ := if_pos h
theorem ppOut_f {p : PiecesD} {y : PieceD} {r : List PieceD} (h : ¬ y.pos = nextOf p) : ppOut p (y :: r) = ⟨p.read, p.ready, y :: r⟩ := if_neg h
theorem ppRun_eq {p : PiecesD} {n : Int} {t : List UInt8} {G : PpS} {l : List PieceD} (hG : ppGo ⟨⟨n, t⟩, false, []⟩ p.list = G) (hl : ppAll G = l) : ppRun p n t = ppEnd p l := by rw [ppRun, hG, hl]
end
section
open Go.RowKit

theorem impl_merged (a b : PieceD) (ha : 0 ≤ a.pos ∧ a.pos ≤ 4000000000) (hb : 0 ≤ b.pos ∧ b.pos ≤ 4000000000) (la : a.text.length ≤ 1048576) (lb : b.text.length ≤ 1048576)
  (t1 : ¬ a.pos + (a.text.length : Int) < b.pos) (t2 : ¬ b.pos + (b.text.length : Int) < a.pos) : CallA Tryz.prog 139 [.ag a.cs, .ag b.cs] [] (.ag (joinP a b).cs) [] := by
 by_cases h : b.pos < a.pos
 ·obtain ⟨n, hn⟩ := Int.eq_ofNat_of_zero_le (show 0 ≤ a.pos - b.pos by omega)
  rw [joinP_lt hn (by omega)]
  have hp : a.pos = b.pos + (n : Int) := by omega
  refine qE Tryz.func139 Tryz.ntmps139 Tryz.results139 fun E hE => ?_
  have hlt : (b.text.take n).length = n := by simp; omega
  have hmin : (if a.pos - b.pos < (b.text.length : Int) then a.pos - b.pos else (b.text.length : Int)) = (n : Int) := by split <;> omega
  refine qD [0, 1, 2, 3, 4, 5, 6, 7, 8, 9, 10, 11, 12, 13, 14, 15, 16, 17, 18] ?_
  try simp (disch := omega) only [go_sem, Nat.reduceEqDiff, Nat.reduceAdd, Nat.reduceSub, Int.reduceAdd, Int.reduceSub, Int.reduceToNat, hmin]
  refine ⟨qC, run_den 400 ?_⟩
  try simp (disch := omega) only [go_sem, Nat.reduceEqDiff, Nat.reduceAdd, Nat.reduceSub, Int.reduceAdd, Int.reduceSub, Int.reduceToNat, hmin]
  refine qB (fun h3 => ?_) fun h3 => ?_
  ·have he : (b.pos + (((b.text.take n).length : Int) + (a.text.length : Int)) - b.pos).toNat = n + a.text.length := by omega
   have hd : (b.text.drop (n + a.text.length)).length ≤ b.text.length := by simp
   refine qD [0, 1, 2, 3, 4, 5, 6, 7, 8, 9, 10, 11] ?_
   try simp (disch := omega) only [go_sem, Nat.reduceEqDiff, Nat.reduceAdd, Nat.reduceSub, Int.reduceAdd, Int.reduceSub, Int.reduceToNat, he]
   refine ⟨by (try simp (disch := omega) only [go_sem, List.length_set, Nat.reduceEqDiff, Nat.reduceAdd, Nat.reduceSub, Int.reduceAdd, Int.reduceSub, Int.reduceToNat, he]) <;> omega, run_den 400 ?_⟩
   try simp (disch := omega) only [go_sem, Nat.reduceEqDiff, Nat.reduceAdd, Nat.reduceSub, Int.reduceAdd, Int.reduceSub, Int.reduceToNat, he]
   exact qF []
  ·refine qJ [] ?_
   rw [List.drop_of_length_le (by omega)]
   simp
 ·obtain ⟨n, hn⟩ := Int.eq_ofNat_of_zero_le (show 0 ≤ b.pos - a.pos by omega)
  rw [joinP_ge hn]
  have hp : b.pos = a.pos + (n : Int) := by omega
  refine qE Tryz.func139 Tryz.ntmps139 Tryz.results139 fun E hE => ?_
  refine qB (fun h3 => ?_) fun h3 => ?_
  ·have he : (a.pos + (a.text.length : Int) - b.pos).toNat = a.text.length - n := by omega
   have hd : (b.text.drop (a.text.length - n)).length ≤ b.text.length := by simp
   refine qD [0, 1, 2, 3, 4, 5, 6, 7, 8, 9, 10, 11] ?_
   try simp (disch := omega) only [go_sem, Nat.reduceEqDiff, Nat.reduceAdd, Nat.reduceSub, Int.reduceAdd, Int.reduceSub, Int.reduceToNat, he]
   refine ⟨by (try simp (disch := omega) only [go_sem, List.length_set, Nat.reduceEqDiff, Nat.reduceAdd, Nat.reduceSub, Int.reduceAdd, Int.reduceSub, Int.reduceToNat, he]) <;> omega, run_den 400 ?_⟩
   try simp (disch := omega) only [go_sem, Nat.reduceEqDiff, Nat.reduceAdd, Nat.reduceSub, Int.reduceAdd, Int.reduceSub, Int.reduceToNat, he]
   exact qF []
  ·refine qJ [] ?_
   rw [List.drop_of_length_le (by omega)]
   simp
end
section
open Go.RowKit

theorem impl_PutPiece (p : PiecesD) (n : Int) (t : List UInt8) (hs : SmallP p) : CallA Tryz.prog 136 [.ag (p.cs 0), .sc (.int .i64 n), .sc (.st t)] (p.hp false) (.ag ((putPiece p n t).cs 1))
  (p.hp false ++ (putPiece p n t).hp true) := by
 have hO := impl_PiecesOk p hs.list
 have hN := impl_NextOf p
 have hf := pp_f (p := p) (n := n) (t := t)
 have hold := pp_old (p := p) (n := n) (t := t)
 have hcut := fun k => @pp_cut p n t k
 have hnew := pp_new (p := p) (n := n) (t := t)
 have hok := ppOk.eq_1 p n t
 generalize putPiece p n t = R at *
 refine qE Tryz.func136 Tryz.ntmps136 Tryz.results136 fun E hE => ?_
 refine qK (hO) (qA [0]) ?_
 refine qB (fun h1 => ?_) fun h1 => ?_
 ·refine qK (impl_isNumber [n] (by simp)) (qA [3]) ?_
  simp only [List.all_cons, List.all_nil, Bool.and_true]
  refine qX ?_
  refine qB (fun h2 => ?_) fun h2 => ?_
  ·refine qX ?_
   refine qK (impl_within (t.length : Int) 1 200) [] ?_
   refine qB (fun h3 => ?_) fun h3 => ?_
   ·rw [hf (by rw [hok]; simp [h3])]
    refine qX ?_
    refine qK (impl_copyPieces p hs.list) (qA [0]) ?_
    exact qF (qA [0, 4])
   ·have hok1 : ppOk p n t = true := by rw [hok]; simp [h1, h2, h3]
    have hF := piecesOk_fine h1 hs
    have hn1 := h2
    have hn3 := h3
    simp only [isN, inR, Bool.and_eq_true, decide_eq_true_eq] at hn1 hn3
    have hr0 := hF.r0
    have hr1 := hF.r1
    have hrl := hF.list
    have hrr := hF.ready
    have hnx := hF.next
    refine qX ?_
    refine qK (hN) (qA [0]) ?_
    refine qB (fun h4 => ?_) fun h4 => ?_
    ·obtain ⟨m, hm⟩ := Int.eq_ofNat_of_zero_le (show 0 ≤ nextOf p - n by omega)
     by_cases h7 : t.length ≤ m
     ·rw [hold hok1 (by omega)]
      have hmin : (if nextOf p - n < (t.length : Int) then nextOf p - n else (t.length : Int)) = (t.length : Int) := by split <;> omega
      have hz : (t.drop t.length == []) = true := by simp
      try simp (disch := omega) only [go_sem, Nat.reduceEqDiff, Nat.reduceAdd, Nat.reduceSub, Int.reduceAdd, Int.reduceSub, Int.reduceToNat, hmin, hz]
      refine qX ?_
      refine qK (impl_copyPieces p hs.list) (qA [0]) ?_
      exact qF (qA [0, 5])
     ·rw [hcut m hok1 hm (by omega) (by omega)]
      have hmin : (if nextOf p - n < (t.length : Int) then nextOf p - n else (t.length : Int)) = (m : Int) := by split <;> omega
      have hz : (t.drop m == []) = false := by simp; omega
      have hI0 : PpI 0 ⟨⟨nextOf p, t.drop m⟩, false, []⟩ := ppI_zero (by omega) (by omega) (by simp; omega)
      try simp (disch := omega) only [go_sem, Nat.reduceEqDiff, Nat.reduceAdd, Nat.reduceSub, Int.reduceAdd, Int.reduceSub, Int.reduceToNat, hmin, hz]
      obtain ⟨G, hG⟩ : ∃ G, ppGo ⟨⟨nextOf p, t.drop m⟩, false, []⟩ p.list = G := ⟨_, rfl⟩
      refine den_lp 1 hE (fun s (x : Nat × PpS) => s.at [0, 1, 2, 12, 13, 14, 15, 16, 17, 18, 19, 20, 21, 22, 23, 24, 25, 26, 27, 28, 29, 30, 31, 32, 33, 34, 35, 36, 37, 38, 39, 40, 41, 42, 43, 44, 45, 46, 47, 48, 49, 50, 51, 52, 53, 54, 55, 56, 60, 61, 62, 63, 64, 65, 66, 67, 68, 69, 70, 71, 72, 73, 74, 75, 76, 77, 78, 79, 80, 81, 82, 83, 84, 85, 86, 87, 88, 89, 90, 91, 92, 93, 94, 95, 96, 97, 98, 99, 100, 101, 102, 103, 104, 105, 106] [(59, .sc (.int .i64 (x.1 : Nat))), (10, .sc (.bo x.2.laid))] ([some ⟨p.list.map PieceD.cs, 2, 179, false, true⟩, some ⟨[p.cs 0], 3, 38, true, false⟩, some ⟨[[.int .i64 0, .st [], .nil]], 3, 38, true, false⟩, some ⟨[[.int .i64 n]], 1, 3, true, true⟩, some ⟨[[.int .i64 p.read, .st p.ready, .sl 6 0 x.2.acc.length]], 3, 38, true, false⟩, some ⟨[x.2.own.cs], 2, 179, true, false⟩, some ⟨x.2.acc.map PieceD.cs, 2, 179, true, true⟩])) (fun (x : Nat × PpS) => x.1 ≤ p.list.length ∧ PpI x.1 x.2 ∧ ppGo x.2 (p.list.drop x.1) = G) (fun (x : Nat × PpS) => p.list.length - x.1) (0, ⟨⟨nextOf p, t.drop m⟩, false, []⟩) [some (0, none), some (1, none), some (2, none), some (3, none), some (4, none), some (5, none), none] (qC) (⟨Nat.zero_le _, hI0, hG⟩) (weak_mk (by rfl) (by rfl) ?_) fun x hx N hN => ?_
      ·exact qY
      ·obtain ⟨k, g⟩ := x
       obtain ⟨hk1, hI, hgo⟩ := hx
       dsimp only at hk1 hI hgo
       have hIo := hI.own
       have hIp := hI.pos
       have hIa := hI.acc
       have hac : g.acc.length ≤ 100 := by split at hIa <;> omega
       refine qR ?_
       refine qB (fun h => ?_) fun h => ?_
       ·have hm := hF.texts p.list[k] (List.getElem_mem h)
        obtain ⟨hm1, hm2, hm3⟩ := hm
        rw [ppGo_step h] at hgo
        refine qX ?_
        refine qB (fun h2 => ?_) fun h2 => ?_
        ·rw [ppStep_a (by omega)] at hgo
         refine qX ?_
         refine ⟨qC, hN _ (k + 1, ⟨g.own, g.laid, g.acc ++ [p.list[k]]⟩) (qA [0, 1, 2, 3, 4, 5, 9]) (by (try dsimp only); exact ⟨by omega, ppI_a hI hm1, hgo⟩) (by (try dsimp only); omega) (weak_mk (by rfl) (by rfl) ?_)⟩
         try simp (disch := omega) only [go_sem, Nat.reduceEqDiff, Nat.reduceAdd, Nat.reduceSub, Int.reduceAdd, Int.reduceSub, Int.reduceToNat]
         try simp [PieceD.cs]
        ·refine qX ?_
         refine qB (fun h3 => ?_) fun h3 => ?_
         ·rw [ppStep_b (by omega) (by omega)] at hgo
          cases hgl : g.laid with
          | true =>
           rw [hgl, if_pos rfl] at hgo
           try simp (disch := omega) only [go_sem, Nat.reduceEqDiff, Nat.reduceAdd, Nat.reduceSub, Int.reduceAdd, Int.reduceSub, Int.reduceToNat, hgl]
           refine ⟨qC, hN _ (k + 1, ⟨g.own, true, g.acc ++ [p.list[k]]⟩) (qA [0, 1, 2, 3, 4, 5, 9]) (by (try dsimp only); exact ⟨by omega, ppI_b1 hI hgl hm1, hgo⟩) (by (try dsimp only); omega) (weak_mk (by rfl) (by rfl) ?_)⟩
           try simp (disch := omega) only [go_sem, Nat.reduceEqDiff, Nat.reduceAdd, Nat.reduceSub, Int.reduceAdd, Int.reduceSub, Int.reduceToNat]
           try simp [PieceD.cs]
          | false =>
           rw [hgl, if_neg (by simp)] at hgo
           try simp (disch := omega) only [go_sem, Nat.reduceEqDiff, Nat.reduceAdd, Nat.reduceSub, Int.reduceAdd, Int.reduceSub, Int.reduceToNat, hgl]
           refine ⟨qC, hN _ (k + 1, ⟨g.own, true, g.acc ++ [g.own] ++ [p.list[k]]⟩) (qA [0, 1, 2, 3, 4, 5, 11]) (by (try dsimp only); exact ⟨by omega, ppI_b2 hI (by omega) hgl hm1, hgo⟩) (by (try dsimp only); omega) (weak_mk (by rfl) (by rfl) ?_)⟩
           try simp (disch := omega) only [go_sem, Nat.reduceEqDiff, Nat.reduceAdd, Nat.reduceSub, Int.reduceAdd, Int.reduceSub, Int.reduceToNat]
           try simp [PieceD.cs]
         ·rw [ppStep_c (by omega) (by omega)] at hgo
          refine qX ?_
          refine qK (impl_merged p.list[k] g.own (by omega) (by omega) (by omega) (by omega) (by omega) (by omega)) [] ?_
          refine ⟨qC, hN _ (k + 1, ⟨joinP p.list[k] g.own, g.laid, g.acc⟩) (qA [0, 1, 2, 3, 4, 5, 6]) (by (try dsimp only); exact ⟨by omega, ppI_c hI hm1 hm2 hm3, hgo⟩) (by (try dsimp only); omega) (weak_mk (by rfl) (by rfl) ?_)⟩
          try simp (disch := omega) only [go_sem, Nat.reduceEqDiff, Nat.reduceAdd, Nat.reduceSub, Int.reduceAdd, Int.reduceSub, Int.reduceToNat]
          try simp [PieceD.cs]
       ·have hkl : k = p.list.length := by omega
        rw [ppGo_end (by omega)] at hgo
        subst hgo
        obtain ⟨y, r, hyr, hyt, hyl⟩ := ppAll_cons hI (by omega)
        rw [ppRun_eq hG hyr]
        have hyr' := hyr
        rw [ppAll] at hyr'
        cases hgl : g.laid with
        | true =>
         rw [hgl, if_pos rfl] at hyr'
         rw [hyr']
         try simp (disch := omega) only [go_sem, Nat.reduceEqDiff, Nat.reduceAdd, Nat.reduceSub, Int.reduceAdd, Int.reduceSub, Int.reduceToNat, hgl, List.map_cons]
         refine qX ?_
         refine qB (fun h5 => ?_) fun h5 => ?_
         ·refine qD [0, 1, 2, 3, 4, 5, 6, 7, 8, 9] ?_
          refine ⟨qC, run_den 400 ?_⟩
          have hE1 := @ppOut_t p y r h5
          refine qX ?_
          refine qK (impl_PiecesOk ⟨p.read, p.ready ++ y.text, r⟩ (by simp at hyl ⊢; omega)) [some (6, some 1)] ?_
          refine qB (fun h6 => ?_) fun h6 => ?_
          ·rw [ppEnd_f (by rw [hE1]; exact h6)]
           refine qX ?_
           refine qK (impl_copyPieces p hs.list) (qA [0]) ?_
           exact qF (qA [0, 7])
          ·rw [ppEnd_t (by rw [hE1]; exact h6), hE1]
           refine qX ?_
           refine qK (impl_copyPieces ⟨p.read, p.ready ++ y.text, r⟩ (by simp at hyl ⊢; omega)) [some (6, some 1)] ?_
           refine den_fin (qA [0, 7]) (qC) _ (by simp only [go_sem]; rfl) (by rfl) (by rfl) ?_
           simp (disch := omega) only [go_sem, Nat.reduceEqDiff, Nat.reduceAdd, Nat.reduceSub, Int.reduceAdd, Int.reduceSub, Int.reduceToNat]
           try simp
         ·have hE1 := @ppOut_f p y r h5
          refine qX ?_
          refine qK (impl_PiecesOk ⟨p.read, p.ready, y :: r⟩ (by simp at hyl ⊢; omega)) (qA [6]) ?_
          refine qB (fun h6 => ?_) fun h6 => ?_
          ·rw [ppEnd_f (by rw [hE1]; exact h6)]
           refine qX ?_
           refine qK (impl_copyPieces p hs.list) (qA [0]) ?_
           exact qF (qA [0, 7])
          ·rw [ppEnd_t (by rw [hE1]; exact h6), hE1]
           refine qX ?_
           refine qK (impl_copyPieces ⟨p.read, p.ready, y :: r⟩ (by simp at hyl ⊢; omega)) (qA [6]) ?_
           refine den_fin (qA [0, 7]) (qC) _ (by simp only [go_sem]; rfl) (by rfl) (by rfl) ?_
           simp (disch := omega) only [go_sem, Nat.reduceEqDiff, Nat.reduceAdd, Nat.reduceSub, Int.reduceAdd, Int.reduceSub, Int.reduceToNat]
           try simp
        | false =>
         rw [hgl, if_neg (by simp)] at hyr'
         have e1 : g.acc.map PieceD.cs ++ [g.own.cs] = PieceD.cs y :: r.map PieceD.cs := by rw [← List.map_cons, ← hyr']; simp
         have e2 : g.acc.length + 1 = r.length + 1 := by have := congrArg List.length hyr'; simpa using this
         simp only [PieceD.cs] at e1
         try simp (disch := omega) only [go_sem, Nat.reduceEqDiff, Nat.reduceAdd, Nat.reduceSub, Int.reduceAdd, Int.reduceSub, Int.reduceToNat, hgl, e1, e2]
         refine qX ?_
         refine qB (fun h5 => ?_) fun h5 => ?_
         ·refine qD [0, 1, 2, 3, 4, 5, 6, 7, 8, 9] ?_
          refine ⟨qC, run_den 400 ?_⟩
          have hE1 := @ppOut_t p y r h5
          refine qX ?_
          refine qK (impl_PiecesOk ⟨p.read, p.ready ++ y.text, r⟩ (by simp at hyl ⊢; omega)) [some (8, some 1)] ?_
          refine qB (fun h6 => ?_) fun h6 => ?_
          ·rw [ppEnd_f (by rw [hE1]; exact h6)]
           refine qX ?_
           refine qK (impl_copyPieces p hs.list) (qA [0]) ?_
           exact qF (qA [0, 9])
          ·rw [ppEnd_t (by rw [hE1]; exact h6), hE1]
           refine qX ?_
           refine qK (impl_copyPieces ⟨p.read, p.ready ++ y.text, r⟩ (by simp at hyl ⊢; omega)) [some (8, some 1)] ?_
           refine den_fin (qA [0, 9]) (qC) _ (by simp only [go_sem]; rfl) (by rfl) (by rfl) ?_
           simp (disch := omega) only [go_sem, Nat.reduceEqDiff, Nat.reduceAdd, Nat.reduceSub, Int.reduceAdd, Int.reduceSub, Int.reduceToNat]
           try simp
         ·have hE1 := @ppOut_f p y r h5
          refine qX ?_
          refine qK (impl_PiecesOk ⟨p.read, p.ready, y :: r⟩ (by simp at hyl ⊢; omega)) (qA [8]) ?_
          refine qB (fun h6 => ?_) fun h6 => ?_
          ·rw [ppEnd_f (by rw [hE1]; exact h6)]
           refine qX ?_
           refine qK (impl_copyPieces p hs.list) (qA [0]) ?_
           exact qF (qA [0, 9])
          ·rw [ppEnd_t (by rw [hE1]; exact h6), hE1]
           refine qX ?_
           refine qK (impl_copyPieces ⟨p.read, p.ready, y :: r⟩ (by simp at hyl ⊢; omega)) (qA [8]) ?_
           refine den_fin (qA [0, 9]) (qC) _ (by simp only [go_sem]; rfl) (by rfl) (by rfl) ?_
           simp (disch := omega) only [go_sem, Nat.reduceEqDiff, Nat.reduceAdd, Nat.reduceSub, Int.reduceAdd, Int.reduceSub, Int.reduceToNat]
           try simp
    ·rw [hnew hok1 (by omega)]
     have hz : (t == []) = false := by cases t <;> simp_all
     have hI0 : PpI 0 ⟨⟨n, t⟩, false, []⟩ := ppI_zero (by omega) (by omega) (by omega)
     try simp (disch := omega) only [go_sem, Nat.reduceEqDiff, Nat.reduceAdd, Nat.reduceSub, Int.reduceAdd, Int.reduceSub, Int.reduceToNat, hz]
     obtain ⟨G, hG⟩ : ∃ G, ppGo ⟨⟨n, t⟩, false, []⟩ p.list = G := ⟨_, rfl⟩
     refine den_lp 1 hE (fun s (x : Nat × PpS) => s.at [0, 1, 2, 12, 13, 14, 15, 16, 17, 18, 19, 20, 21, 22, 23, 24, 25, 26, 27, 28, 29, 30, 31, 32, 33, 34, 35, 36, 37, 38, 39, 40, 41, 42, 43, 44, 45, 46, 47, 48, 49, 50, 51, 52, 53, 54, 55, 56, 60, 61, 62, 63, 64, 65, 66, 67, 68, 69, 70, 71, 72, 73, 74, 75, 76, 77, 78, 79, 80, 81, 82, 83, 84, 85, 86, 87, 88, 89, 90, 91, 92, 93, 94, 95, 96, 97, 98, 99, 100, 101, 102, 103, 104, 105, 106] [(59, .sc (.int .i64 (x.1 : Nat))), (10, .sc (.bo x.2.laid))] ([some ⟨p.list.map PieceD.cs, 2, 179, false, true⟩, some ⟨[p.cs 0], 3, 38, true, false⟩, some ⟨[[.int .i64 0, .st [], .nil]], 3, 38, true, false⟩, some ⟨[[.int .i64 n]], 1, 3, true, true⟩, some ⟨[[.int .i64 p.read, .st p.ready, .sl 6 0 x.2.acc.length]], 3, 38, true, false⟩, some ⟨[x.2.own.cs], 2, 179, true, false⟩, some ⟨x.2.acc.map PieceD.cs, 2, 179, true, true⟩])) (fun (x : Nat × PpS) => x.1 ≤ p.list.length ∧ PpI x.1 x.2 ∧ ppGo x.2 (p.list.drop x.1) = G) (fun (x : Nat × PpS) => p.list.length - x.1) (0, ⟨⟨n, t⟩, false, []⟩) [some (0, none), some (1, none), some (2, none), some (3, none), some (4, none), some (5, none), none] (qC) (⟨Nat.zero_le _, hI0, hG⟩) (weak_mk (by rfl) (by rfl) ?_) fun x hx N hN => ?_
     ·exact qY
     ·obtain ⟨k, g⟩ := x
      obtain ⟨hk1, hI, hgo⟩ := hx
      dsimp only at hk1 hI hgo
      have hIo := hI.own
      have hIp := hI.pos
      have hIa := hI.acc
      have hac : g.acc.length ≤ 100 := by split at hIa <;> omega
      refine qR ?_
      refine qB (fun h => ?_) fun h => ?_
      ·have hm := hF.texts p.list[k] (List.getElem_mem h)
       obtain ⟨hm1, hm2, hm3⟩ := hm
       rw [ppGo_step h] at hgo
       refine qX ?_
       refine qB (fun h2 => ?_) fun h2 => ?_
       ·rw [ppStep_a (by omega)] at hgo
        refine qX ?_
        refine ⟨qC, hN _ (k + 1, ⟨g.own, g.laid, g.acc ++ [p.list[k]]⟩) (qA [0, 1, 2, 3, 4, 5, 9]) (by (try dsimp only); exact ⟨by omega, ppI_a hI hm1, hgo⟩) (by (try dsimp only); omega) (weak_mk (by rfl) (by rfl) ?_)⟩
        try simp (disch := omega) only [go_sem, Nat.reduceEqDiff, Nat.reduceAdd, Nat.reduceSub, Int.reduceAdd, Int.reduceSub, Int.reduceToNat]
        try simp [PieceD.cs]
       ·refine qX ?_
        refine qB (fun h3 => ?_) fun h3 => ?_
        ·rw [ppStep_b (by omega) (by omega)] at hgo
         cases hgl : g.laid with
         | true =>
          rw [hgl, if_pos rfl] at hgo
          try simp (disch := omega) only [go_sem, Nat.reduceEqDiff, Nat.reduceAdd, Nat.reduceSub, Int.reduceAdd, Int.reduceSub, Int.reduceToNat, hgl]
          refine ⟨qC, hN _ (k + 1, ⟨g.own, true, g.acc ++ [p.list[k]]⟩) (qA [0, 1, 2, 3, 4, 5, 9]) (by (try dsimp only); exact ⟨by omega, ppI_b1 hI hgl hm1, hgo⟩) (by (try dsimp only); omega) (weak_mk (by rfl) (by rfl) ?_)⟩
          try simp (disch := omega) only [go_sem, Nat.reduceEqDiff, Nat.reduceAdd, Nat.reduceSub, Int.reduceAdd, Int.reduceSub, Int.reduceToNat]
          try simp [PieceD.cs]
         | false =>
          rw [hgl, if_neg (by simp)] at hgo
          try simp (disch := omega) only [go_sem, Nat.reduceEqDiff, Nat.reduceAdd, Nat.reduceSub, Int.reduceAdd, Int.reduceSub, Int.reduceToNat, hgl]
          refine ⟨qC, hN _ (k + 1, ⟨g.own, true, g.acc ++ [g.own] ++ [p.list[k]]⟩) (qA [0, 1, 2, 3, 4, 5, 11]) (by (try dsimp only); exact ⟨by omega, ppI_b2 hI (by omega) hgl hm1, hgo⟩) (by (try dsimp only); omega) (weak_mk (by rfl) (by rfl) ?_)⟩
          try simp (disch := omega) only [go_sem, Nat.reduceEqDiff, Nat.reduceAdd, Nat.reduceSub, Int.reduceAdd, Int.reduceSub, Int.reduceToNat]
          try simp [PieceD.cs]
        ·rw [ppStep_c (by omega) (by omega)] at hgo
         refine qX ?_
         refine qK (impl_merged p.list[k] g.own (by omega) (by omega) (by omega) (by omega) (by omega) (by omega)) [] ?_
         refine ⟨qC, hN _ (k + 1, ⟨joinP p.list[k] g.own, g.laid, g.acc⟩) (qA [0, 1, 2, 3, 4, 5, 6]) (by (try dsimp only); exact ⟨by omega, ppI_c hI hm1 hm2 hm3, hgo⟩) (by (try dsimp only); omega) (weak_mk (by rfl) (by rfl) ?_)⟩
         try simp (disch := omega) only [go_sem, Nat.reduceEqDiff, Nat.reduceAdd, Nat.reduceSub, Int.reduceAdd, Int.reduceSub, Int.reduceToNat]
         try simp [PieceD.cs]
      ·have hkl : k = p.list.length := by omega
       rw [ppGo_end (by omega)] at hgo
       subst hgo
       obtain ⟨y, r, hyr, hyt, hyl⟩ := ppAll_cons hI (by omega)
       rw [ppRun_eq hG hyr]
       have hyr' := hyr
       rw [ppAll] at hyr'
       cases hgl : g.laid with
       | true =>
        rw [hgl, if_pos rfl] at hyr'
        rw [hyr']
        try simp (disch := omega) only [go_sem, Nat.reduceEqDiff, Nat.reduceAdd, Nat.reduceSub, Int.reduceAdd, Int.reduceSub, Int.reduceToNat, hgl, List.map_cons]
        refine qX ?_
        refine qB (fun h5 => ?_) fun h5 => ?_
        ·refine qD [0, 1, 2, 3, 4, 5, 6, 7, 8, 9] ?_
         refine ⟨qC, run_den 400 ?_⟩
         have hE1 := @ppOut_t p y r h5
         refine qX ?_
         refine qK (impl_PiecesOk ⟨p.read, p.ready ++ y.text, r⟩ (by simp at hyl ⊢; omega)) [some (6, some 1)] ?_
         refine qB (fun h6 => ?_) fun h6 => ?_
         ·rw [ppEnd_f (by rw [hE1]; exact h6)]
          refine qX ?_
          refine qK (impl_copyPieces p hs.list) (qA [0]) ?_
          exact qF (qA [0, 7])
         ·rw [ppEnd_t (by rw [hE1]; exact h6), hE1]
          refine qX ?_
          refine qK (impl_copyPieces ⟨p.read, p.ready ++ y.text, r⟩ (by simp at hyl ⊢; omega)) [some (6, some 1)] ?_
          refine den_fin (qA [0, 7]) (qC) _ (by simp only [go_sem]; rfl) (by rfl) (by rfl) ?_
          simp (disch := omega) only [go_sem, Nat.reduceEqDiff, Nat.reduceAdd, Nat.reduceSub, Int.reduceAdd, Int.reduceSub, Int.reduceToNat]
          try simp
        ·have hE1 := @ppOut_f p y r h5
         refine qX ?_
         refine qK (impl_PiecesOk ⟨p.read, p.ready, y :: r⟩ (by simp at hyl ⊢; omega)) (qA [6]) ?_
         refine qB (fun h6 => ?_) fun h6 => ?_
         ·rw [ppEnd_f (by rw [hE1]; exact h6)]
          refine qX ?_
          refine qK (impl_copyPieces p hs.list) (qA [0]) ?_
          exact qF (qA [0, 7])
         ·rw [ppEnd_t (by rw [hE1]; exact h6), hE1]
          refine qX ?_
          refine qK (impl_copyPieces ⟨p.read, p.ready, y :: r⟩ (by simp at hyl ⊢; omega)) (qA [6]) ?_
          refine den_fin (qA [0, 7]) (qC) _ (by simp only [go_sem]; rfl) (by rfl) (by rfl) ?_
          simp (disch := omega) only [go_sem, Nat.reduceEqDiff, Nat.reduceAdd, Nat.reduceSub, Int.reduceAdd, Int.reduceSub, Int.reduceToNat]
          try simp
       | false =>
        rw [hgl, if_neg (by simp)] at hyr'
        have e1 : g.acc.map PieceD.cs ++ [g.own.cs] = PieceD.cs y :: r.map PieceD.cs := by rw [← List.map_cons, ← hyr']; simp
        have e2 : g.acc.length + 1 = r.length + 1 := by have := congrArg List.length hyr'; simpa using this
        simp only [PieceD.cs] at e1
        try simp (disch := omega) only [go_sem, Nat.reduceEqDiff, Nat.reduceAdd, Nat.reduceSub, Int.reduceAdd, Int.reduceSub, Int.reduceToNat, hgl, e1, e2]
        refine qX ?_
        refine qB (fun h5 => ?_) fun h5 => ?_
        ·refine qD [0, 1, 2, 3, 4, 5, 6, 7, 8, 9] ?_
         refine ⟨qC, run_den 400 ?_⟩
         have hE1 := @ppOut_t p y r h5
         refine qX ?_
         refine qK (impl_PiecesOk ⟨p.read, p.ready ++ y.text, r⟩ (by simp at hyl ⊢; omega)) [some (8, some 1)] ?_
         refine qB (fun h6 => ?_) fun h6 => ?_
         ·rw [ppEnd_f (by rw [hE1]; exact h6)]
          refine qX ?_
          refine qK (impl_copyPieces p hs.list) (qA [0]) ?_
          exact qF (qA [0, 9])
         ·rw [ppEnd_t (by rw [hE1]; exact h6), hE1]
          refine qX ?_
          refine qK (impl_copyPieces ⟨p.read, p.ready ++ y.text, r⟩ (by simp at hyl ⊢; omega)) [some (8, some 1)] ?_
          refine den_fin (qA [0, 9]) (qC) _ (by simp only [go_sem]; rfl) (by rfl) (by rfl) ?_
          simp (disch := omega) only [go_sem, Nat.reduceEqDiff, Nat.reduceAdd, Nat.reduceSub, Int.reduceAdd, Int.reduceSub, Int.reduceToNat]
          try simp
        ·have hE1 := @ppOut_f p y r h5
         refine qX ?_
         refine qK (impl_PiecesOk ⟨p.read, p.ready, y :: r⟩ (by simp at hyl ⊢; omega)) (qA [8]) ?_
         refine qB (fun h6 => ?_) fun h6 => ?_
         ·rw [ppEnd_f (by rw [hE1]; exact h6)]
          refine qX ?_
          refine qK (impl_copyPieces p hs.list) (qA [0]) ?_
          exact qF (qA [0, 9])
         ·rw [ppEnd_t (by rw [hE1]; exact h6), hE1]
          refine qX ?_
          refine qK (impl_copyPieces ⟨p.read, p.ready, y :: r⟩ (by simp at hyl ⊢; omega)) (qA [8]) ?_
          refine den_fin (qA [0, 9]) (qC) _ (by simp only [go_sem]; rfl) (by rfl) (by rfl) ?_
          simp (disch := omega) only [go_sem, Nat.reduceEqDiff, Nat.reduceAdd, Nat.reduceSub, Int.reduceAdd, Int.reduceSub, Int.reduceToNat]
          try simp
  ·rw [hf (by rw [hok]; simp [h2])]
   refine qX ?_
   refine qK (impl_copyPieces p hs.list) (qA [0]) ?_
   exact qF (qA [0, 4])
 ·rw [hf (by rw [hok]; simp [h1])]
  refine qX ?_
  refine qK (impl_copyPieces p hs.list) (qA [0]) ?_
  exact qF (qA [0, 3])

end
section
open Go.RowKit

theorem piecesOk_le {p : PiecesD} (h : piecesOk p = true) : p.list.length ≤ 20 := by
 simp only [piecesOk, Bool.and_eq_true, decide_eq_true_eq] at h
 omega
theorem ppEnd_or (p : PiecesD) (l : List PieceD) : ppEnd p l = p ∨ piecesOk (ppEnd p l) = true := by
 rw [ppEnd]
 split
 ·rename_i h; exact .inr h
 ·exact .inl rfl
theorem putPiece_or (p : PiecesD) (n : Int) (t : List UInt8) : putPiece p n t = p ∨ piecesOk (putPiece p n t) = true := by
 rw [putPiece]
 split
 ·split
  ·exact .inl rfl
  ·split <;> exact ppEnd_or _ _
 ·exact .inl rfl
theorem putPiece_le {p : PiecesD} {n : Int} {t : List UInt8} (h : p.list.length ≤ 1048576) : (putPiece p n t).list.length ≤ 1048576 := by
 rcases putPiece_or p n t with e | e
 ·rw [e]; exact h
 ·have := piecesOk_le e; omega
def inOf (e : EndD) (x : LetterD) : PiecesD := putPiece e.inp x.pos x.text
def dataOk (e : EndD) (x : LetterD) : Bool := decide (0 ≤ onAt e x) && decide (nextOf (inOf e x) ≤ 1000000000)
def cameL (x : LetterD) (n m : Int) : LetterD := between (roadOf x) { letNone with kind := 12, sgn := n, pos := m }
def hearData (e : EndD) (x : LetterD) : EndD × List LetterD :=
 if dataOk e x then ({ e with inp := inOf e x }, [cameL x (subAtN e.subs (onAt e x).toNat).give (nextOf (inOf e x))]) else (e, [])
theorem hearData_f {e : EndD} {x : LetterD} (h : dataOk e x = false) : hearData e x = (e, []) := by rw [hearData, if_neg (by simp [h])]
theorem hearData_t {e : EndD} {x : LetterD} {n : Nat} (h : dataOk e x = true) (ho : onAt e x = (n : Int)) (hn : n < e.subs.length) :
  hearData e x = ({ e with inp := inOf e x }, [cameL x e.subs[n].give (nextOf (inOf e x))]) := by rw [hearData, if_pos h, ho, Int.toNat_natCast, subAtN_at hn]
def EndD.hpS (x : EndD) : Hp := [some ⟨x.own.map AddrD.cs, 4, 53, true, true⟩, some ⟨x.far.map AddrD.cs, 4, 53, true, true⟩, some ⟨x.subs.map SubD.cs, 10, 132, true, true⟩, some ⟨x.halfs.map HalfD.cs, 8, 164, true, true⟩, some ⟨x.inp.list.map PieceD.cs, 2, 179, false, true⟩, some ⟨x.done.map intC, 1, 3, true, true⟩, some ⟨x.over.map intC, 1, 3, true, true⟩]
attribute [go_sem] EndD.hpS
def hearOk (e : EndD) (x : LetterD) : Bool := endOk e && letOk x && ownsAddr e.own x.to
def hear (e : EndD) (x : LetterD) : EndD × List LetterD :=
 if hearOk e x then
  if x.kind = 1 then hearHello e x else if x.kind = 2 then hearBack e x else if x.kind = 4 then hearJoin e x else if x.kind = 5 then hearJoinBack e x
  else if x.kind = 6 then hearJoinDone e x else if x.kind = 7 then hearJoinAck e x else if x.kind = 8 then hearAddr e x else if x.kind = 9 then hearEcho e x
  else if x.kind = 10 then hearGone e x else if x.kind = 11 then hearData e x else if x.kind = 12 then hearCame e x else if x.kind = 13 then hearReset e x else (e, [])
 else (e, [])
theorem hear_f {e : EndD} {x : LetterD} (h : hearOk e x = false) : hear e x = (e, []) := by rw [hear, if_neg (by simp [h])]
theorem hear_n {e : EndD} {x : LetterD} (h : ∀ k : Int, k = 1 ∨ k = 2 ∨ 4 ≤ k ∧ k ≤ 13 → ¬ x.kind = k) : hear e x = (e, []) := by
 by_cases hc : hearOk e x = true
 ·rw [hear, if_pos hc, if_neg (h 1 (by omega)), if_neg (h 2 (by omega)), if_neg (h 4 (by omega)), if_neg (h 5 (by omega)), if_neg (h 6 (by omega)), if_neg (h 7 (by omega)), if_neg (h 8 (by omega)), if_neg (h 9 (by omega)), if_neg (h 10 (by omega)), if_neg (h 11 (by omega)), if_neg (h 12 (by omega)), if_neg (h 13 (by omega))]
 ·exact hear_f (by simpa using hc)
theorem hear_1 {e : EndD} {x : LetterD} (h : hearOk e x = true) (hk : x.kind = 1) : hear e x = hearHello e x := by rw [hear, if_pos h]; simp [hk]
theorem hear_2 {e : EndD} {x : LetterD} (h : hearOk e x = true) (hk : x.kind = 2) : hear e x = hearBack e x := by rw [hear, if_pos h]; simp [hk]
theorem hear_4 {e : EndD} {x : LetterD} (h : hearOk e x = true) (hk : x.kind = 4) : hear e x = hearJoin e x := by rw [hear, if_pos h]; simp [hk]
theorem hear_5 {e : EndD} {x : LetterD} (h : hearOk e x = true) (hk : x.kind = 5) : hear e x = hearJoinBack e x := by rw [hear, if_pos h]; simp [hk]
theorem hear_6 {e : EndD} {x : LetterD} (h : hearOk e x = true) (hk : x.kind = 6) : hear e x = hearJoinDone e x := by rw [hear, if_pos h]; simp [hk]
theorem hear_7 {e : EndD} {x : LetterD} (h : hearOk e x = true) (hk : x.kind = 7) : hear e x = hearJoinAck e x := by rw [hear, if_pos h]; simp [hk]
theorem hear_8 {e : EndD} {x : LetterD} (h : hearOk e x = true) (hk : x.kind = 8) : hear e x = hearAddr e x := by rw [hear, if_pos h]; simp [hk]
theorem hear_9 {e : EndD} {x : LetterD} (h : hearOk e x = true) (hk : x.kind = 9) : hear e x = hearEcho e x := by rw [hear, if_pos h]; simp [hk]
theorem hear_10 {e : EndD} {x : LetterD} (h : hearOk e x = true) (hk : x.kind = 10) : hear e x = hearGone e x := by rw [hear, if_pos h]; simp [hk]
theorem hear_11 {e : EndD} {x : LetterD} (h : hearOk e x = true) (hk : x.kind = 11) : hear e x = hearData e x := by rw [hear, if_pos h]; simp [hk]
theorem hear_12 {e : EndD} {x : LetterD} (h : hearOk e x = true) (hk : x.kind = 12) : hear e x = hearCame e x := by rw [hear, if_pos h]; simp [hk]
theorem hear_13 {e : EndD} {x : LetterD} (h : hearOk e x = true) (hk : x.kind = 13) : hear e x = hearReset e x := by rw [hear, if_pos h]; simp [hk]
end
section
open Go.RowKit

theorem impl_HearData (e : EndD) (x : LetterD) (hs : Small e) (hsp : SmallP e.inp) : CallA Tryz.prog 118 [.ag (e.cs 0), .ag x.cs] (e.hp false) (.tu [.ag ((hearData e x).1.cs 7), .sc (.sl 14 0 (hearData e x).2.length)])
  (e.hp false ++ ((hearData e x).1.hp true ++ [some ⟨(hearData e x).2.map LetterD.cs, 19, 57, true, true⟩])) := by
 have hC := impl_copyEnd e (by have := hs.own; omega) (by have := hs.far; omega) (by have := hs.subs; omega) (by have := hs.halfs; omega) (by have := hs.list; omega) (by have := hs.done; omega) (by have := hs.over; omega)
 have hK := impl_EndOk e (by have := hs.own; omega) (by have := hs.far; omega) (by have := hs.subs; omega) (by have := hs.halfs; omega) (by have := hs.list; omega) (by have := hs.done; omega) (by have := hs.over; omega)
 have hS := impl_SignedOn e x (by have := hs.subs; omega)
 have hL := impl_LetterOk x
 have hbs := signedOn_bd e x
 have hP := impl_PutPiece e.inp x.pos x.text hsp
 have hbd := onAt_bd e x
 have hf := hearData_f (e := e) (x := x)
 have ht := fun (n : Nat) => @hearData_t e x n
 have hok := dataOk.eq_1 e x
 have hql : (inOf e x).list.length ≤ 1048576 := putPiece_le (by have := hs.list; omega)
 rw [show putPiece e.inp x.pos x.text = inOf e x from rfl] at hP
 generalize inOf e x = Q at *
 generalize hearData e x = R at *
 refine qE Tryz.func118 Tryz.ntmps118 Tryz.results118 fun E hE => ?_
 refine qK (hC) (qA [0, 1, 2, 3, 4, 5, 6]) ?_
 refine qK (hS) (qA [0, 1, 2, 3, 4, 5, 6]) ?_
 rcases hbs with hk | ⟨hk0, hk1⟩
 ·rw [hk]
  refine qX ?_
  refine qK (hK) (qA [0, 1, 2, 3, 4, 5, 6]) ?_
  refine qB (fun h1 => ?_) fun h1 => ?_
  ·refine qK (hL) [] ?_
   refine qB (fun h2 => ?_) fun h2 => ?_
   ·rw [hf (by rw [hok]; have := onAt_f (e := e) (x := x) (by rintro ⟨_, _, hh⟩; omega); simp; omega)]
    refine qX ?_
    exact qF [some (0, none), some (1, none), some (2, none), some (3, none), some (4, none), some (5, none), some (6, none), some (10, none), some (11, none), some (12, none), some (13, none), some (14, none), some (15, none), some (16, none), none]
   ·rw [hf (by rw [hok]; have := onAt_f (e := e) (x := x) (by rintro ⟨_, hh, _⟩; rw [h2] at hh; cases hh); simp; omega)]
    refine qX ?_
    exact qF [some (0, none), some (1, none), some (2, none), some (3, none), some (4, none), some (5, none), some (6, none), some (10, none), some (11, none), some (12, none), some (13, none), some (14, none), some (15, none), some (16, none), none]
  ·rw [hf (by rw [hok]; have := onAt_f (e := e) (x := x) (by rintro ⟨hh, _⟩; rw [h1] at hh; cases hh); simp; omega)]
   refine qX ?_
   exact qF [some (0, none), some (1, none), some (2, none), some (3, none), some (4, none), some (5, none), some (6, none), some (10, none), some (11, none), some (12, none), some (13, none), some (14, none), some (15, none), some (16, none), none]
 ·obtain ⟨n, hk⟩ := Int.eq_ofNat_of_zero_le hk0
  have hn : n < e.subs.length := by omega
  rw [hk]
  refine qX ?_
  refine qK (hK) (qA [0, 1, 2, 3, 4, 5, 6]) ?_
  refine qB (fun h1 => ?_) fun h1 => ?_
  ·refine qK (hL) [] ?_
   refine qB (fun h2 => ?_) fun h2 => ?_
   ·have hon := onAt_t h1 h2 hk
    have hq1 := h1
    refine qX ?_
    refine qK (hP) (qA [4]) ?_
    refine qK (impl_NextOf Q) (qA [18]) ?_
    refine qB (fun h7 => ?_) fun h7 => ?_
    ·rw [hf (by rw [hok]; simp; omega)]
     refine qX ?_
     exact qF [some (0, none), some (1, none), some (2, none), some (3, none), some (4, none), some (5, none), some (6, none), some (10, none), some (11, none), some (12, none), some (13, none), some (14, none), some (15, none), some (16, none), none]
    ·rw [ht _ (by rw [hok]; simp [hon]; omega) hon hn]
     refine qX ?_
     refine den_drawC [(13, 14)] [[0, 1, 3, 4, 5, 6, 7, 8, 9, 2, 10, 11, 12, 13, 14, 15], [0, 1, 3, 4, 5, 6, 7, 8, 9, 2, 10, 11, 12, 14, 13, 15]] (by kernel_rfl) (qC) (by kernel_rfl) ?_
     simp only [allDn]
     refine ⟨runD_den 400 ?_, runD_den 400 ?_⟩
     all_goals simp (disch := omega) only [go_sem, Nat.reduceEqDiff, Nat.reduceAdd, Nat.reduceSub, Int.reduceAdd, Int.reduceSub, Int.reduceToNat]
     all_goals
      refine qKD (impl_RoadOf x) [] ?_
      refine qKD (impl_NextOf Q) (qA [18]) ?_
      refine qKD (impl_Between (roadOf x) { letNone with kind := 12, sgn := e.subs[n].give, pos := nextOf Q }) [] ?_
      refine qG ?_
      refine den_fin (qA [0, 1, 2, 3, 4, 5, 6, 10, 11, 12, 13, 18, 15, 16, 20]) (qC) _ (by simp only [go_sem]; rfl) (by rfl) (by rfl) ?_
      simp (disch := omega) only [go_sem, Nat.reduceEqDiff, Nat.reduceAdd, Nat.reduceSub, Int.reduceAdd, Int.reduceSub, Int.reduceToNat]
      try simp [cameL, between, LetterD.cs]
   ·rw [hf (by rw [hok]; have := onAt_f (e := e) (x := x) (by rintro ⟨_, hh, _⟩; rw [h2] at hh; cases hh); simp; omega)]
    refine qX ?_
    exact qF [some (0, none), some (1, none), some (2, none), some (3, none), some (4, none), some (5, none), some (6, none), some (10, none), some (11, none), some (12, none), some (13, none), some (14, none), some (15, none), some (16, none), none]
  ·rw [hf (by rw [hok]; have := onAt_f (e := e) (x := x) (by rintro ⟨hh, _⟩; rw [h1] at hh; cases hh); simp; omega)]
   refine qX ?_
   exact qF [some (0, none), some (1, none), some (2, none), some (3, none), some (4, none), some (5, none), some (6, none), some (10, none), some (11, none), some (12, none), some (13, none), some (14, none), some (15, none), some (16, none), none]

end
section
open Go.RowKit

theorem impl_Hear (e : EndD) (x : LetterD) (hs : Small e) (hsp : SmallP e.inp) : CallA Tryz.prog 96 [.ag (e.cs 0), .ag x.cs] (e.hp false) (.tu [.ag ((hear e x).1.cs 7), .sc (.sl 14 0 (hear e x).2.length)])
  (e.hp false ++ ((hear e x).1.hp true ++ [some ⟨(hear e x).2.map LetterD.cs, 19, 57, true, true⟩])) := by
 have hC := impl_copyEnd e (by have := hs.own; omega) (by have := hs.far; omega) (by have := hs.subs; omega) (by have := hs.halfs; omega) (by have := hs.list; omega) (by have := hs.done; omega) (by have := hs.over; omega)
 have hK := impl_EndOk e (by have := hs.own; omega) (by have := hs.far; omega) (by have := hs.subs; omega) (by have := hs.halfs; omega) (by have := hs.list; omega) (by have := hs.done; omega) (by have := hs.over; omega)
 have hL := impl_LetterOk x
 have hO := impl_OwnsAddr e x.to (by have := hs.own; omega)
 have hf := hear_f (e := e) (x := x)
 have hno := hear_n (e := e) (x := x)
 have hr1 := hear_1 (e := e) (x := x)
 have hr2 := hear_2 (e := e) (x := x)
 have hr4 := hear_4 (e := e) (x := x)
 have hr5 := hear_5 (e := e) (x := x)
 have hr6 := hear_6 (e := e) (x := x)
 have hr7 := hear_7 (e := e) (x := x)
 have hr8 := hear_8 (e := e) (x := x)
 have hr9 := hear_9 (e := e) (x := x)
 have hr10 := hear_10 (e := e) (x := x)
 have hr11 := hear_11 (e := e) (x := x)
 have hr12 := hear_12 (e := e) (x := x)
 have hr13 := hear_13 (e := e) (x := x)
 generalize hear e x = R at *
 refine qE Tryz.func96 Tryz.ntmps96 Tryz.results96 fun E hE => ?_
 refine qK (hK) (qA [0, 1, 2, 3, 4, 5, 6]) ?_
 refine qB (fun h1 => ?_) fun h1 => ?_
 ·refine qK (hL) [] ?_
  refine qB (fun h2 => ?_) fun h2 => ?_
  ·refine qK (hO) (qA [0, 1, 2, 3, 4, 5, 6]) ?_
   refine qB (fun h3 => ?_) fun h3 => ?_
   ·rw [hf (by simp [hearOk, h1, h2, h3])]
    refine qX ?_
    refine qK (hC) (qA [0, 1, 2, 3, 4, 5, 6]) ?_
    exact qF [some (0, none), some (1, none), some (2, none), some (3, none), some (4, none), some (5, none), some (6, none), some (10, none), some (11, none), some (12, none), some (13, none), some (14, none), some (15, none), some (16, none), none]
   ·have hh : hearOk e x = true := by simp [hearOk, h1, h2, h3]
    refine qX ?_
    refine qB (fun k1 => ?_) fun k1 => ?_
    ·rw [hr1 hh k1]
     refine qX ?_
     refine qK (impl_HearHello e x hs) (qA [0, 1, 2, 3, 4, 5, 6]) ?_
     exact qF (qA [0, 1, 2, 3, 4, 5, 6, 10, 11, 12, 13, 14, 15, 16, 17])
    ·refine qX ?_
     refine qB (fun k2 => ?_) fun k2 => ?_
     ·rw [hr2 hh k2]
      refine qX ?_
      refine qK (impl_HearBack e x hs) (qA [0, 1, 2, 3, 4, 5, 6]) ?_
      exact qF (qA [0, 1, 2, 3, 4, 5, 6, 10, 11, 12, 13, 14, 15, 16, 17])
     ·refine qX ?_
      refine qB (fun k4 => ?_) fun k4 => ?_
      ·rw [hr4 hh k4]
       refine qX ?_
       refine qK (impl_HearJoin e x hs) (qA [0, 1, 2, 3, 4, 5, 6]) ?_
       exact qF (qA [0, 1, 2, 3, 4, 5, 6, 10, 11, 12, 13, 14, 15, 16, 17])
      ·refine qX ?_
       refine qB (fun k5 => ?_) fun k5 => ?_
       ·rw [hr5 hh k5]
        refine qX ?_
        refine qK (impl_HearJoinBack e x hs) (qA [0, 1, 2, 3, 4, 5, 6]) ?_
        exact qF (qA [0, 1, 2, 3, 4, 5, 6, 10, 11, 12, 13, 14, 15, 16, 17])
       ·refine qX ?_
        refine qB (fun k6 => ?_) fun k6 => ?_
        ·rw [hr6 hh k6]
         refine qX ?_
         refine qK (impl_HearJoinDone e x hs) (qA [0, 1, 2, 3, 4, 5, 6]) ?_
         exact qF (qA [0, 1, 2, 3, 4, 5, 6, 10, 11, 12, 13, 14, 15, 16, 17])
        ·refine qX ?_
         refine qB (fun k7 => ?_) fun k7 => ?_
         ·rw [hr7 hh k7]
          refine qX ?_
          refine qK (impl_HearJoinAck e x hs) (qA [0, 1, 2, 3, 4, 5, 6]) ?_
          exact qF (qA [0, 1, 2, 3, 4, 5, 6, 10, 11, 12, 13, 14, 15, 16, 17])
         ·refine qX ?_
          refine qB (fun k8 => ?_) fun k8 => ?_
          ·rw [hr8 hh k8]
           refine qX ?_
           refine qK (impl_HearAddr e x hs) (qA [0, 1, 2, 3, 4, 5, 6]) ?_
           exact qF (qA [0, 1, 2, 3, 4, 5, 6, 10, 11, 12, 13, 14, 15, 16, 17])
          ·refine qX ?_
           refine qB (fun k9 => ?_) fun k9 => ?_
           ·rw [hr9 hh k9]
            refine qX ?_
            refine qK (impl_HearEcho e x hs) (qA [0, 1, 2, 3, 4, 5, 6]) ?_
            exact qF (qA [0, 1, 2, 3, 4, 5, 6, 10, 11, 12, 13, 14, 15, 16, 17])
           ·refine qX ?_
            refine qB (fun k10 => ?_) fun k10 => ?_
            ·rw [hr10 hh k10]
             refine qX ?_
             refine qK (impl_HearGone e x hs) (qA [0, 1, 2, 3, 4, 5, 6]) ?_
             exact qF (qA [0, 1, 2, 3, 4, 5, 6, 10, 11, 12, 13, 14, 15, 16, 17])
            ·refine qX ?_
             refine qB (fun k11 => ?_) fun k11 => ?_
             ·rw [hr11 hh k11]
              refine qX ?_
              refine qK (impl_HearData e x hs hsp) (qA [0, 1, 2, 3, 4, 5, 6]) ?_
              exact qF (qA [0, 1, 2, 3, 4, 5, 6, 10, 11, 12, 13, 14, 15, 16, 17])
             ·refine qX ?_
              refine qB (fun k12 => ?_) fun k12 => ?_
              ·rw [hr12 hh k12]
               refine qX ?_
               refine qK (impl_HearCame e x hs) (qA [0, 1, 2, 3, 4, 5, 6]) ?_
               exact qF (qA [0, 1, 2, 3, 4, 5, 6, 10, 11, 12, 13, 14, 15, 16, 17])
              ·refine qX ?_
               refine qB (fun k13 => ?_) fun k13 => ?_
               ·rw [hr13 hh k13]
                refine qX ?_
                refine qK (impl_HearReset e x hs) (qA [0, 1, 2, 3, 4, 5, 6]) ?_
                exact qF (qA [0, 1, 2, 3, 4, 5, 6, 10, 11, 12, 13, 14, 15, 16, 17])
               ·refine qX ?_
                rw [hno (by intro k hk; omega)]
                refine qX ?_
                refine qK (hC) (qA [0, 1, 2, 3, 4, 5, 6]) ?_
                exact qF [some (0, none), some (1, none), some (2, none), some (3, none), some (4, none), some (5, none), some (6, none), some (10, none), some (11, none), some (12, none), some (13, none), some (14, none), some (15, none), some (16, none), none]
  ·rw [hf (by simp [hearOk, h2])]
   refine qX ?_
   refine qK (hC) (qA [0, 1, 2, 3, 4, 5, 6]) ?_
   exact qF [some (0, none), some (1, none), some (2, none), some (3, none), some (4, none), some (5, none), some (6, none), some (10, none), some (11, none), some (12, none), some (13, none), some (14, none), some (15, none), some (16, none), none]
 ·rw [hf (by simp [hearOk, h1])]
  refine qX ?_
  refine qK (hC) (qA [0, 1, 2, 3, 4, 5, 6]) ?_
  exact qF [some (0, none), some (1, none), some (2, none), some (3, none), some (4, none), some (5, none), some (6, none), some (10, none), some (11, none), some (12, none), some (13, none), some (14, none), some (15, none), some (16, none), none]

end
section
open Go.RowKit

theorem impl_CanMake (k : KnownD) (t : TagD) (h0 : k.keys.length ≤ 1048576) (h1 : k.tags.length ≤ 1048576) : CallA Tryz.prog 97 [.ag (k.cs 0), .ag t.cs] (k.hp false) (.sc (.bo (canMake k t))) (k.hp false) := by
 obtain ⟨R, hR⟩ : ∃ R, R = canMake k t := ⟨_, rfl⟩
 rw [← hR]
 rw [canMake] at hR
 have hcmp := TagD.cmp t tagNone
 simp only [TagD.cs, tagNone, go_sem] at hcmp
 have ht : tagNone = ⟨0, 0, 0, 0, 0⟩ := rfl
 refine qE Tryz.func97 Tryz.ntmps97 Tryz.results97 fun E hE => ?_
 try simp (disch := omega) only [go_sem, Nat.reduceEqDiff, Nat.reduceAdd, Nat.reduceSub, Int.reduceAdd, Int.reduceSub, Int.reduceToNat, hcmp]
 refine qB (fun b1 => ?_) fun b1 => ?_
 ·have b1' := of_decide_eq_false b1
  refine qK (impl_hasInt k.keys t.one h0) (qA [0]) ?_
  refine qB (fun b2 => ?_) fun b2 => ?_
  ·refine qK (impl_hasInt k.keys t.two h0) (qA [0]) ?_
   refine qB (fun b3 => ?_) fun b3 => ?_
   ·have hR' : R = true := by rw [hR]; simp [b2, b3]
    subst hR'
    refine qX ?_
    exact qF (qA [0, 1])
   ·have hR' : R = (k.tags.take 300).any (fun u => decide (u = t)) := by rw [hR, ht]; simp [b1', b2, b3]
    refine qX ?_
    refine den_lp 2 hE (fun s (i : Nat) => s.at [0, 1, 4, 6, 7, 8, 9, 10, 11, 12, 13, 14, 15, 16, 17, 18, 19, 20, 21, 22, 23, 24, 25, 26, 27, 28, 29, 30, 31, 32, 33, 34, 35, 36, 37, 38, 39, 40] [(5, .sc (.int .i64 (i : Nat)))] (s.hp)) (fun (i : Nat) => i ≤ k.tags.length ∧ i ≤ 300 ∧ ((k.tags.take 300).drop i).any (fun u => decide (u = t)) = R) (fun (i : Nat) => k.tags.length - i) 0 (qA [0, 1, 2, 3]) (qC) (⟨Nat.zero_le _, Nat.zero_le _, by rw [hR']; rfl⟩) (weak_mk (by rfl) (by rfl) ?_) fun i hi N hN => ?_
    ·exact qY
    ·obtain ⟨hi1, hi2, hi3⟩ := hi
     refine qR ?_
     refine qB (fun h => ?_) fun h => ?_
     ·refine qB (fun h2 => ?_) fun h2 => ?_
      ·rw [any_step (by simp; omega), List.getElem_take] at hi3
       have hcm := TagD.cmp k.tags[i] t
       simp only [TagD.cs, go_sem] at hcm
       refine qX ?_
       refine qD [0, 1, 2, 3, 4, 5, 6] ?_
       refine ⟨qC, run_den 400 ?_⟩
       try simp (disch := omega) only [go_sem, Nat.reduceEqDiff, Nat.reduceAdd, Nat.reduceSub, Int.reduceAdd, Int.reduceSub, Int.reduceToNat, hcm]
       refine qB (fun h3 => ?_) fun h3 => ?_
       ·rw [decide_eq_true h3, Bool.true_or] at hi3
        subst hi3
        refine qX ?_
        exact qF (qA [0, 1])
       ·rw [decide_eq_false h3, Bool.false_or] at hi3
        exact qN hN (i + 1) (qA [0, 1, 2, 3]) (by (try dsimp only); exact ⟨by omega, by omega, hi3⟩)
      ·rw [any_end (by simp; omega)] at hi3
       subst hi3
       refine qX ?_
       exact qF (qA [0, 1])
     ·rw [any_end (by simp; omega)] at hi3
      subst hi3
      refine qX ?_
      exact qF (qA [0, 1])
  ·have hR' : R = (k.tags.take 300).any (fun u => decide (u = t)) := by rw [hR, ht]; simp [b1', b2]
   refine qX ?_
   refine den_lp 2 hE (fun s (i : Nat) => s.at [0, 1, 4, 6, 7, 8, 9, 10, 11, 12, 13, 14, 15, 16, 17, 18, 19, 20, 21, 22, 23, 24, 25, 26, 27, 28, 29, 30, 31, 32, 33, 34, 35, 36, 37, 38, 39, 40] [(5, .sc (.int .i64 (i : Nat)))] (s.hp)) (fun (i : Nat) => i ≤ k.tags.length ∧ i ≤ 300 ∧ ((k.tags.take 300).drop i).any (fun u => decide (u = t)) = R) (fun (i : Nat) => k.tags.length - i) 0 (qA [0, 1, 2, 3]) (qC) (⟨Nat.zero_le _, Nat.zero_le _, by rw [hR']; rfl⟩) (weak_mk (by rfl) (by rfl) ?_) fun i hi N hN => ?_
   ·exact qY
   ·obtain ⟨hi1, hi2, hi3⟩ := hi
    refine qR ?_
    refine qB (fun h => ?_) fun h => ?_
    ·refine qB (fun h2 => ?_) fun h2 => ?_
     ·rw [any_step (by simp; omega), List.getElem_take] at hi3
      have hcm := TagD.cmp k.tags[i] t
      simp only [TagD.cs, go_sem] at hcm
      refine qX ?_
      refine qD [0, 1, 2, 3, 4, 5, 6] ?_
      refine ⟨qC, run_den 400 ?_⟩
      try simp (disch := omega) only [go_sem, Nat.reduceEqDiff, Nat.reduceAdd, Nat.reduceSub, Int.reduceAdd, Int.reduceSub, Int.reduceToNat, hcm]
      refine qB (fun h3 => ?_) fun h3 => ?_
      ·rw [decide_eq_true h3, Bool.true_or] at hi3
       subst hi3
       refine qX ?_
       exact qF (qA [0, 1])
      ·rw [decide_eq_false h3, Bool.false_or] at hi3
       exact qN hN (i + 1) (qA [0, 1, 2, 3]) (by (try dsimp only); exact ⟨by omega, by omega, hi3⟩)
     ·rw [any_end (by simp; omega)] at hi3
      subst hi3
      refine qX ?_
      exact qF (qA [0, 1])
    ·rw [any_end (by simp; omega)] at hi3
     subst hi3
     refine qX ?_
     exact qF (qA [0, 1])
 ·have b1' := of_decide_eq_true b1
  have hR' : R = true := by rw [hR, ht]; simp [b1']
  subst hR'
  refine qX ?_
  exact qF (qA [0, 1])

theorem impl_copyLetters (l : List LetterD) (hl : l.length ≤ 1048576) : CallA Tryz.prog 35 [.sc (.sl 0 0 l.length)] [some ⟨l.map LetterD.cs, 19, 57, false, true⟩] (.sc (.sl 1 0 l.length)) [some ⟨l.map LetterD.cs, 19, 57, false, true⟩, some ⟨l.map LetterD.cs, 19, 57, true, true⟩] := by
 refine qE Tryz.func35 Tryz.ntmps35 Tryz.results35 fun E hE => ?_
 exact qF (qA [0, 2])
theorem impl_copyKnown (k : KnownD) (h0 : k.keys.length ≤ 1048576) (h1 : k.tags.length ≤ 1048576) : CallA Tryz.prog 36 [.ag (k.cs 0)] (k.hp false) (.ag (k.cs 2)) (k.hp false ++ k.hp true) := by
 refine qE Tryz.func36 Tryz.ntmps36 Tryz.results36 fun E hE => ?_
 refine den_drawC [(2, 3)] [[0, 1, 4, 5, 2, 3, 6, 7, 8], [0, 1, 4, 5, 3, 2, 6, 7, 8]] (by kernel_rfl) (qC) (by kernel_rfl) ?_
 simp only [allDn]
 refine ⟨runD_den 400 ?_, runD_den 400 ?_⟩
 all_goals simp (disch := omega) only [go_sem, Nat.reduceEqDiff, Nat.reduceAdd, Nat.reduceSub, Int.reduceAdd, Int.reduceSub, Int.reduceToNat]
 ·refine qKD (impl_copyInts k.keys h0) (qA [0]) ?_
  refine qG ?_
  exact qF (qA [0, 1, 4, 6])
 ·refine qKD (impl_copyInts k.keys h0) (qA [0]) ?_
  refine qG ?_
  exact qF (qA [0, 1, 5, 6])
theorem tag_app (l : List TagD) (h : TagD) : l.map TagD.cs ++ [h.cs] = (l ++ [h]).map TagD.cs := by simp
theorem learn_t {k : KnownD} {t : TagD} (h : canMake k t = false) (h2 : k.tags.length < 300) : learn k t = { k with tags := k.tags ++ [t] } := if_pos ⟨h, h2⟩
theorem learn_f1 {k : KnownD} {t : TagD} (h : canMake k t = true) : learn k t = k := if_neg (by simp [h])
theorem learn_f2 {k : KnownD} {t : TagD} (h2 : ¬ k.tags.length < 300) : learn k t = k := if_neg (fun h => h2 h.2)
theorem impl_Learn (k : KnownD) (t : TagD) (h0 : k.keys.length ≤ 1048576) (h1 : k.tags.length ≤ 1048576) : CallA Tryz.prog 95 [.ag (k.cs 0), .ag t.cs] (k.hp false) (.ag ((learn k t).cs 2)) (k.hp false ++ (learn k t).hp true) := by
 have hM := impl_CanMake k t h0 h1
 have ht := learn_t (k := k) (t := t)
 have hf1 := learn_f1 (k := k) (t := t)
 have hf2 := learn_f2 (k := k) (t := t)
 generalize learn k t = R at *
 refine qE Tryz.func95 Tryz.ntmps95 Tryz.results95 fun E hE => ?_
 refine qK (impl_copyKnown k h0 h1) (qA [0, 1]) ?_
 refine qK (hM) (qA [0, 1]) ?_
 refine qB (fun b1 => ?_) fun b1 => ?_
 ·refine qB (fun b2 => ?_) fun b2 => ?_
  ·rw [ht b1 (by omega)]
   have e := tag_app k.tags t
   simp only [TagD.cs] at e
   try simp (disch := omega) only [go_sem, Nat.reduceEqDiff, Nat.reduceAdd, Nat.reduceSub, Int.reduceAdd, Int.reduceSub, Int.reduceToNat, e]
   refine den_fin (qA [0, 1, 5, 9]) (qC) _ (by simp only [go_sem]; rfl) (by rfl) (by rfl) ?_
   simp (disch := omega) only [go_sem, Nat.reduceEqDiff, Nat.reduceAdd, Nat.reduceSub, Int.reduceAdd, Int.reduceSub, Int.reduceToNat]
   try simp
  ·rw [hf2 (by omega)]
   refine qX ?_
   exact qF (qA [0, 1, 5, 6])
 ·rw [hf1 b1]
  refine qX ?_
  exact qF (qA [0, 1, 5, 6])
end
section
open Go.RowKit

def worldC (x : WorldD) (p0 p1 p2 p3 p4 p5 p6 p7 p8 p9 p10 p11 p12 p13 p14 p15 p16 p17 p18 p19 p20 : Nat) : List Sc := [.int .i64 x.a.side, .int .i64 x.a.state, .int .i64 x.a.key, .int .i64 x.a.peer, .int .i64 x.a.policy.kind, .int .i64 x.a.policy.many, .sl p0 0 x.a.own.length, .sl p1 0 x.a.far.length, .sl p2 0 x.a.subs.length, .sl p3 0 x.a.halfs.length, .int .i64 x.a.bucket.rate, .int .i64 x.a.bucket.burst, .int .i64 x.a.bucket.cur, .st x.a.out.text, .int .i64 x.a.out.base, .int .i64 x.a.out.sent, .int .i64 x.a.out.room, .int .i64 x.a.inp.read, .st x.a.inp.ready, .sl p4 0 x.a.inp.list.length, .sl p5 0 x.a.done.length, .sl p6 0 x.a.over.length, .int .i64 x.a.draw, .int .i64 x.a.now, .int .i64 x.a.pick, .int .i64 x.b.side, .int .i64 x.b.state, .int .i64 x.b.key, .int .i64 x.b.peer, .int .i64 x.b.policy.kind, .int .i64 x.b.policy.many, .sl p7 0 x.b.own.length, .sl p8 0 x.b.far.length, .sl p9 0 x.b.subs.length, .sl p10 0 x.b.halfs.length, .int .i64 x.b.bucket.rate, .int .i64 x.b.bucket.burst, .int .i64 x.b.bucket.cur, .st x.b.out.text, .int .i64 x.b.out.base, .int .i64 x.b.out.sent, .int .i64 x.b.out.room, .int .i64 x.b.inp.read, .st x.b.inp.ready, .sl p11 0 x.b.inp.list.length, .sl p12 0 x.b.done.length, .sl p13 0 x.b.over.length, .int .i64 x.b.draw, .int .i64 x.b.now, .int .i64 x.b.pick, .sl p14 0 x.bag.length, .sl p15 0 x.past.length, .st x.wroteA, .st x.wroteB, .st x.readA, .st x.readB, .sl p16 0 x.known.keys.length, .sl p17 0 x.known.tags.length, .sl p18 0 x.nums.length, .sl p19 0 x.answersA.length, .sl p20 0 x.answersB.length]
attribute [go_sem] worldC
structure SmallW (w : WorldD) : Prop where
 a : Small w.a
 b : Small w.b
 bag : w.bag.length ≤ 1048576
 past : w.past.length ≤ 1048576
 keys : w.known.keys.length ≤ 1048576
 tags : w.known.tags.length ≤ 1048576
 nums : w.nums.length ≤ 1048576
 ansA : w.answersA.length ≤ 1048576
 ansB : w.answersB.length ≤ 1048576
theorem impl_copyWorld (w : WorldD) (hs : SmallW w) : CallA Tryz.prog 17 [.ag (w.cs 0)] (w.hp false) (.ag (w.cs 21)) (w.hp false ++ w.hp true) := by
 have ha := hs.a
 have hb := hs.b
 refine qE Tryz.func17 Tryz.ntmps17 Tryz.results17 fun E hE => ?_
 refine qK (impl_copyEnd w.a (by have := ha.own; omega) (by have := ha.far; omega) (by have := ha.subs; omega) (by have := ha.halfs; omega) (by have := ha.list; omega) (by have := ha.done; omega) (by have := ha.over; omega)) (qA [0, 1, 2, 3, 4, 5, 6]) ?_
 refine qK (impl_copyEnd w.b (by have := hb.own; omega) (by have := hb.far; omega) (by have := hb.subs; omega) (by have := hb.halfs; omega) (by have := hb.list; omega) (by have := hb.done; omega) (by have := hb.over; omega)) (qA [7, 8, 9, 10, 11, 12, 13]) ?_
 refine qK (impl_copyLetters w.bag hs.bag) (qA [14]) ?_
 refine qK (impl_copyLetters w.past hs.past) (qA [15]) ?_
 refine qK (impl_copyKnown w.known hs.keys hs.tags) (qA [16, 17]) ?_
 refine qK (impl_copyInts w.nums hs.nums) (qA [18]) ?_
 refine qK (impl_copyInts w.answersA hs.ansA) (qA [19]) ?_
 refine qK (impl_copyInts w.answersB hs.ansB) (qA [20]) ?_
 exact qF (qA [0, 1, 2, 3, 4, 5, 6, 7, 8, 9, 10, 11, 12, 13, 14, 15, 16, 17, 18, 19, 20, 23, 24, 25, 26, 27, 28, 29, 30, 31, 32, 33, 34, 35, 36, 37, 38, 39, 40, 41, 42, 43])
end
section
open Go.RowKit

theorem sideAt_12 (n : Int) : sideAt n = 0 ∨ sideAt n = 1 ∨ sideAt n = 2 := by
 rw [sideAt]
 split
 ·exact .inr (.inl rfl)
 ·split
  ·exact .inr (.inr rfl)
  ·exact .inl rfl
def setEnd (w : WorldD) (side : Int) (e : EndD) : WorldD := if side = 1 then { w with a := e } else { w with b := e }
def numP (l : List Int) (n : Int) : List Int := if 0 < n ∧ hasI l n = false ∧ l.length < 300 then l ++ [n] else l
theorem numP_t {l : List Int} {n : Int} (h1 : 0 < n) (h2 : hasI l n = false) (h3 : l.length < 300) : numP l n = l ++ [n] := if_pos ⟨h1, h2, h3⟩
theorem numP_f1 {l : List Int} {n : Int} (h1 : ¬ 0 < n) : numP l n = l := if_neg (fun h => h1 h.1)
theorem numP_f2 {l : List Int} {n : Int} (h2 : hasI l n = true) : numP l n = l := if_neg (by simp [h2])
theorem numP_f3 {l : List Int} {n : Int} (h3 : ¬ l.length < 300) : numP l n = l := if_neg (fun h => h3 h.2.2)
theorem numP_le {l : List Int} {n : Int} (h : l.length ≤ 1048576) : (numP l n).length ≤ 1048576 := by
 rw [numP]; split
 ·rename_i hh; have := hh.2.2; simp; omega
 ·exact h
def pastP (l : List LetterD) (x : LetterD) : List LetterD := if l.length < 150 then l ++ [x] else l
def bagP (l : List LetterD) (x : LetterD) : List LetterD := if l.length < 40 then l ++ [x] else l
def ansP (l : List Int) (yes : Bool) (n : Int) : List Int := if yes = true ∧ l.length < 300 then l ++ [n] else l
theorem pastP_t {l : List LetterD} {x : LetterD} (h : l.length < 150) : pastP l x = l ++ [x] := if_pos h
theorem pastP_f {l : List LetterD} {x : LetterD} (h : ¬ l.length < 150) : pastP l x = l := if_neg h
theorem bagP_t {l : List LetterD} {x : LetterD} (h : l.length < 40) : bagP l x = l ++ [x] := if_pos h
theorem bagP_f {l : List LetterD} {x : LetterD} (h : ¬ l.length < 40) : bagP l x = l := if_neg h
theorem ansP_t {l : List Int} {n : Int} (h : l.length < 300) : ansP l true n = l ++ [n] := if_pos ⟨rfl, h⟩
theorem ansP_f {l : List Int} {b : Bool} {n : Int} (h : ¬ l.length < 300) : ansP l b n = l := if_neg (fun hh => h hh.2)
theorem ansP_f1 {l : List Int} {n : Int} : ansP l false n = l := if_neg (by simp)
theorem pastP_le {l : List LetterD} {x : LetterD} (h : l.length ≤ 1048576) : (pastP l x).length ≤ 1048576 := by
 rw [pastP]; split
 ·simp; omega
 ·exact h
theorem bagP_le {l : List LetterD} {x : LetterD} (h : l.length ≤ 1048576) : (bagP l x).length ≤ 1048576 := by
 rw [bagP]; split
 ·simp; omega
 ·exact h
theorem ansP_le {l : List Int} {b : Bool} {n : Int} (h : l.length ≤ 1048576) : (ansP l b n).length ≤ 1048576 := by
 rw [ansP]; split
 ·rename_i hh; have := hh.2; simp; omega
 ·exact h
theorem learn_le {k : KnownD} {t : TagD} (h : k.tags.length ≤ 1048576) : (learn k t).tags.length ≤ 1048576 := by
 rw [learn]; split
 ·rename_i hh; have := hh.2; simp; omega
 ·exact h
theorem learn_keys {k : KnownD} {t : TagD} : (learn k t).keys = k.keys := by
 rw [learn]; split <;> rfl
def isJB (side k : Int) (x : LetterD) : Bool := decide (x.kind = 5) && decide (side = k)
theorem isJB_f {side k : Int} {x : LetterD} (h : ¬ x.kind = 5) : isJB side k x = false := by simp [isJB, h]
theorem isJB_n {side k : Int} {x : LetterD} (h : ¬ side = k) : isJB side k x = false := by simp [isJB, h]
theorem isJB_t {k : Int} {x : LetterD} (h : x.kind = 5) : isJB k k x = true := by simp [isJB, h]
def notes (side : Int) (w : WorldD) (x : LetterD) : WorldD :=
 { w with past := pastP w.past x, answersA := ansP w.answersA (isJB side 1 x) w.a.now, answersB := ansP w.answersB (isJB side 2 x) w.b.now }
def heard (w : WorldD) (x : LetterD) : WorldD := { w with known := learn w.known x.tag, nums := numP (numP (numP w.nums x.nonce) x.give) x.sgn }
def post1 (side : Int) (w : WorldD) (x : LetterD) : WorldD :=
 if sideAt x.to = 0 then heard (notes side w x) x else { notes side w x with bag := bagP w.bag x }
def postL (side : Int) (w : WorldD) (l : List LetterD) : WorldD := l.foldl (post1 side) w
theorem postL_step {side : Int} {w : WorldD} {l : List LetterD} {k : Nat} (h : k < l.length) : postL side w (l.drop k) = postL side (post1 side w l[k]) (l.drop (k + 1)) := by
 rw [List.drop_eq_getElem_cons h]; rfl
theorem postL_end {side : Int} {w : WorldD} {l : List LetterD} {k : Nat} (h : l.length ≤ k) : postL side w (l.drop k) = w := by
 rw [List.drop_eq_nil_of_le h]; rfl
def posted (w : WorldD) (side : Int) (l : List LetterD) : WorldD := if side = 1 ∨ side = 2 then postL side w l else w
def lands (w : WorldD) (x : LetterD) : WorldD :=
 if sideAt x.to = 0 then w else posted (setEnd w (sideAt x.to) (hear (endAt w (sideAt x.to)) x).1) (sideAt x.to) (hear (endAt w (sideAt x.to)) x).2
structure SmallP2 (w : WorldD) : Prop where
 bag : w.bag.length ≤ 1048576
 past : w.past.length ≤ 1048576
 keys : w.known.keys.length ≤ 1048576
 tags : w.known.tags.length ≤ 1048576
 nums : w.nums.length ≤ 1048576
 ansA : w.answersA.length ≤ 1048576
 ansB : w.answersB.length ≤ 1048576
theorem post1_ends {side : Int} {w : WorldD} {x : LetterD} : (post1 side w x).a = w.a ∧ (post1 side w x).b = w.b ∧ (post1 side w x).wroteA = w.wroteA ∧ (post1 side w x).wroteB = w.wroteB ∧ (post1 side w x).readA = w.readA ∧ (post1 side w x).readB = w.readB := by
 rw [post1]; split <;> exact ⟨rfl, rfl, rfl, rfl, rfl, rfl⟩
theorem post1_small {side : Int} {w : WorldD} {x : LetterD} (h : SmallP2 w) : SmallP2 (post1 side w x) := by
 rw [post1]; split
 ·exact ⟨h.bag, pastP_le h.past, by rw [heard, notes, learn_keys]; exact h.keys, learn_le h.tags, numP_le (numP_le (numP_le h.nums)), ansP_le h.ansA, ansP_le h.ansB⟩
 ·exact ⟨bagP_le h.bag, pastP_le h.past, h.keys, h.tags, h.nums, ansP_le h.ansA, ansP_le h.ansB⟩
theorem postL_ends {side : Int} : ∀ {l : List LetterD} {w : WorldD}, (postL side w l).a = w.a ∧ (postL side w l).b = w.b ∧ (postL side w l).wroteA = w.wroteA ∧ (postL side w l).wroteB = w.wroteB ∧ (postL side w l).readA = w.readA ∧ (postL side w l).readB = w.readB
 | [], w => ⟨rfl, rfl, rfl, rfl, rfl, rfl⟩
 | x :: l, w => by
  have h1 := postL_ends (side := side) (l := l) (w := post1 side w x)
  have h2 := post1_ends (side := side) (w := w) (x := x)
  rw [show postL side w (x :: l) = postL side (post1 side w x) l from rfl]
  exact ⟨h1.1.trans h2.1, h1.2.1.trans h2.2.1, h1.2.2.1.trans h2.2.2.1, h1.2.2.2.1.trans h2.2.2.2.1, h1.2.2.2.2.1.trans h2.2.2.2.2.1, h1.2.2.2.2.2.trans h2.2.2.2.2.2⟩
theorem postL_small {side : Int} : ∀ {l : List LetterD} {w : WorldD}, SmallP2 w → SmallP2 (postL side w l)
 | [], w, h => h
 | x :: l, w, h => postL_small (l := l) (post1_small h)
end
section
open Go.RowKit

theorem putHalf_le {l : List HalfD} {h : HalfD} (hl : l.length ≤ 1048576) : (putHalf l h).1.length ≤ 1048576 := by
 rw [putHalf]; split
 ·rename_i hh; have := halfsOk_le hh; dsimp only; omega
 ·exact hl
theorem putAddr_le {l : List AddrD} {a : AddrD} (hl : l.length ≤ 1048576) : (putAddr l a).1.length ≤ 1048576 := by
 rw [putAddr]; split
 ·rename_i hh; have := addrsOk_le hh; dsimp only; omega
 ·exact hl
theorem dropAddr_le {l : List AddrD} {n : Int} (hl : l.length ≤ 1048576) : (dropAddr l n).1.length ≤ 1048576 := by
 rw [dropAddr]; split
 ·exact hl
 ·simp only [List.length_append, List.length_take, List.length_drop]; omega
theorem dropHalf_le {l : List HalfD} {r : RoadD} (hl : l.length ≤ 1048576) : (dropHalf l r).length ≤ 1048576 := by
 rw [dropHalf]; split
 ·exact hl
 ·simp only [List.length_append, List.length_take, List.length_drop]; omega
theorem endOk_ids {e : EndD} (h : endOk e = true) : e.done.length ≤ 256 ∧ e.over.length ≤ 256 := by
 simp only [endOk, Bool.and_eq_true] at h
 exact ⟨by have := idsOk_le (l := e.done) (m := e.own) (by simp_all); omega, by have := idsOk_le (l := e.over) (m := e.far) (by simp_all); omega⟩
theorem onAt_ok {e : EndD} {x : LetterD} (h : 0 ≤ onAt e x) : endOk e = true := by
 rcases onAt_bd e x with h1 | ⟨n, _, _, _, h2, _⟩
 ·omega
 ·exact h2
theorem hearHello_small {e : EndD} {x : LetterD} (hs : Small e) : Small (hearHello e x).1 := by
 rw [hearHello]; split
 ·rename_i h
  simp only [helloOk, Bool.and_eq_true, decide_eq_true_eq] at h
  exact ⟨hs.own, by simp [farOne], by simp only [List.length_append, List.length_singleton]; omega, hs.halfs, hs.list, hs.done, hs.over⟩
 ·exact hs
theorem hearBack_small {e : EndD} {x : LetterD} (hs : Small e) : Small (hearBack e x).1 := by
 rw [hearBack]; split
 ·exact ⟨hs.own, by simp [farOne], by simpa only [List.length_set] using hs.subs, hs.halfs, hs.list, hs.done, hs.over⟩
 ·exact hs
theorem hearJoin_small {e : EndD} {x : LetterD} (hs : Small e) : Small (hearJoin e x).1 := by
 rw [hearJoin]; split
 ·split
  ·exact ⟨hs.own, hs.far, hs.subs, by simpa only [List.length_set] using hs.halfs, hs.list, hs.done, hs.over⟩
  ·exact ⟨hs.own, hs.far, hs.subs, putHalf_le hs.halfs, hs.list, hs.done, hs.over⟩
 ·exact hs
theorem hearJoinBack_small {e : EndD} {x : LetterD} (hs : Small e) : Small (hearJoinBack e x).1 := by
 rw [hearJoinBack]; split
 ·exact ⟨hs.own, hs.far, by simpa only [List.length_set] using hs.subs, hs.halfs, hs.list, hs.done, hs.over⟩
 ·exact hs
theorem hearJoinDone_small {e : EndD} {x : LetterD} (hs : Small e) : Small (hearJoinDone e x).1 := by
 rw [hearJoinDone]; split
 ·split
  ·rename_i h
   simp only [jdA, Bool.and_eq_true, decide_eq_true_eq] at h
   refine ⟨hs.own, hs.far, ?_, dropHalf_le hs.halfs, hs.list, hs.done, hs.over⟩
   split <;> simp only [setState, List.length_append, List.length_set, List.length_singleton] <;> omega
  ·split <;> exact hs
 ·exact hs
theorem hearJoinAck_small {e : EndD} {x : LetterD} (hs : Small e) : Small (hearJoinAck e x).1 := by
 rw [hearJoinAck]; dsimp only; split
 ·exact ⟨hs.own, hs.far, by simpa only [setState, List.length_set] using hs.subs, hs.halfs, hs.list, hs.done, hs.over⟩
 ·exact hs
theorem hearAddr_small {e : EndD} {x : LetterD} (hs : Small e) : Small (hearAddr e x).1 := by
 rw [hearAddr]; split
 ·exact ⟨hs.own, putAddr_le hs.far, hs.subs, hs.halfs, hs.list, hs.done, hs.over⟩
 ·exact hs
theorem hearEcho_small {e : EndD} {x : LetterD} (hs : Small e) : Small (hearEcho e x).1 := by
 rw [hearEcho]; dsimp only; split
 ·exact ⟨by simpa only [List.length_set] using hs.own, hs.far, hs.subs, hs.halfs, hs.list, hs.done, hs.over⟩
 ·exact hs
theorem hearGone_small {e : EndD} {x : LetterD} (hs : Small e) : Small (hearGone e x).1 := by
 rw [hearGone]; dsimp only; split
 ·rename_i h
  simp only [goneOk, Bool.and_eq_true, decide_eq_true_eq] at h
  have := (endOk_ids (onAt_ok h.1)).2
  exact ⟨hs.own, dropAddr_le hs.far, by simpa only [List.length_map] using hs.subs, hs.halfs, hs.list, hs.done, by have := putI_len e.over x.id; dsimp only; omega⟩
 ·exact hs
theorem hearData_small {e : EndD} {x : LetterD} (hs : Small e) : Small (hearData e x).1 := by
 rw [hearData]; split
 ·exact ⟨hs.own, hs.far, hs.subs, hs.halfs, putPiece_le hs.list, hs.done, hs.over⟩
 ·exact hs
theorem hearCame_small {e : EndD} {x : LetterD} (hs : Small e) : Small (hearCame e x).1 := by
 rw [hearCame]; dsimp only; split
 ·exact ⟨hs.own, hs.far, hs.subs, hs.halfs, hs.list, hs.done, hs.over⟩
 ·exact hs
theorem hearReset_small {e : EndD} {x : LetterD} (hs : Small e) : Small (hearReset e x).1 := by
 rw [hearReset]; dsimp only; split
 ·exact ⟨hs.own, hs.far, by simpa only [setState, List.length_set] using hs.subs, hs.halfs, hs.list, hs.done, hs.over⟩
 ·exact hs
theorem hear_all {e : EndD} {x : LetterD} {Q : EndD × List LetterD → Prop} (h0 : Q (e, [])) (h1 : Q (hearHello e x)) (h2 : Q (hearBack e x)) (h4 : Q (hearJoin e x)) (h5 : Q (hearJoinBack e x)) (h6 : Q (hearJoinDone e x)) (h7 : Q (hearJoinAck e x)) (h8 : Q (hearAddr e x)) (h9 : Q (hearEcho e x)) (h10 : Q (hearGone e x)) (h11 : Q (hearData e x)) (h12 : Q (hearCame e x)) (h13 : Q (hearReset e x)) : Q (hear e x) := by
 by_cases hc : hearOk e x = true
 ·by_cases k1 : x.kind = 1
  ·rw [hear_1 hc k1]; exact h1
  by_cases k2 : x.kind = 2
  ·rw [hear_2 hc k2]; exact h2
  by_cases k4 : x.kind = 4
  ·rw [hear_4 hc k4]; exact h4
  by_cases k5 : x.kind = 5
  ·rw [hear_5 hc k5]; exact h5
  by_cases k6 : x.kind = 6
  ·rw [hear_6 hc k6]; exact h6
  by_cases k7 : x.kind = 7
  ·rw [hear_7 hc k7]; exact h7
  by_cases k8 : x.kind = 8
  ·rw [hear_8 hc k8]; exact h8
  by_cases k9 : x.kind = 9
  ·rw [hear_9 hc k9]; exact h9
  by_cases k10 : x.kind = 10
  ·rw [hear_10 hc k10]; exact h10
  by_cases k11 : x.kind = 11
  ·rw [hear_11 hc k11]; exact h11
  by_cases k12 : x.kind = 12
  ·rw [hear_12 hc k12]; exact h12
  by_cases k13 : x.kind = 13
  ·rw [hear_13 hc k13]; exact h13
  rw [hear_n (by intro k hk; omega)]; exact h0
 ·rw [hear_f (by simpa using hc)]; exact h0
theorem hear_small {e : EndD} {x : LetterD} (hs : Small e) : Small (hear e x).1 :=
 hear_all (Q := fun r => Small r.1) hs (hearHello_small hs) (hearBack_small hs) (hearJoin_small hs) (hearJoinBack_small hs) (hearJoinDone_small hs) (hearJoinAck_small hs) (hearAddr_small hs) (hearEcho_small hs) (hearGone_small hs) (hearData_small hs) (hearCame_small hs) (hearReset_small hs)
theorem hear_one {e : EndD} {x : LetterD} : (hear e x).2.length ≤ 1 := by
 refine hear_all (Q := fun r => r.2.length ≤ 1) (by simp) ?_ ?_ ?_ ?_ ?_ ?_ ?_ ?_ ?_ ?_ ?_ ?_
 ·rw [hearHello]; split <;> simp
 ·rw [hearBack]; split <;> simp
 ·rw [hearJoin]; split
  ·split <;> simp
  ·simp
 ·rw [hearJoinBack]; split <;> simp
 ·rw [hearJoinDone]; split
  ·split
   ·simp
   ·split <;> simp
  ·simp
 ·rw [hearJoinAck]; simp
 ·rw [hearAddr]; split <;> simp
 ·rw [hearEcho]; simp
 ·rw [hearGone]; simp
 ·rw [hearData]; split <;> simp
 ·rw [hearCame]; simp
 ·rw [hearReset]; simp
end
section
open Go.RowKit

theorem ppStep_I {k : Nat} {g : PpS} {x : PieceD} (h : PpI k g) (hk : k ≤ 20) (hx : x.text.length ≤ 200 ∧ 0 ≤ x.pos ∧ x.pos ≤ 2000000000) : PpI (k + 1) (ppStep g x) := by
 rw [ppStep]; split
 ·exact ppI_a h hx.1
 ·split
  ·cases hl : g.laid with
   | true => simp only [if_true]; exact ppI_b1 h hl hx.1
   | false => simp only [Bool.false_eq_true, if_false]; exact ppI_b2 h hk hl hx.1
  ·exact ppI_c h hx.1 hx.2.1 hx.2.2
theorem ppGo_I : ∀ {l : List PieceD} {k : Nat} {g : PpS}, PpI k g → k + l.length ≤ 20 → (∀ x ∈ l, x.text.length ≤ 200 ∧ 0 ≤ x.pos ∧ x.pos ≤ 2000000000) → PpI (k + l.length) (ppGo g l)
 | [], k, g, h, _, _ => h
 | x :: r, k, g, h, hk, hx => by
  simp only [List.length_cons] at hk ⊢
  have := ppGo_I (l := r) (ppStep_I h (by omega) (hx x (by simp))) (by omega) (fun y hy => hx y (by simp [hy]))
  rw [show k + (r.length + 1) = k + 1 + r.length by omega]
  exact this
theorem ppAll_I {k : Nat} {g : PpS} (h : PpI k g) (hk : k ≤ 20) : (∀ z ∈ ppAll g, z.text.length ≤ 5000) ∧ (ppAll g).length ≤ 100 := by
 have ho := h.own
 have ha := h.acc
 rw [ppAll]; split
 ·refine ⟨h.texts, ?_⟩
  split at ha <;> omega
 ·refine ⟨fun z hz => ?_, ?_⟩
  ·rcases List.mem_append.1 hz with hz | hz
   ·exact h.texts z hz
   ·simp only [List.mem_singleton] at hz; subst hz; omega
  ·simp only [List.length_append, List.length_singleton]
   split at ha <;> omega
theorem ppRun_small {p : PiecesD} {n : Int} {t : List UInt8} (hs : SmallP p) (hp : piecesOk p = true) (h0 : 0 ≤ n) (h1 : n ≤ 2000000000) (ht : t.length ≤ 200) : SmallP (ppRun p n t) := by
 have F := piecesOk_fine hp hs
 have hI := ppGo_I (l := p.list) (ppI_zero h0 h1 ht) (by have := F.list; omega) F.texts
 obtain ⟨h2, h3⟩ := ppAll_I hI (by have := F.list; omega)
 rw [ppRun]
 generalize ppAll (ppGo ⟨⟨n, t⟩, false, []⟩ p.list) = l at h2 h3
 rw [ppEnd]; split
 ·have hr := F.ready
  rw [ppOut]
  cases l with
  | nil => split <;> exact ⟨by simp, by simp [List.headD]; first | omega | exact hs.ready, by simp⟩
  | cons y r =>
   have hy := h2 y (by simp)
   simp only [List.length_cons] at h3
   split
   ·exact ⟨by simp only [List.tail_cons]; omega, by simp only [List.headD_cons, List.length_append]; omega, fun z hz => by have := h2 z (List.mem_cons_of_mem _ hz); omega⟩
   ·exact ⟨by simp only [List.length_cons]; omega, by dsimp only; omega, fun z hz => by have := h2 z hz; omega⟩
 ·exact hs
theorem putPiece_small {p : PiecesD} {n : Int} {t : List UInt8} (hs : SmallP p) : SmallP (putPiece p n t) := by
 rw [putPiece]; split
 ·rename_i h
  simp only [ppOk, isN, inR, Bool.and_eq_true, decide_eq_true_eq] at h
  obtain ⟨⟨hp, hn⟩, ht⟩ := h
  split
  ·exact hs
  ·split
   ·have F := piecesOk_fine hp hs
    have hr := F.ready
    have := F.next
    have := F.r0
    have := F.r1
    exact ppRun_small hs hp (by omega) (by omega) (by rw [List.length_drop]; omega)
   ·exact ppRun_small hs hp (by omega) (by omega) (by omega)
 ·exact hs
structure GoodE (e : EndD) : Prop where
 s : Small e
 p : SmallP e.inp
 o : e.out.text.length ≤ 1048576
theorem came_len (o : OutD) (n : Int) : (came o n).text.length ≤ o.text.length := by
 rw [came]; split
 ·simp only [List.length_drop]; omega
 ·exact Nat.le_refl _
theorem hear_good {e : EndD} {x : LetterD} (h : GoodE e) : GoodE (hear e x).1 := by
 have io : (hear e x).1.inp = e.inp ∧ (hear e x).1.out = e.out ∨ SmallP (hear e x).1.inp ∧ (hear e x).1.out.text.length ≤ 1048576 := by
  refine hear_all (Q := fun r => r.1.inp = e.inp ∧ r.1.out = e.out ∨ SmallP r.1.inp ∧ r.1.out.text.length ≤ 1048576) (.inl ⟨rfl, rfl⟩) ?_ ?_ ?_ ?_ ?_ ?_ ?_ ?_ ?_ ?_ ?_ ?_
  ·unfold hearHello; repeat' split
   all_goals exact .inl ⟨rfl, rfl⟩
  ·unfold hearBack; repeat' split
   all_goals exact .inl ⟨rfl, rfl⟩
  ·unfold hearJoin; repeat' split
   all_goals exact .inl ⟨rfl, rfl⟩
  ·unfold hearJoinBack; repeat' split
   all_goals exact .inl ⟨rfl, rfl⟩
  ·unfold hearJoinDone; repeat' split
   all_goals exact .inl ⟨rfl, rfl⟩
  ·unfold hearJoinAck; dsimp only; split
   all_goals exact .inl ⟨rfl, rfl⟩
  ·unfold hearAddr; repeat' split
   all_goals exact .inl ⟨rfl, rfl⟩
  ·unfold hearEcho; dsimp only; split
   all_goals exact .inl ⟨rfl, rfl⟩
  ·unfold hearGone; dsimp only; split
   all_goals exact .inl ⟨rfl, rfl⟩
  ·unfold hearData; split
   ·exact .inr ⟨putPiece_small h.p, h.o⟩
   ·exact .inl ⟨rfl, rfl⟩
  ·unfold hearCame; dsimp only; split
   ·exact .inr ⟨h.p, Nat.le_trans (came_len _ _) h.o⟩
   ·exact .inl ⟨rfl, rfl⟩
  ·unfold hearReset; dsimp only; split
   all_goals exact .inl ⟨rfl, rfl⟩
 rcases io with ⟨h1, h2⟩ | ⟨h1, h2⟩
 ·exact ⟨hear_small h.s, by rw [h1]; exact h.p, by rw [h2]; exact h.o⟩
 ·exact ⟨hear_small h.s, h1, h2⟩
end
section
open Go.RowKit

theorem impl_carriers (e : EndD) (hl : e.subs.length ≤ 1048576) : CallA Tryz.prog 138 [.ag (e.cs 0)] (e.hp false) (.sc (.sl 7 0 (carrN e.subs).length)) (e.hp false ++ [some ⟨(carrN e.subs).map natC, 1, 3, true, true⟩]) := by
 have hon := onN_len e.subs
 obtain ⟨q, hq⟩ : ∃ q, q = (onN e.subs).filter (nsp e.subs) := ⟨_, rfl⟩
 have hc : carrN e.subs = if q.length = 0 then onN e.subs else q := by rw [carrN, hq]
 have hqn : q.length ≤ 1048576 := by rw [hq]; exact Nat.le_trans (List.length_filter_le _ _) (by omega)
 generalize carrN e.subs = cn at hc
 refine qE Tryz.func138 Tryz.ntmps138 Tryz.results138 fun E hE => ?_
 refine qK (impl_OnOf e hl) (qA [0, 1, 2, 3, 4, 5, 6]) ?_
 refine den_lp 7 hE (fun s (x : Nat × List Nat) => s.at [0, 6, 7, 8, 12, 13, 14, 15, 16, 17, 18, 19, 20, 21, 22, 23, 24, 25, 26] [(11, .sc (.int .i64 (x.1 : Nat))), (3, .sc (.sl 9 0 x.2.length))] (e.hp false ++ [some ⟨[e.cs 0], 25, 41, true, false⟩, some ⟨(onN e.subs).map natC, 1, 3, true, true⟩, some ⟨x.2.map natC, 1, 3, true, true⟩])) (fun (x : Nat × List Nat) => x.1 ≤ (onN e.subs).length ∧ x.2.length ≤ x.1 ∧ x.2 ++ ((onN e.subs).drop x.1).filter (nsp e.subs) = q) (fun (x : Nat × List Nat) => (onN e.subs).length - x.1) (0, []) [some (0, none), some (1, none), some (2, none), some (3, none), some (4, none), some (5, none), some (6, none), some (7, none), some (8, none), none] (qC) (⟨Nat.zero_le _, Nat.zero_le _, by rw [hq]; rfl⟩) (weak_mk (by rfl) (by rfl) ?_) fun x hx N hN => ?_
 ·exact qY
 ·obtain ⟨k, acc⟩ := x
  obtain ⟨hk1, hk2, hk3⟩ := hx
  dsimp only at hk1 hk2 hk3
  refine qR ?_
  refine qB (fun h => ?_) fun h => ?_
  ·have hlt := onN_lt h
   rw [filter_step h] at hk3
   refine qX ?_
   cases h2 : e.subs[(onN e.subs)[k]].spare with
   | false =>
    have hp : nsp e.subs (onN e.subs)[k] = true := by rw [nsp, subAtN_eq hlt, h2]; rfl
    rw [if_pos hp] at hk3
    try simp (disch := omega) only [go_sem, Nat.reduceEqDiff, Nat.reduceAdd, Nat.reduceSub, Int.reduceAdd, Int.reduceSub, Int.reduceToNat, h2]
    refine ⟨qC, hN _ (k + 1, acc ++ [(onN e.subs)[k]]) (qA [0, 1, 2, 3, 4, 5, 6, 7, 8, 11]) (by (try dsimp only); exact ⟨by omega, by simp; omega, by simpa using hk3⟩) (by (try dsimp only); omega) (weak_mk (by rfl) (by rfl) ?_)⟩
    try simp (disch := omega) only [go_sem, Nat.reduceEqDiff, Nat.reduceAdd, Nat.reduceSub, Int.reduceAdd, Int.reduceSub, Int.reduceToNat]
    try simp [natC]
   | true =>
    have hp : nsp e.subs (onN e.subs)[k] = false := by rw [nsp, subAtN_eq hlt, h2]; rfl
    rw [if_neg (by simp [hp])] at hk3
    try simp (disch := omega) only [go_sem, Nat.reduceEqDiff, Nat.reduceAdd, Nat.reduceSub, Int.reduceAdd, Int.reduceSub, Int.reduceToNat, h2]
    exact qN hN (k + 1, acc) (qA [0, 1, 2, 3, 4, 5, 6, 7, 8, 9]) (by (try dsimp only); exact ⟨by omega, by omega, hk3⟩)
  ·rw [List.drop_eq_nil_of_le (by omega), List.filter_nil, List.append_nil] at hk3
   subst hk3
   refine qX ?_
   refine qB (fun h2 => ?_) fun h2 => ?_
   ·rw [if_pos (by omega)] at hc
    subst hc
    exact qF (qA [0, 1, 2, 3, 4, 5, 6, 8])
   ·rw [if_neg (by omega)] at hc
    subst hc
    exact qF (qA [0, 1, 2, 3, 4, 5, 6, 9])
end
section
open Go.RowKit

def nextSub (e : EndD) : Int := if endOk e = true ∧ (carrN e.subs).length ≠ 0 then (((carrN e.subs).getD (e.pick.toNat % (carrN e.subs).length) 0 : Nat) : Int) else -1
theorem nextSub_cases (e : EndD) : nextSub e = -1 ∨ ∃ m : Nat, m < e.subs.length ∧ nextSub e = (m : Int) := by
 rw [nextSub]
 split
 ·rename_i h
  right
  have hz : e.pick.toNat % (carrN e.subs).length < (carrN e.subs).length := Nat.mod_lt _ (by omega)
  refine ⟨_, ?_, rfl⟩
  rw [List.getD_eq_getElem?_getD, List.getElem?_eq_getElem hz]
  exact carrN_lt (List.getElem_mem hz)
 ·exact .inl rfl
theorem endOk_pick {e : EndD} (h : endOk e = true) : 0 ≤ e.pick ∧ e.pick ≤ 1000000000 := by
 simp only [endOk, Bool.and_eq_true] at h
 have h1 := h.1.2
 simp only [List.all_cons, Bool.and_eq_true, isN, decide_eq_true_eq] at h1
 exact h1.2.2.2.2.1
theorem pick_mod {p : Int} {n : Nat} (hp : 0 ≤ p) (hn : 0 < n) : ∃ z : Nat, p.tmod (n : Int) = (z : Int) ∧ z < n ∧ z = p.toNat % n := by
 obtain ⟨q, rfl⟩ := Int.eq_ofNat_of_zero_le hp
 refine ⟨q % n, ?_, Nat.mod_lt _ hn, by simp⟩
 rw [Int.tmod_eq_emod_of_nonneg (by omega)]
 omega
theorem nextSub_at {e : EndD} {z : Nat} (h1 : endOk e = true) (hz : z < (carrN e.subs).length) (hz2 : z = e.pick.toNat % (carrN e.subs).length) : nextSub e = (((carrN e.subs)[z] : Nat) : Int) := by
 rw [nextSub, if_pos ⟨h1, by omega⟩, ← hz2, List.getD_eq_getElem?_getD, List.getElem?_eq_getElem hz]
 rfl
def pickOn (n : Int) : Int := if 1000000000 ≤ n then 0 else n + 1
def turnsGo (e : EndD) : Nat → List Int → List Int
 | 0, out => out
 | f + 1, out => turnsGo { e with pick := pickOn e.pick } f (if 0 ≤ nextSub e then out.set (nextSub e).toNat (IntKind.i64.wrap (out.getD (nextSub e).toNat 0 + 1)) else out)
def turns (e : EndD) (n : Int) : List Int := if endOk e && inR n 0 100 then turnsGo e n.toNat (List.replicate e.subs.length 0) else []
theorem impl_NextSub (e : EndD) (h0 : e.own.length ≤ 1048576) (h1 : e.far.length ≤ 1048576) (h2 : e.subs.length ≤ 1048576) (h3 : e.halfs.length ≤ 1048576) (h4 : e.inp.list.length ≤ 1048576) (h5 : e.done.length ≤ 1048576) (h6 : e.over.length ≤ 1048576) : CallA Tryz.prog 126 [.ag (e.cs 0)] (e.hp false) (.sc (.int .i64 (nextSub e))) (e.hp false) := by
 have hcl := carrN_len e.subs
 refine qE Tryz.func126 Tryz.ntmps126 Tryz.results126 fun E hE => ?_
 refine qK (impl_carriers e h2) (qA [0, 1, 2, 3, 4, 5, 6]) ?_
 refine qK (impl_EndOk e h0 h1 h2 h3 h4 h5 h6) (qA [0, 1, 2, 3, 4, 5, 6]) ?_
 refine qB (fun g1 => ?_) fun g1 => ?_
 ·refine qB (fun g2 => ?_) fun g2 => ?_
  ·have hr : nextSub e = -1 := by rw [nextSub, if_neg (by omega)]
   rw [hr]
   exact qF (qA [0, 1, 2, 3, 4, 5, 6])
  ·have g2' : (carrN e.subs).length ≠ 0 := by omega
   have hpk := endOk_pick g1
   obtain ⟨z, hz, hz1, hz2⟩ := pick_mod hpk.1 (show 0 < (carrN e.subs).length by omega)
   rw [nextSub_at g1 hz1 hz2]
   try simp (disch := omega) only [go_sem, Nat.reduceEqDiff, Nat.reduceAdd, Nat.reduceSub, Int.reduceAdd, Int.reduceSub, Int.reduceToNat, hz, map_get hz1]
   exact qF (qA [0, 1, 2, 3, 4, 5, 6])
 ·have hr : nextSub e = -1 := by rw [nextSub, if_neg (by simp [g1])]
  rw [hr]
  exact qF (qA [0, 1, 2, 3, 4, 5, 6])
theorem impl_nextPick (n : Int) (hn : I64 n) : CallA Tryz.prog 128 [.sc (.int .i64 n)] [] (.sc (.int .i64 (pickOn n))) [] := by
 refine qE Tryz.func128 Tryz.ntmps128 Tryz.results128 fun E hE => ?_
 refine qB (fun h => ?_) fun h => ?_
 ·rw [pickOn, if_pos h]
  exact qF []
 ·rw [pickOn, if_neg h]
  exact qF []
end
section
open Go.RowKit

structure FineO (o : OutD) : Prop where
 base : 0 ≤ o.base ∧ o.base ≤ 1000000000
 room : 1 ≤ o.room ∧ o.room ≤ 200
 len : (o.text.length : Int) ≤ o.room
 sent : o.base ≤ o.sent ∧ o.sent ≤ o.base + (o.text.length : Int)
theorem outOk_fine {o : OutD} (h : outOk o = true) : FineO o := by
 simp only [outOk, isN, inR, Bool.and_eq_true, decide_eq_true_eq] at h
 obtain ⟨⟨⟨h1, h2⟩, h3⟩, h4, h5⟩ := h
 rw [w64 (by omega)] at h5
 exact ⟨h1, h2, h3, h4, h5⟩
def accN (o : OutD) (t : List UInt8) : Nat := min t.length (o.room - (o.text.length : Int)).toNat
def accOk (o : OutD) (t : List UInt8) : Bool := outOk o && decide (o.base + (o.text.length : Int) + (accN o t : Int) ≤ 1000000000)
def accept (o : OutD) (t : List UInt8) : OutD × Nat := if accOk o t then ({ o with text := o.text ++ t.take (accN o t) }, accN o t) else (o, 0)
theorem accept_t {o : OutD} {t : List UInt8} (h : accOk o t = true) : accept o t = ({ o with text := o.text ++ t.take (accN o t) }, accN o t) := if_pos h
theorem accept_f {o : OutD} {t : List UInt8} (h : accOk o t = false) : accept o t = (o, 0) := if_neg (by simp [h])
def write (e : EndD) (t : List UInt8) : EndD × Nat := if endOk e then ({ e with out := (accept e.out t).1 }, (accept e.out t).2) else (e, 0)
theorem write_t {e : EndD} {t : List UInt8} (h : endOk e = true) : write e t = ({ e with out := (accept e.out t).1 }, (accept e.out t).2) := if_pos h
theorem write_f {e : EndD} {t : List UInt8} (h : endOk e = false) : write e t = (e, 0) := if_neg (by simp [h])
theorem accN_le (o : OutD) (t : List UInt8) : accN o t ≤ t.length := Nat.min_le_left _ _
theorem accept_le (o : OutD) (t : List UInt8) : (accept o t).2 ≤ t.length := by
 rw [accept]; split
 ·exact accN_le o t
 ·exact Nat.zero_le _
theorem write_le (e : EndD) (t : List UInt8) : (write e t).2 ≤ t.length := by
 rw [write]; split
 ·exact accept_le _ _
 ·exact Nat.zero_le _
def tkN (p : PiecesD) (many : Int) : Nat := min many.toNat p.ready.length
def tkOk (p : PiecesD) (many : Int) : Bool := piecesOk p && decide (0 ≤ many) && decide (p.read + (tkN p many : Int) ≤ 1000000000)
def takeReady (p : PiecesD) (many : Int) : PiecesD × List UInt8 := if tkOk p many then (⟨p.read + (tkN p many : Int), p.ready.drop (tkN p many), p.list⟩, p.ready.take (tkN p many)) else (p, [])
theorem tk_t {p : PiecesD} {m : Int} (h : tkOk p m = true) : takeReady p m = (⟨p.read + (tkN p m : Int), p.ready.drop (tkN p m), p.list⟩, p.ready.take (tkN p m)) := if_pos h
theorem tk_f {p : PiecesD} {m : Int} (h : tkOk p m = false) : takeReady p m = (p, []) := if_neg (by simp [h])
def readE (e : EndD) (many : Int) : EndD × List UInt8 := if endOk e then ({ e with inp := (takeReady e.inp many).1 }, (takeReady e.inp many).2) else (e, [])
theorem readE_t {e : EndD} {m : Int} (h : endOk e = true) : readE e m = ({ e with inp := (takeReady e.inp m).1 }, (takeReady e.inp m).2) := if_pos h
theorem readE_f {e : EndD} {m : Int} (h : endOk e = false) : readE e m = (e, []) := if_neg (by simp [h])
def npOk (o : OutD) : Bool := outOk o && !decide (o.sent = o.base + (o.text.length : Int))
def npText (o : OutD) : List UInt8 := (o.text.drop (o.sent - o.base).toNat).take 20
def nextPiece (o : OutD) : PieceD × Bool := if npOk o then (⟨o.sent, npText o⟩, true) else (⟨0, []⟩, false)
theorem np_t {o : OutD} (h : npOk o = true) : nextPiece o = (⟨o.sent, npText o⟩, true) := if_pos h
theorem np_f {o : OutD} (h : npOk o = false) : nextPiece o = (⟨0, []⟩, false) := if_neg (by simp [h])
def wasSent (o : OutD) : OutD := if npOk o then { o with sent := o.sent + ((npText o).length : Int) } else o
theorem ws_t {o : OutD} (h : npOk o = true) : wasSent o = { o with sent := o.sent + ((npText o).length : Int) } := if_pos h
def pushOk (e : EndD) : Bool := npOk e.out && decide (0 ≤ nextSub e)
def dataL (s : SubD) (o : OutD) : LetterD := between s.road { letNone with kind := 11, sgn := s.give, pos := o.sent, text := npText o }
def push (e : EndD) : EndD × List LetterD :=
 if pushOk e then ({ e with out := wasSent e.out, pick := pickOn e.pick }, [dataL (subAtN e.subs (nextSub e).toNat) e.out]) else (e, [])
theorem push_f {e : EndD} (h : pushOk e = false) : push e = (e, []) := if_neg (by simp [h])
theorem push_t {e : EndD} {n : Nat} (h : pushOk e = true) (hk : nextSub e = (n : Int)) (hn : n < e.subs.length) :
  push e = ({ e with out := { e.out with sent := e.out.sent + ((npText e.out).length : Int) }, pick := pickOn e.pick }, [dataL e.subs[n] e.out]) := by
 have h1 : npOk e.out = true := by simp only [pushOk, Bool.and_eq_true] at h; exact h.1
 rw [push, if_pos h, ws_t h1, hk, Int.toNat_natCast, subAtN_at hn]
def pushN : Nat → EndD → EndD × List LetterD
 | 0, e => (e, [])
 | k + 1, e => ((pushN k (push e).1).1, (push e).2 ++ (pushN k (push e).1).2)
def writeAll (e : EndD) (t : List UInt8) : EndD × List LetterD := pushN 3 (write e t).1
def rsOk (e : EndD) (k : Int) : Bool := endOk e && inR k 0 ((e.subs.length : Int) - 1) && decide ((subAtN e.subs k.toNat).state = 3)
def resetE (e : EndD) (k : Int) : EndD × List LetterD :=
 if rsOk e k then ({ e with subs := setState e.subs k.toNat 4 }, [between (subAtN e.subs k.toNat).road { letNone with kind := 13, sgn := (subAtN e.subs k.toNat).give }]) else (e, [])
def aoOk (e : EndD) (a : AddrD) : Bool := endOk e && decide (addrAt e.own a.id < 0) && !hasI e.done a.id
def addOwn (e : EndD) (a : AddrD) : EndD × Bool :=
 if aoOk e a then ({ e with own := (putAddr e.own { a with told := false }).1 }, (putAddr e.own { a with told := false }).2) else (e, false)
def addrL (e : EndD) (s : SubD) (a : AddrD) : LetterD := between s.road { letNone with kind := 8, tag := ⟨3, e.key, e.peer, a.id, a.addr⟩, sgn := s.give, id := a.id, addr := a.addr, spare := a.spare }
def taOk (e : EndD) : Bool := endOk e && decide (e.state = 2) && !decide ((onN e.subs).length = 0)
def tellAddrs (e : EndD) : List LetterD := if taOk e then (e.own.filter fun a => !a.told).map (addrL e (subAtN e.subs ((onN e.subs).headD 0))) else []
def goneO (a : Int) (s : SubD) : SubD := if s.road.own = a then { s with state := 4 } else s
def goneL (id : Int) (s : SubD) : LetterD := between s.road { letNone with kind := 10, sgn := s.give, id := id }
def doOk (e : EndD) (n : Int) : Bool := endOk e && decide (e.state = 2) && decide (0 ≤ addrAt e.own n)
def dropSubs (e : EndD) (n : Int) : List SubD := e.subs.map (goneO (adAtN e.own (addrAt e.own n).toNat).addr)
def dropOwn (e : EndD) (n : Int) : EndD × List LetterD :=
 if doOk e n then ({ e with own := (dropAddr e.own n).1, done := putI e.done n, subs := dropSubs e n }, (onN (dropSubs e n)).map fun k => goneL n (subAtN (dropSubs e n) k)) else (e, [])
def filled (b : BucketD) : BucketD := if bucketOk b then { b with cur := min b.burst (b.cur + b.rate) } else b
def younger (l : List HalfD) (now : Int) : List HalfD := l.filter fun h => decide (now < h.till)
def anew (o : OutD) : OutD := if outOk o then { o with sent := o.base } else o
def tkE (e : EndD) : Bool := endOk e && decide (e.now < 1000000000) && e.subs.all fun s => decide (s.tries < 1000000000)
def joinL' (e : EndD) (s : SubD) : LetterD := between s.road { letNone with kind := 4, token := tokenFor (3 - e.side), nonce := s.mine, give := s.take, spare := s.spare }
def tickS (s : SubD) : SubD := if s.state = 1 ∨ s.state = 2 then (if s.state = 2 ∧ 9 ≤ s.tries + 1 then { s with tries := s.tries + 1, state := 4 } else { s with tries := s.tries + 1 }) else s
def tickL (e : EndD) (s : SubD) : List LetterD :=
 if s.state = 1 ∨ s.state = 2 then (if s.state = 2 ∧ 9 ≤ s.tries + 1 then [] else if (s.tries + 1).tmod 3 ≠ 0 then [] else if s.state = 1 then [joinL' e s] else [doneLetter e s]) else []
def tick0 (e : EndD) : EndD := { e with now := e.now + 1, bucket := filled e.bucket, halfs := younger e.halfs (e.now + 1), out := anew e.out }
def tickEnd (e : EndD) (l : List LetterD) : EndD × List LetterD := ((pushN 3 e).1, l ++ tellAddrs e ++ (pushN 3 e).2)
def tick (e : EndD) : EndD × List LetterD :=
 if tkE e then (if e.state = 2 then tickEnd { tick0 e with subs := e.subs.map tickS } (e.subs.flatMap (tickL e)) else tickEnd (tick0 e) []) else (e, [])
def haveOf (l : List SubD) : List RoadD := (l.filter fun s => s.state != 4).map SubD.road
def hasFar (l : List AddrD) (n : Int) : Bool := l.any fun a => a.addr == n
def spareOf (l : List AddrD) (n : Int) : Bool := l.foldl (fun b a => if a.addr = n then a.spare else b) false
def jnOk (e : EndD) (r : RoadD) : Bool :=
 endOk e && decide (e.state = 2) && roadN r && decide (subAt e.subs r < 0) && ownsAddr e.own r.own && hasFar e.far r.far && decide (e.subs.length < 8) && inR e.draw 1 999999996
def askSub (e : EndD) (r : RoadD) (spare : Bool) : SubD := ⟨r, 1, spare, e.draw, 0, 0, e.draw + 2, 0⟩
def join (e : EndD) (r : RoadD) (spare : Bool) : EndD × List LetterD :=
 if jnOk e r then ({ e with subs := e.subs ++ [askSub e r spare], draw := e.draw + 4 }, [joinL' e (askSub e r spare)]) else (e, [])
def manGo (far : List AddrD) : EndD → List RoadD → EndD × List LetterD
 | e, [] => (e, [])
 | e, r :: l => ((manGo far (join e r (spareOf far r.far)).1 l).1, (join e r (spareOf far r.far)).2 ++ (manGo far (join e r (spareOf far r.far)).1 l).2)
def manage (e : EndD) : EndD × List LetterD :=
 if endOk e = true ∧ e.side = 1 then manGo e.far e (missing (wanted e.policy e.own e.far) (haveOf e.subs)) else (e, [])
end
section
open Go.RowKit

def wrote (w : WorldD) (side : Int) (t : List UInt8) : WorldD := if side = 1 then { w with wroteA := w.wroteA ++ t } else { w with wroteB := w.wroteB ++ t }
def gotRead (w : WorldD) (side : Int) (t : List UInt8) : WorldD := if side = 1 then { w with readA := w.readA ++ t } else { w with readB := w.readB ++ t }
def mayInject (w : WorldD) (x : LetterD) : Bool := letOk x && !decide (sideAt x.to = 0) && canMake w.known x.tag && [x.key, x.nonce, x.give, x.sgn].all fun n => decide (n < 1000) || hasI w.nums n
def actE (e : EndD) (a : ActD) : EndD × List LetterD :=
 if a.kind = 1 then writeAll e a.text else if a.kind = 2 then ((readE e a.many).1, []) else if a.kind = 3 then tick e else if a.kind = 4 then manage e
 else if a.kind = 5 then ((addOwn e a.addr).1, []) else if a.kind = 6 then dropOwn e a.pos else resetE e a.pos
def actW (w : WorldD) (a : ActD) : WorldD :=
 if a.kind = 1 then wrote w a.side (a.text.take (write (endAt w a.side) a.text).2) else if a.kind = 2 then gotRead w a.side (readE (endAt w a.side) a.many).2 else w
def actBad (w : WorldD) (a : ActD) : Bool := decide (a.kind = 5) && (!decide (sideAt a.addr.addr = a.side) || !(addOwn (endAt w a.side) a.addr).2)
def acts (w : WorldD) (a : ActD) : WorldD × Int :=
 if actBad w a then (w, 1) else (postL a.side (setEnd (actW w a) a.side (actE (endAt w a.side) a).1) (actE (endAt w a.side) a).2, 0)
def bagOut (l : List LetterD) (n : Int) : List LetterD := l.take n.toNat ++ l.drop (n.toNat + 1)
def leAtN (l : List LetterD) (n : Nat) : LetterD := l.getD n default
def moves (w : WorldD) (a : ActD) : WorldD × Int :=
 if a.kind = 8 ∨ a.kind = 9 then
  if (w.bag.length : Int) ≤ a.pos then (w, 1)
  else if a.kind = 8 then (lands { w with bag := bagOut w.bag a.pos } (leAtN w.bag a.pos.toNat), 0) else ({ w with bag := bagOut w.bag a.pos }, 0)
 else if a.kind = 10 then
  if (w.bag.length : Int) ≤ a.pos ∨ 40 ≤ w.bag.length then (w, 1) else ({ w with bag := w.bag ++ [leAtN w.bag a.pos.toNat] }, 0)
 else if a.kind = 11 then
  if mayInject w a.letter = false then (w, 2) else if 40 ≤ w.bag.length then (w, 1) else ({ w with bag := w.bag ++ [a.letter] }, 0)
 else
  if (w.past.length : Int) ≤ a.pos ∨ sideAt (leAtN w.past a.pos.toNat).to = 0 ∨ 40 ≤ w.bag.length then (w, 1) else ({ w with bag := w.bag ++ [leAtN w.past a.pos.toNat] }, 0)
def doneW (w : WorldD) (a : ActD) : WorldD × Int := if actOk a then (if a.kind ≤ 7 then acts w a else moves w a) else (w, 3)
end
section
open Go.RowKit

def endsHp (w : WorldD) (own : Bool) : Hp := [some ⟨w.a.own.map AddrD.cs, 4, 53, own, true⟩, some ⟨w.a.far.map AddrD.cs, 4, 53, own, true⟩, some ⟨w.a.subs.map SubD.cs, 10, 132, own, true⟩, some ⟨w.a.halfs.map HalfD.cs, 8, 164, own, true⟩, some ⟨w.a.inp.list.map PieceD.cs, 2, 179, own, true⟩, some ⟨w.a.done.map intC, 1, 3, own, true⟩, some ⟨w.a.over.map intC, 1, 3, own, true⟩, some ⟨w.b.own.map AddrD.cs, 4, 53, own, true⟩, some ⟨w.b.far.map AddrD.cs, 4, 53, own, true⟩, some ⟨w.b.subs.map SubD.cs, 10, 132, own, true⟩, some ⟨w.b.halfs.map HalfD.cs, 8, 164, own, true⟩, some ⟨w.b.inp.list.map PieceD.cs, 2, 179, own, true⟩, some ⟨w.b.done.map intC, 1, 3, own, true⟩, some ⟨w.b.over.map intC, 1, 3, own, true⟩]
def restHp (w : WorldD) (own : Bool) : Hp := [some ⟨w.bag.map LetterD.cs, 19, 57, own, true⟩, some ⟨w.past.map LetterD.cs, 19, 57, own, true⟩, some ⟨w.known.keys.map intC, 1, 3, own, true⟩, some ⟨w.known.tags.map TagD.cs, 5, 55, own, true⟩, some ⟨w.nums.map intC, 1, 3, own, true⟩, some ⟨w.answersA.map intC, 1, 3, own, true⟩, some ⟨w.answersB.map intC, 1, 3, own, true⟩]
attribute [go_sem] endsHp restHp
theorem impl_set1 (w : WorldD) (e : EndD) : CallA Tryz.prog 48 [.sc (.pt 28 0 0), .sc (.int .i64 1), .ag (e.cs 21)] (w.hp false ++ (e.hp false ++ [some ⟨[w.cs 0], 61, 47, true, false⟩])) (.tu [])
  (w.hp false ++ (e.hp false ++ [some ⟨[(worldC { w with a := e } 21 22 23 24 25 26 27 7 8 9 10 11 12 13 14 15 16 17 18 19 20)], 61, 47, true, false⟩])) := by
 refine qEO Tryz.func48 Tryz.ntmps48 Tryz.results48 fun E hE => ?_
 exact qFO (qA [0, 1, 2, 3, 4, 5, 6, 7, 8, 9, 10, 11, 12, 13, 14, 15, 16, 17, 18, 19, 20, 21, 22, 23, 24, 25, 26, 27, 28])
theorem impl_set2 (w : WorldD) (e : EndD) : CallA Tryz.prog 48 [.sc (.pt 28 0 0), .sc (.int .i64 2), .ag (e.cs 21)] (w.hp false ++ (e.hp false ++ [some ⟨[w.cs 0], 61, 47, true, false⟩])) (.tu [])
  (w.hp false ++ (e.hp false ++ [some ⟨[(worldC { w with b := e } 0 1 2 3 4 5 6 21 22 23 24 25 26 27 14 15 16 17 18 19 20)], 61, 47, true, false⟩])) := by
 refine qEO Tryz.func48 Tryz.ntmps48 Tryz.results48 fun E hE => ?_
 exact qFO (qA [0, 1, 2, 3, 4, 5, 6, 7, 8, 9, 10, 11, 12, 13, 14, 15, 16, 17, 18, 19, 20, 21, 22, 23, 24, 25, 26, 27, 28])
end
end Go.Proofs.YtkabkkjnemongaaGreat
