/-
  Texts merged for this claim by shake.py: what its proof needs.
-/
import Derived.Tactics
import Derived.Below
import Derived.Laws.AppendOwn
import Derived.Laws.OwnMore
import Derived.Laws.Slices
import Derived.Laws.Small
import Derived.Laws.Strings
import Derived.KernelRfl
import Derived.Laws.MakeOwn
import Derived.Laws.BytesString
import Derived.Laws.BytesArg
import Derived.Laws.Build
import Derived.Laws.Concat
import Derived.Laws.StructEq
import Derived.Lib.ConvBytes
import Derived.Orders
import Derived.WalkKit
import Derived.ProofKit
import Derived.ShutString
import Derived.OpenShut
import Derived.ChangeOld
import Derived.Carry
import Derived.Test.YtkabkkjnemongaaGreatChecked
import Derived.Laws.BitsLemmas
import Derived.JoinedOf
import Derived.Test.YtkabkkjnemongaaGreatRows
import Derived.Test.YtkabkkjnemongaaGreatZFnLivesE
set_option maxHeartbeats 16000000
set_option maxRecDepth 100000
set_option linter.unusedVariables false
set_option linter.unusedSimpArgs false
namespace Go.Proofs.YtkabkkjnemongaaGreat
section
open Go.RowKit

theorem writeAll_len (e : EndD) (t : List UInt8) : (writeAll e t).2.length ≤ 3 := pushN_len
theorem write_small {e : EndD} {t : List UInt8} (hs : Small e) : Small (write e t).1 := by
 rw [write]; split
 ·exact ⟨hs.own, hs.far, hs.subs, hs.halfs, hs.list, hs.done, hs.over⟩
 ·exact hs
theorem writeAll_small {e : EndD} {t : List UInt8} (hs : Small e) : Small (writeAll e t).1 := pushN_small (write_small hs)
theorem readE_small {e : EndD} {m : Int} (hs : Small e) : Small (readE e m).1 := by
 rw [readE]; split
 ·refine ⟨hs.own, hs.far, hs.subs, hs.halfs, ?_, hs.done, hs.over⟩
  dsimp only
  rw [takeReady]; split <;> exact hs.list
 ·exact hs
theorem addOwn_small {e : EndD} {a : AddrD} (hs : Small e) : Small (addOwn e a).1 := by
 rw [addOwn]; split
 ·exact ⟨putAddr_le hs.own, hs.far, hs.subs, hs.halfs, hs.list, hs.done, hs.over⟩
 ·exact hs
theorem resetE_small {e : EndD} {k : Int} (hs : Small e) : Small (resetE e k).1 := by
 rw [resetE]; split
 ·exact ⟨hs.own, hs.far, by simpa only [setState, List.length_set] using hs.subs, hs.halfs, hs.list, hs.done, hs.over⟩
 ·exact hs
theorem resetE_len (e : EndD) (k : Int) : (resetE e k).2.length ≤ 1 := by rw [resetE]; split <;> simp
theorem dropOwn_small {e : EndD} {n : Int} (hs : Small e) : Small (dropOwn e n).1 := by
 rw [dropOwn]; split
 ·rename_i h
  simp only [doOk, Bool.and_eq_true] at h
  have := (endOk_ids h.1.1).1
  exact ⟨dropAddr_le hs.own, hs.far, by simpa only [dropSubs, List.length_map] using hs.subs, hs.halfs, hs.list, by have := putI_len e.done n; dsimp only; omega, hs.over⟩
 ·exact hs
theorem dropOwn_len (e : EndD) (n : Int) (hs : Small e) : (dropOwn e n).2.length ≤ 1048576 := by
 rw [dropOwn]; split
 ·rw [List.length_map]
  have := onN_len (dropSubs e n)
  have h2 : (dropSubs e n).length = e.subs.length := by rw [dropSubs, List.length_map]
  have := hs.subs
  omega
 ·simp
theorem manGo_small {far : List AddrD} : ∀ {l : List RoadD} {e : EndD}, Small e → Small (manGo far e l).1
 | [], _, h => h
 | r :: l, e, h => manGo_small (l := l) (join_small h)
theorem manGo_len {far : List AddrD} : ∀ {l : List RoadD} {e : EndD}, (manGo far e l).2.length ≤ l.length
 | [], _ => Nat.le_refl _
 | r :: l, e => by
  have h1 := join_one e r (spareOf far r.far)
  have h2 := manGo_len (far := far) (l := l) (e := (join e r (spareOf far r.far)).1)
  rw [show (manGo far e (r :: l)).2 = (join e r (spareOf far r.far)).2 ++ (manGo far (join e r (spareOf far r.far)).1 l).2 from rfl, List.length_append, List.length_cons]
  omega
theorem manage_small {e : EndD} (hs : Small e) : Small (manage e).1 := by
 rw [manage]; split
 ·exact manGo_small hs
 ·exact hs
theorem manage_len (e : EndD) : (manage e).2.length ≤ 64 := by
 rw [manage]; split
 ·exact Nat.le_trans manGo_len (missing_le64 _ _)
 ·simp
theorem tick_small {e : EndD} (hs : Small e) : Small (tick e).1 := by
 have hy := younger_le e.halfs (e.now + 1)
 have := hs.halfs
 rw [tick]; split
 ·split
  ·rw [tickEnd]; exact pushN_small ⟨hs.own, hs.far, by dsimp only; rw [List.length_map]; exact hs.subs, by dsimp only [tick0]; omega, hs.list, hs.done, hs.over⟩
  ·rw [tickEnd]; exact pushN_small ⟨hs.own, hs.far, hs.subs, by dsimp only [tick0]; omega, hs.list, hs.done, hs.over⟩
 ·exact hs
theorem tickEnd_len (e : EndD) (l : List LetterD) : (tickEnd e l).2.length ≤ l.length + e.own.length + 3 := by
 have h1 := tellAddrs_le e
 have h2 := pushN_len (k := 3) (e := e)
 rw [tickEnd]
 simp only [List.length_append]
 omega
theorem tick_len (e : EndD) : (tick e).2.length ≤ 64 := by
 rw [tick]; split
 ·rename_i h
  simp only [tkE, Bool.and_eq_true] at h
  have h8 := endOk_subs h.1.1
  have h6 := endOk_own h.1.1
  have hfl : (e.subs.flatMap (tickL e)).length ≤ e.subs.length := flat_le (tickL_one e) _
  split
  ·refine Nat.le_trans (tickEnd_len _ _) ?_
   show (e.subs.flatMap (tickL e)).length + e.own.length + 3 ≤ 64
   omega
  ·refine Nat.le_trans (tickEnd_len _ _) ?_
   show 0 + e.own.length + 3 ≤ 64
   omega
 ·simp
structure SmallD (w : WorldD) : Prop where
 p : SmallWP w
 s : SmallS w
 oa : w.a.out.text.length ≤ 1048576
 ob : w.b.out.text.length ≤ 1048576
theorem write_text {e : EndD} {t : List UInt8} (h : e.out.text.length ≤ 1048576) : (write e t).1.out.text.length ≤ 1048576 := by
 rw [write]; split
 ·dsimp only
  rw [accept]; split
  ·rename_i ho
   simp only [accOk, Bool.and_eq_true] at ho
   have F := outOk_fine ho.1
   have := accN_room (t := t) F
   have := F.room
   dsimp only
   rw [List.length_append, List.length_take]
   omega
  ·exact h
 ·exact h
theorem readE_len {e : EndD} {m : Int} (h : SmallP e.inp) : (readE e m).2.length ≤ 1048576 := by
 have := h.ready
 rw [readE]; split
 ·dsimp only
  rw [takeReady]; split
  ·dsimp only; rw [List.length_take]; omega
  ·simp
 ·simp
theorem impl_acts1_1 (w : WorldD) (pos many : Int) (text : List UInt8) (ad : AddrD) (le : LetterD) (hw : SmallD w) (htx : text.length ≤ 1048576) :
  CallA Tryz.prog 18 [.sc (.pt 21 0 0), .ag (ActD.cs ⟨1, 1, pos, many, text, ad, le⟩)] (w.hp true ++ [some ⟨[w.cs 0], 61, 47, true, false⟩]) (.sc (.int .i64 0))
  ([none, none, none, none, none, none, none, none, none, none, none, none, none, none, none, none, none, none, none, none, none, some ⟨[WorldD.cs (postL 1 { w with wroteA := w.wroteA ++ text.take (write w.a text).2, a := (writeAll w.a text).1 } (writeAll w.a text).2) 22], 61, 47, true, false⟩] ++ WorldD.hp (postL 1 { w with wroteA := w.wroteA ++ text.take (write w.a text).2, a := (writeAll w.a text).1 } (writeAll w.a text).2) true) := by
 have q1 := hw.s.wa
 have q2 := hw.s.wb
 have q3 := hw.s.ra
 have q4 := hw.s.rb
 have hX := impl_WriteAll w.a text hw.p.s.a htx (write_text hw.oa)
 have hsm := writeAll_small (t := text) hw.p.s.a
 have hlen := writeAll_len w.a text
 have hEA : CallA Tryz.prog 38 [.ag (w.cs 0), .sc (.int .i64 1)] (w.hp false) (.ag (w.a.cs 21)) (w.hp false ++ w.a.hp true) := impl_EndAt w 1 hw.p.s.a.own hw.p.s.a.far hw.p.s.a.subs hw.p.s.a.halfs hw.p.s.a.list hw.p.s.a.done hw.p.s.a.over hw.p.s.b.own hw.p.s.b.far hw.p.s.b.subs hw.p.s.b.halfs hw.p.s.b.list hw.p.s.b.done hw.p.s.b.over
 have hX2 := impl_Write w.a text hw.p.s.a htx
 have hwl := write_le w.a text
 obtain ⟨wr, hwr⟩ : ∃ p, p = write w.a text := ⟨_, rfl⟩
 rw [← hwr] at hX2 hwl ⊢
 obtain ⟨e0, n0⟩ := wr
 dsimp only at hX2 hwl ⊢
 obtain ⟨pr, hpr⟩ : ∃ p, p = writeAll w.a text := ⟨_, rfl⟩
 rw [← hpr] at hX hsm hlen ⊢
 obtain ⟨e1, l1⟩ := pr
 dsimp only at hX hsm hlen ⊢
 have hset := impl_set1 { w with wroteA := w.wroteA ++ text.take n0 } e1
 have hpost := impl_post1 { w with wroteA := w.wroteA ++ text.take n0, a := e1 } l1 ⟨hw.p.s.bag, hw.p.s.past, hw.p.s.keys, hw.p.s.tags, hw.p.s.nums, hw.p.s.ansA, hw.p.s.ansB⟩ (by first | omega | simp)
 have hends := postL_ends (side := 1) (l := l1) (w := { w with wroteA := w.wroteA ++ text.take n0, a := e1 })
 obtain ⟨R, hR⟩ : ∃ R, R = postL 1 { w with wroteA := w.wroteA ++ text.take n0, a := e1 } l1 := ⟨_, rfl⟩
 rw [← hR] at hpost hends ⊢
 clear hR
 obtain ⟨ra, rb, bag, past, wA, wB, rA, rB, known, nums, nsA, nsB⟩ := R
 obtain ⟨keys, tags⟩ := known
 dsimp only at hends
 obtain ⟨g1, g2, g3, g4, g5, g6⟩ := hends
 replace g1 := g1.symm
 replace g2 := g2.symm
 replace g3 := g3.symm
 replace g4 := g4.symm
 replace g5 := g5.symm
 replace g6 := g6.symm
 subst g1 g2 g3 g4 g5 g6
 have htk : (text.take n0).length = n0 := by rw [List.length_take]; omega
 refine qEO Tryz.func18 Tryz.ntmps18 Tryz.results18 fun E hE => ?_
 refine den_drawX [(5, 6)] [] [[0, 1, 2, 3, 4, 5, 6, 7], [0, 1, 2, 3, 4, 6, 5, 7]] 22 hE (fun s => s.at [13, 14, 15, 16, 17, 18] [(5, .sc (.pt 30 0 0))] (s.hp ++ (w.a.hp true ++ [some ⟨[w.a.cs 23], 25, 41, true, false⟩]))) (by kernel_rfl) (qC) (by kernel_rfl) ?_ (run_den 400 ?_)
 rotate_left
 rotate_right
 simp only [allDn]
 refine ⟨runD_den 400 ?_, runD_den 400 ?_⟩
 ·simp (disch := omega) only [go_sem]
  refine qKD (hEA) (qA [0, 1, 2, 3, 4, 5, 6, 7, 8, 9, 10, 11, 12, 13, 14, 15, 16, 17, 18, 19, 20]) ?_
  refine ⟨qC, (qA [0, 1, 2, 3, 4, 5, 6, 7, 8, 9, 10, 11, 12, 13, 14, 15, 16, 17, 18, 19, 20, 21, 22, 23, 24, 25, 26, 27, 28, 29, 30]), weak_mkO (by rfl) (by rfl) ?_⟩
  try simp (disch := omega) only [go_sem, Nat.reduceEqDiff, Nat.reduceAdd, Nat.reduceSub, Int.reduceAdd, Int.reduceSub, Int.reduceToNat]
 ·simp (disch := omega) only [go_sem]
  refine qKD (hEA) (qA [0, 1, 2, 3, 4, 5, 6, 7, 8, 9, 10, 11, 12, 13, 14, 15, 16, 17, 18, 19, 20]) ?_
  refine ⟨qC, (qA [0, 1, 2, 3, 4, 5, 6, 7, 8, 9, 10, 11, 12, 13, 14, 15, 16, 17, 18, 19, 20, 21, 22, 24, 25, 26, 27, 28, 29, 30, 23]), weak_mkO (by rfl) (by rfl) ?_⟩
  try simp (disch := omega) only [go_sem, Nat.reduceEqDiff, Nat.reduceAdd, Nat.reduceSub, Int.reduceAdd, Int.reduceSub, Int.reduceToNat]
 refine qX ?_
 refine qK (hX2) (qA [23, 24, 25, 26, 27, 28, 29]) ?_
 refine qK (hX) (qA [23, 24, 25, 26, 27, 28, 29]) ?_
 refine qD [0, 1, 2, 3, 4, 5, 6, 7, 8, 9, 10, 11] ?_
 refine qG ?_
 refine qK (hset) (qA [0, 1, 2, 3, 4, 5, 6, 7, 8, 9, 10, 11, 12, 13, 14, 15, 16, 17, 18, 19, 20, 39, 40, 41, 42, 43, 44, 45, 21]) ?_
 refine qK (hpost) (qA [39, 40, 41, 42, 43, 44, 45, 7, 8, 9, 10, 11, 12, 13, 14, 15, 16, 17, 18, 19, 20, 21, 46]) ?_
 exact qFO (qA [0, 1, 2, 3, 4, 5, 6, 7, 8, 9, 10, 11, 12, 13, 14, 15, 16, 17, 18, 19, 20, 21, 39, 40, 41, 42, 43, 44, 45, 7, 8, 9, 10, 11, 12, 13, 47, 48, 49, 50, 51, 52, 53])
theorem impl_acts2_1 (w : WorldD) (pos many : Int) (text : List UInt8) (ad : AddrD) (le : LetterD) (hw : SmallD w) (htx : text.length ≤ 1048576) :
  CallA Tryz.prog 18 [.sc (.pt 21 0 0), .ag (ActD.cs ⟨2, 1, pos, many, text, ad, le⟩)] (w.hp true ++ [some ⟨[w.cs 0], 61, 47, true, false⟩]) (.sc (.int .i64 0))
  ([none, none, none, none, none, none, none, none, none, none, none, none, none, none, none, none, none, none, none, none, none, some ⟨[WorldD.cs (postL 1 { w with readA := w.readA ++ (readE w.a many).2, a := ((readE w.a many).1, ([] : List LetterD)).1 } ((readE w.a many).1, ([] : List LetterD)).2) 22], 61, 47, true, false⟩] ++ WorldD.hp (postL 1 { w with readA := w.readA ++ (readE w.a many).2, a := ((readE w.a many).1, ([] : List LetterD)).1 } ((readE w.a many).1, ([] : List LetterD)).2) true) := by
 have q1 := hw.s.wa
 have q2 := hw.s.wb
 have q3 := hw.s.ra
 have q4 := hw.s.rb
 have hX := impl_Read w.a many hw.p.s.a hw.p.pa
 have hsm := readE_small (m := many) hw.p.s.a
 have hEA : CallA Tryz.prog 38 [.ag (w.cs 0), .sc (.int .i64 1)] (w.hp false) (.ag (w.a.cs 21)) (w.hp false ++ w.a.hp true) := impl_EndAt w 1 hw.p.s.a.own hw.p.s.a.far hw.p.s.a.subs hw.p.s.a.halfs hw.p.s.a.list hw.p.s.a.done hw.p.s.a.over hw.p.s.b.own hw.p.s.b.far hw.p.s.b.subs hw.p.s.b.halfs hw.p.s.b.list hw.p.s.b.done hw.p.s.b.over
 obtain ⟨pr, hpr⟩ : ∃ p, p = readE w.a many := ⟨_, rfl⟩
 have hrl : (readE w.a many).2.length ≤ 1048576 := readE_len hw.p.pa
 rw [← hpr] at hX hsm hrl ⊢
 obtain ⟨e1, t1⟩ := pr
 dsimp only at hX hsm hrl ⊢
 obtain ⟨l1, hl1⟩ : ∃ l : List LetterD, l = [] := ⟨_, rfl⟩
 have hlen : l1.length ≤ 1 := by rw [hl1]; simp
 have hset := impl_set1 { w with readA := w.readA ++ t1 } e1
 have hpost := impl_post1 { w with readA := w.readA ++ t1, a := e1 } [] ⟨hw.p.s.bag, hw.p.s.past, hw.p.s.keys, hw.p.s.tags, hw.p.s.nums, hw.p.s.ansA, hw.p.s.ansB⟩ (by first | omega | simp)
 have hends := postL_ends (side := 1) (l := []) (w := { w with readA := w.readA ++ t1, a := e1 })
 obtain ⟨R, hR⟩ : ∃ R, R = postL 1 { w with readA := w.readA ++ t1, a := e1 } [] := ⟨_, rfl⟩
 rw [← hR] at hpost hends ⊢
 clear hR
 obtain ⟨ra, rb, bag, past, wA, wB, rA, rB, known, nums, nsA, nsB⟩ := R
 obtain ⟨keys, tags⟩ := known
 dsimp only at hends
 obtain ⟨g1, g2, g3, g4, g5, g6⟩ := hends
 replace g1 := g1.symm
 replace g2 := g2.symm
 replace g3 := g3.symm
 replace g4 := g4.symm
 replace g5 := g5.symm
 replace g6 := g6.symm
 subst g1 g2 g3 g4 g5 g6
 refine qEO Tryz.func18 Tryz.ntmps18 Tryz.results18 fun E hE => ?_
 refine den_drawX [(5, 6)] [] [[0, 1, 2, 3, 4, 5, 6, 7], [0, 1, 2, 3, 4, 6, 5, 7]] 22 hE (fun s => s.at [13, 14, 15, 16, 17, 18] [(5, .sc (.pt 30 0 0))] (s.hp ++ (w.a.hp true ++ [some ⟨[w.a.cs 23], 25, 41, true, false⟩]))) (by kernel_rfl) (qC) (by kernel_rfl) ?_ (run_den 400 ?_)
 rotate_left
 rotate_right
 simp only [allDn]
 refine ⟨runD_den 400 ?_, runD_den 400 ?_⟩
 ·simp (disch := omega) only [go_sem]
  refine qKD (hEA) (qA [0, 1, 2, 3, 4, 5, 6, 7, 8, 9, 10, 11, 12, 13, 14, 15, 16, 17, 18, 19, 20]) ?_
  refine ⟨qC, (qA [0, 1, 2, 3, 4, 5, 6, 7, 8, 9, 10, 11, 12, 13, 14, 15, 16, 17, 18, 19, 20, 21, 22, 23, 24, 25, 26, 27, 28, 29, 30]), weak_mkO (by rfl) (by rfl) ?_⟩
  try simp (disch := omega) only [go_sem, Nat.reduceEqDiff, Nat.reduceAdd, Nat.reduceSub, Int.reduceAdd, Int.reduceSub, Int.reduceToNat]
 ·simp (disch := omega) only [go_sem]
  refine qKD (hEA) (qA [0, 1, 2, 3, 4, 5, 6, 7, 8, 9, 10, 11, 12, 13, 14, 15, 16, 17, 18, 19, 20]) ?_
  refine ⟨qC, (qA [0, 1, 2, 3, 4, 5, 6, 7, 8, 9, 10, 11, 12, 13, 14, 15, 16, 17, 18, 19, 20, 21, 22, 24, 25, 26, 27, 28, 29, 30, 23]), weak_mkO (by rfl) (by rfl) ?_⟩
  try simp (disch := omega) only [go_sem, Nat.reduceEqDiff, Nat.reduceAdd, Nat.reduceSub, Int.reduceAdd, Int.reduceSub, Int.reduceToNat]
 refine qX ?_
 refine qK (hX) (qA [23, 24, 25, 26, 27, 28, 29]) ?_
 refine qK (hset) (qA [0, 1, 2, 3, 4, 5, 6, 7, 8, 9, 10, 11, 12, 13, 14, 15, 16, 17, 18, 19, 20, 31, 32, 33, 34, 35, 36, 37, 21]) ?_
 refine qK (hpost) [some (31, none), some (32, none), some (33, none), some (34, none), some (35, none), some (36, none), some (37, none), some (7, none), some (8, none), some (9, none), some (10, none), some (11, none), some (12, none), some (13, none), some (14, none), some (15, none), some (16, none), some (17, none), some (18, none), some (19, none), some (20, none), some (21, none), none] ?_
 exact qFO (qA [0, 1, 2, 3, 4, 5, 6, 7, 8, 9, 10, 11, 12, 13, 14, 15, 16, 17, 18, 19, 20, 21, 31, 32, 33, 34, 35, 36, 37, 7, 8, 9, 10, 11, 12, 13, 39, 40, 41, 42, 43, 44, 45])
theorem impl_acts4_1 (w : WorldD) (pos many : Int) (text : List UInt8) (ad : AddrD) (le : LetterD) (hw : SmallD w) (htx : text.length ≤ 1048576) :
  CallA Tryz.prog 18 [.sc (.pt 21 0 0), .ag (ActD.cs ⟨4, 1, pos, many, text, ad, le⟩)] (w.hp true ++ [some ⟨[w.cs 0], 61, 47, true, false⟩]) (.sc (.int .i64 0))
  ([none, none, none, none, none, none, none, none, none, none, none, none, none, none, none, none, none, none, none, none, none, some ⟨[WorldD.cs (postL 1 { w with a := (manage w.a).1 } (manage w.a).2) 22], 61, 47, true, false⟩] ++ WorldD.hp (postL 1 { w with a := (manage w.a).1 } (manage w.a).2) true) := by
 have q1 := hw.s.wa
 have q2 := hw.s.wb
 have q3 := hw.s.ra
 have q4 := hw.s.rb
 have hX := impl_Manage w.a hw.p.s.a
 have hsm := manage_small hw.p.s.a
 have hlen := manage_len w.a
 have hEA : CallA Tryz.prog 38 [.ag (w.cs 0), .sc (.int .i64 1)] (w.hp false) (.ag (w.a.cs 21)) (w.hp false ++ w.a.hp true) := impl_EndAt w 1 hw.p.s.a.own hw.p.s.a.far hw.p.s.a.subs hw.p.s.a.halfs hw.p.s.a.list hw.p.s.a.done hw.p.s.a.over hw.p.s.b.own hw.p.s.b.far hw.p.s.b.subs hw.p.s.b.halfs hw.p.s.b.list hw.p.s.b.done hw.p.s.b.over
 obtain ⟨pr, hpr⟩ : ∃ p, p = manage w.a := ⟨_, rfl⟩
 rw [← hpr] at hX hsm hlen ⊢
 obtain ⟨e1, l1⟩ := pr
 dsimp only at hX hsm hlen ⊢
 have hset := impl_set1 w e1
 have hpost := impl_post1 { w with a := e1 } l1 ⟨hw.p.s.bag, hw.p.s.past, hw.p.s.keys, hw.p.s.tags, hw.p.s.nums, hw.p.s.ansA, hw.p.s.ansB⟩ (by first | omega | simp)
 have hends := postL_ends (side := 1) (l := l1) (w := { w with a := e1 })
 obtain ⟨R, hR⟩ : ∃ R, R = postL 1 { w with a := e1 } l1 := ⟨_, rfl⟩
 rw [← hR] at hpost hends ⊢
 clear hR
 obtain ⟨ra, rb, bag, past, wA, wB, rA, rB, known, nums, nsA, nsB⟩ := R
 obtain ⟨keys, tags⟩ := known
 dsimp only at hends
 obtain ⟨g1, g2, g3, g4, g5, g6⟩ := hends
 replace g1 := g1.symm
 replace g2 := g2.symm
 replace g3 := g3.symm
 replace g4 := g4.symm
 replace g5 := g5.symm
 replace g6 := g6.symm
 subst g1 g2 g3 g4 g5 g6
 refine qEO Tryz.func18 Tryz.ntmps18 Tryz.results18 fun E hE => ?_
 refine den_drawX [(5, 6)] [] [[0, 1, 2, 3, 4, 5, 6, 7], [0, 1, 2, 3, 4, 6, 5, 7]] 22 hE (fun s => s.at [13, 14, 15, 16, 17, 18] [(5, .sc (.pt 30 0 0))] (s.hp ++ (w.a.hp true ++ [some ⟨[w.a.cs 23], 25, 41, true, false⟩]))) (by kernel_rfl) (qC) (by kernel_rfl) ?_ (run_den 400 ?_)
 rotate_left
 rotate_right
 simp only [allDn]
 refine ⟨runD_den 400 ?_, runD_den 400 ?_⟩
 ·simp (disch := omega) only [go_sem]
  refine qKD (hEA) (qA [0, 1, 2, 3, 4, 5, 6, 7, 8, 9, 10, 11, 12, 13, 14, 15, 16, 17, 18, 19, 20]) ?_
  refine ⟨qC, (qA [0, 1, 2, 3, 4, 5, 6, 7, 8, 9, 10, 11, 12, 13, 14, 15, 16, 17, 18, 19, 20, 21, 22, 23, 24, 25, 26, 27, 28, 29, 30]), weak_mkO (by rfl) (by rfl) ?_⟩
  try simp (disch := omega) only [go_sem, Nat.reduceEqDiff, Nat.reduceAdd, Nat.reduceSub, Int.reduceAdd, Int.reduceSub, Int.reduceToNat]
 ·simp (disch := omega) only [go_sem]
  refine qKD (hEA) (qA [0, 1, 2, 3, 4, 5, 6, 7, 8, 9, 10, 11, 12, 13, 14, 15, 16, 17, 18, 19, 20]) ?_
  refine ⟨qC, (qA [0, 1, 2, 3, 4, 5, 6, 7, 8, 9, 10, 11, 12, 13, 14, 15, 16, 17, 18, 19, 20, 21, 22, 24, 25, 26, 27, 28, 29, 30, 23]), weak_mkO (by rfl) (by rfl) ?_⟩
  try simp (disch := omega) only [go_sem, Nat.reduceEqDiff, Nat.reduceAdd, Nat.reduceSub, Int.reduceAdd, Int.reduceSub, Int.reduceToNat]
 refine qX ?_
 refine qK (hX) (qA [23, 24, 25, 26, 27, 28, 29]) ?_
 refine qK (hset) (qA [0, 1, 2, 3, 4, 5, 6, 7, 8, 9, 10, 11, 12, 13, 14, 15, 16, 17, 18, 19, 20, 31, 32, 33, 34, 35, 36, 37, 21]) ?_
 refine qK (hpost) (qA [31, 32, 33, 34, 35, 36, 37, 7, 8, 9, 10, 11, 12, 13, 14, 15, 16, 17, 18, 19, 20, 21, 38]) ?_
 exact qFO (qA [0, 1, 2, 3, 4, 5, 6, 7, 8, 9, 10, 11, 12, 13, 14, 15, 16, 17, 18, 19, 20, 21, 31, 32, 33, 34, 35, 36, 37, 7, 8, 9, 10, 11, 12, 13, 39, 40, 41, 42, 43, 44, 45])
theorem impl_acts5_1 (w : WorldD) (pos many : Int) (text : List UInt8) (ad : AddrD) (le : LetterD) (hw : SmallD w) (htx : text.length ≤ 1048576) (hsd : sideAt ad.addr = 1) (hgood : (addOwn w.a ad).2 = true) :
  CallA Tryz.prog 18 [.sc (.pt 21 0 0), .ag (ActD.cs ⟨5, 1, pos, many, text, ad, le⟩)] (w.hp true ++ [some ⟨[w.cs 0], 61, 47, true, false⟩]) (.sc (.int .i64 0))
  ([none, none, none, none, none, none, none, none, none, none, none, none, none, none, none, none, none, none, none, none, none, some ⟨[WorldD.cs (postL 1 { w with a := ((addOwn w.a ad).1, ([] : List LetterD)).1 } ((addOwn w.a ad).1, ([] : List LetterD)).2) 22], 61, 47, true, false⟩] ++ WorldD.hp (postL 1 { w with a := ((addOwn w.a ad).1, ([] : List LetterD)).1 } ((addOwn w.a ad).1, ([] : List LetterD)).2) true) := by
 have q1 := hw.s.wa
 have q2 := hw.s.wb
 have q3 := hw.s.ra
 have q4 := hw.s.rb
 have hX := impl_AddOwn w.a ad hw.p.s.a
 have hsm := addOwn_small (a := ad) hw.p.s.a
 have hEA : CallA Tryz.prog 38 [.ag (w.cs 0), .sc (.int .i64 1)] (w.hp false) (.ag (w.a.cs 21)) (w.hp false ++ w.a.hp true) := impl_EndAt w 1 hw.p.s.a.own hw.p.s.a.far hw.p.s.a.subs hw.p.s.a.halfs hw.p.s.a.list hw.p.s.a.done hw.p.s.a.over hw.p.s.b.own hw.p.s.b.far hw.p.s.b.subs hw.p.s.b.halfs hw.p.s.b.list hw.p.s.b.done hw.p.s.b.over
 obtain ⟨pr, hpr⟩ : ∃ p, p = addOwn w.a ad := ⟨_, rfl⟩
 rw [← hpr] at hX hsm hgood ⊢
 obtain ⟨e1, ok1⟩ := pr
 dsimp only at hX hsm hgood ⊢
 subst hgood
 obtain ⟨l1, hl1⟩ : ∃ l : List LetterD, l = [] := ⟨_, rfl⟩
 have hlen : l1.length ≤ 1 := by rw [hl1]; simp
 have hset := impl_set1 w e1
 have hpost := impl_post1 { w with a := e1 } [] ⟨hw.p.s.bag, hw.p.s.past, hw.p.s.keys, hw.p.s.tags, hw.p.s.nums, hw.p.s.ansA, hw.p.s.ansB⟩ (by first | omega | simp)
 have hends := postL_ends (side := 1) (l := []) (w := { w with a := e1 })
 obtain ⟨R, hR⟩ : ∃ R, R = postL 1 { w with a := e1 } [] := ⟨_, rfl⟩
 rw [← hR] at hpost hends ⊢
 clear hR
 obtain ⟨ra, rb, bag, past, wA, wB, rA, rB, known, nums, nsA, nsB⟩ := R
 obtain ⟨keys, tags⟩ := known
 dsimp only at hends
 obtain ⟨g1, g2, g3, g4, g5, g6⟩ := hends
 replace g1 := g1.symm
 replace g2 := g2.symm
 replace g3 := g3.symm
 replace g4 := g4.symm
 replace g5 := g5.symm
 replace g6 := g6.symm
 subst g1 g2 g3 g4 g5 g6
 have hSd := impl_SideAt ad.addr
 rw [hsd] at hSd
 refine qEO Tryz.func18 Tryz.ntmps18 Tryz.results18 fun E hE => ?_
 refine den_drawX [(5, 6)] [] [[0, 1, 2, 3, 4, 5, 6, 7], [0, 1, 2, 3, 4, 6, 5, 7]] 22 hE (fun s => s.at [13, 14, 15, 16, 17, 18] [(5, .sc (.pt 30 0 0))] (s.hp ++ (w.a.hp true ++ [some ⟨[w.a.cs 23], 25, 41, true, false⟩]))) (by kernel_rfl) (qC) (by kernel_rfl) ?_ (run_den 400 ?_)
 rotate_left
 rotate_right
 simp only [allDn]
 refine ⟨runD_den 400 ?_, runD_den 400 ?_⟩
 ·simp (disch := omega) only [go_sem]
  refine qKD (hEA) (qA [0, 1, 2, 3, 4, 5, 6, 7, 8, 9, 10, 11, 12, 13, 14, 15, 16, 17, 18, 19, 20]) ?_
  refine ⟨qC, (qA [0, 1, 2, 3, 4, 5, 6, 7, 8, 9, 10, 11, 12, 13, 14, 15, 16, 17, 18, 19, 20, 21, 22, 23, 24, 25, 26, 27, 28, 29, 30]), weak_mkO (by rfl) (by rfl) ?_⟩
  try simp (disch := omega) only [go_sem, Nat.reduceEqDiff, Nat.reduceAdd, Nat.reduceSub, Int.reduceAdd, Int.reduceSub, Int.reduceToNat]
 ·simp (disch := omega) only [go_sem]
  refine qKD (hEA) (qA [0, 1, 2, 3, 4, 5, 6, 7, 8, 9, 10, 11, 12, 13, 14, 15, 16, 17, 18, 19, 20]) ?_
  refine ⟨qC, (qA [0, 1, 2, 3, 4, 5, 6, 7, 8, 9, 10, 11, 12, 13, 14, 15, 16, 17, 18, 19, 20, 21, 22, 24, 25, 26, 27, 28, 29, 30, 23]), weak_mkO (by rfl) (by rfl) ?_⟩
  try simp (disch := omega) only [go_sem, Nat.reduceEqDiff, Nat.reduceAdd, Nat.reduceSub, Int.reduceAdd, Int.reduceSub, Int.reduceToNat]
 refine qX ?_
 refine qK (hX) (qA [23, 24, 25, 26, 27, 28, 29]) ?_
 refine qD [0, 1, 2, 4, 5, 3, 6, 7, 8, 9, 10] ?_
 refine qKD (hSd) [] ?_
 refine qG ?_
 refine qK (hset) (qA [0, 1, 2, 3, 4, 5, 6, 7, 8, 9, 10, 11, 12, 13, 14, 15, 16, 17, 18, 19, 20, 31, 32, 33, 34, 35, 36, 37, 21]) ?_
 refine qK (hpost) [some (31, none), some (32, none), some (33, none), some (34, none), some (35, none), some (36, none), some (37, none), some (7, none), some (8, none), some (9, none), some (10, none), some (11, none), some (12, none), some (13, none), some (14, none), some (15, none), some (16, none), some (17, none), some (18, none), some (19, none), some (20, none), some (21, none), none] ?_
 exact qFO (qA [0, 1, 2, 3, 4, 5, 6, 7, 8, 9, 10, 11, 12, 13, 14, 15, 16, 17, 18, 19, 20, 21, 31, 32, 33, 34, 35, 36, 37, 7, 8, 9, 10, 11, 12, 13, 39, 40, 41, 42, 43, 44, 45])
theorem impl_acts6_1 (w : WorldD) (pos many : Int) (text : List UInt8) (ad : AddrD) (le : LetterD) (hw : SmallD w) (htx : text.length ≤ 1048576) :
  CallA Tryz.prog 18 [.sc (.pt 21 0 0), .ag (ActD.cs ⟨6, 1, pos, many, text, ad, le⟩)] (w.hp true ++ [some ⟨[w.cs 0], 61, 47, true, false⟩]) (.sc (.int .i64 0))
  ([none, none, none, none, none, none, none, none, none, none, none, none, none, none, none, none, none, none, none, none, none, some ⟨[WorldD.cs (postL 1 { w with a := (dropOwn w.a pos).1 } (dropOwn w.a pos).2) 22], 61, 47, true, false⟩] ++ WorldD.hp (postL 1 { w with a := (dropOwn w.a pos).1 } (dropOwn w.a pos).2) true) := by
 have q1 := hw.s.wa
 have q2 := hw.s.wb
 have q3 := hw.s.ra
 have q4 := hw.s.rb
 have hX := impl_DropOwn w.a pos hw.p.s.a
 have hsm := dropOwn_small (n := pos) hw.p.s.a
 have hlen := dropOwn_len w.a pos hw.p.s.a
 have hEA : CallA Tryz.prog 38 [.ag (w.cs 0), .sc (.int .i64 1)] (w.hp false) (.ag (w.a.cs 21)) (w.hp false ++ w.a.hp true) := impl_EndAt w 1 hw.p.s.a.own hw.p.s.a.far hw.p.s.a.subs hw.p.s.a.halfs hw.p.s.a.list hw.p.s.a.done hw.p.s.a.over hw.p.s.b.own hw.p.s.b.far hw.p.s.b.subs hw.p.s.b.halfs hw.p.s.b.list hw.p.s.b.done hw.p.s.b.over
 obtain ⟨pr, hpr⟩ : ∃ p, p = dropOwn w.a pos := ⟨_, rfl⟩
 rw [← hpr] at hX hsm hlen ⊢
 obtain ⟨e1, l1⟩ := pr
 dsimp only at hX hsm hlen ⊢
 have hset := impl_set1 w e1
 have hpost := impl_post1 { w with a := e1 } l1 ⟨hw.p.s.bag, hw.p.s.past, hw.p.s.keys, hw.p.s.tags, hw.p.s.nums, hw.p.s.ansA, hw.p.s.ansB⟩ (by first | omega | simp)
 have hends := postL_ends (side := 1) (l := l1) (w := { w with a := e1 })
 obtain ⟨R, hR⟩ : ∃ R, R = postL 1 { w with a := e1 } l1 := ⟨_, rfl⟩
 rw [← hR] at hpost hends ⊢
 clear hR
 obtain ⟨ra, rb, bag, past, wA, wB, rA, rB, known, nums, nsA, nsB⟩ := R
 obtain ⟨keys, tags⟩ := known
 dsimp only at hends
 obtain ⟨g1, g2, g3, g4, g5, g6⟩ := hends
 replace g1 := g1.symm
 replace g2 := g2.symm
 replace g3 := g3.symm
 replace g4 := g4.symm
 replace g5 := g5.symm
 replace g6 := g6.symm
 subst g1 g2 g3 g4 g5 g6
 refine qEO Tryz.func18 Tryz.ntmps18 Tryz.results18 fun E hE => ?_
 refine den_drawX [(5, 6)] [] [[0, 1, 2, 3, 4, 5, 6, 7], [0, 1, 2, 3, 4, 6, 5, 7]] 22 hE (fun s => s.at [13, 14, 15, 16, 17, 18] [(5, .sc (.pt 30 0 0))] (s.hp ++ (w.a.hp true ++ [some ⟨[w.a.cs 23], 25, 41, true, false⟩]))) (by kernel_rfl) (qC) (by kernel_rfl) ?_ (run_den 400 ?_)
 rotate_left
 rotate_right
 simp only [allDn]
 refine ⟨runD_den 400 ?_, runD_den 400 ?_⟩
 ·simp (disch := omega) only [go_sem]
  refine qKD (hEA) (qA [0, 1, 2, 3, 4, 5, 6, 7, 8, 9, 10, 11, 12, 13, 14, 15, 16, 17, 18, 19, 20]) ?_
  refine ⟨qC, (qA [0, 1, 2, 3, 4, 5, 6, 7, 8, 9, 10, 11, 12, 13, 14, 15, 16, 17, 18, 19, 20, 21, 22, 23, 24, 25, 26, 27, 28, 29, 30]), weak_mkO (by rfl) (by rfl) ?_⟩
  try simp (disch := omega) only [go_sem, Nat.reduceEqDiff, Nat.reduceAdd, Nat.reduceSub, Int.reduceAdd, Int.reduceSub, Int.reduceToNat]
 ·simp (disch := omega) only [go_sem]
  refine qKD (hEA) (qA [0, 1, 2, 3, 4, 5, 6, 7, 8, 9, 10, 11, 12, 13, 14, 15, 16, 17, 18, 19, 20]) ?_
  refine ⟨qC, (qA [0, 1, 2, 3, 4, 5, 6, 7, 8, 9, 10, 11, 12, 13, 14, 15, 16, 17, 18, 19, 20, 21, 22, 24, 25, 26, 27, 28, 29, 30, 23]), weak_mkO (by rfl) (by rfl) ?_⟩
  try simp (disch := omega) only [go_sem, Nat.reduceEqDiff, Nat.reduceAdd, Nat.reduceSub, Int.reduceAdd, Int.reduceSub, Int.reduceToNat]
 refine qX ?_
 refine qK (hX) (qA [23, 24, 25, 26, 27, 28, 29]) ?_
 refine qK (hset) (qA [0, 1, 2, 3, 4, 5, 6, 7, 8, 9, 10, 11, 12, 13, 14, 15, 16, 17, 18, 19, 20, 31, 32, 33, 34, 35, 36, 37, 21]) ?_
 refine qK (hpost) (qA [31, 32, 33, 34, 35, 36, 37, 7, 8, 9, 10, 11, 12, 13, 14, 15, 16, 17, 18, 19, 20, 21, 38]) ?_
 exact qFO (qA [0, 1, 2, 3, 4, 5, 6, 7, 8, 9, 10, 11, 12, 13, 14, 15, 16, 17, 18, 19, 20, 21, 31, 32, 33, 34, 35, 36, 37, 7, 8, 9, 10, 11, 12, 13, 39, 40, 41, 42, 43, 44, 45])
theorem impl_acts7_1 (w : WorldD) (pos many : Int) (text : List UInt8) (ad : AddrD) (le : LetterD) (hw : SmallD w) (htx : text.length ≤ 1048576) :
  CallA Tryz.prog 18 [.sc (.pt 21 0 0), .ag (ActD.cs ⟨7, 1, pos, many, text, ad, le⟩)] (w.hp true ++ [some ⟨[w.cs 0], 61, 47, true, false⟩]) (.sc (.int .i64 0))
  ([none, none, none, none, none, none, none, none, none, none, none, none, none, none, none, none, none, none, none, none, none, some ⟨[WorldD.cs (postL 1 { w with a := (resetE w.a pos).1 } (resetE w.a pos).2) 22], 61, 47, true, false⟩] ++ WorldD.hp (postL 1 { w with a := (resetE w.a pos).1 } (resetE w.a pos).2) true) := by
 have q1 := hw.s.wa
 have q2 := hw.s.wb
 have q3 := hw.s.ra
 have q4 := hw.s.rb
 have hX := impl_Reset w.a pos hw.p.s.a
 have hsm := resetE_small (k := pos) hw.p.s.a
 have hlen := resetE_len w.a pos
 have hEA : CallA Tryz.prog 38 [.ag (w.cs 0), .sc (.int .i64 1)] (w.hp false) (.ag (w.a.cs 21)) (w.hp false ++ w.a.hp true) := impl_EndAt w 1 hw.p.s.a.own hw.p.s.a.far hw.p.s.a.subs hw.p.s.a.halfs hw.p.s.a.list hw.p.s.a.done hw.p.s.a.over hw.p.s.b.own hw.p.s.b.far hw.p.s.b.subs hw.p.s.b.halfs hw.p.s.b.list hw.p.s.b.done hw.p.s.b.over
 obtain ⟨pr, hpr⟩ : ∃ p, p = resetE w.a pos := ⟨_, rfl⟩
 rw [← hpr] at hX hsm hlen ⊢
 obtain ⟨e1, l1⟩ := pr
 dsimp only at hX hsm hlen ⊢
 have hset := impl_set1 w e1
 have hpost := impl_post1 { w with a := e1 } l1 ⟨hw.p.s.bag, hw.p.s.past, hw.p.s.keys, hw.p.s.tags, hw.p.s.nums, hw.p.s.ansA, hw.p.s.ansB⟩ (by first | omega | simp)
 have hends := postL_ends (side := 1) (l := l1) (w := { w with a := e1 })
 obtain ⟨R, hR⟩ : ∃ R, R = postL 1 { w with a := e1 } l1 := ⟨_, rfl⟩
 rw [← hR] at hpost hends ⊢
 clear hR
 obtain ⟨ra, rb, bag, past, wA, wB, rA, rB, known, nums, nsA, nsB⟩ := R
 obtain ⟨keys, tags⟩ := known
 dsimp only at hends
 obtain ⟨g1, g2, g3, g4, g5, g6⟩ := hends
 replace g1 := g1.symm
 replace g2 := g2.symm
 replace g3 := g3.symm
 replace g4 := g4.symm
 replace g5 := g5.symm
 replace g6 := g6.symm
 subst g1 g2 g3 g4 g5 g6
 refine qEO Tryz.func18 Tryz.ntmps18 Tryz.results18 fun E hE => ?_
 refine den_drawX [(5, 6)] [] [[0, 1, 2, 3, 4, 5, 6, 7], [0, 1, 2, 3, 4, 6, 5, 7]] 22 hE (fun s => s.at [13, 14, 15, 16, 17, 18] [(5, .sc (.pt 30 0 0))] (s.hp ++ (w.a.hp true ++ [some ⟨[w.a.cs 23], 25, 41, true, false⟩]))) (by kernel_rfl) (qC) (by kernel_rfl) ?_ (run_den 400 ?_)
 rotate_left
 rotate_right
 simp only [allDn]
 refine ⟨runD_den 400 ?_, runD_den 400 ?_⟩
 ·simp (disch := omega) only [go_sem]
  refine qKD (hEA) (qA [0, 1, 2, 3, 4, 5, 6, 7, 8, 9, 10, 11, 12, 13, 14, 15, 16, 17, 18, 19, 20]) ?_
  refine ⟨qC, (qA [0, 1, 2, 3, 4, 5, 6, 7, 8, 9, 10, 11, 12, 13, 14, 15, 16, 17, 18, 19, 20, 21, 22, 23, 24, 25, 26, 27, 28, 29, 30]), weak_mkO (by rfl) (by rfl) ?_⟩
  try simp (disch := omega) only [go_sem, Nat.reduceEqDiff, Nat.reduceAdd, Nat.reduceSub, Int.reduceAdd, Int.reduceSub, Int.reduceToNat]
 ·simp (disch := omega) only [go_sem]
  refine qKD (hEA) (qA [0, 1, 2, 3, 4, 5, 6, 7, 8, 9, 10, 11, 12, 13, 14, 15, 16, 17, 18, 19, 20]) ?_
  refine ⟨qC, (qA [0, 1, 2, 3, 4, 5, 6, 7, 8, 9, 10, 11, 12, 13, 14, 15, 16, 17, 18, 19, 20, 21, 22, 24, 25, 26, 27, 28, 29, 30, 23]), weak_mkO (by rfl) (by rfl) ?_⟩
  try simp (disch := omega) only [go_sem, Nat.reduceEqDiff, Nat.reduceAdd, Nat.reduceSub, Int.reduceAdd, Int.reduceSub, Int.reduceToNat]
 refine qX ?_
 refine qK (hX) (qA [23, 24, 25, 26, 27, 28, 29]) ?_
 refine qK (hset) (qA [0, 1, 2, 3, 4, 5, 6, 7, 8, 9, 10, 11, 12, 13, 14, 15, 16, 17, 18, 19, 20, 31, 32, 33, 34, 35, 36, 37, 21]) ?_
 refine qK (hpost) (qA [31, 32, 33, 34, 35, 36, 37, 7, 8, 9, 10, 11, 12, 13, 14, 15, 16, 17, 18, 19, 20, 21, 38]) ?_
 exact qFO (qA [0, 1, 2, 3, 4, 5, 6, 7, 8, 9, 10, 11, 12, 13, 14, 15, 16, 17, 18, 19, 20, 21, 31, 32, 33, 34, 35, 36, 37, 7, 8, 9, 10, 11, 12, 13, 39, 40, 41, 42, 43, 44, 45])
theorem impl_acts1_2 (w : WorldD) (pos many : Int) (text : List UInt8) (ad : AddrD) (le : LetterD) (hw : SmallD w) (htx : text.length ≤ 1048576) :
  CallA Tryz.prog 18 [.sc (.pt 21 0 0), .ag (ActD.cs ⟨1, 2, pos, many, text, ad, le⟩)] (w.hp true ++ [some ⟨[w.cs 0], 61, 47, true, false⟩]) (.sc (.int .i64 0))
  ([none, none, none, none, none, none, none, none, none, none, none, none, none, none, none, none, none, none, none, none, none, some ⟨[WorldD.cs (postL 2 { w with wroteB := w.wroteB ++ text.take (write w.b text).2, b := (writeAll w.b text).1 } (writeAll w.b text).2) 22], 61, 47, true, false⟩] ++ WorldD.hp (postL 2 { w with wroteB := w.wroteB ++ text.take (write w.b text).2, b := (writeAll w.b text).1 } (writeAll w.b text).2) true) := by
 have q1 := hw.s.wa
 have q2 := hw.s.wb
 have q3 := hw.s.ra
 have q4 := hw.s.rb
 have hX := impl_WriteAll w.b text hw.p.s.b htx (write_text hw.ob)
 have hsm := writeAll_small (t := text) hw.p.s.b
 have hlen := writeAll_len w.b text
 have hEA : CallA Tryz.prog 38 [.ag (w.cs 0), .sc (.int .i64 2)] (w.hp false) (.ag (w.b.cs 21)) (w.hp false ++ w.b.hp true) := impl_EndAt w 2 hw.p.s.a.own hw.p.s.a.far hw.p.s.a.subs hw.p.s.a.halfs hw.p.s.a.list hw.p.s.a.done hw.p.s.a.over hw.p.s.b.own hw.p.s.b.far hw.p.s.b.subs hw.p.s.b.halfs hw.p.s.b.list hw.p.s.b.done hw.p.s.b.over
 have hX2 := impl_Write w.b text hw.p.s.b htx
 have hwl := write_le w.b text
 obtain ⟨wr, hwr⟩ : ∃ p, p = write w.b text := ⟨_, rfl⟩
 rw [← hwr] at hX2 hwl ⊢
 obtain ⟨e0, n0⟩ := wr
 dsimp only at hX2 hwl ⊢
 obtain ⟨pr, hpr⟩ : ∃ p, p = writeAll w.b text := ⟨_, rfl⟩
 rw [← hpr] at hX hsm hlen ⊢
 obtain ⟨e1, l1⟩ := pr
 dsimp only at hX hsm hlen ⊢
 have hset := impl_set2 { w with wroteB := w.wroteB ++ text.take n0 } e1
 have hpost := impl_post2 { w with wroteB := w.wroteB ++ text.take n0, b := e1 } l1 ⟨hw.p.s.bag, hw.p.s.past, hw.p.s.keys, hw.p.s.tags, hw.p.s.nums, hw.p.s.ansA, hw.p.s.ansB⟩ (by first | omega | simp)
 have hends := postL_ends (side := 2) (l := l1) (w := { w with wroteB := w.wroteB ++ text.take n0, b := e1 })
 obtain ⟨R, hR⟩ : ∃ R, R = postL 2 { w with wroteB := w.wroteB ++ text.take n0, b := e1 } l1 := ⟨_, rfl⟩
 rw [← hR] at hpost hends ⊢
 clear hR
 obtain ⟨ra, rb, bag, past, wA, wB, rA, rB, known, nums, nsA, nsB⟩ := R
 obtain ⟨keys, tags⟩ := known
 dsimp only at hends
 obtain ⟨g1, g2, g3, g4, g5, g6⟩ := hends
 replace g1 := g1.symm
 replace g2 := g2.symm
 replace g3 := g3.symm
 replace g4 := g4.symm
 replace g5 := g5.symm
 replace g6 := g6.symm
 subst g1 g2 g3 g4 g5 g6
 have htk : (text.take n0).length = n0 := by rw [List.length_take]; omega
 refine qEO Tryz.func18 Tryz.ntmps18 Tryz.results18 fun E hE => ?_
 refine den_drawX [(5, 6)] [] [[0, 1, 2, 3, 4, 5, 6, 7], [0, 1, 2, 3, 4, 6, 5, 7]] 22 hE (fun s => s.at [13, 14, 15, 16, 17, 18] [(5, .sc (.pt 30 0 0))] (s.hp ++ (w.b.hp true ++ [some ⟨[w.b.cs 23], 25, 41, true, false⟩]))) (by kernel_rfl) (qC) (by kernel_rfl) ?_ (run_den 400 ?_)
 rotate_left
 rotate_right
 simp only [allDn]
 refine ⟨runD_den 400 ?_, runD_den 400 ?_⟩
 ·simp (disch := omega) only [go_sem]
  refine qKD (hEA) (qA [0, 1, 2, 3, 4, 5, 6, 7, 8, 9, 10, 11, 12, 13, 14, 15, 16, 17, 18, 19, 20]) ?_
  refine ⟨qC, (qA [0, 1, 2, 3, 4, 5, 6, 7, 8, 9, 10, 11, 12, 13, 14, 15, 16, 17, 18, 19, 20, 21, 22, 23, 24, 25, 26, 27, 28, 29, 30]), weak_mkO (by rfl) (by rfl) ?_⟩
  try simp (disch := omega) only [go_sem, Nat.reduceEqDiff, Nat.reduceAdd, Nat.reduceSub, Int.reduceAdd, Int.reduceSub, Int.reduceToNat]
 ·simp (disch := omega) only [go_sem]
  refine qKD (hEA) (qA [0, 1, 2, 3, 4, 5, 6, 7, 8, 9, 10, 11, 12, 13, 14, 15, 16, 17, 18, 19, 20]) ?_
  refine ⟨qC, (qA [0, 1, 2, 3, 4, 5, 6, 7, 8, 9, 10, 11, 12, 13, 14, 15, 16, 17, 18, 19, 20, 21, 22, 24, 25, 26, 27, 28, 29, 30, 23]), weak_mkO (by rfl) (by rfl) ?_⟩
  try simp (disch := omega) only [go_sem, Nat.reduceEqDiff, Nat.reduceAdd, Nat.reduceSub, Int.reduceAdd, Int.reduceSub, Int.reduceToNat]
 refine qX ?_
 refine qK (hX2) (qA [23, 24, 25, 26, 27, 28, 29]) ?_
 refine qK (hX) (qA [23, 24, 25, 26, 27, 28, 29]) ?_
 refine qD [0, 1, 2, 3, 4, 5, 6, 7, 8, 9, 10, 11] ?_
 refine qG ?_
 refine qK (hset) (qA [0, 1, 2, 3, 4, 5, 6, 7, 8, 9, 10, 11, 12, 13, 14, 15, 16, 17, 18, 19, 20, 39, 40, 41, 42, 43, 44, 45, 21]) ?_
 refine qK (hpost) (qA [0, 1, 2, 3, 4, 5, 6, 39, 40, 41, 42, 43, 44, 45, 14, 15, 16, 17, 18, 19, 20, 21, 46]) ?_
 exact qFO (qA [0, 1, 2, 3, 4, 5, 6, 7, 8, 9, 10, 11, 12, 13, 14, 15, 16, 17, 18, 19, 20, 21, 0, 1, 2, 3, 4, 5, 6, 39, 40, 41, 42, 43, 44, 45, 47, 48, 49, 50, 51, 52, 53])
theorem impl_acts2_2 (w : WorldD) (pos many : Int) (text : List UInt8) (ad : AddrD) (le : LetterD) (hw : SmallD w) (htx : text.length ≤ 1048576) :
  CallA Tryz.prog 18 [.sc (.pt 21 0 0), .ag (ActD.cs ⟨2, 2, pos, many, text, ad, le⟩)] (w.hp true ++ [some ⟨[w.cs 0], 61, 47, true, false⟩]) (.sc (.int .i64 0))
  ([none, none, none, none, none, none, none, none, none, none, none, none, none, none, none, none, none, none, none, none, none, some ⟨[WorldD.cs (postL 2 { w with readB := w.readB ++ (readE w.b many).2, b := ((readE w.b many).1, ([] : List LetterD)).1 } ((readE w.b many).1, ([] : List LetterD)).2) 22], 61, 47, true, false⟩] ++ WorldD.hp (postL 2 { w with readB := w.readB ++ (readE w.b many).2, b := ((readE w.b many).1, ([] : List LetterD)).1 } ((readE w.b many).1, ([] : List LetterD)).2) true) := by
 have q1 := hw.s.wa
 have q2 := hw.s.wb
 have q3 := hw.s.ra
 have q4 := hw.s.rb
 have hX := impl_Read w.b many hw.p.s.b hw.p.pb
 have hsm := readE_small (m := many) hw.p.s.b
 have hEA : CallA Tryz.prog 38 [.ag (w.cs 0), .sc (.int .i64 2)] (w.hp false) (.ag (w.b.cs 21)) (w.hp false ++ w.b.hp true) := impl_EndAt w 2 hw.p.s.a.own hw.p.s.a.far hw.p.s.a.subs hw.p.s.a.halfs hw.p.s.a.list hw.p.s.a.done hw.p.s.a.over hw.p.s.b.own hw.p.s.b.far hw.p.s.b.subs hw.p.s.b.halfs hw.p.s.b.list hw.p.s.b.done hw.p.s.b.over
 obtain ⟨pr, hpr⟩ : ∃ p, p = readE w.b many := ⟨_, rfl⟩
 have hrl : (readE w.b many).2.length ≤ 1048576 := readE_len hw.p.pb
 rw [← hpr] at hX hsm hrl ⊢
 obtain ⟨e1, t1⟩ := pr
 dsimp only at hX hsm hrl ⊢
 obtain ⟨l1, hl1⟩ : ∃ l : List LetterD, l = [] := ⟨_, rfl⟩
 have hlen : l1.length ≤ 1 := by rw [hl1]; simp
 have hset := impl_set2 { w with readB := w.readB ++ t1 } e1
 have hpost := impl_post2 { w with readB := w.readB ++ t1, b := e1 } [] ⟨hw.p.s.bag, hw.p.s.past, hw.p.s.keys, hw.p.s.tags, hw.p.s.nums, hw.p.s.ansA, hw.p.s.ansB⟩ (by first | omega | simp)
 have hends := postL_ends (side := 2) (l := []) (w := { w with readB := w.readB ++ t1, b := e1 })
 obtain ⟨R, hR⟩ : ∃ R, R = postL 2 { w with readB := w.readB ++ t1, b := e1 } [] := ⟨_, rfl⟩
 rw [← hR] at hpost hends ⊢
 clear hR
 obtain ⟨ra, rb, bag, past, wA, wB, rA, rB, known, nums, nsA, nsB⟩ := R
 obtain ⟨keys, tags⟩ := known
 dsimp only at hends
 obtain ⟨g1, g2, g3, g4, g5, g6⟩ := hends
 replace g1 := g1.symm
 replace g2 := g2.symm
 replace g3 := g3.symm
 replace g4 := g4.symm
 replace g5 := g5.symm
 replace g6 := g6.symm
 subst g1 g2 g3 g4 g5 g6
 refine qEO Tryz.func18 Tryz.ntmps18 Tryz.results18 fun E hE => ?_
 refine den_drawX [(5, 6)] [] [[0, 1, 2, 3, 4, 5, 6, 7], [0, 1, 2, 3, 4, 6, 5, 7]] 22 hE (fun s => s.at [13, 14, 15, 16, 17, 18] [(5, .sc (.pt 30 0 0))] (s.hp ++ (w.b.hp true ++ [some ⟨[w.b.cs 23], 25, 41, true, false⟩]))) (by kernel_rfl) (qC) (by kernel_rfl) ?_ (run_den 400 ?_)
 rotate_left
 rotate_right
 simp only [allDn]
 refine ⟨runD_den 400 ?_, runD_den 400 ?_⟩
 ·simp (disch := omega) only [go_sem]
  refine qKD (hEA) (qA [0, 1, 2, 3, 4, 5, 6, 7, 8, 9, 10, 11, 12, 13, 14, 15, 16, 17, 18, 19, 20]) ?_
  refine ⟨qC, (qA [0, 1, 2, 3, 4, 5, 6, 7, 8, 9, 10, 11, 12, 13, 14, 15, 16, 17, 18, 19, 20, 21, 22, 23, 24, 25, 26, 27, 28, 29, 30]), weak_mkO (by rfl) (by rfl) ?_⟩
  try simp (disch := omega) only [go_sem, Nat.reduceEqDiff, Nat.reduceAdd, Nat.reduceSub, Int.reduceAdd, Int.reduceSub, Int.reduceToNat]
 ·simp (disch := omega) only [go_sem]
  refine qKD (hEA) (qA [0, 1, 2, 3, 4, 5, 6, 7, 8, 9, 10, 11, 12, 13, 14, 15, 16, 17, 18, 19, 20]) ?_
  refine ⟨qC, (qA [0, 1, 2, 3, 4, 5, 6, 7, 8, 9, 10, 11, 12, 13, 14, 15, 16, 17, 18, 19, 20, 21, 22, 24, 25, 26, 27, 28, 29, 30, 23]), weak_mkO (by rfl) (by rfl) ?_⟩
  try simp (disch := omega) only [go_sem, Nat.reduceEqDiff, Nat.reduceAdd, Nat.reduceSub, Int.reduceAdd, Int.reduceSub, Int.reduceToNat]
 refine qX ?_
 refine qK (hX) (qA [23, 24, 25, 26, 27, 28, 29]) ?_
 refine qK (hset) (qA [0, 1, 2, 3, 4, 5, 6, 7, 8, 9, 10, 11, 12, 13, 14, 15, 16, 17, 18, 19, 20, 31, 32, 33, 34, 35, 36, 37, 21]) ?_
 refine qK (hpost) [some (0, none), some (1, none), some (2, none), some (3, none), some (4, none), some (5, none), some (6, none), some (31, none), some (32, none), some (33, none), some (34, none), some (35, none), some (36, none), some (37, none), some (14, none), some (15, none), some (16, none), some (17, none), some (18, none), some (19, none), some (20, none), some (21, none), none] ?_
 exact qFO (qA [0, 1, 2, 3, 4, 5, 6, 7, 8, 9, 10, 11, 12, 13, 14, 15, 16, 17, 18, 19, 20, 21, 0, 1, 2, 3, 4, 5, 6, 31, 32, 33, 34, 35, 36, 37, 39, 40, 41, 42, 43, 44, 45])
theorem impl_acts4_2 (w : WorldD) (pos many : Int) (text : List UInt8) (ad : AddrD) (le : LetterD) (hw : SmallD w) (htx : text.length ≤ 1048576) :
  CallA Tryz.prog 18 [.sc (.pt 21 0 0), .ag (ActD.cs ⟨4, 2, pos, many, text, ad, le⟩)] (w.hp true ++ [some ⟨[w.cs 0], 61, 47, true, false⟩]) (.sc (.int .i64 0))
  ([none, none, none, none, none, none, none, none, none, none, none, none, none, none, none, none, none, none, none, none, none, some ⟨[WorldD.cs (postL 2 { w with b := (manage w.b).1 } (manage w.b).2) 22], 61, 47, true, false⟩] ++ WorldD.hp (postL 2 { w with b := (manage w.b).1 } (manage w.b).2) true) := by
 have q1 := hw.s.wa
 have q2 := hw.s.wb
 have q3 := hw.s.ra
 have q4 := hw.s.rb
 have hX := impl_Manage w.b hw.p.s.b
 have hsm := manage_small hw.p.s.b
 have hlen := manage_len w.b
 have hEA : CallA Tryz.prog 38 [.ag (w.cs 0), .sc (.int .i64 2)] (w.hp false) (.ag (w.b.cs 21)) (w.hp false ++ w.b.hp true) := impl_EndAt w 2 hw.p.s.a.own hw.p.s.a.far hw.p.s.a.subs hw.p.s.a.halfs hw.p.s.a.list hw.p.s.a.done hw.p.s.a.over hw.p.s.b.own hw.p.s.b.far hw.p.s.b.subs hw.p.s.b.halfs hw.p.s.b.list hw.p.s.b.done hw.p.s.b.over
 obtain ⟨pr, hpr⟩ : ∃ p, p = manage w.b := ⟨_, rfl⟩
 rw [← hpr] at hX hsm hlen ⊢
 obtain ⟨e1, l1⟩ := pr
 dsimp only at hX hsm hlen ⊢
 have hset := impl_set2 w e1
 have hpost := impl_post2 { w with b := e1 } l1 ⟨hw.p.s.bag, hw.p.s.past, hw.p.s.keys, hw.p.s.tags, hw.p.s.nums, hw.p.s.ansA, hw.p.s.ansB⟩ (by first | omega | simp)
 have hends := postL_ends (side := 2) (l := l1) (w := { w with b := e1 })
 obtain ⟨R, hR⟩ : ∃ R, R = postL 2 { w with b := e1 } l1 := ⟨_, rfl⟩
 rw [← hR] at hpost hends ⊢
 clear hR
 obtain ⟨ra, rb, bag, past, wA, wB, rA, rB, known, nums, nsA, nsB⟩ := R
 obtain ⟨keys, tags⟩ := known
 dsimp only at hends
 obtain ⟨g1, g2, g3, g4, g5, g6⟩ := hends
 replace g1 := g1.symm
 replace g2 := g2.symm
 replace g3 := g3.symm
 replace g4 := g4.symm
 replace g5 := g5.symm
 replace g6 := g6.symm
 subst g1 g2 g3 g4 g5 g6
 refine qEO Tryz.func18 Tryz.ntmps18 Tryz.results18 fun E hE => ?_
 refine den_drawX [(5, 6)] [] [[0, 1, 2, 3, 4, 5, 6, 7], [0, 1, 2, 3, 4, 6, 5, 7]] 22 hE (fun s => s.at [13, 14, 15, 16, 17, 18] [(5, .sc (.pt 30 0 0))] (s.hp ++ (w.b.hp true ++ [some ⟨[w.b.cs 23], 25, 41, true, false⟩]))) (by kernel_rfl) (qC) (by kernel_rfl) ?_ (run_den 400 ?_)
 rotate_left
 rotate_right
 simp only [allDn]
 refine ⟨runD_den 400 ?_, runD_den 400 ?_⟩
 ·simp (disch := omega) only [go_sem]
  refine qKD (hEA) (qA [0, 1, 2, 3, 4, 5, 6, 7, 8, 9, 10, 11, 12, 13, 14, 15, 16, 17, 18, 19, 20]) ?_
  refine ⟨qC, (qA [0, 1, 2, 3, 4, 5, 6, 7, 8, 9, 10, 11, 12, 13, 14, 15, 16, 17, 18, 19, 20, 21, 22, 23, 24, 25, 26, 27, 28, 29, 30]), weak_mkO (by rfl) (by rfl) ?_⟩
  try simp (disch := omega) only [go_sem, Nat.reduceEqDiff, Nat.reduceAdd, Nat.reduceSub, Int.reduceAdd, Int.reduceSub, Int.reduceToNat]
 ·simp (disch := omega) only [go_sem]
  refine qKD (hEA) (qA [0, 1, 2, 3, 4, 5, 6, 7, 8, 9, 10, 11, 12, 13, 14, 15, 16, 17, 18, 19, 20]) ?_
  refine ⟨qC, (qA [0, 1, 2, 3, 4, 5, 6, 7, 8, 9, 10, 11, 12, 13, 14, 15, 16, 17, 18, 19, 20, 21, 22, 24, 25, 26, 27, 28, 29, 30, 23]), weak_mkO (by rfl) (by rfl) ?_⟩
  try simp (disch := omega) only [go_sem, Nat.reduceEqDiff, Nat.reduceAdd, Nat.reduceSub, Int.reduceAdd, Int.reduceSub, Int.reduceToNat]
 refine qX ?_
 refine qK (hX) (qA [23, 24, 25, 26, 27, 28, 29]) ?_
 refine qK (hset) (qA [0, 1, 2, 3, 4, 5, 6, 7, 8, 9, 10, 11, 12, 13, 14, 15, 16, 17, 18, 19, 20, 31, 32, 33, 34, 35, 36, 37, 21]) ?_
 refine qK (hpost) (qA [0, 1, 2, 3, 4, 5, 6, 31, 32, 33, 34, 35, 36, 37, 14, 15, 16, 17, 18, 19, 20, 21, 38]) ?_
 exact qFO (qA [0, 1, 2, 3, 4, 5, 6, 7, 8, 9, 10, 11, 12, 13, 14, 15, 16, 17, 18, 19, 20, 21, 0, 1, 2, 3, 4, 5, 6, 31, 32, 33, 34, 35, 36, 37, 39, 40, 41, 42, 43, 44, 45])
theorem impl_acts5_2 (w : WorldD) (pos many : Int) (text : List UInt8) (ad : AddrD) (le : LetterD) (hw : SmallD w) (htx : text.length ≤ 1048576) (hsd : sideAt ad.addr = 2) (hgood : (addOwn w.b ad).2 = true) :
  CallA Tryz.prog 18 [.sc (.pt 21 0 0), .ag (ActD.cs ⟨5, 2, pos, many, text, ad, le⟩)] (w.hp true ++ [some ⟨[w.cs 0], 61, 47, true, false⟩]) (.sc (.int .i64 0))
  ([none, none, none, none, none, none, none, none, none, none, none, none, none, none, none, none, none, none, none, none, none, some ⟨[WorldD.cs (postL 2 { w with b := ((addOwn w.b ad).1, ([] : List LetterD)).1 } ((addOwn w.b ad).1, ([] : List LetterD)).2) 22], 61, 47, true, false⟩] ++ WorldD.hp (postL 2 { w with b := ((addOwn w.b ad).1, ([] : List LetterD)).1 } ((addOwn w.b ad).1, ([] : List LetterD)).2) true) := by
 have q1 := hw.s.wa
 have q2 := hw.s.wb
 have q3 := hw.s.ra
 have q4 := hw.s.rb
 have hX := impl_AddOwn w.b ad hw.p.s.b
 have hsm := addOwn_small (a := ad) hw.p.s.b
 have hEA : CallA Tryz.prog 38 [.ag (w.cs 0), .sc (.int .i64 2)] (w.hp false) (.ag (w.b.cs 21)) (w.hp false ++ w.b.hp true) := impl_EndAt w 2 hw.p.s.a.own hw.p.s.a.far hw.p.s.a.subs hw.p.s.a.halfs hw.p.s.a.list hw.p.s.a.done hw.p.s.a.over hw.p.s.b.own hw.p.s.b.far hw.p.s.b.subs hw.p.s.b.halfs hw.p.s.b.list hw.p.s.b.done hw.p.s.b.over
 obtain ⟨pr, hpr⟩ : ∃ p, p = addOwn w.b ad := ⟨_, rfl⟩
 rw [← hpr] at hX hsm hgood ⊢
 obtain ⟨e1, ok1⟩ := pr
 dsimp only at hX hsm hgood ⊢
 subst hgood
 obtain ⟨l1, hl1⟩ : ∃ l : List LetterD, l = [] := ⟨_, rfl⟩
 have hlen : l1.length ≤ 1 := by rw [hl1]; simp
 have hset := impl_set2 w e1
 have hpost := impl_post2 { w with b := e1 } [] ⟨hw.p.s.bag, hw.p.s.past, hw.p.s.keys, hw.p.s.tags, hw.p.s.nums, hw.p.s.ansA, hw.p.s.ansB⟩ (by first | omega | simp)
 have hends := postL_ends (side := 2) (l := []) (w := { w with b := e1 })
 obtain ⟨R, hR⟩ : ∃ R, R = postL 2 { w with b := e1 } [] := ⟨_, rfl⟩
 rw [← hR] at hpost hends ⊢
 clear hR
 obtain ⟨ra, rb, bag, past, wA, wB, rA, rB, known, nums, nsA, nsB⟩ := R
 obtain ⟨keys, tags⟩ := known
 dsimp only at hends
 obtain ⟨g1, g2, g3, g4, g5, g6⟩ := hends
 replace g1 := g1.symm
 replace g2 := g2.symm
 replace g3 := g3.symm
 replace g4 := g4.symm
 replace g5 := g5.symm
 replace g6 := g6.symm
 subst g1 g2 g3 g4 g5 g6
 have hSd := impl_SideAt ad.addr
 rw [hsd] at hSd
 refine qEO Tryz.func18 Tryz.ntmps18 Tryz.results18 fun E hE => ?_
 refine den_drawX [(5, 6)] [] [[0, 1, 2, 3, 4, 5, 6, 7], [0, 1, 2, 3, 4, 6, 5, 7]] 22 hE (fun s => s.at [13, 14, 15, 16, 17, 18] [(5, .sc (.pt 30 0 0))] (s.hp ++ (w.b.hp true ++ [some ⟨[w.b.cs 23], 25, 41, true, false⟩]))) (by kernel_rfl) (qC) (by kernel_rfl) ?_ (run_den 400 ?_)
 rotate_left
 rotate_right
 simp only [allDn]
 refine ⟨runD_den 400 ?_, runD_den 400 ?_⟩
 ·simp (disch := omega) only [go_sem]
  refine qKD (hEA) (qA [0, 1, 2, 3, 4, 5, 6, 7, 8, 9, 10, 11, 12, 13, 14, 15, 16, 17, 18, 19, 20]) ?_
  refine ⟨qC, (qA [0, 1, 2, 3, 4, 5, 6, 7, 8, 9, 10, 11, 12, 13, 14, 15, 16, 17, 18, 19, 20, 21, 22, 23, 24, 25, 26, 27, 28, 29, 30]), weak_mkO (by rfl) (by rfl) ?_⟩
  try simp (disch := omega) only [go_sem, Nat.reduceEqDiff, Nat.reduceAdd, Nat.reduceSub, Int.reduceAdd, Int.reduceSub, Int.reduceToNat]
 ·simp (disch := omega) only [go_sem]
  refine qKD (hEA) (qA [0, 1, 2, 3, 4, 5, 6, 7, 8, 9, 10, 11, 12, 13, 14, 15, 16, 17, 18, 19, 20]) ?_
  refine ⟨qC, (qA [0, 1, 2, 3, 4, 5, 6, 7, 8, 9, 10, 11, 12, 13, 14, 15, 16, 17, 18, 19, 20, 21, 22, 24, 25, 26, 27, 28, 29, 30, 23]), weak_mkO (by rfl) (by rfl) ?_⟩
  try simp (disch := omega) only [go_sem, Nat.reduceEqDiff, Nat.reduceAdd, Nat.reduceSub, Int.reduceAdd, Int.reduceSub, Int.reduceToNat]
 refine qX ?_
 refine qK (hX) (qA [23, 24, 25, 26, 27, 28, 29]) ?_
 refine qD [0, 1, 2, 4, 5, 3, 6, 7, 8, 9, 10] ?_
 refine qKD (hSd) [] ?_
 refine qG ?_
 refine qK (hset) (qA [0, 1, 2, 3, 4, 5, 6, 7, 8, 9, 10, 11, 12, 13, 14, 15, 16, 17, 18, 19, 20, 31, 32, 33, 34, 35, 36, 37, 21]) ?_
 refine qK (hpost) [some (0, none), some (1, none), some (2, none), some (3, none), some (4, none), some (5, none), some (6, none), some (31, none), some (32, none), some (33, none), some (34, none), some (35, none), some (36, none), some (37, none), some (14, none), some (15, none), some (16, none), some (17, none), some (18, none), some (19, none), some (20, none), some (21, none), none] ?_
 exact qFO (qA [0, 1, 2, 3, 4, 5, 6, 7, 8, 9, 10, 11, 12, 13, 14, 15, 16, 17, 18, 19, 20, 21, 0, 1, 2, 3, 4, 5, 6, 31, 32, 33, 34, 35, 36, 37, 39, 40, 41, 42, 43, 44, 45])
theorem impl_acts6_2 (w : WorldD) (pos many : Int) (text : List UInt8) (ad : AddrD) (le : LetterD) (hw : SmallD w) (htx : text.length ≤ 1048576) :
  CallA Tryz.prog 18 [.sc (.pt 21 0 0), .ag (ActD.cs ⟨6, 2, pos, many, text, ad, le⟩)] (w.hp true ++ [some ⟨[w.cs 0], 61, 47, true, false⟩]) (.sc (.int .i64 0))
  ([none, none, none, none, none, none, none, none, none, none, none, none, none, none, none, none, none, none, none, none, none, some ⟨[WorldD.cs (postL 2 { w with b := (dropOwn w.b pos).1 } (dropOwn w.b pos).2) 22], 61, 47, true, false⟩] ++ WorldD.hp (postL 2 { w with b := (dropOwn w.b pos).1 } (dropOwn w.b pos).2) true) := by
 have q1 := hw.s.wa
 have q2 := hw.s.wb
 have q3 := hw.s.ra
 have q4 := hw.s.rb
 have hX := impl_DropOwn w.b pos hw.p.s.b
 have hsm := dropOwn_small (n := pos) hw.p.s.b
 have hlen := dropOwn_len w.b pos hw.p.s.b
 have hEA : CallA Tryz.prog 38 [.ag (w.cs 0), .sc (.int .i64 2)] (w.hp false) (.ag (w.b.cs 21)) (w.hp false ++ w.b.hp true) := impl_EndAt w 2 hw.p.s.a.own hw.p.s.a.far hw.p.s.a.subs hw.p.s.a.halfs hw.p.s.a.list hw.p.s.a.done hw.p.s.a.over hw.p.s.b.own hw.p.s.b.far hw.p.s.b.subs hw.p.s.b.halfs hw.p.s.b.list hw.p.s.b.done hw.p.s.b.over
 obtain ⟨pr, hpr⟩ : ∃ p, p = dropOwn w.b pos := ⟨_, rfl⟩
 rw [← hpr] at hX hsm hlen ⊢
 obtain ⟨e1, l1⟩ := pr
 dsimp only at hX hsm hlen ⊢
 have hset := impl_set2 w e1
 have hpost := impl_post2 { w with b := e1 } l1 ⟨hw.p.s.bag, hw.p.s.past, hw.p.s.keys, hw.p.s.tags, hw.p.s.nums, hw.p.s.ansA, hw.p.s.ansB⟩ (by first | omega | simp)
 have hends := postL_ends (side := 2) (l := l1) (w := { w with b := e1 })
 obtain ⟨R, hR⟩ : ∃ R, R = postL 2 { w with b := e1 } l1 := ⟨_, rfl⟩
 rw [← hR] at hpost hends ⊢
 clear hR
 obtain ⟨ra, rb, bag, past, wA, wB, rA, rB, known, nums, nsA, nsB⟩ := R
 obtain ⟨keys, tags⟩ := known
 dsimp only at hends
 obtain ⟨g1, g2, g3, g4, g5, g6⟩ := hends
 replace g1 := g1.symm
 replace g2 := g2.symm
 replace g3 := g3.symm
 replace g4 := g4.symm
 replace g5 := g5.symm
 replace g6 := g6.symm
 subst g1 g2 g3 g4 g5 g6
 refine qEO Tryz.func18 Tryz.ntmps18 Tryz.results18 fun E hE => ?_
 refine den_drawX [(5, 6)] [] [[0, 1, 2, 3, 4, 5, 6, 7], [0, 1, 2, 3, 4, 6, 5, 7]] 22 hE (fun s => s.at [13, 14, 15, 16, 17, 18] [(5, .sc (.pt 30 0 0))] (s.hp ++ (w.b.hp true ++ [some ⟨[w.b.cs 23], 25, 41, true, false⟩]))) (by kernel_rfl) (qC) (by kernel_rfl) ?_ (run_den 400 ?_)
 rotate_left
 rotate_right
 simp only [allDn]
 refine ⟨runD_den 400 ?_, runD_den 400 ?_⟩
 ·simp (disch := omega) only [go_sem]
  refine qKD (hEA) (qA [0, 1, 2, 3, 4, 5, 6, 7, 8, 9, 10, 11, 12, 13, 14, 15, 16, 17, 18, 19, 20]) ?_
  refine ⟨qC, (qA [0, 1, 2, 3, 4, 5, 6, 7, 8, 9, 10, 11, 12, 13, 14, 15, 16, 17, 18, 19, 20, 21, 22, 23, 24, 25, 26, 27, 28, 29, 30]), weak_mkO (by rfl) (by rfl) ?_⟩
  try simp (disch := omega) only [go_sem, Nat.reduceEqDiff, Nat.reduceAdd, Nat.reduceSub, Int.reduceAdd, Int.reduceSub, Int.reduceToNat]
 ·simp (disch := omega) only [go_sem]
  refine qKD (hEA) (qA [0, 1, 2, 3, 4, 5, 6, 7, 8, 9, 10, 11, 12, 13, 14, 15, 16, 17, 18, 19, 20]) ?_
  refine ⟨qC, (qA [0, 1, 2, 3, 4, 5, 6, 7, 8, 9, 10, 11, 12, 13, 14, 15, 16, 17, 18, 19, 20, 21, 22, 24, 25, 26, 27, 28, 29, 30, 23]), weak_mkO (by rfl) (by rfl) ?_⟩
  try simp (disch := omega) only [go_sem, Nat.reduceEqDiff, Nat.reduceAdd, Nat.reduceSub, Int.reduceAdd, Int.reduceSub, Int.reduceToNat]
 refine qX ?_
 refine qK (hX) (qA [23, 24, 25, 26, 27, 28, 29]) ?_
 refine qK (hset) (qA [0, 1, 2, 3, 4, 5, 6, 7, 8, 9, 10, 11, 12, 13, 14, 15, 16, 17, 18, 19, 20, 31, 32, 33, 34, 35, 36, 37, 21]) ?_
 refine qK (hpost) (qA [0, 1, 2, 3, 4, 5, 6, 31, 32, 33, 34, 35, 36, 37, 14, 15, 16, 17, 18, 19, 20, 21, 38]) ?_
 exact qFO (qA [0, 1, 2, 3, 4, 5, 6, 7, 8, 9, 10, 11, 12, 13, 14, 15, 16, 17, 18, 19, 20, 21, 0, 1, 2, 3, 4, 5, 6, 31, 32, 33, 34, 35, 36, 37, 39, 40, 41, 42, 43, 44, 45])
theorem impl_acts7_2 (w : WorldD) (pos many : Int) (text : List UInt8) (ad : AddrD) (le : LetterD) (hw : SmallD w) (htx : text.length ≤ 1048576) :
  CallA Tryz.prog 18 [.sc (.pt 21 0 0), .ag (ActD.cs ⟨7, 2, pos, many, text, ad, le⟩)] (w.hp true ++ [some ⟨[w.cs 0], 61, 47, true, false⟩]) (.sc (.int .i64 0))
  ([none, none, none, none, none, none, none, none, none, none, none, none, none, none, none, none, none, none, none, none, none, some ⟨[WorldD.cs (postL 2 { w with b := (resetE w.b pos).1 } (resetE w.b pos).2) 22], 61, 47, true, false⟩] ++ WorldD.hp (postL 2 { w with b := (resetE w.b pos).1 } (resetE w.b pos).2) true) := by
 have q1 := hw.s.wa
 have q2 := hw.s.wb
 have q3 := hw.s.ra
 have q4 := hw.s.rb
 have hX := impl_Reset w.b pos hw.p.s.b
 have hsm := resetE_small (k := pos) hw.p.s.b
 have hlen := resetE_len w.b pos
 have hEA : CallA Tryz.prog 38 [.ag (w.cs 0), .sc (.int .i64 2)] (w.hp false) (.ag (w.b.cs 21)) (w.hp false ++ w.b.hp true) := impl_EndAt w 2 hw.p.s.a.own hw.p.s.a.far hw.p.s.a.subs hw.p.s.a.halfs hw.p.s.a.list hw.p.s.a.done hw.p.s.a.over hw.p.s.b.own hw.p.s.b.far hw.p.s.b.subs hw.p.s.b.halfs hw.p.s.b.list hw.p.s.b.done hw.p.s.b.over
 obtain ⟨pr, hpr⟩ : ∃ p, p = resetE w.b pos := ⟨_, rfl⟩
 rw [← hpr] at hX hsm hlen ⊢
 obtain ⟨e1, l1⟩ := pr
 dsimp only at hX hsm hlen ⊢
 have hset := impl_set2 w e1
 have hpost := impl_post2 { w with b := e1 } l1 ⟨hw.p.s.bag, hw.p.s.past, hw.p.s.keys, hw.p.s.tags, hw.p.s.nums, hw.p.s.ansA, hw.p.s.ansB⟩ (by first | omega | simp)
 have hends := postL_ends (side := 2) (l := l1) (w := { w with b := e1 })
 obtain ⟨R, hR⟩ : ∃ R, R = postL 2 { w with b := e1 } l1 := ⟨_, rfl⟩
 rw [← hR] at hpost hends ⊢
 clear hR
 obtain ⟨ra, rb, bag, past, wA, wB, rA, rB, known, nums, nsA, nsB⟩ := R
 obtain ⟨keys, tags⟩ := known
 dsimp only at hends
 obtain ⟨g1, g2, g3, g4, g5, g6⟩ := hends
 replace g1 := g1.symm
 replace g2 := g2.symm
 replace g3 := g3.symm
 replace g4 := g4.symm
 replace g5 := g5.symm
 replace g6 := g6.symm
 subst g1 g2 g3 g4 g5 g6
 refine qEO Tryz.func18 Tryz.ntmps18 Tryz.results18 fun E hE => ?_
 refine den_drawX [(5, 6)] [] [[0, 1, 2, 3, 4, 5, 6, 7], [0, 1, 2, 3, 4, 6, 5, 7]] 22 hE (fun s => s.at [13, 14, 15, 16, 17, 18] [(5, .sc (.pt 30 0 0))] (s.hp ++ (w.b.hp true ++ [some ⟨[w.b.cs 23], 25, 41, true, false⟩]))) (by kernel_rfl) (qC) (by kernel_rfl) ?_ (run_den 400 ?_)
 rotate_left
 rotate_right
 simp only [allDn]
 refine ⟨runD_den 400 ?_, runD_den 400 ?_⟩
 ·simp (disch := omega) only [go_sem]
  refine qKD (hEA) (qA [0, 1, 2, 3, 4, 5, 6, 7, 8, 9, 10, 11, 12, 13, 14, 15, 16, 17, 18, 19, 20]) ?_
  refine ⟨qC, (qA [0, 1, 2, 3, 4, 5, 6, 7, 8, 9, 10, 11, 12, 13, 14, 15, 16, 17, 18, 19, 20, 21, 22, 23, 24, 25, 26, 27, 28, 29, 30]), weak_mkO (by rfl) (by rfl) ?_⟩
  try simp (disch := omega) only [go_sem, Nat.reduceEqDiff, Nat.reduceAdd, Nat.reduceSub, Int.reduceAdd, Int.reduceSub, Int.reduceToNat]
 ·simp (disch := omega) only [go_sem]
  refine qKD (hEA) (qA [0, 1, 2, 3, 4, 5, 6, 7, 8, 9, 10, 11, 12, 13, 14, 15, 16, 17, 18, 19, 20]) ?_
  refine ⟨qC, (qA [0, 1, 2, 3, 4, 5, 6, 7, 8, 9, 10, 11, 12, 13, 14, 15, 16, 17, 18, 19, 20, 21, 22, 24, 25, 26, 27, 28, 29, 30, 23]), weak_mkO (by rfl) (by rfl) ?_⟩
  try simp (disch := omega) only [go_sem, Nat.reduceEqDiff, Nat.reduceAdd, Nat.reduceSub, Int.reduceAdd, Int.reduceSub, Int.reduceToNat]
 refine qX ?_
 refine qK (hX) (qA [23, 24, 25, 26, 27, 28, 29]) ?_
 refine qK (hset) (qA [0, 1, 2, 3, 4, 5, 6, 7, 8, 9, 10, 11, 12, 13, 14, 15, 16, 17, 18, 19, 20, 31, 32, 33, 34, 35, 36, 37, 21]) ?_
 refine qK (hpost) (qA [0, 1, 2, 3, 4, 5, 6, 31, 32, 33, 34, 35, 36, 37, 14, 15, 16, 17, 18, 19, 20, 21, 38]) ?_
 exact qFO (qA [0, 1, 2, 3, 4, 5, 6, 7, 8, 9, 10, 11, 12, 13, 14, 15, 16, 17, 18, 19, 20, 21, 0, 1, 2, 3, 4, 5, 6, 31, 32, 33, 34, 35, 36, 37, 39, 40, 41, 42, 43, 44, 45])
end
section
open Go.RowKit

end
section
open Go.RowKit

theorem GoodE.io {e e' : EndD} (h : GoodE e) (hs : Small e') (hi : e'.inp = e.inp) (ho : e'.out.text = e.out.text) : GoodE e' := ⟨hs, by rw [hi]; exact h.p, by rw [ho]; exact h.o⟩
theorem pushN_good {k : Nat} {e : EndD} (h : GoodE e) : GoodE (pushN k e).1 := h.io (pushN_small h.s) pushN_inp pushN_text
theorem write_inp (e : EndD) (t : List UInt8) : (write e t).1.inp = e.inp := by rw [write]; split <;> rfl
theorem writeAll_good {e : EndD} {t : List UInt8} (h : GoodE e) : GoodE (writeAll e t).1 := by
 rw [writeAll]
 exact pushN_good ⟨write_small h.s, by rw [write_inp]; exact h.p, write_text h.o⟩
theorem take_small {p : PiecesD} {m : Int} (h : SmallP p) : SmallP (takeReady p m).1 := by
 rw [takeReady]; split
 ·exact ⟨h.list, by have := h.ready; simp only [List.length_drop]; omega, h.texts⟩
 ·exact h
theorem readE_good {e : EndD} {m : Int} (h : GoodE e) : GoodE (readE e m).1 := by
 have hs := readE_small (m := m) h.s
 rw [readE] at hs ⊢; split at hs
 ·rename_i hk; rw [if_pos hk]; exact ⟨hs, take_small h.p, h.o⟩
 ·rename_i hk; rw [if_neg hk]; exact h
theorem anew_text (o : OutD) : (anew o).text = o.text := by rw [anew]; split <;> rfl
theorem tick_good {e : EndD} (h : GoodE e) : GoodE (tick e).1 := by
 have hs := tick_small h.s
 refine h.io hs ?_ ?_
 ·rw [tick]; split
  ·split
   ·rw [tickEnd]; exact pushN_inp
   ·rw [tickEnd]; exact pushN_inp
  ·rfl
 ·rw [tick]; split
  ·split
   ·rw [tickEnd]; exact pushN_text.trans (anew_text _)
   ·rw [tickEnd]; exact pushN_text.trans (anew_text _)
  ·rfl
theorem join_io (e : EndD) (r : RoadD) (b : Bool) : (join e r b).1.inp = e.inp ∧ (join e r b).1.out = e.out := by rw [join]; split <;> exact ⟨rfl, rfl⟩
theorem manGo_io {far : List AddrD} : ∀ {l : List RoadD} {e : EndD}, (manGo far e l).1.inp = e.inp ∧ (manGo far e l).1.out = e.out
 | [], e => ⟨rfl, rfl⟩
 | r :: l, e => by
  have h1 := join_io e r (spareOf far r.far)
  have h2 := manGo_io (far := far) (l := l) (e := (join e r (spareOf far r.far)).1)
  exact ⟨h2.1.trans h1.1, h2.2.trans h1.2⟩
theorem manage_good {e : EndD} (h : GoodE e) : GoodE (manage e).1 := by
 have hs := manage_small h.s
 have hio : (manage e).1.inp = e.inp ∧ (manage e).1.out = e.out := by
  rw [manage]; split
  ·exact manGo_io
  ·exact ⟨rfl, rfl⟩
 exact h.io hs hio.1 (by rw [hio.2])
theorem addOwn_good {e : EndD} {a : AddrD} (h : GoodE e) : GoodE (addOwn e a).1 := by
 refine h.io (addOwn_small h.s) ?_ ?_ <;> (rw [addOwn]; split <;> rfl)
theorem resetE_good {e : EndD} {k : Int} (h : GoodE e) : GoodE (resetE e k).1 := by
 refine h.io (resetE_small h.s) ?_ ?_ <;> (rw [resetE]; split <;> rfl)
theorem dropOwn_good {e : EndD} {n : Int} (h : GoodE e) : GoodE (dropOwn e n).1 := by
 refine h.io (dropOwn_small h.s) ?_ ?_ <;> (rw [dropOwn]; split <;> rfl)
theorem actE_good {e : EndD} {a : ActD} (h : GoodE e) : GoodE (actE e a).1 := by
 rw [actE]
 split
 ·exact writeAll_good h
 split
 ·exact readE_good h
 split
 ·exact tick_good h
 split
 ·exact manage_good h
 split
 ·exact addOwn_good h
 split
 ·exact dropOwn_good h
 ·exact resetE_good h
structure GoodW (w : WorldD) (k : Nat) : Prop where
 a : GoodE w.a
 b : GoodE w.b
 r : SmallP2 w
 wa : w.wroteA.length ≤ 2000000 * k
 wb : w.wroteB.length ≤ 2000000 * k
 ra : w.readA.length ≤ 2000000 * k
 rb : w.readB.length ≤ 2000000 * k
theorem GoodW.s {w : WorldD} {k : Nat} (h : GoodW w k) : SmallW w := ⟨h.a.s, h.b.s, h.r.bag, h.r.past, h.r.keys, h.r.tags, h.r.nums, h.r.ansA, h.r.ansB⟩
theorem GoodW.d {w : WorldD} {k : Nat} (h : GoodW w k) (hk : k ≤ 1000) : SmallD w :=
 ⟨⟨h.s, h.a.p, h.b.p⟩, ⟨by have := h.wa; omega, by have := h.wb; omega, by have := h.ra; omega, by have := h.rb; omega⟩, h.a.o, h.b.o⟩
theorem GoodW.up {w : WorldD} {k : Nat} (h : GoodW w k) : GoodW w (k + 1) := ⟨h.a, h.b, h.r, by have := h.wa; omega, by have := h.wb; omega, by have := h.ra; omega, by have := h.rb; omega⟩
theorem postL_ends2 {side : Int} : ∀ {l : List LetterD} {w : WorldD}, (postL side w l).a = w.a ∧ (postL side w l).b = w.b ∧ (postL side w l).wroteA = w.wroteA ∧ (postL side w l).wroteB = w.wroteB ∧ (postL side w l).readA = w.readA ∧ (postL side w l).readB = w.readB
 | [], w => ⟨rfl, rfl, rfl, rfl, rfl, rfl⟩
 | x :: l, w => by
  obtain ⟨h1, h2, h3, h4, h5, h6⟩ := postL_ends2 (side := side) (l := l) (w := post1 side w x)
  obtain ⟨g1, g2, g3, g4, g5, g6⟩ := post1_ends (side := side) (w := w) (x := x)
  exact ⟨h1.trans g1, h2.trans g2, h3.trans g3, h4.trans g4, h5.trans g5, h6.trans g6⟩
theorem postL_good {side : Int} {l : List LetterD} {w : WorldD} {k : Nat} (h : GoodW w k) : GoodW (postL side w l) k := by
 obtain ⟨h1, h2, h3, h4, h5, h6⟩ := postL_ends2 (side := side) (l := l) (w := w)
 exact ⟨by rw [h1]; exact h.a, by rw [h2]; exact h.b, postL_small h.r, by rw [h3]; exact h.wa, by rw [h4]; exact h.wb, by rw [h5]; exact h.ra, by rw [h6]; exact h.rb⟩
theorem setEnd_good {w : WorldD} {s : Int} {e : EndD} {k : Nat} (h : GoodW w k) (he : GoodE e) : GoodW (setEnd w s e) k := by
 unfold setEnd; split
 ·exact ⟨he, h.b, ⟨h.r.bag, h.r.past, h.r.keys, h.r.tags, h.r.nums, h.r.ansA, h.r.ansB⟩, h.wa, h.wb, h.ra, h.rb⟩
 ·exact ⟨h.a, he, ⟨h.r.bag, h.r.past, h.r.keys, h.r.tags, h.r.nums, h.r.ansA, h.r.ansB⟩, h.wa, h.wb, h.ra, h.rb⟩
theorem endZero_good : GoodE endZero := ⟨⟨by decide, by decide, by decide, by decide, by decide, by decide, by decide⟩, ⟨by decide, by decide, fun x hx => by simp [endZero] at hx⟩, by decide⟩
theorem endAt_good {w : WorldD} {s : Int} {k : Nat} (h : GoodW w k) : GoodE (endAt w s) := by
 unfold endAt; repeat' split
 ·exact h.a
 ·exact h.b
 ·exact endZero_good
theorem posted_good {side : Int} {l : List LetterD} {w : WorldD} {k : Nat} (h : GoodW w k) : GoodW (posted w side l) k := by
 rw [posted]; split
 ·exact postL_good h
 ·exact h
theorem lands_good {w : WorldD} {x : LetterD} {k : Nat} (h : GoodW w k) : GoodW (lands w x) k := by
 rw [lands]; split
 ·exact h
 ·exact posted_good (setEnd_good h (hear_good (endAt_good h)))
theorem bag_good {w : WorldD} {b : List LetterD} {k : Nat} (h : GoodW w k) (hb : b.length ≤ 1048576) : GoodW { w with bag := b } k :=
 ⟨h.a, h.b, ⟨hb, h.r.past, h.r.keys, h.r.tags, h.r.nums, h.r.ansA, h.r.ansB⟩, h.wa, h.wb, h.ra, h.rb⟩
theorem bagOut_le2 (l : List LetterD) (n : Int) (h : l.length ≤ 1048576) : (bagOut l n).length ≤ 1048576 := by
 simp only [bagOut, List.length_append, List.length_take, List.length_drop]; omega
theorem actW_good {w : WorldD} {a : ActD} {k : Nat} (h : GoodW w k) (ha : a.text.length ≤ 1048576) : GoodW (actW w a) (k + 1) := by
 have hr := readE_len (m := a.many) (endAt_good (s := a.side) h).p
 have h1 := h.wa
 have h2 := h.wb
 have h3 := h.ra
 have h4 := h.rb
 have hu := h.up
 unfold actW wrote gotRead; repeat' split
 ·exact ⟨h.a, h.b, ⟨h.r.bag, h.r.past, h.r.keys, h.r.tags, h.r.nums, h.r.ansA, h.r.ansB⟩, by simp only [List.length_append, List.length_take]; omega, hu.wb, hu.ra, hu.rb⟩
 ·exact ⟨h.a, h.b, ⟨h.r.bag, h.r.past, h.r.keys, h.r.tags, h.r.nums, h.r.ansA, h.r.ansB⟩, hu.wa, by simp only [List.length_append, List.length_take]; omega, hu.ra, hu.rb⟩
 ·exact ⟨h.a, h.b, ⟨h.r.bag, h.r.past, h.r.keys, h.r.tags, h.r.nums, h.r.ansA, h.r.ansB⟩, hu.wa, hu.wb, by simp only [List.length_append]; omega, hu.rb⟩
 ·exact ⟨h.a, h.b, ⟨h.r.bag, h.r.past, h.r.keys, h.r.tags, h.r.nums, h.r.ansA, h.r.ansB⟩, hu.wa, hu.wb, hu.ra, by simp only [List.length_append]; omega⟩
 ·exact hu
theorem doneW_good {w : WorldD} {a : ActD} {k : Nat} (h : GoodW w k) (ha : a.text.length ≤ 1048576) : GoodW (doneW w a).1 (k + 1) := by
 have hb := bagOut_le2 w.bag a.pos h.r.bag
 have hl := h.r.bag
 unfold doneW; split
 ·split
  ·unfold acts; split
   ·exact h.up
   ·exact postL_good (setEnd_good (actW_good h ha) (actE_good (endAt_good h)))
  ·unfold moves; repeat' split
   all_goals first
    | exact h.up
    | exact (lands_good (bag_good h hb)).up
    | exact (bag_good h hb).up
    | exact (bag_good h (by simp only [List.length_append, List.length_singleton]; omega)).up
 ·exact h.up
end
section
open Go.RowKit

def FewE (e : EndD) : Prop := e.subs.length ≤ 100 ∧ e.far.length ≤ 100
def FewW (w : WorldD) : Prop := FewE w.a ∧ FewE w.b
end
section
open Go.RowKit

theorem leAt_get {l : List LetterD} {p : Nat} (h : p < l.length) : leAtN l (Int.toNat (p : Int)) = l[p] := by simp [leAtN, h]
theorem bagOut_eq (l : List LetterD) (p : Nat) : bagOut l (p : Int) = l.take p ++ l.drop (p + 1) := rfl
theorem bagOut_len {l : List LetterD} {p : Nat} (h : p < l.length) : (bagOut l (p : Int)).length = l.length - 1 := by
 rw [bagOut_eq, List.length_append, List.length_take, List.length_drop]; omega
theorem mv8_f {w : WorldD} {s m : Int} {p : Nat} {t : List UInt8} {ad : AddrD} {le : LetterD} (h : ¬ p < w.bag.length) : moves w ⟨8, s, (p : Nat), m, t, ad, le⟩ = (w, 1) := by
 unfold moves; dsimp only; rw [if_pos (.inl rfl), if_pos (by omega)]
theorem mv8_t {w : WorldD} {s m : Int} {p : Nat} {t : List UInt8} {ad : AddrD} {le : LetterD} (h : p < w.bag.length) : moves w ⟨8, s, (p : Nat), m, t, ad, le⟩ = (lands { w with bag := bagOut w.bag (p : Nat) } w.bag[p], 0) := by
 unfold moves; dsimp only; rw [if_pos (.inl rfl), if_neg (by omega), if_pos rfl, leAt_get h]
theorem mv9_f {w : WorldD} {s m : Int} {p : Nat} {t : List UInt8} {ad : AddrD} {le : LetterD} (h : ¬ p < w.bag.length) : moves w ⟨9, s, (p : Nat), m, t, ad, le⟩ = (w, 1) := by
 unfold moves; dsimp only; rw [if_pos (.inr rfl), if_pos (by omega)]
theorem mv9_t {w : WorldD} {s m : Int} {p : Nat} {t : List UInt8} {ad : AddrD} {le : LetterD} (h : p < w.bag.length) : moves w ⟨9, s, (p : Nat), m, t, ad, le⟩ = ({ w with bag := bagOut w.bag (p : Nat) }, 0) := by
 unfold moves; dsimp only; rw [if_pos (.inr rfl), if_neg (by omega), if_neg (by omega)]
theorem mv10_f {w : WorldD} {s m : Int} {p : Nat} {t : List UInt8} {ad : AddrD} {le : LetterD} (h : ¬ p < w.bag.length ∨ 40 ≤ w.bag.length) : moves w ⟨10, s, (p : Nat), m, t, ad, le⟩ = (w, 1) := by
 unfold moves; dsimp only; rw [if_neg (by omega), if_pos rfl, if_pos (by omega)]
theorem mv10_t {w : WorldD} {s m : Int} {p : Nat} {t : List UInt8} {ad : AddrD} {le : LetterD} (h : p < w.bag.length) (h2 : ¬ 40 ≤ w.bag.length) : moves w ⟨10, s, (p : Nat), m, t, ad, le⟩ = ({ w with bag := w.bag ++ [w.bag[p]] }, 0) := by
 unfold moves; dsimp only; rw [if_neg (by omega), if_pos rfl, if_neg (by omega), leAt_get h]
theorem mv11_f {w : WorldD} {s m p : Int} {t : List UInt8} {ad : AddrD} {le : LetterD} (h : mayInject w le = false) : moves w ⟨11, s, p, m, t, ad, le⟩ = (w, 2) := by
 unfold moves; dsimp only; rw [if_neg (by omega), if_neg (by omega), if_pos rfl, if_pos h]
theorem mv11_b {w : WorldD} {s m p : Int} {t : List UInt8} {ad : AddrD} {le : LetterD} (h : mayInject w le = true) (h2 : 40 ≤ w.bag.length) : moves w ⟨11, s, p, m, t, ad, le⟩ = (w, 1) := by
 unfold moves; dsimp only; rw [if_neg (by omega), if_neg (by omega), if_pos rfl, if_neg (by simp [h]), if_pos h2]
theorem mv11_t {w : WorldD} {s m p : Int} {t : List UInt8} {ad : AddrD} {le : LetterD} (h : mayInject w le = true) (h2 : ¬ 40 ≤ w.bag.length) : moves w ⟨11, s, p, m, t, ad, le⟩ = ({ w with bag := w.bag ++ [le] }, 0) := by
 unfold moves; dsimp only; rw [if_neg (by omega), if_neg (by omega), if_pos rfl, if_neg (by simp [h]), if_neg h2]
theorem mv12_f {w : WorldD} {s m : Int} {p : Nat} {t : List UInt8} {ad : AddrD} {le : LetterD} (h : ¬ p < w.past.length) : moves w ⟨12, s, (p : Nat), m, t, ad, le⟩ = (w, 1) := by
 unfold moves; dsimp only; rw [if_neg (by omega), if_neg (by omega), if_neg (by omega), if_pos (.inl (by omega))]
theorem mv12_b {w : WorldD} {s m : Int} {p : Nat} {t : List UInt8} {ad : AddrD} {le : LetterD} (h : p < w.past.length) (h2 : sideAt w.past[p].to = 0 ∨ 40 ≤ w.bag.length) : moves w ⟨12, s, (p : Nat), m, t, ad, le⟩ = (w, 1) := by
 unfold moves; dsimp only; rw [if_neg (by omega), if_neg (by omega), if_neg (by omega), leAt_get h, if_pos (.inr h2)]
theorem mv12_t {w : WorldD} {s m : Int} {p : Nat} {t : List UInt8} {ad : AddrD} {le : LetterD} (h : p < w.past.length) (h1 : ¬ sideAt w.past[p].to = 0) (h2 : ¬ 40 ≤ w.bag.length) : moves w ⟨12, s, (p : Nat), m, t, ad, le⟩ = ({ w with bag := w.bag ++ [w.past[p]] }, 0) := by
 unfold moves; dsimp only; rw [if_neg (by omega), if_neg (by omega), if_neg (by omega), leAt_get h, if_neg (by omega)]
theorem impl_moves8 (w : WorldD) (side many : Int) (p : Nat) (text : List UInt8) (ad : AddrD) (le : LetterD) (hw : SmallD w) :
  CallA Tryz.prog 19 [.sc (.pt 21 0 0), .ag (ActD.cs ⟨8, side, (p : Nat), many, text, ad, le⟩)] (w.hp true ++ [some ⟨[w.cs 0], 61, 47, true, false⟩]) (.sc (.int .i64 (moves w ⟨8, side, (p : Nat), many, text, ad, le⟩).2))
  ([none, none, none, none, none, none, none, none, none, none, none, none, none, none, none, none, none, none, none, none, none, some ⟨[WorldD.cs (moves w ⟨8, side, (p : Nat), many, text, ad, le⟩).1 22], 61, 47, true, false⟩] ++ WorldD.hp (moves w ⟨8, side, (p : Nat), many, text, ad, le⟩).1 true) := by
 have hbag := hw.p.s.bag
 have hpast := hw.p.s.past
 obtain ⟨R, hR⟩ : ∃ R, R = moves w ⟨8, side, (p : Nat), many, text, ad, le⟩ := ⟨_, rfl⟩
 rw [← hR]
 by_cases hp : p < w.bag.length
 ·rw [mv8_t hp] at hR
  obtain ⟨B, hBe⟩ : ∃ B, B = bagOut w.bag (p : Nat) := ⟨_, rfl⟩
  have e2 : p + (w.bag.length - (p + 1)) = B.length := by rw [hBe, bagOut_len hp]; omega
  have e1 : (w.bag.take p).map LetterD.cs ++ ((w.bag.map LetterD.cs).drop (p + 1)).take (w.bag.length - (p + 1)) = B.map LetterD.cs := by rw [hBe]; exact (del_cells hp).2
  have hB : B.length ≤ 1048576 := by omega
  have hlt : (w.bag.take p).length = p := by simp; omega
  have hlt2 : (List.take p (List.map LetterD.cs w.bag)).length = p := by simp; omega
  have hC := impl_copyLetters (w.bag.take p) (by omega)
  rw [hlt] at hC
  have hx := map_get (enc := LetterD.cs) hp
  rw [← hBe] at hR
  clear hBe
  generalize hxx : w.bag[p] = x at *
  have hL := impl_Lands { w with bag := B } x ⟨⟨hw.p.s.a, hw.p.s.b, hB, hw.p.s.past, hw.p.s.keys, hw.p.s.tags, hw.p.s.nums, hw.p.s.ansA, hw.p.s.ansB⟩, hw.p.pa, hw.p.pb⟩
  obtain ⟨L, hLe⟩ : ∃ L, L = lands { w with bag := B } x := ⟨_, rfl⟩
  rw [← hLe] at hL hR
  clear hLe
  subst hR
  dsimp only
  refine callA_ofO Tryz.func19 (by kernel_rfl) rfl fun E hE => run_den 400 ?_
  simp (disch := omega) only [Tryz.ntmps19, Tryz.results19, go_sem, Nat.reduceEqDiff, Nat.reduceAdd, Nat.reduceSub, Int.reduceAdd, Int.reduceSub, Int.reduceToNat]
  refine den_draw1 [0, 1, 2, 3, 4, 5, 6, 7, 8] (by kernel_rfl) (by (try simp (disch := omega) only [go_sem, List.length_set, Nat.reduceEqDiff, Nat.reduceAdd, Nat.reduceSub, Int.reduceAdd, Int.reduceSub, Int.reduceToNat]) <;> omega) (by kernel_rfl) (runD_den 400 ?_)
  simp (disch := omega) only [go_sem, Nat.reduceEqDiff, Nat.reduceAdd, Nat.reduceSub, Int.reduceAdd, Int.reduceSub, Int.reduceToNat]
  refine ⟨by (try simp (disch := omega) only [go_sem, List.length_set, Nat.reduceEqDiff, Nat.reduceAdd, Nat.reduceSub, Int.reduceAdd, Int.reduceSub, Int.reduceToNat]) <;> omega, run_den 400 ?_⟩
  try simp (disch := omega) only [go_sem, Nat.reduceEqDiff, Nat.reduceAdd, Nat.reduceSub, Int.reduceAdd, Int.reduceSub, Int.reduceToNat]
  refine den_draw1 [0, 1, 2, 3, 4, 5, 6, 7, 8, 9] (by kernel_rfl) (by (try simp (disch := omega) only [go_sem, List.length_set, Nat.reduceEqDiff, Nat.reduceAdd, Nat.reduceSub, Int.reduceAdd, Int.reduceSub, Int.reduceToNat]) <;> omega) (by kernel_rfl) (runD_den 400 ?_)
  simp (disch := omega) only [go_sem, Nat.reduceEqDiff, Nat.reduceAdd, Nat.reduceSub, Int.reduceAdd, Int.reduceSub, Int.reduceToNat]
  refine ⟨by (try simp (disch := omega) only [go_sem, List.length_set, Nat.reduceEqDiff, Nat.reduceAdd, Nat.reduceSub, Int.reduceAdd, Int.reduceSub, Int.reduceToNat]) <;> omega, run_den 400 ?_⟩
  try simp (disch := omega) only [go_sem, Nat.reduceEqDiff, Nat.reduceAdd, Nat.reduceSub, Int.reduceAdd, Int.reduceSub, Int.reduceToNat, hx, hxx]
  refine den_draw1 [0, 1, 2, 3, 4, 5, 6, 7, 9, 10, 11, 12, 13, 14, 15, 16, 8, 17, 18, 19, 20] (by kernel_rfl) (by (try simp (disch := omega) only [go_sem, List.length_set, Nat.reduceEqDiff, Nat.reduceAdd, Nat.reduceSub, Int.reduceAdd, Int.reduceSub, Int.reduceToNat]) <;> omega) (by kernel_rfl) (runD_den 400 ?_)
  simp (disch := omega) only [go_sem, Nat.reduceEqDiff, Nat.reduceAdd, Nat.reduceSub, Int.reduceAdd, Int.reduceSub, Int.reduceToNat]
  refine den_callD (by (try simp (disch := omega) only [go_sem, List.length_set, Nat.reduceEqDiff, Nat.reduceAdd, Nat.reduceSub, Int.reduceAdd, Int.reduceSub, Int.reduceToNat]) <;> omega) (hC) [some (14, some 0)] (by simp only [go_sem]; repeat' first | rfl | constructor | (rw [List.map_set]; rfl) | (simp [List.map_take, List.map_drop] <;> omega)) (by rfl) (by rfl) (runD_den 400 ?_)
  simp (disch := omega) only [go_sem, Nat.reduceEqDiff, Nat.reduceAdd, Nat.reduceSub, Int.reduceAdd, Int.reduceSub, Int.reduceToNat]
  refine ⟨by (try simp (disch := omega) only [go_sem, List.length_set, Nat.reduceEqDiff, Nat.reduceAdd, Nat.reduceSub, Int.reduceAdd, Int.reduceSub, Int.reduceToNat]) <;> omega, run_den 400 ?_⟩
  try simp (disch := omega) only [go_sem, Nat.reduceEqDiff, Nat.reduceAdd, Nat.reduceSub, Int.reduceAdd, Int.reduceSub, Int.reduceToNat, e1, e2]
  refine den_draw1 [0, 1, 2, 3, 4, 5, 6, 7] (by kernel_rfl) (by (try simp (disch := omega) only [go_sem, List.length_set, Nat.reduceEqDiff, Nat.reduceAdd, Nat.reduceSub, Int.reduceAdd, Int.reduceSub, Int.reduceToNat]) <;> omega) (by kernel_rfl) (runD_den 400 ?_)
  simp (disch := omega) only [go_sem, Nat.reduceEqDiff, Nat.reduceAdd, Nat.reduceSub, Int.reduceAdd, Int.reduceSub, Int.reduceToNat]
  refine den_callD (by (try simp (disch := omega) only [go_sem, List.length_set, Nat.reduceEqDiff, Nat.reduceAdd, Nat.reduceSub, Int.reduceAdd, Int.reduceSub, Int.reduceToNat]) <;> omega) (hL) [some (0, none), some (1, none), some (2, none), some (3, none), some (4, none), some (5, none), some (6, none), some (7, none), some (8, none), some (9, none), some (10, none), some (11, none), some (12, none), some (13, none), some (25, none), some (15, none), some (16, none), some (17, none), some (18, none), some (19, none), some (20, none)] (by simp only [go_sem]; repeat' first | rfl | constructor | (rw [List.map_set]; rfl) | (simp [List.map_take, List.map_drop] <;> omega)) (by rfl) (by rfl) (runD_den 400 ?_)
  simp (disch := omega) only [go_sem, Nat.reduceEqDiff, Nat.reduceAdd, Nat.reduceSub, Int.reduceAdd, Int.reduceSub, Int.reduceToNat]
  refine ⟨by (try simp (disch := omega) only [go_sem, List.length_set, Nat.reduceEqDiff, Nat.reduceAdd, Nat.reduceSub, Int.reduceAdd, Int.reduceSub, Int.reduceToNat]) <;> omega, run_den 400 ?_⟩
  try simp (disch := omega) only [go_sem, Nat.reduceEqDiff, Nat.reduceAdd, Nat.reduceSub, Int.reduceAdd, Int.reduceSub, Int.reduceToNat]
  refine den_finO [some (0, none), some (1, none), some (2, none), some (3, none), some (4, none), some (5, none), some (6, none), some (7, none), some (8, none), some (9, none), some (10, none), some (11, none), some (12, none), some (13, none), some (14, none), some (15, none), some (16, none), some (17, none), some (18, none), some (19, none), some (20, none), some (21, none), some (26, none), some (27, none), some (28, none), some (29, none), some (30, none), some (31, none), some (32, none), some (33, none), some (34, none), some (35, none), some (36, none), some (37, none), some (38, none), some (39, none), some (40, none), some (41, none), some (42, none), some (43, none), some (44, none), some (45, none), some (46, none)] (by (try simp (disch := omega) only [go_sem, List.length_set, Nat.reduceEqDiff, Nat.reduceAdd, Nat.reduceSub, Int.reduceAdd, Int.reduceSub, Int.reduceToNat]) <;> omega) _ (by simp only [go_sem]; rfl) (by rfl) (by rfl) ?_
  simp (disch := omega) only [go_sem, Nat.reduceEqDiff, Nat.reduceAdd, Nat.reduceSub, Int.reduceAdd, Int.reduceSub, Int.reduceToNat]
 ·rw [mv8_f hp] at hR
  subst hR
  dsimp only
  refine callA_ofO Tryz.func19 (by kernel_rfl) rfl fun E hE => run_den 400 ?_
  simp (disch := omega) only [Tryz.ntmps19, Tryz.results19, go_sem, Nat.reduceEqDiff, Nat.reduceAdd, Nat.reduceSub, Int.reduceAdd, Int.reduceSub, Int.reduceToNat]
  refine den_draw1 [0, 1, 2, 3, 4, 5, 6, 7, 8] (by kernel_rfl) (by (try simp (disch := omega) only [go_sem, List.length_set, Nat.reduceEqDiff, Nat.reduceAdd, Nat.reduceSub, Int.reduceAdd, Int.reduceSub, Int.reduceToNat]) <;> omega) (by kernel_rfl) (runD_den 400 ?_)
  simp (disch := omega) only [go_sem, Nat.reduceEqDiff, Nat.reduceAdd, Nat.reduceSub, Int.reduceAdd, Int.reduceSub, Int.reduceToNat]
  refine ⟨by (try simp (disch := omega) only [go_sem, List.length_set, Nat.reduceEqDiff, Nat.reduceAdd, Nat.reduceSub, Int.reduceAdd, Int.reduceSub, Int.reduceToNat]) <;> omega, run_den 400 ?_⟩
  try simp (disch := omega) only [go_sem, Nat.reduceEqDiff, Nat.reduceAdd, Nat.reduceSub, Int.reduceAdd, Int.reduceSub, Int.reduceToNat]
  refine den_finO [some (0, none), some (1, none), some (2, none), some (3, none), some (4, none), some (5, none), some (6, none), some (7, none), some (8, none), some (9, none), some (10, none), some (11, none), some (12, none), some (13, none), some (14, none), some (15, none), some (16, none), some (17, none), some (18, none), some (19, none), some (20, none), some (21, none), some (0, none), some (1, none), some (2, none), some (3, none), some (4, none), some (5, none), some (6, none), some (7, none), some (8, none), some (9, none), some (10, none), some (11, none), some (12, none), some (13, none), some (14, none), some (15, none), some (16, none), some (17, none), some (18, none), some (19, none), some (20, none)] (by (try simp (disch := omega) only [go_sem, List.length_set, Nat.reduceEqDiff, Nat.reduceAdd, Nat.reduceSub, Int.reduceAdd, Int.reduceSub, Int.reduceToNat]) <;> omega) _ (by simp only [go_sem]; rfl) (by rfl) (by rfl) ?_
  simp (disch := omega) only [go_sem, Nat.reduceEqDiff, Nat.reduceAdd, Nat.reduceSub, Int.reduceAdd, Int.reduceSub, Int.reduceToNat]
theorem impl_moves9 (w : WorldD) (side many : Int) (p : Nat) (text : List UInt8) (ad : AddrD) (le : LetterD) (hw : SmallD w) :
  CallA Tryz.prog 19 [.sc (.pt 21 0 0), .ag (ActD.cs ⟨9, side, (p : Nat), many, text, ad, le⟩)] (w.hp true ++ [some ⟨[w.cs 0], 61, 47, true, false⟩]) (.sc (.int .i64 (moves w ⟨9, side, (p : Nat), many, text, ad, le⟩).2))
  ([none, none, none, none, none, none, none, none, none, none, none, none, none, none, none, none, none, none, none, none, none, some ⟨[WorldD.cs (moves w ⟨9, side, (p : Nat), many, text, ad, le⟩).1 22], 61, 47, true, false⟩] ++ WorldD.hp (moves w ⟨9, side, (p : Nat), many, text, ad, le⟩).1 true) := by
 have hbag := hw.p.s.bag
 have hpast := hw.p.s.past
 obtain ⟨R, hR⟩ : ∃ R, R = moves w ⟨9, side, (p : Nat), many, text, ad, le⟩ := ⟨_, rfl⟩
 rw [← hR]
 by_cases hp : p < w.bag.length
 ·rw [mv9_t hp] at hR
  obtain ⟨B, hBe⟩ : ∃ B, B = bagOut w.bag (p : Nat) := ⟨_, rfl⟩
  have e2 : p + (w.bag.length - (p + 1)) = B.length := by rw [hBe, bagOut_len hp]; omega
  have e1 : (w.bag.take p).map LetterD.cs ++ ((w.bag.map LetterD.cs).drop (p + 1)).take (w.bag.length - (p + 1)) = B.map LetterD.cs := by rw [hBe]; exact (del_cells hp).2
  have hB : B.length ≤ 1048576 := by omega
  have hlt : (w.bag.take p).length = p := by simp; omega
  have hlt2 : (List.take p (List.map LetterD.cs w.bag)).length = p := by simp; omega
  have hC := impl_copyLetters (w.bag.take p) (by omega)
  rw [hlt] at hC
  have hx := map_get (enc := LetterD.cs) hp
  rw [← hBe] at hR
  clear hBe
  generalize hxx : w.bag[p] = x at *
  subst hR
  dsimp only
  refine callA_ofO Tryz.func19 (by kernel_rfl) rfl fun E hE => run_den 400 ?_
  simp (disch := omega) only [Tryz.ntmps19, Tryz.results19, go_sem, Nat.reduceEqDiff, Nat.reduceAdd, Nat.reduceSub, Int.reduceAdd, Int.reduceSub, Int.reduceToNat]
  refine den_draw1 [0, 1, 2, 3, 4, 5, 6, 7, 8] (by kernel_rfl) (by (try simp (disch := omega) only [go_sem, List.length_set, Nat.reduceEqDiff, Nat.reduceAdd, Nat.reduceSub, Int.reduceAdd, Int.reduceSub, Int.reduceToNat]) <;> omega) (by kernel_rfl) (runD_den 400 ?_)
  simp (disch := omega) only [go_sem, Nat.reduceEqDiff, Nat.reduceAdd, Nat.reduceSub, Int.reduceAdd, Int.reduceSub, Int.reduceToNat]
  refine ⟨by (try simp (disch := omega) only [go_sem, List.length_set, Nat.reduceEqDiff, Nat.reduceAdd, Nat.reduceSub, Int.reduceAdd, Int.reduceSub, Int.reduceToNat]) <;> omega, run_den 400 ?_⟩
  try simp (disch := omega) only [go_sem, Nat.reduceEqDiff, Nat.reduceAdd, Nat.reduceSub, Int.reduceAdd, Int.reduceSub, Int.reduceToNat]
  refine den_draw1 [0, 1, 2, 3, 4, 5, 6, 7, 8, 9] (by kernel_rfl) (by (try simp (disch := omega) only [go_sem, List.length_set, Nat.reduceEqDiff, Nat.reduceAdd, Nat.reduceSub, Int.reduceAdd, Int.reduceSub, Int.reduceToNat]) <;> omega) (by kernel_rfl) (runD_den 400 ?_)
  simp (disch := omega) only [go_sem, Nat.reduceEqDiff, Nat.reduceAdd, Nat.reduceSub, Int.reduceAdd, Int.reduceSub, Int.reduceToNat]
  refine ⟨by (try simp (disch := omega) only [go_sem, List.length_set, Nat.reduceEqDiff, Nat.reduceAdd, Nat.reduceSub, Int.reduceAdd, Int.reduceSub, Int.reduceToNat]) <;> omega, run_den 400 ?_⟩
  try simp (disch := omega) only [go_sem, Nat.reduceEqDiff, Nat.reduceAdd, Nat.reduceSub, Int.reduceAdd, Int.reduceSub, Int.reduceToNat, hx, hxx]
  refine den_draw1 [0, 1, 2, 3, 4, 5, 6, 7, 9, 10, 11, 12, 13, 14, 15, 16, 8, 17, 18, 19, 20] (by kernel_rfl) (by (try simp (disch := omega) only [go_sem, List.length_set, Nat.reduceEqDiff, Nat.reduceAdd, Nat.reduceSub, Int.reduceAdd, Int.reduceSub, Int.reduceToNat]) <;> omega) (by kernel_rfl) (runD_den 400 ?_)
  simp (disch := omega) only [go_sem, Nat.reduceEqDiff, Nat.reduceAdd, Nat.reduceSub, Int.reduceAdd, Int.reduceSub, Int.reduceToNat]
  refine den_callD (by (try simp (disch := omega) only [go_sem, List.length_set, Nat.reduceEqDiff, Nat.reduceAdd, Nat.reduceSub, Int.reduceAdd, Int.reduceSub, Int.reduceToNat]) <;> omega) (hC) [some (14, some 0)] (by simp only [go_sem]; repeat' first | rfl | constructor | (rw [List.map_set]; rfl) | (simp [List.map_take, List.map_drop] <;> omega)) (by rfl) (by rfl) (runD_den 400 ?_)
  simp (disch := omega) only [go_sem, Nat.reduceEqDiff, Nat.reduceAdd, Nat.reduceSub, Int.reduceAdd, Int.reduceSub, Int.reduceToNat]
  refine ⟨by (try simp (disch := omega) only [go_sem, List.length_set, Nat.reduceEqDiff, Nat.reduceAdd, Nat.reduceSub, Int.reduceAdd, Int.reduceSub, Int.reduceToNat]) <;> omega, run_den 400 ?_⟩
  try simp (disch := omega) only [go_sem, Nat.reduceEqDiff, Nat.reduceAdd, Nat.reduceSub, Int.reduceAdd, Int.reduceSub, Int.reduceToNat, e1, e2]
  refine den_finO [some (0, none), some (1, none), some (2, none), some (3, none), some (4, none), some (5, none), some (6, none), some (7, none), some (8, none), some (9, none), some (10, none), some (11, none), some (12, none), some (13, none), some (14, none), some (15, none), some (16, none), some (17, none), some (18, none), some (19, none), some (20, none), some (21, none), some (0, none), some (1, none), some (2, none), some (3, none), some (4, none), some (5, none), some (6, none), some (7, none), some (8, none), some (9, none), some (10, none), some (11, none), some (12, none), some (13, none), some (25, none), some (15, none), some (16, none), some (17, none), some (18, none), some (19, none), some (20, none)] (by (try simp (disch := omega) only [go_sem, List.length_set, Nat.reduceEqDiff, Nat.reduceAdd, Nat.reduceSub, Int.reduceAdd, Int.reduceSub, Int.reduceToNat]) <;> omega) _ (by simp only [go_sem]; rfl) (by rfl) (by rfl) ?_
  simp (disch := omega) only [go_sem, Nat.reduceEqDiff, Nat.reduceAdd, Nat.reduceSub, Int.reduceAdd, Int.reduceSub, Int.reduceToNat]
 ·rw [mv9_f hp] at hR
  subst hR
  dsimp only
  refine callA_ofO Tryz.func19 (by kernel_rfl) rfl fun E hE => run_den 400 ?_
  simp (disch := omega) only [Tryz.ntmps19, Tryz.results19, go_sem, Nat.reduceEqDiff, Nat.reduceAdd, Nat.reduceSub, Int.reduceAdd, Int.reduceSub, Int.reduceToNat]
  refine den_draw1 [0, 1, 2, 3, 4, 5, 6, 7, 8] (by kernel_rfl) (by (try simp (disch := omega) only [go_sem, List.length_set, Nat.reduceEqDiff, Nat.reduceAdd, Nat.reduceSub, Int.reduceAdd, Int.reduceSub, Int.reduceToNat]) <;> omega) (by kernel_rfl) (runD_den 400 ?_)
  simp (disch := omega) only [go_sem, Nat.reduceEqDiff, Nat.reduceAdd, Nat.reduceSub, Int.reduceAdd, Int.reduceSub, Int.reduceToNat]
  refine ⟨by (try simp (disch := omega) only [go_sem, List.length_set, Nat.reduceEqDiff, Nat.reduceAdd, Nat.reduceSub, Int.reduceAdd, Int.reduceSub, Int.reduceToNat]) <;> omega, run_den 400 ?_⟩
  try simp (disch := omega) only [go_sem, Nat.reduceEqDiff, Nat.reduceAdd, Nat.reduceSub, Int.reduceAdd, Int.reduceSub, Int.reduceToNat]
  refine den_finO [some (0, none), some (1, none), some (2, none), some (3, none), some (4, none), some (5, none), some (6, none), some (7, none), some (8, none), some (9, none), some (10, none), some (11, none), some (12, none), some (13, none), some (14, none), some (15, none), some (16, none), some (17, none), some (18, none), some (19, none), some (20, none), some (21, none), some (0, none), some (1, none), some (2, none), some (3, none), some (4, none), some (5, none), some (6, none), some (7, none), some (8, none), some (9, none), some (10, none), some (11, none), some (12, none), some (13, none), some (14, none), some (15, none), some (16, none), some (17, none), some (18, none), some (19, none), some (20, none)] (by (try simp (disch := omega) only [go_sem, List.length_set, Nat.reduceEqDiff, Nat.reduceAdd, Nat.reduceSub, Int.reduceAdd, Int.reduceSub, Int.reduceToNat]) <;> omega) _ (by simp only [go_sem]; rfl) (by rfl) (by rfl) ?_
  simp (disch := omega) only [go_sem, Nat.reduceEqDiff, Nat.reduceAdd, Nat.reduceSub, Int.reduceAdd, Int.reduceSub, Int.reduceToNat]
theorem impl_moves10 (w : WorldD) (side many : Int) (p : Nat) (text : List UInt8) (ad : AddrD) (le : LetterD) (hw : SmallD w) :
  CallA Tryz.prog 19 [.sc (.pt 21 0 0), .ag (ActD.cs ⟨10, side, (p : Nat), many, text, ad, le⟩)] (w.hp true ++ [some ⟨[w.cs 0], 61, 47, true, false⟩]) (.sc (.int .i64 (moves w ⟨10, side, (p : Nat), many, text, ad, le⟩).2))
  ([none, none, none, none, none, none, none, none, none, none, none, none, none, none, none, none, none, none, none, none, none, some ⟨[WorldD.cs (moves w ⟨10, side, (p : Nat), many, text, ad, le⟩).1 22], 61, 47, true, false⟩] ++ WorldD.hp (moves w ⟨10, side, (p : Nat), many, text, ad, le⟩).1 true) := by
 have hbag := hw.p.s.bag
 have hpast := hw.p.s.past
 obtain ⟨R, hR⟩ : ∃ R, R = moves w ⟨10, side, (p : Nat), many, text, ad, le⟩ := ⟨_, rfl⟩
 rw [← hR]
 by_cases hp : p < w.bag.length ∧ ¬ 40 ≤ w.bag.length
 ·obtain ⟨hp, h4⟩ := hp
  rw [mv10_t hp h4] at hR
  have hx := map_get (enc := LetterD.cs) hp
  generalize hxx : w.bag[p] = x at *
  subst hR
  dsimp only
  refine callA_ofO Tryz.func19 (by kernel_rfl) rfl fun E hE => run_den 400 ?_
  simp (disch := omega) only [Tryz.ntmps19, Tryz.results19, go_sem, Nat.reduceEqDiff, Nat.reduceAdd, Nat.reduceSub, Int.reduceAdd, Int.reduceSub, Int.reduceToNat]
  refine den_draw1 [0, 1, 2, 3, 4, 5, 6, 7, 8] (by kernel_rfl) (by (try simp (disch := omega) only [go_sem, List.length_set, Nat.reduceEqDiff, Nat.reduceAdd, Nat.reduceSub, Int.reduceAdd, Int.reduceSub, Int.reduceToNat]) <;> omega) (by kernel_rfl) (runD_den 400 ?_)
  simp (disch := omega) only [go_sem, Nat.reduceEqDiff, Nat.reduceAdd, Nat.reduceSub, Int.reduceAdd, Int.reduceSub, Int.reduceToNat]
  refine ⟨by (try simp (disch := omega) only [go_sem, List.length_set, Nat.reduceEqDiff, Nat.reduceAdd, Nat.reduceSub, Int.reduceAdd, Int.reduceSub, Int.reduceToNat]) <;> omega, run_den 400 ?_⟩
  try simp (disch := omega) only [go_sem, Nat.reduceEqDiff, Nat.reduceAdd, Nat.reduceSub, Int.reduceAdd, Int.reduceSub, Int.reduceToNat]
  refine den_draw1 [0, 1, 2, 3, 4, 5, 6, 7, 8, 9, 10, 11, 12, 13, 14, 15, 16, 17] (by kernel_rfl) (by (try simp (disch := omega) only [go_sem, List.length_set, Nat.reduceEqDiff, Nat.reduceAdd, Nat.reduceSub, Int.reduceAdd, Int.reduceSub, Int.reduceToNat]) <;> omega) (by kernel_rfl) (runD_den 400 ?_)
  simp (disch := omega) only [go_sem, Nat.reduceEqDiff, Nat.reduceAdd, Nat.reduceSub, Int.reduceAdd, Int.reduceSub, Int.reduceToNat]
  refine ⟨by (try simp (disch := omega) only [go_sem, List.length_set, Nat.reduceEqDiff, Nat.reduceAdd, Nat.reduceSub, Int.reduceAdd, Int.reduceSub, Int.reduceToNat]) <;> omega, run_den 400 ?_⟩
  try simp (disch := omega) only [go_sem, Nat.reduceEqDiff, Nat.reduceAdd, Nat.reduceSub, Int.reduceAdd, Int.reduceSub, Int.reduceToNat, hx, hxx]
  refine den_finO [some (0, none), some (1, none), some (2, none), some (3, none), some (4, none), some (5, none), some (6, none), some (7, none), some (8, none), some (9, none), some (10, none), some (11, none), some (12, none), some (13, none), some (14, none), some (15, none), some (16, none), some (17, none), some (18, none), some (19, none), some (20, none), some (21, none), some (0, none), some (1, none), some (2, none), some (3, none), some (4, none), some (5, none), some (6, none), some (7, none), some (8, none), some (9, none), some (10, none), some (11, none), some (12, none), some (13, none), some (24, none), some (15, none), some (16, none), some (17, none), some (18, none), some (19, none), some (20, none)] (by (try simp (disch := omega) only [go_sem, List.length_set, Nat.reduceEqDiff, Nat.reduceAdd, Nat.reduceSub, Int.reduceAdd, Int.reduceSub, Int.reduceToNat]) <;> omega) _ (by simp only [go_sem]; rfl) (by rfl) (by rfl) ?_
  simp (disch := omega) only [go_sem, Nat.reduceEqDiff, Nat.reduceAdd, Nat.reduceSub, Int.reduceAdd, Int.reduceSub, Int.reduceToNat]
  simp [LetterD.cs]
 ·rw [mv10_f (by omega)] at hR
  subst hR
  dsimp only
  by_cases hq : p < w.bag.length
  ·have h4 : 40 ≤ w.bag.length := by omega
   refine callA_ofO Tryz.func19 (by kernel_rfl) rfl fun E hE => run_den 400 ?_
   simp (disch := omega) only [Tryz.ntmps19, Tryz.results19, go_sem, Nat.reduceEqDiff, Nat.reduceAdd, Nat.reduceSub, Int.reduceAdd, Int.reduceSub, Int.reduceToNat]
   refine den_draw1 [0, 1, 2, 3, 4, 5, 6, 7, 8] (by kernel_rfl) (by (try simp (disch := omega) only [go_sem, List.length_set, Nat.reduceEqDiff, Nat.reduceAdd, Nat.reduceSub, Int.reduceAdd, Int.reduceSub, Int.reduceToNat]) <;> omega) (by kernel_rfl) (runD_den 400 ?_)
   simp (disch := omega) only [go_sem, Nat.reduceEqDiff, Nat.reduceAdd, Nat.reduceSub, Int.reduceAdd, Int.reduceSub, Int.reduceToNat]
   refine ⟨by (try simp (disch := omega) only [go_sem, List.length_set, Nat.reduceEqDiff, Nat.reduceAdd, Nat.reduceSub, Int.reduceAdd, Int.reduceSub, Int.reduceToNat]) <;> omega, run_den 400 ?_⟩
   try simp (disch := omega) only [go_sem, Nat.reduceEqDiff, Nat.reduceAdd, Nat.reduceSub, Int.reduceAdd, Int.reduceSub, Int.reduceToNat]
   refine den_finO [some (0, none), some (1, none), some (2, none), some (3, none), some (4, none), some (5, none), some (6, none), some (7, none), some (8, none), some (9, none), some (10, none), some (11, none), some (12, none), some (13, none), some (14, none), some (15, none), some (16, none), some (17, none), some (18, none), some (19, none), some (20, none), some (21, none), some (0, none), some (1, none), some (2, none), some (3, none), some (4, none), some (5, none), some (6, none), some (7, none), some (8, none), some (9, none), some (10, none), some (11, none), some (12, none), some (13, none), some (14, none), some (15, none), some (16, none), some (17, none), some (18, none), some (19, none), some (20, none)] (by (try simp (disch := omega) only [go_sem, List.length_set, Nat.reduceEqDiff, Nat.reduceAdd, Nat.reduceSub, Int.reduceAdd, Int.reduceSub, Int.reduceToNat]) <;> omega) _ (by simp only [go_sem]; rfl) (by rfl) (by rfl) ?_
   simp (disch := omega) only [go_sem, Nat.reduceEqDiff, Nat.reduceAdd, Nat.reduceSub, Int.reduceAdd, Int.reduceSub, Int.reduceToNat]
  ·refine callA_ofO Tryz.func19 (by kernel_rfl) rfl fun E hE => run_den 400 ?_
   simp (disch := omega) only [Tryz.ntmps19, Tryz.results19, go_sem, Nat.reduceEqDiff, Nat.reduceAdd, Nat.reduceSub, Int.reduceAdd, Int.reduceSub, Int.reduceToNat]
   refine den_draw1 [0, 1, 2, 3, 4, 5, 6, 7, 8] (by kernel_rfl) (by (try simp (disch := omega) only [go_sem, List.length_set, Nat.reduceEqDiff, Nat.reduceAdd, Nat.reduceSub, Int.reduceAdd, Int.reduceSub, Int.reduceToNat]) <;> omega) (by kernel_rfl) (runD_den 400 ?_)
   simp (disch := omega) only [go_sem, Nat.reduceEqDiff, Nat.reduceAdd, Nat.reduceSub, Int.reduceAdd, Int.reduceSub, Int.reduceToNat]
   refine ⟨by (try simp (disch := omega) only [go_sem, List.length_set, Nat.reduceEqDiff, Nat.reduceAdd, Nat.reduceSub, Int.reduceAdd, Int.reduceSub, Int.reduceToNat]) <;> omega, run_den 400 ?_⟩
   try simp (disch := omega) only [go_sem, Nat.reduceEqDiff, Nat.reduceAdd, Nat.reduceSub, Int.reduceAdd, Int.reduceSub, Int.reduceToNat]
   refine den_finO [some (0, none), some (1, none), some (2, none), some (3, none), some (4, none), some (5, none), some (6, none), some (7, none), some (8, none), some (9, none), some (10, none), some (11, none), some (12, none), some (13, none), some (14, none), some (15, none), some (16, none), some (17, none), some (18, none), some (19, none), some (20, none), some (21, none), some (0, none), some (1, none), some (2, none), some (3, none), some (4, none), some (5, none), some (6, none), some (7, none), some (8, none), some (9, none), some (10, none), some (11, none), some (12, none), some (13, none), some (14, none), some (15, none), some (16, none), some (17, none), some (18, none), some (19, none), some (20, none)] (by (try simp (disch := omega) only [go_sem, List.length_set, Nat.reduceEqDiff, Nat.reduceAdd, Nat.reduceSub, Int.reduceAdd, Int.reduceSub, Int.reduceToNat]) <;> omega) _ (by simp only [go_sem]; rfl) (by rfl) (by rfl) ?_
   simp (disch := omega) only [go_sem, Nat.reduceEqDiff, Nat.reduceAdd, Nat.reduceSub, Int.reduceAdd, Int.reduceSub, Int.reduceToNat]
theorem impl_moves11 (w : WorldD) (side many : Int) (p : Int) (text : List UInt8) (ad : AddrD) (le : LetterD) (hw : SmallD w) :
  CallA Tryz.prog 19 [.sc (.pt 21 0 0), .ag (ActD.cs ⟨11, side, p, many, text, ad, le⟩)] (w.hp true ++ [some ⟨[w.cs 0], 61, 47, true, false⟩]) (.sc (.int .i64 (moves w ⟨11, side, p, many, text, ad, le⟩).2))
  ([none, none, none, none, none, none, none, none, none, none, none, none, none, none, none, none, none, none, none, none, none, some ⟨[WorldD.cs (moves w ⟨11, side, p, many, text, ad, le⟩).1 22], 61, 47, true, false⟩] ++ WorldD.hp (moves w ⟨11, side, p, many, text, ad, le⟩).1 true) := by
 have hbag := hw.p.s.bag
 have hpast := hw.p.s.past
 obtain ⟨R, hR⟩ : ∃ R, R = moves w ⟨11, side, p, many, text, ad, le⟩ := ⟨_, rfl⟩
 rw [← hR]
 cases hm : mayInject w le with
 | false =>
  rw [mv11_f hm] at hR
  subst hR
  dsimp only
  have hM := impl_MayInject w le hw.p.s.keys hw.p.s.tags hw.p.s.nums
  rw [hm] at hM
  refine callA_ofO Tryz.func19 (by kernel_rfl) rfl fun E hE => run_den 400 ?_
  simp (disch := omega) only [Tryz.ntmps19, Tryz.results19, go_sem, Nat.reduceEqDiff, Nat.reduceAdd, Nat.reduceSub, Int.reduceAdd, Int.reduceSub, Int.reduceToNat]
  refine den_draw1 [0, 1, 2, 3, 4, 5, 6, 7, 8] (by kernel_rfl) (by (try simp (disch := omega) only [go_sem, List.length_set, Nat.reduceEqDiff, Nat.reduceAdd, Nat.reduceSub, Int.reduceAdd, Int.reduceSub, Int.reduceToNat]) <;> omega) (by kernel_rfl) (runD_den 400 ?_)
  simp (disch := omega) only [go_sem, Nat.reduceEqDiff, Nat.reduceAdd, Nat.reduceSub, Int.reduceAdd, Int.reduceSub, Int.reduceToNat]
  refine ⟨by (try simp (disch := omega) only [go_sem, List.length_set, Nat.reduceEqDiff, Nat.reduceAdd, Nat.reduceSub, Int.reduceAdd, Int.reduceSub, Int.reduceToNat]) <;> omega, run_den 400 ?_⟩
  try simp (disch := omega) only [go_sem, Nat.reduceEqDiff, Nat.reduceAdd, Nat.reduceSub, Int.reduceAdd, Int.reduceSub, Int.reduceToNat]
  refine den_draw1 [0, 1, 2, 3, 4, 5, 6] (by kernel_rfl) (by (try simp (disch := omega) only [go_sem, List.length_set, Nat.reduceEqDiff, Nat.reduceAdd, Nat.reduceSub, Int.reduceAdd, Int.reduceSub, Int.reduceToNat]) <;> omega) (by kernel_rfl) (runD_den 400 ?_)
  simp (disch := omega) only [go_sem, Nat.reduceEqDiff, Nat.reduceAdd, Nat.reduceSub, Int.reduceAdd, Int.reduceSub, Int.reduceToNat]
  refine den_callD (by (try simp (disch := omega) only [go_sem, List.length_set, Nat.reduceEqDiff, Nat.reduceAdd, Nat.reduceSub, Int.reduceAdd, Int.reduceSub, Int.reduceToNat]) <;> omega) (hM) [some (0, none), some (1, none), some (2, none), some (3, none), some (4, none), some (5, none), some (6, none), some (7, none), some (8, none), some (9, none), some (10, none), some (11, none), some (12, none), some (13, none), some (14, none), some (15, none), some (16, none), some (17, none), some (18, none), some (19, none), some (20, none)] (by simp only [go_sem]; repeat' first | rfl | constructor | (rw [List.map_set]; rfl) | (simp [List.map_take, List.map_drop] <;> omega)) (by rfl) (by rfl) (runD_den 400 ?_)
  simp (disch := omega) only [go_sem, Nat.reduceEqDiff, Nat.reduceAdd, Nat.reduceSub, Int.reduceAdd, Int.reduceSub, Int.reduceToNat]
  refine ⟨by (try simp (disch := omega) only [go_sem, List.length_set, Nat.reduceEqDiff, Nat.reduceAdd, Nat.reduceSub, Int.reduceAdd, Int.reduceSub, Int.reduceToNat]) <;> omega, run_den 400 ?_⟩
  try simp (disch := omega) only [go_sem, Nat.reduceEqDiff, Nat.reduceAdd, Nat.reduceSub, Int.reduceAdd, Int.reduceSub, Int.reduceToNat]
  refine den_finO [some (0, none), some (1, none), some (2, none), some (3, none), some (4, none), some (5, none), some (6, none), some (7, none), some (8, none), some (9, none), some (10, none), some (11, none), some (12, none), some (13, none), some (14, none), some (15, none), some (16, none), some (17, none), some (18, none), some (19, none), some (20, none), some (21, none), some (0, none), some (1, none), some (2, none), some (3, none), some (4, none), some (5, none), some (6, none), some (7, none), some (8, none), some (9, none), some (10, none), some (11, none), some (12, none), some (13, none), some (14, none), some (15, none), some (16, none), some (17, none), some (18, none), some (19, none), some (20, none)] (by (try simp (disch := omega) only [go_sem, List.length_set, Nat.reduceEqDiff, Nat.reduceAdd, Nat.reduceSub, Int.reduceAdd, Int.reduceSub, Int.reduceToNat]) <;> omega) _ (by simp only [go_sem]; rfl) (by rfl) (by rfl) ?_
  simp (disch := omega) only [go_sem, Nat.reduceEqDiff, Nat.reduceAdd, Nat.reduceSub, Int.reduceAdd, Int.reduceSub, Int.reduceToNat]
 | true =>
  by_cases h4 : 40 ≤ w.bag.length
  ·rw [mv11_b hm h4] at hR
   subst hR
   dsimp only
   have hM := impl_MayInject w le hw.p.s.keys hw.p.s.tags hw.p.s.nums
   rw [hm] at hM
   refine callA_ofO Tryz.func19 (by kernel_rfl) rfl fun E hE => run_den 400 ?_
   simp (disch := omega) only [Tryz.ntmps19, Tryz.results19, go_sem, Nat.reduceEqDiff, Nat.reduceAdd, Nat.reduceSub, Int.reduceAdd, Int.reduceSub, Int.reduceToNat]
   refine den_draw1 [0, 1, 2, 3, 4, 5, 6, 7, 8] (by kernel_rfl) (by (try simp (disch := omega) only [go_sem, List.length_set, Nat.reduceEqDiff, Nat.reduceAdd, Nat.reduceSub, Int.reduceAdd, Int.reduceSub, Int.reduceToNat]) <;> omega) (by kernel_rfl) (runD_den 400 ?_)
   simp (disch := omega) only [go_sem, Nat.reduceEqDiff, Nat.reduceAdd, Nat.reduceSub, Int.reduceAdd, Int.reduceSub, Int.reduceToNat]
   refine ⟨by (try simp (disch := omega) only [go_sem, List.length_set, Nat.reduceEqDiff, Nat.reduceAdd, Nat.reduceSub, Int.reduceAdd, Int.reduceSub, Int.reduceToNat]) <;> omega, run_den 400 ?_⟩
   try simp (disch := omega) only [go_sem, Nat.reduceEqDiff, Nat.reduceAdd, Nat.reduceSub, Int.reduceAdd, Int.reduceSub, Int.reduceToNat]
   refine den_draw1 [0, 1, 2, 3, 4, 5, 6] (by kernel_rfl) (by (try simp (disch := omega) only [go_sem, List.length_set, Nat.reduceEqDiff, Nat.reduceAdd, Nat.reduceSub, Int.reduceAdd, Int.reduceSub, Int.reduceToNat]) <;> omega) (by kernel_rfl) (runD_den 400 ?_)
   simp (disch := omega) only [go_sem, Nat.reduceEqDiff, Nat.reduceAdd, Nat.reduceSub, Int.reduceAdd, Int.reduceSub, Int.reduceToNat]
   refine den_callD (by (try simp (disch := omega) only [go_sem, List.length_set, Nat.reduceEqDiff, Nat.reduceAdd, Nat.reduceSub, Int.reduceAdd, Int.reduceSub, Int.reduceToNat]) <;> omega) (hM) [some (0, none), some (1, none), some (2, none), some (3, none), some (4, none), some (5, none), some (6, none), some (7, none), some (8, none), some (9, none), some (10, none), some (11, none), some (12, none), some (13, none), some (14, none), some (15, none), some (16, none), some (17, none), some (18, none), some (19, none), some (20, none)] (by simp only [go_sem]; repeat' first | rfl | constructor | (rw [List.map_set]; rfl) | (simp [List.map_take, List.map_drop] <;> omega)) (by rfl) (by rfl) (runD_den 400 ?_)
   simp (disch := omega) only [go_sem, Nat.reduceEqDiff, Nat.reduceAdd, Nat.reduceSub, Int.reduceAdd, Int.reduceSub, Int.reduceToNat]
   refine ⟨by (try simp (disch := omega) only [go_sem, List.length_set, Nat.reduceEqDiff, Nat.reduceAdd, Nat.reduceSub, Int.reduceAdd, Int.reduceSub, Int.reduceToNat]) <;> omega, run_den 400 ?_⟩
   try simp (disch := omega) only [go_sem, Nat.reduceEqDiff, Nat.reduceAdd, Nat.reduceSub, Int.reduceAdd, Int.reduceSub, Int.reduceToNat]
   refine den_finO [some (0, none), some (1, none), some (2, none), some (3, none), some (4, none), some (5, none), some (6, none), some (7, none), some (8, none), some (9, none), some (10, none), some (11, none), some (12, none), some (13, none), some (14, none), some (15, none), some (16, none), some (17, none), some (18, none), some (19, none), some (20, none), some (21, none), some (0, none), some (1, none), some (2, none), some (3, none), some (4, none), some (5, none), some (6, none), some (7, none), some (8, none), some (9, none), some (10, none), some (11, none), some (12, none), some (13, none), some (14, none), some (15, none), some (16, none), some (17, none), some (18, none), some (19, none), some (20, none)] (by (try simp (disch := omega) only [go_sem, List.length_set, Nat.reduceEqDiff, Nat.reduceAdd, Nat.reduceSub, Int.reduceAdd, Int.reduceSub, Int.reduceToNat]) <;> omega) _ (by simp only [go_sem]; rfl) (by rfl) (by rfl) ?_
   simp (disch := omega) only [go_sem, Nat.reduceEqDiff, Nat.reduceAdd, Nat.reduceSub, Int.reduceAdd, Int.reduceSub, Int.reduceToNat]
  ·rw [mv11_t hm h4] at hR
   subst hR
   dsimp only
   have hM := impl_MayInject w le hw.p.s.keys hw.p.s.tags hw.p.s.nums
   rw [hm] at hM
   refine callA_ofO Tryz.func19 (by kernel_rfl) rfl fun E hE => run_den 400 ?_
   simp (disch := omega) only [Tryz.ntmps19, Tryz.results19, go_sem, Nat.reduceEqDiff, Nat.reduceAdd, Nat.reduceSub, Int.reduceAdd, Int.reduceSub, Int.reduceToNat]
   refine den_draw1 [0, 1, 2, 3, 4, 5, 6, 7, 8] (by kernel_rfl) (by (try simp (disch := omega) only [go_sem, List.length_set, Nat.reduceEqDiff, Nat.reduceAdd, Nat.reduceSub, Int.reduceAdd, Int.reduceSub, Int.reduceToNat]) <;> omega) (by kernel_rfl) (runD_den 400 ?_)
   simp (disch := omega) only [go_sem, Nat.reduceEqDiff, Nat.reduceAdd, Nat.reduceSub, Int.reduceAdd, Int.reduceSub, Int.reduceToNat]
   refine ⟨by (try simp (disch := omega) only [go_sem, List.length_set, Nat.reduceEqDiff, Nat.reduceAdd, Nat.reduceSub, Int.reduceAdd, Int.reduceSub, Int.reduceToNat]) <;> omega, run_den 400 ?_⟩
   try simp (disch := omega) only [go_sem, Nat.reduceEqDiff, Nat.reduceAdd, Nat.reduceSub, Int.reduceAdd, Int.reduceSub, Int.reduceToNat]
   refine den_draw1 [0, 1, 2, 3, 4, 5, 6] (by kernel_rfl) (by (try simp (disch := omega) only [go_sem, List.length_set, Nat.reduceEqDiff, Nat.reduceAdd, Nat.reduceSub, Int.reduceAdd, Int.reduceSub, Int.reduceToNat]) <;> omega) (by kernel_rfl) (runD_den 400 ?_)
   simp (disch := omega) only [go_sem, Nat.reduceEqDiff, Nat.reduceAdd, Nat.reduceSub, Int.reduceAdd, Int.reduceSub, Int.reduceToNat]
   refine den_callD (by (try simp (disch := omega) only [go_sem, List.length_set, Nat.reduceEqDiff, Nat.reduceAdd, Nat.reduceSub, Int.reduceAdd, Int.reduceSub, Int.reduceToNat]) <;> omega) (hM) [some (0, none), some (1, none), some (2, none), some (3, none), some (4, none), some (5, none), some (6, none), some (7, none), some (8, none), some (9, none), some (10, none), some (11, none), some (12, none), some (13, none), some (14, none), some (15, none), some (16, none), some (17, none), some (18, none), some (19, none), some (20, none)] (by simp only [go_sem]; repeat' first | rfl | constructor | (rw [List.map_set]; rfl) | (simp [List.map_take, List.map_drop] <;> omega)) (by rfl) (by rfl) (runD_den 400 ?_)
   simp (disch := omega) only [go_sem, Nat.reduceEqDiff, Nat.reduceAdd, Nat.reduceSub, Int.reduceAdd, Int.reduceSub, Int.reduceToNat]
   refine ⟨by (try simp (disch := omega) only [go_sem, List.length_set, Nat.reduceEqDiff, Nat.reduceAdd, Nat.reduceSub, Int.reduceAdd, Int.reduceSub, Int.reduceToNat]) <;> omega, run_den 400 ?_⟩
   try simp (disch := omega) only [go_sem, Nat.reduceEqDiff, Nat.reduceAdd, Nat.reduceSub, Int.reduceAdd, Int.reduceSub, Int.reduceToNat]
   refine den_draw1 [0, 1, 2, 3, 4, 5, 6, 7, 8, 9, 10, 11] (by kernel_rfl) (by (try simp (disch := omega) only [go_sem, List.length_set, Nat.reduceEqDiff, Nat.reduceAdd, Nat.reduceSub, Int.reduceAdd, Int.reduceSub, Int.reduceToNat]) <;> omega) (by kernel_rfl) (runD_den 400 ?_)
   simp (disch := omega) only [go_sem, Nat.reduceEqDiff, Nat.reduceAdd, Nat.reduceSub, Int.reduceAdd, Int.reduceSub, Int.reduceToNat]
   refine ⟨by (try simp (disch := omega) only [go_sem, List.length_set, Nat.reduceEqDiff, Nat.reduceAdd, Nat.reduceSub, Int.reduceAdd, Int.reduceSub, Int.reduceToNat]) <;> omega, run_den 400 ?_⟩
   try simp (disch := omega) only [go_sem, Nat.reduceEqDiff, Nat.reduceAdd, Nat.reduceSub, Int.reduceAdd, Int.reduceSub, Int.reduceToNat]
   refine den_finO [some (0, none), some (1, none), some (2, none), some (3, none), some (4, none), some (5, none), some (6, none), some (7, none), some (8, none), some (9, none), some (10, none), some (11, none), some (12, none), some (13, none), some (14, none), some (15, none), some (16, none), some (17, none), some (18, none), some (19, none), some (20, none), some (21, none), some (0, none), some (1, none), some (2, none), some (3, none), some (4, none), some (5, none), some (6, none), some (7, none), some (8, none), some (9, none), some (10, none), some (11, none), some (12, none), some (13, none), some (24, none), some (15, none), some (16, none), some (17, none), some (18, none), some (19, none), some (20, none)] (by (try simp (disch := omega) only [go_sem, List.length_set, Nat.reduceEqDiff, Nat.reduceAdd, Nat.reduceSub, Int.reduceAdd, Int.reduceSub, Int.reduceToNat]) <;> omega) _ (by simp only [go_sem]; rfl) (by rfl) (by rfl) ?_
   simp (disch := omega) only [go_sem, Nat.reduceEqDiff, Nat.reduceAdd, Nat.reduceSub, Int.reduceAdd, Int.reduceSub, Int.reduceToNat]
   simp [LetterD.cs]
theorem impl_moves12 (w : WorldD) (side many : Int) (p : Nat) (text : List UInt8) (ad : AddrD) (le : LetterD) (hw : SmallD w) :
  CallA Tryz.prog 19 [.sc (.pt 21 0 0), .ag (ActD.cs ⟨12, side, (p : Nat), many, text, ad, le⟩)] (w.hp true ++ [some ⟨[w.cs 0], 61, 47, true, false⟩]) (.sc (.int .i64 (moves w ⟨12, side, (p : Nat), many, text, ad, le⟩).2))
  ([none, none, none, none, none, none, none, none, none, none, none, none, none, none, none, none, none, none, none, none, none, some ⟨[WorldD.cs (moves w ⟨12, side, (p : Nat), many, text, ad, le⟩).1 22], 61, 47, true, false⟩] ++ WorldD.hp (moves w ⟨12, side, (p : Nat), many, text, ad, le⟩).1 true) := by
 have hbag := hw.p.s.bag
 have hpast := hw.p.s.past
 obtain ⟨R, hR⟩ : ∃ R, R = moves w ⟨12, side, (p : Nat), many, text, ad, le⟩ := ⟨_, rfl⟩
 rw [← hR]
 by_cases hp : p < w.past.length
 ·have hx := map_get (enc := LetterD.cs) hp
  have hq1 := @mv12_b w side many p text ad le hp
  have hq2 := @mv12_t w side many p text ad le hp
  rw [← hR] at hq1 hq2
  generalize hxx : w.past[p] = x at *
  have hS := impl_SideAt x.to
  have hSb := sideAt_12 x.to
  generalize sideAt x.to = sd at *
  by_cases h0 : sd = 0
  ·rw [hq1 (.inl h0)]
   dsimp only
   refine callA_ofO Tryz.func19 (by kernel_rfl) rfl fun E hE => run_den 400 ?_
   simp (disch := omega) only [Tryz.ntmps19, Tryz.results19, go_sem, Nat.reduceEqDiff, Nat.reduceAdd, Nat.reduceSub, Int.reduceAdd, Int.reduceSub, Int.reduceToNat]
   refine den_draw1 [0, 1, 2, 3, 4, 5, 6, 7, 8] (by kernel_rfl) (by (try simp (disch := omega) only [go_sem, List.length_set, Nat.reduceEqDiff, Nat.reduceAdd, Nat.reduceSub, Int.reduceAdd, Int.reduceSub, Int.reduceToNat]) <;> omega) (by kernel_rfl) (runD_den 400 ?_)
   simp (disch := omega) only [go_sem, Nat.reduceEqDiff, Nat.reduceAdd, Nat.reduceSub, Int.reduceAdd, Int.reduceSub, Int.reduceToNat]
   refine ⟨by (try simp (disch := omega) only [go_sem, List.length_set, Nat.reduceEqDiff, Nat.reduceAdd, Nat.reduceSub, Int.reduceAdd, Int.reduceSub, Int.reduceToNat]) <;> omega, run_den 400 ?_⟩
   try simp (disch := omega) only [go_sem, Nat.reduceEqDiff, Nat.reduceAdd, Nat.reduceSub, Int.reduceAdd, Int.reduceSub, Int.reduceToNat]
   refine den_draw1 [0, 1, 2, 3, 4, 5, 6, 7, 8, 9, 10, 11, 12, 13, 14, 15, 16, 17, 18, 19, 20, 21, 22, 23] (by kernel_rfl) (by (try simp (disch := omega) only [go_sem, List.length_set, Nat.reduceEqDiff, Nat.reduceAdd, Nat.reduceSub, Int.reduceAdd, Int.reduceSub, Int.reduceToNat]) <;> omega) (by kernel_rfl) (runD_den 400 ?_)
   simp (disch := omega) only [go_sem, Nat.reduceEqDiff, Nat.reduceAdd, Nat.reduceSub, Int.reduceAdd, Int.reduceSub, Int.reduceToNat]
   try simp (disch := omega) only [go_sem, hx, hxx]
   refine den_callD (by (try simp (disch := omega) only [go_sem, List.length_set, Nat.reduceEqDiff, Nat.reduceAdd, Nat.reduceSub, Int.reduceAdd, Int.reduceSub, Int.reduceToNat]) <;> omega) (hS) [] (by simp only [go_sem]; repeat' first | rfl | constructor | (rw [List.map_set]; rfl) | (simp [List.map_take, List.map_drop] <;> omega)) (by rfl) (by rfl) (runD_den 400 ?_)
   simp (disch := omega) only [go_sem, Nat.reduceEqDiff, Nat.reduceAdd, Nat.reduceSub, Int.reduceAdd, Int.reduceSub, Int.reduceToNat]
   refine ⟨by (try simp (disch := omega) only [go_sem, List.length_set, Nat.reduceEqDiff, Nat.reduceAdd, Nat.reduceSub, Int.reduceAdd, Int.reduceSub, Int.reduceToNat]) <;> omega, run_den 400 ?_⟩
   try simp (disch := omega) only [go_sem, Nat.reduceEqDiff, Nat.reduceAdd, Nat.reduceSub, Int.reduceAdd, Int.reduceSub, Int.reduceToNat, hx, hxx]
   refine den_finO [some (0, none), some (1, none), some (2, none), some (3, none), some (4, none), some (5, none), some (6, none), some (7, none), some (8, none), some (9, none), some (10, none), some (11, none), some (12, none), some (13, none), some (14, none), some (15, none), some (16, none), some (17, none), some (18, none), some (19, none), some (20, none), some (21, none), some (0, none), some (1, none), some (2, none), some (3, none), some (4, none), some (5, none), some (6, none), some (7, none), some (8, none), some (9, none), some (10, none), some (11, none), some (12, none), some (13, none), some (14, none), some (15, none), some (16, none), some (17, none), some (18, none), some (19, none), some (20, none)] (by (try simp (disch := omega) only [go_sem, List.length_set, Nat.reduceEqDiff, Nat.reduceAdd, Nat.reduceSub, Int.reduceAdd, Int.reduceSub, Int.reduceToNat]) <;> omega) _ (by simp only [go_sem]; rfl) (by rfl) (by rfl) ?_
   simp (disch := omega) only [go_sem, Nat.reduceEqDiff, Nat.reduceAdd, Nat.reduceSub, Int.reduceAdd, Int.reduceSub, Int.reduceToNat]
  ·by_cases h4 : 40 ≤ w.bag.length
   ·rw [hq1 (.inr h4)]
    dsimp only
    refine callA_ofO Tryz.func19 (by kernel_rfl) rfl fun E hE => run_den 400 ?_
    simp (disch := omega) only [Tryz.ntmps19, Tryz.results19, go_sem, Nat.reduceEqDiff, Nat.reduceAdd, Nat.reduceSub, Int.reduceAdd, Int.reduceSub, Int.reduceToNat]
    refine den_draw1 [0, 1, 2, 3, 4, 5, 6, 7, 8] (by kernel_rfl) (by (try simp (disch := omega) only [go_sem, List.length_set, Nat.reduceEqDiff, Nat.reduceAdd, Nat.reduceSub, Int.reduceAdd, Int.reduceSub, Int.reduceToNat]) <;> omega) (by kernel_rfl) (runD_den 400 ?_)
    simp (disch := omega) only [go_sem, Nat.reduceEqDiff, Nat.reduceAdd, Nat.reduceSub, Int.reduceAdd, Int.reduceSub, Int.reduceToNat]
    refine ⟨by (try simp (disch := omega) only [go_sem, List.length_set, Nat.reduceEqDiff, Nat.reduceAdd, Nat.reduceSub, Int.reduceAdd, Int.reduceSub, Int.reduceToNat]) <;> omega, run_den 400 ?_⟩
    try simp (disch := omega) only [go_sem, Nat.reduceEqDiff, Nat.reduceAdd, Nat.reduceSub, Int.reduceAdd, Int.reduceSub, Int.reduceToNat]
    refine den_draw1 [0, 1, 2, 3, 4, 5, 6, 7, 8, 9, 10, 11, 12, 13, 14, 15, 16, 17, 18, 19, 20, 21, 22, 23] (by kernel_rfl) (by (try simp (disch := omega) only [go_sem, List.length_set, Nat.reduceEqDiff, Nat.reduceAdd, Nat.reduceSub, Int.reduceAdd, Int.reduceSub, Int.reduceToNat]) <;> omega) (by kernel_rfl) (runD_den 400 ?_)
    simp (disch := omega) only [go_sem, Nat.reduceEqDiff, Nat.reduceAdd, Nat.reduceSub, Int.reduceAdd, Int.reduceSub, Int.reduceToNat]
    try simp (disch := omega) only [go_sem, hx, hxx]
    refine den_callD (by (try simp (disch := omega) only [go_sem, List.length_set, Nat.reduceEqDiff, Nat.reduceAdd, Nat.reduceSub, Int.reduceAdd, Int.reduceSub, Int.reduceToNat]) <;> omega) (hS) [] (by simp only [go_sem]; repeat' first | rfl | constructor | (rw [List.map_set]; rfl) | (simp [List.map_take, List.map_drop] <;> omega)) (by rfl) (by rfl) (runD_den 400 ?_)
    simp (disch := omega) only [go_sem, Nat.reduceEqDiff, Nat.reduceAdd, Nat.reduceSub, Int.reduceAdd, Int.reduceSub, Int.reduceToNat]
    refine ⟨by (try simp (disch := omega) only [go_sem, List.length_set, Nat.reduceEqDiff, Nat.reduceAdd, Nat.reduceSub, Int.reduceAdd, Int.reduceSub, Int.reduceToNat]) <;> omega, run_den 400 ?_⟩
    try simp (disch := omega) only [go_sem, Nat.reduceEqDiff, Nat.reduceAdd, Nat.reduceSub, Int.reduceAdd, Int.reduceSub, Int.reduceToNat, hx, hxx]
    refine den_finO [some (0, none), some (1, none), some (2, none), some (3, none), some (4, none), some (5, none), some (6, none), some (7, none), some (8, none), some (9, none), some (10, none), some (11, none), some (12, none), some (13, none), some (14, none), some (15, none), some (16, none), some (17, none), some (18, none), some (19, none), some (20, none), some (21, none), some (0, none), some (1, none), some (2, none), some (3, none), some (4, none), some (5, none), some (6, none), some (7, none), some (8, none), some (9, none), some (10, none), some (11, none), some (12, none), some (13, none), some (14, none), some (15, none), some (16, none), some (17, none), some (18, none), some (19, none), some (20, none)] (by (try simp (disch := omega) only [go_sem, List.length_set, Nat.reduceEqDiff, Nat.reduceAdd, Nat.reduceSub, Int.reduceAdd, Int.reduceSub, Int.reduceToNat]) <;> omega) _ (by simp only [go_sem]; rfl) (by rfl) (by rfl) ?_
    simp (disch := omega) only [go_sem, Nat.reduceEqDiff, Nat.reduceAdd, Nat.reduceSub, Int.reduceAdd, Int.reduceSub, Int.reduceToNat]
   ·rw [hq2 h0 h4]
    dsimp only
    refine callA_ofO Tryz.func19 (by kernel_rfl) rfl fun E hE => run_den 400 ?_
    simp (disch := omega) only [Tryz.ntmps19, Tryz.results19, go_sem, Nat.reduceEqDiff, Nat.reduceAdd, Nat.reduceSub, Int.reduceAdd, Int.reduceSub, Int.reduceToNat]
    refine den_draw1 [0, 1, 2, 3, 4, 5, 6, 7, 8] (by kernel_rfl) (by (try simp (disch := omega) only [go_sem, List.length_set, Nat.reduceEqDiff, Nat.reduceAdd, Nat.reduceSub, Int.reduceAdd, Int.reduceSub, Int.reduceToNat]) <;> omega) (by kernel_rfl) (runD_den 400 ?_)
    simp (disch := omega) only [go_sem, Nat.reduceEqDiff, Nat.reduceAdd, Nat.reduceSub, Int.reduceAdd, Int.reduceSub, Int.reduceToNat]
    refine ⟨by (try simp (disch := omega) only [go_sem, List.length_set, Nat.reduceEqDiff, Nat.reduceAdd, Nat.reduceSub, Int.reduceAdd, Int.reduceSub, Int.reduceToNat]) <;> omega, run_den 400 ?_⟩
    try simp (disch := omega) only [go_sem, Nat.reduceEqDiff, Nat.reduceAdd, Nat.reduceSub, Int.reduceAdd, Int.reduceSub, Int.reduceToNat]
    refine den_draw1 [0, 1, 2, 3, 4, 5, 6, 7, 8, 9, 10, 11, 12, 13, 14, 15, 16, 17, 18, 19, 20, 21, 22, 23] (by kernel_rfl) (by (try simp (disch := omega) only [go_sem, List.length_set, Nat.reduceEqDiff, Nat.reduceAdd, Nat.reduceSub, Int.reduceAdd, Int.reduceSub, Int.reduceToNat]) <;> omega) (by kernel_rfl) (runD_den 400 ?_)
    simp (disch := omega) only [go_sem, Nat.reduceEqDiff, Nat.reduceAdd, Nat.reduceSub, Int.reduceAdd, Int.reduceSub, Int.reduceToNat]
    try simp (disch := omega) only [go_sem, hx, hxx]
    refine den_callD (by (try simp (disch := omega) only [go_sem, List.length_set, Nat.reduceEqDiff, Nat.reduceAdd, Nat.reduceSub, Int.reduceAdd, Int.reduceSub, Int.reduceToNat]) <;> omega) (hS) [] (by simp only [go_sem]; repeat' first | rfl | constructor | (rw [List.map_set]; rfl) | (simp [List.map_take, List.map_drop] <;> omega)) (by rfl) (by rfl) (runD_den 400 ?_)
    simp (disch := omega) only [go_sem, Nat.reduceEqDiff, Nat.reduceAdd, Nat.reduceSub, Int.reduceAdd, Int.reduceSub, Int.reduceToNat]
    refine ⟨by (try simp (disch := omega) only [go_sem, List.length_set, Nat.reduceEqDiff, Nat.reduceAdd, Nat.reduceSub, Int.reduceAdd, Int.reduceSub, Int.reduceToNat]) <;> omega, run_den 400 ?_⟩
    try simp (disch := omega) only [go_sem, Nat.reduceEqDiff, Nat.reduceAdd, Nat.reduceSub, Int.reduceAdd, Int.reduceSub, Int.reduceToNat, hx, hxx]
    refine den_draw1 [0, 1, 2, 3, 4, 5, 6, 7, 8, 9, 10, 11, 12, 13, 14, 15, 16, 17] (by kernel_rfl) (by (try simp (disch := omega) only [go_sem, List.length_set, Nat.reduceEqDiff, Nat.reduceAdd, Nat.reduceSub, Int.reduceAdd, Int.reduceSub, Int.reduceToNat]) <;> omega) (by kernel_rfl) (runD_den 400 ?_)
    simp (disch := omega) only [go_sem, Nat.reduceEqDiff, Nat.reduceAdd, Nat.reduceSub, Int.reduceAdd, Int.reduceSub, Int.reduceToNat]
    refine ⟨by (try simp (disch := omega) only [go_sem, List.length_set, Nat.reduceEqDiff, Nat.reduceAdd, Nat.reduceSub, Int.reduceAdd, Int.reduceSub, Int.reduceToNat]) <;> omega, run_den 400 ?_⟩
    try simp (disch := omega) only [go_sem, Nat.reduceEqDiff, Nat.reduceAdd, Nat.reduceSub, Int.reduceAdd, Int.reduceSub, Int.reduceToNat, hx, hxx]
    refine den_finO [some (0, none), some (1, none), some (2, none), some (3, none), some (4, none), some (5, none), some (6, none), some (7, none), some (8, none), some (9, none), some (10, none), some (11, none), some (12, none), some (13, none), some (14, none), some (15, none), some (16, none), some (17, none), some (18, none), some (19, none), some (20, none), some (21, none), some (0, none), some (1, none), some (2, none), some (3, none), some (4, none), some (5, none), some (6, none), some (7, none), some (8, none), some (9, none), some (10, none), some (11, none), some (12, none), some (13, none), some (24, none), some (15, none), some (16, none), some (17, none), some (18, none), some (19, none), some (20, none)] (by (try simp (disch := omega) only [go_sem, List.length_set, Nat.reduceEqDiff, Nat.reduceAdd, Nat.reduceSub, Int.reduceAdd, Int.reduceSub, Int.reduceToNat]) <;> omega) _ (by simp only [go_sem]; rfl) (by rfl) (by rfl) ?_
    simp (disch := omega) only [go_sem, Nat.reduceEqDiff, Nat.reduceAdd, Nat.reduceSub, Int.reduceAdd, Int.reduceSub, Int.reduceToNat]
    simp [LetterD.cs]
 ·rw [mv12_f hp] at hR
  subst hR
  dsimp only
  refine callA_ofO Tryz.func19 (by kernel_rfl) rfl fun E hE => run_den 400 ?_
  simp (disch := omega) only [Tryz.ntmps19, Tryz.results19, go_sem, Nat.reduceEqDiff, Nat.reduceAdd, Nat.reduceSub, Int.reduceAdd, Int.reduceSub, Int.reduceToNat]
  refine den_draw1 [0, 1, 2, 3, 4, 5, 6, 7, 8] (by kernel_rfl) (by (try simp (disch := omega) only [go_sem, List.length_set, Nat.reduceEqDiff, Nat.reduceAdd, Nat.reduceSub, Int.reduceAdd, Int.reduceSub, Int.reduceToNat]) <;> omega) (by kernel_rfl) (runD_den 400 ?_)
  simp (disch := omega) only [go_sem, Nat.reduceEqDiff, Nat.reduceAdd, Nat.reduceSub, Int.reduceAdd, Int.reduceSub, Int.reduceToNat]
  refine ⟨by (try simp (disch := omega) only [go_sem, List.length_set, Nat.reduceEqDiff, Nat.reduceAdd, Nat.reduceSub, Int.reduceAdd, Int.reduceSub, Int.reduceToNat]) <;> omega, run_den 400 ?_⟩
  try simp (disch := omega) only [go_sem, Nat.reduceEqDiff, Nat.reduceAdd, Nat.reduceSub, Int.reduceAdd, Int.reduceSub, Int.reduceToNat]
  refine den_draw1 [0, 1, 2, 3, 4, 5, 6, 7, 8, 9, 10, 11, 12, 13, 14, 15, 16, 17, 18, 19, 20, 21, 22, 23] (by kernel_rfl) (by (try simp (disch := omega) only [go_sem, List.length_set, Nat.reduceEqDiff, Nat.reduceAdd, Nat.reduceSub, Int.reduceAdd, Int.reduceSub, Int.reduceToNat]) <;> omega) (by kernel_rfl) (runD_den 400 ?_)
  simp (disch := omega) only [go_sem, Nat.reduceEqDiff, Nat.reduceAdd, Nat.reduceSub, Int.reduceAdd, Int.reduceSub, Int.reduceToNat]
  refine ⟨by (try simp (disch := omega) only [go_sem, List.length_set, Nat.reduceEqDiff, Nat.reduceAdd, Nat.reduceSub, Int.reduceAdd, Int.reduceSub, Int.reduceToNat]) <;> omega, run_den 400 ?_⟩
  try simp (disch := omega) only [go_sem, Nat.reduceEqDiff, Nat.reduceAdd, Nat.reduceSub, Int.reduceAdd, Int.reduceSub, Int.reduceToNat]
  refine den_finO [some (0, none), some (1, none), some (2, none), some (3, none), some (4, none), some (5, none), some (6, none), some (7, none), some (8, none), some (9, none), some (10, none), some (11, none), some (12, none), some (13, none), some (14, none), some (15, none), some (16, none), some (17, none), some (18, none), some (19, none), some (20, none), some (21, none), some (0, none), some (1, none), some (2, none), some (3, none), some (4, none), some (5, none), some (6, none), some (7, none), some (8, none), some (9, none), some (10, none), some (11, none), some (12, none), some (13, none), some (14, none), some (15, none), some (16, none), some (17, none), some (18, none), some (19, none), some (20, none)] (by (try simp (disch := omega) only [go_sem, List.length_set, Nat.reduceEqDiff, Nat.reduceAdd, Nat.reduceSub, Int.reduceAdd, Int.reduceSub, Int.reduceToNat]) <;> omega) _ (by simp only [go_sem]; rfl) (by rfl) (by rfl) ?_
  simp (disch := omega) only [go_sem, Nat.reduceEqDiff, Nat.reduceAdd, Nat.reduceSub, Int.reduceAdd, Int.reduceSub, Int.reduceToNat]
end
section
open Go.RowKit

end
section
open Go.RowKit

theorem impl_Tick (e : EndD) (hs : Small e) (ht : e.out.text.length ≤ 1048576) : CallA Tryz.prog 42 [.ag (e.cs 0)] (e.hp false) (.tu [.ag ((tick e).1.cs 7), .sc (.sl 14 0 (tick e).2.length)])
  (e.hp false ++ ((tick e).1.hp true ++ [some ⟨(tick e).2.map LetterD.cs, 19, 57, true, true⟩])) := by
 have hC := impl_copyEnd e (by have := hs.own; omega) (by have := hs.far; omega) (by have := hs.subs; omega) (by have := hs.halfs; omega) (by have := hs.list; omega) (by have := hs.done; omega) (by have := hs.over; omega)
 have hK := impl_EndOk e (by have := hs.own; omega) (by have := hs.far; omega) (by have := hs.subs; omega) (by have := hs.halfs; omega) (by have := hs.list; omega) (by have := hs.done; omega) (by have := hs.over; omega)
 have hsb := hs.subs
 have hso := hs.own
 have hsh := hs.halfs
 have hF := impl_Filled e.bucket
 have hY := impl_Younger e.halfs (e.now + 1) hs.halfs
 have hAn := impl_Anew e.out
 have hyl := younger_le e.halfs (e.now + 1)
 have hat : (anew e.out).text.length ≤ 1048576 := by rw [anew]; split <;> exact ht
 have hf := tick_f (e := e)
 have hto := tick_o (e := e)
 have hti := tick_i (e := e)
 have htu := @tick_u e
 have hok : tkE e = (endOk e && decide (e.now < 1000000000) && e.subs.all fun s => decide (s.tries < 1000000000)) := rfl
 have hsm0 : Small { e with now := e.now + 1, bucket := filled e.bucket, halfs := younger e.halfs (e.now + 1), out := anew e.out } := ⟨hs.own, hs.far, hs.subs, by dsimp only; omega, hs.list, hs.done, hs.over⟩
 have hsm1 : Small { e with now := e.now + 1, bucket := filled e.bucket, halfs := younger e.halfs (e.now + 1), out := anew e.out, subs := e.subs.map tickS } := ⟨hs.own, hs.far, by dsimp only; rw [List.length_map]; exact hs.subs, by dsimp only; omega, hs.list, hs.done, hs.over⟩
 have hfl : (e.subs.flatMap (tickL e)).length ≤ e.subs.length := flat_le (tickL_one e) _
 obtain ⟨R, hR⟩ : ∃ R, R = tick e := ⟨_, rfl⟩
 rw [← hR] at hf hto hti
 simp only [← hR] at htu
 rw [← hR]
 clear hR
 refine qEO Tryz.func42 Tryz.ntmps42 Tryz.results42 fun E hE => ?_
 refine qK (hC) (qA [0, 1, 2, 3, 4, 5, 6]) ?_
 refine qK (hK) (qA [0, 1, 2, 3, 4, 5, 6]) ?_
 refine qB (fun h1 => ?_) fun h1 => ?_
 ·have hnow := endOk_now h1
  by_cases h2 : e.now < 1000000000
  ·refine qX ?_
   refine den_lpO 7 hE (fun s (i : Nat) => s.at [0, 3, 6, 10, 11, 12, 13, 14, 15, 16, 17, 18, 19, 20, 21, 25, 26, 27, 28, 29, 30, 31, 32] [(24, .sc (.int .i64 (i : Nat)))] (s.hp)) (fun (i : Nat) => i ≤ e.subs.length ∧ (e.subs.drop i).all (fun s => decide (s.tries < 1000000000)) = e.subs.all (fun s => decide (s.tries < 1000000000))) (fun (i : Nat) => e.subs.length - i) 0 (qA [0, 1, 2, 3, 4, 5, 6, 7, 8, 9, 10, 11, 12, 13, 14, 15, 16]) (qC) (⟨Nat.zero_le _, rfl⟩) (weak_mkO (by rfl) (by rfl) ?_) fun i hi N hN => ?_
   ·exact qY
   ·obtain ⟨g1, g2⟩ := hi
    refine qR ?_
    refine qB (fun b => ?_) fun b => ?_
    ·rw [allD_step b] at g2
     have hg := map_get (enc := SubD.cs) b
     have hsub := endOk_sub h1 b
     try simp (disch := omega) only [go_sem, Nat.reduceEqDiff, Nat.reduceAdd, Nat.reduceSub, Int.reduceAdd, Int.reduceSub, Int.reduceToNat, hg]
     refine qB (fun b2 => ?_) fun b2 => ?_
     ·rw [decide_eq_false (by omega), Bool.false_and] at g2
      rw [hf (by rw [hok, ← g2]; simp)]
      refine qX ?_
      exact qFO [some (0, none), some (1, none), some (2, none), some (3, none), some (4, none), some (5, none), some (6, none), some (9, none), some (10, none), some (11, none), some (12, none), some (13, none), some (14, none), some (15, none), none]
     ·rw [decide_eq_true (by omega), Bool.true_and] at g2
      refine qX ?_
      exact qNO hN (i + 1) (qA [0, 1, 2, 3, 4, 5, 6, 7, 8, 9, 10, 11, 12, 13, 14, 15, 16]) (by (try dsimp only); exact ⟨by omega, g2⟩)
    ·rw [List.drop_eq_nil_of_le (by omega), List.all_nil] at g2
     have hall := g2.symm
     have hall2 : ∀ (k : Nat) (hk : k < e.subs.length), e.subs[k].tries < 1000000000 := fun k hk => by
      have := List.all_eq_true.1 hall e.subs[k] (List.getElem_mem hk)
      simpa using this
     have htk : tkE e = true := by rw [hok, h1, decide_eq_true h2, hall]; rfl
     refine qX ?_
     refine qK (hF) [] ?_
     refine qK (hY) (qA [3]) ?_
     refine qK (hAn) [] ?_
     by_cases h2s : e.state = 2
     ·have hR := hto htk h2s
      rw [tick0] at hR
      obtain ⟨LL, hLL⟩ : ∃ L, L = e.subs.flatMap (tickL e) := ⟨_, rfl⟩
      rw [← hLL] at hR hfl
      refine qX ?_
      refine den_lpO 7 hE (fun s (y : Nat × List LetterD) => s.at [0, 6, 8, 9, 10, 11, 12, 13, 14, 15, 16, 17, 18, 19, 20, 21, 22, 23, 24, 25, 26, 27, 28, 29, 30, 31, 32, 33, 34, 35, 36, 37, 38, 39, 40, 41, 42, 43, 44, 45, 46, 47, 48, 49, 50, 51, 52, 53, 54, 55, 56, 57, 58, 59, 62, 63, 64, 65, 66, 67, 68, 69, 70, 71, 72, 73, 74, 75, 76, 77, 78, 79, 80, 81, 82, 83, 84, 85, 86, 87, 88, 89, 90, 91, 92, 93, 94, 95, 96, 97, 98, 99, 100, 101, 102, 103, 104, 105, 106, 107, 108, 109, 110, 111, 112, 113, 114, 115, 116, 117, 118, 119, 120, 121, 122, 123, 124, 125, 126, 127, 128, 129, 130, 131, 132] [(61, .sc (.int .i64 (y.1 : Nat))), (7, .sc (.sl 18 0 y.2.length))] ((s.hp.set 11 (some ⟨(stepN tickS e.subs y.1).map SubD.cs, 10, 132, true, true⟩)) ++ [some ⟨y.2.map LetterD.cs, 19, 57, true, true⟩])) (fun (y : Nat × List LetterD) => y.1 ≤ e.subs.length ∧ y.2.length ≤ y.1 ∧ LL = y.2 ++ (e.subs.drop y.1).flatMap (tickL e)) (fun (y : Nat × List LetterD) => e.subs.length - y.1) (0, []) [some (0, none), some (1, none), some (2, none), some (3, none), some (4, none), some (5, none), some (6, none), some (7, none), some (8, none), some (9, none), some (10, none), some (11, none), some (12, none), some (13, none), some (14, none), some (15, none), some (16, none), some (17, none), none] (qC) (⟨Nat.zero_le _, Nat.zero_le _, hLL⟩) (weak_mkO (by rfl) (by rfl) ?_) fun y hy N2 hN2 => ?_
      ·try simp (disch := omega) only [go_sem, Nat.reduceEqDiff, Nat.reduceAdd, Nat.reduceSub, Int.reduceAdd, Int.reduceSub, Int.reduceToNat]
       try rw [stepN_zero]
      ·obtain ⟨k, l⟩ := y
       obtain ⟨f1, f2, f3⟩ := hy
       dsimp only at f1 f2 f3
       refine run_den 400 ?_
       have hgl : (stepN tickS e.subs k).length = e.subs.length := stepN_len
       refine qX ?_
       refine qB (fun b => ?_) fun b => ?_
       ·have hg := stepN_get (f := tickS) b
        have hsub := endOk_sub h1 b
        have htr := hall2 k b
        rw [flatD_step b] at f3
        have hset := stepN_set (f := tickS) b
        have hsame := stepN_same (f := tickS) b
        obtain ⟨s0, hs0⟩ : ∃ s, s = e.subs[k] := ⟨_, rfl⟩
        rw [← hs0] at hsub htr f3 hset hsame
        have hg' : ∀ p : k < (stepN tickS e.subs k).length, (stepN tickS e.subs k)[k]'p = s0 := fun p => by rw [hg p, hs0]
        clear hg
        by_cases c1 : s0.state = 1 ∨ s0.state = 2
        ·by_cases c2 : s0.state = 2 ∧ 9 ≤ s0.tries + 1
         ·have tS := tickS_gone c2.1 c2.2
          rw [tickL_gone c2.1 c2.2, List.nil_append] at f3
          obtain ⟨c3, c4⟩ := c2
          try simp (disch := omega) only [go_sem, Nat.reduceEqDiff, Nat.reduceAdd, Nat.reduceSub, Int.reduceAdd, Int.reduceSub, Int.reduceToNat, hg', c3]
          refine ⟨qC, hN2 _ (k + 1, l) (qA [0, 1, 2, 3, 4, 5, 6, 7, 8, 9, 10, 11, 12, 13, 14, 15, 16, 17, 18]) (by (try dsimp only); exact ⟨by omega, by omega, f3⟩) (by (try dsimp only); omega) (weak_mkO (by rfl) (by rfl) ?_)⟩
          refine qX ?_
          rw [← hset, tS, List.map_set]
          try simp [SubD.cs, c3]
         ·have tS := tickS_on c1 c2
          by_cases c5 : (s0.tries + 1).tmod 3 = 0
          ·rcases c1 with c1 | c1
           ·rw [tickL_ask c1 c5] at f3
            have hL : CallA Tryz.prog 82 [.ag (EndD.cs e 0), .ag (SubD.cs { s0 with tries := s0.tries + 1, state := 1 })] (EndD.hp e false) (.ag (joinL' e s0).cs) (EndD.hp e false) := impl_joinLetter _ _ (show inR e.side 1 2 = true from endOk_side h1)
            try simp (disch := omega) only [go_sem, Nat.reduceEqDiff, Nat.reduceAdd, Nat.reduceSub, Int.reduceAdd, Int.reduceSub, Int.reduceToNat, hg', c1, c5]
            refine qD [0, 1, 2, 3, 4, 5, 6, 7, 8] ?_
            refine qKD (hL) (qA [0, 1, 2, 3, 4, 5, 6]) ?_
            refine qG ?_
            refine ⟨qC, hN2 _ (k + 1, l ++ [joinL' e s0]) (qA [0, 1, 2, 3, 4, 5, 6, 7, 8, 9, 10, 11, 12, 13, 14, 15, 16, 17, 20]) (by (try dsimp only); exact ⟨by omega, by simp; omega, by simpa using f3⟩) (by (try dsimp only); omega) (weak_mkO (by rfl) (by rfl) ?_)⟩
            refine qX ?_
            rw [← hset, tS, List.map_set]
            try simp [SubD.cs, c1, LetterD.cs]
           ·rw [tickL_prove c1 (by omega) c5] at f3
            have hL : CallA Tryz.prog 83 [.ag (EndD.cs e 0), .ag (SubD.cs { s0 with tries := s0.tries + 1, state := 2 })] (EndD.hp e false) (.ag (doneLetter e s0).cs) (EndD.hp e false) := impl_doneLetter _ _
            try simp (disch := omega) only [go_sem, Nat.reduceEqDiff, Nat.reduceAdd, Nat.reduceSub, Int.reduceAdd, Int.reduceSub, Int.reduceToNat, hg', c1, c5]
            refine qD [0, 1, 2, 3, 4, 5, 6, 7, 8] ?_
            refine qKD (hL) (qA [0, 1, 2, 3, 4, 5, 6]) ?_
            refine qG ?_
            refine ⟨qC, hN2 _ (k + 1, l ++ [doneLetter e s0]) (qA [0, 1, 2, 3, 4, 5, 6, 7, 8, 9, 10, 11, 12, 13, 14, 15, 16, 17, 20]) (by (try dsimp only); exact ⟨by omega, by simp; omega, by simpa using f3⟩) (by (try dsimp only); omega) (weak_mkO (by rfl) (by rfl) ?_)⟩
            refine qX ?_
            rw [← hset, tS, List.map_set]
            try simp [SubD.cs, c1, LetterD.cs]
          ·rw [tickL_wait c1 c2 c5, List.nil_append] at f3
           have c6 : 0 < (s0.tries + 1).tmod 3 := by have := Int.tmod_nonneg 3 (show 0 ≤ s0.tries + 1 by omega); omega
           rcases c1 with c1 | c1
           ·try simp (disch := omega) only [go_sem, Nat.reduceEqDiff, Nat.reduceAdd, Nat.reduceSub, Int.reduceAdd, Int.reduceSub, Int.reduceToNat, hg', c1]
            refine ⟨qC, hN2 _ (k + 1, l) (qA [0, 1, 2, 3, 4, 5, 6, 7, 8, 9, 10, 11, 12, 13, 14, 15, 16, 17, 18]) (by (try dsimp only); exact ⟨by omega, by omega, f3⟩) (by (try dsimp only); omega) (weak_mkO (by rfl) (by rfl) ?_)⟩
            refine qX ?_
            rw [← hset, tS, List.map_set]
            try simp [SubD.cs, c1]
           ·try simp (disch := omega) only [go_sem, Nat.reduceEqDiff, Nat.reduceAdd, Nat.reduceSub, Int.reduceAdd, Int.reduceSub, Int.reduceToNat, hg', c1]
            refine ⟨qC, hN2 _ (k + 1, l) (qA [0, 1, 2, 3, 4, 5, 6, 7, 8, 9, 10, 11, 12, 13, 14, 15, 16, 17, 18]) (by (try dsimp only); exact ⟨by omega, by omega, f3⟩) (by (try dsimp only); omega) (weak_mkO (by rfl) (by rfl) ?_)⟩
            refine qX ?_
            rw [← hset, tS, List.map_set]
            try simp [SubD.cs, c1]
        ·rw [tickL_none c1, List.nil_append] at f3
         try simp (disch := omega) only [go_sem, Nat.reduceEqDiff, Nat.reduceAdd, Nat.reduceSub, Int.reduceAdd, Int.reduceSub, Int.reduceToNat, hg']
         refine ⟨qC, hN2 _ (k + 1, l) (qA [0, 1, 2, 3, 4, 5, 6, 7, 8, 9, 10, 11, 12, 13, 14, 15, 16, 17, 18]) (by (try dsimp only); exact ⟨by omega, by omega, f3⟩) (by (try dsimp only); omega) (weak_mkO (by rfl) (by rfl) ?_)⟩
         refine qX ?_
         rw [hsame (tickS_same c1)]
       ·have hkl : k = e.subs.length := by omega
        subst hkl
        rw [List.drop_eq_nil_of_le (Nat.le_refl _), List.flatMap_nil, List.append_nil] at f3
        subst f3
        rw [stepN_all]
        have hTE := impl_tickEnd { e with now := e.now + 1, bucket := filled e.bucket, halfs := younger e.halfs (e.now + 1), out := anew e.out, subs := e.subs.map tickS } LL hsm1 hat (by omega)
        rw [← hR] at hTE
        have hml : (e.subs.map tickS).length = e.subs.length := List.length_map ..
        refine qX ?_
        refine qK (hTE) (qA [9, 10, 11, 17, 13, 14, 15, 18]) ?_
        exact qFO (qA [0, 1, 2, 3, 4, 5, 6, 19, 20, 21, 22, 23, 24, 25, 26])
     ·have hR := hti htk h2s
      rw [tick0] at hR
      have hTE := impl_tickEnd { e with now := e.now + 1, bucket := filled e.bucket, halfs := younger e.halfs (e.now + 1), out := anew e.out } [] hsm0 hat (by simp)
      rw [← hR] at hTE
      refine qX ?_
      refine qK (hTE) [some (9, none), some (10, none), some (11, none), some (17, none), some (13, none), some (14, none), some (15, none), none] ?_
      exact qFO (qA [0, 1, 2, 3, 4, 5, 6, 18, 19, 20, 21, 22, 23, 24, 25])
  ·rw [hf (by rw [hok]; simp [h2])]
   refine qX ?_
   exact qFO [some (0, none), some (1, none), some (2, none), some (3, none), some (4, none), some (5, none), some (6, none), some (9, none), some (10, none), some (11, none), some (12, none), some (13, none), some (14, none), some (15, none), none]
 ·rw [hf (by rw [hok]; simp [h1])]
  refine qX ?_
  exact qFO [some (0, none), some (1, none), some (2, none), some (3, none), some (4, none), some (5, none), some (6, none), some (9, none), some (10, none), some (11, none), some (12, none), some (13, none), some (14, none), some (15, none), none]
end
section
open Go.RowKit

theorem impl_acts3_1 (w : WorldD) (pos many : Int) (text : List UInt8) (ad : AddrD) (le : LetterD) (hw : SmallD w) (htx : text.length ≤ 1048576) :
  CallA Tryz.prog 18 [.sc (.pt 21 0 0), .ag (ActD.cs ⟨3, 1, pos, many, text, ad, le⟩)] (w.hp true ++ [some ⟨[w.cs 0], 61, 47, true, false⟩]) (.sc (.int .i64 0))
  ([none, none, none, none, none, none, none, none, none, none, none, none, none, none, none, none, none, none, none, none, none, some ⟨[WorldD.cs (postL 1 { w with a := (tick w.a).1 } (tick w.a).2) 22], 61, 47, true, false⟩] ++ WorldD.hp (postL 1 { w with a := (tick w.a).1 } (tick w.a).2) true) := by
 have q1 := hw.s.wa
 have q2 := hw.s.wb
 have q3 := hw.s.ra
 have q4 := hw.s.rb
 have hX := impl_Tick w.a hw.p.s.a hw.oa
 have hsm := tick_small hw.p.s.a
 have hlen := tick_len w.a
 have hEA : CallA Tryz.prog 38 [.ag (w.cs 0), .sc (.int .i64 1)] (w.hp false) (.ag (w.a.cs 21)) (w.hp false ++ w.a.hp true) := impl_EndAt w 1 hw.p.s.a.own hw.p.s.a.far hw.p.s.a.subs hw.p.s.a.halfs hw.p.s.a.list hw.p.s.a.done hw.p.s.a.over hw.p.s.b.own hw.p.s.b.far hw.p.s.b.subs hw.p.s.b.halfs hw.p.s.b.list hw.p.s.b.done hw.p.s.b.over
 obtain ⟨pr, hpr⟩ : ∃ p, p = tick w.a := ⟨_, rfl⟩
 rw [← hpr] at hX hsm hlen ⊢
 obtain ⟨e1, l1⟩ := pr
 dsimp only at hX hsm hlen ⊢
 have hset := impl_set1 w e1
 have hpost := impl_post1 { w with a := e1 } l1 ⟨hw.p.s.bag, hw.p.s.past, hw.p.s.keys, hw.p.s.tags, hw.p.s.nums, hw.p.s.ansA, hw.p.s.ansB⟩ (by first | omega | simp)
 have hends := postL_ends (side := 1) (l := l1) (w := { w with a := e1 })
 obtain ⟨R, hR⟩ : ∃ R, R = postL 1 { w with a := e1 } l1 := ⟨_, rfl⟩
 rw [← hR] at hpost hends ⊢
 clear hR
 obtain ⟨ra, rb, bag, past, wA, wB, rA, rB, known, nums, nsA, nsB⟩ := R
 obtain ⟨keys, tags⟩ := known
 dsimp only at hends
 obtain ⟨g1, g2, g3, g4, g5, g6⟩ := hends
 replace g1 := g1.symm
 replace g2 := g2.symm
 replace g3 := g3.symm
 replace g4 := g4.symm
 replace g5 := g5.symm
 replace g6 := g6.symm
 subst g1 g2 g3 g4 g5 g6
 refine callA_ofO Tryz.func18 (by kernel_rfl) rfl fun E hE => run_den 400 ?_
 simp (disch := omega) only [Tryz.ntmps18, Tryz.results18, go_sem, Nat.reduceEqDiff, Nat.reduceAdd, Nat.reduceSub, Int.reduceAdd, Int.reduceSub, Int.reduceToNat]
 refine den_drawX [(5, 6)] [] [[0, 1, 2, 3, 4, 5, 6, 7], [0, 1, 2, 3, 4, 6, 5, 7]] 22 hE (fun s => s.at [13, 14, 15, 16, 17, 18] [(5, .sc (.pt 30 0 0))] (s.hp ++ (w.a.hp true ++ [some ⟨[w.a.cs 23], 25, 41, true, false⟩]))) (by kernel_rfl) (by (try simp (disch := omega) only [go_sem, List.length_set, Nat.reduceEqDiff, Nat.reduceAdd, Nat.reduceSub, Int.reduceAdd, Int.reduceSub, Int.reduceToNat]) <;> omega) (by kernel_rfl) ?_ (run_den 400 ?_)
 rotate_left
 rotate_right
 simp only [allDn]
 refine ⟨runD_den 400 ?_, runD_den 400 ?_⟩
 ·simp (disch := omega) only [go_sem]
  refine den_callD (by (try simp (disch := omega) only [go_sem, List.length_set, Nat.reduceEqDiff, Nat.reduceAdd, Nat.reduceSub, Int.reduceAdd, Int.reduceSub, Int.reduceToNat]) <;> omega) (hEA) [some (0, none), some (1, none), some (2, none), some (3, none), some (4, none), some (5, none), some (6, none), some (7, none), some (8, none), some (9, none), some (10, none), some (11, none), some (12, none), some (13, none), some (14, none), some (15, none), some (16, none), some (17, none), some (18, none), some (19, none), some (20, none)] (by simp only [go_sem]; repeat' first | rfl | constructor | (rw [List.map_set]; rfl) | (simp [List.map_take, List.map_drop] <;> omega)) (by rfl) (by rfl) (runD_den 400 ?_)
  simp (disch := omega) only [go_sem, Nat.reduceEqDiff, Nat.reduceAdd, Nat.reduceSub, Int.reduceAdd, Int.reduceSub, Int.reduceToNat]
  refine ⟨by (try simp (disch := omega) only [go_sem, List.length_set, Nat.reduceEqDiff, Nat.reduceAdd, Nat.reduceSub, Int.reduceAdd, Int.reduceSub, Int.reduceToNat]) <;> omega, [some (0, none), some (1, none), some (2, none), some (3, none), some (4, none), some (5, none), some (6, none), some (7, none), some (8, none), some (9, none), some (10, none), some (11, none), some (12, none), some (13, none), some (14, none), some (15, none), some (16, none), some (17, none), some (18, none), some (19, none), some (20, none), some (21, none), some (22, none), some (23, none), some (24, none), some (25, none), some (26, none), some (27, none), some (28, none), some (29, none), some (30, none)], weak_mkO (by rfl) (by rfl) ?_⟩
  try simp (disch := omega) only [go_sem, Nat.reduceEqDiff, Nat.reduceAdd, Nat.reduceSub, Int.reduceAdd, Int.reduceSub, Int.reduceToNat]
 ·simp (disch := omega) only [go_sem]
  refine den_callD (by (try simp (disch := omega) only [go_sem, List.length_set, Nat.reduceEqDiff, Nat.reduceAdd, Nat.reduceSub, Int.reduceAdd, Int.reduceSub, Int.reduceToNat]) <;> omega) (hEA) [some (0, none), some (1, none), some (2, none), some (3, none), some (4, none), some (5, none), some (6, none), some (7, none), some (8, none), some (9, none), some (10, none), some (11, none), some (12, none), some (13, none), some (14, none), some (15, none), some (16, none), some (17, none), some (18, none), some (19, none), some (20, none)] (by simp only [go_sem]; repeat' first | rfl | constructor | (rw [List.map_set]; rfl) | (simp [List.map_take, List.map_drop] <;> omega)) (by rfl) (by rfl) (runD_den 400 ?_)
  simp (disch := omega) only [go_sem, Nat.reduceEqDiff, Nat.reduceAdd, Nat.reduceSub, Int.reduceAdd, Int.reduceSub, Int.reduceToNat]
  refine ⟨by (try simp (disch := omega) only [go_sem, List.length_set, Nat.reduceEqDiff, Nat.reduceAdd, Nat.reduceSub, Int.reduceAdd, Int.reduceSub, Int.reduceToNat]) <;> omega, [some (0, none), some (1, none), some (2, none), some (3, none), some (4, none), some (5, none), some (6, none), some (7, none), some (8, none), some (9, none), some (10, none), some (11, none), some (12, none), some (13, none), some (14, none), some (15, none), some (16, none), some (17, none), some (18, none), some (19, none), some (20, none), some (21, none), some (22, none), some (24, none), some (25, none), some (26, none), some (27, none), some (28, none), some (29, none), some (30, none), some (23, none)], weak_mkO (by rfl) (by rfl) ?_⟩
  try simp (disch := omega) only [go_sem, Nat.reduceEqDiff, Nat.reduceAdd, Nat.reduceSub, Int.reduceAdd, Int.reduceSub, Int.reduceToNat]
 try simp (disch := omega) only [go_sem, Nat.reduceEqDiff, Nat.reduceAdd, Nat.reduceSub, Int.reduceAdd, Int.reduceSub, Int.reduceToNat]
 refine den_call (by (try simp (disch := omega) only [go_sem, List.length_set, Nat.reduceEqDiff, Nat.reduceAdd, Nat.reduceSub, Int.reduceAdd, Int.reduceSub, Int.reduceToNat]) <;> omega) (hX) [some (23, none), some (24, none), some (25, none), some (26, none), some (27, none), some (28, none), some (29, none)] (by simp only [go_sem]; repeat' first | rfl | constructor | (rw [List.map_set]; rfl) | (simp [List.map_take, List.map_drop] <;> omega)) (by rfl) (run_den 400 ?_)
 simp (disch := omega) only [go_sem, Nat.reduceEqDiff, Nat.reduceAdd, Nat.reduceSub, Int.reduceAdd, Int.reduceSub, Int.reduceToNat]
 refine den_call (by (try simp (disch := omega) only [go_sem, List.length_set, Nat.reduceEqDiff, Nat.reduceAdd, Nat.reduceSub, Int.reduceAdd, Int.reduceSub, Int.reduceToNat]) <;> omega) (hset) [some (0, none), some (1, none), some (2, none), some (3, none), some (4, none), some (5, none), some (6, none), some (7, none), some (8, none), some (9, none), some (10, none), some (11, none), some (12, none), some (13, none), some (14, none), some (15, none), some (16, none), some (17, none), some (18, none), some (19, none), some (20, none), some (31, none), some (32, none), some (33, none), some (34, none), some (35, none), some (36, none), some (37, none), some (21, none)] (by simp only [go_sem]; repeat' first | rfl | constructor | (rw [List.map_set]; rfl) | (simp [List.map_take, List.map_drop] <;> omega)) (by rfl) (run_den 400 ?_)
 simp (disch := omega) only [go_sem, Nat.reduceEqDiff, Nat.reduceAdd, Nat.reduceSub, Int.reduceAdd, Int.reduceSub, Int.reduceToNat]
 refine den_call (by (try simp (disch := omega) only [go_sem, List.length_set, Nat.reduceEqDiff, Nat.reduceAdd, Nat.reduceSub, Int.reduceAdd, Int.reduceSub, Int.reduceToNat]) <;> omega) (hpost) [some (31, none), some (32, none), some (33, none), some (34, none), some (35, none), some (36, none), some (37, none), some (7, none), some (8, none), some (9, none), some (10, none), some (11, none), some (12, none), some (13, none), some (14, none), some (15, none), some (16, none), some (17, none), some (18, none), some (19, none), some (20, none), some (21, none), some (38, none)] (by simp only [go_sem]; repeat' first | rfl | constructor | (rw [List.map_set]; rfl) | (simp [List.map_take, List.map_drop] <;> omega)) (by rfl) (run_den 400 ?_)
 simp (disch := omega) only [go_sem, Nat.reduceEqDiff, Nat.reduceAdd, Nat.reduceSub, Int.reduceAdd, Int.reduceSub, Int.reduceToNat]
 refine den_finO [some (0, none), some (1, none), some (2, none), some (3, none), some (4, none), some (5, none), some (6, none), some (7, none), some (8, none), some (9, none), some (10, none), some (11, none), some (12, none), some (13, none), some (14, none), some (15, none), some (16, none), some (17, none), some (18, none), some (19, none), some (20, none), some (21, none), some (31, none), some (32, none), some (33, none), some (34, none), some (35, none), some (36, none), some (37, none), some (7, none), some (8, none), some (9, none), some (10, none), some (11, none), some (12, none), some (13, none), some (39, none), some (40, none), some (41, none), some (42, none), some (43, none), some (44, none), some (45, none)] (by (try simp (disch := omega) only [go_sem, List.length_set, Nat.reduceEqDiff, Nat.reduceAdd, Nat.reduceSub, Int.reduceAdd, Int.reduceSub, Int.reduceToNat]) <;> omega) _ (by simp only [go_sem]; rfl) (by rfl) (by rfl) ?_
 simp (disch := omega) only [go_sem, Nat.reduceEqDiff, Nat.reduceAdd, Nat.reduceSub, Int.reduceAdd, Int.reduceSub, Int.reduceToNat]
theorem impl_acts3_2 (w : WorldD) (pos many : Int) (text : List UInt8) (ad : AddrD) (le : LetterD) (hw : SmallD w) (htx : text.length ≤ 1048576) :
  CallA Tryz.prog 18 [.sc (.pt 21 0 0), .ag (ActD.cs ⟨3, 2, pos, many, text, ad, le⟩)] (w.hp true ++ [some ⟨[w.cs 0], 61, 47, true, false⟩]) (.sc (.int .i64 0))
  ([none, none, none, none, none, none, none, none, none, none, none, none, none, none, none, none, none, none, none, none, none, some ⟨[WorldD.cs (postL 2 { w with b := (tick w.b).1 } (tick w.b).2) 22], 61, 47, true, false⟩] ++ WorldD.hp (postL 2 { w with b := (tick w.b).1 } (tick w.b).2) true) := by
 have q1 := hw.s.wa
 have q2 := hw.s.wb
 have q3 := hw.s.ra
 have q4 := hw.s.rb
 have hX := impl_Tick w.b hw.p.s.b hw.ob
 have hsm := tick_small hw.p.s.b
 have hlen := tick_len w.b
 have hEA : CallA Tryz.prog 38 [.ag (w.cs 0), .sc (.int .i64 2)] (w.hp false) (.ag (w.b.cs 21)) (w.hp false ++ w.b.hp true) := impl_EndAt w 2 hw.p.s.a.own hw.p.s.a.far hw.p.s.a.subs hw.p.s.a.halfs hw.p.s.a.list hw.p.s.a.done hw.p.s.a.over hw.p.s.b.own hw.p.s.b.far hw.p.s.b.subs hw.p.s.b.halfs hw.p.s.b.list hw.p.s.b.done hw.p.s.b.over
 obtain ⟨pr, hpr⟩ : ∃ p, p = tick w.b := ⟨_, rfl⟩
 rw [← hpr] at hX hsm hlen ⊢
 obtain ⟨e1, l1⟩ := pr
 dsimp only at hX hsm hlen ⊢
 have hset := impl_set2 w e1
 have hpost := impl_post2 { w with b := e1 } l1 ⟨hw.p.s.bag, hw.p.s.past, hw.p.s.keys, hw.p.s.tags, hw.p.s.nums, hw.p.s.ansA, hw.p.s.ansB⟩ (by first | omega | simp)
 have hends := postL_ends (side := 2) (l := l1) (w := { w with b := e1 })
 obtain ⟨R, hR⟩ : ∃ R, R = postL 2 { w with b := e1 } l1 := ⟨_, rfl⟩
 rw [← hR] at hpost hends ⊢
 clear hR
 obtain ⟨ra, rb, bag, past, wA, wB, rA, rB, known, nums, nsA, nsB⟩ := R
 obtain ⟨keys, tags⟩ := known
 dsimp only at hends
 obtain ⟨g1, g2, g3, g4, g5, g6⟩ := hends
 replace g1 := g1.symm
 replace g2 := g2.symm
 replace g3 := g3.symm
 replace g4 := g4.symm
 replace g5 := g5.symm
 replace g6 := g6.symm
 subst g1 g2 g3 g4 g5 g6
 refine callA_ofO Tryz.func18 (by kernel_rfl) rfl fun E hE => run_den 400 ?_
 simp (disch := omega) only [Tryz.ntmps18, Tryz.results18, go_sem, Nat.reduceEqDiff, Nat.reduceAdd, Nat.reduceSub, Int.reduceAdd, Int.reduceSub, Int.reduceToNat]
 refine den_drawX [(5, 6)] [] [[0, 1, 2, 3, 4, 5, 6, 7], [0, 1, 2, 3, 4, 6, 5, 7]] 22 hE (fun s => s.at [13, 14, 15, 16, 17, 18] [(5, .sc (.pt 30 0 0))] (s.hp ++ (w.b.hp true ++ [some ⟨[w.b.cs 23], 25, 41, true, false⟩]))) (by kernel_rfl) (by (try simp (disch := omega) only [go_sem, List.length_set, Nat.reduceEqDiff, Nat.reduceAdd, Nat.reduceSub, Int.reduceAdd, Int.reduceSub, Int.reduceToNat]) <;> omega) (by kernel_rfl) ?_ (run_den 400 ?_)
 rotate_left
 rotate_right
 simp only [allDn]
 refine ⟨runD_den 400 ?_, runD_den 400 ?_⟩
 ·simp (disch := omega) only [go_sem]
  refine den_callD (by (try simp (disch := omega) only [go_sem, List.length_set, Nat.reduceEqDiff, Nat.reduceAdd, Nat.reduceSub, Int.reduceAdd, Int.reduceSub, Int.reduceToNat]) <;> omega) (hEA) [some (0, none), some (1, none), some (2, none), some (3, none), some (4, none), some (5, none), some (6, none), some (7, none), some (8, none), some (9, none), some (10, none), some (11, none), some (12, none), some (13, none), some (14, none), some (15, none), some (16, none), some (17, none), some (18, none), some (19, none), some (20, none)] (by simp only [go_sem]; repeat' first | rfl | constructor | (rw [List.map_set]; rfl) | (simp [List.map_take, List.map_drop] <;> omega)) (by rfl) (by rfl) (runD_den 400 ?_)
  simp (disch := omega) only [go_sem, Nat.reduceEqDiff, Nat.reduceAdd, Nat.reduceSub, Int.reduceAdd, Int.reduceSub, Int.reduceToNat]
  refine ⟨by (try simp (disch := omega) only [go_sem, List.length_set, Nat.reduceEqDiff, Nat.reduceAdd, Nat.reduceSub, Int.reduceAdd, Int.reduceSub, Int.reduceToNat]) <;> omega, [some (0, none), some (1, none), some (2, none), some (3, none), some (4, none), some (5, none), some (6, none), some (7, none), some (8, none), some (9, none), some (10, none), some (11, none), some (12, none), some (13, none), some (14, none), some (15, none), some (16, none), some (17, none), some (18, none), some (19, none), some (20, none), some (21, none), some (22, none), some (23, none), some (24, none), some (25, none), some (26, none), some (27, none), some (28, none), some (29, none), some (30, none)], weak_mkO (by rfl) (by rfl) ?_⟩
  try simp (disch := omega) only [go_sem, Nat.reduceEqDiff, Nat.reduceAdd, Nat.reduceSub, Int.reduceAdd, Int.reduceSub, Int.reduceToNat]
 ·simp (disch := omega) only [go_sem]
  refine den_callD (by (try simp (disch := omega) only [go_sem, List.length_set, Nat.reduceEqDiff, Nat.reduceAdd, Nat.reduceSub, Int.reduceAdd, Int.reduceSub, Int.reduceToNat]) <;> omega) (hEA) [some (0, none), some (1, none), some (2, none), some (3, none), some (4, none), some (5, none), some (6, none), some (7, none), some (8, none), some (9, none), some (10, none), some (11, none), some (12, none), some (13, none), some (14, none), some (15, none), some (16, none), some (17, none), some (18, none), some (19, none), some (20, none)] (by simp only [go_sem]; repeat' first | rfl | constructor | (rw [List.map_set]; rfl) | (simp [List.map_take, List.map_drop] <;> omega)) (by rfl) (by rfl) (runD_den 400 ?_)
  simp (disch := omega) only [go_sem, Nat.reduceEqDiff, Nat.reduceAdd, Nat.reduceSub, Int.reduceAdd, Int.reduceSub, Int.reduceToNat]
  refine ⟨by (try simp (disch := omega) only [go_sem, List.length_set, Nat.reduceEqDiff, Nat.reduceAdd, Nat.reduceSub, Int.reduceAdd, Int.reduceSub, Int.reduceToNat]) <;> omega, [some (0, none), some (1, none), some (2, none), some (3, none), some (4, none), some (5, none), some (6, none), some (7, none), some (8, none), some (9, none), some (10, none), some (11, none), some (12, none), some (13, none), some (14, none), some (15, none), some (16, none), some (17, none), some (18, none), some (19, none), some (20, none), some (21, none), some (22, none), some (24, none), some (25, none), some (26, none), some (27, none), some (28, none), some (29, none), some (30, none), some (23, none)], weak_mkO (by rfl) (by rfl) ?_⟩
  try simp (disch := omega) only [go_sem, Nat.reduceEqDiff, Nat.reduceAdd, Nat.reduceSub, Int.reduceAdd, Int.reduceSub, Int.reduceToNat]
 try simp (disch := omega) only [go_sem, Nat.reduceEqDiff, Nat.reduceAdd, Nat.reduceSub, Int.reduceAdd, Int.reduceSub, Int.reduceToNat]
 refine den_call (by (try simp (disch := omega) only [go_sem, List.length_set, Nat.reduceEqDiff, Nat.reduceAdd, Nat.reduceSub, Int.reduceAdd, Int.reduceSub, Int.reduceToNat]) <;> omega) (hX) [some (23, none), some (24, none), some (25, none), some (26, none), some (27, none), some (28, none), some (29, none)] (by simp only [go_sem]; repeat' first | rfl | constructor | (rw [List.map_set]; rfl) | (simp [List.map_take, List.map_drop] <;> omega)) (by rfl) (run_den 400 ?_)
 simp (disch := omega) only [go_sem, Nat.reduceEqDiff, Nat.reduceAdd, Nat.reduceSub, Int.reduceAdd, Int.reduceSub, Int.reduceToNat]
 refine den_call (by (try simp (disch := omega) only [go_sem, List.length_set, Nat.reduceEqDiff, Nat.reduceAdd, Nat.reduceSub, Int.reduceAdd, Int.reduceSub, Int.reduceToNat]) <;> omega) (hset) [some (0, none), some (1, none), some (2, none), some (3, none), some (4, none), some (5, none), some (6, none), some (7, none), some (8, none), some (9, none), some (10, none), some (11, none), some (12, none), some (13, none), some (14, none), some (15, none), some (16, none), some (17, none), some (18, none), some (19, none), some (20, none), some (31, none), some (32, none), some (33, none), some (34, none), some (35, none), some (36, none), some (37, none), some (21, none)] (by simp only [go_sem]; repeat' first | rfl | constructor | (rw [List.map_set]; rfl) | (simp [List.map_take, List.map_drop] <;> omega)) (by rfl) (run_den 400 ?_)
 simp (disch := omega) only [go_sem, Nat.reduceEqDiff, Nat.reduceAdd, Nat.reduceSub, Int.reduceAdd, Int.reduceSub, Int.reduceToNat]
 refine den_call (by (try simp (disch := omega) only [go_sem, List.length_set, Nat.reduceEqDiff, Nat.reduceAdd, Nat.reduceSub, Int.reduceAdd, Int.reduceSub, Int.reduceToNat]) <;> omega) (hpost) [some (0, none), some (1, none), some (2, none), some (3, none), some (4, none), some (5, none), some (6, none), some (31, none), some (32, none), some (33, none), some (34, none), some (35, none), some (36, none), some (37, none), some (14, none), some (15, none), some (16, none), some (17, none), some (18, none), some (19, none), some (20, none), some (21, none), some (38, none)] (by simp only [go_sem]; repeat' first | rfl | constructor | (rw [List.map_set]; rfl) | (simp [List.map_take, List.map_drop] <;> omega)) (by rfl) (run_den 400 ?_)
 simp (disch := omega) only [go_sem, Nat.reduceEqDiff, Nat.reduceAdd, Nat.reduceSub, Int.reduceAdd, Int.reduceSub, Int.reduceToNat]
 refine den_finO [some (0, none), some (1, none), some (2, none), some (3, none), some (4, none), some (5, none), some (6, none), some (7, none), some (8, none), some (9, none), some (10, none), some (11, none), some (12, none), some (13, none), some (14, none), some (15, none), some (16, none), some (17, none), some (18, none), some (19, none), some (20, none), some (21, none), some (0, none), some (1, none), some (2, none), some (3, none), some (4, none), some (5, none), some (6, none), some (31, none), some (32, none), some (33, none), some (34, none), some (35, none), some (36, none), some (37, none), some (39, none), some (40, none), some (41, none), some (42, none), some (43, none), some (44, none), some (45, none)] (by (try simp (disch := omega) only [go_sem, List.length_set, Nat.reduceEqDiff, Nat.reduceAdd, Nat.reduceSub, Int.reduceAdd, Int.reduceSub, Int.reduceToNat]) <;> omega) _ (by simp only [go_sem]; rfl) (by rfl) (by rfl) ?_
 simp (disch := omega) only [go_sem, Nat.reduceEqDiff, Nat.reduceAdd, Nat.reduceSub, Int.reduceAdd, Int.reduceSub, Int.reduceToNat]
end
section
open Go.RowKit

end
section
open Go.RowKit

end
section
open Go.RowKit

end
section
open Go.RowKit

theorem impl_acts5b_1 (w : WorldD) (pos many : Int) (text : List UInt8) (ad : AddrD) (le : LetterD) (hw : SmallD w) (hbad : ¬ sideAt ad.addr = 1 ∨ (addOwn w.a ad).2 = false) :
  CallA Tryz.prog 18 [.sc (.pt 21 0 0), .ag (ActD.cs ⟨5, 1, pos, many, text, ad, le⟩)] (w.hp true ++ [some ⟨[w.cs 0], 61, 47, true, false⟩]) (.sc (.int .i64 1))
  ([none, none, none, none, none, none, none, none, none, none, none, none, none, none, none, none, none, none, none, none, none, some ⟨[WorldD.cs w 22], 61, 47, true, false⟩] ++ WorldD.hp w true) := by
 have hX := impl_AddOwn w.a ad hw.p.s.a
 have hsm := addOwn_small (a := ad) hw.p.s.a
 have hEA : CallA Tryz.prog 38 [.ag (w.cs 0), .sc (.int .i64 1)] (w.hp false) (.ag (w.a.cs 21)) (w.hp false ++ w.a.hp true) := impl_EndAt w 1 hw.p.s.a.own hw.p.s.a.far hw.p.s.a.subs hw.p.s.a.halfs hw.p.s.a.list hw.p.s.a.done hw.p.s.a.over hw.p.s.b.own hw.p.s.b.far hw.p.s.b.subs hw.p.s.b.halfs hw.p.s.b.list hw.p.s.b.done hw.p.s.b.over
 obtain ⟨pr, hpr⟩ : ∃ p, p = addOwn w.a ad := ⟨_, rfl⟩
 rw [← hpr] at hX hsm hbad
 obtain ⟨e1, ok1⟩ := pr
 dsimp only at hX hsm hbad
 have hSd := impl_SideAt ad.addr
 generalize sideAt ad.addr = sd at *
 refine callA_ofO Tryz.func18 (by kernel_rfl) rfl fun E hE => run_den 400 ?_
 simp (disch := omega) only [Tryz.ntmps18, Tryz.results18, go_sem, Nat.reduceEqDiff, Nat.reduceAdd, Nat.reduceSub, Int.reduceAdd, Int.reduceSub, Int.reduceToNat]
 refine den_drawX [(5, 6)] [] [[0, 1, 2, 3, 4, 5, 6, 7], [0, 1, 2, 3, 4, 6, 5, 7]] 22 hE (fun s => s.at [13, 14, 15, 16, 17, 18] [(5, .sc (.pt 30 0 0))] (s.hp ++ (w.a.hp true ++ [some ⟨[w.a.cs 23], 25, 41, true, false⟩]))) (by kernel_rfl) (by (try simp (disch := omega) only [go_sem, List.length_set, Nat.reduceEqDiff, Nat.reduceAdd, Nat.reduceSub, Int.reduceAdd, Int.reduceSub, Int.reduceToNat]) <;> omega) (by kernel_rfl) ?_ (run_den 400 ?_)
 rotate_left
 rotate_right
 simp only [allDn]
 refine ⟨runD_den 400 ?_, runD_den 400 ?_⟩
 ·simp (disch := omega) only [go_sem]
  refine den_callD (by (try simp (disch := omega) only [go_sem, List.length_set, Nat.reduceEqDiff, Nat.reduceAdd, Nat.reduceSub, Int.reduceAdd, Int.reduceSub, Int.reduceToNat]) <;> omega) (hEA) [some (0, none), some (1, none), some (2, none), some (3, none), some (4, none), some (5, none), some (6, none), some (7, none), some (8, none), some (9, none), some (10, none), some (11, none), some (12, none), some (13, none), some (14, none), some (15, none), some (16, none), some (17, none), some (18, none), some (19, none), some (20, none)] (by simp only [go_sem]; repeat' first | rfl | constructor | (rw [List.map_set]; rfl) | (simp [List.map_take, List.map_drop] <;> omega)) (by rfl) (by rfl) (runD_den 400 ?_)
  simp (disch := omega) only [go_sem, Nat.reduceEqDiff, Nat.reduceAdd, Nat.reduceSub, Int.reduceAdd, Int.reduceSub, Int.reduceToNat]
  refine ⟨by (try simp (disch := omega) only [go_sem, List.length_set, Nat.reduceEqDiff, Nat.reduceAdd, Nat.reduceSub, Int.reduceAdd, Int.reduceSub, Int.reduceToNat]) <;> omega, [some (0, none), some (1, none), some (2, none), some (3, none), some (4, none), some (5, none), some (6, none), some (7, none), some (8, none), some (9, none), some (10, none), some (11, none), some (12, none), some (13, none), some (14, none), some (15, none), some (16, none), some (17, none), some (18, none), some (19, none), some (20, none), some (21, none), some (22, none), some (23, none), some (24, none), some (25, none), some (26, none), some (27, none), some (28, none), some (29, none), some (30, none)], weak_mkO (by rfl) (by rfl) ?_⟩
  try simp (disch := omega) only [go_sem, Nat.reduceEqDiff, Nat.reduceAdd, Nat.reduceSub, Int.reduceAdd, Int.reduceSub, Int.reduceToNat]
 ·simp (disch := omega) only [go_sem]
  refine den_callD (by (try simp (disch := omega) only [go_sem, List.length_set, Nat.reduceEqDiff, Nat.reduceAdd, Nat.reduceSub, Int.reduceAdd, Int.reduceSub, Int.reduceToNat]) <;> omega) (hEA) [some (0, none), some (1, none), some (2, none), some (3, none), some (4, none), some (5, none), some (6, none), some (7, none), some (8, none), some (9, none), some (10, none), some (11, none), some (12, none), some (13, none), some (14, none), some (15, none), some (16, none), some (17, none), some (18, none), some (19, none), some (20, none)] (by simp only [go_sem]; repeat' first | rfl | constructor | (rw [List.map_set]; rfl) | (simp [List.map_take, List.map_drop] <;> omega)) (by rfl) (by rfl) (runD_den 400 ?_)
  simp (disch := omega) only [go_sem, Nat.reduceEqDiff, Nat.reduceAdd, Nat.reduceSub, Int.reduceAdd, Int.reduceSub, Int.reduceToNat]
  refine ⟨by (try simp (disch := omega) only [go_sem, List.length_set, Nat.reduceEqDiff, Nat.reduceAdd, Nat.reduceSub, Int.reduceAdd, Int.reduceSub, Int.reduceToNat]) <;> omega, [some (0, none), some (1, none), some (2, none), some (3, none), some (4, none), some (5, none), some (6, none), some (7, none), some (8, none), some (9, none), some (10, none), some (11, none), some (12, none), some (13, none), some (14, none), some (15, none), some (16, none), some (17, none), some (18, none), some (19, none), some (20, none), some (21, none), some (22, none), some (24, none), some (25, none), some (26, none), some (27, none), some (28, none), some (29, none), some (30, none), some (23, none)], weak_mkO (by rfl) (by rfl) ?_⟩
  try simp (disch := omega) only [go_sem, Nat.reduceEqDiff, Nat.reduceAdd, Nat.reduceSub, Int.reduceAdd, Int.reduceSub, Int.reduceToNat]
 try simp (disch := omega) only [go_sem, Nat.reduceEqDiff, Nat.reduceAdd, Nat.reduceSub, Int.reduceAdd, Int.reduceSub, Int.reduceToNat]
 refine den_call (by (try simp (disch := omega) only [go_sem, List.length_set, Nat.reduceEqDiff, Nat.reduceAdd, Nat.reduceSub, Int.reduceAdd, Int.reduceSub, Int.reduceToNat]) <;> omega) (hX) [some (23, none), some (24, none), some (25, none), some (26, none), some (27, none), some (28, none), some (29, none)] (by simp only [go_sem]; repeat' first | rfl | constructor | (rw [List.map_set]; rfl) | (simp [List.map_take, List.map_drop] <;> omega)) (by rfl) (run_den 400 ?_)
 simp (disch := omega) only [go_sem, Nat.reduceEqDiff, Nat.reduceAdd, Nat.reduceSub, Int.reduceAdd, Int.reduceSub, Int.reduceToNat]
 by_cases h0 : sd = 1
 ·subst h0
  have hb : ok1 = false := by rcases hbad with h | h; exact absurd rfl h; exact h
  subst hb
  refine den_draw1 [0, 1, 2, 4, 5, 3, 6, 7, 8, 9, 10] (by kernel_rfl) (by (try simp (disch := omega) only [go_sem, List.length_set, Nat.reduceEqDiff, Nat.reduceAdd, Nat.reduceSub, Int.reduceAdd, Int.reduceSub, Int.reduceToNat]) <;> omega) (by kernel_rfl) (runD_den 400 ?_)
  simp (disch := omega) only [go_sem, Nat.reduceEqDiff, Nat.reduceAdd, Nat.reduceSub, Int.reduceAdd, Int.reduceSub, Int.reduceToNat]
  refine den_callD (by (try simp (disch := omega) only [go_sem, List.length_set, Nat.reduceEqDiff, Nat.reduceAdd, Nat.reduceSub, Int.reduceAdd, Int.reduceSub, Int.reduceToNat]) <;> omega) (hSd) [] (by simp only [go_sem]; repeat' first | rfl | constructor | (rw [List.map_set]; rfl) | (simp [List.map_take, List.map_drop] <;> omega)) (by rfl) (by rfl) (runD_den 400 ?_)
  simp (disch := omega) only [go_sem, Nat.reduceEqDiff, Nat.reduceAdd, Nat.reduceSub, Int.reduceAdd, Int.reduceSub, Int.reduceToNat]
  refine ⟨by (try simp (disch := omega) only [go_sem, List.length_set, Nat.reduceEqDiff, Nat.reduceAdd, Nat.reduceSub, Int.reduceAdd, Int.reduceSub, Int.reduceToNat]) <;> omega, run_den 400 ?_⟩
  try simp (disch := omega) only [go_sem, Nat.reduceEqDiff, Nat.reduceAdd, Nat.reduceSub, Int.reduceAdd, Int.reduceSub, Int.reduceToNat]
  refine den_finO [some (0, none), some (1, none), some (2, none), some (3, none), some (4, none), some (5, none), some (6, none), some (7, none), some (8, none), some (9, none), some (10, none), some (11, none), some (12, none), some (13, none), some (14, none), some (15, none), some (16, none), some (17, none), some (18, none), some (19, none), some (20, none), some (21, none), some (0, none), some (1, none), some (2, none), some (3, none), some (4, none), some (5, none), some (6, none), some (7, none), some (8, none), some (9, none), some (10, none), some (11, none), some (12, none), some (13, none), some (14, none), some (15, none), some (16, none), some (17, none), some (18, none), some (19, none), some (20, none)] (by (try simp (disch := omega) only [go_sem, List.length_set, Nat.reduceEqDiff, Nat.reduceAdd, Nat.reduceSub, Int.reduceAdd, Int.reduceSub, Int.reduceToNat]) <;> omega) _ (by simp only [go_sem]; rfl) (by rfl) (by rfl) ?_
  simp (disch := omega) only [go_sem, Nat.reduceEqDiff, Nat.reduceAdd, Nat.reduceSub, Int.reduceAdd, Int.reduceSub, Int.reduceToNat]
 ·refine den_draw1 [0, 1, 2, 4, 5, 3, 6, 7, 8, 9, 10] (by kernel_rfl) (by (try simp (disch := omega) only [go_sem, List.length_set, Nat.reduceEqDiff, Nat.reduceAdd, Nat.reduceSub, Int.reduceAdd, Int.reduceSub, Int.reduceToNat]) <;> omega) (by kernel_rfl) (runD_den 400 ?_)
  simp (disch := omega) only [go_sem, Nat.reduceEqDiff, Nat.reduceAdd, Nat.reduceSub, Int.reduceAdd, Int.reduceSub, Int.reduceToNat]
  refine den_callD (by (try simp (disch := omega) only [go_sem, List.length_set, Nat.reduceEqDiff, Nat.reduceAdd, Nat.reduceSub, Int.reduceAdd, Int.reduceSub, Int.reduceToNat]) <;> omega) (hSd) [] (by simp only [go_sem]; repeat' first | rfl | constructor | (rw [List.map_set]; rfl) | (simp [List.map_take, List.map_drop] <;> omega)) (by rfl) (by rfl) (runD_den 400 ?_)
  simp (disch := omega) only [go_sem, Nat.reduceEqDiff, Nat.reduceAdd, Nat.reduceSub, Int.reduceAdd, Int.reduceSub, Int.reduceToNat]
  refine ⟨by (try simp (disch := omega) only [go_sem, List.length_set, Nat.reduceEqDiff, Nat.reduceAdd, Nat.reduceSub, Int.reduceAdd, Int.reduceSub, Int.reduceToNat]) <;> omega, run_den 400 ?_⟩
  try simp (disch := omega) only [go_sem, Nat.reduceEqDiff, Nat.reduceAdd, Nat.reduceSub, Int.reduceAdd, Int.reduceSub, Int.reduceToNat]
  refine den_finO [some (0, none), some (1, none), some (2, none), some (3, none), some (4, none), some (5, none), some (6, none), some (7, none), some (8, none), some (9, none), some (10, none), some (11, none), some (12, none), some (13, none), some (14, none), some (15, none), some (16, none), some (17, none), some (18, none), some (19, none), some (20, none), some (21, none), some (0, none), some (1, none), some (2, none), some (3, none), some (4, none), some (5, none), some (6, none), some (7, none), some (8, none), some (9, none), some (10, none), some (11, none), some (12, none), some (13, none), some (14, none), some (15, none), some (16, none), some (17, none), some (18, none), some (19, none), some (20, none)] (by (try simp (disch := omega) only [go_sem, List.length_set, Nat.reduceEqDiff, Nat.reduceAdd, Nat.reduceSub, Int.reduceAdd, Int.reduceSub, Int.reduceToNat]) <;> omega) _ (by simp only [go_sem]; rfl) (by rfl) (by rfl) ?_
  simp (disch := omega) only [go_sem, Nat.reduceEqDiff, Nat.reduceAdd, Nat.reduceSub, Int.reduceAdd, Int.reduceSub, Int.reduceToNat]
theorem impl_acts5b_2 (w : WorldD) (pos many : Int) (text : List UInt8) (ad : AddrD) (le : LetterD) (hw : SmallD w) (hbad : ¬ sideAt ad.addr = 2 ∨ (addOwn w.b ad).2 = false) :
  CallA Tryz.prog 18 [.sc (.pt 21 0 0), .ag (ActD.cs ⟨5, 2, pos, many, text, ad, le⟩)] (w.hp true ++ [some ⟨[w.cs 0], 61, 47, true, false⟩]) (.sc (.int .i64 1))
  ([none, none, none, none, none, none, none, none, none, none, none, none, none, none, none, none, none, none, none, none, none, some ⟨[WorldD.cs w 22], 61, 47, true, false⟩] ++ WorldD.hp w true) := by
 have hX := impl_AddOwn w.b ad hw.p.s.b
 have hsm := addOwn_small (a := ad) hw.p.s.b
 have hEA : CallA Tryz.prog 38 [.ag (w.cs 0), .sc (.int .i64 2)] (w.hp false) (.ag (w.b.cs 21)) (w.hp false ++ w.b.hp true) := impl_EndAt w 2 hw.p.s.a.own hw.p.s.a.far hw.p.s.a.subs hw.p.s.a.halfs hw.p.s.a.list hw.p.s.a.done hw.p.s.a.over hw.p.s.b.own hw.p.s.b.far hw.p.s.b.subs hw.p.s.b.halfs hw.p.s.b.list hw.p.s.b.done hw.p.s.b.over
 obtain ⟨pr, hpr⟩ : ∃ p, p = addOwn w.b ad := ⟨_, rfl⟩
 rw [← hpr] at hX hsm hbad
 obtain ⟨e1, ok1⟩ := pr
 dsimp only at hX hsm hbad
 have hSd := impl_SideAt ad.addr
 generalize sideAt ad.addr = sd at *
 refine callA_ofO Tryz.func18 (by kernel_rfl) rfl fun E hE => run_den 400 ?_
 simp (disch := omega) only [Tryz.ntmps18, Tryz.results18, go_sem, Nat.reduceEqDiff, Nat.reduceAdd, Nat.reduceSub, Int.reduceAdd, Int.reduceSub, Int.reduceToNat]
 refine den_drawX [(5, 6)] [] [[0, 1, 2, 3, 4, 5, 6, 7], [0, 1, 2, 3, 4, 6, 5, 7]] 22 hE (fun s => s.at [13, 14, 15, 16, 17, 18] [(5, .sc (.pt 30 0 0))] (s.hp ++ (w.b.hp true ++ [some ⟨[w.b.cs 23], 25, 41, true, false⟩]))) (by kernel_rfl) (by (try simp (disch := omega) only [go_sem, List.length_set, Nat.reduceEqDiff, Nat.reduceAdd, Nat.reduceSub, Int.reduceAdd, Int.reduceSub, Int.reduceToNat]) <;> omega) (by kernel_rfl) ?_ (run_den 400 ?_)
 rotate_left
 rotate_right
 simp only [allDn]
 refine ⟨runD_den 400 ?_, runD_den 400 ?_⟩
 ·simp (disch := omega) only [go_sem]
  refine den_callD (by (try simp (disch := omega) only [go_sem, List.length_set, Nat.reduceEqDiff, Nat.reduceAdd, Nat.reduceSub, Int.reduceAdd, Int.reduceSub, Int.reduceToNat]) <;> omega) (hEA) [some (0, none), some (1, none), some (2, none), some (3, none), some (4, none), some (5, none), some (6, none), some (7, none), some (8, none), some (9, none), some (10, none), some (11, none), some (12, none), some (13, none), some (14, none), some (15, none), some (16, none), some (17, none), some (18, none), some (19, none), some (20, none)] (by simp only [go_sem]; repeat' first | rfl | constructor | (rw [List.map_set]; rfl) | (simp [List.map_take, List.map_drop] <;> omega)) (by rfl) (by rfl) (runD_den 400 ?_)
  simp (disch := omega) only [go_sem, Nat.reduceEqDiff, Nat.reduceAdd, Nat.reduceSub, Int.reduceAdd, Int.reduceSub, Int.reduceToNat]
  refine ⟨by (try simp (disch := omega) only [go_sem, List.length_set, Nat.reduceEqDiff, Nat.reduceAdd, Nat.reduceSub, Int.reduceAdd, Int.reduceSub, Int.reduceToNat]) <;> omega, [some (0, none), some (1, none), some (2, none), some (3, none), some (4, none), some (5, none), some (6, none), some (7, none), some (8, none), some (9, none), some (10, none), some (11, none), some (12, none), some (13, none), some (14, none), some (15, none), some (16, none), some (17, none), some (18, none), some (19, none), some (20, none), some (21, none), some (22, none), some (23, none), some (24, none), some (25, none), some (26, none), some (27, none), some (28, none), some (29, none), some (30, none)], weak_mkO (by rfl) (by rfl) ?_⟩
  try simp (disch := omega) only [go_sem, Nat.reduceEqDiff, Nat.reduceAdd, Nat.reduceSub, Int.reduceAdd, Int.reduceSub, Int.reduceToNat]
 ·simp (disch := omega) only [go_sem]
  refine den_callD (by (try simp (disch := omega) only [go_sem, List.length_set, Nat.reduceEqDiff, Nat.reduceAdd, Nat.reduceSub, Int.reduceAdd, Int.reduceSub, Int.reduceToNat]) <;> omega) (hEA) [some (0, none), some (1, none), some (2, none), some (3, none), some (4, none), some (5, none), some (6, none), some (7, none), some (8, none), some (9, none), some (10, none), some (11, none), some (12, none), some (13, none), some (14, none), some (15, none), some (16, none), some (17, none), some (18, none), some (19, none), some (20, none)] (by simp only [go_sem]; repeat' first | rfl | constructor | (rw [List.map_set]; rfl) | (simp [List.map_take, List.map_drop] <;> omega)) (by rfl) (by rfl) (runD_den 400 ?_)
  simp (disch := omega) only [go_sem, Nat.reduceEqDiff, Nat.reduceAdd, Nat.reduceSub, Int.reduceAdd, Int.reduceSub, Int.reduceToNat]
  refine ⟨by (try simp (disch := omega) only [go_sem, List.length_set, Nat.reduceEqDiff, Nat.reduceAdd, Nat.reduceSub, Int.reduceAdd, Int.reduceSub, Int.reduceToNat]) <;> omega, [some (0, none), some (1, none), some (2, none), some (3, none), some (4, none), some (5, none), some (6, none), some (7, none), some (8, none), some (9, none), some (10, none), some (11, none), some (12, none), some (13, none), some (14, none), some (15, none), some (16, none), some (17, none), some (18, none), some (19, none), some (20, none), some (21, none), some (22, none), some (24, none), some (25, none), some (26, none), some (27, none), some (28, none), some (29, none), some (30, none), some (23, none)], weak_mkO (by rfl) (by rfl) ?_⟩
  try simp (disch := omega) only [go_sem, Nat.reduceEqDiff, Nat.reduceAdd, Nat.reduceSub, Int.reduceAdd, Int.reduceSub, Int.reduceToNat]
 try simp (disch := omega) only [go_sem, Nat.reduceEqDiff, Nat.reduceAdd, Nat.reduceSub, Int.reduceAdd, Int.reduceSub, Int.reduceToNat]
 refine den_call (by (try simp (disch := omega) only [go_sem, List.length_set, Nat.reduceEqDiff, Nat.reduceAdd, Nat.reduceSub, Int.reduceAdd, Int.reduceSub, Int.reduceToNat]) <;> omega) (hX) [some (23, none), some (24, none), some (25, none), some (26, none), some (27, none), some (28, none), some (29, none)] (by simp only [go_sem]; repeat' first | rfl | constructor | (rw [List.map_set]; rfl) | (simp [List.map_take, List.map_drop] <;> omega)) (by rfl) (run_den 400 ?_)
 simp (disch := omega) only [go_sem, Nat.reduceEqDiff, Nat.reduceAdd, Nat.reduceSub, Int.reduceAdd, Int.reduceSub, Int.reduceToNat]
 by_cases h0 : sd = 2
 ·subst h0
  have hb : ok1 = false := by rcases hbad with h | h; exact absurd rfl h; exact h
  subst hb
  refine den_draw1 [0, 1, 2, 4, 5, 3, 6, 7, 8, 9, 10] (by kernel_rfl) (by (try simp (disch := omega) only [go_sem, List.length_set, Nat.reduceEqDiff, Nat.reduceAdd, Nat.reduceSub, Int.reduceAdd, Int.reduceSub, Int.reduceToNat]) <;> omega) (by kernel_rfl) (runD_den 400 ?_)
  simp (disch := omega) only [go_sem, Nat.reduceEqDiff, Nat.reduceAdd, Nat.reduceSub, Int.reduceAdd, Int.reduceSub, Int.reduceToNat]
  refine den_callD (by (try simp (disch := omega) only [go_sem, List.length_set, Nat.reduceEqDiff, Nat.reduceAdd, Nat.reduceSub, Int.reduceAdd, Int.reduceSub, Int.reduceToNat]) <;> omega) (hSd) [] (by simp only [go_sem]; repeat' first | rfl | constructor | (rw [List.map_set]; rfl) | (simp [List.map_take, List.map_drop] <;> omega)) (by rfl) (by rfl) (runD_den 400 ?_)
  simp (disch := omega) only [go_sem, Nat.reduceEqDiff, Nat.reduceAdd, Nat.reduceSub, Int.reduceAdd, Int.reduceSub, Int.reduceToNat]
  refine ⟨by (try simp (disch := omega) only [go_sem, List.length_set, Nat.reduceEqDiff, Nat.reduceAdd, Nat.reduceSub, Int.reduceAdd, Int.reduceSub, Int.reduceToNat]) <;> omega, run_den 400 ?_⟩
  try simp (disch := omega) only [go_sem, Nat.reduceEqDiff, Nat.reduceAdd, Nat.reduceSub, Int.reduceAdd, Int.reduceSub, Int.reduceToNat]
  refine den_finO [some (0, none), some (1, none), some (2, none), some (3, none), some (4, none), some (5, none), some (6, none), some (7, none), some (8, none), some (9, none), some (10, none), some (11, none), some (12, none), some (13, none), some (14, none), some (15, none), some (16, none), some (17, none), some (18, none), some (19, none), some (20, none), some (21, none), some (0, none), some (1, none), some (2, none), some (3, none), some (4, none), some (5, none), some (6, none), some (7, none), some (8, none), some (9, none), some (10, none), some (11, none), some (12, none), some (13, none), some (14, none), some (15, none), some (16, none), some (17, none), some (18, none), some (19, none), some (20, none)] (by (try simp (disch := omega) only [go_sem, List.length_set, Nat.reduceEqDiff, Nat.reduceAdd, Nat.reduceSub, Int.reduceAdd, Int.reduceSub, Int.reduceToNat]) <;> omega) _ (by simp only [go_sem]; rfl) (by rfl) (by rfl) ?_
  simp (disch := omega) only [go_sem, Nat.reduceEqDiff, Nat.reduceAdd, Nat.reduceSub, Int.reduceAdd, Int.reduceSub, Int.reduceToNat]
 ·refine den_draw1 [0, 1, 2, 4, 5, 3, 6, 7, 8, 9, 10] (by kernel_rfl) (by (try simp (disch := omega) only [go_sem, List.length_set, Nat.reduceEqDiff, Nat.reduceAdd, Nat.reduceSub, Int.reduceAdd, Int.reduceSub, Int.reduceToNat]) <;> omega) (by kernel_rfl) (runD_den 400 ?_)
  simp (disch := omega) only [go_sem, Nat.reduceEqDiff, Nat.reduceAdd, Nat.reduceSub, Int.reduceAdd, Int.reduceSub, Int.reduceToNat]
  refine den_callD (by (try simp (disch := omega) only [go_sem, List.length_set, Nat.reduceEqDiff, Nat.reduceAdd, Nat.reduceSub, Int.reduceAdd, Int.reduceSub, Int.reduceToNat]) <;> omega) (hSd) [] (by simp only [go_sem]; repeat' first | rfl | constructor | (rw [List.map_set]; rfl) | (simp [List.map_take, List.map_drop] <;> omega)) (by rfl) (by rfl) (runD_den 400 ?_)
  simp (disch := omega) only [go_sem, Nat.reduceEqDiff, Nat.reduceAdd, Nat.reduceSub, Int.reduceAdd, Int.reduceSub, Int.reduceToNat]
  refine ⟨by (try simp (disch := omega) only [go_sem, List.length_set, Nat.reduceEqDiff, Nat.reduceAdd, Nat.reduceSub, Int.reduceAdd, Int.reduceSub, Int.reduceToNat]) <;> omega, run_den 400 ?_⟩
  try simp (disch := omega) only [go_sem, Nat.reduceEqDiff, Nat.reduceAdd, Nat.reduceSub, Int.reduceAdd, Int.reduceSub, Int.reduceToNat]
  refine den_finO [some (0, none), some (1, none), some (2, none), some (3, none), some (4, none), some (5, none), some (6, none), some (7, none), some (8, none), some (9, none), some (10, none), some (11, none), some (12, none), some (13, none), some (14, none), some (15, none), some (16, none), some (17, none), some (18, none), some (19, none), some (20, none), some (21, none), some (0, none), some (1, none), some (2, none), some (3, none), some (4, none), some (5, none), some (6, none), some (7, none), some (8, none), some (9, none), some (10, none), some (11, none), some (12, none), some (13, none), some (14, none), some (15, none), some (16, none), some (17, none), some (18, none), some (19, none), some (20, none)] (by (try simp (disch := omega) only [go_sem, List.length_set, Nat.reduceEqDiff, Nat.reduceAdd, Nat.reduceSub, Int.reduceAdd, Int.reduceSub, Int.reduceToNat]) <;> omega) _ (by simp only [go_sem]; rfl) (by rfl) (by rfl) ?_
  simp (disch := omega) only [go_sem, Nat.reduceEqDiff, Nat.reduceAdd, Nat.reduceSub, Int.reduceAdd, Int.reduceSub, Int.reduceToNat]
theorem acts1_1 {w : WorldD} {pos many : Int} {text : List UInt8} {ad : AddrD} {le : LetterD} : acts w ⟨1, 1, pos, many, text, ad, le⟩ = (postL 1 { w with wroteA := w.wroteA ++ text.take (write w.a text).2, a := (writeAll w.a text).1 } (writeAll w.a text).2, 0) := by
 simp [acts, actBad, actW, actE, endAt, setEnd, wrote, gotRead]
theorem acts2_1 {w : WorldD} {pos many : Int} {text : List UInt8} {ad : AddrD} {le : LetterD} : acts w ⟨2, 1, pos, many, text, ad, le⟩ = (postL 1 { w with readA := w.readA ++ (readE w.a many).2, a := ((readE w.a many).1, ([] : List LetterD)).1 } ((readE w.a many).1, ([] : List LetterD)).2, 0) := by
 simp [acts, actBad, actW, actE, endAt, setEnd, wrote, gotRead]
theorem acts3_1 {w : WorldD} {pos many : Int} {text : List UInt8} {ad : AddrD} {le : LetterD} : acts w ⟨3, 1, pos, many, text, ad, le⟩ = (postL 1 { w with a := (tick w.a).1 } (tick w.a).2, 0) := by
 simp [acts, actBad, actW, actE, endAt, setEnd, wrote, gotRead]
theorem acts4_1 {w : WorldD} {pos many : Int} {text : List UInt8} {ad : AddrD} {le : LetterD} : acts w ⟨4, 1, pos, many, text, ad, le⟩ = (postL 1 { w with a := (manage w.a).1 } (manage w.a).2, 0) := by
 simp [acts, actBad, actW, actE, endAt, setEnd, wrote, gotRead]
theorem acts5_1 {w : WorldD} {pos many : Int} {text : List UInt8} {ad : AddrD} {le : LetterD} (hsd : sideAt ad.addr = 1) (hgood : (addOwn w.a ad).2 = true) : acts w ⟨5, 1, pos, many, text, ad, le⟩ = (postL 1 { w with a := ((addOwn w.a ad).1, ([] : List LetterD)).1 } ((addOwn w.a ad).1, ([] : List LetterD)).2, 0) := by
 simp [acts, actBad, actW, actE, endAt, setEnd, wrote, gotRead, hsd, hgood]
theorem acts6_1 {w : WorldD} {pos many : Int} {text : List UInt8} {ad : AddrD} {le : LetterD} : acts w ⟨6, 1, pos, many, text, ad, le⟩ = (postL 1 { w with a := (dropOwn w.a pos).1 } (dropOwn w.a pos).2, 0) := by
 simp [acts, actBad, actW, actE, endAt, setEnd, wrote, gotRead]
theorem acts7_1 {w : WorldD} {pos many : Int} {text : List UInt8} {ad : AddrD} {le : LetterD} : acts w ⟨7, 1, pos, many, text, ad, le⟩ = (postL 1 { w with a := (resetE w.a pos).1 } (resetE w.a pos).2, 0) := by
 simp [acts, actBad, actW, actE, endAt, setEnd, wrote, gotRead]
theorem acts5b_1 {w : WorldD} {pos many : Int} {text : List UInt8} {ad : AddrD} {le : LetterD} (hbad : ¬ sideAt ad.addr = 1 ∨ (addOwn w.a ad).2 = false) : acts w ⟨5, 1, pos, many, text, ad, le⟩ = (w, 1) := by
 rcases hbad with h | h <;> simp [acts, actBad, endAt, h]
theorem acts1_2 {w : WorldD} {pos many : Int} {text : List UInt8} {ad : AddrD} {le : LetterD} : acts w ⟨1, 2, pos, many, text, ad, le⟩ = (postL 2 { w with wroteB := w.wroteB ++ text.take (write w.b text).2, b := (writeAll w.b text).1 } (writeAll w.b text).2, 0) := by
 simp [acts, actBad, actW, actE, endAt, setEnd, wrote, gotRead]
theorem acts2_2 {w : WorldD} {pos many : Int} {text : List UInt8} {ad : AddrD} {le : LetterD} : acts w ⟨2, 2, pos, many, text, ad, le⟩ = (postL 2 { w with readB := w.readB ++ (readE w.b many).2, b := ((readE w.b many).1, ([] : List LetterD)).1 } ((readE w.b many).1, ([] : List LetterD)).2, 0) := by
 simp [acts, actBad, actW, actE, endAt, setEnd, wrote, gotRead]
theorem acts3_2 {w : WorldD} {pos many : Int} {text : List UInt8} {ad : AddrD} {le : LetterD} : acts w ⟨3, 2, pos, many, text, ad, le⟩ = (postL 2 { w with b := (tick w.b).1 } (tick w.b).2, 0) := by
 simp [acts, actBad, actW, actE, endAt, setEnd, wrote, gotRead]
theorem acts4_2 {w : WorldD} {pos many : Int} {text : List UInt8} {ad : AddrD} {le : LetterD} : acts w ⟨4, 2, pos, many, text, ad, le⟩ = (postL 2 { w with b := (manage w.b).1 } (manage w.b).2, 0) := by
 simp [acts, actBad, actW, actE, endAt, setEnd, wrote, gotRead]
theorem acts5_2 {w : WorldD} {pos many : Int} {text : List UInt8} {ad : AddrD} {le : LetterD} (hsd : sideAt ad.addr = 2) (hgood : (addOwn w.b ad).2 = true) : acts w ⟨5, 2, pos, many, text, ad, le⟩ = (postL 2 { w with b := ((addOwn w.b ad).1, ([] : List LetterD)).1 } ((addOwn w.b ad).1, ([] : List LetterD)).2, 0) := by
 simp [acts, actBad, actW, actE, endAt, setEnd, wrote, gotRead, hsd, hgood]
theorem acts6_2 {w : WorldD} {pos many : Int} {text : List UInt8} {ad : AddrD} {le : LetterD} : acts w ⟨6, 2, pos, many, text, ad, le⟩ = (postL 2 { w with b := (dropOwn w.b pos).1 } (dropOwn w.b pos).2, 0) := by
 simp [acts, actBad, actW, actE, endAt, setEnd, wrote, gotRead]
theorem acts7_2 {w : WorldD} {pos many : Int} {text : List UInt8} {ad : AddrD} {le : LetterD} : acts w ⟨7, 2, pos, many, text, ad, le⟩ = (postL 2 { w with b := (resetE w.b pos).1 } (resetE w.b pos).2, 0) := by
 simp [acts, actBad, actW, actE, endAt, setEnd, wrote, gotRead]
theorem acts5b_2 {w : WorldD} {pos many : Int} {text : List UInt8} {ad : AddrD} {le : LetterD} (hbad : ¬ sideAt ad.addr = 2 ∨ (addOwn w.b ad).2 = false) : acts w ⟨5, 2, pos, many, text, ad, le⟩ = (w, 1) := by
 rcases hbad with h | h <;> simp [acts, actBad, endAt, h]
theorem acts_bad {w : WorldD} {a : ActD} (h : actBad w a = true) : acts w a = (w, 1) := if_pos h
theorem acts_good {w : WorldD} {a : ActD} (h : ¬ actBad w a = true) : (acts w a).2 = 0 := by rw [acts, if_neg h]
theorem moves_code (w : WorldD) (a : ActD) : (moves w a).2 = 0 ∨ (moves w a).1 = w := by
 unfold moves; repeat' split
 all_goals first | exact .inl rfl | exact .inr rfl
theorem acts_code (w : WorldD) (a : ActD) : (acts w a).2 = 0 ∨ (acts w a).1 = w := by
 by_cases h : actBad w a = true
 ·rw [acts_bad h]; exact .inr rfl
 ·exact .inl (acts_good h)
theorem actOk_parts {a : ActD} (h : actOk a = true) : 1 ≤ a.kind ∧ a.kind ≤ 12 ∧ 1 ≤ a.side ∧ a.side ≤ 2 ∧ 0 ≤ a.pos ∧ a.text.length ≤ 1048576 := by
 simp only [actOk, inR, isN, Bool.and_eq_true, decide_eq_true_eq] at h
 omega
theorem impl_acts (w : WorldD) (a : ActD) (hw : SmallD w) (ha : actOk a = true) (h7 : a.kind ≤ 7) :
  CallA Tryz.prog 18 [.sc (.pt 21 0 0), .ag a.cs] (w.hp true ++ [some ⟨[w.cs 0], 61, 47, true, false⟩]) (.sc (.int .i64 (acts w a).2))
  ([none, none, none, none, none, none, none, none, none, none, none, none, none, none, none, none, none, none, none, none, none, some ⟨[WorldD.cs (acts w a).1 22], 61, 47, true, false⟩] ++ WorldD.hp (acts w a).1 true) := by
 obtain ⟨k1, k2, k3, k4, k5, k6⟩ := actOk_parts ha
 obtain ⟨kind, side, pos, many, text, ad, le⟩ := a
 dsimp only at *
 have hs : side = 1 ∨ side = 2 := by omega
 have hk : kind = 1 ∨ kind = 2 ∨ kind = 3 ∨ kind = 4 ∨ kind = 5 ∨ kind = 6 ∨ kind = 7 := by omega
 clear ha k1 k2 k3 k4 h7
 rcases hs with rfl | rfl <;> rcases hk with rfl | rfl | rfl | rfl | rfl | rfl | rfl
 ·rw [acts1_1]; exact impl_acts1_1 w pos many text ad le hw k6
 ·rw [acts2_1]; exact impl_acts2_1 w pos many text ad le hw k6
 ·rw [acts3_1]; exact impl_acts3_1 w pos many text ad le hw k6
 ·rw [acts4_1]; exact impl_acts4_1 w pos many text ad le hw k6
 ·by_cases hb : sideAt ad.addr = 1 ∧ (addOwn w.a ad).2 = true
  ·rw [acts5_1 hb.1 hb.2]; exact impl_acts5_1 w pos many text ad le hw k6 hb.1 hb.2
  ·have hb : ¬ sideAt ad.addr = 1 ∨ (addOwn w.a ad).2 = false := by
    by_cases h0 : sideAt ad.addr = 1
    ·exact .inr (by cases h1 : (addOwn w.a ad).2; rfl; exact absurd ⟨h0, h1⟩ hb)
    ·exact .inl h0
   rw [acts5b_1 hb]; exact impl_acts5b_1 w pos many text ad le hw hb
 ·rw [acts6_1]; exact impl_acts6_1 w pos many text ad le hw k6
 ·rw [acts7_1]; exact impl_acts7_1 w pos many text ad le hw k6
 ·rw [acts1_2]; exact impl_acts1_2 w pos many text ad le hw k6
 ·rw [acts2_2]; exact impl_acts2_2 w pos many text ad le hw k6
 ·rw [acts3_2]; exact impl_acts3_2 w pos many text ad le hw k6
 ·rw [acts4_2]; exact impl_acts4_2 w pos many text ad le hw k6
 ·by_cases hb : sideAt ad.addr = 2 ∧ (addOwn w.b ad).2 = true
  ·rw [acts5_2 hb.1 hb.2]; exact impl_acts5_2 w pos many text ad le hw k6 hb.1 hb.2
  ·have hb : ¬ sideAt ad.addr = 2 ∨ (addOwn w.b ad).2 = false := by
    by_cases h0 : sideAt ad.addr = 2
    ·exact .inr (by cases h1 : (addOwn w.b ad).2; rfl; exact absurd ⟨h0, h1⟩ hb)
    ·exact .inl h0
   rw [acts5b_2 hb]; exact impl_acts5b_2 w pos many text ad le hw hb
 ·rw [acts6_2]; exact impl_acts6_2 w pos many text ad le hw k6
 ·rw [acts7_2]; exact impl_acts7_2 w pos many text ad le hw k6
theorem impl_moves (w : WorldD) (a : ActD) (hw : SmallD w) (ha : actOk a = true) (h7 : ¬ a.kind ≤ 7) :
  CallA Tryz.prog 19 [.sc (.pt 21 0 0), .ag a.cs] (w.hp true ++ [some ⟨[w.cs 0], 61, 47, true, false⟩]) (.sc (.int .i64 (moves w a).2))
  ([none, none, none, none, none, none, none, none, none, none, none, none, none, none, none, none, none, none, none, none, none, some ⟨[WorldD.cs (moves w a).1 22], 61, 47, true, false⟩] ++ WorldD.hp (moves w a).1 true) := by
 obtain ⟨k1, k2, k3, k4, k5, k6⟩ := actOk_parts ha
 obtain ⟨kind, side, pos, many, text, ad, le⟩ := a
 dsimp only at *
 have hk : kind = 8 ∨ kind = 9 ∨ kind = 10 ∨ kind = 11 ∨ kind = 12 := by omega
 obtain ⟨p, rfl⟩ := Int.eq_ofNat_of_zero_le k5
 rcases hk with rfl | rfl | rfl | rfl | rfl
 ·exact impl_moves8 w side many p text ad le hw
 ·exact impl_moves9 w side many p text ad le hw
 ·exact impl_moves10 w side many p text ad le hw
 ·exact impl_moves11 w side many p text ad le hw
 ·exact impl_moves12 w side many p text ad le hw
end
section
open Go.RowKit

theorem impl_ActOk (a : ActD) : CallA Tryz.prog 8 [.ag a.cs] [] (.sc (.bo (actOk a))) [] := by
 refine qE Tryz.func8 Tryz.ntmps8 Tryz.results8 fun E hE => ?_
 refine qK (impl_within _ _ _) [] ?_
 refine qB (fun h1 => ?_) fun h1 => ?_
 ·refine qK (impl_within _ _ _) [] ?_
  refine qB (fun h2 => ?_) fun h2 => ?_
  ·refine qK (impl_isNumber [a.pos, a.many] (by show 2 ≤ 1000000; decide)) (qA [1]) ?_
   refine qB (fun h3 => ?_) fun h3 => ?_
   ·refine qJ [] ?_
    simp only [List.all_cons, List.all_nil, Bool.and_true, Bool.and_eq_true] at h3
    simp [actOk, h1, h2, h3.1, h3.2]
    omega
   ·refine qJ [] ?_
    simp only [List.all_cons, List.all_nil, Bool.and_true] at h3
    simp only [actOk, h3, Bool.and_false, Bool.false_and]
  ·refine qJ [] ?_
   simp [actOk, h1, h2]
 ·refine qJ [] ?_
  simp [actOk, h1]
end
section
open Go.RowKit

theorem impl_Done (w : WorldD) (a : ActD) (hw : SmallD w) : CallA Tryz.prog 7 [.ag (w.cs 0), .ag a.cs] (w.hp false) (.tu [.ag ((doneW w a).1.cs 21), .sc (.int .i64 (doneW w a).2)]) (w.hp false ++ (doneW w a).1.hp true) := by
 have hC := impl_copyWorld w hw.p.s
 have hA := impl_ActOk a
 cases hok : actOk a with
 | false =>
  rw [show doneW w a = (w, 3) from by rw [doneW, if_neg (by simp [hok])]]
  rw [hok] at hA
  dsimp only
  refine callA_of Tryz.func7 (by kernel_rfl) rfl fun E hE => run_den 400 ?_
  simp (disch := omega) only [Tryz.ntmps7, Tryz.results7, go_sem, Nat.reduceEqDiff, Nat.reduceAdd, Nat.reduceSub, Int.reduceAdd, Int.reduceSub, Int.reduceToNat]
  refine den_call (by (try simp (disch := omega) only [go_sem, List.length_set, Nat.reduceEqDiff, Nat.reduceAdd, Nat.reduceSub, Int.reduceAdd, Int.reduceSub, Int.reduceToNat]) <;> omega) (hA) [] (by simp only [go_sem]; repeat' first | rfl | constructor | (rw [List.map_set]; rfl) | (simp [List.map_take, List.map_drop] <;> omega)) (by rfl) (run_den 400 ?_)
  simp (disch := omega) only [go_sem, Nat.reduceEqDiff, Nat.reduceAdd, Nat.reduceSub, Int.reduceAdd, Int.reduceSub, Int.reduceToNat]
  refine den_call (by (try simp (disch := omega) only [go_sem, List.length_set, Nat.reduceEqDiff, Nat.reduceAdd, Nat.reduceSub, Int.reduceAdd, Int.reduceSub, Int.reduceToNat]) <;> omega) (hC) [some (0, none), some (1, none), some (2, none), some (3, none), some (4, none), some (5, none), some (6, none), some (7, none), some (8, none), some (9, none), some (10, none), some (11, none), some (12, none), some (13, none), some (14, none), some (15, none), some (16, none), some (17, none), some (18, none), some (19, none), some (20, none)] (by simp only [go_sem]; repeat' first | rfl | constructor | (rw [List.map_set]; rfl) | (simp [List.map_take, List.map_drop] <;> omega)) (by rfl) (run_den 400 ?_)
  simp (disch := omega) only [go_sem, Nat.reduceEqDiff, Nat.reduceAdd, Nat.reduceSub, Int.reduceAdd, Int.reduceSub, Int.reduceToNat]
  refine den_fin [some (0, none), some (1, none), some (2, none), some (3, none), some (4, none), some (5, none), some (6, none), some (7, none), some (8, none), some (9, none), some (10, none), some (11, none), some (12, none), some (13, none), some (14, none), some (15, none), some (16, none), some (17, none), some (18, none), some (19, none), some (20, none), some (24, none), some (25, none), some (26, none), some (27, none), some (28, none), some (29, none), some (30, none), some (31, none), some (32, none), some (33, none), some (34, none), some (35, none), some (36, none), some (37, none), some (38, none), some (39, none), some (40, none), some (41, none), some (42, none), some (43, none), some (44, none)] (by (try simp (disch := omega) only [go_sem, List.length_set, Nat.reduceEqDiff, Nat.reduceAdd, Nat.reduceSub, Int.reduceAdd, Int.reduceSub, Int.reduceToNat]) <;> omega) _ (by simp only [go_sem]; rfl) (by rfl) (by rfl) ?_
  simp (disch := omega) only [go_sem, Nat.reduceEqDiff, Nat.reduceAdd, Nat.reduceSub, Int.reduceAdd, Int.reduceSub, Int.reduceToNat]
 | true =>
  rw [hok] at hA
  by_cases h7 : a.kind ≤ 7
  ·have hM := impl_acts w a hw hok h7
   have hcode := acts_code w a
   rw [show doneW w a = acts w a from by rw [doneW, if_pos hok, if_pos h7]]
   obtain ⟨R, hR⟩ : ∃ R, R = acts w a := ⟨_, rfl⟩
   rw [← hR] at hM hcode ⊢
   clear hR
   obtain ⟨r, c⟩ := R
   dsimp only at hM hcode ⊢
   refine callA_of Tryz.func7 (by kernel_rfl) rfl fun E hE => run_den 400 ?_
   simp (disch := omega) only [Tryz.ntmps7, Tryz.results7, go_sem, Nat.reduceEqDiff, Nat.reduceAdd, Nat.reduceSub, Int.reduceAdd, Int.reduceSub, Int.reduceToNat]
   refine den_call (by (try simp (disch := omega) only [go_sem, List.length_set, Nat.reduceEqDiff, Nat.reduceAdd, Nat.reduceSub, Int.reduceAdd, Int.reduceSub, Int.reduceToNat]) <;> omega) (hA) [] (by simp only [go_sem]; repeat' first | rfl | constructor | (rw [List.map_set]; rfl) | (simp [List.map_take, List.map_drop] <;> omega)) (by rfl) (run_den 400 ?_)
   simp (disch := omega) only [go_sem, Nat.reduceEqDiff, Nat.reduceAdd, Nat.reduceSub, Int.reduceAdd, Int.reduceSub, Int.reduceToNat]
   refine den_call (by (try simp (disch := omega) only [go_sem, List.length_set, Nat.reduceEqDiff, Nat.reduceAdd, Nat.reduceSub, Int.reduceAdd, Int.reduceSub, Int.reduceToNat]) <;> omega) (hC) [some (0, none), some (1, none), some (2, none), some (3, none), some (4, none), some (5, none), some (6, none), some (7, none), some (8, none), some (9, none), some (10, none), some (11, none), some (12, none), some (13, none), some (14, none), some (15, none), some (16, none), some (17, none), some (18, none), some (19, none), some (20, none)] (by simp only [go_sem]; repeat' first | rfl | constructor | (rw [List.map_set]; rfl) | (simp [List.map_take, List.map_drop] <;> omega)) (by rfl) (run_den 400 ?_)
   simp (disch := omega) only [go_sem, Nat.reduceEqDiff, Nat.reduceAdd, Nat.reduceSub, Int.reduceAdd, Int.reduceSub, Int.reduceToNat]
   refine den_call (by (try simp (disch := omega) only [go_sem, List.length_set, Nat.reduceEqDiff, Nat.reduceAdd, Nat.reduceSub, Int.reduceAdd, Int.reduceSub, Int.reduceToNat]) <;> omega) (hM) [some (24, none), some (25, none), some (26, none), some (27, none), some (28, none), some (29, none), some (30, none), some (31, none), some (32, none), some (33, none), some (34, none), some (35, none), some (36, none), some (37, none), some (38, none), some (39, none), some (40, none), some (41, none), some (42, none), some (43, none), some (44, none), some (45, none)] (by simp only [go_sem]; repeat' first | rfl | constructor | (rw [List.map_set]; rfl) | (simp [List.map_take, List.map_drop] <;> omega)) (by rfl) (run_den 400 ?_)
   simp (disch := omega) only [go_sem, Nat.reduceEqDiff, Nat.reduceAdd, Nat.reduceSub, Int.reduceAdd, Int.reduceSub, Int.reduceToNat]
   by_cases hz : c = 0
   ·subst hz
    try simp (disch := omega) only [go_sem, Nat.reduceEqDiff, Nat.reduceAdd, Nat.reduceSub, Int.reduceAdd, Int.reduceSub, Int.reduceToNat]
    refine den_fin [some (0, none), some (1, none), some (2, none), some (3, none), some (4, none), some (5, none), some (6, none), some (7, none), some (8, none), some (9, none), some (10, none), some (11, none), some (12, none), some (13, none), some (14, none), some (15, none), some (16, none), some (17, none), some (18, none), some (19, none), some (20, none), some (46, none), some (47, none), some (48, none), some (49, none), some (50, none), some (51, none), some (52, none), some (53, none), some (54, none), some (55, none), some (56, none), some (57, none), some (58, none), some (59, none), some (60, none), some (61, none), some (62, none), some (63, none), some (64, none), some (65, none), some (66, none)] (by (try simp (disch := omega) only [go_sem, List.length_set, Nat.reduceEqDiff, Nat.reduceAdd, Nat.reduceSub, Int.reduceAdd, Int.reduceSub, Int.reduceToNat]) <;> omega) _ (by simp only [go_sem]; rfl) (by rfl) (by rfl) ?_
    simp (disch := omega) only [go_sem, Nat.reduceEqDiff, Nat.reduceAdd, Nat.reduceSub, Int.reduceAdd, Int.reduceSub, Int.reduceToNat]
   ·have hr : r = w := by rcases hcode with h | h; exact absurd h hz; exact h
    subst hr
    try simp (disch := omega) only [go_sem, Nat.reduceEqDiff, Nat.reduceAdd, Nat.reduceSub, Int.reduceAdd, Int.reduceSub, Int.reduceToNat]
    refine den_call (by (try simp (disch := omega) only [go_sem, List.length_set, Nat.reduceEqDiff, Nat.reduceAdd, Nat.reduceSub, Int.reduceAdd, Int.reduceSub, Int.reduceToNat]) <;> omega) (hC) [some (0, none), some (1, none), some (2, none), some (3, none), some (4, none), some (5, none), some (6, none), some (7, none), some (8, none), some (9, none), some (10, none), some (11, none), some (12, none), some (13, none), some (14, none), some (15, none), some (16, none), some (17, none), some (18, none), some (19, none), some (20, none)] (by simp only [go_sem]; repeat' first | rfl | constructor | (rw [List.map_set]; rfl) | (simp [List.map_take, List.map_drop] <;> omega)) (by rfl) (run_den 400 ?_)
    simp (disch := omega) only [go_sem, Nat.reduceEqDiff, Nat.reduceAdd, Nat.reduceSub, Int.reduceAdd, Int.reduceSub, Int.reduceToNat]
    refine den_fin [some (0, none), some (1, none), some (2, none), some (3, none), some (4, none), some (5, none), some (6, none), some (7, none), some (8, none), some (9, none), some (10, none), some (11, none), some (12, none), some (13, none), some (14, none), some (15, none), some (16, none), some (17, none), some (18, none), some (19, none), some (20, none), some (67, none), some (68, none), some (69, none), some (70, none), some (71, none), some (72, none), some (73, none), some (74, none), some (75, none), some (76, none), some (77, none), some (78, none), some (79, none), some (80, none), some (81, none), some (82, none), some (83, none), some (84, none), some (85, none), some (86, none), some (87, none)] (by (try simp (disch := omega) only [go_sem, List.length_set, Nat.reduceEqDiff, Nat.reduceAdd, Nat.reduceSub, Int.reduceAdd, Int.reduceSub, Int.reduceToNat]) <;> omega) _ (by simp only [go_sem]; rfl) (by rfl) (by rfl) ?_
    simp (disch := omega) only [go_sem, Nat.reduceEqDiff, Nat.reduceAdd, Nat.reduceSub, Int.reduceAdd, Int.reduceSub, Int.reduceToNat]
  ·have hM := impl_moves w a hw hok h7
   have hcode := moves_code w a
   rw [show doneW w a = moves w a from by rw [doneW, if_pos hok, if_neg h7]]
   obtain ⟨R, hR⟩ : ∃ R, R = moves w a := ⟨_, rfl⟩
   rw [← hR] at hM hcode ⊢
   clear hR
   obtain ⟨r, c⟩ := R
   dsimp only at hM hcode ⊢
   refine callA_of Tryz.func7 (by kernel_rfl) rfl fun E hE => run_den 400 ?_
   simp (disch := omega) only [Tryz.ntmps7, Tryz.results7, go_sem, Nat.reduceEqDiff, Nat.reduceAdd, Nat.reduceSub, Int.reduceAdd, Int.reduceSub, Int.reduceToNat]
   refine den_call (by (try simp (disch := omega) only [go_sem, List.length_set, Nat.reduceEqDiff, Nat.reduceAdd, Nat.reduceSub, Int.reduceAdd, Int.reduceSub, Int.reduceToNat]) <;> omega) (hA) [] (by simp only [go_sem]; repeat' first | rfl | constructor | (rw [List.map_set]; rfl) | (simp [List.map_take, List.map_drop] <;> omega)) (by rfl) (run_den 400 ?_)
   simp (disch := omega) only [go_sem, Nat.reduceEqDiff, Nat.reduceAdd, Nat.reduceSub, Int.reduceAdd, Int.reduceSub, Int.reduceToNat]
   refine den_call (by (try simp (disch := omega) only [go_sem, List.length_set, Nat.reduceEqDiff, Nat.reduceAdd, Nat.reduceSub, Int.reduceAdd, Int.reduceSub, Int.reduceToNat]) <;> omega) (hC) [some (0, none), some (1, none), some (2, none), some (3, none), some (4, none), some (5, none), some (6, none), some (7, none), some (8, none), some (9, none), some (10, none), some (11, none), some (12, none), some (13, none), some (14, none), some (15, none), some (16, none), some (17, none), some (18, none), some (19, none), some (20, none)] (by simp only [go_sem]; repeat' first | rfl | constructor | (rw [List.map_set]; rfl) | (simp [List.map_take, List.map_drop] <;> omega)) (by rfl) (run_den 400 ?_)
   simp (disch := omega) only [go_sem, Nat.reduceEqDiff, Nat.reduceAdd, Nat.reduceSub, Int.reduceAdd, Int.reduceSub, Int.reduceToNat]
   refine den_call (by (try simp (disch := omega) only [go_sem, List.length_set, Nat.reduceEqDiff, Nat.reduceAdd, Nat.reduceSub, Int.reduceAdd, Int.reduceSub, Int.reduceToNat]) <;> omega) (hM) [some (24, none), some (25, none), some (26, none), some (27, none), some (28, none), some (29, none), some (30, none), some (31, none), some (32, none), some (33, none), some (34, none), some (35, none), some (36, none), some (37, none), some (38, none), some (39, none), some (40, none), some (41, none), some (42, none), some (43, none), some (44, none), some (45, none)] (by simp only [go_sem]; repeat' first | rfl | constructor | (rw [List.map_set]; rfl) | (simp [List.map_take, List.map_drop] <;> omega)) (by rfl) (run_den 400 ?_)
   simp (disch := omega) only [go_sem, Nat.reduceEqDiff, Nat.reduceAdd, Nat.reduceSub, Int.reduceAdd, Int.reduceSub, Int.reduceToNat]
   by_cases hz : c = 0
   ·subst hz
    try simp (disch := omega) only [go_sem, Nat.reduceEqDiff, Nat.reduceAdd, Nat.reduceSub, Int.reduceAdd, Int.reduceSub, Int.reduceToNat]
    refine den_fin [some (0, none), some (1, none), some (2, none), some (3, none), some (4, none), some (5, none), some (6, none), some (7, none), some (8, none), some (9, none), some (10, none), some (11, none), some (12, none), some (13, none), some (14, none), some (15, none), some (16, none), some (17, none), some (18, none), some (19, none), some (20, none), some (46, none), some (47, none), some (48, none), some (49, none), some (50, none), some (51, none), some (52, none), some (53, none), some (54, none), some (55, none), some (56, none), some (57, none), some (58, none), some (59, none), some (60, none), some (61, none), some (62, none), some (63, none), some (64, none), some (65, none), some (66, none)] (by (try simp (disch := omega) only [go_sem, List.length_set, Nat.reduceEqDiff, Nat.reduceAdd, Nat.reduceSub, Int.reduceAdd, Int.reduceSub, Int.reduceToNat]) <;> omega) _ (by simp only [go_sem]; rfl) (by rfl) (by rfl) ?_
    simp (disch := omega) only [go_sem, Nat.reduceEqDiff, Nat.reduceAdd, Nat.reduceSub, Int.reduceAdd, Int.reduceSub, Int.reduceToNat]
   ·have hr : r = w := by rcases hcode with h | h; exact absurd h hz; exact h
    subst hr
    try simp (disch := omega) only [go_sem, Nat.reduceEqDiff, Nat.reduceAdd, Nat.reduceSub, Int.reduceAdd, Int.reduceSub, Int.reduceToNat]
    refine den_call (by (try simp (disch := omega) only [go_sem, List.length_set, Nat.reduceEqDiff, Nat.reduceAdd, Nat.reduceSub, Int.reduceAdd, Int.reduceSub, Int.reduceToNat]) <;> omega) (hC) [some (0, none), some (1, none), some (2, none), some (3, none), some (4, none), some (5, none), some (6, none), some (7, none), some (8, none), some (9, none), some (10, none), some (11, none), some (12, none), some (13, none), some (14, none), some (15, none), some (16, none), some (17, none), some (18, none), some (19, none), some (20, none)] (by simp only [go_sem]; repeat' first | rfl | constructor | (rw [List.map_set]; rfl) | (simp [List.map_take, List.map_drop] <;> omega)) (by rfl) (run_den 400 ?_)
    simp (disch := omega) only [go_sem, Nat.reduceEqDiff, Nat.reduceAdd, Nat.reduceSub, Int.reduceAdd, Int.reduceSub, Int.reduceToNat]
    refine den_fin [some (0, none), some (1, none), some (2, none), some (3, none), some (4, none), some (5, none), some (6, none), some (7, none), some (8, none), some (9, none), some (10, none), some (11, none), some (12, none), some (13, none), some (14, none), some (15, none), some (16, none), some (17, none), some (18, none), some (19, none), some (20, none), some (67, none), some (68, none), some (69, none), some (70, none), some (71, none), some (72, none), some (73, none), some (74, none), some (75, none), some (76, none), some (77, none), some (78, none), some (79, none), some (80, none), some (81, none), some (82, none), some (83, none), some (84, none), some (85, none), some (86, none), some (87, none)] (by (try simp (disch := omega) only [go_sem, List.length_set, Nat.reduceEqDiff, Nat.reduceAdd, Nat.reduceSub, Int.reduceAdd, Int.reduceSub, Int.reduceToNat]) <;> omega) _ (by simp only [go_sem]; rfl) (by rfl) (by rfl) ?_
    simp (disch := omega) only [go_sem, Nat.reduceEqDiff, Nat.reduceAdd, Nat.reduceSub, Int.reduceAdd, Int.reduceSub, Int.reduceToNat]
end
section
open Go.RowKit

end
section
open Go.RowKit

def emptyE (e : EndD) : Bool := smallB e && decide (e.inp.list = []) && decide (e.inp.ready.length = 0) && decide (e.out.text.length = 0) && decide (e.subs.length ≤ 100) && decide (e.far.length ≤ 100)
theorem emptyE_good {e : EndD} (h : emptyE e = true) : GoodE e ∧ FewE e := by
 simp only [emptyE, Bool.and_eq_true, decide_eq_true_eq] at h
 obtain ⟨⟨⟨⟨⟨h1, h2⟩, h3⟩, h4⟩, h5⟩, h6⟩ := h
 exact ⟨⟨smallB_iff h1, ⟨by rw [h2]; decide, by omega, fun x hx => by rw [h2] at hx; simp at hx⟩, by omega⟩, h5, h6⟩
theorem meet_empty : (pols.all fun p => smallB (idleE 1 p) && smallB (idleE 2 p) && emptyE (meet (idleE 1 p) (idleE 2 p)).1 && emptyE (meet (idleE 1 p) (idleE 2 p)).2.1) = true := by decide +kernel
def world0 (x y : EndD) : WorldD := ⟨x, y, [], [], [], [], [], [], ⟨[5, 7], []⟩, [], [], []⟩
structure Fine0 (w : WorldD) : Prop where
 g : GoodW w 0
 f : FewW w
 bag : w.bag = []
 past : w.past = []
 tags : w.known.tags = []
theorem skol {b : List UInt8} {α : Type} [Inhabited α] {C : CurD → α → CurD → Prop} (h : ∀ c, c.ok b → ∃ x c', C c x c') : ∃ F : CurD → α × CurD, ∀ c, c.ok b → C c (F c).1 (F c).2 := by
 classical
 refine ⟨fun c => if hc : c.ok b then ((h c hc).choose, (h c hc).choose_spec.choose) else (default, c), fun c hc => ?_⟩
 simp only [dif_pos hc]
 exact (h c hc).choose_spec.choose_spec
def actsD (F : CurD → ActD × CurD) : Nat → CurD → List ActD × CurD
 | 0, c => ([], c)
 | n + 1, c => ((F c).1 :: (actsD F n (F c).2).1, (actsD F n (F c).2).2)
def FineA (a : ActD) : Prop := a.wf ∧ a.text.length ≤ 200 ∧ actOk a = true
theorem actsD_ok {b : List UInt8} {F : CurD → ActD × CurD} (hF : ∀ c, c.ok b → (F c).2.ok b ∧ FineA (F c).1) : ∀ (n : Nat) (c : CurD), c.ok b → (actsD F n c).2.ok b ∧ (actsD F n c).1.length = n ∧ ∀ a ∈ (actsD F n c).1, FineA a
 | 0, c, h => ⟨h, rfl, fun a ha => by simp [actsD] at ha⟩
 | n + 1, c, h => by
  obtain ⟨h1, h2⟩ := hF c h
  obtain ⟨h3, h4, h5⟩ := actsD_ok hF n (F c).2 h1
  refine ⟨h3, by simp only [actsD, List.length_cons, h4], fun a ha => ?_⟩
  simp only [actsD, List.mem_cons] at ha
  rcases ha with rfl | ha
  ·exact h2
  ·exact h5 a ha
theorem spec_l24Acts (b : List UInt8) (c : CurD) (hc : c.ok b) (m : Int) (hm : 1 ≤ m ∧ m ≤ 120) : ∃ (l : List ActD) (c' : CurD), c'.ok b ∧ l.length ≤ 120 ∧ (∀ a ∈ l, FineA a) ∧ CallA Tryz.prog 14 [.sc (.pt 1 0 0), .sc (.int .i64 m)] (c.hp b) (.sc (.sl 2 0 l.length)) (c'.hp b ++ [some ⟨l.map ActD.cs, 28, 59, true, true⟩]) := by
 obtain ⟨F, hF⟩ := skol (b := b) (spec_l24Act b)
 have h1 := spec_l01Below b c hc m
 have o1 := CurD.below_ok hc m
 have b1 := c.below_lt b (n := m) (by omega)
 generalize c.below b m = r1 at h1 o1 b1
 obtain ⟨v, c1⟩ := r1
 dsimp only at h1 o1 b1
 obtain ⟨n, rfl⟩ := Int.eq_ofNat_of_zero_le b1.1
 obtain ⟨q1, q2, q3⟩ := actsD_ok (F := F) (fun c h => ⟨(hF c h).1, (hF c h).2.1⟩) n c1 o1
 obtain ⟨R, hR⟩ : ∃ R, R = actsD F n c1 := ⟨_, rfl⟩
 rw [← hR] at q1 q2 q3
 refine ⟨R.1, R.2, q1, by omega, q3, ?_⟩
 refine qE Tryz.func14 Tryz.ntmps14 Tryz.results14 fun E hE => ?_
 refine qK (h1) (qA [0, 1]) ?_
 refine den_lp 2 hE (fun s (y : List ActD × CurD) => s.at [1, 8, 9, 10, 11, 12, 13, 14, 15, 16, 17, 18, 19, 20, 21] [(7, .sc (.int .i64 (y.1.length : Nat))), (5, .sc (.sl 2 0 y.1.length))] (y.2.hp b ++ [some ⟨y.1.map ActD.cs, 28, 59, true, true⟩])) (fun (y : List ActD × CurD) => y.1.length ≤ n ∧ y.2.ok b ∧ (y.1 ++ (actsD F (n - y.1.length) y.2).1, (actsD F (n - y.1.length) y.2).2) = R) (fun (y : List ActD × CurD) => n - y.1.length) ([], c1) (qA [0, 1, 2]) (qC) (⟨Nat.zero_le _, o1, hR.symm⟩) (weak_mk (by rfl) (by rfl) ?_) fun y hy N hN => ?_
 ·exact qY
 ·obtain ⟨acc, c2⟩ := y
  obtain ⟨f1, f2, f3⟩ := hy
  dsimp only at f1 f2 f3
  obtain ⟨k1, k2, k3⟩ := hF c2 f2
  refine qR ?_
  refine qB (fun h => ?_) fun h => ?_
  ·rw [show n - acc.length = (n - (acc.length + 1)) + 1 from by omega, actsD] at f3
   generalize F c2 = z at k1 k2 k3 f3
   obtain ⟨a, c3⟩ := z
   dsimp only at k1 k2 k3 f3
   refine qK (k3) (qA [0, 1]) ?_
   refine ⟨qC, hN _ (acc ++ [a], c3) (qA [0, 1, 4]) (by (try dsimp only); exact ⟨by simp; omega, k1, by rw [List.length_append, List.length_singleton, List.append_assoc]; exact f3⟩) (by simp; omega) (weak_mk (by rfl) (by rfl) ?_)⟩
   try simp (disch := omega) only [go_sem, Nat.reduceEqDiff, Nat.reduceAdd, Nat.reduceSub, Int.reduceAdd, Int.reduceSub, Int.reduceToNat]
   try simp [ActD.cs]
  ·rw [show n - acc.length = 0 from by omega] at f3
   simp only [actsD, List.append_nil] at f3
   subst f3
   exact qF (qA [0, 1, 2])
def livedW : List ActD → WorldD → List Int → WorldD × List Int
 | [], w, cs => (w, cs)
 | a :: l, w, cs => livedW l (doneW w a).1 (cs ++ [(doneW w a).2])
theorem livedW_step {l : List ActD} {k : Nat} {w : WorldD} {cs : List Int} (h : k < l.length) : livedW (l.drop k) w cs = livedW (l.drop (k + 1)) (doneW w l[k]).1 (cs ++ [(doneW w l[k]).2]) := by
 rw [List.drop_eq_getElem_cons h, livedW]
theorem livedW_end {l : List ActD} {k : Nat} {w : WorldD} {cs : List Int} (h : l.length ≤ k) : livedW (l.drop k) w cs = (w, cs) := by
 rw [List.drop_eq_nil_of_le h, livedW]
theorem livedW_inv {Q : WorldD → Nat → Prop} (hQ : ∀ w k a, Q w k → a.text.length ≤ 200 → Q (doneW w a).1 (k + 1)) : ∀ {l : List ActD} {w : WorldD} {cs : List Int} {k : Nat}, Q w k → (∀ a ∈ l, FineA a) → Q (livedW l w cs).1 (k + l.length) ∧ (livedW l w cs).2.length = cs.length + l.length
 | [], w, cs, k, h, _ => ⟨h, rfl⟩
 | a :: l, w, cs, k, h, hl => by
  have h1 := livedW_inv hQ (l := l) (cs := cs ++ [(doneW w a).2]) (hQ w k a h (hl a (by simp)).2.1) (fun x hx => hl x (by simp [hx]))
  rw [livedW, List.length_cons]
  refine ⟨by rw [show k + (l.length + 1) = k + 1 + l.length by omega]; exact h1.1, by rw [h1.2, List.length_append, List.length_singleton]; omega⟩
theorem GoodW.mono {w : WorldD} {k j : Nat} (h : GoodW w k) (hk : k ≤ j) : GoodW w j := ⟨h.a, h.b, h.r, by have := h.wa; omega, by have := h.wb; omega, by have := h.ra; omega, by have := h.rb; omega⟩
end
section
open Go.RowKit

theorem impl_EndNew (who n : Int) (p : PolicyD) : CallA Tryz.prog 15 [.sc (.int .i64 who), .sc (.int .i64 n), .ag p.cs] [] (.tu [.ag ((endNew who n p).1.cs 0), .sc (.bo (endNew who n p).2)]) ((endNew who n p).1.hp true) := by
 have hA := impl_AddrsOk (ownOne n) (by simp [ownOne])
 have hB := impl_BucketNew 1 3
 rw [bucket13, if_pos rfl] at hB
 have hf := @endNew_f who n p
 have ht := @endNew_t who n p
 have hl : (ownOne n).length = 1 := rfl
 have hcs : (ownOne n).map AddrD.cs = [AddrD.cs ⟨0, n, false, true⟩] := rfl
 rw [hl, hcs] at hA
 generalize endNew who n p = R at *
 refine qE Tryz.func15 Tryz.ntmps15 Tryz.results15 fun E hE => ?_
 refine qK (impl_within _ _ _) [] ?_
 refine qB (fun h1 => ?_) fun h1 => ?_
 ·refine qK (impl_PolicyOk p) [] ?_
  refine qB (fun h2 => ?_) fun h2 => ?_
  ·refine qK (hA) (qA [2]) ?_
   refine qB (fun h3 => ?_) fun h3 => ?_
   ·rw [hf (by simp [h3])]
    refine qJ [none, none, none, none, none, none, none] ?_
    simp [endZero]
   ·rw [ht (by simp [h1, h2, h3])]
    simp only [inR, Bool.and_eq_true, decide_eq_true_eq] at h1
    refine qX ?_
    refine qK (hB) [] ?_
    refine den_fin [some (2, none), none, none, none, none, none, none] (qC) _ (by simp only [go_sem]; rfl) (by rfl) (by rfl) ?_
    simp (disch := omega) only [go_sem, Nat.reduceEqDiff, Nat.reduceAdd, Nat.reduceSub, Int.reduceAdd, Int.reduceSub, Int.reduceToNat]
    try simp [ownOne, AddrD.cs]
  ·rw [hf (by simp [h2])]
   refine qX ?_
   refine qJ [none, none, none, none, none, none, none] ?_
   simp [endZero]
 ·rw [hf (by simp [h1])]
  refine qX ?_
  refine qJ [none, none, none, none, none, none, none] ?_
  simp [endZero]
theorem impl_WorldNewD (p : PolicyD) (hp : p ∈ pols) : ∃ w : WorldD, Fine0 w ∧ CallA Tryz.prog 6 [.ag p.cs] [] (.tu [.ag (w.cs 0), .sc (.bo true)]) (w.hp true) := by
 have h1 := impl_EndNew 1 11 p
 have h2 := impl_EndNew 2 21 p
 have i1 := idle_new (s := 1) (by omega) hp
 have i2 := idle_new (s := 2) (by omega) hp
 rw [show (10 * 1 + 1 : Int) = 11 from rfl] at i1
 rw [show (10 * 2 + 1 : Int) = 21 from rfl] at i2
 rw [i1] at h1
 rw [i2] at h2
 have hm := List.all_eq_true.1 meet_empty p hp
 simp only [Bool.and_eq_true] at hm
 obtain ⟨⟨⟨m1, m2⟩, m3⟩, m4⟩ := hm
 have hM := impl_Meet (idleE 1 p) (idleE 2 p) (smallB_iff m1) (smallB_iff m2)
 obtain ⟨g1, f1⟩ := emptyE_good m3
 obtain ⟨g2, f2⟩ := emptyE_good m4
 clear i1 i2 m1 m2 m3 m4
 generalize idleE 1 p = a at *
 generalize idleE 2 p = c at *
 obtain ⟨M, hMM⟩ : ∃ M, M = meet a c := ⟨_, rfl⟩
 rw [← hMM] at hM g1 f1 g2 f2
 clear hMM
 obtain ⟨X, Y, ok⟩ := M
 dsimp only at hM g1 f1 g2 f2
 refine ⟨world0 X Y, ⟨⟨g1, g2, ⟨by simp [world0], by simp [world0], by simp [world0], by simp [world0], by simp [world0], by simp [world0], by simp [world0]⟩, by simp [world0], by simp [world0], by simp [world0], by simp [world0]⟩, ⟨f1, f2⟩, rfl, rfl, rfl⟩, ?_⟩
 refine qE Tryz.func6 Tryz.ntmps6 Tryz.results6 fun E hE => ?_
 refine qK (h1) [] ?_
 refine qK (h2) [] ?_
 refine qK (hM) (qA [2, 3, 4, 5, 6, 7, 8, 10, 11, 12, 13, 14, 15, 16]) ?_
 refine den_fin [some (20, none), some (21, none), some (22, none), some (23, none), some (24, none), some (25, none), some (26, none), some (27, none), some (28, none), some (29, none), some (30, none), some (31, none), some (32, none), some (33, none), none, none, some (18, none), none, none, none, none] (qC) _ (by simp only [go_sem]; rfl) (by rfl) (by rfl) ?_
 simp (disch := omega) only [go_sem, Nat.reduceEqDiff, Nat.reduceAdd, Nat.reduceSub, Int.reduceAdd, Int.reduceSub, Int.reduceToNat]
 try simp [world0, intC]
theorem impl_LivedD (p : PolicyD) (w0 : WorldD) (h0 : Fine0 w0) (hW : CallA Tryz.prog 6 [.ag p.cs] [] (.tu [.ag (w0.cs 0), .sc (.bo true)]) (w0.hp true)) (l : List ActD) (hl : l.length ≤ 120) (ha : ∀ a ∈ l, FineA a) : CallA Tryz.prog 9 [.ag p.cs, .sc (.sl 0 0 l.length)] [some ⟨l.map ActD.cs, 28, 59, false, true⟩]
  (.tu [.ag ((livedW l w0 []).1.cs 1), .sc (.sl 22 0 (livedW l w0 []).2.length)]) ([some ⟨l.map ActD.cs, 28, 59, false, true⟩] ++ ((livedW l w0 []).1.hp true ++ [some ⟨(livedW l w0 []).2.map intC, 1, 3, true, true⟩])) := by
 obtain ⟨R, hR⟩ : ∃ R, R = livedW l w0 [] := ⟨_, rfl⟩
 rw [← hR]
 refine qEO Tryz.func9 Tryz.ntmps9 Tryz.results9 fun E hE => ?_
 refine qK (hW) [] ?_
 refine den_lpO 1 hE (fun s (y : Nat × WorldD × List Int) => s.at [0, 1, 2, 7, 10, 11, 12, 13, 14, 15, 16, 17, 18, 19, 20, 21, 22, 23, 24, 25, 29, 30, 31, 32, 33, 34, 35, 36, 37, 38, 39, 40, 41, 42, 43] [(28, .sc (.int .i64 (y.1 : Nat))), (8, .sc (.sl 25 0 y.2.2.length))] ((s.hp.take 3) ++ (y.2.1.hp true ++ [some ⟨[WorldD.cs y.2.1 3], 61, 47, true, false⟩, some ⟨y.2.2.map intC, 1, 3, true, true⟩]))) (fun (y : Nat × WorldD × List Int) => y.1 ≤ l.length ∧ GoodW y.2.1 y.1 ∧ y.2.2.length = y.1 ∧ livedW (l.drop y.1) y.2.1 y.2.2 = R) (fun (y : Nat × WorldD × List Int) => l.length - y.1) (0, w0, []) [some (0, none), some (1, none), some (2, none), some (3, none), some (4, none), some (5, none), some (6, none), some (7, none), some (8, none), some (9, none), some (10, none), some (11, none), some (12, none), some (13, none), some (14, none), some (15, none), some (16, none), some (17, none), some (18, none), some (19, none), some (20, none), some (21, none), some (22, none), some (23, none), some (24, none), none] (qC) (⟨Nat.zero_le _, h0.g, rfl, hR.symm⟩) (weak_mkO (by rfl) (by rfl) ?_) fun y hy N hN => ?_
 ·exact qY
 ·obtain ⟨k, w, cs⟩ := y
  obtain ⟨f1, f2, f3, f4⟩ := hy
  dsimp only at f1 f2 f3 f4
  refine qR ?_
  refine qB (fun h => ?_) fun h => ?_
  ·rw [livedW_step h] at f4
   have hak := ha l[k] (List.getElem_mem h)
   have hD := impl_Done w l[k] (f2.d (by omega))
   have hG := doneW_good f2 (a := l[k]) (by have := hak.2.1; omega)
   generalize hx : l[k] = x at *
   obtain ⟨Q, hQ⟩ : ∃ Q, Q = doneW w x := ⟨_, rfl⟩
   rw [← hQ] at hD hG f4
   try simp (disch := omega) only [go_sem, Nat.reduceEqDiff, Nat.reduceAdd, Nat.reduceSub, Int.reduceAdd, Int.reduceSub, Int.reduceToNat, hx]
   refine qK (hD) (qA [3, 4, 5, 6, 7, 8, 9, 10, 11, 12, 13, 14, 15, 16, 17, 18, 19, 20, 21, 22, 23]) ?_
   refine ⟨qC, hN _ (k + 1, Q.1, cs ++ [Q.2]) (qA [0, 1, 2, 27, 28, 29, 30, 31, 32, 33, 34, 35, 36, 37, 38, 39, 40, 41, 42, 43, 44, 45, 46, 47, 24, 50]) (by (try dsimp only); exact ⟨by omega, hG, by simp [f3], f4⟩) (by (try dsimp only); omega) (weak_mkO (by rfl) (by rfl) ?_)⟩
   try simp (disch := omega) only [go_sem, Nat.reduceEqDiff, Nat.reduceAdd, Nat.reduceSub, Int.reduceAdd, Int.reduceSub, Int.reduceToNat]
   try simp [intC]
  ·rw [livedW_end (by omega)] at f4
   subst f4
   refine qX ?_
   exact qFO (qA [0, 3, 4, 5, 6, 7, 8, 9, 10, 11, 12, 13, 14, 15, 16, 17, 18, 19, 20, 21, 22, 23, 25])
theorem spec_DrawLife (b : List UInt8) (hb : b.length ≤ 1048576) : ∃ (p : PolicyD) (l : List ActD), p ∈ pols ∧ l.length ≤ 120 ∧ (∀ a ∈ l, FineA a) ∧ CallA Tryz.prog 5 [.sc (.sl 0 0 b.length)] [some ⟨b.map byteC, 1, 5, false, true⟩] (.tu [.ag p.cs, .sc (.sl 1 0 l.length)]) ([some ⟨b.map byteC, 1, 5, false, true⟩] ++ [some ⟨l.map ActD.cs, 28, 59, true, true⟩]) := by
 obtain ⟨p, c1, o1, hp, h1⟩ := spec_l12Policy b (newCur b) (newCur_ok hb)
 obtain ⟨l, c2, o2, hl, ha, h2⟩ := spec_l24Acts b c1 o1 70 (by omega)
 refine ⟨p, l, hp, hl, ha, ?_⟩
 refine qE Tryz.func5 Tryz.ntmps5 Tryz.results5 fun E hE => ?_
 refine qK (spec_l01New b hb) (qA [0]) ?_
 refine qK (h1) (qA [0, 2]) ?_
 refine den_drawW [(0, 2)] [[1, 0, 2, 3, 4], [1, 2, 0, 3, 4]] (by kernel_rfl) (qC) (by kernel_rfl) ?_
 simp only [allDn]
 refine ⟨runW_den 400 ?_, runW_den 400 ?_⟩
 all_goals simp (disch := omega) only [go_sem, Nat.reduceEqDiff, Nat.reduceAdd, Nat.reduceSub, Int.reduceAdd, Int.reduceSub, Int.reduceToNat]
 all_goals
  refine den_callW (qC) (h2) (qA [0, 2]) qM (by rfl) (runW_den 400 ?_)
  simp (disch := omega) only [go_sem, Nat.reduceEqDiff, Nat.reduceAdd, Nat.reduceSub, Int.reduceAdd, Int.reduceSub, Int.reduceToNat]
  refine qG ?_
  exact qF (qA [0, 4])
end
section
open Go.RowKit

def bump (l : List Int) (n : Int) : List Int := if inR n 1 13 then l.set (n - 1).toNat (IntKind.i64.wrap (l.getD (n - 1).toNat 0 + 1)) else l
def waitGo (acc : List Int) : List LetterD → List Int
 | [] => acc
 | x :: r => waitGo (bump acc x.kind) r
def waiting (bag : List LetterD) : List Int := waitGo (List.replicate 13 0) bag
theorem waitGo_step {l : List LetterD} {acc : List Int} {k : Nat} (h : k < l.length) : waitGo acc (l.drop k) = waitGo (bump acc l[k].kind) (l.drop (k + 1)) := by
 rw [List.drop_eq_getElem_cons h, waitGo]
theorem bump_len (l : List Int) (n : Int) : (bump l n).length = l.length := by
 rw [bump]
 split <;> simp
theorem waitGo_len : ∀ {l : List LetterD} {acc : List Int}, (waitGo acc l).length = acc.length
 | [], _ => rfl
 | x :: r, acc => by rw [waitGo, waitGo_len, bump_len]
theorem waiting_len (l : List LetterD) : (waiting l).length = 13 := by rw [waiting, waitGo_len]; rfl
theorem bump_at {l : List Int} {m : Nat} (h : m < l.length) (hm : m < 13) : bump l ((m : Int) + 1) = l.set m (IntKind.i64.wrap (l[m] + 1)) := by
 have e : ((m : Int) + 1 - 1).toNat = m := by omega
 rw [bump, if_pos (by simp [inR]; omega), e, List.getD_eq_getElem?_getD, List.getElem?_eq_getElem h]
 rfl
theorem impl_Waiting (w : WorldD) (hb : w.bag.length ≤ 1048576) : CallA Tryz.prog 10 [.ag (w.cs 0)] (w.hp false) (.sc (.sl 21 0 (waiting w.bag).length)) (w.hp false ++ [some ⟨(waiting w.bag).map intC, 1, 3, true, true⟩]) := by
 obtain ⟨m0, hm0⟩ : ∃ m, m = waiting w.bag := ⟨_, rfl⟩
 have h13 := waiting_len w.bag
 rw [← hm0] at h13 ⊢
 refine qE Tryz.func10 Tryz.ntmps10 Tryz.results10 fun E hE => ?_
 refine den_lp 21 hE (fun s (x : Nat × List Int) => s.at [0, 1, 5, 6, 7, 11, 12, 13, 14, 15, 16, 17, 18, 19, 20, 21, 22, 23, 24, 25] [(10, .sc (.int .i64 (x.1 : Nat)))] (w.hp false ++ [some ⟨[w.cs 0], 61, 47, true, false⟩, some ⟨x.2.map intC, 1, 3, true, true⟩])) (fun (x : Nat × List Int) => x.1 ≤ w.bag.length ∧ x.2.length = 13 ∧ waitGo x.2 (w.bag.drop x.1) = m0) (fun (x : Nat × List Int) => w.bag.length - x.1) (0, List.replicate 13 0) (qA [0, 1, 2, 3, 4, 5, 6, 7, 8, 9, 10, 11, 12, 13, 14, 15, 16, 17, 18, 19, 20, 21, 22]) (qC) (⟨Nat.zero_le _, rfl, hm0.symm⟩) (weak_mk (by rfl) (by rfl) ?_) fun x hx N hN => ?_
 ·try simp (disch := omega) only [go_sem, Nat.reduceEqDiff, Nat.reduceAdd, Nat.reduceSub, Int.reduceAdd, Int.reduceSub, Int.reduceToNat]
  try rfl
  try simp
 ·obtain ⟨k, acc⟩ := x
  obtain ⟨hk1, hk2, hk3⟩ := hx
  dsimp only at hk1 hk2 hk3
  refine qR ?_
  refine qB (fun h => ?_) fun h => ?_
  ·rw [waitGo_step h] at hk3
   refine qX ?_
   refine qK (impl_within _ _ _) [] ?_
   refine qB (fun h2 => ?_) fun h2 => ?_
   ·have h2' := h2
    simp only [inR, Bool.and_eq_true, decide_eq_true_eq] at h2'
    obtain ⟨m, hm⟩ := Int.eq_ofNat_of_zero_le (show 0 ≤ w.bag[k].kind - 1 by omega)
    have hkd : w.bag[k].kind = (m : Int) + 1 := by omega
    have e2 : (m : Int) + 1 - 1 = (m : Int) := by omega
    have hm13 : m < acc.length := by omega
    rw [hkd, bump_at hm13 (by omega)] at hk3
    try simp (disch := omega) only [go_sem, Nat.reduceEqDiff, Nat.reduceAdd, Nat.reduceSub, Int.reduceAdd, Int.reduceSub, Int.reduceToNat, hkd, e2, map_get hm13]
    refine ⟨by (try simp (disch := omega) only [go_sem, List.length_set, Nat.reduceEqDiff, Nat.reduceAdd, Nat.reduceSub, Int.reduceAdd, Int.reduceSub, Int.reduceToNat, hkd, e2]) <;> omega, hN _ (k + 1, acc.set m (IntKind.i64.wrap (acc[m] + 1))) (qA [0, 1, 2, 3, 4, 5, 6, 7, 8, 9, 10, 11, 12, 13, 14, 15, 16, 17, 18, 19, 20, 21, 22]) (by (try dsimp only); exact ⟨by omega, by simp; omega, hk3⟩) (by (try dsimp only); omega) (weak_mk (by rfl) (by rfl) ?_)⟩
    refine qX ?_
    first | exact map_set' rfl | exact ⟨by omega, map_set' rfl⟩ | skip
   ·rw [bump, if_neg (by simp [h2])] at hk3
    refine qX ?_
    exact qN hN (k + 1, acc) (qA [0, 1, 2, 3, 4, 5, 6, 7, 8, 9, 10, 11, 12, 13, 14, 15, 16, 17, 18, 19, 20, 21, 22]) (by (try dsimp only); exact ⟨by omega, hk2, hk3⟩)
  ·rw [List.drop_eq_nil_of_le (by omega), waitGo] at hk3
   subst hk3
   refine den_fin (qA [0, 1, 2, 3, 4, 5, 6, 7, 8, 9, 10, 11, 12, 13, 14, 15, 16, 17, 18, 19, 20, 22]) (qC) _ (by simp only [go_sem]; rfl) (by rfl) (by rfl) ?_
   simp (disch := omega) only [go_sem, Nat.reduceEqDiff, Nat.reduceAdd, Nat.reduceSub, Int.reduceAdd, Int.reduceSub, Int.reduceToNat]
   try omega
end
section
open Go.RowKit

def KindL (x : LetterD) : Prop := inR x.kind 1 13 = true
def Kinds (l : List LetterD) : Prop := ∀ y ∈ l, KindL y
theorem kinds_nil : Kinds [] := fun y hy => by simp at hy
theorem kinds_one {x : LetterD} (h : KindL x) : Kinds [x] := fun y hy => by rw [List.mem_singleton] at hy; rw [hy]; exact h
theorem kinds_app {l m : List LetterD} (h : Kinds l) (g : Kinds m) : Kinds (l ++ m) := fun y hy => (List.mem_append.1 hy).elim (h y) (g y)
theorem kinds_map {α : Type} {l : List α} {f : α → LetterD} (h : ∀ a, KindL (f a)) : Kinds (l.map f) := fun y hy => by
 obtain ⟨a, _, rfl⟩ := List.mem_map.1 hy
 exact h a
theorem kinds_bagOut {l : List LetterD} {n : Int} (h : Kinds l) : Kinds (bagOut l n) := fun y hy => (List.mem_append.1 hy).elim (fun g => h y (List.mem_of_mem_take g)) (fun g => h y (List.mem_of_mem_drop g))
theorem kinds_at {l : List LetterD} {n : Nat} (h : Kinds l) (hn : n < l.length) : KindL (leAtN l n) := by
 rw [leAtN, List.getD_eq_getElem?_getD, List.getElem?_eq_getElem hn]
 exact h _ (List.getElem_mem hn)
theorem hear_kinds {e : EndD} {x : LetterD} : Kinds (hear e x).2 := by
 refine hear_all (Q := fun r => Kinds r.2) kinds_nil ?_ ?_ ?_ ?_ ?_ ?_ ?_ ?_ ?_ ?_ ?_ ?_
 ·unfold hearHello; split
  ·exact kinds_one rfl
  ·exact kinds_nil
 ·unfold hearBack; split
  ·exact kinds_one rfl
  ·exact kinds_nil
 ·unfold hearJoin; split
  ·split
   ·exact kinds_one rfl
   ·exact kinds_one rfl
  ·exact kinds_nil
 ·unfold hearJoinBack; split
  ·exact kinds_one rfl
  ·exact kinds_nil
 ·unfold hearJoinDone; split
  ·split
   ·exact kinds_one rfl
   ·split
    ·exact kinds_one rfl
    ·exact kinds_nil
  ·exact kinds_nil
 ·exact kinds_nil
 ·unfold hearAddr; split
  ·exact kinds_one rfl
  ·exact kinds_nil
 ·exact kinds_nil
 ·exact kinds_nil
 ·unfold hearData; split
  ·exact kinds_one rfl
  ·exact kinds_nil
 ·exact kinds_nil
 ·exact kinds_nil
theorem push_kinds {e : EndD} : Kinds (push e).2 := by
 unfold push; split
 ·exact kinds_one rfl
 ·exact kinds_nil
theorem pushN_kinds : ∀ {k : Nat} {e : EndD}, Kinds (pushN k e).2
 | 0, e => kinds_nil
 | k + 1, e => kinds_app push_kinds (pushN_kinds (k := k))
theorem tell_kinds {e : EndD} : Kinds (tellAddrs e) := by
 unfold tellAddrs; split
 ·exact kinds_map fun a => rfl
 ·exact kinds_nil
theorem tickL_kinds {e : EndD} {s : SubD} : Kinds (tickL e s) := by
 unfold tickL; repeat' split
 all_goals first | exact kinds_nil | exact kinds_one rfl
theorem tickEnd_kinds {e : EndD} {l : List LetterD} (h : Kinds l) : Kinds (tickEnd e l).2 := kinds_app (kinds_app h tell_kinds) pushN_kinds
theorem tick_kinds {e : EndD} : Kinds (tick e).2 := by
 unfold tick; split
 ·split
  ·refine tickEnd_kinds fun y hy => ?_
   obtain ⟨s, _, h⟩ := List.mem_flatMap.1 hy
   exact tickL_kinds y h
  ·exact tickEnd_kinds kinds_nil
 ·exact kinds_nil
theorem join_kinds {e : EndD} {r : RoadD} {s : Bool} : Kinds (join e r s).2 := by
 unfold join; split
 ·exact kinds_one rfl
 ·exact kinds_nil
theorem manGo_kinds {far : List AddrD} : ∀ {l : List RoadD} {e : EndD}, Kinds (manGo far e l).2
 | [], e => kinds_nil
 | r :: l, e => kinds_app join_kinds (manGo_kinds (l := l))
theorem actE_kinds {e : EndD} {a : ActD} : Kinds (actE e a).2 := by
 unfold actE
 split
 ·exact pushN_kinds
 split
 ·exact kinds_nil
 split
 ·exact tick_kinds
 split
 ·unfold manage; split
  ·exact manGo_kinds
  ·exact kinds_nil
 split
 ·exact kinds_nil
 split
 ·unfold dropOwn; split
  ·exact kinds_map fun a => rfl
  ·exact kinds_nil
 ·unfold resetE; split
  ·exact kinds_one rfl
  ·exact kinds_nil
structure KindW (w : WorldD) : Prop where
 bag : Kinds w.bag
 past : Kinds w.past
theorem post1_kindW {side : Int} {w : WorldD} {x : LetterD} (h : KindW w) (hx : KindL x) : KindW (post1 side w x) := by
 have hp : Kinds (pastP w.past x) := by
  rw [pastP]; split
  ·exact kinds_app h.past (kinds_one hx)
  ·exact h.past
 have hb : Kinds (bagP w.bag x) := by
  rw [bagP]; split
  ·exact kinds_app h.bag (kinds_one hx)
  ·exact h.bag
 rw [post1]; split
 ·exact ⟨h.bag, hp⟩
 ·exact ⟨hb, hp⟩
theorem postL_kindW {side : Int} : ∀ {l : List LetterD} {w : WorldD}, Kinds l → KindW w → KindW (postL side w l)
 | [], w, _, h => h
 | x :: l, w, hl, h => postL_kindW (l := l) (fun y hy => hl y (List.mem_cons_of_mem _ hy)) (post1_kindW h (hl x (List.mem_cons_self ..)))
theorem setEnd_kindW {w : WorldD} {s : Int} {e : EndD} (h : KindW w) : KindW (setEnd w s e) := by
 unfold setEnd; split <;> exact ⟨h.bag, h.past⟩
theorem actW_kindW {w : WorldD} {a : ActD} (h : KindW w) : KindW (actW w a) := by
 unfold actW wrote gotRead; repeat' split
 all_goals exact ⟨h.bag, h.past⟩
theorem lands_kindW {w : WorldD} {x : LetterD} (h : KindW w) : KindW (lands w x) := by
 rw [lands]; split
 ·exact h
 ·rw [posted]; split
  ·exact postL_kindW hear_kinds (setEnd_kindW h)
  ·exact setEnd_kindW h
theorem mayInject_kind {w : WorldD} {x : LetterD} (h : mayInject w x = true) : KindL x := by
 simp only [mayInject, letOk, Bool.and_eq_true] at h
 exact h.1.1.1.1.1
theorem actOk_pos {a : ActD} (h : actOk a = true) : 0 ≤ a.pos := by
 simp only [actOk, isN, inR, Bool.and_eq_true, decide_eq_true_eq] at h
 omega
theorem doneW_kindW {w : WorldD} {a : ActD} (h : KindW w) : KindW (doneW w a).1 := by
 have ha : ∀ x, KindL x → KindW { w with bag := w.bag ++ [x] } := fun x hx => ⟨kinds_app h.bag (kinds_one hx), h.past⟩
 have hb : KindW { w with bag := bagOut w.bag a.pos } := ⟨kinds_bagOut h.bag, h.past⟩
 unfold doneW; split
 ·rename_i hok
  have hp := actOk_pos hok
  split
  ·unfold acts; split
   ·exact h
   ·exact postL_kindW actE_kinds (setEnd_kindW (actW_kindW h))
  ·rw [moves]
   split
   ·split
    ·exact h
    split
    ·exact lands_kindW hb
    ·exact hb
   split
   ·split
    ·exact h
    ·rename_i hh
     rw [not_or] at hh
     exact ha _ (kinds_at h.bag (by omega))
   split
   ·split
    ·exact h
    split
    ·exact h
    ·rename_i h1 h2
     rw [Bool.not_eq_false] at h1
     exact ha _ (mayInject_kind h1)
   ·split
    ·exact h
    ·rename_i hh
     rw [not_or] at hh
     exact ha _ (kinds_at h.past (by omega))
 ·exact h
theorem done_code {w : WorldD} {a : ActD} (h : actOk a = true) : (doneW w a).2 = 0 ∨ (doneW w a).2 = 1 ∨ (doneW w a).2 = 2 := by
 rw [doneW, if_pos h]
 split
 ·unfold acts; split
  ·exact .inr (.inl rfl)
  ·exact .inl rfl
 ·unfold moves; repeat' split
  all_goals first | exact .inl rfl | exact .inr (.inl rfl) | exact .inr (.inr rfl)
theorem done_lose {w : WorldD} {a : ActD} (h : actOk a = true) (hk : a.kind = 9) (h0 : (doneW w a).2 = 0) : (doneW w a).1.bag.length + 1 = w.bag.length := by
 have hp := actOk_pos h
 rw [doneW, if_pos h, if_neg (by omega), moves, if_pos (.inr hk)] at h0 ⊢
 by_cases hh : (w.bag.length : Int) ≤ a.pos
 ·rw [if_pos hh] at h0; exact absurd (show (1 : Int) = 0 from h0) (by decide)
 ·rw [if_neg hh, if_neg (by omega)]
  show (bagOut w.bag a.pos).length + 1 = _
  rw [bagOut, List.length_append, List.length_take, List.length_drop]
  omega
theorem done_copy {w : WorldD} {a : ActD} (h : actOk a = true) (hk : a.kind = 10) (h0 : (doneW w a).2 = 0) : (doneW w a).1.bag.length = w.bag.length + 1 := by
 rw [doneW, if_pos h, if_neg (by omega), moves, if_neg (by omega), if_pos hk] at h0 ⊢
 by_cases hh : (w.bag.length : Int) ≤ a.pos ∨ 40 ≤ w.bag.length
 ·rw [if_pos hh] at h0; exact absurd (show (1 : Int) = 0 from h0) (by decide)
 ·rw [if_neg hh]
  simp
def sumI : List Int → Int
 | [] => 0
 | x :: l => x + sumI l
theorem sumI_set : ∀ {l : List Int} {n : Nat} {v : Int} (h : n < l.length), sumI (l.set n v) = sumI l - l[n] + v
 | x :: l, 0, v, _ => by simp only [List.set_cons_zero, sumI, List.getElem_cons_zero]; omega
 | x :: l, n + 1, v, h => by
  simp only [List.set_cons_succ, sumI, List.getElem_cons_succ]
  rw [sumI_set (l := l) (by simpa using h)]
  omega
theorem sumI_app : ∀ {l m : List Int}, sumI (l ++ m) = sumI l + sumI m
 | [], m => by simp [sumI]
 | x :: l, m => by rw [List.cons_append, sumI, sumI, sumI_app (l := l)]; omega
theorem sumI_take {l : List Int} {k : Nat} (h : k < l.length) : sumI (l.take (k + 1)) = sumI (l.take k) + l[k] := by
 rw [List.take_succ_eq_append_getElem h, sumI_app, sumI, sumI]; omega
theorem sumI_bd {B : Int} : ∀ {l : List Int}, (∀ v ∈ l, 0 ≤ v ∧ v ≤ B) → 0 ≤ sumI l ∧ sumI l ≤ B * l.length
 | [], _ => by simp [sumI]
 | x :: l, h => by
  have h1 := h x (by simp)
  have h2 := sumI_bd (l := l) (fun v hv => h v (by simp [hv]))
  rw [sumI, List.length_cons, Int.natCast_add, Int.mul_add]
  omega
theorem waitGo_sum : ∀ {l : List LetterD} {acc : List Int} {k : Nat}, acc.length = 13 → (∀ v ∈ acc, 0 ≤ v ∧ v ≤ (k : Int)) → k + l.length ≤ 1048576 → Kinds l → sumI (waitGo acc l) = sumI acc + l.length ∧ ∀ v ∈ waitGo acc l, 0 ≤ v ∧ v ≤ ((k + l.length : Nat) : Int)
 | [], acc, k, _, hb, _, _ => by
  rw [waitGo]
  exact ⟨by simp, fun v hv => by have := hb v hv; simp only [List.length_nil]; omega⟩
 | x :: l, acc, k, h13, hb, hk, hl => by
  have hx := hl x (by simp)
  have hx2 := hx
  simp only [KindL, inR, Bool.and_eq_true, decide_eq_true_eq] at hx2
  obtain ⟨m, hm⟩ := Int.eq_ofNat_of_zero_le (show 0 ≤ x.kind - 1 by omega)
  have hmk : x.kind = (m : Int) + 1 := by omega
  have hma : m < acc.length := by omega
  simp only [List.length_cons] at hk ⊢
  have hv := hb _ (List.getElem_mem hma)
  rw [waitGo, hmk, bump_at hma (by omega), w64 (by omega)]
  obtain ⟨g1, g2⟩ := waitGo_sum (l := l) (acc := acc.set m (acc[m] + 1)) (k := k + 1) (by rw [List.length_set]; exact h13) (fun v hv => by
   rcases List.mem_or_eq_of_mem_set hv with hv | hv
   ·have := hb v hv; omega
   ·subst hv; omega) (by omega) (fun y hy => hl y (by simp [hy]))
  refine ⟨by rw [g1, sumI_set hma]; omega, fun v hv => ?_⟩
  have := g2 v hv
  omega
theorem waiting_law {l : List LetterD} (hl : Kinds l) (hk : l.length ≤ 40) : sumI (waiting l) = l.length ∧ ∀ v ∈ waiting l, 0 ≤ v ∧ v ≤ 40 := by
 obtain ⟨g1, g2⟩ := waitGo_sum (l := l) (acc := List.replicate 13 0) (k := 0) (by simp) (fun v hv => by rw [List.eq_of_mem_replicate hv]; omega) (by omega) hl
 refine ⟨by rw [waiting, g1]; simp [sumI, List.replicate], fun v hv => ?_⟩
 have := g2 v hv
 omega
end
section
open Go.RowKit

def cntS (l : List LetterD) : Nat := (l.filter fun x => !decide (sideAt x.to = 0)).length
theorem post1_bag {side : Int} {w : WorldD} {x : LetterD} (h : w.bag.length ≤ 40) : (post1 side w x).bag.length = min 40 (w.bag.length + (if sideAt x.to = 0 then 0 else 1)) := by
 rw [post1]; split
 ·show w.bag.length = _; omega
 ·show (bagP w.bag x).length = _
  rw [bagP]; split
  ·simp; omega
  ·omega
theorem post1_past {side : Int} {w : WorldD} {x : LetterD} (h : w.past.length ≤ 150) : (post1 side w x).past.length = min 150 (w.past.length + 1) := by
 have e : (post1 side w x).past = pastP w.past x := by rw [post1]; split <;> rfl
 rw [e, pastP]; split
 ·simp; omega
 ·omega
theorem postL_bag {side : Int} : ∀ {l : List LetterD} {w : WorldD}, w.bag.length ≤ 40 → w.past.length ≤ 150 → (postL side w l).bag.length = min 40 (w.bag.length + cntS l) ∧ (postL side w l).past.length = min 150 (w.past.length + l.length)
 | [], w, h1, h2 => by
  rw [show postL side w [] = w from rfl, show cntS [] = 0 from rfl, List.length_nil]; omega
 | x :: l, w, h1, h2 => by
  have e1 := post1_bag (side := side) (x := x) h1
  have e2 := post1_past (side := side) (x := x) h2
  obtain ⟨g1, g2⟩ := postL_bag (side := side) (l := l) (w := post1 side w x) (by omega) (by omega)
  have e3 : cntS (x :: l) = (if sideAt x.to = 0 then 0 else 1) + cntS l := by
   by_cases h0 : sideAt x.to = 0 <;> simp [cntS, h0]; omega
  rw [show postL side w (x :: l) = postL side (post1 side w x) l from rfl, g1, g2, e1, e2, e3, List.length_cons]
  omega
def BagW (w : WorldD) : Prop := w.bag.length ≤ 40 ∧ w.past.length ≤ 150
theorem postL_bagW {side : Int} {l : List LetterD} {w : WorldD} (h : BagW w) : BagW (postL side w l) := by
 obtain ⟨h1, h2⟩ := postL_bag (side := side) (l := l) h.1 h.2
 constructor <;> omega
theorem setEnd_bagW {w : WorldD} {s : Int} {e : EndD} (h : BagW w) : BagW (setEnd w s e) := by unfold setEnd; split <;> exact h
theorem actW_bagW {w : WorldD} {a : ActD} (h : BagW w) : BagW (actW w a) := by
 unfold actW wrote gotRead; repeat' split
 all_goals exact h
theorem lands_bagW {w : WorldD} {x : LetterD} (h : BagW w) : BagW (lands w x) := by
 rw [lands]; split
 ·exact h
 ·rw [posted]; split
  ·exact postL_bagW (setEnd_bagW h)
  ·exact setEnd_bagW h
theorem doneW_bagW {w : WorldD} {a : ActD} (h : BagW w) : BagW (doneW w a).1 := by
 have hb : BagW { w with bag := bagOut w.bag a.pos } := ⟨by have := h.1; simp only [bagOut, List.length_append, List.length_take, List.length_drop]; omega, h.2⟩
 have ha : ∀ x, ¬ 40 ≤ w.bag.length → BagW { w with bag := w.bag ++ [x] } := fun x hx => ⟨by simp only [List.length_append, List.length_singleton]; omega, h.2⟩
 unfold doneW; split
 ·split
  ·unfold acts; split
   ·exact h
   ·exact postL_bagW (setEnd_bagW (actW_bagW h))
  ·rw [moves]
   split
   ·split
    ·exact h
    split
    ·exact lands_bagW hb
    ·exact hb
   split
   ·split
    ·exact h
    ·rename_i hh; exact ha _ (fun h40 => hh (.inr h40))
   split
   ·split
    ·exact h
    split
    ·exact h
    ·rename_i hh; exact ha _ hh
   ·split
    ·exact h
    ·rename_i hh; exact ha _ (fun h40 => hh (.inr (.inr h40)))
 ·exact h
end
end Go.Proofs.YtkabkkjnemongaaGreat
