/-
  Texts merged for this claim by shake.py: what its proof needs.
-/
import Derived.Tactics
import Derived.Below
import Derived.Laws.AppendOwn
import Derived.Laws.OwnMore
import Derived.Laws.Slices
import Derived.Laws.Small
import Derived.Laws.Strings
import Derived.KernelRfl
import Derived.Laws.MakeOwn
import Derived.Laws.BytesString
import Derived.Laws.BytesArg
import Derived.Laws.Build
import Derived.Laws.Concat
import Derived.Laws.StructEq
import Derived.Lib.ConvBytes
import Derived.Orders
import Derived.WalkKit
import Derived.ProofKit
import Derived.ShutString
import Derived.OpenShut
import Derived.ChangeOld
import Derived.Carry
import Derived.Test.YtkkcfgfkabkjhaaGreatChecked
import Derived.Laws.BitsLemmas
import Derived.JoinedOf
import Derived.Test.YtkkcfgfkabkjhaaGreatRows
import Derived.Test.YtkkcfgfkabkjhaaGreatZFnExactLandsE
set_option maxHeartbeats 16000000
set_option maxRecDepth 100000
set_option linter.unusedVariables false
set_option linter.unusedSimpArgs false
namespace Go.Proofs.YtkkcfgfkabkjhaaGreat
section
open Go.RowKit

def worldC (x : WorldD) (p0 p1 p2 p3 p4 p5 p6 p7 p8 p9 p10 p11 p12 p13 p14 p15 p16 p17 p18 p19 p20 : Nat) : List Sc := [.int .i64 x.a.side, .int .i64 x.a.state, .int .i64 x.a.key, .int .i64 x.a.peer, .int .i64 x.a.policy.kind, .int .i64 x.a.policy.many, .sl p0 0 x.a.own.length, .sl p1 0 x.a.far.length, .sl p2 0 x.a.subs.length, .sl p3 0 x.a.halfs.length, .int .i64 x.a.bucket.rate, .int .i64 x.a.bucket.burst, .int .i64 x.a.bucket.cur, .st x.a.out.text, .int .i64 x.a.out.base, .int .i64 x.a.out.sent, .int .i64 x.a.out.room, .int .i64 x.a.inp.read, .st x.a.inp.ready, .sl p4 0 x.a.inp.list.length, .sl p5 0 x.a.done.length, .sl p6 0 x.a.over.length, .int .i64 x.a.draw, .int .i64 x.a.now, .int .i64 x.a.pick, .int .i64 x.b.side, .int .i64 x.b.state, .int .i64 x.b.key, .int .i64 x.b.peer, .int .i64 x.b.policy.kind, .int .i64 x.b.policy.many, .sl p7 0 x.b.own.length, .sl p8 0 x.b.far.length, .sl p9 0 x.b.subs.length, .sl p10 0 x.b.halfs.length, .int .i64 x.b.bucket.rate, .int .i64 x.b.bucket.burst, .int .i64 x.b.bucket.cur, .st x.b.out.text, .int .i64 x.b.out.base, .int .i64 x.b.out.sent, .int .i64 x.b.out.room, .int .i64 x.b.inp.read, .st x.b.inp.ready, .sl p11 0 x.b.inp.list.length, .sl p12 0 x.b.done.length, .sl p13 0 x.b.over.length, .int .i64 x.b.draw, .int .i64 x.b.now, .int .i64 x.b.pick, .sl p14 0 x.bag.length, .sl p15 0 x.past.length, .st x.wroteA, .st x.wroteB, .st x.readA, .st x.readB, .sl p16 0 x.known.keys.length, .sl p17 0 x.known.tags.length, .sl p18 0 x.nums.length, .sl p19 0 x.answersA.length, .sl p20 0 x.answersB.length]
attribute [go_sem] worldC
structure SmallW (w : WorldD) : Prop where
 a : Small w.a
 b : Small w.b
 bag : w.bag.length ≤ 1048576
 past : w.past.length ≤ 1048576
 keys : w.known.keys.length ≤ 1048576
 tags : w.known.tags.length ≤ 1048576
 nums : w.nums.length ≤ 1048576
 ansA : w.answersA.length ≤ 1048576
 ansB : w.answersB.length ≤ 1048576
theorem spec_Learn (k : KnownD) (t : TagD) (h0 : k.keys.length ≤ 1048576) (h1 : k.tags.length ≤ 1048576) : CallA Tryz.prog 106 [.ag (k.cs 0), .ag t.cs] (k.hp false) (.ag ((learn k t).cs 2)) (k.hp false ++ (learn k t).hp true) := by
 have hM := spec_CanMake k t h0 h1
 have ht := learn_t (k := k) (t := t)
 have hf1 := learn_f1 (k := k) (t := t)
 have hf2 := learn_f2 (k := k) (t := t)
 generalize learn k t = R at *
 refine qE Tryz.func106 Tryz.ntmps106 Tryz.results106 fun E hE => ?_
 refine den_drawX [(0, 6), (0, 4), (0, 9), (3, 6), (3, 4), (3, 9), (4, 9), (7, 9), (9, 6), (4, 6)] [(0, 3), (3, 7), (4, 7), (6, 7)] [[1, 2, 5, 0, 3, 4, 6, 7, 8, 9, 10], [1, 2, 5, 0, 3, 6, 4, 7, 8, 9, 10], [1, 2, 5, 0, 3, 4, 9, 6, 7, 8, 10], [1, 2, 5, 0, 3, 4, 6, 9, 7, 8, 10], [1, 2, 5, 0, 3, 6, 4, 9, 7, 8, 10], [1, 2, 5, 0, 3, 9, 4, 6, 7, 8, 10], [1, 2, 5, 0, 3, 9, 6, 4, 7, 8, 10], [1, 2, 5, 0, 3, 6, 9, 4, 7, 8, 10], [1, 2, 5, 0, 9, 3, 4, 6, 7, 8, 10], [1, 2, 5, 0, 9, 3, 6, 4, 7, 8, 10], [1, 2, 5, 0, 4, 3, 6, 7, 8, 9, 10], [1, 2, 5, 0, 4, 3, 9, 6, 7, 8, 10], [1, 2, 5, 0, 4, 3, 6, 9, 7, 8, 10], [1, 2, 5, 0, 4, 9, 3, 6, 7, 8, 10], [1, 2, 5, 0, 9, 4, 3, 6, 7, 8, 10], [1, 2, 5, 0, 6, 3, 4, 7, 8, 9, 10], [1, 2, 5, 0, 6, 3, 4, 9, 7, 8, 10], [1, 2, 5, 0, 6, 3, 9, 4, 7, 8, 10], [1, 2, 5, 0, 9, 6, 3, 4, 7, 8, 10], [1, 2, 5, 0, 6, 9, 3, 4, 7, 8, 10], [1, 2, 5, 0, 4, 6, 3, 7, 8, 9, 10], [1, 2, 5, 0, 6, 4, 3, 7, 8, 9, 10], [1, 2, 5, 0, 4, 6, 3, 9, 7, 8, 10], [1, 2, 5, 0, 6, 4, 3, 9, 7, 8, 10], [1, 2, 5, 0, 4, 9, 6, 3, 7, 8, 10], [1, 2, 5, 0, 4, 6, 9, 3, 7, 8, 10], [1, 2, 5, 0, 6, 4, 9, 3, 7, 8, 10], [1, 2, 5, 0, 9, 4, 6, 3, 7, 8, 10], [1, 2, 5, 0, 9, 6, 4, 3, 7, 8, 10], [1, 2, 5, 0, 6, 9, 4, 3, 7, 8, 10], [1, 2, 5, 9, 0, 3, 4, 6, 7, 8, 10], [1, 2, 5, 9, 0, 3, 6, 4, 7, 8, 10], [1, 2, 5, 9, 0, 4, 3, 6, 7, 8, 10], [1, 2, 5, 9, 0, 6, 3, 4, 7, 8, 10], [1, 2, 5, 9, 0, 4, 6, 3, 7, 8, 10], [1, 2, 5, 9, 0, 6, 4, 3, 7, 8, 10], [1, 2, 5, 4, 0, 3, 6, 7, 8, 9, 10], [1, 2, 5, 4, 0, 3, 9, 6, 7, 8, 10], [1, 2, 5, 4, 0, 3, 6, 9, 7, 8, 10], [1, 2, 5, 4, 0, 9, 3, 6, 7, 8, 10], [1, 2, 5, 4, 0, 6, 3, 7, 8, 9, 10], [1, 2, 5, 4, 0, 6, 3, 9, 7, 8, 10], [1, 2, 5, 4, 0, 9, 6, 3, 7, 8, 10], [1, 2, 5, 4, 0, 6, 9, 3, 7, 8, 10], [1, 2, 5, 4, 9, 0, 3, 6, 7, 8, 10], [1, 2, 5, 9, 4, 0, 3, 6, 7, 8, 10], [1, 2, 5, 4, 9, 0, 6, 3, 7, 8, 10], [1, 2, 5, 9, 4, 0, 6, 3, 7, 8, 10], [1, 2, 5, 6, 0, 3, 4, 7, 8, 9, 10], [1, 2, 5, 6, 0, 3, 4, 9, 7, 8, 10], [1, 2, 5, 6, 0, 3, 9, 4, 7, 8, 10], [1, 2, 5, 6, 0, 9, 3, 4, 7, 8, 10], [1, 2, 5, 6, 0, 4, 3, 7, 8, 9, 10], [1, 2, 5, 6, 0, 4, 3, 9, 7, 8, 10], [1, 2, 5, 6, 0, 4, 9, 3, 7, 8, 10], [1, 2, 5, 6, 0, 9, 4, 3, 7, 8, 10], [1, 2, 5, 9, 6, 0, 3, 4, 7, 8, 10], [1, 2, 5, 6, 9, 0, 3, 4, 7, 8, 10], [1, 2, 5, 9, 6, 0, 4, 3, 7, 8, 10], [1, 2, 5, 6, 9, 0, 4, 3, 7, 8, 10], [1, 2, 5, 4, 6, 0, 3, 7, 8, 9, 10], [1, 2, 5, 6, 4, 0, 3, 7, 8, 9, 10], [1, 2, 5, 4, 6, 0, 3, 9, 7, 8, 10], [1, 2, 5, 6, 4, 0, 3, 9, 7, 8, 10], [1, 2, 5, 4, 6, 0, 9, 3, 7, 8, 10], [1, 2, 5, 6, 4, 0, 9, 3, 7, 8, 10], [1, 2, 5, 4, 9, 6, 0, 3, 7, 8, 10], [1, 2, 5, 4, 6, 9, 0, 3, 7, 8, 10], [1, 2, 5, 6, 4, 9, 0, 3, 7, 8, 10], [1, 2, 5, 9, 4, 6, 0, 3, 7, 8, 10], [1, 2, 5, 9, 6, 4, 0, 3, 7, 8, 10], [1, 2, 5, 6, 9, 4, 0, 3, 7, 8, 10]] 2 hE (fun s => s.at [6, 7, 8, 9, 10, 11, 12, 13, 14] [(5, .sc (.pt 7 0 0))] (s.hp ++ [some ⟨k.keys.map intC, 1, 3, true, true⟩, some ⟨k.tags.map TagD.cs, 5, 68, true, true⟩, some ⟨[[.sl 5 0 k.keys.length, .sl 6 0 k.tags.length]], 2, 63, true, false⟩])) (by kernel_rfl) (qC) (by kernel_rfl) ?_ ?_
 ·simp only [allDn]
  refine ⟨runD_den 400 ?_, runD_den 400 ?_, runD_den 400 ?_, runD_den 400 ?_, runD_den 400 ?_, runD_den 400 ?_, runD_den 400 ?_, runD_den 400 ?_, runD_den 400 ?_, runD_den 400 ?_, runD_den 400 ?_, runD_den 400 ?_, runD_den 400 ?_, runD_den 400 ?_, runD_den 400 ?_, runD_den 400 ?_, runD_den 400 ?_, runD_den 400 ?_, runD_den 400 ?_, runD_den 400 ?_, runD_den 400 ?_, runD_den 400 ?_, runD_den 400 ?_, runD_den 400 ?_, runD_den 400 ?_, runD_den 400 ?_, runD_den 400 ?_, runD_den 400 ?_, runD_den 400 ?_, runD_den 400 ?_, runD_den 400 ?_, runD_den 400 ?_, runD_den 400 ?_, runD_den 400 ?_, runD_den 400 ?_, runD_den 400 ?_, runD_den 400 ?_, runD_den 400 ?_, runD_den 400 ?_, runD_den 400 ?_, runD_den 400 ?_, runD_den 400 ?_, runD_den 400 ?_, runD_den 400 ?_, runD_den 400 ?_, runD_den 400 ?_, runD_den 400 ?_, runD_den 400 ?_, runD_den 400 ?_, runD_den 400 ?_, runD_den 400 ?_, runD_den 400 ?_, runD_den 400 ?_, runD_den 400 ?_, runD_den 400 ?_, runD_den 400 ?_, runD_den 400 ?_, runD_den 400 ?_, runD_den 400 ?_, runD_den 400 ?_, runD_den 400 ?_, runD_den 400 ?_, runD_den 400 ?_, runD_den 400 ?_, runD_den 400 ?_, runD_den 400 ?_, runD_den 400 ?_, runD_den 400 ?_, runD_den 400 ?_, runD_den 400 ?_, runD_den 400 ?_, runD_den 400 ?_⟩
  ·simp (disch := omega) only [go_sem, Nat.reduceEqDiff, Nat.reduceAdd, Nat.reduceSub, Int.reduceAdd, Int.reduceSub, Int.reduceToNat]
   refine ⟨qC, (qA [0, 1, 2, 3, 4, 6, 8, 9]), weak_mkO (by rfl) (by rfl) ?_⟩
   try simp (disch := omega) only [go_sem, Nat.reduceEqDiff, Nat.reduceAdd, Nat.reduceSub, Int.reduceAdd, Int.reduceSub, Int.reduceToNat]
  ·simp (disch := omega) only [go_sem, Nat.reduceEqDiff, Nat.reduceAdd, Nat.reduceSub, Int.reduceAdd, Int.reduceSub, Int.reduceToNat]
   refine ⟨qC, (qA [0, 1, 2, 3, 4, 6, 8, 9]), weak_mkO (by rfl) (by rfl) ?_⟩
   try simp (disch := omega) only [go_sem, Nat.reduceEqDiff, Nat.reduceAdd, Nat.reduceSub, Int.reduceAdd, Int.reduceSub, Int.reduceToNat]
  ·simp (disch := omega) only [go_sem, Nat.reduceEqDiff, Nat.reduceAdd, Nat.reduceSub, Int.reduceAdd, Int.reduceSub, Int.reduceToNat]
   refine ⟨qC, (qA [0, 1, 2, 3, 4, 6, 9, 8]), weak_mkO (by rfl) (by rfl) ?_⟩
   try simp (disch := omega) only [go_sem, Nat.reduceEqDiff, Nat.reduceAdd, Nat.reduceSub, Int.reduceAdd, Int.reduceSub, Int.reduceToNat]
  ·simp (disch := omega) only [go_sem, Nat.reduceEqDiff, Nat.reduceAdd, Nat.reduceSub, Int.reduceAdd, Int.reduceSub, Int.reduceToNat]
   refine ⟨qC, (qA [0, 1, 2, 3, 4, 6, 9, 8]), weak_mkO (by rfl) (by rfl) ?_⟩
   try simp (disch := omega) only [go_sem, Nat.reduceEqDiff, Nat.reduceAdd, Nat.reduceSub, Int.reduceAdd, Int.reduceSub, Int.reduceToNat]
  ·simp (disch := omega) only [go_sem, Nat.reduceEqDiff, Nat.reduceAdd, Nat.reduceSub, Int.reduceAdd, Int.reduceSub, Int.reduceToNat]
   refine ⟨qC, (qA [0, 1, 2, 3, 4, 6, 9, 8]), weak_mkO (by rfl) (by rfl) ?_⟩
   try simp (disch := omega) only [go_sem, Nat.reduceEqDiff, Nat.reduceAdd, Nat.reduceSub, Int.reduceAdd, Int.reduceSub, Int.reduceToNat]
  ·simp (disch := omega) only [go_sem, Nat.reduceEqDiff, Nat.reduceAdd, Nat.reduceSub, Int.reduceAdd, Int.reduceSub, Int.reduceToNat]
   refine ⟨qC, (qA [0, 1, 2, 3, 4, 6, 9, 7]), weak_mkO (by rfl) (by rfl) ?_⟩
   try simp (disch := omega) only [go_sem, Nat.reduceEqDiff, Nat.reduceAdd, Nat.reduceSub, Int.reduceAdd, Int.reduceSub, Int.reduceToNat]
  ·simp (disch := omega) only [go_sem, Nat.reduceEqDiff, Nat.reduceAdd, Nat.reduceSub, Int.reduceAdd, Int.reduceSub, Int.reduceToNat]
   refine ⟨qC, (qA [0, 1, 2, 3, 4, 6, 9, 7]), weak_mkO (by rfl) (by rfl) ?_⟩
   try simp (disch := omega) only [go_sem, Nat.reduceEqDiff, Nat.reduceAdd, Nat.reduceSub, Int.reduceAdd, Int.reduceSub, Int.reduceToNat]
  ·simp (disch := omega) only [go_sem, Nat.reduceEqDiff, Nat.reduceAdd, Nat.reduceSub, Int.reduceAdd, Int.reduceSub, Int.reduceToNat]
   refine ⟨qC, (qA [0, 1, 2, 3, 4, 6, 9, 7]), weak_mkO (by rfl) (by rfl) ?_⟩
   try simp (disch := omega) only [go_sem, Nat.reduceEqDiff, Nat.reduceAdd, Nat.reduceSub, Int.reduceAdd, Int.reduceSub, Int.reduceToNat]
  ·simp (disch := omega) only [go_sem, Nat.reduceEqDiff, Nat.reduceAdd, Nat.reduceSub, Int.reduceAdd, Int.reduceSub, Int.reduceToNat]
   refine ⟨qC, (qA [0, 1, 2, 3, 4, 7, 9, 6]), weak_mkO (by rfl) (by rfl) ?_⟩
   try simp (disch := omega) only [go_sem, Nat.reduceEqDiff, Nat.reduceAdd, Nat.reduceSub, Int.reduceAdd, Int.reduceSub, Int.reduceToNat]
  ·simp (disch := omega) only [go_sem, Nat.reduceEqDiff, Nat.reduceAdd, Nat.reduceSub, Int.reduceAdd, Int.reduceSub, Int.reduceToNat]
   refine ⟨qC, (qA [0, 1, 2, 3, 4, 7, 9, 6]), weak_mkO (by rfl) (by rfl) ?_⟩
   try simp (disch := omega) only [go_sem, Nat.reduceEqDiff, Nat.reduceAdd, Nat.reduceSub, Int.reduceAdd, Int.reduceSub, Int.reduceToNat]
  ·simp (disch := omega) only [go_sem, Nat.reduceEqDiff, Nat.reduceAdd, Nat.reduceSub, Int.reduceAdd, Int.reduceSub, Int.reduceToNat]
   refine ⟨qC, (qA [0, 1, 2, 3, 4, 7, 8, 9]), weak_mkO (by rfl) (by rfl) ?_⟩
   try simp (disch := omega) only [go_sem, Nat.reduceEqDiff, Nat.reduceAdd, Nat.reduceSub, Int.reduceAdd, Int.reduceSub, Int.reduceToNat]
  ·simp (disch := omega) only [go_sem, Nat.reduceEqDiff, Nat.reduceAdd, Nat.reduceSub, Int.reduceAdd, Int.reduceSub, Int.reduceToNat]
   refine ⟨qC, (qA [0, 1, 2, 3, 4, 7, 9, 8]), weak_mkO (by rfl) (by rfl) ?_⟩
   try simp (disch := omega) only [go_sem, Nat.reduceEqDiff, Nat.reduceAdd, Nat.reduceSub, Int.reduceAdd, Int.reduceSub, Int.reduceToNat]
  ·simp (disch := omega) only [go_sem, Nat.reduceEqDiff, Nat.reduceAdd, Nat.reduceSub, Int.reduceAdd, Int.reduceSub, Int.reduceToNat]
   refine ⟨qC, (qA [0, 1, 2, 3, 4, 7, 9, 8]), weak_mkO (by rfl) (by rfl) ?_⟩
   try simp (disch := omega) only [go_sem, Nat.reduceEqDiff, Nat.reduceAdd, Nat.reduceSub, Int.reduceAdd, Int.reduceSub, Int.reduceToNat]
  ·simp (disch := omega) only [go_sem, Nat.reduceEqDiff, Nat.reduceAdd, Nat.reduceSub, Int.reduceAdd, Int.reduceSub, Int.reduceToNat]
   refine ⟨qC, (qA [0, 1, 2, 3, 4, 8, 9, 7]), weak_mkO (by rfl) (by rfl) ?_⟩
   try simp (disch := omega) only [go_sem, Nat.reduceEqDiff, Nat.reduceAdd, Nat.reduceSub, Int.reduceAdd, Int.reduceSub, Int.reduceToNat]
  ·simp (disch := omega) only [go_sem, Nat.reduceEqDiff, Nat.reduceAdd, Nat.reduceSub, Int.reduceAdd, Int.reduceSub, Int.reduceToNat]
   refine ⟨qC, (qA [0, 1, 2, 3, 4, 8, 9, 6]), weak_mkO (by rfl) (by rfl) ?_⟩
   try simp (disch := omega) only [go_sem, Nat.reduceEqDiff, Nat.reduceAdd, Nat.reduceSub, Int.reduceAdd, Int.reduceSub, Int.reduceToNat]
  ·simp (disch := omega) only [go_sem, Nat.reduceEqDiff, Nat.reduceAdd, Nat.reduceSub, Int.reduceAdd, Int.reduceSub, Int.reduceToNat]
   refine ⟨qC, (qA [0, 1, 2, 3, 4, 6, 8, 9]), weak_mkO (by rfl) (by rfl) ?_⟩
   try simp (disch := omega) only [go_sem, Nat.reduceEqDiff, Nat.reduceAdd, Nat.reduceSub, Int.reduceAdd, Int.reduceSub, Int.reduceToNat]
  ·simp (disch := omega) only [go_sem, Nat.reduceEqDiff, Nat.reduceAdd, Nat.reduceSub, Int.reduceAdd, Int.reduceSub, Int.reduceToNat]
   refine ⟨qC, (qA [0, 1, 2, 3, 4, 6, 9, 8]), weak_mkO (by rfl) (by rfl) ?_⟩
   try simp (disch := omega) only [go_sem, Nat.reduceEqDiff, Nat.reduceAdd, Nat.reduceSub, Int.reduceAdd, Int.reduceSub, Int.reduceToNat]
  ·simp (disch := omega) only [go_sem, Nat.reduceEqDiff, Nat.reduceAdd, Nat.reduceSub, Int.reduceAdd, Int.reduceSub, Int.reduceToNat]
   refine ⟨qC, (qA [0, 1, 2, 3, 4, 6, 9, 7]), weak_mkO (by rfl) (by rfl) ?_⟩
   try simp (disch := omega) only [go_sem, Nat.reduceEqDiff, Nat.reduceAdd, Nat.reduceSub, Int.reduceAdd, Int.reduceSub, Int.reduceToNat]
  ·simp (disch := omega) only [go_sem, Nat.reduceEqDiff, Nat.reduceAdd, Nat.reduceSub, Int.reduceAdd, Int.reduceSub, Int.reduceToNat]
   refine ⟨qC, (qA [0, 1, 2, 3, 4, 7, 9, 6]), weak_mkO (by rfl) (by rfl) ?_⟩
   try simp (disch := omega) only [go_sem, Nat.reduceEqDiff, Nat.reduceAdd, Nat.reduceSub, Int.reduceAdd, Int.reduceSub, Int.reduceToNat]
  ·simp (disch := omega) only [go_sem, Nat.reduceEqDiff, Nat.reduceAdd, Nat.reduceSub, Int.reduceAdd, Int.reduceSub, Int.reduceToNat]
   refine ⟨qC, (qA [0, 1, 2, 3, 4, 7, 9, 6]), weak_mkO (by rfl) (by rfl) ?_⟩
   try simp (disch := omega) only [go_sem, Nat.reduceEqDiff, Nat.reduceAdd, Nat.reduceSub, Int.reduceAdd, Int.reduceSub, Int.reduceToNat]
  ·simp (disch := omega) only [go_sem, Nat.reduceEqDiff, Nat.reduceAdd, Nat.reduceSub, Int.reduceAdd, Int.reduceSub, Int.reduceToNat]
   refine ⟨qC, (qA [0, 1, 2, 3, 4, 7, 8, 9]), weak_mkO (by rfl) (by rfl) ?_⟩
   try simp (disch := omega) only [go_sem, Nat.reduceEqDiff, Nat.reduceAdd, Nat.reduceSub, Int.reduceAdd, Int.reduceSub, Int.reduceToNat]
  ·simp (disch := omega) only [go_sem, Nat.reduceEqDiff, Nat.reduceAdd, Nat.reduceSub, Int.reduceAdd, Int.reduceSub, Int.reduceToNat]
   refine ⟨qC, (qA [0, 1, 2, 3, 4, 7, 8, 9]), weak_mkO (by rfl) (by rfl) ?_⟩
   try simp (disch := omega) only [go_sem, Nat.reduceEqDiff, Nat.reduceAdd, Nat.reduceSub, Int.reduceAdd, Int.reduceSub, Int.reduceToNat]
  ·simp (disch := omega) only [go_sem, Nat.reduceEqDiff, Nat.reduceAdd, Nat.reduceSub, Int.reduceAdd, Int.reduceSub, Int.reduceToNat]
   refine ⟨qC, (qA [0, 1, 2, 3, 4, 7, 9, 8]), weak_mkO (by rfl) (by rfl) ?_⟩
   try simp (disch := omega) only [go_sem, Nat.reduceEqDiff, Nat.reduceAdd, Nat.reduceSub, Int.reduceAdd, Int.reduceSub, Int.reduceToNat]
  ·simp (disch := omega) only [go_sem, Nat.reduceEqDiff, Nat.reduceAdd, Nat.reduceSub, Int.reduceAdd, Int.reduceSub, Int.reduceToNat]
   refine ⟨qC, (qA [0, 1, 2, 3, 4, 7, 9, 8]), weak_mkO (by rfl) (by rfl) ?_⟩
   try simp (disch := omega) only [go_sem, Nat.reduceEqDiff, Nat.reduceAdd, Nat.reduceSub, Int.reduceAdd, Int.reduceSub, Int.reduceToNat]
  ·simp (disch := omega) only [go_sem, Nat.reduceEqDiff, Nat.reduceAdd, Nat.reduceSub, Int.reduceAdd, Int.reduceSub, Int.reduceToNat]
   refine ⟨qC, (qA [0, 1, 2, 3, 4, 8, 9, 7]), weak_mkO (by rfl) (by rfl) ?_⟩
   try simp (disch := omega) only [go_sem, Nat.reduceEqDiff, Nat.reduceAdd, Nat.reduceSub, Int.reduceAdd, Int.reduceSub, Int.reduceToNat]
  ·simp (disch := omega) only [go_sem, Nat.reduceEqDiff, Nat.reduceAdd, Nat.reduceSub, Int.reduceAdd, Int.reduceSub, Int.reduceToNat]
   refine ⟨qC, (qA [0, 1, 2, 3, 4, 8, 9, 7]), weak_mkO (by rfl) (by rfl) ?_⟩
   try simp (disch := omega) only [go_sem, Nat.reduceEqDiff, Nat.reduceAdd, Nat.reduceSub, Int.reduceAdd, Int.reduceSub, Int.reduceToNat]
  ·simp (disch := omega) only [go_sem, Nat.reduceEqDiff, Nat.reduceAdd, Nat.reduceSub, Int.reduceAdd, Int.reduceSub, Int.reduceToNat]
   refine ⟨qC, (qA [0, 1, 2, 3, 4, 8, 9, 7]), weak_mkO (by rfl) (by rfl) ?_⟩
   try simp (disch := omega) only [go_sem, Nat.reduceEqDiff, Nat.reduceAdd, Nat.reduceSub, Int.reduceAdd, Int.reduceSub, Int.reduceToNat]
  ·simp (disch := omega) only [go_sem, Nat.reduceEqDiff, Nat.reduceAdd, Nat.reduceSub, Int.reduceAdd, Int.reduceSub, Int.reduceToNat]
   refine ⟨qC, (qA [0, 1, 2, 3, 4, 8, 9, 6]), weak_mkO (by rfl) (by rfl) ?_⟩
   try simp (disch := omega) only [go_sem, Nat.reduceEqDiff, Nat.reduceAdd, Nat.reduceSub, Int.reduceAdd, Int.reduceSub, Int.reduceToNat]
  ·simp (disch := omega) only [go_sem, Nat.reduceEqDiff, Nat.reduceAdd, Nat.reduceSub, Int.reduceAdd, Int.reduceSub, Int.reduceToNat]
   refine ⟨qC, (qA [0, 1, 2, 3, 4, 8, 9, 6]), weak_mkO (by rfl) (by rfl) ?_⟩
   try simp (disch := omega) only [go_sem, Nat.reduceEqDiff, Nat.reduceAdd, Nat.reduceSub, Int.reduceAdd, Int.reduceSub, Int.reduceToNat]
  ·simp (disch := omega) only [go_sem, Nat.reduceEqDiff, Nat.reduceAdd, Nat.reduceSub, Int.reduceAdd, Int.reduceSub, Int.reduceToNat]
   refine ⟨qC, (qA [0, 1, 2, 3, 4, 8, 9, 6]), weak_mkO (by rfl) (by rfl) ?_⟩
   try simp (disch := omega) only [go_sem, Nat.reduceEqDiff, Nat.reduceAdd, Nat.reduceSub, Int.reduceAdd, Int.reduceSub, Int.reduceToNat]
  ·simp (disch := omega) only [go_sem, Nat.reduceEqDiff, Nat.reduceAdd, Nat.reduceSub, Int.reduceAdd, Int.reduceSub, Int.reduceToNat]
   refine ⟨qC, (qA [0, 1, 2, 3, 4, 7, 9, 5]), weak_mkO (by rfl) (by rfl) ?_⟩
   try simp (disch := omega) only [go_sem, Nat.reduceEqDiff, Nat.reduceAdd, Nat.reduceSub, Int.reduceAdd, Int.reduceSub, Int.reduceToNat]
  ·simp (disch := omega) only [go_sem, Nat.reduceEqDiff, Nat.reduceAdd, Nat.reduceSub, Int.reduceAdd, Int.reduceSub, Int.reduceToNat]
   refine ⟨qC, (qA [0, 1, 2, 3, 4, 7, 9, 5]), weak_mkO (by rfl) (by rfl) ?_⟩
   try simp (disch := omega) only [go_sem, Nat.reduceEqDiff, Nat.reduceAdd, Nat.reduceSub, Int.reduceAdd, Int.reduceSub, Int.reduceToNat]
  ·simp (disch := omega) only [go_sem, Nat.reduceEqDiff, Nat.reduceAdd, Nat.reduceSub, Int.reduceAdd, Int.reduceSub, Int.reduceToNat]
   refine ⟨qC, (qA [0, 1, 2, 3, 4, 8, 9, 5]), weak_mkO (by rfl) (by rfl) ?_⟩
   try simp (disch := omega) only [go_sem, Nat.reduceEqDiff, Nat.reduceAdd, Nat.reduceSub, Int.reduceAdd, Int.reduceSub, Int.reduceToNat]
  ·simp (disch := omega) only [go_sem, Nat.reduceEqDiff, Nat.reduceAdd, Nat.reduceSub, Int.reduceAdd, Int.reduceSub, Int.reduceToNat]
   refine ⟨qC, (qA [0, 1, 2, 3, 4, 7, 9, 5]), weak_mkO (by rfl) (by rfl) ?_⟩
   try simp (disch := omega) only [go_sem, Nat.reduceEqDiff, Nat.reduceAdd, Nat.reduceSub, Int.reduceAdd, Int.reduceSub, Int.reduceToNat]
  ·simp (disch := omega) only [go_sem, Nat.reduceEqDiff, Nat.reduceAdd, Nat.reduceSub, Int.reduceAdd, Int.reduceSub, Int.reduceToNat]
   refine ⟨qC, (qA [0, 1, 2, 3, 4, 8, 9, 5]), weak_mkO (by rfl) (by rfl) ?_⟩
   try simp (disch := omega) only [go_sem, Nat.reduceEqDiff, Nat.reduceAdd, Nat.reduceSub, Int.reduceAdd, Int.reduceSub, Int.reduceToNat]
  ·simp (disch := omega) only [go_sem, Nat.reduceEqDiff, Nat.reduceAdd, Nat.reduceSub, Int.reduceAdd, Int.reduceSub, Int.reduceToNat]
   refine ⟨qC, (qA [0, 1, 2, 3, 4, 8, 9, 5]), weak_mkO (by rfl) (by rfl) ?_⟩
   try simp (disch := omega) only [go_sem, Nat.reduceEqDiff, Nat.reduceAdd, Nat.reduceSub, Int.reduceAdd, Int.reduceSub, Int.reduceToNat]
  ·simp (disch := omega) only [go_sem, Nat.reduceEqDiff, Nat.reduceAdd, Nat.reduceSub, Int.reduceAdd, Int.reduceSub, Int.reduceToNat]
   refine ⟨qC, (qA [0, 1, 2, 3, 4, 7, 8, 9]), weak_mkO (by rfl) (by rfl) ?_⟩
   try simp (disch := omega) only [go_sem, Nat.reduceEqDiff, Nat.reduceAdd, Nat.reduceSub, Int.reduceAdd, Int.reduceSub, Int.reduceToNat]
  ·simp (disch := omega) only [go_sem, Nat.reduceEqDiff, Nat.reduceAdd, Nat.reduceSub, Int.reduceAdd, Int.reduceSub, Int.reduceToNat]
   refine ⟨qC, (qA [0, 1, 2, 3, 4, 7, 9, 8]), weak_mkO (by rfl) (by rfl) ?_⟩
   try simp (disch := omega) only [go_sem, Nat.reduceEqDiff, Nat.reduceAdd, Nat.reduceSub, Int.reduceAdd, Int.reduceSub, Int.reduceToNat]
  ·simp (disch := omega) only [go_sem, Nat.reduceEqDiff, Nat.reduceAdd, Nat.reduceSub, Int.reduceAdd, Int.reduceSub, Int.reduceToNat]
   refine ⟨qC, (qA [0, 1, 2, 3, 4, 7, 9, 8]), weak_mkO (by rfl) (by rfl) ?_⟩
   try simp (disch := omega) only [go_sem, Nat.reduceEqDiff, Nat.reduceAdd, Nat.reduceSub, Int.reduceAdd, Int.reduceSub, Int.reduceToNat]
  ·simp (disch := omega) only [go_sem, Nat.reduceEqDiff, Nat.reduceAdd, Nat.reduceSub, Int.reduceAdd, Int.reduceSub, Int.reduceToNat]
   refine ⟨qC, (qA [0, 1, 2, 3, 4, 8, 9, 7]), weak_mkO (by rfl) (by rfl) ?_⟩
   try simp (disch := omega) only [go_sem, Nat.reduceEqDiff, Nat.reduceAdd, Nat.reduceSub, Int.reduceAdd, Int.reduceSub, Int.reduceToNat]
  ·simp (disch := omega) only [go_sem, Nat.reduceEqDiff, Nat.reduceAdd, Nat.reduceSub, Int.reduceAdd, Int.reduceSub, Int.reduceToNat]
   refine ⟨qC, (qA [0, 1, 2, 3, 4, 7, 8, 9]), weak_mkO (by rfl) (by rfl) ?_⟩
   try simp (disch := omega) only [go_sem, Nat.reduceEqDiff, Nat.reduceAdd, Nat.reduceSub, Int.reduceAdd, Int.reduceSub, Int.reduceToNat]
  ·simp (disch := omega) only [go_sem, Nat.reduceEqDiff, Nat.reduceAdd, Nat.reduceSub, Int.reduceAdd, Int.reduceSub, Int.reduceToNat]
   refine ⟨qC, (qA [0, 1, 2, 3, 4, 7, 9, 8]), weak_mkO (by rfl) (by rfl) ?_⟩
   try simp (disch := omega) only [go_sem, Nat.reduceEqDiff, Nat.reduceAdd, Nat.reduceSub, Int.reduceAdd, Int.reduceSub, Int.reduceToNat]
  ·simp (disch := omega) only [go_sem, Nat.reduceEqDiff, Nat.reduceAdd, Nat.reduceSub, Int.reduceAdd, Int.reduceSub, Int.reduceToNat]
   refine ⟨qC, (qA [0, 1, 2, 3, 4, 8, 9, 7]), weak_mkO (by rfl) (by rfl) ?_⟩
   try simp (disch := omega) only [go_sem, Nat.reduceEqDiff, Nat.reduceAdd, Nat.reduceSub, Int.reduceAdd, Int.reduceSub, Int.reduceToNat]
  ·simp (disch := omega) only [go_sem, Nat.reduceEqDiff, Nat.reduceAdd, Nat.reduceSub, Int.reduceAdd, Int.reduceSub, Int.reduceToNat]
   refine ⟨qC, (qA [0, 1, 2, 3, 4, 8, 9, 7]), weak_mkO (by rfl) (by rfl) ?_⟩
   try simp (disch := omega) only [go_sem, Nat.reduceEqDiff, Nat.reduceAdd, Nat.reduceSub, Int.reduceAdd, Int.reduceSub, Int.reduceToNat]
  ·simp (disch := omega) only [go_sem, Nat.reduceEqDiff, Nat.reduceAdd, Nat.reduceSub, Int.reduceAdd, Int.reduceSub, Int.reduceToNat]
   refine ⟨qC, (qA [0, 1, 2, 3, 4, 8, 9, 6]), weak_mkO (by rfl) (by rfl) ?_⟩
   try simp (disch := omega) only [go_sem, Nat.reduceEqDiff, Nat.reduceAdd, Nat.reduceSub, Int.reduceAdd, Int.reduceSub, Int.reduceToNat]
  ·simp (disch := omega) only [go_sem, Nat.reduceEqDiff, Nat.reduceAdd, Nat.reduceSub, Int.reduceAdd, Int.reduceSub, Int.reduceToNat]
   refine ⟨qC, (qA [0, 1, 2, 3, 4, 8, 9, 5]), weak_mkO (by rfl) (by rfl) ?_⟩
   try simp (disch := omega) only [go_sem, Nat.reduceEqDiff, Nat.reduceAdd, Nat.reduceSub, Int.reduceAdd, Int.reduceSub, Int.reduceToNat]
  ·simp (disch := omega) only [go_sem, Nat.reduceEqDiff, Nat.reduceAdd, Nat.reduceSub, Int.reduceAdd, Int.reduceSub, Int.reduceToNat]
   refine ⟨qC, (qA [0, 1, 2, 3, 4, 8, 9, 6]), weak_mkO (by rfl) (by rfl) ?_⟩
   try simp (disch := omega) only [go_sem, Nat.reduceEqDiff, Nat.reduceAdd, Nat.reduceSub, Int.reduceAdd, Int.reduceSub, Int.reduceToNat]
  ·simp (disch := omega) only [go_sem, Nat.reduceEqDiff, Nat.reduceAdd, Nat.reduceSub, Int.reduceAdd, Int.reduceSub, Int.reduceToNat]
   refine ⟨qC, (qA [0, 1, 2, 3, 4, 8, 9, 5]), weak_mkO (by rfl) (by rfl) ?_⟩
   try simp (disch := omega) only [go_sem, Nat.reduceEqDiff, Nat.reduceAdd, Nat.reduceSub, Int.reduceAdd, Int.reduceSub, Int.reduceToNat]
  ·simp (disch := omega) only [go_sem, Nat.reduceEqDiff, Nat.reduceAdd, Nat.reduceSub, Int.reduceAdd, Int.reduceSub, Int.reduceToNat]
   refine ⟨qC, (qA [0, 1, 2, 3, 4, 6, 8, 9]), weak_mkO (by rfl) (by rfl) ?_⟩
   try simp (disch := omega) only [go_sem, Nat.reduceEqDiff, Nat.reduceAdd, Nat.reduceSub, Int.reduceAdd, Int.reduceSub, Int.reduceToNat]
  ·simp (disch := omega) only [go_sem, Nat.reduceEqDiff, Nat.reduceAdd, Nat.reduceSub, Int.reduceAdd, Int.reduceSub, Int.reduceToNat]
   refine ⟨qC, (qA [0, 1, 2, 3, 4, 6, 9, 8]), weak_mkO (by rfl) (by rfl) ?_⟩
   try simp (disch := omega) only [go_sem, Nat.reduceEqDiff, Nat.reduceAdd, Nat.reduceSub, Int.reduceAdd, Int.reduceSub, Int.reduceToNat]
  ·simp (disch := omega) only [go_sem, Nat.reduceEqDiff, Nat.reduceAdd, Nat.reduceSub, Int.reduceAdd, Int.reduceSub, Int.reduceToNat]
   refine ⟨qC, (qA [0, 1, 2, 3, 4, 6, 9, 7]), weak_mkO (by rfl) (by rfl) ?_⟩
   try simp (disch := omega) only [go_sem, Nat.reduceEqDiff, Nat.reduceAdd, Nat.reduceSub, Int.reduceAdd, Int.reduceSub, Int.reduceToNat]
  ·simp (disch := omega) only [go_sem, Nat.reduceEqDiff, Nat.reduceAdd, Nat.reduceSub, Int.reduceAdd, Int.reduceSub, Int.reduceToNat]
   refine ⟨qC, (qA [0, 1, 2, 3, 4, 7, 9, 6]), weak_mkO (by rfl) (by rfl) ?_⟩
   try simp (disch := omega) only [go_sem, Nat.reduceEqDiff, Nat.reduceAdd, Nat.reduceSub, Int.reduceAdd, Int.reduceSub, Int.reduceToNat]
  ·simp (disch := omega) only [go_sem, Nat.reduceEqDiff, Nat.reduceAdd, Nat.reduceSub, Int.reduceAdd, Int.reduceSub, Int.reduceToNat]
   refine ⟨qC, (qA [0, 1, 2, 3, 4, 7, 8, 9]), weak_mkO (by rfl) (by rfl) ?_⟩
   try simp (disch := omega) only [go_sem, Nat.reduceEqDiff, Nat.reduceAdd, Nat.reduceSub, Int.reduceAdd, Int.reduceSub, Int.reduceToNat]
  ·simp (disch := omega) only [go_sem, Nat.reduceEqDiff, Nat.reduceAdd, Nat.reduceSub, Int.reduceAdd, Int.reduceSub, Int.reduceToNat]
   refine ⟨qC, (qA [0, 1, 2, 3, 4, 7, 9, 8]), weak_mkO (by rfl) (by rfl) ?_⟩
   try simp (disch := omega) only [go_sem, Nat.reduceEqDiff, Nat.reduceAdd, Nat.reduceSub, Int.reduceAdd, Int.reduceSub, Int.reduceToNat]
  ·simp (disch := omega) only [go_sem, Nat.reduceEqDiff, Nat.reduceAdd, Nat.reduceSub, Int.reduceAdd, Int.reduceSub, Int.reduceToNat]
   refine ⟨qC, (qA [0, 1, 2, 3, 4, 8, 9, 7]), weak_mkO (by rfl) (by rfl) ?_⟩
   try simp (disch := omega) only [go_sem, Nat.reduceEqDiff, Nat.reduceAdd, Nat.reduceSub, Int.reduceAdd, Int.reduceSub, Int.reduceToNat]
  ·simp (disch := omega) only [go_sem, Nat.reduceEqDiff, Nat.reduceAdd, Nat.reduceSub, Int.reduceAdd, Int.reduceSub, Int.reduceToNat]
   refine ⟨qC, (qA [0, 1, 2, 3, 4, 8, 9, 6]), weak_mkO (by rfl) (by rfl) ?_⟩
   try simp (disch := omega) only [go_sem, Nat.reduceEqDiff, Nat.reduceAdd, Nat.reduceSub, Int.reduceAdd, Int.reduceSub, Int.reduceToNat]
  ·simp (disch := omega) only [go_sem, Nat.reduceEqDiff, Nat.reduceAdd, Nat.reduceSub, Int.reduceAdd, Int.reduceSub, Int.reduceToNat]
   refine ⟨qC, (qA [0, 1, 2, 3, 4, 7, 9, 5]), weak_mkO (by rfl) (by rfl) ?_⟩
   try simp (disch := omega) only [go_sem, Nat.reduceEqDiff, Nat.reduceAdd, Nat.reduceSub, Int.reduceAdd, Int.reduceSub, Int.reduceToNat]
  ·simp (disch := omega) only [go_sem, Nat.reduceEqDiff, Nat.reduceAdd, Nat.reduceSub, Int.reduceAdd, Int.reduceSub, Int.reduceToNat]
   refine ⟨qC, (qA [0, 1, 2, 3, 4, 7, 9, 5]), weak_mkO (by rfl) (by rfl) ?_⟩
   try simp (disch := omega) only [go_sem, Nat.reduceEqDiff, Nat.reduceAdd, Nat.reduceSub, Int.reduceAdd, Int.reduceSub, Int.reduceToNat]
  ·simp (disch := omega) only [go_sem, Nat.reduceEqDiff, Nat.reduceAdd, Nat.reduceSub, Int.reduceAdd, Int.reduceSub, Int.reduceToNat]
   refine ⟨qC, (qA [0, 1, 2, 3, 4, 8, 9, 5]), weak_mkO (by rfl) (by rfl) ?_⟩
   try simp (disch := omega) only [go_sem, Nat.reduceEqDiff, Nat.reduceAdd, Nat.reduceSub, Int.reduceAdd, Int.reduceSub, Int.reduceToNat]
  ·simp (disch := omega) only [go_sem, Nat.reduceEqDiff, Nat.reduceAdd, Nat.reduceSub, Int.reduceAdd, Int.reduceSub, Int.reduceToNat]
   refine ⟨qC, (qA [0, 1, 2, 3, 4, 8, 9, 5]), weak_mkO (by rfl) (by rfl) ?_⟩
   try simp (disch := omega) only [go_sem, Nat.reduceEqDiff, Nat.reduceAdd, Nat.reduceSub, Int.reduceAdd, Int.reduceSub, Int.reduceToNat]
  ·simp (disch := omega) only [go_sem, Nat.reduceEqDiff, Nat.reduceAdd, Nat.reduceSub, Int.reduceAdd, Int.reduceSub, Int.reduceToNat]
   refine ⟨qC, (qA [0, 1, 2, 3, 4, 7, 8, 9]), weak_mkO (by rfl) (by rfl) ?_⟩
   try simp (disch := omega) only [go_sem, Nat.reduceEqDiff, Nat.reduceAdd, Nat.reduceSub, Int.reduceAdd, Int.reduceSub, Int.reduceToNat]
  ·simp (disch := omega) only [go_sem, Nat.reduceEqDiff, Nat.reduceAdd, Nat.reduceSub, Int.reduceAdd, Int.reduceSub, Int.reduceToNat]
   refine ⟨qC, (qA [0, 1, 2, 3, 4, 7, 8, 9]), weak_mkO (by rfl) (by rfl) ?_⟩
   try simp (disch := omega) only [go_sem, Nat.reduceEqDiff, Nat.reduceAdd, Nat.reduceSub, Int.reduceAdd, Int.reduceSub, Int.reduceToNat]
  ·simp (disch := omega) only [go_sem, Nat.reduceEqDiff, Nat.reduceAdd, Nat.reduceSub, Int.reduceAdd, Int.reduceSub, Int.reduceToNat]
   refine ⟨qC, (qA [0, 1, 2, 3, 4, 7, 9, 8]), weak_mkO (by rfl) (by rfl) ?_⟩
   try simp (disch := omega) only [go_sem, Nat.reduceEqDiff, Nat.reduceAdd, Nat.reduceSub, Int.reduceAdd, Int.reduceSub, Int.reduceToNat]
  ·simp (disch := omega) only [go_sem, Nat.reduceEqDiff, Nat.reduceAdd, Nat.reduceSub, Int.reduceAdd, Int.reduceSub, Int.reduceToNat]
   refine ⟨qC, (qA [0, 1, 2, 3, 4, 7, 9, 8]), weak_mkO (by rfl) (by rfl) ?_⟩
   try simp (disch := omega) only [go_sem, Nat.reduceEqDiff, Nat.reduceAdd, Nat.reduceSub, Int.reduceAdd, Int.reduceSub, Int.reduceToNat]
  ·simp (disch := omega) only [go_sem, Nat.reduceEqDiff, Nat.reduceAdd, Nat.reduceSub, Int.reduceAdd, Int.reduceSub, Int.reduceToNat]
   refine ⟨qC, (qA [0, 1, 2, 3, 4, 8, 9, 7]), weak_mkO (by rfl) (by rfl) ?_⟩
   try simp (disch := omega) only [go_sem, Nat.reduceEqDiff, Nat.reduceAdd, Nat.reduceSub, Int.reduceAdd, Int.reduceSub, Int.reduceToNat]
  ·simp (disch := omega) only [go_sem, Nat.reduceEqDiff, Nat.reduceAdd, Nat.reduceSub, Int.reduceAdd, Int.reduceSub, Int.reduceToNat]
   refine ⟨qC, (qA [0, 1, 2, 3, 4, 8, 9, 7]), weak_mkO (by rfl) (by rfl) ?_⟩
   try simp (disch := omega) only [go_sem, Nat.reduceEqDiff, Nat.reduceAdd, Nat.reduceSub, Int.reduceAdd, Int.reduceSub, Int.reduceToNat]
  ·simp (disch := omega) only [go_sem, Nat.reduceEqDiff, Nat.reduceAdd, Nat.reduceSub, Int.reduceAdd, Int.reduceSub, Int.reduceToNat]
   refine ⟨qC, (qA [0, 1, 2, 3, 4, 8, 9, 6]), weak_mkO (by rfl) (by rfl) ?_⟩
   try simp (disch := omega) only [go_sem, Nat.reduceEqDiff, Nat.reduceAdd, Nat.reduceSub, Int.reduceAdd, Int.reduceSub, Int.reduceToNat]
  ·simp (disch := omega) only [go_sem, Nat.reduceEqDiff, Nat.reduceAdd, Nat.reduceSub, Int.reduceAdd, Int.reduceSub, Int.reduceToNat]
   refine ⟨qC, (qA [0, 1, 2, 3, 4, 8, 9, 6]), weak_mkO (by rfl) (by rfl) ?_⟩
   try simp (disch := omega) only [go_sem, Nat.reduceEqDiff, Nat.reduceAdd, Nat.reduceSub, Int.reduceAdd, Int.reduceSub, Int.reduceToNat]
  ·simp (disch := omega) only [go_sem, Nat.reduceEqDiff, Nat.reduceAdd, Nat.reduceSub, Int.reduceAdd, Int.reduceSub, Int.reduceToNat]
   refine ⟨qC, (qA [0, 1, 2, 3, 4, 8, 9, 6]), weak_mkO (by rfl) (by rfl) ?_⟩
   try simp (disch := omega) only [go_sem, Nat.reduceEqDiff, Nat.reduceAdd, Nat.reduceSub, Int.reduceAdd, Int.reduceSub, Int.reduceToNat]
  ·simp (disch := omega) only [go_sem, Nat.reduceEqDiff, Nat.reduceAdd, Nat.reduceSub, Int.reduceAdd, Int.reduceSub, Int.reduceToNat]
   refine ⟨qC, (qA [0, 1, 2, 3, 4, 8, 9, 5]), weak_mkO (by rfl) (by rfl) ?_⟩
   try simp (disch := omega) only [go_sem, Nat.reduceEqDiff, Nat.reduceAdd, Nat.reduceSub, Int.reduceAdd, Int.reduceSub, Int.reduceToNat]
  ·simp (disch := omega) only [go_sem, Nat.reduceEqDiff, Nat.reduceAdd, Nat.reduceSub, Int.reduceAdd, Int.reduceSub, Int.reduceToNat]
   refine ⟨qC, (qA [0, 1, 2, 3, 4, 8, 9, 5]), weak_mkO (by rfl) (by rfl) ?_⟩
   try simp (disch := omega) only [go_sem, Nat.reduceEqDiff, Nat.reduceAdd, Nat.reduceSub, Int.reduceAdd, Int.reduceSub, Int.reduceToNat]
  ·simp (disch := omega) only [go_sem, Nat.reduceEqDiff, Nat.reduceAdd, Nat.reduceSub, Int.reduceAdd, Int.reduceSub, Int.reduceToNat]
   refine ⟨qC, (qA [0, 1, 2, 3, 4, 8, 9, 5]), weak_mkO (by rfl) (by rfl) ?_⟩
   try simp (disch := omega) only [go_sem, Nat.reduceEqDiff, Nat.reduceAdd, Nat.reduceSub, Int.reduceAdd, Int.reduceSub, Int.reduceToNat]
 refine qR ?_
 refine qK (hM) (qA [0, 1]) ?_
 refine qB (fun b1 => ?_) fun b1 => ?_
 ·refine qB (fun b2 => ?_) fun b2 => ?_
  ·rw [ht b1 (by omega)]
   have e := tag_app k.tags t
   simp only [TagD.cs] at e
   try simp (disch := omega) only [go_sem, Nat.reduceEqDiff, Nat.reduceAdd, Nat.reduceSub, Int.reduceAdd, Int.reduceSub, Int.reduceToNat, e]
   refine den_fin (qA [0, 1, 5, 9]) (qC) _ (by simp only [go_sem]; rfl) (by rfl) (by rfl) ?_
   simp (disch := omega) only [go_sem, Nat.reduceEqDiff, Nat.reduceAdd, Nat.reduceSub, Int.reduceAdd, Int.reduceSub, Int.reduceToNat]
   try simp
  ·rw [hf2 (by omega)]
   refine qX ?_
   exact qF (qA [0, 1, 5, 6])
 ·rw [hf1 b1]
  refine qX ?_
  exact qF (qA [0, 1, 5, 6])
theorem impl_copyWorld (w : WorldD) (hs : SmallW w) : CallA Tryz.prog 53 [.ag (w.cs 0)] (w.hp false) (.ag (w.cs 21)) (w.hp false ++ w.hp true) := by
 have ha := hs.a
 have hb := hs.b
 refine qE Tryz.func53 Tryz.ntmps53 Tryz.results53 fun E hE => ?_
 refine qK (impl_copyEnd w.a (by have := ha.own; omega) (by have := ha.far; omega) (by have := ha.subs; omega) (by have := ha.halfs; omega) (by have := ha.list; omega) (by have := ha.done; omega) (by have := ha.over; omega)) (qA [0, 1, 2, 3, 4, 5, 6]) ?_
 refine qK (impl_copyEnd w.b (by have := hb.own; omega) (by have := hb.far; omega) (by have := hb.subs; omega) (by have := hb.halfs; omega) (by have := hb.list; omega) (by have := hb.done; omega) (by have := hb.over; omega)) (qA [7, 8, 9, 10, 11, 12, 13]) ?_
 refine qK (impl_copyLetters w.bag hs.bag) (qA [14]) ?_
 refine qK (impl_copyLetters w.past hs.past) (qA [15]) ?_
 refine qK (impl_copyKnown w.known hs.keys hs.tags) (qA [16, 17]) ?_
 refine qK (impl_copyInts w.nums hs.nums) (qA [18]) ?_
 refine qK (impl_copyInts w.answersA hs.ansA) (qA [19]) ?_
 refine qK (impl_copyInts w.answersB hs.ansB) (qA [20]) ?_
 exact qF (qA [0, 1, 2, 3, 4, 5, 6, 7, 8, 9, 10, 11, 12, 13, 14, 15, 16, 17, 18, 19, 20, 23, 24, 25, 26, 27, 28, 29, 30, 31, 32, 33, 34, 35, 36, 37, 38, 39, 40, 41, 42, 43])
theorem spec_l23Copy (w : WorldD) (hs : SmallW w) : CallA Tryz.prog 43 [.ag (w.cs 0)] (w.hp false) (.ag (w.cs 21)) (w.hp false ++ w.hp true) := by
 have ha := hs.a
 have hb := hs.b
 have h1 := hs.bag
 have h2 := hs.past
 have h3 := hs.keys
 have h4 := hs.tags
 have h5 := hs.nums
 have h6 := hs.ansA
 have h7 := hs.ansB
 refine qE Tryz.func43 Tryz.ntmps43 Tryz.results43 fun E hE => ?_
 refine qK (spec_l17Copy w.a (by have := ha.own; omega) (by have := ha.far; omega) (by have := ha.subs; omega) (by have := ha.halfs; omega) (by have := ha.list; omega) (by have := ha.done; omega) (by have := ha.over; omega)) (qA [0, 1, 2, 3, 4, 5, 6]) ?_
 refine qK (spec_l17Copy w.b (by have := hb.own; omega) (by have := hb.far; omega) (by have := hb.subs; omega) (by have := hb.halfs; omega) (by have := hb.list; omega) (by have := hb.done; omega) (by have := hb.over; omega)) (qA [7, 8, 9, 10, 11, 12, 13]) ?_
 refine den_drawX [(0, 8), (0, 5), (4, 8), (4, 5), (5, 8)] [(0, 4)] [[1, 2, 3, 6, 7, 0, 4, 5, 8, 9, 10, 11, 12], [1, 2, 3, 6, 7, 0, 4, 8, 5, 9, 10, 11, 12], [1, 2, 3, 6, 7, 0, 5, 4, 8, 9, 10, 11, 12], [1, 2, 3, 6, 7, 0, 8, 4, 5, 9, 10, 11, 12], [1, 2, 3, 6, 7, 0, 5, 8, 4, 9, 10, 11, 12], [1, 2, 3, 6, 7, 0, 8, 5, 4, 9, 10, 11, 12], [1, 2, 3, 6, 7, 5, 0, 4, 8, 9, 10, 11, 12], [1, 2, 3, 6, 7, 5, 0, 8, 4, 9, 10, 11, 12], [1, 2, 3, 6, 7, 8, 0, 4, 5, 9, 10, 11, 12], [1, 2, 3, 6, 7, 8, 0, 5, 4, 9, 10, 11, 12], [1, 2, 3, 6, 7, 5, 8, 0, 4, 9, 10, 11, 12], [1, 2, 3, 6, 7, 8, 5, 0, 4, 9, 10, 11, 12]] 21 hE (fun s => s.at [21, 22, 23, 24, 25, 26, 27, 28, 29, 30, 31, 32] [] (s.hp.set 21 (some ⟨[worldC w 23 24 25 26 27 28 29 30 31 32 33 34 35 36 38 40 41 42 18 19 20], 61, 65, true, false⟩) ++ [some ⟨w.known.keys.map intC, 1, 3, true, true⟩, some ⟨w.known.tags.map TagD.cs, 5, 68, true, true⟩])) (by kernel_rfl) (qC) (by kernel_rfl) ?_ ?_
 ·simp only [allDn]
  refine ⟨runD_den 400 ?_, runD_den 400 ?_, runD_den 400 ?_, runD_den 400 ?_, runD_den 400 ?_, runD_den 400 ?_, runD_den 400 ?_, runD_den 400 ?_, runD_den 400 ?_, runD_den 400 ?_, runD_den 400 ?_, runD_den 400 ?_⟩
  ·simp (disch := omega) only [go_sem, Nat.reduceEqDiff, Nat.reduceAdd, Nat.reduceSub, Int.reduceAdd, Int.reduceSub, Int.reduceToNat]
   refine ⟨qC, (qA [0, 1, 2, 3, 4, 5, 6, 7, 8, 9, 10, 11, 12, 13, 14, 15, 16, 17, 18, 19, 20, 21, 22, 23, 24, 25, 26, 27, 28, 29, 30, 31, 32, 33, 34, 35, 36, 37, 38, 39, 40, 42, 44]), weak_mkO (by rfl) (by rfl) ?_⟩
   try simp (disch := omega) only [go_sem, Nat.reduceEqDiff, Nat.reduceAdd, Nat.reduceSub, Int.reduceAdd, Int.reduceSub, Int.reduceToNat]
  ·simp (disch := omega) only [go_sem, Nat.reduceEqDiff, Nat.reduceAdd, Nat.reduceSub, Int.reduceAdd, Int.reduceSub, Int.reduceToNat]
   refine ⟨qC, (qA [0, 1, 2, 3, 4, 5, 6, 7, 8, 9, 10, 11, 12, 13, 14, 15, 16, 17, 18, 19, 20, 21, 22, 23, 24, 25, 26, 27, 28, 29, 30, 31, 32, 33, 34, 35, 36, 37, 38, 39, 40, 42, 44]), weak_mkO (by rfl) (by rfl) ?_⟩
   try simp (disch := omega) only [go_sem, Nat.reduceEqDiff, Nat.reduceAdd, Nat.reduceSub, Int.reduceAdd, Int.reduceSub, Int.reduceToNat]
  ·simp (disch := omega) only [go_sem, Nat.reduceEqDiff, Nat.reduceAdd, Nat.reduceSub, Int.reduceAdd, Int.reduceSub, Int.reduceToNat]
   refine ⟨qC, (qA [0, 1, 2, 3, 4, 5, 6, 7, 8, 9, 10, 11, 12, 13, 14, 15, 16, 17, 18, 19, 20, 21, 22, 23, 24, 25, 26, 27, 28, 29, 30, 31, 32, 33, 34, 35, 36, 37, 38, 39, 40, 43, 44]), weak_mkO (by rfl) (by rfl) ?_⟩
   try simp (disch := omega) only [go_sem, Nat.reduceEqDiff, Nat.reduceAdd, Nat.reduceSub, Int.reduceAdd, Int.reduceSub, Int.reduceToNat]
  ·simp (disch := omega) only [go_sem, Nat.reduceEqDiff, Nat.reduceAdd, Nat.reduceSub, Int.reduceAdd, Int.reduceSub, Int.reduceToNat]
   refine ⟨qC, (qA [0, 1, 2, 3, 4, 5, 6, 7, 8, 9, 10, 11, 12, 13, 14, 15, 16, 17, 18, 19, 20, 21, 22, 23, 24, 25, 26, 27, 28, 29, 30, 31, 32, 33, 34, 35, 36, 37, 38, 39, 40, 42, 44]), weak_mkO (by rfl) (by rfl) ?_⟩
   try simp (disch := omega) only [go_sem, Nat.reduceEqDiff, Nat.reduceAdd, Nat.reduceSub, Int.reduceAdd, Int.reduceSub, Int.reduceToNat]
  ·simp (disch := omega) only [go_sem, Nat.reduceEqDiff, Nat.reduceAdd, Nat.reduceSub, Int.reduceAdd, Int.reduceSub, Int.reduceToNat]
   refine ⟨qC, (qA [0, 1, 2, 3, 4, 5, 6, 7, 8, 9, 10, 11, 12, 13, 14, 15, 16, 17, 18, 19, 20, 21, 22, 23, 24, 25, 26, 27, 28, 29, 30, 31, 32, 33, 34, 35, 36, 37, 38, 39, 40, 43, 44]), weak_mkO (by rfl) (by rfl) ?_⟩
   try simp (disch := omega) only [go_sem, Nat.reduceEqDiff, Nat.reduceAdd, Nat.reduceSub, Int.reduceAdd, Int.reduceSub, Int.reduceToNat]
  ·simp (disch := omega) only [go_sem, Nat.reduceEqDiff, Nat.reduceAdd, Nat.reduceSub, Int.reduceAdd, Int.reduceSub, Int.reduceToNat]
   refine ⟨qC, (qA [0, 1, 2, 3, 4, 5, 6, 7, 8, 9, 10, 11, 12, 13, 14, 15, 16, 17, 18, 19, 20, 21, 22, 23, 24, 25, 26, 27, 28, 29, 30, 31, 32, 33, 34, 35, 36, 37, 38, 39, 40, 43, 44]), weak_mkO (by rfl) (by rfl) ?_⟩
   try simp (disch := omega) only [go_sem, Nat.reduceEqDiff, Nat.reduceAdd, Nat.reduceSub, Int.reduceAdd, Int.reduceSub, Int.reduceToNat]
  ·simp (disch := omega) only [go_sem, Nat.reduceEqDiff, Nat.reduceAdd, Nat.reduceSub, Int.reduceAdd, Int.reduceSub, Int.reduceToNat]
   refine ⟨qC, (qA [0, 1, 2, 3, 4, 5, 6, 7, 8, 9, 10, 11, 12, 13, 14, 15, 16, 17, 18, 19, 20, 21, 22, 23, 24, 25, 26, 27, 28, 29, 30, 31, 32, 33, 34, 35, 36, 37, 38, 39, 40, 43, 44]), weak_mkO (by rfl) (by rfl) ?_⟩
   try simp (disch := omega) only [go_sem, Nat.reduceEqDiff, Nat.reduceAdd, Nat.reduceSub, Int.reduceAdd, Int.reduceSub, Int.reduceToNat]
  ·simp (disch := omega) only [go_sem, Nat.reduceEqDiff, Nat.reduceAdd, Nat.reduceSub, Int.reduceAdd, Int.reduceSub, Int.reduceToNat]
   refine ⟨qC, (qA [0, 1, 2, 3, 4, 5, 6, 7, 8, 9, 10, 11, 12, 13, 14, 15, 16, 17, 18, 19, 20, 21, 22, 23, 24, 25, 26, 27, 28, 29, 30, 31, 32, 33, 34, 35, 36, 37, 38, 39, 40, 43, 44]), weak_mkO (by rfl) (by rfl) ?_⟩
   try simp (disch := omega) only [go_sem, Nat.reduceEqDiff, Nat.reduceAdd, Nat.reduceSub, Int.reduceAdd, Int.reduceSub, Int.reduceToNat]
  ·simp (disch := omega) only [go_sem, Nat.reduceEqDiff, Nat.reduceAdd, Nat.reduceSub, Int.reduceAdd, Int.reduceSub, Int.reduceToNat]
   refine ⟨qC, (qA [0, 1, 2, 3, 4, 5, 6, 7, 8, 9, 10, 11, 12, 13, 14, 15, 16, 17, 18, 19, 20, 21, 22, 23, 24, 25, 26, 27, 28, 29, 30, 31, 32, 33, 34, 35, 36, 37, 38, 39, 40, 42, 44]), weak_mkO (by rfl) (by rfl) ?_⟩
   try simp (disch := omega) only [go_sem, Nat.reduceEqDiff, Nat.reduceAdd, Nat.reduceSub, Int.reduceAdd, Int.reduceSub, Int.reduceToNat]
  ·simp (disch := omega) only [go_sem, Nat.reduceEqDiff, Nat.reduceAdd, Nat.reduceSub, Int.reduceAdd, Int.reduceSub, Int.reduceToNat]
   refine ⟨qC, (qA [0, 1, 2, 3, 4, 5, 6, 7, 8, 9, 10, 11, 12, 13, 14, 15, 16, 17, 18, 19, 20, 21, 22, 23, 24, 25, 26, 27, 28, 29, 30, 31, 32, 33, 34, 35, 36, 37, 38, 39, 40, 43, 44]), weak_mkO (by rfl) (by rfl) ?_⟩
   try simp (disch := omega) only [go_sem, Nat.reduceEqDiff, Nat.reduceAdd, Nat.reduceSub, Int.reduceAdd, Int.reduceSub, Int.reduceToNat]
  ·simp (disch := omega) only [go_sem, Nat.reduceEqDiff, Nat.reduceAdd, Nat.reduceSub, Int.reduceAdd, Int.reduceSub, Int.reduceToNat]
   refine ⟨qC, (qA [0, 1, 2, 3, 4, 5, 6, 7, 8, 9, 10, 11, 12, 13, 14, 15, 16, 17, 18, 19, 20, 21, 22, 23, 24, 25, 26, 27, 28, 29, 30, 31, 32, 33, 34, 35, 36, 37, 38, 39, 40, 43, 44]), weak_mkO (by rfl) (by rfl) ?_⟩
   try simp (disch := omega) only [go_sem, Nat.reduceEqDiff, Nat.reduceAdd, Nat.reduceSub, Int.reduceAdd, Int.reduceSub, Int.reduceToNat]
  ·simp (disch := omega) only [go_sem, Nat.reduceEqDiff, Nat.reduceAdd, Nat.reduceSub, Int.reduceAdd, Int.reduceSub, Int.reduceToNat]
   refine ⟨qC, (qA [0, 1, 2, 3, 4, 5, 6, 7, 8, 9, 10, 11, 12, 13, 14, 15, 16, 17, 18, 19, 20, 21, 22, 23, 24, 25, 26, 27, 28, 29, 30, 31, 32, 33, 34, 35, 36, 37, 38, 39, 40, 43, 44]), weak_mkO (by rfl) (by rfl) ?_⟩
   try simp (disch := omega) only [go_sem, Nat.reduceEqDiff, Nat.reduceAdd, Nat.reduceSub, Int.reduceAdd, Int.reduceSub, Int.reduceToNat]
 refine qR ?_
 exact qF (qA [0, 1, 2, 3, 4, 5, 6, 7, 8, 9, 10, 11, 12, 13, 14, 15, 16, 17, 18, 19, 20, 23, 24, 25, 26, 27, 28, 29, 30, 31, 32, 33, 34, 35, 36, 38, 40, 41, 42, 44, 46, 48])
end
section
open Go.RowKit

theorem sideAt_12 (n : Int) : sideAt n = 0 ∨ sideAt n = 1 ∨ sideAt n = 2 := by
 rw [sideAt]
 split
 ·exact .inr (.inl rfl)
 ·split
  ·exact .inr (.inr rfl)
  ·exact .inl rfl
def setEnd (w : WorldD) (side : Int) (e : EndD) : WorldD := if side = 1 then { w with a := e } else { w with b := e }
def numP (l : List Int) (n : Int) : List Int := if 0 < n ∧ hasI l n = false ∧ l.length < 300 then l ++ [n] else l
theorem numP_t {l : List Int} {n : Int} (h1 : 0 < n) (h2 : hasI l n = false) (h3 : l.length < 300) : numP l n = l ++ [n] := if_pos ⟨h1, h2, h3⟩
theorem numP_f1 {l : List Int} {n : Int} (h1 : ¬ 0 < n) : numP l n = l := if_neg (fun h => h1 h.1)
theorem numP_f2 {l : List Int} {n : Int} (h2 : hasI l n = true) : numP l n = l := if_neg (by simp [h2])
theorem numP_f3 {l : List Int} {n : Int} (h3 : ¬ l.length < 300) : numP l n = l := if_neg (fun h => h3 h.2.2)
theorem numP_le {l : List Int} {n : Int} (h : l.length ≤ 1048576) : (numP l n).length ≤ 1048576 := by
 rw [numP]; split
 ·rename_i hh; have := hh.2.2; simp; omega
 ·exact h
def pastP (l : List LetterD) (x : LetterD) : List LetterD := if l.length < 150 then l ++ [x] else l
def bagP (l : List LetterD) (x : LetterD) : List LetterD := if l.length < 40 then l ++ [x] else l
def ansP (l : List Int) (yes : Bool) (n : Int) : List Int := if yes = true ∧ l.length < 300 then l ++ [n] else l
theorem pastP_t {l : List LetterD} {x : LetterD} (h : l.length < 150) : pastP l x = l ++ [x] := if_pos h
theorem pastP_f {l : List LetterD} {x : LetterD} (h : ¬ l.length < 150) : pastP l x = l := if_neg h
theorem bagP_t {l : List LetterD} {x : LetterD} (h : l.length < 40) : bagP l x = l ++ [x] := if_pos h
theorem bagP_f {l : List LetterD} {x : LetterD} (h : ¬ l.length < 40) : bagP l x = l := if_neg h
theorem ansP_t {l : List Int} {n : Int} (h : l.length < 300) : ansP l true n = l ++ [n] := if_pos ⟨rfl, h⟩
theorem ansP_f {l : List Int} {b : Bool} {n : Int} (h : ¬ l.length < 300) : ansP l b n = l := if_neg (fun hh => h hh.2)
theorem ansP_f1 {l : List Int} {n : Int} : ansP l false n = l := if_neg (by simp)
theorem pastP_le {l : List LetterD} {x : LetterD} (h : l.length ≤ 1048576) : (pastP l x).length ≤ 1048576 := by
 rw [pastP]; split
 ·simp; omega
 ·exact h
theorem bagP_le {l : List LetterD} {x : LetterD} (h : l.length ≤ 1048576) : (bagP l x).length ≤ 1048576 := by
 rw [bagP]; split
 ·simp; omega
 ·exact h
theorem ansP_le {l : List Int} {b : Bool} {n : Int} (h : l.length ≤ 1048576) : (ansP l b n).length ≤ 1048576 := by
 rw [ansP]; split
 ·rename_i hh; have := hh.2; simp; omega
 ·exact h
theorem learn_le {k : KnownD} {t : TagD} (h : k.tags.length ≤ 1048576) : (learn k t).tags.length ≤ 1048576 := by
 rw [learn]; split
 ·rename_i hh; have := hh.2; simp; omega
 ·exact h
theorem learn_keys {k : KnownD} {t : TagD} : (learn k t).keys = k.keys := by
 rw [learn]; split <;> rfl
def isJB (side k : Int) (x : LetterD) : Bool := decide (x.kind = 5) && decide (side = k)
theorem isJB_f {side k : Int} {x : LetterD} (h : ¬ x.kind = 5) : isJB side k x = false := by simp [isJB, h]
theorem isJB_n {side k : Int} {x : LetterD} (h : ¬ side = k) : isJB side k x = false := by simp [isJB, h]
theorem isJB_t {k : Int} {x : LetterD} (h : x.kind = 5) : isJB k k x = true := by simp [isJB, h]
def notes (side : Int) (w : WorldD) (x : LetterD) : WorldD :=
 { w with past := pastP w.past x, answersA := ansP w.answersA (isJB side 1 x) w.a.now, answersB := ansP w.answersB (isJB side 2 x) w.b.now }
def heard (w : WorldD) (x : LetterD) : WorldD := { w with known := learn w.known x.tag, nums := numP (numP (numP w.nums x.nonce) x.give) x.sgn }
def post1 (side : Int) (w : WorldD) (x : LetterD) : WorldD :=
 if sideAt x.to = 0 then heard (notes side w x) x else { notes side w x with bag := bagP w.bag x }
def postL (side : Int) (w : WorldD) (l : List LetterD) : WorldD := l.foldl (post1 side) w
theorem postL_step {side : Int} {w : WorldD} {l : List LetterD} {k : Nat} (h : k < l.length) : postL side w (l.drop k) = postL side (post1 side w l[k]) (l.drop (k + 1)) := by
 rw [List.drop_eq_getElem_cons h]; rfl
theorem postL_end {side : Int} {w : WorldD} {l : List LetterD} {k : Nat} (h : l.length ≤ k) : postL side w (l.drop k) = w := by
 rw [List.drop_eq_nil_of_le h]; rfl
def posted (w : WorldD) (side : Int) (l : List LetterD) : WorldD := if side = 1 ∨ side = 2 then postL side w l else w
def lands (w : WorldD) (x : LetterD) : WorldD :=
 if sideAt x.to = 0 then w else posted (setEnd w (sideAt x.to) (hear (endAt w (sideAt x.to)) x).1) (sideAt x.to) (hear (endAt w (sideAt x.to)) x).2
structure SmallP2 (w : WorldD) : Prop where
 bag : w.bag.length ≤ 1048576
 past : w.past.length ≤ 1048576
 keys : w.known.keys.length ≤ 1048576
 tags : w.known.tags.length ≤ 1048576
 nums : w.nums.length ≤ 1048576
 ansA : w.answersA.length ≤ 1048576
 ansB : w.answersB.length ≤ 1048576
theorem SmallW.rest {w : WorldD} (h : SmallW w) : SmallP2 w := ⟨h.bag, h.past, h.keys, h.tags, h.nums, h.ansA, h.ansB⟩
theorem post1_ends {side : Int} {w : WorldD} {x : LetterD} : (post1 side w x).a = w.a ∧ (post1 side w x).b = w.b ∧ (post1 side w x).wroteA = w.wroteA ∧ (post1 side w x).wroteB = w.wroteB ∧ (post1 side w x).readA = w.readA ∧ (post1 side w x).readB = w.readB := by
 rw [post1]; split <;> exact ⟨rfl, rfl, rfl, rfl, rfl, rfl⟩
theorem post1_small {side : Int} {w : WorldD} {x : LetterD} (h : SmallP2 w) : SmallP2 (post1 side w x) := by
 rw [post1]; split
 ·exact ⟨h.bag, pastP_le h.past, by rw [heard, notes, learn_keys]; exact h.keys, learn_le h.tags, numP_le (numP_le (numP_le h.nums)), ansP_le h.ansA, ansP_le h.ansB⟩
 ·exact ⟨bagP_le h.bag, pastP_le h.past, h.keys, h.tags, h.nums, ansP_le h.ansA, ansP_le h.ansB⟩
theorem postL_ends {side : Int} : ∀ {l : List LetterD} {w : WorldD}, (postL side w l).a = w.a ∧ (postL side w l).b = w.b ∧ (postL side w l).wroteA = w.wroteA ∧ (postL side w l).wroteB = w.wroteB ∧ (postL side w l).readA = w.readA ∧ (postL side w l).readB = w.readB
 | [], w => ⟨rfl, rfl, rfl, rfl, rfl, rfl⟩
 | x :: l, w => by
  have h1 := postL_ends (side := side) (l := l) (w := post1 side w x)
  have h2 := post1_ends (side := side) (w := w) (x := x)
  rw [show postL side w (x :: l) = postL side (post1 side w x) l from rfl]
  exact ⟨h1.1.trans h2.1, h1.2.1.trans h2.2.1, h1.2.2.1.trans h2.2.2.1, h1.2.2.2.1.trans h2.2.2.2.1, h1.2.2.2.2.1.trans h2.2.2.2.2.1, h1.2.2.2.2.2.trans h2.2.2.2.2.2⟩
theorem postL_small {side : Int} : ∀ {l : List LetterD} {w : WorldD}, SmallP2 w → SmallP2 (postL side w l)
 | [], w, h => h
 | x :: l, w, h => postL_small (l := l) (post1_small h)
end
section
open Go.RowKit

theorem putHalf_le {l : List HalfD} {h : HalfD} (hl : l.length ≤ 1048576) : (putHalf l h).1.length ≤ 1048576 := by
 rw [putHalf]; split
 ·rename_i hh; have := halfsOk_le hh; dsimp only; omega
 ·exact hl
theorem putAddr_le {l : List AddrD} {a : AddrD} (hl : l.length ≤ 1048576) : (putAddr l a).1.length ≤ 1048576 := by
 rw [putAddr]; split
 ·rename_i hh; have := addrsOk_le hh; dsimp only; omega
 ·exact hl
theorem dropAddr_le {l : List AddrD} {n : Int} (hl : l.length ≤ 1048576) : (dropAddr l n).1.length ≤ 1048576 := by
 rw [dropAddr]; split
 ·exact hl
 ·simp only [List.length_append, List.length_take, List.length_drop]; omega
theorem dropHalf_le {l : List HalfD} {r : RoadD} (hl : l.length ≤ 1048576) : (dropHalf l r).length ≤ 1048576 := by
 rw [dropHalf]; split
 ·exact hl
 ·simp only [List.length_append, List.length_take, List.length_drop]; omega
theorem endOk_ids {e : EndD} (h : endOk e = true) : e.done.length ≤ 256 ∧ e.over.length ≤ 256 := by
 simp only [endOk, Bool.and_eq_true] at h
 exact ⟨by have := idsOk_le (l := e.done) (m := e.own) (by simp_all); omega, by have := idsOk_le (l := e.over) (m := e.far) (by simp_all); omega⟩
theorem onAt_ok {e : EndD} {x : LetterD} (h : 0 ≤ onAt e x) : endOk e = true := by
 rcases onAt_bd e x with h1 | ⟨n, _, _, _, h2, _⟩
 ·omega
 ·exact h2
theorem hearHello_small {e : EndD} {x : LetterD} (hs : Small e) : Small (hearHello e x).1 := by
 rw [hearHello]; split
 ·rename_i h
  simp only [helloOk, Bool.and_eq_true, decide_eq_true_eq] at h
  exact ⟨hs.own, by simp [farOne], by simp only [List.length_append, List.length_singleton]; omega, hs.halfs, hs.list, hs.done, hs.over⟩
 ·exact hs
theorem hearBack_small {e : EndD} {x : LetterD} (hs : Small e) : Small (hearBack e x).1 := by
 rw [hearBack]; split
 ·exact ⟨hs.own, by simp [farOne], by simpa only [List.length_set] using hs.subs, hs.halfs, hs.list, hs.done, hs.over⟩
 ·exact hs
theorem hearJoin_small {e : EndD} {x : LetterD} (hs : Small e) : Small (hearJoin e x).1 := by
 rw [hearJoin]; split
 ·split
  ·exact ⟨hs.own, hs.far, hs.subs, by simpa only [List.length_set] using hs.halfs, hs.list, hs.done, hs.over⟩
  ·exact ⟨hs.own, hs.far, hs.subs, putHalf_le hs.halfs, hs.list, hs.done, hs.over⟩
 ·exact hs
theorem hearJoinBack_small {e : EndD} {x : LetterD} (hs : Small e) : Small (hearJoinBack e x).1 := by
 rw [hearJoinBack]; split
 ·exact ⟨hs.own, hs.far, by simpa only [List.length_set] using hs.subs, hs.halfs, hs.list, hs.done, hs.over⟩
 ·exact hs
theorem hearJoinDone_small {e : EndD} {x : LetterD} (hs : Small e) : Small (hearJoinDone e x).1 := by
 rw [hearJoinDone]; split
 ·split
  ·rename_i h
   simp only [jdA, Bool.and_eq_true, decide_eq_true_eq] at h
   refine ⟨hs.own, hs.far, ?_, dropHalf_le hs.halfs, hs.list, hs.done, hs.over⟩
   split <;> simp only [setState, List.length_append, List.length_set, List.length_singleton] <;> omega
  ·split <;> exact hs
 ·exact hs
theorem hearJoinAck_small {e : EndD} {x : LetterD} (hs : Small e) : Small (hearJoinAck e x).1 := by
 rw [hearJoinAck]; dsimp only; split
 ·exact ⟨hs.own, hs.far, by simpa only [setState, List.length_set] using hs.subs, hs.halfs, hs.list, hs.done, hs.over⟩
 ·exact hs
theorem hearAddr_small {e : EndD} {x : LetterD} (hs : Small e) : Small (hearAddr e x).1 := by
 rw [hearAddr]; split
 ·exact ⟨hs.own, putAddr_le hs.far, hs.subs, hs.halfs, hs.list, hs.done, hs.over⟩
 ·exact hs
theorem hearEcho_small {e : EndD} {x : LetterD} (hs : Small e) : Small (hearEcho e x).1 := by
 rw [hearEcho]; dsimp only; split
 ·exact ⟨by simpa only [List.length_set] using hs.own, hs.far, hs.subs, hs.halfs, hs.list, hs.done, hs.over⟩
 ·exact hs
theorem hearGone_small {e : EndD} {x : LetterD} (hs : Small e) : Small (hearGone e x).1 := by
 rw [hearGone]; dsimp only; split
 ·rename_i h
  simp only [goneOk, Bool.and_eq_true, decide_eq_true_eq] at h
  have := (endOk_ids (onAt_ok h.1)).2
  exact ⟨hs.own, dropAddr_le hs.far, by simpa only [List.length_map] using hs.subs, hs.halfs, hs.list, hs.done, by have := putI_len e.over x.id; dsimp only; omega⟩
 ·exact hs
theorem hearData_small {e : EndD} {x : LetterD} (hs : Small e) : Small (hearData e x).1 := by
 rw [hearData]; split
 ·exact ⟨hs.own, hs.far, hs.subs, hs.halfs, putPiece_le hs.list, hs.done, hs.over⟩
 ·exact hs
theorem hearCame_small {e : EndD} {x : LetterD} (hs : Small e) : Small (hearCame e x).1 := by
 rw [hearCame]; dsimp only; split
 ·exact ⟨hs.own, hs.far, hs.subs, hs.halfs, hs.list, hs.done, hs.over⟩
 ·exact hs
theorem hearReset_small {e : EndD} {x : LetterD} (hs : Small e) : Small (hearReset e x).1 := by
 rw [hearReset]; dsimp only; split
 ·exact ⟨hs.own, hs.far, by simpa only [setState, List.length_set] using hs.subs, hs.halfs, hs.list, hs.done, hs.over⟩
 ·exact hs
theorem hear_all {e : EndD} {x : LetterD} {Q : EndD × List LetterD → Prop} (h0 : Q (e, [])) (h1 : Q (hearHello e x)) (h2 : Q (hearBack e x)) (h4 : Q (hearJoin e x)) (h5 : Q (hearJoinBack e x)) (h6 : Q (hearJoinDone e x)) (h7 : Q (hearJoinAck e x)) (h8 : Q (hearAddr e x)) (h9 : Q (hearEcho e x)) (h10 : Q (hearGone e x)) (h11 : Q (hearData e x)) (h12 : Q (hearCame e x)) (h13 : Q (hearReset e x)) : Q (hear e x) := by
 by_cases hc : hearOk e x = true
 ·by_cases k1 : x.kind = 1
  ·rw [hear_1 hc k1]; exact h1
  by_cases k2 : x.kind = 2
  ·rw [hear_2 hc k2]; exact h2
  by_cases k4 : x.kind = 4
  ·rw [hear_4 hc k4]; exact h4
  by_cases k5 : x.kind = 5
  ·rw [hear_5 hc k5]; exact h5
  by_cases k6 : x.kind = 6
  ·rw [hear_6 hc k6]; exact h6
  by_cases k7 : x.kind = 7
  ·rw [hear_7 hc k7]; exact h7
  by_cases k8 : x.kind = 8
  ·rw [hear_8 hc k8]; exact h8
  by_cases k9 : x.kind = 9
  ·rw [hear_9 hc k9]; exact h9
  by_cases k10 : x.kind = 10
  ·rw [hear_10 hc k10]; exact h10
  by_cases k11 : x.kind = 11
  ·rw [hear_11 hc k11]; exact h11
  by_cases k12 : x.kind = 12
  ·rw [hear_12 hc k12]; exact h12
  by_cases k13 : x.kind = 13
  ·rw [hear_13 hc k13]; exact h13
  rw [hear_n (by intro k hk; omega)]; exact h0
 ·rw [hear_f (by simpa using hc)]; exact h0
theorem hear_small {e : EndD} {x : LetterD} (hs : Small e) : Small (hear e x).1 :=
 hear_all (Q := fun r => Small r.1) hs (hearHello_small hs) (hearBack_small hs) (hearJoin_small hs) (hearJoinBack_small hs) (hearJoinDone_small hs) (hearJoinAck_small hs) (hearAddr_small hs) (hearEcho_small hs) (hearGone_small hs) (hearData_small hs) (hearCame_small hs) (hearReset_small hs)
theorem hear_one {e : EndD} {x : LetterD} : (hear e x).2.length ≤ 1 := by
 refine hear_all (Q := fun r => r.2.length ≤ 1) (by simp) ?_ ?_ ?_ ?_ ?_ ?_ ?_ ?_ ?_ ?_ ?_ ?_
 ·rw [hearHello]; split <;> simp
 ·rw [hearBack]; split <;> simp
 ·rw [hearJoin]; split
  ·split <;> simp
  ·simp
 ·rw [hearJoinBack]; split <;> simp
 ·rw [hearJoinDone]; split
  ·split
   ·simp
   ·split <;> simp
  ·simp
 ·rw [hearJoinAck]; simp
 ·rw [hearAddr]; split <;> simp
 ·rw [hearEcho]; simp
 ·rw [hearGone]; simp
 ·rw [hearData]; split <;> simp
 ·rw [hearCame]; simp
 ·rw [hearReset]; simp
end
section
open Go.RowKit

def endsHp (w : WorldD) (own : Bool) : Hp := [some ⟨w.a.own.map AddrD.cs, 4, 95, own, true⟩, some ⟨w.a.far.map AddrD.cs, 4, 95, own, true⟩, some ⟨w.a.subs.map SubD.cs, 10, 202, own, true⟩, some ⟨w.a.halfs.map HalfD.cs, 8, 215, own, true⟩, some ⟨w.a.inp.list.map PieceD.cs, 2, 272, own, true⟩, some ⟨w.a.done.map intC, 1, 3, own, true⟩, some ⟨w.a.over.map intC, 1, 3, own, true⟩, some ⟨w.b.own.map AddrD.cs, 4, 95, own, true⟩, some ⟨w.b.far.map AddrD.cs, 4, 95, own, true⟩, some ⟨w.b.subs.map SubD.cs, 10, 202, own, true⟩, some ⟨w.b.halfs.map HalfD.cs, 8, 215, own, true⟩, some ⟨w.b.inp.list.map PieceD.cs, 2, 272, own, true⟩, some ⟨w.b.done.map intC, 1, 3, own, true⟩, some ⟨w.b.over.map intC, 1, 3, own, true⟩]
def restHp (w : WorldD) (own : Bool) : Hp := [some ⟨w.bag.map LetterD.cs, 19, 70, own, true⟩, some ⟨w.past.map LetterD.cs, 19, 70, own, true⟩, some ⟨w.known.keys.map intC, 1, 3, own, true⟩, some ⟨w.known.tags.map TagD.cs, 5, 68, own, true⟩, some ⟨w.nums.map intC, 1, 3, own, true⟩, some ⟨w.answersA.map intC, 1, 3, own, true⟩, some ⟨w.answersB.map intC, 1, 3, own, true⟩]
attribute [go_sem] endsHp restHp
theorem impl_set1 (w : WorldD) (e : EndD) : CallA Tryz.prog 57 [.sc (.pt 28 0 0), .sc (.int .i64 1), .ag (e.cs 21)] (w.hp false ++ (e.hp false ++ [some ⟨[w.cs 0], 61, 65, true, false⟩])) (.tu [])
  (w.hp false ++ (e.hp false ++ [some ⟨[(worldC { w with a := e } 21 22 23 24 25 26 27 7 8 9 10 11 12 13 14 15 16 17 18 19 20)], 61, 65, true, false⟩])) := by
 refine qEO Tryz.func57 Tryz.ntmps57 Tryz.results57 fun E hE => ?_
 exact qFO (qA [0, 1, 2, 3, 4, 5, 6, 7, 8, 9, 10, 11, 12, 13, 14, 15, 16, 17, 18, 19, 20, 21, 22, 23, 24, 25, 26, 27, 28])
theorem impl_set2 (w : WorldD) (e : EndD) : CallA Tryz.prog 57 [.sc (.pt 28 0 0), .sc (.int .i64 2), .ag (e.cs 21)] (w.hp false ++ (e.hp false ++ [some ⟨[w.cs 0], 61, 65, true, false⟩])) (.tu [])
  (w.hp false ++ (e.hp false ++ [some ⟨[(worldC { w with b := e } 0 1 2 3 4 5 6 21 22 23 24 25 26 27 14 15 16 17 18 19 20)], 61, 65, true, false⟩])) := by
 refine qEO Tryz.func57 Tryz.ntmps57 Tryz.results57 fun E hE => ?_
 exact qFO (qA [0, 1, 2, 3, 4, 5, 6, 7, 8, 9, 10, 11, 12, 13, 14, 15, 16, 17, 18, 19, 20, 21, 22, 23, 24, 25, 26, 27, 28])
theorem spec_l23Set1 (w : WorldD) (e : EndD) : CallA Tryz.prog 47 [.ag (w.cs 0), .sc (.int .i64 1), .ag (e.cs 21)] (w.hp false ++ e.hp false) (.ag (worldC { w with a := e } 21 22 23 24 25 26 27 7 8 9 10 11 12 13 14 15 16 17 18 19 20)) (w.hp false ++ e.hp false) := by
 refine qEO Tryz.func47 Tryz.ntmps47 Tryz.results47 fun E hE => ?_
 exact qFO (qA [0, 1, 2, 3, 4, 5, 6, 7, 8, 9, 10, 11, 12, 13, 14, 15, 16, 17, 18, 19, 20, 21, 22, 23, 24, 25, 26, 27])
theorem spec_l23Set2 (w : WorldD) (e : EndD) : CallA Tryz.prog 47 [.ag (w.cs 0), .sc (.int .i64 2), .ag (e.cs 21)] (w.hp false ++ e.hp false) (.ag (worldC { w with b := e } 0 1 2 3 4 5 6 21 22 23 24 25 26 27 14 15 16 17 18 19 20)) (w.hp false ++ e.hp false) := by
 refine qEO Tryz.func47 Tryz.ntmps47 Tryz.results47 fun E hE => ?_
 exact qFO (qA [0, 1, 2, 3, 4, 5, 6, 7, 8, 9, 10, 11, 12, 13, 14, 15, 16, 17, 18, 19, 20, 21, 22, 23, 24, 25, 26, 27])
theorem spec_l23Hears (w : WorldD) (n : Int) (h0 : w.nums.length ≤ 1048576) : CallA Tryz.prog 107 [.ag (w.cs 0), .sc (.int .i64 n)] [some ⟨w.a.own.map AddrD.cs, 4, 95, false, true⟩, some ⟨w.a.far.map AddrD.cs, 4, 95, false, true⟩, some ⟨w.a.subs.map SubD.cs, 10, 202, false, true⟩, some ⟨w.a.halfs.map HalfD.cs, 8, 215, false, true⟩, some ⟨w.a.inp.list.map PieceD.cs, 2, 272, false, true⟩, some ⟨w.a.done.map intC, 1, 3, false, true⟩, some ⟨w.a.over.map intC, 1, 3, false, true⟩, some ⟨w.b.own.map AddrD.cs, 4, 95, false, true⟩, some ⟨w.b.far.map AddrD.cs, 4, 95, false, true⟩, some ⟨w.b.subs.map SubD.cs, 10, 202, false, true⟩, some ⟨w.b.halfs.map HalfD.cs, 8, 215, false, true⟩, some ⟨w.b.inp.list.map PieceD.cs, 2, 272, false, true⟩, some ⟨w.b.done.map intC, 1, 3, false, true⟩, some ⟨w.b.over.map intC, 1, 3, false, true⟩, some ⟨w.bag.map LetterD.cs, 19, 70, false, true⟩, some ⟨w.past.map LetterD.cs, 19, 70, false, true⟩, some ⟨w.known.keys.map intC, 1, 3, false, true⟩, some ⟨w.known.tags.map TagD.cs, 5, 68, false, true⟩, some ⟨w.nums.map intC, 1, 3, true, true⟩, some ⟨w.answersA.map intC, 1, 3, false, true⟩, some ⟨w.answersB.map intC, 1, 3, false, true⟩] (.ag (worldC { w with nums := numP w.nums n } 0 1 2 3 4 5 6 7 8 9 10 11 12 13 14 15 16 17 21 19 20))
  [some ⟨w.a.own.map AddrD.cs, 4, 95, false, true⟩, some ⟨w.a.far.map AddrD.cs, 4, 95, false, true⟩, some ⟨w.a.subs.map SubD.cs, 10, 202, false, true⟩, some ⟨w.a.halfs.map HalfD.cs, 8, 215, false, true⟩, some ⟨w.a.inp.list.map PieceD.cs, 2, 272, false, true⟩, some ⟨w.a.done.map intC, 1, 3, false, true⟩, some ⟨w.a.over.map intC, 1, 3, false, true⟩, some ⟨w.b.own.map AddrD.cs, 4, 95, false, true⟩, some ⟨w.b.far.map AddrD.cs, 4, 95, false, true⟩, some ⟨w.b.subs.map SubD.cs, 10, 202, false, true⟩, some ⟨w.b.halfs.map HalfD.cs, 8, 215, false, true⟩, some ⟨w.b.inp.list.map PieceD.cs, 2, 272, false, true⟩, some ⟨w.b.done.map intC, 1, 3, false, true⟩, some ⟨w.b.over.map intC, 1, 3, false, true⟩, some ⟨w.bag.map LetterD.cs, 19, 70, false, true⟩, some ⟨w.past.map LetterD.cs, 19, 70, false, true⟩, some ⟨w.known.keys.map intC, 1, 3, false, true⟩, some ⟨w.known.tags.map TagD.cs, 5, 68, false, true⟩, none, some ⟨w.answersA.map intC, 1, 3, false, true⟩, some ⟨w.answersB.map intC, 1, 3, false, true⟩, some ⟨(numP w.nums n).map intC, 1, 3, true, true⟩] := by
 have hH := spec_l15Has w.nums n h0
 have ht := numP_t (l := w.nums) (n := n)
 have hf1 := numP_f1 (l := w.nums) (n := n)
 have hf2 := numP_f2 (l := w.nums) (n := n)
 have hf3 := numP_f3 (l := w.nums) (n := n)
 generalize numP w.nums n = R at *
 refine qEO Tryz.func107 Tryz.ntmps107 Tryz.results107 fun E hE => ?_
 refine qB (fun b1 => ?_) fun b1 => ?_
 ·refine qB (fun b2 => ?_) fun b2 => ?_
  ·refine qK (hH) (qA [18]) ?_
   refine qB (fun b3 => ?_) fun b3 => ?_
   ·rw [ht b1 b3 (by omega)]
    refine qX ?_
    refine den_finO (qA [0, 1, 2, 3, 4, 5, 6, 7, 8, 9, 10, 11, 12, 13, 14, 15, 16, 17, 18, 19, 20, 24]) (qC) _ (by simp only [go_sem]; rfl) (by rfl) (by rfl) ?_
    simp (disch := omega) only [go_sem, Nat.reduceEqDiff, Nat.reduceAdd, Nat.reduceSub, Int.reduceAdd, Int.reduceSub, Int.reduceToNat]
    try simp [intC]
   ·rw [hf2 b3]
    refine qX ?_
    exact qFO (qA [0, 1, 2, 3, 4, 5, 6, 7, 8, 9, 10, 11, 12, 13, 14, 15, 16, 17, 18, 19, 20, 18])
  ·rw [hf3 (by omega)]
   refine qX ?_
   exact qFO (qA [0, 1, 2, 3, 4, 5, 6, 7, 8, 9, 10, 11, 12, 13, 14, 15, 16, 17, 18, 19, 20, 18])
 ·rw [hf1 b1]
  refine qX ?_
  exact qFO (qA [0, 1, 2, 3, 4, 5, 6, 7, 8, 9, 10, 11, 12, 13, 14, 15, 16, 17, 18, 19, 20, 18])
end
section
open Go.RowKit

def nums3 (x : LetterD) : List Int := [x.nonce, x.give, x.sgn]
theorem foldN_step {l : List Int} {m : List Int} {k : Nat} (h : k < l.length) : (l.drop k).foldl numP m = (l.drop (k + 1)).foldl numP (numP m l[k]) := by
 rw [List.drop_eq_getElem_cons h]; rfl
theorem foldN_end {l : List Int} {m : List Int} {k : Nat} (h : l.length ≤ k) : (l.drop k).foldl numP m = m := by
 rw [List.drop_eq_nil_of_le h]; rfl
theorem impl_post1 (w : WorldD) (l : List LetterD) (hw : SmallP2 w) (hl : l.length ≤ 1048576) : CallA Tryz.prog 58 [.sc (.pt 21 0 0), .sc (.int .i64 1), .sc (.sl 22 0 l.length)]
  (endsHp w false ++ (restHp w true ++ [some ⟨[w.cs 0], 61, 65, true, false⟩, some ⟨l.map LetterD.cs, 19, 70, false, true⟩])) (.tu [])
  (endsHp w false ++ ([none, none, none, none, none, none, none, some ⟨[(worldC (postL 1 w l) 0 1 2 3 4 5 6 7 8 9 10 11 12 13 23 24 25 26 27 28 29)], 61, 65, true, false⟩, some ⟨l.map LetterD.cs, 19, 70, false, true⟩] ++ restHp (postL 1 w l) true)) := by
 obtain ⟨R, hR⟩ : ∃ R, R = postL 1 w l := ⟨_, rfl⟩
 rw [← hR]
 have hl2 : l.length ≤ 9223372036854775807 := by omega
 refine callA_ofO Tryz.func58 (by kernel_rfl) rfl fun E hE => run_den 400 ?_
 simp (disch := omega) only [Tryz.ntmps58, Tryz.results58, go_sem, Nat.reduceEqDiff, Nat.reduceAdd, Nat.reduceSub, Int.reduceAdd, Int.reduceSub, Int.reduceToNat]
 refine den_lpO 23 hE (fun s (y : Nat × WorldD) => s.at [2, 7, 9, 13, 14, 15, 16, 17, 18, 19, 20, 21, 22, 23, 24, 25, 26, 27, 28, 29, 30, 31, 32, 33, 34, 35, 36, 37, 38, 39, 40, 41, 42, 43, 44, 45, 46, 47, 48, 49, 50, 51, 52, 53, 54, 55, 56, 57, 58, 59, 60, 61, 62, 63, 64, 65, 66, 67, 68, 69, 70, 71, 72, 73, 74, 75, 76, 77, 78, 79, 80, 81, 82, 83, 84, 85, 86, 87, 88, 89, 90, 91, 92, 93, 94, 95, 96, 97, 98, 99, 100, 101, 102, 103, 104, 105, 106, 107, 108, 109, 110, 111, 112, 113, 114, 115, 116, 117, 118, 119, 120, 121, 122, 123, 124, 125, 126, 127, 128, 129, 130, 131, 132, 133, 134, 135, 136, 137, 138, 139, 140, 141, 142, 143, 144, 145, 146, 147, 148, 149, 150, 151, 152, 153, 154, 155, 156, 157] [(12, .sc (.int .i64 (y.1 : Nat)))] (endsHp w false ++ ([none, none, none, none, none, none, none, some ⟨[(worldC y.2 0 1 2 3 4 5 6 7 8 9 10 11 12 13 23 24 25 26 27 28 29)], 61, 65, true, false⟩, some ⟨l.map LetterD.cs, 19, 70, false, true⟩] ++ (restHp y.2 true)))) (fun (y : Nat × WorldD) => y.1 ≤ l.length ∧ y.2.a = w.a ∧ y.2.b = w.b ∧ SmallP2 y.2 ∧ R = postL 1 y.2 (l.drop y.1)) (fun (y : Nat × WorldD) => l.length - y.1) (0, w) [some (0, none), some (1, none), some (2, none), some (3, none), some (4, none), some (5, none), some (6, none), some (7, none), some (8, none), some (9, none), some (10, none), some (11, none), some (12, none), some (13, none), some (14, none), some (15, none), some (16, none), some (17, none), some (18, none), some (19, none), some (20, none), some (21, none), some (22, none), some (14, none), some (15, none), some (16, none), some (17, none), some (18, none), some (19, none), some (20, none)] (by (try simp (disch := omega) only [go_sem, List.length_set, Nat.reduceEqDiff, Nat.reduceAdd, Nat.reduceSub, Int.reduceAdd, Int.reduceSub, Int.reduceToNat]) <;> omega) (⟨Nat.zero_le _, rfl, rfl, hw, hR⟩) (weak_mkO (by rfl) (by rfl) ?_) fun y hy N hN => ?_
 ·try simp (disch := omega) only [go_sem, Nat.reduceEqDiff, Nat.reduceAdd, Nat.reduceSub, Int.reduceAdd, Int.reduceSub, Int.reduceToNat]
 ·obtain ⟨i, u⟩ := y
  obtain ⟨hi, ha, hb, hS, hu⟩ := hy
  obtain ⟨ua, ub, bag, past, wA, wB, rA, rB, known, nums, nsA, nsB⟩ := u
  obtain ⟨keys, tags⟩ := known
  dsimp only at hi ha hb hu
  subst ha hb
  have s1 := hS.bag
  have s2 := hS.past
  have s3 := hS.keys
  have s4 := hS.tags
  have s5 := hS.nums
  have s6 := hS.ansA
  have s7 := hS.ansB
  dsimp only at s1 s2 s3 s4 s5 s6 s7
  refine runS_den 21 400 ?_
  try simp (disch := omega) only [go_sem, Nat.reduceEqDiff, Nat.reduceAdd, Nat.reduceSub, Int.reduceAdd, Int.reduceSub, Int.reduceToNat, Nat.reduceBEq]
  split <;> rename_i h <;> (try simp only [decide_eq_true_eq, decide_eq_false_iff_not, Int.ofNat_lt] at h)
  rotate_left
  ·have e : i = l.length := by omega
   subst e
   rw [postL_end (Nat.le_refl _)] at hu
   subst hu
   try simp (disch := omega) only [go_sem, Nat.reduceEqDiff, Nat.reduceAdd, Nat.reduceSub, Int.reduceAdd, Int.reduceSub, Int.reduceToNat, Nat.reduceBEq]
   refine den_finO [some (0, none), some (1, none), some (2, none), some (3, none), some (4, none), some (5, none), some (6, none), some (7, none), some (8, none), some (9, none), some (10, none), some (11, none), some (12, none), some (13, none), some (14, none), some (15, none), some (16, none), some (17, none), some (18, none), some (19, none), some (20, none), some (21, none), some (22, none), some (23, none), some (24, none), some (25, none), some (26, none), some (27, none), some (28, none), some (29, none)] (by (try simp (disch := omega) only [go_sem, List.length_set, Nat.reduceEqDiff, Nat.reduceAdd, Nat.reduceSub, Int.reduceAdd, Int.reduceSub, Int.reduceToNat, Nat.reduceBEq]) <;> omega) _ (by simp only [go_sem]; rfl) (by rfl) (by rfl) ?_
   simp (disch := omega) only [go_sem, Nat.reduceEqDiff, Nat.reduceAdd, Nat.reduceSub, Int.reduceAdd, Int.reduceSub, Int.reduceToNat, Nat.reduceBEq]
  ·rw [postL_step h] at hu
   generalize hx : l[i] = x at hu
   have hget := map_get (enc := LetterD.cs) h
   rw [hx] at hget
   try simp (disch := omega) only [go_sem, Nat.reduceEqDiff, Nat.reduceAdd, Nat.reduceSub, Int.reduceAdd, Int.reduceSub, Int.reduceToNat, Nat.reduceBEq, hget]
   obtain ⟨p1, hp1⟩ : ∃ p, p = pastP past x := ⟨_, rfl⟩
   refine den_joinO 23 hE (fun s => s.at [13, 14, 15, 16, 17, 18, 19, 20, 21, 22, 23, 24, 25, 26, 27, 28, 29, 30, 31] [] (endsHp w false ++ ([none, none, none, none, none, none, none, some ⟨[(worldC (⟨w.a, w.b, bag, p1, wA, wB, rA, rB, ⟨keys, tags⟩, nums, nsA, nsB⟩ : WorldD) 0 1 2 3 4 5 6 7 8 9 10 11 12 13 23 24 25 26 27 28 29)], 61, 65, true, false⟩, some ⟨l.map LetterD.cs, 19, 70, false, true⟩] ++ (restHp (⟨w.a, w.b, bag, p1, wA, wB, rA, rB, ⟨keys, tags⟩, nums, nsA, nsB⟩ : WorldD) true ++ [some ⟨[x.cs], 19, 70, true, false⟩])))) (by (try simp (disch := omega) only [go_sem, List.length_set, Nat.reduceEqDiff, Nat.reduceAdd, Nat.reduceSub, Int.reduceAdd, Int.reduceSub, Int.reduceToNat, Nat.reduceBEq]) <;> omega) (by rfl) (fun N hN => run_den 401 ?_) (runS_den 34 400 ?_)
   ·try simp (disch := omega) only [go_sem, Nat.reduceEqDiff, Nat.reduceAdd, Nat.reduceSub, Int.reduceAdd, Int.reduceSub, Int.reduceToNat, Nat.reduceBEq]
    split <;> rename_i b1 <;> (try simp only [beq_true, beq_false, Bool.not_eq_true', Bool.not_eq_false'] at b1) <;> simp (disch := omega) only [go_sem, Nat.reduceEqDiff, Nat.reduceAdd, Nat.reduceSub, Int.reduceAdd, Int.reduceSub, Int.reduceToNat, Nat.reduceBEq, b1] <;> (try simp only [decide_eq_true_eq, decide_eq_false_iff_not, beq_iff_eq, beq_eq_false_iff_ne, bne_iff_ne, bne_eq_false_iff_eq, ne_eq, Decidable.not_not, Bool.and_eq_true, Bool.and_eq_false_iff, Bool.or_eq_true, Bool.or_eq_false_iff, Int.ofNat_lt, Int.ofNat_le, Bool.not_eq_eq_eq_not, Bool.not_true, Bool.not_false] at b1) <;> try simp (disch := omega) only [go_sem, Nat.reduceEqDiff, Nat.reduceAdd, Nat.reduceSub, Int.reduceAdd, Int.reduceSub, Int.reduceToNat, Nat.reduceBEq]
    ·rw [pastP_t (by omega)] at hp1
     subst hp1
     refine den_draw1 [0, 1, 2, 3, 4, 5, 6, 7, 8, 9, 10] (by kernel_rfl) (by (try simp (disch := omega) only [go_sem, List.length_set, Nat.reduceEqDiff, Nat.reduceAdd, Nat.reduceSub, Int.reduceAdd, Int.reduceSub, Int.reduceToNat, Nat.reduceBEq]) <;> omega) (by kernel_rfl) (runD_den 400 ?_)
     simp (disch := omega) only [go_sem, Nat.reduceEqDiff, Nat.reduceAdd, Nat.reduceSub, Int.reduceAdd, Int.reduceSub, Int.reduceToNat, Nat.reduceBEq]
     refine ⟨by (try simp (disch := omega) only [go_sem, List.length_set, Nat.reduceEqDiff, Nat.reduceAdd, Nat.reduceSub, Int.reduceAdd, Int.reduceSub, Int.reduceToNat, Nat.reduceBEq]) <;> omega, runS_den 34 400 ?_⟩
     try simp (disch := omega) only [go_sem, Nat.reduceEqDiff, Nat.reduceAdd, Nat.reduceSub, Int.reduceAdd, Int.reduceSub, Int.reduceToNat, Nat.reduceBEq]
     refine ⟨by (try simp (disch := omega) only [go_sem, List.length_set, Nat.reduceEqDiff, Nat.reduceAdd, Nat.reduceSub, Int.reduceAdd, Int.reduceSub, Int.reduceToNat, Nat.reduceBEq]) <;> omega, hN _ [some (0, none), some (1, none), some (2, none), some (3, none), some (4, none), some (5, none), some (6, none), some (7, none), some (8, none), some (9, none), some (10, none), some (11, none), some (12, none), some (13, none), some (14, none), some (15, none), some (16, none), some (17, none), some (18, none), some (19, none), some (20, none), some (21, none), some (22, none), some (23, none), some (32, none), some (25, none), some (26, none), some (27, none), some (28, none), some (29, none), some (30, none)] (weak_mkO (by rfl) (by rfl) ?_)⟩
     simp (disch := omega) only [go_sem, Nat.reduceEqDiff, Nat.reduceAdd, Nat.reduceSub, Int.reduceAdd, Int.reduceSub, Int.reduceToNat, Nat.reduceBEq]
     try simp [LetterD.cs]
    ·rw [pastP_f (by omega)] at hp1
     subst hp1
     try simp (disch := omega) only [go_sem, Nat.reduceEqDiff, Nat.reduceAdd, Nat.reduceSub, Int.reduceAdd, Int.reduceSub, Int.reduceToNat, Nat.reduceBEq]
     refine ⟨by (try simp (disch := omega) only [go_sem, List.length_set, Nat.reduceEqDiff, Nat.reduceAdd, Nat.reduceSub, Int.reduceAdd, Int.reduceSub, Int.reduceToNat, Nat.reduceBEq]) <;> omega, hN _ [some (0, none), some (1, none), some (2, none), some (3, none), some (4, none), some (5, none), some (6, none), some (7, none), some (8, none), some (9, none), some (10, none), some (11, none), some (12, none), some (13, none), some (14, none), some (15, none), some (16, none), some (17, none), some (18, none), some (19, none), some (20, none), some (21, none), some (22, none), some (23, none), some (24, none), some (25, none), some (26, none), some (27, none), some (28, none), some (29, none), some (30, none)] (weak_mkO (by rfl) (by rfl) ?_)⟩
     simp (disch := omega) only [go_sem, Nat.reduceEqDiff, Nat.reduceAdd, Nat.reduceSub, Int.reduceAdd, Int.reduceSub, Int.reduceToNat, Nat.reduceBEq]
   ·try simp (disch := omega) only [go_sem, Nat.reduceEqDiff, Nat.reduceAdd, Nat.reduceSub, Int.reduceAdd, Int.reduceSub, Int.reduceToNat, Nat.reduceBEq]
    obtain ⟨q1, hq1⟩ : ∃ q, q = ansP nsA (isJB 1 1 x) w.a.now := ⟨_, rfl⟩
    refine den_joinO 23 hE (fun s => s.at [13, 14, 15, 16, 17, 18, 19, 20, 21, 22, 23, 24, 25, 26, 27, 28, 29, 30, 31, 32, 33, 34, 35, 36, 37, 38, 39, 40, 41, 42, 43, 44, 45, 46, 47, 48, 49, 50, 51, 52, 53, 54, 55, 56, 57, 58, 59, 60, 61, 62, 63, 64, 65, 66, 67, 68, 69, 70, 71, 72, 73, 74, 75, 76, 77, 78, 79, 80, 81, 82] [] (endsHp w false ++ ([none, none, none, none, none, none, none, some ⟨[(worldC (⟨w.a, w.b, bag, p1, wA, wB, rA, rB, ⟨keys, tags⟩, nums, q1, nsB⟩ : WorldD) 0 1 2 3 4 5 6 7 8 9 10 11 12 13 23 24 25 26 27 28 29)], 61, 65, true, false⟩, some ⟨l.map LetterD.cs, 19, 70, false, true⟩] ++ (restHp (⟨w.a, w.b, bag, p1, wA, wB, rA, rB, ⟨keys, tags⟩, nums, q1, nsB⟩ : WorldD) true ++ [some ⟨[x.cs], 19, 70, true, false⟩])))) (by (try simp (disch := omega) only [go_sem, List.length_set, Nat.reduceEqDiff, Nat.reduceAdd, Nat.reduceSub, Int.reduceAdd, Int.reduceSub, Int.reduceToNat]) <;> omega) (by rfl) (fun N hN => run_den 401 ?_) (run_den 400 ?_)
    ·try simp (disch := omega) only [go_sem, Nat.reduceEqDiff, Nat.reduceAdd, Nat.reduceSub, Int.reduceAdd, Int.reduceSub, Int.reduceToNat]
     split <;> rename_i b2 <;> (try simp only [beq_true, beq_false, Bool.not_eq_true', Bool.not_eq_false'] at b2) <;> simp (disch := omega) only [go_sem, Nat.reduceEqDiff, Nat.reduceAdd, Nat.reduceSub, Int.reduceAdd, Int.reduceSub, Int.reduceToNat, b2] <;> (try simp only [decide_eq_true_eq, decide_eq_false_iff_not, beq_iff_eq, beq_eq_false_iff_ne, bne_iff_ne, bne_eq_false_iff_eq, ne_eq, Decidable.not_not, Bool.and_eq_true, Bool.and_eq_false_iff, Bool.or_eq_true, Bool.or_eq_false_iff, Int.ofNat_lt, Int.ofNat_le, Bool.not_eq_eq_eq_not, Bool.not_true, Bool.not_false] at b2) <;> try simp (disch := omega) only [go_sem, Nat.reduceEqDiff, Nat.reduceAdd, Nat.reduceSub, Int.reduceAdd, Int.reduceSub, Int.reduceToNat]
     ·rw [isJB_t b2] at hq1
      split <;> rename_i b3 <;> (try simp only [beq_true, beq_false, Bool.not_eq_true', Bool.not_eq_false'] at b3) <;> simp (disch := omega) only [go_sem, Nat.reduceEqDiff, Nat.reduceAdd, Nat.reduceSub, Int.reduceAdd, Int.reduceSub, Int.reduceToNat, b3] <;> (try simp only [decide_eq_true_eq, decide_eq_false_iff_not, beq_iff_eq, beq_eq_false_iff_ne, bne_iff_ne, bne_eq_false_iff_eq, ne_eq, Decidable.not_not, Bool.and_eq_true, Bool.and_eq_false_iff, Bool.or_eq_true, Bool.or_eq_false_iff, Int.ofNat_lt, Int.ofNat_le, Bool.not_eq_eq_eq_not, Bool.not_true, Bool.not_false] at b3) <;> try simp (disch := omega) only [go_sem, Nat.reduceEqDiff, Nat.reduceAdd, Nat.reduceSub, Int.reduceAdd, Int.reduceSub, Int.reduceToNat]
      ·rw [ansP_t (by omega)] at hq1
       subst hq1
       refine den_draw1 [0, 1, 2, 3, 4, 5, 6, 7, 8, 9, 10, 11, 12, 13, 14] (by kernel_rfl) (by (try simp (disch := omega) only [go_sem, List.length_set, Nat.reduceEqDiff, Nat.reduceAdd, Nat.reduceSub, Int.reduceAdd, Int.reduceSub, Int.reduceToNat]) <;> omega) (by kernel_rfl) (runD_den 400 ?_)
       simp (disch := omega) only [go_sem, Nat.reduceEqDiff, Nat.reduceAdd, Nat.reduceSub, Int.reduceAdd, Int.reduceSub, Int.reduceToNat]
       refine ⟨by (try simp (disch := omega) only [go_sem, List.length_set, Nat.reduceEqDiff, Nat.reduceAdd, Nat.reduceSub, Int.reduceAdd, Int.reduceSub, Int.reduceToNat]) <;> omega, run_den 400 ?_⟩
       try simp (disch := omega) only [go_sem, Nat.reduceEqDiff, Nat.reduceAdd, Nat.reduceSub, Int.reduceAdd, Int.reduceSub, Int.reduceToNat]
       refine ⟨by (try simp (disch := omega) only [go_sem, List.length_set, Nat.reduceEqDiff, Nat.reduceAdd, Nat.reduceSub, Int.reduceAdd, Int.reduceSub, Int.reduceToNat]) <;> omega, hN _ [some (0, none), some (1, none), some (2, none), some (3, none), some (4, none), some (5, none), some (6, none), some (7, none), some (8, none), some (9, none), some (10, none), some (11, none), some (12, none), some (13, none), some (14, none), some (15, none), some (16, none), some (17, none), some (18, none), some (19, none), some (20, none), some (21, none), some (22, none), some (23, none), some (24, none), some (25, none), some (26, none), some (27, none), some (32, none), some (29, none), some (30, none)] (weak_mkO (by rfl) (by rfl) ?_)⟩
       simp (disch := omega) only [go_sem, Nat.reduceEqDiff, Nat.reduceAdd, Nat.reduceSub, Int.reduceAdd, Int.reduceSub, Int.reduceToNat]
       try simp [intC]
      ·rw [ansP_f (by omega)] at hq1
       subst hq1
       try simp (disch := omega) only [go_sem, Nat.reduceEqDiff, Nat.reduceAdd, Nat.reduceSub, Int.reduceAdd, Int.reduceSub, Int.reduceToNat]
       refine ⟨by (try simp (disch := omega) only [go_sem, List.length_set, Nat.reduceEqDiff, Nat.reduceAdd, Nat.reduceSub, Int.reduceAdd, Int.reduceSub, Int.reduceToNat]) <;> omega, hN _ [some (0, none), some (1, none), some (2, none), some (3, none), some (4, none), some (5, none), some (6, none), some (7, none), some (8, none), some (9, none), some (10, none), some (11, none), some (12, none), some (13, none), some (14, none), some (15, none), some (16, none), some (17, none), some (18, none), some (19, none), some (20, none), some (21, none), some (22, none), some (23, none), some (24, none), some (25, none), some (26, none), some (27, none), some (28, none), some (29, none), some (30, none)] (weak_mkO (by rfl) (by rfl) ?_)⟩
       simp (disch := omega) only [go_sem, Nat.reduceEqDiff, Nat.reduceAdd, Nat.reduceSub, Int.reduceAdd, Int.reduceSub, Int.reduceToNat]
     ·rw [isJB_f b2, ansP_f1] at hq1
      subst hq1
      try simp (disch := omega) only [go_sem, Nat.reduceEqDiff, Nat.reduceAdd, Nat.reduceSub, Int.reduceAdd, Int.reduceSub, Int.reduceToNat]
      refine ⟨by (try simp (disch := omega) only [go_sem, List.length_set, Nat.reduceEqDiff, Nat.reduceAdd, Nat.reduceSub, Int.reduceAdd, Int.reduceSub, Int.reduceToNat]) <;> omega, hN _ [some (0, none), some (1, none), some (2, none), some (3, none), some (4, none), some (5, none), some (6, none), some (7, none), some (8, none), some (9, none), some (10, none), some (11, none), some (12, none), some (13, none), some (14, none), some (15, none), some (16, none), some (17, none), some (18, none), some (19, none), some (20, none), some (21, none), some (22, none), some (23, none), some (24, none), some (25, none), some (26, none), some (27, none), some (28, none), some (29, none), some (30, none)] (weak_mkO (by rfl) (by rfl) ?_)⟩
      simp (disch := omega) only [go_sem, Nat.reduceEqDiff, Nat.reduceAdd, Nat.reduceSub, Int.reduceAdd, Int.reduceSub, Int.reduceToNat]
    ·try simp (disch := omega) only [go_sem, Nat.reduceEqDiff, Nat.reduceAdd, Nat.reduceSub, Int.reduceAdd, Int.reduceSub, Int.reduceToNat]
     refine den_call (by (try simp (disch := omega) only [go_sem, List.length_set, Nat.reduceEqDiff, Nat.reduceAdd, Nat.reduceSub, Int.reduceAdd, Int.reduceSub, Int.reduceToNat]) <;> omega) (impl_SideAt x.to) [] (by simp only [go_sem]; repeat' first | rfl | constructor | (rw [List.map_set]; rfl) | (simp [List.map_take, List.map_drop] <;> omega)) (by rfl) (run_den 400 ?_)
     simp (disch := omega) only [go_sem, Nat.reduceEqDiff, Nat.reduceAdd, Nat.reduceSub, Int.reduceAdd, Int.reduceSub, Int.reduceToNat]
     have hoth : ansP nsB (isJB 1 2 x) w.b.now = nsB := by rw [isJB_n (by decide), ansP_f1]
     split <;> rename_i b4 <;> (try simp only [beq_true, beq_false, Bool.not_eq_true', Bool.not_eq_false'] at b4) <;> simp (disch := omega) only [go_sem, Nat.reduceEqDiff, Nat.reduceAdd, Nat.reduceSub, Int.reduceAdd, Int.reduceSub, Int.reduceToNat, b4] <;> (try simp only [decide_eq_true_eq, decide_eq_false_iff_not, beq_iff_eq, beq_eq_false_iff_ne, bne_iff_ne, bne_eq_false_iff_eq, ne_eq, Decidable.not_not, Bool.and_eq_true, Bool.and_eq_false_iff, Bool.or_eq_true, Bool.or_eq_false_iff, Int.ofNat_lt, Int.ofNat_le, Bool.not_eq_eq_eq_not, Bool.not_true, Bool.not_false] at b4) <;> try simp (disch := omega) only [go_sem, Nat.reduceEqDiff, Nat.reduceAdd, Nat.reduceSub, Int.reduceAdd, Int.reduceSub, Int.reduceToNat]
     ·have hK := impl_Learn ⟨keys, tags⟩ x.tag (by dsimp only; omega) (by dsimp only; omega)
      have hky : (learn ⟨keys, tags⟩ x.tag).keys.length ≤ 1048576 := by rw [learn_keys]; exact s3
      have hkt : (learn ⟨keys, tags⟩ x.tag).tags.length ≤ 1048576 := learn_le s4
      obtain ⟨kk, hkk⟩ : ∃ k, k = learn ⟨keys, tags⟩ x.tag := ⟨_, rfl⟩
      rw [← hkk] at hK hky hkt
      obtain ⟨k1, t1⟩ := kk
      dsimp only at hky hkt
      refine den_draw1 [0, 1, 2, 3, 4, 5, 6, 7, 8, 9, 10] (by kernel_rfl) (by (try simp (disch := omega) only [go_sem, List.length_set, Nat.reduceEqDiff, Nat.reduceAdd, Nat.reduceSub, Int.reduceAdd, Int.reduceSub, Int.reduceToNat]) <;> omega) (by kernel_rfl) (runD_den 400 ?_)
      simp (disch := omega) only [go_sem, Nat.reduceEqDiff, Nat.reduceAdd, Nat.reduceSub, Int.reduceAdd, Int.reduceSub, Int.reduceToNat]
      refine den_callD (by (try simp (disch := omega) only [go_sem, List.length_set, Nat.reduceEqDiff, Nat.reduceAdd, Nat.reduceSub, Int.reduceAdd, Int.reduceSub, Int.reduceToNat]) <;> omega) (hK) [some (25, none), some (26, none)] (by simp only [go_sem]; repeat' first | rfl | constructor | (rw [List.map_set]; rfl) | (simp [List.map_take, List.map_drop] <;> omega)) (by rfl) (by rfl) (runD_den 400 ?_)
      simp (disch := omega) only [go_sem, Nat.reduceEqDiff, Nat.reduceAdd, Nat.reduceSub, Int.reduceAdd, Int.reduceSub, Int.reduceToNat]
      refine ⟨by (try simp (disch := omega) only [go_sem, List.length_set, Nat.reduceEqDiff, Nat.reduceAdd, Nat.reduceSub, Int.reduceAdd, Int.reduceSub, Int.reduceToNat]) <;> omega, run_den 400 ?_⟩
      try simp (disch := omega) only [go_sem, Nat.reduceEqDiff, Nat.reduceAdd, Nat.reduceSub, Int.reduceAdd, Int.reduceSub, Int.reduceToNat]
      obtain ⟨n1, hn1⟩ : ∃ n, n = (nums3 x).foldl numP nums := ⟨_, rfl⟩
      have hn1l : n1.length ≤ 1048576 := by rw [hn1]; exact numP_le (numP_le (numP_le s5))
      refine den_lpO 23 hE (fun s (z : Nat × List Int) => s.at [2, 9, 14, 15, 16, 17, 18, 19, 20, 22, 23, 24, 25, 26, 27, 28, 29, 30, 31, 32, 33, 35, 36, 37, 38, 39, 40, 41, 42, 43, 45, 46, 47, 48, 49, 50, 51, 52, 53, 54, 55, 56, 57, 58, 59, 60, 61, 62, 63, 64, 65, 66, 67, 69, 70, 71, 72, 73, 74, 75, 76, 77, 78, 79, 80, 81, 82, 84, 85, 86, 87, 88, 89, 90, 91, 92, 93, 94, 95, 96, 97, 98, 99, 100, 101, 102, 103, 107, 108, 109, 110, 111, 112, 113, 114, 115, 116, 117, 118, 119, 120, 121, 122, 123, 124, 125, 126, 127, 128, 129, 130, 131, 132, 133, 134, 135, 136, 137, 138, 139, 141, 142, 143, 144, 145, 146, 147, 148, 149, 150, 151, 152, 153, 154, 155, 156, 157] [(106, .sc (.int .i64 (z.1 : Nat))), (104, .sc (.sl 31 0 3))] (endsHp w false ++ ([none, none, none, none, none, none, none, some ⟨[(worldC (⟨w.a, w.b, bag, p1, wA, wB, rA, rB, ⟨k1, t1⟩, z.2, q1, nsB⟩ : WorldD) 0 1 2 3 4 5 6 7 8 9 10 11 12 13 23 24 25 26 27 28 29)], 61, 65, true, false⟩, some ⟨l.map LetterD.cs, 19, 70, false, true⟩] ++ (restHp (⟨w.a, w.b, bag, p1, wA, wB, rA, rB, ⟨k1, t1⟩, z.2, q1, nsB⟩ : WorldD) true ++ [some ⟨[x.cs], 19, 70, true, false⟩] ++ [some ⟨[[.int .i64 x.nonce], [.int .i64 x.give], [.int .i64 x.sgn]], 1, 3, true, true⟩])))) (fun (z : Nat × List Int) => z.1 ≤ 3 ∧ z.2.length ≤ 1048576 ∧ n1 = ((nums3 x).drop z.1).foldl numP z.2) (fun (z : Nat × List Int) => 3 - z.1) (0, nums) [some (0, none), some (1, none), some (2, none), some (3, none), some (4, none), some (5, none), some (6, none), some (7, none), some (8, none), some (9, none), some (10, none), some (11, none), some (12, none), some (13, none), some (14, none), some (15, none), some (16, none), some (17, none), some (18, none), some (19, none), some (20, none), some (21, none), some (22, none), some (23, none), some (24, none), some (31, none), some (32, none), some (27, none), some (28, none), some (29, none), some (30, none), some (33, none)] (by (try simp (disch := omega) only [go_sem, List.length_set, Nat.reduceEqDiff, Nat.reduceAdd, Nat.reduceSub, Int.reduceAdd, Int.reduceSub, Int.reduceToNat]) <;> omega) (⟨Nat.zero_le _, s5, hn1⟩) (weak_mkO (by rfl) (by rfl) ?_) fun z hz N2 hN2 => ?_
      ·try simp (disch := omega) only [go_sem, Nat.reduceEqDiff, Nat.reduceAdd, Nat.reduceSub, Int.reduceAdd, Int.reduceSub, Int.reduceToNat]
      ·obtain ⟨j, m⟩ := z
       obtain ⟨hj, hm, hn⟩ := hz
       dsimp only at hj hm hn
       refine run_den 400 ?_
       try simp (disch := omega) only [go_sem, Nat.reduceEqDiff, Nat.reduceAdd, Nat.reduceSub, Int.reduceAdd, Int.reduceSub, Int.reduceToNat]
       split <;> rename_i h5 <;> (try simp only [decide_eq_true_eq, decide_eq_false_iff_not, Int.ofNat_lt] at h5)
       rotate_left
       ·have e : j = 3 := by omega
        subst e
        rw [foldN_end (by simp [nums3])] at hn
        subst hn
        try simp (disch := omega) only [go_sem, Nat.reduceEqDiff, Nat.reduceAdd, Nat.reduceSub, Int.reduceAdd, Int.reduceSub, Int.reduceToNat]
        refine ⟨by (try simp (disch := omega) only [go_sem, List.length_set, Nat.reduceEqDiff, Nat.reduceAdd, Nat.reduceSub, Int.reduceAdd, Int.reduceSub, Int.reduceToNat]) <;> omega, hN _ (i + 1, (⟨w.a, w.b, bag, p1, wA, wB, rA, rB, ⟨k1, t1⟩, n1, q1, nsB⟩ : WorldD)) [some (0, none), some (1, none), some (2, none), some (3, none), some (4, none), some (5, none), some (6, none), some (7, none), some (8, none), some (9, none), some (10, none), some (11, none), some (12, none), some (13, none), some (14, none), some (15, none), some (16, none), some (17, none), some (18, none), some (19, none), some (20, none), some (21, none), some (22, none), some (23, none), some (24, none), some (25, none), some (26, none), some (27, none), some (28, none), some (29, none)] (⟨by omega, rfl, rfl, ?_, ?_⟩) (by (try dsimp only); omega) (weak_mkO (by rfl) (by rfl) ?_)⟩
        ·have e : post1 1 (⟨w.a, w.b, bag, past, wA, wB, rA, rB, ⟨keys, tags⟩, nums, nsA, nsB⟩ : WorldD) x = (⟨w.a, w.b, bag, p1, wA, wB, rA, rB, ⟨k1, t1⟩, n1, q1, nsB⟩ : WorldD) := by
          rw [post1, if_pos b4, heard, notes]
          dsimp only
          rw [← hkk, hoth, ← hp1, ← hq1, hn1]
          rfl
         rw [← e]
         exact post1_small hS
        ·have e : post1 1 (⟨w.a, w.b, bag, past, wA, wB, rA, rB, ⟨keys, tags⟩, nums, nsA, nsB⟩ : WorldD) x = (⟨w.a, w.b, bag, p1, wA, wB, rA, rB, ⟨k1, t1⟩, n1, q1, nsB⟩ : WorldD) := by
          rw [post1, if_pos b4, heard, notes]
          dsimp only
          rw [← hkk, hoth, ← hp1, ← hq1, hn1]
          rfl
         rw [← e]
         exact hu
        ·try simp (disch := omega) only [go_sem, Nat.reduceEqDiff, Nat.reduceAdd, Nat.reduceSub, Int.reduceAdd, Int.reduceSub, Int.reduceToNat]
       ·have h6 : j < (nums3 x).length := by simp only [nums3, List.length_cons, List.length_nil]; omega
        rw [foldN_step h6] at hn
        generalize hv : (nums3 x)[j] = v at hn
        have hg3 : ([[.int .i64 x.nonce], [.int .i64 x.give], [.int .i64 x.sgn]] : List (List Sc))[j]? = some (intC v) := by
         rw [← hv]
         rw [show ([[.int .i64 x.nonce], [.int .i64 x.give], [.int .i64 x.sgn]] : List (List Sc)) = (nums3 x).map intC from rfl]
         exact map_get h6
        simp only [intC] at hg3
        have hH := impl_hasInt m v hm
        have ht := numP_t (l := m) (n := v)
        have hf1 := numP_f1 (l := m) (n := v)
        have hf2 := numP_f2 (l := m) (n := v)
        have hf3 := numP_f3 (l := m) (n := v)
        have hvl : (numP m v).length ≤ 1048576 := numP_le hm
        generalize numP m v = m1 at *
        try simp (disch := omega) only [go_sem, Nat.reduceEqDiff, Nat.reduceAdd, Nat.reduceSub, Int.reduceAdd, Int.reduceSub, Int.reduceToNat, hg3]
        split <;> rename_i c1 <;> (try simp only [beq_true, beq_false, Bool.not_eq_true', Bool.not_eq_false'] at c1) <;> simp (disch := omega) only [go_sem, Nat.reduceEqDiff, Nat.reduceAdd, Nat.reduceSub, Int.reduceAdd, Int.reduceSub, Int.reduceToNat, c1] <;> (try simp only [decide_eq_true_eq, decide_eq_false_iff_not, beq_iff_eq, beq_eq_false_iff_ne, bne_iff_ne, bne_eq_false_iff_eq, ne_eq, Decidable.not_not, Bool.and_eq_true, Bool.and_eq_false_iff, Bool.or_eq_true, Bool.or_eq_false_iff, Int.ofNat_lt, Int.ofNat_le, Bool.not_eq_eq_eq_not, Bool.not_true, Bool.not_false] at c1) <;> try simp (disch := omega) only [go_sem, Nat.reduceEqDiff, Nat.reduceAdd, Nat.reduceSub, Int.reduceAdd, Int.reduceSub, Int.reduceToNat]
        ·refine den_call (by (try simp (disch := omega) only [go_sem, List.length_set, Nat.reduceEqDiff, Nat.reduceAdd, Nat.reduceSub, Int.reduceAdd, Int.reduceSub, Int.reduceToNat]) <;> omega) (hH) [some (27, none)] (by simp only [go_sem]; repeat' first | rfl | constructor | (rw [List.map_set]; rfl) | (simp [List.map_take, List.map_drop] <;> omega)) (by rfl) (run_den 400 ?_)
         simp (disch := omega) only [go_sem, Nat.reduceEqDiff, Nat.reduceAdd, Nat.reduceSub, Int.reduceAdd, Int.reduceSub, Int.reduceToNat]
         split <;> rename_i c2 <;> (try simp only [beq_true, beq_false, Bool.not_eq_true', Bool.not_eq_false'] at c2) <;> simp (disch := omega) only [go_sem, Nat.reduceEqDiff, Nat.reduceAdd, Nat.reduceSub, Int.reduceAdd, Int.reduceSub, Int.reduceToNat, c2] <;> (try simp only [decide_eq_true_eq, decide_eq_false_iff_not, beq_iff_eq, beq_eq_false_iff_ne, bne_iff_ne, bne_eq_false_iff_eq, ne_eq, Decidable.not_not, Bool.and_eq_true, Bool.and_eq_false_iff, Bool.or_eq_true, Bool.or_eq_false_iff, Int.ofNat_lt, Int.ofNat_le, Bool.not_eq_eq_eq_not, Bool.not_true, Bool.not_false] at c2) <;> try simp (disch := omega) only [go_sem, Nat.reduceEqDiff, Nat.reduceAdd, Nat.reduceSub, Int.reduceAdd, Int.reduceSub, Int.reduceToNat]
         ·split <;> rename_i c3 <;> (try simp only [beq_true, beq_false, Bool.not_eq_true', Bool.not_eq_false'] at c3) <;> simp (disch := omega) only [go_sem, Nat.reduceEqDiff, Nat.reduceAdd, Nat.reduceSub, Int.reduceAdd, Int.reduceSub, Int.reduceToNat, c3] <;> (try simp only [decide_eq_true_eq, decide_eq_false_iff_not, beq_iff_eq, beq_eq_false_iff_ne, bne_iff_ne, bne_eq_false_iff_eq, ne_eq, Decidable.not_not, Bool.and_eq_true, Bool.and_eq_false_iff, Bool.or_eq_true, Bool.or_eq_false_iff, Int.ofNat_lt, Int.ofNat_le, Bool.not_eq_eq_eq_not, Bool.not_true, Bool.not_false] at c3) <;> try simp (disch := omega) only [go_sem, Nat.reduceEqDiff, Nat.reduceAdd, Nat.reduceSub, Int.reduceAdd, Int.reduceSub, Int.reduceToNat]
          ·have e := ht c1 c2 (by omega)
           subst e
           try simp (disch := omega) only [go_sem, Nat.reduceEqDiff, Nat.reduceAdd, Nat.reduceSub, Int.reduceAdd, Int.reduceSub, Int.reduceToNat]
           refine ⟨by (try simp (disch := omega) only [go_sem, List.length_set, Nat.reduceEqDiff, Nat.reduceAdd, Nat.reduceSub, Int.reduceAdd, Int.reduceSub, Int.reduceToNat]) <;> omega, hN2 _ (j + 1, m ++ [v]) [some (0, none), some (1, none), some (2, none), some (3, none), some (4, none), some (5, none), some (6, none), some (7, none), some (8, none), some (9, none), some (10, none), some (11, none), some (12, none), some (13, none), some (14, none), some (15, none), some (16, none), some (17, none), some (18, none), some (19, none), some (20, none), some (21, none), some (22, none), some (23, none), some (24, none), some (25, none), some (26, none), some (33, none), some (28, none), some (29, none), some (30, none), some (31, none)] (by (try dsimp only); exact ⟨by omega, hvl, hn⟩) (by (try dsimp only); omega) (weak_mkO (by rfl) (by rfl) ?_)⟩
           try simp (disch := omega) only [go_sem, Nat.reduceEqDiff, Nat.reduceAdd, Nat.reduceSub, Int.reduceAdd, Int.reduceSub, Int.reduceToNat]
           try simp [intC]
          ·have e := hf3 (by omega)
           subst e
           try simp (disch := omega) only [go_sem, Nat.reduceEqDiff, Nat.reduceAdd, Nat.reduceSub, Int.reduceAdd, Int.reduceSub, Int.reduceToNat]
           refine ⟨by (try simp (disch := omega) only [go_sem, List.length_set, Nat.reduceEqDiff, Nat.reduceAdd, Nat.reduceSub, Int.reduceAdd, Int.reduceSub, Int.reduceToNat]) <;> omega, hN2 _ (j + 1, m1) [some (0, none), some (1, none), some (2, none), some (3, none), some (4, none), some (5, none), some (6, none), some (7, none), some (8, none), some (9, none), some (10, none), some (11, none), some (12, none), some (13, none), some (14, none), some (15, none), some (16, none), some (17, none), some (18, none), some (19, none), some (20, none), some (21, none), some (22, none), some (23, none), some (24, none), some (25, none), some (26, none), some (27, none), some (28, none), some (29, none), some (30, none), some (31, none)] (by (try dsimp only); exact ⟨by omega, hm, hn⟩) (by (try dsimp only); omega) (weak_mkO (by rfl) (by rfl) ?_)⟩
           try simp (disch := omega) only [go_sem, Nat.reduceEqDiff, Nat.reduceAdd, Nat.reduceSub, Int.reduceAdd, Int.reduceSub, Int.reduceToNat]
         ·have e := hf2 c2
          subst e
          try simp (disch := omega) only [go_sem, Nat.reduceEqDiff, Nat.reduceAdd, Nat.reduceSub, Int.reduceAdd, Int.reduceSub, Int.reduceToNat]
          refine ⟨by (try simp (disch := omega) only [go_sem, List.length_set, Nat.reduceEqDiff, Nat.reduceAdd, Nat.reduceSub, Int.reduceAdd, Int.reduceSub, Int.reduceToNat]) <;> omega, hN2 _ (j + 1, m1) [some (0, none), some (1, none), some (2, none), some (3, none), some (4, none), some (5, none), some (6, none), some (7, none), some (8, none), some (9, none), some (10, none), some (11, none), some (12, none), some (13, none), some (14, none), some (15, none), some (16, none), some (17, none), some (18, none), some (19, none), some (20, none), some (21, none), some (22, none), some (23, none), some (24, none), some (25, none), some (26, none), some (27, none), some (28, none), some (29, none), some (30, none), some (31, none)] (by (try dsimp only); exact ⟨by omega, hm, hn⟩) (by (try dsimp only); omega) (weak_mkO (by rfl) (by rfl) ?_)⟩
          try simp (disch := omega) only [go_sem, Nat.reduceEqDiff, Nat.reduceAdd, Nat.reduceSub, Int.reduceAdd, Int.reduceSub, Int.reduceToNat]
        ·have e := hf1 c1
         subst e
         try simp (disch := omega) only [go_sem, Nat.reduceEqDiff, Nat.reduceAdd, Nat.reduceSub, Int.reduceAdd, Int.reduceSub, Int.reduceToNat]
         refine ⟨by (try simp (disch := omega) only [go_sem, List.length_set, Nat.reduceEqDiff, Nat.reduceAdd, Nat.reduceSub, Int.reduceAdd, Int.reduceSub, Int.reduceToNat]) <;> omega, hN2 _ (j + 1, m1) [some (0, none), some (1, none), some (2, none), some (3, none), some (4, none), some (5, none), some (6, none), some (7, none), some (8, none), some (9, none), some (10, none), some (11, none), some (12, none), some (13, none), some (14, none), some (15, none), some (16, none), some (17, none), some (18, none), some (19, none), some (20, none), some (21, none), some (22, none), some (23, none), some (24, none), some (25, none), some (26, none), some (27, none), some (28, none), some (29, none), some (30, none), some (31, none)] (by (try dsimp only); exact ⟨by omega, hm, hn⟩) (by (try dsimp only); omega) (weak_mkO (by rfl) (by rfl) ?_)⟩
         try simp (disch := omega) only [go_sem, Nat.reduceEqDiff, Nat.reduceAdd, Nat.reduceSub, Int.reduceAdd, Int.reduceSub, Int.reduceToNat]
     ·obtain ⟨g1, hg1⟩ : ∃ g, g = bagP bag x := ⟨_, rfl⟩
      have e : post1 1 (⟨w.a, w.b, bag, past, wA, wB, rA, rB, ⟨keys, tags⟩, nums, nsA, nsB⟩ : WorldD) x = (⟨w.a, w.b, g1, p1, wA, wB, rA, rB, ⟨keys, tags⟩, nums, q1, nsB⟩ : WorldD) := by
       rw [post1, if_neg b4, notes]
       dsimp only
       rw [hoth, ← hp1, ← hq1, ← hg1]
      rw [e] at hu
      have hS1 := post1_small (side := 1) (x := x) hS
      rw [e] at hS1
      split <;> rename_i b5 <;> (try simp only [beq_true, beq_false, Bool.not_eq_true', Bool.not_eq_false'] at b5) <;> simp (disch := omega) only [go_sem, Nat.reduceEqDiff, Nat.reduceAdd, Nat.reduceSub, Int.reduceAdd, Int.reduceSub, Int.reduceToNat, b5] <;> (try simp only [decide_eq_true_eq, decide_eq_false_iff_not, beq_iff_eq, beq_eq_false_iff_ne, bne_iff_ne, bne_eq_false_iff_eq, ne_eq, Decidable.not_not, Bool.and_eq_true, Bool.and_eq_false_iff, Bool.or_eq_true, Bool.or_eq_false_iff, Int.ofNat_lt, Int.ofNat_le, Bool.not_eq_eq_eq_not, Bool.not_true, Bool.not_false] at b5) <;> try simp (disch := omega) only [go_sem, Nat.reduceEqDiff, Nat.reduceAdd, Nat.reduceSub, Int.reduceAdd, Int.reduceSub, Int.reduceToNat]
      ·rw [bagP_t (by omega)] at hg1
       subst hg1
       refine den_draw1 [0, 1, 2, 3, 4, 5, 6, 7, 8, 9, 10] (by kernel_rfl) (by (try simp (disch := omega) only [go_sem, List.length_set, Nat.reduceEqDiff, Nat.reduceAdd, Nat.reduceSub, Int.reduceAdd, Int.reduceSub, Int.reduceToNat]) <;> omega) (by kernel_rfl) (runD_den 400 ?_)
       simp (disch := omega) only [go_sem, Nat.reduceEqDiff, Nat.reduceAdd, Nat.reduceSub, Int.reduceAdd, Int.reduceSub, Int.reduceToNat]
       refine ⟨by (try simp (disch := omega) only [go_sem, List.length_set, Nat.reduceEqDiff, Nat.reduceAdd, Nat.reduceSub, Int.reduceAdd, Int.reduceSub, Int.reduceToNat]) <;> omega, run_den 400 ?_⟩
       try simp (disch := omega) only [go_sem, Nat.reduceEqDiff, Nat.reduceAdd, Nat.reduceSub, Int.reduceAdd, Int.reduceSub, Int.reduceToNat]
       refine ⟨by (try simp (disch := omega) only [go_sem, List.length_set, Nat.reduceEqDiff, Nat.reduceAdd, Nat.reduceSub, Int.reduceAdd, Int.reduceSub, Int.reduceToNat]) <;> omega, hN _ (i + 1, (⟨w.a, w.b, (bag ++ [x]), p1, wA, wB, rA, rB, ⟨keys, tags⟩, nums, q1, nsB⟩ : WorldD)) [some (0, none), some (1, none), some (2, none), some (3, none), some (4, none), some (5, none), some (6, none), some (7, none), some (8, none), some (9, none), some (10, none), some (11, none), some (12, none), some (13, none), some (14, none), some (15, none), some (16, none), some (17, none), some (18, none), some (19, none), some (20, none), some (21, none), some (22, none), some (32, none), some (24, none), some (25, none), some (26, none), some (27, none), some (28, none), some (29, none)] (by (try dsimp only); exact ⟨by omega, rfl, rfl, hS1, hu⟩) (by (try dsimp only); omega) (weak_mkO (by rfl) (by rfl) ?_)⟩
       try simp (disch := omega) only [go_sem, Nat.reduceEqDiff, Nat.reduceAdd, Nat.reduceSub, Int.reduceAdd, Int.reduceSub, Int.reduceToNat]
       try simp [LetterD.cs]
      ·rw [bagP_f (by omega)] at hg1
       subst hg1
       try simp (disch := omega) only [go_sem, Nat.reduceEqDiff, Nat.reduceAdd, Nat.reduceSub, Int.reduceAdd, Int.reduceSub, Int.reduceToNat]
       refine ⟨by (try simp (disch := omega) only [go_sem, List.length_set, Nat.reduceEqDiff, Nat.reduceAdd, Nat.reduceSub, Int.reduceAdd, Int.reduceSub, Int.reduceToNat]) <;> omega, hN _ (i + 1, (⟨w.a, w.b, g1, p1, wA, wB, rA, rB, ⟨keys, tags⟩, nums, q1, nsB⟩ : WorldD)) [some (0, none), some (1, none), some (2, none), some (3, none), some (4, none), some (5, none), some (6, none), some (7, none), some (8, none), some (9, none), some (10, none), some (11, none), some (12, none), some (13, none), some (14, none), some (15, none), some (16, none), some (17, none), some (18, none), some (19, none), some (20, none), some (21, none), some (22, none), some (23, none), some (24, none), some (25, none), some (26, none), some (27, none), some (28, none), some (29, none)] (by (try dsimp only); exact ⟨by omega, rfl, rfl, hS1, hu⟩) (by (try dsimp only); omega) (weak_mkO (by rfl) (by rfl) ?_)⟩
       try simp (disch := omega) only [go_sem, Nat.reduceEqDiff, Nat.reduceAdd, Nat.reduceSub, Int.reduceAdd, Int.reduceSub, Int.reduceToNat]
theorem impl_post2 (w : WorldD) (l : List LetterD) (hw : SmallP2 w) (hl : l.length ≤ 1048576) : CallA Tryz.prog 58 [.sc (.pt 21 0 0), .sc (.int .i64 2), .sc (.sl 22 0 l.length)]
  (endsHp w false ++ (restHp w true ++ [some ⟨[w.cs 0], 61, 65, true, false⟩, some ⟨l.map LetterD.cs, 19, 70, false, true⟩])) (.tu [])
  (endsHp w false ++ ([none, none, none, none, none, none, none, some ⟨[(worldC (postL 2 w l) 0 1 2 3 4 5 6 7 8 9 10 11 12 13 23 24 25 26 27 28 29)], 61, 65, true, false⟩, some ⟨l.map LetterD.cs, 19, 70, false, true⟩] ++ restHp (postL 2 w l) true)) := by
 obtain ⟨R, hR⟩ : ∃ R, R = postL 2 w l := ⟨_, rfl⟩
 rw [← hR]
 have hl2 : l.length ≤ 9223372036854775807 := by omega
 refine callA_ofO Tryz.func58 (by kernel_rfl) rfl fun E hE => run_den 400 ?_
 simp (disch := omega) only [Tryz.ntmps58, Tryz.results58, go_sem, Nat.reduceEqDiff, Nat.reduceAdd, Nat.reduceSub, Int.reduceAdd, Int.reduceSub, Int.reduceToNat]
 refine den_lpO 23 hE (fun s (y : Nat × WorldD) => s.at [2, 7, 9, 13, 14, 15, 16, 17, 18, 19, 20, 21, 22, 23, 24, 25, 26, 27, 28, 29, 30, 31, 32, 33, 34, 35, 36, 37, 38, 39, 40, 41, 42, 43, 44, 45, 46, 47, 48, 49, 50, 51, 52, 53, 54, 55, 56, 57, 58, 59, 60, 61, 62, 63, 64, 65, 66, 67, 68, 69, 70, 71, 72, 73, 74, 75, 76, 77, 78, 79, 80, 81, 82, 83, 84, 85, 86, 87, 88, 89, 90, 91, 92, 93, 94, 95, 96, 97, 98, 99, 100, 101, 102, 103, 104, 105, 106, 107, 108, 109, 110, 111, 112, 113, 114, 115, 116, 117, 118, 119, 120, 121, 122, 123, 124, 125, 126, 127, 128, 129, 130, 131, 132, 133, 134, 135, 136, 137, 138, 139, 140, 141, 142, 143, 144, 145, 146, 147, 148, 149, 150, 151, 152, 153, 154, 155, 156, 157] [(12, .sc (.int .i64 (y.1 : Nat)))] (endsHp w false ++ ([none, none, none, none, none, none, none, some ⟨[(worldC y.2 0 1 2 3 4 5 6 7 8 9 10 11 12 13 23 24 25 26 27 28 29)], 61, 65, true, false⟩, some ⟨l.map LetterD.cs, 19, 70, false, true⟩] ++ (restHp y.2 true)))) (fun (y : Nat × WorldD) => y.1 ≤ l.length ∧ y.2.a = w.a ∧ y.2.b = w.b ∧ SmallP2 y.2 ∧ R = postL 2 y.2 (l.drop y.1)) (fun (y : Nat × WorldD) => l.length - y.1) (0, w) [some (0, none), some (1, none), some (2, none), some (3, none), some (4, none), some (5, none), some (6, none), some (7, none), some (8, none), some (9, none), some (10, none), some (11, none), some (12, none), some (13, none), some (14, none), some (15, none), some (16, none), some (17, none), some (18, none), some (19, none), some (20, none), some (21, none), some (22, none), some (14, none), some (15, none), some (16, none), some (17, none), some (18, none), some (19, none), some (20, none)] (by (try simp (disch := omega) only [go_sem, List.length_set, Nat.reduceEqDiff, Nat.reduceAdd, Nat.reduceSub, Int.reduceAdd, Int.reduceSub, Int.reduceToNat]) <;> omega) (⟨Nat.zero_le _, rfl, rfl, hw, hR⟩) (weak_mkO (by rfl) (by rfl) ?_) fun y hy N hN => ?_
 ·try simp (disch := omega) only [go_sem, Nat.reduceEqDiff, Nat.reduceAdd, Nat.reduceSub, Int.reduceAdd, Int.reduceSub, Int.reduceToNat]
 ·obtain ⟨i, u⟩ := y
  obtain ⟨hi, ha, hb, hS, hu⟩ := hy
  obtain ⟨ua, ub, bag, past, wA, wB, rA, rB, known, nums, nsA, nsB⟩ := u
  obtain ⟨keys, tags⟩ := known
  dsimp only at hi ha hb hu
  subst ha hb
  have s1 := hS.bag
  have s2 := hS.past
  have s3 := hS.keys
  have s4 := hS.tags
  have s5 := hS.nums
  have s6 := hS.ansA
  have s7 := hS.ansB
  dsimp only at s1 s2 s3 s4 s5 s6 s7
  refine runS_den 21 400 ?_
  try simp (disch := omega) only [go_sem, Nat.reduceEqDiff, Nat.reduceAdd, Nat.reduceSub, Int.reduceAdd, Int.reduceSub, Int.reduceToNat, Nat.reduceBEq]
  split <;> rename_i h <;> (try simp only [decide_eq_true_eq, decide_eq_false_iff_not, Int.ofNat_lt] at h)
  rotate_left
  ·have e : i = l.length := by omega
   subst e
   rw [postL_end (Nat.le_refl _)] at hu
   subst hu
   try simp (disch := omega) only [go_sem, Nat.reduceEqDiff, Nat.reduceAdd, Nat.reduceSub, Int.reduceAdd, Int.reduceSub, Int.reduceToNat, Nat.reduceBEq]
   refine den_finO [some (0, none), some (1, none), some (2, none), some (3, none), some (4, none), some (5, none), some (6, none), some (7, none), some (8, none), some (9, none), some (10, none), some (11, none), some (12, none), some (13, none), some (14, none), some (15, none), some (16, none), some (17, none), some (18, none), some (19, none), some (20, none), some (21, none), some (22, none), some (23, none), some (24, none), some (25, none), some (26, none), some (27, none), some (28, none), some (29, none)] (by (try simp (disch := omega) only [go_sem, List.length_set, Nat.reduceEqDiff, Nat.reduceAdd, Nat.reduceSub, Int.reduceAdd, Int.reduceSub, Int.reduceToNat, Nat.reduceBEq]) <;> omega) _ (by simp only [go_sem]; rfl) (by rfl) (by rfl) ?_
   simp (disch := omega) only [go_sem, Nat.reduceEqDiff, Nat.reduceAdd, Nat.reduceSub, Int.reduceAdd, Int.reduceSub, Int.reduceToNat, Nat.reduceBEq]
  ·rw [postL_step h] at hu
   generalize hx : l[i] = x at hu
   have hget := map_get (enc := LetterD.cs) h
   rw [hx] at hget
   try simp (disch := omega) only [go_sem, Nat.reduceEqDiff, Nat.reduceAdd, Nat.reduceSub, Int.reduceAdd, Int.reduceSub, Int.reduceToNat, Nat.reduceBEq, hget]
   obtain ⟨p1, hp1⟩ : ∃ p, p = pastP past x := ⟨_, rfl⟩
   refine den_joinO 23 hE (fun s => s.at [13, 14, 15, 16, 17, 18, 19, 20, 21, 22, 23, 24, 25, 26, 27, 28, 29, 30, 31] [] (endsHp w false ++ ([none, none, none, none, none, none, none, some ⟨[(worldC (⟨w.a, w.b, bag, p1, wA, wB, rA, rB, ⟨keys, tags⟩, nums, nsA, nsB⟩ : WorldD) 0 1 2 3 4 5 6 7 8 9 10 11 12 13 23 24 25 26 27 28 29)], 61, 65, true, false⟩, some ⟨l.map LetterD.cs, 19, 70, false, true⟩] ++ (restHp (⟨w.a, w.b, bag, p1, wA, wB, rA, rB, ⟨keys, tags⟩, nums, nsA, nsB⟩ : WorldD) true ++ [some ⟨[x.cs], 19, 70, true, false⟩])))) (by (try simp (disch := omega) only [go_sem, List.length_set, Nat.reduceEqDiff, Nat.reduceAdd, Nat.reduceSub, Int.reduceAdd, Int.reduceSub, Int.reduceToNat, Nat.reduceBEq]) <;> omega) (by rfl) (fun N hN => run_den 401 ?_) (runS_den 34 400 ?_)
   ·try simp (disch := omega) only [go_sem, Nat.reduceEqDiff, Nat.reduceAdd, Nat.reduceSub, Int.reduceAdd, Int.reduceSub, Int.reduceToNat, Nat.reduceBEq]
    split <;> rename_i b1 <;> (try simp only [beq_true, beq_false, Bool.not_eq_true', Bool.not_eq_false'] at b1) <;> simp (disch := omega) only [go_sem, Nat.reduceEqDiff, Nat.reduceAdd, Nat.reduceSub, Int.reduceAdd, Int.reduceSub, Int.reduceToNat, Nat.reduceBEq, b1] <;> (try simp only [decide_eq_true_eq, decide_eq_false_iff_not, beq_iff_eq, beq_eq_false_iff_ne, bne_iff_ne, bne_eq_false_iff_eq, ne_eq, Decidable.not_not, Bool.and_eq_true, Bool.and_eq_false_iff, Bool.or_eq_true, Bool.or_eq_false_iff, Int.ofNat_lt, Int.ofNat_le, Bool.not_eq_eq_eq_not, Bool.not_true, Bool.not_false] at b1) <;> try simp (disch := omega) only [go_sem, Nat.reduceEqDiff, Nat.reduceAdd, Nat.reduceSub, Int.reduceAdd, Int.reduceSub, Int.reduceToNat, Nat.reduceBEq]
    ·rw [pastP_t (by omega)] at hp1
     subst hp1
     refine den_draw1 [0, 1, 2, 3, 4, 5, 6, 7, 8, 9, 10] (by kernel_rfl) (by (try simp (disch := omega) only [go_sem, List.length_set, Nat.reduceEqDiff, Nat.reduceAdd, Nat.reduceSub, Int.reduceAdd, Int.reduceSub, Int.reduceToNat, Nat.reduceBEq]) <;> omega) (by kernel_rfl) (runD_den 400 ?_)
     simp (disch := omega) only [go_sem, Nat.reduceEqDiff, Nat.reduceAdd, Nat.reduceSub, Int.reduceAdd, Int.reduceSub, Int.reduceToNat, Nat.reduceBEq]
     refine ⟨by (try simp (disch := omega) only [go_sem, List.length_set, Nat.reduceEqDiff, Nat.reduceAdd, Nat.reduceSub, Int.reduceAdd, Int.reduceSub, Int.reduceToNat, Nat.reduceBEq]) <;> omega, runS_den 34 400 ?_⟩
     try simp (disch := omega) only [go_sem, Nat.reduceEqDiff, Nat.reduceAdd, Nat.reduceSub, Int.reduceAdd, Int.reduceSub, Int.reduceToNat, Nat.reduceBEq]
     refine ⟨by (try simp (disch := omega) only [go_sem, List.length_set, Nat.reduceEqDiff, Nat.reduceAdd, Nat.reduceSub, Int.reduceAdd, Int.reduceSub, Int.reduceToNat, Nat.reduceBEq]) <;> omega, hN _ [some (0, none), some (1, none), some (2, none), some (3, none), some (4, none), some (5, none), some (6, none), some (7, none), some (8, none), some (9, none), some (10, none), some (11, none), some (12, none), some (13, none), some (14, none), some (15, none), some (16, none), some (17, none), some (18, none), some (19, none), some (20, none), some (21, none), some (22, none), some (23, none), some (32, none), some (25, none), some (26, none), some (27, none), some (28, none), some (29, none), some (30, none)] (weak_mkO (by rfl) (by rfl) ?_)⟩
     simp (disch := omega) only [go_sem, Nat.reduceEqDiff, Nat.reduceAdd, Nat.reduceSub, Int.reduceAdd, Int.reduceSub, Int.reduceToNat, Nat.reduceBEq]
     try simp [LetterD.cs]
    ·rw [pastP_f (by omega)] at hp1
     subst hp1
     try simp (disch := omega) only [go_sem, Nat.reduceEqDiff, Nat.reduceAdd, Nat.reduceSub, Int.reduceAdd, Int.reduceSub, Int.reduceToNat, Nat.reduceBEq]
     refine ⟨by (try simp (disch := omega) only [go_sem, List.length_set, Nat.reduceEqDiff, Nat.reduceAdd, Nat.reduceSub, Int.reduceAdd, Int.reduceSub, Int.reduceToNat, Nat.reduceBEq]) <;> omega, hN _ [some (0, none), some (1, none), some (2, none), some (3, none), some (4, none), some (5, none), some (6, none), some (7, none), some (8, none), some (9, none), some (10, none), some (11, none), some (12, none), some (13, none), some (14, none), some (15, none), some (16, none), some (17, none), some (18, none), some (19, none), some (20, none), some (21, none), some (22, none), some (23, none), some (24, none), some (25, none), some (26, none), some (27, none), some (28, none), some (29, none), some (30, none)] (weak_mkO (by rfl) (by rfl) ?_)⟩
     simp (disch := omega) only [go_sem, Nat.reduceEqDiff, Nat.reduceAdd, Nat.reduceSub, Int.reduceAdd, Int.reduceSub, Int.reduceToNat, Nat.reduceBEq]
   ·try simp (disch := omega) only [go_sem, Nat.reduceEqDiff, Nat.reduceAdd, Nat.reduceSub, Int.reduceAdd, Int.reduceSub, Int.reduceToNat, Nat.reduceBEq]
    obtain ⟨q1, hq1⟩ : ∃ q, q = ansP nsB (isJB 2 2 x) w.b.now := ⟨_, rfl⟩
    refine den_joinO 23 hE (fun s => s.at [13, 14, 15, 16, 17, 18, 19, 20, 21, 22, 23, 24, 25, 26, 27, 28, 29, 30, 31, 32, 33, 34, 35, 36, 37, 38, 39, 40, 41, 42, 43, 44, 45, 46, 47, 48, 49, 50, 51, 52, 53, 54, 55, 56, 57, 58, 59, 60, 61, 62, 63, 64, 65, 66, 67, 68, 69, 70, 71, 72, 73, 74, 75, 76, 77, 78, 79, 80, 81, 82] [] (endsHp w false ++ ([none, none, none, none, none, none, none, some ⟨[(worldC (⟨w.a, w.b, bag, p1, wA, wB, rA, rB, ⟨keys, tags⟩, nums, nsA, q1⟩ : WorldD) 0 1 2 3 4 5 6 7 8 9 10 11 12 13 23 24 25 26 27 28 29)], 61, 65, true, false⟩, some ⟨l.map LetterD.cs, 19, 70, false, true⟩] ++ (restHp (⟨w.a, w.b, bag, p1, wA, wB, rA, rB, ⟨keys, tags⟩, nums, nsA, q1⟩ : WorldD) true ++ [some ⟨[x.cs], 19, 70, true, false⟩])))) (by (try simp (disch := omega) only [go_sem, List.length_set, Nat.reduceEqDiff, Nat.reduceAdd, Nat.reduceSub, Int.reduceAdd, Int.reduceSub, Int.reduceToNat]) <;> omega) (by rfl) (fun N hN => run_den 401 ?_) (run_den 400 ?_)
    ·try simp (disch := omega) only [go_sem, Nat.reduceEqDiff, Nat.reduceAdd, Nat.reduceSub, Int.reduceAdd, Int.reduceSub, Int.reduceToNat]
     split <;> rename_i b2 <;> (try simp only [beq_true, beq_false, Bool.not_eq_true', Bool.not_eq_false'] at b2) <;> simp (disch := omega) only [go_sem, Nat.reduceEqDiff, Nat.reduceAdd, Nat.reduceSub, Int.reduceAdd, Int.reduceSub, Int.reduceToNat, b2] <;> (try simp only [decide_eq_true_eq, decide_eq_false_iff_not, beq_iff_eq, beq_eq_false_iff_ne, bne_iff_ne, bne_eq_false_iff_eq, ne_eq, Decidable.not_not, Bool.and_eq_true, Bool.and_eq_false_iff, Bool.or_eq_true, Bool.or_eq_false_iff, Int.ofNat_lt, Int.ofNat_le, Bool.not_eq_eq_eq_not, Bool.not_true, Bool.not_false] at b2) <;> try simp (disch := omega) only [go_sem, Nat.reduceEqDiff, Nat.reduceAdd, Nat.reduceSub, Int.reduceAdd, Int.reduceSub, Int.reduceToNat]
     ·rw [isJB_t b2] at hq1
      split <;> rename_i b3 <;> (try simp only [beq_true, beq_false, Bool.not_eq_true', Bool.not_eq_false'] at b3) <;> simp (disch := omega) only [go_sem, Nat.reduceEqDiff, Nat.reduceAdd, Nat.reduceSub, Int.reduceAdd, Int.reduceSub, Int.reduceToNat, b3] <;> (try simp only [decide_eq_true_eq, decide_eq_false_iff_not, beq_iff_eq, beq_eq_false_iff_ne, bne_iff_ne, bne_eq_false_iff_eq, ne_eq, Decidable.not_not, Bool.and_eq_true, Bool.and_eq_false_iff, Bool.or_eq_true, Bool.or_eq_false_iff, Int.ofNat_lt, Int.ofNat_le, Bool.not_eq_eq_eq_not, Bool.not_true, Bool.not_false] at b3) <;> try simp (disch := omega) only [go_sem, Nat.reduceEqDiff, Nat.reduceAdd, Nat.reduceSub, Int.reduceAdd, Int.reduceSub, Int.reduceToNat]
      ·rw [ansP_t (by omega)] at hq1
       subst hq1
       refine den_draw1 [0, 1, 2, 3, 4, 5, 6, 7, 8, 9, 10, 11, 12, 13, 14] (by kernel_rfl) (by (try simp (disch := omega) only [go_sem, List.length_set, Nat.reduceEqDiff, Nat.reduceAdd, Nat.reduceSub, Int.reduceAdd, Int.reduceSub, Int.reduceToNat]) <;> omega) (by kernel_rfl) (runD_den 400 ?_)
       simp (disch := omega) only [go_sem, Nat.reduceEqDiff, Nat.reduceAdd, Nat.reduceSub, Int.reduceAdd, Int.reduceSub, Int.reduceToNat]
       refine ⟨by (try simp (disch := omega) only [go_sem, List.length_set, Nat.reduceEqDiff, Nat.reduceAdd, Nat.reduceSub, Int.reduceAdd, Int.reduceSub, Int.reduceToNat]) <;> omega, run_den 400 ?_⟩
       try simp (disch := omega) only [go_sem, Nat.reduceEqDiff, Nat.reduceAdd, Nat.reduceSub, Int.reduceAdd, Int.reduceSub, Int.reduceToNat]
       refine ⟨by (try simp (disch := omega) only [go_sem, List.length_set, Nat.reduceEqDiff, Nat.reduceAdd, Nat.reduceSub, Int.reduceAdd, Int.reduceSub, Int.reduceToNat]) <;> omega, hN _ [some (0, none), some (1, none), some (2, none), some (3, none), some (4, none), some (5, none), some (6, none), some (7, none), some (8, none), some (9, none), some (10, none), some (11, none), some (12, none), some (13, none), some (14, none), some (15, none), some (16, none), some (17, none), some (18, none), some (19, none), some (20, none), some (21, none), some (22, none), some (23, none), some (24, none), some (25, none), some (26, none), some (27, none), some (28, none), some (32, none), some (30, none)] (weak_mkO (by rfl) (by rfl) ?_)⟩
       simp (disch := omega) only [go_sem, Nat.reduceEqDiff, Nat.reduceAdd, Nat.reduceSub, Int.reduceAdd, Int.reduceSub, Int.reduceToNat]
       try simp [intC]
      ·rw [ansP_f (by omega)] at hq1
       subst hq1
       try simp (disch := omega) only [go_sem, Nat.reduceEqDiff, Nat.reduceAdd, Nat.reduceSub, Int.reduceAdd, Int.reduceSub, Int.reduceToNat]
       refine ⟨by (try simp (disch := omega) only [go_sem, List.length_set, Nat.reduceEqDiff, Nat.reduceAdd, Nat.reduceSub, Int.reduceAdd, Int.reduceSub, Int.reduceToNat]) <;> omega, hN _ [some (0, none), some (1, none), some (2, none), some (3, none), some (4, none), some (5, none), some (6, none), some (7, none), some (8, none), some (9, none), some (10, none), some (11, none), some (12, none), some (13, none), some (14, none), some (15, none), some (16, none), some (17, none), some (18, none), some (19, none), some (20, none), some (21, none), some (22, none), some (23, none), some (24, none), some (25, none), some (26, none), some (27, none), some (28, none), some (29, none), some (30, none)] (weak_mkO (by rfl) (by rfl) ?_)⟩
       simp (disch := omega) only [go_sem, Nat.reduceEqDiff, Nat.reduceAdd, Nat.reduceSub, Int.reduceAdd, Int.reduceSub, Int.reduceToNat]
     ·rw [isJB_f b2, ansP_f1] at hq1
      subst hq1
      try simp (disch := omega) only [go_sem, Nat.reduceEqDiff, Nat.reduceAdd, Nat.reduceSub, Int.reduceAdd, Int.reduceSub, Int.reduceToNat]
      refine ⟨by (try simp (disch := omega) only [go_sem, List.length_set, Nat.reduceEqDiff, Nat.reduceAdd, Nat.reduceSub, Int.reduceAdd, Int.reduceSub, Int.reduceToNat]) <;> omega, hN _ [some (0, none), some (1, none), some (2, none), some (3, none), some (4, none), some (5, none), some (6, none), some (7, none), some (8, none), some (9, none), some (10, none), some (11, none), some (12, none), some (13, none), some (14, none), some (15, none), some (16, none), some (17, none), some (18, none), some (19, none), some (20, none), some (21, none), some (22, none), some (23, none), some (24, none), some (25, none), some (26, none), some (27, none), some (28, none), some (29, none), some (30, none)] (weak_mkO (by rfl) (by rfl) ?_)⟩
      simp (disch := omega) only [go_sem, Nat.reduceEqDiff, Nat.reduceAdd, Nat.reduceSub, Int.reduceAdd, Int.reduceSub, Int.reduceToNat]
    ·try simp (disch := omega) only [go_sem, Nat.reduceEqDiff, Nat.reduceAdd, Nat.reduceSub, Int.reduceAdd, Int.reduceSub, Int.reduceToNat]
     refine den_call (by (try simp (disch := omega) only [go_sem, List.length_set, Nat.reduceEqDiff, Nat.reduceAdd, Nat.reduceSub, Int.reduceAdd, Int.reduceSub, Int.reduceToNat]) <;> omega) (impl_SideAt x.to) [] (by simp only [go_sem]; repeat' first | rfl | constructor | (rw [List.map_set]; rfl) | (simp [List.map_take, List.map_drop] <;> omega)) (by rfl) (run_den 400 ?_)
     simp (disch := omega) only [go_sem, Nat.reduceEqDiff, Nat.reduceAdd, Nat.reduceSub, Int.reduceAdd, Int.reduceSub, Int.reduceToNat]
     have hoth : ansP nsA (isJB 2 1 x) w.a.now = nsA := by rw [isJB_n (by decide), ansP_f1]
     split <;> rename_i b4 <;> (try simp only [beq_true, beq_false, Bool.not_eq_true', Bool.not_eq_false'] at b4) <;> simp (disch := omega) only [go_sem, Nat.reduceEqDiff, Nat.reduceAdd, Nat.reduceSub, Int.reduceAdd, Int.reduceSub, Int.reduceToNat, b4] <;> (try simp only [decide_eq_true_eq, decide_eq_false_iff_not, beq_iff_eq, beq_eq_false_iff_ne, bne_iff_ne, bne_eq_false_iff_eq, ne_eq, Decidable.not_not, Bool.and_eq_true, Bool.and_eq_false_iff, Bool.or_eq_true, Bool.or_eq_false_iff, Int.ofNat_lt, Int.ofNat_le, Bool.not_eq_eq_eq_not, Bool.not_true, Bool.not_false] at b4) <;> try simp (disch := omega) only [go_sem, Nat.reduceEqDiff, Nat.reduceAdd, Nat.reduceSub, Int.reduceAdd, Int.reduceSub, Int.reduceToNat]
     ·have hK := impl_Learn ⟨keys, tags⟩ x.tag (by dsimp only; omega) (by dsimp only; omega)
      have hky : (learn ⟨keys, tags⟩ x.tag).keys.length ≤ 1048576 := by rw [learn_keys]; exact s3
      have hkt : (learn ⟨keys, tags⟩ x.tag).tags.length ≤ 1048576 := learn_le s4
      obtain ⟨kk, hkk⟩ : ∃ k, k = learn ⟨keys, tags⟩ x.tag := ⟨_, rfl⟩
      rw [← hkk] at hK hky hkt
      obtain ⟨k1, t1⟩ := kk
      dsimp only at hky hkt
      refine den_draw1 [0, 1, 2, 3, 4, 5, 6, 7, 8, 9, 10] (by kernel_rfl) (by (try simp (disch := omega) only [go_sem, List.length_set, Nat.reduceEqDiff, Nat.reduceAdd, Nat.reduceSub, Int.reduceAdd, Int.reduceSub, Int.reduceToNat]) <;> omega) (by kernel_rfl) (runD_den 400 ?_)
      simp (disch := omega) only [go_sem, Nat.reduceEqDiff, Nat.reduceAdd, Nat.reduceSub, Int.reduceAdd, Int.reduceSub, Int.reduceToNat]
      refine den_callD (by (try simp (disch := omega) only [go_sem, List.length_set, Nat.reduceEqDiff, Nat.reduceAdd, Nat.reduceSub, Int.reduceAdd, Int.reduceSub, Int.reduceToNat]) <;> omega) (hK) [some (25, none), some (26, none)] (by simp only [go_sem]; repeat' first | rfl | constructor | (rw [List.map_set]; rfl) | (simp [List.map_take, List.map_drop] <;> omega)) (by rfl) (by rfl) (runD_den 400 ?_)
      simp (disch := omega) only [go_sem, Nat.reduceEqDiff, Nat.reduceAdd, Nat.reduceSub, Int.reduceAdd, Int.reduceSub, Int.reduceToNat]
      refine ⟨by (try simp (disch := omega) only [go_sem, List.length_set, Nat.reduceEqDiff, Nat.reduceAdd, Nat.reduceSub, Int.reduceAdd, Int.reduceSub, Int.reduceToNat]) <;> omega, run_den 400 ?_⟩
      try simp (disch := omega) only [go_sem, Nat.reduceEqDiff, Nat.reduceAdd, Nat.reduceSub, Int.reduceAdd, Int.reduceSub, Int.reduceToNat]
      obtain ⟨n1, hn1⟩ : ∃ n, n = (nums3 x).foldl numP nums := ⟨_, rfl⟩
      have hn1l : n1.length ≤ 1048576 := by rw [hn1]; exact numP_le (numP_le (numP_le s5))
      refine den_lpO 23 hE (fun s (z : Nat × List Int) => s.at [2, 9, 14, 15, 16, 17, 18, 19, 20, 22, 23, 24, 25, 26, 27, 28, 29, 30, 31, 32, 33, 35, 36, 37, 38, 39, 40, 41, 42, 43, 45, 46, 47, 48, 49, 50, 51, 52, 53, 54, 55, 56, 57, 58, 59, 60, 61, 62, 63, 64, 65, 66, 67, 69, 70, 71, 72, 73, 74, 75, 76, 77, 78, 79, 80, 81, 82, 84, 85, 86, 87, 88, 89, 90, 91, 92, 93, 94, 95, 96, 97, 98, 99, 100, 101, 102, 103, 107, 108, 109, 110, 111, 112, 113, 114, 115, 116, 117, 118, 119, 120, 121, 122, 123, 124, 125, 126, 127, 128, 129, 130, 131, 132, 133, 134, 135, 136, 137, 138, 139, 141, 142, 143, 144, 145, 146, 147, 148, 149, 150, 151, 152, 153, 154, 155, 156, 157] [(106, .sc (.int .i64 (z.1 : Nat))), (104, .sc (.sl 31 0 3))] (endsHp w false ++ ([none, none, none, none, none, none, none, some ⟨[(worldC (⟨w.a, w.b, bag, p1, wA, wB, rA, rB, ⟨k1, t1⟩, z.2, nsA, q1⟩ : WorldD) 0 1 2 3 4 5 6 7 8 9 10 11 12 13 23 24 25 26 27 28 29)], 61, 65, true, false⟩, some ⟨l.map LetterD.cs, 19, 70, false, true⟩] ++ (restHp (⟨w.a, w.b, bag, p1, wA, wB, rA, rB, ⟨k1, t1⟩, z.2, nsA, q1⟩ : WorldD) true ++ [some ⟨[x.cs], 19, 70, true, false⟩] ++ [some ⟨[[.int .i64 x.nonce], [.int .i64 x.give], [.int .i64 x.sgn]], 1, 3, true, true⟩])))) (fun (z : Nat × List Int) => z.1 ≤ 3 ∧ z.2.length ≤ 1048576 ∧ n1 = ((nums3 x).drop z.1).foldl numP z.2) (fun (z : Nat × List Int) => 3 - z.1) (0, nums) [some (0, none), some (1, none), some (2, none), some (3, none), some (4, none), some (5, none), some (6, none), some (7, none), some (8, none), some (9, none), some (10, none), some (11, none), some (12, none), some (13, none), some (14, none), some (15, none), some (16, none), some (17, none), some (18, none), some (19, none), some (20, none), some (21, none), some (22, none), some (23, none), some (24, none), some (31, none), some (32, none), some (27, none), some (28, none), some (29, none), some (30, none), some (33, none)] (by (try simp (disch := omega) only [go_sem, List.length_set, Nat.reduceEqDiff, Nat.reduceAdd, Nat.reduceSub, Int.reduceAdd, Int.reduceSub, Int.reduceToNat]) <;> omega) (⟨Nat.zero_le _, s5, hn1⟩) (weak_mkO (by rfl) (by rfl) ?_) fun z hz N2 hN2 => ?_
      ·try simp (disch := omega) only [go_sem, Nat.reduceEqDiff, Nat.reduceAdd, Nat.reduceSub, Int.reduceAdd, Int.reduceSub, Int.reduceToNat]
      ·obtain ⟨j, m⟩ := z
       obtain ⟨hj, hm, hn⟩ := hz
       dsimp only at hj hm hn
       refine run_den 400 ?_
       try simp (disch := omega) only [go_sem, Nat.reduceEqDiff, Nat.reduceAdd, Nat.reduceSub, Int.reduceAdd, Int.reduceSub, Int.reduceToNat]
       split <;> rename_i h5 <;> (try simp only [decide_eq_true_eq, decide_eq_false_iff_not, Int.ofNat_lt] at h5)
       rotate_left
       ·have e : j = 3 := by omega
        subst e
        rw [foldN_end (by simp [nums3])] at hn
        subst hn
        try simp (disch := omega) only [go_sem, Nat.reduceEqDiff, Nat.reduceAdd, Nat.reduceSub, Int.reduceAdd, Int.reduceSub, Int.reduceToNat]
        refine ⟨by (try simp (disch := omega) only [go_sem, List.length_set, Nat.reduceEqDiff, Nat.reduceAdd, Nat.reduceSub, Int.reduceAdd, Int.reduceSub, Int.reduceToNat]) <;> omega, hN _ (i + 1, (⟨w.a, w.b, bag, p1, wA, wB, rA, rB, ⟨k1, t1⟩, n1, nsA, q1⟩ : WorldD)) [some (0, none), some (1, none), some (2, none), some (3, none), some (4, none), some (5, none), some (6, none), some (7, none), some (8, none), some (9, none), some (10, none), some (11, none), some (12, none), some (13, none), some (14, none), some (15, none), some (16, none), some (17, none), some (18, none), some (19, none), some (20, none), some (21, none), some (22, none), some (23, none), some (24, none), some (25, none), some (26, none), some (27, none), some (28, none), some (29, none)] (⟨by omega, rfl, rfl, ?_, ?_⟩) (by (try dsimp only); omega) (weak_mkO (by rfl) (by rfl) ?_)⟩
        ·have e : post1 2 (⟨w.a, w.b, bag, past, wA, wB, rA, rB, ⟨keys, tags⟩, nums, nsA, nsB⟩ : WorldD) x = (⟨w.a, w.b, bag, p1, wA, wB, rA, rB, ⟨k1, t1⟩, n1, nsA, q1⟩ : WorldD) := by
          rw [post1, if_pos b4, heard, notes]
          dsimp only
          rw [← hkk, hoth, ← hp1, ← hq1, hn1]
          rfl
         rw [← e]
         exact post1_small hS
        ·have e : post1 2 (⟨w.a, w.b, bag, past, wA, wB, rA, rB, ⟨keys, tags⟩, nums, nsA, nsB⟩ : WorldD) x = (⟨w.a, w.b, bag, p1, wA, wB, rA, rB, ⟨k1, t1⟩, n1, nsA, q1⟩ : WorldD) := by
          rw [post1, if_pos b4, heard, notes]
          dsimp only
          rw [← hkk, hoth, ← hp1, ← hq1, hn1]
          rfl
         rw [← e]
         exact hu
        ·try simp (disch := omega) only [go_sem, Nat.reduceEqDiff, Nat.reduceAdd, Nat.reduceSub, Int.reduceAdd, Int.reduceSub, Int.reduceToNat]
       ·have h6 : j < (nums3 x).length := by simp only [nums3, List.length_cons, List.length_nil]; omega
        rw [foldN_step h6] at hn
        generalize hv : (nums3 x)[j] = v at hn
        have hg3 : ([[.int .i64 x.nonce], [.int .i64 x.give], [.int .i64 x.sgn]] : List (List Sc))[j]? = some (intC v) := by
         rw [← hv]
         rw [show ([[.int .i64 x.nonce], [.int .i64 x.give], [.int .i64 x.sgn]] : List (List Sc)) = (nums3 x).map intC from rfl]
         exact map_get h6
        simp only [intC] at hg3
        have hH := impl_hasInt m v hm
        have ht := numP_t (l := m) (n := v)
        have hf1 := numP_f1 (l := m) (n := v)
        have hf2 := numP_f2 (l := m) (n := v)
        have hf3 := numP_f3 (l := m) (n := v)
        have hvl : (numP m v).length ≤ 1048576 := numP_le hm
        generalize numP m v = m1 at *
        try simp (disch := omega) only [go_sem, Nat.reduceEqDiff, Nat.reduceAdd, Nat.reduceSub, Int.reduceAdd, Int.reduceSub, Int.reduceToNat, hg3]
        split <;> rename_i c1 <;> (try simp only [beq_true, beq_false, Bool.not_eq_true', Bool.not_eq_false'] at c1) <;> simp (disch := omega) only [go_sem, Nat.reduceEqDiff, Nat.reduceAdd, Nat.reduceSub, Int.reduceAdd, Int.reduceSub, Int.reduceToNat, c1] <;> (try simp only [decide_eq_true_eq, decide_eq_false_iff_not, beq_iff_eq, beq_eq_false_iff_ne, bne_iff_ne, bne_eq_false_iff_eq, ne_eq, Decidable.not_not, Bool.and_eq_true, Bool.and_eq_false_iff, Bool.or_eq_true, Bool.or_eq_false_iff, Int.ofNat_lt, Int.ofNat_le, Bool.not_eq_eq_eq_not, Bool.not_true, Bool.not_false] at c1) <;> try simp (disch := omega) only [go_sem, Nat.reduceEqDiff, Nat.reduceAdd, Nat.reduceSub, Int.reduceAdd, Int.reduceSub, Int.reduceToNat]
        ·refine den_call (by (try simp (disch := omega) only [go_sem, List.length_set, Nat.reduceEqDiff, Nat.reduceAdd, Nat.reduceSub, Int.reduceAdd, Int.reduceSub, Int.reduceToNat]) <;> omega) (hH) [some (27, none)] (by simp only [go_sem]; repeat' first | rfl | constructor | (rw [List.map_set]; rfl) | (simp [List.map_take, List.map_drop] <;> omega)) (by rfl) (run_den 400 ?_)
         simp (disch := omega) only [go_sem, Nat.reduceEqDiff, Nat.reduceAdd, Nat.reduceSub, Int.reduceAdd, Int.reduceSub, Int.reduceToNat]
         split <;> rename_i c2 <;> (try simp only [beq_true, beq_false, Bool.not_eq_true', Bool.not_eq_false'] at c2) <;> simp (disch := omega) only [go_sem, Nat.reduceEqDiff, Nat.reduceAdd, Nat.reduceSub, Int.reduceAdd, Int.reduceSub, Int.reduceToNat, c2] <;> (try simp only [decide_eq_true_eq, decide_eq_false_iff_not, beq_iff_eq, beq_eq_false_iff_ne, bne_iff_ne, bne_eq_false_iff_eq, ne_eq, Decidable.not_not, Bool.and_eq_true, Bool.and_eq_false_iff, Bool.or_eq_true, Bool.or_eq_false_iff, Int.ofNat_lt, Int.ofNat_le, Bool.not_eq_eq_eq_not, Bool.not_true, Bool.not_false] at c2) <;> try simp (disch := omega) only [go_sem, Nat.reduceEqDiff, Nat.reduceAdd, Nat.reduceSub, Int.reduceAdd, Int.reduceSub, Int.reduceToNat]
         ·split <;> rename_i c3 <;> (try simp only [beq_true, beq_false, Bool.not_eq_true', Bool.not_eq_false'] at c3) <;> simp (disch := omega) only [go_sem, Nat.reduceEqDiff, Nat.reduceAdd, Nat.reduceSub, Int.reduceAdd, Int.reduceSub, Int.reduceToNat, c3] <;> (try simp only [decide_eq_true_eq, decide_eq_false_iff_not, beq_iff_eq, beq_eq_false_iff_ne, bne_iff_ne, bne_eq_false_iff_eq, ne_eq, Decidable.not_not, Bool.and_eq_true, Bool.and_eq_false_iff, Bool.or_eq_true, Bool.or_eq_false_iff, Int.ofNat_lt, Int.ofNat_le, Bool.not_eq_eq_eq_not, Bool.not_true, Bool.not_false] at c3) <;> try simp (disch := omega) only [go_sem, Nat.reduceEqDiff, Nat.reduceAdd, Nat.reduceSub, Int.reduceAdd, Int.reduceSub, Int.reduceToNat]
          ·have e := ht c1 c2 (by omega)
           subst e
           try simp (disch := omega) only [go_sem, Nat.reduceEqDiff, Nat.reduceAdd, Nat.reduceSub, Int.reduceAdd, Int.reduceSub, Int.reduceToNat]
           refine ⟨by (try simp (disch := omega) only [go_sem, List.length_set, Nat.reduceEqDiff, Nat.reduceAdd, Nat.reduceSub, Int.reduceAdd, Int.reduceSub, Int.reduceToNat]) <;> omega, hN2 _ (j + 1, m ++ [v]) [some (0, none), some (1, none), some (2, none), some (3, none), some (4, none), some (5, none), some (6, none), some (7, none), some (8, none), some (9, none), some (10, none), some (11, none), some (12, none), some (13, none), some (14, none), some (15, none), some (16, none), some (17, none), some (18, none), some (19, none), some (20, none), some (21, none), some (22, none), some (23, none), some (24, none), some (25, none), some (26, none), some (33, none), some (28, none), some (29, none), some (30, none), some (31, none)] (by (try dsimp only); exact ⟨by omega, hvl, hn⟩) (by (try dsimp only); omega) (weak_mkO (by rfl) (by rfl) ?_)⟩
           try simp (disch := omega) only [go_sem, Nat.reduceEqDiff, Nat.reduceAdd, Nat.reduceSub, Int.reduceAdd, Int.reduceSub, Int.reduceToNat]
           try simp [intC]
          ·have e := hf3 (by omega)
           subst e
           try simp (disch := omega) only [go_sem, Nat.reduceEqDiff, Nat.reduceAdd, Nat.reduceSub, Int.reduceAdd, Int.reduceSub, Int.reduceToNat]
           refine ⟨by (try simp (disch := omega) only [go_sem, List.length_set, Nat.reduceEqDiff, Nat.reduceAdd, Nat.reduceSub, Int.reduceAdd, Int.reduceSub, Int.reduceToNat]) <;> omega, hN2 _ (j + 1, m1) [some (0, none), some (1, none), some (2, none), some (3, none), some (4, none), some (5, none), some (6, none), some (7, none), some (8, none), some (9, none), some (10, none), some (11, none), some (12, none), some (13, none), some (14, none), some (15, none), some (16, none), some (17, none), some (18, none), some (19, none), some (20, none), some (21, none), some (22, none), some (23, none), some (24, none), some (25, none), some (26, none), some (27, none), some (28, none), some (29, none), some (30, none), some (31, none)] (by (try dsimp only); exact ⟨by omega, hm, hn⟩) (by (try dsimp only); omega) (weak_mkO (by rfl) (by rfl) ?_)⟩
           try simp (disch := omega) only [go_sem, Nat.reduceEqDiff, Nat.reduceAdd, Nat.reduceSub, Int.reduceAdd, Int.reduceSub, Int.reduceToNat]
         ·have e := hf2 c2
          subst e
          try simp (disch := omega) only [go_sem, Nat.reduceEqDiff, Nat.reduceAdd, Nat.reduceSub, Int.reduceAdd, Int.reduceSub, Int.reduceToNat]
          refine ⟨by (try simp (disch := omega) only [go_sem, List.length_set, Nat.reduceEqDiff, Nat.reduceAdd, Nat.reduceSub, Int.reduceAdd, Int.reduceSub, Int.reduceToNat]) <;> omega, hN2 _ (j + 1, m1) [some (0, none), some (1, none), some (2, none), some (3, none), some (4, none), some (5, none), some (6, none), some (7, none), some (8, none), some (9, none), some (10, none), some (11, none), some (12, none), some (13, none), some (14, none), some (15, none), some (16, none), some (17, none), some (18, none), some (19, none), some (20, none), some (21, none), some (22, none), some (23, none), some (24, none), some (25, none), some (26, none), some (27, none), some (28, none), some (29, none), some (30, none), some (31, none)] (by (try dsimp only); exact ⟨by omega, hm, hn⟩) (by (try dsimp only); omega) (weak_mkO (by rfl) (by rfl) ?_)⟩
          try simp (disch := omega) only [go_sem, Nat.reduceEqDiff, Nat.reduceAdd, Nat.reduceSub, Int.reduceAdd, Int.reduceSub, Int.reduceToNat]
        ·have e := hf1 c1
         subst e
         try simp (disch := omega) only [go_sem, Nat.reduceEqDiff, Nat.reduceAdd, Nat.reduceSub, Int.reduceAdd, Int.reduceSub, Int.reduceToNat]
         refine ⟨by (try simp (disch := omega) only [go_sem, List.length_set, Nat.reduceEqDiff, Nat.reduceAdd, Nat.reduceSub, Int.reduceAdd, Int.reduceSub, Int.reduceToNat]) <;> omega, hN2 _ (j + 1, m1) [some (0, none), some (1, none), some (2, none), some (3, none), some (4, none), some (5, none), some (6, none), some (7, none), some (8, none), some (9, none), some (10, none), some (11, none), some (12, none), some (13, none), some (14, none), some (15, none), some (16, none), some (17, none), some (18, none), some (19, none), some (20, none), some (21, none), some (22, none), some (23, none), some (24, none), some (25, none), some (26, none), some (27, none), some (28, none), some (29, none), some (30, none), some (31, none)] (by (try dsimp only); exact ⟨by omega, hm, hn⟩) (by (try dsimp only); omega) (weak_mkO (by rfl) (by rfl) ?_)⟩
         try simp (disch := omega) only [go_sem, Nat.reduceEqDiff, Nat.reduceAdd, Nat.reduceSub, Int.reduceAdd, Int.reduceSub, Int.reduceToNat]
     ·obtain ⟨g1, hg1⟩ : ∃ g, g = bagP bag x := ⟨_, rfl⟩
      have e : post1 2 (⟨w.a, w.b, bag, past, wA, wB, rA, rB, ⟨keys, tags⟩, nums, nsA, nsB⟩ : WorldD) x = (⟨w.a, w.b, g1, p1, wA, wB, rA, rB, ⟨keys, tags⟩, nums, nsA, q1⟩ : WorldD) := by
       rw [post1, if_neg b4, notes]
       dsimp only
       rw [hoth, ← hp1, ← hq1, ← hg1]
      rw [e] at hu
      have hS1 := post1_small (side := 2) (x := x) hS
      rw [e] at hS1
      split <;> rename_i b5 <;> (try simp only [beq_true, beq_false, Bool.not_eq_true', Bool.not_eq_false'] at b5) <;> simp (disch := omega) only [go_sem, Nat.reduceEqDiff, Nat.reduceAdd, Nat.reduceSub, Int.reduceAdd, Int.reduceSub, Int.reduceToNat, b5] <;> (try simp only [decide_eq_true_eq, decide_eq_false_iff_not, beq_iff_eq, beq_eq_false_iff_ne, bne_iff_ne, bne_eq_false_iff_eq, ne_eq, Decidable.not_not, Bool.and_eq_true, Bool.and_eq_false_iff, Bool.or_eq_true, Bool.or_eq_false_iff, Int.ofNat_lt, Int.ofNat_le, Bool.not_eq_eq_eq_not, Bool.not_true, Bool.not_false] at b5) <;> try simp (disch := omega) only [go_sem, Nat.reduceEqDiff, Nat.reduceAdd, Nat.reduceSub, Int.reduceAdd, Int.reduceSub, Int.reduceToNat]
      ·rw [bagP_t (by omega)] at hg1
       subst hg1
       refine den_draw1 [0, 1, 2, 3, 4, 5, 6, 7, 8, 9, 10] (by kernel_rfl) (by (try simp (disch := omega) only [go_sem, List.length_set, Nat.reduceEqDiff, Nat.reduceAdd, Nat.reduceSub, Int.reduceAdd, Int.reduceSub, Int.reduceToNat]) <;> omega) (by kernel_rfl) (runD_den 400 ?_)
       simp (disch := omega) only [go_sem, Nat.reduceEqDiff, Nat.reduceAdd, Nat.reduceSub, Int.reduceAdd, Int.reduceSub, Int.reduceToNat]
       refine ⟨by (try simp (disch := omega) only [go_sem, List.length_set, Nat.reduceEqDiff, Nat.reduceAdd, Nat.reduceSub, Int.reduceAdd, Int.reduceSub, Int.reduceToNat]) <;> omega, run_den 400 ?_⟩
       try simp (disch := omega) only [go_sem, Nat.reduceEqDiff, Nat.reduceAdd, Nat.reduceSub, Int.reduceAdd, Int.reduceSub, Int.reduceToNat]
       refine ⟨by (try simp (disch := omega) only [go_sem, List.length_set, Nat.reduceEqDiff, Nat.reduceAdd, Nat.reduceSub, Int.reduceAdd, Int.reduceSub, Int.reduceToNat]) <;> omega, hN _ (i + 1, (⟨w.a, w.b, (bag ++ [x]), p1, wA, wB, rA, rB, ⟨keys, tags⟩, nums, nsA, q1⟩ : WorldD)) [some (0, none), some (1, none), some (2, none), some (3, none), some (4, none), some (5, none), some (6, none), some (7, none), some (8, none), some (9, none), some (10, none), some (11, none), some (12, none), some (13, none), some (14, none), some (15, none), some (16, none), some (17, none), some (18, none), some (19, none), some (20, none), some (21, none), some (22, none), some (32, none), some (24, none), some (25, none), some (26, none), some (27, none), some (28, none), some (29, none)] (by (try dsimp only); exact ⟨by omega, rfl, rfl, hS1, hu⟩) (by (try dsimp only); omega) (weak_mkO (by rfl) (by rfl) ?_)⟩
       try simp (disch := omega) only [go_sem, Nat.reduceEqDiff, Nat.reduceAdd, Nat.reduceSub, Int.reduceAdd, Int.reduceSub, Int.reduceToNat]
       try simp [LetterD.cs]
      ·rw [bagP_f (by omega)] at hg1
       subst hg1
       try simp (disch := omega) only [go_sem, Nat.reduceEqDiff, Nat.reduceAdd, Nat.reduceSub, Int.reduceAdd, Int.reduceSub, Int.reduceToNat]
       refine ⟨by (try simp (disch := omega) only [go_sem, List.length_set, Nat.reduceEqDiff, Nat.reduceAdd, Nat.reduceSub, Int.reduceAdd, Int.reduceSub, Int.reduceToNat]) <;> omega, hN _ (i + 1, (⟨w.a, w.b, g1, p1, wA, wB, rA, rB, ⟨keys, tags⟩, nums, nsA, q1⟩ : WorldD)) [some (0, none), some (1, none), some (2, none), some (3, none), some (4, none), some (5, none), some (6, none), some (7, none), some (8, none), some (9, none), some (10, none), some (11, none), some (12, none), some (13, none), some (14, none), some (15, none), some (16, none), some (17, none), some (18, none), some (19, none), some (20, none), some (21, none), some (22, none), some (23, none), some (24, none), some (25, none), some (26, none), some (27, none), some (28, none), some (29, none)] (by (try dsimp only); exact ⟨by omega, rfl, rfl, hS1, hu⟩) (by (try dsimp only); omega) (weak_mkO (by rfl) (by rfl) ?_)⟩
       try simp (disch := omega) only [go_sem, Nat.reduceEqDiff, Nat.reduceAdd, Nat.reduceSub, Int.reduceAdd, Int.reduceSub, Int.reduceToNat]
end
section
open Go.RowKit

theorem spec_Posted1 (w : WorldD) (l : List LetterD) (hw : SmallW w) (hl : l.length ≤ 1048576) : CallA Tryz.prog 46 [.ag (w.cs 0), .sc (.int .i64 1), .sc (.sl 21 0 l.length)]
  (w.hp false ++ [some ⟨l.map LetterD.cs, 19, 70, false, true⟩]) (.ag ((postL 1 w l).cs 22)) (w.hp false ++ ([some ⟨l.map LetterD.cs, 19, 70, false, true⟩] ++ (postL 1 w l).hp true)) := by
 obtain ⟨R, hR⟩ : ∃ R, R = postL 1 w l := ⟨_, rfl⟩
 rw [← hR]
 have hl2 : l.length ≤ 9223372036854775807 := by omega
 have hC := spec_l23Copy w hw
 refine callA_ofO Tryz.func46 (by kernel_rfl) rfl fun E hE => run_den 400 ?_
 simp (disch := omega) only [Tryz.ntmps46, Tryz.results46, go_sem, Nat.reduceEqDiff, Nat.reduceAdd, Nat.reduceSub, Int.reduceAdd, Int.reduceSub, Int.reduceToNat]
 refine den_call (by (try simp (disch := omega) only [go_sem, List.length_set, Nat.reduceEqDiff, Nat.reduceAdd, Nat.reduceSub, Int.reduceAdd, Int.reduceSub, Int.reduceToNat]) <;> omega) (hC) [some (0, none), some (1, none), some (2, none), some (3, none), some (4, none), some (5, none), some (6, none), some (7, none), some (8, none), some (9, none), some (10, none), some (11, none), some (12, none), some (13, none), some (14, none), some (15, none), some (16, none), some (17, none), some (18, none), some (19, none), some (20, none)] (by simp only [go_sem]; repeat' first | rfl | constructor | (rw [List.map_set]; rfl) | (simp [List.map_take, List.map_drop] <;> omega)) (by rfl) (run_den 400 ?_)
 simp (disch := omega) only [go_sem, Nat.reduceEqDiff, Nat.reduceAdd, Nat.reduceSub, Int.reduceAdd, Int.reduceSub, Int.reduceToNat]
 refine den_lpO 22 hE (fun s (y : Nat × WorldD) => s.at [0, 8, 9, 10, 11, 12, 13, 14, 15, 16, 17, 18, 19, 20, 21, 22, 23, 24, 25, 26, 27, 28, 29, 30, 31, 32, 33, 34, 35, 36, 37, 38, 39, 40, 41, 42, 43, 44, 45, 46, 47, 48, 49, 50, 51, 52, 53, 54, 55, 56, 57, 58, 59, 60, 61, 62, 63, 64, 65, 66, 67, 68, 69, 70, 71, 72, 73, 74, 75, 76, 77, 78, 79, 80, 81, 82, 83, 84, 85, 86, 87, 88, 89, 90, 91, 92, 93, 94, 95, 96, 97, 98, 99, 100, 101, 102, 103, 104, 105, 106, 107, 108, 109, 110, 111, 112] [(7, .sc (.int .i64 (y.1 : Nat)))] (((s.hp.take 24).set 22 (some ⟨[(worldC y.2 24 25 26 27 28 29 30 31 32 33 34 35 36 37 38 39 40 41 42 43 44)], 61, 65, true, false⟩)) ++ (endsHp w true ++ (restHp y.2 true)))) (fun (y : Nat × WorldD) => y.1 ≤ l.length ∧ y.2.a = w.a ∧ y.2.b = w.b ∧ SmallP2 y.2 ∧ R = postL 1 y.2 (l.drop y.1)) (fun (y : Nat × WorldD) => l.length - y.1) (0, w) [some (0, none), some (1, none), some (2, none), some (3, none), some (4, none), some (5, none), some (6, none), some (7, none), some (8, none), some (9, none), some (10, none), some (11, none), some (12, none), some (13, none), some (14, none), some (15, none), some (16, none), some (17, none), some (18, none), some (19, none), some (20, none), some (21, none), some (22, none), some (23, none), some (24, none), some (25, none), some (26, none), some (27, none), some (28, none), some (29, none), some (30, none), some (31, none), some (32, none), some (33, none), some (34, none), some (35, none), some (36, none), some (37, none), some (38, none), some (39, none), some (40, none), some (41, none), some (42, none), some (43, none), some (44, none)] (by (try simp (disch := omega) only [go_sem, List.length_set, Nat.reduceEqDiff, Nat.reduceAdd, Nat.reduceSub, Int.reduceAdd, Int.reduceSub, Int.reduceToNat]) <;> omega) (⟨Nat.zero_le _, rfl, rfl, hw.rest, hR⟩) (weak_mkO (by rfl) (by rfl) ?_) fun y hy N hN => ?_
 ·try simp (disch := omega) only [go_sem, Nat.reduceEqDiff, Nat.reduceAdd, Nat.reduceSub, Int.reduceAdd, Int.reduceSub, Int.reduceToNat]
 ·obtain ⟨i, u⟩ := y
  obtain ⟨hi, ha, hb, hS, hu⟩ := hy
  obtain ⟨ua, ub, bag, past, wA, wB, rA, rB, known, nums, nsA, nsB⟩ := u
  obtain ⟨keys, tags⟩ := known
  dsimp only at hi ha hb hu
  subst ha hb
  have s1 := hS.bag
  have s2 := hS.past
  have s3 := hS.keys
  have s4 := hS.tags
  have s5 := hS.nums
  have s6 := hS.ansA
  have s7 := hS.ansB
  dsimp only at s1 s2 s3 s4 s5 s6 s7
  refine runS_den 1006 400 ?_
  try simp (disch := omega) only [go_sem, Nat.reduceEqDiff, Nat.reduceAdd, Nat.reduceSub, Int.reduceAdd, Int.reduceSub, Int.reduceToNat, Nat.reduceBEq]
  split <;> rename_i h <;> (try simp only [decide_eq_true_eq, decide_eq_false_iff_not, Int.ofNat_lt] at h)
  rotate_left
  ·have e : i = l.length := by omega
   subst e
   rw [postL_end (Nat.le_refl _)] at hu
   subst hu
   try simp (disch := omega) only [go_sem, Nat.reduceEqDiff, Nat.reduceAdd, Nat.reduceSub, Int.reduceAdd, Int.reduceSub, Int.reduceToNat, Nat.reduceBEq]
   refine den_finO [some (0, none), some (1, none), some (2, none), some (3, none), some (4, none), some (5, none), some (6, none), some (7, none), some (8, none), some (9, none), some (10, none), some (11, none), some (12, none), some (13, none), some (14, none), some (15, none), some (16, none), some (17, none), some (18, none), some (19, none), some (20, none), some (21, none), some (24, none), some (25, none), some (26, none), some (27, none), some (28, none), some (29, none), some (30, none), some (31, none), some (32, none), some (33, none), some (34, none), some (35, none), some (36, none), some (37, none), some (38, none), some (39, none), some (40, none), some (41, none), some (42, none), some (43, none), some (44, none)] (by (try simp (disch := omega) only [go_sem, List.length_set, Nat.reduceEqDiff, Nat.reduceAdd, Nat.reduceSub, Int.reduceAdd, Int.reduceSub, Int.reduceToNat, Nat.reduceBEq]) <;> omega) _ (by simp only [go_sem]; rfl) (by rfl) (by rfl) ?_
   simp (disch := omega) only [go_sem, Nat.reduceEqDiff, Nat.reduceAdd, Nat.reduceSub, Int.reduceAdd, Int.reduceSub, Int.reduceToNat, Nat.reduceBEq]
  ·rw [postL_step h] at hu
   generalize hx : l[i] = x at hu
   have hget := map_get (enc := LetterD.cs) h
   rw [hx] at hget
   try simp (disch := omega) only [go_sem, Nat.reduceEqDiff, Nat.reduceAdd, Nat.reduceSub, Int.reduceAdd, Int.reduceSub, Int.reduceToNat, Nat.reduceBEq, hget]
   obtain ⟨p1, hp1⟩ : ∃ p, p = pastP past x := ⟨_, rfl⟩
   refine den_joinO 22 hE (fun s => s.at [9, 10, 11, 12, 13, 14, 15, 16, 17, 18, 19, 20, 21, 22, 25, 26, 27, 28, 29, 30, 31, 32, 33, 34, 35, 36, 37, 38] [] (((s.hp.take 24).set 22 (some ⟨[(worldC (⟨w.a, w.b, bag, p1, wA, wB, rA, rB, ⟨keys, tags⟩, nums, nsA, nsB⟩ : WorldD) 24 25 26 27 28 29 30 31 32 33 34 35 36 37 38 39 40 41 42 43 44)], 61, 65, true, false⟩)) ++ (endsHp w true ++ (restHp (⟨w.a, w.b, bag, p1, wA, wB, rA, rB, ⟨keys, tags⟩, nums, nsA, nsB⟩ : WorldD) true ++ [some ⟨[x.cs], 19, 70, true, false⟩])))) (by (try simp (disch := omega) only [go_sem, List.length_set, Nat.reduceEqDiff, Nat.reduceAdd, Nat.reduceSub, Int.reduceAdd, Int.reduceSub, Int.reduceToNat, Nat.reduceBEq]) <;> omega) (by rfl) (fun N hN => run_den 401 ?_) (runS_den 1008 400 ?_)
   ·try simp (disch := omega) only [go_sem, Nat.reduceEqDiff, Nat.reduceAdd, Nat.reduceSub, Int.reduceAdd, Int.reduceSub, Int.reduceToNat, Nat.reduceBEq]
    split <;> rename_i b1 <;> (try simp only [beq_true, beq_false, Bool.not_eq_true', Bool.not_eq_false'] at b1) <;> simp (disch := omega) only [go_sem, Nat.reduceEqDiff, Nat.reduceAdd, Nat.reduceSub, Int.reduceAdd, Int.reduceSub, Int.reduceToNat, Nat.reduceBEq, b1] <;> (try simp only [decide_eq_true_eq, decide_eq_false_iff_not, beq_iff_eq, beq_eq_false_iff_ne, bne_iff_ne, bne_eq_false_iff_eq, ne_eq, Decidable.not_not, Bool.and_eq_true, Bool.and_eq_false_iff, Bool.or_eq_true, Bool.or_eq_false_iff, Int.ofNat_lt, Int.ofNat_le, Bool.not_eq_eq_eq_not, Bool.not_true, Bool.not_false] at b1) <;> try simp (disch := omega) only [go_sem, Nat.reduceEqDiff, Nat.reduceAdd, Nat.reduceSub, Int.reduceAdd, Int.reduceSub, Int.reduceToNat, Nat.reduceBEq]
    ·rw [pastP_t (by omega)] at hp1
     subst hp1
     try simp (disch := omega) only [go_sem, Nat.reduceEqDiff, Nat.reduceAdd, Nat.reduceSub, Int.reduceAdd, Int.reduceSub, Int.reduceToNat, Nat.reduceBEq]
     refine ⟨by (try simp (disch := omega) only [go_sem, List.length_set, Nat.reduceEqDiff, Nat.reduceAdd, Nat.reduceSub, Int.reduceAdd, Int.reduceSub, Int.reduceToNat, Nat.reduceBEq]) <;> omega, hN _ [some (0, none), some (1, none), some (2, none), some (3, none), some (4, none), some (5, none), some (6, none), some (7, none), some (8, none), some (9, none), some (10, none), some (11, none), some (12, none), some (13, none), some (14, none), some (15, none), some (16, none), some (17, none), some (18, none), some (19, none), some (20, none), some (21, none), some (22, none), some (23, none), some (24, none), some (25, none), some (26, none), some (27, none), some (28, none), some (29, none), some (30, none), some (31, none), some (32, none), some (33, none), some (34, none), some (35, none), some (36, none), some (37, none), some (38, none), some (47, none), some (40, none), some (41, none), some (42, none), some (43, none), some (44, none), some (45, none)] (weak_mkO (by rfl) (by rfl) ?_)⟩
     simp (disch := omega) only [go_sem, Nat.reduceEqDiff, Nat.reduceAdd, Nat.reduceSub, Int.reduceAdd, Int.reduceSub, Int.reduceToNat, Nat.reduceBEq]
     try simp [LetterD.cs]
    ·rw [pastP_f (by omega)] at hp1
     subst hp1
     try simp (disch := omega) only [go_sem, Nat.reduceEqDiff, Nat.reduceAdd, Nat.reduceSub, Int.reduceAdd, Int.reduceSub, Int.reduceToNat, Nat.reduceBEq]
     refine ⟨by (try simp (disch := omega) only [go_sem, List.length_set, Nat.reduceEqDiff, Nat.reduceAdd, Nat.reduceSub, Int.reduceAdd, Int.reduceSub, Int.reduceToNat, Nat.reduceBEq]) <;> omega, hN _ [some (0, none), some (1, none), some (2, none), some (3, none), some (4, none), some (5, none), some (6, none), some (7, none), some (8, none), some (9, none), some (10, none), some (11, none), some (12, none), some (13, none), some (14, none), some (15, none), some (16, none), some (17, none), some (18, none), some (19, none), some (20, none), some (21, none), some (22, none), some (23, none), some (24, none), some (25, none), some (26, none), some (27, none), some (28, none), some (29, none), some (30, none), some (31, none), some (32, none), some (33, none), some (34, none), some (35, none), some (36, none), some (37, none), some (38, none), some (39, none), some (40, none), some (41, none), some (42, none), some (43, none), some (44, none), some (45, none)] (weak_mkO (by rfl) (by rfl) ?_)⟩
     simp (disch := omega) only [go_sem, Nat.reduceEqDiff, Nat.reduceAdd, Nat.reduceSub, Int.reduceAdd, Int.reduceSub, Int.reduceToNat, Nat.reduceBEq]
   ·try simp (disch := omega) only [go_sem, Nat.reduceEqDiff, Nat.reduceAdd, Nat.reduceSub, Int.reduceAdd, Int.reduceSub, Int.reduceToNat, Nat.reduceBEq]
    obtain ⟨q1, hq1⟩ : ∃ q, q = ansP nsA (isJB 1 1 x) w.a.now := ⟨_, rfl⟩
    refine den_joinO 22 hE (fun s => s.at [9, 10, 11, 12, 13, 14, 15, 16, 17, 18, 19, 20, 21, 22, 25, 26, 27, 28, 29, 30, 31, 32, 33, 34, 35, 36, 37, 38, 39, 40, 41, 42, 43, 44, 45, 46, 47, 48, 49, 50, 51, 52, 53, 54, 55, 56, 57, 58, 59] [] (((s.hp.take 24).set 22 (some ⟨[(worldC (⟨w.a, w.b, bag, p1, wA, wB, rA, rB, ⟨keys, tags⟩, nums, q1, nsB⟩ : WorldD) 24 25 26 27 28 29 30 31 32 33 34 35 36 37 38 39 40 41 42 43 44)], 61, 65, true, false⟩)) ++ (endsHp w true ++ (restHp (⟨w.a, w.b, bag, p1, wA, wB, rA, rB, ⟨keys, tags⟩, nums, q1, nsB⟩ : WorldD) true ++ [some ⟨[x.cs], 19, 70, true, false⟩])))) (by (try simp (disch := omega) only [go_sem, List.length_set, Nat.reduceEqDiff, Nat.reduceAdd, Nat.reduceSub, Int.reduceAdd, Int.reduceSub, Int.reduceToNat, Nat.reduceBEq]) <;> omega) (by rfl) (fun N hN => run_den 401 ?_) (runS_den 1010 400 ?_)
    ·try simp (disch := omega) only [go_sem, Nat.reduceEqDiff, Nat.reduceAdd, Nat.reduceSub, Int.reduceAdd, Int.reduceSub, Int.reduceToNat, Nat.reduceBEq]
     split <;> rename_i b2 <;> (try simp only [beq_true, beq_false, Bool.not_eq_true', Bool.not_eq_false'] at b2) <;> simp (disch := omega) only [go_sem, Nat.reduceEqDiff, Nat.reduceAdd, Nat.reduceSub, Int.reduceAdd, Int.reduceSub, Int.reduceToNat, Nat.reduceBEq, b2] <;> (try simp only [decide_eq_true_eq, decide_eq_false_iff_not, beq_iff_eq, beq_eq_false_iff_ne, bne_iff_ne, bne_eq_false_iff_eq, ne_eq, Decidable.not_not, Bool.and_eq_true, Bool.and_eq_false_iff, Bool.or_eq_true, Bool.or_eq_false_iff, Int.ofNat_lt, Int.ofNat_le, Bool.not_eq_eq_eq_not, Bool.not_true, Bool.not_false] at b2) <;> try simp (disch := omega) only [go_sem, Nat.reduceEqDiff, Nat.reduceAdd, Nat.reduceSub, Int.reduceAdd, Int.reduceSub, Int.reduceToNat, Nat.reduceBEq]
     ·rw [isJB_t b2] at hq1
      split <;> rename_i b3 <;> (try simp only [beq_true, beq_false, Bool.not_eq_true', Bool.not_eq_false'] at b3) <;> simp (disch := omega) only [go_sem, Nat.reduceEqDiff, Nat.reduceAdd, Nat.reduceSub, Int.reduceAdd, Int.reduceSub, Int.reduceToNat, Nat.reduceBEq, b3] <;> (try simp only [decide_eq_true_eq, decide_eq_false_iff_not, beq_iff_eq, beq_eq_false_iff_ne, bne_iff_ne, bne_eq_false_iff_eq, ne_eq, Decidable.not_not, Bool.and_eq_true, Bool.and_eq_false_iff, Bool.or_eq_true, Bool.or_eq_false_iff, Int.ofNat_lt, Int.ofNat_le, Bool.not_eq_eq_eq_not, Bool.not_true, Bool.not_false] at b3) <;> try simp (disch := omega) only [go_sem, Nat.reduceEqDiff, Nat.reduceAdd, Nat.reduceSub, Int.reduceAdd, Int.reduceSub, Int.reduceToNat, Nat.reduceBEq]
      ·rw [ansP_t (by omega)] at hq1
       subst hq1
       try simp (disch := omega) only [go_sem, Nat.reduceEqDiff, Nat.reduceAdd, Nat.reduceSub, Int.reduceAdd, Int.reduceSub, Int.reduceToNat, Nat.reduceBEq]
       refine ⟨by (try simp (disch := omega) only [go_sem, List.length_set, Nat.reduceEqDiff, Nat.reduceAdd, Nat.reduceSub, Int.reduceAdd, Int.reduceSub, Int.reduceToNat, Nat.reduceBEq]) <;> omega, hN _ [some (0, none), some (1, none), some (2, none), some (3, none), some (4, none), some (5, none), some (6, none), some (7, none), some (8, none), some (9, none), some (10, none), some (11, none), some (12, none), some (13, none), some (14, none), some (15, none), some (16, none), some (17, none), some (18, none), some (19, none), some (20, none), some (21, none), some (22, none), some (23, none), some (24, none), some (25, none), some (26, none), some (27, none), some (28, none), some (29, none), some (30, none), some (31, none), some (32, none), some (33, none), some (34, none), some (35, none), some (36, none), some (37, none), some (38, none), some (39, none), some (40, none), some (41, none), some (42, none), some (47, none), some (44, none), some (45, none)] (weak_mkO (by rfl) (by rfl) ?_)⟩
       simp (disch := omega) only [go_sem, Nat.reduceEqDiff, Nat.reduceAdd, Nat.reduceSub, Int.reduceAdd, Int.reduceSub, Int.reduceToNat, Nat.reduceBEq]
       try simp [intC]
      ·rw [ansP_f (by omega)] at hq1
       subst hq1
       try simp (disch := omega) only [go_sem, Nat.reduceEqDiff, Nat.reduceAdd, Nat.reduceSub, Int.reduceAdd, Int.reduceSub, Int.reduceToNat, Nat.reduceBEq]
       refine ⟨by (try simp (disch := omega) only [go_sem, List.length_set, Nat.reduceEqDiff, Nat.reduceAdd, Nat.reduceSub, Int.reduceAdd, Int.reduceSub, Int.reduceToNat, Nat.reduceBEq]) <;> omega, hN _ [some (0, none), some (1, none), some (2, none), some (3, none), some (4, none), some (5, none), some (6, none), some (7, none), some (8, none), some (9, none), some (10, none), some (11, none), some (12, none), some (13, none), some (14, none), some (15, none), some (16, none), some (17, none), some (18, none), some (19, none), some (20, none), some (21, none), some (22, none), some (23, none), some (24, none), some (25, none), some (26, none), some (27, none), some (28, none), some (29, none), some (30, none), some (31, none), some (32, none), some (33, none), some (34, none), some (35, none), some (36, none), some (37, none), some (38, none), some (39, none), some (40, none), some (41, none), some (42, none), some (43, none), some (44, none), some (45, none)] (weak_mkO (by rfl) (by rfl) ?_)⟩
       simp (disch := omega) only [go_sem, Nat.reduceEqDiff, Nat.reduceAdd, Nat.reduceSub, Int.reduceAdd, Int.reduceSub, Int.reduceToNat, Nat.reduceBEq]
     ·rw [isJB_f b2, ansP_f1] at hq1
      subst hq1
      try simp (disch := omega) only [go_sem, Nat.reduceEqDiff, Nat.reduceAdd, Nat.reduceSub, Int.reduceAdd, Int.reduceSub, Int.reduceToNat, Nat.reduceBEq]
      refine ⟨by (try simp (disch := omega) only [go_sem, List.length_set, Nat.reduceEqDiff, Nat.reduceAdd, Nat.reduceSub, Int.reduceAdd, Int.reduceSub, Int.reduceToNat, Nat.reduceBEq]) <;> omega, hN _ [some (0, none), some (1, none), some (2, none), some (3, none), some (4, none), some (5, none), some (6, none), some (7, none), some (8, none), some (9, none), some (10, none), some (11, none), some (12, none), some (13, none), some (14, none), some (15, none), some (16, none), some (17, none), some (18, none), some (19, none), some (20, none), some (21, none), some (22, none), some (23, none), some (24, none), some (25, none), some (26, none), some (27, none), some (28, none), some (29, none), some (30, none), some (31, none), some (32, none), some (33, none), some (34, none), some (35, none), some (36, none), some (37, none), some (38, none), some (39, none), some (40, none), some (41, none), some (42, none), some (43, none), some (44, none), some (45, none)] (weak_mkO (by rfl) (by rfl) ?_)⟩
      simp (disch := omega) only [go_sem, Nat.reduceEqDiff, Nat.reduceAdd, Nat.reduceSub, Int.reduceAdd, Int.reduceSub, Int.reduceToNat, Nat.reduceBEq]
    ·try simp (disch := omega) only [go_sem, Nat.reduceEqDiff, Nat.reduceAdd, Nat.reduceSub, Int.reduceAdd, Int.reduceSub, Int.reduceToNat, Nat.reduceBEq]
     refine den_joinO 22 hE (fun s => s.at [9, 10, 11, 12, 13, 14, 15, 16, 17, 18, 19, 20, 21, 22, 25, 26, 27, 28, 29, 30, 31, 32, 33, 34, 35, 36, 37, 38, 39, 40, 41, 42, 43, 44, 45, 46, 47, 48, 49, 50, 51, 52, 53, 54, 55, 56, 57, 58, 59, 60, 61, 62, 63, 64, 65, 66, 67, 68, 69, 70, 71, 72, 73, 74, 75, 76, 77, 78, 79, 80] [] (((s.hp.take 24).set 22 (some ⟨[(worldC (⟨w.a, w.b, bag, p1, wA, wB, rA, rB, ⟨keys, tags⟩, nums, q1, nsB⟩ : WorldD) 24 25 26 27 28 29 30 31 32 33 34 35 36 37 38 39 40 41 42 43 44)], 61, 65, true, false⟩)) ++ (endsHp w true ++ (restHp (⟨w.a, w.b, bag, p1, wA, wB, rA, rB, ⟨keys, tags⟩, nums, q1, nsB⟩ : WorldD) true ++ [some ⟨[x.cs], 19, 70, true, false⟩])))) (by (try simp (disch := omega) only [go_sem, List.length_set, Nat.reduceEqDiff, Nat.reduceAdd, Nat.reduceSub, Int.reduceAdd, Int.reduceSub, Int.reduceToNat]) <;> omega) (by rfl) (fun N hN => run_den 401 ?_) (run_den 400 ?_)
     ·try simp (disch := omega) only [go_sem, Nat.reduceEqDiff, Nat.reduceAdd, Nat.reduceSub, Int.reduceAdd, Int.reduceSub, Int.reduceToNat]
      split <;> rename_i b6 <;> (try simp only [beq_true, beq_false, Bool.not_eq_true', Bool.not_eq_false'] at b6) <;> simp (disch := omega) only [go_sem, Nat.reduceEqDiff, Nat.reduceAdd, Nat.reduceSub, Int.reduceAdd, Int.reduceSub, Int.reduceToNat, b6] <;> (try simp only [decide_eq_true_eq, decide_eq_false_iff_not, beq_iff_eq, beq_eq_false_iff_ne, bne_iff_ne, bne_eq_false_iff_eq, ne_eq, Decidable.not_not, Bool.and_eq_true, Bool.and_eq_false_iff, Bool.or_eq_true, Bool.or_eq_false_iff, Int.ofNat_lt, Int.ofNat_le, Bool.not_eq_eq_eq_not, Bool.not_true, Bool.not_false] at b6) <;> try simp (disch := omega) only [go_sem, Nat.reduceEqDiff, Nat.reduceAdd, Nat.reduceSub, Int.reduceAdd, Int.reduceSub, Int.reduceToNat]
      ·try simp (disch := omega) only [go_sem, Nat.reduceEqDiff, Nat.reduceAdd, Nat.reduceSub, Int.reduceAdd, Int.reduceSub, Int.reduceToNat]
       refine ⟨by (try simp (disch := omega) only [go_sem, List.length_set, Nat.reduceEqDiff, Nat.reduceAdd, Nat.reduceSub, Int.reduceAdd, Int.reduceSub, Int.reduceToNat]) <;> omega, hN _ [some (0, none), some (1, none), some (2, none), some (3, none), some (4, none), some (5, none), some (6, none), some (7, none), some (8, none), some (9, none), some (10, none), some (11, none), some (12, none), some (13, none), some (14, none), some (15, none), some (16, none), some (17, none), some (18, none), some (19, none), some (20, none), some (21, none), some (22, none), some (23, none), some (24, none), some (25, none), some (26, none), some (27, none), some (28, none), some (29, none), some (30, none), some (31, none), some (32, none), some (33, none), some (34, none), some (35, none), some (36, none), some (37, none), some (38, none), some (39, none), some (40, none), some (41, none), some (42, none), some (43, none), some (44, none), some (45, none)] (weak_mkO (by rfl) (by rfl) ?_)⟩
       simp (disch := omega) only [go_sem, Nat.reduceEqDiff, Nat.reduceAdd, Nat.reduceSub, Int.reduceAdd, Int.reduceSub, Int.reduceToNat]
      ·try simp (disch := omega) only [go_sem, Nat.reduceEqDiff, Nat.reduceAdd, Nat.reduceSub, Int.reduceAdd, Int.reduceSub, Int.reduceToNat]
       refine ⟨by (try simp (disch := omega) only [go_sem, List.length_set, Nat.reduceEqDiff, Nat.reduceAdd, Nat.reduceSub, Int.reduceAdd, Int.reduceSub, Int.reduceToNat]) <;> omega, hN _ [some (0, none), some (1, none), some (2, none), some (3, none), some (4, none), some (5, none), some (6, none), some (7, none), some (8, none), some (9, none), some (10, none), some (11, none), some (12, none), some (13, none), some (14, none), some (15, none), some (16, none), some (17, none), some (18, none), some (19, none), some (20, none), some (21, none), some (22, none), some (23, none), some (24, none), some (25, none), some (26, none), some (27, none), some (28, none), some (29, none), some (30, none), some (31, none), some (32, none), some (33, none), some (34, none), some (35, none), some (36, none), some (37, none), some (38, none), some (39, none), some (40, none), some (41, none), some (42, none), some (43, none), some (44, none), some (45, none)] (weak_mkO (by rfl) (by rfl) ?_)⟩
       simp (disch := omega) only [go_sem, Nat.reduceEqDiff, Nat.reduceAdd, Nat.reduceSub, Int.reduceAdd, Int.reduceSub, Int.reduceToNat]
     ·try simp (disch := omega) only [go_sem, Nat.reduceEqDiff, Nat.reduceAdd, Nat.reduceSub, Int.reduceAdd, Int.reduceSub, Int.reduceToNat]
      refine den_call (by (try simp (disch := omega) only [go_sem, List.length_set, Nat.reduceEqDiff, Nat.reduceAdd, Nat.reduceSub, Int.reduceAdd, Int.reduceSub, Int.reduceToNat]) <;> omega) (spec_SideAt x.to) [] (by simp only [go_sem]; repeat' first | rfl | constructor | (rw [List.map_set]; rfl) | (simp [List.map_take, List.map_drop] <;> omega)) (by rfl) (run_den 400 ?_)
      simp (disch := omega) only [go_sem, Nat.reduceEqDiff, Nat.reduceAdd, Nat.reduceSub, Int.reduceAdd, Int.reduceSub, Int.reduceToNat]
      have hoth : ansP nsB (isJB 1 2 x) w.b.now = nsB := by rw [isJB_n (by decide), ansP_f1]
      split <;> rename_i b4 <;> (try simp only [beq_true, beq_false, Bool.not_eq_true', Bool.not_eq_false'] at b4) <;> simp (disch := omega) only [go_sem, Nat.reduceEqDiff, Nat.reduceAdd, Nat.reduceSub, Int.reduceAdd, Int.reduceSub, Int.reduceToNat, b4] <;> (try simp only [decide_eq_true_eq, decide_eq_false_iff_not, beq_iff_eq, beq_eq_false_iff_ne, bne_iff_ne, bne_eq_false_iff_eq, ne_eq, Decidable.not_not, Bool.and_eq_true, Bool.and_eq_false_iff, Bool.or_eq_true, Bool.or_eq_false_iff, Int.ofNat_lt, Int.ofNat_le, Bool.not_eq_eq_eq_not, Bool.not_true, Bool.not_false] at b4) <;> try simp (disch := omega) only [go_sem, Nat.reduceEqDiff, Nat.reduceAdd, Nat.reduceSub, Int.reduceAdd, Int.reduceSub, Int.reduceToNat]
      ·have hK := spec_Learn ⟨keys, tags⟩ x.tag (by dsimp only; omega) (by dsimp only; omega)
       have hky : (learn ⟨keys, tags⟩ x.tag).keys.length ≤ 1048576 := by rw [learn_keys]; exact s3
       have hkt : (learn ⟨keys, tags⟩ x.tag).tags.length ≤ 1048576 := learn_le s4
       obtain ⟨kk, hkk⟩ : ∃ k, k = learn ⟨keys, tags⟩ x.tag := ⟨_, rfl⟩
       rw [← hkk] at hK hky hkt
       obtain ⟨k1, t1⟩ := kk
       dsimp only at hky hkt
       have t5a : (numP nums x.nonce).length ≤ 1048576 := numP_le s5
       have t5b : (numP (numP nums x.nonce) x.give).length ≤ 1048576 := numP_le t5a
       have hh1 := spec_l23Hears (⟨w.a, w.b, bag, p1, wA, wB, rA, rB, ⟨k1, t1⟩, nums, q1, nsB⟩ : WorldD) x.nonce (by dsimp only; omega)
       have hh2 := spec_l23Hears (⟨w.a, w.b, bag, p1, wA, wB, rA, rB, ⟨k1, t1⟩, (numP nums x.nonce), q1, nsB⟩ : WorldD) x.give (by dsimp only; omega)
       have hh3 := spec_l23Hears (⟨w.a, w.b, bag, p1, wA, wB, rA, rB, ⟨k1, t1⟩, (numP (numP nums x.nonce) x.give), q1, nsB⟩ : WorldD) x.sgn (by dsimp only; omega)
       dsimp only at hh1 hh2 hh3
       have e : post1 1 (⟨w.a, w.b, bag, past, wA, wB, rA, rB, ⟨keys, tags⟩, nums, nsA, nsB⟩ : WorldD) x = (⟨w.a, w.b, bag, p1, wA, wB, rA, rB, ⟨k1, t1⟩, (numP (numP (numP nums x.nonce) x.give) x.sgn), q1, nsB⟩ : WorldD) := by
        rw [post1, if_pos b4, heard, notes]
        dsimp only
        rw [← hkk, hoth, ← hp1, ← hq1]
       rw [e] at hu
       have hS1 := post1_small (side := 1) (x := x) hS
       rw [e] at hS1
       generalize numP nums x.nonce = m1 at *
       generalize numP m1 x.give = m2 at *
       generalize numP m2 x.sgn = m3 at *
       try simp (disch := omega) only [go_sem, Nat.reduceEqDiff, Nat.reduceAdd, Nat.reduceSub, Int.reduceAdd, Int.reduceSub, Int.reduceToNat]
       refine den_call (by (try simp (disch := omega) only [go_sem, List.length_set, Nat.reduceEqDiff, Nat.reduceAdd, Nat.reduceSub, Int.reduceAdd, Int.reduceSub, Int.reduceToNat]) <;> omega) (hK) [some (40, none), some (41, none)] (by simp only [go_sem]; repeat' first | rfl | constructor | (rw [List.map_set]; rfl) | (simp [List.map_take, List.map_drop] <;> omega)) (by rfl) (run_den 400 ?_)
       simp (disch := omega) only [go_sem, Nat.reduceEqDiff, Nat.reduceAdd, Nat.reduceSub, Int.reduceAdd, Int.reduceSub, Int.reduceToNat]
       refine den_call (by (try simp (disch := omega) only [go_sem, List.length_set, Nat.reduceEqDiff, Nat.reduceAdd, Nat.reduceSub, Int.reduceAdd, Int.reduceSub, Int.reduceToNat]) <;> omega) (hh1) [some (24, none), some (25, none), some (26, none), some (27, none), some (28, none), some (29, none), some (30, none), some (31, none), some (32, none), some (33, none), some (34, none), some (35, none), some (36, none), some (37, none), some (38, none), some (39, none), some (46, none), some (47, none), some (42, none), some (43, none), some (44, none)] (by simp only [go_sem]; repeat' first | rfl | constructor | (rw [List.map_set]; rfl) | (simp [List.map_take, List.map_drop] <;> omega)) (by rfl) (run_den 400 ?_)
       simp (disch := omega) only [go_sem, Nat.reduceEqDiff, Nat.reduceAdd, Nat.reduceSub, Int.reduceAdd, Int.reduceSub, Int.reduceToNat]
       refine den_call (by (try simp (disch := omega) only [go_sem, List.length_set, Nat.reduceEqDiff, Nat.reduceAdd, Nat.reduceSub, Int.reduceAdd, Int.reduceSub, Int.reduceToNat]) <;> omega) (hh2) [some (24, none), some (25, none), some (26, none), some (27, none), some (28, none), some (29, none), some (30, none), some (31, none), some (32, none), some (33, none), some (34, none), some (35, none), some (36, none), some (37, none), some (38, none), some (39, none), some (46, none), some (47, none), some (48, none), some (43, none), some (44, none)] (by simp only [go_sem]; repeat' first | rfl | constructor | (rw [List.map_set]; rfl) | (simp [List.map_take, List.map_drop] <;> omega)) (by rfl) (run_den 400 ?_)
       simp (disch := omega) only [go_sem, Nat.reduceEqDiff, Nat.reduceAdd, Nat.reduceSub, Int.reduceAdd, Int.reduceSub, Int.reduceToNat]
       refine den_call (by (try simp (disch := omega) only [go_sem, List.length_set, Nat.reduceEqDiff, Nat.reduceAdd, Nat.reduceSub, Int.reduceAdd, Int.reduceSub, Int.reduceToNat]) <;> omega) (hh3) [some (24, none), some (25, none), some (26, none), some (27, none), some (28, none), some (29, none), some (30, none), some (31, none), some (32, none), some (33, none), some (34, none), some (35, none), some (36, none), some (37, none), some (38, none), some (39, none), some (46, none), some (47, none), some (49, none), some (43, none), some (44, none)] (by simp only [go_sem]; repeat' first | rfl | constructor | (rw [List.map_set]; rfl) | (simp [List.map_take, List.map_drop] <;> omega)) (by rfl) (run_den 400 ?_)
       simp (disch := omega) only [go_sem, Nat.reduceEqDiff, Nat.reduceAdd, Nat.reduceSub, Int.reduceAdd, Int.reduceSub, Int.reduceToNat]
       refine ⟨by (try simp (disch := omega) only [go_sem, List.length_set, Nat.reduceEqDiff, Nat.reduceAdd, Nat.reduceSub, Int.reduceAdd, Int.reduceSub, Int.reduceToNat]) <;> omega, hN _ (i + 1, (⟨w.a, w.b, bag, p1, wA, wB, rA, rB, ⟨k1, t1⟩, m3, q1, nsB⟩ : WorldD)) [some (0, none), some (1, none), some (2, none), some (3, none), some (4, none), some (5, none), some (6, none), some (7, none), some (8, none), some (9, none), some (10, none), some (11, none), some (12, none), some (13, none), some (14, none), some (15, none), some (16, none), some (17, none), some (18, none), some (19, none), some (20, none), some (21, none), some (22, none), some (23, none), some (24, none), some (25, none), some (26, none), some (27, none), some (28, none), some (29, none), some (30, none), some (31, none), some (32, none), some (33, none), some (34, none), some (35, none), some (36, none), some (37, none), some (38, none), some (39, none), some (46, none), some (47, none), some (50, none), some (43, none), some (44, none)] (by (try dsimp only); exact ⟨by omega, rfl, rfl, hS1, hu⟩) (by (try dsimp only); omega) (weak_mkO (by rfl) (by rfl) ?_)⟩
       try simp (disch := omega) only [go_sem, Nat.reduceEqDiff, Nat.reduceAdd, Nat.reduceSub, Int.reduceAdd, Int.reduceSub, Int.reduceToNat]
      ·obtain ⟨g1, hg1⟩ : ∃ g, g = bagP bag x := ⟨_, rfl⟩
       have e : post1 1 (⟨w.a, w.b, bag, past, wA, wB, rA, rB, ⟨keys, tags⟩, nums, nsA, nsB⟩ : WorldD) x = (⟨w.a, w.b, g1, p1, wA, wB, rA, rB, ⟨keys, tags⟩, nums, q1, nsB⟩ : WorldD) := by
        rw [post1, if_neg b4, notes]
        dsimp only
        rw [hoth, ← hp1, ← hq1, ← hg1]
       rw [e] at hu
       have hS1 := post1_small (side := 1) (x := x) hS
       rw [e] at hS1
       try simp (disch := omega) only [go_sem, Nat.reduceEqDiff, Nat.reduceAdd, Nat.reduceSub, Int.reduceAdd, Int.reduceSub, Int.reduceToNat]
       split <;> rename_i b5 <;> (try simp only [beq_true, beq_false, Bool.not_eq_true', Bool.not_eq_false'] at b5) <;> simp (disch := omega) only [go_sem, Nat.reduceEqDiff, Nat.reduceAdd, Nat.reduceSub, Int.reduceAdd, Int.reduceSub, Int.reduceToNat, b5] <;> (try simp only [decide_eq_true_eq, decide_eq_false_iff_not, beq_iff_eq, beq_eq_false_iff_ne, bne_iff_ne, bne_eq_false_iff_eq, ne_eq, Decidable.not_not, Bool.and_eq_true, Bool.and_eq_false_iff, Bool.or_eq_true, Bool.or_eq_false_iff, Int.ofNat_lt, Int.ofNat_le, Bool.not_eq_eq_eq_not, Bool.not_true, Bool.not_false] at b5) <;> try simp (disch := omega) only [go_sem, Nat.reduceEqDiff, Nat.reduceAdd, Nat.reduceSub, Int.reduceAdd, Int.reduceSub, Int.reduceToNat]
       ·rw [bagP_t (by omega)] at hg1
        subst hg1
        try simp (disch := omega) only [go_sem, Nat.reduceEqDiff, Nat.reduceAdd, Nat.reduceSub, Int.reduceAdd, Int.reduceSub, Int.reduceToNat]
        refine ⟨by (try simp (disch := omega) only [go_sem, List.length_set, Nat.reduceEqDiff, Nat.reduceAdd, Nat.reduceSub, Int.reduceAdd, Int.reduceSub, Int.reduceToNat]) <;> omega, hN _ (i + 1, (⟨w.a, w.b, (bag ++ [x]), p1, wA, wB, rA, rB, ⟨keys, tags⟩, nums, q1, nsB⟩ : WorldD)) [some (0, none), some (1, none), some (2, none), some (3, none), some (4, none), some (5, none), some (6, none), some (7, none), some (8, none), some (9, none), some (10, none), some (11, none), some (12, none), some (13, none), some (14, none), some (15, none), some (16, none), some (17, none), some (18, none), some (19, none), some (20, none), some (21, none), some (22, none), some (23, none), some (24, none), some (25, none), some (26, none), some (27, none), some (28, none), some (29, none), some (30, none), some (31, none), some (32, none), some (33, none), some (34, none), some (35, none), some (36, none), some (37, none), some (47, none), some (39, none), some (40, none), some (41, none), some (42, none), some (43, none), some (44, none)] (by (try dsimp only); exact ⟨by omega, rfl, rfl, hS1, hu⟩) (by (try dsimp only); omega) (weak_mkO (by rfl) (by rfl) ?_)⟩
        try simp (disch := omega) only [go_sem, Nat.reduceEqDiff, Nat.reduceAdd, Nat.reduceSub, Int.reduceAdd, Int.reduceSub, Int.reduceToNat]
        try simp [LetterD.cs]
       ·rw [bagP_f (by omega)] at hg1
        subst hg1
        try simp (disch := omega) only [go_sem, Nat.reduceEqDiff, Nat.reduceAdd, Nat.reduceSub, Int.reduceAdd, Int.reduceSub, Int.reduceToNat]
        refine ⟨by (try simp (disch := omega) only [go_sem, List.length_set, Nat.reduceEqDiff, Nat.reduceAdd, Nat.reduceSub, Int.reduceAdd, Int.reduceSub, Int.reduceToNat]) <;> omega, hN _ (i + 1, (⟨w.a, w.b, g1, p1, wA, wB, rA, rB, ⟨keys, tags⟩, nums, q1, nsB⟩ : WorldD)) [some (0, none), some (1, none), some (2, none), some (3, none), some (4, none), some (5, none), some (6, none), some (7, none), some (8, none), some (9, none), some (10, none), some (11, none), some (12, none), some (13, none), some (14, none), some (15, none), some (16, none), some (17, none), some (18, none), some (19, none), some (20, none), some (21, none), some (22, none), some (23, none), some (24, none), some (25, none), some (26, none), some (27, none), some (28, none), some (29, none), some (30, none), some (31, none), some (32, none), some (33, none), some (34, none), some (35, none), some (36, none), some (37, none), some (38, none), some (39, none), some (40, none), some (41, none), some (42, none), some (43, none), some (44, none)] (by (try dsimp only); exact ⟨by omega, rfl, rfl, hS1, hu⟩) (by (try dsimp only); omega) (weak_mkO (by rfl) (by rfl) ?_)⟩
        try simp (disch := omega) only [go_sem, Nat.reduceEqDiff, Nat.reduceAdd, Nat.reduceSub, Int.reduceAdd, Int.reduceSub, Int.reduceToNat]
theorem spec_Posted2 (w : WorldD) (l : List LetterD) (hw : SmallW w) (hl : l.length ≤ 1048576) : CallA Tryz.prog 46 [.ag (w.cs 0), .sc (.int .i64 2), .sc (.sl 21 0 l.length)]
  (w.hp false ++ [some ⟨l.map LetterD.cs, 19, 70, false, true⟩]) (.ag ((postL 2 w l).cs 22)) (w.hp false ++ ([some ⟨l.map LetterD.cs, 19, 70, false, true⟩] ++ (postL 2 w l).hp true)) := by
 obtain ⟨R, hR⟩ : ∃ R, R = postL 2 w l := ⟨_, rfl⟩
 rw [← hR]
 have hl2 : l.length ≤ 9223372036854775807 := by omega
 have hC := spec_l23Copy w hw
 refine callA_ofO Tryz.func46 (by kernel_rfl) rfl fun E hE => run_den 400 ?_
 simp (disch := omega) only [Tryz.ntmps46, Tryz.results46, go_sem, Nat.reduceEqDiff, Nat.reduceAdd, Nat.reduceSub, Int.reduceAdd, Int.reduceSub, Int.reduceToNat]
 refine den_call (by (try simp (disch := omega) only [go_sem, List.length_set, Nat.reduceEqDiff, Nat.reduceAdd, Nat.reduceSub, Int.reduceAdd, Int.reduceSub, Int.reduceToNat]) <;> omega) (hC) [some (0, none), some (1, none), some (2, none), some (3, none), some (4, none), some (5, none), some (6, none), some (7, none), some (8, none), some (9, none), some (10, none), some (11, none), some (12, none), some (13, none), some (14, none), some (15, none), some (16, none), some (17, none), some (18, none), some (19, none), some (20, none)] (by simp only [go_sem]; repeat' first | rfl | constructor | (rw [List.map_set]; rfl) | (simp [List.map_take, List.map_drop] <;> omega)) (by rfl) (run_den 400 ?_)
 simp (disch := omega) only [go_sem, Nat.reduceEqDiff, Nat.reduceAdd, Nat.reduceSub, Int.reduceAdd, Int.reduceSub, Int.reduceToNat]
 refine den_lpO 22 hE (fun s (y : Nat × WorldD) => s.at [0, 8, 9, 10, 11, 12, 13, 14, 15, 16, 17, 18, 19, 20, 21, 22, 23, 24, 25, 26, 27, 28, 29, 30, 31, 32, 33, 34, 35, 36, 37, 38, 39, 40, 41, 42, 43, 44, 45, 46, 47, 48, 49, 50, 51, 52, 53, 54, 55, 56, 57, 58, 59, 60, 61, 62, 63, 64, 65, 66, 67, 68, 69, 70, 71, 72, 73, 74, 75, 76, 77, 78, 79, 80, 81, 82, 83, 84, 85, 86, 87, 88, 89, 90, 91, 92, 93, 94, 95, 96, 97, 98, 99, 100, 101, 102, 103, 104, 105, 106, 107, 108, 109, 110, 111, 112] [(7, .sc (.int .i64 (y.1 : Nat)))] (((s.hp.take 24).set 22 (some ⟨[(worldC y.2 24 25 26 27 28 29 30 31 32 33 34 35 36 37 38 39 40 41 42 43 44)], 61, 65, true, false⟩)) ++ (endsHp w true ++ (restHp y.2 true)))) (fun (y : Nat × WorldD) => y.1 ≤ l.length ∧ y.2.a = w.a ∧ y.2.b = w.b ∧ SmallP2 y.2 ∧ R = postL 2 y.2 (l.drop y.1)) (fun (y : Nat × WorldD) => l.length - y.1) (0, w) [some (0, none), some (1, none), some (2, none), some (3, none), some (4, none), some (5, none), some (6, none), some (7, none), some (8, none), some (9, none), some (10, none), some (11, none), some (12, none), some (13, none), some (14, none), some (15, none), some (16, none), some (17, none), some (18, none), some (19, none), some (20, none), some (21, none), some (22, none), some (23, none), some (24, none), some (25, none), some (26, none), some (27, none), some (28, none), some (29, none), some (30, none), some (31, none), some (32, none), some (33, none), some (34, none), some (35, none), some (36, none), some (37, none), some (38, none), some (39, none), some (40, none), some (41, none), some (42, none), some (43, none), some (44, none)] (by (try simp (disch := omega) only [go_sem, List.length_set, Nat.reduceEqDiff, Nat.reduceAdd, Nat.reduceSub, Int.reduceAdd, Int.reduceSub, Int.reduceToNat]) <;> omega) (⟨Nat.zero_le _, rfl, rfl, hw.rest, hR⟩) (weak_mkO (by rfl) (by rfl) ?_) fun y hy N hN => ?_
 ·try simp (disch := omega) only [go_sem, Nat.reduceEqDiff, Nat.reduceAdd, Nat.reduceSub, Int.reduceAdd, Int.reduceSub, Int.reduceToNat]
 ·obtain ⟨i, u⟩ := y
  obtain ⟨hi, ha, hb, hS, hu⟩ := hy
  obtain ⟨ua, ub, bag, past, wA, wB, rA, rB, known, nums, nsA, nsB⟩ := u
  obtain ⟨keys, tags⟩ := known
  dsimp only at hi ha hb hu
  subst ha hb
  have s1 := hS.bag
  have s2 := hS.past
  have s3 := hS.keys
  have s4 := hS.tags
  have s5 := hS.nums
  have s6 := hS.ansA
  have s7 := hS.ansB
  dsimp only at s1 s2 s3 s4 s5 s6 s7
  refine runS_den 1006 400 ?_
  try simp (disch := omega) only [go_sem, Nat.reduceEqDiff, Nat.reduceAdd, Nat.reduceSub, Int.reduceAdd, Int.reduceSub, Int.reduceToNat, Nat.reduceBEq]
  split <;> rename_i h <;> (try simp only [decide_eq_true_eq, decide_eq_false_iff_not, Int.ofNat_lt] at h)
  rotate_left
  ·have e : i = l.length := by omega
   subst e
   rw [postL_end (Nat.le_refl _)] at hu
   subst hu
   try simp (disch := omega) only [go_sem, Nat.reduceEqDiff, Nat.reduceAdd, Nat.reduceSub, Int.reduceAdd, Int.reduceSub, Int.reduceToNat, Nat.reduceBEq]
   refine den_finO [some (0, none), some (1, none), some (2, none), some (3, none), some (4, none), some (5, none), some (6, none), some (7, none), some (8, none), some (9, none), some (10, none), some (11, none), some (12, none), some (13, none), some (14, none), some (15, none), some (16, none), some (17, none), some (18, none), some (19, none), some (20, none), some (21, none), some (24, none), some (25, none), some (26, none), some (27, none), some (28, none), some (29, none), some (30, none), some (31, none), some (32, none), some (33, none), some (34, none), some (35, none), some (36, none), some (37, none), some (38, none), some (39, none), some (40, none), some (41, none), some (42, none), some (43, none), some (44, none)] (by (try simp (disch := omega) only [go_sem, List.length_set, Nat.reduceEqDiff, Nat.reduceAdd, Nat.reduceSub, Int.reduceAdd, Int.reduceSub, Int.reduceToNat, Nat.reduceBEq]) <;> omega) _ (by simp only [go_sem]; rfl) (by rfl) (by rfl) ?_
   simp (disch := omega) only [go_sem, Nat.reduceEqDiff, Nat.reduceAdd, Nat.reduceSub, Int.reduceAdd, Int.reduceSub, Int.reduceToNat, Nat.reduceBEq]
  ·rw [postL_step h] at hu
   generalize hx : l[i] = x at hu
   have hget := map_get (enc := LetterD.cs) h
   rw [hx] at hget
   try simp (disch := omega) only [go_sem, Nat.reduceEqDiff, Nat.reduceAdd, Nat.reduceSub, Int.reduceAdd, Int.reduceSub, Int.reduceToNat, Nat.reduceBEq, hget]
   obtain ⟨p1, hp1⟩ : ∃ p, p = pastP past x := ⟨_, rfl⟩
   refine den_joinO 22 hE (fun s => s.at [9, 10, 11, 12, 13, 14, 15, 16, 17, 18, 19, 20, 21, 22, 25, 26, 27, 28, 29, 30, 31, 32, 33, 34, 35, 36, 37, 38] [] (((s.hp.take 24).set 22 (some ⟨[(worldC (⟨w.a, w.b, bag, p1, wA, wB, rA, rB, ⟨keys, tags⟩, nums, nsA, nsB⟩ : WorldD) 24 25 26 27 28 29 30 31 32 33 34 35 36 37 38 39 40 41 42 43 44)], 61, 65, true, false⟩)) ++ (endsHp w true ++ (restHp (⟨w.a, w.b, bag, p1, wA, wB, rA, rB, ⟨keys, tags⟩, nums, nsA, nsB⟩ : WorldD) true ++ [some ⟨[x.cs], 19, 70, true, false⟩])))) (by (try simp (disch := omega) only [go_sem, List.length_set, Nat.reduceEqDiff, Nat.reduceAdd, Nat.reduceSub, Int.reduceAdd, Int.reduceSub, Int.reduceToNat, Nat.reduceBEq]) <;> omega) (by rfl) (fun N hN => run_den 401 ?_) (runS_den 1008 400 ?_)
   ·try simp (disch := omega) only [go_sem, Nat.reduceEqDiff, Nat.reduceAdd, Nat.reduceSub, Int.reduceAdd, Int.reduceSub, Int.reduceToNat, Nat.reduceBEq]
    split <;> rename_i b1 <;> (try simp only [beq_true, beq_false, Bool.not_eq_true', Bool.not_eq_false'] at b1) <;> simp (disch := omega) only [go_sem, Nat.reduceEqDiff, Nat.reduceAdd, Nat.reduceSub, Int.reduceAdd, Int.reduceSub, Int.reduceToNat, Nat.reduceBEq, b1] <;> (try simp only [decide_eq_true_eq, decide_eq_false_iff_not, beq_iff_eq, beq_eq_false_iff_ne, bne_iff_ne, bne_eq_false_iff_eq, ne_eq, Decidable.not_not, Bool.and_eq_true, Bool.and_eq_false_iff, Bool.or_eq_true, Bool.or_eq_false_iff, Int.ofNat_lt, Int.ofNat_le, Bool.not_eq_eq_eq_not, Bool.not_true, Bool.not_false] at b1) <;> try simp (disch := omega) only [go_sem, Nat.reduceEqDiff, Nat.reduceAdd, Nat.reduceSub, Int.reduceAdd, Int.reduceSub, Int.reduceToNat, Nat.reduceBEq]
    ·rw [pastP_t (by omega)] at hp1
     subst hp1
     try simp (disch := omega) only [go_sem, Nat.reduceEqDiff, Nat.reduceAdd, Nat.reduceSub, Int.reduceAdd, Int.reduceSub, Int.reduceToNat, Nat.reduceBEq]
     refine ⟨by (try simp (disch := omega) only [go_sem, List.length_set, Nat.reduceEqDiff, Nat.reduceAdd, Nat.reduceSub, Int.reduceAdd, Int.reduceSub, Int.reduceToNat, Nat.reduceBEq]) <;> omega, hN _ [some (0, none), some (1, none), some (2, none), some (3, none), some (4, none), some (5, none), some (6, none), some (7, none), some (8, none), some (9, none), some (10, none), some (11, none), some (12, none), some (13, none), some (14, none), some (15, none), some (16, none), some (17, none), some (18, none), some (19, none), some (20, none), some (21, none), some (22, none), some (23, none), some (24, none), some (25, none), some (26, none), some (27, none), some (28, none), some (29, none), some (30, none), some (31, none), some (32, none), some (33, none), some (34, none), some (35, none), some (36, none), some (37, none), some (38, none), some (47, none), some (40, none), some (41, none), some (42, none), some (43, none), some (44, none), some (45, none)] (weak_mkO (by rfl) (by rfl) ?_)⟩
     simp (disch := omega) only [go_sem, Nat.reduceEqDiff, Nat.reduceAdd, Nat.reduceSub, Int.reduceAdd, Int.reduceSub, Int.reduceToNat, Nat.reduceBEq]
     try simp [LetterD.cs]
    ·rw [pastP_f (by omega)] at hp1
     subst hp1
     try simp (disch := omega) only [go_sem, Nat.reduceEqDiff, Nat.reduceAdd, Nat.reduceSub, Int.reduceAdd, Int.reduceSub, Int.reduceToNat, Nat.reduceBEq]
     refine ⟨by (try simp (disch := omega) only [go_sem, List.length_set, Nat.reduceEqDiff, Nat.reduceAdd, Nat.reduceSub, Int.reduceAdd, Int.reduceSub, Int.reduceToNat, Nat.reduceBEq]) <;> omega, hN _ [some (0, none), some (1, none), some (2, none), some (3, none), some (4, none), some (5, none), some (6, none), some (7, none), some (8, none), some (9, none), some (10, none), some (11, none), some (12, none), some (13, none), some (14, none), some (15, none), some (16, none), some (17, none), some (18, none), some (19, none), some (20, none), some (21, none), some (22, none), some (23, none), some (24, none), some (25, none), some (26, none), some (27, none), some (28, none), some (29, none), some (30, none), some (31, none), some (32, none), some (33, none), some (34, none), some (35, none), some (36, none), some (37, none), some (38, none), some (39, none), some (40, none), some (41, none), some (42, none), some (43, none), some (44, none), some (45, none)] (weak_mkO (by rfl) (by rfl) ?_)⟩
     simp (disch := omega) only [go_sem, Nat.reduceEqDiff, Nat.reduceAdd, Nat.reduceSub, Int.reduceAdd, Int.reduceSub, Int.reduceToNat, Nat.reduceBEq]
   ·try simp (disch := omega) only [go_sem, Nat.reduceEqDiff, Nat.reduceAdd, Nat.reduceSub, Int.reduceAdd, Int.reduceSub, Int.reduceToNat, Nat.reduceBEq]
    obtain ⟨q1, hq1⟩ : ∃ q, q = ansP nsB (isJB 2 2 x) w.b.now := ⟨_, rfl⟩
    refine den_joinO 22 hE (fun s => s.at [9, 10, 11, 12, 13, 14, 15, 16, 17, 18, 19, 20, 21, 22, 25, 26, 27, 28, 29, 30, 31, 32, 33, 34, 35, 36, 37, 38, 39, 40, 41, 42, 43, 44, 45, 46, 47, 48, 49, 50, 51, 52, 53, 54, 55, 56, 57, 58, 59] [] (((s.hp.take 24).set 22 (some ⟨[(worldC (⟨w.a, w.b, bag, p1, wA, wB, rA, rB, ⟨keys, tags⟩, nums, nsA, nsB⟩ : WorldD) 24 25 26 27 28 29 30 31 32 33 34 35 36 37 38 39 40 41 42 43 44)], 61, 65, true, false⟩)) ++ (endsHp w true ++ (restHp (⟨w.a, w.b, bag, p1, wA, wB, rA, rB, ⟨keys, tags⟩, nums, nsA, nsB⟩ : WorldD) true ++ [some ⟨[x.cs], 19, 70, true, false⟩])))) (by (try simp (disch := omega) only [go_sem, List.length_set, Nat.reduceEqDiff, Nat.reduceAdd, Nat.reduceSub, Int.reduceAdd, Int.reduceSub, Int.reduceToNat, Nat.reduceBEq]) <;> omega) (by rfl) (fun N hN => run_den 401 ?_) (runS_den 1010 400 ?_)
    ·try simp (disch := omega) only [go_sem, Nat.reduceEqDiff, Nat.reduceAdd, Nat.reduceSub, Int.reduceAdd, Int.reduceSub, Int.reduceToNat, Nat.reduceBEq]
     split <;> rename_i b6 <;> (try simp only [beq_true, beq_false, Bool.not_eq_true', Bool.not_eq_false'] at b6) <;> simp (disch := omega) only [go_sem, Nat.reduceEqDiff, Nat.reduceAdd, Nat.reduceSub, Int.reduceAdd, Int.reduceSub, Int.reduceToNat, Nat.reduceBEq, b6] <;> (try simp only [decide_eq_true_eq, decide_eq_false_iff_not, beq_iff_eq, beq_eq_false_iff_ne, bne_iff_ne, bne_eq_false_iff_eq, ne_eq, Decidable.not_not, Bool.and_eq_true, Bool.and_eq_false_iff, Bool.or_eq_true, Bool.or_eq_false_iff, Int.ofNat_lt, Int.ofNat_le, Bool.not_eq_eq_eq_not, Bool.not_true, Bool.not_false] at b6) <;> try simp (disch := omega) only [go_sem, Nat.reduceEqDiff, Nat.reduceAdd, Nat.reduceSub, Int.reduceAdd, Int.reduceSub, Int.reduceToNat, Nat.reduceBEq]
     ·try simp (disch := omega) only [go_sem, Nat.reduceEqDiff, Nat.reduceAdd, Nat.reduceSub, Int.reduceAdd, Int.reduceSub, Int.reduceToNat, Nat.reduceBEq]
      refine ⟨by (try simp (disch := omega) only [go_sem, List.length_set, Nat.reduceEqDiff, Nat.reduceAdd, Nat.reduceSub, Int.reduceAdd, Int.reduceSub, Int.reduceToNat, Nat.reduceBEq]) <;> omega, hN _ [some (0, none), some (1, none), some (2, none), some (3, none), some (4, none), some (5, none), some (6, none), some (7, none), some (8, none), some (9, none), some (10, none), some (11, none), some (12, none), some (13, none), some (14, none), some (15, none), some (16, none), some (17, none), some (18, none), some (19, none), some (20, none), some (21, none), some (22, none), some (23, none), some (24, none), some (25, none), some (26, none), some (27, none), some (28, none), some (29, none), some (30, none), some (31, none), some (32, none), some (33, none), some (34, none), some (35, none), some (36, none), some (37, none), some (38, none), some (39, none), some (40, none), some (41, none), some (42, none), some (43, none), some (44, none), some (45, none)] (weak_mkO (by rfl) (by rfl) ?_)⟩
      simp (disch := omega) only [go_sem, Nat.reduceEqDiff, Nat.reduceAdd, Nat.reduceSub, Int.reduceAdd, Int.reduceSub, Int.reduceToNat, Nat.reduceBEq]
     ·try simp (disch := omega) only [go_sem, Nat.reduceEqDiff, Nat.reduceAdd, Nat.reduceSub, Int.reduceAdd, Int.reduceSub, Int.reduceToNat, Nat.reduceBEq]
      refine ⟨by (try simp (disch := omega) only [go_sem, List.length_set, Nat.reduceEqDiff, Nat.reduceAdd, Nat.reduceSub, Int.reduceAdd, Int.reduceSub, Int.reduceToNat, Nat.reduceBEq]) <;> omega, hN _ [some (0, none), some (1, none), some (2, none), some (3, none), some (4, none), some (5, none), some (6, none), some (7, none), some (8, none), some (9, none), some (10, none), some (11, none), some (12, none), some (13, none), some (14, none), some (15, none), some (16, none), some (17, none), some (18, none), some (19, none), some (20, none), some (21, none), some (22, none), some (23, none), some (24, none), some (25, none), some (26, none), some (27, none), some (28, none), some (29, none), some (30, none), some (31, none), some (32, none), some (33, none), some (34, none), some (35, none), some (36, none), some (37, none), some (38, none), some (39, none), some (40, none), some (41, none), some (42, none), some (43, none), some (44, none), some (45, none)] (weak_mkO (by rfl) (by rfl) ?_)⟩
      simp (disch := omega) only [go_sem, Nat.reduceEqDiff, Nat.reduceAdd, Nat.reduceSub, Int.reduceAdd, Int.reduceSub, Int.reduceToNat, Nat.reduceBEq]
    ·try simp (disch := omega) only [go_sem, Nat.reduceEqDiff, Nat.reduceAdd, Nat.reduceSub, Int.reduceAdd, Int.reduceSub, Int.reduceToNat, Nat.reduceBEq]
     refine den_joinO 22 hE (fun s => s.at [9, 10, 11, 12, 13, 14, 15, 16, 17, 18, 19, 20, 21, 22, 25, 26, 27, 28, 29, 30, 31, 32, 33, 34, 35, 36, 37, 38, 39, 40, 41, 42, 43, 44, 45, 46, 47, 48, 49, 50, 51, 52, 53, 54, 55, 56, 57, 58, 59, 60, 61, 62, 63, 64, 65, 66, 67, 68, 69, 70, 71, 72, 73, 74, 75, 76, 77, 78, 79, 80] [] (((s.hp.take 24).set 22 (some ⟨[(worldC (⟨w.a, w.b, bag, p1, wA, wB, rA, rB, ⟨keys, tags⟩, nums, nsA, q1⟩ : WorldD) 24 25 26 27 28 29 30 31 32 33 34 35 36 37 38 39 40 41 42 43 44)], 61, 65, true, false⟩)) ++ (endsHp w true ++ (restHp (⟨w.a, w.b, bag, p1, wA, wB, rA, rB, ⟨keys, tags⟩, nums, nsA, q1⟩ : WorldD) true ++ [some ⟨[x.cs], 19, 70, true, false⟩])))) (by (try simp (disch := omega) only [go_sem, List.length_set, Nat.reduceEqDiff, Nat.reduceAdd, Nat.reduceSub, Int.reduceAdd, Int.reduceSub, Int.reduceToNat]) <;> omega) (by rfl) (fun N hN => run_den 401 ?_) (run_den 400 ?_)
     ·try simp (disch := omega) only [go_sem, Nat.reduceEqDiff, Nat.reduceAdd, Nat.reduceSub, Int.reduceAdd, Int.reduceSub, Int.reduceToNat]
      split <;> rename_i b2 <;> (try simp only [beq_true, beq_false, Bool.not_eq_true', Bool.not_eq_false'] at b2) <;> simp (disch := omega) only [go_sem, Nat.reduceEqDiff, Nat.reduceAdd, Nat.reduceSub, Int.reduceAdd, Int.reduceSub, Int.reduceToNat, b2] <;> (try simp only [decide_eq_true_eq, decide_eq_false_iff_not, beq_iff_eq, beq_eq_false_iff_ne, bne_iff_ne, bne_eq_false_iff_eq, ne_eq, Decidable.not_not, Bool.and_eq_true, Bool.and_eq_false_iff, Bool.or_eq_true, Bool.or_eq_false_iff, Int.ofNat_lt, Int.ofNat_le, Bool.not_eq_eq_eq_not, Bool.not_true, Bool.not_false] at b2) <;> try simp (disch := omega) only [go_sem, Nat.reduceEqDiff, Nat.reduceAdd, Nat.reduceSub, Int.reduceAdd, Int.reduceSub, Int.reduceToNat]
      ·rw [isJB_t b2] at hq1
       split <;> rename_i b3 <;> (try simp only [beq_true, beq_false, Bool.not_eq_true', Bool.not_eq_false'] at b3) <;> simp (disch := omega) only [go_sem, Nat.reduceEqDiff, Nat.reduceAdd, Nat.reduceSub, Int.reduceAdd, Int.reduceSub, Int.reduceToNat, b3] <;> (try simp only [decide_eq_true_eq, decide_eq_false_iff_not, beq_iff_eq, beq_eq_false_iff_ne, bne_iff_ne, bne_eq_false_iff_eq, ne_eq, Decidable.not_not, Bool.and_eq_true, Bool.and_eq_false_iff, Bool.or_eq_true, Bool.or_eq_false_iff, Int.ofNat_lt, Int.ofNat_le, Bool.not_eq_eq_eq_not, Bool.not_true, Bool.not_false] at b3) <;> try simp (disch := omega) only [go_sem, Nat.reduceEqDiff, Nat.reduceAdd, Nat.reduceSub, Int.reduceAdd, Int.reduceSub, Int.reduceToNat]
       ·rw [ansP_t (by omega)] at hq1
        subst hq1
        try simp (disch := omega) only [go_sem, Nat.reduceEqDiff, Nat.reduceAdd, Nat.reduceSub, Int.reduceAdd, Int.reduceSub, Int.reduceToNat]
        refine ⟨by (try simp (disch := omega) only [go_sem, List.length_set, Nat.reduceEqDiff, Nat.reduceAdd, Nat.reduceSub, Int.reduceAdd, Int.reduceSub, Int.reduceToNat]) <;> omega, hN _ [some (0, none), some (1, none), some (2, none), some (3, none), some (4, none), some (5, none), some (6, none), some (7, none), some (8, none), some (9, none), some (10, none), some (11, none), some (12, none), some (13, none), some (14, none), some (15, none), some (16, none), some (17, none), some (18, none), some (19, none), some (20, none), some (21, none), some (22, none), some (23, none), some (24, none), some (25, none), some (26, none), some (27, none), some (28, none), some (29, none), some (30, none), some (31, none), some (32, none), some (33, none), some (34, none), some (35, none), some (36, none), some (37, none), some (38, none), some (39, none), some (40, none), some (41, none), some (42, none), some (43, none), some (47, none), some (45, none)] (weak_mkO (by rfl) (by rfl) ?_)⟩
        simp (disch := omega) only [go_sem, Nat.reduceEqDiff, Nat.reduceAdd, Nat.reduceSub, Int.reduceAdd, Int.reduceSub, Int.reduceToNat]
        try simp [intC]
       ·rw [ansP_f (by omega)] at hq1
        subst hq1
        try simp (disch := omega) only [go_sem, Nat.reduceEqDiff, Nat.reduceAdd, Nat.reduceSub, Int.reduceAdd, Int.reduceSub, Int.reduceToNat]
        refine ⟨by (try simp (disch := omega) only [go_sem, List.length_set, Nat.reduceEqDiff, Nat.reduceAdd, Nat.reduceSub, Int.reduceAdd, Int.reduceSub, Int.reduceToNat]) <;> omega, hN _ [some (0, none), some (1, none), some (2, none), some (3, none), some (4, none), some (5, none), some (6, none), some (7, none), some (8, none), some (9, none), some (10, none), some (11, none), some (12, none), some (13, none), some (14, none), some (15, none), some (16, none), some (17, none), some (18, none), some (19, none), some (20, none), some (21, none), some (22, none), some (23, none), some (24, none), some (25, none), some (26, none), some (27, none), some (28, none), some (29, none), some (30, none), some (31, none), some (32, none), some (33, none), some (34, none), some (35, none), some (36, none), some (37, none), some (38, none), some (39, none), some (40, none), some (41, none), some (42, none), some (43, none), some (44, none), some (45, none)] (weak_mkO (by rfl) (by rfl) ?_)⟩
        simp (disch := omega) only [go_sem, Nat.reduceEqDiff, Nat.reduceAdd, Nat.reduceSub, Int.reduceAdd, Int.reduceSub, Int.reduceToNat]
      ·rw [isJB_f b2, ansP_f1] at hq1
       subst hq1
       try simp (disch := omega) only [go_sem, Nat.reduceEqDiff, Nat.reduceAdd, Nat.reduceSub, Int.reduceAdd, Int.reduceSub, Int.reduceToNat]
       refine ⟨by (try simp (disch := omega) only [go_sem, List.length_set, Nat.reduceEqDiff, Nat.reduceAdd, Nat.reduceSub, Int.reduceAdd, Int.reduceSub, Int.reduceToNat]) <;> omega, hN _ [some (0, none), some (1, none), some (2, none), some (3, none), some (4, none), some (5, none), some (6, none), some (7, none), some (8, none), some (9, none), some (10, none), some (11, none), some (12, none), some (13, none), some (14, none), some (15, none), some (16, none), some (17, none), some (18, none), some (19, none), some (20, none), some (21, none), some (22, none), some (23, none), some (24, none), some (25, none), some (26, none), some (27, none), some (28, none), some (29, none), some (30, none), some (31, none), some (32, none), some (33, none), some (34, none), some (35, none), some (36, none), some (37, none), some (38, none), some (39, none), some (40, none), some (41, none), some (42, none), some (43, none), some (44, none), some (45, none)] (weak_mkO (by rfl) (by rfl) ?_)⟩
       simp (disch := omega) only [go_sem, Nat.reduceEqDiff, Nat.reduceAdd, Nat.reduceSub, Int.reduceAdd, Int.reduceSub, Int.reduceToNat]
     ·try simp (disch := omega) only [go_sem, Nat.reduceEqDiff, Nat.reduceAdd, Nat.reduceSub, Int.reduceAdd, Int.reduceSub, Int.reduceToNat]
      refine den_call (by (try simp (disch := omega) only [go_sem, List.length_set, Nat.reduceEqDiff, Nat.reduceAdd, Nat.reduceSub, Int.reduceAdd, Int.reduceSub, Int.reduceToNat]) <;> omega) (spec_SideAt x.to) [] (by simp only [go_sem]; repeat' first | rfl | constructor | (rw [List.map_set]; rfl) | (simp [List.map_take, List.map_drop] <;> omega)) (by rfl) (run_den 400 ?_)
      simp (disch := omega) only [go_sem, Nat.reduceEqDiff, Nat.reduceAdd, Nat.reduceSub, Int.reduceAdd, Int.reduceSub, Int.reduceToNat]
      have hoth : ansP nsA (isJB 2 1 x) w.a.now = nsA := by rw [isJB_n (by decide), ansP_f1]
      split <;> rename_i b4 <;> (try simp only [beq_true, beq_false, Bool.not_eq_true', Bool.not_eq_false'] at b4) <;> simp (disch := omega) only [go_sem, Nat.reduceEqDiff, Nat.reduceAdd, Nat.reduceSub, Int.reduceAdd, Int.reduceSub, Int.reduceToNat, b4] <;> (try simp only [decide_eq_true_eq, decide_eq_false_iff_not, beq_iff_eq, beq_eq_false_iff_ne, bne_iff_ne, bne_eq_false_iff_eq, ne_eq, Decidable.not_not, Bool.and_eq_true, Bool.and_eq_false_iff, Bool.or_eq_true, Bool.or_eq_false_iff, Int.ofNat_lt, Int.ofNat_le, Bool.not_eq_eq_eq_not, Bool.not_true, Bool.not_false] at b4) <;> try simp (disch := omega) only [go_sem, Nat.reduceEqDiff, Nat.reduceAdd, Nat.reduceSub, Int.reduceAdd, Int.reduceSub, Int.reduceToNat]
      ·have hK := spec_Learn ⟨keys, tags⟩ x.tag (by dsimp only; omega) (by dsimp only; omega)
       have hky : (learn ⟨keys, tags⟩ x.tag).keys.length ≤ 1048576 := by rw [learn_keys]; exact s3
       have hkt : (learn ⟨keys, tags⟩ x.tag).tags.length ≤ 1048576 := learn_le s4
       obtain ⟨kk, hkk⟩ : ∃ k, k = learn ⟨keys, tags⟩ x.tag := ⟨_, rfl⟩
       rw [← hkk] at hK hky hkt
       obtain ⟨k1, t1⟩ := kk
       dsimp only at hky hkt
       have t5a : (numP nums x.nonce).length ≤ 1048576 := numP_le s5
       have t5b : (numP (numP nums x.nonce) x.give).length ≤ 1048576 := numP_le t5a
       have hh1 := spec_l23Hears (⟨w.a, w.b, bag, p1, wA, wB, rA, rB, ⟨k1, t1⟩, nums, nsA, q1⟩ : WorldD) x.nonce (by dsimp only; omega)
       have hh2 := spec_l23Hears (⟨w.a, w.b, bag, p1, wA, wB, rA, rB, ⟨k1, t1⟩, (numP nums x.nonce), nsA, q1⟩ : WorldD) x.give (by dsimp only; omega)
       have hh3 := spec_l23Hears (⟨w.a, w.b, bag, p1, wA, wB, rA, rB, ⟨k1, t1⟩, (numP (numP nums x.nonce) x.give), nsA, q1⟩ : WorldD) x.sgn (by dsimp only; omega)
       dsimp only at hh1 hh2 hh3
       have e : post1 2 (⟨w.a, w.b, bag, past, wA, wB, rA, rB, ⟨keys, tags⟩, nums, nsA, nsB⟩ : WorldD) x = (⟨w.a, w.b, bag, p1, wA, wB, rA, rB, ⟨k1, t1⟩, (numP (numP (numP nums x.nonce) x.give) x.sgn), nsA, q1⟩ : WorldD) := by
        rw [post1, if_pos b4, heard, notes]
        dsimp only
        rw [← hkk, hoth, ← hp1, ← hq1]
       rw [e] at hu
       have hS1 := post1_small (side := 2) (x := x) hS
       rw [e] at hS1
       generalize numP nums x.nonce = m1 at *
       generalize numP m1 x.give = m2 at *
       generalize numP m2 x.sgn = m3 at *
       try simp (disch := omega) only [go_sem, Nat.reduceEqDiff, Nat.reduceAdd, Nat.reduceSub, Int.reduceAdd, Int.reduceSub, Int.reduceToNat]
       refine den_call (by (try simp (disch := omega) only [go_sem, List.length_set, Nat.reduceEqDiff, Nat.reduceAdd, Nat.reduceSub, Int.reduceAdd, Int.reduceSub, Int.reduceToNat]) <;> omega) (hK) [some (40, none), some (41, none)] (by simp only [go_sem]; repeat' first | rfl | constructor | (rw [List.map_set]; rfl) | (simp [List.map_take, List.map_drop] <;> omega)) (by rfl) (run_den 400 ?_)
       simp (disch := omega) only [go_sem, Nat.reduceEqDiff, Nat.reduceAdd, Nat.reduceSub, Int.reduceAdd, Int.reduceSub, Int.reduceToNat]
       refine den_call (by (try simp (disch := omega) only [go_sem, List.length_set, Nat.reduceEqDiff, Nat.reduceAdd, Nat.reduceSub, Int.reduceAdd, Int.reduceSub, Int.reduceToNat]) <;> omega) (hh1) [some (24, none), some (25, none), some (26, none), some (27, none), some (28, none), some (29, none), some (30, none), some (31, none), some (32, none), some (33, none), some (34, none), some (35, none), some (36, none), some (37, none), some (38, none), some (39, none), some (46, none), some (47, none), some (42, none), some (43, none), some (44, none)] (by simp only [go_sem]; repeat' first | rfl | constructor | (rw [List.map_set]; rfl) | (simp [List.map_take, List.map_drop] <;> omega)) (by rfl) (run_den 400 ?_)
       simp (disch := omega) only [go_sem, Nat.reduceEqDiff, Nat.reduceAdd, Nat.reduceSub, Int.reduceAdd, Int.reduceSub, Int.reduceToNat]
       refine den_call (by (try simp (disch := omega) only [go_sem, List.length_set, Nat.reduceEqDiff, Nat.reduceAdd, Nat.reduceSub, Int.reduceAdd, Int.reduceSub, Int.reduceToNat]) <;> omega) (hh2) [some (24, none), some (25, none), some (26, none), some (27, none), some (28, none), some (29, none), some (30, none), some (31, none), some (32, none), some (33, none), some (34, none), some (35, none), some (36, none), some (37, none), some (38, none), some (39, none), some (46, none), some (47, none), some (48, none), some (43, none), some (44, none)] (by simp only [go_sem]; repeat' first | rfl | constructor | (rw [List.map_set]; rfl) | (simp [List.map_take, List.map_drop] <;> omega)) (by rfl) (run_den 400 ?_)
       simp (disch := omega) only [go_sem, Nat.reduceEqDiff, Nat.reduceAdd, Nat.reduceSub, Int.reduceAdd, Int.reduceSub, Int.reduceToNat]
       refine den_call (by (try simp (disch := omega) only [go_sem, List.length_set, Nat.reduceEqDiff, Nat.reduceAdd, Nat.reduceSub, Int.reduceAdd, Int.reduceSub, Int.reduceToNat]) <;> omega) (hh3) [some (24, none), some (25, none), some (26, none), some (27, none), some (28, none), some (29, none), some (30, none), some (31, none), some (32, none), some (33, none), some (34, none), some (35, none), some (36, none), some (37, none), some (38, none), some (39, none), some (46, none), some (47, none), some (49, none), some (43, none), some (44, none)] (by simp only [go_sem]; repeat' first | rfl | constructor | (rw [List.map_set]; rfl) | (simp [List.map_take, List.map_drop] <;> omega)) (by rfl) (run_den 400 ?_)
       simp (disch := omega) only [go_sem, Nat.reduceEqDiff, Nat.reduceAdd, Nat.reduceSub, Int.reduceAdd, Int.reduceSub, Int.reduceToNat]
       refine ⟨by (try simp (disch := omega) only [go_sem, List.length_set, Nat.reduceEqDiff, Nat.reduceAdd, Nat.reduceSub, Int.reduceAdd, Int.reduceSub, Int.reduceToNat]) <;> omega, hN _ (i + 1, (⟨w.a, w.b, bag, p1, wA, wB, rA, rB, ⟨k1, t1⟩, m3, nsA, q1⟩ : WorldD)) [some (0, none), some (1, none), some (2, none), some (3, none), some (4, none), some (5, none), some (6, none), some (7, none), some (8, none), some (9, none), some (10, none), some (11, none), some (12, none), some (13, none), some (14, none), some (15, none), some (16, none), some (17, none), some (18, none), some (19, none), some (20, none), some (21, none), some (22, none), some (23, none), some (24, none), some (25, none), some (26, none), some (27, none), some (28, none), some (29, none), some (30, none), some (31, none), some (32, none), some (33, none), some (34, none), some (35, none), some (36, none), some (37, none), some (38, none), some (39, none), some (46, none), some (47, none), some (50, none), some (43, none), some (44, none)] (by (try dsimp only); exact ⟨by omega, rfl, rfl, hS1, hu⟩) (by (try dsimp only); omega) (weak_mkO (by rfl) (by rfl) ?_)⟩
       try simp (disch := omega) only [go_sem, Nat.reduceEqDiff, Nat.reduceAdd, Nat.reduceSub, Int.reduceAdd, Int.reduceSub, Int.reduceToNat]
      ·obtain ⟨g1, hg1⟩ : ∃ g, g = bagP bag x := ⟨_, rfl⟩
       have e : post1 2 (⟨w.a, w.b, bag, past, wA, wB, rA, rB, ⟨keys, tags⟩, nums, nsA, nsB⟩ : WorldD) x = (⟨w.a, w.b, g1, p1, wA, wB, rA, rB, ⟨keys, tags⟩, nums, nsA, q1⟩ : WorldD) := by
        rw [post1, if_neg b4, notes]
        dsimp only
        rw [hoth, ← hp1, ← hq1, ← hg1]
       rw [e] at hu
       have hS1 := post1_small (side := 2) (x := x) hS
       rw [e] at hS1
       try simp (disch := omega) only [go_sem, Nat.reduceEqDiff, Nat.reduceAdd, Nat.reduceSub, Int.reduceAdd, Int.reduceSub, Int.reduceToNat]
       split <;> rename_i b5 <;> (try simp only [beq_true, beq_false, Bool.not_eq_true', Bool.not_eq_false'] at b5) <;> simp (disch := omega) only [go_sem, Nat.reduceEqDiff, Nat.reduceAdd, Nat.reduceSub, Int.reduceAdd, Int.reduceSub, Int.reduceToNat, b5] <;> (try simp only [decide_eq_true_eq, decide_eq_false_iff_not, beq_iff_eq, beq_eq_false_iff_ne, bne_iff_ne, bne_eq_false_iff_eq, ne_eq, Decidable.not_not, Bool.and_eq_true, Bool.and_eq_false_iff, Bool.or_eq_true, Bool.or_eq_false_iff, Int.ofNat_lt, Int.ofNat_le, Bool.not_eq_eq_eq_not, Bool.not_true, Bool.not_false] at b5) <;> try simp (disch := omega) only [go_sem, Nat.reduceEqDiff, Nat.reduceAdd, Nat.reduceSub, Int.reduceAdd, Int.reduceSub, Int.reduceToNat]
       ·rw [bagP_t (by omega)] at hg1
        subst hg1
        try simp (disch := omega) only [go_sem, Nat.reduceEqDiff, Nat.reduceAdd, Nat.reduceSub, Int.reduceAdd, Int.reduceSub, Int.reduceToNat]
        refine ⟨by (try simp (disch := omega) only [go_sem, List.length_set, Nat.reduceEqDiff, Nat.reduceAdd, Nat.reduceSub, Int.reduceAdd, Int.reduceSub, Int.reduceToNat]) <;> omega, hN _ (i + 1, (⟨w.a, w.b, (bag ++ [x]), p1, wA, wB, rA, rB, ⟨keys, tags⟩, nums, nsA, q1⟩ : WorldD)) [some (0, none), some (1, none), some (2, none), some (3, none), some (4, none), some (5, none), some (6, none), some (7, none), some (8, none), some (9, none), some (10, none), some (11, none), some (12, none), some (13, none), some (14, none), some (15, none), some (16, none), some (17, none), some (18, none), some (19, none), some (20, none), some (21, none), some (22, none), some (23, none), some (24, none), some (25, none), some (26, none), some (27, none), some (28, none), some (29, none), some (30, none), some (31, none), some (32, none), some (33, none), some (34, none), some (35, none), some (36, none), some (37, none), some (47, none), some (39, none), some (40, none), some (41, none), some (42, none), some (43, none), some (44, none)] (by (try dsimp only); exact ⟨by omega, rfl, rfl, hS1, hu⟩) (by (try dsimp only); omega) (weak_mkO (by rfl) (by rfl) ?_)⟩
        try simp (disch := omega) only [go_sem, Nat.reduceEqDiff, Nat.reduceAdd, Nat.reduceSub, Int.reduceAdd, Int.reduceSub, Int.reduceToNat]
        try simp [LetterD.cs]
       ·rw [bagP_f (by omega)] at hg1
        subst hg1
        try simp (disch := omega) only [go_sem, Nat.reduceEqDiff, Nat.reduceAdd, Nat.reduceSub, Int.reduceAdd, Int.reduceSub, Int.reduceToNat]
        refine ⟨by (try simp (disch := omega) only [go_sem, List.length_set, Nat.reduceEqDiff, Nat.reduceAdd, Nat.reduceSub, Int.reduceAdd, Int.reduceSub, Int.reduceToNat]) <;> omega, hN _ (i + 1, (⟨w.a, w.b, g1, p1, wA, wB, rA, rB, ⟨keys, tags⟩, nums, nsA, q1⟩ : WorldD)) [some (0, none), some (1, none), some (2, none), some (3, none), some (4, none), some (5, none), some (6, none), some (7, none), some (8, none), some (9, none), some (10, none), some (11, none), some (12, none), some (13, none), some (14, none), some (15, none), some (16, none), some (17, none), some (18, none), some (19, none), some (20, none), some (21, none), some (22, none), some (23, none), some (24, none), some (25, none), some (26, none), some (27, none), some (28, none), some (29, none), some (30, none), some (31, none), some (32, none), some (33, none), some (34, none), some (35, none), some (36, none), some (37, none), some (38, none), some (39, none), some (40, none), some (41, none), some (42, none), some (43, none), some (44, none)] (by (try dsimp only); exact ⟨by omega, rfl, rfl, hS1, hu⟩) (by (try dsimp only); omega) (weak_mkO (by rfl) (by rfl) ?_)⟩
        try simp (disch := omega) only [go_sem, Nat.reduceEqDiff, Nat.reduceAdd, Nat.reduceSub, Int.reduceAdd, Int.reduceSub, Int.reduceToNat]
end
section
open Go.RowKit

theorem lands_0 {w : WorldD} {x : LetterD} (h : sideAt x.to = 0) : lands w x = w := by rw [lands, if_pos h]
theorem lands_1 {w : WorldD} {x : LetterD} (h : sideAt x.to = 1) : lands w x = postL 1 { w with a := (hear w.a x).1 } (hear w.a x).2 := by rw [lands, h]; rfl
theorem lands_2 {w : WorldD} {x : LetterD} (h : sideAt x.to = 2) : lands w x = postL 2 { w with b := (hear w.b x).1 } (hear w.b x).2 := by rw [lands, h]; rfl
structure SmallWP (w : WorldD) : Prop where
 s : SmallW w
 pa : SmallP w.a.inp
 pb : SmallP w.b.inp
theorem impl_Lands (w : WorldD) (x : LetterD) (hw : SmallWP w) : CallA Tryz.prog 14 [.ag (w.cs 0), .ag x.cs] (w.hp false) (.ag ((lands w x).cs 21)) (w.hp false ++ (lands w x).hp true) := by
 have hC := impl_copyWorld w hw.s
 have hS := impl_SideAt x.to
 obtain ⟨R, hR⟩ : ∃ R, R = lands w x := ⟨_, rfl⟩
 rw [← hR]
 rcases sideAt_12 x.to with h0 | h0 | h0
 ·rw [lands_0 h0] at hR
  subst hR
  rw [h0] at hS
  refine qEO Tryz.func14 Tryz.ntmps14 Tryz.results14 fun E hE => ?_
  refine qK (hC) (qA [0, 1, 2, 3, 4, 5, 6, 7, 8, 9, 10, 11, 12, 13, 14, 15, 16, 17, 18, 19, 20]) ?_
  refine qK (hS) [] ?_
  exact qFO (qA [0, 1, 2, 3, 4, 5, 6, 7, 8, 9, 10, 11, 12, 13, 14, 15, 16, 17, 18, 19, 20, 24, 25, 26, 27, 28, 29, 30, 31, 32, 33, 34, 35, 36, 37, 38, 39, 40, 41, 42, 43, 44])
 ·rw [lands_1 h0] at hR
  rw [h0] at hS
  have hEA : CallA Tryz.prog 56 [.ag (w.cs 0), .sc (.int .i64 1)] (w.hp false) (.ag (w.a.cs 21)) (w.hp false ++ w.a.hp true) := impl_EndAt w 1 hw.s.a.own hw.s.a.far hw.s.a.subs hw.s.a.halfs hw.s.a.list hw.s.a.done hw.s.a.over hw.s.b.own hw.s.b.far hw.s.b.subs hw.s.b.halfs hw.s.b.list hw.s.b.done hw.s.b.over
  have hH := impl_Hear w.a x hw.s.a hw.pa
  have hsm := hear_small (e := w.a) (x := x) hw.s.a
  have hone := hear_one (e := w.a) (x := x)
  obtain ⟨pr, hpr⟩ : ∃ p, p = hear w.a x := ⟨_, rfl⟩
  rw [← hpr] at hH hsm hone hR
  obtain ⟨e1, l1⟩ := pr
  dsimp only at hH hsm hone hR
  have hends := postL_ends (side := 1) (l := l1) (w := { w with a := e1 })
  rw [← hR] at hends
  have hset := impl_set1 w e1
  have hpost := impl_post1 { w with a := e1 } l1 ⟨hw.s.bag, hw.s.past, hw.s.keys, hw.s.tags, hw.s.nums, hw.s.ansA, hw.s.ansB⟩ (by omega)
  rw [← hR] at hpost
  clear hR hpr
  obtain ⟨ra, rb, bag, past, wA, wB, rA, rB, known, nums, nsA, nsB⟩ := R
  obtain ⟨keys, tags⟩ := known
  dsimp only at hends
  obtain ⟨g1, g2, g3, g4, g5, g6⟩ := hends
  replace g1 := g1.symm
  replace g2 := g2.symm
  replace g3 := g3.symm
  replace g4 := g4.symm
  replace g5 := g5.symm
  replace g6 := g6.symm
  subst g1 g2 g3 g4 g5 g6
  refine qEO Tryz.func14 Tryz.ntmps14 Tryz.results14 fun E hE => ?_
  refine qK (hC) (qA [0, 1, 2, 3, 4, 5, 6, 7, 8, 9, 10, 11, 12, 13, 14, 15, 16, 17, 18, 19, 20]) ?_
  refine qK (hS) [] ?_
  refine den_drawX [(2, 8), (4, 8)] [(2, 4)] [[0, 1, 3, 2, 4, 5, 6, 7, 8, 9, 10], [0, 1, 3, 2, 8, 4, 5, 6, 7, 9, 10], [0, 1, 3, 8, 2, 4, 5, 6, 7, 9, 10]] 21 hE (fun s => s.at [16, 17, 18, 19, 20, 21, 22, 23] [(7, .sc (.pt 61 0 0)), (8, .sc (.sl 60 0 l1.length))] (s.hp ++ (w.a.hp true ++ (e1.hp true ++ [some ⟨l1.map LetterD.cs, 19, 70, true, true⟩, some ⟨[e1.cs 53], 25, 59, true, false⟩])))) (by kernel_rfl) (qC) (by kernel_rfl) ?_ (run_den 400 ?_)
  rotate_left
  rotate_right
  simp only [allDn]
  refine ⟨runD_den 400 ?_, runD_den 400 ?_, runD_den 400 ?_⟩
  ·simp (disch := omega) only [go_sem, Nat.reduceEqDiff, Nat.reduceAdd, Nat.reduceSub, Int.reduceAdd, Int.reduceSub, Int.reduceToNat]
   refine qKD (hEA) (qA [0, 1, 2, 3, 4, 5, 6, 7, 8, 9, 10, 11, 12, 13, 14, 15, 16, 17, 18, 19, 20]) ?_
   refine qKD (hH) (qA [46, 47, 48, 49, 50, 51, 52]) ?_
   refine ⟨qC, (qA [0, 1, 2, 3, 4, 5, 6, 7, 8, 9, 10, 11, 12, 13, 14, 15, 16, 17, 18, 19, 20, 21, 22, 23, 24, 25, 26, 27, 28, 29, 30, 31, 32, 33, 34, 35, 36, 37, 38, 39, 40, 41, 42, 43, 44, 45, 46, 47, 48, 49, 50, 51, 52, 53, 54, 55, 56, 57, 58, 59, 60, 61]), weak_mkO (by rfl) (by rfl) ?_⟩
   try simp (disch := omega) only [go_sem, Nat.reduceEqDiff, Nat.reduceAdd, Nat.reduceSub, Int.reduceAdd, Int.reduceSub, Int.reduceToNat]
  ·simp (disch := omega) only [go_sem, Nat.reduceEqDiff, Nat.reduceAdd, Nat.reduceSub, Int.reduceAdd, Int.reduceSub, Int.reduceToNat]
   refine qKD (hEA) (qA [0, 1, 2, 3, 4, 5, 6, 7, 8, 9, 10, 11, 12, 13, 14, 15, 16, 17, 18, 19, 20]) ?_
   refine qKD (hH) (qA [46, 47, 48, 49, 50, 51, 52]) ?_
   refine ⟨qC, (qA [0, 1, 2, 3, 4, 5, 6, 7, 8, 9, 10, 11, 12, 13, 14, 15, 16, 17, 18, 19, 20, 21, 22, 23, 24, 25, 26, 27, 28, 29, 30, 31, 32, 33, 34, 35, 36, 37, 38, 39, 40, 41, 42, 43, 44, 45, 46, 47, 48, 49, 50, 51, 52, 54, 55, 56, 57, 58, 59, 60, 61, 53]), weak_mkO (by rfl) (by rfl) ?_⟩
   try simp (disch := omega) only [go_sem, Nat.reduceEqDiff, Nat.reduceAdd, Nat.reduceSub, Int.reduceAdd, Int.reduceSub, Int.reduceToNat]
  ·simp (disch := omega) only [go_sem, Nat.reduceEqDiff, Nat.reduceAdd, Nat.reduceSub, Int.reduceAdd, Int.reduceSub, Int.reduceToNat]
   refine qKD (hEA) (qA [0, 1, 2, 3, 4, 5, 6, 7, 8, 9, 10, 11, 12, 13, 14, 15, 16, 17, 18, 19, 20]) ?_
   refine qKD (hH) (qA [47, 48, 49, 50, 51, 52, 53]) ?_
   refine ⟨qC, (qA [0, 1, 2, 3, 4, 5, 6, 7, 8, 9, 10, 11, 12, 13, 14, 15, 16, 17, 18, 19, 20, 21, 22, 23, 24, 25, 26, 27, 28, 29, 30, 31, 32, 33, 34, 35, 36, 37, 38, 39, 40, 41, 42, 43, 44, 45, 47, 48, 49, 50, 51, 52, 53, 54, 55, 56, 57, 58, 59, 60, 61, 46]), weak_mkO (by rfl) (by rfl) ?_⟩
   try simp (disch := omega) only [go_sem, Nat.reduceEqDiff, Nat.reduceAdd, Nat.reduceSub, Int.reduceAdd, Int.reduceSub, Int.reduceToNat]
  refine qX ?_
  refine qK (hset) (qA [24, 25, 26, 27, 28, 29, 30, 31, 32, 33, 34, 35, 36, 37, 38, 39, 40, 41, 42, 43, 44, 53, 54, 55, 56, 57, 58, 59, 45]) ?_
  refine qK (hpost) (qA [53, 54, 55, 56, 57, 58, 59, 31, 32, 33, 34, 35, 36, 37, 38, 39, 40, 41, 42, 43, 44, 45, 60]) ?_
  exact qFO (qA [0, 1, 2, 3, 4, 5, 6, 7, 8, 9, 10, 11, 12, 13, 14, 15, 16, 17, 18, 19, 20, 53, 54, 55, 56, 57, 58, 59, 31, 32, 33, 34, 35, 36, 37, 62, 63, 64, 65, 66, 67, 68])
 ·rw [lands_2 h0] at hR
  rw [h0] at hS
  have hEA : CallA Tryz.prog 56 [.ag (w.cs 0), .sc (.int .i64 2)] (w.hp false) (.ag (w.b.cs 21)) (w.hp false ++ w.b.hp true) := impl_EndAt w 2 hw.s.a.own hw.s.a.far hw.s.a.subs hw.s.a.halfs hw.s.a.list hw.s.a.done hw.s.a.over hw.s.b.own hw.s.b.far hw.s.b.subs hw.s.b.halfs hw.s.b.list hw.s.b.done hw.s.b.over
  have hH := impl_Hear w.b x hw.s.b hw.pb
  have hsm := hear_small (e := w.b) (x := x) hw.s.b
  have hone := hear_one (e := w.b) (x := x)
  obtain ⟨pr, hpr⟩ : ∃ p, p = hear w.b x := ⟨_, rfl⟩
  rw [← hpr] at hH hsm hone hR
  obtain ⟨e1, l1⟩ := pr
  dsimp only at hH hsm hone hR
  have hends := postL_ends (side := 2) (l := l1) (w := { w with b := e1 })
  rw [← hR] at hends
  have hset := impl_set2 w e1
  have hpost := impl_post2 { w with b := e1 } l1 ⟨hw.s.bag, hw.s.past, hw.s.keys, hw.s.tags, hw.s.nums, hw.s.ansA, hw.s.ansB⟩ (by omega)
  rw [← hR] at hpost
  clear hR hpr
  obtain ⟨ra, rb, bag, past, wA, wB, rA, rB, known, nums, nsA, nsB⟩ := R
  obtain ⟨keys, tags⟩ := known
  dsimp only at hends
  obtain ⟨g1, g2, g3, g4, g5, g6⟩ := hends
  replace g1 := g1.symm
  replace g2 := g2.symm
  replace g3 := g3.symm
  replace g4 := g4.symm
  replace g5 := g5.symm
  replace g6 := g6.symm
  subst g1 g2 g3 g4 g5 g6
  refine qEO Tryz.func14 Tryz.ntmps14 Tryz.results14 fun E hE => ?_
  refine qK (hC) (qA [0, 1, 2, 3, 4, 5, 6, 7, 8, 9, 10, 11, 12, 13, 14, 15, 16, 17, 18, 19, 20]) ?_
  refine qK (hS) [] ?_
  refine den_drawX [(2, 8), (4, 8)] [(2, 4)] [[0, 1, 3, 2, 4, 5, 6, 7, 8, 9, 10], [0, 1, 3, 2, 8, 4, 5, 6, 7, 9, 10], [0, 1, 3, 8, 2, 4, 5, 6, 7, 9, 10]] 21 hE (fun s => s.at [16, 17, 18, 19, 20, 21, 22, 23] [(7, .sc (.pt 61 0 0)), (8, .sc (.sl 60 0 l1.length))] (s.hp ++ (w.b.hp true ++ (e1.hp true ++ [some ⟨l1.map LetterD.cs, 19, 70, true, true⟩, some ⟨[e1.cs 53], 25, 59, true, false⟩])))) (by kernel_rfl) (qC) (by kernel_rfl) ?_ (run_den 400 ?_)
  rotate_left
  rotate_right
  simp only [allDn]
  refine ⟨runD_den 400 ?_, runD_den 400 ?_, runD_den 400 ?_⟩
  ·simp (disch := omega) only [go_sem, Nat.reduceEqDiff, Nat.reduceAdd, Nat.reduceSub, Int.reduceAdd, Int.reduceSub, Int.reduceToNat]
   refine qKD (hEA) (qA [0, 1, 2, 3, 4, 5, 6, 7, 8, 9, 10, 11, 12, 13, 14, 15, 16, 17, 18, 19, 20]) ?_
   refine qKD (hH) (qA [46, 47, 48, 49, 50, 51, 52]) ?_
   refine ⟨qC, (qA [0, 1, 2, 3, 4, 5, 6, 7, 8, 9, 10, 11, 12, 13, 14, 15, 16, 17, 18, 19, 20, 21, 22, 23, 24, 25, 26, 27, 28, 29, 30, 31, 32, 33, 34, 35, 36, 37, 38, 39, 40, 41, 42, 43, 44, 45, 46, 47, 48, 49, 50, 51, 52, 53, 54, 55, 56, 57, 58, 59, 60, 61]), weak_mkO (by rfl) (by rfl) ?_⟩
   try simp (disch := omega) only [go_sem, Nat.reduceEqDiff, Nat.reduceAdd, Nat.reduceSub, Int.reduceAdd, Int.reduceSub, Int.reduceToNat]
  ·simp (disch := omega) only [go_sem, Nat.reduceEqDiff, Nat.reduceAdd, Nat.reduceSub, Int.reduceAdd, Int.reduceSub, Int.reduceToNat]
   refine qKD (hEA) (qA [0, 1, 2, 3, 4, 5, 6, 7, 8, 9, 10, 11, 12, 13, 14, 15, 16, 17, 18, 19, 20]) ?_
   refine qKD (hH) (qA [46, 47, 48, 49, 50, 51, 52]) ?_
   refine ⟨qC, (qA [0, 1, 2, 3, 4, 5, 6, 7, 8, 9, 10, 11, 12, 13, 14, 15, 16, 17, 18, 19, 20, 21, 22, 23, 24, 25, 26, 27, 28, 29, 30, 31, 32, 33, 34, 35, 36, 37, 38, 39, 40, 41, 42, 43, 44, 45, 46, 47, 48, 49, 50, 51, 52, 54, 55, 56, 57, 58, 59, 60, 61, 53]), weak_mkO (by rfl) (by rfl) ?_⟩
   try simp (disch := omega) only [go_sem, Nat.reduceEqDiff, Nat.reduceAdd, Nat.reduceSub, Int.reduceAdd, Int.reduceSub, Int.reduceToNat]
  ·simp (disch := omega) only [go_sem, Nat.reduceEqDiff, Nat.reduceAdd, Nat.reduceSub, Int.reduceAdd, Int.reduceSub, Int.reduceToNat]
   refine qKD (hEA) (qA [0, 1, 2, 3, 4, 5, 6, 7, 8, 9, 10, 11, 12, 13, 14, 15, 16, 17, 18, 19, 20]) ?_
   refine qKD (hH) (qA [47, 48, 49, 50, 51, 52, 53]) ?_
   refine ⟨qC, (qA [0, 1, 2, 3, 4, 5, 6, 7, 8, 9, 10, 11, 12, 13, 14, 15, 16, 17, 18, 19, 20, 21, 22, 23, 24, 25, 26, 27, 28, 29, 30, 31, 32, 33, 34, 35, 36, 37, 38, 39, 40, 41, 42, 43, 44, 45, 47, 48, 49, 50, 51, 52, 53, 54, 55, 56, 57, 58, 59, 60, 61, 46]), weak_mkO (by rfl) (by rfl) ?_⟩
   try simp (disch := omega) only [go_sem, Nat.reduceEqDiff, Nat.reduceAdd, Nat.reduceSub, Int.reduceAdd, Int.reduceSub, Int.reduceToNat]
  refine qX ?_
  refine qK (hset) (qA [24, 25, 26, 27, 28, 29, 30, 31, 32, 33, 34, 35, 36, 37, 38, 39, 40, 41, 42, 43, 44, 53, 54, 55, 56, 57, 58, 59, 45]) ?_
  refine qK (hpost) (qA [24, 25, 26, 27, 28, 29, 30, 53, 54, 55, 56, 57, 58, 59, 38, 39, 40, 41, 42, 43, 44, 45, 60]) ?_
  exact qFO (qA [0, 1, 2, 3, 4, 5, 6, 7, 8, 9, 10, 11, 12, 13, 14, 15, 16, 17, 18, 19, 20, 24, 25, 26, 27, 28, 29, 30, 53, 54, 55, 56, 57, 58, 59, 62, 63, 64, 65, 66, 67, 68])
theorem spec_Lands (w : WorldD) (x : LetterD) (hw : SmallWP w) : CallA Tryz.prog 11 [.ag (w.cs 0), .ag x.cs] (w.hp false) (.ag ((lands w x).cs 21)) (w.hp false ++ (lands w x).hp true) := by
 have hC := spec_l23Copy w hw.s
 have hS := spec_SideAt x.to
 obtain ⟨R, hR⟩ : ∃ R, R = lands w x := ⟨_, rfl⟩
 rw [← hR]
 rcases sideAt_12 x.to with h0 | h0 | h0
 ·rw [lands_0 h0] at hR
  subst hR
  rw [h0] at hS
  refine qEO Tryz.func11 Tryz.ntmps11 Tryz.results11 fun E hE => ?_
  refine qK (hS) [] ?_
  refine qK (hC) (qA [0, 1, 2, 3, 4, 5, 6, 7, 8, 9, 10, 11, 12, 13, 14, 15, 16, 17, 18, 19, 20]) ?_
  exact qFO (qA [0, 1, 2, 3, 4, 5, 6, 7, 8, 9, 10, 11, 12, 13, 14, 15, 16, 17, 18, 19, 20, 24, 25, 26, 27, 28, 29, 30, 31, 32, 33, 34, 35, 36, 37, 38, 39, 40, 41, 42, 43, 44])
 ·rw [lands_1 h0] at hR
  rw [h0] at hS
  have hEA : CallA Tryz.prog 45 [.ag (w.cs 0), .sc (.int .i64 1)] (w.hp false) (.ag (w.a.cs 21)) (w.hp false ++ w.a.hp true) := spec_EndAt w 1 hw.s.a.own hw.s.a.far hw.s.a.subs hw.s.a.halfs hw.s.a.list hw.s.a.done hw.s.a.over hw.s.b.own hw.s.b.far hw.s.b.subs hw.s.b.halfs hw.s.b.list hw.s.b.done hw.s.b.over
  have hH := spec_Hear w.a x hw.s.a hw.pa
  have hsm := hear_small (e := w.a) (x := x) hw.s.a
  have hone := hear_one (e := w.a) (x := x)
  obtain ⟨pr, hpr⟩ : ∃ p, p = hear w.a x := ⟨_, rfl⟩
  rw [← hpr] at hH hsm hone hR
  obtain ⟨e1, l1⟩ := pr
  dsimp only at hH hsm hone hR
  have hends := postL_ends (side := 1) (l := l1) (w := { w with a := e1 })
  rw [← hR] at hends
  have hset := spec_l23Set1 w e1
  have hpost := spec_Posted1 { w with a := e1 } l1 ⟨hsm, hw.s.b, hw.s.bag, hw.s.past, hw.s.keys, hw.s.tags, hw.s.nums, hw.s.ansA, hw.s.ansB⟩ (by omega)
  rw [← hR] at hpost
  clear hR hpr
  obtain ⟨ra, rb, bag, past, wA, wB, rA, rB, known, nums, nsA, nsB⟩ := R
  obtain ⟨keys, tags⟩ := known
  dsimp only at hends
  obtain ⟨g1, g2, g3, g4, g5, g6⟩ := hends
  replace g1 := g1.symm
  replace g2 := g2.symm
  replace g3 := g3.symm
  replace g4 := g4.symm
  replace g5 := g5.symm
  replace g6 := g6.symm
  subst g1 g2 g3 g4 g5 g6
  refine qEO Tryz.func11 Tryz.ntmps11 Tryz.results11 fun E hE => ?_
  refine qK (hS) [] ?_
  refine qK (hC) (qA [0, 1, 2, 3, 4, 5, 6, 7, 8, 9, 10, 11, 12, 13, 14, 15, 16, 17, 18, 19, 20]) ?_
  refine den_drawX [(2, 8), (4, 8)] [(2, 4)] [[0, 1, 3, 2, 4, 5, 6, 7, 8, 9, 10], [0, 1, 3, 2, 8, 4, 5, 6, 7, 9, 10], [0, 1, 3, 8, 2, 4, 5, 6, 7, 9, 10]] 21 hE (fun s => s.at [16, 17, 18, 19, 20, 21, 22, 23] [(6, .sc (.pt 60 0 0)), (7, .sc (.sl 59 0 l1.length))] (s.hp ++ (w.a.hp true ++ (e1.hpS ++ [some ⟨l1.map LetterD.cs, 19, 70, true, true⟩, some ⟨[e1.cs 52], 25, 59, true, false⟩])))) (by kernel_rfl) (qC) (by kernel_rfl) ?_ (run_den 400 ?_)
  rotate_left
  rotate_right
  simp only [allDn]
  refine ⟨runD_den 400 ?_, runD_den 400 ?_, runD_den 400 ?_⟩
  ·simp (disch := omega) only [go_sem, Nat.reduceEqDiff, Nat.reduceAdd, Nat.reduceSub, Int.reduceAdd, Int.reduceSub, Int.reduceToNat]
   refine qKD (hEA) (qA [24, 25, 26, 27, 28, 29, 30, 31, 32, 33, 34, 35, 36, 37, 38, 39, 40, 41, 42, 43, 44]) ?_
   refine qKD (hH) (qA [45, 46, 47, 48, 49, 50, 51]) ?_
   refine ⟨qC, (qA [0, 1, 2, 3, 4, 5, 6, 7, 8, 9, 10, 11, 12, 13, 14, 15, 16, 17, 18, 19, 20, 21, 22, 23, 24, 25, 26, 27, 28, 29, 30, 31, 32, 33, 34, 35, 36, 37, 38, 39, 40, 41, 42, 43, 44, 45, 46, 47, 48, 49, 50, 51, 52, 53, 54, 55, 56, 57, 58, 59, 60]), weak_mkO (by rfl) (by rfl) ?_⟩
   try simp (disch := omega) only [go_sem, Nat.reduceEqDiff, Nat.reduceAdd, Nat.reduceSub, Int.reduceAdd, Int.reduceSub, Int.reduceToNat]
  ·simp (disch := omega) only [go_sem, Nat.reduceEqDiff, Nat.reduceAdd, Nat.reduceSub, Int.reduceAdd, Int.reduceSub, Int.reduceToNat]
   refine qKD (hEA) (qA [24, 25, 26, 27, 28, 29, 30, 31, 32, 33, 34, 35, 36, 37, 38, 39, 40, 41, 42, 43, 44]) ?_
   refine qKD (hH) (qA [45, 46, 47, 48, 49, 50, 51]) ?_
   refine ⟨qC, (qA [0, 1, 2, 3, 4, 5, 6, 7, 8, 9, 10, 11, 12, 13, 14, 15, 16, 17, 18, 19, 20, 21, 22, 23, 24, 25, 26, 27, 28, 29, 30, 31, 32, 33, 34, 35, 36, 37, 38, 39, 40, 41, 42, 43, 44, 45, 46, 47, 48, 49, 50, 51, 53, 54, 55, 56, 57, 58, 59, 60, 52]), weak_mkO (by rfl) (by rfl) ?_⟩
   try simp (disch := omega) only [go_sem, Nat.reduceEqDiff, Nat.reduceAdd, Nat.reduceSub, Int.reduceAdd, Int.reduceSub, Int.reduceToNat]
  ·simp (disch := omega) only [go_sem, Nat.reduceEqDiff, Nat.reduceAdd, Nat.reduceSub, Int.reduceAdd, Int.reduceSub, Int.reduceToNat]
   refine qKD (hEA) (qA [24, 25, 26, 27, 28, 29, 30, 31, 32, 33, 34, 35, 36, 37, 38, 39, 40, 41, 42, 43, 44]) ?_
   refine qKD (hH) (qA [46, 47, 48, 49, 50, 51, 52]) ?_
   refine ⟨qC, (qA [0, 1, 2, 3, 4, 5, 6, 7, 8, 9, 10, 11, 12, 13, 14, 15, 16, 17, 18, 19, 20, 21, 22, 23, 24, 25, 26, 27, 28, 29, 30, 31, 32, 33, 34, 35, 36, 37, 38, 39, 40, 41, 42, 43, 44, 46, 47, 48, 49, 50, 51, 52, 53, 54, 55, 56, 57, 58, 59, 60, 45]), weak_mkO (by rfl) (by rfl) ?_⟩
   try simp (disch := omega) only [go_sem, Nat.reduceEqDiff, Nat.reduceAdd, Nat.reduceSub, Int.reduceAdd, Int.reduceSub, Int.reduceToNat]
  refine qX ?_
  refine qK (hset) (qA [24, 25, 26, 27, 28, 29, 30, 31, 32, 33, 34, 35, 36, 37, 38, 39, 40, 41, 42, 43, 44, 52, 53, 54, 55, 56, 57, 58]) ?_
  refine qK (hpost) (qA [52, 53, 54, 55, 56, 57, 58, 31, 32, 33, 34, 35, 36, 37, 38, 39, 40, 41, 42, 43, 44, 59]) ?_
  exact qFO (qA [0, 1, 2, 3, 4, 5, 6, 7, 8, 9, 10, 11, 12, 13, 14, 15, 16, 17, 18, 19, 20, 61, 62, 63, 64, 65, 66, 67, 68, 69, 70, 71, 72, 73, 74, 75, 76, 77, 78, 79, 80, 81])
 ·rw [lands_2 h0] at hR
  rw [h0] at hS
  have hEA : CallA Tryz.prog 45 [.ag (w.cs 0), .sc (.int .i64 2)] (w.hp false) (.ag (w.b.cs 21)) (w.hp false ++ w.b.hp true) := spec_EndAt w 2 hw.s.a.own hw.s.a.far hw.s.a.subs hw.s.a.halfs hw.s.a.list hw.s.a.done hw.s.a.over hw.s.b.own hw.s.b.far hw.s.b.subs hw.s.b.halfs hw.s.b.list hw.s.b.done hw.s.b.over
  have hH := spec_Hear w.b x hw.s.b hw.pb
  have hsm := hear_small (e := w.b) (x := x) hw.s.b
  have hone := hear_one (e := w.b) (x := x)
  obtain ⟨pr, hpr⟩ : ∃ p, p = hear w.b x := ⟨_, rfl⟩
  rw [← hpr] at hH hsm hone hR
  obtain ⟨e1, l1⟩ := pr
  dsimp only at hH hsm hone hR
  have hends := postL_ends (side := 2) (l := l1) (w := { w with b := e1 })
  rw [← hR] at hends
  have hset := spec_l23Set2 w e1
  have hpost := spec_Posted2 { w with b := e1 } l1 ⟨hw.s.a, hsm, hw.s.bag, hw.s.past, hw.s.keys, hw.s.tags, hw.s.nums, hw.s.ansA, hw.s.ansB⟩ (by omega)
  rw [← hR] at hpost
  clear hR hpr
  obtain ⟨ra, rb, bag, past, wA, wB, rA, rB, known, nums, nsA, nsB⟩ := R
  obtain ⟨keys, tags⟩ := known
  dsimp only at hends
  obtain ⟨g1, g2, g3, g4, g5, g6⟩ := hends
  replace g1 := g1.symm
  replace g2 := g2.symm
  replace g3 := g3.symm
  replace g4 := g4.symm
  replace g5 := g5.symm
  replace g6 := g6.symm
  subst g1 g2 g3 g4 g5 g6
  refine qEO Tryz.func11 Tryz.ntmps11 Tryz.results11 fun E hE => ?_
  refine qK (hS) [] ?_
  refine qK (hC) (qA [0, 1, 2, 3, 4, 5, 6, 7, 8, 9, 10, 11, 12, 13, 14, 15, 16, 17, 18, 19, 20]) ?_
  refine den_drawX [(2, 8), (4, 8)] [(2, 4)] [[0, 1, 3, 2, 4, 5, 6, 7, 8, 9, 10], [0, 1, 3, 2, 8, 4, 5, 6, 7, 9, 10], [0, 1, 3, 8, 2, 4, 5, 6, 7, 9, 10]] 21 hE (fun s => s.at [16, 17, 18, 19, 20, 21, 22, 23] [(6, .sc (.pt 60 0 0)), (7, .sc (.sl 59 0 l1.length))] (s.hp ++ (w.b.hp true ++ (e1.hpS ++ [some ⟨l1.map LetterD.cs, 19, 70, true, true⟩, some ⟨[e1.cs 52], 25, 59, true, false⟩])))) (by kernel_rfl) (qC) (by kernel_rfl) ?_ (run_den 400 ?_)
  rotate_left
  rotate_right
  simp only [allDn]
  refine ⟨runD_den 400 ?_, runD_den 400 ?_, runD_den 400 ?_⟩
  ·simp (disch := omega) only [go_sem, Nat.reduceEqDiff, Nat.reduceAdd, Nat.reduceSub, Int.reduceAdd, Int.reduceSub, Int.reduceToNat]
   refine qKD (hEA) (qA [24, 25, 26, 27, 28, 29, 30, 31, 32, 33, 34, 35, 36, 37, 38, 39, 40, 41, 42, 43, 44]) ?_
   refine qKD (hH) (qA [45, 46, 47, 48, 49, 50, 51]) ?_
   refine ⟨qC, (qA [0, 1, 2, 3, 4, 5, 6, 7, 8, 9, 10, 11, 12, 13, 14, 15, 16, 17, 18, 19, 20, 21, 22, 23, 24, 25, 26, 27, 28, 29, 30, 31, 32, 33, 34, 35, 36, 37, 38, 39, 40, 41, 42, 43, 44, 45, 46, 47, 48, 49, 50, 51, 52, 53, 54, 55, 56, 57, 58, 59, 60]), weak_mkO (by rfl) (by rfl) ?_⟩
   try simp (disch := omega) only [go_sem, Nat.reduceEqDiff, Nat.reduceAdd, Nat.reduceSub, Int.reduceAdd, Int.reduceSub, Int.reduceToNat]
  ·simp (disch := omega) only [go_sem, Nat.reduceEqDiff, Nat.reduceAdd, Nat.reduceSub, Int.reduceAdd, Int.reduceSub, Int.reduceToNat]
   refine qKD (hEA) (qA [24, 25, 26, 27, 28, 29, 30, 31, 32, 33, 34, 35, 36, 37, 38, 39, 40, 41, 42, 43, 44]) ?_
   refine qKD (hH) (qA [45, 46, 47, 48, 49, 50, 51]) ?_
   refine ⟨qC, (qA [0, 1, 2, 3, 4, 5, 6, 7, 8, 9, 10, 11, 12, 13, 14, 15, 16, 17, 18, 19, 20, 21, 22, 23, 24, 25, 26, 27, 28, 29, 30, 31, 32, 33, 34, 35, 36, 37, 38, 39, 40, 41, 42, 43, 44, 45, 46, 47, 48, 49, 50, 51, 53, 54, 55, 56, 57, 58, 59, 60, 52]), weak_mkO (by rfl) (by rfl) ?_⟩
   try simp (disch := omega) only [go_sem, Nat.reduceEqDiff, Nat.reduceAdd, Nat.reduceSub, Int.reduceAdd, Int.reduceSub, Int.reduceToNat]
  ·simp (disch := omega) only [go_sem, Nat.reduceEqDiff, Nat.reduceAdd, Nat.reduceSub, Int.reduceAdd, Int.reduceSub, Int.reduceToNat]
   refine qKD (hEA) (qA [24, 25, 26, 27, 28, 29, 30, 31, 32, 33, 34, 35, 36, 37, 38, 39, 40, 41, 42, 43, 44]) ?_
   refine qKD (hH) (qA [46, 47, 48, 49, 50, 51, 52]) ?_
   refine ⟨qC, (qA [0, 1, 2, 3, 4, 5, 6, 7, 8, 9, 10, 11, 12, 13, 14, 15, 16, 17, 18, 19, 20, 21, 22, 23, 24, 25, 26, 27, 28, 29, 30, 31, 32, 33, 34, 35, 36, 37, 38, 39, 40, 41, 42, 43, 44, 46, 47, 48, 49, 50, 51, 52, 53, 54, 55, 56, 57, 58, 59, 60, 45]), weak_mkO (by rfl) (by rfl) ?_⟩
   try simp (disch := omega) only [go_sem, Nat.reduceEqDiff, Nat.reduceAdd, Nat.reduceSub, Int.reduceAdd, Int.reduceSub, Int.reduceToNat]
  refine qX ?_
  refine qK (hset) (qA [24, 25, 26, 27, 28, 29, 30, 31, 32, 33, 34, 35, 36, 37, 38, 39, 40, 41, 42, 43, 44, 52, 53, 54, 55, 56, 57, 58]) ?_
  refine qK (hpost) (qA [24, 25, 26, 27, 28, 29, 30, 52, 53, 54, 55, 56, 57, 58, 38, 39, 40, 41, 42, 43, 44, 59]) ?_
  exact qFO (qA [0, 1, 2, 3, 4, 5, 6, 7, 8, 9, 10, 11, 12, 13, 14, 15, 16, 17, 18, 19, 20, 61, 62, 63, 64, 65, 66, 67, 68, 69, 70, 71, 72, 73, 74, 75, 76, 77, 78, 79, 80, 81])
end
end Go.Proofs.YtkkcfgfkabkjhaaGreat
