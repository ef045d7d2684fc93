/-
  Texts merged for this claim by shake.py: what its proof needs.
-/
import Derived.Tactics
import Derived.Below
import Derived.Laws.AppendOwn
import Derived.Laws.OwnMore
import Derived.Laws.Slices
import Derived.Laws.Small
import Derived.Laws.Strings
import Derived.KernelRfl
import Derived.Laws.MakeOwn
import Derived.Laws.BytesString
import Derived.Laws.BytesArg
import Derived.Laws.Build
import Derived.Laws.Concat
import Derived.Laws.StructEq
import Derived.Lib.ConvBytes
import Derived.Orders
import Derived.WalkKit
import Derived.ProofKit
import Derived.ShutString
import Derived.OpenShut
import Derived.ChangeOld
import Derived.Carry
import Derived.Test.YtfakgekanapbnaaGreatChecked
import Derived.Laws.BitsLemmas
import Derived.JoinedOf
import Derived.Test.YtfakgekanapbnaaGreatRows
import Derived.Test.YtfakgekanapbnaaGreatZFnSafeD
set_option maxHeartbeats 16000000
set_option maxRecDepth 100000
set_option linter.unusedVariables false
set_option linter.unusedSimpArgs false
namespace Go.Proofs.YtfakgekanapbnaaGreat
section
open Go.RowKit

def worldC (x : WorldD) (p0 p1 p2 p3 p4 p5 p6 p7 p8 p9 p10 p11 p12 p13 p14 p15 p16 p17 p18 p19 p20 : Nat) : List Sc := [.int .i64 x.a.side, .int .i64 x.a.state, .int .i64 x.a.key, .int .i64 x.a.peer, .int .i64 x.a.policy.kind, .int .i64 x.a.policy.many, .sl p0 0 x.a.own.length, .sl p1 0 x.a.far.length, .sl p2 0 x.a.subs.length, .sl p3 0 x.a.halfs.length, .int .i64 x.a.bucket.rate, .int .i64 x.a.bucket.burst, .int .i64 x.a.bucket.cur, .st x.a.out.text, .int .i64 x.a.out.base, .int .i64 x.a.out.sent, .int .i64 x.a.out.room, .int .i64 x.a.inp.read, .st x.a.inp.ready, .sl p4 0 x.a.inp.list.length, .sl p5 0 x.a.done.length, .sl p6 0 x.a.over.length, .int .i64 x.a.draw, .int .i64 x.a.now, .int .i64 x.a.pick, .int .i64 x.b.side, .int .i64 x.b.state, .int .i64 x.b.key, .int .i64 x.b.peer, .int .i64 x.b.policy.kind, .int .i64 x.b.policy.many, .sl p7 0 x.b.own.length, .sl p8 0 x.b.far.length, .sl p9 0 x.b.subs.length, .sl p10 0 x.b.halfs.length, .int .i64 x.b.bucket.rate, .int .i64 x.b.bucket.burst, .int .i64 x.b.bucket.cur, .st x.b.out.text, .int .i64 x.b.out.base, .int .i64 x.b.out.sent, .int .i64 x.b.out.room, .int .i64 x.b.inp.read, .st x.b.inp.ready, .sl p11 0 x.b.inp.list.length, .sl p12 0 x.b.done.length, .sl p13 0 x.b.over.length, .int .i64 x.b.draw, .int .i64 x.b.now, .int .i64 x.b.pick, .sl p14 0 x.bag.length, .sl p15 0 x.past.length, .st x.wroteA, .st x.wroteB, .st x.readA, .st x.readB, .sl p16 0 x.known.keys.length, .sl p17 0 x.known.tags.length, .sl p18 0 x.nums.length, .sl p19 0 x.answersA.length, .sl p20 0 x.answersB.length]
attribute [go_sem] worldC
structure SmallW (w : WorldD) : Prop where
 a : Small w.a
 b : Small w.b
 bag : w.bag.length ≤ 1048576
 past : w.past.length ≤ 1048576
 keys : w.known.keys.length ≤ 1048576
 tags : w.known.tags.length ≤ 1048576
 nums : w.nums.length ≤ 1048576
 ansA : w.answersA.length ≤ 1048576
 ansB : w.answersB.length ≤ 1048576
theorem spec_Learn (k : KnownD) (t : TagD) (h0 : k.keys.length ≤ 1048576) (h1 : k.tags.length ≤ 1048576) : CallA Tryz.prog 75 [.ag (k.cs 0), .ag t.cs] (k.hp false) (.ag ((learn k t).cs 2)) (k.hp false ++ (learn k t).hp true) := by
 have hM := spec_CanMake k t h0 h1
 have ht := learn_t (k := k) (t := t)
 have hf1 := learn_f1 (k := k) (t := t)
 have hf2 := learn_f2 (k := k) (t := t)
 generalize learn k t = R at *
 refine qE Tryz.func75 Tryz.ntmps75 Tryz.results75 fun E hE => ?_
 refine den_drawX [(0, 6), (0, 4), (0, 9), (3, 6), (3, 4), (3, 9), (4, 9), (7, 9), (9, 6), (4, 6)] [(0, 3), (3, 7), (4, 7), (6, 7)] [[1, 2, 5, 0, 3, 4, 6, 7, 8, 9, 10], [1, 2, 5, 0, 3, 6, 4, 7, 8, 9, 10], [1, 2, 5, 0, 3, 4, 9, 6, 7, 8, 10], [1, 2, 5, 0, 3, 4, 6, 9, 7, 8, 10], [1, 2, 5, 0, 3, 6, 4, 9, 7, 8, 10], [1, 2, 5, 0, 3, 9, 4, 6, 7, 8, 10], [1, 2, 5, 0, 3, 9, 6, 4, 7, 8, 10], [1, 2, 5, 0, 3, 6, 9, 4, 7, 8, 10], [1, 2, 5, 0, 9, 3, 4, 6, 7, 8, 10], [1, 2, 5, 0, 9, 3, 6, 4, 7, 8, 10], [1, 2, 5, 0, 4, 3, 6, 7, 8, 9, 10], [1, 2, 5, 0, 4, 3, 9, 6, 7, 8, 10], [1, 2, 5, 0, 4, 3, 6, 9, 7, 8, 10], [1, 2, 5, 0, 4, 9, 3, 6, 7, 8, 10], [1, 2, 5, 0, 9, 4, 3, 6, 7, 8, 10], [1, 2, 5, 0, 6, 3, 4, 7, 8, 9, 10], [1, 2, 5, 0, 6, 3, 4, 9, 7, 8, 10], [1, 2, 5, 0, 6, 3, 9, 4, 7, 8, 10], [1, 2, 5, 0, 9, 6, 3, 4, 7, 8, 10], [1, 2, 5, 0, 6, 9, 3, 4, 7, 8, 10], [1, 2, 5, 0, 4, 6, 3, 7, 8, 9, 10], [1, 2, 5, 0, 6, 4, 3, 7, 8, 9, 10], [1, 2, 5, 0, 4, 6, 3, 9, 7, 8, 10], [1, 2, 5, 0, 6, 4, 3, 9, 7, 8, 10], [1, 2, 5, 0, 4, 9, 6, 3, 7, 8, 10], [1, 2, 5, 0, 4, 6, 9, 3, 7, 8, 10], [1, 2, 5, 0, 6, 4, 9, 3, 7, 8, 10], [1, 2, 5, 0, 9, 4, 6, 3, 7, 8, 10], [1, 2, 5, 0, 9, 6, 4, 3, 7, 8, 10], [1, 2, 5, 0, 6, 9, 4, 3, 7, 8, 10], [1, 2, 5, 9, 0, 3, 4, 6, 7, 8, 10], [1, 2, 5, 9, 0, 3, 6, 4, 7, 8, 10], [1, 2, 5, 9, 0, 4, 3, 6, 7, 8, 10], [1, 2, 5, 9, 0, 6, 3, 4, 7, 8, 10], [1, 2, 5, 9, 0, 4, 6, 3, 7, 8, 10], [1, 2, 5, 9, 0, 6, 4, 3, 7, 8, 10], [1, 2, 5, 4, 0, 3, 6, 7, 8, 9, 10], [1, 2, 5, 4, 0, 3, 9, 6, 7, 8, 10], [1, 2, 5, 4, 0, 3, 6, 9, 7, 8, 10], [1, 2, 5, 4, 0, 9, 3, 6, 7, 8, 10], [1, 2, 5, 4, 0, 6, 3, 7, 8, 9, 10], [1, 2, 5, 4, 0, 6, 3, 9, 7, 8, 10], [1, 2, 5, 4, 0, 9, 6, 3, 7, 8, 10], [1, 2, 5, 4, 0, 6, 9, 3, 7, 8, 10], [1, 2, 5, 4, 9, 0, 3, 6, 7, 8, 10], [1, 2, 5, 9, 4, 0, 3, 6, 7, 8, 10], [1, 2, 5, 4, 9, 0, 6, 3, 7, 8, 10], [1, 2, 5, 9, 4, 0, 6, 3, 7, 8, 10], [1, 2, 5, 6, 0, 3, 4, 7, 8, 9, 10], [1, 2, 5, 6, 0, 3, 4, 9, 7, 8, 10], [1, 2, 5, 6, 0, 3, 9, 4, 7, 8, 10], [1, 2, 5, 6, 0, 9, 3, 4, 7, 8, 10], [1, 2, 5, 6, 0, 4, 3, 7, 8, 9, 10], [1, 2, 5, 6, 0, 4, 3, 9, 7, 8, 10], [1, 2, 5, 6, 0, 4, 9, 3, 7, 8, 10], [1, 2, 5, 6, 0, 9, 4, 3, 7, 8, 10], [1, 2, 5, 9, 6, 0, 3, 4, 7, 8, 10], [1, 2, 5, 6, 9, 0, 3, 4, 7, 8, 10], [1, 2, 5, 9, 6, 0, 4, 3, 7, 8, 10], [1, 2, 5, 6, 9, 0, 4, 3, 7, 8, 10], [1, 2, 5, 4, 6, 0, 3, 7, 8, 9, 10], [1, 2, 5, 6, 4, 0, 3, 7, 8, 9, 10], [1, 2, 5, 4, 6, 0, 3, 9, 7, 8, 10], [1, 2, 5, 6, 4, 0, 3, 9, 7, 8, 10], [1, 2, 5, 4, 6, 0, 9, 3, 7, 8, 10], [1, 2, 5, 6, 4, 0, 9, 3, 7, 8, 10], [1, 2, 5, 4, 9, 6, 0, 3, 7, 8, 10], [1, 2, 5, 4, 6, 9, 0, 3, 7, 8, 10], [1, 2, 5, 6, 4, 9, 0, 3, 7, 8, 10], [1, 2, 5, 9, 4, 6, 0, 3, 7, 8, 10], [1, 2, 5, 9, 6, 4, 0, 3, 7, 8, 10], [1, 2, 5, 6, 9, 4, 0, 3, 7, 8, 10]] 2 hE (fun s => s.at [6, 7, 8, 9, 10, 11, 12, 13, 14] [(5, .sc (.pt 7 0 0))] (s.hp ++ [some ⟨k.keys.map intC, 1, 3, true, true⟩, some ⟨k.tags.map TagD.cs, 5, 65, true, true⟩, some ⟨[[.sl 5 0 k.keys.length, .sl 6 0 k.tags.length]], 2, 56, true, false⟩])) (by kernel_rfl) (qC) (by kernel_rfl) ?_ ?_
 ·simp only [allDn]
  refine ⟨runD_den 400 ?_, runD_den 400 ?_, runD_den 400 ?_, runD_den 400 ?_, runD_den 400 ?_, runD_den 400 ?_, runD_den 400 ?_, runD_den 400 ?_, runD_den 400 ?_, runD_den 400 ?_, runD_den 400 ?_, runD_den 400 ?_, runD_den 400 ?_, runD_den 400 ?_, runD_den 400 ?_, runD_den 400 ?_, runD_den 400 ?_, runD_den 400 ?_, runD_den 400 ?_, runD_den 400 ?_, runD_den 400 ?_, runD_den 400 ?_, runD_den 400 ?_, runD_den 400 ?_, runD_den 400 ?_, runD_den 400 ?_, runD_den 400 ?_, runD_den 400 ?_, runD_den 400 ?_, runD_den 400 ?_, runD_den 400 ?_, runD_den 400 ?_, runD_den 400 ?_, runD_den 400 ?_, runD_den 400 ?_, runD_den 400 ?_, runD_den 400 ?_, runD_den 400 ?_, runD_den 400 ?_, runD_den 400 ?_, runD_den 400 ?_, runD_den 400 ?_, runD_den 400 ?_, runD_den 400 ?_, runD_den 400 ?_, runD_den 400 ?_, runD_den 400 ?_, runD_den 400 ?_, runD_den 400 ?_, runD_den 400 ?_, runD_den 400 ?_, runD_den 400 ?_, runD_den 400 ?_, runD_den 400 ?_, runD_den 400 ?_, runD_den 400 ?_, runD_den 400 ?_, runD_den 400 ?_, runD_den 400 ?_, runD_den 400 ?_, runD_den 400 ?_, runD_den 400 ?_, runD_den 400 ?_, runD_den 400 ?_, runD_den 400 ?_, runD_den 400 ?_, runD_den 400 ?_, runD_den 400 ?_, runD_den 400 ?_, runD_den 400 ?_, runD_den 400 ?_, runD_den 400 ?_⟩
  ·simp (disch := omega) only [go_sem, Nat.reduceEqDiff, Nat.reduceAdd, Nat.reduceSub, Int.reduceAdd, Int.reduceSub, Int.reduceToNat]
   refine ⟨qC, (qA [0, 1, 2, 3, 4, 6, 8, 9]), weak_mkO (by rfl) (by rfl) ?_⟩
   try simp (disch := omega) only [go_sem, Nat.reduceEqDiff, Nat.reduceAdd, Nat.reduceSub, Int.reduceAdd, Int.reduceSub, Int.reduceToNat]
  ·simp (disch := omega) only [go_sem, Nat.reduceEqDiff, Nat.reduceAdd, Nat.reduceSub, Int.reduceAdd, Int.reduceSub, Int.reduceToNat]
   refine ⟨qC, (qA [0, 1, 2, 3, 4, 6, 8, 9]), weak_mkO (by rfl) (by rfl) ?_⟩
   try simp (disch := omega) only [go_sem, Nat.reduceEqDiff, Nat.reduceAdd, Nat.reduceSub, Int.reduceAdd, Int.reduceSub, Int.reduceToNat]
  ·simp (disch := omega) only [go_sem, Nat.reduceEqDiff, Nat.reduceAdd, Nat.reduceSub, Int.reduceAdd, Int.reduceSub, Int.reduceToNat]
   refine ⟨qC, (qA [0, 1, 2, 3, 4, 6, 9, 8]), weak_mkO (by rfl) (by rfl) ?_⟩
   try simp (disch := omega) only [go_sem, Nat.reduceEqDiff, Nat.reduceAdd, Nat.reduceSub, Int.reduceAdd, Int.reduceSub, Int.reduceToNat]
  ·simp (disch := omega) only [go_sem, Nat.reduceEqDiff, Nat.reduceAdd, Nat.reduceSub, Int.reduceAdd, Int.reduceSub, Int.reduceToNat]
   refine ⟨qC, (qA [0, 1, 2, 3, 4, 6, 9, 8]), weak_mkO (by rfl) (by rfl) ?_⟩
   try simp (disch := omega) only [go_sem, Nat.reduceEqDiff, Nat.reduceAdd, Nat.reduceSub, Int.reduceAdd, Int.reduceSub, Int.reduceToNat]
  ·simp (disch := omega) only [go_sem, Nat.reduceEqDiff, Nat.reduceAdd, Nat.reduceSub, Int.reduceAdd, Int.reduceSub, Int.reduceToNat]
   refine ⟨qC, (qA [0, 1, 2, 3, 4, 6, 9, 8]), weak_mkO (by rfl) (by rfl) ?_⟩
   try simp (disch := omega) only [go_sem, Nat.reduceEqDiff, Nat.reduceAdd, Nat.reduceSub, Int.reduceAdd, Int.reduceSub, Int.reduceToNat]
  ·simp (disch := omega) only [go_sem, Nat.reduceEqDiff, Nat.reduceAdd, Nat.reduceSub, Int.reduceAdd, Int.reduceSub, Int.reduceToNat]
   refine ⟨qC, (qA [0, 1, 2, 3, 4, 6, 9, 7]), weak_mkO (by rfl) (by rfl) ?_⟩
   try simp (disch := omega) only [go_sem, Nat.reduceEqDiff, Nat.reduceAdd, Nat.reduceSub, Int.reduceAdd, Int.reduceSub, Int.reduceToNat]
  ·simp (disch := omega) only [go_sem, Nat.reduceEqDiff, Nat.reduceAdd, Nat.reduceSub, Int.reduceAdd, Int.reduceSub, Int.reduceToNat]
   refine ⟨qC, (qA [0, 1, 2, 3, 4, 6, 9, 7]), weak_mkO (by rfl) (by rfl) ?_⟩
   try simp (disch := omega) only [go_sem, Nat.reduceEqDiff, Nat.reduceAdd, Nat.reduceSub, Int.reduceAdd, Int.reduceSub, Int.reduceToNat]
  ·simp (disch := omega) only [go_sem, Nat.reduceEqDiff, Nat.reduceAdd, Nat.reduceSub, Int.reduceAdd, Int.reduceSub, Int.reduceToNat]
   refine ⟨qC, (qA [0, 1, 2, 3, 4, 6, 9, 7]), weak_mkO (by rfl) (by rfl) ?_⟩
   try simp (disch := omega) only [go_sem, Nat.reduceEqDiff, Nat.reduceAdd, Nat.reduceSub, Int.reduceAdd, Int.reduceSub, Int.reduceToNat]
  ·simp (disch := omega) only [go_sem, Nat.reduceEqDiff, Nat.reduceAdd, Nat.reduceSub, Int.reduceAdd, Int.reduceSub, Int.reduceToNat]
   refine ⟨qC, (qA [0, 1, 2, 3, 4, 7, 9, 6]), weak_mkO (by rfl) (by rfl) ?_⟩
   try simp (disch := omega) only [go_sem, Nat.reduceEqDiff, Nat.reduceAdd, Nat.reduceSub, Int.reduceAdd, Int.reduceSub, Int.reduceToNat]
  ·simp (disch := omega) only [go_sem, Nat.reduceEqDiff, Nat.reduceAdd, Nat.reduceSub, Int.reduceAdd, Int.reduceSub, Int.reduceToNat]
   refine ⟨qC, (qA [0, 1, 2, 3, 4, 7, 9, 6]), weak_mkO (by rfl) (by rfl) ?_⟩
   try simp (disch := omega) only [go_sem, Nat.reduceEqDiff, Nat.reduceAdd, Nat.reduceSub, Int.reduceAdd, Int.reduceSub, Int.reduceToNat]
  ·simp (disch := omega) only [go_sem, Nat.reduceEqDiff, Nat.reduceAdd, Nat.reduceSub, Int.reduceAdd, Int.reduceSub, Int.reduceToNat]
   refine ⟨qC, (qA [0, 1, 2, 3, 4, 7, 8, 9]), weak_mkO (by rfl) (by rfl) ?_⟩
   try simp (disch := omega) only [go_sem, Nat.reduceEqDiff, Nat.reduceAdd, Nat.reduceSub, Int.reduceAdd, Int.reduceSub, Int.reduceToNat]
  ·simp (disch := omega) only [go_sem, Nat.reduceEqDiff, Nat.reduceAdd, Nat.reduceSub, Int.reduceAdd, Int.reduceSub, Int.reduceToNat]
   refine ⟨qC, (qA [0, 1, 2, 3, 4, 7, 9, 8]), weak_mkO (by rfl) (by rfl) ?_⟩
   try simp (disch := omega) only [go_sem, Nat.reduceEqDiff, Nat.reduceAdd, Nat.reduceSub, Int.reduceAdd, Int.reduceSub, Int.reduceToNat]
  ·simp (disch := omega) only [go_sem, Nat.reduceEqDiff, Nat.reduceAdd, Nat.reduceSub, Int.reduceAdd, Int.reduceSub, Int.reduceToNat]
   refine ⟨qC, (qA [0, 1, 2, 3, 4, 7, 9, 8]), weak_mkO (by rfl) (by rfl) ?_⟩
   try simp (disch := omega) only [go_sem, Nat.reduceEqDiff, Nat.reduceAdd, Nat.reduceSub, Int.reduceAdd, Int.reduceSub, Int.reduceToNat]
  ·simp (disch := omega) only [go_sem, Nat.reduceEqDiff, Nat.reduceAdd, Nat.reduceSub, Int.reduceAdd, Int.reduceSub, Int.reduceToNat]
   refine ⟨qC, (qA [0, 1, 2, 3, 4, 8, 9, 7]), weak_mkO (by rfl) (by rfl) ?_⟩
   try simp (disch := omega) only [go_sem, Nat.reduceEqDiff, Nat.reduceAdd, Nat.reduceSub, Int.reduceAdd, Int.reduceSub, Int.reduceToNat]
  ·simp (disch := omega) only [go_sem, Nat.reduceEqDiff, Nat.reduceAdd, Nat.reduceSub, Int.reduceAdd, Int.reduceSub, Int.reduceToNat]
   refine ⟨qC, (qA [0, 1, 2, 3, 4, 8, 9, 6]), weak_mkO (by rfl) (by rfl) ?_⟩
   try simp (disch := omega) only [go_sem, Nat.reduceEqDiff, Nat.reduceAdd, Nat.reduceSub, Int.reduceAdd, Int.reduceSub, Int.reduceToNat]
  ·simp (disch := omega) only [go_sem, Nat.reduceEqDiff, Nat.reduceAdd, Nat.reduceSub, Int.reduceAdd, Int.reduceSub, Int.reduceToNat]
   refine ⟨qC, (qA [0, 1, 2, 3, 4, 6, 8, 9]), weak_mkO (by rfl) (by rfl) ?_⟩
   try simp (disch := omega) only [go_sem, Nat.reduceEqDiff, Nat.reduceAdd, Nat.reduceSub, Int.reduceAdd, Int.reduceSub, Int.reduceToNat]
  ·simp (disch := omega) only [go_sem, Nat.reduceEqDiff, Nat.reduceAdd, Nat.reduceSub, Int.reduceAdd, Int.reduceSub, Int.reduceToNat]
   refine ⟨qC, (qA [0, 1, 2, 3, 4, 6, 9, 8]), weak_mkO (by rfl) (by rfl) ?_⟩
   try simp (disch := omega) only [go_sem, Nat.reduceEqDiff, Nat.reduceAdd, Nat.reduceSub, Int.reduceAdd, Int.reduceSub, Int.reduceToNat]
  ·simp (disch := omega) only [go_sem, Nat.reduceEqDiff, Nat.reduceAdd, Nat.reduceSub, Int.reduceAdd, Int.reduceSub, Int.reduceToNat]
   refine ⟨qC, (qA [0, 1, 2, 3, 4, 6, 9, 7]), weak_mkO (by rfl) (by rfl) ?_⟩
   try simp (disch := omega) only [go_sem, Nat.reduceEqDiff, Nat.reduceAdd, Nat.reduceSub, Int.reduceAdd, Int.reduceSub, Int.reduceToNat]
  ·simp (disch := omega) only [go_sem, Nat.reduceEqDiff, Nat.reduceAdd, Nat.reduceSub, Int.reduceAdd, Int.reduceSub, Int.reduceToNat]
   refine ⟨qC, (qA [0, 1, 2, 3, 4, 7, 9, 6]), weak_mkO (by rfl) (by rfl) ?_⟩
   try simp (disch := omega) only [go_sem, Nat.reduceEqDiff, Nat.reduceAdd, Nat.reduceSub, Int.reduceAdd, Int.reduceSub, Int.reduceToNat]
  ·simp (disch := omega) only [go_sem, Nat.reduceEqDiff, Nat.reduceAdd, Nat.reduceSub, Int.reduceAdd, Int.reduceSub, Int.reduceToNat]
   refine ⟨qC, (qA [0, 1, 2, 3, 4, 7, 9, 6]), weak_mkO (by rfl) (by rfl) ?_⟩
   try simp (disch := omega) only [go_sem, Nat.reduceEqDiff, Nat.reduceAdd, Nat.reduceSub, Int.reduceAdd, Int.reduceSub, Int.reduceToNat]
  ·simp (disch := omega) only [go_sem, Nat.reduceEqDiff, Nat.reduceAdd, Nat.reduceSub, Int.reduceAdd, Int.reduceSub, Int.reduceToNat]
   refine ⟨qC, (qA [0, 1, 2, 3, 4, 7, 8, 9]), weak_mkO (by rfl) (by rfl) ?_⟩
   try simp (disch := omega) only [go_sem, Nat.reduceEqDiff, Nat.reduceAdd, Nat.reduceSub, Int.reduceAdd, Int.reduceSub, Int.reduceToNat]
  ·simp (disch := omega) only [go_sem, Nat.reduceEqDiff, Nat.reduceAdd, Nat.reduceSub, Int.reduceAdd, Int.reduceSub, Int.reduceToNat]
   refine ⟨qC, (qA [0, 1, 2, 3, 4, 7, 8, 9]), weak_mkO (by rfl) (by rfl) ?_⟩
   try simp (disch := omega) only [go_sem, Nat.reduceEqDiff, Nat.reduceAdd, Nat.reduceSub, Int.reduceAdd, Int.reduceSub, Int.reduceToNat]
  ·simp (disch := omega) only [go_sem, Nat.reduceEqDiff, Nat.reduceAdd, Nat.reduceSub, Int.reduceAdd, Int.reduceSub, Int.reduceToNat]
   refine ⟨qC, (qA [0, 1, 2, 3, 4, 7, 9, 8]), weak_mkO (by rfl) (by rfl) ?_⟩
   try simp (disch := omega) only [go_sem, Nat.reduceEqDiff, Nat.reduceAdd, Nat.reduceSub, Int.reduceAdd, Int.reduceSub, Int.reduceToNat]
  ·simp (disch := omega) only [go_sem, Nat.reduceEqDiff, Nat.reduceAdd, Nat.reduceSub, Int.reduceAdd, Int.reduceSub, Int.reduceToNat]
   refine ⟨qC, (qA [0, 1, 2, 3, 4, 7, 9, 8]), weak_mkO (by rfl) (by rfl) ?_⟩
   try simp (disch := omega) only [go_sem, Nat.reduceEqDiff, Nat.reduceAdd, Nat.reduceSub, Int.reduceAdd, Int.reduceSub, Int.reduceToNat]
  ·simp (disch := omega) only [go_sem, Nat.reduceEqDiff, Nat.reduceAdd, Nat.reduceSub, Int.reduceAdd, Int.reduceSub, Int.reduceToNat]
   refine ⟨qC, (qA [0, 1, 2, 3, 4, 8, 9, 7]), weak_mkO (by rfl) (by rfl) ?_⟩
   try simp (disch := omega) only [go_sem, Nat.reduceEqDiff, Nat.reduceAdd, Nat.reduceSub, Int.reduceAdd, Int.reduceSub, Int.reduceToNat]
  ·simp (disch := omega) only [go_sem, Nat.reduceEqDiff, Nat.reduceAdd, Nat.reduceSub, Int.reduceAdd, Int.reduceSub, Int.reduceToNat]
   refine ⟨qC, (qA [0, 1, 2, 3, 4, 8, 9, 7]), weak_mkO (by rfl) (by rfl) ?_⟩
   try simp (disch := omega) only [go_sem, Nat.reduceEqDiff, Nat.reduceAdd, Nat.reduceSub, Int.reduceAdd, Int.reduceSub, Int.reduceToNat]
  ·simp (disch := omega) only [go_sem, Nat.reduceEqDiff, Nat.reduceAdd, Nat.reduceSub, Int.reduceAdd, Int.reduceSub, Int.reduceToNat]
   refine ⟨qC, (qA [0, 1, 2, 3, 4, 8, 9, 7]), weak_mkO (by rfl) (by rfl) ?_⟩
   try simp (disch := omega) only [go_sem, Nat.reduceEqDiff, Nat.reduceAdd, Nat.reduceSub, Int.reduceAdd, Int.reduceSub, Int.reduceToNat]
  ·simp (disch := omega) only [go_sem, Nat.reduceEqDiff, Nat.reduceAdd, Nat.reduceSub, Int.reduceAdd, Int.reduceSub, Int.reduceToNat]
   refine ⟨qC, (qA [0, 1, 2, 3, 4, 8, 9, 6]), weak_mkO (by rfl) (by rfl) ?_⟩
   try simp (disch := omega) only [go_sem, Nat.reduceEqDiff, Nat.reduceAdd, Nat.reduceSub, Int.reduceAdd, Int.reduceSub, Int.reduceToNat]
  ·simp (disch := omega) only [go_sem, Nat.reduceEqDiff, Nat.reduceAdd, Nat.reduceSub, Int.reduceAdd, Int.reduceSub, Int.reduceToNat]
   refine ⟨qC, (qA [0, 1, 2, 3, 4, 8, 9, 6]), weak_mkO (by rfl) (by rfl) ?_⟩
   try simp (disch := omega) only [go_sem, Nat.reduceEqDiff, Nat.reduceAdd, Nat.reduceSub, Int.reduceAdd, Int.reduceSub, Int.reduceToNat]
  ·simp (disch := omega) only [go_sem, Nat.reduceEqDiff, Nat.reduceAdd, Nat.reduceSub, Int.reduceAdd, Int.reduceSub, Int.reduceToNat]
   refine ⟨qC, (qA [0, 1, 2, 3, 4, 8, 9, 6]), weak_mkO (by rfl) (by rfl) ?_⟩
   try simp (disch := omega) only [go_sem, Nat.reduceEqDiff, Nat.reduceAdd, Nat.reduceSub, Int.reduceAdd, Int.reduceSub, Int.reduceToNat]
  ·simp (disch := omega) only [go_sem, Nat.reduceEqDiff, Nat.reduceAdd, Nat.reduceSub, Int.reduceAdd, Int.reduceSub, Int.reduceToNat]
   refine ⟨qC, (qA [0, 1, 2, 3, 4, 7, 9, 5]), weak_mkO (by rfl) (by rfl) ?_⟩
   try simp (disch := omega) only [go_sem, Nat.reduceEqDiff, Nat.reduceAdd, Nat.reduceSub, Int.reduceAdd, Int.reduceSub, Int.reduceToNat]
  ·simp (disch := omega) only [go_sem, Nat.reduceEqDiff, Nat.reduceAdd, Nat.reduceSub, Int.reduceAdd, Int.reduceSub, Int.reduceToNat]
   refine ⟨qC, (qA [0, 1, 2, 3, 4, 7, 9, 5]), weak_mkO (by rfl) (by rfl) ?_⟩
   try simp (disch := omega) only [go_sem, Nat.reduceEqDiff, Nat.reduceAdd, Nat.reduceSub, Int.reduceAdd, Int.reduceSub, Int.reduceToNat]
  ·simp (disch := omega) only [go_sem, Nat.reduceEqDiff, Nat.reduceAdd, Nat.reduceSub, Int.reduceAdd, Int.reduceSub, Int.reduceToNat]
   refine ⟨qC, (qA [0, 1, 2, 3, 4, 8, 9, 5]), weak_mkO (by rfl) (by rfl) ?_⟩
   try simp (disch := omega) only [go_sem, Nat.reduceEqDiff, Nat.reduceAdd, Nat.reduceSub, Int.reduceAdd, Int.reduceSub, Int.reduceToNat]
  ·simp (disch := omega) only [go_sem, Nat.reduceEqDiff, Nat.reduceAdd, Nat.reduceSub, Int.reduceAdd, Int.reduceSub, Int.reduceToNat]
   refine ⟨qC, (qA [0, 1, 2, 3, 4, 7, 9, 5]), weak_mkO (by rfl) (by rfl) ?_⟩
   try simp (disch := omega) only [go_sem, Nat.reduceEqDiff, Nat.reduceAdd, Nat.reduceSub, Int.reduceAdd, Int.reduceSub, Int.reduceToNat]
  ·simp (disch := omega) only [go_sem, Nat.reduceEqDiff, Nat.reduceAdd, Nat.reduceSub, Int.reduceAdd, Int.reduceSub, Int.reduceToNat]
   refine ⟨qC, (qA [0, 1, 2, 3, 4, 8, 9, 5]), weak_mkO (by rfl) (by rfl) ?_⟩
   try simp (disch := omega) only [go_sem, Nat.reduceEqDiff, Nat.reduceAdd, Nat.reduceSub, Int.reduceAdd, Int.reduceSub, Int.reduceToNat]
  ·simp (disch := omega) only [go_sem, Nat.reduceEqDiff, Nat.reduceAdd, Nat.reduceSub, Int.reduceAdd, Int.reduceSub, Int.reduceToNat]
   refine ⟨qC, (qA [0, 1, 2, 3, 4, 8, 9, 5]), weak_mkO (by rfl) (by rfl) ?_⟩
   try simp (disch := omega) only [go_sem, Nat.reduceEqDiff, Nat.reduceAdd, Nat.reduceSub, Int.reduceAdd, Int.reduceSub, Int.reduceToNat]
  ·simp (disch := omega) only [go_sem, Nat.reduceEqDiff, Nat.reduceAdd, Nat.reduceSub, Int.reduceAdd, Int.reduceSub, Int.reduceToNat]
   refine ⟨qC, (qA [0, 1, 2, 3, 4, 7, 8, 9]), weak_mkO (by rfl) (by rfl) ?_⟩
   try simp (disch := omega) only [go_sem, Nat.reduceEqDiff, Nat.reduceAdd, Nat.reduceSub, Int.reduceAdd, Int.reduceSub, Int.reduceToNat]
  ·simp (disch := omega) only [go_sem, Nat.reduceEqDiff, Nat.reduceAdd, Nat.reduceSub, Int.reduceAdd, Int.reduceSub, Int.reduceToNat]
   refine ⟨qC, (qA [0, 1, 2, 3, 4, 7, 9, 8]), weak_mkO (by rfl) (by rfl) ?_⟩
   try simp (disch := omega) only [go_sem, Nat.reduceEqDiff, Nat.reduceAdd, Nat.reduceSub, Int.reduceAdd, Int.reduceSub, Int.reduceToNat]
  ·simp (disch := omega) only [go_sem, Nat.reduceEqDiff, Nat.reduceAdd, Nat.reduceSub, Int.reduceAdd, Int.reduceSub, Int.reduceToNat]
   refine ⟨qC, (qA [0, 1, 2, 3, 4, 7, 9, 8]), weak_mkO (by rfl) (by rfl) ?_⟩
   try simp (disch := omega) only [go_sem, Nat.reduceEqDiff, Nat.reduceAdd, Nat.reduceSub, Int.reduceAdd, Int.reduceSub, Int.reduceToNat]
  ·simp (disch := omega) only [go_sem, Nat.reduceEqDiff, Nat.reduceAdd, Nat.reduceSub, Int.reduceAdd, Int.reduceSub, Int.reduceToNat]
   refine ⟨qC, (qA [0, 1, 2, 3, 4, 8, 9, 7]), weak_mkO (by rfl) (by rfl) ?_⟩
   try simp (disch := omega) only [go_sem, Nat.reduceEqDiff, Nat.reduceAdd, Nat.reduceSub, Int.reduceAdd, Int.reduceSub, Int.reduceToNat]
  ·simp (disch := omega) only [go_sem, Nat.reduceEqDiff, Nat.reduceAdd, Nat.reduceSub, Int.reduceAdd, Int.reduceSub, Int.reduceToNat]
   refine ⟨qC, (qA [0, 1, 2, 3, 4, 7, 8, 9]), weak_mkO (by rfl) (by rfl) ?_⟩
   try simp (disch := omega) only [go_sem, Nat.reduceEqDiff, Nat.reduceAdd, Nat.reduceSub, Int.reduceAdd, Int.reduceSub, Int.reduceToNat]
  ·simp (disch := omega) only [go_sem, Nat.reduceEqDiff, Nat.reduceAdd, Nat.reduceSub, Int.reduceAdd, Int.reduceSub, Int.reduceToNat]
   refine ⟨qC, (qA [0, 1, 2, 3, 4, 7, 9, 8]), weak_mkO (by rfl) (by rfl) ?_⟩
   try simp (disch := omega) only [go_sem, Nat.reduceEqDiff, Nat.reduceAdd, Nat.reduceSub, Int.reduceAdd, Int.reduceSub, Int.reduceToNat]
  ·simp (disch := omega) only [go_sem, Nat.reduceEqDiff, Nat.reduceAdd, Nat.reduceSub, Int.reduceAdd, Int.reduceSub, Int.reduceToNat]
   refine ⟨qC, (qA [0, 1, 2, 3, 4, 8, 9, 7]), weak_mkO (by rfl) (by rfl) ?_⟩
   try simp (disch := omega) only [go_sem, Nat.reduceEqDiff, Nat.reduceAdd, Nat.reduceSub, Int.reduceAdd, Int.reduceSub, Int.reduceToNat]
  ·simp (disch := omega) only [go_sem, Nat.reduceEqDiff, Nat.reduceAdd, Nat.reduceSub, Int.reduceAdd, Int.reduceSub, Int.reduceToNat]
   refine ⟨qC, (qA [0, 1, 2, 3, 4, 8, 9, 7]), weak_mkO (by rfl) (by rfl) ?_⟩
   try simp (disch := omega) only [go_sem, Nat.reduceEqDiff, Nat.reduceAdd, Nat.reduceSub, Int.reduceAdd, Int.reduceSub, Int.reduceToNat]
  ·simp (disch := omega) only [go_sem, Nat.reduceEqDiff, Nat.reduceAdd, Nat.reduceSub, Int.reduceAdd, Int.reduceSub, Int.reduceToNat]
   refine ⟨qC, (qA [0, 1, 2, 3, 4, 8, 9, 6]), weak_mkO (by rfl) (by rfl) ?_⟩
   try simp (disch := omega) only [go_sem, Nat.reduceEqDiff, Nat.reduceAdd, Nat.reduceSub, Int.reduceAdd, Int.reduceSub, Int.reduceToNat]
  ·simp (disch := omega) only [go_sem, Nat.reduceEqDiff, Nat.reduceAdd, Nat.reduceSub, Int.reduceAdd, Int.reduceSub, Int.reduceToNat]
   refine ⟨qC, (qA [0, 1, 2, 3, 4, 8, 9, 5]), weak_mkO (by rfl) (by rfl) ?_⟩
   try simp (disch := omega) only [go_sem, Nat.reduceEqDiff, Nat.reduceAdd, Nat.reduceSub, Int.reduceAdd, Int.reduceSub, Int.reduceToNat]
  ·simp (disch := omega) only [go_sem, Nat.reduceEqDiff, Nat.reduceAdd, Nat.reduceSub, Int.reduceAdd, Int.reduceSub, Int.reduceToNat]
   refine ⟨qC, (qA [0, 1, 2, 3, 4, 8, 9, 6]), weak_mkO (by rfl) (by rfl) ?_⟩
   try simp (disch := omega) only [go_sem, Nat.reduceEqDiff, Nat.reduceAdd, Nat.reduceSub, Int.reduceAdd, Int.reduceSub, Int.reduceToNat]
  ·simp (disch := omega) only [go_sem, Nat.reduceEqDiff, Nat.reduceAdd, Nat.reduceSub, Int.reduceAdd, Int.reduceSub, Int.reduceToNat]
   refine ⟨qC, (qA [0, 1, 2, 3, 4, 8, 9, 5]), weak_mkO (by rfl) (by rfl) ?_⟩
   try simp (disch := omega) only [go_sem, Nat.reduceEqDiff, Nat.reduceAdd, Nat.reduceSub, Int.reduceAdd, Int.reduceSub, Int.reduceToNat]
  ·simp (disch := omega) only [go_sem, Nat.reduceEqDiff, Nat.reduceAdd, Nat.reduceSub, Int.reduceAdd, Int.reduceSub, Int.reduceToNat]
   refine ⟨qC, (qA [0, 1, 2, 3, 4, 6, 8, 9]), weak_mkO (by rfl) (by rfl) ?_⟩
   try simp (disch := omega) only [go_sem, Nat.reduceEqDiff, Nat.reduceAdd, Nat.reduceSub, Int.reduceAdd, Int.reduceSub, Int.reduceToNat]
  ·simp (disch := omega) only [go_sem, Nat.reduceEqDiff, Nat.reduceAdd, Nat.reduceSub, Int.reduceAdd, Int.reduceSub, Int.reduceToNat]
   refine ⟨qC, (qA [0, 1, 2, 3, 4, 6, 9, 8]), weak_mkO (by rfl) (by rfl) ?_⟩
   try simp (disch := omega) only [go_sem, Nat.reduceEqDiff, Nat.reduceAdd, Nat.reduceSub, Int.reduceAdd, Int.reduceSub, Int.reduceToNat]
  ·simp (disch := omega) only [go_sem, Nat.reduceEqDiff, Nat.reduceAdd, Nat.reduceSub, Int.reduceAdd, Int.reduceSub, Int.reduceToNat]
   refine ⟨qC, (qA [0, 1, 2, 3, 4, 6, 9, 7]), weak_mkO (by rfl) (by rfl) ?_⟩
   try simp (disch := omega) only [go_sem, Nat.reduceEqDiff, Nat.reduceAdd, Nat.reduceSub, Int.reduceAdd, Int.reduceSub, Int.reduceToNat]
  ·simp (disch := omega) only [go_sem, Nat.reduceEqDiff, Nat.reduceAdd, Nat.reduceSub, Int.reduceAdd, Int.reduceSub, Int.reduceToNat]
   refine ⟨qC, (qA [0, 1, 2, 3, 4, 7, 9, 6]), weak_mkO (by rfl) (by rfl) ?_⟩
   try simp (disch := omega) only [go_sem, Nat.reduceEqDiff, Nat.reduceAdd, Nat.reduceSub, Int.reduceAdd, Int.reduceSub, Int.reduceToNat]
  ·simp (disch := omega) only [go_sem, Nat.reduceEqDiff, Nat.reduceAdd, Nat.reduceSub, Int.reduceAdd, Int.reduceSub, Int.reduceToNat]
   refine ⟨qC, (qA [0, 1, 2, 3, 4, 7, 8, 9]), weak_mkO (by rfl) (by rfl) ?_⟩
   try simp (disch := omega) only [go_sem, Nat.reduceEqDiff, Nat.reduceAdd, Nat.reduceSub, Int.reduceAdd, Int.reduceSub, Int.reduceToNat]
  ·simp (disch := omega) only [go_sem, Nat.reduceEqDiff, Nat.reduceAdd, Nat.reduceSub, Int.reduceAdd, Int.reduceSub, Int.reduceToNat]
   refine ⟨qC, (qA [0, 1, 2, 3, 4, 7, 9, 8]), weak_mkO (by rfl) (by rfl) ?_⟩
   try simp (disch := omega) only [go_sem, Nat.reduceEqDiff, Nat.reduceAdd, Nat.reduceSub, Int.reduceAdd, Int.reduceSub, Int.reduceToNat]
  ·simp (disch := omega) only [go_sem, Nat.reduceEqDiff, Nat.reduceAdd, Nat.reduceSub, Int.reduceAdd, Int.reduceSub, Int.reduceToNat]
   refine ⟨qC, (qA [0, 1, 2, 3, 4, 8, 9, 7]), weak_mkO (by rfl) (by rfl) ?_⟩
   try simp (disch := omega) only [go_sem, Nat.reduceEqDiff, Nat.reduceAdd, Nat.reduceSub, Int.reduceAdd, Int.reduceSub, Int.reduceToNat]
  ·simp (disch := omega) only [go_sem, Nat.reduceEqDiff, Nat.reduceAdd, Nat.reduceSub, Int.reduceAdd, Int.reduceSub, Int.reduceToNat]
   refine ⟨qC, (qA [0, 1, 2, 3, 4, 8, 9, 6]), weak_mkO (by rfl) (by rfl) ?_⟩
   try simp (disch := omega) only [go_sem, Nat.reduceEqDiff, Nat.reduceAdd, Nat.reduceSub, Int.reduceAdd, Int.reduceSub, Int.reduceToNat]
  ·simp (disch := omega) only [go_sem, Nat.reduceEqDiff, Nat.reduceAdd, Nat.reduceSub, Int.reduceAdd, Int.reduceSub, Int.reduceToNat]
   refine ⟨qC, (qA [0, 1, 2, 3, 4, 7, 9, 5]), weak_mkO (by rfl) (by rfl) ?_⟩
   try simp (disch := omega) only [go_sem, Nat.reduceEqDiff, Nat.reduceAdd, Nat.reduceSub, Int.reduceAdd, Int.reduceSub, Int.reduceToNat]
  ·simp (disch := omega) only [go_sem, Nat.reduceEqDiff, Nat.reduceAdd, Nat.reduceSub, Int.reduceAdd, Int.reduceSub, Int.reduceToNat]
   refine ⟨qC, (qA [0, 1, 2, 3, 4, 7, 9, 5]), weak_mkO (by rfl) (by rfl) ?_⟩
   try simp (disch := omega) only [go_sem, Nat.reduceEqDiff, Nat.reduceAdd, Nat.reduceSub, Int.reduceAdd, Int.reduceSub, Int.reduceToNat]
  ·simp (disch := omega) only [go_sem, Nat.reduceEqDiff, Nat.reduceAdd, Nat.reduceSub, Int.reduceAdd, Int.reduceSub, Int.reduceToNat]
   refine ⟨qC, (qA [0, 1, 2, 3, 4, 8, 9, 5]), weak_mkO (by rfl) (by rfl) ?_⟩
   try simp (disch := omega) only [go_sem, Nat.reduceEqDiff, Nat.reduceAdd, Nat.reduceSub, Int.reduceAdd, Int.reduceSub, Int.reduceToNat]
  ·simp (disch := omega) only [go_sem, Nat.reduceEqDiff, Nat.reduceAdd, Nat.reduceSub, Int.reduceAdd, Int.reduceSub, Int.reduceToNat]
   refine ⟨qC, (qA [0, 1, 2, 3, 4, 8, 9, 5]), weak_mkO (by rfl) (by rfl) ?_⟩
   try simp (disch := omega) only [go_sem, Nat.reduceEqDiff, Nat.reduceAdd, Nat.reduceSub, Int.reduceAdd, Int.reduceSub, Int.reduceToNat]
  ·simp (disch := omega) only [go_sem, Nat.reduceEqDiff, Nat.reduceAdd, Nat.reduceSub, Int.reduceAdd, Int.reduceSub, Int.reduceToNat]
   refine ⟨qC, (qA [0, 1, 2, 3, 4, 7, 8, 9]), weak_mkO (by rfl) (by rfl) ?_⟩
   try simp (disch := omega) only [go_sem, Nat.reduceEqDiff, Nat.reduceAdd, Nat.reduceSub, Int.reduceAdd, Int.reduceSub, Int.reduceToNat]
  ·simp (disch := omega) only [go_sem, Nat.reduceEqDiff, Nat.reduceAdd, Nat.reduceSub, Int.reduceAdd, Int.reduceSub, Int.reduceToNat]
   refine ⟨qC, (qA [0, 1, 2, 3, 4, 7, 8, 9]), weak_mkO (by rfl) (by rfl) ?_⟩
   try simp (disch := omega) only [go_sem, Nat.reduceEqDiff, Nat.reduceAdd, Nat.reduceSub, Int.reduceAdd, Int.reduceSub, Int.reduceToNat]
  ·simp (disch := omega) only [go_sem, Nat.reduceEqDiff, Nat.reduceAdd, Nat.reduceSub, Int.reduceAdd, Int.reduceSub, Int.reduceToNat]
   refine ⟨qC, (qA [0, 1, 2, 3, 4, 7, 9, 8]), weak_mkO (by rfl) (by rfl) ?_⟩
   try simp (disch := omega) only [go_sem, Nat.reduceEqDiff, Nat.reduceAdd, Nat.reduceSub, Int.reduceAdd, Int.reduceSub, Int.reduceToNat]
  ·simp (disch := omega) only [go_sem, Nat.reduceEqDiff, Nat.reduceAdd, Nat.reduceSub, Int.reduceAdd, Int.reduceSub, Int.reduceToNat]
   refine ⟨qC, (qA [0, 1, 2, 3, 4, 7, 9, 8]), weak_mkO (by rfl) (by rfl) ?_⟩
   try simp (disch := omega) only [go_sem, Nat.reduceEqDiff, Nat.reduceAdd, Nat.reduceSub, Int.reduceAdd, Int.reduceSub, Int.reduceToNat]
  ·simp (disch := omega) only [go_sem, Nat.reduceEqDiff, Nat.reduceAdd, Nat.reduceSub, Int.reduceAdd, Int.reduceSub, Int.reduceToNat]
   refine ⟨qC, (qA [0, 1, 2, 3, 4, 8, 9, 7]), weak_mkO (by rfl) (by rfl) ?_⟩
   try simp (disch := omega) only [go_sem, Nat.reduceEqDiff, Nat.reduceAdd, Nat.reduceSub, Int.reduceAdd, Int.reduceSub, Int.reduceToNat]
  ·simp (disch := omega) only [go_sem, Nat.reduceEqDiff, Nat.reduceAdd, Nat.reduceSub, Int.reduceAdd, Int.reduceSub, Int.reduceToNat]
   refine ⟨qC, (qA [0, 1, 2, 3, 4, 8, 9, 7]), weak_mkO (by rfl) (by rfl) ?_⟩
   try simp (disch := omega) only [go_sem, Nat.reduceEqDiff, Nat.reduceAdd, Nat.reduceSub, Int.reduceAdd, Int.reduceSub, Int.reduceToNat]
  ·simp (disch := omega) only [go_sem, Nat.reduceEqDiff, Nat.reduceAdd, Nat.reduceSub, Int.reduceAdd, Int.reduceSub, Int.reduceToNat]
   refine ⟨qC, (qA [0, 1, 2, 3, 4, 8, 9, 6]), weak_mkO (by rfl) (by rfl) ?_⟩
   try simp (disch := omega) only [go_sem, Nat.reduceEqDiff, Nat.reduceAdd, Nat.reduceSub, Int.reduceAdd, Int.reduceSub, Int.reduceToNat]
  ·simp (disch := omega) only [go_sem, Nat.reduceEqDiff, Nat.reduceAdd, Nat.reduceSub, Int.reduceAdd, Int.reduceSub, Int.reduceToNat]
   refine ⟨qC, (qA [0, 1, 2, 3, 4, 8, 9, 6]), weak_mkO (by rfl) (by rfl) ?_⟩
   try simp (disch := omega) only [go_sem, Nat.reduceEqDiff, Nat.reduceAdd, Nat.reduceSub, Int.reduceAdd, Int.reduceSub, Int.reduceToNat]
  ·simp (disch := omega) only [go_sem, Nat.reduceEqDiff, Nat.reduceAdd, Nat.reduceSub, Int.reduceAdd, Int.reduceSub, Int.reduceToNat]
   refine ⟨qC, (qA [0, 1, 2, 3, 4, 8, 9, 6]), weak_mkO (by rfl) (by rfl) ?_⟩
   try simp (disch := omega) only [go_sem, Nat.reduceEqDiff, Nat.reduceAdd, Nat.reduceSub, Int.reduceAdd, Int.reduceSub, Int.reduceToNat]
  ·simp (disch := omega) only [go_sem, Nat.reduceEqDiff, Nat.reduceAdd, Nat.reduceSub, Int.reduceAdd, Int.reduceSub, Int.reduceToNat]
   refine ⟨qC, (qA [0, 1, 2, 3, 4, 8, 9, 5]), weak_mkO (by rfl) (by rfl) ?_⟩
   try simp (disch := omega) only [go_sem, Nat.reduceEqDiff, Nat.reduceAdd, Nat.reduceSub, Int.reduceAdd, Int.reduceSub, Int.reduceToNat]
  ·simp (disch := omega) only [go_sem, Nat.reduceEqDiff, Nat.reduceAdd, Nat.reduceSub, Int.reduceAdd, Int.reduceSub, Int.reduceToNat]
   refine ⟨qC, (qA [0, 1, 2, 3, 4, 8, 9, 5]), weak_mkO (by rfl) (by rfl) ?_⟩
   try simp (disch := omega) only [go_sem, Nat.reduceEqDiff, Nat.reduceAdd, Nat.reduceSub, Int.reduceAdd, Int.reduceSub, Int.reduceToNat]
  ·simp (disch := omega) only [go_sem, Nat.reduceEqDiff, Nat.reduceAdd, Nat.reduceSub, Int.reduceAdd, Int.reduceSub, Int.reduceToNat]
   refine ⟨qC, (qA [0, 1, 2, 3, 4, 8, 9, 5]), weak_mkO (by rfl) (by rfl) ?_⟩
   try simp (disch := omega) only [go_sem, Nat.reduceEqDiff, Nat.reduceAdd, Nat.reduceSub, Int.reduceAdd, Int.reduceSub, Int.reduceToNat]
 refine qR ?_
 refine qK (hM) (qA [0, 1]) ?_
 refine qB (fun b1 => ?_) fun b1 => ?_
 ·refine qB (fun b2 => ?_) fun b2 => ?_
  ·rw [ht b1 (by omega)]
   have e := tag_app k.tags t
   simp only [TagD.cs] at e
   try simp (disch := omega) only [go_sem, Nat.reduceEqDiff, Nat.reduceAdd, Nat.reduceSub, Int.reduceAdd, Int.reduceSub, Int.reduceToNat, e]
   refine den_fin (qA [0, 1, 5, 9]) (qC) _ (by simp only [go_sem]; rfl) (by rfl) (by rfl) ?_
   simp (disch := omega) only [go_sem, Nat.reduceEqDiff, Nat.reduceAdd, Nat.reduceSub, Int.reduceAdd, Int.reduceSub, Int.reduceToNat]
   try simp
  ·rw [hf2 (by omega)]
   refine qX ?_
   exact qF (qA [0, 1, 5, 6])
 ·rw [hf1 b1]
  refine qX ?_
  exact qF (qA [0, 1, 5, 6])
theorem spec_l23Copy (w : WorldD) (hs : SmallW w) : CallA Tryz.prog 73 [.ag (w.cs 0)] (w.hp false) (.ag (w.cs 21)) (w.hp false ++ w.hp true) := by
 have ha := hs.a
 have hb := hs.b
 have h1 := hs.bag
 have h2 := hs.past
 have h3 := hs.keys
 have h4 := hs.tags
 have h5 := hs.nums
 have h6 := hs.ansA
 have h7 := hs.ansB
 refine qE Tryz.func73 Tryz.ntmps73 Tryz.results73 fun E hE => ?_
 refine qK (spec_l17Copy w.a (by have := ha.own; omega) (by have := ha.far; omega) (by have := ha.subs; omega) (by have := ha.halfs; omega) (by have := ha.list; omega) (by have := ha.done; omega) (by have := ha.over; omega)) (qA [0, 1, 2, 3, 4, 5, 6]) ?_
 refine qK (spec_l17Copy w.b (by have := hb.own; omega) (by have := hb.far; omega) (by have := hb.subs; omega) (by have := hb.halfs; omega) (by have := hb.list; omega) (by have := hb.done; omega) (by have := hb.over; omega)) (qA [7, 8, 9, 10, 11, 12, 13]) ?_
 refine den_drawX [(0, 8), (0, 5), (4, 8), (4, 5), (5, 8)] [(0, 4)] [[1, 2, 3, 6, 7, 0, 4, 5, 8, 9, 10, 11, 12], [1, 2, 3, 6, 7, 0, 4, 8, 5, 9, 10, 11, 12], [1, 2, 3, 6, 7, 0, 5, 4, 8, 9, 10, 11, 12], [1, 2, 3, 6, 7, 0, 8, 4, 5, 9, 10, 11, 12], [1, 2, 3, 6, 7, 0, 5, 8, 4, 9, 10, 11, 12], [1, 2, 3, 6, 7, 0, 8, 5, 4, 9, 10, 11, 12], [1, 2, 3, 6, 7, 5, 0, 4, 8, 9, 10, 11, 12], [1, 2, 3, 6, 7, 5, 0, 8, 4, 9, 10, 11, 12], [1, 2, 3, 6, 7, 8, 0, 4, 5, 9, 10, 11, 12], [1, 2, 3, 6, 7, 8, 0, 5, 4, 9, 10, 11, 12], [1, 2, 3, 6, 7, 5, 8, 0, 4, 9, 10, 11, 12], [1, 2, 3, 6, 7, 8, 5, 0, 4, 9, 10, 11, 12]] 21 hE (fun s => s.at [21, 22, 23, 24, 25, 26, 27, 28, 29, 30, 31, 32] [] (s.hp.set 21 (some ⟨[worldC w 23 24 25 26 27 28 29 30 31 32 33 34 35 36 38 40 41 42 18 19 20], 61, 58, true, false⟩) ++ [some ⟨w.known.keys.map intC, 1, 3, true, true⟩, some ⟨w.known.tags.map TagD.cs, 5, 65, true, true⟩])) (by kernel_rfl) (qC) (by kernel_rfl) ?_ ?_
 ·simp only [allDn]
  refine ⟨runD_den 400 ?_, runD_den 400 ?_, runD_den 400 ?_, runD_den 400 ?_, runD_den 400 ?_, runD_den 400 ?_, runD_den 400 ?_, runD_den 400 ?_, runD_den 400 ?_, runD_den 400 ?_, runD_den 400 ?_, runD_den 400 ?_⟩
  ·simp (disch := omega) only [go_sem, Nat.reduceEqDiff, Nat.reduceAdd, Nat.reduceSub, Int.reduceAdd, Int.reduceSub, Int.reduceToNat]
   refine ⟨qC, (qA [0, 1, 2, 3, 4, 5, 6, 7, 8, 9, 10, 11, 12, 13, 14, 15, 16, 17, 18, 19, 20, 21, 22, 23, 24, 25, 26, 27, 28, 29, 30, 31, 32, 33, 34, 35, 36, 37, 38, 39, 40, 42, 44]), weak_mkO (by rfl) (by rfl) ?_⟩
   try simp (disch := omega) only [go_sem, Nat.reduceEqDiff, Nat.reduceAdd, Nat.reduceSub, Int.reduceAdd, Int.reduceSub, Int.reduceToNat]
  ·simp (disch := omega) only [go_sem, Nat.reduceEqDiff, Nat.reduceAdd, Nat.reduceSub, Int.reduceAdd, Int.reduceSub, Int.reduceToNat]
   refine ⟨qC, (qA [0, 1, 2, 3, 4, 5, 6, 7, 8, 9, 10, 11, 12, 13, 14, 15, 16, 17, 18, 19, 20, 21, 22, 23, 24, 25, 26, 27, 28, 29, 30, 31, 32, 33, 34, 35, 36, 37, 38, 39, 40, 42, 44]), weak_mkO (by rfl) (by rfl) ?_⟩
   try simp (disch := omega) only [go_sem, Nat.reduceEqDiff, Nat.reduceAdd, Nat.reduceSub, Int.reduceAdd, Int.reduceSub, Int.reduceToNat]
  ·simp (disch := omega) only [go_sem, Nat.reduceEqDiff, Nat.reduceAdd, Nat.reduceSub, Int.reduceAdd, Int.reduceSub, Int.reduceToNat]
   refine ⟨qC, (qA [0, 1, 2, 3, 4, 5, 6, 7, 8, 9, 10, 11, 12, 13, 14, 15, 16, 17, 18, 19, 20, 21, 22, 23, 24, 25, 26, 27, 28, 29, 30, 31, 32, 33, 34, 35, 36, 37, 38, 39, 40, 43, 44]), weak_mkO (by rfl) (by rfl) ?_⟩
   try simp (disch := omega) only [go_sem, Nat.reduceEqDiff, Nat.reduceAdd, Nat.reduceSub, Int.reduceAdd, Int.reduceSub, Int.reduceToNat]
  ·simp (disch := omega) only [go_sem, Nat.reduceEqDiff, Nat.reduceAdd, Nat.reduceSub, Int.reduceAdd, Int.reduceSub, Int.reduceToNat]
   refine ⟨qC, (qA [0, 1, 2, 3, 4, 5, 6, 7, 8, 9, 10, 11, 12, 13, 14, 15, 16, 17, 18, 19, 20, 21, 22, 23, 24, 25, 26, 27, 28, 29, 30, 31, 32, 33, 34, 35, 36, 37, 38, 39, 40, 42, 44]), weak_mkO (by rfl) (by rfl) ?_⟩
   try simp (disch := omega) only [go_sem, Nat.reduceEqDiff, Nat.reduceAdd, Nat.reduceSub, Int.reduceAdd, Int.reduceSub, Int.reduceToNat]
  ·simp (disch := omega) only [go_sem, Nat.reduceEqDiff, Nat.reduceAdd, Nat.reduceSub, Int.reduceAdd, Int.reduceSub, Int.reduceToNat]
   refine ⟨qC, (qA [0, 1, 2, 3, 4, 5, 6, 7, 8, 9, 10, 11, 12, 13, 14, 15, 16, 17, 18, 19, 20, 21, 22, 23, 24, 25, 26, 27, 28, 29, 30, 31, 32, 33, 34, 35, 36, 37, 38, 39, 40, 43, 44]), weak_mkO (by rfl) (by rfl) ?_⟩
   try simp (disch := omega) only [go_sem, Nat.reduceEqDiff, Nat.reduceAdd, Nat.reduceSub, Int.reduceAdd, Int.reduceSub, Int.reduceToNat]
  ·simp (disch := omega) only [go_sem, Nat.reduceEqDiff, Nat.reduceAdd, Nat.reduceSub, Int.reduceAdd, Int.reduceSub, Int.reduceToNat]
   refine ⟨qC, (qA [0, 1, 2, 3, 4, 5, 6, 7, 8, 9, 10, 11, 12, 13, 14, 15, 16, 17, 18, 19, 20, 21, 22, 23, 24, 25, 26, 27, 28, 29, 30, 31, 32, 33, 34, 35, 36, 37, 38, 39, 40, 43, 44]), weak_mkO (by rfl) (by rfl) ?_⟩
   try simp (disch := omega) only [go_sem, Nat.reduceEqDiff, Nat.reduceAdd, Nat.reduceSub, Int.reduceAdd, Int.reduceSub, Int.reduceToNat]
  ·simp (disch := omega) only [go_sem, Nat.reduceEqDiff, Nat.reduceAdd, Nat.reduceSub, Int.reduceAdd, Int.reduceSub, Int.reduceToNat]
   refine ⟨qC, (qA [0, 1, 2, 3, 4, 5, 6, 7, 8, 9, 10, 11, 12, 13, 14, 15, 16, 17, 18, 19, 20, 21, 22, 23, 24, 25, 26, 27, 28, 29, 30, 31, 32, 33, 34, 35, 36, 37, 38, 39, 40, 43, 44]), weak_mkO (by rfl) (by rfl) ?_⟩
   try simp (disch := omega) only [go_sem, Nat.reduceEqDiff, Nat.reduceAdd, Nat.reduceSub, Int.reduceAdd, Int.reduceSub, Int.reduceToNat]
  ·simp (disch := omega) only [go_sem, Nat.reduceEqDiff, Nat.reduceAdd, Nat.reduceSub, Int.reduceAdd, Int.reduceSub, Int.reduceToNat]
   refine ⟨qC, (qA [0, 1, 2, 3, 4, 5, 6, 7, 8, 9, 10, 11, 12, 13, 14, 15, 16, 17, 18, 19, 20, 21, 22, 23, 24, 25, 26, 27, 28, 29, 30, 31, 32, 33, 34, 35, 36, 37, 38, 39, 40, 43, 44]), weak_mkO (by rfl) (by rfl) ?_⟩
   try simp (disch := omega) only [go_sem, Nat.reduceEqDiff, Nat.reduceAdd, Nat.reduceSub, Int.reduceAdd, Int.reduceSub, Int.reduceToNat]
  ·simp (disch := omega) only [go_sem, Nat.reduceEqDiff, Nat.reduceAdd, Nat.reduceSub, Int.reduceAdd, Int.reduceSub, Int.reduceToNat]
   refine ⟨qC, (qA [0, 1, 2, 3, 4, 5, 6, 7, 8, 9, 10, 11, 12, 13, 14, 15, 16, 17, 18, 19, 20, 21, 22, 23, 24, 25, 26, 27, 28, 29, 30, 31, 32, 33, 34, 35, 36, 37, 38, 39, 40, 42, 44]), weak_mkO (by rfl) (by rfl) ?_⟩
   try simp (disch := omega) only [go_sem, Nat.reduceEqDiff, Nat.reduceAdd, Nat.reduceSub, Int.reduceAdd, Int.reduceSub, Int.reduceToNat]
  ·simp (disch := omega) only [go_sem, Nat.reduceEqDiff, Nat.reduceAdd, Nat.reduceSub, Int.reduceAdd, Int.reduceSub, Int.reduceToNat]
   refine ⟨qC, (qA [0, 1, 2, 3, 4, 5, 6, 7, 8, 9, 10, 11, 12, 13, 14, 15, 16, 17, 18, 19, 20, 21, 22, 23, 24, 25, 26, 27, 28, 29, 30, 31, 32, 33, 34, 35, 36, 37, 38, 39, 40, 43, 44]), weak_mkO (by rfl) (by rfl) ?_⟩
   try simp (disch := omega) only [go_sem, Nat.reduceEqDiff, Nat.reduceAdd, Nat.reduceSub, Int.reduceAdd, Int.reduceSub, Int.reduceToNat]
  ·simp (disch := omega) only [go_sem, Nat.reduceEqDiff, Nat.reduceAdd, Nat.reduceSub, Int.reduceAdd, Int.reduceSub, Int.reduceToNat]
   refine ⟨qC, (qA [0, 1, 2, 3, 4, 5, 6, 7, 8, 9, 10, 11, 12, 13, 14, 15, 16, 17, 18, 19, 20, 21, 22, 23, 24, 25, 26, 27, 28, 29, 30, 31, 32, 33, 34, 35, 36, 37, 38, 39, 40, 43, 44]), weak_mkO (by rfl) (by rfl) ?_⟩
   try simp (disch := omega) only [go_sem, Nat.reduceEqDiff, Nat.reduceAdd, Nat.reduceSub, Int.reduceAdd, Int.reduceSub, Int.reduceToNat]
  ·simp (disch := omega) only [go_sem, Nat.reduceEqDiff, Nat.reduceAdd, Nat.reduceSub, Int.reduceAdd, Int.reduceSub, Int.reduceToNat]
   refine ⟨qC, (qA [0, 1, 2, 3, 4, 5, 6, 7, 8, 9, 10, 11, 12, 13, 14, 15, 16, 17, 18, 19, 20, 21, 22, 23, 24, 25, 26, 27, 28, 29, 30, 31, 32, 33, 34, 35, 36, 37, 38, 39, 40, 43, 44]), weak_mkO (by rfl) (by rfl) ?_⟩
   try simp (disch := omega) only [go_sem, Nat.reduceEqDiff, Nat.reduceAdd, Nat.reduceSub, Int.reduceAdd, Int.reduceSub, Int.reduceToNat]
 refine qR ?_
 exact qF (qA [0, 1, 2, 3, 4, 5, 6, 7, 8, 9, 10, 11, 12, 13, 14, 15, 16, 17, 18, 19, 20, 23, 24, 25, 26, 27, 28, 29, 30, 31, 32, 33, 34, 35, 36, 38, 40, 41, 42, 44, 46, 48])
end
section
open Go.RowKit

theorem sideAt_12 (n : Int) : sideAt n = 0 ∨ sideAt n = 1 ∨ sideAt n = 2 := by
 rw [sideAt]
 split
 ·exact .inr (.inl rfl)
 ·split
  ·exact .inr (.inr rfl)
  ·exact .inl rfl
def setEnd (w : WorldD) (side : Int) (e : EndD) : WorldD := if side = 1 then { w with a := e } else { w with b := e }
def numP (l : List Int) (n : Int) : List Int := if 0 < n ∧ hasI l n = false ∧ l.length < 300 then l ++ [n] else l
theorem numP_t {l : List Int} {n : Int} (h1 : 0 < n) (h2 : hasI l n = false) (h3 : l.length < 300) : numP l n = l ++ [n] := if_pos ⟨h1, h2, h3⟩
theorem numP_f1 {l : List Int} {n : Int} (h1 : ¬ 0 < n) : numP l n = l := if_neg (fun h => h1 h.1)
theorem numP_f2 {l : List Int} {n : Int} (h2 : hasI l n = true) : numP l n = l := if_neg (by simp [h2])
theorem numP_f3 {l : List Int} {n : Int} (h3 : ¬ l.length < 300) : numP l n = l := if_neg (fun h => h3 h.2.2)
theorem numP_le {l : List Int} {n : Int} (h : l.length ≤ 1048576) : (numP l n).length ≤ 1048576 := by
 rw [numP]; split
 ·rename_i hh; have := hh.2.2; simp; omega
 ·exact h
def pastP (l : List LetterD) (x : LetterD) : List LetterD := if l.length < 150 then l ++ [x] else l
def bagP (l : List LetterD) (x : LetterD) : List LetterD := if l.length < 40 then l ++ [x] else l
def ansP (l : List Int) (yes : Bool) (n : Int) : List Int := if yes = true ∧ l.length < 300 then l ++ [n] else l
theorem pastP_t {l : List LetterD} {x : LetterD} (h : l.length < 150) : pastP l x = l ++ [x] := if_pos h
theorem pastP_f {l : List LetterD} {x : LetterD} (h : ¬ l.length < 150) : pastP l x = l := if_neg h
theorem bagP_t {l : List LetterD} {x : LetterD} (h : l.length < 40) : bagP l x = l ++ [x] := if_pos h
theorem bagP_f {l : List LetterD} {x : LetterD} (h : ¬ l.length < 40) : bagP l x = l := if_neg h
theorem ansP_t {l : List Int} {n : Int} (h : l.length < 300) : ansP l true n = l ++ [n] := if_pos ⟨rfl, h⟩
theorem ansP_f {l : List Int} {b : Bool} {n : Int} (h : ¬ l.length < 300) : ansP l b n = l := if_neg (fun hh => h hh.2)
theorem ansP_f1 {l : List Int} {n : Int} : ansP l false n = l := if_neg (by simp)
theorem pastP_le {l : List LetterD} {x : LetterD} (h : l.length ≤ 1048576) : (pastP l x).length ≤ 1048576 := by
 rw [pastP]; split
 ·simp; omega
 ·exact h
theorem bagP_le {l : List LetterD} {x : LetterD} (h : l.length ≤ 1048576) : (bagP l x).length ≤ 1048576 := by
 rw [bagP]; split
 ·simp; omega
 ·exact h
theorem ansP_le {l : List Int} {b : Bool} {n : Int} (h : l.length ≤ 1048576) : (ansP l b n).length ≤ 1048576 := by
 rw [ansP]; split
 ·rename_i hh; have := hh.2; simp; omega
 ·exact h
theorem learn_le {k : KnownD} {t : TagD} (h : k.tags.length ≤ 1048576) : (learn k t).tags.length ≤ 1048576 := by
 rw [learn]; split
 ·rename_i hh; have := hh.2; simp; omega
 ·exact h
theorem learn_keys {k : KnownD} {t : TagD} : (learn k t).keys = k.keys := by
 rw [learn]; split <;> rfl
def isJB (side k : Int) (x : LetterD) : Bool := decide (x.kind = 5) && decide (side = k)
theorem isJB_f {side k : Int} {x : LetterD} (h : ¬ x.kind = 5) : isJB side k x = false := by simp [isJB, h]
theorem isJB_n {side k : Int} {x : LetterD} (h : ¬ side = k) : isJB side k x = false := by simp [isJB, h]
theorem isJB_t {k : Int} {x : LetterD} (h : x.kind = 5) : isJB k k x = true := by simp [isJB, h]
def notes (side : Int) (w : WorldD) (x : LetterD) : WorldD :=
 { w with past := pastP w.past x, answersA := ansP w.answersA (isJB side 1 x) w.a.now, answersB := ansP w.answersB (isJB side 2 x) w.b.now }
def heard (w : WorldD) (x : LetterD) : WorldD := { w with known := learn w.known x.tag, nums := numP (numP (numP w.nums x.nonce) x.give) x.sgn }
def post1 (side : Int) (w : WorldD) (x : LetterD) : WorldD :=
 if sideAt x.to = 0 then heard (notes side w x) x else { notes side w x with bag := bagP w.bag x }
def postL (side : Int) (w : WorldD) (l : List LetterD) : WorldD := l.foldl (post1 side) w
theorem postL_step {side : Int} {w : WorldD} {l : List LetterD} {k : Nat} (h : k < l.length) : postL side w (l.drop k) = postL side (post1 side w l[k]) (l.drop (k + 1)) := by
 rw [List.drop_eq_getElem_cons h]; rfl
theorem postL_end {side : Int} {w : WorldD} {l : List LetterD} {k : Nat} (h : l.length ≤ k) : postL side w (l.drop k) = w := by
 rw [List.drop_eq_nil_of_le h]; rfl
def posted (w : WorldD) (side : Int) (l : List LetterD) : WorldD := if side = 1 ∨ side = 2 then postL side w l else w
def lands (w : WorldD) (x : LetterD) : WorldD :=
 if sideAt x.to = 0 then w else posted (setEnd w (sideAt x.to) (hear (endAt w (sideAt x.to)) x).1) (sideAt x.to) (hear (endAt w (sideAt x.to)) x).2
structure SmallP2 (w : WorldD) : Prop where
 bag : w.bag.length ≤ 1048576
 past : w.past.length ≤ 1048576
 keys : w.known.keys.length ≤ 1048576
 tags : w.known.tags.length ≤ 1048576
 nums : w.nums.length ≤ 1048576
 ansA : w.answersA.length ≤ 1048576
 ansB : w.answersB.length ≤ 1048576
theorem SmallW.rest {w : WorldD} (h : SmallW w) : SmallP2 w := ⟨h.bag, h.past, h.keys, h.tags, h.nums, h.ansA, h.ansB⟩
theorem post1_ends {side : Int} {w : WorldD} {x : LetterD} : (post1 side w x).a = w.a ∧ (post1 side w x).b = w.b ∧ (post1 side w x).wroteA = w.wroteA ∧ (post1 side w x).wroteB = w.wroteB ∧ (post1 side w x).readA = w.readA ∧ (post1 side w x).readB = w.readB := by
 rw [post1]; split <;> exact ⟨rfl, rfl, rfl, rfl, rfl, rfl⟩
theorem post1_small {side : Int} {w : WorldD} {x : LetterD} (h : SmallP2 w) : SmallP2 (post1 side w x) := by
 rw [post1]; split
 ·exact ⟨h.bag, pastP_le h.past, by rw [heard, notes, learn_keys]; exact h.keys, learn_le h.tags, numP_le (numP_le (numP_le h.nums)), ansP_le h.ansA, ansP_le h.ansB⟩
 ·exact ⟨bagP_le h.bag, pastP_le h.past, h.keys, h.tags, h.nums, ansP_le h.ansA, ansP_le h.ansB⟩
theorem postL_ends {side : Int} : ∀ {l : List LetterD} {w : WorldD}, (postL side w l).a = w.a ∧ (postL side w l).b = w.b ∧ (postL side w l).wroteA = w.wroteA ∧ (postL side w l).wroteB = w.wroteB ∧ (postL side w l).readA = w.readA ∧ (postL side w l).readB = w.readB
 | [], w => ⟨rfl, rfl, rfl, rfl, rfl, rfl⟩
 | x :: l, w => by
  have h1 := postL_ends (side := side) (l := l) (w := post1 side w x)
  have h2 := post1_ends (side := side) (w := w) (x := x)
  rw [show postL side w (x :: l) = postL side (post1 side w x) l from rfl]
  exact ⟨h1.1.trans h2.1, h1.2.1.trans h2.2.1, h1.2.2.1.trans h2.2.2.1, h1.2.2.2.1.trans h2.2.2.2.1, h1.2.2.2.2.1.trans h2.2.2.2.2.1, h1.2.2.2.2.2.trans h2.2.2.2.2.2⟩
theorem postL_small {side : Int} : ∀ {l : List LetterD} {w : WorldD}, SmallP2 w → SmallP2 (postL side w l)
 | [], w, h => h
 | x :: l, w, h => postL_small (l := l) (post1_small h)
end
section
open Go.RowKit

theorem putHalf_le {l : List HalfD} {h : HalfD} (hl : l.length ≤ 1048576) : (putHalf l h).1.length ≤ 1048576 := by
 rw [putHalf]; split
 ·rename_i hh; have := halfsOk_le hh; dsimp only; omega
 ·exact hl
theorem putAddr_le {l : List AddrD} {a : AddrD} (hl : l.length ≤ 1048576) : (putAddr l a).1.length ≤ 1048576 := by
 rw [putAddr]; split
 ·rename_i hh; have := addrsOk_le hh; dsimp only; omega
 ·exact hl
theorem dropAddr_le {l : List AddrD} {n : Int} (hl : l.length ≤ 1048576) : (dropAddr l n).1.length ≤ 1048576 := by
 rw [dropAddr]; split
 ·exact hl
 ·simp only [List.length_append, List.length_take, List.length_drop]; omega
theorem dropHalf_le {l : List HalfD} {r : RoadD} (hl : l.length ≤ 1048576) : (dropHalf l r).length ≤ 1048576 := by
 rw [dropHalf]; split
 ·exact hl
 ·simp only [List.length_append, List.length_take, List.length_drop]; omega
theorem endOk_ids {e : EndD} (h : endOk e = true) : e.done.length ≤ 256 ∧ e.over.length ≤ 256 := by
 simp only [endOk, Bool.and_eq_true] at h
 exact ⟨by have := idsOk_le (l := e.done) (m := e.own) (by simp_all); omega, by have := idsOk_le (l := e.over) (m := e.far) (by simp_all); omega⟩
theorem onAt_ok {e : EndD} {x : LetterD} (h : 0 ≤ onAt e x) : endOk e = true := by
 rcases onAt_bd e x with h1 | ⟨n, _, _, _, h2, _⟩
 ·omega
 ·exact h2
theorem hearHello_small {e : EndD} {x : LetterD} (hs : Small e) : Small (hearHello e x).1 := by
 rw [hearHello]; split
 ·rename_i h
  simp only [helloOk, Bool.and_eq_true, decide_eq_true_eq] at h
  exact ⟨hs.own, by simp [farOne], by simp only [List.length_append, List.length_singleton]; omega, hs.halfs, hs.list, hs.done, hs.over⟩
 ·exact hs
theorem hearBack_small {e : EndD} {x : LetterD} (hs : Small e) : Small (hearBack e x).1 := by
 rw [hearBack]; split
 ·exact ⟨hs.own, by simp [farOne], by simpa only [List.length_set] using hs.subs, hs.halfs, hs.list, hs.done, hs.over⟩
 ·exact hs
theorem hearJoin_small {e : EndD} {x : LetterD} (hs : Small e) : Small (hearJoin e x).1 := by
 rw [hearJoin]; split
 ·split
  ·exact ⟨hs.own, hs.far, hs.subs, by simpa only [List.length_set] using hs.halfs, hs.list, hs.done, hs.over⟩
  ·exact ⟨hs.own, hs.far, hs.subs, putHalf_le hs.halfs, hs.list, hs.done, hs.over⟩
 ·exact hs
theorem hearJoinBack_small {e : EndD} {x : LetterD} (hs : Small e) : Small (hearJoinBack e x).1 := by
 rw [hearJoinBack]; split
 ·exact ⟨hs.own, hs.far, by simpa only [List.length_set] using hs.subs, hs.halfs, hs.list, hs.done, hs.over⟩
 ·exact hs
theorem hearJoinDone_small {e : EndD} {x : LetterD} (hs : Small e) : Small (hearJoinDone e x).1 := by
 rw [hearJoinDone]; split
 ·split
  ·rename_i h
   simp only [jdA, Bool.and_eq_true, decide_eq_true_eq] at h
   refine ⟨hs.own, hs.far, ?_, dropHalf_le hs.halfs, hs.list, hs.done, hs.over⟩
   split <;> simp only [setState, List.length_append, List.length_set, List.length_singleton] <;> omega
  ·split <;> exact hs
 ·exact hs
theorem hearJoinAck_small {e : EndD} {x : LetterD} (hs : Small e) : Small (hearJoinAck e x).1 := by
 rw [hearJoinAck]; dsimp only; split
 ·exact ⟨hs.own, hs.far, by simpa only [setState, List.length_set] using hs.subs, hs.halfs, hs.list, hs.done, hs.over⟩
 ·exact hs
theorem hearAddr_small {e : EndD} {x : LetterD} (hs : Small e) : Small (hearAddr e x).1 := by
 rw [hearAddr]; split
 ·exact ⟨hs.own, putAddr_le hs.far, hs.subs, hs.halfs, hs.list, hs.done, hs.over⟩
 ·exact hs
theorem hearEcho_small {e : EndD} {x : LetterD} (hs : Small e) : Small (hearEcho e x).1 := by
 rw [hearEcho]; dsimp only; split
 ·exact ⟨by simpa only [List.length_set] using hs.own, hs.far, hs.subs, hs.halfs, hs.list, hs.done, hs.over⟩
 ·exact hs
theorem hearGone_small {e : EndD} {x : LetterD} (hs : Small e) : Small (hearGone e x).1 := by
 rw [hearGone]; dsimp only; split
 ·rename_i h
  simp only [goneOk, Bool.and_eq_true, decide_eq_true_eq] at h
  have := (endOk_ids (onAt_ok h.1)).2
  exact ⟨hs.own, dropAddr_le hs.far, by simpa only [List.length_map] using hs.subs, hs.halfs, hs.list, hs.done, by have := putI_len e.over x.id; dsimp only; omega⟩
 ·exact hs
theorem hearData_small {e : EndD} {x : LetterD} (hs : Small e) : Small (hearData e x).1 := by
 rw [hearData]; split
 ·exact ⟨hs.own, hs.far, hs.subs, hs.halfs, putPiece_le hs.list, hs.done, hs.over⟩
 ·exact hs
theorem hearCame_small {e : EndD} {x : LetterD} (hs : Small e) : Small (hearCame e x).1 := by
 rw [hearCame]; dsimp only; split
 ·exact ⟨hs.own, hs.far, hs.subs, hs.halfs, hs.list, hs.done, hs.over⟩
 ·exact hs
theorem hearReset_small {e : EndD} {x : LetterD} (hs : Small e) : Small (hearReset e x).1 := by
 rw [hearReset]; dsimp only; split
 ·exact ⟨hs.own, hs.far, by simpa only [setState, List.length_set] using hs.subs, hs.halfs, hs.list, hs.done, hs.over⟩
 ·exact hs
theorem hear_all {e : EndD} {x : LetterD} {Q : EndD × List LetterD → Prop} (h0 : Q (e, [])) (h1 : Q (hearHello e x)) (h2 : Q (hearBack e x)) (h4 : Q (hearJoin e x)) (h5 : Q (hearJoinBack e x)) (h6 : Q (hearJoinDone e x)) (h7 : Q (hearJoinAck e x)) (h8 : Q (hearAddr e x)) (h9 : Q (hearEcho e x)) (h10 : Q (hearGone e x)) (h11 : Q (hearData e x)) (h12 : Q (hearCame e x)) (h13 : Q (hearReset e x)) : Q (hear e x) := by
 by_cases hc : hearOk e x = true
 ·by_cases k1 : x.kind = 1
  ·rw [hear_1 hc k1]; exact h1
  by_cases k2 : x.kind = 2
  ·rw [hear_2 hc k2]; exact h2
  by_cases k4 : x.kind = 4
  ·rw [hear_4 hc k4]; exact h4
  by_cases k5 : x.kind = 5
  ·rw [hear_5 hc k5]; exact h5
  by_cases k6 : x.kind = 6
  ·rw [hear_6 hc k6]; exact h6
  by_cases k7 : x.kind = 7
  ·rw [hear_7 hc k7]; exact h7
  by_cases k8 : x.kind = 8
  ·rw [hear_8 hc k8]; exact h8
  by_cases k9 : x.kind = 9
  ·rw [hear_9 hc k9]; exact h9
  by_cases k10 : x.kind = 10
  ·rw [hear_10 hc k10]; exact h10
  by_cases k11 : x.kind = 11
  ·rw [hear_11 hc k11]; exact h11
  by_cases k12 : x.kind = 12
  ·rw [hear_12 hc k12]; exact h12
  by_cases k13 : x.kind = 13
  ·rw [hear_13 hc k13]; exact h13
  rw [hear_n (by intro k hk; omega)]; exact h0
 ·rw [hear_f (by simpa using hc)]; exact h0
theorem hear_small {e : EndD} {x : LetterD} (hs : Small e) : Small (hear e x).1 :=
 hear_all (Q := fun r => Small r.1) hs (hearHello_small hs) (hearBack_small hs) (hearJoin_small hs) (hearJoinBack_small hs) (hearJoinDone_small hs) (hearJoinAck_small hs) (hearAddr_small hs) (hearEcho_small hs) (hearGone_small hs) (hearData_small hs) (hearCame_small hs) (hearReset_small hs)
theorem hear_one {e : EndD} {x : LetterD} : (hear e x).2.length ≤ 1 := by
 refine hear_all (Q := fun r => r.2.length ≤ 1) (by simp) ?_ ?_ ?_ ?_ ?_ ?_ ?_ ?_ ?_ ?_ ?_ ?_
 ·rw [hearHello]; split <;> simp
 ·rw [hearBack]; split <;> simp
 ·rw [hearJoin]; split
  ·split <;> simp
  ·simp
 ·rw [hearJoinBack]; split <;> simp
 ·rw [hearJoinDone]; split
  ·split
   ·simp
   ·split <;> simp
  ·simp
 ·rw [hearJoinAck]; simp
 ·rw [hearAddr]; split <;> simp
 ·rw [hearEcho]; simp
 ·rw [hearGone]; simp
 ·rw [hearData]; split <;> simp
 ·rw [hearCame]; simp
 ·rw [hearReset]; simp
end
section
open Go.RowKit

theorem ppStep_I {k : Nat} {g : PpS} {x : PieceD} (h : PpI k g) (hk : k ≤ 20) (hx : x.text.length ≤ 200 ∧ 0 ≤ x.pos ∧ x.pos ≤ 2000000000) : PpI (k + 1) (ppStep g x) := by
 rw [ppStep]; split
 ·exact ppI_a h hx.1
 ·split
  ·cases hl : g.laid with
   | true => simp only [if_true]; exact ppI_b1 h hl hx.1
   | false => simp only [Bool.false_eq_true, if_false]; exact ppI_b2 h hk hl hx.1
  ·exact ppI_c h hx.1 hx.2.1 hx.2.2
theorem ppGo_I : ∀ {l : List PieceD} {k : Nat} {g : PpS}, PpI k g → k + l.length ≤ 20 → (∀ x ∈ l, x.text.length ≤ 200 ∧ 0 ≤ x.pos ∧ x.pos ≤ 2000000000) → PpI (k + l.length) (ppGo g l)
 | [], k, g, h, _, _ => h
 | x :: r, k, g, h, hk, hx => by
  simp only [List.length_cons] at hk ⊢
  have := ppGo_I (l := r) (ppStep_I h (by omega) (hx x (by simp))) (by omega) (fun y hy => hx y (by simp [hy]))
  rw [show k + (r.length + 1) = k + 1 + r.length by omega]
  exact this
theorem ppAll_I {k : Nat} {g : PpS} (h : PpI k g) (hk : k ≤ 20) : (∀ z ∈ ppAll g, z.text.length ≤ 5000) ∧ (ppAll g).length ≤ 100 := by
 have ho := h.own
 have ha := h.acc
 rw [ppAll]; split
 ·refine ⟨h.texts, ?_⟩
  split at ha <;> omega
 ·refine ⟨fun z hz => ?_, ?_⟩
  ·rcases List.mem_append.1 hz with hz | hz
   ·exact h.texts z hz
   ·simp only [List.mem_singleton] at hz; subst hz; omega
  ·simp only [List.length_append, List.length_singleton]
   split at ha <;> omega
theorem ppRun_small {p : PiecesD} {n : Int} {t : List UInt8} (hs : SmallP p) (hp : piecesOk p = true) (h0 : 0 ≤ n) (h1 : n ≤ 2000000000) (ht : t.length ≤ 200) : SmallP (ppRun p n t) := by
 have F := piecesOk_fine hp hs
 have hI := ppGo_I (l := p.list) (ppI_zero h0 h1 ht) (by have := F.list; omega) F.texts
 obtain ⟨h2, h3⟩ := ppAll_I hI (by have := F.list; omega)
 rw [ppRun]
 generalize ppAll (ppGo ⟨⟨n, t⟩, false, []⟩ p.list) = l at h2 h3
 rw [ppEnd]; split
 ·have hr := F.ready
  rw [ppOut]
  cases l with
  | nil => split <;> exact ⟨by simp, by simp [List.headD]; first | omega | exact hs.ready, by simp⟩
  | cons y r =>
   have hy := h2 y (by simp)
   simp only [List.length_cons] at h3
   split
   ·exact ⟨by simp only [List.tail_cons]; omega, by simp only [List.headD_cons, List.length_append]; omega, fun z hz => by have := h2 z (List.mem_cons_of_mem _ hz); omega⟩
   ·exact ⟨by simp only [List.length_cons]; omega, by dsimp only; omega, fun z hz => by have := h2 z hz; omega⟩
 ·exact hs
theorem putPiece_small {p : PiecesD} {n : Int} {t : List UInt8} (hs : SmallP p) : SmallP (putPiece p n t) := by
 rw [putPiece]; split
 ·rename_i h
  simp only [ppOk, isN, inR, Bool.and_eq_true, decide_eq_true_eq] at h
  obtain ⟨⟨hp, hn⟩, ht⟩ := h
  split
  ·exact hs
  ·split
   ·have F := piecesOk_fine hp hs
    have hr := F.ready
    have := F.next
    have := F.r0
    have := F.r1
    exact ppRun_small hs hp (by omega) (by omega) (by rw [List.length_drop]; omega)
   ·exact ppRun_small hs hp (by omega) (by omega) (by omega)
 ·exact hs
structure GoodE (e : EndD) : Prop where
 s : Small e
 p : SmallP e.inp
 o : e.out.text.length ≤ 1048576
theorem came_len (o : OutD) (n : Int) : (came o n).text.length ≤ o.text.length := by
 rw [came]; split
 ·simp only [List.length_drop]; omega
 ·exact Nat.le_refl _
theorem hear_good {e : EndD} {x : LetterD} (h : GoodE e) : GoodE (hear e x).1 := by
 have io : (hear e x).1.inp = e.inp ∧ (hear e x).1.out = e.out ∨ SmallP (hear e x).1.inp ∧ (hear e x).1.out.text.length ≤ 1048576 := by
  refine hear_all (Q := fun r => r.1.inp = e.inp ∧ r.1.out = e.out ∨ SmallP r.1.inp ∧ r.1.out.text.length ≤ 1048576) (.inl ⟨rfl, rfl⟩) ?_ ?_ ?_ ?_ ?_ ?_ ?_ ?_ ?_ ?_ ?_ ?_
  ·unfold hearHello; repeat' split
   all_goals exact .inl ⟨rfl, rfl⟩
  ·unfold hearBack; repeat' split
   all_goals exact .inl ⟨rfl, rfl⟩
  ·unfold hearJoin; repeat' split
   all_goals exact .inl ⟨rfl, rfl⟩
  ·unfold hearJoinBack; repeat' split
   all_goals exact .inl ⟨rfl, rfl⟩
  ·unfold hearJoinDone; repeat' split
   all_goals exact .inl ⟨rfl, rfl⟩
  ·unfold hearJoinAck; dsimp only; split
   all_goals exact .inl ⟨rfl, rfl⟩
  ·unfold hearAddr; repeat' split
   all_goals exact .inl ⟨rfl, rfl⟩
  ·unfold hearEcho; dsimp only; split
   all_goals exact .inl ⟨rfl, rfl⟩
  ·unfold hearGone; dsimp only; split
   all_goals exact .inl ⟨rfl, rfl⟩
  ·unfold hearData; split
   ·exact .inr ⟨putPiece_small h.p, h.o⟩
   ·exact .inl ⟨rfl, rfl⟩
  ·unfold hearCame; dsimp only; split
   ·exact .inr ⟨h.p, Nat.le_trans (came_len _ _) h.o⟩
   ·exact .inl ⟨rfl, rfl⟩
  ·unfold hearReset; dsimp only; split
   all_goals exact .inl ⟨rfl, rfl⟩
 rcases io with ⟨h1, h2⟩ | ⟨h1, h2⟩
 ·exact ⟨hear_small h.s, by rw [h1]; exact h.p, by rw [h2]; exact h.o⟩
 ·exact ⟨hear_small h.s, h1, h2⟩
end
section
open Go.RowKit

end
section
open Go.RowKit

def nextSub (e : EndD) : Int := if endOk e = true ∧ (carrN e.subs).length ≠ 0 then (((carrN e.subs).getD (e.pick.toNat % (carrN e.subs).length) 0 : Nat) : Int) else -1
theorem nextSub_cases (e : EndD) : nextSub e = -1 ∨ ∃ m : Nat, m < e.subs.length ∧ nextSub e = (m : Int) := by
 rw [nextSub]
 split
 ·rename_i h
  right
  have hz : e.pick.toNat % (carrN e.subs).length < (carrN e.subs).length := Nat.mod_lt _ (by omega)
  refine ⟨_, ?_, rfl⟩
  rw [List.getD_eq_getElem?_getD, List.getElem?_eq_getElem hz]
  exact carrN_lt (List.getElem_mem hz)
 ·exact .inl rfl
theorem endOk_pick {e : EndD} (h : endOk e = true) : 0 ≤ e.pick ∧ e.pick ≤ 1000000000 := by
 simp only [endOk, Bool.and_eq_true] at h
 have h1 := h.1.2
 simp only [List.all_cons, Bool.and_eq_true, isN, decide_eq_true_eq] at h1
 exact h1.2.2.2.2.1
theorem pick_mod {p : Int} {n : Nat} (hp : 0 ≤ p) (hn : 0 < n) : ∃ z : Nat, p.tmod (n : Int) = (z : Int) ∧ z < n ∧ z = p.toNat % n := by
 obtain ⟨q, rfl⟩ := Int.eq_ofNat_of_zero_le hp
 refine ⟨q % n, ?_, Nat.mod_lt _ hn, by simp⟩
 rw [Int.tmod_eq_emod_of_nonneg (by omega)]
 omega
theorem nextSub_at {e : EndD} {z : Nat} (h1 : endOk e = true) (hz : z < (carrN e.subs).length) (hz2 : z = e.pick.toNat % (carrN e.subs).length) : nextSub e = (((carrN e.subs)[z] : Nat) : Int) := by
 rw [nextSub, if_pos ⟨h1, by omega⟩, ← hz2, List.getD_eq_getElem?_getD, List.getElem?_eq_getElem hz]
 rfl
def pickOn (n : Int) : Int := if 1000000000 ≤ n then 0 else n + 1
def turnsGo (e : EndD) : Nat → List Int → List Int
 | 0, out => out
 | f + 1, out => turnsGo { e with pick := pickOn e.pick } f (if 0 ≤ nextSub e then out.set (nextSub e).toNat (IntKind.i64.wrap (out.getD (nextSub e).toNat 0 + 1)) else out)
def turns (e : EndD) (n : Int) : List Int := if endOk e && inR n 0 100 then turnsGo e n.toNat (List.replicate e.subs.length 0) else []
theorem spec_NextSub (e : EndD) (h0 : e.own.length ≤ 1048576) (h1 : e.far.length ≤ 1048576) (h2 : e.subs.length ≤ 1048576) (h3 : e.halfs.length ≤ 1048576) (h4 : e.inp.list.length ≤ 1048576) (h5 : e.done.length ≤ 1048576) (h6 : e.over.length ≤ 1048576) : CallA Tryz.prog 54 [.ag (e.cs 0)] (e.hp false) (.sc (.int .i64 (nextSub e))) (e.hp false) := by
 have hcl := carrN_len e.subs
 have hon := onN_len e.subs
 obtain ⟨q, hq⟩ : ∃ q, q = (onN e.subs).filter (nsp e.subs) := ⟨_, rfl⟩
 have hc : carrN e.subs = if q.length = 0 then onN e.subs else q := by rw [carrN, hq]
 have hqn : q.length ≤ 1048576 := by rw [hq]; exact Nat.le_trans (List.length_filter_le _ _) (by omega)
 refine qE Tryz.func54 Tryz.ntmps54 Tryz.results54 fun E hE => ?_
 refine qK (spec_EndOk e h0 h1 h2 h3 h4 h5 h6) (qA [0, 1, 2, 3, 4, 5, 6]) ?_
 refine qB (fun g1 => ?_) fun g1 => ?_
 ·have hr : nextSub e = -1 := by rw [nextSub, if_neg (by simp [g1])]
  rw [hr]
  exact qF (qA [0, 1, 2, 3, 4, 5, 6])
 ·refine qK (spec_OnOf e h2) (qA [0, 1, 2, 3, 4, 5, 6]) ?_
  refine den_lp 7 hE (fun s (x : Nat × List Nat) => s.at [0, 6, 7, 8, 9, 10, 11, 12, 13, 14, 15, 16, 17, 18, 19, 20, 21, 22, 23, 24, 25, 26, 27, 28, 29, 30, 31, 32, 33, 34] [(5, .sc (.int .i64 (x.1 : Nat))), (4, .sc (.sl 9 0 x.2.length))] (e.hp false ++ [some ⟨[e.cs 0], 25, 38, true, false⟩, some ⟨(onN e.subs).map natC, 1, 3, true, true⟩, some ⟨x.2.map natC, 1, 3, true, true⟩])) (fun (x : Nat × List Nat) => x.1 ≤ (onN e.subs).length ∧ x.2.length ≤ x.1 ∧ x.2 ++ ((onN e.subs).drop x.1).filter (nsp e.subs) = q) (fun (x : Nat × List Nat) => (onN e.subs).length - x.1) (0, []) (qA [0, 1, 2, 3, 4, 5, 6, 7, 8, 9]) (qC) (⟨Nat.zero_le _, Nat.zero_le _, by rw [hq]; rfl⟩) (weak_mk (by rfl) (by rfl) ?_) fun x hx N hN => ?_
  ·exact qY
  ·obtain ⟨k, acc⟩ := x
   obtain ⟨hk1, hk2, hk3⟩ := hx
   dsimp only at hk1 hk2 hk3
   refine qR ?_
   refine qB (fun h => ?_) fun h => ?_
   ·have hlt := onN_lt h
    rw [filter_step h] at hk3
    refine qD [0, 1, 2, 3, 4, 5, 6, 7, 8, 9] ?_
    refine qX ?_
    refine qG ?_
    cases h8 : e.subs[(onN e.subs)[k]].spare with
    | false =>
     have hp : nsp e.subs (onN e.subs)[k] = true := by rw [nsp, subAtN_eq hlt, h8]; rfl
     rw [if_pos hp] at hk3
     try simp (disch := omega) only [go_sem, Nat.reduceEqDiff, Nat.reduceAdd, Nat.reduceSub, Int.reduceAdd, Int.reduceSub, Int.reduceToNat, h8]
     refine ⟨qC, hN _ (k + 1, acc ++ [(onN e.subs)[k]]) (qA [0, 1, 2, 3, 4, 5, 6, 7, 8, 11]) (by (try dsimp only); exact ⟨by omega, by simp; omega, by simpa using hk3⟩) (by (try dsimp only); omega) (weak_mk (by rfl) (by rfl) ?_)⟩
     try simp (disch := omega) only [go_sem, Nat.reduceEqDiff, Nat.reduceAdd, Nat.reduceSub, Int.reduceAdd, Int.reduceSub, Int.reduceToNat]
     try simp [natC]
    | true =>
     have hp : nsp e.subs (onN e.subs)[k] = false := by rw [nsp, subAtN_eq hlt, h8]; rfl
     rw [if_neg (by simp [hp])] at hk3
     try simp (disch := omega) only [go_sem, Nat.reduceEqDiff, Nat.reduceAdd, Nat.reduceSub, Int.reduceAdd, Int.reduceSub, Int.reduceToNat, h8]
     exact qN hN (k + 1, acc) (qA [0, 1, 2, 3, 4, 5, 6, 7, 8, 9]) (by (try dsimp only); exact ⟨by omega, by omega, hk3⟩)
   ·rw [List.drop_eq_nil_of_le (by omega), List.filter_nil, List.append_nil] at hk3
    subst hk3
    refine qX ?_
    refine qB (fun h8 => ?_) fun h8 => ?_
    ·rw [if_pos (by omega)] at hc
     refine qX ?_
     refine qB (fun h9 => ?_) fun h9 => ?_
     ·have hr : nextSub e = -1 := by rw [nextSub, if_neg (by rw [hc]; omega)]
      rw [hr]
      exact qF (qA [0, 1, 2, 3, 4, 5, 6])
     ·rw [hc] at hcl
      have hl0 : 0 < (carrN e.subs).length := by rw [hc]; omega
      have hpk := endOk_pick g1
      obtain ⟨z, hz, hz1, hz2⟩ := pick_mod hpk.1 hl0
      have hn := nextSub_at g1 hz1 hz2
      simp only [hc] at hz hz1 hn
      rw [hn]
      try simp (disch := omega) only [go_sem, Nat.reduceEqDiff, Nat.reduceAdd, Nat.reduceSub, Int.reduceAdd, Int.reduceSub, Int.reduceToNat, hz, map_get hz1]
      exact qF (qA [0, 1, 2, 3, 4, 5, 6])
    ·rw [if_neg (by omega)] at hc
     refine qX ?_
     have hl0 : 0 < (carrN e.subs).length := by rw [hc]; omega
     have hpk := endOk_pick g1
     obtain ⟨z, hz, hz1, hz2⟩ := pick_mod hpk.1 hl0
     have hn := nextSub_at g1 hz1 hz2
     simp only [hc] at hz hz1 hn
     rw [hn]
     try simp (disch := omega) only [go_sem, Nat.reduceEqDiff, Nat.reduceAdd, Nat.reduceSub, Int.reduceAdd, Int.reduceSub, Int.reduceToNat, hz, map_get hz1]
     exact qF (qA [0, 1, 2, 3, 4, 5, 6])
end
section
open Go.RowKit

structure FineO (o : OutD) : Prop where
 base : 0 ≤ o.base ∧ o.base ≤ 1000000000
 room : 1 ≤ o.room ∧ o.room ≤ 200
 len : (o.text.length : Int) ≤ o.room
 sent : o.base ≤ o.sent ∧ o.sent ≤ o.base + (o.text.length : Int)
theorem outOk_fine {o : OutD} (h : outOk o = true) : FineO o := by
 simp only [outOk, isN, inR, Bool.and_eq_true, decide_eq_true_eq] at h
 obtain ⟨⟨⟨h1, h2⟩, h3⟩, h4, h5⟩ := h
 rw [w64 (by omega)] at h5
 exact ⟨h1, h2, h3, h4, h5⟩
def accN (o : OutD) (t : List UInt8) : Nat := min t.length (o.room - (o.text.length : Int)).toNat
def accOk (o : OutD) (t : List UInt8) : Bool := outOk o && decide (o.base + (o.text.length : Int) + (accN o t : Int) ≤ 1000000000)
def accept (o : OutD) (t : List UInt8) : OutD × Nat := if accOk o t then ({ o with text := o.text ++ t.take (accN o t) }, accN o t) else (o, 0)
theorem accept_t {o : OutD} {t : List UInt8} (h : accOk o t = true) : accept o t = ({ o with text := o.text ++ t.take (accN o t) }, accN o t) := if_pos h
theorem accept_f {o : OutD} {t : List UInt8} (h : accOk o t = false) : accept o t = (o, 0) := if_neg (by simp [h])
def write (e : EndD) (t : List UInt8) : EndD × Nat := if endOk e then ({ e with out := (accept e.out t).1 }, (accept e.out t).2) else (e, 0)
theorem write_t {e : EndD} {t : List UInt8} (h : endOk e = true) : write e t = ({ e with out := (accept e.out t).1 }, (accept e.out t).2) := if_pos h
theorem write_f {e : EndD} {t : List UInt8} (h : endOk e = false) : write e t = (e, 0) := if_neg (by simp [h])
theorem accN_le (o : OutD) (t : List UInt8) : accN o t ≤ t.length := Nat.min_le_left _ _
theorem accept_le (o : OutD) (t : List UInt8) : (accept o t).2 ≤ t.length := by
 rw [accept]; split
 ·exact accN_le o t
 ·exact Nat.zero_le _
theorem write_le (e : EndD) (t : List UInt8) : (write e t).2 ≤ t.length := by
 rw [write]; split
 ·exact accept_le _ _
 ·exact Nat.zero_le _
def tkN (p : PiecesD) (many : Int) : Nat := min many.toNat p.ready.length
def tkOk (p : PiecesD) (many : Int) : Bool := piecesOk p && decide (0 ≤ many) && decide (p.read + (tkN p many : Int) ≤ 1000000000)
def takeReady (p : PiecesD) (many : Int) : PiecesD × List UInt8 := if tkOk p many then (⟨p.read + (tkN p many : Int), p.ready.drop (tkN p many), p.list⟩, p.ready.take (tkN p many)) else (p, [])
theorem tk_t {p : PiecesD} {m : Int} (h : tkOk p m = true) : takeReady p m = (⟨p.read + (tkN p m : Int), p.ready.drop (tkN p m), p.list⟩, p.ready.take (tkN p m)) := if_pos h
theorem tk_f {p : PiecesD} {m : Int} (h : tkOk p m = false) : takeReady p m = (p, []) := if_neg (by simp [h])
def readE (e : EndD) (many : Int) : EndD × List UInt8 := if endOk e then ({ e with inp := (takeReady e.inp many).1 }, (takeReady e.inp many).2) else (e, [])
theorem readE_t {e : EndD} {m : Int} (h : endOk e = true) : readE e m = ({ e with inp := (takeReady e.inp m).1 }, (takeReady e.inp m).2) := if_pos h
theorem readE_f {e : EndD} {m : Int} (h : endOk e = false) : readE e m = (e, []) := if_neg (by simp [h])
def npOk (o : OutD) : Bool := outOk o && !decide (o.sent = o.base + (o.text.length : Int))
def npText (o : OutD) : List UInt8 := (o.text.drop (o.sent - o.base).toNat).take 20
def nextPiece (o : OutD) : PieceD × Bool := if npOk o then (⟨o.sent, npText o⟩, true) else (⟨0, []⟩, false)
theorem np_t {o : OutD} (h : npOk o = true) : nextPiece o = (⟨o.sent, npText o⟩, true) := if_pos h
theorem np_f {o : OutD} (h : npOk o = false) : nextPiece o = (⟨0, []⟩, false) := if_neg (by simp [h])
def wasSent (o : OutD) : OutD := if npOk o then { o with sent := o.sent + ((npText o).length : Int) } else o
theorem ws_t {o : OutD} (h : npOk o = true) : wasSent o = { o with sent := o.sent + ((npText o).length : Int) } := if_pos h
def pushOk (e : EndD) : Bool := npOk e.out && decide (0 ≤ nextSub e)
def dataL (s : SubD) (o : OutD) : LetterD := between s.road { letNone with kind := 11, sgn := s.give, pos := o.sent, text := npText o }
def push (e : EndD) : EndD × List LetterD :=
 if pushOk e then ({ e with out := wasSent e.out, pick := pickOn e.pick }, [dataL (subAtN e.subs (nextSub e).toNat) e.out]) else (e, [])
theorem push_f {e : EndD} (h : pushOk e = false) : push e = (e, []) := if_neg (by simp [h])
theorem push_t {e : EndD} {n : Nat} (h : pushOk e = true) (hk : nextSub e = (n : Int)) (hn : n < e.subs.length) :
  push e = ({ e with out := { e.out with sent := e.out.sent + ((npText e.out).length : Int) }, pick := pickOn e.pick }, [dataL e.subs[n] e.out]) := by
 have h1 : npOk e.out = true := by simp only [pushOk, Bool.and_eq_true] at h; exact h.1
 rw [push, if_pos h, ws_t h1, hk, Int.toNat_natCast, subAtN_at hn]
def pushN : Nat → EndD → EndD × List LetterD
 | 0, e => (e, [])
 | k + 1, e => ((pushN k (push e).1).1, (push e).2 ++ (pushN k (push e).1).2)
def writeAll (e : EndD) (t : List UInt8) : EndD × List LetterD := pushN 3 (write e t).1
def rsOk (e : EndD) (k : Int) : Bool := endOk e && inR k 0 ((e.subs.length : Int) - 1) && decide ((subAtN e.subs k.toNat).state = 3)
def resetE (e : EndD) (k : Int) : EndD × List LetterD :=
 if rsOk e k then ({ e with subs := setState e.subs k.toNat 4 }, [between (subAtN e.subs k.toNat).road { letNone with kind := 13, sgn := (subAtN e.subs k.toNat).give }]) else (e, [])
def aoOk (e : EndD) (a : AddrD) : Bool := endOk e && decide (addrAt e.own a.id < 0) && !hasI e.done a.id
def addOwn (e : EndD) (a : AddrD) : EndD × Bool :=
 if aoOk e a then ({ e with own := (putAddr e.own { a with told := false }).1 }, (putAddr e.own { a with told := false }).2) else (e, false)
def addrL (e : EndD) (s : SubD) (a : AddrD) : LetterD := between s.road { letNone with kind := 8, tag := ⟨3, e.key, e.peer, a.id, a.addr⟩, sgn := s.give, id := a.id, addr := a.addr, spare := a.spare }
def taOk (e : EndD) : Bool := endOk e && decide (e.state = 2) && !decide ((onN e.subs).length = 0)
def tellAddrs (e : EndD) : List LetterD := if taOk e then (e.own.filter fun a => !a.told).map (addrL e (subAtN e.subs ((onN e.subs).headD 0))) else []
def goneO (a : Int) (s : SubD) : SubD := if s.road.own = a then { s with state := 4 } else s
def goneL (id : Int) (s : SubD) : LetterD := between s.road { letNone with kind := 10, sgn := s.give, id := id }
def doOk (e : EndD) (n : Int) : Bool := endOk e && decide (e.state = 2) && decide (0 ≤ addrAt e.own n)
def dropSubs (e : EndD) (n : Int) : List SubD := e.subs.map (goneO (adAtN e.own (addrAt e.own n).toNat).addr)
def dropOwn (e : EndD) (n : Int) : EndD × List LetterD :=
 if doOk e n then ({ e with own := (dropAddr e.own n).1, done := putI e.done n, subs := dropSubs e n }, (onN (dropSubs e n)).map fun k => goneL n (subAtN (dropSubs e n) k)) else (e, [])
def filled (b : BucketD) : BucketD := if bucketOk b then { b with cur := min b.burst (b.cur + b.rate) } else b
def younger (l : List HalfD) (now : Int) : List HalfD := l.filter fun h => decide (now < h.till)
def anew (o : OutD) : OutD := if outOk o then { o with sent := o.base } else o
def tkE (e : EndD) : Bool := endOk e && decide (e.now < 1000000000) && e.subs.all fun s => decide (s.tries < 1000000000)
def joinL' (e : EndD) (s : SubD) : LetterD := between s.road { letNone with kind := 4, token := tokenFor (3 - e.side), nonce := s.mine, give := s.take, spare := s.spare }
def tickS (s : SubD) : SubD := if s.state = 1 ∨ s.state = 2 then (if s.state = 2 ∧ 9 ≤ s.tries + 1 then { s with tries := s.tries + 1, state := 4 } else { s with tries := s.tries + 1 }) else s
def tickL (e : EndD) (s : SubD) : List LetterD :=
 if s.state = 1 ∨ s.state = 2 then (if s.state = 2 ∧ 9 ≤ s.tries + 1 then [] else if (s.tries + 1).tmod 3 ≠ 0 then [] else if s.state = 1 then [joinL' e s] else [doneLetter e s]) else []
def tick0 (e : EndD) : EndD := { e with now := e.now + 1, bucket := filled e.bucket, halfs := younger e.halfs (e.now + 1), out := anew e.out }
def tickEnd (e : EndD) (l : List LetterD) : EndD × List LetterD := ((pushN 3 e).1, l ++ tellAddrs e ++ (pushN 3 e).2)
def tick (e : EndD) : EndD × List LetterD :=
 if tkE e then (if e.state = 2 then tickEnd { tick0 e with subs := e.subs.map tickS } (e.subs.flatMap (tickL e)) else tickEnd (tick0 e) []) else (e, [])
def haveOf (l : List SubD) : List RoadD := (l.filter fun s => s.state != 4).map SubD.road
def hasFar (l : List AddrD) (n : Int) : Bool := l.any fun a => a.addr == n
def spareOf (l : List AddrD) (n : Int) : Bool := l.foldl (fun b a => if a.addr = n then a.spare else b) false
def jnOk (e : EndD) (r : RoadD) : Bool :=
 endOk e && decide (e.state = 2) && roadN r && decide (subAt e.subs r < 0) && ownsAddr e.own r.own && hasFar e.far r.far && decide (e.subs.length < 8) && inR e.draw 1 999999996
def askSub (e : EndD) (r : RoadD) (spare : Bool) : SubD := ⟨r, 1, spare, e.draw, 0, 0, e.draw + 2, 0⟩
def join (e : EndD) (r : RoadD) (spare : Bool) : EndD × List LetterD :=
 if jnOk e r then ({ e with subs := e.subs ++ [askSub e r spare], draw := e.draw + 4 }, [joinL' e (askSub e r spare)]) else (e, [])
def manGo (far : List AddrD) : EndD → List RoadD → EndD × List LetterD
 | e, [] => (e, [])
 | e, r :: l => ((manGo far (join e r (spareOf far r.far)).1 l).1, (join e r (spareOf far r.far)).2 ++ (manGo far (join e r (spareOf far r.far)).1 l).2)
def manage (e : EndD) : EndD × List LetterD :=
 if endOk e = true ∧ e.side = 1 then manGo e.far e (missing (wanted e.policy e.own e.far) (haveOf e.subs)) else (e, [])
end
section
open Go.RowKit

def wrote (w : WorldD) (side : Int) (t : List UInt8) : WorldD := if side = 1 then { w with wroteA := w.wroteA ++ t } else { w with wroteB := w.wroteB ++ t }
def gotRead (w : WorldD) (side : Int) (t : List UInt8) : WorldD := if side = 1 then { w with readA := w.readA ++ t } else { w with readB := w.readB ++ t }
def mayInject (w : WorldD) (x : LetterD) : Bool := letOk x && !decide (sideAt x.to = 0) && canMake w.known x.tag && [x.key, x.nonce, x.give, x.sgn].all fun n => decide (n < 1000) || hasI w.nums n
def actE (e : EndD) (a : ActD) : EndD × List LetterD :=
 if a.kind = 1 then writeAll e a.text else if a.kind = 2 then ((readE e a.many).1, []) else if a.kind = 3 then tick e else if a.kind = 4 then manage e
 else if a.kind = 5 then ((addOwn e a.addr).1, []) else if a.kind = 6 then dropOwn e a.pos else resetE e a.pos
def actW (w : WorldD) (a : ActD) : WorldD :=
 if a.kind = 1 then wrote w a.side (a.text.take (write (endAt w a.side) a.text).2) else if a.kind = 2 then gotRead w a.side (readE (endAt w a.side) a.many).2 else w
def actBad (w : WorldD) (a : ActD) : Bool := decide (a.kind = 5) && (!decide (sideAt a.addr.addr = a.side) || !(addOwn (endAt w a.side) a.addr).2)
def acts (w : WorldD) (a : ActD) : WorldD × Int :=
 if actBad w a then (w, 1) else (postL a.side (setEnd (actW w a) a.side (actE (endAt w a.side) a).1) (actE (endAt w a.side) a).2, 0)
def bagOut (l : List LetterD) (n : Int) : List LetterD := l.take n.toNat ++ l.drop (n.toNat + 1)
def leAtN (l : List LetterD) (n : Nat) : LetterD := l.getD n default
def moves (w : WorldD) (a : ActD) : WorldD × Int :=
 if a.kind = 8 ∨ a.kind = 9 then
  if (w.bag.length : Int) ≤ a.pos then (w, 1)
  else if a.kind = 8 then (lands { w with bag := bagOut w.bag a.pos } (leAtN w.bag a.pos.toNat), 0) else ({ w with bag := bagOut w.bag a.pos }, 0)
 else if a.kind = 10 then
  if (w.bag.length : Int) ≤ a.pos ∨ 40 ≤ w.bag.length then (w, 1) else ({ w with bag := w.bag ++ [leAtN w.bag a.pos.toNat] }, 0)
 else if a.kind = 11 then
  if mayInject w a.letter = false then (w, 2) else if 40 ≤ w.bag.length then (w, 1) else ({ w with bag := w.bag ++ [a.letter] }, 0)
 else
  if (w.past.length : Int) ≤ a.pos ∨ sideAt (leAtN w.past a.pos.toNat).to = 0 ∨ 40 ≤ w.bag.length then (w, 1) else ({ w with bag := w.bag ++ [leAtN w.past a.pos.toNat] }, 0)
def doneW (w : WorldD) (a : ActD) : WorldD × Int := if actOk a then (if a.kind ≤ 7 then acts w a else moves w a) else (w, 3)
end
section
open Go.RowKit

def endsHp (w : WorldD) (own : Bool) : Hp := [some ⟨w.a.own.map AddrD.cs, 4, 80, own, true⟩, some ⟨w.a.far.map AddrD.cs, 4, 80, own, true⟩, some ⟨w.a.subs.map SubD.cs, 10, 78, own, true⟩, some ⟨w.a.halfs.map HalfD.cs, 8, 118, own, true⟩, some ⟨w.a.inp.list.map PieceD.cs, 2, 121, own, true⟩, some ⟨w.a.done.map intC, 1, 3, own, true⟩, some ⟨w.a.over.map intC, 1, 3, own, true⟩, some ⟨w.b.own.map AddrD.cs, 4, 80, own, true⟩, some ⟨w.b.far.map AddrD.cs, 4, 80, own, true⟩, some ⟨w.b.subs.map SubD.cs, 10, 78, own, true⟩, some ⟨w.b.halfs.map HalfD.cs, 8, 118, own, true⟩, some ⟨w.b.inp.list.map PieceD.cs, 2, 121, own, true⟩, some ⟨w.b.done.map intC, 1, 3, own, true⟩, some ⟨w.b.over.map intC, 1, 3, own, true⟩]
def restHp (w : WorldD) (own : Bool) : Hp := [some ⟨w.bag.map LetterD.cs, 19, 67, own, true⟩, some ⟨w.past.map LetterD.cs, 19, 67, own, true⟩, some ⟨w.known.keys.map intC, 1, 3, own, true⟩, some ⟨w.known.tags.map TagD.cs, 5, 65, own, true⟩, some ⟨w.nums.map intC, 1, 3, own, true⟩, some ⟨w.answersA.map intC, 1, 3, own, true⟩, some ⟨w.answersB.map intC, 1, 3, own, true⟩]
attribute [go_sem] endsHp restHp
theorem spec_l23Set1 (w : WorldD) (e : EndD) : CallA Tryz.prog 193 [.ag (w.cs 0), .sc (.int .i64 1), .ag (e.cs 21)] (w.hp false ++ e.hp false) (.ag (worldC { w with a := e } 21 22 23 24 25 26 27 7 8 9 10 11 12 13 14 15 16 17 18 19 20)) (w.hp false ++ e.hp false) := by
 refine qEO Tryz.func193 Tryz.ntmps193 Tryz.results193 fun E hE => ?_
 exact qFO (qA [0, 1, 2, 3, 4, 5, 6, 7, 8, 9, 10, 11, 12, 13, 14, 15, 16, 17, 18, 19, 20, 21, 22, 23, 24, 25, 26, 27])
theorem spec_l23Set2 (w : WorldD) (e : EndD) : CallA Tryz.prog 193 [.ag (w.cs 0), .sc (.int .i64 2), .ag (e.cs 21)] (w.hp false ++ e.hp false) (.ag (worldC { w with b := e } 0 1 2 3 4 5 6 21 22 23 24 25 26 27 14 15 16 17 18 19 20)) (w.hp false ++ e.hp false) := by
 refine qEO Tryz.func193 Tryz.ntmps193 Tryz.results193 fun E hE => ?_
 exact qFO (qA [0, 1, 2, 3, 4, 5, 6, 7, 8, 9, 10, 11, 12, 13, 14, 15, 16, 17, 18, 19, 20, 21, 22, 23, 24, 25, 26, 27])
theorem spec_l23Hears (w : WorldD) (n : Int) (h0 : w.nums.length ≤ 1048576) : CallA Tryz.prog 76 [.ag (w.cs 0), .sc (.int .i64 n)] [some ⟨w.a.own.map AddrD.cs, 4, 80, false, true⟩, some ⟨w.a.far.map AddrD.cs, 4, 80, false, true⟩, some ⟨w.a.subs.map SubD.cs, 10, 78, false, true⟩, some ⟨w.a.halfs.map HalfD.cs, 8, 118, false, true⟩, some ⟨w.a.inp.list.map PieceD.cs, 2, 121, false, true⟩, some ⟨w.a.done.map intC, 1, 3, false, true⟩, some ⟨w.a.over.map intC, 1, 3, false, true⟩, some ⟨w.b.own.map AddrD.cs, 4, 80, false, true⟩, some ⟨w.b.far.map AddrD.cs, 4, 80, false, true⟩, some ⟨w.b.subs.map SubD.cs, 10, 78, false, true⟩, some ⟨w.b.halfs.map HalfD.cs, 8, 118, false, true⟩, some ⟨w.b.inp.list.map PieceD.cs, 2, 121, false, true⟩, some ⟨w.b.done.map intC, 1, 3, false, true⟩, some ⟨w.b.over.map intC, 1, 3, false, true⟩, some ⟨w.bag.map LetterD.cs, 19, 67, false, true⟩, some ⟨w.past.map LetterD.cs, 19, 67, false, true⟩, some ⟨w.known.keys.map intC, 1, 3, false, true⟩, some ⟨w.known.tags.map TagD.cs, 5, 65, false, true⟩, some ⟨w.nums.map intC, 1, 3, true, true⟩, some ⟨w.answersA.map intC, 1, 3, false, true⟩, some ⟨w.answersB.map intC, 1, 3, false, true⟩] (.ag (worldC { w with nums := numP w.nums n } 0 1 2 3 4 5 6 7 8 9 10 11 12 13 14 15 16 17 21 19 20))
  [some ⟨w.a.own.map AddrD.cs, 4, 80, false, true⟩, some ⟨w.a.far.map AddrD.cs, 4, 80, false, true⟩, some ⟨w.a.subs.map SubD.cs, 10, 78, false, true⟩, some ⟨w.a.halfs.map HalfD.cs, 8, 118, false, true⟩, some ⟨w.a.inp.list.map PieceD.cs, 2, 121, false, true⟩, some ⟨w.a.done.map intC, 1, 3, false, true⟩, some ⟨w.a.over.map intC, 1, 3, false, true⟩, some ⟨w.b.own.map AddrD.cs, 4, 80, false, true⟩, some ⟨w.b.far.map AddrD.cs, 4, 80, false, true⟩, some ⟨w.b.subs.map SubD.cs, 10, 78, false, true⟩, some ⟨w.b.halfs.map HalfD.cs, 8, 118, false, true⟩, some ⟨w.b.inp.list.map PieceD.cs, 2, 121, false, true⟩, some ⟨w.b.done.map intC, 1, 3, false, true⟩, some ⟨w.b.over.map intC, 1, 3, false, true⟩, some ⟨w.bag.map LetterD.cs, 19, 67, false, true⟩, some ⟨w.past.map LetterD.cs, 19, 67, false, true⟩, some ⟨w.known.keys.map intC, 1, 3, false, true⟩, some ⟨w.known.tags.map TagD.cs, 5, 65, false, true⟩, none, some ⟨w.answersA.map intC, 1, 3, false, true⟩, some ⟨w.answersB.map intC, 1, 3, false, true⟩, some ⟨(numP w.nums n).map intC, 1, 3, true, true⟩] := by
 have hH := spec_l15Has w.nums n h0
 have ht := numP_t (l := w.nums) (n := n)
 have hf1 := numP_f1 (l := w.nums) (n := n)
 have hf2 := numP_f2 (l := w.nums) (n := n)
 have hf3 := numP_f3 (l := w.nums) (n := n)
 generalize numP w.nums n = R at *
 refine qEO Tryz.func76 Tryz.ntmps76 Tryz.results76 fun E hE => ?_
 refine qB (fun b1 => ?_) fun b1 => ?_
 ·refine qB (fun b2 => ?_) fun b2 => ?_
  ·refine qK (hH) (qA [18]) ?_
   refine qB (fun b3 => ?_) fun b3 => ?_
   ·rw [ht b1 b3 (by omega)]
    refine qX ?_
    refine den_finO (qA [0, 1, 2, 3, 4, 5, 6, 7, 8, 9, 10, 11, 12, 13, 14, 15, 16, 17, 18, 19, 20, 24]) (qC) _ (by simp only [go_sem]; rfl) (by rfl) (by rfl) ?_
    simp (disch := omega) only [go_sem, Nat.reduceEqDiff, Nat.reduceAdd, Nat.reduceSub, Int.reduceAdd, Int.reduceSub, Int.reduceToNat]
    try simp [intC]
   ·rw [hf2 b3]
    refine qX ?_
    exact qFO (qA [0, 1, 2, 3, 4, 5, 6, 7, 8, 9, 10, 11, 12, 13, 14, 15, 16, 17, 18, 19, 20, 18])
  ·rw [hf3 (by omega)]
   refine qX ?_
   exact qFO (qA [0, 1, 2, 3, 4, 5, 6, 7, 8, 9, 10, 11, 12, 13, 14, 15, 16, 17, 18, 19, 20, 18])
 ·rw [hf1 b1]
  refine qX ?_
  exact qFO (qA [0, 1, 2, 3, 4, 5, 6, 7, 8, 9, 10, 11, 12, 13, 14, 15, 16, 17, 18, 19, 20, 18])
end
section
open Go.RowKit

end
section
open Go.RowKit

theorem spec_Posted1 (w : WorldD) (l : List LetterD) (hw : SmallW w) (hl : l.length ≤ 1048576) : CallA Tryz.prog 23 [.ag (w.cs 0), .sc (.int .i64 1), .sc (.sl 21 0 l.length)]
  (w.hp false ++ [some ⟨l.map LetterD.cs, 19, 67, false, true⟩]) (.ag ((postL 1 w l).cs 22)) (w.hp false ++ ([some ⟨l.map LetterD.cs, 19, 67, false, true⟩] ++ (postL 1 w l).hp true)) := by
 obtain ⟨R, hR⟩ : ∃ R, R = postL 1 w l := ⟨_, rfl⟩
 rw [← hR]
 have hl2 : l.length ≤ 9223372036854775807 := by omega
 have hC := spec_l23Copy w hw
 refine callA_ofO Tryz.func23 (by kernel_rfl) rfl fun E hE => run_den 400 ?_
 simp (disch := omega) only [Tryz.ntmps23, Tryz.results23, go_sem, Nat.reduceEqDiff, Nat.reduceAdd, Nat.reduceSub, Int.reduceAdd, Int.reduceSub, Int.reduceToNat]
 refine den_call (by (try simp (disch := omega) only [go_sem, List.length_set, Nat.reduceEqDiff, Nat.reduceAdd, Nat.reduceSub, Int.reduceAdd, Int.reduceSub, Int.reduceToNat]) <;> omega) (hC) [some (0, none), some (1, none), some (2, none), some (3, none), some (4, none), some (5, none), some (6, none), some (7, none), some (8, none), some (9, none), some (10, none), some (11, none), some (12, none), some (13, none), some (14, none), some (15, none), some (16, none), some (17, none), some (18, none), some (19, none), some (20, none)] (by simp only [go_sem]; repeat' first | rfl | constructor | (rw [List.map_set]; rfl) | (simp [List.map_take, List.map_drop] <;> omega)) (by rfl) (run_den 400 ?_)
 simp (disch := omega) only [go_sem, Nat.reduceEqDiff, Nat.reduceAdd, Nat.reduceSub, Int.reduceAdd, Int.reduceSub, Int.reduceToNat]
 refine den_lpO 22 hE (fun s (y : Nat × WorldD) => s.at [0, 8, 9, 10, 11, 12, 13, 14, 15, 16, 17, 18, 19, 20, 21, 22, 23, 24, 25, 26, 27, 28, 29, 30, 31, 32, 33, 34, 35, 36, 37, 38, 39, 40, 41, 42, 43, 44, 45, 46, 47, 48, 49, 50, 51, 52, 53, 54, 55, 56, 57, 58, 59, 60, 61, 62, 63, 64, 65, 66, 67, 68, 69, 70, 71, 72, 73, 74, 75, 76, 77, 78, 79, 80, 81, 82, 83, 84, 85, 86, 87, 88, 89, 90, 91, 92, 93, 94, 95, 96, 97, 98, 99, 100, 101, 102, 103, 104, 105, 106, 107, 108, 109, 110, 111, 112] [(7, .sc (.int .i64 (y.1 : Nat)))] (((s.hp.take 24).set 22 (some ⟨[(worldC y.2 24 25 26 27 28 29 30 31 32 33 34 35 36 37 38 39 40 41 42 43 44)], 61, 58, true, false⟩)) ++ (endsHp w true ++ (restHp y.2 true)))) (fun (y : Nat × WorldD) => y.1 ≤ l.length ∧ y.2.a = w.a ∧ y.2.b = w.b ∧ SmallP2 y.2 ∧ R = postL 1 y.2 (l.drop y.1)) (fun (y : Nat × WorldD) => l.length - y.1) (0, w) [some (0, none), some (1, none), some (2, none), some (3, none), some (4, none), some (5, none), some (6, none), some (7, none), some (8, none), some (9, none), some (10, none), some (11, none), some (12, none), some (13, none), some (14, none), some (15, none), some (16, none), some (17, none), some (18, none), some (19, none), some (20, none), some (21, none), some (22, none), some (23, none), some (24, none), some (25, none), some (26, none), some (27, none), some (28, none), some (29, none), some (30, none), some (31, none), some (32, none), some (33, none), some (34, none), some (35, none), some (36, none), some (37, none), some (38, none), some (39, none), some (40, none), some (41, none), some (42, none), some (43, none), some (44, none)] (by (try simp (disch := omega) only [go_sem, List.length_set, Nat.reduceEqDiff, Nat.reduceAdd, Nat.reduceSub, Int.reduceAdd, Int.reduceSub, Int.reduceToNat]) <;> omega) (⟨Nat.zero_le _, rfl, rfl, hw.rest, hR⟩) (weak_mkO (by rfl) (by rfl) ?_) fun y hy N hN => ?_
 ·try simp (disch := omega) only [go_sem, Nat.reduceEqDiff, Nat.reduceAdd, Nat.reduceSub, Int.reduceAdd, Int.reduceSub, Int.reduceToNat]
 ·obtain ⟨i, u⟩ := y
  obtain ⟨hi, ha, hb, hS, hu⟩ := hy
  obtain ⟨ua, ub, bag, past, wA, wB, rA, rB, known, nums, nsA, nsB⟩ := u
  obtain ⟨keys, tags⟩ := known
  dsimp only at hi ha hb hu
  subst ha hb
  have s1 := hS.bag
  have s2 := hS.past
  have s3 := hS.keys
  have s4 := hS.tags
  have s5 := hS.nums
  have s6 := hS.ansA
  have s7 := hS.ansB
  dsimp only at s1 s2 s3 s4 s5 s6 s7
  refine runS_den 1006 400 ?_
  try simp (disch := omega) only [go_sem, Nat.reduceEqDiff, Nat.reduceAdd, Nat.reduceSub, Int.reduceAdd, Int.reduceSub, Int.reduceToNat, Nat.reduceBEq]
  split <;> rename_i h <;> (try simp only [decide_eq_true_eq, decide_eq_false_iff_not, Int.ofNat_lt] at h)
  rotate_left
  ·have e : i = l.length := by omega
   subst e
   rw [postL_end (Nat.le_refl _)] at hu
   subst hu
   try simp (disch := omega) only [go_sem, Nat.reduceEqDiff, Nat.reduceAdd, Nat.reduceSub, Int.reduceAdd, Int.reduceSub, Int.reduceToNat, Nat.reduceBEq]
   refine den_finO [some (0, none), some (1, none), some (2, none), some (3, none), some (4, none), some (5, none), some (6, none), some (7, none), some (8, none), some (9, none), some (10, none), some (11, none), some (12, none), some (13, none), some (14, none), some (15, none), some (16, none), some (17, none), some (18, none), some (19, none), some (20, none), some (21, none), some (24, none), some (25, none), some (26, none), some (27, none), some (28, none), some (29, none), some (30, none), some (31, none), some (32, none), some (33, none), some (34, none), some (35, none), some (36, none), some (37, none), some (38, none), some (39, none), some (40, none), some (41, none), some (42, none), some (43, none), some (44, none)] (by (try simp (disch := omega) only [go_sem, List.length_set, Nat.reduceEqDiff, Nat.reduceAdd, Nat.reduceSub, Int.reduceAdd, Int.reduceSub, Int.reduceToNat, Nat.reduceBEq]) <;> omega) _ (by simp only [go_sem]; rfl) (by rfl) (by rfl) ?_
   simp (disch := omega) only [go_sem, Nat.reduceEqDiff, Nat.reduceAdd, Nat.reduceSub, Int.reduceAdd, Int.reduceSub, Int.reduceToNat, Nat.reduceBEq]
  ·rw [postL_step h] at hu
   generalize hx : l[i] = x at hu
   have hget := map_get (enc := LetterD.cs) h
   rw [hx] at hget
   try simp (disch := omega) only [go_sem, Nat.reduceEqDiff, Nat.reduceAdd, Nat.reduceSub, Int.reduceAdd, Int.reduceSub, Int.reduceToNat, Nat.reduceBEq, hget]
   obtain ⟨p1, hp1⟩ : ∃ p, p = pastP past x := ⟨_, rfl⟩
   refine den_joinO 22 hE (fun s => s.at [9, 10, 11, 12, 13, 14, 15, 16, 17, 18, 19, 20, 21, 22, 25, 26, 27, 28, 29, 30, 31, 32, 33, 34, 35, 36, 37, 38] [] (((s.hp.take 24).set 22 (some ⟨[(worldC (⟨w.a, w.b, bag, p1, wA, wB, rA, rB, ⟨keys, tags⟩, nums, nsA, nsB⟩ : WorldD) 24 25 26 27 28 29 30 31 32 33 34 35 36 37 38 39 40 41 42 43 44)], 61, 58, true, false⟩)) ++ (endsHp w true ++ (restHp (⟨w.a, w.b, bag, p1, wA, wB, rA, rB, ⟨keys, tags⟩, nums, nsA, nsB⟩ : WorldD) true ++ [some ⟨[x.cs], 19, 67, true, false⟩])))) (by (try simp (disch := omega) only [go_sem, List.length_set, Nat.reduceEqDiff, Nat.reduceAdd, Nat.reduceSub, Int.reduceAdd, Int.reduceSub, Int.reduceToNat, Nat.reduceBEq]) <;> omega) (by rfl) (fun N hN => run_den 401 ?_) (runS_den 1008 400 ?_)
   ·try simp (disch := omega) only [go_sem, Nat.reduceEqDiff, Nat.reduceAdd, Nat.reduceSub, Int.reduceAdd, Int.reduceSub, Int.reduceToNat, Nat.reduceBEq]
    split <;> rename_i b1 <;> (try simp only [beq_true, beq_false, Bool.not_eq_true', Bool.not_eq_false'] at b1) <;> simp (disch := omega) only [go_sem, Nat.reduceEqDiff, Nat.reduceAdd, Nat.reduceSub, Int.reduceAdd, Int.reduceSub, Int.reduceToNat, Nat.reduceBEq, b1] <;> (try simp only [decide_eq_true_eq, decide_eq_false_iff_not, beq_iff_eq, beq_eq_false_iff_ne, bne_iff_ne, bne_eq_false_iff_eq, ne_eq, Decidable.not_not, Bool.and_eq_true, Bool.and_eq_false_iff, Bool.or_eq_true, Bool.or_eq_false_iff, Int.ofNat_lt, Int.ofNat_le, Bool.not_eq_eq_eq_not, Bool.not_true, Bool.not_false] at b1) <;> try simp (disch := omega) only [go_sem, Nat.reduceEqDiff, Nat.reduceAdd, Nat.reduceSub, Int.reduceAdd, Int.reduceSub, Int.reduceToNat, Nat.reduceBEq]
    ·rw [pastP_t (by omega)] at hp1
     subst hp1
     try simp (disch := omega) only [go_sem, Nat.reduceEqDiff, Nat.reduceAdd, Nat.reduceSub, Int.reduceAdd, Int.reduceSub, Int.reduceToNat, Nat.reduceBEq]
     refine ⟨by (try simp (disch := omega) only [go_sem, List.length_set, Nat.reduceEqDiff, Nat.reduceAdd, Nat.reduceSub, Int.reduceAdd, Int.reduceSub, Int.reduceToNat, Nat.reduceBEq]) <;> omega, hN _ [some (0, none), some (1, none), some (2, none), some (3, none), some (4, none), some (5, none), some (6, none), some (7, none), some (8, none), some (9, none), some (10, none), some (11, none), some (12, none), some (13, none), some (14, none), some (15, none), some (16, none), some (17, none), some (18, none), some (19, none), some (20, none), some (21, none), some (22, none), some (23, none), some (24, none), some (25, none), some (26, none), some (27, none), some (28, none), some (29, none), some (30, none), some (31, none), some (32, none), some (33, none), some (34, none), some (35, none), some (36, none), some (37, none), some (38, none), some (47, none), some (40, none), some (41, none), some (42, none), some (43, none), some (44, none), some (45, none)] (weak_mkO (by rfl) (by rfl) ?_)⟩
     simp (disch := omega) only [go_sem, Nat.reduceEqDiff, Nat.reduceAdd, Nat.reduceSub, Int.reduceAdd, Int.reduceSub, Int.reduceToNat, Nat.reduceBEq]
     try simp [LetterD.cs]
    ·rw [pastP_f (by omega)] at hp1
     subst hp1
     try simp (disch := omega) only [go_sem, Nat.reduceEqDiff, Nat.reduceAdd, Nat.reduceSub, Int.reduceAdd, Int.reduceSub, Int.reduceToNat, Nat.reduceBEq]
     refine ⟨by (try simp (disch := omega) only [go_sem, List.length_set, Nat.reduceEqDiff, Nat.reduceAdd, Nat.reduceSub, Int.reduceAdd, Int.reduceSub, Int.reduceToNat, Nat.reduceBEq]) <;> omega, hN _ [some (0, none), some (1, none), some (2, none), some (3, none), some (4, none), some (5, none), some (6, none), some (7, none), some (8, none), some (9, none), some (10, none), some (11, none), some (12, none), some (13, none), some (14, none), some (15, none), some (16, none), some (17, none), some (18, none), some (19, none), some (20, none), some (21, none), some (22, none), some (23, none), some (24, none), some (25, none), some (26, none), some (27, none), some (28, none), some (29, none), some (30, none), some (31, none), some (32, none), some (33, none), some (34, none), some (35, none), some (36, none), some (37, none), some (38, none), some (39, none), some (40, none), some (41, none), some (42, none), some (43, none), some (44, none), some (45, none)] (weak_mkO (by rfl) (by rfl) ?_)⟩
     simp (disch := omega) only [go_sem, Nat.reduceEqDiff, Nat.reduceAdd, Nat.reduceSub, Int.reduceAdd, Int.reduceSub, Int.reduceToNat, Nat.reduceBEq]
   ·try simp (disch := omega) only [go_sem, Nat.reduceEqDiff, Nat.reduceAdd, Nat.reduceSub, Int.reduceAdd, Int.reduceSub, Int.reduceToNat, Nat.reduceBEq]
    obtain ⟨q1, hq1⟩ : ∃ q, q = ansP nsA (isJB 1 1 x) w.a.now := ⟨_, rfl⟩
    refine den_joinO 22 hE (fun s => s.at [9, 10, 11, 12, 13, 14, 15, 16, 17, 18, 19, 20, 21, 22, 25, 26, 27, 28, 29, 30, 31, 32, 33, 34, 35, 36, 37, 38, 39, 40, 41, 42, 43, 44, 45, 46, 47, 48, 49, 50, 51, 52, 53, 54, 55, 56, 57, 58, 59] [] (((s.hp.take 24).set 22 (some ⟨[(worldC (⟨w.a, w.b, bag, p1, wA, wB, rA, rB, ⟨keys, tags⟩, nums, q1, nsB⟩ : WorldD) 24 25 26 27 28 29 30 31 32 33 34 35 36 37 38 39 40 41 42 43 44)], 61, 58, true, false⟩)) ++ (endsHp w true ++ (restHp (⟨w.a, w.b, bag, p1, wA, wB, rA, rB, ⟨keys, tags⟩, nums, q1, nsB⟩ : WorldD) true ++ [some ⟨[x.cs], 19, 67, true, false⟩])))) (by (try simp (disch := omega) only [go_sem, List.length_set, Nat.reduceEqDiff, Nat.reduceAdd, Nat.reduceSub, Int.reduceAdd, Int.reduceSub, Int.reduceToNat, Nat.reduceBEq]) <;> omega) (by rfl) (fun N hN => run_den 401 ?_) (runS_den 1010 400 ?_)
    ·try simp (disch := omega) only [go_sem, Nat.reduceEqDiff, Nat.reduceAdd, Nat.reduceSub, Int.reduceAdd, Int.reduceSub, Int.reduceToNat, Nat.reduceBEq]
     split <;> rename_i b2 <;> (try simp only [beq_true, beq_false, Bool.not_eq_true', Bool.not_eq_false'] at b2) <;> simp (disch := omega) only [go_sem, Nat.reduceEqDiff, Nat.reduceAdd, Nat.reduceSub, Int.reduceAdd, Int.reduceSub, Int.reduceToNat, Nat.reduceBEq, b2] <;> (try simp only [decide_eq_true_eq, decide_eq_false_iff_not, beq_iff_eq, beq_eq_false_iff_ne, bne_iff_ne, bne_eq_false_iff_eq, ne_eq, Decidable.not_not, Bool.and_eq_true, Bool.and_eq_false_iff, Bool.or_eq_true, Bool.or_eq_false_iff, Int.ofNat_lt, Int.ofNat_le, Bool.not_eq_eq_eq_not, Bool.not_true, Bool.not_false] at b2) <;> try simp (disch := omega) only [go_sem, Nat.reduceEqDiff, Nat.reduceAdd, Nat.reduceSub, Int.reduceAdd, Int.reduceSub, Int.reduceToNat, Nat.reduceBEq]
     ·rw [isJB_t b2] at hq1
      split <;> rename_i b3 <;> (try simp only [beq_true, beq_false, Bool.not_eq_true', Bool.not_eq_false'] at b3) <;> simp (disch := omega) only [go_sem, Nat.reduceEqDiff, Nat.reduceAdd, Nat.reduceSub, Int.reduceAdd, Int.reduceSub, Int.reduceToNat, Nat.reduceBEq, b3] <;> (try simp only [decide_eq_true_eq, decide_eq_false_iff_not, beq_iff_eq, beq_eq_false_iff_ne, bne_iff_ne, bne_eq_false_iff_eq, ne_eq, Decidable.not_not, Bool.and_eq_true, Bool.and_eq_false_iff, Bool.or_eq_true, Bool.or_eq_false_iff, Int.ofNat_lt, Int.ofNat_le, Bool.not_eq_eq_eq_not, Bool.not_true, Bool.not_false] at b3) <;> try simp (disch := omega) only [go_sem, Nat.reduceEqDiff, Nat.reduceAdd, Nat.reduceSub, Int.reduceAdd, Int.reduceSub, Int.reduceToNat, Nat.reduceBEq]
      ·rw [ansP_t (by omega)] at hq1
       subst hq1
       try simp (disch := omega) only [go_sem, Nat.reduceEqDiff, Nat.reduceAdd, Nat.reduceSub, Int.reduceAdd, Int.reduceSub, Int.reduceToNat, Nat.reduceBEq]
       refine ⟨by (try simp (disch := omega) only [go_sem, List.length_set, Nat.reduceEqDiff, Nat.reduceAdd, Nat.reduceSub, Int.reduceAdd, Int.reduceSub, Int.reduceToNat, Nat.reduceBEq]) <;> omega, hN _ [some (0, none), some (1, none), some (2, none), some (3, none), some (4, none), some (5, none), some (6, none), some (7, none), some (8, none), some (9, none), some (10, none), some (11, none), some (12, none), some (13, none), some (14, none), some (15, none), some (16, none), some (17, none), some (18, none), some (19, none), some (20, none), some (21, none), some (22, none), some (23, none), some (24, none), some (25, none), some (26, none), some (27, none), some (28, none), some (29, none), some (30, none), some (31, none), some (32, none), some (33, none), some (34, none), some (35, none), some (36, none), some (37, none), some (38, none), some (39, none), some (40, none), some (41, none), some (42, none), some (47, none), some (44, none), some (45, none)] (weak_mkO (by rfl) (by rfl) ?_)⟩
       simp (disch := omega) only [go_sem, Nat.reduceEqDiff, Nat.reduceAdd, Nat.reduceSub, Int.reduceAdd, Int.reduceSub, Int.reduceToNat, Nat.reduceBEq]
       try simp [intC]
      ·rw [ansP_f (by omega)] at hq1
       subst hq1
       try simp (disch := omega) only [go_sem, Nat.reduceEqDiff, Nat.reduceAdd, Nat.reduceSub, Int.reduceAdd, Int.reduceSub, Int.reduceToNat, Nat.reduceBEq]
       refine ⟨by (try simp (disch := omega) only [go_sem, List.length_set, Nat.reduceEqDiff, Nat.reduceAdd, Nat.reduceSub, Int.reduceAdd, Int.reduceSub, Int.reduceToNat, Nat.reduceBEq]) <;> omega, hN _ [some (0, none), some (1, none), some (2, none), some (3, none), some (4, none), some (5, none), some (6, none), some (7, none), some (8, none), some (9, none), some (10, none), some (11, none), some (12, none), some (13, none), some (14, none), some (15, none), some (16, none), some (17, none), some (18, none), some (19, none), some (20, none), some (21, none), some (22, none), some (23, none), some (24, none), some (25, none), some (26, none), some (27, none), some (28, none), some (29, none), some (30, none), some (31, none), some (32, none), some (33, none), some (34, none), some (35, none), some (36, none), some (37, none), some (38, none), some (39, none), some (40, none), some (41, none), some (42, none), some (43, none), some (44, none), some (45, none)] (weak_mkO (by rfl) (by rfl) ?_)⟩
       simp (disch := omega) only [go_sem, Nat.reduceEqDiff, Nat.reduceAdd, Nat.reduceSub, Int.reduceAdd, Int.reduceSub, Int.reduceToNat, Nat.reduceBEq]
     ·rw [isJB_f b2, ansP_f1] at hq1
      subst hq1
      try simp (disch := omega) only [go_sem, Nat.reduceEqDiff, Nat.reduceAdd, Nat.reduceSub, Int.reduceAdd, Int.reduceSub, Int.reduceToNat, Nat.reduceBEq]
      refine ⟨by (try simp (disch := omega) only [go_sem, List.length_set, Nat.reduceEqDiff, Nat.reduceAdd, Nat.reduceSub, Int.reduceAdd, Int.reduceSub, Int.reduceToNat, Nat.reduceBEq]) <;> omega, hN _ [some (0, none), some (1, none), some (2, none), some (3, none), some (4, none), some (5, none), some (6, none), some (7, none), some (8, none), some (9, none), some (10, none), some (11, none), some (12, none), some (13, none), some (14, none), some (15, none), some (16, none), some (17, none), some (18, none), some (19, none), some (20, none), some (21, none), some (22, none), some (23, none), some (24, none), some (25, none), some (26, none), some (27, none), some (28, none), some (29, none), some (30, none), some (31, none), some (32, none), some (33, none), some (34, none), some (35, none), some (36, none), some (37, none), some (38, none), some (39, none), some (40, none), some (41, none), some (42, none), some (43, none), some (44, none), some (45, none)] (weak_mkO (by rfl) (by rfl) ?_)⟩
      simp (disch := omega) only [go_sem, Nat.reduceEqDiff, Nat.reduceAdd, Nat.reduceSub, Int.reduceAdd, Int.reduceSub, Int.reduceToNat, Nat.reduceBEq]
    ·try simp (disch := omega) only [go_sem, Nat.reduceEqDiff, Nat.reduceAdd, Nat.reduceSub, Int.reduceAdd, Int.reduceSub, Int.reduceToNat, Nat.reduceBEq]
     refine den_joinO 22 hE (fun s => s.at [9, 10, 11, 12, 13, 14, 15, 16, 17, 18, 19, 20, 21, 22, 25, 26, 27, 28, 29, 30, 31, 32, 33, 34, 35, 36, 37, 38, 39, 40, 41, 42, 43, 44, 45, 46, 47, 48, 49, 50, 51, 52, 53, 54, 55, 56, 57, 58, 59, 60, 61, 62, 63, 64, 65, 66, 67, 68, 69, 70, 71, 72, 73, 74, 75, 76, 77, 78, 79, 80] [] (((s.hp.take 24).set 22 (some ⟨[(worldC (⟨w.a, w.b, bag, p1, wA, wB, rA, rB, ⟨keys, tags⟩, nums, q1, nsB⟩ : WorldD) 24 25 26 27 28 29 30 31 32 33 34 35 36 37 38 39 40 41 42 43 44)], 61, 58, true, false⟩)) ++ (endsHp w true ++ (restHp (⟨w.a, w.b, bag, p1, wA, wB, rA, rB, ⟨keys, tags⟩, nums, q1, nsB⟩ : WorldD) true ++ [some ⟨[x.cs], 19, 67, true, false⟩])))) (by (try simp (disch := omega) only [go_sem, List.length_set, Nat.reduceEqDiff, Nat.reduceAdd, Nat.reduceSub, Int.reduceAdd, Int.reduceSub, Int.reduceToNat]) <;> omega) (by rfl) (fun N hN => run_den 401 ?_) (run_den 400 ?_)
     ·try simp (disch := omega) only [go_sem, Nat.reduceEqDiff, Nat.reduceAdd, Nat.reduceSub, Int.reduceAdd, Int.reduceSub, Int.reduceToNat]
      split <;> rename_i b6 <;> (try simp only [beq_true, beq_false, Bool.not_eq_true', Bool.not_eq_false'] at b6) <;> simp (disch := omega) only [go_sem, Nat.reduceEqDiff, Nat.reduceAdd, Nat.reduceSub, Int.reduceAdd, Int.reduceSub, Int.reduceToNat, b6] <;> (try simp only [decide_eq_true_eq, decide_eq_false_iff_not, beq_iff_eq, beq_eq_false_iff_ne, bne_iff_ne, bne_eq_false_iff_eq, ne_eq, Decidable.not_not, Bool.and_eq_true, Bool.and_eq_false_iff, Bool.or_eq_true, Bool.or_eq_false_iff, Int.ofNat_lt, Int.ofNat_le, Bool.not_eq_eq_eq_not, Bool.not_true, Bool.not_false] at b6) <;> try simp (disch := omega) only [go_sem, Nat.reduceEqDiff, Nat.reduceAdd, Nat.reduceSub, Int.reduceAdd, Int.reduceSub, Int.reduceToNat]
      ·try simp (disch := omega) only [go_sem, Nat.reduceEqDiff, Nat.reduceAdd, Nat.reduceSub, Int.reduceAdd, Int.reduceSub, Int.reduceToNat]
       refine ⟨by (try simp (disch := omega) only [go_sem, List.length_set, Nat.reduceEqDiff, Nat.reduceAdd, Nat.reduceSub, Int.reduceAdd, Int.reduceSub, Int.reduceToNat]) <;> omega, hN _ [some (0, none), some (1, none), some (2, none), some (3, none), some (4, none), some (5, none), some (6, none), some (7, none), some (8, none), some (9, none), some (10, none), some (11, none), some (12, none), some (13, none), some (14, none), some (15, none), some (16, none), some (17, none), some (18, none), some (19, none), some (20, none), some (21, none), some (22, none), some (23, none), some (24, none), some (25, none), some (26, none), some (27, none), some (28, none), some (29, none), some (30, none), some (31, none), some (32, none), some (33, none), some (34, none), some (35, none), some (36, none), some (37, none), some (38, none), some (39, none), some (40, none), some (41, none), some (42, none), some (43, none), some (44, none), some (45, none)] (weak_mkO (by rfl) (by rfl) ?_)⟩
       simp (disch := omega) only [go_sem, Nat.reduceEqDiff, Nat.reduceAdd, Nat.reduceSub, Int.reduceAdd, Int.reduceSub, Int.reduceToNat]
      ·try simp (disch := omega) only [go_sem, Nat.reduceEqDiff, Nat.reduceAdd, Nat.reduceSub, Int.reduceAdd, Int.reduceSub, Int.reduceToNat]
       refine ⟨by (try simp (disch := omega) only [go_sem, List.length_set, Nat.reduceEqDiff, Nat.reduceAdd, Nat.reduceSub, Int.reduceAdd, Int.reduceSub, Int.reduceToNat]) <;> omega, hN _ [some (0, none), some (1, none), some (2, none), some (3, none), some (4, none), some (5, none), some (6, none), some (7, none), some (8, none), some (9, none), some (10, none), some (11, none), some (12, none), some (13, none), some (14, none), some (15, none), some (16, none), some (17, none), some (18, none), some (19, none), some (20, none), some (21, none), some (22, none), some (23, none), some (24, none), some (25, none), some (26, none), some (27, none), some (28, none), some (29, none), some (30, none), some (31, none), some (32, none), some (33, none), some (34, none), some (35, none), some (36, none), some (37, none), some (38, none), some (39, none), some (40, none), some (41, none), some (42, none), some (43, none), some (44, none), some (45, none)] (weak_mkO (by rfl) (by rfl) ?_)⟩
       simp (disch := omega) only [go_sem, Nat.reduceEqDiff, Nat.reduceAdd, Nat.reduceSub, Int.reduceAdd, Int.reduceSub, Int.reduceToNat]
     ·try simp (disch := omega) only [go_sem, Nat.reduceEqDiff, Nat.reduceAdd, Nat.reduceSub, Int.reduceAdd, Int.reduceSub, Int.reduceToNat]
      refine den_call (by (try simp (disch := omega) only [go_sem, List.length_set, Nat.reduceEqDiff, Nat.reduceAdd, Nat.reduceSub, Int.reduceAdd, Int.reduceSub, Int.reduceToNat]) <;> omega) (spec_SideAt x.to) [] (by simp only [go_sem]; repeat' first | rfl | constructor | (rw [List.map_set]; rfl) | (simp [List.map_take, List.map_drop] <;> omega)) (by rfl) (run_den 400 ?_)
      simp (disch := omega) only [go_sem, Nat.reduceEqDiff, Nat.reduceAdd, Nat.reduceSub, Int.reduceAdd, Int.reduceSub, Int.reduceToNat]
      have hoth : ansP nsB (isJB 1 2 x) w.b.now = nsB := by rw [isJB_n (by decide), ansP_f1]
      split <;> rename_i b4 <;> (try simp only [beq_true, beq_false, Bool.not_eq_true', Bool.not_eq_false'] at b4) <;> simp (disch := omega) only [go_sem, Nat.reduceEqDiff, Nat.reduceAdd, Nat.reduceSub, Int.reduceAdd, Int.reduceSub, Int.reduceToNat, b4] <;> (try simp only [decide_eq_true_eq, decide_eq_false_iff_not, beq_iff_eq, beq_eq_false_iff_ne, bne_iff_ne, bne_eq_false_iff_eq, ne_eq, Decidable.not_not, Bool.and_eq_true, Bool.and_eq_false_iff, Bool.or_eq_true, Bool.or_eq_false_iff, Int.ofNat_lt, Int.ofNat_le, Bool.not_eq_eq_eq_not, Bool.not_true, Bool.not_false] at b4) <;> try simp (disch := omega) only [go_sem, Nat.reduceEqDiff, Nat.reduceAdd, Nat.reduceSub, Int.reduceAdd, Int.reduceSub, Int.reduceToNat]
      ·have hK := spec_Learn ⟨keys, tags⟩ x.tag (by dsimp only; omega) (by dsimp only; omega)
       have hky : (learn ⟨keys, tags⟩ x.tag).keys.length ≤ 1048576 := by rw [learn_keys]; exact s3
       have hkt : (learn ⟨keys, tags⟩ x.tag).tags.length ≤ 1048576 := learn_le s4
       obtain ⟨kk, hkk⟩ : ∃ k, k = learn ⟨keys, tags⟩ x.tag := ⟨_, rfl⟩
       rw [← hkk] at hK hky hkt
       obtain ⟨k1, t1⟩ := kk
       dsimp only at hky hkt
       have t5a : (numP nums x.nonce).length ≤ 1048576 := numP_le s5
       have t5b : (numP (numP nums x.nonce) x.give).length ≤ 1048576 := numP_le t5a
       have hh1 := spec_l23Hears (⟨w.a, w.b, bag, p1, wA, wB, rA, rB, ⟨k1, t1⟩, nums, q1, nsB⟩ : WorldD) x.nonce (by dsimp only; omega)
       have hh2 := spec_l23Hears (⟨w.a, w.b, bag, p1, wA, wB, rA, rB, ⟨k1, t1⟩, (numP nums x.nonce), q1, nsB⟩ : WorldD) x.give (by dsimp only; omega)
       have hh3 := spec_l23Hears (⟨w.a, w.b, bag, p1, wA, wB, rA, rB, ⟨k1, t1⟩, (numP (numP nums x.nonce) x.give), q1, nsB⟩ : WorldD) x.sgn (by dsimp only; omega)
       dsimp only at hh1 hh2 hh3
       have e : post1 1 (⟨w.a, w.b, bag, past, wA, wB, rA, rB, ⟨keys, tags⟩, nums, nsA, nsB⟩ : WorldD) x = (⟨w.a, w.b, bag, p1, wA, wB, rA, rB, ⟨k1, t1⟩, (numP (numP (numP nums x.nonce) x.give) x.sgn), q1, nsB⟩ : WorldD) := by
        rw [post1, if_pos b4, heard, notes]
        dsimp only
        rw [← hkk, hoth, ← hp1, ← hq1]
       rw [e] at hu
       have hS1 := post1_small (side := 1) (x := x) hS
       rw [e] at hS1
       generalize numP nums x.nonce = m1 at *
       generalize numP m1 x.give = m2 at *
       generalize numP m2 x.sgn = m3 at *
       try simp (disch := omega) only [go_sem, Nat.reduceEqDiff, Nat.reduceAdd, Nat.reduceSub, Int.reduceAdd, Int.reduceSub, Int.reduceToNat]
       refine den_call (by (try simp (disch := omega) only [go_sem, List.length_set, Nat.reduceEqDiff, Nat.reduceAdd, Nat.reduceSub, Int.reduceAdd, Int.reduceSub, Int.reduceToNat]) <;> omega) (hK) [some (40, none), some (41, none)] (by simp only [go_sem]; repeat' first | rfl | constructor | (rw [List.map_set]; rfl) | (simp [List.map_take, List.map_drop] <;> omega)) (by rfl) (run_den 400 ?_)
       simp (disch := omega) only [go_sem, Nat.reduceEqDiff, Nat.reduceAdd, Nat.reduceSub, Int.reduceAdd, Int.reduceSub, Int.reduceToNat]
       refine den_call (by (try simp (disch := omega) only [go_sem, List.length_set, Nat.reduceEqDiff, Nat.reduceAdd, Nat.reduceSub, Int.reduceAdd, Int.reduceSub, Int.reduceToNat]) <;> omega) (hh1) [some (24, none), some (25, none), some (26, none), some (27, none), some (28, none), some (29, none), some (30, none), some (31, none), some (32, none), some (33, none), some (34, none), some (35, none), some (36, none), some (37, none), some (38, none), some (39, none), some (46, none), some (47, none), some (42, none), some (43, none), some (44, none)] (by simp only [go_sem]; repeat' first | rfl | constructor | (rw [List.map_set]; rfl) | (simp [List.map_take, List.map_drop] <;> omega)) (by rfl) (run_den 400 ?_)
       simp (disch := omega) only [go_sem, Nat.reduceEqDiff, Nat.reduceAdd, Nat.reduceSub, Int.reduceAdd, Int.reduceSub, Int.reduceToNat]
       refine den_call (by (try simp (disch := omega) only [go_sem, List.length_set, Nat.reduceEqDiff, Nat.reduceAdd, Nat.reduceSub, Int.reduceAdd, Int.reduceSub, Int.reduceToNat]) <;> omega) (hh2) [some (24, none), some (25, none), some (26, none), some (27, none), some (28, none), some (29, none), some (30, none), some (31, none), some (32, none), some (33, none), some (34, none), some (35, none), some (36, none), some (37, none), some (38, none), some (39, none), some (46, none), some (47, none), some (48, none), some (43, none), some (44, none)] (by simp only [go_sem]; repeat' first | rfl | constructor | (rw [List.map_set]; rfl) | (simp [List.map_take, List.map_drop] <;> omega)) (by rfl) (run_den 400 ?_)
       simp (disch := omega) only [go_sem, Nat.reduceEqDiff, Nat.reduceAdd, Nat.reduceSub, Int.reduceAdd, Int.reduceSub, Int.reduceToNat]
       refine den_call (by (try simp (disch := omega) only [go_sem, List.length_set, Nat.reduceEqDiff, Nat.reduceAdd, Nat.reduceSub, Int.reduceAdd, Int.reduceSub, Int.reduceToNat]) <;> omega) (hh3) [some (24, none), some (25, none), some (26, none), some (27, none), some (28, none), some (29, none), some (30, none), some (31, none), some (32, none), some (33, none), some (34, none), some (35, none), some (36, none), some (37, none), some (38, none), some (39, none), some (46, none), some (47, none), some (49, none), some (43, none), some (44, none)] (by simp only [go_sem]; repeat' first | rfl | constructor | (rw [List.map_set]; rfl) | (simp [List.map_take, List.map_drop] <;> omega)) (by rfl) (run_den 400 ?_)
       simp (disch := omega) only [go_sem, Nat.reduceEqDiff, Nat.reduceAdd, Nat.reduceSub, Int.reduceAdd, Int.reduceSub, Int.reduceToNat]
       refine ⟨by (try simp (disch := omega) only [go_sem, List.length_set, Nat.reduceEqDiff, Nat.reduceAdd, Nat.reduceSub, Int.reduceAdd, Int.reduceSub, Int.reduceToNat]) <;> omega, hN _ (i + 1, (⟨w.a, w.b, bag, p1, wA, wB, rA, rB, ⟨k1, t1⟩, m3, q1, nsB⟩ : WorldD)) [some (0, none), some (1, none), some (2, none), some (3, none), some (4, none), some (5, none), some (6, none), some (7, none), some (8, none), some (9, none), some (10, none), some (11, none), some (12, none), some (13, none), some (14, none), some (15, none), some (16, none), some (17, none), some (18, none), some (19, none), some (20, none), some (21, none), some (22, none), some (23, none), some (24, none), some (25, none), some (26, none), some (27, none), some (28, none), some (29, none), some (30, none), some (31, none), some (32, none), some (33, none), some (34, none), some (35, none), some (36, none), some (37, none), some (38, none), some (39, none), some (46, none), some (47, none), some (50, none), some (43, none), some (44, none)] (by (try dsimp only); exact ⟨by omega, rfl, rfl, hS1, hu⟩) (by (try dsimp only); omega) (weak_mkO (by rfl) (by rfl) ?_)⟩
       try simp (disch := omega) only [go_sem, Nat.reduceEqDiff, Nat.reduceAdd, Nat.reduceSub, Int.reduceAdd, Int.reduceSub, Int.reduceToNat]
      ·obtain ⟨g1, hg1⟩ : ∃ g, g = bagP bag x := ⟨_, rfl⟩
       have e : post1 1 (⟨w.a, w.b, bag, past, wA, wB, rA, rB, ⟨keys, tags⟩, nums, nsA, nsB⟩ : WorldD) x = (⟨w.a, w.b, g1, p1, wA, wB, rA, rB, ⟨keys, tags⟩, nums, q1, nsB⟩ : WorldD) := by
        rw [post1, if_neg b4, notes]
        dsimp only
        rw [hoth, ← hp1, ← hq1, ← hg1]
       rw [e] at hu
       have hS1 := post1_small (side := 1) (x := x) hS
       rw [e] at hS1
       try simp (disch := omega) only [go_sem, Nat.reduceEqDiff, Nat.reduceAdd, Nat.reduceSub, Int.reduceAdd, Int.reduceSub, Int.reduceToNat]
       split <;> rename_i b5 <;> (try simp only [beq_true, beq_false, Bool.not_eq_true', Bool.not_eq_false'] at b5) <;> simp (disch := omega) only [go_sem, Nat.reduceEqDiff, Nat.reduceAdd, Nat.reduceSub, Int.reduceAdd, Int.reduceSub, Int.reduceToNat, b5] <;> (try simp only [decide_eq_true_eq, decide_eq_false_iff_not, beq_iff_eq, beq_eq_false_iff_ne, bne_iff_ne, bne_eq_false_iff_eq, ne_eq, Decidable.not_not, Bool.and_eq_true, Bool.and_eq_false_iff, Bool.or_eq_true, Bool.or_eq_false_iff, Int.ofNat_lt, Int.ofNat_le, Bool.not_eq_eq_eq_not, Bool.not_true, Bool.not_false] at b5) <;> try simp (disch := omega) only [go_sem, Nat.reduceEqDiff, Nat.reduceAdd, Nat.reduceSub, Int.reduceAdd, Int.reduceSub, Int.reduceToNat]
       ·rw [bagP_t (by omega)] at hg1
        subst hg1
        try simp (disch := omega) only [go_sem, Nat.reduceEqDiff, Nat.reduceAdd, Nat.reduceSub, Int.reduceAdd, Int.reduceSub, Int.reduceToNat]
        refine ⟨by (try simp (disch := omega) only [go_sem, List.length_set, Nat.reduceEqDiff, Nat.reduceAdd, Nat.reduceSub, Int.reduceAdd, Int.reduceSub, Int.reduceToNat]) <;> omega, hN _ (i + 1, (⟨w.a, w.b, (bag ++ [x]), p1, wA, wB, rA, rB, ⟨keys, tags⟩, nums, q1, nsB⟩ : WorldD)) [some (0, none), some (1, none), some (2, none), some (3, none), some (4, none), some (5, none), some (6, none), some (7, none), some (8, none), some (9, none), some (10, none), some (11, none), some (12, none), some (13, none), some (14, none), some (15, none), some (16, none), some (17, none), some (18, none), some (19, none), some (20, none), some (21, none), some (22, none), some (23, none), some (24, none), some (25, none), some (26, none), some (27, none), some (28, none), some (29, none), some (30, none), some (31, none), some (32, none), some (33, none), some (34, none), some (35, none), some (36, none), some (37, none), some (47, none), some (39, none), some (40, none), some (41, none), some (42, none), some (43, none), some (44, none)] (by (try dsimp only); exact ⟨by omega, rfl, rfl, hS1, hu⟩) (by (try dsimp only); omega) (weak_mkO (by rfl) (by rfl) ?_)⟩
        try simp (disch := omega) only [go_sem, Nat.reduceEqDiff, Nat.reduceAdd, Nat.reduceSub, Int.reduceAdd, Int.reduceSub, Int.reduceToNat]
        try simp [LetterD.cs]
       ·rw [bagP_f (by omega)] at hg1
        subst hg1
        try simp (disch := omega) only [go_sem, Nat.reduceEqDiff, Nat.reduceAdd, Nat.reduceSub, Int.reduceAdd, Int.reduceSub, Int.reduceToNat]
        refine ⟨by (try simp (disch := omega) only [go_sem, List.length_set, Nat.reduceEqDiff, Nat.reduceAdd, Nat.reduceSub, Int.reduceAdd, Int.reduceSub, Int.reduceToNat]) <;> omega, hN _ (i + 1, (⟨w.a, w.b, g1, p1, wA, wB, rA, rB, ⟨keys, tags⟩, nums, q1, nsB⟩ : WorldD)) [some (0, none), some (1, none), some (2, none), some (3, none), some (4, none), some (5, none), some (6, none), some (7, none), some (8, none), some (9, none), some (10, none), some (11, none), some (12, none), some (13, none), some (14, none), some (15, none), some (16, none), some (17, none), some (18, none), some (19, none), some (20, none), some (21, none), some (22, none), some (23, none), some (24, none), some (25, none), some (26, none), some (27, none), some (28, none), some (29, none), some (30, none), some (31, none), some (32, none), some (33, none), some (34, none), some (35, none), some (36, none), some (37, none), some (38, none), some (39, none), some (40, none), some (41, none), some (42, none), some (43, none), some (44, none)] (by (try dsimp only); exact ⟨by omega, rfl, rfl, hS1, hu⟩) (by (try dsimp only); omega) (weak_mkO (by rfl) (by rfl) ?_)⟩
        try simp (disch := omega) only [go_sem, Nat.reduceEqDiff, Nat.reduceAdd, Nat.reduceSub, Int.reduceAdd, Int.reduceSub, Int.reduceToNat]
theorem spec_Posted2 (w : WorldD) (l : List LetterD) (hw : SmallW w) (hl : l.length ≤ 1048576) : CallA Tryz.prog 23 [.ag (w.cs 0), .sc (.int .i64 2), .sc (.sl 21 0 l.length)]
  (w.hp false ++ [some ⟨l.map LetterD.cs, 19, 67, false, true⟩]) (.ag ((postL 2 w l).cs 22)) (w.hp false ++ ([some ⟨l.map LetterD.cs, 19, 67, false, true⟩] ++ (postL 2 w l).hp true)) := by
 obtain ⟨R, hR⟩ : ∃ R, R = postL 2 w l := ⟨_, rfl⟩
 rw [← hR]
 have hl2 : l.length ≤ 9223372036854775807 := by omega
 have hC := spec_l23Copy w hw
 refine callA_ofO Tryz.func23 (by kernel_rfl) rfl fun E hE => run_den 400 ?_
 simp (disch := omega) only [Tryz.ntmps23, Tryz.results23, go_sem, Nat.reduceEqDiff, Nat.reduceAdd, Nat.reduceSub, Int.reduceAdd, Int.reduceSub, Int.reduceToNat]
 refine den_call (by (try simp (disch := omega) only [go_sem, List.length_set, Nat.reduceEqDiff, Nat.reduceAdd, Nat.reduceSub, Int.reduceAdd, Int.reduceSub, Int.reduceToNat]) <;> omega) (hC) [some (0, none), some (1, none), some (2, none), some (3, none), some (4, none), some (5, none), some (6, none), some (7, none), some (8, none), some (9, none), some (10, none), some (11, none), some (12, none), some (13, none), some (14, none), some (15, none), some (16, none), some (17, none), some (18, none), some (19, none), some (20, none)] (by simp only [go_sem]; repeat' first | rfl | constructor | (rw [List.map_set]; rfl) | (simp [List.map_take, List.map_drop] <;> omega)) (by rfl) (run_den 400 ?_)
 simp (disch := omega) only [go_sem, Nat.reduceEqDiff, Nat.reduceAdd, Nat.reduceSub, Int.reduceAdd, Int.reduceSub, Int.reduceToNat]
 refine den_lpO 22 hE (fun s (y : Nat × WorldD) => s.at [0, 8, 9, 10, 11, 12, 13, 14, 15, 16, 17, 18, 19, 20, 21, 22, 23, 24, 25, 26, 27, 28, 29, 30, 31, 32, 33, 34, 35, 36, 37, 38, 39, 40, 41, 42, 43, 44, 45, 46, 47, 48, 49, 50, 51, 52, 53, 54, 55, 56, 57, 58, 59, 60, 61, 62, 63, 64, 65, 66, 67, 68, 69, 70, 71, 72, 73, 74, 75, 76, 77, 78, 79, 80, 81, 82, 83, 84, 85, 86, 87, 88, 89, 90, 91, 92, 93, 94, 95, 96, 97, 98, 99, 100, 101, 102, 103, 104, 105, 106, 107, 108, 109, 110, 111, 112] [(7, .sc (.int .i64 (y.1 : Nat)))] (((s.hp.take 24).set 22 (some ⟨[(worldC y.2 24 25 26 27 28 29 30 31 32 33 34 35 36 37 38 39 40 41 42 43 44)], 61, 58, true, false⟩)) ++ (endsHp w true ++ (restHp y.2 true)))) (fun (y : Nat × WorldD) => y.1 ≤ l.length ∧ y.2.a = w.a ∧ y.2.b = w.b ∧ SmallP2 y.2 ∧ R = postL 2 y.2 (l.drop y.1)) (fun (y : Nat × WorldD) => l.length - y.1) (0, w) [some (0, none), some (1, none), some (2, none), some (3, none), some (4, none), some (5, none), some (6, none), some (7, none), some (8, none), some (9, none), some (10, none), some (11, none), some (12, none), some (13, none), some (14, none), some (15, none), some (16, none), some (17, none), some (18, none), some (19, none), some (20, none), some (21, none), some (22, none), some (23, none), some (24, none), some (25, none), some (26, none), some (27, none), some (28, none), some (29, none), some (30, none), some (31, none), some (32, none), some (33, none), some (34, none), some (35, none), some (36, none), some (37, none), some (38, none), some (39, none), some (40, none), some (41, none), some (42, none), some (43, none), some (44, none)] (by (try simp (disch := omega) only [go_sem, List.length_set, Nat.reduceEqDiff, Nat.reduceAdd, Nat.reduceSub, Int.reduceAdd, Int.reduceSub, Int.reduceToNat]) <;> omega) (⟨Nat.zero_le _, rfl, rfl, hw.rest, hR⟩) (weak_mkO (by rfl) (by rfl) ?_) fun y hy N hN => ?_
 ·try simp (disch := omega) only [go_sem, Nat.reduceEqDiff, Nat.reduceAdd, Nat.reduceSub, Int.reduceAdd, Int.reduceSub, Int.reduceToNat]
 ·obtain ⟨i, u⟩ := y
  obtain ⟨hi, ha, hb, hS, hu⟩ := hy
  obtain ⟨ua, ub, bag, past, wA, wB, rA, rB, known, nums, nsA, nsB⟩ := u
  obtain ⟨keys, tags⟩ := known
  dsimp only at hi ha hb hu
  subst ha hb
  have s1 := hS.bag
  have s2 := hS.past
  have s3 := hS.keys
  have s4 := hS.tags
  have s5 := hS.nums
  have s6 := hS.ansA
  have s7 := hS.ansB
  dsimp only at s1 s2 s3 s4 s5 s6 s7
  refine runS_den 1006 400 ?_
  try simp (disch := omega) only [go_sem, Nat.reduceEqDiff, Nat.reduceAdd, Nat.reduceSub, Int.reduceAdd, Int.reduceSub, Int.reduceToNat, Nat.reduceBEq]
  split <;> rename_i h <;> (try simp only [decide_eq_true_eq, decide_eq_false_iff_not, Int.ofNat_lt] at h)
  rotate_left
  ·have e : i = l.length := by omega
   subst e
   rw [postL_end (Nat.le_refl _)] at hu
   subst hu
   try simp (disch := omega) only [go_sem, Nat.reduceEqDiff, Nat.reduceAdd, Nat.reduceSub, Int.reduceAdd, Int.reduceSub, Int.reduceToNat, Nat.reduceBEq]
   refine den_finO [some (0, none), some (1, none), some (2, none), some (3, none), some (4, none), some (5, none), some (6, none), some (7, none), some (8, none), some (9, none), some (10, none), some (11, none), some (12, none), some (13, none), some (14, none), some (15, none), some (16, none), some (17, none), some (18, none), some (19, none), some (20, none), some (21, none), some (24, none), some (25, none), some (26, none), some (27, none), some (28, none), some (29, none), some (30, none), some (31, none), some (32, none), some (33, none), some (34, none), some (35, none), some (36, none), some (37, none), some (38, none), some (39, none), some (40, none), some (41, none), some (42, none), some (43, none), some (44, none)] (by (try simp (disch := omega) only [go_sem, List.length_set, Nat.reduceEqDiff, Nat.reduceAdd, Nat.reduceSub, Int.reduceAdd, Int.reduceSub, Int.reduceToNat, Nat.reduceBEq]) <;> omega) _ (by simp only [go_sem]; rfl) (by rfl) (by rfl) ?_
   simp (disch := omega) only [go_sem, Nat.reduceEqDiff, Nat.reduceAdd, Nat.reduceSub, Int.reduceAdd, Int.reduceSub, Int.reduceToNat, Nat.reduceBEq]
  ·rw [postL_step h] at hu
   generalize hx : l[i] = x at hu
   have hget := map_get (enc := LetterD.cs) h
   rw [hx] at hget
   try simp (disch := omega) only [go_sem, Nat.reduceEqDiff, Nat.reduceAdd, Nat.reduceSub, Int.reduceAdd, Int.reduceSub, Int.reduceToNat, Nat.reduceBEq, hget]
   obtain ⟨p1, hp1⟩ : ∃ p, p = pastP past x := ⟨_, rfl⟩
   refine den_joinO 22 hE (fun s => s.at [9, 10, 11, 12, 13, 14, 15, 16, 17, 18, 19, 20, 21, 22, 25, 26, 27, 28, 29, 30, 31, 32, 33, 34, 35, 36, 37, 38] [] (((s.hp.take 24).set 22 (some ⟨[(worldC (⟨w.a, w.b, bag, p1, wA, wB, rA, rB, ⟨keys, tags⟩, nums, nsA, nsB⟩ : WorldD) 24 25 26 27 28 29 30 31 32 33 34 35 36 37 38 39 40 41 42 43 44)], 61, 58, true, false⟩)) ++ (endsHp w true ++ (restHp (⟨w.a, w.b, bag, p1, wA, wB, rA, rB, ⟨keys, tags⟩, nums, nsA, nsB⟩ : WorldD) true ++ [some ⟨[x.cs], 19, 67, true, false⟩])))) (by (try simp (disch := omega) only [go_sem, List.length_set, Nat.reduceEqDiff, Nat.reduceAdd, Nat.reduceSub, Int.reduceAdd, Int.reduceSub, Int.reduceToNat, Nat.reduceBEq]) <;> omega) (by rfl) (fun N hN => run_den 401 ?_) (runS_den 1008 400 ?_)
   ·try simp (disch := omega) only [go_sem, Nat.reduceEqDiff, Nat.reduceAdd, Nat.reduceSub, Int.reduceAdd, Int.reduceSub, Int.reduceToNat, Nat.reduceBEq]
    split <;> rename_i b1 <;> (try simp only [beq_true, beq_false, Bool.not_eq_true', Bool.not_eq_false'] at b1) <;> simp (disch := omega) only [go_sem, Nat.reduceEqDiff, Nat.reduceAdd, Nat.reduceSub, Int.reduceAdd, Int.reduceSub, Int.reduceToNat, Nat.reduceBEq, b1] <;> (try simp only [decide_eq_true_eq, decide_eq_false_iff_not, beq_iff_eq, beq_eq_false_iff_ne, bne_iff_ne, bne_eq_false_iff_eq, ne_eq, Decidable.not_not, Bool.and_eq_true, Bool.and_eq_false_iff, Bool.or_eq_true, Bool.or_eq_false_iff, Int.ofNat_lt, Int.ofNat_le, Bool.not_eq_eq_eq_not, Bool.not_true, Bool.not_false] at b1) <;> try simp (disch := omega) only [go_sem, Nat.reduceEqDiff, Nat.reduceAdd, Nat.reduceSub, Int.reduceAdd, Int.reduceSub, Int.reduceToNat, Nat.reduceBEq]
    ·rw [pastP_t (by omega)] at hp1
     subst hp1
     try simp (disch := omega) only [go_sem, Nat.reduceEqDiff, Nat.reduceAdd, Nat.reduceSub, Int.reduceAdd, Int.reduceSub, Int.reduceToNat, Nat.reduceBEq]
     refine ⟨by (try simp (disch := omega) only [go_sem, List.length_set, Nat.reduceEqDiff, Nat.reduceAdd, Nat.reduceSub, Int.reduceAdd, Int.reduceSub, Int.reduceToNat, Nat.reduceBEq]) <;> omega, hN _ [some (0, none), some (1, none), some (2, none), some (3, none), some (4, none), some (5, none), some (6, none), some (7, none), some (8, none), some (9, none), some (10, none), some (11, none), some (12, none), some (13, none), some (14, none), some (15, none), some (16, none), some (17, none), some (18, none), some (19, none), some (20, none), some (21, none), some (22, none), some (23, none), some (24, none), some (25, none), some (26, none), some (27, none), some (28, none), some (29, none), some (30, none), some (31, none), some (32, none), some (33, none), some (34, none), some (35, none), some (36, none), some (37, none), some (38, none), some (47, none), some (40, none), some (41, none), some (42, none), some (43, none), some (44, none), some (45, none)] (weak_mkO (by rfl) (by rfl) ?_)⟩
     simp (disch := omega) only [go_sem, Nat.reduceEqDiff, Nat.reduceAdd, Nat.reduceSub, Int.reduceAdd, Int.reduceSub, Int.reduceToNat, Nat.reduceBEq]
     try simp [LetterD.cs]
    ·rw [pastP_f (by omega)] at hp1
     subst hp1
     try simp (disch := omega) only [go_sem, Nat.reduceEqDiff, Nat.reduceAdd, Nat.reduceSub, Int.reduceAdd, Int.reduceSub, Int.reduceToNat, Nat.reduceBEq]
     refine ⟨by (try simp (disch := omega) only [go_sem, List.length_set, Nat.reduceEqDiff, Nat.reduceAdd, Nat.reduceSub, Int.reduceAdd, Int.reduceSub, Int.reduceToNat, Nat.reduceBEq]) <;> omega, hN _ [some (0, none), some (1, none), some (2, none), some (3, none), some (4, none), some (5, none), some (6, none), some (7, none), some (8, none), some (9, none), some (10, none), some (11, none), some (12, none), some (13, none), some (14, none), some (15, none), some (16, none), some (17, none), some (18, none), some (19, none), some (20, none), some (21, none), some (22, none), some (23, none), some (24, none), some (25, none), some (26, none), some (27, none), some (28, none), some (29, none), some (30, none), some (31, none), some (32, none), some (33, none), some (34, none), some (35, none), some (36, none), some (37, none), some (38, none), some (39, none), some (40, none), some (41, none), some (42, none), some (43, none), some (44, none), some (45, none)] (weak_mkO (by rfl) (by rfl) ?_)⟩
     simp (disch := omega) only [go_sem, Nat.reduceEqDiff, Nat.reduceAdd, Nat.reduceSub, Int.reduceAdd, Int.reduceSub, Int.reduceToNat, Nat.reduceBEq]
   ·try simp (disch := omega) only [go_sem, Nat.reduceEqDiff, Nat.reduceAdd, Nat.reduceSub, Int.reduceAdd, Int.reduceSub, Int.reduceToNat, Nat.reduceBEq]
    obtain ⟨q1, hq1⟩ : ∃ q, q = ansP nsB (isJB 2 2 x) w.b.now := ⟨_, rfl⟩
    refine den_joinO 22 hE (fun s => s.at [9, 10, 11, 12, 13, 14, 15, 16, 17, 18, 19, 20, 21, 22, 25, 26, 27, 28, 29, 30, 31, 32, 33, 34, 35, 36, 37, 38, 39, 40, 41, 42, 43, 44, 45, 46, 47, 48, 49, 50, 51, 52, 53, 54, 55, 56, 57, 58, 59] [] (((s.hp.take 24).set 22 (some ⟨[(worldC (⟨w.a, w.b, bag, p1, wA, wB, rA, rB, ⟨keys, tags⟩, nums, nsA, nsB⟩ : WorldD) 24 25 26 27 28 29 30 31 32 33 34 35 36 37 38 39 40 41 42 43 44)], 61, 58, true, false⟩)) ++ (endsHp w true ++ (restHp (⟨w.a, w.b, bag, p1, wA, wB, rA, rB, ⟨keys, tags⟩, nums, nsA, nsB⟩ : WorldD) true ++ [some ⟨[x.cs], 19, 67, true, false⟩])))) (by (try simp (disch := omega) only [go_sem, List.length_set, Nat.reduceEqDiff, Nat.reduceAdd, Nat.reduceSub, Int.reduceAdd, Int.reduceSub, Int.reduceToNat, Nat.reduceBEq]) <;> omega) (by rfl) (fun N hN => run_den 401 ?_) (runS_den 1010 400 ?_)
    ·try simp (disch := omega) only [go_sem, Nat.reduceEqDiff, Nat.reduceAdd, Nat.reduceSub, Int.reduceAdd, Int.reduceSub, Int.reduceToNat, Nat.reduceBEq]
     split <;> rename_i b6 <;> (try simp only [beq_true, beq_false, Bool.not_eq_true', Bool.not_eq_false'] at b6) <;> simp (disch := omega) only [go_sem, Nat.reduceEqDiff, Nat.reduceAdd, Nat.reduceSub, Int.reduceAdd, Int.reduceSub, Int.reduceToNat, Nat.reduceBEq, b6] <;> (try simp only [decide_eq_true_eq, decide_eq_false_iff_not, beq_iff_eq, beq_eq_false_iff_ne, bne_iff_ne, bne_eq_false_iff_eq, ne_eq, Decidable.not_not, Bool.and_eq_true, Bool.and_eq_false_iff, Bool.or_eq_true, Bool.or_eq_false_iff, Int.ofNat_lt, Int.ofNat_le, Bool.not_eq_eq_eq_not, Bool.not_true, Bool.not_false] at b6) <;> try simp (disch := omega) only [go_sem, Nat.reduceEqDiff, Nat.reduceAdd, Nat.reduceSub, Int.reduceAdd, Int.reduceSub, Int.reduceToNat, Nat.reduceBEq]
     ·try simp (disch := omega) only [go_sem, Nat.reduceEqDiff, Nat.reduceAdd, Nat.reduceSub, Int.reduceAdd, Int.reduceSub, Int.reduceToNat, Nat.reduceBEq]
      refine ⟨by (try simp (disch := omega) only [go_sem, List.length_set, Nat.reduceEqDiff, Nat.reduceAdd, Nat.reduceSub, Int.reduceAdd, Int.reduceSub, Int.reduceToNat, Nat.reduceBEq]) <;> omega, hN _ [some (0, none), some (1, none), some (2, none), some (3, none), some (4, none), some (5, none), some (6, none), some (7, none), some (8, none), some (9, none), some (10, none), some (11, none), some (12, none), some (13, none), some (14, none), some (15, none), some (16, none), some (17, none), some (18, none), some (19, none), some (20, none), some (21, none), some (22, none), some (23, none), some (24, none), some (25, none), some (26, none), some (27, none), some (28, none), some (29, none), some (30, none), some (31, none), some (32, none), some (33, none), some (34, none), some (35, none), some (36, none), some (37, none), some (38, none), some (39, none), some (40, none), some (41, none), some (42, none), some (43, none), some (44, none), some (45, none)] (weak_mkO (by rfl) (by rfl) ?_)⟩
      simp (disch := omega) only [go_sem, Nat.reduceEqDiff, Nat.reduceAdd, Nat.reduceSub, Int.reduceAdd, Int.reduceSub, Int.reduceToNat, Nat.reduceBEq]
     ·try simp (disch := omega) only [go_sem, Nat.reduceEqDiff, Nat.reduceAdd, Nat.reduceSub, Int.reduceAdd, Int.reduceSub, Int.reduceToNat, Nat.reduceBEq]
      refine ⟨by (try simp (disch := omega) only [go_sem, List.length_set, Nat.reduceEqDiff, Nat.reduceAdd, Nat.reduceSub, Int.reduceAdd, Int.reduceSub, Int.reduceToNat, Nat.reduceBEq]) <;> omega, hN _ [some (0, none), some (1, none), some (2, none), some (3, none), some (4, none), some (5, none), some (6, none), some (7, none), some (8, none), some (9, none), some (10, none), some (11, none), some (12, none), some (13, none), some (14, none), some (15, none), some (16, none), some (17, none), some (18, none), some (19, none), some (20, none), some (21, none), some (22, none), some (23, none), some (24, none), some (25, none), some (26, none), some (27, none), some (28, none), some (29, none), some (30, none), some (31, none), some (32, none), some (33, none), some (34, none), some (35, none), some (36, none), some (37, none), some (38, none), some (39, none), some (40, none), some (41, none), some (42, none), some (43, none), some (44, none), some (45, none)] (weak_mkO (by rfl) (by rfl) ?_)⟩
      simp (disch := omega) only [go_sem, Nat.reduceEqDiff, Nat.reduceAdd, Nat.reduceSub, Int.reduceAdd, Int.reduceSub, Int.reduceToNat, Nat.reduceBEq]
    ·try simp (disch := omega) only [go_sem, Nat.reduceEqDiff, Nat.reduceAdd, Nat.reduceSub, Int.reduceAdd, Int.reduceSub, Int.reduceToNat, Nat.reduceBEq]
     refine den_joinO 22 hE (fun s => s.at [9, 10, 11, 12, 13, 14, 15, 16, 17, 18, 19, 20, 21, 22, 25, 26, 27, 28, 29, 30, 31, 32, 33, 34, 35, 36, 37, 38, 39, 40, 41, 42, 43, 44, 45, 46, 47, 48, 49, 50, 51, 52, 53, 54, 55, 56, 57, 58, 59, 60, 61, 62, 63, 64, 65, 66, 67, 68, 69, 70, 71, 72, 73, 74, 75, 76, 77, 78, 79, 80] [] (((s.hp.take 24).set 22 (some ⟨[(worldC (⟨w.a, w.b, bag, p1, wA, wB, rA, rB, ⟨keys, tags⟩, nums, nsA, q1⟩ : WorldD) 24 25 26 27 28 29 30 31 32 33 34 35 36 37 38 39 40 41 42 43 44)], 61, 58, true, false⟩)) ++ (endsHp w true ++ (restHp (⟨w.a, w.b, bag, p1, wA, wB, rA, rB, ⟨keys, tags⟩, nums, nsA, q1⟩ : WorldD) true ++ [some ⟨[x.cs], 19, 67, true, false⟩])))) (by (try simp (disch := omega) only [go_sem, List.length_set, Nat.reduceEqDiff, Nat.reduceAdd, Nat.reduceSub, Int.reduceAdd, Int.reduceSub, Int.reduceToNat]) <;> omega) (by rfl) (fun N hN => run_den 401 ?_) (run_den 400 ?_)
     ·try simp (disch := omega) only [go_sem, Nat.reduceEqDiff, Nat.reduceAdd, Nat.reduceSub, Int.reduceAdd, Int.reduceSub, Int.reduceToNat]
      split <;> rename_i b2 <;> (try simp only [beq_true, beq_false, Bool.not_eq_true', Bool.not_eq_false'] at b2) <;> simp (disch := omega) only [go_sem, Nat.reduceEqDiff, Nat.reduceAdd, Nat.reduceSub, Int.reduceAdd, Int.reduceSub, Int.reduceToNat, b2] <;> (try simp only [decide_eq_true_eq, decide_eq_false_iff_not, beq_iff_eq, beq_eq_false_iff_ne, bne_iff_ne, bne_eq_false_iff_eq, ne_eq, Decidable.not_not, Bool.and_eq_true, Bool.and_eq_false_iff, Bool.or_eq_true, Bool.or_eq_false_iff, Int.ofNat_lt, Int.ofNat_le, Bool.not_eq_eq_eq_not, Bool.not_true, Bool.not_false] at b2) <;> try simp (disch := omega) only [go_sem, Nat.reduceEqDiff, Nat.reduceAdd, Nat.reduceSub, Int.reduceAdd, Int.reduceSub, Int.reduceToNat]
      ·rw [isJB_t b2] at hq1
       split <;> rename_i b3 <;> (try simp only [beq_true, beq_false, Bool.not_eq_true', Bool.not_eq_false'] at b3) <;> simp (disch := omega) only [go_sem, Nat.reduceEqDiff, Nat.reduceAdd, Nat.reduceSub, Int.reduceAdd, Int.reduceSub, Int.reduceToNat, b3] <;> (try simp only [decide_eq_true_eq, decide_eq_false_iff_not, beq_iff_eq, beq_eq_false_iff_ne, bne_iff_ne, bne_eq_false_iff_eq, ne_eq, Decidable.not_not, Bool.and_eq_true, Bool.and_eq_false_iff, Bool.or_eq_true, Bool.or_eq_false_iff, Int.ofNat_lt, Int.ofNat_le, Bool.not_eq_eq_eq_not, Bool.not_true, Bool.not_false] at b3) <;> try simp (disch := omega) only [go_sem, Nat.reduceEqDiff, Nat.reduceAdd, Nat.reduceSub, Int.reduceAdd, Int.reduceSub, Int.reduceToNat]
       ·rw [ansP_t (by omega)] at hq1
        subst hq1
        try simp (disch := omega) only [go_sem, Nat.reduceEqDiff, Nat.reduceAdd, Nat.reduceSub, Int.reduceAdd, Int.reduceSub, Int.reduceToNat]
        refine ⟨by (try simp (disch := omega) only [go_sem, List.length_set, Nat.reduceEqDiff, Nat.reduceAdd, Nat.reduceSub, Int.reduceAdd, Int.reduceSub, Int.reduceToNat]) <;> omega, hN _ [some (0, none), some (1, none), some (2, none), some (3, none), some (4, none), some (5, none), some (6, none), some (7, none), some (8, none), some (9, none), some (10, none), some (11, none), some (12, none), some (13, none), some (14, none), some (15, none), some (16, none), some (17, none), some (18, none), some (19, none), some (20, none), some (21, none), some (22, none), some (23, none), some (24, none), some (25, none), some (26, none), some (27, none), some (28, none), some (29, none), some (30, none), some (31, none), some (32, none), some (33, none), some (34, none), some (35, none), some (36, none), some (37, none), some (38, none), some (39, none), some (40, none), some (41, none), some (42, none), some (43, none), some (47, none), some (45, none)] (weak_mkO (by rfl) (by rfl) ?_)⟩
        simp (disch := omega) only [go_sem, Nat.reduceEqDiff, Nat.reduceAdd, Nat.reduceSub, Int.reduceAdd, Int.reduceSub, Int.reduceToNat]
        try simp [intC]
       ·rw [ansP_f (by omega)] at hq1
        subst hq1
        try simp (disch := omega) only [go_sem, Nat.reduceEqDiff, Nat.reduceAdd, Nat.reduceSub, Int.reduceAdd, Int.reduceSub, Int.reduceToNat]
        refine ⟨by (try simp (disch := omega) only [go_sem, List.length_set, Nat.reduceEqDiff, Nat.reduceAdd, Nat.reduceSub, Int.reduceAdd, Int.reduceSub, Int.reduceToNat]) <;> omega, hN _ [some (0, none), some (1, none), some (2, none), some (3, none), some (4, none), some (5, none), some (6, none), some (7, none), some (8, none), some (9, none), some (10, none), some (11, none), some (12, none), some (13, none), some (14, none), some (15, none), some (16, none), some (17, none), some (18, none), some (19, none), some (20, none), some (21, none), some (22, none), some (23, none), some (24, none), some (25, none), some (26, none), some (27, none), some (28, none), some (29, none), some (30, none), some (31, none), some (32, none), some (33, none), some (34, none), some (35, none), some (36, none), some (37, none), some (38, none), some (39, none), some (40, none), some (41, none), some (42, none), some (43, none), some (44, none), some (45, none)] (weak_mkO (by rfl) (by rfl) ?_)⟩
        simp (disch := omega) only [go_sem, Nat.reduceEqDiff, Nat.reduceAdd, Nat.reduceSub, Int.reduceAdd, Int.reduceSub, Int.reduceToNat]
      ·rw [isJB_f b2, ansP_f1] at hq1
       subst hq1
       try simp (disch := omega) only [go_sem, Nat.reduceEqDiff, Nat.reduceAdd, Nat.reduceSub, Int.reduceAdd, Int.reduceSub, Int.reduceToNat]
       refine ⟨by (try simp (disch := omega) only [go_sem, List.length_set, Nat.reduceEqDiff, Nat.reduceAdd, Nat.reduceSub, Int.reduceAdd, Int.reduceSub, Int.reduceToNat]) <;> omega, hN _ [some (0, none), some (1, none), some (2, none), some (3, none), some (4, none), some (5, none), some (6, none), some (7, none), some (8, none), some (9, none), some (10, none), some (11, none), some (12, none), some (13, none), some (14, none), some (15, none), some (16, none), some (17, none), some (18, none), some (19, none), some (20, none), some (21, none), some (22, none), some (23, none), some (24, none), some (25, none), some (26, none), some (27, none), some (28, none), some (29, none), some (30, none), some (31, none), some (32, none), some (33, none), some (34, none), some (35, none), some (36, none), some (37, none), some (38, none), some (39, none), some (40, none), some (41, none), some (42, none), some (43, none), some (44, none), some (45, none)] (weak_mkO (by rfl) (by rfl) ?_)⟩
       simp (disch := omega) only [go_sem, Nat.reduceEqDiff, Nat.reduceAdd, Nat.reduceSub, Int.reduceAdd, Int.reduceSub, Int.reduceToNat]
     ·try simp (disch := omega) only [go_sem, Nat.reduceEqDiff, Nat.reduceAdd, Nat.reduceSub, Int.reduceAdd, Int.reduceSub, Int.reduceToNat]
      refine den_call (by (try simp (disch := omega) only [go_sem, List.length_set, Nat.reduceEqDiff, Nat.reduceAdd, Nat.reduceSub, Int.reduceAdd, Int.reduceSub, Int.reduceToNat]) <;> omega) (spec_SideAt x.to) [] (by simp only [go_sem]; repeat' first | rfl | constructor | (rw [List.map_set]; rfl) | (simp [List.map_take, List.map_drop] <;> omega)) (by rfl) (run_den 400 ?_)
      simp (disch := omega) only [go_sem, Nat.reduceEqDiff, Nat.reduceAdd, Nat.reduceSub, Int.reduceAdd, Int.reduceSub, Int.reduceToNat]
      have hoth : ansP nsA (isJB 2 1 x) w.a.now = nsA := by rw [isJB_n (by decide), ansP_f1]
      split <;> rename_i b4 <;> (try simp only [beq_true, beq_false, Bool.not_eq_true', Bool.not_eq_false'] at b4) <;> simp (disch := omega) only [go_sem, Nat.reduceEqDiff, Nat.reduceAdd, Nat.reduceSub, Int.reduceAdd, Int.reduceSub, Int.reduceToNat, b4] <;> (try simp only [decide_eq_true_eq, decide_eq_false_iff_not, beq_iff_eq, beq_eq_false_iff_ne, bne_iff_ne, bne_eq_false_iff_eq, ne_eq, Decidable.not_not, Bool.and_eq_true, Bool.and_eq_false_iff, Bool.or_eq_true, Bool.or_eq_false_iff, Int.ofNat_lt, Int.ofNat_le, Bool.not_eq_eq_eq_not, Bool.not_true, Bool.not_false] at b4) <;> try simp (disch := omega) only [go_sem, Nat.reduceEqDiff, Nat.reduceAdd, Nat.reduceSub, Int.reduceAdd, Int.reduceSub, Int.reduceToNat]
      ·have hK := spec_Learn ⟨keys, tags⟩ x.tag (by dsimp only; omega) (by dsimp only; omega)
       have hky : (learn ⟨keys, tags⟩ x.tag).keys.length ≤ 1048576 := by rw [learn_keys]; exact s3
       have hkt : (learn ⟨keys, tags⟩ x.tag).tags.length ≤ 1048576 := learn_le s4
       obtain ⟨kk, hkk⟩ : ∃ k, k = learn ⟨keys, tags⟩ x.tag := ⟨_, rfl⟩
       rw [← hkk] at hK hky hkt
       obtain ⟨k1, t1⟩ := kk
       dsimp only at hky hkt
       have t5a : (numP nums x.nonce).length ≤ 1048576 := numP_le s5
       have t5b : (numP (numP nums x.nonce) x.give).length ≤ 1048576 := numP_le t5a
       have hh1 := spec_l23Hears (⟨w.a, w.b, bag, p1, wA, wB, rA, rB, ⟨k1, t1⟩, nums, nsA, q1⟩ : WorldD) x.nonce (by dsimp only; omega)
       have hh2 := spec_l23Hears (⟨w.a, w.b, bag, p1, wA, wB, rA, rB, ⟨k1, t1⟩, (numP nums x.nonce), nsA, q1⟩ : WorldD) x.give (by dsimp only; omega)
       have hh3 := spec_l23Hears (⟨w.a, w.b, bag, p1, wA, wB, rA, rB, ⟨k1, t1⟩, (numP (numP nums x.nonce) x.give), nsA, q1⟩ : WorldD) x.sgn (by dsimp only; omega)
       dsimp only at hh1 hh2 hh3
       have e : post1 2 (⟨w.a, w.b, bag, past, wA, wB, rA, rB, ⟨keys, tags⟩, nums, nsA, nsB⟩ : WorldD) x = (⟨w.a, w.b, bag, p1, wA, wB, rA, rB, ⟨k1, t1⟩, (numP (numP (numP nums x.nonce) x.give) x.sgn), nsA, q1⟩ : WorldD) := by
        rw [post1, if_pos b4, heard, notes]
        dsimp only
        rw [← hkk, hoth, ← hp1, ← hq1]
       rw [e] at hu
       have hS1 := post1_small (side := 2) (x := x) hS
       rw [e] at hS1
       generalize numP nums x.nonce = m1 at *
       generalize numP m1 x.give = m2 at *
       generalize numP m2 x.sgn = m3 at *
       try simp (disch := omega) only [go_sem, Nat.reduceEqDiff, Nat.reduceAdd, Nat.reduceSub, Int.reduceAdd, Int.reduceSub, Int.reduceToNat]
       refine den_call (by (try simp (disch := omega) only [go_sem, List.length_set, Nat.reduceEqDiff, Nat.reduceAdd, Nat.reduceSub, Int.reduceAdd, Int.reduceSub, Int.reduceToNat]) <;> omega) (hK) [some (40, none), some (41, none)] (by simp only [go_sem]; repeat' first | rfl | constructor | (rw [List.map_set]; rfl) | (simp [List.map_take, List.map_drop] <;> omega)) (by rfl) (run_den 400 ?_)
       simp (disch := omega) only [go_sem, Nat.reduceEqDiff, Nat.reduceAdd, Nat.reduceSub, Int.reduceAdd, Int.reduceSub, Int.reduceToNat]
       refine den_call (by (try simp (disch := omega) only [go_sem, List.length_set, Nat.reduceEqDiff, Nat.reduceAdd, Nat.reduceSub, Int.reduceAdd, Int.reduceSub, Int.reduceToNat]) <;> omega) (hh1) [some (24, none), some (25, none), some (26, none), some (27, none), some (28, none), some (29, none), some (30, none), some (31, none), some (32, none), some (33, none), some (34, none), some (35, none), some (36, none), some (37, none), some (38, none), some (39, none), some (46, none), some (47, none), some (42, none), some (43, none), some (44, none)] (by simp only [go_sem]; repeat' first | rfl | constructor | (rw [List.map_set]; rfl) | (simp [List.map_take, List.map_drop] <;> omega)) (by rfl) (run_den 400 ?_)
       simp (disch := omega) only [go_sem, Nat.reduceEqDiff, Nat.reduceAdd, Nat.reduceSub, Int.reduceAdd, Int.reduceSub, Int.reduceToNat]
       refine den_call (by (try simp (disch := omega) only [go_sem, List.length_set, Nat.reduceEqDiff, Nat.reduceAdd, Nat.reduceSub, Int.reduceAdd, Int.reduceSub, Int.reduceToNat]) <;> omega) (hh2) [some (24, none), some (25, none), some (26, none), some (27, none), some (28, none), some (29, none), some (30, none), some (31, none), some (32, none), some (33, none), some (34, none), some (35, none), some (36, none), some (37, none), some (38, none), some (39, none), some (46, none), some (47, none), some (48, none), some (43, none), some (44, none)] (by simp only [go_sem]; repeat' first | rfl | constructor | (rw [List.map_set]; rfl) | (simp [List.map_take, List.map_drop] <;> omega)) (by rfl) (run_den 400 ?_)
       simp (disch := omega) only [go_sem, Nat.reduceEqDiff, Nat.reduceAdd, Nat.reduceSub, Int.reduceAdd, Int.reduceSub, Int.reduceToNat]
       refine den_call (by (try simp (disch := omega) only [go_sem, List.length_set, Nat.reduceEqDiff, Nat.reduceAdd, Nat.reduceSub, Int.reduceAdd, Int.reduceSub, Int.reduceToNat]) <;> omega) (hh3) [some (24, none), some (25, none), some (26, none), some (27, none), some (28, none), some (29, none), some (30, none), some (31, none), some (32, none), some (33, none), some (34, none), some (35, none), some (36, none), some (37, none), some (38, none), some (39, none), some (46, none), some (47, none), some (49, none), some (43, none), some (44, none)] (by simp only [go_sem]; repeat' first | rfl | constructor | (rw [List.map_set]; rfl) | (simp [List.map_take, List.map_drop] <;> omega)) (by rfl) (run_den 400 ?_)
       simp (disch := omega) only [go_sem, Nat.reduceEqDiff, Nat.reduceAdd, Nat.reduceSub, Int.reduceAdd, Int.reduceSub, Int.reduceToNat]
       refine ⟨by (try simp (disch := omega) only [go_sem, List.length_set, Nat.reduceEqDiff, Nat.reduceAdd, Nat.reduceSub, Int.reduceAdd, Int.reduceSub, Int.reduceToNat]) <;> omega, hN _ (i + 1, (⟨w.a, w.b, bag, p1, wA, wB, rA, rB, ⟨k1, t1⟩, m3, nsA, q1⟩ : WorldD)) [some (0, none), some (1, none), some (2, none), some (3, none), some (4, none), some (5, none), some (6, none), some (7, none), some (8, none), some (9, none), some (10, none), some (11, none), some (12, none), some (13, none), some (14, none), some (15, none), some (16, none), some (17, none), some (18, none), some (19, none), some (20, none), some (21, none), some (22, none), some (23, none), some (24, none), some (25, none), some (26, none), some (27, none), some (28, none), some (29, none), some (30, none), some (31, none), some (32, none), some (33, none), some (34, none), some (35, none), some (36, none), some (37, none), some (38, none), some (39, none), some (46, none), some (47, none), some (50, none), some (43, none), some (44, none)] (by (try dsimp only); exact ⟨by omega, rfl, rfl, hS1, hu⟩) (by (try dsimp only); omega) (weak_mkO (by rfl) (by rfl) ?_)⟩
       try simp (disch := omega) only [go_sem, Nat.reduceEqDiff, Nat.reduceAdd, Nat.reduceSub, Int.reduceAdd, Int.reduceSub, Int.reduceToNat]
      ·obtain ⟨g1, hg1⟩ : ∃ g, g = bagP bag x := ⟨_, rfl⟩
       have e : post1 2 (⟨w.a, w.b, bag, past, wA, wB, rA, rB, ⟨keys, tags⟩, nums, nsA, nsB⟩ : WorldD) x = (⟨w.a, w.b, g1, p1, wA, wB, rA, rB, ⟨keys, tags⟩, nums, nsA, q1⟩ : WorldD) := by
        rw [post1, if_neg b4, notes]
        dsimp only
        rw [hoth, ← hp1, ← hq1, ← hg1]
       rw [e] at hu
       have hS1 := post1_small (side := 2) (x := x) hS
       rw [e] at hS1
       try simp (disch := omega) only [go_sem, Nat.reduceEqDiff, Nat.reduceAdd, Nat.reduceSub, Int.reduceAdd, Int.reduceSub, Int.reduceToNat]
       split <;> rename_i b5 <;> (try simp only [beq_true, beq_false, Bool.not_eq_true', Bool.not_eq_false'] at b5) <;> simp (disch := omega) only [go_sem, Nat.reduceEqDiff, Nat.reduceAdd, Nat.reduceSub, Int.reduceAdd, Int.reduceSub, Int.reduceToNat, b5] <;> (try simp only [decide_eq_true_eq, decide_eq_false_iff_not, beq_iff_eq, beq_eq_false_iff_ne, bne_iff_ne, bne_eq_false_iff_eq, ne_eq, Decidable.not_not, Bool.and_eq_true, Bool.and_eq_false_iff, Bool.or_eq_true, Bool.or_eq_false_iff, Int.ofNat_lt, Int.ofNat_le, Bool.not_eq_eq_eq_not, Bool.not_true, Bool.not_false] at b5) <;> try simp (disch := omega) only [go_sem, Nat.reduceEqDiff, Nat.reduceAdd, Nat.reduceSub, Int.reduceAdd, Int.reduceSub, Int.reduceToNat]
       ·rw [bagP_t (by omega)] at hg1
        subst hg1
        try simp (disch := omega) only [go_sem, Nat.reduceEqDiff, Nat.reduceAdd, Nat.reduceSub, Int.reduceAdd, Int.reduceSub, Int.reduceToNat]
        refine ⟨by (try simp (disch := omega) only [go_sem, List.length_set, Nat.reduceEqDiff, Nat.reduceAdd, Nat.reduceSub, Int.reduceAdd, Int.reduceSub, Int.reduceToNat]) <;> omega, hN _ (i + 1, (⟨w.a, w.b, (bag ++ [x]), p1, wA, wB, rA, rB, ⟨keys, tags⟩, nums, nsA, q1⟩ : WorldD)) [some (0, none), some (1, none), some (2, none), some (3, none), some (4, none), some (5, none), some (6, none), some (7, none), some (8, none), some (9, none), some (10, none), some (11, none), some (12, none), some (13, none), some (14, none), some (15, none), some (16, none), some (17, none), some (18, none), some (19, none), some (20, none), some (21, none), some (22, none), some (23, none), some (24, none), some (25, none), some (26, none), some (27, none), some (28, none), some (29, none), some (30, none), some (31, none), some (32, none), some (33, none), some (34, none), some (35, none), some (36, none), some (37, none), some (47, none), some (39, none), some (40, none), some (41, none), some (42, none), some (43, none), some (44, none)] (by (try dsimp only); exact ⟨by omega, rfl, rfl, hS1, hu⟩) (by (try dsimp only); omega) (weak_mkO (by rfl) (by rfl) ?_)⟩
        try simp (disch := omega) only [go_sem, Nat.reduceEqDiff, Nat.reduceAdd, Nat.reduceSub, Int.reduceAdd, Int.reduceSub, Int.reduceToNat]
        try simp [LetterD.cs]
       ·rw [bagP_f (by omega)] at hg1
        subst hg1
        try simp (disch := omega) only [go_sem, Nat.reduceEqDiff, Nat.reduceAdd, Nat.reduceSub, Int.reduceAdd, Int.reduceSub, Int.reduceToNat]
        refine ⟨by (try simp (disch := omega) only [go_sem, List.length_set, Nat.reduceEqDiff, Nat.reduceAdd, Nat.reduceSub, Int.reduceAdd, Int.reduceSub, Int.reduceToNat]) <;> omega, hN _ (i + 1, (⟨w.a, w.b, g1, p1, wA, wB, rA, rB, ⟨keys, tags⟩, nums, nsA, q1⟩ : WorldD)) [some (0, none), some (1, none), some (2, none), some (3, none), some (4, none), some (5, none), some (6, none), some (7, none), some (8, none), some (9, none), some (10, none), some (11, none), some (12, none), some (13, none), some (14, none), some (15, none), some (16, none), some (17, none), some (18, none), some (19, none), some (20, none), some (21, none), some (22, none), some (23, none), some (24, none), some (25, none), some (26, none), some (27, none), some (28, none), some (29, none), some (30, none), some (31, none), some (32, none), some (33, none), some (34, none), some (35, none), some (36, none), some (37, none), some (38, none), some (39, none), some (40, none), some (41, none), some (42, none), some (43, none), some (44, none)] (by (try dsimp only); exact ⟨by omega, rfl, rfl, hS1, hu⟩) (by (try dsimp only); omega) (weak_mkO (by rfl) (by rfl) ?_)⟩
        try simp (disch := omega) only [go_sem, Nat.reduceEqDiff, Nat.reduceAdd, Nat.reduceSub, Int.reduceAdd, Int.reduceSub, Int.reduceToNat]
end
section
open Go.RowKit

theorem lands_0 {w : WorldD} {x : LetterD} (h : sideAt x.to = 0) : lands w x = w := by rw [lands, if_pos h]
theorem lands_1 {w : WorldD} {x : LetterD} (h : sideAt x.to = 1) : lands w x = postL 1 { w with a := (hear w.a x).1 } (hear w.a x).2 := by rw [lands, h]; rfl
theorem lands_2 {w : WorldD} {x : LetterD} (h : sideAt x.to = 2) : lands w x = postL 2 { w with b := (hear w.b x).1 } (hear w.b x).2 := by rw [lands, h]; rfl
structure SmallWP (w : WorldD) : Prop where
 s : SmallW w
 pa : SmallP w.a.inp
 pb : SmallP w.b.inp
theorem spec_Lands (w : WorldD) (x : LetterD) (hw : SmallWP w) : CallA Tryz.prog 196 [.ag (w.cs 0), .ag x.cs] (w.hp false) (.ag ((lands w x).cs 21)) (w.hp false ++ (lands w x).hp true) := by
 have hC := spec_l23Copy w hw.s
 have hS := spec_SideAt x.to
 obtain ⟨R, hR⟩ : ∃ R, R = lands w x := ⟨_, rfl⟩
 rw [← hR]
 rcases sideAt_12 x.to with h0 | h0 | h0
 ·rw [lands_0 h0] at hR
  subst hR
  rw [h0] at hS
  refine qEO Tryz.func196 Tryz.ntmps196 Tryz.results196 fun E hE => ?_
  refine qK (hS) [] ?_
  refine qK (hC) (qA [0, 1, 2, 3, 4, 5, 6, 7, 8, 9, 10, 11, 12, 13, 14, 15, 16, 17, 18, 19, 20]) ?_
  exact qFO (qA [0, 1, 2, 3, 4, 5, 6, 7, 8, 9, 10, 11, 12, 13, 14, 15, 16, 17, 18, 19, 20, 24, 25, 26, 27, 28, 29, 30, 31, 32, 33, 34, 35, 36, 37, 38, 39, 40, 41, 42, 43, 44])
 ·rw [lands_1 h0] at hR
  rw [h0] at hS
  have hEA : CallA Tryz.prog 189 [.ag (w.cs 0), .sc (.int .i64 1)] (w.hp false) (.ag (w.a.cs 21)) (w.hp false ++ w.a.hp true) := spec_EndAt w 1 hw.s.a.own hw.s.a.far hw.s.a.subs hw.s.a.halfs hw.s.a.list hw.s.a.done hw.s.a.over hw.s.b.own hw.s.b.far hw.s.b.subs hw.s.b.halfs hw.s.b.list hw.s.b.done hw.s.b.over
  have hH := spec_Hear w.a x hw.s.a hw.pa
  have hsm := hear_small (e := w.a) (x := x) hw.s.a
  have hone := hear_one (e := w.a) (x := x)
  obtain ⟨pr, hpr⟩ : ∃ p, p = hear w.a x := ⟨_, rfl⟩
  rw [← hpr] at hH hsm hone hR
  obtain ⟨e1, l1⟩ := pr
  dsimp only at hH hsm hone hR
  have hends := postL_ends (side := 1) (l := l1) (w := { w with a := e1 })
  rw [← hR] at hends
  have hset := spec_l23Set1 w e1
  have hpost := spec_Posted1 { w with a := e1 } l1 ⟨hsm, hw.s.b, hw.s.bag, hw.s.past, hw.s.keys, hw.s.tags, hw.s.nums, hw.s.ansA, hw.s.ansB⟩ (by omega)
  rw [← hR] at hpost
  clear hR hpr
  obtain ⟨ra, rb, bag, past, wA, wB, rA, rB, known, nums, nsA, nsB⟩ := R
  obtain ⟨keys, tags⟩ := known
  dsimp only at hends
  obtain ⟨g1, g2, g3, g4, g5, g6⟩ := hends
  replace g1 := g1.symm
  replace g2 := g2.symm
  replace g3 := g3.symm
  replace g4 := g4.symm
  replace g5 := g5.symm
  replace g6 := g6.symm
  subst g1 g2 g3 g4 g5 g6
  refine qEO Tryz.func196 Tryz.ntmps196 Tryz.results196 fun E hE => ?_
  refine qK (hS) [] ?_
  refine qK (hC) (qA [0, 1, 2, 3, 4, 5, 6, 7, 8, 9, 10, 11, 12, 13, 14, 15, 16, 17, 18, 19, 20]) ?_
  refine den_drawX [(2, 8), (4, 8)] [(2, 4)] [[0, 1, 3, 2, 4, 5, 6, 7, 8, 9, 10], [0, 1, 3, 2, 8, 4, 5, 6, 7, 9, 10], [0, 1, 3, 8, 2, 4, 5, 6, 7, 9, 10]] 21 hE (fun s => s.at [16, 17, 18, 19, 20, 21, 22, 23] [(6, .sc (.pt 60 0 0)), (7, .sc (.sl 59 0 l1.length))] (s.hp ++ (w.a.hp true ++ (e1.hpS ++ [some ⟨l1.map LetterD.cs, 19, 67, true, true⟩, some ⟨[e1.cs 52], 25, 38, true, false⟩])))) (by kernel_rfl) (qC) (by kernel_rfl) ?_ (run_den 400 ?_)
  rotate_left
  rotate_right
  simp only [allDn]
  refine ⟨runD_den 400 ?_, runD_den 400 ?_, runD_den 400 ?_⟩
  ·simp (disch := omega) only [go_sem, Nat.reduceEqDiff, Nat.reduceAdd, Nat.reduceSub, Int.reduceAdd, Int.reduceSub, Int.reduceToNat]
   refine qKD (hEA) (qA [24, 25, 26, 27, 28, 29, 30, 31, 32, 33, 34, 35, 36, 37, 38, 39, 40, 41, 42, 43, 44]) ?_
   refine qKD (hH) (qA [45, 46, 47, 48, 49, 50, 51]) ?_
   refine ⟨qC, (qA [0, 1, 2, 3, 4, 5, 6, 7, 8, 9, 10, 11, 12, 13, 14, 15, 16, 17, 18, 19, 20, 21, 22, 23, 24, 25, 26, 27, 28, 29, 30, 31, 32, 33, 34, 35, 36, 37, 38, 39, 40, 41, 42, 43, 44, 45, 46, 47, 48, 49, 50, 51, 52, 53, 54, 55, 56, 57, 58, 59, 60]), weak_mkO (by rfl) (by rfl) ?_⟩
   try simp (disch := omega) only [go_sem, Nat.reduceEqDiff, Nat.reduceAdd, Nat.reduceSub, Int.reduceAdd, Int.reduceSub, Int.reduceToNat]
  ·simp (disch := omega) only [go_sem, Nat.reduceEqDiff, Nat.reduceAdd, Nat.reduceSub, Int.reduceAdd, Int.reduceSub, Int.reduceToNat]
   refine qKD (hEA) (qA [24, 25, 26, 27, 28, 29, 30, 31, 32, 33, 34, 35, 36, 37, 38, 39, 40, 41, 42, 43, 44]) ?_
   refine qKD (hH) (qA [45, 46, 47, 48, 49, 50, 51]) ?_
   refine ⟨qC, (qA [0, 1, 2, 3, 4, 5, 6, 7, 8, 9, 10, 11, 12, 13, 14, 15, 16, 17, 18, 19, 20, 21, 22, 23, 24, 25, 26, 27, 28, 29, 30, 31, 32, 33, 34, 35, 36, 37, 38, 39, 40, 41, 42, 43, 44, 45, 46, 47, 48, 49, 50, 51, 53, 54, 55, 56, 57, 58, 59, 60, 52]), weak_mkO (by rfl) (by rfl) ?_⟩
   try simp (disch := omega) only [go_sem, Nat.reduceEqDiff, Nat.reduceAdd, Nat.reduceSub, Int.reduceAdd, Int.reduceSub, Int.reduceToNat]
  ·simp (disch := omega) only [go_sem, Nat.reduceEqDiff, Nat.reduceAdd, Nat.reduceSub, Int.reduceAdd, Int.reduceSub, Int.reduceToNat]
   refine qKD (hEA) (qA [24, 25, 26, 27, 28, 29, 30, 31, 32, 33, 34, 35, 36, 37, 38, 39, 40, 41, 42, 43, 44]) ?_
   refine qKD (hH) (qA [46, 47, 48, 49, 50, 51, 52]) ?_
   refine ⟨qC, (qA [0, 1, 2, 3, 4, 5, 6, 7, 8, 9, 10, 11, 12, 13, 14, 15, 16, 17, 18, 19, 20, 21, 22, 23, 24, 25, 26, 27, 28, 29, 30, 31, 32, 33, 34, 35, 36, 37, 38, 39, 40, 41, 42, 43, 44, 46, 47, 48, 49, 50, 51, 52, 53, 54, 55, 56, 57, 58, 59, 60, 45]), weak_mkO (by rfl) (by rfl) ?_⟩
   try simp (disch := omega) only [go_sem, Nat.reduceEqDiff, Nat.reduceAdd, Nat.reduceSub, Int.reduceAdd, Int.reduceSub, Int.reduceToNat]
  refine qX ?_
  refine qK (hset) (qA [24, 25, 26, 27, 28, 29, 30, 31, 32, 33, 34, 35, 36, 37, 38, 39, 40, 41, 42, 43, 44, 52, 53, 54, 55, 56, 57, 58]) ?_
  refine qK (hpost) (qA [52, 53, 54, 55, 56, 57, 58, 31, 32, 33, 34, 35, 36, 37, 38, 39, 40, 41, 42, 43, 44, 59]) ?_
  exact qFO (qA [0, 1, 2, 3, 4, 5, 6, 7, 8, 9, 10, 11, 12, 13, 14, 15, 16, 17, 18, 19, 20, 61, 62, 63, 64, 65, 66, 67, 68, 69, 70, 71, 72, 73, 74, 75, 76, 77, 78, 79, 80, 81])
 ·rw [lands_2 h0] at hR
  rw [h0] at hS
  have hEA : CallA Tryz.prog 189 [.ag (w.cs 0), .sc (.int .i64 2)] (w.hp false) (.ag (w.b.cs 21)) (w.hp false ++ w.b.hp true) := spec_EndAt w 2 hw.s.a.own hw.s.a.far hw.s.a.subs hw.s.a.halfs hw.s.a.list hw.s.a.done hw.s.a.over hw.s.b.own hw.s.b.far hw.s.b.subs hw.s.b.halfs hw.s.b.list hw.s.b.done hw.s.b.over
  have hH := spec_Hear w.b x hw.s.b hw.pb
  have hsm := hear_small (e := w.b) (x := x) hw.s.b
  have hone := hear_one (e := w.b) (x := x)
  obtain ⟨pr, hpr⟩ : ∃ p, p = hear w.b x := ⟨_, rfl⟩
  rw [← hpr] at hH hsm hone hR
  obtain ⟨e1, l1⟩ := pr
  dsimp only at hH hsm hone hR
  have hends := postL_ends (side := 2) (l := l1) (w := { w with b := e1 })
  rw [← hR] at hends
  have hset := spec_l23Set2 w e1
  have hpost := spec_Posted2 { w with b := e1 } l1 ⟨hw.s.a, hsm, hw.s.bag, hw.s.past, hw.s.keys, hw.s.tags, hw.s.nums, hw.s.ansA, hw.s.ansB⟩ (by omega)
  rw [← hR] at hpost
  clear hR hpr
  obtain ⟨ra, rb, bag, past, wA, wB, rA, rB, known, nums, nsA, nsB⟩ := R
  obtain ⟨keys, tags⟩ := known
  dsimp only at hends
  obtain ⟨g1, g2, g3, g4, g5, g6⟩ := hends
  replace g1 := g1.symm
  replace g2 := g2.symm
  replace g3 := g3.symm
  replace g4 := g4.symm
  replace g5 := g5.symm
  replace g6 := g6.symm
  subst g1 g2 g3 g4 g5 g6
  refine qEO Tryz.func196 Tryz.ntmps196 Tryz.results196 fun E hE => ?_
  refine qK (hS) [] ?_
  refine qK (hC) (qA [0, 1, 2, 3, 4, 5, 6, 7, 8, 9, 10, 11, 12, 13, 14, 15, 16, 17, 18, 19, 20]) ?_
  refine den_drawX [(2, 8), (4, 8)] [(2, 4)] [[0, 1, 3, 2, 4, 5, 6, 7, 8, 9, 10], [0, 1, 3, 2, 8, 4, 5, 6, 7, 9, 10], [0, 1, 3, 8, 2, 4, 5, 6, 7, 9, 10]] 21 hE (fun s => s.at [16, 17, 18, 19, 20, 21, 22, 23] [(6, .sc (.pt 60 0 0)), (7, .sc (.sl 59 0 l1.length))] (s.hp ++ (w.b.hp true ++ (e1.hpS ++ [some ⟨l1.map LetterD.cs, 19, 67, true, true⟩, some ⟨[e1.cs 52], 25, 38, true, false⟩])))) (by kernel_rfl) (qC) (by kernel_rfl) ?_ (run_den 400 ?_)
  rotate_left
  rotate_right
  simp only [allDn]
  refine ⟨runD_den 400 ?_, runD_den 400 ?_, runD_den 400 ?_⟩
  ·simp (disch := omega) only [go_sem, Nat.reduceEqDiff, Nat.reduceAdd, Nat.reduceSub, Int.reduceAdd, Int.reduceSub, Int.reduceToNat]
   refine qKD (hEA) (qA [24, 25, 26, 27, 28, 29, 30, 31, 32, 33, 34, 35, 36, 37, 38, 39, 40, 41, 42, 43, 44]) ?_
   refine qKD (hH) (qA [45, 46, 47, 48, 49, 50, 51]) ?_
   refine ⟨qC, (qA [0, 1, 2, 3, 4, 5, 6, 7, 8, 9, 10, 11, 12, 13, 14, 15, 16, 17, 18, 19, 20, 21, 22, 23, 24, 25, 26, 27, 28, 29, 30, 31, 32, 33, 34, 35, 36, 37, 38, 39, 40, 41, 42, 43, 44, 45, 46, 47, 48, 49, 50, 51, 52, 53, 54, 55, 56, 57, 58, 59, 60]), weak_mkO (by rfl) (by rfl) ?_⟩
   try simp (disch := omega) only [go_sem, Nat.reduceEqDiff, Nat.reduceAdd, Nat.reduceSub, Int.reduceAdd, Int.reduceSub, Int.reduceToNat]
  ·simp (disch := omega) only [go_sem, Nat.reduceEqDiff, Nat.reduceAdd, Nat.reduceSub, Int.reduceAdd, Int.reduceSub, Int.reduceToNat]
   refine qKD (hEA) (qA [24, 25, 26, 27, 28, 29, 30, 31, 32, 33, 34, 35, 36, 37, 38, 39, 40, 41, 42, 43, 44]) ?_
   refine qKD (hH) (qA [45, 46, 47, 48, 49, 50, 51]) ?_
   refine ⟨qC, (qA [0, 1, 2, 3, 4, 5, 6, 7, 8, 9, 10, 11, 12, 13, 14, 15, 16, 17, 18, 19, 20, 21, 22, 23, 24, 25, 26, 27, 28, 29, 30, 31, 32, 33, 34, 35, 36, 37, 38, 39, 40, 41, 42, 43, 44, 45, 46, 47, 48, 49, 50, 51, 53, 54, 55, 56, 57, 58, 59, 60, 52]), weak_mkO (by rfl) (by rfl) ?_⟩
   try simp (disch := omega) only [go_sem, Nat.reduceEqDiff, Nat.reduceAdd, Nat.reduceSub, Int.reduceAdd, Int.reduceSub, Int.reduceToNat]
  ·simp (disch := omega) only [go_sem, Nat.reduceEqDiff, Nat.reduceAdd, Nat.reduceSub, Int.reduceAdd, Int.reduceSub, Int.reduceToNat]
   refine qKD (hEA) (qA [24, 25, 26, 27, 28, 29, 30, 31, 32, 33, 34, 35, 36, 37, 38, 39, 40, 41, 42, 43, 44]) ?_
   refine qKD (hH) (qA [46, 47, 48, 49, 50, 51, 52]) ?_
   refine ⟨qC, (qA [0, 1, 2, 3, 4, 5, 6, 7, 8, 9, 10, 11, 12, 13, 14, 15, 16, 17, 18, 19, 20, 21, 22, 23, 24, 25, 26, 27, 28, 29, 30, 31, 32, 33, 34, 35, 36, 37, 38, 39, 40, 41, 42, 43, 44, 46, 47, 48, 49, 50, 51, 52, 53, 54, 55, 56, 57, 58, 59, 60, 45]), weak_mkO (by rfl) (by rfl) ?_⟩
   try simp (disch := omega) only [go_sem, Nat.reduceEqDiff, Nat.reduceAdd, Nat.reduceSub, Int.reduceAdd, Int.reduceSub, Int.reduceToNat]
  refine qX ?_
  refine qK (hset) (qA [24, 25, 26, 27, 28, 29, 30, 31, 32, 33, 34, 35, 36, 37, 38, 39, 40, 41, 42, 43, 44, 52, 53, 54, 55, 56, 57, 58]) ?_
  refine qK (hpost) (qA [24, 25, 26, 27, 28, 29, 30, 52, 53, 54, 55, 56, 57, 58, 38, 39, 40, 41, 42, 43, 44, 59]) ?_
  exact qFO (qA [0, 1, 2, 3, 4, 5, 6, 7, 8, 9, 10, 11, 12, 13, 14, 15, 16, 17, 18, 19, 20, 61, 62, 63, 64, 65, 66, 67, 68, 69, 70, 71, 72, 73, 74, 75, 76, 77, 78, 79, 80, 81])
end
section
open Go.RowKit

theorem accN_lo {o : OutD} {t : List UInt8} (h : FineO o) (h2 : o.room - (o.text.length : Int) < (t.length : Int)) : o.room - (o.text.length : Int) = (accN o t : Int) := by
 have := h.len
 rw [accN]; omega
theorem accN_hi {o : OutD} {t : List UInt8} (h : FineO o) (h2 : ¬ o.room - (o.text.length : Int) < (t.length : Int)) : accN o t = t.length := by
 have := h.len
 rw [accN]; omega
theorem accN_room {o : OutD} {t : List UInt8} (h : FineO o) : (accN o t : Int) ≤ o.room - (o.text.length : Int) := by
 have := h.len
 rw [accN]; omega
theorem spec_Accept (o : OutD) (t : List UInt8) (ht : t.length ≤ 1048576) : CallA Tryz.prog 161 [.ag o.cs, .sc (.st t)] [] (.tu [.ag (accept o t).1.cs, .sc (.int .i64 ((accept o t).2 : Nat))]) [] := by
 have hf := accept_f (o := o) (t := t)
 have htt := accept_t (o := o) (t := t)
 have hK := spec_OutOk o
 generalize accept o t = R at *
 refine qE Tryz.func161 Tryz.ntmps161 Tryz.results161 fun E hE => ?_
 refine qK (hK) [] ?_
 refine qB (fun b1 => ?_) fun b1 => ?_
 ·rw [hf (by simp [accOk, b1])]
  refine qX ?_
  exact qF []
 ·have F := outOk_fine b1
  have f1 := F.base
  have f2 := F.room
  have f3 := F.len
  have f4 := F.sent
  have hr := accN_room (t := t) F
  have hle := accN_le o t
  have htl : (t.take (accN o t)).length = accN o t := by rw [List.length_take]; omega
  have htt2 : (t.take t.length).length = t.length := by simp
  refine qX ?_
  refine qB (fun b3 => ?_) fun b3 => ?_
  ·have e := accN_hi (t := t) F (by omega)
   rw [e] at hr
   refine qB (fun b2 => ?_) fun b2 => ?_
   ·rw [hf (by simp only [accOk, b1, Bool.true_and, decide_eq_false_iff_not, e]; omega)]
    refine qX ?_
    exact qF []
   ·rw [htt (by simp only [accOk, b1, Bool.true_and, decide_eq_true_eq, e]; omega), e]
    refine qX ?_
    refine qD [0, 1, 2, 3, 4, 5, 6, 7] ?_
    refine qG ?_
    exact qF []
  ·by_cases hlt : o.room - (o.text.length : Int) < (t.length : Int)
   ·have e := accN_lo (t := t) F hlt
    try simp (disch := omega) only [go_sem, Nat.reduceEqDiff, Nat.reduceAdd, Nat.reduceSub, Int.reduceAdd, Int.reduceSub, Int.reduceToNat, e]
    refine qB (fun b2 => ?_) fun b2 => ?_
    ·rw [hf (by simp only [accOk, b1, Bool.true_and, decide_eq_false_iff_not]; omega)]
     refine qX ?_
     exact qF []
    ·rw [htt (by simp only [accOk, b1, Bool.true_and, decide_eq_true_eq]; omega)]
     refine qX ?_
     refine qD [0, 1, 2, 3, 4, 5, 6, 7] ?_
     refine qG ?_
     exact qF []
   ·have e := accN_hi (t := t) F hlt
    have e2 : o.room - (o.text.length : Int) = (accN o t : Int) := by omega
    try simp (disch := omega) only [go_sem, Nat.reduceEqDiff, Nat.reduceAdd, Nat.reduceSub, Int.reduceAdd, Int.reduceSub, Int.reduceToNat, e2]
    refine qB (fun b2 => ?_) fun b2 => ?_
    ·rw [hf (by simp only [accOk, b1, Bool.true_and, decide_eq_false_iff_not]; omega)]
     refine qX ?_
     exact qF []
    ·rw [htt (by simp only [accOk, b1, Bool.true_and, decide_eq_true_eq]; omega)]
     refine qX ?_
     refine qD [0, 1, 2, 3, 4, 5, 6, 7] ?_
     refine qG ?_
     exact qF []
theorem npText_len {o : OutD} (F : FineO o) : (npText o).length ≤ 20 ∧ ((npText o).length : Int) ≤ o.base + (o.text.length : Int) - o.sent := by
 have := F.sent
 simp only [npText, List.length_take, List.length_drop]
 omega
theorem spec_NextPiece (o : OutD) (ho : o.text.length ≤ 1048576) : CallA Tryz.prog 187 [.ag o.cs] [] (.tu [.ag (nextPiece o).1.cs, .sc (.bo (nextPiece o).2)]) [] := by
 have hf := np_f (o := o)
 have ht := np_t (o := o)
 have hK := spec_OutOk o
 generalize nextPiece o = R at *
 refine qE Tryz.func187 Tryz.ntmps187 Tryz.results187 fun E hE => ?_
 refine qK (hK) [] ?_
 refine qB (fun b1 => ?_) fun b1 => ?_
 ·have F := outOk_fine b1
  have f1 := F.base
  have f2 := F.room
  have f3 := F.len
  obtain ⟨k, hk⟩ : ∃ k : Nat, o.sent - o.base = (k : Int) := ⟨(o.sent - o.base).toNat, by have := F.sent; omega⟩
  have f4 := F.sent
  refine qX ?_
  refine qB (fun b2 => ?_) fun b2 => ?_
  ·rw [hf (by simp [npOk, b2])]
   refine qX ?_
   exact qF []
  ·have hnt : npText o = (o.text.drop k).take 20 := by rw [npText, hk, Int.toNat_natCast]
   rw [ht (by simp [npOk, b1]; omega), hnt]
   try simp (disch := omega) only [go_sem, Nat.reduceEqDiff, Nat.reduceAdd, Nat.reduceSub, Int.reduceAdd, Int.reduceSub, Int.reduceToNat, hk]
   refine qB (fun b3 => ?_) fun b3 => ?_
   ·refine qX ?_
    exact qF []
   ·have h6 : (o.text.drop k).take 20 = o.text.drop k := List.take_of_length_le (by simp only [List.length_drop] at b3 ⊢; omega)
    rw [h6]
    refine qX ?_
    exact qF []
 ·rw [hf (by simp [npOk, b1])]
  refine qX ?_
  exact qF []
theorem spec_Anew (o : OutD) : CallA Tryz.prog 164 [.ag o.cs] [] (.ag (anew o).cs) [] := by
 have hK := spec_OutOk o
 obtain ⟨R, hR⟩ : ∃ R, R = anew o := ⟨_, rfl⟩
 rw [← hR]
 refine qE Tryz.func164 Tryz.ntmps164 Tryz.results164 fun E hE => ?_
 refine qK (hK) [] ?_
 refine qB (fun b1 => ?_) fun b1 => ?_
 ·rw [anew, if_pos b1] at hR
  subst hR
  refine qX ?_
  exact qF []
 ·rw [anew, if_neg (by simp [b1])] at hR
  subst hR
  refine qX ?_
  exact qF []

theorem spec_WasSent (o : OutD) (ho : o.text.length ≤ 1048576) (h : npOk o = true) : CallA Tryz.prog 162 [.ag o.cs] [] (.ag (OutD.cs { o with sent := o.sent + ((npText o).length : Int) })) [] := by
 have hN := spec_NextPiece o ho
 rw [np_t h] at hN
 have F := outOk_fine (by simp only [npOk, Bool.and_eq_true] at h; exact h.1 : outOk o = true)
 have hl := npText_len F
 have f1 := F.base
 have f2 := F.room
 have f3 := F.len
 have f4 := F.sent
 refine qE Tryz.func162 Tryz.ntmps162 Tryz.results162 fun E hE => ?_
 refine qK (hN) [] ?_
 exact qF []
end
section
open Go.RowKit

theorem tkN_le {p : PiecesD} {m : Int} : tkN p m ≤ p.ready.length := Nat.min_le_right _ _
theorem tkN_hi {p : PiecesD} {m : Int} (h : (p.ready.length : Int) < m) : tkN p m = p.ready.length := by rw [tkN]; omega
theorem tkN_lo {p : PiecesD} {m : Int} (h0 : 0 ≤ m) (h : ¬ (p.ready.length : Int) < m) : m = (tkN p m : Int) := by rw [tkN]; omega
theorem spec_TakeReady (p : PiecesD) (m : Int) (hs : SmallP p) : CallA Tryz.prog 185 [.ag (p.cs 0), .sc (.int .i64 m)] (p.hp false) (.tu [.ag ((takeReady p m).1.cs 1), .sc (.st (takeReady p m).2)]) (p.hp false ++ (takeReady p m).1.hp true) := by
 have hf := tk_f (p := p) (m := m)
 have ht := tk_t (p := p) (m := m)
 have hC := spec_l09Copy p hs.list
 have hK := spec_PiecesOk p hs.list
 have hsl := hs.list
 have hsr := hs.ready
 generalize takeReady p m = R at *
 by_cases h0 : 0 ≤ m
 ·obtain ⟨N, hN⟩ : ∃ N, N = tkN p m := ⟨_, rfl⟩
  have hle : N ≤ p.ready.length := by rw [hN]; exact tkN_le
  have hok : piecesOk p = true → tkOk p m = decide (p.read + (N : Int) ≤ 1000000000) := fun b1 => by rw [tkOk, b1, decide_eq_true h0, hN]; rfl
  rw [← hN] at ht
  have key : ∀ M : Int, M = (N : Int) → (M = (p.ready.length : Int) ∨ M = m) → True := fun _ _ _ => trivial
  refine qEO Tryz.func185 Tryz.ntmps185 Tryz.results185 fun E hE => ?_
  refine qK (hC) (qA [0]) ?_
  by_cases hlt : (p.ready.length : Int) < m
  ·have e := tkN_hi hlt
   rw [← hN] at e
   subst e
   try simp (disch := omega) only [go_sem, Nat.reduceEqDiff, Nat.reduceAdd, Nat.reduceSub, Int.reduceAdd, Int.reduceSub, Int.reduceToNat, hlt]
   refine qK (hK) (qA [0]) ?_
   refine qB (fun b1 => ?_) fun b1 => ?_
   ·have F := piecesOk_fine b1 hs
    have f0 := F.r0
    have f1 := F.r1
    have f2 := F.ready
    have hok' := hok b1
    refine qX ?_
    refine qB (fun b3 => ?_) fun b3 => ?_
    ·rw [hf (by rw [hok']; simp; omega)]
     refine qX ?_
     exact qFO (qA [0, 3])
    ·rw [ht (by rw [hok']; simp; omega)]
     refine qX ?_
     refine den_drawX [(2, 5), (4, 5)] [(2, 4)] [[0, 1, 3, 2, 4, 5, 6], [0, 1, 3, 2, 5, 4, 6], [0, 1, 3, 5, 2, 4, 6]] 1 hE (fun s => s.at [42, 43, 44, 45, 46] [(5, .sc (.st (p.ready.take p.ready.length)))] (s.hp.set 2 (some ⟨[[.int .i64 (p.read + (p.ready.length : Int)), .st (p.ready.drop p.ready.length), .sl 3 0 p.list.length]], 3, 35, true, false⟩))) (by kernel_rfl) (qC) (by kernel_rfl) ?_ (run_den 400 ?_)
     rotate_left
     rotate_right
     simp only [allDn]
     refine ⟨runD_den 400 ?_, runD_den 400 ?_, runD_den 400 ?_⟩
     ·simp (disch := omega) only [go_sem]
      refine ⟨qC, (qA [0, 1, 2, 3, 4]), weak_mkO (by rfl) (by rfl) ?_⟩
      try simp (disch := omega) only [go_sem, Nat.reduceEqDiff, Nat.reduceAdd, Nat.reduceSub, Int.reduceAdd, Int.reduceSub, Int.reduceToNat]
     ·simp (disch := omega) only [go_sem]
      refine ⟨qC, (qA [0, 1, 2, 3, 4]), weak_mkO (by rfl) (by rfl) ?_⟩
      try simp (disch := omega) only [go_sem, Nat.reduceEqDiff, Nat.reduceAdd, Nat.reduceSub, Int.reduceAdd, Int.reduceSub, Int.reduceToNat]
     ·simp (disch := omega) only [go_sem]
      refine ⟨qC, (qA [0, 1, 2, 3, 4]), weak_mkO (by rfl) (by rfl) ?_⟩
      try simp (disch := omega) only [go_sem, Nat.reduceEqDiff, Nat.reduceAdd, Nat.reduceSub, Int.reduceAdd, Int.reduceSub, Int.reduceToNat]
     refine qX ?_
     exact qFO (qA [0, 3])
   ·rw [hf (by simp [tkOk, b1])]
    refine qX ?_
    exact qFO (qA [0, 3])
  ·have e := tkN_lo h0 hlt
   rw [← hN] at e
   subst e
   refine qX ?_
   refine qK (hK) (qA [0]) ?_
   refine qB (fun b1 => ?_) fun b1 => ?_
   ·have F := piecesOk_fine b1 hs
    have f0 := F.r0
    have f1 := F.r1
    have f2 := F.ready
    have hok' := hok b1
    refine qX ?_
    refine qB (fun b3 => ?_) fun b3 => ?_
    ·rw [hf (by rw [hok']; simp; omega)]
     refine qX ?_
     exact qFO (qA [0, 3])
    ·rw [ht (by rw [hok']; simp; omega)]
     refine qX ?_
     refine den_drawX [(2, 5), (4, 5)] [(2, 4)] [[0, 1, 3, 2, 4, 5, 6], [0, 1, 3, 2, 5, 4, 6], [0, 1, 3, 5, 2, 4, 6]] 1 hE (fun s => s.at [42, 43, 44, 45, 46] [(5, .sc (.st (p.ready.take N)))] (s.hp.set 2 (some ⟨[[.int .i64 (p.read + (N : Int)), .st (p.ready.drop N), .sl 3 0 p.list.length]], 3, 35, true, false⟩))) (by kernel_rfl) (qC) (by kernel_rfl) ?_ (run_den 400 ?_)
     rotate_left
     rotate_right
     simp only [allDn]
     refine ⟨runD_den 400 ?_, runD_den 400 ?_, runD_den 400 ?_⟩
     ·simp (disch := omega) only [go_sem]
      refine ⟨qC, (qA [0, 1, 2, 3, 4]), weak_mkO (by rfl) (by rfl) ?_⟩
      try simp (disch := omega) only [go_sem, Nat.reduceEqDiff, Nat.reduceAdd, Nat.reduceSub, Int.reduceAdd, Int.reduceSub, Int.reduceToNat]
     ·simp (disch := omega) only [go_sem]
      refine ⟨qC, (qA [0, 1, 2, 3, 4]), weak_mkO (by rfl) (by rfl) ?_⟩
      try simp (disch := omega) only [go_sem, Nat.reduceEqDiff, Nat.reduceAdd, Nat.reduceSub, Int.reduceAdd, Int.reduceSub, Int.reduceToNat]
     ·simp (disch := omega) only [go_sem]
      refine ⟨qC, (qA [0, 1, 2, 3, 4]), weak_mkO (by rfl) (by rfl) ?_⟩
      try simp (disch := omega) only [go_sem, Nat.reduceEqDiff, Nat.reduceAdd, Nat.reduceSub, Int.reduceAdd, Int.reduceSub, Int.reduceToNat]
     refine qX ?_
     exact qFO (qA [0, 3])
   ·rw [hf (by simp [tkOk, b1])]
    refine qX ?_
    exact qFO (qA [0, 3])
 ·rw [hf (by simp [tkOk, h0])]
  refine qEO Tryz.func185 Tryz.ntmps185 Tryz.results185 fun E hE => ?_
  refine qK (hC) (qA [0]) ?_
  refine qK (hK) (qA [0]) ?_
  refine qB (fun b1 => ?_) fun b1 => ?_
  ·refine qX ?_
   exact qFO (qA [0, 3])
  ·refine qX ?_
   exact qFO (qA [0, 3])
theorem spec_Write (e : EndD) (t : List UInt8) (hs : Small e) (ht : t.length ≤ 1048576) : CallA Tryz.prog 174 [.ag (e.cs 0), .sc (.st t)] (e.hp false) (.tu [.ag ((write e t).1.cs 7), .sc (.int .i64 ((write e t).2 : Nat))]) (e.hp false ++ (write e t).1.hp true) := by
 have hC := spec_l17Copy e (by have := hs.own; omega) (by have := hs.far; omega) (by have := hs.subs; omega) (by have := hs.halfs; omega) (by have := hs.list; omega) (by have := hs.done; omega) (by have := hs.over; omega)
 have hK := spec_EndOk e (by have := hs.own; omega) (by have := hs.far; omega) (by have := hs.subs; omega) (by have := hs.halfs; omega) (by have := hs.list; omega) (by have := hs.done; omega) (by have := hs.over; omega)
 have hA := spec_Accept e.out t ht
 have hf := write_f (e := e) (t := t)
 have htt := write_t (e := e) (t := t)
 generalize write e t = R at *
 refine qE Tryz.func174 Tryz.ntmps174 Tryz.results174 fun E hE => ?_
 refine qK (hC) (qA [0, 1, 2, 3, 4, 5, 6]) ?_
 refine qK (hK) (qA [0, 1, 2, 3, 4, 5, 6]) ?_
 refine qB (fun b1 => ?_) fun b1 => ?_
 ·rw [hf b1]
  refine qX ?_
  exact qF (qA [0, 1, 2, 3, 4, 5, 6, 9, 10, 11, 12, 13, 14, 15])
 ·rw [htt b1]
  refine qX ?_
  refine qK (hA) [] ?_
  exact qF (qA [0, 1, 2, 3, 4, 5, 6, 9, 10, 11, 12, 13, 14, 15])
theorem spec_Read (e : EndD) (m : Int) (hs : Small e) (hsp : SmallP e.inp) : CallA Tryz.prog 156 [.ag (e.cs 0), .sc (.int .i64 m)] (e.hp false) (.tu [.ag ((readE e m).1.cs 7), .sc (.st (readE e m).2)]) (e.hp false ++ (readE e m).1.hp true) := by
 have hC := spec_l17Copy e (by have := hs.own; omega) (by have := hs.far; omega) (by have := hs.subs; omega) (by have := hs.halfs; omega) (by have := hs.list; omega) (by have := hs.done; omega) (by have := hs.over; omega)
 have hK := spec_EndOk e (by have := hs.own; omega) (by have := hs.far; omega) (by have := hs.subs; omega) (by have := hs.halfs; omega) (by have := hs.list; omega) (by have := hs.done; omega) (by have := hs.over; omega)
 have hA := spec_TakeReady e.inp m hsp
 have hf := readE_f (e := e) (m := m)
 have htt := readE_t (e := e) (m := m)
 generalize readE e m = R at *
 refine qE Tryz.func156 Tryz.ntmps156 Tryz.results156 fun E hE => ?_
 refine qK (hC) (qA [0, 1, 2, 3, 4, 5, 6]) ?_
 refine qK (hK) (qA [0, 1, 2, 3, 4, 5, 6]) ?_
 refine qB (fun b1 => ?_) fun b1 => ?_
 ·rw [hf b1]
  refine qX ?_
  exact qF (qA [0, 1, 2, 3, 4, 5, 6, 9, 10, 11, 12, 13, 14, 15])
 ·rw [htt b1]
  refine qX ?_
  refine qK (hA) (qA [4]) ?_
  exact qF (qA [0, 1, 2, 3, 4, 5, 6, 9, 10, 11, 12, 17, 14, 15])
end
section
open Go.RowKit

theorem push_small {e : EndD} (hs : Small e) : Small (push e).1 := by
 rw [push]; split
 ·exact ⟨hs.own, hs.far, hs.subs, hs.halfs, hs.list, hs.done, hs.over⟩
 ·exact hs
theorem push_one (e : EndD) : (push e).2.length ≤ 1 := by
 rw [push]; split <;> simp
theorem push_inp (e : EndD) : (push e).1.inp = e.inp := by
 rw [push]; split <;> rfl
theorem push_text (e : EndD) : (push e).1.out.text = e.out.text := by
 rw [push]; split
 ·dsimp only; rw [wasSent]; split <;> rfl
 ·rfl
theorem spec_Push (e : EndD) (hs : Small e) (ht : e.out.text.length ≤ 1048576) : CallA Tryz.prog 175 [.ag (e.cs 0)] (e.hp false) (.tu [.ag ((push e).1.cs 7), .sc (.sl 14 0 (push e).2.length)])
  (e.hp false ++ ((push e).1.hp true ++ [some ⟨(push e).2.map LetterD.cs, 19, 67, true, true⟩])) := by
 have hC := spec_l17Copy e (by have := hs.own; omega) (by have := hs.far; omega) (by have := hs.subs; omega) (by have := hs.halfs; omega) (by have := hs.list; omega) (by have := hs.done; omega) (by have := hs.over; omega)
 have hN := spec_NextPiece e.out ht
 have hX := spec_NextSub e (by have := hs.own; omega) (by have := hs.far; omega) (by have := hs.subs; omega) (by have := hs.halfs; omega) (by have := hs.list; omega) (by have := hs.done; omega) (by have := hs.over; omega)
 have hf := push_f (e := e)
 have hpt := @push_t e
 have hpk : npOk e.out = true → nextPiece e.out = (⟨e.out.sent, npText e.out⟩, true) := np_t
 have hpf : npOk e.out = false → nextPiece e.out = (⟨0, []⟩, false) := np_f
 have hW := fun h => spec_WasSent e.out ht h
 have hcase := nextSub_cases e
 have hpo : pushOk e = (npOk e.out && decide (0 ≤ nextSub e)) := rfl
 have hpick : 0 ≤ nextSub e → 0 ≤ e.pick ∧ e.pick ≤ 1000000000 := fun h => by
  rw [nextSub] at h
  split at h
  ·rename_i hh; exact endOk_pick hh.1
  ·omega
 generalize push e = R at *
 generalize nextPiece e.out = np at *
 obtain ⟨⟨npos, ntext⟩, nok⟩ := np
 refine qEO Tryz.func175 Tryz.ntmps175 Tryz.results175 fun E hE => ?_
 refine qK (hC) (qA [0, 1, 2, 3, 4, 5, 6]) ?_
 refine qK (hX) (qA [0, 1, 2, 3, 4, 5, 6]) ?_
 refine qK (hN) [] ?_
 by_cases h1 : npOk e.out = true ∧ 0 ≤ nextSub e
 ·obtain ⟨h1, h2⟩ := h1
  have hok : nok = true := by have := hpk h1; simp only [Prod.mk.injEq] at this; exact this.2
  have hps : npos = e.out.sent := by have := hpk h1; simp only [Prod.mk.injEq, PieceD.mk.injEq] at this; exact this.1.1
  have htx : ntext = npText e.out := by have := hpk h1; simp only [Prod.mk.injEq, PieceD.mk.injEq] at this; exact this.1.2
  subst hok hps htx
  have hW := hW h1
  have hpick := hpick (by omega)
  obtain ⟨n, hn, hk⟩ : ∃ m : Nat, m < e.subs.length ∧ nextSub e = (m : Int) := by rcases hcase with h | h; omega; exact h
  rw [hpt (by rw [hpo, h1, decide_eq_true (by omega)]; rfl) hk hn]
  have hg := map_get (enc := SubD.cs) hn
  generalize nextSub e = z at *
  subst hk
  have hpk2 : pickOn e.pick = if 1000000000 < e.pick + 1 then 0 else e.pick + 1 := by rw [pickOn]; split <;> split <;> omega
  refine qX ?_
  refine qKS 39 (hW) [] ?_
  refine den_joinO 7 hE (fun s => s.at [8, 10, 11, 12, 13, 14, 15, 16, 17, 18, 19, 20, 21, 22, 23, 24, 25, 26, 27, 28, 29, 30, 31, 32, 33, 34, 35, 36, 37, 38, 39, 40] [] (s.hp.set 16 (some ⟨[[.int .i64 e.side, .int .i64 e.state, .int .i64 e.key, .int .i64 e.peer, .int .i64 e.policy.kind, .int .i64 e.policy.many, .sl 9 0 e.own.length, .sl 10 0 e.far.length, .sl 11 0 e.subs.length, .sl 12 0 e.halfs.length, .int .i64 e.bucket.rate, .int .i64 e.bucket.burst, .int .i64 e.bucket.cur, .st e.out.text, .int .i64 e.out.base, .int .i64 (e.out.sent + ((npText e.out).length : Int)), .int .i64 e.out.room, .int .i64 e.inp.read, .st e.inp.ready, .sl 13 0 e.inp.list.length, .sl 14 0 e.done.length, .sl 15 0 e.over.length, .int .i64 e.draw, .int .i64 e.now, .int .i64 (pickOn e.pick)]], 25, 38, true, false⟩))) (qC) (by rfl) (fun N hN => run_den 401 ?_) (runS_den 39 400 ?_)
  ·refine qX ?_
   refine qB (fun b9 => ?_) fun b9 => ?_
   ·rw [if_pos (by omega)] at hpk2
    refine qX ?_
    refine ⟨qC, hN _ (qA [0, 1, 2, 3, 4, 5, 6, 7, 8, 9, 10, 11, 12, 13, 14, 15, 16, 17, 18]) (weak_mkO (by rfl) (by rfl) ?_)⟩
    simp (disch := omega) only [go_sem, Nat.reduceEqDiff, Nat.reduceAdd, Nat.reduceSub, Int.reduceAdd, Int.reduceSub, Int.reduceToNat, Nat.reduceBEq]
    exact hpk2.symm
   ·rw [if_neg (by omega)] at hpk2
    refine qX ?_
    refine ⟨qC, hN _ (qA [0, 1, 2, 3, 4, 5, 6, 7, 8, 9, 10, 11, 12, 13, 14, 15, 16, 17, 18]) (weak_mkO (by rfl) (by rfl) ?_)⟩
    simp (disch := omega) only [go_sem, Nat.reduceEqDiff, Nat.reduceAdd, Nat.reduceSub, Int.reduceAdd, Int.reduceSub, Int.reduceToNat, Nat.reduceBEq]
    exact hpk2.symm
  try simp (disch := omega) only [go_sem, Nat.reduceEqDiff, Nat.reduceAdd, Nat.reduceSub, Int.reduceAdd, Int.reduceSub, Int.reduceToNat, hg]
  refine den_drawX [(0, 13), (11, 0), (12, 0)] [(11, 12), (11, 13), (12, 13)] [[1, 2, 3, 4, 5, 6, 7, 8, 9, 10, 11, 12, 0, 13, 14, 15], [1, 2, 3, 4, 5, 6, 7, 8, 9, 10, 11, 0, 12, 13, 14, 15], [1, 2, 3, 4, 5, 6, 7, 8, 9, 10, 0, 11, 12, 13, 14, 15], [1, 2, 3, 4, 5, 6, 7, 8, 9, 10, 11, 12, 13, 0, 14, 15]] 7 hE (fun s => s.at [5, 46, 47, 48, 49, 50, 51, 52, 53, 54, 55, 56, 57, 58, 59] [(3, .sc (.sl 20 0 1))] (((s.hp.set 8 (some ⟨[[.int .i64 e.side, .int .i64 e.state, .int .i64 e.key, .int .i64 e.peer, .int .i64 e.policy.kind, .int .i64 e.policy.many, .sl 9 0 e.own.length, .sl 10 0 e.far.length, .sl 11 0 e.subs.length, .sl 12 0 e.halfs.length, .int .i64 e.bucket.rate, .int .i64 e.bucket.burst, .int .i64 e.bucket.cur, .st e.out.text, .int .i64 e.out.base, .int .i64 (e.out.sent + ((npText e.out).length : Int)), .int .i64 e.out.room, .int .i64 e.inp.read, .st e.inp.ready, .sl 13 0 e.inp.list.length, .sl 14 0 e.done.length, .sl 15 0 e.over.length, .int .i64 e.draw, .int .i64 e.now, .int .i64 (pickOn e.pick)]], 25, 38, true, false⟩)).set 17 none) ++ [some ⟨[(dataL e.subs[n] e.out).cs], 19, 67, true, true⟩])) (by kernel_rfl) (qC) (by kernel_rfl) ?_ (run_den 400 ?_)
  rotate_left
  rotate_right
  simp only [allDn]
  refine ⟨runD_den 400 ?_, runD_den 400 ?_, runD_den 400 ?_, runD_den 400 ?_⟩
  ·simp (disch := omega) only [go_sem]
   refine qKD (spec_Between e.subs[n].road { letNone with kind := 11, sgn := e.subs[n].give, pos := e.out.sent, text := npText e.out }) [] ?_
   refine ⟨qC, (qA [0, 1, 2, 3, 4, 5, 6, 7, 8, 9, 10, 11, 12, 13, 14, 15, 16, 17, 18, 19, 21]), weak_mkO (by rfl) (by rfl) ?_⟩
   try simp (disch := omega) only [go_sem, Nat.reduceEqDiff, Nat.reduceAdd, Nat.reduceSub, Int.reduceAdd, Int.reduceSub, Int.reduceToNat]
   try rfl
  ·simp (disch := omega) only [go_sem]
   refine qKD (spec_Between e.subs[n].road { letNone with kind := 11, sgn := e.subs[n].give, pos := e.out.sent, text := npText e.out }) [] ?_
   refine ⟨qC, (qA [0, 1, 2, 3, 4, 5, 6, 7, 8, 9, 10, 11, 12, 13, 14, 15, 16, 17, 18, 19, 21]), weak_mkO (by rfl) (by rfl) ?_⟩
   try simp (disch := omega) only [go_sem, Nat.reduceEqDiff, Nat.reduceAdd, Nat.reduceSub, Int.reduceAdd, Int.reduceSub, Int.reduceToNat]
   try rfl
  ·simp (disch := omega) only [go_sem]
   refine qKD (spec_Between e.subs[n].road { letNone with kind := 11, sgn := e.subs[n].give, pos := e.out.sent, text := npText e.out }) [] ?_
   refine ⟨qC, (qA [0, 1, 2, 3, 4, 5, 6, 7, 8, 9, 10, 11, 12, 13, 14, 15, 16, 17, 18, 19, 21]), weak_mkO (by rfl) (by rfl) ?_⟩
   try simp (disch := omega) only [go_sem, Nat.reduceEqDiff, Nat.reduceAdd, Nat.reduceSub, Int.reduceAdd, Int.reduceSub, Int.reduceToNat]
   try rfl
  ·simp (disch := omega) only [go_sem]
   refine qKD (spec_Between e.subs[n].road { letNone with kind := 11, sgn := e.subs[n].give, pos := e.out.sent, text := npText e.out }) [] ?_
   refine ⟨qC, (qA [0, 1, 2, 3, 4, 5, 6, 7, 8, 9, 10, 11, 12, 13, 14, 15, 16, 17, 18, 19, 21]), weak_mkO (by rfl) (by rfl) ?_⟩
   try simp (disch := omega) only [go_sem, Nat.reduceEqDiff, Nat.reduceAdd, Nat.reduceSub, Int.reduceAdd, Int.reduceSub, Int.reduceToNat]
   try rfl
  refine qX ?_
  exact qFO (qA [0, 1, 2, 3, 4, 5, 6, 9, 10, 11, 12, 13, 14, 15, 20])
 ·have hpn : pushOk e = false := by
   rw [hpo]
   by_cases h3 : npOk e.out = true
   ·rw [h3, decide_eq_false (fun h => h1 ⟨h3, h⟩)]; rfl
   ·rw [Bool.not_eq_true] at h3; rw [h3]; rfl
  rw [hf hpn]
  have hno : nok = false ∨ nextSub e = -1 := by
   by_cases h3 : npOk e.out = true
   ·right; rcases hcase with h | ⟨m, _, h⟩
    ·exact h
    ·exact absurd ⟨h3, by omega⟩ h1
   ·left; have := hpf (by simpa using h3); simp only [Prod.mk.injEq] at this; exact this.2
  rcases hno with hno | hno
  ·subst hno
   refine qX ?_
   rcases hcase with h | ⟨m, _, h⟩
   ·try simp (disch := omega) only [go_sem, Nat.reduceEqDiff, Nat.reduceAdd, Nat.reduceSub, Int.reduceAdd, Int.reduceSub, Int.reduceToNat, h]
    exact qFO (qA [0, 1, 2, 3, 4, 5, 6, 9, 10, 11, 12, 13, 14, 15, 17])
   ·try simp (disch := omega) only [go_sem, Nat.reduceEqDiff, Nat.reduceAdd, Nat.reduceSub, Int.reduceAdd, Int.reduceSub, Int.reduceToNat, h]
    exact qFO (qA [0, 1, 2, 3, 4, 5, 6, 9, 10, 11, 12, 13, 14, 15, 17])
  ·rw [hno] at *
   refine qX ?_
   exact qFO (qA [0, 1, 2, 3, 4, 5, 6, 9, 10, 11, 12, 13, 14, 15, 17])
end
section
open Go.RowKit

theorem pushN_step {n : Nat} {e : EndD} (h : n < 3) : pushN (3 - n) e = ((pushN (3 - (n + 1)) (push e).1).1, (push e).2 ++ (pushN (3 - (n + 1)) (push e).1).2) := by
 rw [show 3 - n = (3 - (n + 1)) + 1 by omega]; rfl
theorem pushN_small : ∀ {k : Nat} {e : EndD}, Small e → Small (pushN k e).1
 | 0, _, h => h
 | k + 1, e, h => pushN_small (k := k) (push_small h)
theorem pushN_inp : ∀ {k : Nat} {e : EndD}, (pushN k e).1.inp = e.inp
 | 0, _ => rfl
 | k + 1, e => by rw [show (pushN (k + 1) e).1 = (pushN k (push e).1).1 from rfl, pushN_inp, push_inp]
theorem pushN_text : ∀ {k : Nat} {e : EndD}, (pushN k e).1.out.text = e.out.text
 | 0, _ => rfl
 | k + 1, e => by rw [show (pushN (k + 1) e).1 = (pushN k (push e).1).1 from rfl, pushN_text, push_text]
theorem pushN_len : ∀ {k : Nat} {e : EndD}, (pushN k e).2.length ≤ k
 | 0, _ => Nat.le_refl _
 | k + 1, e => by
  have h1 := push_one e
  have h2 := pushN_len (k := k) (e := (push e).1)
  rw [show (pushN (k + 1) e).2 = (push e).2 ++ (pushN k (push e).1).2 from rfl, List.length_append]
  omega
theorem spec_WriteAll (e : EndD) (t : List UInt8) (hs : Small e) (ht : t.length ≤ 1048576) (ho : (write e t).1.out.text.length ≤ 1048576) : CallA Tryz.prog 151 [.ag (e.cs 0), .sc (.st t)] (e.hp false) (.tu [.ag ((writeAll e t).1.cs 7), .sc (.sl 14 0 (writeAll e t).2.length)])
  (e.hp false ++ ((writeAll e t).1.hp true ++ [some ⟨(writeAll e t).2.map LetterD.cs, 19, 67, true, true⟩])) := by
 have hW := spec_Write e t hs ht
 have hsw : Small (write e t).1 := by
  rw [write]; split
  ·exact ⟨hs.own, hs.far, hs.subs, hs.halfs, hs.list, hs.done, hs.over⟩
  ·exact hs
 obtain ⟨R, hR⟩ : ∃ R, R = writeAll e t := ⟨_, rfl⟩
 rw [← hR]
 rw [writeAll] at hR
 generalize write e t = w1 at *
 obtain ⟨e0, n1⟩ := w1
 dsimp only at hsw ho hW hR
 refine qEO Tryz.func151 Tryz.ntmps151 Tryz.results151 fun E hE => ?_
 refine qK (hW) (qA [0, 1, 2, 3, 4, 5, 6]) ?_
 refine den_lpO 7 hE (fun s (y : Nat × EndD × List LetterD) => s.at [0, 1, 2, 7, 10, 11, 12, 13, 14, 15, 16, 17, 18, 19, 20, 21, 22, 23, 24, 25, 26, 27, 28, 29, 30] [(9, .sc (.int .i64 (y.1 : Nat))), (8, .sc (.sl 17 0 y.2.2.length))] ((s.hp.take 9) ++ (y.2.1.hp true ++ [some ⟨[y.2.1.cs 9], 25, 38, true, false⟩, some ⟨y.2.2.map LetterD.cs, 19, 67, true, true⟩]))) (fun (y : Nat × EndD × List LetterD) => y.1 ≤ 3 ∧ Small y.2.1 ∧ y.2.1.out.text.length ≤ 1048576 ∧ y.2.2.length ≤ y.1 ∧ R = ((pushN (3 - y.1) y.2.1).1, y.2.2 ++ (pushN (3 - y.1) y.2.1).2)) (fun (y : Nat × EndD × List LetterD) => 3 - y.1) (0, e0, []) (qA [0, 1, 2, 3, 4, 5, 6, 7, 8, 9, 10, 11, 12, 13, 14, 15, 16, 17]) (qC) (⟨by omega, hsw, ho, Nat.le_refl _, hR⟩) (weak_mkO (by rfl) (by rfl) ?_) fun y hy N hN => ?_
 ·exact qY
 ·obtain ⟨n, e1, l⟩ := y
  obtain ⟨h1, h2, h3, h4, h5⟩ := hy
  dsimp only at h1 h2 h3 h4 h5
  have hP := spec_Push e1 h2 h3
  have hp1 := push_one e1
  have hps := push_small h2
  have hpt : (push e1).1.out.text.length ≤ 1048576 := by rw [push_text]; exact h3
  refine qR ?_
  refine qB (fun b => ?_) fun b => ?_
  ·rw [pushN_step (by omega)] at h5
   obtain ⟨pr, hpr⟩ : ∃ p, p = push e1 := ⟨_, rfl⟩
   rw [← hpr] at hP hp1 hps hpt h5
   obtain ⟨e2, l2⟩ := pr
   dsimp only at hP hp1 hps hpt h5
   rw [← List.append_assoc] at h5
   refine qX ?_
   refine qK (hP) (qA [9, 10, 11, 12, 13, 14, 15]) ?_
   refine ⟨qC, hN _ (n + 1, e2, l ++ l2) (qA [0, 1, 2, 3, 4, 5, 6, 7, 8, 19, 20, 21, 22, 23, 24, 25, 16, 27]) (by (try dsimp only); exact ⟨by omega, hps, hpt, by simp only [List.length_append]; omega, h5⟩) (by (try dsimp only); omega) (weak_mkO (by rfl) (by rfl) ?_)⟩
   try simp (disch := omega) only [go_sem, Nat.reduceEqDiff, Nat.reduceAdd, Nat.reduceSub, Int.reduceAdd, Int.reduceSub, Int.reduceToNat]
   try simp
  ·have e3 : n = 3 := by omega
   subst e3
   simp only [Nat.sub_self, pushN, List.append_nil] at h5
   subst h5
   refine qX ?_
   exact qFO (qA [0, 1, 2, 3, 4, 5, 6, 9, 10, 11, 12, 13, 14, 15, 17])
end
section
open Go.RowKit

theorem filt_step {α : Type} {l : List α} {p : α → Bool} {k : Nat} (h : k < l.length) : (l.drop k).filter p = if p l[k] then l[k] :: (l.drop (k + 1)).filter p else (l.drop (k + 1)).filter p := by
 rw [List.drop_eq_getElem_cons h, List.filter_cons]
theorem filt_end {α : Type} {l : List α} {p : α → Bool} {k : Nat} (h : l.length ≤ k) : (l.drop k).filter p = [] := by
 rw [List.drop_eq_nil_of_le h]; rfl
theorem bucketOk_fine {b : BucketD} (h : bucketOk b = true) : 0 ≤ b.rate ∧ b.rate ≤ 100 ∧ 1 ≤ b.burst ∧ b.burst ≤ 100 ∧ 0 ≤ b.cur ∧ b.cur ≤ b.burst := by
 simp only [bucketOk, inR, Bool.and_eq_true, decide_eq_true_eq] at h
 omega
theorem filled_t {b : BucketD} (h : bucketOk b = true) : filled b = { b with cur := min b.burst (b.cur + b.rate) } := if_pos h
theorem filled_f {b : BucketD} (h : bucketOk b = false) : filled b = b := if_neg (by simp [h])
theorem spec_Filled (b : BucketD) : CallA Tryz.prog 176 [.ag b.cs, .sc (.int .i64 1)] [] (.ag (filled b).cs) [] := by
 have hK := spec_BucketOk b
 have hN := spec_l01In 1 0 1000000000
 have hf := filled_f (b := b)
 have ht := filled_t (b := b)
 generalize filled b = R at *
 refine qE Tryz.func176 Tryz.ntmps176 Tryz.results176 fun E hE => ?_
 refine qK (hK) [] ?_
 refine qB (fun b1 => ?_) fun b1 => ?_
 ·have F := bucketOk_fine b1
  rw [show inR 1 0 1000000000 = true from rfl] at hN
  refine qK (hN) [] ?_
  rw [ht b1]
  have hB : CallA Tryz.prog 203 [.sc (.int .i64 (b.cur + b.rate)), .sc (.int .i64 0), .sc (.int .i64 b.burst)] [] (.sc (.int .i64 (min b.burst (b.cur + b.rate)))) [] := by
   refine qE Tryz.func203 Tryz.ntmps203 Tryz.results203 fun E hE => ?_
   refine qB (fun c1 => ?_) fun c1 => ?_
   ·rw [show min b.burst (b.cur + b.rate) = b.burst by omega]
    refine qX ?_
    exact qF []
   ·rw [show min b.burst (b.cur + b.rate) = b.cur + b.rate by omega]
    refine qX ?_
    exact qF []
  try simp (disch := omega) only [go_sem, Nat.reduceEqDiff, Nat.reduceAdd, Nat.reduceSub, Int.reduceAdd, Int.reduceSub, Int.reduceToNat, Int.mul_one]
  refine qK (hB) [] ?_
  exact qF []
 ·rw [hf b1]
  refine qX ?_
  exact qF []
theorem spec_Younger (l : List HalfD) (now : Int) (hl : l.length ≤ 1048576) : CallA Tryz.prog 177 [.sc (.sl 0 0 l.length), .sc (.int .i64 now)] [some ⟨l.map HalfD.cs, 8, 118, false, true⟩] (.sc (.sl 1 0 (younger l now).length)) [some ⟨l.map HalfD.cs, 8, 118, false, true⟩, some ⟨(younger l now).map HalfD.cs, 8, 118, true, true⟩] := by
 obtain ⟨R, hR⟩ : ∃ R, R = younger l now := ⟨_, rfl⟩
 rw [← hR]
 rw [younger] at hR
 refine qE Tryz.func177 Tryz.ntmps177 Tryz.results177 fun E hE => ?_
 refine den_lp 1 hE (fun s (x : Nat × List HalfD) => s.at [7, 8, 9, 10, 11, 12, 13, 14, 15, 16, 17, 18, 19, 20, 21, 22, 23, 24, 25, 26, 27] [(6, .sc (.int .i64 (x.1 : Nat))), (5, .sc (.sl 1 0 x.2.length))] ((s.hp.take 1) ++ [some ⟨x.2.map HalfD.cs, 8, 118, true, true⟩])) (fun (x : Nat × List HalfD) => x.1 ≤ l.length ∧ x.2.length ≤ x.1 ∧ R = x.2 ++ (l.drop x.1).filter (fun h => decide (now < h.till))) (fun (x : Nat × List HalfD) => l.length - x.1) (0, []) (qA [0, 1]) (qC) (⟨Nat.zero_le _, Nat.zero_le _, hR⟩) (weak_mk (by rfl) (by rfl) ?_) fun x hx N hN => ?_
 ·exact qY
 ·obtain ⟨k, acc⟩ := x
  obtain ⟨h1, h2, h3⟩ := hx
  dsimp only at h1 h2 h3
  refine qR ?_
  refine qB (fun h => ?_) fun h => ?_
  ·rw [filt_step h] at h3
   have hg := map_get (enc := HalfD.cs) h
   try simp (disch := omega) only [go_sem, Nat.reduceEqDiff, Nat.reduceAdd, Nat.reduceSub, Int.reduceAdd, Int.reduceSub, Int.reduceToNat, hg]
   refine qB (fun b2 => ?_) fun b2 => ?_
   ·rw [if_pos (by simpa using b2)] at h3
    try simp (disch := omega) only [go_sem, Nat.reduceEqDiff, Nat.reduceAdd, Nat.reduceSub, Int.reduceAdd, Int.reduceSub, Int.reduceToNat, hg]
    refine ⟨qC, hN _ (k + 1, acc ++ [l[k]]) (qA [0, 3]) (by (try dsimp only); exact ⟨by omega, by simp; omega, by simpa using h3⟩) (by (try dsimp only); omega) (weak_mk (by rfl) (by rfl) ?_)⟩
    refine qX ?_
    simp [HalfD.cs]
   ·rw [if_neg (by simpa using b2)] at h3
    exact qN hN (k + 1, acc) (qA [0, 1]) (by (try dsimp only); exact ⟨by omega, by omega, h3⟩)
  ·rw [filt_end (by omega), List.append_nil] at h3
   subst h3
   exact qF (qA [0, 1])
theorem spec_l19Asks (e : EndD) (s : SubD) (h : inR e.side 1 2 = true) : CallA Tryz.prog 178 [.ag (e.cs 0), .ag s.cs] (e.hp false) (.ag (joinL' e s).cs) (e.hp false) := by
 have hT := spec_TokenFor (3 - e.side)
 have hB : CallA Tryz.prog 200 [.ag s.road.cs, .ag (LetterD.cs { letNone with kind := 4, token := tokenFor (3 - e.side), nonce := s.mine, give := s.take, spare := s.spare })] [] (.ag (joinL' e s).cs) [] := spec_Between s.road { letNone with kind := 4, token := tokenFor (3 - e.side), nonce := s.mine, give := s.take, spare := s.spare }
 simp only [inR, Bool.and_eq_true, decide_eq_true_eq] at h
 refine qE Tryz.func178 Tryz.ntmps178 Tryz.results178 fun E hE => ?_
 refine qD [0, 1, 2, 3, 4, 6, 7, 8, 9, 10, 11, 5, 12, 13, 14] ?_
 refine qKD (hT) [] ?_
 refine qKD (hB) [] ?_
 refine qG ?_
 refine den_fin (qA [0, 1, 2, 3, 4, 5, 6]) (qC) _ (by simp only [go_sem]; rfl) (by rfl) (by rfl) ?_
 simp (disch := omega) only [go_sem, Nat.reduceEqDiff, Nat.reduceAdd, Nat.reduceSub, Int.reduceAdd, Int.reduceSub, Int.reduceToNat]
 try rfl
theorem spec_HaveOf (e : EndD) (hl : e.subs.length ≤ 1048576) : CallA Tryz.prog 183 [.ag (e.cs 0)] (e.hp false) (.sc (.sl 7 0 (haveOf e.subs).length)) (e.hp false ++ [some ⟨(haveOf e.subs).map RoadD.cs, 3, 45, true, true⟩]) := by
 obtain ⟨R, hR⟩ : ∃ R, R = haveOf e.subs := ⟨_, rfl⟩
 rw [← hR]
 rw [haveOf] at hR
 refine qE Tryz.func183 Tryz.ntmps183 Tryz.results183 fun E hE => ?_
 refine den_lp 7 hE (fun s (x : Nat × List RoadD) => s.at [0, 5, 6, 7, 8, 9, 10, 11, 12, 13, 14, 15, 16, 17, 18, 19, 20, 21, 22, 23, 24, 25, 26, 27, 28] [(4, .sc (.int .i64 (x.1 : Nat))), (3, .sc (.sl 8 0 x.2.length))] ((s.hp.take 8) ++ [some ⟨x.2.map RoadD.cs, 3, 45, true, true⟩])) (fun (x : Nat × List RoadD) => x.1 ≤ e.subs.length ∧ x.2.length ≤ x.1 ∧ R = x.2 ++ ((e.subs.drop x.1).filter (fun s => s.state != 4)).map SubD.road) (fun (x : Nat × List RoadD) => e.subs.length - x.1) (0, []) (qA [0, 1, 2, 3, 4, 5, 6, 7, 8]) (qC) (⟨Nat.zero_le _, Nat.zero_le _, hR⟩) (weak_mk (by rfl) (by rfl) ?_) fun x hx N hN => ?_
 ·exact qY
 ·obtain ⟨k, acc⟩ := x
  obtain ⟨h1, h2, h3⟩ := hx
  dsimp only at h1 h2 h3
  refine qR ?_
  refine qB (fun h => ?_) fun h => ?_
  ·rw [filt_step h] at h3
   have hg := map_get (enc := SubD.cs) h
   try simp (disch := omega) only [go_sem, Nat.reduceEqDiff, Nat.reduceAdd, Nat.reduceSub, Int.reduceAdd, Int.reduceSub, Int.reduceToNat, hg]
   refine qB (fun b2 => ?_) fun b2 => ?_
   ·rw [if_pos (by simpa using b2), List.map_cons] at h3
    try simp (disch := omega) only [go_sem, Nat.reduceEqDiff, Nat.reduceAdd, Nat.reduceSub, Int.reduceAdd, Int.reduceSub, Int.reduceToNat, hg]
    refine ⟨qC, hN _ (k + 1, acc ++ [e.subs[k].road]) (qA [0, 1, 2, 3, 4, 5, 6, 7, 10]) (by (try dsimp only); exact ⟨by omega, by simp; omega, by simpa using h3⟩) (by (try dsimp only); omega) (weak_mk (by rfl) (by rfl) ?_)⟩
    refine qX ?_
    simp [RoadD.cs]
   ·rw [if_neg (by simpa using b2)] at h3
    exact qN hN (k + 1, acc) (qA [0, 1, 2, 3, 4, 5, 6, 7, 8]) (by (try dsimp only); exact ⟨by omega, by omega, h3⟩)
  ·rw [filt_end (by omega), List.map_nil, List.append_nil] at h3
   subst h3
   exact qF (qA [0, 1, 2, 3, 4, 5, 6, 8])
end
section
open Go.RowKit

def lastAt (l : List AddrD) (n : Int) : Nat → Int
 | 0 => -1
 | k + 1 => if (adAtN l k).addr = n then (k : Int) else lastAt l n k
theorem hasFar_snoc {l : List AddrD} {n : Int} {k : Nat} (h : k < l.length) : hasFar (l.take (k + 1)) n = (hasFar (l.take k) n || l[k].addr == n) := by
 rw [hasFar, List.take_succ_eq_append_getElem h, List.any_append]; simp [hasFar]
theorem spareOf_snoc {l : List AddrD} {n : Int} {k : Nat} (h : k < l.length) : spareOf (l.take (k + 1)) n = if l[k].addr = n then l[k].spare else spareOf (l.take k) n := by
 rw [spareOf, List.take_succ_eq_append_getElem h, List.foldl_append]; rfl
theorem lastAt_cases {l : List AddrD} {n : Int} : ∀ (k : Nat), k ≤ l.length → (lastAt l n k = -1 ∧ hasFar (l.take k) n = false ∧ spareOf (l.take k) n = false) ∨ ∃ j : Nat, ∃ hj : j < l.length, j < k ∧ lastAt l n k = (j : Int) ∧ hasFar (l.take k) n = true ∧ spareOf (l.take k) n = l[j].spare
 | 0, _ => .inl ⟨rfl, by simp [hasFar], by simp [spareOf]⟩
 | k + 1, h => by
  have hk : k < l.length := by omega
  rw [hasFar_snoc hk, spareOf_snoc hk, lastAt, adAtN_at hk]
  by_cases he : l[k].addr = n
  ·right
   exact ⟨k, hk, Nat.lt_succ_self k, by rw [if_pos he], by rw [Bool.or_eq_true]; exact .inr (by simpa using he), by rw [if_pos he]⟩
  ·rw [if_neg he, if_neg he]
   have hb : (l[k].addr == n) = false := by simpa using he
   rw [hb, Bool.or_false]
   rcases lastAt_cases (l := l) (n := n) k (by omega) with h1 | ⟨j, hj, h2, h3⟩
   ·exact .inl h1
   ·exact .inr ⟨j, hj, Nat.lt_succ_of_lt h2, h3⟩
def farAt (l : List AddrD) (n : Int) : Int := lastAt l n l.length
theorem farAt_cases (l : List AddrD) (n : Int) : (farAt l n = -1 ∧ hasFar l n = false ∧ spareOf l n = false) ∨ ∃ j : Nat, ∃ hj : j < l.length, farAt l n = (j : Int) ∧ hasFar l n = true ∧ spareOf l n = l[j].spare := by
 have := lastAt_cases (l := l) (n := n) l.length (Nat.le_refl _)
 rw [List.take_length] at this
 rcases this with h | ⟨j, hj, _, h⟩
 ·exact .inl h
 ·exact .inr ⟨j, hj, h⟩
theorem spec_l19Far (e : EndD) (n : Int) (hl : e.far.length ≤ 1048576) : CallA Tryz.prog 209 [.ag (e.cs 0), .sc (.int .i64 n)] (e.hp false) (.sc (.bo (hasFar e.far n))) (e.hp false) := by
 obtain ⟨R, hR⟩ : ∃ R, R = hasFar e.far n := ⟨_, rfl⟩
 rw [← hR]
 rw [hasFar] at hR
 refine qE Tryz.func209 Tryz.ntmps209 Tryz.results209 fun E hE => ?_
 refine den_lp 7 hE (fun s (k : Nat) => s.at [0, 4, 6, 7, 8, 9, 10, 11, 12, 13, 14, 15, 16, 17, 18, 19, 20] [(5, .sc (.int .i64 (k : Nat)))] (s.hp)) (fun (k : Nat) => k ≤ e.far.length ∧ R = (e.far.drop k).any (fun a => a.addr == n)) (fun (k : Nat) => e.far.length - k) 0 (qA [0, 1, 2, 3, 4, 5, 6, 7]) (qC) (⟨Nat.zero_le _, hR⟩) (weak_mk (by rfl) (by rfl) ?_) fun k hk N hN => ?_
 ·exact qY
 ·obtain ⟨h1, h2⟩ := hk
  refine qR ?_
  refine qB (fun h => ?_) fun h => ?_
  ·rw [any_step h] at h2
   have hg := map_get (enc := AddrD.cs) h
   try simp (disch := omega) only [go_sem, Nat.reduceEqDiff, Nat.reduceAdd, Nat.reduceSub, Int.reduceAdd, Int.reduceSub, Int.reduceToNat, hg]
   refine qB (fun b => ?_) fun b => ?_
   ·rw [show (e.far[k].addr == n) = true by simpa using b, Bool.true_or] at h2
    subst h2
    refine qX ?_
    exact qF (qA [0, 1, 2, 3, 4, 5, 6])
   ·rw [show (e.far[k].addr == n) = false by simpa using b, Bool.false_or] at h2
    exact qN hN (k + 1) (qA [0, 1, 2, 3, 4, 5, 6, 7]) (by (try dsimp only); exact ⟨by omega, h2⟩)
  ·rw [any_end (by omega)] at h2
   subst h2
   refine qX ?_
   exact qF (qA [0, 1, 2, 3, 4, 5, 6])
theorem jn_f {e : EndD} {r : RoadD} {b : Bool} (h : jnOk e r = false) : join e r b = (e, []) := if_neg (by simp [h])
theorem jn_t {e : EndD} {r : RoadD} {b : Bool} (h : jnOk e r = true) : join e r b = ({ e with subs := e.subs ++ [askSub e r b], draw := e.draw + 4 }, [joinL' e (askSub e r b)]) := if_pos h
theorem endOk_side {e : EndD} (h : endOk e = true) : inR e.side 1 2 = true := by
 simp only [endOk, Bool.and_eq_true] at h
 simp_all
theorem spec_Join (e : EndD) (r : RoadD) (sp : Bool) (hs : Small e) : CallA Tryz.prog 184 [.ag (e.cs 0), .ag r.cs, .sc (.bo sp)] (e.hp false) (.tu [.ag ((join e r sp).1.cs 7), .sc (.sl 14 0 (join e r sp).2.length)])
  (e.hp false ++ ((join e r sp).1.hp true ++ [some ⟨(join e r sp).2.map LetterD.cs, 19, 67, true, true⟩])) := by
 have hC := spec_l17Copy e (by have := hs.own; omega) (by have := hs.far; omega) (by have := hs.subs; omega) (by have := hs.halfs; omega) (by have := hs.list; omega) (by have := hs.done; omega) (by have := hs.over; omega)
 have hK := spec_EndOk e (by have := hs.own; omega) (by have := hs.far; omega) (by have := hs.subs; omega) (by have := hs.halfs; omega) (by have := hs.list; omega) (by have := hs.done; omega) (by have := hs.over; omega)
 have hO := spec_OwnsAddr e r.own (by have := hs.own; omega)
 have hS := spec_SubAt e r (by have := hs.subs; omega)
 have hsub := hs.subs
 have hF := spec_l19Far e r.far (by have := hs.far; omega)
 have hcase := farAt_cases e.far r.far
 have hf := jn_f (e := e) (r := r) (b := sp)
 have ht := jn_t (e := e) (r := r) (b := sp)
 have hk := jnOk.eq_1 e r
 generalize join e r sp = R at *
 refine qEO Tryz.func184 Tryz.ntmps184 Tryz.results184 fun E hE => ?_
 refine qK (hC) (qA [0, 1, 2, 3, 4, 5, 6]) ?_
 refine qK (hK) (qA [0, 1, 2, 3, 4, 5, 6]) ?_
 refine qB (fun h1 => ?_) fun h1 => ?_
 ·refine qB (fun h2 => ?_) fun h2 => ?_
  ·refine qK (spec_l14Road r) [] ?_
   refine qB (fun h3 => ?_) fun h3 => ?_
   ·refine qK (hS) (qA [0, 1, 2, 3, 4, 5, 6]) ?_
    refine qB (fun h4 => ?_) fun h4 => ?_
    ·refine qK (hO) (qA [0, 1, 2, 3, 4, 5, 6]) ?_
     refine qB (fun h5 => ?_) fun h5 => ?_
     ·refine qK (hF) (qA [0, 1, 2, 3, 4, 5, 6]) ?_
      refine qB (fun h6 => ?_) fun h6 => ?_
      ·refine qB (fun h7 => ?_) fun h7 => ?_
       ·refine qK (spec_l18Room2 e) (qA [0, 1, 2, 3, 4, 5, 6]) ?_
        refine qB (fun h8 => ?_) fun h8 => ?_
        ·rw [hf (by rw [hk]; simp [h8])]
         refine qX ?_
         exact qFO (qA [0, 1, 2, 3, 4, 5, 6, 10, 11, 12, 13, 14, 15, 16, 18])
        ·rw [ht (by rw [hk]; have := endOk_subs h1; simp [h1, h2, h3, h5, h6, h8]; omega)]
         have h8' := h8
         simp only [inR, Bool.and_eq_true, decide_eq_true_eq] at h8'
         have hd1 : inR e.draw 1 999999998 = true := by simp only [inR, Bool.and_eq_true, decide_eq_true_eq]; omega
         have hd2 : inR (e.draw + 2) 1 999999998 = true := by simp only [inR, Bool.and_eq_true, decide_eq_true_eq]; omega
         have hJ : CallA Tryz.prog 178 [.ag (EndD.cs { e with draw := e.draw + 2 + 2, subs := e.subs ++ [askSub e r sp] } 0), .ag (askSub e r sp).cs] (EndD.hp { e with draw := e.draw + 2 + 2, subs := e.subs ++ [askSub e r sp] } false) (.ag (joinL' e (askSub e r sp)).cs) (EndD.hp { e with draw := e.draw + 2 + 2, subs := e.subs ++ [askSub e r sp] } false) := spec_l19Asks _ _ (show inR e.side 1 2 = true from endOk_side h1)
         refine qX ?_
         refine qK (spec_l18Draw e hs hd1) (qA [10, 11, 12, 13, 14, 15, 16]) ?_
         refine qK (spec_l18Draw { e with draw := e.draw + 2 } ⟨hs.own, hs.far, hs.subs, hs.halfs, hs.list, hs.done, hs.over⟩ hd2) (qA [19, 20, 21, 22, 23, 24, 25]) ?_
         refine qK (spec_l18Sub { e with draw := e.draw + 2 + 2 } (askSub e r sp) (by have := endOk_subs h1; dsimp only; omega)) (qA [26, 27, 28, 29, 30, 31, 32]) ?_
         refine den_drawX [(0, 6), (4, 0), (5, 0)] [(4, 5), (4, 6), (5, 6)] [[1, 2, 3, 4, 5, 0, 6, 7, 8], [1, 2, 3, 4, 0, 5, 6, 7, 8], [1, 2, 3, 0, 4, 5, 6, 7, 8], [1, 2, 3, 4, 5, 6, 0, 7, 8]] 7 hE (fun s => s.at [9, 62, 63, 64, 65, 66, 67, 68, 69, 70, 71, 72, 73, 74, 75, 76, 77, 78, 79, 80, 81, 82, 83, 84, 85, 86] [(7, .sc (.sl 35 0 1))] (((s.hp.set 9 (some ⟨[[.int .i64 e.side, .int .i64 e.state, .int .i64 e.key, .int .i64 e.peer, .int .i64 e.policy.kind, .int .i64 e.policy.many, .sl 26 0 e.own.length, .sl 27 0 e.far.length, .sl 34 0 (e.subs.length + 1), .sl 29 0 e.halfs.length, .int .i64 e.bucket.rate, .int .i64 e.bucket.burst, .int .i64 e.bucket.cur, .st e.out.text, .int .i64 e.out.base, .int .i64 e.out.sent, .int .i64 e.out.room, .int .i64 e.inp.read, .st e.inp.ready, .sl 30 0 e.inp.list.length, .sl 31 0 e.done.length, .sl 32 0 e.over.length, .int .i64 (e.draw + 2 + 2), .int .i64 e.now, .int .i64 e.pick]], 25, 38, true, false⟩)).set 18 none) ++ [some ⟨[(joinL' e (askSub e r sp)).cs], 19, 67, true, true⟩])) (by kernel_rfl) (qC) (by kernel_rfl) ?_ (run_den 400 ?_)
         rotate_left
         rotate_right
         simp only [allDn]
         refine ⟨runD_den 400 ?_, runD_den 400 ?_, runD_den 400 ?_, runD_den 400 ?_⟩
         ·simp (disch := omega) only [go_sem]
          refine qKD (hJ) (qA [26, 27, 34, 29, 30, 31, 32]) ?_
          refine ⟨qC, (qA [0, 1, 2, 3, 4, 5, 6, 7, 8, 9, 10, 11, 12, 13, 14, 15, 16, 17, 18, 19, 20, 21, 22, 23, 24, 25, 26, 27, 28, 29, 30, 31, 32, 33, 34, 36]), weak_mkO (by rfl) (by rfl) ?_⟩
          try simp (disch := omega) only [go_sem, Nat.reduceEqDiff, Nat.reduceAdd, Nat.reduceSub, Int.reduceAdd, Int.reduceSub, Int.reduceToNat]
          try rfl
         ·simp (disch := omega) only [go_sem]
          refine qKD (hJ) (qA [26, 27, 34, 29, 30, 31, 32]) ?_
          refine ⟨qC, (qA [0, 1, 2, 3, 4, 5, 6, 7, 8, 9, 10, 11, 12, 13, 14, 15, 16, 17, 18, 19, 20, 21, 22, 23, 24, 25, 26, 27, 28, 29, 30, 31, 32, 33, 34, 36]), weak_mkO (by rfl) (by rfl) ?_⟩
          try simp (disch := omega) only [go_sem, Nat.reduceEqDiff, Nat.reduceAdd, Nat.reduceSub, Int.reduceAdd, Int.reduceSub, Int.reduceToNat]
          try rfl
         ·simp (disch := omega) only [go_sem]
          refine qKD (hJ) (qA [26, 27, 34, 29, 30, 31, 32]) ?_
          refine ⟨qC, (qA [0, 1, 2, 3, 4, 5, 6, 7, 8, 9, 10, 11, 12, 13, 14, 15, 16, 17, 18, 19, 20, 21, 22, 23, 24, 25, 26, 27, 28, 29, 30, 31, 32, 33, 34, 36]), weak_mkO (by rfl) (by rfl) ?_⟩
          try simp (disch := omega) only [go_sem, Nat.reduceEqDiff, Nat.reduceAdd, Nat.reduceSub, Int.reduceAdd, Int.reduceSub, Int.reduceToNat]
          try rfl
         ·simp (disch := omega) only [go_sem]
          refine qKD (hJ) (qA [26, 27, 34, 29, 30, 31, 32]) ?_
          refine ⟨qC, (qA [0, 1, 2, 3, 4, 5, 6, 7, 8, 9, 10, 11, 12, 13, 14, 15, 16, 17, 18, 19, 20, 21, 22, 23, 24, 25, 26, 27, 28, 29, 30, 31, 32, 33, 34, 36]), weak_mkO (by rfl) (by rfl) ?_⟩
          try simp (disch := omega) only [go_sem, Nat.reduceEqDiff, Nat.reduceAdd, Nat.reduceSub, Int.reduceAdd, Int.reduceSub, Int.reduceToNat]
          try rfl
         refine qX ?_
         refine den_finO (qA [0, 1, 2, 3, 4, 5, 6, 26, 27, 34, 29, 30, 31, 32, 35]) (qC) _ (by simp only [go_sem]; rfl) (by rfl) (by rfl) ?_
         simp (disch := omega) only [go_sem, Nat.reduceEqDiff, Nat.reduceAdd, Nat.reduceSub, Int.reduceAdd, Int.reduceSub, Int.reduceToNat]
         try simp [SubD.cs, askSub]
         try omega
       ·rw [hf (by rw [hk]; first | (simp [h7]; done) | (simp [h7]; intros; omega))]
        refine qX ?_
        exact qFO (qA [0, 1, 2, 3, 4, 5, 6, 10, 11, 12, 13, 14, 15, 16, 18])
      ·rw [hf (by rw [hk]; simp [h6])]
       refine qX ?_
       exact qFO (qA [0, 1, 2, 3, 4, 5, 6, 10, 11, 12, 13, 14, 15, 16, 18])
     ·rw [hf (by rw [hk]; first | (simp [h5]; done) | (simp [h5]; intros; omega))]
      refine qX ?_
      exact qFO (qA [0, 1, 2, 3, 4, 5, 6, 10, 11, 12, 13, 14, 15, 16, 18])
    ·rw [hf (by rw [hk]; first | (simp [h4]; done) | (simp [h4]; intros; omega))]
     refine qX ?_
     exact qFO (qA [0, 1, 2, 3, 4, 5, 6, 10, 11, 12, 13, 14, 15, 16, 18])
   ·rw [hf (by rw [hk]; first | (simp [h3]; done) | (simp [h3]; intros; omega))]
    refine qX ?_
    exact qFO (qA [0, 1, 2, 3, 4, 5, 6, 10, 11, 12, 13, 14, 15, 16, 18])
  ·rw [hf (by rw [hk]; first | (simp [h2]; done) | (simp [h2]; intros; omega))]
   refine qX ?_
   exact qFO (qA [0, 1, 2, 3, 4, 5, 6, 10, 11, 12, 13, 14, 15, 16, 18])
 ·rw [hf (by rw [hk]; first | (simp [h1]; done) | (simp [h1]; intros; omega))]
  refine qX ?_
  exact qFO (qA [0, 1, 2, 3, 4, 5, 6, 10, 11, 12, 13, 14, 15, 16, 18])
end
section
open Go.RowKit

def mkR (a b : AddrD) : RoadD := ⟨a.addr, b.addr, 0⟩
theorem wantGo_step {far l : List AddrD} {acc : List RoadD} {k : Nat} (h : k < l.length) : wantGo far acc (l.drop k) = wantGo far ((acc ++ far.map (mkR l[k])).take 8) (l.drop (k + 1)) := by
 rw [List.drop_eq_getElem_cons h, wantGo]
 rfl
theorem take8_lt {acc : List RoadD} {far : List AddrD} {f : AddrD → RoadD} {j : Nat} {r : List RoadD} (h : j < far.length) (hr : r = (acc ++ (far.take j).map f).take 8) (hl : r.length < 8) : r ++ [f far[j]] = (acc ++ (far.take (j + 1)).map f).take 8 := by
 have h1 : (acc ++ (far.take j).map f).length < 8 := by
  rw [hr, List.length_take] at hl
  omega
 rw [List.take_of_length_le (by omega)] at hr
 rw [List.take_succ_eq_append_getElem h, List.map_append, ← List.append_assoc, ← hr, List.map_singleton, List.take_of_length_le]
 rw [← hr] at h1
 simp
 omega
theorem take8_ge {acc : List RoadD} {far : List AddrD} {f : AddrD → RoadD} {j i : Nat} {r : List RoadD} (hji : j ≤ i) (hi : i ≤ far.length) (hr : r = (acc ++ (far.take j).map f).take 8) (hl : ¬ r.length < 8) : r = (acc ++ (far.take i).map f).take 8 := by
 have h1 : 8 ≤ (acc ++ (far.take j).map f).length := by
  rw [hr, List.length_take] at hl
  omega
 have e : far.take i = far.take j ++ (far.take i).drop j := by
  conv => lhs; rw [← List.take_append_drop j (far.take i)]
  rw [List.take_take, Nat.min_eq_left hji]
 rw [e, List.map_append, ← List.append_assoc, List.take_append_of_le_length h1, hr]
theorem manyL_succ (o f : Int) (n : Nat) : manyL o f (n + 1) = manyL o f n ++ [⟨o, f, (n : Int)⟩] := by
 simp [manyL, List.range_succ]
theorem manyL_len (o f : Int) (n : Nat) : (manyL o f n).length = n := by simp [manyL]
theorem wantGo_len {far : List AddrD} : ∀ {l : List AddrD} {acc : List RoadD}, acc.length ≤ 8 → (wantGo far acc l).length ≤ 8
 | [], acc, h => h
 | a :: r, acc, h => by
  rw [wantGo]
  exact wantGo_len (by rw [List.length_take]; omega)
theorem addr0_eq {l : List AddrD} (h : 0 < l.length) : addr0 l = l[0].addr := by
 cases l with
 | nil => simp at h
 | cons a r => rfl
theorem wanted_len (p : PolicyD) (own far : List AddrD) : (wanted p own far).length ≤ 8 := by
 rw [wanted]
 split
 ·rename_i h
  split
  ·exact wantGo_len (Nat.zero_le _)
  ·rw [manyL_len]
   split
   ·rename_i h2
    have h1 := h.1
    rw [polOk, if_pos h2] at h1
    simp only [inR, Bool.and_eq_true, decide_eq_true_eq] at h1
    omega
   ·omega
 ·simp
theorem spec_WantedOf (p : PolicyD) (own far : List AddrD) (hp : p.wf) (h1 : own.length ≤ 1048576) (h2 : far.length ≤ 1048576) : CallA Tryz.prog 182 [.ag p.cs, .sc (.sl 0 0 own.length), .sc (.sl 1 0 far.length)] [some ⟨own.map AddrD.cs, 4, 80, false, true⟩, some ⟨far.map AddrD.cs, 4, 80, false, true⟩] (.sc (.sl 2 0 (wanted p own far).length)) [some ⟨own.map AddrD.cs, 4, 80, false, true⟩, some ⟨far.map AddrD.cs, 4, 80, false, true⟩, some ⟨(wanted p own far).map RoadD.cs, 3, 45, true, true⟩] := by
 obtain ⟨m, hm⟩ : ∃ m, m = wanted p own far := ⟨_, rfl⟩
 rw [← hm]
 rw [wanted] at hm
 refine qE Tryz.func182 Tryz.ntmps182 Tryz.results182 fun E hE => ?_
 refine qK (spec_PolicyOk p) [] ?_
 refine qB (fun g1 => ?_) fun g1 => ?_
 ·refine qK (spec_l01In _ _ _) [] ?_
  refine qB (fun g2 => ?_) fun g2 => ?_
  ·refine qK (spec_l01In _ _ _) [] ?_
   refine qB (fun g3 => ?_) fun g3 => ?_
   ·rw [if_neg (by simp [g3])] at hm
    subst hm
    exact qF (qA [0, 1, 3])
   ·have g2' := g2
    have g3' := g3
    simp only [inR, Bool.and_eq_true, decide_eq_true_eq] at g2' g3'
    rw [if_pos ⟨g1, g2, g3⟩] at hm
    refine qX ?_
    refine qB (fun g4 => ?_) fun g4 => ?_
    ·rw [if_pos g4] at hm
     refine qX ?_
     refine den_lp 2 hE (fun s (x : Nat × List RoadD) => s.at [0, 9, 12, 13, 14, 15, 16, 17, 18, 19, 20, 21, 22, 23, 24, 25, 26, 27, 28, 29, 30, 31, 32, 33, 34, 35, 36, 37, 38, 39, 40, 41, 42, 43, 44, 45, 46, 47, 48, 49, 50, 51, 52, 53, 54, 55, 56, 57, 58, 59, 60, 61, 62] [(8, .sc (.int .i64 (x.1 : Nat))), (7, .sc (.sl 3 0 x.2.length))] ([some ⟨own.map AddrD.cs, 4, 80, false, true⟩, some ⟨far.map AddrD.cs, 4, 80, false, true⟩, some ⟨[p.cs], 2, 25, true, false⟩, some ⟨x.2.map RoadD.cs, 3, 45, true, true⟩])) (fun (x : Nat × List RoadD) => x.1 ≤ own.length ∧ x.2.length ≤ 8 ∧ wantGo far x.2 (own.drop x.1) = m) (fun (x : Nat × List RoadD) => own.length - x.1) (0, []) (qA [0, 1, 2, 3]) (qC) (⟨Nat.zero_le _, Nat.zero_le _, hm.symm⟩) (weak_mk (by rfl) (by rfl) ?_) fun x hx N hN => ?_
     ·exact qY
     ·obtain ⟨k, acc⟩ := x
      obtain ⟨hk1, hk2, hk3⟩ := hx
      dsimp only at hk1 hk2 hk3
      refine qR ?_
      refine qB (fun h => ?_) fun h => ?_
      ·rw [wantGo_step h] at hk3
       refine qX ?_
       refine den_lp 2 hE (fun s (y : Nat × List RoadD) => s.at [0, 12, 13, 14, 15, 16, 17, 18, 19, 20, 21, 22, 23, 24, 25, 26, 27, 28, 29, 30, 31, 32, 33, 34, 36, 37, 38, 39, 40, 41, 42, 43, 44, 45, 46, 47, 48, 49, 50, 51, 52, 53, 54, 55, 56, 57, 58, 59, 60, 61, 62] [(9, .sc (.int .i64 (y.1 : Nat))), (7, .sc (.sl 3 0 y.2.length))] ([some ⟨own.map AddrD.cs, 4, 80, false, true⟩, some ⟨far.map AddrD.cs, 4, 80, false, true⟩, some ⟨[p.cs], 2, 25, true, false⟩, some ⟨y.2.map RoadD.cs, 3, 45, true, true⟩])) (fun (y : Nat × List RoadD) => y.1 ≤ far.length ∧ y.2.length ≤ 8 ∧ y.2 = (acc ++ (far.take y.1).map (mkR own[k])).take 8) (fun (y : Nat × List RoadD) => far.length - y.1) (0, acc) (qA [0, 1, 2, 3]) (qC) (⟨Nat.zero_le _, hk2, by simp; rw [List.take_of_length_le hk2]⟩) (weak_mk (by rfl) (by rfl) ?_) fun y hy N2 hN2 => ?_
       ·exact qY
       ·obtain ⟨j, r⟩ := y
        obtain ⟨hy1, hy2, hy3⟩ := hy
        dsimp only at hy1 hy2 hy3
        refine qR ?_
        refine qB (fun h5 => ?_) fun h5 => ?_
        ·refine qX ?_
         refine qB (fun h6 => ?_) fun h6 => ?_
         ·have hl8 : r.length < 8 := by omega
          have ht := take8_lt h5 hy3 hl8
          refine qD [0, 1, 2, 3, 4, 5, 6, 7, 8, 9, 10, 11, 12, 13, 14] ?_
          refine qG ?_
          refine ⟨qC, hN2 _ (j + 1, r ++ [mkR own[k] far[j]]) (qA [0, 1, 2, 5]) (by (try dsimp only); exact ⟨by omega, by simp; omega, ht⟩) (by (try dsimp only); omega) (weak_mk (by rfl) (by rfl) ?_)⟩
          refine qX ?_
          simp [mkR, RoadD.cs]
         ·have ht := take8_ge (i := far.length) hy1 (Nat.le_refl _) hy3 (by omega)
          rw [List.take_length] at ht
          rw [← ht] at hk3
          exact qN hN (k + 1, r) (qA [0, 1, 2, 3]) (by (try dsimp only); exact ⟨by omega, hy2, hk3⟩)
        ·have e : j = far.length := by omega
         subst e
         rw [List.take_length] at hy3
         rw [← hy3] at hk3
         exact qN hN (k + 1, r) (qA [0, 1, 2, 3]) (by (try dsimp only); exact ⟨by omega, hy2, hk3⟩)
      ·rw [List.drop_eq_nil_of_le (by omega), wantGo] at hk3
       subst hk3
       exact qF (qA [0, 1, 3])
    ·rw [if_neg g4] at hm
     have ho : 0 < own.length := by omega
     have hf : 0 < far.length := by omega
     rw [addr0_eq ho, addr0_eq hf] at hm
     obtain ⟨c, hc, hc0, hc8⟩ : ∃ c : Nat, m = manyL own[0].addr far[0].addr c ∧ (if p.kind = 2 then p.many else 1) = (c : Int) ∧ c ≤ 8 := by
      by_cases h2 : p.kind = 2
      ·have h := g1
       rw [polOk, if_pos h2] at h
       simp only [inR, Bool.and_eq_true, decide_eq_true_eq] at h
       rw [if_pos h2] at hm
       exact ⟨p.many.toNat, hm, by rw [if_pos h2]; omega, by omega⟩
      ·rw [if_neg h2] at hm
       exact ⟨1, hm, by rw [if_neg h2]; rfl, by omega⟩
     refine qX ?_
     refine qB (fun g5 => ?_) fun g5 => ?_
     ·rw [if_pos g5] at hc0
      rw [hc0]
      refine qX ?_
      refine den_lp 2 hE (fun s (x : Nat) => s.at [0, 3, 8, 9, 12, 13, 14, 15, 16, 17, 18, 19, 20, 21, 22, 23, 24, 25, 26, 27, 28, 29, 30, 31, 32, 33, 34, 35, 36, 37, 38, 39, 40, 41, 42, 43, 44, 45, 46, 47, 48, 49, 50, 51, 52, 53, 54, 55, 56, 57, 58, 59, 60, 61, 62, 63, 64, 65, 66, 67, 68, 69, 70, 71, 72, 73, 74, 75, 76, 77, 78, 79, 80, 81, 82, 83, 84, 85, 86] [(11, .sc (.int .i64 (x : Nat))), (7, .sc (.sl 3 0 x))] ([some ⟨own.map AddrD.cs, 4, 80, false, true⟩, some ⟨far.map AddrD.cs, 4, 80, false, true⟩, some ⟨[p.cs], 2, 25, true, false⟩, some ⟨(manyL own[0].addr far[0].addr x).map RoadD.cs, 3, 45, true, true⟩])) (fun (x : Nat) => x ≤ c) (fun (x : Nat) => c - x) 0 (qA [0, 1, 2, 3]) (qC) (Nat.zero_le _) (weak_mk (by rfl) (by rfl) ?_) fun x hx N hN => ?_
      ·refine qX ?_
       first | rfl | exact ⟨hc0.symm, rfl⟩ | skip
      ·refine run_den 400 ?_
       have hml := manyL_len own[0].addr far[0].addr x
       refine qX ?_
       refine qB (fun h => ?_) fun h => ?_
       ·refine qD [0, 1, 2, 3, 4, 5, 6, 7, 8, 9, 10, 11, 12, 13] ?_
        refine qG ?_
        refine ⟨qC, hN _ (x + 1) (qA [0, 1, 2, 5]) (by (try dsimp only); exact (by omega)) (by (try dsimp only); omega) (weak_mk (by rfl) (by rfl) ?_)⟩
        try simp (disch := omega) only [go_sem, Nat.reduceEqDiff, Nat.reduceAdd, Nat.reduceSub, Int.reduceAdd, Int.reduceSub, Int.reduceToNat]
        try simp [manyL_succ, RoadD.cs]
       ·have e : x = c := by omega
        subst e
        subst hc
        rw [manyL_len]
        exact qF (qA [0, 1, 3])
     ·rw [if_neg g5] at hc0
      have hc1 : c = 1 := by omega
      subst hc1
      refine den_lp 2 hE (fun s (x : Nat) => s.at [0, 3, 8, 9, 12, 13, 14, 15, 16, 17, 18, 19, 20, 21, 22, 23, 24, 25, 26, 27, 28, 29, 30, 31, 32, 33, 34, 35, 36, 37, 38, 39, 40, 41, 42, 43, 44, 45, 46, 47, 48, 49, 50, 51, 52, 53, 54, 55, 56, 57, 58, 59, 60, 61, 62, 63, 64, 65, 66, 67, 68, 69, 70, 71, 72, 73, 74, 75, 76, 77, 78, 79, 80, 81, 82, 83, 84, 85, 86] [(11, .sc (.int .i64 (x : Nat))), (7, .sc (.sl 3 0 x))] ([some ⟨own.map AddrD.cs, 4, 80, false, true⟩, some ⟨far.map AddrD.cs, 4, 80, false, true⟩, some ⟨[p.cs], 2, 25, true, false⟩, some ⟨(manyL own[0].addr far[0].addr x).map RoadD.cs, 3, 45, true, true⟩])) (fun (x : Nat) => x ≤ 1) (fun (x : Nat) => 1 - x) 0 (qA [0, 1, 2, 3]) (qC) (Nat.zero_le _) (weak_mk (by rfl) (by rfl) ?_) fun x hx N hN => ?_
      ·refine qX ?_
       first | rfl | exact ⟨hc0.symm, rfl⟩ | skip
      ·refine run_den 400 ?_
       have hml := manyL_len own[0].addr far[0].addr x
       refine qX ?_
       refine qB (fun h => ?_) fun h => ?_
       ·refine qD [0, 1, 2, 3, 4, 5, 6, 7, 8, 9, 10, 11, 12, 13] ?_
        refine qG ?_
        refine ⟨qC, hN _ (x + 1) (qA [0, 1, 2, 5]) (by (try dsimp only); exact (by omega)) (by (try dsimp only); omega) (weak_mk (by rfl) (by rfl) ?_)⟩
        try simp (disch := omega) only [go_sem, Nat.reduceEqDiff, Nat.reduceAdd, Nat.reduceSub, Int.reduceAdd, Int.reduceSub, Int.reduceToNat]
        try simp [manyL_succ, RoadD.cs]
       ·have e : x = 1 := by omega
        subst e
        subst hc
        rw [manyL_len]
        exact qF (qA [0, 1, 3])
  ·rw [if_neg (by simp [g2])] at hm
   subst hm
   exact qF (qA [0, 1, 3])
 ·rw [if_neg (by simp [g1])] at hm
  subst hm
  exact qF (qA [0, 1, 3])
end
section
open Go.RowKit

theorem join_small {e : EndD} {r : RoadD} {b : Bool} (hs : Small e) : Small (join e r b).1 := by
 rw [join]; split
 ·rename_i h
  simp only [jnOk, Bool.and_eq_true, decide_eq_true_eq] at h
  exact ⟨hs.own, hs.far, by simp only [List.length_append, List.length_singleton]; omega, hs.halfs, hs.list, hs.done, hs.over⟩
 ·exact hs
theorem join_one (e : EndD) (r : RoadD) (b : Bool) : (join e r b).2.length ≤ 1 := by
 rw [join]; split <;> simp
theorem manGo_step {far : List AddrD} {e : EndD} {l : List RoadD} {k : Nat} (h : k < l.length) : manGo far e (l.drop k) =
  ((manGo far (join e l[k] (spareOf far l[k].far)).1 (l.drop (k + 1))).1, (join e l[k] (spareOf far l[k].far)).2 ++ (manGo far (join e l[k] (spareOf far l[k].far)).1 (l.drop (k + 1))).2) := by
 rw [List.drop_eq_getElem_cons h]; rfl
theorem manGo_end {far : List AddrD} {e : EndD} {l : List RoadD} {k : Nat} (h : l.length ≤ k) : manGo far e (l.drop k) = (e, []) := by
 rw [List.drop_eq_nil_of_le h]; rfl
theorem man_f {e : EndD} (h : ¬ (endOk e = true ∧ e.side = 1)) : manage e = (e, []) := if_neg h
theorem man_t {e : EndD} (h : endOk e = true ∧ e.side = 1) : manage e = manGo e.far e (missing (wanted e.policy e.own e.far) (haveOf e.subs)) := if_pos h
theorem missing_le64 (a b : List RoadD) : (missing a b).length ≤ 64 := by
 rw [missing]; split
 ·rename_i h; exact Nat.le_trans (List.length_filter_le _ _) h.1
 ·simp
theorem endOk_pol {e : EndD} (h : endOk e = true) : e.policy.wf := by
 have hp : polOk e.policy = true := by simp only [endOk, Bool.and_eq_true] at h; simp_all
 rw [polOk] at hp
 split at hp
 ·rename_i hk
  simp only [inR, Bool.and_eq_true, decide_eq_true_eq] at hp
  exact ⟨⟨by omega, by omega⟩, ⟨by omega, by omega⟩⟩
 ·simp only [Bool.and_eq_true, Bool.or_eq_true, beq_iff_eq] at hp
  exact ⟨⟨by omega, by omega⟩, ⟨by omega, by omega⟩⟩
theorem haveOf_le (l : List SubD) : (haveOf l).length ≤ l.length := by
 rw [haveOf, List.length_map]; exact List.length_filter_le _ _
theorem spec_Manage (e : EndD) (hs : Small e) : CallA Tryz.prog 155 [.ag (e.cs 0)] (e.hp false) (.tu [.ag ((manage e).1.cs 7), .sc (.sl 14 0 (manage e).2.length)])
  (e.hp false ++ ((manage e).1.hp true ++ [some ⟨(manage e).2.map LetterD.cs, 19, 67, true, true⟩])) := by
 have hC := spec_l17Copy e (by have := hs.own; omega) (by have := hs.far; omega) (by have := hs.subs; omega) (by have := hs.halfs; omega) (by have := hs.list; omega) (by have := hs.done; omega) (by have := hs.over; omega)
 have hK := spec_EndOk e (by have := hs.own; omega) (by have := hs.far; omega) (by have := hs.subs; omega) (by have := hs.halfs; omega) (by have := hs.list; omega) (by have := hs.done; omega) (by have := hs.over; omega)
 have hsub := hs.subs
 have hsf := hs.far
 have hso := hs.own
 have hf := man_f (e := e)
 have ht := man_t (e := e)
 have hH := spec_HaveOf e hs.subs
 have hhl := haveOf_le e.subs
 have hM64 := missing_le64 (wanted e.policy e.own e.far) (haveOf e.subs)
 obtain ⟨R, hR⟩ : ∃ R, R = manage e := ⟨_, rfl⟩
 rw [← hR] at hf ht
 rw [← hR]
 clear hR
 refine qEO Tryz.func155 Tryz.ntmps155 Tryz.results155 fun E hE => ?_
 refine qK (hC) (qA [0, 1, 2, 3, 4, 5, 6]) ?_
 refine qK (hK) (qA [0, 1, 2, 3, 4, 5, 6]) ?_
 refine qB (fun h1 => ?_) fun h1 => ?_
 ·refine qB (fun h2 => ?_) fun h2 => ?_
  rotate_left
  ·have hR := ht ⟨h1, h2⟩
   have hWa := spec_WantedOf e.policy e.own e.far (endOk_pol h1) (by omega) (by omega)
   have hMi := spec_MissingOf (wanted e.policy e.own e.far) (haveOf e.subs) (by have := wanted_len e.policy e.own e.far; omega) (by omega)
   generalize hMM : missing (wanted e.policy e.own e.far) (haveOf e.subs) = M at *
   clear hMM
   refine qD [0, 1, 2, 3, 4, 5, 7, 6, 8, 9, 10] ?_
   refine qKD (hWa) (qA [0, 1]) ?_
   refine qKD (hH) (qA [0, 1, 2, 3, 4, 5, 6]) ?_
   refine qKD (hMi) (qA [18, 19]) ?_
   refine qG ?_
   refine den_lpO 7 hE (fun s (y : Nat × EndD × List LetterD) => s.at [0, 8, 9, 10, 11, 12, 13, 14, 15, 16, 17, 18, 19, 20, 21, 22, 23, 24, 25, 26, 27, 28, 29, 30, 31, 32, 33, 34, 35, 36, 37, 38, 39, 40, 41, 42, 43, 44, 45, 46, 47, 48, 49, 50, 51, 52, 53, 54, 55, 56, 57, 58, 59, 60, 61, 62, 63, 64, 65, 66, 67, 68, 69, 70, 71, 72, 73, 74, 75, 76, 77, 78] [(7, .sc (.int .i64 (y.1 : Nat))), (6, .sc (.sl 17 0 M.length)), (5, .sc (.sl 18 0 y.2.2.length))] ((s.hp.take 9) ++ (y.2.1.hp true ++ [some ⟨[y.2.1.cs 9], 25, 38, true, false⟩, some ⟨M.map RoadD.cs, 3, 45, true, true⟩, some ⟨y.2.2.map LetterD.cs, 19, 67, true, true⟩]))) (fun (y : Nat × EndD × List LetterD) => y.1 ≤ M.length ∧ Small y.2.1 ∧ y.2.2.length ≤ y.1 ∧ R = ((manGo e.far y.2.1 (M.drop y.1)).1, y.2.2 ++ (manGo e.far y.2.1 (M.drop y.1)).2)) (fun (y : Nat × EndD × List LetterD) => M.length - y.1) (0, e, []) (qA [0, 1, 2, 3, 4, 5, 6, 7, 8, 9, 10, 11, 12, 13, 14, 15, 16, 20, 17]) (qC) (⟨Nat.zero_le _, hs, Nat.le_refl _, hR⟩) (weak_mkO (by rfl) (by rfl) ?_) fun y hy N hN => ?_
   ·exact qY
   ·obtain ⟨i, e1, l⟩ := y
    obtain ⟨g1, g2, g3, g4⟩ := hy
    dsimp only at g1 g2 g3 g4
    refine qR ?_
    refine qB (fun b => ?_) fun b => ?_
    ·rw [manGo_step b] at g4
     have hg := map_get (enc := RoadD.cs) b
     generalize hr : M[i] = r at *
     have hJ := spec_Join e1 r (spareOf e.far r.far) g2
     have hj1 := join_one e1 r (spareOf e.far r.far)
     have hjs := join_small (r := r) (b := spareOf e.far r.far) g2
     obtain ⟨pr, hpr⟩ : ∃ p, p = join e1 r (spareOf e.far r.far) := ⟨_, rfl⟩
     rw [← hpr] at hJ hj1 hjs g4
     obtain ⟨e2, l2⟩ := pr
     dsimp only at hJ hj1 hjs g4
     rw [← List.append_assoc] at g4
     try simp (disch := omega) only [go_sem, Nat.reduceEqDiff, Nat.reduceAdd, Nat.reduceSub, Int.reduceAdd, Int.reduceSub, Int.reduceToNat, hg, hr]
     refine den_lpO 7 hE (fun s (z : Nat × Bool) => s.at [0, 11, 12, 13, 14, 15, 16, 17, 18, 19, 20, 21, 22, 23, 24, 25, 26, 27, 28, 29, 30, 31, 32, 33, 34, 35, 36, 38, 39, 40, 41, 42, 43, 44, 45, 46, 47, 48, 49, 50, 51, 52, 53, 54, 55, 56, 57, 58, 59, 60, 61, 62, 63, 64, 65, 66, 67, 68, 69, 70, 71, 72, 73, 74, 75, 76, 77, 78] [(9, .sc (.int .i64 (z.1 : Nat))), (8, .sc (.bo z.2))] (s.hp)) (fun (z : Nat × Bool) => z.1 ≤ e.far.length ∧ z.2 = spareOf (e.far.take z.1) r.far) (fun (z : Nat × Bool) => e.far.length - z.1) (0, false) (qA [0, 1, 2, 3, 4, 5, 6, 7, 8, 9, 10, 11, 12, 13, 14, 15, 16, 17, 18]) (qC) (⟨Nat.zero_le _, rfl⟩) (weak_mkO (by rfl) (by rfl) ?_) fun z hz N2 hN2 => ?_
     ·exact qY
     ·obtain ⟨k, sb⟩ := z
      obtain ⟨f1, f2⟩ := hz
      dsimp only at f1 f2
      refine qR ?_
      refine qB (fun c1 => ?_) fun c1 => ?_
      ·have hgf := map_get (enc := AddrD.cs) c1
       have hsn := spareOf_snoc (n := r.far) c1
       rw [← f2] at hsn
       refine qD [0, 1, 2, 3, 4, 5, 6, 7, 8, 9, 10, 11] ?_
       try simp (disch := omega) only [go_sem, Nat.reduceEqDiff, Nat.reduceAdd, Nat.reduceSub, Int.reduceAdd, Int.reduceSub, Int.reduceToNat, hgf, hg, hr]
       refine qG ?_
       refine qB (fun c2 => ?_) fun c2 => ?_
       ·rw [if_pos c2] at hsn
        try simp (disch := omega) only [go_sem, Nat.reduceEqDiff, Nat.reduceAdd, Nat.reduceSub, Int.reduceAdd, Int.reduceSub, Int.reduceToNat, hgf]
        exact qNO hN2 (k + 1, e.far[k].spare) (qA [0, 1, 2, 3, 4, 5, 6, 7, 8, 9, 10, 11, 12, 13, 14, 15, 16, 17, 18]) (by (try dsimp only); exact ⟨by omega, hsn.symm⟩)
       ·rw [if_neg c2] at hsn
        refine qX ?_
        exact qNO hN2 (k + 1, sb) (qA [0, 1, 2, 3, 4, 5, 6, 7, 8, 9, 10, 11, 12, 13, 14, 15, 16, 17, 18]) (by (try dsimp only); exact ⟨by omega, hsn.symm⟩)
      ·have e3 : k = e.far.length := by omega
       subst e3
       rw [List.take_length] at f2
       subst f2
       refine qX ?_
       refine qD [0, 1, 2, 3, 4, 5, 6, 7, 8, 9, 10, 11] ?_
       try simp (disch := omega) only [go_sem, Nat.reduceEqDiff, Nat.reduceAdd, Nat.reduceSub, Int.reduceAdd, Int.reduceSub, Int.reduceToNat, hg, hr]
       refine qKD (hJ) (qA [9, 10, 11, 12, 13, 14, 15]) ?_
       refine qG ?_
       refine ⟨qC, hN _ (i + 1, e2, l ++ l2) (qA [0, 1, 2, 3, 4, 5, 6, 7, 8, 20, 21, 22, 23, 24, 25, 26, 16, 17, 28]) (by (try dsimp only); exact ⟨by omega, hjs, by simp only [List.length_append]; omega, g4⟩) (by (try dsimp only); omega) (weak_mkO (by rfl) (by rfl) ?_)⟩
       try simp (disch := omega) only [go_sem, Nat.reduceEqDiff, Nat.reduceAdd, Nat.reduceSub, Int.reduceAdd, Int.reduceSub, Int.reduceToNat]
       try simp
    ·rw [manGo_end (by omega), List.append_nil] at g4
     subst g4
     refine qX ?_
     exact qFO (qA [0, 1, 2, 3, 4, 5, 6, 9, 10, 11, 12, 13, 14, 15, 18])
  ·rw [hf (fun h => h2 h.2)]
   refine qX ?_
   exact qFO (qA [0, 1, 2, 3, 4, 5, 6, 9, 10, 11, 12, 13, 14, 15, 17])
 ·rw [hf (fun h => by rw [h1] at h; cases h.1)]
  refine qX ?_
  exact qFO (qA [0, 1, 2, 3, 4, 5, 6, 9, 10, 11, 12, 13, 14, 15, 17])
end
end Go.Proofs.YtfakgekanapbnaaGreat
