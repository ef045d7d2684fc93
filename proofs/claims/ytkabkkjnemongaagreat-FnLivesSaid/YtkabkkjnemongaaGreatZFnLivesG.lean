/-
  Texts merged for this claim by shake.py: what its proof needs.
-/
import Derived.Tactics
import Derived.Below
import Derived.Laws.AppendOwn
import Derived.Laws.OwnMore
import Derived.Laws.Slices
import Derived.Laws.Small
import Derived.Laws.Strings
import Derived.KernelRfl
import Derived.Laws.MakeOwn
import Derived.Laws.BytesString
import Derived.Laws.BytesArg
import Derived.Laws.Build
import Derived.Laws.Concat
import Derived.Laws.StructEq
import Derived.Lib.ConvBytes
import Derived.Orders
import Derived.WalkKit
import Derived.ProofKit
import Derived.ShutString
import Derived.OpenShut
import Derived.ChangeOld
import Derived.Carry
import Derived.Test.YtkabkkjnemongaaGreatChecked
import Derived.Laws.BitsLemmas
import Derived.JoinedOf
import Derived.Test.YtkabkkjnemongaaGreatRows
import Derived.Test.YtkabkkjnemongaaGreatZFnLivesF
set_option maxHeartbeats 16000000
set_option maxRecDepth 100000
set_option linter.unusedVariables false
set_option linter.unusedSimpArgs false
namespace Go.Proofs.YtkabkkjnemongaaGreat
section
open Go.RowKit
theorem impl_acts5b_1 (w:WorldD) (pos many:Int) (text:List UInt8) (ad:AddrD) (le:LetterD) (hw:SmallD w) (hbad:¬ sideAt ad.addr=1∨(addOwn w.a ad).2=false):
  CallA Tryz.prog 18 [.sc (.pt 21 0 0),.ag (ActD.cs ⟨5,1,pos,many,text,ad,le⟩)] (w.hp true++[some ⟨[w.cs 0],61,47,true,false⟩]) (.sc (.int .i64 1))
  ([none,none,none,none,none,none,none,none,none,none,none,none,none,none,none,none,none,none,none,none,none,some ⟨[WorldD.cs w 22],61,47,true,false⟩]++WorldD.hp w true):=by
 have hX:=impl_AddOwn w.a ad hw.p.s.a
 have hsm:=addOwn_small (a:=ad) hw.p.s.a
 have hEA:CallA Tryz.prog 38 [.ag (w.cs 0),.sc (.int .i64 1)] (w.hp false) (.ag (w.a.cs 21)) (w.hp false++w.a.hp true):=impl_EndAt w 1 hw.p.s.a.own hw.p.s.a.far hw.p.s.a.subs hw.p.s.a.halfs hw.p.s.a.list hw.p.s.a.done hw.p.s.a.over hw.p.s.b.own hw.p.s.b.far hw.p.s.b.subs hw.p.s.b.halfs hw.p.s.b.list hw.p.s.b.done hw.p.s.b.over
 obtain⟨pr,hpr⟩:∃ p,p=addOwn w.a ad:=⟨_,rfl⟩
 rw [←hpr] at hX hsm hbad
 obtain⟨e1,ok1⟩:=pr
 dsimp only at hX hsm hbad
 have hSd:=impl_SideAt ad.addr
 generalize sideAt ad.addr=sd at*
 refine callA_ofO Tryz.func18 (by kernel_rfl) rfl fun E hE=>run_den 400 ?_
 simp (disch:=omega) only [Tryz.ntmps18,Tryz.results18,go_sem,Nat.reduceEqDiff,Nat.reduceAdd,Nat.reduceSub,Int.reduceAdd,Int.reduceSub,Int.reduceToNat]
 refine den_drawX [(5,6)] [] [[0,1,2,3,4,5,6,7],[0,1,2,3,4,6,5,7]] 22 hE (fun s=>s.at [13,14,15,16,17,18] [(5,.sc (.pt 30 0 0))] (s.hp++(w.a.hp true++[some ⟨[w.a.cs 23],25,41,true,false⟩]))) (by kernel_rfl) (by (try simp (disch:=omega) only [go_sem,List.length_set,Nat.reduceEqDiff,Nat.reduceAdd,Nat.reduceSub,Int.reduceAdd,Int.reduceSub,Int.reduceToNat])<;>omega) (by kernel_rfl) ?_ (run_den 400 ?_)
 rotate_left
 rotate_right
 simp only [allDn]
 refine⟨runD_den 400 ?_,runD_den 400 ?_⟩
 ·simp (disch:=omega) only [go_sem]
  refine den_callD (by (try simp (disch:=omega) only [go_sem,List.length_set,Nat.reduceEqDiff,Nat.reduceAdd,Nat.reduceSub,Int.reduceAdd,Int.reduceSub,Int.reduceToNat])<;>omega) (hEA) [some (0,none),some (1,none),some (2,none),some (3,none),some (4,none),some (5,none),some (6,none),some (7,none),some (8,none),some (9,none),some (10,none),some (11,none),some (12,none),some (13,none),some (14,none),some (15,none),some (16,none),some (17,none),some (18,none),some (19,none),some (20,none)] (by simp only [go_sem];repeat' first|rfl|constructor|(rw [List.map_set];rfl)|(simp [List.map_take,List.map_drop]<;>omega)) (by rfl) (by rfl) (runD_den 400 ?_)
  simp (disch:=omega) only [go_sem,Nat.reduceEqDiff,Nat.reduceAdd,Nat.reduceSub,Int.reduceAdd,Int.reduceSub,Int.reduceToNat]
  refine⟨by (try simp (disch:=omega) only [go_sem,List.length_set,Nat.reduceEqDiff,Nat.reduceAdd,Nat.reduceSub,Int.reduceAdd,Int.reduceSub,Int.reduceToNat])<;>omega,[some (0,none),some (1,none),some (2,none),some (3,none),some (4,none),some (5,none),some (6,none),some (7,none),some (8,none),some (9,none),some (10,none),some (11,none),some (12,none),some (13,none),some (14,none),some (15,none),some (16,none),some (17,none),some (18,none),some (19,none),some (20,none),some (21,none),some (22,none),some (23,none),some (24,none),some (25,none),some (26,none),some (27,none),some (28,none),some (29,none),some (30,none)],weak_mkO (by rfl) (by rfl) ?_⟩
  try simp (disch:=omega) only [go_sem,Nat.reduceEqDiff,Nat.reduceAdd,Nat.reduceSub,Int.reduceAdd,Int.reduceSub,Int.reduceToNat]
 ·simp (disch:=omega) only [go_sem]
  refine den_callD (by (try simp (disch:=omega) only [go_sem,List.length_set,Nat.reduceEqDiff,Nat.reduceAdd,Nat.reduceSub,Int.reduceAdd,Int.reduceSub,Int.reduceToNat])<;>omega) (hEA) [some (0,none),some (1,none),some (2,none),some (3,none),some (4,none),some (5,none),some (6,none),some (7,none),some (8,none),some (9,none),some (10,none),some (11,none),some (12,none),some (13,none),some (14,none),some (15,none),some (16,none),some (17,none),some (18,none),some (19,none),some (20,none)] (by simp only [go_sem];repeat' first|rfl|constructor|(rw [List.map_set];rfl)|(simp [List.map_take,List.map_drop]<;>omega)) (by rfl) (by rfl) (runD_den 400 ?_)
  simp (disch:=omega) only [go_sem,Nat.reduceEqDiff,Nat.reduceAdd,Nat.reduceSub,Int.reduceAdd,Int.reduceSub,Int.reduceToNat]
  refine⟨by (try simp (disch:=omega) only [go_sem,List.length_set,Nat.reduceEqDiff,Nat.reduceAdd,Nat.reduceSub,Int.reduceAdd,Int.reduceSub,Int.reduceToNat])<;>omega,[some (0,none),some (1,none),some (2,none),some (3,none),some (4,none),some (5,none),some (6,none),some (7,none),some (8,none),some (9,none),some (10,none),some (11,none),some (12,none),some (13,none),some (14,none),some (15,none),some (16,none),some (17,none),some (18,none),some (19,none),some (20,none),some (21,none),some (22,none),some (24,none),some (25,none),some (26,none),some (27,none),some (28,none),some (29,none),some (30,none),some (23,none)],weak_mkO (by rfl) (by rfl) ?_⟩
  try simp (disch:=omega) only [go_sem,Nat.reduceEqDiff,Nat.reduceAdd,Nat.reduceSub,Int.reduceAdd,Int.reduceSub,Int.reduceToNat]
 try simp (disch:=omega) only [go_sem,Nat.reduceEqDiff,Nat.reduceAdd,Nat.reduceSub,Int.reduceAdd,Int.reduceSub,Int.reduceToNat]
 refine den_call (by (try simp (disch:=omega) only [go_sem,List.length_set,Nat.reduceEqDiff,Nat.reduceAdd,Nat.reduceSub,Int.reduceAdd,Int.reduceSub,Int.reduceToNat])<;>omega) (hX) [some (23,none),some (24,none),some (25,none),some (26,none),some (27,none),some (28,none),some (29,none)] (by simp only [go_sem];repeat' first|rfl|constructor|(rw [List.map_set];rfl)|(simp [List.map_take,List.map_drop]<;>omega)) (by rfl) (run_den 400 ?_)
 simp (disch:=omega) only [go_sem,Nat.reduceEqDiff,Nat.reduceAdd,Nat.reduceSub,Int.reduceAdd,Int.reduceSub,Int.reduceToNat]
 by_cases h0:sd=1
 ·subst h0
  have hb:ok1=false:=by rcases hbad with h|h;exact absurd rfl h;exact h
  subst hb
  refine den_draw1 [0,1,2,4,5,3,6,7,8,9,10] (by kernel_rfl) (by (try simp (disch:=omega) only [go_sem,List.length_set,Nat.reduceEqDiff,Nat.reduceAdd,Nat.reduceSub,Int.reduceAdd,Int.reduceSub,Int.reduceToNat])<;>omega) (by kernel_rfl) (runD_den 400 ?_)
  simp (disch:=omega) only [go_sem,Nat.reduceEqDiff,Nat.reduceAdd,Nat.reduceSub,Int.reduceAdd,Int.reduceSub,Int.reduceToNat]
  refine den_callD (by (try simp (disch:=omega) only [go_sem,List.length_set,Nat.reduceEqDiff,Nat.reduceAdd,Nat.reduceSub,Int.reduceAdd,Int.reduceSub,Int.reduceToNat])<;>omega) (hSd) [] (by simp only [go_sem];repeat' first|rfl|constructor|(rw [List.map_set];rfl)|(simp [List.map_take,List.map_drop]<;>omega)) (by rfl) (by rfl) (runD_den 400 ?_)
  simp (disch:=omega) only [go_sem,Nat.reduceEqDiff,Nat.reduceAdd,Nat.reduceSub,Int.reduceAdd,Int.reduceSub,Int.reduceToNat]
  refine⟨by (try simp (disch:=omega) only [go_sem,List.length_set,Nat.reduceEqDiff,Nat.reduceAdd,Nat.reduceSub,Int.reduceAdd,Int.reduceSub,Int.reduceToNat])<;>omega,run_den 400 ?_⟩
  try simp (disch:=omega) only [go_sem,Nat.reduceEqDiff,Nat.reduceAdd,Nat.reduceSub,Int.reduceAdd,Int.reduceSub,Int.reduceToNat]
  refine den_finO [some (0,none),some (1,none),some (2,none),some (3,none),some (4,none),some (5,none),some (6,none),some (7,none),some (8,none),some (9,none),some (10,none),some (11,none),some (12,none),some (13,none),some (14,none),some (15,none),some (16,none),some (17,none),some (18,none),some (19,none),some (20,none),some (21,none),some (0,none),some (1,none),some (2,none),some (3,none),some (4,none),some (5,none),some (6,none),some (7,none),some (8,none),some (9,none),some (10,none),some (11,none),some (12,none),some (13,none),some (14,none),some (15,none),some (16,none),some (17,none),some (18,none),some (19,none),some (20,none)] (by (try simp (disch:=omega) only [go_sem,List.length_set,Nat.reduceEqDiff,Nat.reduceAdd,Nat.reduceSub,Int.reduceAdd,Int.reduceSub,Int.reduceToNat])<;>omega) _ (by simp only [go_sem];rfl) (by rfl) (by rfl) ?_
  simp (disch:=omega) only [go_sem,Nat.reduceEqDiff,Nat.reduceAdd,Nat.reduceSub,Int.reduceAdd,Int.reduceSub,Int.reduceToNat]
 refine den_draw1 [0,1,2,4,5,3,6,7,8,9,10] (by kernel_rfl) (by (try simp (disch:=omega) only [go_sem,List.length_set,Nat.reduceEqDiff,Nat.reduceAdd,Nat.reduceSub,Int.reduceAdd,Int.reduceSub,Int.reduceToNat])<;>omega) (by kernel_rfl) (runD_den 400 ?_)
 simp (disch:=omega) only [go_sem,Nat.reduceEqDiff,Nat.reduceAdd,Nat.reduceSub,Int.reduceAdd,Int.reduceSub,Int.reduceToNat]
 refine den_callD (by (try simp (disch:=omega) only [go_sem,List.length_set,Nat.reduceEqDiff,Nat.reduceAdd,Nat.reduceSub,Int.reduceAdd,Int.reduceSub,Int.reduceToNat])<;>omega) (hSd) [] (by simp only [go_sem];repeat' first|rfl|constructor|(rw [List.map_set];rfl)|(simp [List.map_take,List.map_drop]<;>omega)) (by rfl) (by rfl) (runD_den 400 ?_)
 simp (disch:=omega) only [go_sem,Nat.reduceEqDiff,Nat.reduceAdd,Nat.reduceSub,Int.reduceAdd,Int.reduceSub,Int.reduceToNat]
 refine⟨by (try simp (disch:=omega) only [go_sem,List.length_set,Nat.reduceEqDiff,Nat.reduceAdd,Nat.reduceSub,Int.reduceAdd,Int.reduceSub,Int.reduceToNat])<;>omega,run_den 400 ?_⟩
 try simp (disch:=omega) only [go_sem,Nat.reduceEqDiff,Nat.reduceAdd,Nat.reduceSub,Int.reduceAdd,Int.reduceSub,Int.reduceToNat]
 refine den_finO [some (0,none),some (1,none),some (2,none),some (3,none),some (4,none),some (5,none),some (6,none),some (7,none),some (8,none),some (9,none),some (10,none),some (11,none),some (12,none),some (13,none),some (14,none),some (15,none),some (16,none),some (17,none),some (18,none),some (19,none),some (20,none),some (21,none),some (0,none),some (1,none),some (2,none),some (3,none),some (4,none),some (5,none),some (6,none),some (7,none),some (8,none),some (9,none),some (10,none),some (11,none),some (12,none),some (13,none),some (14,none),some (15,none),some (16,none),some (17,none),some (18,none),some (19,none),some (20,none)] (by (try simp (disch:=omega) only [go_sem,List.length_set,Nat.reduceEqDiff,Nat.reduceAdd,Nat.reduceSub,Int.reduceAdd,Int.reduceSub,Int.reduceToNat])<;>omega) _ (by simp only [go_sem];rfl) (by rfl) (by rfl) ?_
 simp (disch:=omega) only [go_sem,Nat.reduceEqDiff,Nat.reduceAdd,Nat.reduceSub,Int.reduceAdd,Int.reduceSub,Int.reduceToNat]
theorem impl_acts5b_2 (w:WorldD) (pos many:Int) (text:List UInt8) (ad:AddrD) (le:LetterD) (hw:SmallD w) (hbad:¬ sideAt ad.addr=2∨(addOwn w.b ad).2=false):
  CallA Tryz.prog 18 [.sc (.pt 21 0 0),.ag (ActD.cs ⟨5,2,pos,many,text,ad,le⟩)] (w.hp true++[some ⟨[w.cs 0],61,47,true,false⟩]) (.sc (.int .i64 1))
  ([none,none,none,none,none,none,none,none,none,none,none,none,none,none,none,none,none,none,none,none,none,some ⟨[WorldD.cs w 22],61,47,true,false⟩]++WorldD.hp w true):=by
 have hX:=impl_AddOwn w.b ad hw.p.s.b
 have hsm:=addOwn_small (a:=ad) hw.p.s.b
 have hEA:CallA Tryz.prog 38 [.ag (w.cs 0),.sc (.int .i64 2)] (w.hp false) (.ag (w.b.cs 21)) (w.hp false++w.b.hp true):=impl_EndAt w 2 hw.p.s.a.own hw.p.s.a.far hw.p.s.a.subs hw.p.s.a.halfs hw.p.s.a.list hw.p.s.a.done hw.p.s.a.over hw.p.s.b.own hw.p.s.b.far hw.p.s.b.subs hw.p.s.b.halfs hw.p.s.b.list hw.p.s.b.done hw.p.s.b.over
 obtain⟨pr,hpr⟩:∃ p,p=addOwn w.b ad:=⟨_,rfl⟩
 rw [←hpr] at hX hsm hbad
 obtain⟨e1,ok1⟩:=pr
 dsimp only at hX hsm hbad
 have hSd:=impl_SideAt ad.addr
 generalize sideAt ad.addr=sd at*
 refine callA_ofO Tryz.func18 (by kernel_rfl) rfl fun E hE=>run_den 400 ?_
 simp (disch:=omega) only [Tryz.ntmps18,Tryz.results18,go_sem,Nat.reduceEqDiff,Nat.reduceAdd,Nat.reduceSub,Int.reduceAdd,Int.reduceSub,Int.reduceToNat]
 refine den_drawX [(5,6)] [] [[0,1,2,3,4,5,6,7],[0,1,2,3,4,6,5,7]] 22 hE (fun s=>s.at [13,14,15,16,17,18] [(5,.sc (.pt 30 0 0))] (s.hp++(w.b.hp true++[some ⟨[w.b.cs 23],25,41,true,false⟩]))) (by kernel_rfl) (by (try simp (disch:=omega) only [go_sem,List.length_set,Nat.reduceEqDiff,Nat.reduceAdd,Nat.reduceSub,Int.reduceAdd,Int.reduceSub,Int.reduceToNat])<;>omega) (by kernel_rfl) ?_ (run_den 400 ?_)
 rotate_left
 rotate_right
 simp only [allDn]
 refine⟨runD_den 400 ?_,runD_den 400 ?_⟩
 ·simp (disch:=omega) only [go_sem]
  refine den_callD (by (try simp (disch:=omega) only [go_sem,List.length_set,Nat.reduceEqDiff,Nat.reduceAdd,Nat.reduceSub,Int.reduceAdd,Int.reduceSub,Int.reduceToNat])<;>omega) (hEA) [some (0,none),some (1,none),some (2,none),some (3,none),some (4,none),some (5,none),some (6,none),some (7,none),some (8,none),some (9,none),some (10,none),some (11,none),some (12,none),some (13,none),some (14,none),some (15,none),some (16,none),some (17,none),some (18,none),some (19,none),some (20,none)] (by simp only [go_sem];repeat' first|rfl|constructor|(rw [List.map_set];rfl)|(simp [List.map_take,List.map_drop]<;>omega)) (by rfl) (by rfl) (runD_den 400 ?_)
  simp (disch:=omega) only [go_sem,Nat.reduceEqDiff,Nat.reduceAdd,Nat.reduceSub,Int.reduceAdd,Int.reduceSub,Int.reduceToNat]
  refine⟨by (try simp (disch:=omega) only [go_sem,List.length_set,Nat.reduceEqDiff,Nat.reduceAdd,Nat.reduceSub,Int.reduceAdd,Int.reduceSub,Int.reduceToNat])<;>omega,[some (0,none),some (1,none),some (2,none),some (3,none),some (4,none),some (5,none),some (6,none),some (7,none),some (8,none),some (9,none),some (10,none),some (11,none),some (12,none),some (13,none),some (14,none),some (15,none),some (16,none),some (17,none),some (18,none),some (19,none),some (20,none),some (21,none),some (22,none),some (23,none),some (24,none),some (25,none),some (26,none),some (27,none),some (28,none),some (29,none),some (30,none)],weak_mkO (by rfl) (by rfl) ?_⟩
  try simp (disch:=omega) only [go_sem,Nat.reduceEqDiff,Nat.reduceAdd,Nat.reduceSub,Int.reduceAdd,Int.reduceSub,Int.reduceToNat]
 ·simp (disch:=omega) only [go_sem]
  refine den_callD (by (try simp (disch:=omega) only [go_sem,List.length_set,Nat.reduceEqDiff,Nat.reduceAdd,Nat.reduceSub,Int.reduceAdd,Int.reduceSub,Int.reduceToNat])<;>omega) (hEA) [some (0,none),some (1,none),some (2,none),some (3,none),some (4,none),some (5,none),some (6,none),some (7,none),some (8,none),some (9,none),some (10,none),some (11,none),some (12,none),some (13,none),some (14,none),some (15,none),some (16,none),some (17,none),some (18,none),some (19,none),some (20,none)] (by simp only [go_sem];repeat' first|rfl|constructor|(rw [List.map_set];rfl)|(simp [List.map_take,List.map_drop]<;>omega)) (by rfl) (by rfl) (runD_den 400 ?_)
  simp (disch:=omega) only [go_sem,Nat.reduceEqDiff,Nat.reduceAdd,Nat.reduceSub,Int.reduceAdd,Int.reduceSub,Int.reduceToNat]
  refine⟨by (try simp (disch:=omega) only [go_sem,List.length_set,Nat.reduceEqDiff,Nat.reduceAdd,Nat.reduceSub,Int.reduceAdd,Int.reduceSub,Int.reduceToNat])<;>omega,[some (0,none),some (1,none),some (2,none),some (3,none),some (4,none),some (5,none),some (6,none),some (7,none),some (8,none),some (9,none),some (10,none),some (11,none),some (12,none),some (13,none),some (14,none),some (15,none),some (16,none),some (17,none),some (18,none),some (19,none),some (20,none),some (21,none),some (22,none),some (24,none),some (25,none),some (26,none),some (27,none),some (28,none),some (29,none),some (30,none),some (23,none)],weak_mkO (by rfl) (by rfl) ?_⟩
  try simp (disch:=omega) only [go_sem,Nat.reduceEqDiff,Nat.reduceAdd,Nat.reduceSub,Int.reduceAdd,Int.reduceSub,Int.reduceToNat]
 try simp (disch:=omega) only [go_sem,Nat.reduceEqDiff,Nat.reduceAdd,Nat.reduceSub,Int.reduceAdd,Int.reduceSub,Int.reduceToNat]
 refine den_call (by (try simp (disch:=omega) only [go_sem,List.length_set,Nat.reduceEqDiff,Nat.reduceAdd,Nat.reduceSub,Int.reduceAdd,Int.reduceSub,Int.reduceToNat])<;>omega) (hX) [some (23,none),some (24,none),some (25,none),some (26,none),some (27,none),some (28,none),some (29,none)] (by simp only [go_sem];repeat' first|rfl|constructor|(rw [List.map_set];rfl)|(simp [List.map_take,List.map_drop]<;>omega)) (by rfl) (run_den 400 ?_)
 simp (disch:=omega) only [go_sem,Nat.reduceEqDiff,Nat.reduceAdd,Nat.reduceSub,Int.reduceAdd,Int.reduceSub,Int.reduceToNat]
 by_cases h0:sd=2
 ·subst h0
  have hb:ok1=false:=by rcases hbad with h|h;exact absurd rfl h;exact h
  subst hb
  refine den_draw1 [0,1,2,4,5,3,6,7,8,9,10] (by kernel_rfl) (by (try simp (disch:=omega) only [go_sem,List.length_set,Nat.reduceEqDiff,Nat.reduceAdd,Nat.reduceSub,Int.reduceAdd,Int.reduceSub,Int.reduceToNat])<;>omega) (by kernel_rfl) (runD_den 400 ?_)
  simp (disch:=omega) only [go_sem,Nat.reduceEqDiff,Nat.reduceAdd,Nat.reduceSub,Int.reduceAdd,Int.reduceSub,Int.reduceToNat]
  refine den_callD (by (try simp (disch:=omega) only [go_sem,List.length_set,Nat.reduceEqDiff,Nat.reduceAdd,Nat.reduceSub,Int.reduceAdd,Int.reduceSub,Int.reduceToNat])<;>omega) (hSd) [] (by simp only [go_sem];repeat' first|rfl|constructor|(rw [List.map_set];rfl)|(simp [List.map_take,List.map_drop]<;>omega)) (by rfl) (by rfl) (runD_den 400 ?_)
  simp (disch:=omega) only [go_sem,Nat.reduceEqDiff,Nat.reduceAdd,Nat.reduceSub,Int.reduceAdd,Int.reduceSub,Int.reduceToNat]
  refine⟨by (try simp (disch:=omega) only [go_sem,List.length_set,Nat.reduceEqDiff,Nat.reduceAdd,Nat.reduceSub,Int.reduceAdd,Int.reduceSub,Int.reduceToNat])<;>omega,run_den 400 ?_⟩
  try simp (disch:=omega) only [go_sem,Nat.reduceEqDiff,Nat.reduceAdd,Nat.reduceSub,Int.reduceAdd,Int.reduceSub,Int.reduceToNat]
  refine den_finO [some (0,none),some (1,none),some (2,none),some (3,none),some (4,none),some (5,none),some (6,none),some (7,none),some (8,none),some (9,none),some (10,none),some (11,none),some (12,none),some (13,none),some (14,none),some (15,none),some (16,none),some (17,none),some (18,none),some (19,none),some (20,none),some (21,none),some (0,none),some (1,none),some (2,none),some (3,none),some (4,none),some (5,none),some (6,none),some (7,none),some (8,none),some (9,none),some (10,none),some (11,none),some (12,none),some (13,none),some (14,none),some (15,none),some (16,none),some (17,none),some (18,none),some (19,none),some (20,none)] (by (try simp (disch:=omega) only [go_sem,List.length_set,Nat.reduceEqDiff,Nat.reduceAdd,Nat.reduceSub,Int.reduceAdd,Int.reduceSub,Int.reduceToNat])<;>omega) _ (by simp only [go_sem];rfl) (by rfl) (by rfl) ?_
  simp (disch:=omega) only [go_sem,Nat.reduceEqDiff,Nat.reduceAdd,Nat.reduceSub,Int.reduceAdd,Int.reduceSub,Int.reduceToNat]
 refine den_draw1 [0,1,2,4,5,3,6,7,8,9,10] (by kernel_rfl) (by (try simp (disch:=omega) only [go_sem,List.length_set,Nat.reduceEqDiff,Nat.reduceAdd,Nat.reduceSub,Int.reduceAdd,Int.reduceSub,Int.reduceToNat])<;>omega) (by kernel_rfl) (runD_den 400 ?_)
 simp (disch:=omega) only [go_sem,Nat.reduceEqDiff,Nat.reduceAdd,Nat.reduceSub,Int.reduceAdd,Int.reduceSub,Int.reduceToNat]
 refine den_callD (by (try simp (disch:=omega) only [go_sem,List.length_set,Nat.reduceEqDiff,Nat.reduceAdd,Nat.reduceSub,Int.reduceAdd,Int.reduceSub,Int.reduceToNat])<;>omega) (hSd) [] (by simp only [go_sem];repeat' first|rfl|constructor|(rw [List.map_set];rfl)|(simp [List.map_take,List.map_drop]<;>omega)) (by rfl) (by rfl) (runD_den 400 ?_)
 simp (disch:=omega) only [go_sem,Nat.reduceEqDiff,Nat.reduceAdd,Nat.reduceSub,Int.reduceAdd,Int.reduceSub,Int.reduceToNat]
 refine⟨by (try simp (disch:=omega) only [go_sem,List.length_set,Nat.reduceEqDiff,Nat.reduceAdd,Nat.reduceSub,Int.reduceAdd,Int.reduceSub,Int.reduceToNat])<;>omega,run_den 400 ?_⟩
 try simp (disch:=omega) only [go_sem,Nat.reduceEqDiff,Nat.reduceAdd,Nat.reduceSub,Int.reduceAdd,Int.reduceSub,Int.reduceToNat]
 refine den_finO [some (0,none),some (1,none),some (2,none),some (3,none),some (4,none),some (5,none),some (6,none),some (7,none),some (8,none),some (9,none),some (10,none),some (11,none),some (12,none),some (13,none),some (14,none),some (15,none),some (16,none),some (17,none),some (18,none),some (19,none),some (20,none),some (21,none),some (0,none),some (1,none),some (2,none),some (3,none),some (4,none),some (5,none),some (6,none),some (7,none),some (8,none),some (9,none),some (10,none),some (11,none),some (12,none),some (13,none),some (14,none),some (15,none),some (16,none),some (17,none),some (18,none),some (19,none),some (20,none)] (by (try simp (disch:=omega) only [go_sem,List.length_set,Nat.reduceEqDiff,Nat.reduceAdd,Nat.reduceSub,Int.reduceAdd,Int.reduceSub,Int.reduceToNat])<;>omega) _ (by simp only [go_sem];rfl) (by rfl) (by rfl) ?_
 simp (disch:=omega) only [go_sem,Nat.reduceEqDiff,Nat.reduceAdd,Nat.reduceSub,Int.reduceAdd,Int.reduceSub,Int.reduceToNat]
theorem acts1_1 {w:WorldD} {pos many:Int} {text:List UInt8} {ad:AddrD} {le:LetterD}:acts w ⟨1,1,pos,many,text,ad,le⟩=(postL 1 { w with wroteA:=w.wroteA++text.take (write w.a text).2,a:=(writeAll w.a text).1 } (writeAll w.a text).2,0):=by
 simp [acts,actBad,actW,actE,endAt,setEnd,wrote,gotRead]
theorem acts2_1 {w:WorldD} {pos many:Int} {text:List UInt8} {ad:AddrD} {le:LetterD}:acts w ⟨2,1,pos,many,text,ad,le⟩=(postL 1 { w with readA:=w.readA++(readE w.a many).2,a:=((readE w.a many).1,([]:List LetterD)).1 } ((readE w.a many).1,([]:List LetterD)).2,0):=by
 simp [acts,actBad,actW,actE,endAt,setEnd,wrote,gotRead]
theorem acts3_1 {w:WorldD} {pos many:Int} {text:List UInt8} {ad:AddrD} {le:LetterD}:acts w ⟨3,1,pos,many,text,ad,le⟩=(postL 1 { w with a:=(tick w.a).1 } (tick w.a).2,0):=by
 simp [acts,actBad,actW,actE,endAt,setEnd,wrote,gotRead]
theorem acts4_1 {w:WorldD} {pos many:Int} {text:List UInt8} {ad:AddrD} {le:LetterD}:acts w ⟨4,1,pos,many,text,ad,le⟩=(postL 1 { w with a:=(manage w.a).1 } (manage w.a).2,0):=by
 simp [acts,actBad,actW,actE,endAt,setEnd,wrote,gotRead]
theorem acts5_1 {w:WorldD} {pos many:Int} {text:List UInt8} {ad:AddrD} {le:LetterD} (hsd:sideAt ad.addr=1) (hgood:(addOwn w.a ad).2=true):acts w ⟨5,1,pos,many,text,ad,le⟩=(postL 1 { w with a:=((addOwn w.a ad).1,([]:List LetterD)).1 } ((addOwn w.a ad).1,([]:List LetterD)).2,0):=by
 simp [acts,actBad,actW,actE,endAt,setEnd,wrote,gotRead,hsd,hgood]
theorem acts6_1 {w:WorldD} {pos many:Int} {text:List UInt8} {ad:AddrD} {le:LetterD}:acts w ⟨6,1,pos,many,text,ad,le⟩=(postL 1 { w with a:=(dropOwn w.a pos).1 } (dropOwn w.a pos).2,0):=by
 simp [acts,actBad,actW,actE,endAt,setEnd,wrote,gotRead]
theorem acts7_1 {w:WorldD} {pos many:Int} {text:List UInt8} {ad:AddrD} {le:LetterD}:acts w ⟨7,1,pos,many,text,ad,le⟩=(postL 1 { w with a:=(resetE w.a pos).1 } (resetE w.a pos).2,0):=by
 simp [acts,actBad,actW,actE,endAt,setEnd,wrote,gotRead]
theorem acts5b_1 {w:WorldD} {pos many:Int} {text:List UInt8} {ad:AddrD} {le:LetterD} (hbad:¬ sideAt ad.addr=1∨(addOwn w.a ad).2=false):acts w ⟨5,1,pos,many,text,ad,le⟩=(w,1):=by
 rcases hbad with h|h<;>simp [acts,actBad,endAt,h]
theorem acts1_2 {w:WorldD} {pos many:Int} {text:List UInt8} {ad:AddrD} {le:LetterD}:acts w ⟨1,2,pos,many,text,ad,le⟩=(postL 2 { w with wroteB:=w.wroteB++text.take (write w.b text).2,b:=(writeAll w.b text).1 } (writeAll w.b text).2,0):=by
 simp [acts,actBad,actW,actE,endAt,setEnd,wrote,gotRead]
theorem acts2_2 {w:WorldD} {pos many:Int} {text:List UInt8} {ad:AddrD} {le:LetterD}:acts w ⟨2,2,pos,many,text,ad,le⟩=(postL 2 { w with readB:=w.readB++(readE w.b many).2,b:=((readE w.b many).1,([]:List LetterD)).1 } ((readE w.b many).1,([]:List LetterD)).2,0):=by
 simp [acts,actBad,actW,actE,endAt,setEnd,wrote,gotRead]
theorem acts3_2 {w:WorldD} {pos many:Int} {text:List UInt8} {ad:AddrD} {le:LetterD}:acts w ⟨3,2,pos,many,text,ad,le⟩=(postL 2 { w with b:=(tick w.b).1 } (tick w.b).2,0):=by
 simp [acts,actBad,actW,actE,endAt,setEnd,wrote,gotRead]
theorem acts4_2 {w:WorldD} {pos many:Int} {text:List UInt8} {ad:AddrD} {le:LetterD}:acts w ⟨4,2,pos,many,text,ad,le⟩=(postL 2 { w with b:=(manage w.b).1 } (manage w.b).2,0):=by
 simp [acts,actBad,actW,actE,endAt,setEnd,wrote,gotRead]
theorem acts5_2 {w:WorldD} {pos many:Int} {text:List UInt8} {ad:AddrD} {le:LetterD} (hsd:sideAt ad.addr=2) (hgood:(addOwn w.b ad).2=true):acts w ⟨5,2,pos,many,text,ad,le⟩=(postL 2 { w with b:=((addOwn w.b ad).1,([]:List LetterD)).1 } ((addOwn w.b ad).1,([]:List LetterD)).2,0):=by
 simp [acts,actBad,actW,actE,endAt,setEnd,wrote,gotRead,hsd,hgood]
theorem acts6_2 {w:WorldD} {pos many:Int} {text:List UInt8} {ad:AddrD} {le:LetterD}:acts w ⟨6,2,pos,many,text,ad,le⟩=(postL 2 { w with b:=(dropOwn w.b pos).1 } (dropOwn w.b pos).2,0):=by
 simp [acts,actBad,actW,actE,endAt,setEnd,wrote,gotRead]
theorem acts7_2 {w:WorldD} {pos many:Int} {text:List UInt8} {ad:AddrD} {le:LetterD}:acts w ⟨7,2,pos,many,text,ad,le⟩=(postL 2 { w with b:=(resetE w.b pos).1 } (resetE w.b pos).2,0):=by
 simp [acts,actBad,actW,actE,endAt,setEnd,wrote,gotRead]
theorem acts5b_2 {w:WorldD} {pos many:Int} {text:List UInt8} {ad:AddrD} {le:LetterD} (hbad:¬ sideAt ad.addr=2∨(addOwn w.b ad).2=false):acts w ⟨5,2,pos,many,text,ad,le⟩=(w,1):=by
 rcases hbad with h|h<;>simp [acts,actBad,endAt,h]
theorem acts_bad {w:WorldD} {a:ActD} (h:actBad w a=true):acts w a=(w,1):=if_pos h
theorem acts_good {w:WorldD} {a:ActD} (h:¬ actBad w a=true):(acts w a).2=0:=by rw [acts,if_neg h]
theorem moves_code (w:WorldD) (a:ActD):(moves w a).2=0∨(moves w a).1=w:=by
 unfold moves;repeat' split
 all_goals first|exact .inl rfl|exact .inr rfl
theorem acts_code (w:WorldD) (a:ActD):(acts w a).2=0∨(acts w a).1=w:=by
 by_cases h:actBad w a=true
 ·rw [acts_bad h];exact .inr rfl
 exact .inl (acts_good h)
theorem actOk_parts {a:ActD} (h:actOk a=true):1≤a.kind∧a.kind≤12∧1≤a.side∧a.side≤2∧0≤a.pos∧a.text.length≤1048576:=by
 simp only [actOk,inR,isN,Bool.and_eq_true,decide_eq_true_eq] at h
 omega
theorem impl_acts (w:WorldD) (a:ActD) (hw:SmallD w) (ha:actOk a=true) (h7:a.kind≤7):
  CallA Tryz.prog 18 [.sc (.pt 21 0 0),.ag a.cs] (w.hp true++[some ⟨[w.cs 0],61,47,true,false⟩]) (.sc (.int .i64 (acts w a).2))
  ([none,none,none,none,none,none,none,none,none,none,none,none,none,none,none,none,none,none,none,none,none,some ⟨[WorldD.cs (acts w a).1 22],61,47,true,false⟩]++WorldD.hp (acts w a).1 true):=by
 obtain⟨k1,k2,k3,k4,k5,k6⟩:=actOk_parts ha
 obtain⟨kind,side,pos,many,text,ad,le⟩:=a
 dsimp only at*
 have hs:side=1∨side=2:=by omega
 have hk:kind=1∨kind=2∨kind=3∨kind=4∨kind=5∨kind=6∨kind=7:=by omega
 clear ha k1 k2 k3 k4 h7
 rcases hs with rfl|rfl<;>rcases hk with rfl|rfl|rfl|rfl|rfl|rfl|rfl
 ·rw [acts1_1];exact impl_acts1_1 w pos many text ad le hw k6
 ·rw [acts2_1];exact impl_acts2_1 w pos many text ad le hw k6
 ·rw [acts3_1];exact impl_acts3_1 w pos many text ad le hw k6
 ·rw [acts4_1];exact impl_acts4_1 w pos many text ad le hw k6
 ·by_cases hb:sideAt ad.addr=1∧(addOwn w.a ad).2=true
  ·rw [acts5_1 hb.1 hb.2];exact impl_acts5_1 w pos many text ad le hw k6 hb.1 hb.2
  have hb:¬ sideAt ad.addr=1∨(addOwn w.a ad).2=false:=by
   by_cases h0:sideAt ad.addr=1
   ·exact .inr (by cases h1:(addOwn w.a ad).2;rfl;exact absurd ⟨h0,h1⟩ hb)
   exact .inl h0
  rw [acts5b_1 hb];exact impl_acts5b_1 w pos many text ad le hw hb
 ·rw [acts6_1];exact impl_acts6_1 w pos many text ad le hw k6
 ·rw [acts7_1];exact impl_acts7_1 w pos many text ad le hw k6
 ·rw [acts1_2];exact impl_acts1_2 w pos many text ad le hw k6
 ·rw [acts2_2];exact impl_acts2_2 w pos many text ad le hw k6
 ·rw [acts3_2];exact impl_acts3_2 w pos many text ad le hw k6
 ·rw [acts4_2];exact impl_acts4_2 w pos many text ad le hw k6
 ·by_cases hb:sideAt ad.addr=2∧(addOwn w.b ad).2=true
  ·rw [acts5_2 hb.1 hb.2];exact impl_acts5_2 w pos many text ad le hw k6 hb.1 hb.2
  have hb:¬ sideAt ad.addr=2∨(addOwn w.b ad).2=false:=by
   by_cases h0:sideAt ad.addr=2
   ·exact .inr (by cases h1:(addOwn w.b ad).2;rfl;exact absurd ⟨h0,h1⟩ hb)
   exact .inl h0
  rw [acts5b_2 hb];exact impl_acts5b_2 w pos many text ad le hw hb
 ·rw [acts6_2];exact impl_acts6_2 w pos many text ad le hw k6
 rw [acts7_2];exact impl_acts7_2 w pos many text ad le hw k6
theorem impl_moves (w:WorldD) (a:ActD) (hw:SmallD w) (ha:actOk a=true) (h7:¬ a.kind≤7):
  CallA Tryz.prog 19 [.sc (.pt 21 0 0),.ag a.cs] (w.hp true++[some ⟨[w.cs 0],61,47,true,false⟩]) (.sc (.int .i64 (moves w a).2))
  ([none,none,none,none,none,none,none,none,none,none,none,none,none,none,none,none,none,none,none,none,none,some ⟨[WorldD.cs (moves w a).1 22],61,47,true,false⟩]++WorldD.hp (moves w a).1 true):=by
 obtain⟨k1,k2,k3,k4,k5,k6⟩:=actOk_parts ha
 obtain⟨kind,side,pos,many,text,ad,le⟩:=a
 dsimp only at*
 have hk:kind=8∨kind=9∨kind=10∨kind=11∨kind=12:=by omega
 obtain⟨p,rfl⟩:=Int.eq_ofNat_of_zero_le k5
 rcases hk with rfl|rfl|rfl|rfl|rfl
 ·exact impl_moves8 w side many p text ad le hw
 ·exact impl_moves9 w side many p text ad le hw
 ·exact impl_moves10 w side many p text ad le hw
 ·exact impl_moves11 w side many p text ad le hw
 exact impl_moves12 w side many p text ad le hw
end
section
open Go.RowKit
theorem impl_ActOk (a:ActD):CallA Tryz.prog 8 [.ag a.cs] [] (.sc (.bo (actOk a))) []:=by
 refine qE Tryz.func8 Tryz.ntmps8 Tryz.results8 fun E hE=>?_
 refine qK (impl_within _ _ _) [] ?_
 refine qB (fun h1=>?_) fun h1=>?_
 ·refine qK (impl_within _ _ _) [] ?_
  refine qB (fun h2=>?_) fun h2=>?_
  ·refine qK (impl_isNumber [a.pos,a.many] (by show 2≤1000000;decide)) (qA [1]) ?_
   refine qB (fun h3=>?_) fun h3=>?_
   ·refine qJ [] ?_
    simp only [List.all_cons,List.all_nil,Bool.and_true,Bool.and_eq_true] at h3
    simp [actOk,h1,h2,h3.1,h3.2]
    omega
   refine qJ [] ?_
   simp only [List.all_cons,List.all_nil,Bool.and_true] at h3
   simp only [actOk,h3,Bool.and_false,Bool.false_and]
  refine qJ [] ?_
  simp [actOk,h1,h2]
 refine qJ [] ?_
 simp [actOk,h1]
end
section
open Go.RowKit
theorem impl_Done (w:WorldD) (a:ActD) (hw:SmallD w):CallA Tryz.prog 7 [.ag (w.cs 0),.ag a.cs] (w.hp false) (.tu [.ag ((doneW w a).1.cs 21),.sc (.int .i64 (doneW w a).2)]) (w.hp false++(doneW w a).1.hp true):=by
 have hC:=impl_copyWorld w hw.p.s
 have hA:=impl_ActOk a
 cases hok:actOk a with
 |false=>
  rw [show doneW w a=(w,3) from by rw [doneW,if_neg (by simp [hok])]]
  rw [hok] at hA
  dsimp only
  refine callA_of Tryz.func7 (by kernel_rfl) rfl fun E hE=>run_den 400 ?_
  simp (disch:=omega) only [Tryz.ntmps7,Tryz.results7,go_sem,Nat.reduceEqDiff,Nat.reduceAdd,Nat.reduceSub,Int.reduceAdd,Int.reduceSub,Int.reduceToNat]
  refine den_call (by (try simp (disch:=omega) only [go_sem,List.length_set,Nat.reduceEqDiff,Nat.reduceAdd,Nat.reduceSub,Int.reduceAdd,Int.reduceSub,Int.reduceToNat])<;>omega) (hA) [] (by simp only [go_sem];repeat' first|rfl|constructor|(rw [List.map_set];rfl)|(simp [List.map_take,List.map_drop]<;>omega)) (by rfl) (run_den 400 ?_)
  simp (disch:=omega) only [go_sem,Nat.reduceEqDiff,Nat.reduceAdd,Nat.reduceSub,Int.reduceAdd,Int.reduceSub,Int.reduceToNat]
  refine den_call (by (try simp (disch:=omega) only [go_sem,List.length_set,Nat.reduceEqDiff,Nat.reduceAdd,Nat.reduceSub,Int.reduceAdd,Int.reduceSub,Int.reduceToNat])<;>omega) (hC) [some (0,none),some (1,none),some (2,none),some (3,none),some (4,none),some (5,none),some (6,none),some (7,none),some (8,none),some (9,none),some (10,none),some (11,none),some (12,none),some (13,none),some (14,none),some (15,none),some (16,none),some (17,none),some (18,none),some (19,none),some (20,none)] (by simp only [go_sem];repeat' first|rfl|constructor|(rw [List.map_set];rfl)|(simp [List.map_take,List.map_drop]<;>omega)) (by rfl) (run_den 400 ?_)
  simp (disch:=omega) only [go_sem,Nat.reduceEqDiff,Nat.reduceAdd,Nat.reduceSub,Int.reduceAdd,Int.reduceSub,Int.reduceToNat]
  refine den_fin [some (0,none),some (1,none),some (2,none),some (3,none),some (4,none),some (5,none),some (6,none),some (7,none),some (8,none),some (9,none),some (10,none),some (11,none),some (12,none),some (13,none),some (14,none),some (15,none),some (16,none),some (17,none),some (18,none),some (19,none),some (20,none),some (24,none),some (25,none),some (26,none),some (27,none),some (28,none),some (29,none),some (30,none),some (31,none),some (32,none),some (33,none),some (34,none),some (35,none),some (36,none),some (37,none),some (38,none),some (39,none),some (40,none),some (41,none),some (42,none),some (43,none),some (44,none)] (by (try simp (disch:=omega) only [go_sem,List.length_set,Nat.reduceEqDiff,Nat.reduceAdd,Nat.reduceSub,Int.reduceAdd,Int.reduceSub,Int.reduceToNat])<;>omega) _ (by simp only [go_sem];rfl) (by rfl) (by rfl) ?_
  simp (disch:=omega) only [go_sem,Nat.reduceEqDiff,Nat.reduceAdd,Nat.reduceSub,Int.reduceAdd,Int.reduceSub,Int.reduceToNat]
 |true=>
  rw [hok] at hA
  by_cases h7:a.kind≤7
  ·have hM:=impl_acts w a hw hok h7
   have hcode:=acts_code w a
   rw [show doneW w a=acts w a from by rw [doneW,if_pos hok,if_pos h7]]
   obtain⟨R,hR⟩:∃ R,R=acts w a:=⟨_,rfl⟩
   rw [←hR] at hM hcode⊢
   clear hR
   obtain⟨r,c⟩:=R
   dsimp only at hM hcode⊢
   refine callA_of Tryz.func7 (by kernel_rfl) rfl fun E hE=>run_den 400 ?_
   simp (disch:=omega) only [Tryz.ntmps7,Tryz.results7,go_sem,Nat.reduceEqDiff,Nat.reduceAdd,Nat.reduceSub,Int.reduceAdd,Int.reduceSub,Int.reduceToNat]
   refine den_call (by (try simp (disch:=omega) only [go_sem,List.length_set,Nat.reduceEqDiff,Nat.reduceAdd,Nat.reduceSub,Int.reduceAdd,Int.reduceSub,Int.reduceToNat])<;>omega) (hA) [] (by simp only [go_sem];repeat' first|rfl|constructor|(rw [List.map_set];rfl)|(simp [List.map_take,List.map_drop]<;>omega)) (by rfl) (run_den 400 ?_)
   simp (disch:=omega) only [go_sem,Nat.reduceEqDiff,Nat.reduceAdd,Nat.reduceSub,Int.reduceAdd,Int.reduceSub,Int.reduceToNat]
   refine den_call (by (try simp (disch:=omega) only [go_sem,List.length_set,Nat.reduceEqDiff,Nat.reduceAdd,Nat.reduceSub,Int.reduceAdd,Int.reduceSub,Int.reduceToNat])<;>omega) (hC) [some (0,none),some (1,none),some (2,none),some (3,none),some (4,none),some (5,none),some (6,none),some (7,none),some (8,none),some (9,none),some (10,none),some (11,none),some (12,none),some (13,none),some (14,none),some (15,none),some (16,none),some (17,none),some (18,none),some (19,none),some (20,none)] (by simp only [go_sem];repeat' first|rfl|constructor|(rw [List.map_set];rfl)|(simp [List.map_take,List.map_drop]<;>omega)) (by rfl) (run_den 400 ?_)
   simp (disch:=omega) only [go_sem,Nat.reduceEqDiff,Nat.reduceAdd,Nat.reduceSub,Int.reduceAdd,Int.reduceSub,Int.reduceToNat]
   refine den_call (by (try simp (disch:=omega) only [go_sem,List.length_set,Nat.reduceEqDiff,Nat.reduceAdd,Nat.reduceSub,Int.reduceAdd,Int.reduceSub,Int.reduceToNat])<;>omega) (hM) [some (24,none),some (25,none),some (26,none),some (27,none),some (28,none),some (29,none),some (30,none),some (31,none),some (32,none),some (33,none),some (34,none),some (35,none),some (36,none),some (37,none),some (38,none),some (39,none),some (40,none),some (41,none),some (42,none),some (43,none),some (44,none),some (45,none)] (by simp only [go_sem];repeat' first|rfl|constructor|(rw [List.map_set];rfl)|(simp [List.map_take,List.map_drop]<;>omega)) (by rfl) (run_den 400 ?_)
   simp (disch:=omega) only [go_sem,Nat.reduceEqDiff,Nat.reduceAdd,Nat.reduceSub,Int.reduceAdd,Int.reduceSub,Int.reduceToNat]
   by_cases hz:c=0
   ·subst hz
    try simp (disch:=omega) only [go_sem,Nat.reduceEqDiff,Nat.reduceAdd,Nat.reduceSub,Int.reduceAdd,Int.reduceSub,Int.reduceToNat]
    refine den_fin [some (0,none),some (1,none),some (2,none),some (3,none),some (4,none),some (5,none),some (6,none),some (7,none),some (8,none),some (9,none),some (10,none),some (11,none),some (12,none),some (13,none),some (14,none),some (15,none),some (16,none),some (17,none),some (18,none),some (19,none),some (20,none),some (46,none),some (47,none),some (48,none),some (49,none),some (50,none),some (51,none),some (52,none),some (53,none),some (54,none),some (55,none),some (56,none),some (57,none),some (58,none),some (59,none),some (60,none),some (61,none),some (62,none),some (63,none),some (64,none),some (65,none),some (66,none)] (by (try simp (disch:=omega) only [go_sem,List.length_set,Nat.reduceEqDiff,Nat.reduceAdd,Nat.reduceSub,Int.reduceAdd,Int.reduceSub,Int.reduceToNat])<;>omega) _ (by simp only [go_sem];rfl) (by rfl) (by rfl) ?_
    simp (disch:=omega) only [go_sem,Nat.reduceEqDiff,Nat.reduceAdd,Nat.reduceSub,Int.reduceAdd,Int.reduceSub,Int.reduceToNat]
   have hr:r=w:=by rcases hcode with h|h;exact absurd h hz;exact h
   subst hr
   try simp (disch:=omega) only [go_sem,Nat.reduceEqDiff,Nat.reduceAdd,Nat.reduceSub,Int.reduceAdd,Int.reduceSub,Int.reduceToNat]
   refine den_call (by (try simp (disch:=omega) only [go_sem,List.length_set,Nat.reduceEqDiff,Nat.reduceAdd,Nat.reduceSub,Int.reduceAdd,Int.reduceSub,Int.reduceToNat])<;>omega) (hC) [some (0,none),some (1,none),some (2,none),some (3,none),some (4,none),some (5,none),some (6,none),some (7,none),some (8,none),some (9,none),some (10,none),some (11,none),some (12,none),some (13,none),some (14,none),some (15,none),some (16,none),some (17,none),some (18,none),some (19,none),some (20,none)] (by simp only [go_sem];repeat' first|rfl|constructor|(rw [List.map_set];rfl)|(simp [List.map_take,List.map_drop]<;>omega)) (by rfl) (run_den 400 ?_)
   simp (disch:=omega) only [go_sem,Nat.reduceEqDiff,Nat.reduceAdd,Nat.reduceSub,Int.reduceAdd,Int.reduceSub,Int.reduceToNat]
   refine den_fin [some (0,none),some (1,none),some (2,none),some (3,none),some (4,none),some (5,none),some (6,none),some (7,none),some (8,none),some (9,none),some (10,none),some (11,none),some (12,none),some (13,none),some (14,none),some (15,none),some (16,none),some (17,none),some (18,none),some (19,none),some (20,none),some (67,none),some (68,none),some (69,none),some (70,none),some (71,none),some (72,none),some (73,none),some (74,none),some (75,none),some (76,none),some (77,none),some (78,none),some (79,none),some (80,none),some (81,none),some (82,none),some (83,none),some (84,none),some (85,none),some (86,none),some (87,none)] (by (try simp (disch:=omega) only [go_sem,List.length_set,Nat.reduceEqDiff,Nat.reduceAdd,Nat.reduceSub,Int.reduceAdd,Int.reduceSub,Int.reduceToNat])<;>omega) _ (by simp only [go_sem];rfl) (by rfl) (by rfl) ?_
   simp (disch:=omega) only [go_sem,Nat.reduceEqDiff,Nat.reduceAdd,Nat.reduceSub,Int.reduceAdd,Int.reduceSub,Int.reduceToNat]
  have hM:=impl_moves w a hw hok h7
  have hcode:=moves_code w a
  rw [show doneW w a=moves w a from by rw [doneW,if_pos hok,if_neg h7]]
  obtain⟨R,hR⟩:∃ R,R=moves w a:=⟨_,rfl⟩
  rw [←hR] at hM hcode⊢
  clear hR
  obtain⟨r,c⟩:=R
  dsimp only at hM hcode⊢
  refine callA_of Tryz.func7 (by kernel_rfl) rfl fun E hE=>run_den 400 ?_
  simp (disch:=omega) only [Tryz.ntmps7,Tryz.results7,go_sem,Nat.reduceEqDiff,Nat.reduceAdd,Nat.reduceSub,Int.reduceAdd,Int.reduceSub,Int.reduceToNat]
  refine den_call (by (try simp (disch:=omega) only [go_sem,List.length_set,Nat.reduceEqDiff,Nat.reduceAdd,Nat.reduceSub,Int.reduceAdd,Int.reduceSub,Int.reduceToNat])<;>omega) (hA) [] (by simp only [go_sem];repeat' first|rfl|constructor|(rw [List.map_set];rfl)|(simp [List.map_take,List.map_drop]<;>omega)) (by rfl) (run_den 400 ?_)
  simp (disch:=omega) only [go_sem,Nat.reduceEqDiff,Nat.reduceAdd,Nat.reduceSub,Int.reduceAdd,Int.reduceSub,Int.reduceToNat]
  refine den_call (by (try simp (disch:=omega) only [go_sem,List.length_set,Nat.reduceEqDiff,Nat.reduceAdd,Nat.reduceSub,Int.reduceAdd,Int.reduceSub,Int.reduceToNat])<;>omega) (hC) [some (0,none),some (1,none),some (2,none),some (3,none),some (4,none),some (5,none),some (6,none),some (7,none),some (8,none),some (9,none),some (10,none),some (11,none),some (12,none),some (13,none),some (14,none),some (15,none),some (16,none),some (17,none),some (18,none),some (19,none),some (20,none)] (by simp only [go_sem];repeat' first|rfl|constructor|(rw [List.map_set];rfl)|(simp [List.map_take,List.map_drop]<;>omega)) (by rfl) (run_den 400 ?_)
  simp (disch:=omega) only [go_sem,Nat.reduceEqDiff,Nat.reduceAdd,Nat.reduceSub,Int.reduceAdd,Int.reduceSub,Int.reduceToNat]
  refine den_call (by (try simp (disch:=omega) only [go_sem,List.length_set,Nat.reduceEqDiff,Nat.reduceAdd,Nat.reduceSub,Int.reduceAdd,Int.reduceSub,Int.reduceToNat])<;>omega) (hM) [some (24,none),some (25,none),some (26,none),some (27,none),some (28,none),some (29,none),some (30,none),some (31,none),some (32,none),some (33,none),some (34,none),some (35,none),some (36,none),some (37,none),some (38,none),some (39,none),some (40,none),some (41,none),some (42,none),some (43,none),some (44,none),some (45,none)] (by simp only [go_sem];repeat' first|rfl|constructor|(rw [List.map_set];rfl)|(simp [List.map_take,List.map_drop]<;>omega)) (by rfl) (run_den 400 ?_)
  simp (disch:=omega) only [go_sem,Nat.reduceEqDiff,Nat.reduceAdd,Nat.reduceSub,Int.reduceAdd,Int.reduceSub,Int.reduceToNat]
  by_cases hz:c=0
  ·subst hz
   try simp (disch:=omega) only [go_sem,Nat.reduceEqDiff,Nat.reduceAdd,Nat.reduceSub,Int.reduceAdd,Int.reduceSub,Int.reduceToNat]
   refine den_fin [some (0,none),some (1,none),some (2,none),some (3,none),some (4,none),some (5,none),some (6,none),some (7,none),some (8,none),some (9,none),some (10,none),some (11,none),some (12,none),some (13,none),some (14,none),some (15,none),some (16,none),some (17,none),some (18,none),some (19,none),some (20,none),some (46,none),some (47,none),some (48,none),some (49,none),some (50,none),some (51,none),some (52,none),some (53,none),some (54,none),some (55,none),some (56,none),some (57,none),some (58,none),some (59,none),some (60,none),some (61,none),some (62,none),some (63,none),some (64,none),some (65,none),some (66,none)] (by (try simp (disch:=omega) only [go_sem,List.length_set,Nat.reduceEqDiff,Nat.reduceAdd,Nat.reduceSub,Int.reduceAdd,Int.reduceSub,Int.reduceToNat])<;>omega) _ (by simp only [go_sem];rfl) (by rfl) (by rfl) ?_
   simp (disch:=omega) only [go_sem,Nat.reduceEqDiff,Nat.reduceAdd,Nat.reduceSub,Int.reduceAdd,Int.reduceSub,Int.reduceToNat]
  have hr:r=w:=by rcases hcode with h|h;exact absurd h hz;exact h
  subst hr
  try simp (disch:=omega) only [go_sem,Nat.reduceEqDiff,Nat.reduceAdd,Nat.reduceSub,Int.reduceAdd,Int.reduceSub,Int.reduceToNat]
  refine den_call (by (try simp (disch:=omega) only [go_sem,List.length_set,Nat.reduceEqDiff,Nat.reduceAdd,Nat.reduceSub,Int.reduceAdd,Int.reduceSub,Int.reduceToNat])<;>omega) (hC) [some (0,none),some (1,none),some (2,none),some (3,none),some (4,none),some (5,none),some (6,none),some (7,none),some (8,none),some (9,none),some (10,none),some (11,none),some (12,none),some (13,none),some (14,none),some (15,none),some (16,none),some (17,none),some (18,none),some (19,none),some (20,none)] (by simp only [go_sem];repeat' first|rfl|constructor|(rw [List.map_set];rfl)|(simp [List.map_take,List.map_drop]<;>omega)) (by rfl) (run_den 400 ?_)
  simp (disch:=omega) only [go_sem,Nat.reduceEqDiff,Nat.reduceAdd,Nat.reduceSub,Int.reduceAdd,Int.reduceSub,Int.reduceToNat]
  refine den_fin [some (0,none),some (1,none),some (2,none),some (3,none),some (4,none),some (5,none),some (6,none),some (7,none),some (8,none),some (9,none),some (10,none),some (11,none),some (12,none),some (13,none),some (14,none),some (15,none),some (16,none),some (17,none),some (18,none),some (19,none),some (20,none),some (67,none),some (68,none),some (69,none),some (70,none),some (71,none),some (72,none),some (73,none),some (74,none),some (75,none),some (76,none),some (77,none),some (78,none),some (79,none),some (80,none),some (81,none),some (82,none),some (83,none),some (84,none),some (85,none),some (86,none),some (87,none)] (by (try simp (disch:=omega) only [go_sem,List.length_set,Nat.reduceEqDiff,Nat.reduceAdd,Nat.reduceSub,Int.reduceAdd,Int.reduceSub,Int.reduceToNat])<;>omega) _ (by simp only [go_sem];rfl) (by rfl) (by rfl) ?_
  simp (disch:=omega) only [go_sem,Nat.reduceEqDiff,Nat.reduceAdd,Nat.reduceSub,Int.reduceAdd,Int.reduceSub,Int.reduceToNat]
end
section
open Go.RowKit
end
section
open Go.RowKit
def emptyE (e:EndD):Bool:=smallB e && decide (e.inp.list=[]) && decide (e.inp.ready.length=0) && decide (e.out.text.length=0) && decide (e.subs.length≤100) && decide (e.far.length≤100)
theorem emptyE_good {e:EndD} (h:emptyE e=true):GoodE e∧FewE e:=by
 simp only [emptyE,Bool.and_eq_true,decide_eq_true_eq] at h
 obtain⟨⟨⟨⟨⟨h1,h2⟩,h3⟩,h4⟩,h5⟩,h6⟩:=h
 exact⟨⟨smallB_iff h1,⟨by rw [h2];decide,by omega,fun x hx=>by rw [h2] at hx;simp at hx⟩,by omega⟩,h5,h6⟩
theorem meet_empty:(pols.all fun p=>smallB (idleE 1 p) && smallB (idleE 2 p) && emptyE (meet (idleE 1 p) (idleE 2 p)).1 && emptyE (meet (idleE 1 p) (idleE 2 p)).2.1)=true:=by decide+kernel
def world0 (x y:EndD):WorldD:=⟨x,y,[],[],[],[],[],[],⟨[5,7],[]⟩,[],[],[]⟩
structure Fine0 (w:WorldD):Prop where
 g:GoodW w 0
 f:FewW w
 bag:w.bag=[]
 past:w.past=[]
 tags:w.known.tags=[]
theorem skol {b:List UInt8} {α:Type} [Inhabited α] {C:CurD→α→CurD→Prop} (h:∀ c,c.ok b→∃ x c',C c x c'):∃ F:CurD→α×CurD,∀ c,c.ok b→C c (F c).1 (F c).2:=by
 classical
 refine⟨fun c=>if hc:c.ok b then ((h c hc).choose,(h c hc).choose_spec.choose) else (default,c),fun c hc=>?_⟩
 simp only [dif_pos hc]
 exact (h c hc).choose_spec.choose_spec
def actsD (F:CurD→ActD×CurD):Nat→CurD→List ActD×CurD
 |0,c=>([],c)
 |n+1,c=>((F c).1::(actsD F n (F c).2).1,(actsD F n (F c).2).2)
def FineA (a:ActD):Prop:=a.wf∧a.text.length≤200∧actOk a=true
theorem actsD_ok {b:List UInt8} {F:CurD→ActD×CurD} (hF:∀ c,c.ok b→(F c).2.ok b∧FineA (F c).1):∀ (n:Nat) (c:CurD),c.ok b→(actsD F n c).2.ok b∧(actsD F n c).1.length=n∧∀ a∈(actsD F n c).1,FineA a
 |0,c,h=>⟨h,rfl,fun a ha=>by simp [actsD] at ha⟩
 |n+1,c,h=>by
  obtain⟨h1,h2⟩:=hF c h
  obtain⟨h3,h4,h5⟩:=actsD_ok hF n (F c).2 h1
  refine⟨h3,by simp only [actsD,List.length_cons,h4],fun a ha=>?_⟩
  simp only [actsD,List.mem_cons] at ha
  rcases ha with rfl|ha
  ·exact h2
  exact h5 a ha
theorem spec_l24Acts (b:List UInt8) (c:CurD) (hc:c.ok b) (m:Int) (hm:1≤m∧m≤120):∃ (l:List ActD) (c':CurD),c'.ok b∧l.length≤120∧(∀ a∈l,FineA a)∧CallA Tryz.prog 14 [.sc (.pt 1 0 0),.sc (.int .i64 m)] (c.hp b) (.sc (.sl 2 0 l.length)) (c'.hp b++[some ⟨l.map ActD.cs,28,59,true,true⟩]):=by
 obtain⟨F,hF⟩:=skol (b:=b) (spec_l24Act b)
 have h1:=spec_l01Below b c hc m
 have o1:=CurD.below_ok hc m
 have b1:=c.below_lt b (n:=m) (by omega)
 generalize c.below b m=r1 at h1 o1 b1
 obtain⟨v,c1⟩:=r1
 dsimp only at h1 o1 b1
 obtain⟨n,rfl⟩:=Int.eq_ofNat_of_zero_le b1.1
 obtain⟨q1,q2,q3⟩:=actsD_ok (F:=F) (fun c h=>⟨(hF c h).1,(hF c h).2.1⟩) n c1 o1
 obtain⟨R,hR⟩:∃ R,R=actsD F n c1:=⟨_,rfl⟩
 rw [←hR] at q1 q2 q3
 refine⟨R.1,R.2,q1,by omega,q3,?_⟩
 refine qE Tryz.func14 Tryz.ntmps14 Tryz.results14 fun E hE=>?_
 refine qK (h1) (qA [0,1]) ?_
 refine den_lp 2 hE (fun s (y:List ActD×CurD)=>s.at [1,8,9,10,11,12,13,14,15,16,17,18,19,20,21] [(7,.sc (.int .i64 (y.1.length:Nat))),(5,.sc (.sl 2 0 y.1.length))] (y.2.hp b++[some ⟨y.1.map ActD.cs,28,59,true,true⟩])) (fun (y:List ActD×CurD)=>y.1.length≤n∧y.2.ok b∧(y.1++(actsD F (n - y.1.length) y.2).1,(actsD F (n - y.1.length) y.2).2)=R) (fun (y:List ActD×CurD)=>n - y.1.length) ([],c1) (qA [0,1,2]) (qC) (⟨Nat.zero_le _,o1,hR.symm⟩) (weak_mk (by rfl) (by rfl) ?_) fun y hy N hN=>?_
 ·exact qY
 obtain⟨acc,c2⟩:=y
 obtain⟨f1,f2,f3⟩:=hy
 dsimp only at f1 f2 f3
 obtain⟨k1,k2,k3⟩:=hF c2 f2
 refine qR ?_
 refine qB (fun h=>?_) fun h=>?_
 ·rw [show n - acc.length=(n - (acc.length+1))+1 from by omega,actsD] at f3
  generalize F c2=z at k1 k2 k3 f3
  obtain⟨a,c3⟩:=z
  dsimp only at k1 k2 k3 f3
  refine qK (k3) (qA [0,1]) ?_
  refine⟨qC,hN _ (acc++[a],c3) (qA [0,1,4]) (by (try dsimp only);exact⟨by simp;omega,k1,by rw [List.length_append,List.length_singleton,List.append_assoc];exact f3⟩) (by simp;omega) (weak_mk (by rfl) (by rfl) ?_)⟩
  try simp (disch:=omega) only [go_sem,Nat.reduceEqDiff,Nat.reduceAdd,Nat.reduceSub,Int.reduceAdd,Int.reduceSub,Int.reduceToNat]
  try simp [ActD.cs]
 rw [show n - acc.length=0 from by omega] at f3
 simp only [actsD,List.append_nil] at f3
 subst f3
 exact qF (qA [0,1,2])
def livedW:List ActD→WorldD→List Int→WorldD×List Int
 |[],w,cs=>(w,cs)
 |a::l,w,cs=>livedW l (doneW w a).1 (cs++[(doneW w a).2])
theorem livedW_step {l:List ActD} {k:Nat} {w:WorldD} {cs:List Int} (h:k < l.length):livedW (l.drop k) w cs=livedW (l.drop (k+1)) (doneW w l[k]).1 (cs++[(doneW w l[k]).2]):=by
 rw [List.drop_eq_getElem_cons h,livedW]
theorem livedW_end {l:List ActD} {k:Nat} {w:WorldD} {cs:List Int} (h:l.length≤k):livedW (l.drop k) w cs=(w,cs):=by
 rw [List.drop_eq_nil_of_le h,livedW]
theorem livedW_inv {Q:WorldD→Nat→Prop} (hQ:∀ w k a,Q w k→a.text.length≤200→Q (doneW w a).1 (k+1)):∀ {l:List ActD} {w:WorldD} {cs:List Int} {k:Nat},Q w k→(∀ a∈l,FineA a)→Q (livedW l w cs).1 (k+l.length)∧(livedW l w cs).2.length=cs.length+l.length
 |[],w,cs,k,h,_=>⟨h,rfl⟩
 |a::l,w,cs,k,h,hl=>by
  have h1:=livedW_inv hQ (l:=l) (cs:=cs++[(doneW w a).2]) (hQ w k a h (hl a (by simp)).2.1) (fun x hx=>hl x (by simp [hx]))
  rw [livedW,List.length_cons]
  refine⟨by rw [show k+(l.length+1)=k+1+l.length by omega];exact h1.1,by rw [h1.2,List.length_append,List.length_singleton];omega⟩
theorem GoodW.mono {w:WorldD} {k j:Nat} (h:GoodW w k) (hk:k≤j):GoodW w j:=⟨h.a,h.b,h.r,by have:=h.wa;omega,by have:=h.wb;omega,by have:=h.ra;omega,by have:=h.rb;omega⟩
end
section
open Go.RowKit
theorem impl_EndNew (who n:Int) (p:PolicyD):CallA Tryz.prog 15 [.sc (.int .i64 who),.sc (.int .i64 n),.ag p.cs] [] (.tu [.ag ((endNew who n p).1.cs 0),.sc (.bo (endNew who n p).2)]) ((endNew who n p).1.hp true):=by
 have hA:=impl_AddrsOk (ownOne n) (by simp [ownOne])
 have hB:=impl_BucketNew 1 3
 rw [bucket13,if_pos rfl] at hB
 have hf:= @endNew_f who n p
 have ht:= @endNew_t who n p
 have hl:(ownOne n).length=1:=rfl
 have hcs:(ownOne n).map AddrD.cs=[AddrD.cs ⟨0,n,false,true⟩]:=rfl
 rw [hl,hcs] at hA
 generalize endNew who n p=R at*
 refine qE Tryz.func15 Tryz.ntmps15 Tryz.results15 fun E hE=>?_
 refine qK (impl_within _ _ _) [] ?_
 refine qB (fun h1=>?_) fun h1=>?_
 ·refine qK (impl_PolicyOk p) [] ?_
  refine qB (fun h2=>?_) fun h2=>?_
  ·refine qK (hA) (qA [2]) ?_
   refine qB (fun h3=>?_) fun h3=>?_
   ·rw [hf (by simp [h3])]
    refine qJ [none,none,none,none,none,none,none] ?_
    simp [endZero]
   rw [ht (by simp [h1,h2,h3])]
   simp only [inR,Bool.and_eq_true,decide_eq_true_eq] at h1
   refine qX ?_
   refine qK (hB) [] ?_
   refine den_fin [some (2,none),none,none,none,none,none,none] (qC) _ (by simp only [go_sem];rfl) (by rfl) (by rfl) ?_
   simp (disch:=omega) only [go_sem,Nat.reduceEqDiff,Nat.reduceAdd,Nat.reduceSub,Int.reduceAdd,Int.reduceSub,Int.reduceToNat]
   try simp [ownOne,AddrD.cs]
  rw [hf (by simp [h2])]
  refine qX ?_
  refine qJ [none,none,none,none,none,none,none] ?_
  simp [endZero]
 rw [hf (by simp [h1])]
 refine qX ?_
 refine qJ [none,none,none,none,none,none,none] ?_
 simp [endZero]
theorem impl_WorldNewD (p:PolicyD) (hp:p∈pols):∃ w:WorldD,Fine0 w∧CallA Tryz.prog 6 [.ag p.cs] [] (.tu [.ag (w.cs 0),.sc (.bo true)]) (w.hp true):=by
 have h1:=impl_EndNew 1 11 p
 have h2:=impl_EndNew 2 21 p
 have i1:=idle_new (s:=1) (by omega) hp
 have i2:=idle_new (s:=2) (by omega) hp
 rw [show (10*1+1:Int)=11 from rfl] at i1
 rw [show (10*2+1:Int)=21 from rfl] at i2
 rw [i1] at h1
 rw [i2] at h2
 have hm:=List.all_eq_true.1 meet_empty p hp
 simp only [Bool.and_eq_true] at hm
 obtain⟨⟨⟨m1,m2⟩,m3⟩,m4⟩:=hm
 have hM:=impl_Meet (idleE 1 p) (idleE 2 p) (smallB_iff m1) (smallB_iff m2)
 obtain⟨g1,f1⟩:=emptyE_good m3
 obtain⟨g2,f2⟩:=emptyE_good m4
 clear i1 i2 m1 m2 m3 m4
 generalize idleE 1 p=a at*
 generalize idleE 2 p=c at*
 obtain⟨M,hMM⟩:∃ M,M=meet a c:=⟨_,rfl⟩
 rw [←hMM] at hM g1 f1 g2 f2
 clear hMM
 obtain⟨X,Y,ok⟩:=M
 dsimp only at hM g1 f1 g2 f2
 refine⟨world0 X Y,⟨⟨g1,g2,⟨by simp [world0],by simp [world0],by simp [world0],by simp [world0],by simp [world0],by simp [world0],by simp [world0]⟩,by simp [world0],by simp [world0],by simp [world0],by simp [world0]⟩,⟨f1,f2⟩,rfl,rfl,rfl⟩,?_⟩
 refine qE Tryz.func6 Tryz.ntmps6 Tryz.results6 fun E hE=>?_
 refine qK (h1) [] ?_
 refine qK (h2) [] ?_
 refine qK (hM) (qA [2,3,4,5,6,7,8,10,11,12,13,14,15,16]) ?_
 refine den_fin [some (20,none),some (21,none),some (22,none),some (23,none),some (24,none),some (25,none),some (26,none),some (27,none),some (28,none),some (29,none),some (30,none),some (31,none),some (32,none),some (33,none),none,none,some (18,none),none,none,none,none] (qC) _ (by simp only [go_sem];rfl) (by rfl) (by rfl) ?_
 simp (disch:=omega) only [go_sem,Nat.reduceEqDiff,Nat.reduceAdd,Nat.reduceSub,Int.reduceAdd,Int.reduceSub,Int.reduceToNat]
 try simp [world0,intC]
theorem impl_LivedD (p:PolicyD) (w0:WorldD) (h0:Fine0 w0) (hW:CallA Tryz.prog 6 [.ag p.cs] [] (.tu [.ag (w0.cs 0),.sc (.bo true)]) (w0.hp true)) (l:List ActD) (hl:l.length≤120) (ha:∀ a∈l,FineA a):CallA Tryz.prog 9 [.ag p.cs,.sc (.sl 0 0 l.length)] [some ⟨l.map ActD.cs,28,59,false,true⟩]
  (.tu [.ag ((livedW l w0 []).1.cs 1),.sc (.sl 22 0 (livedW l w0 []).2.length)]) ([some ⟨l.map ActD.cs,28,59,false,true⟩]++((livedW l w0 []).1.hp true++[some ⟨(livedW l w0 []).2.map intC,1,3,true,true⟩])):=by
 obtain⟨R,hR⟩:∃ R,R=livedW l w0 []:=⟨_,rfl⟩
 rw [←hR]
 refine qEO Tryz.func9 Tryz.ntmps9 Tryz.results9 fun E hE=>?_
 refine qK (hW) [] ?_
 refine den_lpO 1 hE (fun s (y:Nat×WorldD×List Int)=>s.at [0,1,2,7,10,11,12,13,14,15,16,17,18,19,20,21,22,23,24,25,29,30,31,32,33,34,35,36,37,38,39,40,41,42,43] [(28,.sc (.int .i64 (y.1:Nat))),(8,.sc (.sl 25 0 y.2.2.length))] ((s.hp.take 3)++(y.2.1.hp true++[some ⟨[WorldD.cs y.2.1 3],61,47,true,false⟩,some ⟨y.2.2.map intC,1,3,true,true⟩]))) (fun (y:Nat×WorldD×List Int)=>y.1≤l.length∧GoodW y.2.1 y.1∧y.2.2.length=y.1∧livedW (l.drop y.1) y.2.1 y.2.2=R) (fun (y:Nat×WorldD×List Int)=>l.length - y.1) (0,w0,[]) [some (0,none),some (1,none),some (2,none),some (3,none),some (4,none),some (5,none),some (6,none),some (7,none),some (8,none),some (9,none),some (10,none),some (11,none),some (12,none),some (13,none),some (14,none),some (15,none),some (16,none),some (17,none),some (18,none),some (19,none),some (20,none),some (21,none),some (22,none),some (23,none),some (24,none),none] (qC) (⟨Nat.zero_le _,h0.g,rfl,hR.symm⟩) (weak_mkO (by rfl) (by rfl) ?_) fun y hy N hN=>?_
 ·exact qY
 obtain⟨k,w,cs⟩:=y
 obtain⟨f1,f2,f3,f4⟩:=hy
 dsimp only at f1 f2 f3 f4
 refine qR ?_
 refine qB (fun h=>?_) fun h=>?_
 ·rw [livedW_step h] at f4
  have hak:=ha l[k] (List.getElem_mem h)
  have hD:=impl_Done w l[k] (f2.d (by omega))
  have hG:=doneW_good f2 (a:=l[k]) (by have:=hak.2.1;omega)
  generalize hx:l[k]=x at*
  obtain⟨Q,hQ⟩:∃ Q,Q=doneW w x:=⟨_,rfl⟩
  rw [←hQ] at hD hG f4
  try simp (disch:=omega) only [go_sem,Nat.reduceEqDiff,Nat.reduceAdd,Nat.reduceSub,Int.reduceAdd,Int.reduceSub,Int.reduceToNat,hx]
  refine qK (hD) (qA [3,4,5,6,7,8,9,10,11,12,13,14,15,16,17,18,19,20,21,22,23]) ?_
  refine⟨qC,hN _ (k+1,Q.1,cs++[Q.2]) (qA [0,1,2,27,28,29,30,31,32,33,34,35,36,37,38,39,40,41,42,43,44,45,46,47,24,50]) (by (try dsimp only);exact⟨by omega,hG,by simp [f3],f4⟩) (by (try dsimp only);omega) (weak_mkO (by rfl) (by rfl) ?_)⟩
  try simp (disch:=omega) only [go_sem,Nat.reduceEqDiff,Nat.reduceAdd,Nat.reduceSub,Int.reduceAdd,Int.reduceSub,Int.reduceToNat]
  try simp [intC]
 rw [livedW_end (by omega)] at f4
 subst f4
 refine qX ?_
 exact qFO (qA [0,3,4,5,6,7,8,9,10,11,12,13,14,15,16,17,18,19,20,21,22,23,25])
theorem spec_DrawLife (b:List UInt8) (hb:b.length≤1048576):∃ (p:PolicyD) (l:List ActD),p∈pols∧l.length≤120∧(∀ a∈l,FineA a)∧CallA Tryz.prog 5 [.sc (.sl 0 0 b.length)] [some ⟨b.map byteC,1,5,false,true⟩] (.tu [.ag p.cs,.sc (.sl 1 0 l.length)]) ([some ⟨b.map byteC,1,5,false,true⟩]++[some ⟨l.map ActD.cs,28,59,true,true⟩]):=by
 obtain⟨p,c1,o1,hp,h1⟩:=spec_l12Policy b (newCur b) (newCur_ok hb)
 obtain⟨l,c2,o2,hl,ha,h2⟩:=spec_l24Acts b c1 o1 70 (by omega)
 refine⟨p,l,hp,hl,ha,?_⟩
 refine qE Tryz.func5 Tryz.ntmps5 Tryz.results5 fun E hE=>?_
 refine qK (spec_l01New b hb) (qA [0]) ?_
 refine qK (h1) (qA [0,2]) ?_
 refine den_drawW [(0,2)] [[1,0,2,3,4],[1,2,0,3,4]] (by kernel_rfl) (qC) (by kernel_rfl) ?_
 simp only [allDn]
 refine⟨runW_den 400 ?_,runW_den 400 ?_⟩
 all_goals simp (disch:=omega) only [go_sem,Nat.reduceEqDiff,Nat.reduceAdd,Nat.reduceSub,Int.reduceAdd,Int.reduceSub,Int.reduceToNat]
 all_goals
  refine den_callW (qC) (h2) (qA [0,2]) qM (by rfl) (runW_den 400 ?_)
  simp (disch:=omega) only [go_sem,Nat.reduceEqDiff,Nat.reduceAdd,Nat.reduceSub,Int.reduceAdd,Int.reduceSub,Int.reduceToNat]
  refine qG ?_
  exact qF (qA [0,4])
end
section
open Go.RowKit
def bump (l:List Int) (n:Int):List Int:=if inR n 1 13 then l.set (n - 1).toNat (IntKind.i64.wrap (l.getD (n - 1).toNat 0+1)) else l
def waitGo (acc:List Int):List LetterD→List Int
 |[]=>acc
 |x::r=>waitGo (bump acc x.kind) r
def waiting (bag:List LetterD):List Int:=waitGo (List.replicate 13 0) bag
theorem waitGo_step {l:List LetterD} {acc:List Int} {k:Nat} (h:k < l.length):waitGo acc (l.drop k)=waitGo (bump acc l[k].kind) (l.drop (k+1)):=by
 rw [List.drop_eq_getElem_cons h,waitGo]
theorem bump_len (l:List Int) (n:Int):(bump l n).length=l.length:=by
 rw [bump]
 split<;>simp
theorem waitGo_len:∀ {l:List LetterD} {acc:List Int},(waitGo acc l).length=acc.length
 |[],_=>rfl
 |x::r,acc=>by rw [waitGo,waitGo_len,bump_len]
theorem waiting_len (l:List LetterD):(waiting l).length=13:=by rw [waiting,waitGo_len];rfl
theorem bump_at {l:List Int} {m:Nat} (h:m < l.length) (hm:m < 13):bump l ((m:Int)+1)=l.set m (IntKind.i64.wrap (l[m]+1)):=by
 have e:((m:Int)+1 - 1).toNat=m:=by omega
 rw [bump,if_pos (by simp [inR];omega),e,List.getD_eq_getElem?_getD,List.getElem?_eq_getElem h]
 rfl
theorem impl_Waiting (w:WorldD) (hb:w.bag.length≤1048576):CallA Tryz.prog 10 [.ag (w.cs 0)] (w.hp false) (.sc (.sl 21 0 (waiting w.bag).length)) (w.hp false++[some ⟨(waiting w.bag).map intC,1,3,true,true⟩]):=by
 obtain⟨m0,hm0⟩:∃ m,m=waiting w.bag:=⟨_,rfl⟩
 have h13:=waiting_len w.bag
 rw [←hm0] at h13⊢
 refine qE Tryz.func10 Tryz.ntmps10 Tryz.results10 fun E hE=>?_
 refine den_lp 21 hE (fun s (x:Nat×List Int)=>s.at [0,1,5,6,7,11,12,13,14,15,16,17,18,19,20,21,22,23,24,25] [(10,.sc (.int .i64 (x.1:Nat)))] (w.hp false++[some ⟨[w.cs 0],61,47,true,false⟩,some ⟨x.2.map intC,1,3,true,true⟩])) (fun (x:Nat×List Int)=>x.1≤w.bag.length∧x.2.length=13∧waitGo x.2 (w.bag.drop x.1)=m0) (fun (x:Nat×List Int)=>w.bag.length - x.1) (0,List.replicate 13 0) (qA [0,1,2,3,4,5,6,7,8,9,10,11,12,13,14,15,16,17,18,19,20,21,22]) (qC) (⟨Nat.zero_le _,rfl,hm0.symm⟩) (weak_mk (by rfl) (by rfl) ?_) fun x hx N hN=>?_
 ·try simp (disch:=omega) only [go_sem,Nat.reduceEqDiff,Nat.reduceAdd,Nat.reduceSub,Int.reduceAdd,Int.reduceSub,Int.reduceToNat]
  try rfl
  try simp
 obtain⟨k,acc⟩:=x
 obtain⟨hk1,hk2,hk3⟩:=hx
 dsimp only at hk1 hk2 hk3
 refine qR ?_
 refine qB (fun h=>?_) fun h=>?_
 ·rw [waitGo_step h] at hk3
  refine qX ?_
  refine qK (impl_within _ _ _) [] ?_
  refine qB (fun h2=>?_) fun h2=>?_
  ·have h2':=h2
   simp only [inR,Bool.and_eq_true,decide_eq_true_eq] at h2'
   obtain⟨m,hm⟩:=Int.eq_ofNat_of_zero_le (show 0≤w.bag[k].kind - 1 by omega)
   have hkd:w.bag[k].kind=(m:Int)+1:=by omega
   have e2:(m:Int)+1 - 1=(m:Int):=by omega
   have hm13:m < acc.length:=by omega
   rw [hkd,bump_at hm13 (by omega)] at hk3
   try simp (disch:=omega) only [go_sem,Nat.reduceEqDiff,Nat.reduceAdd,Nat.reduceSub,Int.reduceAdd,Int.reduceSub,Int.reduceToNat,hkd,e2,map_get hm13]
   refine⟨by (try simp (disch:=omega) only [go_sem,List.length_set,Nat.reduceEqDiff,Nat.reduceAdd,Nat.reduceSub,Int.reduceAdd,Int.reduceSub,Int.reduceToNat,hkd,e2])<;>omega,hN _ (k+1,acc.set m (IntKind.i64.wrap (acc[m]+1))) (qA [0,1,2,3,4,5,6,7,8,9,10,11,12,13,14,15,16,17,18,19,20,21,22]) (by (try dsimp only);exact⟨by omega,by simp;omega,hk3⟩) (by (try dsimp only);omega) (weak_mk (by rfl) (by rfl) ?_)⟩
   refine qX ?_
   first|exact map_set' rfl|exact⟨by omega,map_set' rfl⟩|skip
  rw [bump,if_neg (by simp [h2])] at hk3
  refine qX ?_
  exact qN hN (k+1,acc) (qA [0,1,2,3,4,5,6,7,8,9,10,11,12,13,14,15,16,17,18,19,20,21,22]) (by (try dsimp only);exact⟨by omega,hk2,hk3⟩)
 rw [List.drop_eq_nil_of_le (by omega),waitGo] at hk3
 subst hk3
 refine den_fin (qA [0,1,2,3,4,5,6,7,8,9,10,11,12,13,14,15,16,17,18,19,20,22]) (qC) _ (by simp only [go_sem];rfl) (by rfl) (by rfl) ?_
 simp (disch:=omega) only [go_sem,Nat.reduceEqDiff,Nat.reduceAdd,Nat.reduceSub,Int.reduceAdd,Int.reduceSub,Int.reduceToNat]
 try omega
end
section
open Go.RowKit
def KindL (x:LetterD):Prop:=inR x.kind 1 13=true
def Kinds (l:List LetterD):Prop:=∀ y∈l,KindL y
theorem kinds_nil:Kinds []:=fun y hy=>by simp at hy
theorem kinds_one {x:LetterD} (h:KindL x):Kinds [x]:=fun y hy=>by rw [List.mem_singleton] at hy;rw [hy];exact h
theorem kinds_app {l m:List LetterD} (h:Kinds l) (g:Kinds m):Kinds (l++m):=fun y hy=>(List.mem_append.1 hy).elim (h y) (g y)
theorem kinds_map {α:Type} {l:List α} {f:α→LetterD} (h:∀ a,KindL (f a)):Kinds (l.map f):=fun y hy=>by
 obtain⟨a,_,rfl⟩:=List.mem_map.1 hy
 exact h a
theorem kinds_bagOut {l:List LetterD} {n:Int} (h:Kinds l):Kinds (bagOut l n):=fun y hy=>(List.mem_append.1 hy).elim (fun g=>h y (List.mem_of_mem_take g)) (fun g=>h y (List.mem_of_mem_drop g))
theorem kinds_at {l:List LetterD} {n:Nat} (h:Kinds l) (hn:n < l.length):KindL (leAtN l n):=by
 rw [leAtN,List.getD_eq_getElem?_getD,List.getElem?_eq_getElem hn]
 exact h _ (List.getElem_mem hn)
theorem hear_kinds {e:EndD} {x:LetterD}:Kinds (hear e x).2:=by
 refine hear_all (Q:=fun r=>Kinds r.2) kinds_nil ?_ ?_ ?_ ?_ ?_ ?_ ?_ ?_ ?_ ?_ ?_ ?_
 ·unfold hearHello;split
  ·exact kinds_one rfl
  exact kinds_nil
 ·unfold hearBack;split
  ·exact kinds_one rfl
  exact kinds_nil
 ·unfold hearJoin;split
  ·split
   ·exact kinds_one rfl
   exact kinds_one rfl
  exact kinds_nil
 ·unfold hearJoinBack;split
  ·exact kinds_one rfl
  exact kinds_nil
 ·unfold hearJoinDone;split
  ·split
   ·exact kinds_one rfl
   split
   ·exact kinds_one rfl
   exact kinds_nil
  exact kinds_nil
 ·exact kinds_nil
 ·unfold hearAddr;split
  ·exact kinds_one rfl
  exact kinds_nil
 ·exact kinds_nil
 ·exact kinds_nil
 ·unfold hearData;split
  ·exact kinds_one rfl
  exact kinds_nil
 ·exact kinds_nil
 exact kinds_nil
theorem push_kinds {e:EndD}:Kinds (push e).2:=by
 unfold push;split
 ·exact kinds_one rfl
 exact kinds_nil
theorem pushN_kinds:∀ {k:Nat} {e:EndD},Kinds (pushN k e).2
 |0,e=>kinds_nil
 |k+1,e=>kinds_app push_kinds (pushN_kinds (k:=k))
theorem tell_kinds {e:EndD}:Kinds (tellAddrs e):=by
 unfold tellAddrs;split
 ·exact kinds_map fun a=>rfl
 exact kinds_nil
theorem tickL_kinds {e:EndD} {s:SubD}:Kinds (tickL e s):=by
 unfold tickL;repeat' split
 all_goals first|exact kinds_nil|exact kinds_one rfl
theorem tickEnd_kinds {e:EndD} {l:List LetterD} (h:Kinds l):Kinds (tickEnd e l).2:=kinds_app (kinds_app h tell_kinds) pushN_kinds
theorem tick_kinds {e:EndD}:Kinds (tick e).2:=by
 unfold tick;split
 ·split
  ·refine tickEnd_kinds fun y hy=>?_
   obtain⟨s,_,h⟩:=List.mem_flatMap.1 hy
   exact tickL_kinds y h
  exact tickEnd_kinds kinds_nil
 exact kinds_nil
theorem join_kinds {e:EndD} {r:RoadD} {s:Bool}:Kinds (join e r s).2:=by
 unfold join;split
 ·exact kinds_one rfl
 exact kinds_nil
theorem manGo_kinds {far:List AddrD}:∀ {l:List RoadD} {e:EndD},Kinds (manGo far e l).2
 |[],e=>kinds_nil
 |r::l,e=>kinds_app join_kinds (manGo_kinds (l:=l))
theorem actE_kinds {e:EndD} {a:ActD}:Kinds (actE e a).2:=by
 unfold actE
 split
 ·exact pushN_kinds
 split
 ·exact kinds_nil
 split
 ·exact tick_kinds
 split
 ·unfold manage;split
  ·exact manGo_kinds
  exact kinds_nil
 split
 ·exact kinds_nil
 split
 ·unfold dropOwn;split
  ·exact kinds_map fun a=>rfl
  exact kinds_nil
 unfold resetE;split
 ·exact kinds_one rfl
 exact kinds_nil
structure KindW (w:WorldD):Prop where
 bag:Kinds w.bag
 past:Kinds w.past
theorem post1_kindW {side:Int} {w:WorldD} {x:LetterD} (h:KindW w) (hx:KindL x):KindW (post1 side w x):=by
 have hp:Kinds (pastP w.past x):=by
  rw [pastP];split
  ·exact kinds_app h.past (kinds_one hx)
  exact h.past
 have hb:Kinds (bagP w.bag x):=by
  rw [bagP];split
  ·exact kinds_app h.bag (kinds_one hx)
  exact h.bag
 rw [post1];split
 ·exact⟨h.bag,hp⟩
 exact⟨hb,hp⟩
theorem postL_kindW {side:Int}:∀ {l:List LetterD} {w:WorldD},Kinds l→KindW w→KindW (postL side w l)
 |[],w,_,h=>h
 |x::l,w,hl,h=>postL_kindW (l:=l) (fun y hy=>hl y (List.mem_cons_of_mem _ hy)) (post1_kindW h (hl x (List.mem_cons_self ..)))
theorem setEnd_kindW {w:WorldD} {s:Int} {e:EndD} (h:KindW w):KindW (setEnd w s e):=by
 unfold setEnd;split<;>exact⟨h.bag,h.past⟩
theorem actW_kindW {w:WorldD} {a:ActD} (h:KindW w):KindW (actW w a):=by
 unfold actW wrote gotRead;repeat' split
 all_goals exact⟨h.bag,h.past⟩
theorem lands_kindW {w:WorldD} {x:LetterD} (h:KindW w):KindW (lands w x):=by
 rw [lands];split
 ·exact h
 rw [posted];split
 ·exact postL_kindW hear_kinds (setEnd_kindW h)
 exact setEnd_kindW h
theorem mayInject_kind {w:WorldD} {x:LetterD} (h:mayInject w x=true):KindL x:=by
 simp only [mayInject,letOk,Bool.and_eq_true] at h
 exact h.1.1.1.1.1
theorem actOk_pos {a:ActD} (h:actOk a=true):0≤a.pos:=by
 simp only [actOk,isN,inR,Bool.and_eq_true,decide_eq_true_eq] at h
 omega
theorem doneW_kindW {w:WorldD} {a:ActD} (h:KindW w):KindW (doneW w a).1:=by
 have ha:∀ x,KindL x→KindW { w with bag:=w.bag++[x] }:=fun x hx=>⟨kinds_app h.bag (kinds_one hx),h.past⟩
 have hb:KindW { w with bag:=bagOut w.bag a.pos }:=⟨kinds_bagOut h.bag,h.past⟩
 unfold doneW;split
 ·rename_i hok
  have hp:=actOk_pos hok
  split
  ·unfold acts;split
   ·exact h
   exact postL_kindW actE_kinds (setEnd_kindW (actW_kindW h))
  rw [moves]
  split
  ·split
   ·exact h
   split
   ·exact lands_kindW hb
   exact hb
  split
  ·split
   ·exact h
   rename_i hh
   rw [not_or] at hh
   exact ha _ (kinds_at h.bag (by omega))
  split
  ·split
   ·exact h
   split
   ·exact h
   rename_i h1 h2
   rw [Bool.not_eq_false] at h1
   exact ha _ (mayInject_kind h1)
  split
  ·exact h
  rename_i hh
  rw [not_or] at hh
  exact ha _ (kinds_at h.past (by omega))
 exact h
theorem done_code {w:WorldD} {a:ActD} (h:actOk a=true):(doneW w a).2=0∨(doneW w a).2=1∨(doneW w a).2=2:=by
 rw [doneW,if_pos h]
 split
 ·unfold acts;split
  ·exact .inr (.inl rfl)
  exact .inl rfl
 unfold moves;repeat' split
 all_goals first|exact .inl rfl|exact .inr (.inl rfl)|exact .inr (.inr rfl)
theorem done_lose {w:WorldD} {a:ActD} (h:actOk a=true) (hk:a.kind=9) (h0:(doneW w a).2=0):(doneW w a).1.bag.length+1=w.bag.length:=by
 have hp:=actOk_pos h
 rw [doneW,if_pos h,if_neg (by omega),moves,if_pos (.inr hk)] at h0⊢
 by_cases hh:(w.bag.length:Int)≤a.pos
 ·rw [if_pos hh] at h0;exact absurd (show (1:Int)=0 from h0) (by decide)
 rw [if_neg hh,if_neg (by omega)]
 show (bagOut w.bag a.pos).length+1=_
 rw [bagOut,List.length_append,List.length_take,List.length_drop]
 omega
theorem done_copy {w:WorldD} {a:ActD} (h:actOk a=true) (hk:a.kind=10) (h0:(doneW w a).2=0):(doneW w a).1.bag.length=w.bag.length+1:=by
 rw [doneW,if_pos h,if_neg (by omega),moves,if_neg (by omega),if_pos hk] at h0⊢
 by_cases hh:(w.bag.length:Int)≤a.pos∨40≤w.bag.length
 ·rw [if_pos hh] at h0;exact absurd (show (1:Int)=0 from h0) (by decide)
 rw [if_neg hh]
 simp
def sumI:List Int→Int
 |[]=>0
 |x::l=>x+sumI l
theorem sumI_set:∀ {l:List Int} {n:Nat} {v:Int} (h:n < l.length),sumI (l.set n v)=sumI l - l[n]+v
 |x::l,0,v,_=>by simp only [List.set_cons_zero,sumI,List.getElem_cons_zero];omega
 |x::l,n+1,v,h=>by
  simp only [List.set_cons_succ,sumI,List.getElem_cons_succ]
  rw [sumI_set (l:=l) (by simpa using h)]
  omega
theorem sumI_app:∀ {l m:List Int},sumI (l++m)=sumI l+sumI m
 |[],m=>by simp [sumI]
 |x::l,m=>by rw [List.cons_append,sumI,sumI,sumI_app (l:=l)];omega
theorem sumI_take {l:List Int} {k:Nat} (h:k < l.length):sumI (l.take (k+1))=sumI (l.take k)+l[k]:=by
 rw [List.take_succ_eq_append_getElem h,sumI_app,sumI,sumI];omega
theorem sumI_bd {B:Int}:∀ {l:List Int},(∀ v∈l,0≤v∧v≤B)→0≤sumI l∧sumI l≤B*l.length
 |[],_=>by simp [sumI]
 |x::l,h=>by
  have h1:=h x (by simp)
  have h2:=sumI_bd (l:=l) (fun v hv=>h v (by simp [hv]))
  rw [sumI,List.length_cons,Int.natCast_add,Int.mul_add]
  omega
theorem waitGo_sum:∀ {l:List LetterD} {acc:List Int} {k:Nat},acc.length=13→(∀ v∈acc,0≤v∧v≤(k:Int))→k+l.length≤1048576→Kinds l→sumI (waitGo acc l)=sumI acc+l.length∧∀ v∈waitGo acc l,0≤v∧v≤((k+l.length:Nat):Int)
 |[],acc,k,_,hb,_,_=>by
  rw [waitGo]
  exact⟨by simp,fun v hv=>by have:=hb v hv;simp only [List.length_nil];omega⟩
 |x::l,acc,k,h13,hb,hk,hl=>by
  have hx:=hl x (by simp)
  have hx2:=hx
  simp only [KindL,inR,Bool.and_eq_true,decide_eq_true_eq] at hx2
  obtain⟨m,hm⟩:=Int.eq_ofNat_of_zero_le (show 0≤x.kind - 1 by omega)
  have hmk:x.kind=(m:Int)+1:=by omega
  have hma:m < acc.length:=by omega
  simp only [List.length_cons] at hk⊢
  have hv:=hb _ (List.getElem_mem hma)
  rw [waitGo,hmk,bump_at hma (by omega),w64 (by omega)]
  obtain⟨g1,g2⟩:=waitGo_sum (l:=l) (acc:=acc.set m (acc[m]+1)) (k:=k+1) (by rw [List.length_set];exact h13) (fun v hv=>by
   rcases List.mem_or_eq_of_mem_set hv with hv|hv
   ·have:=hb v hv;omega
   subst hv;omega) (by omega) (fun y hy=>hl y (by simp [hy]))
  refine⟨by rw [g1,sumI_set hma];omega,fun v hv=>?_⟩
  have:=g2 v hv
  omega
theorem waiting_law {l:List LetterD} (hl:Kinds l) (hk:l.length≤40):sumI (waiting l)=l.length∧∀ v∈waiting l,0≤v∧v≤40:=by
 obtain⟨g1,g2⟩:=waitGo_sum (l:=l) (acc:=List.replicate 13 0) (k:=0) (by simp) (fun v hv=>by rw [List.eq_of_mem_replicate hv];omega) (by omega) hl
 refine⟨by rw [waiting,g1];simp [sumI,List.replicate],fun v hv=>?_⟩
 have:=g2 v hv
 omega
end
section
open Go.RowKit
def cntS (l:List LetterD):Nat:=(l.filter fun x=> !decide (sideAt x.to=0)).length
theorem post1_bag {side:Int} {w:WorldD} {x:LetterD} (h:w.bag.length≤40):(post1 side w x).bag.length=min 40 (w.bag.length+(if sideAt x.to=0 then 0 else 1)):=by
 rw [post1];split
 ·show w.bag.length=_;omega
 show (bagP w.bag x).length=_
 rw [bagP];split
 ·simp;omega
 omega
theorem post1_past {side:Int} {w:WorldD} {x:LetterD} (h:w.past.length≤150):(post1 side w x).past.length=min 150 (w.past.length+1):=by
 have e:(post1 side w x).past=pastP w.past x:=by rw [post1];split<;>rfl
 rw [e,pastP];split
 ·simp;omega
 omega
theorem postL_bag {side:Int}:∀ {l:List LetterD} {w:WorldD},w.bag.length≤40→w.past.length≤150→(postL side w l).bag.length=min 40 (w.bag.length+cntS l)∧(postL side w l).past.length=min 150 (w.past.length+l.length)
 |[],w,h1,h2=>by
  rw [show postL side w []=w from rfl,show cntS []=0 from rfl,List.length_nil];omega
 |x::l,w,h1,h2=>by
  have e1:=post1_bag (side:=side) (x:=x) h1
  have e2:=post1_past (side:=side) (x:=x) h2
  obtain⟨g1,g2⟩:=postL_bag (side:=side) (l:=l) (w:=post1 side w x) (by omega) (by omega)
  have e3:cntS (x::l)=(if sideAt x.to=0 then 0 else 1)+cntS l:=by
   by_cases h0:sideAt x.to=0<;>simp [cntS,h0];omega
  rw [show postL side w (x::l)=postL side (post1 side w x) l from rfl,g1,g2,e1,e2,e3,List.length_cons]
  omega
def BagW (w:WorldD):Prop:=w.bag.length≤40∧w.past.length≤150
theorem postL_bagW {side:Int} {l:List LetterD} {w:WorldD} (h:BagW w):BagW (postL side w l):=by
 obtain⟨h1,h2⟩:=postL_bag (side:=side) (l:=l) h.1 h.2
 constructor<;>omega
theorem setEnd_bagW {w:WorldD} {s:Int} {e:EndD} (h:BagW w):BagW (setEnd w s e):=by unfold setEnd;split<;>exact h
theorem actW_bagW {w:WorldD} {a:ActD} (h:BagW w):BagW (actW w a):=by
 unfold actW wrote gotRead;repeat' split
 all_goals exact h
theorem lands_bagW {w:WorldD} {x:LetterD} (h:BagW w):BagW (lands w x):=by
 rw [lands];split
 ·exact h
 rw [posted];split
 ·exact postL_bagW (setEnd_bagW h)
 exact setEnd_bagW h
theorem doneW_bagW {w:WorldD} {a:ActD} (h:BagW w):BagW (doneW w a).1:=by
 have hb:BagW { w with bag:=bagOut w.bag a.pos }:=⟨by have:=h.1;simp only [bagOut,List.length_append,List.length_take,List.length_drop];omega,h.2⟩
 have ha:∀ x,¬ 40≤w.bag.length→BagW { w with bag:=w.bag++[x] }:=fun x hx=>⟨by simp only [List.length_append,List.length_singleton];omega,h.2⟩
 unfold doneW;split
 ·split
  ·unfold acts;split
   ·exact h
   exact postL_bagW (setEnd_bagW (actW_bagW h))
  rw [moves]
  split
  ·split
   ·exact h
   split
   ·exact lands_bagW hb
   exact hb
  split
  ·split
   ·exact h
   rename_i hh;exact ha _ (fun h40=>hh (.inr h40))
  split
  ·split
   ·exact h
   split
   ·exact h
   rename_i hh;exact ha _ hh
  split
  ·exact h
  rename_i hh;exact ha _ (fun h40=>hh (.inr (.inr h40)))
 exact h
end
section
open Go.RowKit
attribute [go_sem] List.append_eq
theorem laws_sameAddrs (l:List AddrD) (hl:l.length≤4611686018427387904):CallA Tryz.prog 52 [.sc (.sl 0 0 l.length),.sc (.sl 1 0 l.length)] [some ⟨l.map AddrD.cs,4,53,false,true⟩,some ⟨l.map AddrD.cs,4,53,false,true⟩] (.sc (.bo true)) [some ⟨l.map AddrD.cs,4,53,false,true⟩,some ⟨l.map AddrD.cs,4,53,false,true⟩]:=by
 refine qE Tryz.func52 Tryz.ntmps52 Tryz.results52 fun E hE=>?_
 refine den_lp 2 hE (fun s (k:Nat)=>s.at [4,6,7,8,9,10,11,12,13,14,15,16,17,18,19,20,21,22,23,24,25] [(5,.sc (.int .i64 (k:Nat)))] (s.hp)) (fun (k:Nat)=>k≤l.length) (fun (k:Nat)=>l.length - k) 0 (qA [0,1]) (qC) (Nat.zero_le _) (weak_mk (by rfl) (by rfl) ?_) fun k hk N hN=>?_
 ·exact qY
 refine qR ?_
 refine qB (fun h=>?_) fun h=>?_
 ·refine qD [0,1,2,3,4,5,6,7,8] ?_
  refine qG ?_
  exact qN hN (k+1) (qA [0,1]) (by (try dsimp only);exact h)
 exact qF (qA [0,1])
theorem laws_sameSubs (l:List SubD) (hl:l.length≤4611686018427387904):CallA Tryz.prog 53 [.sc (.sl 0 0 l.length),.sc (.sl 1 0 l.length)] [some ⟨l.map SubD.cs,10,132,false,true⟩,some ⟨l.map SubD.cs,10,132,false,true⟩] (.sc (.bo true)) [some ⟨l.map SubD.cs,10,132,false,true⟩,some ⟨l.map SubD.cs,10,132,false,true⟩]:=by
 refine qE Tryz.func53 Tryz.ntmps53 Tryz.results53 fun E hE=>?_
 refine den_lp 2 hE (fun s (k:Nat)=>s.at [4,6,7,8,9,10,11,12,13,14,15,16,17,18,19,20,21,22,23,24,25] [(5,.sc (.int .i64 (k:Nat)))] (s.hp)) (fun (k:Nat)=>k≤l.length) (fun (k:Nat)=>l.length - k) 0 (qA [0,1]) (qC) (Nat.zero_le _) (weak_mk (by rfl) (by rfl) ?_) fun k hk N hN=>?_
 ·exact qY
 refine qR ?_
 refine qB (fun h=>?_) fun h=>?_
 ·refine qD [0,1,2,3,4,5,6,7,8] ?_
  refine qG ?_
  exact qN hN (k+1) (qA [0,1]) (by (try dsimp only);exact h)
 exact qF (qA [0,1])
theorem laws_sameHalfs (l:List HalfD) (hl:l.length≤4611686018427387904):CallA Tryz.prog 54 [.sc (.sl 0 0 l.length),.sc (.sl 1 0 l.length)] [some ⟨l.map HalfD.cs,8,164,false,true⟩,some ⟨l.map HalfD.cs,8,164,false,true⟩] (.sc (.bo true)) [some ⟨l.map HalfD.cs,8,164,false,true⟩,some ⟨l.map HalfD.cs,8,164,false,true⟩]:=by
 refine qE Tryz.func54 Tryz.ntmps54 Tryz.results54 fun E hE=>?_
 refine den_lp 2 hE (fun s (k:Nat)=>s.at [4,6,7,8,9,10,11,12,13,14,15,16,17,18,19,20,21,22,23,24,25] [(5,.sc (.int .i64 (k:Nat)))] (s.hp)) (fun (k:Nat)=>k≤l.length) (fun (k:Nat)=>l.length - k) 0 (qA [0,1]) (qC) (Nat.zero_le _) (weak_mk (by rfl) (by rfl) ?_) fun k hk N hN=>?_
 ·exact qY
 refine qR ?_
 refine qB (fun h=>?_) fun h=>?_
 ·refine qD [0,1,2,3,4,5,6,7,8] ?_
  refine qG ?_
  exact qN hN (k+1) (qA [0,1]) (by (try dsimp only);exact h)
 exact qF (qA [0,1])
theorem laws_samePieceList (l:List PieceD) (hl:l.length≤4611686018427387904):CallA Tryz.prog 98 [.sc (.sl 0 0 l.length),.sc (.sl 1 0 l.length)] [some ⟨l.map PieceD.cs,2,179,false,true⟩,some ⟨l.map PieceD.cs,2,179,false,true⟩] (.sc (.bo true)) [some ⟨l.map PieceD.cs,2,179,false,true⟩,some ⟨l.map PieceD.cs,2,179,false,true⟩]:=by
 refine qE Tryz.func98 Tryz.ntmps98 Tryz.results98 fun E hE=>?_
 refine den_lp 2 hE (fun s (k:Nat)=>s.at [4,6,7,8,9,10,11,12,13,14,15,16,17,18,19,20,21,22,23,24,25] [(5,.sc (.int .i64 (k:Nat)))] (s.hp)) (fun (k:Nat)=>k≤l.length) (fun (k:Nat)=>l.length - k) 0 (qA [0,1]) (qC) (Nat.zero_le _) (weak_mk (by rfl) (by rfl) ?_) fun k hk N hN=>?_
 ·exact qY
 refine qR ?_
 refine qB (fun h=>?_) fun h=>?_
 ·refine qD [0,1,2,3,4,5,6,7,8] ?_
  refine qG ?_
  exact qN hN (k+1) (qA [0,1]) (by (try dsimp only);exact h)
 exact qF (qA [0,1])
theorem laws_sameLetters (l:List LetterD) (hl:l.length≤4611686018427387904):CallA Tryz.prog 23 [.sc (.sl 0 0 l.length),.sc (.sl 1 0 l.length)] [some ⟨l.map LetterD.cs,19,57,false,true⟩,some ⟨l.map LetterD.cs,19,57,false,true⟩] (.sc (.bo true)) [some ⟨l.map LetterD.cs,19,57,false,true⟩,some ⟨l.map LetterD.cs,19,57,false,true⟩]:=by
 refine qE Tryz.func23 Tryz.ntmps23 Tryz.results23 fun E hE=>?_
 refine den_lp 2 hE (fun s (k:Nat)=>s.at [4,6,7,8,9,10,11,12,13,14,15,16,17,18,19,20,21,22,23,24,25] [(5,.sc (.int .i64 (k:Nat)))] (s.hp)) (fun (k:Nat)=>k≤l.length) (fun (k:Nat)=>l.length - k) 0 (qA [0,1]) (qC) (Nat.zero_le _) (weak_mk (by rfl) (by rfl) ?_) fun k hk N hN=>?_
 ·exact qY
 refine qR ?_
 refine qB (fun h=>?_) fun h=>?_
 ·refine qD [0,1,2,3,4,5,6,7,8] ?_
  refine qG ?_
  exact qN hN (k+1) (qA [0,1]) (by (try dsimp only);exact h)
 exact qF (qA [0,1])
theorem laws_sameTags (l:List TagD) (hl:l.length≤4611686018427387904):CallA Tryz.prog 56 [.sc (.sl 0 0 l.length),.sc (.sl 1 0 l.length)] [some ⟨l.map TagD.cs,5,55,false,true⟩,some ⟨l.map TagD.cs,5,55,false,true⟩] (.sc (.bo true)) [some ⟨l.map TagD.cs,5,55,false,true⟩,some ⟨l.map TagD.cs,5,55,false,true⟩]:=by
 refine qE Tryz.func56 Tryz.ntmps56 Tryz.results56 fun E hE=>?_
 refine den_lp 2 hE (fun s (k:Nat)=>s.at [4,6,7,8,9,10,11,12,13,14,15,16,17,18,19,20,21,22,23,24,25] [(5,.sc (.int .i64 (k:Nat)))] (s.hp)) (fun (k:Nat)=>k≤l.length) (fun (k:Nat)=>l.length - k) 0 (qA [0,1]) (qC) (Nat.zero_le _) (weak_mk (by rfl) (by rfl) ?_) fun k hk N hN=>?_
 ·exact qY
 refine qR ?_
 refine qB (fun h=>?_) fun h=>?_
 ·refine qD [0,1,2,3,4,5,6,7,8] ?_
  refine qG ?_
  exact qN hN (k+1) (qA [0,1]) (by (try dsimp only);exact h)
 exact qF (qA [0,1])
theorem laws_sameInts (l:List Int) (hl:l.length≤4611686018427387904):CallA Tryz.prog 25 [.sc (.sl 0 0 l.length),.sc (.sl 1 0 l.length)] [some ⟨l.map intC,1,3,false,true⟩,some ⟨l.map intC,1,3,false,true⟩] (.sc (.bo true)) [some ⟨l.map intC,1,3,false,true⟩,some ⟨l.map intC,1,3,false,true⟩]:=by
 refine qE Tryz.func25 Tryz.ntmps25 Tryz.results25 fun E hE=>?_
 refine den_lp 2 hE (fun s (k:Nat)=>s.at [4,6,7,8,9,10,11,12,13,14,15,16,17,18,19,20,21,22,23,24,25] [(5,.sc (.int .i64 (k:Nat)))] (s.hp)) (fun (k:Nat)=>k≤l.length) (fun (k:Nat)=>l.length - k) 0 (qA [0,1]) (qC) (Nat.zero_le _) (weak_mk (by rfl) (by rfl) ?_) fun k hk N hN=>?_
 ·exact qY
 refine qR ?_
 refine qB (fun h=>?_) fun h=>?_
 ·refine qD [0,1,2,3,4,5,6,7,8] ?_
  refine qG ?_
  exact qN hN (k+1) (qA [0,1]) (by (try dsimp only);exact h)
 exact qF (qA [0,1])
theorem laws_samePieces (x:PiecesD) (hl:x.list.length≤4611686018427387904):CallA Tryz.prog 55 [.ag (x.cs 0),.ag (x.cs 1)] (x.hp false++x.hp false) (.sc (.bo true)) (x.hp false++x.hp false):=by
 refine qE Tryz.func55 Tryz.ntmps55 Tryz.results55 fun E hE=>?_
 refine qK (laws_samePieceList x.list hl) (qA [0,1]) ?_
 exact qF (qA [0,1])
theorem laws_sameEnd (e:EndD) (h0:e.own.length≤1048576) (h1:e.far.length≤1048576) (h2:e.subs.length≤1048576) (h3:e.halfs.length≤1048576) (h4:e.inp.list.length≤1048576) (h5:e.done.length≤1048576) (h6:e.over.length≤1048576):CallA Tryz.prog 22 [.ag (e.cs 0),.ag (e.cs 7)] (e.hp false++e.hp false) (.sc (.bo true)) (e.hp false++e.hp false):=by
 refine qE Tryz.func22 Tryz.ntmps22 Tryz.results22 fun E hE=>?_
 refine qK (laws_sameAddrs e.own (by omega)) (qA [0,7]) ?_
 refine qK (laws_sameAddrs e.far (by omega)) (qA [1,8]) ?_
 refine qK (laws_sameSubs e.subs (by omega)) (qA [2,9]) ?_
 refine qK (laws_sameHalfs e.halfs (by omega)) (qA [3,10]) ?_
 refine qK (laws_samePieces e.inp (by omega)) (qA [4,11]) ?_
 refine qK (laws_sameInts e.done (by omega)) (qA [5,12]) ?_
 refine qK (laws_sameInts e.over (by omega)) (qA [6,13]) ?_
 exact qF (qA [0,1,2,3,4,5,6,7,8,9,10,11,12,13])
theorem laws_sameKnown (x:KnownD) (h0:x.keys.length≤1048576) (h1:x.tags.length≤1048576):CallA Tryz.prog 24 [.ag (x.cs 0),.ag (x.cs 2)] (x.hp false++x.hp false) (.sc (.bo true)) (x.hp false++x.hp false):=by
 refine qE Tryz.func24 Tryz.ntmps24 Tryz.results24 fun E hE=>?_
 refine qK (laws_sameInts x.keys (by omega)) (qA [0,2]) ?_
 refine qK (laws_sameTags x.tags (by omega)) (qA [1,3]) ?_
 exact qF (qA [0,1,2,3])
end
section
open Go.RowKit
end
section
open Go.RowKit
end
section
open Go.RowKit
theorem laws_big (b:List UInt8) (hl:b.length≤maxLen):CallA Tryz.prog 4 [.sc (.sl 0 0 b.length)] [some ⟨b.map byteC,1,5,false,true⟩] (.sc (.bo (decide (1048576 < b.length)))) [some ⟨b.map byteC,1,5,false,true⟩]:=by
 refine qE Tryz.func4 Tryz.ntmps4 Tryz.results4 fun E hE=>?_
 refine qJ (qA [0]) ?_
 simp
 omega
theorem sameE (e:EndD) (h:Small e):CallA Tryz.prog 22 [.ag (e.cs 0),.ag (e.cs 7)] (e.hp false++e.hp false) (.sc (.bo true)) (e.hp false++e.hp false):=laws_sameEnd e h.own h.far h.subs h.halfs h.list h.done h.over
theorem laws_sameWorld (w:WorldD) (h:SmallW w):CallA Tryz.prog 11 [.ag (w.cs 0),.ag (w.cs 21)] (w.hp false++w.hp false) (.sc (.bo true)) (w.hp false++w.hp false):=by
 have h1:=h.bag
 have h2:=h.past
 have h3:=h.keys
 have h4:=h.tags
 have h5:=h.nums
 have h6:=h.ansA
 have h7:=h.ansB
 refine qE Tryz.func11 Tryz.ntmps11 Tryz.results11 fun E hE=>?_
 refine qK (sameE w.a h.a) (qA [0,1,2,3,4,5,6,21,22,23,24,25,26,27]) ?_
 refine qK (sameE w.b h.b) (qA [7,8,9,10,11,12,13,28,29,30,31,32,33,34]) ?_
 refine qK (laws_sameLetters w.bag (by omega)) (qA [14,35]) ?_
 refine qK (laws_sameLetters w.past (by omega)) (qA [15,36]) ?_
 refine qK (laws_sameKnown w.known (by omega) (by omega)) (qA [16,17,37,38]) ?_
 refine qK (laws_sameInts w.nums (by omega)) (qA [18,39]) ?_
 refine qK (laws_sameInts w.answersA (by omega)) (qA [19,40]) ?_
 refine qK (laws_sameInts w.answersB (by omega)) (qA [20,41]) ?_
 exact qF (qA [0,1,2,3,4,5,6,7,8,9,10,11,12,13,14,15,16,17,18,19,20,21,22,23,24,25,26,27,28,29,30,31,32,33,34,35,36,37,38,39,40,41])
end
section
open Go.RowKit
theorem livedW_codes:∀ {l:List ActD} {w:WorldD} {cs ds:List Int},(livedW l w cs).1=(livedW l w ds).1
 |[],w,cs,ds=>rfl
 |a::l,w,cs,ds=>livedW_codes (l:=l)
theorem lived1_step {l:List ActD} {k:Nat} {w:WorldD} (h:k < l.length):(livedW (l.drop k) w []).1=(livedW (l.drop (k+1)) (doneW w l[k]).1 []).1:=by
 rw [livedW_step h];exact livedW_codes
structure FineL (w:WorldD) (k:Nat):Prop where
 g:GoodW w k
 b:BagW w
 q:KindW w
theorem FineL.step {w:WorldD} {k:Nat} {a:ActD} (h:FineL w k) (ha:a.text.length≤200):FineL (doneW w a).1 (k+1):=⟨doneW_good h.g (by omega),doneW_bagW h.b,doneW_kindW h.q⟩
theorem Fine0.l {w:WorldD} (h:Fine0 w):FineL w 0:=⟨h.g,⟨by rw [h.bag];simp,by rw [h.past];simp⟩,⟨by rw [h.bag];exact kinds_nil,by rw [h.past];exact kinds_nil⟩⟩
theorem law_Lives (b:List UInt8) (hb:b.length≤maxLen) (_:∀ x∈b,True):CallA Tryz.prog 3 [.sc (.sl 0 0 b.length)] [some ⟨b.map byteC,1,5,false,true⟩] (.sc (.bo true)) [some ⟨b.map byteC,1,5,false,true⟩]:=by
 refine callA_of Tryz.func3 (by kernel_rfl) rfl fun E hE=>run_den 400 ?_
 simp (disch:=omega) only [Tryz.ntmps3,Tryz.results3,go_sem,Nat.reduceEqDiff,Nat.reduceAdd,Nat.reduceSub,Int.reduceAdd,Int.reduceSub,Int.reduceToNat]
 refine den_call (by (try simp (disch:=omega) only [go_sem,List.length_set,Nat.reduceEqDiff,Nat.reduceAdd,Nat.reduceSub,Int.reduceAdd,Int.reduceSub,Int.reduceToNat])<;>omega) (laws_big b hb) [some (0,none)] (by simp only [go_sem];repeat' first|rfl|constructor|(rw [List.map_set];rfl)|(simp [List.map_take,List.map_drop]<;>omega)) (by rfl) (run_den 400 ?_)
 simp (disch:=omega) only [go_sem,Nat.reduceEqDiff,Nat.reduceAdd,Nat.reduceSub,Int.reduceAdd,Int.reduceSub,Int.reduceToNat]
 split<;>rename_i h<;>(try simp only [beq_true,beq_false,Bool.not_eq_true',Bool.not_eq_false'] at h)<;>simp (disch:=omega) only [go_sem,Nat.reduceEqDiff,Nat.reduceAdd,Nat.reduceSub,Int.reduceAdd,Int.reduceSub,Int.reduceToNat,h]<;>(try simp only [decide_eq_true_eq,decide_eq_false_iff_not,beq_iff_eq,beq_eq_false_iff_ne,bne_iff_ne,bne_eq_false_iff_eq,ne_eq,Decidable.not_not,Bool.and_eq_true,Bool.and_eq_false_iff,Bool.or_eq_true,Bool.or_eq_false_iff,Int.ofNat_lt,Int.ofNat_le,Bool.not_eq_eq_eq_not,Bool.not_true,Bool.not_false] at h)<;>try simp (disch:=omega) only [go_sem,Nat.reduceEqDiff,Nat.reduceAdd,Nat.reduceSub,Int.reduceAdd,Int.reduceSub,Int.reduceToNat]
 ·refine den_fin [some (0,none)] (by (try simp (disch:=omega) only [go_sem,List.length_set,Nat.reduceEqDiff,Nat.reduceAdd,Nat.reduceSub,Int.reduceAdd,Int.reduceSub,Int.reduceToNat])<;>omega) _ (by simp only [go_sem];rfl) (by rfl) (by rfl) ?_
  simp (disch:=omega) only [go_sem,Nat.reduceEqDiff,Nat.reduceAdd,Nat.reduceSub,Int.reduceAdd,Int.reduceSub,Int.reduceToNat]
 obtain⟨p,l,hp,hl,ha,hD⟩:=spec_DrawLife b (by omega)
 obtain⟨w0,h0,hW⟩:=impl_WorldNewD p hp
 have hL:=impl_LivedD p w0 h0 hW l hl ha
 have hcl:=(livedW_inv (Q:=FineL) (fun w k a h ht=>h.step ht) (l:=l) (w:=w0) (cs:=[]) (k:=0) h0.l ha).2
 obtain⟨R,hR⟩:∃ R,R=livedW l w0 []:=⟨_,rfl⟩
 rw [←hR] at hL hcl
 simp only [List.length_nil,Nat.zero_add] at hcl
 have hR1:(livedW (l.drop 0) w0 []).1=R.1:=by rw [List.drop_zero,hR]
 clear hR
 refine den_call (by (try simp (disch:=omega) only [go_sem,List.length_set,Nat.reduceEqDiff,Nat.reduceAdd,Nat.reduceSub,Int.reduceAdd,Int.reduceSub,Int.reduceToNat])<;>omega) (hD) [some (0,none)] (by simp only [go_sem];repeat' first|rfl|constructor|(rw [List.map_set];rfl)|(simp [List.map_take,List.map_drop]<;>omega)) (by rfl) (run_den 400 ?_)
 simp (disch:=omega) only [go_sem,Nat.reduceEqDiff,Nat.reduceAdd,Nat.reduceSub,Int.reduceAdd,Int.reduceSub,Int.reduceToNat]
 refine den_call (by (try simp (disch:=omega) only [go_sem,List.length_set,Nat.reduceEqDiff,Nat.reduceAdd,Nat.reduceSub,Int.reduceAdd,Int.reduceSub,Int.reduceToNat])<;>omega) (hW) [] (by simp only [go_sem];repeat' first|rfl|constructor|(rw [List.map_set];rfl)|(simp [List.map_take,List.map_drop]<;>omega)) (by rfl) (run_den 400 ?_)
 simp (disch:=omega) only [go_sem,Nat.reduceEqDiff,Nat.reduceAdd,Nat.reduceSub,Int.reduceAdd,Int.reduceSub,Int.reduceToNat]
 refine den_lpO 1 hE (fun s (y:Nat×WorldD)=>s.at [0,2,6,8,9,15,16,17,18,19,20,21,22,23,24,25,26,27,28,29,30,31,32,33,34,35,36,37,38,39,40,41,42,43,44,45,46,47,48,49,50,51,52,53,54,55,56,57,58,59,60,61,62,63,64,65,66,67,68,69,70,71,72,73,74,75,76,77,78,79,80,81,82,83,84,85,86,87,88,89,90,91,92,93,94,95,96] [(7,.sc (.int .i64 (y.1:Nat)))] ((s.hp.take 3)++(y.2.hp true++[some ⟨[WorldD.cs y.2 3],61,47,true,false⟩]))) (fun (y:Nat×WorldD)=>y.1≤l.length∧FineL y.2 y.1∧(livedW (l.drop y.1) y.2 []).1=R.1) (fun (y:Nat×WorldD)=>l.length - y.1) (0,w0) [some (0,none),some (1,none),some (2,none),some (3,none),some (4,none),some (5,none),some (6,none),some (7,none),some (8,none),some (9,none),some (10,none),some (11,none),some (12,none),some (13,none),some (14,none),some (15,none),some (16,none),some (17,none),some (18,none),some (19,none),some (20,none),some (21,none),some (22,none),some (23,none),some (24,none)] (by (try simp (disch:=omega) only [go_sem,List.length_set,Nat.reduceEqDiff,Nat.reduceAdd,Nat.reduceSub,Int.reduceAdd,Int.reduceSub,Int.reduceToNat])<;>omega) (⟨Nat.zero_le _,h0.l,hR1⟩) (weak_mkO (by rfl) (by rfl) ?_) fun y hy N hN=>?_
 ·try simp (disch:=omega) only [go_sem,Nat.reduceEqDiff,Nat.reduceAdd,Nat.reduceSub,Int.reduceAdd,Int.reduceSub,Int.reduceToNat]
 obtain⟨k,w⟩:=y
 obtain⟨f1,f2,f3⟩:=hy
 dsimp only at f1 f2 f3
 refine run_den 400 ?_
 try simp (disch:=omega) only [go_sem,Nat.reduceEqDiff,Nat.reduceAdd,Nat.reduceSub,Int.reduceAdd,Int.reduceSub,Int.reduceToNat]
 split<;>rename_i h9<;>(try simp only [beq_true,beq_false,Bool.not_eq_true',Bool.not_eq_false'] at h9)<;>simp (disch:=omega) only [go_sem,Nat.reduceEqDiff,Nat.reduceAdd,Nat.reduceSub,Int.reduceAdd,Int.reduceSub,Int.reduceToNat,h9]<;>(try simp only [decide_eq_true_eq,decide_eq_false_iff_not,beq_iff_eq,beq_eq_false_iff_ne,bne_iff_ne,bne_eq_false_iff_eq,ne_eq,Decidable.not_not,Bool.and_eq_true,Bool.and_eq_false_iff,Bool.or_eq_true,Bool.or_eq_false_iff,Int.ofNat_lt,Int.ofNat_le,Bool.not_eq_eq_eq_not,Bool.not_true,Bool.not_false] at h9)<;>try simp (disch:=omega) only [go_sem,Nat.reduceEqDiff,Nat.reduceAdd,Nat.reduceSub,Int.reduceAdd,Int.reduceSub,Int.reduceToNat]
 ·rw [lived1_step h9] at f3
  have hak:=ha l[k] (List.getElem_mem h9)
  have hDn:=impl_Done w l[k] (f2.g.d (by omega))
  have hG:=f2.step (a:=l[k]) hak.2.1
  have hc:=done_code (w:=w) hak.2.2
  have hlo:=done_lose (w:=w) hak.2.2
  have hco:=done_copy (w:=w) hak.2.2
  have hok:=impl_ActOk l[k]
  rw [hak.2.2] at hok
  have hbg:=f2.b.1
  have hbn:=hG.b.1
  generalize hx:l[k]=x at*
  obtain⟨Q,hQ⟩:∃ Q,Q=doneW w x:=⟨_,rfl⟩
  rw [←hQ] at hDn hG hc hlo hco hbn f3
  clear hQ hak
  obtain⟨w2,n⟩:=Q
  dsimp only at hDn hG hc hlo hco hbn f3
  try simp (disch:=omega) only [go_sem,Nat.reduceEqDiff,Nat.reduceAdd,Nat.reduceSub,Int.reduceAdd,Int.reduceSub,Int.reduceToNat,hx]
  refine den_drawX [(5,9)] [] [[0,1,2,3,4,5,6,7,8,9,10,11],[0,1,2,3,4,9,5,6,7,8,10,11]] 1 hE (fun s=>s.at [35,36,37,38,39,40,41,42,43] [(8,.sc (.pt 46 0 0)),(9,.sc (.int .i64 n))] (s.hp++(w2.hp true++[some ⟨[WorldD.cs w2 25],61,47,true,false⟩]))) (by kernel_rfl) (by (try simp (disch:=omega) only [go_sem,List.length_set,Nat.reduceEqDiff,Nat.reduceAdd,Nat.reduceSub,Int.reduceAdd,Int.reduceSub,Int.reduceToNat,hx])<;>omega) (by kernel_rfl) ?_ (run_den 400 ?_)
  rotate_left
  rotate_right
  simp only [allDn]
  refine⟨runD_den 400 ?_,runD_den 400 ?_⟩
  ·try simp (disch:=omega) only [go_sem,Nat.reduceEqDiff,Nat.reduceAdd,Nat.reduceSub,Int.reduceAdd,Int.reduceSub,Int.reduceToNat,hx]
   refine den_callD (by (try simp (disch:=omega) only [go_sem,List.length_set,Nat.reduceEqDiff,Nat.reduceAdd,Nat.reduceSub,Int.reduceAdd,Int.reduceSub,Int.reduceToNat])<;>omega) (hDn) [some (3,none),some (4,none),some (5,none),some (6,none),some (7,none),some (8,none),some (9,none),some (10,none),some (11,none),some (12,none),some (13,none),some (14,none),some (15,none),some (16,none),some (17,none),some (18,none),some (19,none),some (20,none),some (21,none),some (22,none),some (23,none)] (by simp only [go_sem];repeat' first|rfl|constructor|(rw [List.map_set];rfl)|(simp [List.map_take,List.map_drop]<;>omega)) (by rfl) (by rfl) (runD_den 400 ?_)
   simp (disch:=omega) only [go_sem,Nat.reduceEqDiff,Nat.reduceAdd,Nat.reduceSub,Int.reduceAdd,Int.reduceSub,Int.reduceToNat]
   refine⟨by (try simp (disch:=omega) only [go_sem,List.length_set,Nat.reduceEqDiff,Nat.reduceAdd,Nat.reduceSub,Int.reduceAdd,Int.reduceSub,Int.reduceToNat])<;>omega,[some (0,none),some (1,none),some (2,none),some (3,none),some (4,none),some (5,none),some (6,none),some (7,none),some (8,none),some (9,none),some (10,none),some (11,none),some (12,none),some (13,none),some (14,none),some (15,none),some (16,none),some (17,none),some (18,none),some (19,none),some (20,none),some (21,none),some (22,none),some (23,none),some (24,none),some (25,none),some (26,none),some (27,none),some (28,none),some (29,none),some (30,none),some (31,none),some (32,none),some (33,none),some (34,none),some (35,none),some (36,none),some (37,none),some (38,none),some (39,none),some (40,none),some (41,none),some (42,none),some (43,none),some (44,none),some (45,none),some (46,none)],weak_mkO (by rfl) (by rfl) ?_⟩
   try simp (disch:=omega) only [go_sem,Nat.reduceEqDiff,Nat.reduceAdd,Nat.reduceSub,Int.reduceAdd,Int.reduceSub,Int.reduceToNat]
  ·try simp (disch:=omega) only [go_sem,Nat.reduceEqDiff,Nat.reduceAdd,Nat.reduceSub,Int.reduceAdd,Int.reduceSub,Int.reduceToNat,hx]
   refine den_callD (by (try simp (disch:=omega) only [go_sem,List.length_set,Nat.reduceEqDiff,Nat.reduceAdd,Nat.reduceSub,Int.reduceAdd,Int.reduceSub,Int.reduceToNat])<;>omega) (hDn) [some (3,none),some (4,none),some (5,none),some (6,none),some (7,none),some (8,none),some (9,none),some (10,none),some (11,none),some (12,none),some (13,none),some (14,none),some (15,none),some (16,none),some (17,none),some (18,none),some (19,none),some (20,none),some (21,none),some (22,none),some (23,none)] (by simp only [go_sem];repeat' first|rfl|constructor|(rw [List.map_set];rfl)|(simp [List.map_take,List.map_drop]<;>omega)) (by rfl) (by rfl) (runD_den 400 ?_)
   simp (disch:=omega) only [go_sem,Nat.reduceEqDiff,Nat.reduceAdd,Nat.reduceSub,Int.reduceAdd,Int.reduceSub,Int.reduceToNat]
   refine⟨by (try simp (disch:=omega) only [go_sem,List.length_set,Nat.reduceEqDiff,Nat.reduceAdd,Nat.reduceSub,Int.reduceAdd,Int.reduceSub,Int.reduceToNat])<;>omega,[some (0,none),some (1,none),some (2,none),some (3,none),some (4,none),some (5,none),some (6,none),some (7,none),some (8,none),some (9,none),some (10,none),some (11,none),some (12,none),some (13,none),some (14,none),some (15,none),some (16,none),some (17,none),some (18,none),some (19,none),some (20,none),some (21,none),some (22,none),some (23,none),some (24,none),some (26,none),some (27,none),some (28,none),some (29,none),some (30,none),some (31,none),some (32,none),some (33,none),some (34,none),some (35,none),some (36,none),some (37,none),some (38,none),some (39,none),some (40,none),some (41,none),some (42,none),some (43,none),some (44,none),some (45,none),some (46,none),some (25,none)],weak_mkO (by rfl) (by rfl) ?_⟩
   try simp (disch:=omega) only [go_sem,Nat.reduceEqDiff,Nat.reduceAdd,Nat.reduceSub,Int.reduceAdd,Int.reduceSub,Int.reduceToNat]
  try simp (disch:=omega) only [go_sem,Nat.reduceEqDiff,Nat.reduceAdd,Nat.reduceSub,Int.reduceAdd,Int.reduceSub,Int.reduceToNat,hx]
  refine den_call (by (try simp (disch:=omega) only [go_sem,List.length_set,Nat.reduceEqDiff,Nat.reduceAdd,Nat.reduceSub,Int.reduceAdd,Int.reduceSub,Int.reduceToNat])<;>omega) (hok) [] (by simp only [go_sem];repeat' first|rfl|constructor|(rw [List.map_set];rfl)|(simp [List.map_take,List.map_drop]<;>omega)) (by rfl) (run_den 400 ?_)
  simp (disch:=omega) only [go_sem,Nat.reduceEqDiff,Nat.reduceAdd,Nat.reduceSub,Int.reduceAdd,Int.reduceSub,Int.reduceToNat]
  rcases hc with rfl|rfl|rfl
  ·by_cases k9:x.kind=9
   ·have e:=hlo k9 rfl
    try simp (disch:=omega) only [go_sem,Nat.reduceEqDiff,Nat.reduceAdd,Nat.reduceSub,Int.reduceAdd,Int.reduceSub,Int.reduceToNat,hx]
    refine⟨by (try simp (disch:=omega) only [go_sem,List.length_set,Nat.reduceEqDiff,Nat.reduceAdd,Nat.reduceSub,Int.reduceAdd,Int.reduceSub,Int.reduceToNat])<;>omega,hN _ (k+1,w2) [some (0,none),some (1,none),some (2,none),some (25,none),some (26,none),some (27,none),some (28,none),some (29,none),some (30,none),some (31,none),some (32,none),some (33,none),some (34,none),some (35,none),some (36,none),some (37,none),some (38,none),some (39,none),some (40,none),some (41,none),some (42,none),some (43,none),some (44,none),some (45,none),some (24,none)] (by (try dsimp only);exact⟨by omega,hG,f3⟩) (by (try dsimp only);omega) (weak_mkO (by rfl) (by rfl) ?_)⟩
    try simp (disch:=omega) only [go_sem,Nat.reduceEqDiff,Nat.reduceAdd,Nat.reduceSub,Int.reduceAdd,Int.reduceSub,Int.reduceToNat]
   by_cases k10:x.kind=10
   ·have e:=hco k10 rfl
    try simp (disch:=omega) only [go_sem,Nat.reduceEqDiff,Nat.reduceAdd,Nat.reduceSub,Int.reduceAdd,Int.reduceSub,Int.reduceToNat,hx]
    refine⟨by (try simp (disch:=omega) only [go_sem,List.length_set,Nat.reduceEqDiff,Nat.reduceAdd,Nat.reduceSub,Int.reduceAdd,Int.reduceSub,Int.reduceToNat])<;>omega,hN _ (k+1,w2) [some (0,none),some (1,none),some (2,none),some (25,none),some (26,none),some (27,none),some (28,none),some (29,none),some (30,none),some (31,none),some (32,none),some (33,none),some (34,none),some (35,none),some (36,none),some (37,none),some (38,none),some (39,none),some (40,none),some (41,none),some (42,none),some (43,none),some (44,none),some (45,none),some (24,none)] (by (try dsimp only);exact⟨by omega,hG,f3⟩) (by (try dsimp only);omega) (weak_mkO (by rfl) (by rfl) ?_)⟩
    try simp (disch:=omega) only [go_sem,Nat.reduceEqDiff,Nat.reduceAdd,Nat.reduceSub,Int.reduceAdd,Int.reduceSub,Int.reduceToNat]
   try simp (disch:=omega) only [go_sem,Nat.reduceEqDiff,Nat.reduceAdd,Nat.reduceSub,Int.reduceAdd,Int.reduceSub,Int.reduceToNat,hx]
   refine⟨by (try simp (disch:=omega) only [go_sem,List.length_set,Nat.reduceEqDiff,Nat.reduceAdd,Nat.reduceSub,Int.reduceAdd,Int.reduceSub,Int.reduceToNat])<;>omega,hN _ (k+1,w2) [some (0,none),some (1,none),some (2,none),some (25,none),some (26,none),some (27,none),some (28,none),some (29,none),some (30,none),some (31,none),some (32,none),some (33,none),some (34,none),some (35,none),some (36,none),some (37,none),some (38,none),some (39,none),some (40,none),some (41,none),some (42,none),some (43,none),some (44,none),some (45,none),some (24,none)] (by (try dsimp only);exact⟨by omega,hG,f3⟩) (by (try dsimp only);omega) (weak_mkO (by rfl) (by rfl) ?_)⟩
   try simp (disch:=omega) only [go_sem,Nat.reduceEqDiff,Nat.reduceAdd,Nat.reduceSub,Int.reduceAdd,Int.reduceSub,Int.reduceToNat]
  ·try simp (disch:=omega) only [go_sem,Nat.reduceEqDiff,Nat.reduceAdd,Nat.reduceSub,Int.reduceAdd,Int.reduceSub,Int.reduceToNat,hx]
   refine⟨by (try simp (disch:=omega) only [go_sem,List.length_set,Nat.reduceEqDiff,Nat.reduceAdd,Nat.reduceSub,Int.reduceAdd,Int.reduceSub,Int.reduceToNat])<;>omega,hN _ (k+1,w2) [some (0,none),some (1,none),some (2,none),some (25,none),some (26,none),some (27,none),some (28,none),some (29,none),some (30,none),some (31,none),some (32,none),some (33,none),some (34,none),some (35,none),some (36,none),some (37,none),some (38,none),some (39,none),some (40,none),some (41,none),some (42,none),some (43,none),some (44,none),some (45,none),some (24,none)] (by (try dsimp only);exact⟨by omega,hG,f3⟩) (by (try dsimp only);omega) (weak_mkO (by rfl) (by rfl) ?_)⟩
   try simp (disch:=omega) only [go_sem,Nat.reduceEqDiff,Nat.reduceAdd,Nat.reduceSub,Int.reduceAdd,Int.reduceSub,Int.reduceToNat]
  try simp (disch:=omega) only [go_sem,Nat.reduceEqDiff,Nat.reduceAdd,Nat.reduceSub,Int.reduceAdd,Int.reduceSub,Int.reduceToNat,hx]
  refine⟨by (try simp (disch:=omega) only [go_sem,List.length_set,Nat.reduceEqDiff,Nat.reduceAdd,Nat.reduceSub,Int.reduceAdd,Int.reduceSub,Int.reduceToNat])<;>omega,hN _ (k+1,w2) [some (0,none),some (1,none),some (2,none),some (25,none),some (26,none),some (27,none),some (28,none),some (29,none),some (30,none),some (31,none),some (32,none),some (33,none),some (34,none),some (35,none),some (36,none),some (37,none),some (38,none),some (39,none),some (40,none),some (41,none),some (42,none),some (43,none),some (44,none),some (45,none),some (24,none)] (by (try dsimp only);exact⟨by omega,hG,f3⟩) (by (try dsimp only);omega) (weak_mkO (by rfl) (by rfl) ?_)⟩
  try simp (disch:=omega) only [go_sem,Nat.reduceEqDiff,Nat.reduceAdd,Nat.reduceSub,Int.reduceAdd,Int.reduceSub,Int.reduceToNat]
 rw [List.drop_eq_nil_of_le (by omega),livedW] at f3
 dsimp only at f3
 obtain⟨R1,R2⟩:=R
 dsimp only at f3 hL hcl
 subst f3
 have hWt:=impl_Waiting w (by have:=f2.b.1;omega)
 have hS:=laws_sameWorld w f2.g.s
 obtain⟨s1,s2⟩:=waiting_law f2.q.bag f2.b.1
 have s3:=waiting_len w.bag
 have hbg:=f2.b.1
 generalize waiting w.bag=m at*
 try simp (disch:=omega) only [go_sem,Nat.reduceEqDiff,Nat.reduceAdd,Nat.reduceSub,Int.reduceAdd,Int.reduceSub,Int.reduceToNat]
 refine den_call (by (try simp (disch:=omega) only [go_sem,List.length_set,Nat.reduceEqDiff,Nat.reduceAdd,Nat.reduceSub,Int.reduceAdd,Int.reduceSub,Int.reduceToNat])<;>omega) (hL) [some (1,none)] (by simp only [go_sem];repeat' first|rfl|constructor|(rw [List.map_set];rfl)|(simp [List.map_take,List.map_drop]<;>omega)) (by rfl) (run_den 400 ?_)
 simp (disch:=omega) only [go_sem,Nat.reduceEqDiff,Nat.reduceAdd,Nat.reduceSub,Int.reduceAdd,Int.reduceSub,Int.reduceToNat]
 refine den_call (by (try simp (disch:=omega) only [go_sem,List.length_set,Nat.reduceEqDiff,Nat.reduceAdd,Nat.reduceSub,Int.reduceAdd,Int.reduceSub,Int.reduceToNat])<;>omega) (hWt) [some (3,none),some (4,none),some (5,none),some (6,none),some (7,none),some (8,none),some (9,none),some (10,none),some (11,none),some (12,none),some (13,none),some (14,none),some (15,none),some (16,none),some (17,none),some (18,none),some (19,none),some (20,none),some (21,none),some (22,none),some (23,none)] (by simp only [go_sem];repeat' first|rfl|constructor|(rw [List.map_set];rfl)|(simp [List.map_take,List.map_drop]<;>omega)) (by rfl) (run_den 400 ?_)
 simp (disch:=omega) only [go_sem,Nat.reduceEqDiff,Nat.reduceAdd,Nat.reduceSub,Int.reduceAdd,Int.reduceSub,Int.reduceToNat]
 refine den_lpO 1 hE (fun s (j:Nat)=>s.at [0,3,6,7,8,9,15,16,17,18,19,20,21,22,23,24,25,26,27,28,29,30,31,32,33,34,35,36,37,38,39,40,41,42,43,44,45,46,47,48,49,50,51,52,53,54,55,56,57,58,59,60,61,62,63,64,65,66,67,68,69,70,71,72,73,74,75,76,77,78,79,80,81,82,83,84,85,86,87,88,89,90,91,92,93,94,95,96,97,98,99,100,101,102,103,104,105,106,107,108,109,110,111,112,113,114,115,116] [(13,.sc (.int .i64 (sumI (m.take j)))),(14,.sc (.int .i64 (j:Nat)))] (s.hp)) (fun (j:Nat)=>j≤m.length) (fun (j:Nat)=>m.length - j) 0 [some (0,none),some (1,none),some (2,none),some (3,none),some (4,none),some (5,none),some (6,none),some (7,none),some (8,none),some (9,none),some (10,none),some (11,none),some (12,none),some (13,none),some (14,none),some (15,none),some (16,none),some (17,none),some (18,none),some (19,none),some (20,none),some (21,none),some (22,none),some (23,none),some (24,none),some (25,none),some (26,none),some (27,none),some (28,none),some (29,none),some (30,none),some (31,none),some (32,none),some (33,none),some (34,none),some (35,none),some (36,none),some (37,none),some (38,none),some (39,none),some (40,none),some (41,none),some (42,none),some (43,none),some (44,none),some (45,none),some (46,none),some (47,none),some (48,none)] (by (try simp (disch:=omega) only [go_sem,List.length_set,Nat.reduceEqDiff,Nat.reduceAdd,Nat.reduceSub,Int.reduceAdd,Int.reduceSub,Int.reduceToNat])<;>omega) (Nat.zero_le _) (weak_mkO (by rfl) (by rfl) ?_) fun j hj N2 hN2=>?_
 ·try simp (disch:=omega) only [go_sem,Nat.reduceEqDiff,Nat.reduceAdd,Nat.reduceSub,Int.reduceAdd,Int.reduceSub,Int.reduceToNat]
  try simp [sumI]
 have hj:=hj
 refine run_den 400 ?_
 try simp (disch:=omega) only [go_sem,Nat.reduceEqDiff,Nat.reduceAdd,Nat.reduceSub,Int.reduceAdd,Int.reduceSub,Int.reduceToNat]
 split<;>rename_i h8<;>(try simp only [beq_true,beq_false,Bool.not_eq_true',Bool.not_eq_false'] at h8)<;>simp (disch:=omega) only [go_sem,Nat.reduceEqDiff,Nat.reduceAdd,Nat.reduceSub,Int.reduceAdd,Int.reduceSub,Int.reduceToNat,h8]<;>(try simp only [decide_eq_true_eq,decide_eq_false_iff_not,beq_iff_eq,beq_eq_false_iff_ne,bne_iff_ne,bne_eq_false_iff_eq,ne_eq,Decidable.not_not,Bool.and_eq_true,Bool.and_eq_false_iff,Bool.or_eq_true,Bool.or_eq_false_iff,Int.ofNat_lt,Int.ofNat_le,Bool.not_eq_eq_eq_not,Bool.not_true,Bool.not_false] at h8)<;>try simp (disch:=omega) only [go_sem,Nat.reduceEqDiff,Nat.reduceAdd,Nat.reduceSub,Int.reduceAdd,Int.reduceSub,Int.reduceToNat]
 ·have e1:=sumI_take h8
  have e2:=s2 m[j] (List.getElem_mem h8)
  have e3:=sumI_bd (B:=40) (l:=m.take j) fun v hv=>s2 v (List.mem_of_mem_take hv)
  have e4:(m.take j).length≤13:=by rw [List.length_take];omega
  have e5:(40:Int)*(m.take j).length≤520:=by omega
  generalize hv:m[j]=v at*
  try simp (disch:=omega) only [go_sem,Nat.reduceEqDiff,Nat.reduceAdd,Nat.reduceSub,Int.reduceAdd,Int.reduceSub,Int.reduceToNat,hv,map_get h8]
  refine⟨by (try simp (disch:=omega) only [go_sem,List.length_set,Nat.reduceEqDiff,Nat.reduceAdd,Nat.reduceSub,Int.reduceAdd,Int.reduceSub,Int.reduceToNat,hv])<;>omega,hN2 _ (j+1) [some (0,none),some (1,none),some (2,none),some (3,none),some (4,none),some (5,none),some (6,none),some (7,none),some (8,none),some (9,none),some (10,none),some (11,none),some (12,none),some (13,none),some (14,none),some (15,none),some (16,none),some (17,none),some (18,none),some (19,none),some (20,none),some (21,none),some (22,none),some (23,none),some (24,none),some (25,none),some (26,none),some (27,none),some (28,none),some (29,none),some (30,none),some (31,none),some (32,none),some (33,none),some (34,none),some (35,none),some (36,none),some (37,none),some (38,none),some (39,none),some (40,none),some (41,none),some (42,none),some (43,none),some (44,none),some (45,none),some (46,none),some (47,none),some (48,none)] (by (try dsimp only);exact h8) (by (try dsimp only);omega) (weak_mkO (by rfl) (by rfl) ?_)⟩
  try simp (disch:=omega) only [go_sem,Nat.reduceEqDiff,Nat.reduceAdd,Nat.reduceSub,Int.reduceAdd,Int.reduceSub,Int.reduceToNat,hv]
  try omega
 rw [List.take_of_length_le (by omega)]
 try simp (disch:=omega) only [go_sem,Nat.reduceEqDiff,Nat.reduceAdd,Nat.reduceSub,Int.reduceAdd,Int.reduceSub,Int.reduceToNat,s1]
 refine den_call (by (try simp (disch:=omega) only [go_sem,List.length_set,Nat.reduceEqDiff,Nat.reduceAdd,Nat.reduceSub,Int.reduceAdd,Int.reduceSub,Int.reduceToNat])<;>omega) (hS) [some (3,none),some (4,none),some (5,none),some (6,none),some (7,none),some (8,none),some (9,none),some (10,none),some (11,none),some (12,none),some (13,none),some (14,none),some (15,none),some (16,none),some (17,none),some (18,none),some (19,none),some (20,none),some (21,none),some (22,none),some (23,none),some (25,none),some (26,none),some (27,none),some (28,none),some (29,none),some (30,none),some (31,none),some (32,none),some (33,none),some (34,none),some (35,none),some (36,none),some (37,none),some (38,none),some (39,none),some (40,none),some (41,none),some (42,none),some (43,none),some (44,none),some (45,none)] (by simp only [go_sem];repeat' first|rfl|constructor|(rw [List.map_set];rfl)|(simp [List.map_take,List.map_drop]<;>omega)) (by rfl) (run_den 400 ?_)
 simp (disch:=omega) only [go_sem,Nat.reduceEqDiff,Nat.reduceAdd,Nat.reduceSub,Int.reduceAdd,Int.reduceSub,Int.reduceToNat]
 refine den_fin [some (0,none)] (by (try simp (disch:=omega) only [go_sem,List.length_set,Nat.reduceEqDiff,Nat.reduceAdd,Nat.reduceSub,Int.reduceAdd,Int.reduceSub,Int.reduceToNat])<;>omega) _ (by simp only [go_sem];rfl) (by rfl) (by rfl) ?_
 simp (disch:=omega) only [go_sem,Nat.reduceEqDiff,Nat.reduceAdd,Nat.reduceSub,Int.reduceAdd,Int.reduceSub,Int.reduceToNat]
end
section
open Go.RowKit
def roHp:Hp→Bool
 |[]=>true
 |some ob::h=> !ob.own && roHp h
 |none::h=>roHp h
theorem roHp_get:∀ {h:Hp} {o:Nat} {ob:AObj},roHp h=true→h[o]? =some (some ob)→ob.own=false
 |some x::h,0,ob,hr,ho=>by
  simp only [roHp,Bool.and_eq_true,Bool.not_eq_true'] at hr
  simp at ho
  subst ho
  exact hr.1
 |some x::h,o+1,ob,hr,ho=>by
  simp only [roHp,Bool.and_eq_true] at hr
  exact roHp_get hr.2 (by simpa using ho)
 |none::h,0,ob,hr,ho=>by simp at ho
 |none::h,o+1,ob,hr,ho=>roHp_get (h:=h) hr (by simpa using ho)
 |[],o,ob,_,ho=>by simp at ho
theorem roL_ro {β:Be} {w:World}:∀ {l:Be} {h:Hp},RoL β w l h→roHp h=true
 |[],[],_=>rfl
 |p::l,some ob::h,hr=>by
  have:=roL_ro hr.2
  simp [roHp,hr.1.1,this]
 |[],_::_,h=>h.elim
 |_::_,[],h=>h.elim
 |_::_,none::_,h=>h.elim
theorem callA_ro {P:Program} {f:FuncId} {args:List AV} {b:Bool} {h h':Hp} (ct:CallA P f args h (.sc (.bo b)) h') {β:Be} {w:World} (hr:RoL β w β h) {vs:List Value} (hvs:L2 (AVR β) args vs):
  Calls P f vs.toArray w fun e w'=>e=.returned (.bool b)∧Below w.heap.size w w':=
 (ct.2 β w vs (hsim_roL hr) hvs).mono fun e w' ⟨β',v,he,hv,hh,hst⟩=>by
  have hv':v=.bool b:=hv
  subst hv'
  exact⟨he,⟨hst.os,hst.tape,hst.output,hst.size,fun k hk=>hst.block k hk fun⟨o,ob,p,ho,hown,hp,_⟩=>by
   rw [roHp_get (roL_ro hr) ho] at hown
   cases hown⟩⟩
end
section
open Go
def rkOf (R:Nat) (g:Nat):Nat:=(R >>> (10*g)) % 1024
def okH (P:Program) (R lo hi:Nat) (g:Nat):Bool:=
 match P.funcs[g]? with
 |none=>true
 |some fn=>((P.leadsTo fn).all fun h=>Nat.blt (rkOf R h) (rkOf R g) && (Nat.ble lo h && Nat.blt h hi)) && (!(fn.ours || fn.body.isNone || fn.name == "runtime.NumGoroutine") && (match fn.body with|some c=> !c.unfollowed && c.globalsNamed.isEmpty|none=>false))
def okG (P:Program) (R lo hi:Nat) (g:Nat):Bool:=Nat.ble 1000 (rkOf R g) || okH P R lo hi g
theorem okG_okH {P:Program} {R lo hi g:Nat} (h:okG P R lo hi g=true) (hr:rkOf R g < 1000):okH P R lo hi g=true:=by
 unfold okG at h
 rw [Bool.or_eq_true,Nat.ble_eq] at h
 exact h.resolve_left (by omega)
theorem closureVia_sub {P:Program} {S:FuncId→Prop} (hS:∀ g,S g→∀ h∈(P.funcs[g]?).elim [] P.leadsTo,S h):∀ (n:Nat) (todo seen:List FuncId),(∀ x∈todo,S x)→(∀ x∈seen,S x)→∀ x∈P.closureVia n todo seen,S x
 |0,todo,seen,_,hs,x,hx=>by
  unfold Program.closureVia at hx
  exact hs x (List.mem_reverse.1 hx)
 |n+1,[],seen,_,hs,x,hx=>by
  unfold Program.closureVia at hx
  exact hs x (List.mem_reverse.1 hx)
 |n+1,f::todo,seen,ht,hs,x,hx=>by
  unfold Program.closureVia at hx
  split at hx
  ·exact closureVia_sub hS n todo seen (fun y hy=>ht y (List.mem_cons_of_mem _ hy)) hs x hx
  refine closureVia_sub hS n _ (f::seen) (fun y hy=>?_) (fun y hy=>?_) x hx
  ·rcases List.mem_append.1 hy with hy|hy
   ·exact hS f (ht f (List.mem_cons_self ..)) y hy
   exact ht y (List.mem_cons_of_mem _ hy)
  rcases List.mem_cons.1 hy with rfl|hy
  ·exact ht y (List.mem_cons_self ..)
  exact hs y hy
theorem closure_sub {P:Program} {S:FuncId→Prop} (hS:∀ g,S g→∀ h∈(P.funcs[g]?).elim [] P.leadsTo,S h) {f:FuncId} (hf:S f):∀ x∈P.closure f,S x:=
 closureVia_sub hS _ [f] [] (fun x hx=>by rw [List.mem_singleton.1 hx];exact hf) (fun x hx=>by cases hx)
theorem rk_lt {P:Program} {R lo hi:Nat} (h:∀ g,lo≤g∧g < hi→okG P R lo hi g=true) {g k:FuncId} (hb:lo≤g∧g < hi) (hr:rkOf R g < 1000) (hk:k∈(P.funcs[g]?).elim [] P.leadsTo):rkOf R k < rkOf R g∧lo≤k∧k < hi:=by
 have hg:=okG_okH (h g hb) hr
 unfold okH at hg
 cases hf:P.funcs[g]? with
 |none=>rw [hf] at hk;simp at hk
 |some fn=>
  rw [hf] at hg hk
  simp only [Bool.and_eq_true,List.all_eq_true,Nat.blt_eq,Nat.ble_eq] at hg
  exact hg.1 k hk
theorem graph_facts {P:Program} {R lo hi:Nat} (h:∀ g,lo≤g∧g < hi→okG P R lo hi g=true) (f:FuncId) (hf0:(lo≤f∧f < hi)∧rkOf R f < 1000):P.inPlace f=[]∧P.unfollowed f=false∧P.recurses f=false∧P.varsNamed f=[]:=by
 have hin:∀ k,(lo≤k∧k < hi)∧rkOf R k < 1000→∀ x∈P.closure k,(lo≤x∧x < hi)∧rkOf R x < 1000:=fun k hk=>closure_sub (S:=fun x=>(lo≤x∧x < hi)∧rkOf R x < 1000) (fun a ha b hb=>⟨(rk_lt h ha.1 ha.2 hb).2,Nat.lt_trans (rk_lt h ha.1 ha.2 hb).1 ha.2⟩) hk
 have hu:P.unfollowed f=false:=by
  unfold Program.unfollowed
  rw [List.any_eq_false]
  intro g hgc
  have hg:=okG_okH (h g (hin f hf0 g hgc).1) (hin f hf0 g hgc).2
  unfold okH at hg
  cases hf:P.funcs[g]? with
  |none=>simp
  |some fn=>
   rw [hf] at hg
   simp only [Bool.and_eq_true] at hg
   simp only [Option.any_some]
   cases hb:fn.body with
   |none=>rw [hb] at hg;simp at hg
   |some c=>rw [hb] at hg;simp at hg⊢;exact hg.2.2.1
 refine⟨?_,hu,?_,?_⟩
 ·unfold Program.inPlace
  rw [List.filterMap_eq_nil_iff]
  intro g hgc
  have hg:=okG_okH (h g (hin f hf0 g hgc).1) (hin f hf0 g hgc).2
  unfold okH at hg
  cases hf:P.funcs[g]? with
  |none=>rfl
  |some fn=>
   rw [hf] at hg
   simp only [Bool.and_eq_true,Bool.not_eq_true'] at hg
   simp only [Option.bind_some]
   rw [hg.2.1]
   rfl
 ·unfold Program.recurses
  rw [hu,Bool.false_or,List.any_eq_false]
  intro g hgc
  rw [Bool.not_eq_true,List.any_eq_false]
  intro k hk
  rw [Bool.not_eq_true]
  obtain⟨h1,hkb⟩:=rk_lt h (hin f hf0 g hgc).1 (hin f hf0 g hgc).2 hk
  have hkr:rkOf R k < 1000:=Nat.lt_trans h1 (hin f hf0 g hgc).2
  have h2:∀ x∈P.closure k,rkOf R x≤rkOf R k∧lo≤x∧x < hi:=closure_sub (S:=fun x=>rkOf R x≤rkOf R k∧lo≤x∧x < hi) (fun a ha b hb=>⟨Nat.le_trans (Nat.le_of_lt (rk_lt h ha.2 (by omega) hb).1) ha.1,(rk_lt h ha.2 (by omega) hb).2⟩) ⟨Nat.le_refl _,hkb⟩
  cases hc:(P.closure k).contains g with
  |false=>rfl
  |true=>
   have:=(h2 g (List.contains_iff_mem.1 hc)).1
   omega
 unfold Program.varsNamed
 have e1:((P.closure f).flatMap fun g=>((P.funcs[g]?).bind (·.body)).elim [] Code.globalsNamed)=[]:=by
  rw [List.flatMap_eq_nil_iff]
  intro g hgc
  have hg:=okG_okH (h g (hin f hf0 g hgc).1) (hin f hf0 g hgc).2
  unfold okH at hg
  cases hf:P.funcs[g]? with
  |none=>rfl
  |some fn=>
   rw [hf] at hg
   simp only [Bool.and_eq_true] at hg
   simp only [Option.bind_some]
   cases hb:fn.body with
   |none=>rfl
   |some c=>rw [hb] at hg;simp at hg⊢;exact hg.2.2.2
 have e2:((P.closure f).filterMap fun g=>(P.funcs[g]?).bind fun fn=>if fn.body.isNone then entryReads.lookup fn.name else none)=[]:=by
  rw [List.filterMap_eq_nil_iff]
  intro g hgc
  have hg:=okG_okH (h g (hin f hf0 g hgc).1) (hin f hf0 g hgc).2
  unfold okH at hg
  cases hf:P.funcs[g]? with
  |none=>rfl
  |some fn=>
   rw [hf] at hg
   simp only [Bool.and_eq_true] at hg
   simp only [Option.bind_some]
   cases hb:fn.body with
   |none=>rw [hb] at hg;simp at hg
   |some c=>rfl
 rw [e1,e2]
 rfl
def chs (l:List Nat):List Char:=l.map Char.ofNat
theorem chs_app (a b:List Nat):chs (a++b)=chs a++chs b:=by simp [chs]
theorem chs_cons (a:Nat) (b:List Nat):chs (a::b)=Char.ofNat a::chs b:=rfl
theorem wordsSigns_cons {c:Char} (h:c≠Char.ofNat 32) (r:List Char):wordsSigns (c::r)=match wordsSigns r with
  |w::ws=>(c::w)::ws
  |[]=>[[c]]:=by
 conv=>lhs;unfold wordsSigns
 split
 ·rename_i e
  simp at e
 ·rename_i r' e
  obtain⟨e1,_⟩:=List.cons.inj e
  exact absurd e1 h
 rename_i c' r' _ e
 obtain⟨e1,e2⟩:=List.cons.inj e
 subst e1;subst e2
 rfl
theorem wordsSigns_word:∀ {w:List Char} (r:List Char),(∀ c∈w,c≠Char.ofNat 32)→wordsSigns (w++Char.ofNat 32::r)=w::wordsSigns r
 |[],r,_=>by
  show wordsSigns (Char.ofNat 32::r)=[]::wordsSigns r
  conv=>lhs;unfold wordsSigns
  rfl
 |c::w,r,h=>by
  rw [List.cons_append,wordsSigns_cons (h c (List.mem_cons_self ..)),wordsSigns_word r (fun x hx=>h x (List.mem_cons_of_mem _ hx))]
def noBlank (l:List Nat):Bool:=(chs l).all fun c=>c != Char.ofNat 32
theorem noBlank_mem {l:List Nat} (h:noBlank l=true):∀ c∈chs l,c≠Char.ofNat 32:=by
 intro c hc
 have:=List.all_eq_true.1 h c hc
 simpa using this
theorem head_words {P:Program} {a b c r:List Nat} (h:P.initOrder=String.ofList (chs (a++32::(b++32::(c++32::r))))) (ha:noBlank a=true) (hb:noBlank b=true) (hc:noBlank c=true)
  (hm:((chs a == "harness".toList || chs a == "ownmain".toList) && isSumSigns (chs b))=true):∃ rest,behindMainWord (wordsSigns P.initOrder.toList)=chs c::rest:=by
 refine⟨wordsSigns (chs r),?_⟩
 rw [h,String.toList_ofList,chs_app,chs_cons,chs_app,chs_cons,chs_app,chs_cons,wordsSigns_word _ (noBlank_mem ha),wordsSigns_word _ (noBlank_mem hb),wordsSigns_word _ (noBlank_mem hc)]
 exact if_pos hm
def cutN:List Nat:=[99,117,116]
theorem make_cut {P:Program} {rest:List (List Char)} (h:behindMainWord (wordsSigns P.initOrder.toList)=chs cutN::rest):P.make=some .cut:=by
 unfold Program.make
 rw [h]
 rfl
theorem final_cut {P:Program} {rest:List (List Char)} (h:behindMainWord (wordsSigns P.initOrder.toList)=chs cutN::rest):P.liftsFinal=false:=by
 unfold Program.liftsFinal Program.headLifts
 rw [h]
 rfl
theorem may_cut {P:Program} {rest:List (List Char)} (h:behindMainWord (wordsSigns P.initOrder.toList)=chs cutN::rest) (l1:P.laysLater=false) (l2:P.bearsReflect=false) (l3:P.doorRows=[]):P.mayEnter=true:=by
 have l4:P.doorFits []=true:=by
  unfold Program.doorFits
  rw [l3]
  rfl
 unfold Program.mayEnter
 rw [h]
 show ((_ || _) || _)=true
 have e:stripLifts liftWords (chs cutN::rest)=([],chs cutN::rest):=rfl
 rw [e,l1,l2,l4]
 simp only [List.contains_nil,Bool.and_true,Bool.not_false,Bool.or_true,List.head?_cons]
 rw [show (some (chs cutN) == some "cut".toList)=true from by kernel_rfl]
 simp
def restFacts (P:Program) (f:FuncId) (fn:Func) (s:ChangeSpec) (c:OpenClaim):Bool:=
 c.wf (OpenSpec.ofChange s) && laidOutB P && mapsRowed P &&
 fn.params.all (P.readableRec ·) && namedTie P c.named s.vars &&
 (c.stops == []) && (P.stops == []) && (c.knobs == []) && (P.stopKnobs == []) &&
 (c.maps == (fn.params.toList++s.plain.varTypes P).any (P.mapsRec ·)) && (c.ifaces == (fn.params.toList++s.plain.varTypes P).any (P.ifacesRec ·)) && (c.mapsOut == P.mapsAmong fn.resultTypes.toList) &&
 (c.loops == (fn.params.toList++s.plain.varTypes P).any (P.loopsFrom ·)) && (c.wideKeys == (fn.params.toList++s.plain.varTypes P++fn.resultTypes.toList).any (P.wideKeysFrom ·)) &&
 s.vars.all (P.varReadable ·) && fn.resultTypes.all (fun t=>P.readableRec t && decide (t < P.types.size)) && (c.ifacesOut == fn.resultTypes.toList.any (P.ifacesRec ·)) && (c.loopsOut == fn.resultTypes.toList.any (P.loopsFrom ·)) && (c.plainKeys == P.plainKeys) && c.shortTexts.isNone && P.stopsHeard && (c.kinds == (if c.domain.isEmpty then [] else fn.params.toList.map fun t=>match P.underlying t with|some (.int k)=>some k|_=>none)) && (c.pinned == c.pinnedBy) &&
 (c.veiled == (fn.params.toList++s.plain.varTypes P++fn.resultTypes.toList).any (P.veiledRec ·)) && c.veiledFits P fn.params.toList (fn.params.toList++s.plain.varTypes P++fn.resultTypes.toList)
theorem joined_of {P:Program} {f:FuncId} {fn:Func} {s:ChangeSpec} {c:OpenClaim} (g:P.inPlace f=[]∧P.unfollowed f=false∧P.recurses f=false∧P.varsNamed f=[]) (c1:c.inPlace=[]) (c2:c.unfollowed=false) (c3:c.recurses=false) (c4:c.named=[])
  (m1:P.mayEnter=true) (m2:P.liftsFinal=false) (m3:P.make=some .cut) (d2:c.lifted=false) (d3:c.make=.cut) (h:restFacts P f fn s c=true):joinedFacts P f fn s c=true:=by
 obtain⟨g1,g2,g3,g4⟩:=g
 unfold restFacts at h
 unfold joinedFacts
 simp only [Bool.and_eq_true] at h⊢
 obtain⟨⟨⟨⟨⟨⟨⟨⟨⟨⟨⟨⟨⟨⟨⟨⟨⟨⟨⟨⟨⟨⟨⟨⟨k1,k2⟩,k3⟩,k4⟩,k5⟩,k6⟩,k7⟩,k8⟩,k9⟩,k14⟩,k15⟩,k16⟩,k17⟩,k17b⟩,k18⟩,k19⟩,k20⟩,k21⟩,k22⟩,k23⟩,k23b⟩,k25⟩,k26⟩,k27⟩,k28⟩:=h
 refine⟨⟨⟨⟨⟨⟨⟨⟨⟨⟨⟨⟨⟨⟨⟨⟨⟨⟨⟨⟨⟨⟨⟨⟨⟨⟨⟨⟨⟨⟨⟨k1,k2⟩,k3⟩,k4⟩,k5⟩,k6⟩,k7⟩,k8⟩,k9⟩,?_⟩,?_⟩,?_⟩,?_⟩,k14⟩,k15⟩,k16⟩,k17⟩,k17b⟩,k18⟩,k19⟩,k20⟩,k21⟩,k22⟩,k23⟩,k23b⟩,m1⟩,?_⟩,?_⟩,k25⟩,k26⟩,k27⟩,k28⟩
 ·rw [c1,g1];rfl
 ·rw [c2,g2];rfl
 ·rw [c3,g3];rfl
 ·rw [c4,g4];rfl
 ·rw [d2,m2];rfl
 rw [d3,m3];exact beq_self_eq_true _
end
section
open Go
def rkN:Nat:=39529161499451005553907868626123096762633995535607435854434033787942582186714302900412651966648290670293420298995470186168535724010026672633091880736672770311290193577187093735068360316260019847183267787734840560313481161454338456953072139129024794178390234275665000547447829397437800352463639365469731234443598250687715532714987009687963839141937341615996434433207710039610362724949647828032285982145819525553774643152737123798129186615508017308237820232280741773312
theorem okG_0:(List.range' 3 16).all (okG Tryz.prog rkN 3 140)=true:=by kernel_rfl
theorem okG_1:(List.range' 19 16).all (okG Tryz.prog rkN 3 140)=true:=by kernel_rfl
theorem okG_2:(List.range' 35 16).all (okG Tryz.prog rkN 3 140)=true:=by kernel_rfl
theorem okG_3:(List.range' 51 16).all (okG Tryz.prog rkN 3 140)=true:=by kernel_rfl
theorem okG_4:(List.range' 67 16).all (okG Tryz.prog rkN 3 140)=true:=by kernel_rfl
theorem okG_5:(List.range' 83 16).all (okG Tryz.prog rkN 3 140)=true:=by kernel_rfl
theorem okG_6:(List.range' 99 16).all (okG Tryz.prog rkN 3 140)=true:=by kernel_rfl
theorem okG_7:(List.range' 115 16).all (okG Tryz.prog rkN 3 140)=true:=by kernel_rfl
theorem okG_8:(List.range' 131 9).all (okG Tryz.prog rkN 3 140)=true:=by kernel_rfl
theorem okG_all (g:Nat) (h:3≤g∧g < 140):okG Tryz.prog rkN 3 140 g=true:=by
 rcases (by omega:(3≤g∧g < 19)∨(19≤g∧g < 35)∨(35≤g∧g < 51)∨(51≤g∧g < 67)∨(67≤g∧g < 83)∨(83≤g∧g < 99)∨(99≤g∧g < 115)∨(115≤g∧g < 131)∨(131≤g∧g < 140)) with h|h|h|h|h|h|h|h|h
 ·exact List.all_eq_true.1 okG_0 g (List.mem_range'_1.2 h)
 ·exact List.all_eq_true.1 okG_1 g (List.mem_range'_1.2 h)
 ·exact List.all_eq_true.1 okG_2 g (List.mem_range'_1.2 h)
 ·exact List.all_eq_true.1 okG_3 g (List.mem_range'_1.2 h)
 ·exact List.all_eq_true.1 okG_4 g (List.mem_range'_1.2 h)
 ·exact List.all_eq_true.1 okG_5 g (List.mem_range'_1.2 h)
 ·exact List.all_eq_true.1 okG_6 g (List.mem_range'_1.2 h)
 ·exact List.all_eq_true.1 okG_7 g (List.mem_range'_1.2 h)
 exact List.all_eq_true.1 okG_8 g (List.mem_range'_1.2 h)
theorem init_head:∃ rest,behindMainWord (wordsSigns Tryz.prog.initOrder.toList)=chs cutN::rest:=
 head_words (a:=[104,97,114,110,101,115,115]) (b:=[57,99,48,56,101,102,49,101,55,97,102,55,52,99,51,97,49,54,53,98,57,100,97,54,57,55,98,101,57,51,49,51,102,53,100,48,55,54,52,102,101,98,53,57,49,100,49,102,98,48,57,98,56,99,102,100,53,50,49,97,52,48,99,48]) (c:=cutN) (r:=[97,116,32,108,111,111,112,46,101,120,97,109,112,108,101,47,103,48,48,57,54,55,47,108,97,119,115,46,70,110,76,105,118,101,115]) (by kernel_rfl) (by kernel_rfl) (by kernel_rfl) (by kernel_rfl) (by kernel_rfl)
theorem own_l1:Tryz.prog.laysLater=false:=by kernel_rfl
theorem own_l2:Tryz.prog.bearsReflect=false:=by kernel_rfl
theorem own_l3:Tryz.prog.doorRows=[]:=by kernel_rfl
theorem own_may:Tryz.prog.mayEnter=true:=init_head.elim fun _ h=>may_cut h own_l1 own_l2 own_l3
theorem own_final:Tryz.prog.liftsFinal=false:=init_head.elim fun _ h=>final_cut h
theorem own_make:Tryz.prog.make=some .cut:=init_head.elim fun _ h=>make_cut h
theorem own_graph (f:Nat) (h:((Nat.ble 3 f && Nat.blt f 140) && Nat.blt (rkOf rkN f) 1000)=true):Tryz.prog.inPlace f=[]∧Tryz.prog.unfollowed f=false∧Tryz.prog.recurses f=false∧Tryz.prog.varsNamed f=[]:=
 graph_facts okG_all f (by simpa only [Bool.and_eq_true,Nat.ble_eq,Nat.blt_eq] using h)
end
end Go.Proofs.YtkabkkjnemongaaGreat
