/-
  Texts merged for this claim by shake.py: what its proof needs.
-/
import Derived.Tactics
import Derived.Below
import Derived.Laws.AppendOwn
import Derived.Laws.OwnMore
import Derived.Laws.Slices
import Derived.Laws.Small
import Derived.Laws.Strings
import Derived.KernelRfl
import Derived.Laws.MakeOwn
import Derived.Laws.BytesString
import Derived.Laws.BytesArg
import Derived.Laws.Build
import Derived.Laws.Concat
import Derived.Laws.StructEq
import Derived.Lib.ConvBytes
import Derived.Orders
import Derived.WalkKit
import Derived.ProofKit
import Derived.ShutString
import Derived.OpenShut
import Derived.ChangeOld
import Derived.Carry
import Derived.Test.YtkabkkjnemongaaGreatChecked
import Derived.Laws.BitsLemmas
import Derived.JoinedOf
import Derived.Test.YtkabkkjnemongaaGreatRows
import Derived.Test.YtkabkkjnemongaaGreatZFnLivesE
set_option maxHeartbeats 16000000
set_option maxRecDepth 100000
set_option linter.unusedVariables false
set_option linter.unusedSimpArgs false
namespace Go.Proofs.YtkabkkjnemongaaGreat
section
open Go.RowKit
theorem writeAll_len (e:EndD) (t:List UInt8):(writeAll e t).2.length≤3:=pushN_len
theorem write_small {e:EndD} {t:List UInt8} (hs:Small e):Small (write e t).1:=by
 rw [write];split
 ·exact⟨hs.own,hs.far,hs.subs,hs.halfs,hs.list,hs.done,hs.over⟩
 exact hs
theorem writeAll_small {e:EndD} {t:List UInt8} (hs:Small e):Small (writeAll e t).1:=pushN_small (write_small hs)
theorem readE_small {e:EndD} {m:Int} (hs:Small e):Small (readE e m).1:=by
 rw [readE];split
 ·refine⟨hs.own,hs.far,hs.subs,hs.halfs,?_,hs.done,hs.over⟩
  dsimp only
  rw [takeReady];split<;>exact hs.list
 exact hs
theorem addOwn_small {e:EndD} {a:AddrD} (hs:Small e):Small (addOwn e a).1:=by
 rw [addOwn];split
 ·exact⟨putAddr_le hs.own,hs.far,hs.subs,hs.halfs,hs.list,hs.done,hs.over⟩
 exact hs
theorem resetE_small {e:EndD} {k:Int} (hs:Small e):Small (resetE e k).1:=by
 rw [resetE];split
 ·exact⟨hs.own,hs.far,by simpa only [setState,List.length_set] using hs.subs,hs.halfs,hs.list,hs.done,hs.over⟩
 exact hs
theorem resetE_len (e:EndD) (k:Int):(resetE e k).2.length≤1:=by rw [resetE];split<;>simp
theorem dropOwn_small {e:EndD} {n:Int} (hs:Small e):Small (dropOwn e n).1:=by
 rw [dropOwn];split
 ·rename_i h
  simp only [doOk,Bool.and_eq_true] at h
  have:=(endOk_ids h.1.1).1
  exact⟨dropAddr_le hs.own,hs.far,by simpa only [dropSubs,List.length_map] using hs.subs,hs.halfs,hs.list,by have:=putI_len e.done n;dsimp only;omega,hs.over⟩
 exact hs
theorem dropOwn_len (e:EndD) (n:Int) (hs:Small e):(dropOwn e n).2.length≤1048576:=by
 rw [dropOwn];split
 ·rw [List.length_map]
  have:=onN_len (dropSubs e n)
  have h2:(dropSubs e n).length=e.subs.length:=by rw [dropSubs,List.length_map]
  have:=hs.subs
  omega
 simp
theorem manGo_small {far:List AddrD}:∀ {l:List RoadD} {e:EndD},Small e→Small (manGo far e l).1
 |[],_,h=>h
 |r::l,e,h=>manGo_small (l:=l) (join_small h)
theorem manGo_len {far:List AddrD}:∀ {l:List RoadD} {e:EndD},(manGo far e l).2.length≤l.length
 |[],_=>Nat.le_refl _
 |r::l,e=>by
  have h1:=join_one e r (spareOf far r.far)
  have h2:=manGo_len (far:=far) (l:=l) (e:=(join e r (spareOf far r.far)).1)
  rw [show (manGo far e (r::l)).2=(join e r (spareOf far r.far)).2++(manGo far (join e r (spareOf far r.far)).1 l).2 from rfl,List.length_append,List.length_cons]
  omega
theorem manage_small {e:EndD} (hs:Small e):Small (manage e).1:=by
 rw [manage];split
 ·exact manGo_small hs
 exact hs
theorem manage_len (e:EndD):(manage e).2.length≤64:=by
 rw [manage];split
 ·exact Nat.le_trans manGo_len (missing_le64 _ _)
 simp
theorem tick_small {e:EndD} (hs:Small e):Small (tick e).1:=by
 have hy:=younger_le e.halfs (e.now+1)
 have:=hs.halfs
 rw [tick];split
 ·split
  ·rw [tickEnd];exact pushN_small ⟨hs.own,hs.far,by dsimp only;rw [List.length_map];exact hs.subs,by dsimp only [tick0];omega,hs.list,hs.done,hs.over⟩
  rw [tickEnd];exact pushN_small ⟨hs.own,hs.far,hs.subs,by dsimp only [tick0];omega,hs.list,hs.done,hs.over⟩
 exact hs
theorem tickEnd_len (e:EndD) (l:List LetterD):(tickEnd e l).2.length≤l.length+e.own.length+3:=by
 have h1:=tellAddrs_le e
 have h2:=pushN_len (k:=3) (e:=e)
 rw [tickEnd]
 simp only [List.length_append]
 omega
theorem tick_len (e:EndD):(tick e).2.length≤64:=by
 rw [tick];split
 ·rename_i h
  simp only [tkE,Bool.and_eq_true] at h
  have h8:=endOk_subs h.1.1
  have h6:=endOk_own h.1.1
  have hfl:(e.subs.flatMap (tickL e)).length≤e.subs.length:=flat_le (tickL_one e) _
  split
  ·refine Nat.le_trans (tickEnd_len _ _) ?_
   show (e.subs.flatMap (tickL e)).length+e.own.length+3≤64
   omega
  refine Nat.le_trans (tickEnd_len _ _) ?_
  show 0+e.own.length+3≤64
  omega
 simp
structure SmallD (w:WorldD):Prop where
 p:SmallWP w
 s:SmallS w
 oa:w.a.out.text.length≤1048576
 ob:w.b.out.text.length≤1048576
theorem write_text {e:EndD} {t:List UInt8} (h:e.out.text.length≤1048576):(write e t).1.out.text.length≤1048576:=by
 rw [write];split
 ·dsimp only
  rw [accept];split
  ·rename_i ho
   simp only [accOk,Bool.and_eq_true] at ho
   have F:=outOk_fine ho.1
   have:=accN_room (t:=t) F
   have:=F.room
   dsimp only
   rw [List.length_append,List.length_take]
   omega
  exact h
 exact h
theorem readE_len {e:EndD} {m:Int} (h:SmallP e.inp):(readE e m).2.length≤1048576:=by
 have:=h.ready
 rw [readE];split
 ·dsimp only
  rw [takeReady];split
  ·dsimp only;rw [List.length_take];omega
  simp
 simp
theorem impl_acts1_1 (w:WorldD) (pos many:Int) (text:List UInt8) (ad:AddrD) (le:LetterD) (hw:SmallD w) (htx:text.length≤1048576):
  CallA Tryz.prog 18 [.sc (.pt 21 0 0),.ag (ActD.cs ⟨1,1,pos,many,text,ad,le⟩)] (w.hp true++[some ⟨[w.cs 0],61,47,true,false⟩]) (.sc (.int .i64 0))
  ([none,none,none,none,none,none,none,none,none,none,none,none,none,none,none,none,none,none,none,none,none,some ⟨[WorldD.cs (postL 1 { w with wroteA:=w.wroteA++text.take (write w.a text).2,a:=(writeAll w.a text).1 } (writeAll w.a text).2) 22],61,47,true,false⟩]++WorldD.hp (postL 1 { w with wroteA:=w.wroteA++text.take (write w.a text).2,a:=(writeAll w.a text).1 } (writeAll w.a text).2) true):=by
 have q1:=hw.s.wa
 have q2:=hw.s.wb
 have q3:=hw.s.ra
 have q4:=hw.s.rb
 have hX:=impl_WriteAll w.a text hw.p.s.a htx (write_text hw.oa)
 have hsm:=writeAll_small (t:=text) hw.p.s.a
 have hlen:=writeAll_len w.a text
 have hEA:CallA Tryz.prog 38 [.ag (w.cs 0),.sc (.int .i64 1)] (w.hp false) (.ag (w.a.cs 21)) (w.hp false++w.a.hp true):=impl_EndAt w 1 hw.p.s.a.own hw.p.s.a.far hw.p.s.a.subs hw.p.s.a.halfs hw.p.s.a.list hw.p.s.a.done hw.p.s.a.over hw.p.s.b.own hw.p.s.b.far hw.p.s.b.subs hw.p.s.b.halfs hw.p.s.b.list hw.p.s.b.done hw.p.s.b.over
 have hX2:=impl_Write w.a text hw.p.s.a htx
 have hwl:=write_le w.a text
 obtain⟨wr,hwr⟩:∃ p,p=write w.a text:=⟨_,rfl⟩
 rw [←hwr] at hX2 hwl⊢
 obtain⟨e0,n0⟩:=wr
 dsimp only at hX2 hwl⊢
 obtain⟨pr,hpr⟩:∃ p,p=writeAll w.a text:=⟨_,rfl⟩
 rw [←hpr] at hX hsm hlen⊢
 obtain⟨e1,l1⟩:=pr
 dsimp only at hX hsm hlen⊢
 have hset:=impl_set1 { w with wroteA:=w.wroteA++text.take n0 } e1
 have hpost:=impl_post1 { w with wroteA:=w.wroteA++text.take n0,a:=e1 } l1 ⟨hw.p.s.bag,hw.p.s.past,hw.p.s.keys,hw.p.s.tags,hw.p.s.nums,hw.p.s.ansA,hw.p.s.ansB⟩ (by first|omega|simp)
 have hends:=postL_ends (side:=1) (l:=l1) (w:={ w with wroteA:=w.wroteA++text.take n0,a:=e1 })
 obtain⟨R,hR⟩:∃ R,R=postL 1 { w with wroteA:=w.wroteA++text.take n0,a:=e1 } l1:=⟨_,rfl⟩
 rw [←hR] at hpost hends⊢
 clear hR
 obtain⟨ra,rb,bag,past,wA,wB,rA,rB,known,nums,nsA,nsB⟩:=R
 obtain⟨keys,tags⟩:=known
 dsimp only at hends
 obtain⟨g1,g2,g3,g4,g5,g6⟩:=hends
 replace g1:=g1.symm
 replace g2:=g2.symm
 replace g3:=g3.symm
 replace g4:=g4.symm
 replace g5:=g5.symm
 replace g6:=g6.symm
 subst g1 g2 g3 g4 g5 g6
 have htk:(text.take n0).length=n0:=by rw [List.length_take];omega
 refine callA_ofO Tryz.func18 (by kernel_rfl) rfl fun E hE=>run_den 400 ?_
 simp (disch:=omega) only [Tryz.ntmps18,Tryz.results18,go_sem,Nat.reduceEqDiff,Nat.reduceAdd,Nat.reduceSub,Int.reduceAdd,Int.reduceSub,Int.reduceToNat]
 refine den_drawX [(5,6)] [] [[0,1,2,3,4,5,6,7],[0,1,2,3,4,6,5,7]] 22 hE (fun s=>s.at [13,14,15,16,17,18] [(5,.sc (.pt 30 0 0))] (s.hp++(w.a.hp true++[some ⟨[w.a.cs 23],25,41,true,false⟩]))) (by kernel_rfl) (by (try simp (disch:=omega) only [go_sem,List.length_set,Nat.reduceEqDiff,Nat.reduceAdd,Nat.reduceSub,Int.reduceAdd,Int.reduceSub,Int.reduceToNat])<;>omega) (by kernel_rfl) ?_ (run_den 400 ?_)
 rotate_left
 rotate_right
 simp only [allDn]
 refine⟨runD_den 400 ?_,runD_den 400 ?_⟩
 ·simp (disch:=omega) only [go_sem]
  refine den_callD (by (try simp (disch:=omega) only [go_sem,List.length_set,Nat.reduceEqDiff,Nat.reduceAdd,Nat.reduceSub,Int.reduceAdd,Int.reduceSub,Int.reduceToNat])<;>omega) (hEA) [some (0,none),some (1,none),some (2,none),some (3,none),some (4,none),some (5,none),some (6,none),some (7,none),some (8,none),some (9,none),some (10,none),some (11,none),some (12,none),some (13,none),some (14,none),some (15,none),some (16,none),some (17,none),some (18,none),some (19,none),some (20,none)] (by simp only [go_sem];repeat' first|rfl|constructor|(rw [List.map_set];rfl)|(simp [List.map_take,List.map_drop]<;>omega)) (by rfl) (by rfl) (runD_den 400 ?_)
  simp (disch:=omega) only [go_sem,Nat.reduceEqDiff,Nat.reduceAdd,Nat.reduceSub,Int.reduceAdd,Int.reduceSub,Int.reduceToNat]
  refine⟨by (try simp (disch:=omega) only [go_sem,List.length_set,Nat.reduceEqDiff,Nat.reduceAdd,Nat.reduceSub,Int.reduceAdd,Int.reduceSub,Int.reduceToNat])<;>omega,[some (0,none),some (1,none),some (2,none),some (3,none),some (4,none),some (5,none),some (6,none),some (7,none),some (8,none),some (9,none),some (10,none),some (11,none),some (12,none),some (13,none),some (14,none),some (15,none),some (16,none),some (17,none),some (18,none),some (19,none),some (20,none),some (21,none),some (22,none),some (23,none),some (24,none),some (25,none),some (26,none),some (27,none),some (28,none),some (29,none),some (30,none)],weak_mkO (by rfl) (by rfl) ?_⟩
  try simp (disch:=omega) only [go_sem,Nat.reduceEqDiff,Nat.reduceAdd,Nat.reduceSub,Int.reduceAdd,Int.reduceSub,Int.reduceToNat]
 ·simp (disch:=omega) only [go_sem]
  refine den_callD (by (try simp (disch:=omega) only [go_sem,List.length_set,Nat.reduceEqDiff,Nat.reduceAdd,Nat.reduceSub,Int.reduceAdd,Int.reduceSub,Int.reduceToNat])<;>omega) (hEA) [some (0,none),some (1,none),some (2,none),some (3,none),some (4,none),some (5,none),some (6,none),some (7,none),some (8,none),some (9,none),some (10,none),some (11,none),some (12,none),some (13,none),some (14,none),some (15,none),some (16,none),some (17,none),some (18,none),some (19,none),some (20,none)] (by simp only [go_sem];repeat' first|rfl|constructor|(rw [List.map_set];rfl)|(simp [List.map_take,List.map_drop]<;>omega)) (by rfl) (by rfl) (runD_den 400 ?_)
  simp (disch:=omega) only [go_sem,Nat.reduceEqDiff,Nat.reduceAdd,Nat.reduceSub,Int.reduceAdd,Int.reduceSub,Int.reduceToNat]
  refine⟨by (try simp (disch:=omega) only [go_sem,List.length_set,Nat.reduceEqDiff,Nat.reduceAdd,Nat.reduceSub,Int.reduceAdd,Int.reduceSub,Int.reduceToNat])<;>omega,[some (0,none),some (1,none),some (2,none),some (3,none),some (4,none),some (5,none),some (6,none),some (7,none),some (8,none),some (9,none),some (10,none),some (11,none),some (12,none),some (13,none),some (14,none),some (15,none),some (16,none),some (17,none),some (18,none),some (19,none),some (20,none),some (21,none),some (22,none),some (24,none),some (25,none),some (26,none),some (27,none),some (28,none),some (29,none),some (30,none),some (23,none)],weak_mkO (by rfl) (by rfl) ?_⟩
  try simp (disch:=omega) only [go_sem,Nat.reduceEqDiff,Nat.reduceAdd,Nat.reduceSub,Int.reduceAdd,Int.reduceSub,Int.reduceToNat]
 try simp (disch:=omega) only [go_sem,Nat.reduceEqDiff,Nat.reduceAdd,Nat.reduceSub,Int.reduceAdd,Int.reduceSub,Int.reduceToNat]
 refine den_call (by (try simp (disch:=omega) only [go_sem,List.length_set,Nat.reduceEqDiff,Nat.reduceAdd,Nat.reduceSub,Int.reduceAdd,Int.reduceSub,Int.reduceToNat])<;>omega) (hX2) [some (23,none),some (24,none),some (25,none),some (26,none),some (27,none),some (28,none),some (29,none)] (by simp only [go_sem];repeat' first|rfl|constructor|(rw [List.map_set];rfl)|(simp [List.map_take,List.map_drop]<;>omega)) (by rfl) (run_den 400 ?_)
 simp (disch:=omega) only [go_sem,Nat.reduceEqDiff,Nat.reduceAdd,Nat.reduceSub,Int.reduceAdd,Int.reduceSub,Int.reduceToNat]
 refine den_call (by (try simp (disch:=omega) only [go_sem,List.length_set,Nat.reduceEqDiff,Nat.reduceAdd,Nat.reduceSub,Int.reduceAdd,Int.reduceSub,Int.reduceToNat])<;>omega) (hX) [some (23,none),some (24,none),some (25,none),some (26,none),some (27,none),some (28,none),some (29,none)] (by simp only [go_sem];repeat' first|rfl|constructor|(rw [List.map_set];rfl)|(simp [List.map_take,List.map_drop]<;>omega)) (by rfl) (run_den 400 ?_)
 simp (disch:=omega) only [go_sem,Nat.reduceEqDiff,Nat.reduceAdd,Nat.reduceSub,Int.reduceAdd,Int.reduceSub,Int.reduceToNat]
 refine den_draw1 [0,1,2,3,4,5,6,7,8,9,10,11] (by kernel_rfl) (by (try simp (disch:=omega) only [go_sem,List.length_set,Nat.reduceEqDiff,Nat.reduceAdd,Nat.reduceSub,Int.reduceAdd,Int.reduceSub,Int.reduceToNat])<;>omega) (by kernel_rfl) (runD_den 400 ?_)
 simp (disch:=omega) only [go_sem,Nat.reduceEqDiff,Nat.reduceAdd,Nat.reduceSub,Int.reduceAdd,Int.reduceSub,Int.reduceToNat]
 refine⟨by (try simp (disch:=omega) only [go_sem,List.length_set,Nat.reduceEqDiff,Nat.reduceAdd,Nat.reduceSub,Int.reduceAdd,Int.reduceSub,Int.reduceToNat])<;>omega,run_den 400 ?_⟩
 try simp (disch:=omega) only [go_sem,Nat.reduceEqDiff,Nat.reduceAdd,Nat.reduceSub,Int.reduceAdd,Int.reduceSub,Int.reduceToNat]
 refine den_call (by (try simp (disch:=omega) only [go_sem,List.length_set,Nat.reduceEqDiff,Nat.reduceAdd,Nat.reduceSub,Int.reduceAdd,Int.reduceSub,Int.reduceToNat])<;>omega) (hset) [some (0,none),some (1,none),some (2,none),some (3,none),some (4,none),some (5,none),some (6,none),some (7,none),some (8,none),some (9,none),some (10,none),some (11,none),some (12,none),some (13,none),some (14,none),some (15,none),some (16,none),some (17,none),some (18,none),some (19,none),some (20,none),some (39,none),some (40,none),some (41,none),some (42,none),some (43,none),some (44,none),some (45,none),some (21,none)] (by simp only [go_sem];repeat' first|rfl|constructor|(rw [List.map_set];rfl)|(simp [List.map_take,List.map_drop]<;>omega)) (by rfl) (run_den 400 ?_)
 simp (disch:=omega) only [go_sem,Nat.reduceEqDiff,Nat.reduceAdd,Nat.reduceSub,Int.reduceAdd,Int.reduceSub,Int.reduceToNat]
 refine den_call (by (try simp (disch:=omega) only [go_sem,List.length_set,Nat.reduceEqDiff,Nat.reduceAdd,Nat.reduceSub,Int.reduceAdd,Int.reduceSub,Int.reduceToNat])<;>omega) (hpost) [some (39,none),some (40,none),some (41,none),some (42,none),some (43,none),some (44,none),some (45,none),some (7,none),some (8,none),some (9,none),some (10,none),some (11,none),some (12,none),some (13,none),some (14,none),some (15,none),some (16,none),some (17,none),some (18,none),some (19,none),some (20,none),some (21,none),some (46,none)] (by simp only [go_sem];repeat' first|rfl|constructor|(rw [List.map_set];rfl)|(simp [List.map_take,List.map_drop]<;>omega)) (by rfl) (run_den 400 ?_)
 simp (disch:=omega) only [go_sem,Nat.reduceEqDiff,Nat.reduceAdd,Nat.reduceSub,Int.reduceAdd,Int.reduceSub,Int.reduceToNat]
 refine den_finO [some (0,none),some (1,none),some (2,none),some (3,none),some (4,none),some (5,none),some (6,none),some (7,none),some (8,none),some (9,none),some (10,none),some (11,none),some (12,none),some (13,none),some (14,none),some (15,none),some (16,none),some (17,none),some (18,none),some (19,none),some (20,none),some (21,none),some (39,none),some (40,none),some (41,none),some (42,none),some (43,none),some (44,none),some (45,none),some (7,none),some (8,none),some (9,none),some (10,none),some (11,none),some (12,none),some (13,none),some (47,none),some (48,none),some (49,none),some (50,none),some (51,none),some (52,none),some (53,none)] (by (try simp (disch:=omega) only [go_sem,List.length_set,Nat.reduceEqDiff,Nat.reduceAdd,Nat.reduceSub,Int.reduceAdd,Int.reduceSub,Int.reduceToNat])<;>omega) _ (by simp only [go_sem];rfl) (by rfl) (by rfl) ?_
 simp (disch:=omega) only [go_sem,Nat.reduceEqDiff,Nat.reduceAdd,Nat.reduceSub,Int.reduceAdd,Int.reduceSub,Int.reduceToNat]
theorem impl_acts2_1 (w:WorldD) (pos many:Int) (text:List UInt8) (ad:AddrD) (le:LetterD) (hw:SmallD w) (htx:text.length≤1048576):
  CallA Tryz.prog 18 [.sc (.pt 21 0 0),.ag (ActD.cs ⟨2,1,pos,many,text,ad,le⟩)] (w.hp true++[some ⟨[w.cs 0],61,47,true,false⟩]) (.sc (.int .i64 0))
  ([none,none,none,none,none,none,none,none,none,none,none,none,none,none,none,none,none,none,none,none,none,some ⟨[WorldD.cs (postL 1 { w with readA:=w.readA++(readE w.a many).2,a:=((readE w.a many).1,([]:List LetterD)).1 } ((readE w.a many).1,([]:List LetterD)).2) 22],61,47,true,false⟩]++WorldD.hp (postL 1 { w with readA:=w.readA++(readE w.a many).2,a:=((readE w.a many).1,([]:List LetterD)).1 } ((readE w.a many).1,([]:List LetterD)).2) true):=by
 have q1:=hw.s.wa
 have q2:=hw.s.wb
 have q3:=hw.s.ra
 have q4:=hw.s.rb
 have hX:=impl_Read w.a many hw.p.s.a hw.p.pa
 have hsm:=readE_small (m:=many) hw.p.s.a
 have hEA:CallA Tryz.prog 38 [.ag (w.cs 0),.sc (.int .i64 1)] (w.hp false) (.ag (w.a.cs 21)) (w.hp false++w.a.hp true):=impl_EndAt w 1 hw.p.s.a.own hw.p.s.a.far hw.p.s.a.subs hw.p.s.a.halfs hw.p.s.a.list hw.p.s.a.done hw.p.s.a.over hw.p.s.b.own hw.p.s.b.far hw.p.s.b.subs hw.p.s.b.halfs hw.p.s.b.list hw.p.s.b.done hw.p.s.b.over
 obtain⟨pr,hpr⟩:∃ p,p=readE w.a many:=⟨_,rfl⟩
 have hrl:(readE w.a many).2.length≤1048576:=readE_len hw.p.pa
 rw [←hpr] at hX hsm hrl⊢
 obtain⟨e1,t1⟩:=pr
 dsimp only at hX hsm hrl⊢
 obtain⟨l1,hl1⟩:∃ l:List LetterD,l=[]:=⟨_,rfl⟩
 have hlen:l1.length≤1:=by rw [hl1];simp
 have hset:=impl_set1 { w with readA:=w.readA++t1 } e1
 have hpost:=impl_post1 { w with readA:=w.readA++t1,a:=e1 } [] ⟨hw.p.s.bag,hw.p.s.past,hw.p.s.keys,hw.p.s.tags,hw.p.s.nums,hw.p.s.ansA,hw.p.s.ansB⟩ (by first|omega|simp)
 have hends:=postL_ends (side:=1) (l:=[]) (w:={ w with readA:=w.readA++t1,a:=e1 })
 obtain⟨R,hR⟩:∃ R,R=postL 1 { w with readA:=w.readA++t1,a:=e1 } []:=⟨_,rfl⟩
 rw [←hR] at hpost hends⊢
 clear hR
 obtain⟨ra,rb,bag,past,wA,wB,rA,rB,known,nums,nsA,nsB⟩:=R
 obtain⟨keys,tags⟩:=known
 dsimp only at hends
 obtain⟨g1,g2,g3,g4,g5,g6⟩:=hends
 replace g1:=g1.symm
 replace g2:=g2.symm
 replace g3:=g3.symm
 replace g4:=g4.symm
 replace g5:=g5.symm
 replace g6:=g6.symm
 subst g1 g2 g3 g4 g5 g6
 refine callA_ofO Tryz.func18 (by kernel_rfl) rfl fun E hE=>run_den 400 ?_
 simp (disch:=omega) only [Tryz.ntmps18,Tryz.results18,go_sem,Nat.reduceEqDiff,Nat.reduceAdd,Nat.reduceSub,Int.reduceAdd,Int.reduceSub,Int.reduceToNat]
 refine den_drawX [(5,6)] [] [[0,1,2,3,4,5,6,7],[0,1,2,3,4,6,5,7]] 22 hE (fun s=>s.at [13,14,15,16,17,18] [(5,.sc (.pt 30 0 0))] (s.hp++(w.a.hp true++[some ⟨[w.a.cs 23],25,41,true,false⟩]))) (by kernel_rfl) (by (try simp (disch:=omega) only [go_sem,List.length_set,Nat.reduceEqDiff,Nat.reduceAdd,Nat.reduceSub,Int.reduceAdd,Int.reduceSub,Int.reduceToNat])<;>omega) (by kernel_rfl) ?_ (run_den 400 ?_)
 rotate_left
 rotate_right
 simp only [allDn]
 refine⟨runD_den 400 ?_,runD_den 400 ?_⟩
 ·simp (disch:=omega) only [go_sem]
  refine den_callD (by (try simp (disch:=omega) only [go_sem,List.length_set,Nat.reduceEqDiff,Nat.reduceAdd,Nat.reduceSub,Int.reduceAdd,Int.reduceSub,Int.reduceToNat])<;>omega) (hEA) [some (0,none),some (1,none),some (2,none),some (3,none),some (4,none),some (5,none),some (6,none),some (7,none),some (8,none),some (9,none),some (10,none),some (11,none),some (12,none),some (13,none),some (14,none),some (15,none),some (16,none),some (17,none),some (18,none),some (19,none),some (20,none)] (by simp only [go_sem];repeat' first|rfl|constructor|(rw [List.map_set];rfl)|(simp [List.map_take,List.map_drop]<;>omega)) (by rfl) (by rfl) (runD_den 400 ?_)
  simp (disch:=omega) only [go_sem,Nat.reduceEqDiff,Nat.reduceAdd,Nat.reduceSub,Int.reduceAdd,Int.reduceSub,Int.reduceToNat]
  refine⟨by (try simp (disch:=omega) only [go_sem,List.length_set,Nat.reduceEqDiff,Nat.reduceAdd,Nat.reduceSub,Int.reduceAdd,Int.reduceSub,Int.reduceToNat])<;>omega,[some (0,none),some (1,none),some (2,none),some (3,none),some (4,none),some (5,none),some (6,none),some (7,none),some (8,none),some (9,none),some (10,none),some (11,none),some (12,none),some (13,none),some (14,none),some (15,none),some (16,none),some (17,none),some (18,none),some (19,none),some (20,none),some (21,none),some (22,none),some (23,none),some (24,none),some (25,none),some (26,none),some (27,none),some (28,none),some (29,none),some (30,none)],weak_mkO (by rfl) (by rfl) ?_⟩
  try simp (disch:=omega) only [go_sem,Nat.reduceEqDiff,Nat.reduceAdd,Nat.reduceSub,Int.reduceAdd,Int.reduceSub,Int.reduceToNat]
 ·simp (disch:=omega) only [go_sem]
  refine den_callD (by (try simp (disch:=omega) only [go_sem,List.length_set,Nat.reduceEqDiff,Nat.reduceAdd,Nat.reduceSub,Int.reduceAdd,Int.reduceSub,Int.reduceToNat])<;>omega) (hEA) [some (0,none),some (1,none),some (2,none),some (3,none),some (4,none),some (5,none),some (6,none),some (7,none),some (8,none),some (9,none),some (10,none),some (11,none),some (12,none),some (13,none),some (14,none),some (15,none),some (16,none),some (17,none),some (18,none),some (19,none),some (20,none)] (by simp only [go_sem];repeat' first|rfl|constructor|(rw [List.map_set];rfl)|(simp [List.map_take,List.map_drop]<;>omega)) (by rfl) (by rfl) (runD_den 400 ?_)
  simp (disch:=omega) only [go_sem,Nat.reduceEqDiff,Nat.reduceAdd,Nat.reduceSub,Int.reduceAdd,Int.reduceSub,Int.reduceToNat]
  refine⟨by (try simp (disch:=omega) only [go_sem,List.length_set,Nat.reduceEqDiff,Nat.reduceAdd,Nat.reduceSub,Int.reduceAdd,Int.reduceSub,Int.reduceToNat])<;>omega,[some (0,none),some (1,none),some (2,none),some (3,none),some (4,none),some (5,none),some (6,none),some (7,none),some (8,none),some (9,none),some (10,none),some (11,none),some (12,none),some (13,none),some (14,none),some (15,none),some (16,none),some (17,none),some (18,none),some (19,none),some (20,none),some (21,none),some (22,none),some (24,none),some (25,none),some (26,none),some (27,none),some (28,none),some (29,none),some (30,none),some (23,none)],weak_mkO (by rfl) (by rfl) ?_⟩
  try simp (disch:=omega) only [go_sem,Nat.reduceEqDiff,Nat.reduceAdd,Nat.reduceSub,Int.reduceAdd,Int.reduceSub,Int.reduceToNat]
 try simp (disch:=omega) only [go_sem,Nat.reduceEqDiff,Nat.reduceAdd,Nat.reduceSub,Int.reduceAdd,Int.reduceSub,Int.reduceToNat]
 refine den_call (by (try simp (disch:=omega) only [go_sem,List.length_set,Nat.reduceEqDiff,Nat.reduceAdd,Nat.reduceSub,Int.reduceAdd,Int.reduceSub,Int.reduceToNat])<;>omega) (hX) [some (23,none),some (24,none),some (25,none),some (26,none),some (27,none),some (28,none),some (29,none)] (by simp only [go_sem];repeat' first|rfl|constructor|(rw [List.map_set];rfl)|(simp [List.map_take,List.map_drop]<;>omega)) (by rfl) (run_den 400 ?_)
 simp (disch:=omega) only [go_sem,Nat.reduceEqDiff,Nat.reduceAdd,Nat.reduceSub,Int.reduceAdd,Int.reduceSub,Int.reduceToNat]
 refine den_call (by (try simp (disch:=omega) only [go_sem,List.length_set,Nat.reduceEqDiff,Nat.reduceAdd,Nat.reduceSub,Int.reduceAdd,Int.reduceSub,Int.reduceToNat])<;>omega) (hset) [some (0,none),some (1,none),some (2,none),some (3,none),some (4,none),some (5,none),some (6,none),some (7,none),some (8,none),some (9,none),some (10,none),some (11,none),some (12,none),some (13,none),some (14,none),some (15,none),some (16,none),some (17,none),some (18,none),some (19,none),some (20,none),some (31,none),some (32,none),some (33,none),some (34,none),some (35,none),some (36,none),some (37,none),some (21,none)] (by simp only [go_sem];repeat' first|rfl|constructor|(rw [List.map_set];rfl)|(simp [List.map_take,List.map_drop]<;>omega)) (by rfl) (run_den 400 ?_)
 simp (disch:=omega) only [go_sem,Nat.reduceEqDiff,Nat.reduceAdd,Nat.reduceSub,Int.reduceAdd,Int.reduceSub,Int.reduceToNat]
 refine den_call (by (try simp (disch:=omega) only [go_sem,List.length_set,Nat.reduceEqDiff,Nat.reduceAdd,Nat.reduceSub,Int.reduceAdd,Int.reduceSub,Int.reduceToNat])<;>omega) (hpost) [some (31,none),some (32,none),some (33,none),some (34,none),some (35,none),some (36,none),some (37,none),some (7,none),some (8,none),some (9,none),some (10,none),some (11,none),some (12,none),some (13,none),some (14,none),some (15,none),some (16,none),some (17,none),some (18,none),some (19,none),some (20,none),some (21,none),none] (by simp only [go_sem];repeat' first|rfl|constructor|(rw [List.map_set];rfl)|(simp [List.map_take,List.map_drop]<;>omega)) (by rfl) (run_den 400 ?_)
 simp (disch:=omega) only [go_sem,Nat.reduceEqDiff,Nat.reduceAdd,Nat.reduceSub,Int.reduceAdd,Int.reduceSub,Int.reduceToNat]
 refine den_finO [some (0,none),some (1,none),some (2,none),some (3,none),some (4,none),some (5,none),some (6,none),some (7,none),some (8,none),some (9,none),some (10,none),some (11,none),some (12,none),some (13,none),some (14,none),some (15,none),some (16,none),some (17,none),some (18,none),some (19,none),some (20,none),some (21,none),some (31,none),some (32,none),some (33,none),some (34,none),some (35,none),some (36,none),some (37,none),some (7,none),some (8,none),some (9,none),some (10,none),some (11,none),some (12,none),some (13,none),some (39,none),some (40,none),some (41,none),some (42,none),some (43,none),some (44,none),some (45,none)] (by (try simp (disch:=omega) only [go_sem,List.length_set,Nat.reduceEqDiff,Nat.reduceAdd,Nat.reduceSub,Int.reduceAdd,Int.reduceSub,Int.reduceToNat])<;>omega) _ (by simp only [go_sem];rfl) (by rfl) (by rfl) ?_
 simp (disch:=omega) only [go_sem,Nat.reduceEqDiff,Nat.reduceAdd,Nat.reduceSub,Int.reduceAdd,Int.reduceSub,Int.reduceToNat]
theorem impl_acts4_1 (w:WorldD) (pos many:Int) (text:List UInt8) (ad:AddrD) (le:LetterD) (hw:SmallD w) (htx:text.length≤1048576):
  CallA Tryz.prog 18 [.sc (.pt 21 0 0),.ag (ActD.cs ⟨4,1,pos,many,text,ad,le⟩)] (w.hp true++[some ⟨[w.cs 0],61,47,true,false⟩]) (.sc (.int .i64 0))
  ([none,none,none,none,none,none,none,none,none,none,none,none,none,none,none,none,none,none,none,none,none,some ⟨[WorldD.cs (postL 1 { w with a:=(manage w.a).1 } (manage w.a).2) 22],61,47,true,false⟩]++WorldD.hp (postL 1 { w with a:=(manage w.a).1 } (manage w.a).2) true):=by
 have q1:=hw.s.wa
 have q2:=hw.s.wb
 have q3:=hw.s.ra
 have q4:=hw.s.rb
 have hX:=impl_Manage w.a hw.p.s.a
 have hsm:=manage_small hw.p.s.a
 have hlen:=manage_len w.a
 have hEA:CallA Tryz.prog 38 [.ag (w.cs 0),.sc (.int .i64 1)] (w.hp false) (.ag (w.a.cs 21)) (w.hp false++w.a.hp true):=impl_EndAt w 1 hw.p.s.a.own hw.p.s.a.far hw.p.s.a.subs hw.p.s.a.halfs hw.p.s.a.list hw.p.s.a.done hw.p.s.a.over hw.p.s.b.own hw.p.s.b.far hw.p.s.b.subs hw.p.s.b.halfs hw.p.s.b.list hw.p.s.b.done hw.p.s.b.over
 obtain⟨pr,hpr⟩:∃ p,p=manage w.a:=⟨_,rfl⟩
 rw [←hpr] at hX hsm hlen⊢
 obtain⟨e1,l1⟩:=pr
 dsimp only at hX hsm hlen⊢
 have hset:=impl_set1 w e1
 have hpost:=impl_post1 { w with a:=e1 } l1 ⟨hw.p.s.bag,hw.p.s.past,hw.p.s.keys,hw.p.s.tags,hw.p.s.nums,hw.p.s.ansA,hw.p.s.ansB⟩ (by first|omega|simp)
 have hends:=postL_ends (side:=1) (l:=l1) (w:={ w with a:=e1 })
 obtain⟨R,hR⟩:∃ R,R=postL 1 { w with a:=e1 } l1:=⟨_,rfl⟩
 rw [←hR] at hpost hends⊢
 clear hR
 obtain⟨ra,rb,bag,past,wA,wB,rA,rB,known,nums,nsA,nsB⟩:=R
 obtain⟨keys,tags⟩:=known
 dsimp only at hends
 obtain⟨g1,g2,g3,g4,g5,g6⟩:=hends
 replace g1:=g1.symm
 replace g2:=g2.symm
 replace g3:=g3.symm
 replace g4:=g4.symm
 replace g5:=g5.symm
 replace g6:=g6.symm
 subst g1 g2 g3 g4 g5 g6
 refine callA_ofO Tryz.func18 (by kernel_rfl) rfl fun E hE=>run_den 400 ?_
 simp (disch:=omega) only [Tryz.ntmps18,Tryz.results18,go_sem,Nat.reduceEqDiff,Nat.reduceAdd,Nat.reduceSub,Int.reduceAdd,Int.reduceSub,Int.reduceToNat]
 refine den_drawX [(5,6)] [] [[0,1,2,3,4,5,6,7],[0,1,2,3,4,6,5,7]] 22 hE (fun s=>s.at [13,14,15,16,17,18] [(5,.sc (.pt 30 0 0))] (s.hp++(w.a.hp true++[some ⟨[w.a.cs 23],25,41,true,false⟩]))) (by kernel_rfl) (by (try simp (disch:=omega) only [go_sem,List.length_set,Nat.reduceEqDiff,Nat.reduceAdd,Nat.reduceSub,Int.reduceAdd,Int.reduceSub,Int.reduceToNat])<;>omega) (by kernel_rfl) ?_ (run_den 400 ?_)
 rotate_left
 rotate_right
 simp only [allDn]
 refine⟨runD_den 400 ?_,runD_den 400 ?_⟩
 ·simp (disch:=omega) only [go_sem]
  refine den_callD (by (try simp (disch:=omega) only [go_sem,List.length_set,Nat.reduceEqDiff,Nat.reduceAdd,Nat.reduceSub,Int.reduceAdd,Int.reduceSub,Int.reduceToNat])<;>omega) (hEA) [some (0,none),some (1,none),some (2,none),some (3,none),some (4,none),some (5,none),some (6,none),some (7,none),some (8,none),some (9,none),some (10,none),some (11,none),some (12,none),some (13,none),some (14,none),some (15,none),some (16,none),some (17,none),some (18,none),some (19,none),some (20,none)] (by simp only [go_sem];repeat' first|rfl|constructor|(rw [List.map_set];rfl)|(simp [List.map_take,List.map_drop]<;>omega)) (by rfl) (by rfl) (runD_den 400 ?_)
  simp (disch:=omega) only [go_sem,Nat.reduceEqDiff,Nat.reduceAdd,Nat.reduceSub,Int.reduceAdd,Int.reduceSub,Int.reduceToNat]
  refine⟨by (try simp (disch:=omega) only [go_sem,List.length_set,Nat.reduceEqDiff,Nat.reduceAdd,Nat.reduceSub,Int.reduceAdd,Int.reduceSub,Int.reduceToNat])<;>omega,[some (0,none),some (1,none),some (2,none),some (3,none),some (4,none),some (5,none),some (6,none),some (7,none),some (8,none),some (9,none),some (10,none),some (11,none),some (12,none),some (13,none),some (14,none),some (15,none),some (16,none),some (17,none),some (18,none),some (19,none),some (20,none),some (21,none),some (22,none),some (23,none),some (24,none),some (25,none),some (26,none),some (27,none),some (28,none),some (29,none),some (30,none)],weak_mkO (by rfl) (by rfl) ?_⟩
  try simp (disch:=omega) only [go_sem,Nat.reduceEqDiff,Nat.reduceAdd,Nat.reduceSub,Int.reduceAdd,Int.reduceSub,Int.reduceToNat]
 ·simp (disch:=omega) only [go_sem]
  refine den_callD (by (try simp (disch:=omega) only [go_sem,List.length_set,Nat.reduceEqDiff,Nat.reduceAdd,Nat.reduceSub,Int.reduceAdd,Int.reduceSub,Int.reduceToNat])<;>omega) (hEA) [some (0,none),some (1,none),some (2,none),some (3,none),some (4,none),some (5,none),some (6,none),some (7,none),some (8,none),some (9,none),some (10,none),some (11,none),some (12,none),some (13,none),some (14,none),some (15,none),some (16,none),some (17,none),some (18,none),some (19,none),some (20,none)] (by simp only [go_sem];repeat' first|rfl|constructor|(rw [List.map_set];rfl)|(simp [List.map_take,List.map_drop]<;>omega)) (by rfl) (by rfl) (runD_den 400 ?_)
  simp (disch:=omega) only [go_sem,Nat.reduceEqDiff,Nat.reduceAdd,Nat.reduceSub,Int.reduceAdd,Int.reduceSub,Int.reduceToNat]
  refine⟨by (try simp (disch:=omega) only [go_sem,List.length_set,Nat.reduceEqDiff,Nat.reduceAdd,Nat.reduceSub,Int.reduceAdd,Int.reduceSub,Int.reduceToNat])<;>omega,[some (0,none),some (1,none),some (2,none),some (3,none),some (4,none),some (5,none),some (6,none),some (7,none),some (8,none),some (9,none),some (10,none),some (11,none),some (12,none),some (13,none),some (14,none),some (15,none),some (16,none),some (17,none),some (18,none),some (19,none),some (20,none),some (21,none),some (22,none),some (24,none),some (25,none),some (26,none),some (27,none),some (28,none),some (29,none),some (30,none),some (23,none)],weak_mkO (by rfl) (by rfl) ?_⟩
  try simp (disch:=omega) only [go_sem,Nat.reduceEqDiff,Nat.reduceAdd,Nat.reduceSub,Int.reduceAdd,Int.reduceSub,Int.reduceToNat]
 try simp (disch:=omega) only [go_sem,Nat.reduceEqDiff,Nat.reduceAdd,Nat.reduceSub,Int.reduceAdd,Int.reduceSub,Int.reduceToNat]
 refine den_call (by (try simp (disch:=omega) only [go_sem,List.length_set,Nat.reduceEqDiff,Nat.reduceAdd,Nat.reduceSub,Int.reduceAdd,Int.reduceSub,Int.reduceToNat])<;>omega) (hX) [some (23,none),some (24,none),some (25,none),some (26,none),some (27,none),some (28,none),some (29,none)] (by simp only [go_sem];repeat' first|rfl|constructor|(rw [List.map_set];rfl)|(simp [List.map_take,List.map_drop]<;>omega)) (by rfl) (run_den 400 ?_)
 simp (disch:=omega) only [go_sem,Nat.reduceEqDiff,Nat.reduceAdd,Nat.reduceSub,Int.reduceAdd,Int.reduceSub,Int.reduceToNat]
 refine den_call (by (try simp (disch:=omega) only [go_sem,List.length_set,Nat.reduceEqDiff,Nat.reduceAdd,Nat.reduceSub,Int.reduceAdd,Int.reduceSub,Int.reduceToNat])<;>omega) (hset) [some (0,none),some (1,none),some (2,none),some (3,none),some (4,none),some (5,none),some (6,none),some (7,none),some (8,none),some (9,none),some (10,none),some (11,none),some (12,none),some (13,none),some (14,none),some (15,none),some (16,none),some (17,none),some (18,none),some (19,none),some (20,none),some (31,none),some (32,none),some (33,none),some (34,none),some (35,none),some (36,none),some (37,none),some (21,none)] (by simp only [go_sem];repeat' first|rfl|constructor|(rw [List.map_set];rfl)|(simp [List.map_take,List.map_drop]<;>omega)) (by rfl) (run_den 400 ?_)
 simp (disch:=omega) only [go_sem,Nat.reduceEqDiff,Nat.reduceAdd,Nat.reduceSub,Int.reduceAdd,Int.reduceSub,Int.reduceToNat]
 refine den_call (by (try simp (disch:=omega) only [go_sem,List.length_set,Nat.reduceEqDiff,Nat.reduceAdd,Nat.reduceSub,Int.reduceAdd,Int.reduceSub,Int.reduceToNat])<;>omega) (hpost) [some (31,none),some (32,none),some (33,none),some (34,none),some (35,none),some (36,none),some (37,none),some (7,none),some (8,none),some (9,none),some (10,none),some (11,none),some (12,none),some (13,none),some (14,none),some (15,none),some (16,none),some (17,none),some (18,none),some (19,none),some (20,none),some (21,none),some (38,none)] (by simp only [go_sem];repeat' first|rfl|constructor|(rw [List.map_set];rfl)|(simp [List.map_take,List.map_drop]<;>omega)) (by rfl) (run_den 400 ?_)
 simp (disch:=omega) only [go_sem,Nat.reduceEqDiff,Nat.reduceAdd,Nat.reduceSub,Int.reduceAdd,Int.reduceSub,Int.reduceToNat]
 refine den_finO [some (0,none),some (1,none),some (2,none),some (3,none),some (4,none),some (5,none),some (6,none),some (7,none),some (8,none),some (9,none),some (10,none),some (11,none),some (12,none),some (13,none),some (14,none),some (15,none),some (16,none),some (17,none),some (18,none),some (19,none),some (20,none),some (21,none),some (31,none),some (32,none),some (33,none),some (34,none),some (35,none),some (36,none),some (37,none),some (7,none),some (8,none),some (9,none),some (10,none),some (11,none),some (12,none),some (13,none),some (39,none),some (40,none),some (41,none),some (42,none),some (43,none),some (44,none),some (45,none)] (by (try simp (disch:=omega) only [go_sem,List.length_set,Nat.reduceEqDiff,Nat.reduceAdd,Nat.reduceSub,Int.reduceAdd,Int.reduceSub,Int.reduceToNat])<;>omega) _ (by simp only [go_sem];rfl) (by rfl) (by rfl) ?_
 simp (disch:=omega) only [go_sem,Nat.reduceEqDiff,Nat.reduceAdd,Nat.reduceSub,Int.reduceAdd,Int.reduceSub,Int.reduceToNat]
theorem impl_acts5_1 (w:WorldD) (pos many:Int) (text:List UInt8) (ad:AddrD) (le:LetterD) (hw:SmallD w) (htx:text.length≤1048576) (hsd:sideAt ad.addr=1) (hgood:(addOwn w.a ad).2=true):
  CallA Tryz.prog 18 [.sc (.pt 21 0 0),.ag (ActD.cs ⟨5,1,pos,many,text,ad,le⟩)] (w.hp true++[some ⟨[w.cs 0],61,47,true,false⟩]) (.sc (.int .i64 0))
  ([none,none,none,none,none,none,none,none,none,none,none,none,none,none,none,none,none,none,none,none,none,some ⟨[WorldD.cs (postL 1 { w with a:=((addOwn w.a ad).1,([]:List LetterD)).1 } ((addOwn w.a ad).1,([]:List LetterD)).2) 22],61,47,true,false⟩]++WorldD.hp (postL 1 { w with a:=((addOwn w.a ad).1,([]:List LetterD)).1 } ((addOwn w.a ad).1,([]:List LetterD)).2) true):=by
 have q1:=hw.s.wa
 have q2:=hw.s.wb
 have q3:=hw.s.ra
 have q4:=hw.s.rb
 have hX:=impl_AddOwn w.a ad hw.p.s.a
 have hsm:=addOwn_small (a:=ad) hw.p.s.a
 have hEA:CallA Tryz.prog 38 [.ag (w.cs 0),.sc (.int .i64 1)] (w.hp false) (.ag (w.a.cs 21)) (w.hp false++w.a.hp true):=impl_EndAt w 1 hw.p.s.a.own hw.p.s.a.far hw.p.s.a.subs hw.p.s.a.halfs hw.p.s.a.list hw.p.s.a.done hw.p.s.a.over hw.p.s.b.own hw.p.s.b.far hw.p.s.b.subs hw.p.s.b.halfs hw.p.s.b.list hw.p.s.b.done hw.p.s.b.over
 obtain⟨pr,hpr⟩:∃ p,p=addOwn w.a ad:=⟨_,rfl⟩
 rw [←hpr] at hX hsm hgood⊢
 obtain⟨e1,ok1⟩:=pr
 dsimp only at hX hsm hgood⊢
 subst hgood
 obtain⟨l1,hl1⟩:∃ l:List LetterD,l=[]:=⟨_,rfl⟩
 have hlen:l1.length≤1:=by rw [hl1];simp
 have hset:=impl_set1 w e1
 have hpost:=impl_post1 { w with a:=e1 } [] ⟨hw.p.s.bag,hw.p.s.past,hw.p.s.keys,hw.p.s.tags,hw.p.s.nums,hw.p.s.ansA,hw.p.s.ansB⟩ (by first|omega|simp)
 have hends:=postL_ends (side:=1) (l:=[]) (w:={ w with a:=e1 })
 obtain⟨R,hR⟩:∃ R,R=postL 1 { w with a:=e1 } []:=⟨_,rfl⟩
 rw [←hR] at hpost hends⊢
 clear hR
 obtain⟨ra,rb,bag,past,wA,wB,rA,rB,known,nums,nsA,nsB⟩:=R
 obtain⟨keys,tags⟩:=known
 dsimp only at hends
 obtain⟨g1,g2,g3,g4,g5,g6⟩:=hends
 replace g1:=g1.symm
 replace g2:=g2.symm
 replace g3:=g3.symm
 replace g4:=g4.symm
 replace g5:=g5.symm
 replace g6:=g6.symm
 subst g1 g2 g3 g4 g5 g6
 have hSd:=impl_SideAt ad.addr
 rw [hsd] at hSd
 refine callA_ofO Tryz.func18 (by kernel_rfl) rfl fun E hE=>run_den 400 ?_
 simp (disch:=omega) only [Tryz.ntmps18,Tryz.results18,go_sem,Nat.reduceEqDiff,Nat.reduceAdd,Nat.reduceSub,Int.reduceAdd,Int.reduceSub,Int.reduceToNat]
 refine den_drawX [(5,6)] [] [[0,1,2,3,4,5,6,7],[0,1,2,3,4,6,5,7]] 22 hE (fun s=>s.at [13,14,15,16,17,18] [(5,.sc (.pt 30 0 0))] (s.hp++(w.a.hp true++[some ⟨[w.a.cs 23],25,41,true,false⟩]))) (by kernel_rfl) (by (try simp (disch:=omega) only [go_sem,List.length_set,Nat.reduceEqDiff,Nat.reduceAdd,Nat.reduceSub,Int.reduceAdd,Int.reduceSub,Int.reduceToNat])<;>omega) (by kernel_rfl) ?_ (run_den 400 ?_)
 rotate_left
 rotate_right
 simp only [allDn]
 refine⟨runD_den 400 ?_,runD_den 400 ?_⟩
 ·simp (disch:=omega) only [go_sem]
  refine den_callD (by (try simp (disch:=omega) only [go_sem,List.length_set,Nat.reduceEqDiff,Nat.reduceAdd,Nat.reduceSub,Int.reduceAdd,Int.reduceSub,Int.reduceToNat])<;>omega) (hEA) [some (0,none),some (1,none),some (2,none),some (3,none),some (4,none),some (5,none),some (6,none),some (7,none),some (8,none),some (9,none),some (10,none),some (11,none),some (12,none),some (13,none),some (14,none),some (15,none),some (16,none),some (17,none),some (18,none),some (19,none),some (20,none)] (by simp only [go_sem];repeat' first|rfl|constructor|(rw [List.map_set];rfl)|(simp [List.map_take,List.map_drop]<;>omega)) (by rfl) (by rfl) (runD_den 400 ?_)
  simp (disch:=omega) only [go_sem,Nat.reduceEqDiff,Nat.reduceAdd,Nat.reduceSub,Int.reduceAdd,Int.reduceSub,Int.reduceToNat]
  refine⟨by (try simp (disch:=omega) only [go_sem,List.length_set,Nat.reduceEqDiff,Nat.reduceAdd,Nat.reduceSub,Int.reduceAdd,Int.reduceSub,Int.reduceToNat])<;>omega,[some (0,none),some (1,none),some (2,none),some (3,none),some (4,none),some (5,none),some (6,none),some (7,none),some (8,none),some (9,none),some (10,none),some (11,none),some (12,none),some (13,none),some (14,none),some (15,none),some (16,none),some (17,none),some (18,none),some (19,none),some (20,none),some (21,none),some (22,none),some (23,none),some (24,none),some (25,none),some (26,none),some (27,none),some (28,none),some (29,none),some (30,none)],weak_mkO (by rfl) (by rfl) ?_⟩
  try simp (disch:=omega) only [go_sem,Nat.reduceEqDiff,Nat.reduceAdd,Nat.reduceSub,Int.reduceAdd,Int.reduceSub,Int.reduceToNat]
 ·simp (disch:=omega) only [go_sem]
  refine den_callD (by (try simp (disch:=omega) only [go_sem,List.length_set,Nat.reduceEqDiff,Nat.reduceAdd,Nat.reduceSub,Int.reduceAdd,Int.reduceSub,Int.reduceToNat])<;>omega) (hEA) [some (0,none),some (1,none),some (2,none),some (3,none),some (4,none),some (5,none),some (6,none),some (7,none),some (8,none),some (9,none),some (10,none),some (11,none),some (12,none),some (13,none),some (14,none),some (15,none),some (16,none),some (17,none),some (18,none),some (19,none),some (20,none)] (by simp only [go_sem];repeat' first|rfl|constructor|(rw [List.map_set];rfl)|(simp [List.map_take,List.map_drop]<;>omega)) (by rfl) (by rfl) (runD_den 400 ?_)
  simp (disch:=omega) only [go_sem,Nat.reduceEqDiff,Nat.reduceAdd,Nat.reduceSub,Int.reduceAdd,Int.reduceSub,Int.reduceToNat]
  refine⟨by (try simp (disch:=omega) only [go_sem,List.length_set,Nat.reduceEqDiff,Nat.reduceAdd,Nat.reduceSub,Int.reduceAdd,Int.reduceSub,Int.reduceToNat])<;>omega,[some (0,none),some (1,none),some (2,none),some (3,none),some (4,none),some (5,none),some (6,none),some (7,none),some (8,none),some (9,none),some (10,none),some (11,none),some (12,none),some (13,none),some (14,none),some (15,none),some (16,none),some (17,none),some (18,none),some (19,none),some (20,none),some (21,none),some (22,none),some (24,none),some (25,none),some (26,none),some (27,none),some (28,none),some (29,none),some (30,none),some (23,none)],weak_mkO (by rfl) (by rfl) ?_⟩
  try simp (disch:=omega) only [go_sem,Nat.reduceEqDiff,Nat.reduceAdd,Nat.reduceSub,Int.reduceAdd,Int.reduceSub,Int.reduceToNat]
 try simp (disch:=omega) only [go_sem,Nat.reduceEqDiff,Nat.reduceAdd,Nat.reduceSub,Int.reduceAdd,Int.reduceSub,Int.reduceToNat]
 refine den_call (by (try simp (disch:=omega) only [go_sem,List.length_set,Nat.reduceEqDiff,Nat.reduceAdd,Nat.reduceSub,Int.reduceAdd,Int.reduceSub,Int.reduceToNat])<;>omega) (hX) [some (23,none),some (24,none),some (25,none),some (26,none),some (27,none),some (28,none),some (29,none)] (by simp only [go_sem];repeat' first|rfl|constructor|(rw [List.map_set];rfl)|(simp [List.map_take,List.map_drop]<;>omega)) (by rfl) (run_den 400 ?_)
 simp (disch:=omega) only [go_sem,Nat.reduceEqDiff,Nat.reduceAdd,Nat.reduceSub,Int.reduceAdd,Int.reduceSub,Int.reduceToNat]
 refine den_draw1 [0,1,2,4,5,3,6,7,8,9,10] (by kernel_rfl) (by (try simp (disch:=omega) only [go_sem,List.length_set,Nat.reduceEqDiff,Nat.reduceAdd,Nat.reduceSub,Int.reduceAdd,Int.reduceSub,Int.reduceToNat])<;>omega) (by kernel_rfl) (runD_den 400 ?_)
 simp (disch:=omega) only [go_sem,Nat.reduceEqDiff,Nat.reduceAdd,Nat.reduceSub,Int.reduceAdd,Int.reduceSub,Int.reduceToNat]
 refine den_callD (by (try simp (disch:=omega) only [go_sem,List.length_set,Nat.reduceEqDiff,Nat.reduceAdd,Nat.reduceSub,Int.reduceAdd,Int.reduceSub,Int.reduceToNat])<;>omega) (hSd) [] (by simp only [go_sem];repeat' first|rfl|constructor|(rw [List.map_set];rfl)|(simp [List.map_take,List.map_drop]<;>omega)) (by rfl) (by rfl) (runD_den 400 ?_)
 simp (disch:=omega) only [go_sem,Nat.reduceEqDiff,Nat.reduceAdd,Nat.reduceSub,Int.reduceAdd,Int.reduceSub,Int.reduceToNat]
 refine⟨by (try simp (disch:=omega) only [go_sem,List.length_set,Nat.reduceEqDiff,Nat.reduceAdd,Nat.reduceSub,Int.reduceAdd,Int.reduceSub,Int.reduceToNat])<;>omega,run_den 400 ?_⟩
 try simp (disch:=omega) only [go_sem,Nat.reduceEqDiff,Nat.reduceAdd,Nat.reduceSub,Int.reduceAdd,Int.reduceSub,Int.reduceToNat]
 refine den_call (by (try simp (disch:=omega) only [go_sem,List.length_set,Nat.reduceEqDiff,Nat.reduceAdd,Nat.reduceSub,Int.reduceAdd,Int.reduceSub,Int.reduceToNat])<;>omega) (hset) [some (0,none),some (1,none),some (2,none),some (3,none),some (4,none),some (5,none),some (6,none),some (7,none),some (8,none),some (9,none),some (10,none),some (11,none),some (12,none),some (13,none),some (14,none),some (15,none),some (16,none),some (17,none),some (18,none),some (19,none),some (20,none),some (31,none),some (32,none),some (33,none),some (34,none),some (35,none),some (36,none),some (37,none),some (21,none)] (by simp only [go_sem];repeat' first|rfl|constructor|(rw [List.map_set];rfl)|(simp [List.map_take,List.map_drop]<;>omega)) (by rfl) (run_den 400 ?_)
 simp (disch:=omega) only [go_sem,Nat.reduceEqDiff,Nat.reduceAdd,Nat.reduceSub,Int.reduceAdd,Int.reduceSub,Int.reduceToNat]
 refine den_call (by (try simp (disch:=omega) only [go_sem,List.length_set,Nat.reduceEqDiff,Nat.reduceAdd,Nat.reduceSub,Int.reduceAdd,Int.reduceSub,Int.reduceToNat])<;>omega) (hpost) [some (31,none),some (32,none),some (33,none),some (34,none),some (35,none),some (36,none),some (37,none),some (7,none),some (8,none),some (9,none),some (10,none),some (11,none),some (12,none),some (13,none),some (14,none),some (15,none),some (16,none),some (17,none),some (18,none),some (19,none),some (20,none),some (21,none),none] (by simp only [go_sem];repeat' first|rfl|constructor|(rw [List.map_set];rfl)|(simp [List.map_take,List.map_drop]<;>omega)) (by rfl) (run_den 400 ?_)
 simp (disch:=omega) only [go_sem,Nat.reduceEqDiff,Nat.reduceAdd,Nat.reduceSub,Int.reduceAdd,Int.reduceSub,Int.reduceToNat]
 refine den_finO [some (0,none),some (1,none),some (2,none),some (3,none),some (4,none),some (5,none),some (6,none),some (7,none),some (8,none),some (9,none),some (10,none),some (11,none),some (12,none),some (13,none),some (14,none),some (15,none),some (16,none),some (17,none),some (18,none),some (19,none),some (20,none),some (21,none),some (31,none),some (32,none),some (33,none),some (34,none),some (35,none),some (36,none),some (37,none),some (7,none),some (8,none),some (9,none),some (10,none),some (11,none),some (12,none),some (13,none),some (39,none),some (40,none),some (41,none),some (42,none),some (43,none),some (44,none),some (45,none)] (by (try simp (disch:=omega) only [go_sem,List.length_set,Nat.reduceEqDiff,Nat.reduceAdd,Nat.reduceSub,Int.reduceAdd,Int.reduceSub,Int.reduceToNat])<;>omega) _ (by simp only [go_sem];rfl) (by rfl) (by rfl) ?_
 simp (disch:=omega) only [go_sem,Nat.reduceEqDiff,Nat.reduceAdd,Nat.reduceSub,Int.reduceAdd,Int.reduceSub,Int.reduceToNat]
theorem impl_acts6_1 (w:WorldD) (pos many:Int) (text:List UInt8) (ad:AddrD) (le:LetterD) (hw:SmallD w) (htx:text.length≤1048576):
  CallA Tryz.prog 18 [.sc (.pt 21 0 0),.ag (ActD.cs ⟨6,1,pos,many,text,ad,le⟩)] (w.hp true++[some ⟨[w.cs 0],61,47,true,false⟩]) (.sc (.int .i64 0))
  ([none,none,none,none,none,none,none,none,none,none,none,none,none,none,none,none,none,none,none,none,none,some ⟨[WorldD.cs (postL 1 { w with a:=(dropOwn w.a pos).1 } (dropOwn w.a pos).2) 22],61,47,true,false⟩]++WorldD.hp (postL 1 { w with a:=(dropOwn w.a pos).1 } (dropOwn w.a pos).2) true):=by
 have q1:=hw.s.wa
 have q2:=hw.s.wb
 have q3:=hw.s.ra
 have q4:=hw.s.rb
 have hX:=impl_DropOwn w.a pos hw.p.s.a
 have hsm:=dropOwn_small (n:=pos) hw.p.s.a
 have hlen:=dropOwn_len w.a pos hw.p.s.a
 have hEA:CallA Tryz.prog 38 [.ag (w.cs 0),.sc (.int .i64 1)] (w.hp false) (.ag (w.a.cs 21)) (w.hp false++w.a.hp true):=impl_EndAt w 1 hw.p.s.a.own hw.p.s.a.far hw.p.s.a.subs hw.p.s.a.halfs hw.p.s.a.list hw.p.s.a.done hw.p.s.a.over hw.p.s.b.own hw.p.s.b.far hw.p.s.b.subs hw.p.s.b.halfs hw.p.s.b.list hw.p.s.b.done hw.p.s.b.over
 obtain⟨pr,hpr⟩:∃ p,p=dropOwn w.a pos:=⟨_,rfl⟩
 rw [←hpr] at hX hsm hlen⊢
 obtain⟨e1,l1⟩:=pr
 dsimp only at hX hsm hlen⊢
 have hset:=impl_set1 w e1
 have hpost:=impl_post1 { w with a:=e1 } l1 ⟨hw.p.s.bag,hw.p.s.past,hw.p.s.keys,hw.p.s.tags,hw.p.s.nums,hw.p.s.ansA,hw.p.s.ansB⟩ (by first|omega|simp)
 have hends:=postL_ends (side:=1) (l:=l1) (w:={ w with a:=e1 })
 obtain⟨R,hR⟩:∃ R,R=postL 1 { w with a:=e1 } l1:=⟨_,rfl⟩
 rw [←hR] at hpost hends⊢
 clear hR
 obtain⟨ra,rb,bag,past,wA,wB,rA,rB,known,nums,nsA,nsB⟩:=R
 obtain⟨keys,tags⟩:=known
 dsimp only at hends
 obtain⟨g1,g2,g3,g4,g5,g6⟩:=hends
 replace g1:=g1.symm
 replace g2:=g2.symm
 replace g3:=g3.symm
 replace g4:=g4.symm
 replace g5:=g5.symm
 replace g6:=g6.symm
 subst g1 g2 g3 g4 g5 g6
 refine callA_ofO Tryz.func18 (by kernel_rfl) rfl fun E hE=>run_den 400 ?_
 simp (disch:=omega) only [Tryz.ntmps18,Tryz.results18,go_sem,Nat.reduceEqDiff,Nat.reduceAdd,Nat.reduceSub,Int.reduceAdd,Int.reduceSub,Int.reduceToNat]
 refine den_drawX [(5,6)] [] [[0,1,2,3,4,5,6,7],[0,1,2,3,4,6,5,7]] 22 hE (fun s=>s.at [13,14,15,16,17,18] [(5,.sc (.pt 30 0 0))] (s.hp++(w.a.hp true++[some ⟨[w.a.cs 23],25,41,true,false⟩]))) (by kernel_rfl) (by (try simp (disch:=omega) only [go_sem,List.length_set,Nat.reduceEqDiff,Nat.reduceAdd,Nat.reduceSub,Int.reduceAdd,Int.reduceSub,Int.reduceToNat])<;>omega) (by kernel_rfl) ?_ (run_den 400 ?_)
 rotate_left
 rotate_right
 simp only [allDn]
 refine⟨runD_den 400 ?_,runD_den 400 ?_⟩
 ·simp (disch:=omega) only [go_sem]
  refine den_callD (by (try simp (disch:=omega) only [go_sem,List.length_set,Nat.reduceEqDiff,Nat.reduceAdd,Nat.reduceSub,Int.reduceAdd,Int.reduceSub,Int.reduceToNat])<;>omega) (hEA) [some (0,none),some (1,none),some (2,none),some (3,none),some (4,none),some (5,none),some (6,none),some (7,none),some (8,none),some (9,none),some (10,none),some (11,none),some (12,none),some (13,none),some (14,none),some (15,none),some (16,none),some (17,none),some (18,none),some (19,none),some (20,none)] (by simp only [go_sem];repeat' first|rfl|constructor|(rw [List.map_set];rfl)|(simp [List.map_take,List.map_drop]<;>omega)) (by rfl) (by rfl) (runD_den 400 ?_)
  simp (disch:=omega) only [go_sem,Nat.reduceEqDiff,Nat.reduceAdd,Nat.reduceSub,Int.reduceAdd,Int.reduceSub,Int.reduceToNat]
  refine⟨by (try simp (disch:=omega) only [go_sem,List.length_set,Nat.reduceEqDiff,Nat.reduceAdd,Nat.reduceSub,Int.reduceAdd,Int.reduceSub,Int.reduceToNat])<;>omega,[some (0,none),some (1,none),some (2,none),some (3,none),some (4,none),some (5,none),some (6,none),some (7,none),some (8,none),some (9,none),some (10,none),some (11,none),some (12,none),some (13,none),some (14,none),some (15,none),some (16,none),some (17,none),some (18,none),some (19,none),some (20,none),some (21,none),some (22,none),some (23,none),some (24,none),some (25,none),some (26,none),some (27,none),some (28,none),some (29,none),some (30,none)],weak_mkO (by rfl) (by rfl) ?_⟩
  try simp (disch:=omega) only [go_sem,Nat.reduceEqDiff,Nat.reduceAdd,Nat.reduceSub,Int.reduceAdd,Int.reduceSub,Int.reduceToNat]
 ·simp (disch:=omega) only [go_sem]
  refine den_callD (by (try simp (disch:=omega) only [go_sem,List.length_set,Nat.reduceEqDiff,Nat.reduceAdd,Nat.reduceSub,Int.reduceAdd,Int.reduceSub,Int.reduceToNat])<;>omega) (hEA) [some (0,none),some (1,none),some (2,none),some (3,none),some (4,none),some (5,none),some (6,none),some (7,none),some (8,none),some (9,none),some (10,none),some (11,none),some (12,none),some (13,none),some (14,none),some (15,none),some (16,none),some (17,none),some (18,none),some (19,none),some (20,none)] (by simp only [go_sem];repeat' first|rfl|constructor|(rw [List.map_set];rfl)|(simp [List.map_take,List.map_drop]<;>omega)) (by rfl) (by rfl) (runD_den 400 ?_)
  simp (disch:=omega) only [go_sem,Nat.reduceEqDiff,Nat.reduceAdd,Nat.reduceSub,Int.reduceAdd,Int.reduceSub,Int.reduceToNat]
  refine⟨by (try simp (disch:=omega) only [go_sem,List.length_set,Nat.reduceEqDiff,Nat.reduceAdd,Nat.reduceSub,Int.reduceAdd,Int.reduceSub,Int.reduceToNat])<;>omega,[some (0,none),some (1,none),some (2,none),some (3,none),some (4,none),some (5,none),some (6,none),some (7,none),some (8,none),some (9,none),some (10,none),some (11,none),some (12,none),some (13,none),some (14,none),some (15,none),some (16,none),some (17,none),some (18,none),some (19,none),some (20,none),some (21,none),some (22,none),some (24,none),some (25,none),some (26,none),some (27,none),some (28,none),some (29,none),some (30,none),some (23,none)],weak_mkO (by rfl) (by rfl) ?_⟩
  try simp (disch:=omega) only [go_sem,Nat.reduceEqDiff,Nat.reduceAdd,Nat.reduceSub,Int.reduceAdd,Int.reduceSub,Int.reduceToNat]
 try simp (disch:=omega) only [go_sem,Nat.reduceEqDiff,Nat.reduceAdd,Nat.reduceSub,Int.reduceAdd,Int.reduceSub,Int.reduceToNat]
 refine den_call (by (try simp (disch:=omega) only [go_sem,List.length_set,Nat.reduceEqDiff,Nat.reduceAdd,Nat.reduceSub,Int.reduceAdd,Int.reduceSub,Int.reduceToNat])<;>omega) (hX) [some (23,none),some (24,none),some (25,none),some (26,none),some (27,none),some (28,none),some (29,none)] (by simp only [go_sem];repeat' first|rfl|constructor|(rw [List.map_set];rfl)|(simp [List.map_take,List.map_drop]<;>omega)) (by rfl) (run_den 400 ?_)
 simp (disch:=omega) only [go_sem,Nat.reduceEqDiff,Nat.reduceAdd,Nat.reduceSub,Int.reduceAdd,Int.reduceSub,Int.reduceToNat]
 refine den_call (by (try simp (disch:=omega) only [go_sem,List.length_set,Nat.reduceEqDiff,Nat.reduceAdd,Nat.reduceSub,Int.reduceAdd,Int.reduceSub,Int.reduceToNat])<;>omega) (hset) [some (0,none),some (1,none),some (2,none),some (3,none),some (4,none),some (5,none),some (6,none),some (7,none),some (8,none),some (9,none),some (10,none),some (11,none),some (12,none),some (13,none),some (14,none),some (15,none),some (16,none),some (17,none),some (18,none),some (19,none),some (20,none),some (31,none),some (32,none),some (33,none),some (34,none),some (35,none),some (36,none),some (37,none),some (21,none)] (by simp only [go_sem];repeat' first|rfl|constructor|(rw [List.map_set];rfl)|(simp [List.map_take,List.map_drop]<;>omega)) (by rfl) (run_den 400 ?_)
 simp (disch:=omega) only [go_sem,Nat.reduceEqDiff,Nat.reduceAdd,Nat.reduceSub,Int.reduceAdd,Int.reduceSub,Int.reduceToNat]
 refine den_call (by (try simp (disch:=omega) only [go_sem,List.length_set,Nat.reduceEqDiff,Nat.reduceAdd,Nat.reduceSub,Int.reduceAdd,Int.reduceSub,Int.reduceToNat])<;>omega) (hpost) [some (31,none),some (32,none),some (33,none),some (34,none),some (35,none),some (36,none),some (37,none),some (7,none),some (8,none),some (9,none),some (10,none),some (11,none),some (12,none),some (13,none),some (14,none),some (15,none),some (16,none),some (17,none),some (18,none),some (19,none),some (20,none),some (21,none),some (38,none)] (by simp only [go_sem];repeat' first|rfl|constructor|(rw [List.map_set];rfl)|(simp [List.map_take,List.map_drop]<;>omega)) (by rfl) (run_den 400 ?_)
 simp (disch:=omega) only [go_sem,Nat.reduceEqDiff,Nat.reduceAdd,Nat.reduceSub,Int.reduceAdd,Int.reduceSub,Int.reduceToNat]
 refine den_finO [some (0,none),some (1,none),some (2,none),some (3,none),some (4,none),some (5,none),some (6,none),some (7,none),some (8,none),some (9,none),some (10,none),some (11,none),some (12,none),some (13,none),some (14,none),some (15,none),some (16,none),some (17,none),some (18,none),some (19,none),some (20,none),some (21,none),some (31,none),some (32,none),some (33,none),some (34,none),some (35,none),some (36,none),some (37,none),some (7,none),some (8,none),some (9,none),some (10,none),some (11,none),some (12,none),some (13,none),some (39,none),some (40,none),some (41,none),some (42,none),some (43,none),some (44,none),some (45,none)] (by (try simp (disch:=omega) only [go_sem,List.length_set,Nat.reduceEqDiff,Nat.reduceAdd,Nat.reduceSub,Int.reduceAdd,Int.reduceSub,Int.reduceToNat])<;>omega) _ (by simp only [go_sem];rfl) (by rfl) (by rfl) ?_
 simp (disch:=omega) only [go_sem,Nat.reduceEqDiff,Nat.reduceAdd,Nat.reduceSub,Int.reduceAdd,Int.reduceSub,Int.reduceToNat]
theorem impl_acts7_1 (w:WorldD) (pos many:Int) (text:List UInt8) (ad:AddrD) (le:LetterD) (hw:SmallD w) (htx:text.length≤1048576):
  CallA Tryz.prog 18 [.sc (.pt 21 0 0),.ag (ActD.cs ⟨7,1,pos,many,text,ad,le⟩)] (w.hp true++[some ⟨[w.cs 0],61,47,true,false⟩]) (.sc (.int .i64 0))
  ([none,none,none,none,none,none,none,none,none,none,none,none,none,none,none,none,none,none,none,none,none,some ⟨[WorldD.cs (postL 1 { w with a:=(resetE w.a pos).1 } (resetE w.a pos).2) 22],61,47,true,false⟩]++WorldD.hp (postL 1 { w with a:=(resetE w.a pos).1 } (resetE w.a pos).2) true):=by
 have q1:=hw.s.wa
 have q2:=hw.s.wb
 have q3:=hw.s.ra
 have q4:=hw.s.rb
 have hX:=impl_Reset w.a pos hw.p.s.a
 have hsm:=resetE_small (k:=pos) hw.p.s.a
 have hlen:=resetE_len w.a pos
 have hEA:CallA Tryz.prog 38 [.ag (w.cs 0),.sc (.int .i64 1)] (w.hp false) (.ag (w.a.cs 21)) (w.hp false++w.a.hp true):=impl_EndAt w 1 hw.p.s.a.own hw.p.s.a.far hw.p.s.a.subs hw.p.s.a.halfs hw.p.s.a.list hw.p.s.a.done hw.p.s.a.over hw.p.s.b.own hw.p.s.b.far hw.p.s.b.subs hw.p.s.b.halfs hw.p.s.b.list hw.p.s.b.done hw.p.s.b.over
 obtain⟨pr,hpr⟩:∃ p,p=resetE w.a pos:=⟨_,rfl⟩
 rw [←hpr] at hX hsm hlen⊢
 obtain⟨e1,l1⟩:=pr
 dsimp only at hX hsm hlen⊢
 have hset:=impl_set1 w e1
 have hpost:=impl_post1 { w with a:=e1 } l1 ⟨hw.p.s.bag,hw.p.s.past,hw.p.s.keys,hw.p.s.tags,hw.p.s.nums,hw.p.s.ansA,hw.p.s.ansB⟩ (by first|omega|simp)
 have hends:=postL_ends (side:=1) (l:=l1) (w:={ w with a:=e1 })
 obtain⟨R,hR⟩:∃ R,R=postL 1 { w with a:=e1 } l1:=⟨_,rfl⟩
 rw [←hR] at hpost hends⊢
 clear hR
 obtain⟨ra,rb,bag,past,wA,wB,rA,rB,known,nums,nsA,nsB⟩:=R
 obtain⟨keys,tags⟩:=known
 dsimp only at hends
 obtain⟨g1,g2,g3,g4,g5,g6⟩:=hends
 replace g1:=g1.symm
 replace g2:=g2.symm
 replace g3:=g3.symm
 replace g4:=g4.symm
 replace g5:=g5.symm
 replace g6:=g6.symm
 subst g1 g2 g3 g4 g5 g6
 refine callA_ofO Tryz.func18 (by kernel_rfl) rfl fun E hE=>run_den 400 ?_
 simp (disch:=omega) only [Tryz.ntmps18,Tryz.results18,go_sem,Nat.reduceEqDiff,Nat.reduceAdd,Nat.reduceSub,Int.reduceAdd,Int.reduceSub,Int.reduceToNat]
 refine den_drawX [(5,6)] [] [[0,1,2,3,4,5,6,7],[0,1,2,3,4,6,5,7]] 22 hE (fun s=>s.at [13,14,15,16,17,18] [(5,.sc (.pt 30 0 0))] (s.hp++(w.a.hp true++[some ⟨[w.a.cs 23],25,41,true,false⟩]))) (by kernel_rfl) (by (try simp (disch:=omega) only [go_sem,List.length_set,Nat.reduceEqDiff,Nat.reduceAdd,Nat.reduceSub,Int.reduceAdd,Int.reduceSub,Int.reduceToNat])<;>omega) (by kernel_rfl) ?_ (run_den 400 ?_)
 rotate_left
 rotate_right
 simp only [allDn]
 refine⟨runD_den 400 ?_,runD_den 400 ?_⟩
 ·simp (disch:=omega) only [go_sem]
  refine den_callD (by (try simp (disch:=omega) only [go_sem,List.length_set,Nat.reduceEqDiff,Nat.reduceAdd,Nat.reduceSub,Int.reduceAdd,Int.reduceSub,Int.reduceToNat])<;>omega) (hEA) [some (0,none),some (1,none),some (2,none),some (3,none),some (4,none),some (5,none),some (6,none),some (7,none),some (8,none),some (9,none),some (10,none),some (11,none),some (12,none),some (13,none),some (14,none),some (15,none),some (16,none),some (17,none),some (18,none),some (19,none),some (20,none)] (by simp only [go_sem];repeat' first|rfl|constructor|(rw [List.map_set];rfl)|(simp [List.map_take,List.map_drop]<;>omega)) (by rfl) (by rfl) (runD_den 400 ?_)
  simp (disch:=omega) only [go_sem,Nat.reduceEqDiff,Nat.reduceAdd,Nat.reduceSub,Int.reduceAdd,Int.reduceSub,Int.reduceToNat]
  refine⟨by (try simp (disch:=omega) only [go_sem,List.length_set,Nat.reduceEqDiff,Nat.reduceAdd,Nat.reduceSub,Int.reduceAdd,Int.reduceSub,Int.reduceToNat])<;>omega,[some (0,none),some (1,none),some (2,none),some (3,none),some (4,none),some (5,none),some (6,none),some (7,none),some (8,none),some (9,none),some (10,none),some (11,none),some (12,none),some (13,none),some (14,none),some (15,none),some (16,none),some (17,none),some (18,none),some (19,none),some (20,none),some (21,none),some (22,none),some (23,none),some (24,none),some (25,none),some (26,none),some (27,none),some (28,none),some (29,none),some (30,none)],weak_mkO (by rfl) (by rfl) ?_⟩
  try simp (disch:=omega) only [go_sem,Nat.reduceEqDiff,Nat.reduceAdd,Nat.reduceSub,Int.reduceAdd,Int.reduceSub,Int.reduceToNat]
 ·simp (disch:=omega) only [go_sem]
  refine den_callD (by (try simp (disch:=omega) only [go_sem,List.length_set,Nat.reduceEqDiff,Nat.reduceAdd,Nat.reduceSub,Int.reduceAdd,Int.reduceSub,Int.reduceToNat])<;>omega) (hEA) [some (0,none),some (1,none),some (2,none),some (3,none),some (4,none),some (5,none),some (6,none),some (7,none),some (8,none),some (9,none),some (10,none),some (11,none),some (12,none),some (13,none),some (14,none),some (15,none),some (16,none),some (17,none),some (18,none),some (19,none),some (20,none)] (by simp only [go_sem];repeat' first|rfl|constructor|(rw [List.map_set];rfl)|(simp [List.map_take,List.map_drop]<;>omega)) (by rfl) (by rfl) (runD_den 400 ?_)
  simp (disch:=omega) only [go_sem,Nat.reduceEqDiff,Nat.reduceAdd,Nat.reduceSub,Int.reduceAdd,Int.reduceSub,Int.reduceToNat]
  refine⟨by (try simp (disch:=omega) only [go_sem,List.length_set,Nat.reduceEqDiff,Nat.reduceAdd,Nat.reduceSub,Int.reduceAdd,Int.reduceSub,Int.reduceToNat])<;>omega,[some (0,none),some (1,none),some (2,none),some (3,none),some (4,none),some (5,none),some (6,none),some (7,none),some (8,none),some (9,none),some (10,none),some (11,none),some (12,none),some (13,none),some (14,none),some (15,none),some (16,none),some (17,none),some (18,none),some (19,none),some (20,none),some (21,none),some (22,none),some (24,none),some (25,none),some (26,none),some (27,none),some (28,none),some (29,none),some (30,none),some (23,none)],weak_mkO (by rfl) (by rfl) ?_⟩
  try simp (disch:=omega) only [go_sem,Nat.reduceEqDiff,Nat.reduceAdd,Nat.reduceSub,Int.reduceAdd,Int.reduceSub,Int.reduceToNat]
 try simp (disch:=omega) only [go_sem,Nat.reduceEqDiff,Nat.reduceAdd,Nat.reduceSub,Int.reduceAdd,Int.reduceSub,Int.reduceToNat]
 refine den_call (by (try simp (disch:=omega) only [go_sem,List.length_set,Nat.reduceEqDiff,Nat.reduceAdd,Nat.reduceSub,Int.reduceAdd,Int.reduceSub,Int.reduceToNat])<;>omega) (hX) [some (23,none),some (24,none),some (25,none),some (26,none),some (27,none),some (28,none),some (29,none)] (by simp only [go_sem];repeat' first|rfl|constructor|(rw [List.map_set];rfl)|(simp [List.map_take,List.map_drop]<;>omega)) (by rfl) (run_den 400 ?_)
 simp (disch:=omega) only [go_sem,Nat.reduceEqDiff,Nat.reduceAdd,Nat.reduceSub,Int.reduceAdd,Int.reduceSub,Int.reduceToNat]
 refine den_call (by (try simp (disch:=omega) only [go_sem,List.length_set,Nat.reduceEqDiff,Nat.reduceAdd,Nat.reduceSub,Int.reduceAdd,Int.reduceSub,Int.reduceToNat])<;>omega) (hset) [some (0,none),some (1,none),some (2,none),some (3,none),some (4,none),some (5,none),some (6,none),some (7,none),some (8,none),some (9,none),some (10,none),some (11,none),some (12,none),some (13,none),some (14,none),some (15,none),some (16,none),some (17,none),some (18,none),some (19,none),some (20,none),some (31,none),some (32,none),some (33,none),some (34,none),some (35,none),some (36,none),some (37,none),some (21,none)] (by simp only [go_sem];repeat' first|rfl|constructor|(rw [List.map_set];rfl)|(simp [List.map_take,List.map_drop]<;>omega)) (by rfl) (run_den 400 ?_)
 simp (disch:=omega) only [go_sem,Nat.reduceEqDiff,Nat.reduceAdd,Nat.reduceSub,Int.reduceAdd,Int.reduceSub,Int.reduceToNat]
 refine den_call (by (try simp (disch:=omega) only [go_sem,List.length_set,Nat.reduceEqDiff,Nat.reduceAdd,Nat.reduceSub,Int.reduceAdd,Int.reduceSub,Int.reduceToNat])<;>omega) (hpost) [some (31,none),some (32,none),some (33,none),some (34,none),some (35,none),some (36,none),some (37,none),some (7,none),some (8,none),some (9,none),some (10,none),some (11,none),some (12,none),some (13,none),some (14,none),some (15,none),some (16,none),some (17,none),some (18,none),some (19,none),some (20,none),some (21,none),some (38,none)] (by simp only [go_sem];repeat' first|rfl|constructor|(rw [List.map_set];rfl)|(simp [List.map_take,List.map_drop]<;>omega)) (by rfl) (run_den 400 ?_)
 simp (disch:=omega) only [go_sem,Nat.reduceEqDiff,Nat.reduceAdd,Nat.reduceSub,Int.reduceAdd,Int.reduceSub,Int.reduceToNat]
 refine den_finO [some (0,none),some (1,none),some (2,none),some (3,none),some (4,none),some (5,none),some (6,none),some (7,none),some (8,none),some (9,none),some (10,none),some (11,none),some (12,none),some (13,none),some (14,none),some (15,none),some (16,none),some (17,none),some (18,none),some (19,none),some (20,none),some (21,none),some (31,none),some (32,none),some (33,none),some (34,none),some (35,none),some (36,none),some (37,none),some (7,none),some (8,none),some (9,none),some (10,none),some (11,none),some (12,none),some (13,none),some (39,none),some (40,none),some (41,none),some (42,none),some (43,none),some (44,none),some (45,none)] (by (try simp (disch:=omega) only [go_sem,List.length_set,Nat.reduceEqDiff,Nat.reduceAdd,Nat.reduceSub,Int.reduceAdd,Int.reduceSub,Int.reduceToNat])<;>omega) _ (by simp only [go_sem];rfl) (by rfl) (by rfl) ?_
 simp (disch:=omega) only [go_sem,Nat.reduceEqDiff,Nat.reduceAdd,Nat.reduceSub,Int.reduceAdd,Int.reduceSub,Int.reduceToNat]
theorem impl_acts1_2 (w:WorldD) (pos many:Int) (text:List UInt8) (ad:AddrD) (le:LetterD) (hw:SmallD w) (htx:text.length≤1048576):
  CallA Tryz.prog 18 [.sc (.pt 21 0 0),.ag (ActD.cs ⟨1,2,pos,many,text,ad,le⟩)] (w.hp true++[some ⟨[w.cs 0],61,47,true,false⟩]) (.sc (.int .i64 0))
  ([none,none,none,none,none,none,none,none,none,none,none,none,none,none,none,none,none,none,none,none,none,some ⟨[WorldD.cs (postL 2 { w with wroteB:=w.wroteB++text.take (write w.b text).2,b:=(writeAll w.b text).1 } (writeAll w.b text).2) 22],61,47,true,false⟩]++WorldD.hp (postL 2 { w with wroteB:=w.wroteB++text.take (write w.b text).2,b:=(writeAll w.b text).1 } (writeAll w.b text).2) true):=by
 have q1:=hw.s.wa
 have q2:=hw.s.wb
 have q3:=hw.s.ra
 have q4:=hw.s.rb
 have hX:=impl_WriteAll w.b text hw.p.s.b htx (write_text hw.ob)
 have hsm:=writeAll_small (t:=text) hw.p.s.b
 have hlen:=writeAll_len w.b text
 have hEA:CallA Tryz.prog 38 [.ag (w.cs 0),.sc (.int .i64 2)] (w.hp false) (.ag (w.b.cs 21)) (w.hp false++w.b.hp true):=impl_EndAt w 2 hw.p.s.a.own hw.p.s.a.far hw.p.s.a.subs hw.p.s.a.halfs hw.p.s.a.list hw.p.s.a.done hw.p.s.a.over hw.p.s.b.own hw.p.s.b.far hw.p.s.b.subs hw.p.s.b.halfs hw.p.s.b.list hw.p.s.b.done hw.p.s.b.over
 have hX2:=impl_Write w.b text hw.p.s.b htx
 have hwl:=write_le w.b text
 obtain⟨wr,hwr⟩:∃ p,p=write w.b text:=⟨_,rfl⟩
 rw [←hwr] at hX2 hwl⊢
 obtain⟨e0,n0⟩:=wr
 dsimp only at hX2 hwl⊢
 obtain⟨pr,hpr⟩:∃ p,p=writeAll w.b text:=⟨_,rfl⟩
 rw [←hpr] at hX hsm hlen⊢
 obtain⟨e1,l1⟩:=pr
 dsimp only at hX hsm hlen⊢
 have hset:=impl_set2 { w with wroteB:=w.wroteB++text.take n0 } e1
 have hpost:=impl_post2 { w with wroteB:=w.wroteB++text.take n0,b:=e1 } l1 ⟨hw.p.s.bag,hw.p.s.past,hw.p.s.keys,hw.p.s.tags,hw.p.s.nums,hw.p.s.ansA,hw.p.s.ansB⟩ (by first|omega|simp)
 have hends:=postL_ends (side:=2) (l:=l1) (w:={ w with wroteB:=w.wroteB++text.take n0,b:=e1 })
 obtain⟨R,hR⟩:∃ R,R=postL 2 { w with wroteB:=w.wroteB++text.take n0,b:=e1 } l1:=⟨_,rfl⟩
 rw [←hR] at hpost hends⊢
 clear hR
 obtain⟨ra,rb,bag,past,wA,wB,rA,rB,known,nums,nsA,nsB⟩:=R
 obtain⟨keys,tags⟩:=known
 dsimp only at hends
 obtain⟨g1,g2,g3,g4,g5,g6⟩:=hends
 replace g1:=g1.symm
 replace g2:=g2.symm
 replace g3:=g3.symm
 replace g4:=g4.symm
 replace g5:=g5.symm
 replace g6:=g6.symm
 subst g1 g2 g3 g4 g5 g6
 have htk:(text.take n0).length=n0:=by rw [List.length_take];omega
 refine callA_ofO Tryz.func18 (by kernel_rfl) rfl fun E hE=>run_den 400 ?_
 simp (disch:=omega) only [Tryz.ntmps18,Tryz.results18,go_sem,Nat.reduceEqDiff,Nat.reduceAdd,Nat.reduceSub,Int.reduceAdd,Int.reduceSub,Int.reduceToNat]
 refine den_drawX [(5,6)] [] [[0,1,2,3,4,5,6,7],[0,1,2,3,4,6,5,7]] 22 hE (fun s=>s.at [13,14,15,16,17,18] [(5,.sc (.pt 30 0 0))] (s.hp++(w.b.hp true++[some ⟨[w.b.cs 23],25,41,true,false⟩]))) (by kernel_rfl) (by (try simp (disch:=omega) only [go_sem,List.length_set,Nat.reduceEqDiff,Nat.reduceAdd,Nat.reduceSub,Int.reduceAdd,Int.reduceSub,Int.reduceToNat])<;>omega) (by kernel_rfl) ?_ (run_den 400 ?_)
 rotate_left
 rotate_right
 simp only [allDn]
 refine⟨runD_den 400 ?_,runD_den 400 ?_⟩
 ·simp (disch:=omega) only [go_sem]
  refine den_callD (by (try simp (disch:=omega) only [go_sem,List.length_set,Nat.reduceEqDiff,Nat.reduceAdd,Nat.reduceSub,Int.reduceAdd,Int.reduceSub,Int.reduceToNat])<;>omega) (hEA) [some (0,none),some (1,none),some (2,none),some (3,none),some (4,none),some (5,none),some (6,none),some (7,none),some (8,none),some (9,none),some (10,none),some (11,none),some (12,none),some (13,none),some (14,none),some (15,none),some (16,none),some (17,none),some (18,none),some (19,none),some (20,none)] (by simp only [go_sem];repeat' first|rfl|constructor|(rw [List.map_set];rfl)|(simp [List.map_take,List.map_drop]<;>omega)) (by rfl) (by rfl) (runD_den 400 ?_)
  simp (disch:=omega) only [go_sem,Nat.reduceEqDiff,Nat.reduceAdd,Nat.reduceSub,Int.reduceAdd,Int.reduceSub,Int.reduceToNat]
  refine⟨by (try simp (disch:=omega) only [go_sem,List.length_set,Nat.reduceEqDiff,Nat.reduceAdd,Nat.reduceSub,Int.reduceAdd,Int.reduceSub,Int.reduceToNat])<;>omega,[some (0,none),some (1,none),some (2,none),some (3,none),some (4,none),some (5,none),some (6,none),some (7,none),some (8,none),some (9,none),some (10,none),some (11,none),some (12,none),some (13,none),some (14,none),some (15,none),some (16,none),some (17,none),some (18,none),some (19,none),some (20,none),some (21,none),some (22,none),some (23,none),some (24,none),some (25,none),some (26,none),some (27,none),some (28,none),some (29,none),some (30,none)],weak_mkO (by rfl) (by rfl) ?_⟩
  try simp (disch:=omega) only [go_sem,Nat.reduceEqDiff,Nat.reduceAdd,Nat.reduceSub,Int.reduceAdd,Int.reduceSub,Int.reduceToNat]
 ·simp (disch:=omega) only [go_sem]
  refine den_callD (by (try simp (disch:=omega) only [go_sem,List.length_set,Nat.reduceEqDiff,Nat.reduceAdd,Nat.reduceSub,Int.reduceAdd,Int.reduceSub,Int.reduceToNat])<;>omega) (hEA) [some (0,none),some (1,none),some (2,none),some (3,none),some (4,none),some (5,none),some (6,none),some (7,none),some (8,none),some (9,none),some (10,none),some (11,none),some (12,none),some (13,none),some (14,none),some (15,none),some (16,none),some (17,none),some (18,none),some (19,none),some (20,none)] (by simp only [go_sem];repeat' first|rfl|constructor|(rw [List.map_set];rfl)|(simp [List.map_take,List.map_drop]<;>omega)) (by rfl) (by rfl) (runD_den 400 ?_)
  simp (disch:=omega) only [go_sem,Nat.reduceEqDiff,Nat.reduceAdd,Nat.reduceSub,Int.reduceAdd,Int.reduceSub,Int.reduceToNat]
  refine⟨by (try simp (disch:=omega) only [go_sem,List.length_set,Nat.reduceEqDiff,Nat.reduceAdd,Nat.reduceSub,Int.reduceAdd,Int.reduceSub,Int.reduceToNat])<;>omega,[some (0,none),some (1,none),some (2,none),some (3,none),some (4,none),some (5,none),some (6,none),some (7,none),some (8,none),some (9,none),some (10,none),some (11,none),some (12,none),some (13,none),some (14,none),some (15,none),some (16,none),some (17,none),some (18,none),some (19,none),some (20,none),some (21,none),some (22,none),some (24,none),some (25,none),some (26,none),some (27,none),some (28,none),some (29,none),some (30,none),some (23,none)],weak_mkO (by rfl) (by rfl) ?_⟩
  try simp (disch:=omega) only [go_sem,Nat.reduceEqDiff,Nat.reduceAdd,Nat.reduceSub,Int.reduceAdd,Int.reduceSub,Int.reduceToNat]
 try simp (disch:=omega) only [go_sem,Nat.reduceEqDiff,Nat.reduceAdd,Nat.reduceSub,Int.reduceAdd,Int.reduceSub,Int.reduceToNat]
 refine den_call (by (try simp (disch:=omega) only [go_sem,List.length_set,Nat.reduceEqDiff,Nat.reduceAdd,Nat.reduceSub,Int.reduceAdd,Int.reduceSub,Int.reduceToNat])<;>omega) (hX2) [some (23,none),some (24,none),some (25,none),some (26,none),some (27,none),some (28,none),some (29,none)] (by simp only [go_sem];repeat' first|rfl|constructor|(rw [List.map_set];rfl)|(simp [List.map_take,List.map_drop]<;>omega)) (by rfl) (run_den 400 ?_)
 simp (disch:=omega) only [go_sem,Nat.reduceEqDiff,Nat.reduceAdd,Nat.reduceSub,Int.reduceAdd,Int.reduceSub,Int.reduceToNat]
 refine den_call (by (try simp (disch:=omega) only [go_sem,List.length_set,Nat.reduceEqDiff,Nat.reduceAdd,Nat.reduceSub,Int.reduceAdd,Int.reduceSub,Int.reduceToNat])<;>omega) (hX) [some (23,none),some (24,none),some (25,none),some (26,none),some (27,none),some (28,none),some (29,none)] (by simp only [go_sem];repeat' first|rfl|constructor|(rw [List.map_set];rfl)|(simp [List.map_take,List.map_drop]<;>omega)) (by rfl) (run_den 400 ?_)
 simp (disch:=omega) only [go_sem,Nat.reduceEqDiff,Nat.reduceAdd,Nat.reduceSub,Int.reduceAdd,Int.reduceSub,Int.reduceToNat]
 refine den_draw1 [0,1,2,3,4,5,6,7,8,9,10,11] (by kernel_rfl) (by (try simp (disch:=omega) only [go_sem,List.length_set,Nat.reduceEqDiff,Nat.reduceAdd,Nat.reduceSub,Int.reduceAdd,Int.reduceSub,Int.reduceToNat])<;>omega) (by kernel_rfl) (runD_den 400 ?_)
 simp (disch:=omega) only [go_sem,Nat.reduceEqDiff,Nat.reduceAdd,Nat.reduceSub,Int.reduceAdd,Int.reduceSub,Int.reduceToNat]
 refine⟨by (try simp (disch:=omega) only [go_sem,List.length_set,Nat.reduceEqDiff,Nat.reduceAdd,Nat.reduceSub,Int.reduceAdd,Int.reduceSub,Int.reduceToNat])<;>omega,run_den 400 ?_⟩
 try simp (disch:=omega) only [go_sem,Nat.reduceEqDiff,Nat.reduceAdd,Nat.reduceSub,Int.reduceAdd,Int.reduceSub,Int.reduceToNat]
 refine den_call (by (try simp (disch:=omega) only [go_sem,List.length_set,Nat.reduceEqDiff,Nat.reduceAdd,Nat.reduceSub,Int.reduceAdd,Int.reduceSub,Int.reduceToNat])<;>omega) (hset) [some (0,none),some (1,none),some (2,none),some (3,none),some (4,none),some (5,none),some (6,none),some (7,none),some (8,none),some (9,none),some (10,none),some (11,none),some (12,none),some (13,none),some (14,none),some (15,none),some (16,none),some (17,none),some (18,none),some (19,none),some (20,none),some (39,none),some (40,none),some (41,none),some (42,none),some (43,none),some (44,none),some (45,none),some (21,none)] (by simp only [go_sem];repeat' first|rfl|constructor|(rw [List.map_set];rfl)|(simp [List.map_take,List.map_drop]<;>omega)) (by rfl) (run_den 400 ?_)
 simp (disch:=omega) only [go_sem,Nat.reduceEqDiff,Nat.reduceAdd,Nat.reduceSub,Int.reduceAdd,Int.reduceSub,Int.reduceToNat]
 refine den_call (by (try simp (disch:=omega) only [go_sem,List.length_set,Nat.reduceEqDiff,Nat.reduceAdd,Nat.reduceSub,Int.reduceAdd,Int.reduceSub,Int.reduceToNat])<;>omega) (hpost) [some (0,none),some (1,none),some (2,none),some (3,none),some (4,none),some (5,none),some (6,none),some (39,none),some (40,none),some (41,none),some (42,none),some (43,none),some (44,none),some (45,none),some (14,none),some (15,none),some (16,none),some (17,none),some (18,none),some (19,none),some (20,none),some (21,none),some (46,none)] (by simp only [go_sem];repeat' first|rfl|constructor|(rw [List.map_set];rfl)|(simp [List.map_take,List.map_drop]<;>omega)) (by rfl) (run_den 400 ?_)
 simp (disch:=omega) only [go_sem,Nat.reduceEqDiff,Nat.reduceAdd,Nat.reduceSub,Int.reduceAdd,Int.reduceSub,Int.reduceToNat]
 refine den_finO [some (0,none),some (1,none),some (2,none),some (3,none),some (4,none),some (5,none),some (6,none),some (7,none),some (8,none),some (9,none),some (10,none),some (11,none),some (12,none),some (13,none),some (14,none),some (15,none),some (16,none),some (17,none),some (18,none),some (19,none),some (20,none),some (21,none),some (0,none),some (1,none),some (2,none),some (3,none),some (4,none),some (5,none),some (6,none),some (39,none),some (40,none),some (41,none),some (42,none),some (43,none),some (44,none),some (45,none),some (47,none),some (48,none),some (49,none),some (50,none),some (51,none),some (52,none),some (53,none)] (by (try simp (disch:=omega) only [go_sem,List.length_set,Nat.reduceEqDiff,Nat.reduceAdd,Nat.reduceSub,Int.reduceAdd,Int.reduceSub,Int.reduceToNat])<;>omega) _ (by simp only [go_sem];rfl) (by rfl) (by rfl) ?_
 simp (disch:=omega) only [go_sem,Nat.reduceEqDiff,Nat.reduceAdd,Nat.reduceSub,Int.reduceAdd,Int.reduceSub,Int.reduceToNat]
theorem impl_acts2_2 (w:WorldD) (pos many:Int) (text:List UInt8) (ad:AddrD) (le:LetterD) (hw:SmallD w) (htx:text.length≤1048576):
  CallA Tryz.prog 18 [.sc (.pt 21 0 0),.ag (ActD.cs ⟨2,2,pos,many,text,ad,le⟩)] (w.hp true++[some ⟨[w.cs 0],61,47,true,false⟩]) (.sc (.int .i64 0))
  ([none,none,none,none,none,none,none,none,none,none,none,none,none,none,none,none,none,none,none,none,none,some ⟨[WorldD.cs (postL 2 { w with readB:=w.readB++(readE w.b many).2,b:=((readE w.b many).1,([]:List LetterD)).1 } ((readE w.b many).1,([]:List LetterD)).2) 22],61,47,true,false⟩]++WorldD.hp (postL 2 { w with readB:=w.readB++(readE w.b many).2,b:=((readE w.b many).1,([]:List LetterD)).1 } ((readE w.b many).1,([]:List LetterD)).2) true):=by
 have q1:=hw.s.wa
 have q2:=hw.s.wb
 have q3:=hw.s.ra
 have q4:=hw.s.rb
 have hX:=impl_Read w.b many hw.p.s.b hw.p.pb
 have hsm:=readE_small (m:=many) hw.p.s.b
 have hEA:CallA Tryz.prog 38 [.ag (w.cs 0),.sc (.int .i64 2)] (w.hp false) (.ag (w.b.cs 21)) (w.hp false++w.b.hp true):=impl_EndAt w 2 hw.p.s.a.own hw.p.s.a.far hw.p.s.a.subs hw.p.s.a.halfs hw.p.s.a.list hw.p.s.a.done hw.p.s.a.over hw.p.s.b.own hw.p.s.b.far hw.p.s.b.subs hw.p.s.b.halfs hw.p.s.b.list hw.p.s.b.done hw.p.s.b.over
 obtain⟨pr,hpr⟩:∃ p,p=readE w.b many:=⟨_,rfl⟩
 have hrl:(readE w.b many).2.length≤1048576:=readE_len hw.p.pb
 rw [←hpr] at hX hsm hrl⊢
 obtain⟨e1,t1⟩:=pr
 dsimp only at hX hsm hrl⊢
 obtain⟨l1,hl1⟩:∃ l:List LetterD,l=[]:=⟨_,rfl⟩
 have hlen:l1.length≤1:=by rw [hl1];simp
 have hset:=impl_set2 { w with readB:=w.readB++t1 } e1
 have hpost:=impl_post2 { w with readB:=w.readB++t1,b:=e1 } [] ⟨hw.p.s.bag,hw.p.s.past,hw.p.s.keys,hw.p.s.tags,hw.p.s.nums,hw.p.s.ansA,hw.p.s.ansB⟩ (by first|omega|simp)
 have hends:=postL_ends (side:=2) (l:=[]) (w:={ w with readB:=w.readB++t1,b:=e1 })
 obtain⟨R,hR⟩:∃ R,R=postL 2 { w with readB:=w.readB++t1,b:=e1 } []:=⟨_,rfl⟩
 rw [←hR] at hpost hends⊢
 clear hR
 obtain⟨ra,rb,bag,past,wA,wB,rA,rB,known,nums,nsA,nsB⟩:=R
 obtain⟨keys,tags⟩:=known
 dsimp only at hends
 obtain⟨g1,g2,g3,g4,g5,g6⟩:=hends
 replace g1:=g1.symm
 replace g2:=g2.symm
 replace g3:=g3.symm
 replace g4:=g4.symm
 replace g5:=g5.symm
 replace g6:=g6.symm
 subst g1 g2 g3 g4 g5 g6
 refine callA_ofO Tryz.func18 (by kernel_rfl) rfl fun E hE=>run_den 400 ?_
 simp (disch:=omega) only [Tryz.ntmps18,Tryz.results18,go_sem,Nat.reduceEqDiff,Nat.reduceAdd,Nat.reduceSub,Int.reduceAdd,Int.reduceSub,Int.reduceToNat]
 refine den_drawX [(5,6)] [] [[0,1,2,3,4,5,6,7],[0,1,2,3,4,6,5,7]] 22 hE (fun s=>s.at [13,14,15,16,17,18] [(5,.sc (.pt 30 0 0))] (s.hp++(w.b.hp true++[some ⟨[w.b.cs 23],25,41,true,false⟩]))) (by kernel_rfl) (by (try simp (disch:=omega) only [go_sem,List.length_set,Nat.reduceEqDiff,Nat.reduceAdd,Nat.reduceSub,Int.reduceAdd,Int.reduceSub,Int.reduceToNat])<;>omega) (by kernel_rfl) ?_ (run_den 400 ?_)
 rotate_left
 rotate_right
 simp only [allDn]
 refine⟨runD_den 400 ?_,runD_den 400 ?_⟩
 ·simp (disch:=omega) only [go_sem]
  refine den_callD (by (try simp (disch:=omega) only [go_sem,List.length_set,Nat.reduceEqDiff,Nat.reduceAdd,Nat.reduceSub,Int.reduceAdd,Int.reduceSub,Int.reduceToNat])<;>omega) (hEA) [some (0,none),some (1,none),some (2,none),some (3,none),some (4,none),some (5,none),some (6,none),some (7,none),some (8,none),some (9,none),some (10,none),some (11,none),some (12,none),some (13,none),some (14,none),some (15,none),some (16,none),some (17,none),some (18,none),some (19,none),some (20,none)] (by simp only [go_sem];repeat' first|rfl|constructor|(rw [List.map_set];rfl)|(simp [List.map_take,List.map_drop]<;>omega)) (by rfl) (by rfl) (runD_den 400 ?_)
  simp (disch:=omega) only [go_sem,Nat.reduceEqDiff,Nat.reduceAdd,Nat.reduceSub,Int.reduceAdd,Int.reduceSub,Int.reduceToNat]
  refine⟨by (try simp (disch:=omega) only [go_sem,List.length_set,Nat.reduceEqDiff,Nat.reduceAdd,Nat.reduceSub,Int.reduceAdd,Int.reduceSub,Int.reduceToNat])<;>omega,[some (0,none),some (1,none),some (2,none),some (3,none),some (4,none),some (5,none),some (6,none),some (7,none),some (8,none),some (9,none),some (10,none),some (11,none),some (12,none),some (13,none),some (14,none),some (15,none),some (16,none),some (17,none),some (18,none),some (19,none),some (20,none),some (21,none),some (22,none),some (23,none),some (24,none),some (25,none),some (26,none),some (27,none),some (28,none),some (29,none),some (30,none)],weak_mkO (by rfl) (by rfl) ?_⟩
  try simp (disch:=omega) only [go_sem,Nat.reduceEqDiff,Nat.reduceAdd,Nat.reduceSub,Int.reduceAdd,Int.reduceSub,Int.reduceToNat]
 ·simp (disch:=omega) only [go_sem]
  refine den_callD (by (try simp (disch:=omega) only [go_sem,List.length_set,Nat.reduceEqDiff,Nat.reduceAdd,Nat.reduceSub,Int.reduceAdd,Int.reduceSub,Int.reduceToNat])<;>omega) (hEA) [some (0,none),some (1,none),some (2,none),some (3,none),some (4,none),some (5,none),some (6,none),some (7,none),some (8,none),some (9,none),some (10,none),some (11,none),some (12,none),some (13,none),some (14,none),some (15,none),some (16,none),some (17,none),some (18,none),some (19,none),some (20,none)] (by simp only [go_sem];repeat' first|rfl|constructor|(rw [List.map_set];rfl)|(simp [List.map_take,List.map_drop]<;>omega)) (by rfl) (by rfl) (runD_den 400 ?_)
  simp (disch:=omega) only [go_sem,Nat.reduceEqDiff,Nat.reduceAdd,Nat.reduceSub,Int.reduceAdd,Int.reduceSub,Int.reduceToNat]
  refine⟨by (try simp (disch:=omega) only [go_sem,List.length_set,Nat.reduceEqDiff,Nat.reduceAdd,Nat.reduceSub,Int.reduceAdd,Int.reduceSub,Int.reduceToNat])<;>omega,[some (0,none),some (1,none),some (2,none),some (3,none),some (4,none),some (5,none),some (6,none),some (7,none),some (8,none),some (9,none),some (10,none),some (11,none),some (12,none),some (13,none),some (14,none),some (15,none),some (16,none),some (17,none),some (18,none),some (19,none),some (20,none),some (21,none),some (22,none),some (24,none),some (25,none),some (26,none),some (27,none),some (28,none),some (29,none),some (30,none),some (23,none)],weak_mkO (by rfl) (by rfl) ?_⟩
  try simp (disch:=omega) only [go_sem,Nat.reduceEqDiff,Nat.reduceAdd,Nat.reduceSub,Int.reduceAdd,Int.reduceSub,Int.reduceToNat]
 try simp (disch:=omega) only [go_sem,Nat.reduceEqDiff,Nat.reduceAdd,Nat.reduceSub,Int.reduceAdd,Int.reduceSub,Int.reduceToNat]
 refine den_call (by (try simp (disch:=omega) only [go_sem,List.length_set,Nat.reduceEqDiff,Nat.reduceAdd,Nat.reduceSub,Int.reduceAdd,Int.reduceSub,Int.reduceToNat])<;>omega) (hX) [some (23,none),some (24,none),some (25,none),some (26,none),some (27,none),some (28,none),some (29,none)] (by simp only [go_sem];repeat' first|rfl|constructor|(rw [List.map_set];rfl)|(simp [List.map_take,List.map_drop]<;>omega)) (by rfl) (run_den 400 ?_)
 simp (disch:=omega) only [go_sem,Nat.reduceEqDiff,Nat.reduceAdd,Nat.reduceSub,Int.reduceAdd,Int.reduceSub,Int.reduceToNat]
 refine den_call (by (try simp (disch:=omega) only [go_sem,List.length_set,Nat.reduceEqDiff,Nat.reduceAdd,Nat.reduceSub,Int.reduceAdd,Int.reduceSub,Int.reduceToNat])<;>omega) (hset) [some (0,none),some (1,none),some (2,none),some (3,none),some (4,none),some (5,none),some (6,none),some (7,none),some (8,none),some (9,none),some (10,none),some (11,none),some (12,none),some (13,none),some (14,none),some (15,none),some (16,none),some (17,none),some (18,none),some (19,none),some (20,none),some (31,none),some (32,none),some (33,none),some (34,none),some (35,none),some (36,none),some (37,none),some (21,none)] (by simp only [go_sem];repeat' first|rfl|constructor|(rw [List.map_set];rfl)|(simp [List.map_take,List.map_drop]<;>omega)) (by rfl) (run_den 400 ?_)
 simp (disch:=omega) only [go_sem,Nat.reduceEqDiff,Nat.reduceAdd,Nat.reduceSub,Int.reduceAdd,Int.reduceSub,Int.reduceToNat]
 refine den_call (by (try simp (disch:=omega) only [go_sem,List.length_set,Nat.reduceEqDiff,Nat.reduceAdd,Nat.reduceSub,Int.reduceAdd,Int.reduceSub,Int.reduceToNat])<;>omega) (hpost) [some (0,none),some (1,none),some (2,none),some (3,none),some (4,none),some (5,none),some (6,none),some (31,none),some (32,none),some (33,none),some (34,none),some (35,none),some (36,none),some (37,none),some (14,none),some (15,none),some (16,none),some (17,none),some (18,none),some (19,none),some (20,none),some (21,none),none] (by simp only [go_sem];repeat' first|rfl|constructor|(rw [List.map_set];rfl)|(simp [List.map_take,List.map_drop]<;>omega)) (by rfl) (run_den 400 ?_)
 simp (disch:=omega) only [go_sem,Nat.reduceEqDiff,Nat.reduceAdd,Nat.reduceSub,Int.reduceAdd,Int.reduceSub,Int.reduceToNat]
 refine den_finO [some (0,none),some (1,none),some (2,none),some (3,none),some (4,none),some (5,none),some (6,none),some (7,none),some (8,none),some (9,none),some (10,none),some (11,none),some (12,none),some (13,none),some (14,none),some (15,none),some (16,none),some (17,none),some (18,none),some (19,none),some (20,none),some (21,none),some (0,none),some (1,none),some (2,none),some (3,none),some (4,none),some (5,none),some (6,none),some (31,none),some (32,none),some (33,none),some (34,none),some (35,none),some (36,none),some (37,none),some (39,none),some (40,none),some (41,none),some (42,none),some (43,none),some (44,none),some (45,none)] (by (try simp (disch:=omega) only [go_sem,List.length_set,Nat.reduceEqDiff,Nat.reduceAdd,Nat.reduceSub,Int.reduceAdd,Int.reduceSub,Int.reduceToNat])<;>omega) _ (by simp only [go_sem];rfl) (by rfl) (by rfl) ?_
 simp (disch:=omega) only [go_sem,Nat.reduceEqDiff,Nat.reduceAdd,Nat.reduceSub,Int.reduceAdd,Int.reduceSub,Int.reduceToNat]
theorem impl_acts4_2 (w:WorldD) (pos many:Int) (text:List UInt8) (ad:AddrD) (le:LetterD) (hw:SmallD w) (htx:text.length≤1048576):
  CallA Tryz.prog 18 [.sc (.pt 21 0 0),.ag (ActD.cs ⟨4,2,pos,many,text,ad,le⟩)] (w.hp true++[some ⟨[w.cs 0],61,47,true,false⟩]) (.sc (.int .i64 0))
  ([none,none,none,none,none,none,none,none,none,none,none,none,none,none,none,none,none,none,none,none,none,some ⟨[WorldD.cs (postL 2 { w with b:=(manage w.b).1 } (manage w.b).2) 22],61,47,true,false⟩]++WorldD.hp (postL 2 { w with b:=(manage w.b).1 } (manage w.b).2) true):=by
 have q1:=hw.s.wa
 have q2:=hw.s.wb
 have q3:=hw.s.ra
 have q4:=hw.s.rb
 have hX:=impl_Manage w.b hw.p.s.b
 have hsm:=manage_small hw.p.s.b
 have hlen:=manage_len w.b
 have hEA:CallA Tryz.prog 38 [.ag (w.cs 0),.sc (.int .i64 2)] (w.hp false) (.ag (w.b.cs 21)) (w.hp false++w.b.hp true):=impl_EndAt w 2 hw.p.s.a.own hw.p.s.a.far hw.p.s.a.subs hw.p.s.a.halfs hw.p.s.a.list hw.p.s.a.done hw.p.s.a.over hw.p.s.b.own hw.p.s.b.far hw.p.s.b.subs hw.p.s.b.halfs hw.p.s.b.list hw.p.s.b.done hw.p.s.b.over
 obtain⟨pr,hpr⟩:∃ p,p=manage w.b:=⟨_,rfl⟩
 rw [←hpr] at hX hsm hlen⊢
 obtain⟨e1,l1⟩:=pr
 dsimp only at hX hsm hlen⊢
 have hset:=impl_set2 w e1
 have hpost:=impl_post2 { w with b:=e1 } l1 ⟨hw.p.s.bag,hw.p.s.past,hw.p.s.keys,hw.p.s.tags,hw.p.s.nums,hw.p.s.ansA,hw.p.s.ansB⟩ (by first|omega|simp)
 have hends:=postL_ends (side:=2) (l:=l1) (w:={ w with b:=e1 })
 obtain⟨R,hR⟩:∃ R,R=postL 2 { w with b:=e1 } l1:=⟨_,rfl⟩
 rw [←hR] at hpost hends⊢
 clear hR
 obtain⟨ra,rb,bag,past,wA,wB,rA,rB,known,nums,nsA,nsB⟩:=R
 obtain⟨keys,tags⟩:=known
 dsimp only at hends
 obtain⟨g1,g2,g3,g4,g5,g6⟩:=hends
 replace g1:=g1.symm
 replace g2:=g2.symm
 replace g3:=g3.symm
 replace g4:=g4.symm
 replace g5:=g5.symm
 replace g6:=g6.symm
 subst g1 g2 g3 g4 g5 g6
 refine callA_ofO Tryz.func18 (by kernel_rfl) rfl fun E hE=>run_den 400 ?_
 simp (disch:=omega) only [Tryz.ntmps18,Tryz.results18,go_sem,Nat.reduceEqDiff,Nat.reduceAdd,Nat.reduceSub,Int.reduceAdd,Int.reduceSub,Int.reduceToNat]
 refine den_drawX [(5,6)] [] [[0,1,2,3,4,5,6,7],[0,1,2,3,4,6,5,7]] 22 hE (fun s=>s.at [13,14,15,16,17,18] [(5,.sc (.pt 30 0 0))] (s.hp++(w.b.hp true++[some ⟨[w.b.cs 23],25,41,true,false⟩]))) (by kernel_rfl) (by (try simp (disch:=omega) only [go_sem,List.length_set,Nat.reduceEqDiff,Nat.reduceAdd,Nat.reduceSub,Int.reduceAdd,Int.reduceSub,Int.reduceToNat])<;>omega) (by kernel_rfl) ?_ (run_den 400 ?_)
 rotate_left
 rotate_right
 simp only [allDn]
 refine⟨runD_den 400 ?_,runD_den 400 ?_⟩
 ·simp (disch:=omega) only [go_sem]
  refine den_callD (by (try simp (disch:=omega) only [go_sem,List.length_set,Nat.reduceEqDiff,Nat.reduceAdd,Nat.reduceSub,Int.reduceAdd,Int.reduceSub,Int.reduceToNat])<;>omega) (hEA) [some (0,none),some (1,none),some (2,none),some (3,none),some (4,none),some (5,none),some (6,none),some (7,none),some (8,none),some (9,none),some (10,none),some (11,none),some (12,none),some (13,none),some (14,none),some (15,none),some (16,none),some (17,none),some (18,none),some (19,none),some (20,none)] (by simp only [go_sem];repeat' first|rfl|constructor|(rw [List.map_set];rfl)|(simp [List.map_take,List.map_drop]<;>omega)) (by rfl) (by rfl) (runD_den 400 ?_)
  simp (disch:=omega) only [go_sem,Nat.reduceEqDiff,Nat.reduceAdd,Nat.reduceSub,Int.reduceAdd,Int.reduceSub,Int.reduceToNat]
  refine⟨by (try simp (disch:=omega) only [go_sem,List.length_set,Nat.reduceEqDiff,Nat.reduceAdd,Nat.reduceSub,Int.reduceAdd,Int.reduceSub,Int.reduceToNat])<;>omega,[some (0,none),some (1,none),some (2,none),some (3,none),some (4,none),some (5,none),some (6,none),some (7,none),some (8,none),some (9,none),some (10,none),some (11,none),some (12,none),some (13,none),some (14,none),some (15,none),some (16,none),some (17,none),some (18,none),some (19,none),some (20,none),some (21,none),some (22,none),some (23,none),some (24,none),some (25,none),some (26,none),some (27,none),some (28,none),some (29,none),some (30,none)],weak_mkO (by rfl) (by rfl) ?_⟩
  try simp (disch:=omega) only [go_sem,Nat.reduceEqDiff,Nat.reduceAdd,Nat.reduceSub,Int.reduceAdd,Int.reduceSub,Int.reduceToNat]
 ·simp (disch:=omega) only [go_sem]
  refine den_callD (by (try simp (disch:=omega) only [go_sem,List.length_set,Nat.reduceEqDiff,Nat.reduceAdd,Nat.reduceSub,Int.reduceAdd,Int.reduceSub,Int.reduceToNat])<;>omega) (hEA) [some (0,none),some (1,none),some (2,none),some (3,none),some (4,none),some (5,none),some (6,none),some (7,none),some (8,none),some (9,none),some (10,none),some (11,none),some (12,none),some (13,none),some (14,none),some (15,none),some (16,none),some (17,none),some (18,none),some (19,none),some (20,none)] (by simp only [go_sem];repeat' first|rfl|constructor|(rw [List.map_set];rfl)|(simp [List.map_take,List.map_drop]<;>omega)) (by rfl) (by rfl) (runD_den 400 ?_)
  simp (disch:=omega) only [go_sem,Nat.reduceEqDiff,Nat.reduceAdd,Nat.reduceSub,Int.reduceAdd,Int.reduceSub,Int.reduceToNat]
  refine⟨by (try simp (disch:=omega) only [go_sem,List.length_set,Nat.reduceEqDiff,Nat.reduceAdd,Nat.reduceSub,Int.reduceAdd,Int.reduceSub,Int.reduceToNat])<;>omega,[some (0,none),some (1,none),some (2,none),some (3,none),some (4,none),some (5,none),some (6,none),some (7,none),some (8,none),some (9,none),some (10,none),some (11,none),some (12,none),some (13,none),some (14,none),some (15,none),some (16,none),some (17,none),some (18,none),some (19,none),some (20,none),some (21,none),some (22,none),some (24,none),some (25,none),some (26,none),some (27,none),some (28,none),some (29,none),some (30,none),some (23,none)],weak_mkO (by rfl) (by rfl) ?_⟩
  try simp (disch:=omega) only [go_sem,Nat.reduceEqDiff,Nat.reduceAdd,Nat.reduceSub,Int.reduceAdd,Int.reduceSub,Int.reduceToNat]
 try simp (disch:=omega) only [go_sem,Nat.reduceEqDiff,Nat.reduceAdd,Nat.reduceSub,Int.reduceAdd,Int.reduceSub,Int.reduceToNat]
 refine den_call (by (try simp (disch:=omega) only [go_sem,List.length_set,Nat.reduceEqDiff,Nat.reduceAdd,Nat.reduceSub,Int.reduceAdd,Int.reduceSub,Int.reduceToNat])<;>omega) (hX) [some (23,none),some (24,none),some (25,none),some (26,none),some (27,none),some (28,none),some (29,none)] (by simp only [go_sem];repeat' first|rfl|constructor|(rw [List.map_set];rfl)|(simp [List.map_take,List.map_drop]<;>omega)) (by rfl) (run_den 400 ?_)
 simp (disch:=omega) only [go_sem,Nat.reduceEqDiff,Nat.reduceAdd,Nat.reduceSub,Int.reduceAdd,Int.reduceSub,Int.reduceToNat]
 refine den_call (by (try simp (disch:=omega) only [go_sem,List.length_set,Nat.reduceEqDiff,Nat.reduceAdd,Nat.reduceSub,Int.reduceAdd,Int.reduceSub,Int.reduceToNat])<;>omega) (hset) [some (0,none),some (1,none),some (2,none),some (3,none),some (4,none),some (5,none),some (6,none),some (7,none),some (8,none),some (9,none),some (10,none),some (11,none),some (12,none),some (13,none),some (14,none),some (15,none),some (16,none),some (17,none),some (18,none),some (19,none),some (20,none),some (31,none),some (32,none),some (33,none),some (34,none),some (35,none),some (36,none),some (37,none),some (21,none)] (by simp only [go_sem];repeat' first|rfl|constructor|(rw [List.map_set];rfl)|(simp [List.map_take,List.map_drop]<;>omega)) (by rfl) (run_den 400 ?_)
 simp (disch:=omega) only [go_sem,Nat.reduceEqDiff,Nat.reduceAdd,Nat.reduceSub,Int.reduceAdd,Int.reduceSub,Int.reduceToNat]
 refine den_call (by (try simp (disch:=omega) only [go_sem,List.length_set,Nat.reduceEqDiff,Nat.reduceAdd,Nat.reduceSub,Int.reduceAdd,Int.reduceSub,Int.reduceToNat])<;>omega) (hpost) [some (0,none),some (1,none),some (2,none),some (3,none),some (4,none),some (5,none),some (6,none),some (31,none),some (32,none),some (33,none),some (34,none),some (35,none),some (36,none),some (37,none),some (14,none),some (15,none),some (16,none),some (17,none),some (18,none),some (19,none),some (20,none),some (21,none),some (38,none)] (by simp only [go_sem];repeat' first|rfl|constructor|(rw [List.map_set];rfl)|(simp [List.map_take,List.map_drop]<;>omega)) (by rfl) (run_den 400 ?_)
 simp (disch:=omega) only [go_sem,Nat.reduceEqDiff,Nat.reduceAdd,Nat.reduceSub,Int.reduceAdd,Int.reduceSub,Int.reduceToNat]
 refine den_finO [some (0,none),some (1,none),some (2,none),some (3,none),some (4,none),some (5,none),some (6,none),some (7,none),some (8,none),some (9,none),some (10,none),some (11,none),some (12,none),some (13,none),some (14,none),some (15,none),some (16,none),some (17,none),some (18,none),some (19,none),some (20,none),some (21,none),some (0,none),some (1,none),some (2,none),some (3,none),some (4,none),some (5,none),some (6,none),some (31,none),some (32,none),some (33,none),some (34,none),some (35,none),some (36,none),some (37,none),some (39,none),some (40,none),some (41,none),some (42,none),some (43,none),some (44,none),some (45,none)] (by (try simp (disch:=omega) only [go_sem,List.length_set,Nat.reduceEqDiff,Nat.reduceAdd,Nat.reduceSub,Int.reduceAdd,Int.reduceSub,Int.reduceToNat])<;>omega) _ (by simp only [go_sem];rfl) (by rfl) (by rfl) ?_
 simp (disch:=omega) only [go_sem,Nat.reduceEqDiff,Nat.reduceAdd,Nat.reduceSub,Int.reduceAdd,Int.reduceSub,Int.reduceToNat]
theorem impl_acts5_2 (w:WorldD) (pos many:Int) (text:List UInt8) (ad:AddrD) (le:LetterD) (hw:SmallD w) (htx:text.length≤1048576) (hsd:sideAt ad.addr=2) (hgood:(addOwn w.b ad).2=true):
  CallA Tryz.prog 18 [.sc (.pt 21 0 0),.ag (ActD.cs ⟨5,2,pos,many,text,ad,le⟩)] (w.hp true++[some ⟨[w.cs 0],61,47,true,false⟩]) (.sc (.int .i64 0))
  ([none,none,none,none,none,none,none,none,none,none,none,none,none,none,none,none,none,none,none,none,none,some ⟨[WorldD.cs (postL 2 { w with b:=((addOwn w.b ad).1,([]:List LetterD)).1 } ((addOwn w.b ad).1,([]:List LetterD)).2) 22],61,47,true,false⟩]++WorldD.hp (postL 2 { w with b:=((addOwn w.b ad).1,([]:List LetterD)).1 } ((addOwn w.b ad).1,([]:List LetterD)).2) true):=by
 have q1:=hw.s.wa
 have q2:=hw.s.wb
 have q3:=hw.s.ra
 have q4:=hw.s.rb
 have hX:=impl_AddOwn w.b ad hw.p.s.b
 have hsm:=addOwn_small (a:=ad) hw.p.s.b
 have hEA:CallA Tryz.prog 38 [.ag (w.cs 0),.sc (.int .i64 2)] (w.hp false) (.ag (w.b.cs 21)) (w.hp false++w.b.hp true):=impl_EndAt w 2 hw.p.s.a.own hw.p.s.a.far hw.p.s.a.subs hw.p.s.a.halfs hw.p.s.a.list hw.p.s.a.done hw.p.s.a.over hw.p.s.b.own hw.p.s.b.far hw.p.s.b.subs hw.p.s.b.halfs hw.p.s.b.list hw.p.s.b.done hw.p.s.b.over
 obtain⟨pr,hpr⟩:∃ p,p=addOwn w.b ad:=⟨_,rfl⟩
 rw [←hpr] at hX hsm hgood⊢
 obtain⟨e1,ok1⟩:=pr
 dsimp only at hX hsm hgood⊢
 subst hgood
 obtain⟨l1,hl1⟩:∃ l:List LetterD,l=[]:=⟨_,rfl⟩
 have hlen:l1.length≤1:=by rw [hl1];simp
 have hset:=impl_set2 w e1
 have hpost:=impl_post2 { w with b:=e1 } [] ⟨hw.p.s.bag,hw.p.s.past,hw.p.s.keys,hw.p.s.tags,hw.p.s.nums,hw.p.s.ansA,hw.p.s.ansB⟩ (by first|omega|simp)
 have hends:=postL_ends (side:=2) (l:=[]) (w:={ w with b:=e1 })
 obtain⟨R,hR⟩:∃ R,R=postL 2 { w with b:=e1 } []:=⟨_,rfl⟩
 rw [←hR] at hpost hends⊢
 clear hR
 obtain⟨ra,rb,bag,past,wA,wB,rA,rB,known,nums,nsA,nsB⟩:=R
 obtain⟨keys,tags⟩:=known
 dsimp only at hends
 obtain⟨g1,g2,g3,g4,g5,g6⟩:=hends
 replace g1:=g1.symm
 replace g2:=g2.symm
 replace g3:=g3.symm
 replace g4:=g4.symm
 replace g5:=g5.symm
 replace g6:=g6.symm
 subst g1 g2 g3 g4 g5 g6
 have hSd:=impl_SideAt ad.addr
 rw [hsd] at hSd
 refine callA_ofO Tryz.func18 (by kernel_rfl) rfl fun E hE=>run_den 400 ?_
 simp (disch:=omega) only [Tryz.ntmps18,Tryz.results18,go_sem,Nat.reduceEqDiff,Nat.reduceAdd,Nat.reduceSub,Int.reduceAdd,Int.reduceSub,Int.reduceToNat]
 refine den_drawX [(5,6)] [] [[0,1,2,3,4,5,6,7],[0,1,2,3,4,6,5,7]] 22 hE (fun s=>s.at [13,14,15,16,17,18] [(5,.sc (.pt 30 0 0))] (s.hp++(w.b.hp true++[some ⟨[w.b.cs 23],25,41,true,false⟩]))) (by kernel_rfl) (by (try simp (disch:=omega) only [go_sem,List.length_set,Nat.reduceEqDiff,Nat.reduceAdd,Nat.reduceSub,Int.reduceAdd,Int.reduceSub,Int.reduceToNat])<;>omega) (by kernel_rfl) ?_ (run_den 400 ?_)
 rotate_left
 rotate_right
 simp only [allDn]
 refine⟨runD_den 400 ?_,runD_den 400 ?_⟩
 ·simp (disch:=omega) only [go_sem]
  refine den_callD (by (try simp (disch:=omega) only [go_sem,List.length_set,Nat.reduceEqDiff,Nat.reduceAdd,Nat.reduceSub,Int.reduceAdd,Int.reduceSub,Int.reduceToNat])<;>omega) (hEA) [some (0,none),some (1,none),some (2,none),some (3,none),some (4,none),some (5,none),some (6,none),some (7,none),some (8,none),some (9,none),some (10,none),some (11,none),some (12,none),some (13,none),some (14,none),some (15,none),some (16,none),some (17,none),some (18,none),some (19,none),some (20,none)] (by simp only [go_sem];repeat' first|rfl|constructor|(rw [List.map_set];rfl)|(simp [List.map_take,List.map_drop]<;>omega)) (by rfl) (by rfl) (runD_den 400 ?_)
  simp (disch:=omega) only [go_sem,Nat.reduceEqDiff,Nat.reduceAdd,Nat.reduceSub,Int.reduceAdd,Int.reduceSub,Int.reduceToNat]
  refine⟨by (try simp (disch:=omega) only [go_sem,List.length_set,Nat.reduceEqDiff,Nat.reduceAdd,Nat.reduceSub,Int.reduceAdd,Int.reduceSub,Int.reduceToNat])<;>omega,[some (0,none),some (1,none),some (2,none),some (3,none),some (4,none),some (5,none),some (6,none),some (7,none),some (8,none),some (9,none),some (10,none),some (11,none),some (12,none),some (13,none),some (14,none),some (15,none),some (16,none),some (17,none),some (18,none),some (19,none),some (20,none),some (21,none),some (22,none),some (23,none),some (24,none),some (25,none),some (26,none),some (27,none),some (28,none),some (29,none),some (30,none)],weak_mkO (by rfl) (by rfl) ?_⟩
  try simp (disch:=omega) only [go_sem,Nat.reduceEqDiff,Nat.reduceAdd,Nat.reduceSub,Int.reduceAdd,Int.reduceSub,Int.reduceToNat]
 ·simp (disch:=omega) only [go_sem]
  refine den_callD (by (try simp (disch:=omega) only [go_sem,List.length_set,Nat.reduceEqDiff,Nat.reduceAdd,Nat.reduceSub,Int.reduceAdd,Int.reduceSub,Int.reduceToNat])<;>omega) (hEA) [some (0,none),some (1,none),some (2,none),some (3,none),some (4,none),some (5,none),some (6,none),some (7,none),some (8,none),some (9,none),some (10,none),some (11,none),some (12,none),some (13,none),some (14,none),some (15,none),some (16,none),some (17,none),some (18,none),some (19,none),some (20,none)] (by simp only [go_sem];repeat' first|rfl|constructor|(rw [List.map_set];rfl)|(simp [List.map_take,List.map_drop]<;>omega)) (by rfl) (by rfl) (runD_den 400 ?_)
  simp (disch:=omega) only [go_sem,Nat.reduceEqDiff,Nat.reduceAdd,Nat.reduceSub,Int.reduceAdd,Int.reduceSub,Int.reduceToNat]
  refine⟨by (try simp (disch:=omega) only [go_sem,List.length_set,Nat.reduceEqDiff,Nat.reduceAdd,Nat.reduceSub,Int.reduceAdd,Int.reduceSub,Int.reduceToNat])<;>omega,[some (0,none),some (1,none),some (2,none),some (3,none),some (4,none),some (5,none),some (6,none),some (7,none),some (8,none),some (9,none),some (10,none),some (11,none),some (12,none),some (13,none),some (14,none),some (15,none),some (16,none),some (17,none),some (18,none),some (19,none),some (20,none),some (21,none),some (22,none),some (24,none),some (25,none),some (26,none),some (27,none),some (28,none),some (29,none),some (30,none),some (23,none)],weak_mkO (by rfl) (by rfl) ?_⟩
  try simp (disch:=omega) only [go_sem,Nat.reduceEqDiff,Nat.reduceAdd,Nat.reduceSub,Int.reduceAdd,Int.reduceSub,Int.reduceToNat]
 try simp (disch:=omega) only [go_sem,Nat.reduceEqDiff,Nat.reduceAdd,Nat.reduceSub,Int.reduceAdd,Int.reduceSub,Int.reduceToNat]
 refine den_call (by (try simp (disch:=omega) only [go_sem,List.length_set,Nat.reduceEqDiff,Nat.reduceAdd,Nat.reduceSub,Int.reduceAdd,Int.reduceSub,Int.reduceToNat])<;>omega) (hX) [some (23,none),some (24,none),some (25,none),some (26,none),some (27,none),some (28,none),some (29,none)] (by simp only [go_sem];repeat' first|rfl|constructor|(rw [List.map_set];rfl)|(simp [List.map_take,List.map_drop]<;>omega)) (by rfl) (run_den 400 ?_)
 simp (disch:=omega) only [go_sem,Nat.reduceEqDiff,Nat.reduceAdd,Nat.reduceSub,Int.reduceAdd,Int.reduceSub,Int.reduceToNat]
 refine den_draw1 [0,1,2,4,5,3,6,7,8,9,10] (by kernel_rfl) (by (try simp (disch:=omega) only [go_sem,List.length_set,Nat.reduceEqDiff,Nat.reduceAdd,Nat.reduceSub,Int.reduceAdd,Int.reduceSub,Int.reduceToNat])<;>omega) (by kernel_rfl) (runD_den 400 ?_)
 simp (disch:=omega) only [go_sem,Nat.reduceEqDiff,Nat.reduceAdd,Nat.reduceSub,Int.reduceAdd,Int.reduceSub,Int.reduceToNat]
 refine den_callD (by (try simp (disch:=omega) only [go_sem,List.length_set,Nat.reduceEqDiff,Nat.reduceAdd,Nat.reduceSub,Int.reduceAdd,Int.reduceSub,Int.reduceToNat])<;>omega) (hSd) [] (by simp only [go_sem];repeat' first|rfl|constructor|(rw [List.map_set];rfl)|(simp [List.map_take,List.map_drop]<;>omega)) (by rfl) (by rfl) (runD_den 400 ?_)
 simp (disch:=omega) only [go_sem,Nat.reduceEqDiff,Nat.reduceAdd,Nat.reduceSub,Int.reduceAdd,Int.reduceSub,Int.reduceToNat]
 refine⟨by (try simp (disch:=omega) only [go_sem,List.length_set,Nat.reduceEqDiff,Nat.reduceAdd,Nat.reduceSub,Int.reduceAdd,Int.reduceSub,Int.reduceToNat])<;>omega,run_den 400 ?_⟩
 try simp (disch:=omega) only [go_sem,Nat.reduceEqDiff,Nat.reduceAdd,Nat.reduceSub,Int.reduceAdd,Int.reduceSub,Int.reduceToNat]
 refine den_call (by (try simp (disch:=omega) only [go_sem,List.length_set,Nat.reduceEqDiff,Nat.reduceAdd,Nat.reduceSub,Int.reduceAdd,Int.reduceSub,Int.reduceToNat])<;>omega) (hset) [some (0,none),some (1,none),some (2,none),some (3,none),some (4,none),some (5,none),some (6,none),some (7,none),some (8,none),some (9,none),some (10,none),some (11,none),some (12,none),some (13,none),some (14,none),some (15,none),some (16,none),some (17,none),some (18,none),some (19,none),some (20,none),some (31,none),some (32,none),some (33,none),some (34,none),some (35,none),some (36,none),some (37,none),some (21,none)] (by simp only [go_sem];repeat' first|rfl|constructor|(rw [List.map_set];rfl)|(simp [List.map_take,List.map_drop]<;>omega)) (by rfl) (run_den 400 ?_)
 simp (disch:=omega) only [go_sem,Nat.reduceEqDiff,Nat.reduceAdd,Nat.reduceSub,Int.reduceAdd,Int.reduceSub,Int.reduceToNat]
 refine den_call (by (try simp (disch:=omega) only [go_sem,List.length_set,Nat.reduceEqDiff,Nat.reduceAdd,Nat.reduceSub,Int.reduceAdd,Int.reduceSub,Int.reduceToNat])<;>omega) (hpost) [some (0,none),some (1,none),some (2,none),some (3,none),some (4,none),some (5,none),some (6,none),some (31,none),some (32,none),some (33,none),some (34,none),some (35,none),some (36,none),some (37,none),some (14,none),some (15,none),some (16,none),some (17,none),some (18,none),some (19,none),some (20,none),some (21,none),none] (by simp only [go_sem];repeat' first|rfl|constructor|(rw [List.map_set];rfl)|(simp [List.map_take,List.map_drop]<;>omega)) (by rfl) (run_den 400 ?_)
 simp (disch:=omega) only [go_sem,Nat.reduceEqDiff,Nat.reduceAdd,Nat.reduceSub,Int.reduceAdd,Int.reduceSub,Int.reduceToNat]
 refine den_finO [some (0,none),some (1,none),some (2,none),some (3,none),some (4,none),some (5,none),some (6,none),some (7,none),some (8,none),some (9,none),some (10,none),some (11,none),some (12,none),some (13,none),some (14,none),some (15,none),some (16,none),some (17,none),some (18,none),some (19,none),some (20,none),some (21,none),some (0,none),some (1,none),some (2,none),some (3,none),some (4,none),some (5,none),some (6,none),some (31,none),some (32,none),some (33,none),some (34,none),some (35,none),some (36,none),some (37,none),some (39,none),some (40,none),some (41,none),some (42,none),some (43,none),some (44,none),some (45,none)] (by (try simp (disch:=omega) only [go_sem,List.length_set,Nat.reduceEqDiff,Nat.reduceAdd,Nat.reduceSub,Int.reduceAdd,Int.reduceSub,Int.reduceToNat])<;>omega) _ (by simp only [go_sem];rfl) (by rfl) (by rfl) ?_
 simp (disch:=omega) only [go_sem,Nat.reduceEqDiff,Nat.reduceAdd,Nat.reduceSub,Int.reduceAdd,Int.reduceSub,Int.reduceToNat]
theorem impl_acts6_2 (w:WorldD) (pos many:Int) (text:List UInt8) (ad:AddrD) (le:LetterD) (hw:SmallD w) (htx:text.length≤1048576):
  CallA Tryz.prog 18 [.sc (.pt 21 0 0),.ag (ActD.cs ⟨6,2,pos,many,text,ad,le⟩)] (w.hp true++[some ⟨[w.cs 0],61,47,true,false⟩]) (.sc (.int .i64 0))
  ([none,none,none,none,none,none,none,none,none,none,none,none,none,none,none,none,none,none,none,none,none,some ⟨[WorldD.cs (postL 2 { w with b:=(dropOwn w.b pos).1 } (dropOwn w.b pos).2) 22],61,47,true,false⟩]++WorldD.hp (postL 2 { w with b:=(dropOwn w.b pos).1 } (dropOwn w.b pos).2) true):=by
 have q1:=hw.s.wa
 have q2:=hw.s.wb
 have q3:=hw.s.ra
 have q4:=hw.s.rb
 have hX:=impl_DropOwn w.b pos hw.p.s.b
 have hsm:=dropOwn_small (n:=pos) hw.p.s.b
 have hlen:=dropOwn_len w.b pos hw.p.s.b
 have hEA:CallA Tryz.prog 38 [.ag (w.cs 0),.sc (.int .i64 2)] (w.hp false) (.ag (w.b.cs 21)) (w.hp false++w.b.hp true):=impl_EndAt w 2 hw.p.s.a.own hw.p.s.a.far hw.p.s.a.subs hw.p.s.a.halfs hw.p.s.a.list hw.p.s.a.done hw.p.s.a.over hw.p.s.b.own hw.p.s.b.far hw.p.s.b.subs hw.p.s.b.halfs hw.p.s.b.list hw.p.s.b.done hw.p.s.b.over
 obtain⟨pr,hpr⟩:∃ p,p=dropOwn w.b pos:=⟨_,rfl⟩
 rw [←hpr] at hX hsm hlen⊢
 obtain⟨e1,l1⟩:=pr
 dsimp only at hX hsm hlen⊢
 have hset:=impl_set2 w e1
 have hpost:=impl_post2 { w with b:=e1 } l1 ⟨hw.p.s.bag,hw.p.s.past,hw.p.s.keys,hw.p.s.tags,hw.p.s.nums,hw.p.s.ansA,hw.p.s.ansB⟩ (by first|omega|simp)
 have hends:=postL_ends (side:=2) (l:=l1) (w:={ w with b:=e1 })
 obtain⟨R,hR⟩:∃ R,R=postL 2 { w with b:=e1 } l1:=⟨_,rfl⟩
 rw [←hR] at hpost hends⊢
 clear hR
 obtain⟨ra,rb,bag,past,wA,wB,rA,rB,known,nums,nsA,nsB⟩:=R
 obtain⟨keys,tags⟩:=known
 dsimp only at hends
 obtain⟨g1,g2,g3,g4,g5,g6⟩:=hends
 replace g1:=g1.symm
 replace g2:=g2.symm
 replace g3:=g3.symm
 replace g4:=g4.symm
 replace g5:=g5.symm
 replace g6:=g6.symm
 subst g1 g2 g3 g4 g5 g6
 refine callA_ofO Tryz.func18 (by kernel_rfl) rfl fun E hE=>run_den 400 ?_
 simp (disch:=omega) only [Tryz.ntmps18,Tryz.results18,go_sem,Nat.reduceEqDiff,Nat.reduceAdd,Nat.reduceSub,Int.reduceAdd,Int.reduceSub,Int.reduceToNat]
 refine den_drawX [(5,6)] [] [[0,1,2,3,4,5,6,7],[0,1,2,3,4,6,5,7]] 22 hE (fun s=>s.at [13,14,15,16,17,18] [(5,.sc (.pt 30 0 0))] (s.hp++(w.b.hp true++[some ⟨[w.b.cs 23],25,41,true,false⟩]))) (by kernel_rfl) (by (try simp (disch:=omega) only [go_sem,List.length_set,Nat.reduceEqDiff,Nat.reduceAdd,Nat.reduceSub,Int.reduceAdd,Int.reduceSub,Int.reduceToNat])<;>omega) (by kernel_rfl) ?_ (run_den 400 ?_)
 rotate_left
 rotate_right
 simp only [allDn]
 refine⟨runD_den 400 ?_,runD_den 400 ?_⟩
 ·simp (disch:=omega) only [go_sem]
  refine den_callD (by (try simp (disch:=omega) only [go_sem,List.length_set,Nat.reduceEqDiff,Nat.reduceAdd,Nat.reduceSub,Int.reduceAdd,Int.reduceSub,Int.reduceToNat])<;>omega) (hEA) [some (0,none),some (1,none),some (2,none),some (3,none),some (4,none),some (5,none),some (6,none),some (7,none),some (8,none),some (9,none),some (10,none),some (11,none),some (12,none),some (13,none),some (14,none),some (15,none),some (16,none),some (17,none),some (18,none),some (19,none),some (20,none)] (by simp only [go_sem];repeat' first|rfl|constructor|(rw [List.map_set];rfl)|(simp [List.map_take,List.map_drop]<;>omega)) (by rfl) (by rfl) (runD_den 400 ?_)
  simp (disch:=omega) only [go_sem,Nat.reduceEqDiff,Nat.reduceAdd,Nat.reduceSub,Int.reduceAdd,Int.reduceSub,Int.reduceToNat]
  refine⟨by (try simp (disch:=omega) only [go_sem,List.length_set,Nat.reduceEqDiff,Nat.reduceAdd,Nat.reduceSub,Int.reduceAdd,Int.reduceSub,Int.reduceToNat])<;>omega,[some (0,none),some (1,none),some (2,none),some (3,none),some (4,none),some (5,none),some (6,none),some (7,none),some (8,none),some (9,none),some (10,none),some (11,none),some (12,none),some (13,none),some (14,none),some (15,none),some (16,none),some (17,none),some (18,none),some (19,none),some (20,none),some (21,none),some (22,none),some (23,none),some (24,none),some (25,none),some (26,none),some (27,none),some (28,none),some (29,none),some (30,none)],weak_mkO (by rfl) (by rfl) ?_⟩
  try simp (disch:=omega) only [go_sem,Nat.reduceEqDiff,Nat.reduceAdd,Nat.reduceSub,Int.reduceAdd,Int.reduceSub,Int.reduceToNat]
 ·simp (disch:=omega) only [go_sem]
  refine den_callD (by (try simp (disch:=omega) only [go_sem,List.length_set,Nat.reduceEqDiff,Nat.reduceAdd,Nat.reduceSub,Int.reduceAdd,Int.reduceSub,Int.reduceToNat])<;>omega) (hEA) [some (0,none),some (1,none),some (2,none),some (3,none),some (4,none),some (5,none),some (6,none),some (7,none),some (8,none),some (9,none),some (10,none),some (11,none),some (12,none),some (13,none),some (14,none),some (15,none),some (16,none),some (17,none),some (18,none),some (19,none),some (20,none)] (by simp only [go_sem];repeat' first|rfl|constructor|(rw [List.map_set];rfl)|(simp [List.map_take,List.map_drop]<;>omega)) (by rfl) (by rfl) (runD_den 400 ?_)
  simp (disch:=omega) only [go_sem,Nat.reduceEqDiff,Nat.reduceAdd,Nat.reduceSub,Int.reduceAdd,Int.reduceSub,Int.reduceToNat]
  refine⟨by (try simp (disch:=omega) only [go_sem,List.length_set,Nat.reduceEqDiff,Nat.reduceAdd,Nat.reduceSub,Int.reduceAdd,Int.reduceSub,Int.reduceToNat])<;>omega,[some (0,none),some (1,none),some (2,none),some (3,none),some (4,none),some (5,none),some (6,none),some (7,none),some (8,none),some (9,none),some (10,none),some (11,none),some (12,none),some (13,none),some (14,none),some (15,none),some (16,none),some (17,none),some (18,none),some (19,none),some (20,none),some (21,none),some (22,none),some (24,none),some (25,none),some (26,none),some (27,none),some (28,none),some (29,none),some (30,none),some (23,none)],weak_mkO (by rfl) (by rfl) ?_⟩
  try simp (disch:=omega) only [go_sem,Nat.reduceEqDiff,Nat.reduceAdd,Nat.reduceSub,Int.reduceAdd,Int.reduceSub,Int.reduceToNat]
 try simp (disch:=omega) only [go_sem,Nat.reduceEqDiff,Nat.reduceAdd,Nat.reduceSub,Int.reduceAdd,Int.reduceSub,Int.reduceToNat]
 refine den_call (by (try simp (disch:=omega) only [go_sem,List.length_set,Nat.reduceEqDiff,Nat.reduceAdd,Nat.reduceSub,Int.reduceAdd,Int.reduceSub,Int.reduceToNat])<;>omega) (hX) [some (23,none),some (24,none),some (25,none),some (26,none),some (27,none),some (28,none),some (29,none)] (by simp only [go_sem];repeat' first|rfl|constructor|(rw [List.map_set];rfl)|(simp [List.map_take,List.map_drop]<;>omega)) (by rfl) (run_den 400 ?_)
 simp (disch:=omega) only [go_sem,Nat.reduceEqDiff,Nat.reduceAdd,Nat.reduceSub,Int.reduceAdd,Int.reduceSub,Int.reduceToNat]
 refine den_call (by (try simp (disch:=omega) only [go_sem,List.length_set,Nat.reduceEqDiff,Nat.reduceAdd,Nat.reduceSub,Int.reduceAdd,Int.reduceSub,Int.reduceToNat])<;>omega) (hset) [some (0,none),some (1,none),some (2,none),some (3,none),some (4,none),some (5,none),some (6,none),some (7,none),some (8,none),some (9,none),some (10,none),some (11,none),some (12,none),some (13,none),some (14,none),some (15,none),some (16,none),some (17,none),some (18,none),some (19,none),some (20,none),some (31,none),some (32,none),some (33,none),some (34,none),some (35,none),some (36,none),some (37,none),some (21,none)] (by simp only [go_sem];repeat' first|rfl|constructor|(rw [List.map_set];rfl)|(simp [List.map_take,List.map_drop]<;>omega)) (by rfl) (run_den 400 ?_)
 simp (disch:=omega) only [go_sem,Nat.reduceEqDiff,Nat.reduceAdd,Nat.reduceSub,Int.reduceAdd,Int.reduceSub,Int.reduceToNat]
 refine den_call (by (try simp (disch:=omega) only [go_sem,List.length_set,Nat.reduceEqDiff,Nat.reduceAdd,Nat.reduceSub,Int.reduceAdd,Int.reduceSub,Int.reduceToNat])<;>omega) (hpost) [some (0,none),some (1,none),some (2,none),some (3,none),some (4,none),some (5,none),some (6,none),some (31,none),some (32,none),some (33,none),some (34,none),some (35,none),some (36,none),some (37,none),some (14,none),some (15,none),some (16,none),some (17,none),some (18,none),some (19,none),some (20,none),some (21,none),some (38,none)] (by simp only [go_sem];repeat' first|rfl|constructor|(rw [List.map_set];rfl)|(simp [List.map_take,List.map_drop]<;>omega)) (by rfl) (run_den 400 ?_)
 simp (disch:=omega) only [go_sem,Nat.reduceEqDiff,Nat.reduceAdd,Nat.reduceSub,Int.reduceAdd,Int.reduceSub,Int.reduceToNat]
 refine den_finO [some (0,none),some (1,none),some (2,none),some (3,none),some (4,none),some (5,none),some (6,none),some (7,none),some (8,none),some (9,none),some (10,none),some (11,none),some (12,none),some (13,none),some (14,none),some (15,none),some (16,none),some (17,none),some (18,none),some (19,none),some (20,none),some (21,none),some (0,none),some (1,none),some (2,none),some (3,none),some (4,none),some (5,none),some (6,none),some (31,none),some (32,none),some (33,none),some (34,none),some (35,none),some (36,none),some (37,none),some (39,none),some (40,none),some (41,none),some (42,none),some (43,none),some (44,none),some (45,none)] (by (try simp (disch:=omega) only [go_sem,List.length_set,Nat.reduceEqDiff,Nat.reduceAdd,Nat.reduceSub,Int.reduceAdd,Int.reduceSub,Int.reduceToNat])<;>omega) _ (by simp only [go_sem];rfl) (by rfl) (by rfl) ?_
 simp (disch:=omega) only [go_sem,Nat.reduceEqDiff,Nat.reduceAdd,Nat.reduceSub,Int.reduceAdd,Int.reduceSub,Int.reduceToNat]
theorem impl_acts7_2 (w:WorldD) (pos many:Int) (text:List UInt8) (ad:AddrD) (le:LetterD) (hw:SmallD w) (htx:text.length≤1048576):
  CallA Tryz.prog 18 [.sc (.pt 21 0 0),.ag (ActD.cs ⟨7,2,pos,many,text,ad,le⟩)] (w.hp true++[some ⟨[w.cs 0],61,47,true,false⟩]) (.sc (.int .i64 0))
  ([none,none,none,none,none,none,none,none,none,none,none,none,none,none,none,none,none,none,none,none,none,some ⟨[WorldD.cs (postL 2 { w with b:=(resetE w.b pos).1 } (resetE w.b pos).2) 22],61,47,true,false⟩]++WorldD.hp (postL 2 { w with b:=(resetE w.b pos).1 } (resetE w.b pos).2) true):=by
 have q1:=hw.s.wa
 have q2:=hw.s.wb
 have q3:=hw.s.ra
 have q4:=hw.s.rb
 have hX:=impl_Reset w.b pos hw.p.s.b
 have hsm:=resetE_small (k:=pos) hw.p.s.b
 have hlen:=resetE_len w.b pos
 have hEA:CallA Tryz.prog 38 [.ag (w.cs 0),.sc (.int .i64 2)] (w.hp false) (.ag (w.b.cs 21)) (w.hp false++w.b.hp true):=impl_EndAt w 2 hw.p.s.a.own hw.p.s.a.far hw.p.s.a.subs hw.p.s.a.halfs hw.p.s.a.list hw.p.s.a.done hw.p.s.a.over hw.p.s.b.own hw.p.s.b.far hw.p.s.b.subs hw.p.s.b.halfs hw.p.s.b.list hw.p.s.b.done hw.p.s.b.over
 obtain⟨pr,hpr⟩:∃ p,p=resetE w.b pos:=⟨_,rfl⟩
 rw [←hpr] at hX hsm hlen⊢
 obtain⟨e1,l1⟩:=pr
 dsimp only at hX hsm hlen⊢
 have hset:=impl_set2 w e1
 have hpost:=impl_post2 { w with b:=e1 } l1 ⟨hw.p.s.bag,hw.p.s.past,hw.p.s.keys,hw.p.s.tags,hw.p.s.nums,hw.p.s.ansA,hw.p.s.ansB⟩ (by first|omega|simp)
 have hends:=postL_ends (side:=2) (l:=l1) (w:={ w with b:=e1 })
 obtain⟨R,hR⟩:∃ R,R=postL 2 { w with b:=e1 } l1:=⟨_,rfl⟩
 rw [←hR] at hpost hends⊢
 clear hR
 obtain⟨ra,rb,bag,past,wA,wB,rA,rB,known,nums,nsA,nsB⟩:=R
 obtain⟨keys,tags⟩:=known
 dsimp only at hends
 obtain⟨g1,g2,g3,g4,g5,g6⟩:=hends
 replace g1:=g1.symm
 replace g2:=g2.symm
 replace g3:=g3.symm
 replace g4:=g4.symm
 replace g5:=g5.symm
 replace g6:=g6.symm
 subst g1 g2 g3 g4 g5 g6
 refine callA_ofO Tryz.func18 (by kernel_rfl) rfl fun E hE=>run_den 400 ?_
 simp (disch:=omega) only [Tryz.ntmps18,Tryz.results18,go_sem,Nat.reduceEqDiff,Nat.reduceAdd,Nat.reduceSub,Int.reduceAdd,Int.reduceSub,Int.reduceToNat]
 refine den_drawX [(5,6)] [] [[0,1,2,3,4,5,6,7],[0,1,2,3,4,6,5,7]] 22 hE (fun s=>s.at [13,14,15,16,17,18] [(5,.sc (.pt 30 0 0))] (s.hp++(w.b.hp true++[some ⟨[w.b.cs 23],25,41,true,false⟩]))) (by kernel_rfl) (by (try simp (disch:=omega) only [go_sem,List.length_set,Nat.reduceEqDiff,Nat.reduceAdd,Nat.reduceSub,Int.reduceAdd,Int.reduceSub,Int.reduceToNat])<;>omega) (by kernel_rfl) ?_ (run_den 400 ?_)
 rotate_left
 rotate_right
 simp only [allDn]
 refine⟨runD_den 400 ?_,runD_den 400 ?_⟩
 ·simp (disch:=omega) only [go_sem]
  refine den_callD (by (try simp (disch:=omega) only [go_sem,List.length_set,Nat.reduceEqDiff,Nat.reduceAdd,Nat.reduceSub,Int.reduceAdd,Int.reduceSub,Int.reduceToNat])<;>omega) (hEA) [some (0,none),some (1,none),some (2,none),some (3,none),some (4,none),some (5,none),some (6,none),some (7,none),some (8,none),some (9,none),some (10,none),some (11,none),some (12,none),some (13,none),some (14,none),some (15,none),some (16,none),some (17,none),some (18,none),some (19,none),some (20,none)] (by simp only [go_sem];repeat' first|rfl|constructor|(rw [List.map_set];rfl)|(simp [List.map_take,List.map_drop]<;>omega)) (by rfl) (by rfl) (runD_den 400 ?_)
  simp (disch:=omega) only [go_sem,Nat.reduceEqDiff,Nat.reduceAdd,Nat.reduceSub,Int.reduceAdd,Int.reduceSub,Int.reduceToNat]
  refine⟨by (try simp (disch:=omega) only [go_sem,List.length_set,Nat.reduceEqDiff,Nat.reduceAdd,Nat.reduceSub,Int.reduceAdd,Int.reduceSub,Int.reduceToNat])<;>omega,[some (0,none),some (1,none),some (2,none),some (3,none),some (4,none),some (5,none),some (6,none),some (7,none),some (8,none),some (9,none),some (10,none),some (11,none),some (12,none),some (13,none),some (14,none),some (15,none),some (16,none),some (17,none),some (18,none),some (19,none),some (20,none),some (21,none),some (22,none),some (23,none),some (24,none),some (25,none),some (26,none),some (27,none),some (28,none),some (29,none),some (30,none)],weak_mkO (by rfl) (by rfl) ?_⟩
  try simp (disch:=omega) only [go_sem,Nat.reduceEqDiff,Nat.reduceAdd,Nat.reduceSub,Int.reduceAdd,Int.reduceSub,Int.reduceToNat]
 ·simp (disch:=omega) only [go_sem]
  refine den_callD (by (try simp (disch:=omega) only [go_sem,List.length_set,Nat.reduceEqDiff,Nat.reduceAdd,Nat.reduceSub,Int.reduceAdd,Int.reduceSub,Int.reduceToNat])<;>omega) (hEA) [some (0,none),some (1,none),some (2,none),some (3,none),some (4,none),some (5,none),some (6,none),some (7,none),some (8,none),some (9,none),some (10,none),some (11,none),some (12,none),some (13,none),some (14,none),some (15,none),some (16,none),some (17,none),some (18,none),some (19,none),some (20,none)] (by simp only [go_sem];repeat' first|rfl|constructor|(rw [List.map_set];rfl)|(simp [List.map_take,List.map_drop]<;>omega)) (by rfl) (by rfl) (runD_den 400 ?_)
  simp (disch:=omega) only [go_sem,Nat.reduceEqDiff,Nat.reduceAdd,Nat.reduceSub,Int.reduceAdd,Int.reduceSub,Int.reduceToNat]
  refine⟨by (try simp (disch:=omega) only [go_sem,List.length_set,Nat.reduceEqDiff,Nat.reduceAdd,Nat.reduceSub,Int.reduceAdd,Int.reduceSub,Int.reduceToNat])<;>omega,[some (0,none),some (1,none),some (2,none),some (3,none),some (4,none),some (5,none),some (6,none),some (7,none),some (8,none),some (9,none),some (10,none),some (11,none),some (12,none),some (13,none),some (14,none),some (15,none),some (16,none),some (17,none),some (18,none),some (19,none),some (20,none),some (21,none),some (22,none),some (24,none),some (25,none),some (26,none),some (27,none),some (28,none),some (29,none),some (30,none),some (23,none)],weak_mkO (by rfl) (by rfl) ?_⟩
  try simp (disch:=omega) only [go_sem,Nat.reduceEqDiff,Nat.reduceAdd,Nat.reduceSub,Int.reduceAdd,Int.reduceSub,Int.reduceToNat]
 try simp (disch:=omega) only [go_sem,Nat.reduceEqDiff,Nat.reduceAdd,Nat.reduceSub,Int.reduceAdd,Int.reduceSub,Int.reduceToNat]
 refine den_call (by (try simp (disch:=omega) only [go_sem,List.length_set,Nat.reduceEqDiff,Nat.reduceAdd,Nat.reduceSub,Int.reduceAdd,Int.reduceSub,Int.reduceToNat])<;>omega) (hX) [some (23,none),some (24,none),some (25,none),some (26,none),some (27,none),some (28,none),some (29,none)] (by simp only [go_sem];repeat' first|rfl|constructor|(rw [List.map_set];rfl)|(simp [List.map_take,List.map_drop]<;>omega)) (by rfl) (run_den 400 ?_)
 simp (disch:=omega) only [go_sem,Nat.reduceEqDiff,Nat.reduceAdd,Nat.reduceSub,Int.reduceAdd,Int.reduceSub,Int.reduceToNat]
 refine den_call (by (try simp (disch:=omega) only [go_sem,List.length_set,Nat.reduceEqDiff,Nat.reduceAdd,Nat.reduceSub,Int.reduceAdd,Int.reduceSub,Int.reduceToNat])<;>omega) (hset) [some (0,none),some (1,none),some (2,none),some (3,none),some (4,none),some (5,none),some (6,none),some (7,none),some (8,none),some (9,none),some (10,none),some (11,none),some (12,none),some (13,none),some (14,none),some (15,none),some (16,none),some (17,none),some (18,none),some (19,none),some (20,none),some (31,none),some (32,none),some (33,none),some (34,none),some (35,none),some (36,none),some (37,none),some (21,none)] (by simp only [go_sem];repeat' first|rfl|constructor|(rw [List.map_set];rfl)|(simp [List.map_take,List.map_drop]<;>omega)) (by rfl) (run_den 400 ?_)
 simp (disch:=omega) only [go_sem,Nat.reduceEqDiff,Nat.reduceAdd,Nat.reduceSub,Int.reduceAdd,Int.reduceSub,Int.reduceToNat]
 refine den_call (by (try simp (disch:=omega) only [go_sem,List.length_set,Nat.reduceEqDiff,Nat.reduceAdd,Nat.reduceSub,Int.reduceAdd,Int.reduceSub,Int.reduceToNat])<;>omega) (hpost) [some (0,none),some (1,none),some (2,none),some (3,none),some (4,none),some (5,none),some (6,none),some (31,none),some (32,none),some (33,none),some (34,none),some (35,none),some (36,none),some (37,none),some (14,none),some (15,none),some (16,none),some (17,none),some (18,none),some (19,none),some (20,none),some (21,none),some (38,none)] (by simp only [go_sem];repeat' first|rfl|constructor|(rw [List.map_set];rfl)|(simp [List.map_take,List.map_drop]<;>omega)) (by rfl) (run_den 400 ?_)
 simp (disch:=omega) only [go_sem,Nat.reduceEqDiff,Nat.reduceAdd,Nat.reduceSub,Int.reduceAdd,Int.reduceSub,Int.reduceToNat]
 refine den_finO [some (0,none),some (1,none),some (2,none),some (3,none),some (4,none),some (5,none),some (6,none),some (7,none),some (8,none),some (9,none),some (10,none),some (11,none),some (12,none),some (13,none),some (14,none),some (15,none),some (16,none),some (17,none),some (18,none),some (19,none),some (20,none),some (21,none),some (0,none),some (1,none),some (2,none),some (3,none),some (4,none),some (5,none),some (6,none),some (31,none),some (32,none),some (33,none),some (34,none),some (35,none),some (36,none),some (37,none),some (39,none),some (40,none),some (41,none),some (42,none),some (43,none),some (44,none),some (45,none)] (by (try simp (disch:=omega) only [go_sem,List.length_set,Nat.reduceEqDiff,Nat.reduceAdd,Nat.reduceSub,Int.reduceAdd,Int.reduceSub,Int.reduceToNat])<;>omega) _ (by simp only [go_sem];rfl) (by rfl) (by rfl) ?_
 simp (disch:=omega) only [go_sem,Nat.reduceEqDiff,Nat.reduceAdd,Nat.reduceSub,Int.reduceAdd,Int.reduceSub,Int.reduceToNat]
end
section
open Go.RowKit
end
section
open Go.RowKit
theorem GoodE.io {e e':EndD} (h:GoodE e) (hs:Small e') (hi:e'.inp=e.inp) (ho:e'.out.text=e.out.text):GoodE e':=⟨hs,by rw [hi];exact h.p,by rw [ho];exact h.o⟩
theorem pushN_good {k:Nat} {e:EndD} (h:GoodE e):GoodE (pushN k e).1:=h.io (pushN_small h.s) pushN_inp pushN_text
theorem write_inp (e:EndD) (t:List UInt8):(write e t).1.inp=e.inp:=by rw [write];split<;>rfl
theorem writeAll_good {e:EndD} {t:List UInt8} (h:GoodE e):GoodE (writeAll e t).1:=by
 rw [writeAll]
 exact pushN_good ⟨write_small h.s,by rw [write_inp];exact h.p,write_text h.o⟩
theorem take_small {p:PiecesD} {m:Int} (h:SmallP p):SmallP (takeReady p m).1:=by
 rw [takeReady];split
 ·exact⟨h.list,by have:=h.ready;simp only [List.length_drop];omega,h.texts⟩
 exact h
theorem readE_good {e:EndD} {m:Int} (h:GoodE e):GoodE (readE e m).1:=by
 have hs:=readE_small (m:=m) h.s
 rw [readE] at hs⊢;split at hs
 ·rename_i hk;rw [if_pos hk];exact⟨hs,take_small h.p,h.o⟩
 rename_i hk;rw [if_neg hk];exact h
theorem anew_text (o:OutD):(anew o).text=o.text:=by rw [anew];split<;>rfl
theorem tick_good {e:EndD} (h:GoodE e):GoodE (tick e).1:=by
 have hs:=tick_small h.s
 refine h.io hs ?_ ?_
 ·rw [tick];split
  ·split
   ·rw [tickEnd];exact pushN_inp
   rw [tickEnd];exact pushN_inp
  rfl
 rw [tick];split
 ·split
  ·rw [tickEnd];exact pushN_text.trans (anew_text _)
  rw [tickEnd];exact pushN_text.trans (anew_text _)
 rfl
theorem join_io (e:EndD) (r:RoadD) (b:Bool):(join e r b).1.inp=e.inp∧(join e r b).1.out=e.out:=by rw [join];split<;>exact⟨rfl,rfl⟩
theorem manGo_io {far:List AddrD}:∀ {l:List RoadD} {e:EndD},(manGo far e l).1.inp=e.inp∧(manGo far e l).1.out=e.out
 |[],e=>⟨rfl,rfl⟩
 |r::l,e=>by
  have h1:=join_io e r (spareOf far r.far)
  have h2:=manGo_io (far:=far) (l:=l) (e:=(join e r (spareOf far r.far)).1)
  exact⟨h2.1.trans h1.1,h2.2.trans h1.2⟩
theorem manage_good {e:EndD} (h:GoodE e):GoodE (manage e).1:=by
 have hs:=manage_small h.s
 have hio:(manage e).1.inp=e.inp∧(manage e).1.out=e.out:=by
  rw [manage];split
  ·exact manGo_io
  exact⟨rfl,rfl⟩
 exact h.io hs hio.1 (by rw [hio.2])
theorem addOwn_good {e:EndD} {a:AddrD} (h:GoodE e):GoodE (addOwn e a).1:=by
 refine h.io (addOwn_small h.s) ?_ ?_<;>(rw [addOwn];split<;>rfl)
theorem resetE_good {e:EndD} {k:Int} (h:GoodE e):GoodE (resetE e k).1:=by
 refine h.io (resetE_small h.s) ?_ ?_<;>(rw [resetE];split<;>rfl)
theorem dropOwn_good {e:EndD} {n:Int} (h:GoodE e):GoodE (dropOwn e n).1:=by
 refine h.io (dropOwn_small h.s) ?_ ?_<;>(rw [dropOwn];split<;>rfl)
theorem actE_good {e:EndD} {a:ActD} (h:GoodE e):GoodE (actE e a).1:=by
 rw [actE]
 split
 ·exact writeAll_good h
 split
 ·exact readE_good h
 split
 ·exact tick_good h
 split
 ·exact manage_good h
 split
 ·exact addOwn_good h
 split
 ·exact dropOwn_good h
 exact resetE_good h
structure GoodW (w:WorldD) (k:Nat):Prop where
 a:GoodE w.a
 b:GoodE w.b
 r:SmallP2 w
 wa:w.wroteA.length≤2000000*k
 wb:w.wroteB.length≤2000000*k
 ra:w.readA.length≤2000000*k
 rb:w.readB.length≤2000000*k
theorem GoodW.s {w:WorldD} {k:Nat} (h:GoodW w k):SmallW w:=⟨h.a.s,h.b.s,h.r.bag,h.r.past,h.r.keys,h.r.tags,h.r.nums,h.r.ansA,h.r.ansB⟩
theorem GoodW.d {w:WorldD} {k:Nat} (h:GoodW w k) (hk:k≤1000):SmallD w:=
 ⟨⟨h.s,h.a.p,h.b.p⟩,⟨by have:=h.wa;omega,by have:=h.wb;omega,by have:=h.ra;omega,by have:=h.rb;omega⟩,h.a.o,h.b.o⟩
theorem GoodW.up {w:WorldD} {k:Nat} (h:GoodW w k):GoodW w (k+1):=⟨h.a,h.b,h.r,by have:=h.wa;omega,by have:=h.wb;omega,by have:=h.ra;omega,by have:=h.rb;omega⟩
theorem postL_ends2 {side:Int}:∀ {l:List LetterD} {w:WorldD},(postL side w l).a=w.a∧(postL side w l).b=w.b∧(postL side w l).wroteA=w.wroteA∧(postL side w l).wroteB=w.wroteB∧(postL side w l).readA=w.readA∧(postL side w l).readB=w.readB
 |[],w=>⟨rfl,rfl,rfl,rfl,rfl,rfl⟩
 |x::l,w=>by
  obtain⟨h1,h2,h3,h4,h5,h6⟩:=postL_ends2 (side:=side) (l:=l) (w:=post1 side w x)
  obtain⟨g1,g2,g3,g4,g5,g6⟩:=post1_ends (side:=side) (w:=w) (x:=x)
  exact⟨h1.trans g1,h2.trans g2,h3.trans g3,h4.trans g4,h5.trans g5,h6.trans g6⟩
theorem postL_good {side:Int} {l:List LetterD} {w:WorldD} {k:Nat} (h:GoodW w k):GoodW (postL side w l) k:=by
 obtain⟨h1,h2,h3,h4,h5,h6⟩:=postL_ends2 (side:=side) (l:=l) (w:=w)
 exact⟨by rw [h1];exact h.a,by rw [h2];exact h.b,postL_small h.r,by rw [h3];exact h.wa,by rw [h4];exact h.wb,by rw [h5];exact h.ra,by rw [h6];exact h.rb⟩
theorem setEnd_good {w:WorldD} {s:Int} {e:EndD} {k:Nat} (h:GoodW w k) (he:GoodE e):GoodW (setEnd w s e) k:=by
 unfold setEnd;split
 ·exact⟨he,h.b,⟨h.r.bag,h.r.past,h.r.keys,h.r.tags,h.r.nums,h.r.ansA,h.r.ansB⟩,h.wa,h.wb,h.ra,h.rb⟩
 exact⟨h.a,he,⟨h.r.bag,h.r.past,h.r.keys,h.r.tags,h.r.nums,h.r.ansA,h.r.ansB⟩,h.wa,h.wb,h.ra,h.rb⟩
theorem endZero_good:GoodE endZero:=⟨⟨by decide,by decide,by decide,by decide,by decide,by decide,by decide⟩,⟨by decide,by decide,fun x hx=>by simp [endZero] at hx⟩,by decide⟩
theorem endAt_good {w:WorldD} {s:Int} {k:Nat} (h:GoodW w k):GoodE (endAt w s):=by
 unfold endAt;repeat' split
 ·exact h.a
 ·exact h.b
 exact endZero_good
theorem posted_good {side:Int} {l:List LetterD} {w:WorldD} {k:Nat} (h:GoodW w k):GoodW (posted w side l) k:=by
 rw [posted];split
 ·exact postL_good h
 exact h
theorem lands_good {w:WorldD} {x:LetterD} {k:Nat} (h:GoodW w k):GoodW (lands w x) k:=by
 rw [lands];split
 ·exact h
 exact posted_good (setEnd_good h (hear_good (endAt_good h)))
theorem bag_good {w:WorldD} {b:List LetterD} {k:Nat} (h:GoodW w k) (hb:b.length≤1048576):GoodW { w with bag:=b } k:=
 ⟨h.a,h.b,⟨hb,h.r.past,h.r.keys,h.r.tags,h.r.nums,h.r.ansA,h.r.ansB⟩,h.wa,h.wb,h.ra,h.rb⟩
theorem bagOut_le2 (l:List LetterD) (n:Int) (h:l.length≤1048576):(bagOut l n).length≤1048576:=by
 simp only [bagOut,List.length_append,List.length_take,List.length_drop];omega
theorem actW_good {w:WorldD} {a:ActD} {k:Nat} (h:GoodW w k) (ha:a.text.length≤1048576):GoodW (actW w a) (k+1):=by
 have hr:=readE_len (m:=a.many) (endAt_good (s:=a.side) h).p
 have h1:=h.wa
 have h2:=h.wb
 have h3:=h.ra
 have h4:=h.rb
 have hu:=h.up
 unfold actW wrote gotRead;repeat' split
 ·exact⟨h.a,h.b,⟨h.r.bag,h.r.past,h.r.keys,h.r.tags,h.r.nums,h.r.ansA,h.r.ansB⟩,by simp only [List.length_append,List.length_take];omega,hu.wb,hu.ra,hu.rb⟩
 ·exact⟨h.a,h.b,⟨h.r.bag,h.r.past,h.r.keys,h.r.tags,h.r.nums,h.r.ansA,h.r.ansB⟩,hu.wa,by simp only [List.length_append,List.length_take];omega,hu.ra,hu.rb⟩
 ·exact⟨h.a,h.b,⟨h.r.bag,h.r.past,h.r.keys,h.r.tags,h.r.nums,h.r.ansA,h.r.ansB⟩,hu.wa,hu.wb,by simp only [List.length_append];omega,hu.rb⟩
 ·exact⟨h.a,h.b,⟨h.r.bag,h.r.past,h.r.keys,h.r.tags,h.r.nums,h.r.ansA,h.r.ansB⟩,hu.wa,hu.wb,hu.ra,by simp only [List.length_append];omega⟩
 exact hu
theorem doneW_good {w:WorldD} {a:ActD} {k:Nat} (h:GoodW w k) (ha:a.text.length≤1048576):GoodW (doneW w a).1 (k+1):=by
 have hb:=bagOut_le2 w.bag a.pos h.r.bag
 have hl:=h.r.bag
 unfold doneW;split
 ·split
  ·unfold acts;split
   ·exact h.up
   exact postL_good (setEnd_good (actW_good h ha) (actE_good (endAt_good h)))
  unfold moves;repeat' split
  all_goals first
   |exact h.up
   |exact (lands_good (bag_good h hb)).up
   |exact (bag_good h hb).up
   |exact (bag_good h (by simp only [List.length_append,List.length_singleton];omega)).up
 exact h.up
end
section
open Go.RowKit
def FewE (e:EndD):Prop:=e.subs.length≤100∧e.far.length≤100
def FewW (w:WorldD):Prop:=FewE w.a∧FewE w.b
end
section
open Go.RowKit
theorem leAt_get {l:List LetterD} {p:Nat} (h:p < l.length):leAtN l (Int.toNat (p:Int))=l[p]:=by simp [leAtN,h]
theorem bagOut_eq (l:List LetterD) (p:Nat):bagOut l (p:Int)=l.take p++l.drop (p+1):=rfl
theorem bagOut_len {l:List LetterD} {p:Nat} (h:p < l.length):(bagOut l (p:Int)).length=l.length - 1:=by
 rw [bagOut_eq,List.length_append,List.length_take,List.length_drop];omega
theorem mv8_f {w:WorldD} {s m:Int} {p:Nat} {t:List UInt8} {ad:AddrD} {le:LetterD} (h:¬ p < w.bag.length):moves w ⟨8,s,(p:Nat),m,t,ad,le⟩=(w,1):=by
 unfold moves;dsimp only;rw [if_pos (.inl rfl),if_pos (by omega)]
theorem mv8_t {w:WorldD} {s m:Int} {p:Nat} {t:List UInt8} {ad:AddrD} {le:LetterD} (h:p < w.bag.length):moves w ⟨8,s,(p:Nat),m,t,ad,le⟩=(lands { w with bag:=bagOut w.bag (p:Nat) } w.bag[p],0):=by
 unfold moves;dsimp only;rw [if_pos (.inl rfl),if_neg (by omega),if_pos rfl,leAt_get h]
theorem mv9_f {w:WorldD} {s m:Int} {p:Nat} {t:List UInt8} {ad:AddrD} {le:LetterD} (h:¬ p < w.bag.length):moves w ⟨9,s,(p:Nat),m,t,ad,le⟩=(w,1):=by
 unfold moves;dsimp only;rw [if_pos (.inr rfl),if_pos (by omega)]
theorem mv9_t {w:WorldD} {s m:Int} {p:Nat} {t:List UInt8} {ad:AddrD} {le:LetterD} (h:p < w.bag.length):moves w ⟨9,s,(p:Nat),m,t,ad,le⟩=({ w with bag:=bagOut w.bag (p:Nat) },0):=by
 unfold moves;dsimp only;rw [if_pos (.inr rfl),if_neg (by omega),if_neg (by omega)]
theorem mv10_f {w:WorldD} {s m:Int} {p:Nat} {t:List UInt8} {ad:AddrD} {le:LetterD} (h:¬ p < w.bag.length∨40≤w.bag.length):moves w ⟨10,s,(p:Nat),m,t,ad,le⟩=(w,1):=by
 unfold moves;dsimp only;rw [if_neg (by omega),if_pos rfl,if_pos (by omega)]
theorem mv10_t {w:WorldD} {s m:Int} {p:Nat} {t:List UInt8} {ad:AddrD} {le:LetterD} (h:p < w.bag.length) (h2:¬ 40≤w.bag.length):moves w ⟨10,s,(p:Nat),m,t,ad,le⟩=({ w with bag:=w.bag++[w.bag[p]] },0):=by
 unfold moves;dsimp only;rw [if_neg (by omega),if_pos rfl,if_neg (by omega),leAt_get h]
theorem mv11_f {w:WorldD} {s m p:Int} {t:List UInt8} {ad:AddrD} {le:LetterD} (h:mayInject w le=false):moves w ⟨11,s,p,m,t,ad,le⟩=(w,2):=by
 unfold moves;dsimp only;rw [if_neg (by omega),if_neg (by omega),if_pos rfl,if_pos h]
theorem mv11_b {w:WorldD} {s m p:Int} {t:List UInt8} {ad:AddrD} {le:LetterD} (h:mayInject w le=true) (h2:40≤w.bag.length):moves w ⟨11,s,p,m,t,ad,le⟩=(w,1):=by
 unfold moves;dsimp only;rw [if_neg (by omega),if_neg (by omega),if_pos rfl,if_neg (by simp [h]),if_pos h2]
theorem mv11_t {w:WorldD} {s m p:Int} {t:List UInt8} {ad:AddrD} {le:LetterD} (h:mayInject w le=true) (h2:¬ 40≤w.bag.length):moves w ⟨11,s,p,m,t,ad,le⟩=({ w with bag:=w.bag++[le] },0):=by
 unfold moves;dsimp only;rw [if_neg (by omega),if_neg (by omega),if_pos rfl,if_neg (by simp [h]),if_neg h2]
theorem mv12_f {w:WorldD} {s m:Int} {p:Nat} {t:List UInt8} {ad:AddrD} {le:LetterD} (h:¬ p < w.past.length):moves w ⟨12,s,(p:Nat),m,t,ad,le⟩=(w,1):=by
 unfold moves;dsimp only;rw [if_neg (by omega),if_neg (by omega),if_neg (by omega),if_pos (.inl (by omega))]
theorem mv12_b {w:WorldD} {s m:Int} {p:Nat} {t:List UInt8} {ad:AddrD} {le:LetterD} (h:p < w.past.length) (h2:sideAt w.past[p].to=0∨40≤w.bag.length):moves w ⟨12,s,(p:Nat),m,t,ad,le⟩=(w,1):=by
 unfold moves;dsimp only;rw [if_neg (by omega),if_neg (by omega),if_neg (by omega),leAt_get h,if_pos (.inr h2)]
theorem mv12_t {w:WorldD} {s m:Int} {p:Nat} {t:List UInt8} {ad:AddrD} {le:LetterD} (h:p < w.past.length) (h1:¬ sideAt w.past[p].to=0) (h2:¬ 40≤w.bag.length):moves w ⟨12,s,(p:Nat),m,t,ad,le⟩=({ w with bag:=w.bag++[w.past[p]] },0):=by
 unfold moves;dsimp only;rw [if_neg (by omega),if_neg (by omega),if_neg (by omega),leAt_get h,if_neg (by omega)]
theorem impl_moves8 (w:WorldD) (side many:Int) (p:Nat) (text:List UInt8) (ad:AddrD) (le:LetterD) (hw:SmallD w):
  CallA Tryz.prog 19 [.sc (.pt 21 0 0),.ag (ActD.cs ⟨8,side,(p:Nat),many,text,ad,le⟩)] (w.hp true++[some ⟨[w.cs 0],61,47,true,false⟩]) (.sc (.int .i64 (moves w ⟨8,side,(p:Nat),many,text,ad,le⟩).2))
  ([none,none,none,none,none,none,none,none,none,none,none,none,none,none,none,none,none,none,none,none,none,some ⟨[WorldD.cs (moves w ⟨8,side,(p:Nat),many,text,ad,le⟩).1 22],61,47,true,false⟩]++WorldD.hp (moves w ⟨8,side,(p:Nat),many,text,ad,le⟩).1 true):=by
 have hbag:=hw.p.s.bag
 have hpast:=hw.p.s.past
 obtain⟨R,hR⟩:∃ R,R=moves w ⟨8,side,(p:Nat),many,text,ad,le⟩:=⟨_,rfl⟩
 rw [←hR]
 by_cases hp:p < w.bag.length
 ·rw [mv8_t hp] at hR
  obtain⟨B,hBe⟩:∃ B,B=bagOut w.bag (p:Nat):=⟨_,rfl⟩
  have e2:p+(w.bag.length - (p+1))=B.length:=by rw [hBe,bagOut_len hp];omega
  have e1:(w.bag.take p).map LetterD.cs++((w.bag.map LetterD.cs).drop (p+1)).take (w.bag.length - (p+1))=B.map LetterD.cs:=by rw [hBe];exact (del_cells hp).2
  have hB:B.length≤1048576:=by omega
  have hlt:(w.bag.take p).length=p:=by simp;omega
  have hlt2:(List.take p (List.map LetterD.cs w.bag)).length=p:=by simp;omega
  have hC:=impl_copyLetters (w.bag.take p) (by omega)
  rw [hlt] at hC
  have hx:=map_get (enc:=LetterD.cs) hp
  rw [←hBe] at hR
  clear hBe
  generalize hxx:w.bag[p]=x at*
  have hL:=impl_Lands { w with bag:=B } x ⟨⟨hw.p.s.a,hw.p.s.b,hB,hw.p.s.past,hw.p.s.keys,hw.p.s.tags,hw.p.s.nums,hw.p.s.ansA,hw.p.s.ansB⟩,hw.p.pa,hw.p.pb⟩
  obtain⟨L,hLe⟩:∃ L,L=lands { w with bag:=B } x:=⟨_,rfl⟩
  rw [←hLe] at hL hR
  clear hLe
  subst hR
  dsimp only
  refine callA_ofO Tryz.func19 (by kernel_rfl) rfl fun E hE=>run_den 400 ?_
  simp (disch:=omega) only [Tryz.ntmps19,Tryz.results19,go_sem,Nat.reduceEqDiff,Nat.reduceAdd,Nat.reduceSub,Int.reduceAdd,Int.reduceSub,Int.reduceToNat]
  refine den_draw1 [0,1,2,3,4,5,6,7,8] (by kernel_rfl) (by (try simp (disch:=omega) only [go_sem,List.length_set,Nat.reduceEqDiff,Nat.reduceAdd,Nat.reduceSub,Int.reduceAdd,Int.reduceSub,Int.reduceToNat])<;>omega) (by kernel_rfl) (runD_den 400 ?_)
  simp (disch:=omega) only [go_sem,Nat.reduceEqDiff,Nat.reduceAdd,Nat.reduceSub,Int.reduceAdd,Int.reduceSub,Int.reduceToNat]
  refine⟨by (try simp (disch:=omega) only [go_sem,List.length_set,Nat.reduceEqDiff,Nat.reduceAdd,Nat.reduceSub,Int.reduceAdd,Int.reduceSub,Int.reduceToNat])<;>omega,run_den 400 ?_⟩
  try simp (disch:=omega) only [go_sem,Nat.reduceEqDiff,Nat.reduceAdd,Nat.reduceSub,Int.reduceAdd,Int.reduceSub,Int.reduceToNat]
  refine den_draw1 [0,1,2,3,4,5,6,7,8,9] (by kernel_rfl) (by (try simp (disch:=omega) only [go_sem,List.length_set,Nat.reduceEqDiff,Nat.reduceAdd,Nat.reduceSub,Int.reduceAdd,Int.reduceSub,Int.reduceToNat])<;>omega) (by kernel_rfl) (runD_den 400 ?_)
  simp (disch:=omega) only [go_sem,Nat.reduceEqDiff,Nat.reduceAdd,Nat.reduceSub,Int.reduceAdd,Int.reduceSub,Int.reduceToNat]
  refine⟨by (try simp (disch:=omega) only [go_sem,List.length_set,Nat.reduceEqDiff,Nat.reduceAdd,Nat.reduceSub,Int.reduceAdd,Int.reduceSub,Int.reduceToNat])<;>omega,run_den 400 ?_⟩
  try simp (disch:=omega) only [go_sem,Nat.reduceEqDiff,Nat.reduceAdd,Nat.reduceSub,Int.reduceAdd,Int.reduceSub,Int.reduceToNat,hx,hxx]
  refine den_draw1 [0,1,2,3,4,5,6,7,9,10,11,12,13,14,15,16,8,17,18,19,20] (by kernel_rfl) (by (try simp (disch:=omega) only [go_sem,List.length_set,Nat.reduceEqDiff,Nat.reduceAdd,Nat.reduceSub,Int.reduceAdd,Int.reduceSub,Int.reduceToNat])<;>omega) (by kernel_rfl) (runD_den 400 ?_)
  simp (disch:=omega) only [go_sem,Nat.reduceEqDiff,Nat.reduceAdd,Nat.reduceSub,Int.reduceAdd,Int.reduceSub,Int.reduceToNat]
  refine den_callD (by (try simp (disch:=omega) only [go_sem,List.length_set,Nat.reduceEqDiff,Nat.reduceAdd,Nat.reduceSub,Int.reduceAdd,Int.reduceSub,Int.reduceToNat])<;>omega) (hC) [some (14,some 0)] (by simp only [go_sem];repeat' first|rfl|constructor|(rw [List.map_set];rfl)|(simp [List.map_take,List.map_drop]<;>omega)) (by rfl) (by rfl) (runD_den 400 ?_)
  simp (disch:=omega) only [go_sem,Nat.reduceEqDiff,Nat.reduceAdd,Nat.reduceSub,Int.reduceAdd,Int.reduceSub,Int.reduceToNat]
  refine⟨by (try simp (disch:=omega) only [go_sem,List.length_set,Nat.reduceEqDiff,Nat.reduceAdd,Nat.reduceSub,Int.reduceAdd,Int.reduceSub,Int.reduceToNat])<;>omega,run_den 400 ?_⟩
  try simp (disch:=omega) only [go_sem,Nat.reduceEqDiff,Nat.reduceAdd,Nat.reduceSub,Int.reduceAdd,Int.reduceSub,Int.reduceToNat,e1,e2]
  refine den_draw1 [0,1,2,3,4,5,6,7] (by kernel_rfl) (by (try simp (disch:=omega) only [go_sem,List.length_set,Nat.reduceEqDiff,Nat.reduceAdd,Nat.reduceSub,Int.reduceAdd,Int.reduceSub,Int.reduceToNat])<;>omega) (by kernel_rfl) (runD_den 400 ?_)
  simp (disch:=omega) only [go_sem,Nat.reduceEqDiff,Nat.reduceAdd,Nat.reduceSub,Int.reduceAdd,Int.reduceSub,Int.reduceToNat]
  refine den_callD (by (try simp (disch:=omega) only [go_sem,List.length_set,Nat.reduceEqDiff,Nat.reduceAdd,Nat.reduceSub,Int.reduceAdd,Int.reduceSub,Int.reduceToNat])<;>omega) (hL) [some (0,none),some (1,none),some (2,none),some (3,none),some (4,none),some (5,none),some (6,none),some (7,none),some (8,none),some (9,none),some (10,none),some (11,none),some (12,none),some (13,none),some (25,none),some (15,none),some (16,none),some (17,none),some (18,none),some (19,none),some (20,none)] (by simp only [go_sem];repeat' first|rfl|constructor|(rw [List.map_set];rfl)|(simp [List.map_take,List.map_drop]<;>omega)) (by rfl) (by rfl) (runD_den 400 ?_)
  simp (disch:=omega) only [go_sem,Nat.reduceEqDiff,Nat.reduceAdd,Nat.reduceSub,Int.reduceAdd,Int.reduceSub,Int.reduceToNat]
  refine⟨by (try simp (disch:=omega) only [go_sem,List.length_set,Nat.reduceEqDiff,Nat.reduceAdd,Nat.reduceSub,Int.reduceAdd,Int.reduceSub,Int.reduceToNat])<;>omega,run_den 400 ?_⟩
  try simp (disch:=omega) only [go_sem,Nat.reduceEqDiff,Nat.reduceAdd,Nat.reduceSub,Int.reduceAdd,Int.reduceSub,Int.reduceToNat]
  refine den_finO [some (0,none),some (1,none),some (2,none),some (3,none),some (4,none),some (5,none),some (6,none),some (7,none),some (8,none),some (9,none),some (10,none),some (11,none),some (12,none),some (13,none),some (14,none),some (15,none),some (16,none),some (17,none),some (18,none),some (19,none),some (20,none),some (21,none),some (26,none),some (27,none),some (28,none),some (29,none),some (30,none),some (31,none),some (32,none),some (33,none),some (34,none),some (35,none),some (36,none),some (37,none),some (38,none),some (39,none),some (40,none),some (41,none),some (42,none),some (43,none),some (44,none),some (45,none),some (46,none)] (by (try simp (disch:=omega) only [go_sem,List.length_set,Nat.reduceEqDiff,Nat.reduceAdd,Nat.reduceSub,Int.reduceAdd,Int.reduceSub,Int.reduceToNat])<;>omega) _ (by simp only [go_sem];rfl) (by rfl) (by rfl) ?_
  simp (disch:=omega) only [go_sem,Nat.reduceEqDiff,Nat.reduceAdd,Nat.reduceSub,Int.reduceAdd,Int.reduceSub,Int.reduceToNat]
 rw [mv8_f hp] at hR
 subst hR
 dsimp only
 refine callA_ofO Tryz.func19 (by kernel_rfl) rfl fun E hE=>run_den 400 ?_
 simp (disch:=omega) only [Tryz.ntmps19,Tryz.results19,go_sem,Nat.reduceEqDiff,Nat.reduceAdd,Nat.reduceSub,Int.reduceAdd,Int.reduceSub,Int.reduceToNat]
 refine den_draw1 [0,1,2,3,4,5,6,7,8] (by kernel_rfl) (by (try simp (disch:=omega) only [go_sem,List.length_set,Nat.reduceEqDiff,Nat.reduceAdd,Nat.reduceSub,Int.reduceAdd,Int.reduceSub,Int.reduceToNat])<;>omega) (by kernel_rfl) (runD_den 400 ?_)
 simp (disch:=omega) only [go_sem,Nat.reduceEqDiff,Nat.reduceAdd,Nat.reduceSub,Int.reduceAdd,Int.reduceSub,Int.reduceToNat]
 refine⟨by (try simp (disch:=omega) only [go_sem,List.length_set,Nat.reduceEqDiff,Nat.reduceAdd,Nat.reduceSub,Int.reduceAdd,Int.reduceSub,Int.reduceToNat])<;>omega,run_den 400 ?_⟩
 try simp (disch:=omega) only [go_sem,Nat.reduceEqDiff,Nat.reduceAdd,Nat.reduceSub,Int.reduceAdd,Int.reduceSub,Int.reduceToNat]
 refine den_finO [some (0,none),some (1,none),some (2,none),some (3,none),some (4,none),some (5,none),some (6,none),some (7,none),some (8,none),some (9,none),some (10,none),some (11,none),some (12,none),some (13,none),some (14,none),some (15,none),some (16,none),some (17,none),some (18,none),some (19,none),some (20,none),some (21,none),some (0,none),some (1,none),some (2,none),some (3,none),some (4,none),some (5,none),some (6,none),some (7,none),some (8,none),some (9,none),some (10,none),some (11,none),some (12,none),some (13,none),some (14,none),some (15,none),some (16,none),some (17,none),some (18,none),some (19,none),some (20,none)] (by (try simp (disch:=omega) only [go_sem,List.length_set,Nat.reduceEqDiff,Nat.reduceAdd,Nat.reduceSub,Int.reduceAdd,Int.reduceSub,Int.reduceToNat])<;>omega) _ (by simp only [go_sem];rfl) (by rfl) (by rfl) ?_
 simp (disch:=omega) only [go_sem,Nat.reduceEqDiff,Nat.reduceAdd,Nat.reduceSub,Int.reduceAdd,Int.reduceSub,Int.reduceToNat]
theorem impl_moves9 (w:WorldD) (side many:Int) (p:Nat) (text:List UInt8) (ad:AddrD) (le:LetterD) (hw:SmallD w):
  CallA Tryz.prog 19 [.sc (.pt 21 0 0),.ag (ActD.cs ⟨9,side,(p:Nat),many,text,ad,le⟩)] (w.hp true++[some ⟨[w.cs 0],61,47,true,false⟩]) (.sc (.int .i64 (moves w ⟨9,side,(p:Nat),many,text,ad,le⟩).2))
  ([none,none,none,none,none,none,none,none,none,none,none,none,none,none,none,none,none,none,none,none,none,some ⟨[WorldD.cs (moves w ⟨9,side,(p:Nat),many,text,ad,le⟩).1 22],61,47,true,false⟩]++WorldD.hp (moves w ⟨9,side,(p:Nat),many,text,ad,le⟩).1 true):=by
 have hbag:=hw.p.s.bag
 have hpast:=hw.p.s.past
 obtain⟨R,hR⟩:∃ R,R=moves w ⟨9,side,(p:Nat),many,text,ad,le⟩:=⟨_,rfl⟩
 rw [←hR]
 by_cases hp:p < w.bag.length
 ·rw [mv9_t hp] at hR
  obtain⟨B,hBe⟩:∃ B,B=bagOut w.bag (p:Nat):=⟨_,rfl⟩
  have e2:p+(w.bag.length - (p+1))=B.length:=by rw [hBe,bagOut_len hp];omega
  have e1:(w.bag.take p).map LetterD.cs++((w.bag.map LetterD.cs).drop (p+1)).take (w.bag.length - (p+1))=B.map LetterD.cs:=by rw [hBe];exact (del_cells hp).2
  have hB:B.length≤1048576:=by omega
  have hlt:(w.bag.take p).length=p:=by simp;omega
  have hlt2:(List.take p (List.map LetterD.cs w.bag)).length=p:=by simp;omega
  have hC:=impl_copyLetters (w.bag.take p) (by omega)
  rw [hlt] at hC
  have hx:=map_get (enc:=LetterD.cs) hp
  rw [←hBe] at hR
  clear hBe
  generalize hxx:w.bag[p]=x at*
  subst hR
  dsimp only
  refine callA_ofO Tryz.func19 (by kernel_rfl) rfl fun E hE=>run_den 400 ?_
  simp (disch:=omega) only [Tryz.ntmps19,Tryz.results19,go_sem,Nat.reduceEqDiff,Nat.reduceAdd,Nat.reduceSub,Int.reduceAdd,Int.reduceSub,Int.reduceToNat]
  refine den_draw1 [0,1,2,3,4,5,6,7,8] (by kernel_rfl) (by (try simp (disch:=omega) only [go_sem,List.length_set,Nat.reduceEqDiff,Nat.reduceAdd,Nat.reduceSub,Int.reduceAdd,Int.reduceSub,Int.reduceToNat])<;>omega) (by kernel_rfl) (runD_den 400 ?_)
  simp (disch:=omega) only [go_sem,Nat.reduceEqDiff,Nat.reduceAdd,Nat.reduceSub,Int.reduceAdd,Int.reduceSub,Int.reduceToNat]
  refine⟨by (try simp (disch:=omega) only [go_sem,List.length_set,Nat.reduceEqDiff,Nat.reduceAdd,Nat.reduceSub,Int.reduceAdd,Int.reduceSub,Int.reduceToNat])<;>omega,run_den 400 ?_⟩
  try simp (disch:=omega) only [go_sem,Nat.reduceEqDiff,Nat.reduceAdd,Nat.reduceSub,Int.reduceAdd,Int.reduceSub,Int.reduceToNat]
  refine den_draw1 [0,1,2,3,4,5,6,7,8,9] (by kernel_rfl) (by (try simp (disch:=omega) only [go_sem,List.length_set,Nat.reduceEqDiff,Nat.reduceAdd,Nat.reduceSub,Int.reduceAdd,Int.reduceSub,Int.reduceToNat])<;>omega) (by kernel_rfl) (runD_den 400 ?_)
  simp (disch:=omega) only [go_sem,Nat.reduceEqDiff,Nat.reduceAdd,Nat.reduceSub,Int.reduceAdd,Int.reduceSub,Int.reduceToNat]
  refine⟨by (try simp (disch:=omega) only [go_sem,List.length_set,Nat.reduceEqDiff,Nat.reduceAdd,Nat.reduceSub,Int.reduceAdd,Int.reduceSub,Int.reduceToNat])<;>omega,run_den 400 ?_⟩
  try simp (disch:=omega) only [go_sem,Nat.reduceEqDiff,Nat.reduceAdd,Nat.reduceSub,Int.reduceAdd,Int.reduceSub,Int.reduceToNat,hx,hxx]
  refine den_draw1 [0,1,2,3,4,5,6,7,9,10,11,12,13,14,15,16,8,17,18,19,20] (by kernel_rfl) (by (try simp (disch:=omega) only [go_sem,List.length_set,Nat.reduceEqDiff,Nat.reduceAdd,Nat.reduceSub,Int.reduceAdd,Int.reduceSub,Int.reduceToNat])<;>omega) (by kernel_rfl) (runD_den 400 ?_)
  simp (disch:=omega) only [go_sem,Nat.reduceEqDiff,Nat.reduceAdd,Nat.reduceSub,Int.reduceAdd,Int.reduceSub,Int.reduceToNat]
  refine den_callD (by (try simp (disch:=omega) only [go_sem,List.length_set,Nat.reduceEqDiff,Nat.reduceAdd,Nat.reduceSub,Int.reduceAdd,Int.reduceSub,Int.reduceToNat])<;>omega) (hC) [some (14,some 0)] (by simp only [go_sem];repeat' first|rfl|constructor|(rw [List.map_set];rfl)|(simp [List.map_take,List.map_drop]<;>omega)) (by rfl) (by rfl) (runD_den 400 ?_)
  simp (disch:=omega) only [go_sem,Nat.reduceEqDiff,Nat.reduceAdd,Nat.reduceSub,Int.reduceAdd,Int.reduceSub,Int.reduceToNat]
  refine⟨by (try simp (disch:=omega) only [go_sem,List.length_set,Nat.reduceEqDiff,Nat.reduceAdd,Nat.reduceSub,Int.reduceAdd,Int.reduceSub,Int.reduceToNat])<;>omega,run_den 400 ?_⟩
  try simp (disch:=omega) only [go_sem,Nat.reduceEqDiff,Nat.reduceAdd,Nat.reduceSub,Int.reduceAdd,Int.reduceSub,Int.reduceToNat,e1,e2]
  refine den_finO [some (0,none),some (1,none),some (2,none),some (3,none),some (4,none),some (5,none),some (6,none),some (7,none),some (8,none),some (9,none),some (10,none),some (11,none),some (12,none),some (13,none),some (14,none),some (15,none),some (16,none),some (17,none),some (18,none),some (19,none),some (20,none),some (21,none),some (0,none),some (1,none),some (2,none),some (3,none),some (4,none),some (5,none),some (6,none),some (7,none),some (8,none),some (9,none),some (10,none),some (11,none),some (12,none),some (13,none),some (25,none),some (15,none),some (16,none),some (17,none),some (18,none),some (19,none),some (20,none)] (by (try simp (disch:=omega) only [go_sem,List.length_set,Nat.reduceEqDiff,Nat.reduceAdd,Nat.reduceSub,Int.reduceAdd,Int.reduceSub,Int.reduceToNat])<;>omega) _ (by simp only [go_sem];rfl) (by rfl) (by rfl) ?_
  simp (disch:=omega) only [go_sem,Nat.reduceEqDiff,Nat.reduceAdd,Nat.reduceSub,Int.reduceAdd,Int.reduceSub,Int.reduceToNat]
 rw [mv9_f hp] at hR
 subst hR
 dsimp only
 refine callA_ofO Tryz.func19 (by kernel_rfl) rfl fun E hE=>run_den 400 ?_
 simp (disch:=omega) only [Tryz.ntmps19,Tryz.results19,go_sem,Nat.reduceEqDiff,Nat.reduceAdd,Nat.reduceSub,Int.reduceAdd,Int.reduceSub,Int.reduceToNat]
 refine den_draw1 [0,1,2,3,4,5,6,7,8] (by kernel_rfl) (by (try simp (disch:=omega) only [go_sem,List.length_set,Nat.reduceEqDiff,Nat.reduceAdd,Nat.reduceSub,Int.reduceAdd,Int.reduceSub,Int.reduceToNat])<;>omega) (by kernel_rfl) (runD_den 400 ?_)
 simp (disch:=omega) only [go_sem,Nat.reduceEqDiff,Nat.reduceAdd,Nat.reduceSub,Int.reduceAdd,Int.reduceSub,Int.reduceToNat]
 refine⟨by (try simp (disch:=omega) only [go_sem,List.length_set,Nat.reduceEqDiff,Nat.reduceAdd,Nat.reduceSub,Int.reduceAdd,Int.reduceSub,Int.reduceToNat])<;>omega,run_den 400 ?_⟩
 try simp (disch:=omega) only [go_sem,Nat.reduceEqDiff,Nat.reduceAdd,Nat.reduceSub,Int.reduceAdd,Int.reduceSub,Int.reduceToNat]
 refine den_finO [some (0,none),some (1,none),some (2,none),some (3,none),some (4,none),some (5,none),some (6,none),some (7,none),some (8,none),some (9,none),some (10,none),some (11,none),some (12,none),some (13,none),some (14,none),some (15,none),some (16,none),some (17,none),some (18,none),some (19,none),some (20,none),some (21,none),some (0,none),some (1,none),some (2,none),some (3,none),some (4,none),some (5,none),some (6,none),some (7,none),some (8,none),some (9,none),some (10,none),some (11,none),some (12,none),some (13,none),some (14,none),some (15,none),some (16,none),some (17,none),some (18,none),some (19,none),some (20,none)] (by (try simp (disch:=omega) only [go_sem,List.length_set,Nat.reduceEqDiff,Nat.reduceAdd,Nat.reduceSub,Int.reduceAdd,Int.reduceSub,Int.reduceToNat])<;>omega) _ (by simp only [go_sem];rfl) (by rfl) (by rfl) ?_
 simp (disch:=omega) only [go_sem,Nat.reduceEqDiff,Nat.reduceAdd,Nat.reduceSub,Int.reduceAdd,Int.reduceSub,Int.reduceToNat]
theorem impl_moves10 (w:WorldD) (side many:Int) (p:Nat) (text:List UInt8) (ad:AddrD) (le:LetterD) (hw:SmallD w):
  CallA Tryz.prog 19 [.sc (.pt 21 0 0),.ag (ActD.cs ⟨10,side,(p:Nat),many,text,ad,le⟩)] (w.hp true++[some ⟨[w.cs 0],61,47,true,false⟩]) (.sc (.int .i64 (moves w ⟨10,side,(p:Nat),many,text,ad,le⟩).2))
  ([none,none,none,none,none,none,none,none,none,none,none,none,none,none,none,none,none,none,none,none,none,some ⟨[WorldD.cs (moves w ⟨10,side,(p:Nat),many,text,ad,le⟩).1 22],61,47,true,false⟩]++WorldD.hp (moves w ⟨10,side,(p:Nat),many,text,ad,le⟩).1 true):=by
 have hbag:=hw.p.s.bag
 have hpast:=hw.p.s.past
 obtain⟨R,hR⟩:∃ R,R=moves w ⟨10,side,(p:Nat),many,text,ad,le⟩:=⟨_,rfl⟩
 rw [←hR]
 by_cases hp:p < w.bag.length∧¬ 40≤w.bag.length
 ·obtain⟨hp,h4⟩:=hp
  rw [mv10_t hp h4] at hR
  have hx:=map_get (enc:=LetterD.cs) hp
  generalize hxx:w.bag[p]=x at*
  subst hR
  dsimp only
  refine callA_ofO Tryz.func19 (by kernel_rfl) rfl fun E hE=>run_den 400 ?_
  simp (disch:=omega) only [Tryz.ntmps19,Tryz.results19,go_sem,Nat.reduceEqDiff,Nat.reduceAdd,Nat.reduceSub,Int.reduceAdd,Int.reduceSub,Int.reduceToNat]
  refine den_draw1 [0,1,2,3,4,5,6,7,8] (by kernel_rfl) (by (try simp (disch:=omega) only [go_sem,List.length_set,Nat.reduceEqDiff,Nat.reduceAdd,Nat.reduceSub,Int.reduceAdd,Int.reduceSub,Int.reduceToNat])<;>omega) (by kernel_rfl) (runD_den 400 ?_)
  simp (disch:=omega) only [go_sem,Nat.reduceEqDiff,Nat.reduceAdd,Nat.reduceSub,Int.reduceAdd,Int.reduceSub,Int.reduceToNat]
  refine⟨by (try simp (disch:=omega) only [go_sem,List.length_set,Nat.reduceEqDiff,Nat.reduceAdd,Nat.reduceSub,Int.reduceAdd,Int.reduceSub,Int.reduceToNat])<;>omega,run_den 400 ?_⟩
  try simp (disch:=omega) only [go_sem,Nat.reduceEqDiff,Nat.reduceAdd,Nat.reduceSub,Int.reduceAdd,Int.reduceSub,Int.reduceToNat]
  refine den_draw1 [0,1,2,3,4,5,6,7,8,9,10,11,12,13,14,15,16,17] (by kernel_rfl) (by (try simp (disch:=omega) only [go_sem,List.length_set,Nat.reduceEqDiff,Nat.reduceAdd,Nat.reduceSub,Int.reduceAdd,Int.reduceSub,Int.reduceToNat])<;>omega) (by kernel_rfl) (runD_den 400 ?_)
  simp (disch:=omega) only [go_sem,Nat.reduceEqDiff,Nat.reduceAdd,Nat.reduceSub,Int.reduceAdd,Int.reduceSub,Int.reduceToNat]
  refine⟨by (try simp (disch:=omega) only [go_sem,List.length_set,Nat.reduceEqDiff,Nat.reduceAdd,Nat.reduceSub,Int.reduceAdd,Int.reduceSub,Int.reduceToNat])<;>omega,run_den 400 ?_⟩
  try simp (disch:=omega) only [go_sem,Nat.reduceEqDiff,Nat.reduceAdd,Nat.reduceSub,Int.reduceAdd,Int.reduceSub,Int.reduceToNat,hx,hxx]
  refine den_finO [some (0,none),some (1,none),some (2,none),some (3,none),some (4,none),some (5,none),some (6,none),some (7,none),some (8,none),some (9,none),some (10,none),some (11,none),some (12,none),some (13,none),some (14,none),some (15,none),some (16,none),some (17,none),some (18,none),some (19,none),some (20,none),some (21,none),some (0,none),some (1,none),some (2,none),some (3,none),some (4,none),some (5,none),some (6,none),some (7,none),some (8,none),some (9,none),some (10,none),some (11,none),some (12,none),some (13,none),some (24,none),some (15,none),some (16,none),some (17,none),some (18,none),some (19,none),some (20,none)] (by (try simp (disch:=omega) only [go_sem,List.length_set,Nat.reduceEqDiff,Nat.reduceAdd,Nat.reduceSub,Int.reduceAdd,Int.reduceSub,Int.reduceToNat])<;>omega) _ (by simp only [go_sem];rfl) (by rfl) (by rfl) ?_
  simp (disch:=omega) only [go_sem,Nat.reduceEqDiff,Nat.reduceAdd,Nat.reduceSub,Int.reduceAdd,Int.reduceSub,Int.reduceToNat]
  simp [LetterD.cs]
 rw [mv10_f (by omega)] at hR
 subst hR
 dsimp only
 by_cases hq:p < w.bag.length
 ·have h4:40≤w.bag.length:=by omega
  refine callA_ofO Tryz.func19 (by kernel_rfl) rfl fun E hE=>run_den 400 ?_
  simp (disch:=omega) only [Tryz.ntmps19,Tryz.results19,go_sem,Nat.reduceEqDiff,Nat.reduceAdd,Nat.reduceSub,Int.reduceAdd,Int.reduceSub,Int.reduceToNat]
  refine den_draw1 [0,1,2,3,4,5,6,7,8] (by kernel_rfl) (by (try simp (disch:=omega) only [go_sem,List.length_set,Nat.reduceEqDiff,Nat.reduceAdd,Nat.reduceSub,Int.reduceAdd,Int.reduceSub,Int.reduceToNat])<;>omega) (by kernel_rfl) (runD_den 400 ?_)
  simp (disch:=omega) only [go_sem,Nat.reduceEqDiff,Nat.reduceAdd,Nat.reduceSub,Int.reduceAdd,Int.reduceSub,Int.reduceToNat]
  refine⟨by (try simp (disch:=omega) only [go_sem,List.length_set,Nat.reduceEqDiff,Nat.reduceAdd,Nat.reduceSub,Int.reduceAdd,Int.reduceSub,Int.reduceToNat])<;>omega,run_den 400 ?_⟩
  try simp (disch:=omega) only [go_sem,Nat.reduceEqDiff,Nat.reduceAdd,Nat.reduceSub,Int.reduceAdd,Int.reduceSub,Int.reduceToNat]
  refine den_finO [some (0,none),some (1,none),some (2,none),some (3,none),some (4,none),some (5,none),some (6,none),some (7,none),some (8,none),some (9,none),some (10,none),some (11,none),some (12,none),some (13,none),some (14,none),some (15,none),some (16,none),some (17,none),some (18,none),some (19,none),some (20,none),some (21,none),some (0,none),some (1,none),some (2,none),some (3,none),some (4,none),some (5,none),some (6,none),some (7,none),some (8,none),some (9,none),some (10,none),some (11,none),some (12,none),some (13,none),some (14,none),some (15,none),some (16,none),some (17,none),some (18,none),some (19,none),some (20,none)] (by (try simp (disch:=omega) only [go_sem,List.length_set,Nat.reduceEqDiff,Nat.reduceAdd,Nat.reduceSub,Int.reduceAdd,Int.reduceSub,Int.reduceToNat])<;>omega) _ (by simp only [go_sem];rfl) (by rfl) (by rfl) ?_
  simp (disch:=omega) only [go_sem,Nat.reduceEqDiff,Nat.reduceAdd,Nat.reduceSub,Int.reduceAdd,Int.reduceSub,Int.reduceToNat]
 refine callA_ofO Tryz.func19 (by kernel_rfl) rfl fun E hE=>run_den 400 ?_
 simp (disch:=omega) only [Tryz.ntmps19,Tryz.results19,go_sem,Nat.reduceEqDiff,Nat.reduceAdd,Nat.reduceSub,Int.reduceAdd,Int.reduceSub,Int.reduceToNat]
 refine den_draw1 [0,1,2,3,4,5,6,7,8] (by kernel_rfl) (by (try simp (disch:=omega) only [go_sem,List.length_set,Nat.reduceEqDiff,Nat.reduceAdd,Nat.reduceSub,Int.reduceAdd,Int.reduceSub,Int.reduceToNat])<;>omega) (by kernel_rfl) (runD_den 400 ?_)
 simp (disch:=omega) only [go_sem,Nat.reduceEqDiff,Nat.reduceAdd,Nat.reduceSub,Int.reduceAdd,Int.reduceSub,Int.reduceToNat]
 refine⟨by (try simp (disch:=omega) only [go_sem,List.length_set,Nat.reduceEqDiff,Nat.reduceAdd,Nat.reduceSub,Int.reduceAdd,Int.reduceSub,Int.reduceToNat])<;>omega,run_den 400 ?_⟩
 try simp (disch:=omega) only [go_sem,Nat.reduceEqDiff,Nat.reduceAdd,Nat.reduceSub,Int.reduceAdd,Int.reduceSub,Int.reduceToNat]
 refine den_finO [some (0,none),some (1,none),some (2,none),some (3,none),some (4,none),some (5,none),some (6,none),some (7,none),some (8,none),some (9,none),some (10,none),some (11,none),some (12,none),some (13,none),some (14,none),some (15,none),some (16,none),some (17,none),some (18,none),some (19,none),some (20,none),some (21,none),some (0,none),some (1,none),some (2,none),some (3,none),some (4,none),some (5,none),some (6,none),some (7,none),some (8,none),some (9,none),some (10,none),some (11,none),some (12,none),some (13,none),some (14,none),some (15,none),some (16,none),some (17,none),some (18,none),some (19,none),some (20,none)] (by (try simp (disch:=omega) only [go_sem,List.length_set,Nat.reduceEqDiff,Nat.reduceAdd,Nat.reduceSub,Int.reduceAdd,Int.reduceSub,Int.reduceToNat])<;>omega) _ (by simp only [go_sem];rfl) (by rfl) (by rfl) ?_
 simp (disch:=omega) only [go_sem,Nat.reduceEqDiff,Nat.reduceAdd,Nat.reduceSub,Int.reduceAdd,Int.reduceSub,Int.reduceToNat]
theorem impl_moves11 (w:WorldD) (side many:Int) (p:Int) (text:List UInt8) (ad:AddrD) (le:LetterD) (hw:SmallD w):
  CallA Tryz.prog 19 [.sc (.pt 21 0 0),.ag (ActD.cs ⟨11,side,p,many,text,ad,le⟩)] (w.hp true++[some ⟨[w.cs 0],61,47,true,false⟩]) (.sc (.int .i64 (moves w ⟨11,side,p,many,text,ad,le⟩).2))
  ([none,none,none,none,none,none,none,none,none,none,none,none,none,none,none,none,none,none,none,none,none,some ⟨[WorldD.cs (moves w ⟨11,side,p,many,text,ad,le⟩).1 22],61,47,true,false⟩]++WorldD.hp (moves w ⟨11,side,p,many,text,ad,le⟩).1 true):=by
 have hbag:=hw.p.s.bag
 have hpast:=hw.p.s.past
 obtain⟨R,hR⟩:∃ R,R=moves w ⟨11,side,p,many,text,ad,le⟩:=⟨_,rfl⟩
 rw [←hR]
 cases hm:mayInject w le with
 |false=>
  rw [mv11_f hm] at hR
  subst hR
  dsimp only
  have hM:=impl_MayInject w le hw.p.s.keys hw.p.s.tags hw.p.s.nums
  rw [hm] at hM
  refine callA_ofO Tryz.func19 (by kernel_rfl) rfl fun E hE=>run_den 400 ?_
  simp (disch:=omega) only [Tryz.ntmps19,Tryz.results19,go_sem,Nat.reduceEqDiff,Nat.reduceAdd,Nat.reduceSub,Int.reduceAdd,Int.reduceSub,Int.reduceToNat]
  refine den_draw1 [0,1,2,3,4,5,6,7,8] (by kernel_rfl) (by (try simp (disch:=omega) only [go_sem,List.length_set,Nat.reduceEqDiff,Nat.reduceAdd,Nat.reduceSub,Int.reduceAdd,Int.reduceSub,Int.reduceToNat])<;>omega) (by kernel_rfl) (runD_den 400 ?_)
  simp (disch:=omega) only [go_sem,Nat.reduceEqDiff,Nat.reduceAdd,Nat.reduceSub,Int.reduceAdd,Int.reduceSub,Int.reduceToNat]
  refine⟨by (try simp (disch:=omega) only [go_sem,List.length_set,Nat.reduceEqDiff,Nat.reduceAdd,Nat.reduceSub,Int.reduceAdd,Int.reduceSub,Int.reduceToNat])<;>omega,run_den 400 ?_⟩
  try simp (disch:=omega) only [go_sem,Nat.reduceEqDiff,Nat.reduceAdd,Nat.reduceSub,Int.reduceAdd,Int.reduceSub,Int.reduceToNat]
  refine den_draw1 [0,1,2,3,4,5,6] (by kernel_rfl) (by (try simp (disch:=omega) only [go_sem,List.length_set,Nat.reduceEqDiff,Nat.reduceAdd,Nat.reduceSub,Int.reduceAdd,Int.reduceSub,Int.reduceToNat])<;>omega) (by kernel_rfl) (runD_den 400 ?_)
  simp (disch:=omega) only [go_sem,Nat.reduceEqDiff,Nat.reduceAdd,Nat.reduceSub,Int.reduceAdd,Int.reduceSub,Int.reduceToNat]
  refine den_callD (by (try simp (disch:=omega) only [go_sem,List.length_set,Nat.reduceEqDiff,Nat.reduceAdd,Nat.reduceSub,Int.reduceAdd,Int.reduceSub,Int.reduceToNat])<;>omega) (hM) [some (0,none),some (1,none),some (2,none),some (3,none),some (4,none),some (5,none),some (6,none),some (7,none),some (8,none),some (9,none),some (10,none),some (11,none),some (12,none),some (13,none),some (14,none),some (15,none),some (16,none),some (17,none),some (18,none),some (19,none),some (20,none)] (by simp only [go_sem];repeat' first|rfl|constructor|(rw [List.map_set];rfl)|(simp [List.map_take,List.map_drop]<;>omega)) (by rfl) (by rfl) (runD_den 400 ?_)
  simp (disch:=omega) only [go_sem,Nat.reduceEqDiff,Nat.reduceAdd,Nat.reduceSub,Int.reduceAdd,Int.reduceSub,Int.reduceToNat]
  refine⟨by (try simp (disch:=omega) only [go_sem,List.length_set,Nat.reduceEqDiff,Nat.reduceAdd,Nat.reduceSub,Int.reduceAdd,Int.reduceSub,Int.reduceToNat])<;>omega,run_den 400 ?_⟩
  try simp (disch:=omega) only [go_sem,Nat.reduceEqDiff,Nat.reduceAdd,Nat.reduceSub,Int.reduceAdd,Int.reduceSub,Int.reduceToNat]
  refine den_finO [some (0,none),some (1,none),some (2,none),some (3,none),some (4,none),some (5,none),some (6,none),some (7,none),some (8,none),some (9,none),some (10,none),some (11,none),some (12,none),some (13,none),some (14,none),some (15,none),some (16,none),some (17,none),some (18,none),some (19,none),some (20,none),some (21,none),some (0,none),some (1,none),some (2,none),some (3,none),some (4,none),some (5,none),some (6,none),some (7,none),some (8,none),some (9,none),some (10,none),some (11,none),some (12,none),some (13,none),some (14,none),some (15,none),some (16,none),some (17,none),some (18,none),some (19,none),some (20,none)] (by (try simp (disch:=omega) only [go_sem,List.length_set,Nat.reduceEqDiff,Nat.reduceAdd,Nat.reduceSub,Int.reduceAdd,Int.reduceSub,Int.reduceToNat])<;>omega) _ (by simp only [go_sem];rfl) (by rfl) (by rfl) ?_
  simp (disch:=omega) only [go_sem,Nat.reduceEqDiff,Nat.reduceAdd,Nat.reduceSub,Int.reduceAdd,Int.reduceSub,Int.reduceToNat]
 |true=>
  by_cases h4:40≤w.bag.length
  ·rw [mv11_b hm h4] at hR
   subst hR
   dsimp only
   have hM:=impl_MayInject w le hw.p.s.keys hw.p.s.tags hw.p.s.nums
   rw [hm] at hM
   refine callA_ofO Tryz.func19 (by kernel_rfl) rfl fun E hE=>run_den 400 ?_
   simp (disch:=omega) only [Tryz.ntmps19,Tryz.results19,go_sem,Nat.reduceEqDiff,Nat.reduceAdd,Nat.reduceSub,Int.reduceAdd,Int.reduceSub,Int.reduceToNat]
   refine den_draw1 [0,1,2,3,4,5,6,7,8] (by kernel_rfl) (by (try simp (disch:=omega) only [go_sem,List.length_set,Nat.reduceEqDiff,Nat.reduceAdd,Nat.reduceSub,Int.reduceAdd,Int.reduceSub,Int.reduceToNat])<;>omega) (by kernel_rfl) (runD_den 400 ?_)
   simp (disch:=omega) only [go_sem,Nat.reduceEqDiff,Nat.reduceAdd,Nat.reduceSub,Int.reduceAdd,Int.reduceSub,Int.reduceToNat]
   refine⟨by (try simp (disch:=omega) only [go_sem,List.length_set,Nat.reduceEqDiff,Nat.reduceAdd,Nat.reduceSub,Int.reduceAdd,Int.reduceSub,Int.reduceToNat])<;>omega,run_den 400 ?_⟩
   try simp (disch:=omega) only [go_sem,Nat.reduceEqDiff,Nat.reduceAdd,Nat.reduceSub,Int.reduceAdd,Int.reduceSub,Int.reduceToNat]
   refine den_draw1 [0,1,2,3,4,5,6] (by kernel_rfl) (by (try simp (disch:=omega) only [go_sem,List.length_set,Nat.reduceEqDiff,Nat.reduceAdd,Nat.reduceSub,Int.reduceAdd,Int.reduceSub,Int.reduceToNat])<;>omega) (by kernel_rfl) (runD_den 400 ?_)
   simp (disch:=omega) only [go_sem,Nat.reduceEqDiff,Nat.reduceAdd,Nat.reduceSub,Int.reduceAdd,Int.reduceSub,Int.reduceToNat]
   refine den_callD (by (try simp (disch:=omega) only [go_sem,List.length_set,Nat.reduceEqDiff,Nat.reduceAdd,Nat.reduceSub,Int.reduceAdd,Int.reduceSub,Int.reduceToNat])<;>omega) (hM) [some (0,none),some (1,none),some (2,none),some (3,none),some (4,none),some (5,none),some (6,none),some (7,none),some (8,none),some (9,none),some (10,none),some (11,none),some (12,none),some (13,none),some (14,none),some (15,none),some (16,none),some (17,none),some (18,none),some (19,none),some (20,none)] (by simp only [go_sem];repeat' first|rfl|constructor|(rw [List.map_set];rfl)|(simp [List.map_take,List.map_drop]<;>omega)) (by rfl) (by rfl) (runD_den 400 ?_)
   simp (disch:=omega) only [go_sem,Nat.reduceEqDiff,Nat.reduceAdd,Nat.reduceSub,Int.reduceAdd,Int.reduceSub,Int.reduceToNat]
   refine⟨by (try simp (disch:=omega) only [go_sem,List.length_set,Nat.reduceEqDiff,Nat.reduceAdd,Nat.reduceSub,Int.reduceAdd,Int.reduceSub,Int.reduceToNat])<;>omega,run_den 400 ?_⟩
   try simp (disch:=omega) only [go_sem,Nat.reduceEqDiff,Nat.reduceAdd,Nat.reduceSub,Int.reduceAdd,Int.reduceSub,Int.reduceToNat]
   refine den_finO [some (0,none),some (1,none),some (2,none),some (3,none),some (4,none),some (5,none),some (6,none),some (7,none),some (8,none),some (9,none),some (10,none),some (11,none),some (12,none),some (13,none),some (14,none),some (15,none),some (16,none),some (17,none),some (18,none),some (19,none),some (20,none),some (21,none),some (0,none),some (1,none),some (2,none),some (3,none),some (4,none),some (5,none),some (6,none),some (7,none),some (8,none),some (9,none),some (10,none),some (11,none),some (12,none),some (13,none),some (14,none),some (15,none),some (16,none),some (17,none),some (18,none),some (19,none),some (20,none)] (by (try simp (disch:=omega) only [go_sem,List.length_set,Nat.reduceEqDiff,Nat.reduceAdd,Nat.reduceSub,Int.reduceAdd,Int.reduceSub,Int.reduceToNat])<;>omega) _ (by simp only [go_sem];rfl) (by rfl) (by rfl) ?_
   simp (disch:=omega) only [go_sem,Nat.reduceEqDiff,Nat.reduceAdd,Nat.reduceSub,Int.reduceAdd,Int.reduceSub,Int.reduceToNat]
  rw [mv11_t hm h4] at hR
  subst hR
  dsimp only
  have hM:=impl_MayInject w le hw.p.s.keys hw.p.s.tags hw.p.s.nums
  rw [hm] at hM
  refine callA_ofO Tryz.func19 (by kernel_rfl) rfl fun E hE=>run_den 400 ?_
  simp (disch:=omega) only [Tryz.ntmps19,Tryz.results19,go_sem,Nat.reduceEqDiff,Nat.reduceAdd,Nat.reduceSub,Int.reduceAdd,Int.reduceSub,Int.reduceToNat]
  refine den_draw1 [0,1,2,3,4,5,6,7,8] (by kernel_rfl) (by (try simp (disch:=omega) only [go_sem,List.length_set,Nat.reduceEqDiff,Nat.reduceAdd,Nat.reduceSub,Int.reduceAdd,Int.reduceSub,Int.reduceToNat])<;>omega) (by kernel_rfl) (runD_den 400 ?_)
  simp (disch:=omega) only [go_sem,Nat.reduceEqDiff,Nat.reduceAdd,Nat.reduceSub,Int.reduceAdd,Int.reduceSub,Int.reduceToNat]
  refine⟨by (try simp (disch:=omega) only [go_sem,List.length_set,Nat.reduceEqDiff,Nat.reduceAdd,Nat.reduceSub,Int.reduceAdd,Int.reduceSub,Int.reduceToNat])<;>omega,run_den 400 ?_⟩
  try simp (disch:=omega) only [go_sem,Nat.reduceEqDiff,Nat.reduceAdd,Nat.reduceSub,Int.reduceAdd,Int.reduceSub,Int.reduceToNat]
  refine den_draw1 [0,1,2,3,4,5,6] (by kernel_rfl) (by (try simp (disch:=omega) only [go_sem,List.length_set,Nat.reduceEqDiff,Nat.reduceAdd,Nat.reduceSub,Int.reduceAdd,Int.reduceSub,Int.reduceToNat])<;>omega) (by kernel_rfl) (runD_den 400 ?_)
  simp (disch:=omega) only [go_sem,Nat.reduceEqDiff,Nat.reduceAdd,Nat.reduceSub,Int.reduceAdd,Int.reduceSub,Int.reduceToNat]
  refine den_callD (by (try simp (disch:=omega) only [go_sem,List.length_set,Nat.reduceEqDiff,Nat.reduceAdd,Nat.reduceSub,Int.reduceAdd,Int.reduceSub,Int.reduceToNat])<;>omega) (hM) [some (0,none),some (1,none),some (2,none),some (3,none),some (4,none),some (5,none),some (6,none),some (7,none),some (8,none),some (9,none),some (10,none),some (11,none),some (12,none),some (13,none),some (14,none),some (15,none),some (16,none),some (17,none),some (18,none),some (19,none),some (20,none)] (by simp only [go_sem];repeat' first|rfl|constructor|(rw [List.map_set];rfl)|(simp [List.map_take,List.map_drop]<;>omega)) (by rfl) (by rfl) (runD_den 400 ?_)
  simp (disch:=omega) only [go_sem,Nat.reduceEqDiff,Nat.reduceAdd,Nat.reduceSub,Int.reduceAdd,Int.reduceSub,Int.reduceToNat]
  refine⟨by (try simp (disch:=omega) only [go_sem,List.length_set,Nat.reduceEqDiff,Nat.reduceAdd,Nat.reduceSub,Int.reduceAdd,Int.reduceSub,Int.reduceToNat])<;>omega,run_den 400 ?_⟩
  try simp (disch:=omega) only [go_sem,Nat.reduceEqDiff,Nat.reduceAdd,Nat.reduceSub,Int.reduceAdd,Int.reduceSub,Int.reduceToNat]
  refine den_draw1 [0,1,2,3,4,5,6,7,8,9,10,11] (by kernel_rfl) (by (try simp (disch:=omega) only [go_sem,List.length_set,Nat.reduceEqDiff,Nat.reduceAdd,Nat.reduceSub,Int.reduceAdd,Int.reduceSub,Int.reduceToNat])<;>omega) (by kernel_rfl) (runD_den 400 ?_)
  simp (disch:=omega) only [go_sem,Nat.reduceEqDiff,Nat.reduceAdd,Nat.reduceSub,Int.reduceAdd,Int.reduceSub,Int.reduceToNat]
  refine⟨by (try simp (disch:=omega) only [go_sem,List.length_set,Nat.reduceEqDiff,Nat.reduceAdd,Nat.reduceSub,Int.reduceAdd,Int.reduceSub,Int.reduceToNat])<;>omega,run_den 400 ?_⟩
  try simp (disch:=omega) only [go_sem,Nat.reduceEqDiff,Nat.reduceAdd,Nat.reduceSub,Int.reduceAdd,Int.reduceSub,Int.reduceToNat]
  refine den_finO [some (0,none),some (1,none),some (2,none),some (3,none),some (4,none),some (5,none),some (6,none),some (7,none),some (8,none),some (9,none),some (10,none),some (11,none),some (12,none),some (13,none),some (14,none),some (15,none),some (16,none),some (17,none),some (18,none),some (19,none),some (20,none),some (21,none),some (0,none),some (1,none),some (2,none),some (3,none),some (4,none),some (5,none),some (6,none),some (7,none),some (8,none),some (9,none),some (10,none),some (11,none),some (12,none),some (13,none),some (24,none),some (15,none),some (16,none),some (17,none),some (18,none),some (19,none),some (20,none)] (by (try simp (disch:=omega) only [go_sem,List.length_set,Nat.reduceEqDiff,Nat.reduceAdd,Nat.reduceSub,Int.reduceAdd,Int.reduceSub,Int.reduceToNat])<;>omega) _ (by simp only [go_sem];rfl) (by rfl) (by rfl) ?_
  simp (disch:=omega) only [go_sem,Nat.reduceEqDiff,Nat.reduceAdd,Nat.reduceSub,Int.reduceAdd,Int.reduceSub,Int.reduceToNat]
  simp [LetterD.cs]
theorem impl_moves12 (w:WorldD) (side many:Int) (p:Nat) (text:List UInt8) (ad:AddrD) (le:LetterD) (hw:SmallD w):
  CallA Tryz.prog 19 [.sc (.pt 21 0 0),.ag (ActD.cs ⟨12,side,(p:Nat),many,text,ad,le⟩)] (w.hp true++[some ⟨[w.cs 0],61,47,true,false⟩]) (.sc (.int .i64 (moves w ⟨12,side,(p:Nat),many,text,ad,le⟩).2))
  ([none,none,none,none,none,none,none,none,none,none,none,none,none,none,none,none,none,none,none,none,none,some ⟨[WorldD.cs (moves w ⟨12,side,(p:Nat),many,text,ad,le⟩).1 22],61,47,true,false⟩]++WorldD.hp (moves w ⟨12,side,(p:Nat),many,text,ad,le⟩).1 true):=by
 have hbag:=hw.p.s.bag
 have hpast:=hw.p.s.past
 obtain⟨R,hR⟩:∃ R,R=moves w ⟨12,side,(p:Nat),many,text,ad,le⟩:=⟨_,rfl⟩
 rw [←hR]
 by_cases hp:p < w.past.length
 ·have hx:=map_get (enc:=LetterD.cs) hp
  have hq1:= @mv12_b w side many p text ad le hp
  have hq2:= @mv12_t w side many p text ad le hp
  rw [←hR] at hq1 hq2
  generalize hxx:w.past[p]=x at*
  have hS:=impl_SideAt x.to
  have hSb:=sideAt_12 x.to
  generalize sideAt x.to=sd at*
  by_cases h0:sd=0
  ·rw [hq1 (.inl h0)]
   dsimp only
   refine callA_ofO Tryz.func19 (by kernel_rfl) rfl fun E hE=>run_den 400 ?_
   simp (disch:=omega) only [Tryz.ntmps19,Tryz.results19,go_sem,Nat.reduceEqDiff,Nat.reduceAdd,Nat.reduceSub,Int.reduceAdd,Int.reduceSub,Int.reduceToNat]
   refine den_draw1 [0,1,2,3,4,5,6,7,8] (by kernel_rfl) (by (try simp (disch:=omega) only [go_sem,List.length_set,Nat.reduceEqDiff,Nat.reduceAdd,Nat.reduceSub,Int.reduceAdd,Int.reduceSub,Int.reduceToNat])<;>omega) (by kernel_rfl) (runD_den 400 ?_)
   simp (disch:=omega) only [go_sem,Nat.reduceEqDiff,Nat.reduceAdd,Nat.reduceSub,Int.reduceAdd,Int.reduceSub,Int.reduceToNat]
   refine⟨by (try simp (disch:=omega) only [go_sem,List.length_set,Nat.reduceEqDiff,Nat.reduceAdd,Nat.reduceSub,Int.reduceAdd,Int.reduceSub,Int.reduceToNat])<;>omega,run_den 400 ?_⟩
   try simp (disch:=omega) only [go_sem,Nat.reduceEqDiff,Nat.reduceAdd,Nat.reduceSub,Int.reduceAdd,Int.reduceSub,Int.reduceToNat]
   refine den_draw1 [0,1,2,3,4,5,6,7,8,9,10,11,12,13,14,15,16,17,18,19,20,21,22,23] (by kernel_rfl) (by (try simp (disch:=omega) only [go_sem,List.length_set,Nat.reduceEqDiff,Nat.reduceAdd,Nat.reduceSub,Int.reduceAdd,Int.reduceSub,Int.reduceToNat])<;>omega) (by kernel_rfl) (runD_den 400 ?_)
   simp (disch:=omega) only [go_sem,Nat.reduceEqDiff,Nat.reduceAdd,Nat.reduceSub,Int.reduceAdd,Int.reduceSub,Int.reduceToNat]
   try simp (disch:=omega) only [go_sem,hx,hxx]
   refine den_callD (by (try simp (disch:=omega) only [go_sem,List.length_set,Nat.reduceEqDiff,Nat.reduceAdd,Nat.reduceSub,Int.reduceAdd,Int.reduceSub,Int.reduceToNat])<;>omega) (hS) [] (by simp only [go_sem];repeat' first|rfl|constructor|(rw [List.map_set];rfl)|(simp [List.map_take,List.map_drop]<;>omega)) (by rfl) (by rfl) (runD_den 400 ?_)
   simp (disch:=omega) only [go_sem,Nat.reduceEqDiff,Nat.reduceAdd,Nat.reduceSub,Int.reduceAdd,Int.reduceSub,Int.reduceToNat]
   refine⟨by (try simp (disch:=omega) only [go_sem,List.length_set,Nat.reduceEqDiff,Nat.reduceAdd,Nat.reduceSub,Int.reduceAdd,Int.reduceSub,Int.reduceToNat])<;>omega,run_den 400 ?_⟩
   try simp (disch:=omega) only [go_sem,Nat.reduceEqDiff,Nat.reduceAdd,Nat.reduceSub,Int.reduceAdd,Int.reduceSub,Int.reduceToNat,hx,hxx]
   refine den_finO [some (0,none),some (1,none),some (2,none),some (3,none),some (4,none),some (5,none),some (6,none),some (7,none),some (8,none),some (9,none),some (10,none),some (11,none),some (12,none),some (13,none),some (14,none),some (15,none),some (16,none),some (17,none),some (18,none),some (19,none),some (20,none),some (21,none),some (0,none),some (1,none),some (2,none),some (3,none),some (4,none),some (5,none),some (6,none),some (7,none),some (8,none),some (9,none),some (10,none),some (11,none),some (12,none),some (13,none),some (14,none),some (15,none),some (16,none),some (17,none),some (18,none),some (19,none),some (20,none)] (by (try simp (disch:=omega) only [go_sem,List.length_set,Nat.reduceEqDiff,Nat.reduceAdd,Nat.reduceSub,Int.reduceAdd,Int.reduceSub,Int.reduceToNat])<;>omega) _ (by simp only [go_sem];rfl) (by rfl) (by rfl) ?_
   simp (disch:=omega) only [go_sem,Nat.reduceEqDiff,Nat.reduceAdd,Nat.reduceSub,Int.reduceAdd,Int.reduceSub,Int.reduceToNat]
  by_cases h4:40≤w.bag.length
  ·rw [hq1 (.inr h4)]
   dsimp only
   refine callA_ofO Tryz.func19 (by kernel_rfl) rfl fun E hE=>run_den 400 ?_
   simp (disch:=omega) only [Tryz.ntmps19,Tryz.results19,go_sem,Nat.reduceEqDiff,Nat.reduceAdd,Nat.reduceSub,Int.reduceAdd,Int.reduceSub,Int.reduceToNat]
   refine den_draw1 [0,1,2,3,4,5,6,7,8] (by kernel_rfl) (by (try simp (disch:=omega) only [go_sem,List.length_set,Nat.reduceEqDiff,Nat.reduceAdd,Nat.reduceSub,Int.reduceAdd,Int.reduceSub,Int.reduceToNat])<;>omega) (by kernel_rfl) (runD_den 400 ?_)
   simp (disch:=omega) only [go_sem,Nat.reduceEqDiff,Nat.reduceAdd,Nat.reduceSub,Int.reduceAdd,Int.reduceSub,Int.reduceToNat]
   refine⟨by (try simp (disch:=omega) only [go_sem,List.length_set,Nat.reduceEqDiff,Nat.reduceAdd,Nat.reduceSub,Int.reduceAdd,Int.reduceSub,Int.reduceToNat])<;>omega,run_den 400 ?_⟩
   try simp (disch:=omega) only [go_sem,Nat.reduceEqDiff,Nat.reduceAdd,Nat.reduceSub,Int.reduceAdd,Int.reduceSub,Int.reduceToNat]
   refine den_draw1 [0,1,2,3,4,5,6,7,8,9,10,11,12,13,14,15,16,17,18,19,20,21,22,23] (by kernel_rfl) (by (try simp (disch:=omega) only [go_sem,List.length_set,Nat.reduceEqDiff,Nat.reduceAdd,Nat.reduceSub,Int.reduceAdd,Int.reduceSub,Int.reduceToNat])<;>omega) (by kernel_rfl) (runD_den 400 ?_)
   simp (disch:=omega) only [go_sem,Nat.reduceEqDiff,Nat.reduceAdd,Nat.reduceSub,Int.reduceAdd,Int.reduceSub,Int.reduceToNat]
   try simp (disch:=omega) only [go_sem,hx,hxx]
   refine den_callD (by (try simp (disch:=omega) only [go_sem,List.length_set,Nat.reduceEqDiff,Nat.reduceAdd,Nat.reduceSub,Int.reduceAdd,Int.reduceSub,Int.reduceToNat])<;>omega) (hS) [] (by simp only [go_sem];repeat' first|rfl|constructor|(rw [List.map_set];rfl)|(simp [List.map_take,List.map_drop]<;>omega)) (by rfl) (by rfl) (runD_den 400 ?_)
   simp (disch:=omega) only [go_sem,Nat.reduceEqDiff,Nat.reduceAdd,Nat.reduceSub,Int.reduceAdd,Int.reduceSub,Int.reduceToNat]
   refine⟨by (try simp (disch:=omega) only [go_sem,List.length_set,Nat.reduceEqDiff,Nat.reduceAdd,Nat.reduceSub,Int.reduceAdd,Int.reduceSub,Int.reduceToNat])<;>omega,run_den 400 ?_⟩
   try simp (disch:=omega) only [go_sem,Nat.reduceEqDiff,Nat.reduceAdd,Nat.reduceSub,Int.reduceAdd,Int.reduceSub,Int.reduceToNat,hx,hxx]
   refine den_finO [some (0,none),some (1,none),some (2,none),some (3,none),some (4,none),some (5,none),some (6,none),some (7,none),some (8,none),some (9,none),some (10,none),some (11,none),some (12,none),some (13,none),some (14,none),some (15,none),some (16,none),some (17,none),some (18,none),some (19,none),some (20,none),some (21,none),some (0,none),some (1,none),some (2,none),some (3,none),some (4,none),some (5,none),some (6,none),some (7,none),some (8,none),some (9,none),some (10,none),some (11,none),some (12,none),some (13,none),some (14,none),some (15,none),some (16,none),some (17,none),some (18,none),some (19,none),some (20,none)] (by (try simp (disch:=omega) only [go_sem,List.length_set,Nat.reduceEqDiff,Nat.reduceAdd,Nat.reduceSub,Int.reduceAdd,Int.reduceSub,Int.reduceToNat])<;>omega) _ (by simp only [go_sem];rfl) (by rfl) (by rfl) ?_
   simp (disch:=omega) only [go_sem,Nat.reduceEqDiff,Nat.reduceAdd,Nat.reduceSub,Int.reduceAdd,Int.reduceSub,Int.reduceToNat]
  rw [hq2 h0 h4]
  dsimp only
  refine callA_ofO Tryz.func19 (by kernel_rfl) rfl fun E hE=>run_den 400 ?_
  simp (disch:=omega) only [Tryz.ntmps19,Tryz.results19,go_sem,Nat.reduceEqDiff,Nat.reduceAdd,Nat.reduceSub,Int.reduceAdd,Int.reduceSub,Int.reduceToNat]
  refine den_draw1 [0,1,2,3,4,5,6,7,8] (by kernel_rfl) (by (try simp (disch:=omega) only [go_sem,List.length_set,Nat.reduceEqDiff,Nat.reduceAdd,Nat.reduceSub,Int.reduceAdd,Int.reduceSub,Int.reduceToNat])<;>omega) (by kernel_rfl) (runD_den 400 ?_)
  simp (disch:=omega) only [go_sem,Nat.reduceEqDiff,Nat.reduceAdd,Nat.reduceSub,Int.reduceAdd,Int.reduceSub,Int.reduceToNat]
  refine⟨by (try simp (disch:=omega) only [go_sem,List.length_set,Nat.reduceEqDiff,Nat.reduceAdd,Nat.reduceSub,Int.reduceAdd,Int.reduceSub,Int.reduceToNat])<;>omega,run_den 400 ?_⟩
  try simp (disch:=omega) only [go_sem,Nat.reduceEqDiff,Nat.reduceAdd,Nat.reduceSub,Int.reduceAdd,Int.reduceSub,Int.reduceToNat]
  refine den_draw1 [0,1,2,3,4,5,6,7,8,9,10,11,12,13,14,15,16,17,18,19,20,21,22,23] (by kernel_rfl) (by (try simp (disch:=omega) only [go_sem,List.length_set,Nat.reduceEqDiff,Nat.reduceAdd,Nat.reduceSub,Int.reduceAdd,Int.reduceSub,Int.reduceToNat])<;>omega) (by kernel_rfl) (runD_den 400 ?_)
  simp (disch:=omega) only [go_sem,Nat.reduceEqDiff,Nat.reduceAdd,Nat.reduceSub,Int.reduceAdd,Int.reduceSub,Int.reduceToNat]
  try simp (disch:=omega) only [go_sem,hx,hxx]
  refine den_callD (by (try simp (disch:=omega) only [go_sem,List.length_set,Nat.reduceEqDiff,Nat.reduceAdd,Nat.reduceSub,Int.reduceAdd,Int.reduceSub,Int.reduceToNat])<;>omega) (hS) [] (by simp only [go_sem];repeat' first|rfl|constructor|(rw [List.map_set];rfl)|(simp [List.map_take,List.map_drop]<;>omega)) (by rfl) (by rfl) (runD_den 400 ?_)
  simp (disch:=omega) only [go_sem,Nat.reduceEqDiff,Nat.reduceAdd,Nat.reduceSub,Int.reduceAdd,Int.reduceSub,Int.reduceToNat]
  refine⟨by (try simp (disch:=omega) only [go_sem,List.length_set,Nat.reduceEqDiff,Nat.reduceAdd,Nat.reduceSub,Int.reduceAdd,Int.reduceSub,Int.reduceToNat])<;>omega,run_den 400 ?_⟩
  try simp (disch:=omega) only [go_sem,Nat.reduceEqDiff,Nat.reduceAdd,Nat.reduceSub,Int.reduceAdd,Int.reduceSub,Int.reduceToNat,hx,hxx]
  refine den_draw1 [0,1,2,3,4,5,6,7,8,9,10,11,12,13,14,15,16,17] (by kernel_rfl) (by (try simp (disch:=omega) only [go_sem,List.length_set,Nat.reduceEqDiff,Nat.reduceAdd,Nat.reduceSub,Int.reduceAdd,Int.reduceSub,Int.reduceToNat])<;>omega) (by kernel_rfl) (runD_den 400 ?_)
  simp (disch:=omega) only [go_sem,Nat.reduceEqDiff,Nat.reduceAdd,Nat.reduceSub,Int.reduceAdd,Int.reduceSub,Int.reduceToNat]
  refine⟨by (try simp (disch:=omega) only [go_sem,List.length_set,Nat.reduceEqDiff,Nat.reduceAdd,Nat.reduceSub,Int.reduceAdd,Int.reduceSub,Int.reduceToNat])<;>omega,run_den 400 ?_⟩
  try simp (disch:=omega) only [go_sem,Nat.reduceEqDiff,Nat.reduceAdd,Nat.reduceSub,Int.reduceAdd,Int.reduceSub,Int.reduceToNat,hx,hxx]
  refine den_finO [some (0,none),some (1,none),some (2,none),some (3,none),some (4,none),some (5,none),some (6,none),some (7,none),some (8,none),some (9,none),some (10,none),some (11,none),some (12,none),some (13,none),some (14,none),some (15,none),some (16,none),some (17,none),some (18,none),some (19,none),some (20,none),some (21,none),some (0,none),some (1,none),some (2,none),some (3,none),some (4,none),some (5,none),some (6,none),some (7,none),some (8,none),some (9,none),some (10,none),some (11,none),some (12,none),some (13,none),some (24,none),some (15,none),some (16,none),some (17,none),some (18,none),some (19,none),some (20,none)] (by (try simp (disch:=omega) only [go_sem,List.length_set,Nat.reduceEqDiff,Nat.reduceAdd,Nat.reduceSub,Int.reduceAdd,Int.reduceSub,Int.reduceToNat])<;>omega) _ (by simp only [go_sem];rfl) (by rfl) (by rfl) ?_
  simp (disch:=omega) only [go_sem,Nat.reduceEqDiff,Nat.reduceAdd,Nat.reduceSub,Int.reduceAdd,Int.reduceSub,Int.reduceToNat]
  simp [LetterD.cs]
 rw [mv12_f hp] at hR
 subst hR
 dsimp only
 refine callA_ofO Tryz.func19 (by kernel_rfl) rfl fun E hE=>run_den 400 ?_
 simp (disch:=omega) only [Tryz.ntmps19,Tryz.results19,go_sem,Nat.reduceEqDiff,Nat.reduceAdd,Nat.reduceSub,Int.reduceAdd,Int.reduceSub,Int.reduceToNat]
 refine den_draw1 [0,1,2,3,4,5,6,7,8] (by kernel_rfl) (by (try simp (disch:=omega) only [go_sem,List.length_set,Nat.reduceEqDiff,Nat.reduceAdd,Nat.reduceSub,Int.reduceAdd,Int.reduceSub,Int.reduceToNat])<;>omega) (by kernel_rfl) (runD_den 400 ?_)
 simp (disch:=omega) only [go_sem,Nat.reduceEqDiff,Nat.reduceAdd,Nat.reduceSub,Int.reduceAdd,Int.reduceSub,Int.reduceToNat]
 refine⟨by (try simp (disch:=omega) only [go_sem,List.length_set,Nat.reduceEqDiff,Nat.reduceAdd,Nat.reduceSub,Int.reduceAdd,Int.reduceSub,Int.reduceToNat])<;>omega,run_den 400 ?_⟩
 try simp (disch:=omega) only [go_sem,Nat.reduceEqDiff,Nat.reduceAdd,Nat.reduceSub,Int.reduceAdd,Int.reduceSub,Int.reduceToNat]
 refine den_draw1 [0,1,2,3,4,5,6,7,8,9,10,11,12,13,14,15,16,17,18,19,20,21,22,23] (by kernel_rfl) (by (try simp (disch:=omega) only [go_sem,List.length_set,Nat.reduceEqDiff,Nat.reduceAdd,Nat.reduceSub,Int.reduceAdd,Int.reduceSub,Int.reduceToNat])<;>omega) (by kernel_rfl) (runD_den 400 ?_)
 simp (disch:=omega) only [go_sem,Nat.reduceEqDiff,Nat.reduceAdd,Nat.reduceSub,Int.reduceAdd,Int.reduceSub,Int.reduceToNat]
 refine⟨by (try simp (disch:=omega) only [go_sem,List.length_set,Nat.reduceEqDiff,Nat.reduceAdd,Nat.reduceSub,Int.reduceAdd,Int.reduceSub,Int.reduceToNat])<;>omega,run_den 400 ?_⟩
 try simp (disch:=omega) only [go_sem,Nat.reduceEqDiff,Nat.reduceAdd,Nat.reduceSub,Int.reduceAdd,Int.reduceSub,Int.reduceToNat]
 refine den_finO [some (0,none),some (1,none),some (2,none),some (3,none),some (4,none),some (5,none),some (6,none),some (7,none),some (8,none),some (9,none),some (10,none),some (11,none),some (12,none),some (13,none),some (14,none),some (15,none),some (16,none),some (17,none),some (18,none),some (19,none),some (20,none),some (21,none),some (0,none),some (1,none),some (2,none),some (3,none),some (4,none),some (5,none),some (6,none),some (7,none),some (8,none),some (9,none),some (10,none),some (11,none),some (12,none),some (13,none),some (14,none),some (15,none),some (16,none),some (17,none),some (18,none),some (19,none),some (20,none)] (by (try simp (disch:=omega) only [go_sem,List.length_set,Nat.reduceEqDiff,Nat.reduceAdd,Nat.reduceSub,Int.reduceAdd,Int.reduceSub,Int.reduceToNat])<;>omega) _ (by simp only [go_sem];rfl) (by rfl) (by rfl) ?_
 simp (disch:=omega) only [go_sem,Nat.reduceEqDiff,Nat.reduceAdd,Nat.reduceSub,Int.reduceAdd,Int.reduceSub,Int.reduceToNat]
end
section
open Go.RowKit
end
section
open Go.RowKit
theorem impl_Tick (e:EndD) (hs:Small e) (ht:e.out.text.length≤1048576):CallA Tryz.prog 42 [.ag (e.cs 0)] (e.hp false) (.tu [.ag ((tick e).1.cs 7),.sc (.sl 14 0 (tick e).2.length)])
  (e.hp false++((tick e).1.hp true++[some ⟨(tick e).2.map LetterD.cs,19,57,true,true⟩])):=by
 have hC:=impl_copyEnd e (by have:=hs.own;omega) (by have:=hs.far;omega) (by have:=hs.subs;omega) (by have:=hs.halfs;omega) (by have:=hs.list;omega) (by have:=hs.done;omega) (by have:=hs.over;omega)
 have hK:=impl_EndOk e (by have:=hs.own;omega) (by have:=hs.far;omega) (by have:=hs.subs;omega) (by have:=hs.halfs;omega) (by have:=hs.list;omega) (by have:=hs.done;omega) (by have:=hs.over;omega)
 have hsb:=hs.subs
 have hso:=hs.own
 have hsh:=hs.halfs
 have hF:=impl_Filled e.bucket
 have hY:=impl_Younger e.halfs (e.now+1) hs.halfs
 have hAn:=impl_Anew e.out
 have hyl:=younger_le e.halfs (e.now+1)
 have hat:(anew e.out).text.length≤1048576:=by rw [anew];split<;>exact ht
 have hf:=tick_f (e:=e)
 have hto:=tick_o (e:=e)
 have hti:=tick_i (e:=e)
 have htu:= @tick_u e
 have hok:tkE e=(endOk e && decide (e.now < 1000000000) && e.subs.all fun s=>decide (s.tries < 1000000000)):=rfl
 have hsm0:Small { e with now:=e.now+1,bucket:=filled e.bucket,halfs:=younger e.halfs (e.now+1),out:=anew e.out }:=⟨hs.own,hs.far,hs.subs,by dsimp only;omega,hs.list,hs.done,hs.over⟩
 have hsm1:Small { e with now:=e.now+1,bucket:=filled e.bucket,halfs:=younger e.halfs (e.now+1),out:=anew e.out,subs:=e.subs.map tickS }:=⟨hs.own,hs.far,by dsimp only;rw [List.length_map];exact hs.subs,by dsimp only;omega,hs.list,hs.done,hs.over⟩
 have hfl:(e.subs.flatMap (tickL e)).length≤e.subs.length:=flat_le (tickL_one e) _
 obtain⟨R,hR⟩:∃ R,R=tick e:=⟨_,rfl⟩
 rw [←hR] at hf hto hti
 simp only [←hR] at htu
 rw [←hR]
 clear hR
 refine qEO Tryz.func42 Tryz.ntmps42 Tryz.results42 fun E hE=>?_
 refine qK (hC) (qA [0,1,2,3,4,5,6]) ?_
 refine qK (hK) (qA [0,1,2,3,4,5,6]) ?_
 refine qB (fun h1=>?_) fun h1=>?_
 ·have hnow:=endOk_now h1
  by_cases h2:e.now < 1000000000
  ·refine qX ?_
   refine den_lpO 7 hE (fun s (i:Nat)=>s.at [0,3,6,10,11,12,13,14,15,16,17,18,19,20,21,25,26,27,28,29,30,31,32] [(24,.sc (.int .i64 (i:Nat)))] (s.hp)) (fun (i:Nat)=>i≤e.subs.length∧(e.subs.drop i).all (fun s=>decide (s.tries < 1000000000))=e.subs.all (fun s=>decide (s.tries < 1000000000))) (fun (i:Nat)=>e.subs.length - i) 0 (qA [0,1,2,3,4,5,6,7,8,9,10,11,12,13,14,15,16]) (qC) (⟨Nat.zero_le _,rfl⟩) (weak_mkO (by rfl) (by rfl) ?_) fun i hi N hN=>?_
   ·exact qY
   obtain⟨g1,g2⟩:=hi
   refine qR ?_
   refine qB (fun b=>?_) fun b=>?_
   ·rw [allD_step b] at g2
    have hg:=map_get (enc:=SubD.cs) b
    have hsub:=endOk_sub h1 b
    try simp (disch:=omega) only [go_sem,Nat.reduceEqDiff,Nat.reduceAdd,Nat.reduceSub,Int.reduceAdd,Int.reduceSub,Int.reduceToNat,hg]
    refine qB (fun b2=>?_) fun b2=>?_
    ·rw [decide_eq_false (by omega),Bool.false_and] at g2
     rw [hf (by rw [hok,←g2];simp)]
     refine qX ?_
     exact qFO [some (0,none),some (1,none),some (2,none),some (3,none),some (4,none),some (5,none),some (6,none),some (9,none),some (10,none),some (11,none),some (12,none),some (13,none),some (14,none),some (15,none),none]
    rw [decide_eq_true (by omega),Bool.true_and] at g2
    refine qX ?_
    exact qNO hN (i+1) (qA [0,1,2,3,4,5,6,7,8,9,10,11,12,13,14,15,16]) (by (try dsimp only);exact⟨by omega,g2⟩)
   rw [List.drop_eq_nil_of_le (by omega),List.all_nil] at g2
   have hall:=g2.symm
   have hall2:∀ (k:Nat) (hk:k < e.subs.length),e.subs[k].tries < 1000000000:=fun k hk=>by
    have:=List.all_eq_true.1 hall e.subs[k] (List.getElem_mem hk)
    simpa using this
   have htk:tkE e=true:=by rw [hok,h1,decide_eq_true h2,hall];rfl
   refine qX ?_
   refine qK (hF) [] ?_
   refine qK (hY) (qA [3]) ?_
   refine qK (hAn) [] ?_
   by_cases h2s:e.state=2
   ·have hR:=hto htk h2s
    rw [tick0] at hR
    obtain⟨LL,hLL⟩:∃ L,L=e.subs.flatMap (tickL e):=⟨_,rfl⟩
    rw [←hLL] at hR hfl
    refine qX ?_
    refine den_lpO 7 hE (fun s (y:Nat×List LetterD)=>s.at [0,6,8,9,10,11,12,13,14,15,16,17,18,19,20,21,22,23,24,25,26,27,28,29,30,31,32,33,34,35,36,37,38,39,40,41,42,43,44,45,46,47,48,49,50,51,52,53,54,55,56,57,58,59,62,63,64,65,66,67,68,69,70,71,72,73,74,75,76,77,78,79,80,81,82,83,84,85,86,87,88,89,90,91,92,93,94,95,96,97,98,99,100,101,102,103,104,105,106,107,108,109,110,111,112,113,114,115,116,117,118,119,120,121,122,123,124,125,126,127,128,129,130,131,132] [(61,.sc (.int .i64 (y.1:Nat))),(7,.sc (.sl 18 0 y.2.length))] ((s.hp.set 11 (some ⟨(stepN tickS e.subs y.1).map SubD.cs,10,132,true,true⟩))++[some ⟨y.2.map LetterD.cs,19,57,true,true⟩])) (fun (y:Nat×List LetterD)=>y.1≤e.subs.length∧y.2.length≤y.1∧LL=y.2++(e.subs.drop y.1).flatMap (tickL e)) (fun (y:Nat×List LetterD)=>e.subs.length - y.1) (0,[]) [some (0,none),some (1,none),some (2,none),some (3,none),some (4,none),some (5,none),some (6,none),some (7,none),some (8,none),some (9,none),some (10,none),some (11,none),some (12,none),some (13,none),some (14,none),some (15,none),some (16,none),some (17,none),none] (qC) (⟨Nat.zero_le _,Nat.zero_le _,hLL⟩) (weak_mkO (by rfl) (by rfl) ?_) fun y hy N2 hN2=>?_
    ·try simp (disch:=omega) only [go_sem,Nat.reduceEqDiff,Nat.reduceAdd,Nat.reduceSub,Int.reduceAdd,Int.reduceSub,Int.reduceToNat]
     try rw [stepN_zero]
    obtain⟨k,l⟩:=y
    obtain⟨f1,f2,f3⟩:=hy
    dsimp only at f1 f2 f3
    refine run_den 400 ?_
    have hgl:(stepN tickS e.subs k).length=e.subs.length:=stepN_len
    refine qX ?_
    refine qB (fun b=>?_) fun b=>?_
    ·have hg:=stepN_get (f:=tickS) b
     have hsub:=endOk_sub h1 b
     have htr:=hall2 k b
     rw [flatD_step b] at f3
     have hset:=stepN_set (f:=tickS) b
     have hsame:=stepN_same (f:=tickS) b
     obtain⟨s0,hs0⟩:∃ s,s=e.subs[k]:=⟨_,rfl⟩
     rw [←hs0] at hsub htr f3 hset hsame
     have hg':∀ p:k < (stepN tickS e.subs k).length,(stepN tickS e.subs k)[k]'p=s0:=fun p=>by rw [hg p,hs0]
     clear hg
     by_cases c1:s0.state=1∨s0.state=2
     ·by_cases c2:s0.state=2∧9≤s0.tries+1
      ·have tS:=tickS_gone c2.1 c2.2
       rw [tickL_gone c2.1 c2.2,List.nil_append] at f3
       obtain⟨c3,c4⟩:=c2
       try simp (disch:=omega) only [go_sem,Nat.reduceEqDiff,Nat.reduceAdd,Nat.reduceSub,Int.reduceAdd,Int.reduceSub,Int.reduceToNat,hg',c3]
       refine⟨qC,hN2 _ (k+1,l) (qA [0,1,2,3,4,5,6,7,8,9,10,11,12,13,14,15,16,17,18]) (by (try dsimp only);exact⟨by omega,by omega,f3⟩) (by (try dsimp only);omega) (weak_mkO (by rfl) (by rfl) ?_)⟩
       refine qX ?_
       rw [←hset,tS,List.map_set]
       try simp [SubD.cs,c3]
      have tS:=tickS_on c1 c2
      by_cases c5:(s0.tries+1).tmod 3=0
      ·rcases c1 with c1|c1
       ·rw [tickL_ask c1 c5] at f3
        have hL:CallA Tryz.prog 82 [.ag (EndD.cs e 0),.ag (SubD.cs { s0 with tries:=s0.tries+1,state:=1 })] (EndD.hp e false) (.ag (joinL' e s0).cs) (EndD.hp e false):=impl_joinLetter _ _ (show inR e.side 1 2=true from endOk_side h1)
        try simp (disch:=omega) only [go_sem,Nat.reduceEqDiff,Nat.reduceAdd,Nat.reduceSub,Int.reduceAdd,Int.reduceSub,Int.reduceToNat,hg',c1,c5]
        refine qD [0,1,2,3,4,5,6,7,8] ?_
        refine qKD (hL) (qA [0,1,2,3,4,5,6]) ?_
        refine qG ?_
        refine⟨qC,hN2 _ (k+1,l++[joinL' e s0]) (qA [0,1,2,3,4,5,6,7,8,9,10,11,12,13,14,15,16,17,20]) (by (try dsimp only);exact⟨by omega,by simp;omega,by simpa using f3⟩) (by (try dsimp only);omega) (weak_mkO (by rfl) (by rfl) ?_)⟩
        refine qX ?_
        rw [←hset,tS,List.map_set]
        try simp [SubD.cs,c1,LetterD.cs]
       rw [tickL_prove c1 (by omega) c5] at f3
       have hL:CallA Tryz.prog 83 [.ag (EndD.cs e 0),.ag (SubD.cs { s0 with tries:=s0.tries+1,state:=2 })] (EndD.hp e false) (.ag (doneLetter e s0).cs) (EndD.hp e false):=impl_doneLetter _ _
       try simp (disch:=omega) only [go_sem,Nat.reduceEqDiff,Nat.reduceAdd,Nat.reduceSub,Int.reduceAdd,Int.reduceSub,Int.reduceToNat,hg',c1,c5]
       refine qD [0,1,2,3,4,5,6,7,8] ?_
       refine qKD (hL) (qA [0,1,2,3,4,5,6]) ?_
       refine qG ?_
       refine⟨qC,hN2 _ (k+1,l++[doneLetter e s0]) (qA [0,1,2,3,4,5,6,7,8,9,10,11,12,13,14,15,16,17,20]) (by (try dsimp only);exact⟨by omega,by simp;omega,by simpa using f3⟩) (by (try dsimp only);omega) (weak_mkO (by rfl) (by rfl) ?_)⟩
       refine qX ?_
       rw [←hset,tS,List.map_set]
       try simp [SubD.cs,c1,LetterD.cs]
      rw [tickL_wait c1 c2 c5,List.nil_append] at f3
      have c6:0 < (s0.tries+1).tmod 3:=by have:=Int.tmod_nonneg 3 (show 0≤s0.tries+1 by omega);omega
      rcases c1 with c1|c1
      ·try simp (disch:=omega) only [go_sem,Nat.reduceEqDiff,Nat.reduceAdd,Nat.reduceSub,Int.reduceAdd,Int.reduceSub,Int.reduceToNat,hg',c1]
       refine⟨qC,hN2 _ (k+1,l) (qA [0,1,2,3,4,5,6,7,8,9,10,11,12,13,14,15,16,17,18]) (by (try dsimp only);exact⟨by omega,by omega,f3⟩) (by (try dsimp only);omega) (weak_mkO (by rfl) (by rfl) ?_)⟩
       refine qX ?_
       rw [←hset,tS,List.map_set]
       try simp [SubD.cs,c1]
      try simp (disch:=omega) only [go_sem,Nat.reduceEqDiff,Nat.reduceAdd,Nat.reduceSub,Int.reduceAdd,Int.reduceSub,Int.reduceToNat,hg',c1]
      refine⟨qC,hN2 _ (k+1,l) (qA [0,1,2,3,4,5,6,7,8,9,10,11,12,13,14,15,16,17,18]) (by (try dsimp only);exact⟨by omega,by omega,f3⟩) (by (try dsimp only);omega) (weak_mkO (by rfl) (by rfl) ?_)⟩
      refine qX ?_
      rw [←hset,tS,List.map_set]
      try simp [SubD.cs,c1]
     rw [tickL_none c1,List.nil_append] at f3
     try simp (disch:=omega) only [go_sem,Nat.reduceEqDiff,Nat.reduceAdd,Nat.reduceSub,Int.reduceAdd,Int.reduceSub,Int.reduceToNat,hg']
     refine⟨qC,hN2 _ (k+1,l) (qA [0,1,2,3,4,5,6,7,8,9,10,11,12,13,14,15,16,17,18]) (by (try dsimp only);exact⟨by omega,by omega,f3⟩) (by (try dsimp only);omega) (weak_mkO (by rfl) (by rfl) ?_)⟩
     refine qX ?_
     rw [hsame (tickS_same c1)]
    have hkl:k=e.subs.length:=by omega
    subst hkl
    rw [List.drop_eq_nil_of_le (Nat.le_refl _),List.flatMap_nil,List.append_nil] at f3
    subst f3
    rw [stepN_all]
    have hTE:=impl_tickEnd { e with now:=e.now+1,bucket:=filled e.bucket,halfs:=younger e.halfs (e.now+1),out:=anew e.out,subs:=e.subs.map tickS } LL hsm1 hat (by omega)
    rw [←hR] at hTE
    have hml:(e.subs.map tickS).length=e.subs.length:=List.length_map ..
    refine qX ?_
    refine qK (hTE) (qA [9,10,11,17,13,14,15,18]) ?_
    exact qFO (qA [0,1,2,3,4,5,6,19,20,21,22,23,24,25,26])
   have hR:=hti htk h2s
   rw [tick0] at hR
   have hTE:=impl_tickEnd { e with now:=e.now+1,bucket:=filled e.bucket,halfs:=younger e.halfs (e.now+1),out:=anew e.out } [] hsm0 hat (by simp)
   rw [←hR] at hTE
   refine qX ?_
   refine qK (hTE) [some (9,none),some (10,none),some (11,none),some (17,none),some (13,none),some (14,none),some (15,none),none] ?_
   exact qFO (qA [0,1,2,3,4,5,6,18,19,20,21,22,23,24,25])
  rw [hf (by rw [hok];simp [h2])]
  refine qX ?_
  exact qFO [some (0,none),some (1,none),some (2,none),some (3,none),some (4,none),some (5,none),some (6,none),some (9,none),some (10,none),some (11,none),some (12,none),some (13,none),some (14,none),some (15,none),none]
 rw [hf (by rw [hok];simp [h1])]
 refine qX ?_
 exact qFO [some (0,none),some (1,none),some (2,none),some (3,none),some (4,none),some (5,none),some (6,none),some (9,none),some (10,none),some (11,none),some (12,none),some (13,none),some (14,none),some (15,none),none]
end
section
open Go.RowKit
theorem impl_acts3_1 (w:WorldD) (pos many:Int) (text:List UInt8) (ad:AddrD) (le:LetterD) (hw:SmallD w) (htx:text.length≤1048576):
  CallA Tryz.prog 18 [.sc (.pt 21 0 0),.ag (ActD.cs ⟨3,1,pos,many,text,ad,le⟩)] (w.hp true++[some ⟨[w.cs 0],61,47,true,false⟩]) (.sc (.int .i64 0))
  ([none,none,none,none,none,none,none,none,none,none,none,none,none,none,none,none,none,none,none,none,none,some ⟨[WorldD.cs (postL 1 { w with a:=(tick w.a).1 } (tick w.a).2) 22],61,47,true,false⟩]++WorldD.hp (postL 1 { w with a:=(tick w.a).1 } (tick w.a).2) true):=by
 have q1:=hw.s.wa
 have q2:=hw.s.wb
 have q3:=hw.s.ra
 have q4:=hw.s.rb
 have hX:=impl_Tick w.a hw.p.s.a hw.oa
 have hsm:=tick_small hw.p.s.a
 have hlen:=tick_len w.a
 have hEA:CallA Tryz.prog 38 [.ag (w.cs 0),.sc (.int .i64 1)] (w.hp false) (.ag (w.a.cs 21)) (w.hp false++w.a.hp true):=impl_EndAt w 1 hw.p.s.a.own hw.p.s.a.far hw.p.s.a.subs hw.p.s.a.halfs hw.p.s.a.list hw.p.s.a.done hw.p.s.a.over hw.p.s.b.own hw.p.s.b.far hw.p.s.b.subs hw.p.s.b.halfs hw.p.s.b.list hw.p.s.b.done hw.p.s.b.over
 obtain⟨pr,hpr⟩:∃ p,p=tick w.a:=⟨_,rfl⟩
 rw [←hpr] at hX hsm hlen⊢
 obtain⟨e1,l1⟩:=pr
 dsimp only at hX hsm hlen⊢
 have hset:=impl_set1 w e1
 have hpost:=impl_post1 { w with a:=e1 } l1 ⟨hw.p.s.bag,hw.p.s.past,hw.p.s.keys,hw.p.s.tags,hw.p.s.nums,hw.p.s.ansA,hw.p.s.ansB⟩ (by first|omega|simp)
 have hends:=postL_ends (side:=1) (l:=l1) (w:={ w with a:=e1 })
 obtain⟨R,hR⟩:∃ R,R=postL 1 { w with a:=e1 } l1:=⟨_,rfl⟩
 rw [←hR] at hpost hends⊢
 clear hR
 obtain⟨ra,rb,bag,past,wA,wB,rA,rB,known,nums,nsA,nsB⟩:=R
 obtain⟨keys,tags⟩:=known
 dsimp only at hends
 obtain⟨g1,g2,g3,g4,g5,g6⟩:=hends
 replace g1:=g1.symm
 replace g2:=g2.symm
 replace g3:=g3.symm
 replace g4:=g4.symm
 replace g5:=g5.symm
 replace g6:=g6.symm
 subst g1 g2 g3 g4 g5 g6
 refine callA_ofO Tryz.func18 (by kernel_rfl) rfl fun E hE=>run_den 400 ?_
 simp (disch:=omega) only [Tryz.ntmps18,Tryz.results18,go_sem,Nat.reduceEqDiff,Nat.reduceAdd,Nat.reduceSub,Int.reduceAdd,Int.reduceSub,Int.reduceToNat]
 refine den_drawX [(5,6)] [] [[0,1,2,3,4,5,6,7],[0,1,2,3,4,6,5,7]] 22 hE (fun s=>s.at [13,14,15,16,17,18] [(5,.sc (.pt 30 0 0))] (s.hp++(w.a.hp true++[some ⟨[w.a.cs 23],25,41,true,false⟩]))) (by kernel_rfl) (by (try simp (disch:=omega) only [go_sem,List.length_set,Nat.reduceEqDiff,Nat.reduceAdd,Nat.reduceSub,Int.reduceAdd,Int.reduceSub,Int.reduceToNat])<;>omega) (by kernel_rfl) ?_ (run_den 400 ?_)
 rotate_left
 rotate_right
 simp only [allDn]
 refine⟨runD_den 400 ?_,runD_den 400 ?_⟩
 ·simp (disch:=omega) only [go_sem]
  refine den_callD (by (try simp (disch:=omega) only [go_sem,List.length_set,Nat.reduceEqDiff,Nat.reduceAdd,Nat.reduceSub,Int.reduceAdd,Int.reduceSub,Int.reduceToNat])<;>omega) (hEA) [some (0,none),some (1,none),some (2,none),some (3,none),some (4,none),some (5,none),some (6,none),some (7,none),some (8,none),some (9,none),some (10,none),some (11,none),some (12,none),some (13,none),some (14,none),some (15,none),some (16,none),some (17,none),some (18,none),some (19,none),some (20,none)] (by simp only [go_sem];repeat' first|rfl|constructor|(rw [List.map_set];rfl)|(simp [List.map_take,List.map_drop]<;>omega)) (by rfl) (by rfl) (runD_den 400 ?_)
  simp (disch:=omega) only [go_sem,Nat.reduceEqDiff,Nat.reduceAdd,Nat.reduceSub,Int.reduceAdd,Int.reduceSub,Int.reduceToNat]
  refine⟨by (try simp (disch:=omega) only [go_sem,List.length_set,Nat.reduceEqDiff,Nat.reduceAdd,Nat.reduceSub,Int.reduceAdd,Int.reduceSub,Int.reduceToNat])<;>omega,[some (0,none),some (1,none),some (2,none),some (3,none),some (4,none),some (5,none),some (6,none),some (7,none),some (8,none),some (9,none),some (10,none),some (11,none),some (12,none),some (13,none),some (14,none),some (15,none),some (16,none),some (17,none),some (18,none),some (19,none),some (20,none),some (21,none),some (22,none),some (23,none),some (24,none),some (25,none),some (26,none),some (27,none),some (28,none),some (29,none),some (30,none)],weak_mkO (by rfl) (by rfl) ?_⟩
  try simp (disch:=omega) only [go_sem,Nat.reduceEqDiff,Nat.reduceAdd,Nat.reduceSub,Int.reduceAdd,Int.reduceSub,Int.reduceToNat]
 ·simp (disch:=omega) only [go_sem]
  refine den_callD (by (try simp (disch:=omega) only [go_sem,List.length_set,Nat.reduceEqDiff,Nat.reduceAdd,Nat.reduceSub,Int.reduceAdd,Int.reduceSub,Int.reduceToNat])<;>omega) (hEA) [some (0,none),some (1,none),some (2,none),some (3,none),some (4,none),some (5,none),some (6,none),some (7,none),some (8,none),some (9,none),some (10,none),some (11,none),some (12,none),some (13,none),some (14,none),some (15,none),some (16,none),some (17,none),some (18,none),some (19,none),some (20,none)] (by simp only [go_sem];repeat' first|rfl|constructor|(rw [List.map_set];rfl)|(simp [List.map_take,List.map_drop]<;>omega)) (by rfl) (by rfl) (runD_den 400 ?_)
  simp (disch:=omega) only [go_sem,Nat.reduceEqDiff,Nat.reduceAdd,Nat.reduceSub,Int.reduceAdd,Int.reduceSub,Int.reduceToNat]
  refine⟨by (try simp (disch:=omega) only [go_sem,List.length_set,Nat.reduceEqDiff,Nat.reduceAdd,Nat.reduceSub,Int.reduceAdd,Int.reduceSub,Int.reduceToNat])<;>omega,[some (0,none),some (1,none),some (2,none),some (3,none),some (4,none),some (5,none),some (6,none),some (7,none),some (8,none),some (9,none),some (10,none),some (11,none),some (12,none),some (13,none),some (14,none),some (15,none),some (16,none),some (17,none),some (18,none),some (19,none),some (20,none),some (21,none),some (22,none),some (24,none),some (25,none),some (26,none),some (27,none),some (28,none),some (29,none),some (30,none),some (23,none)],weak_mkO (by rfl) (by rfl) ?_⟩
  try simp (disch:=omega) only [go_sem,Nat.reduceEqDiff,Nat.reduceAdd,Nat.reduceSub,Int.reduceAdd,Int.reduceSub,Int.reduceToNat]
 try simp (disch:=omega) only [go_sem,Nat.reduceEqDiff,Nat.reduceAdd,Nat.reduceSub,Int.reduceAdd,Int.reduceSub,Int.reduceToNat]
 refine den_call (by (try simp (disch:=omega) only [go_sem,List.length_set,Nat.reduceEqDiff,Nat.reduceAdd,Nat.reduceSub,Int.reduceAdd,Int.reduceSub,Int.reduceToNat])<;>omega) (hX) [some (23,none),some (24,none),some (25,none),some (26,none),some (27,none),some (28,none),some (29,none)] (by simp only [go_sem];repeat' first|rfl|constructor|(rw [List.map_set];rfl)|(simp [List.map_take,List.map_drop]<;>omega)) (by rfl) (run_den 400 ?_)
 simp (disch:=omega) only [go_sem,Nat.reduceEqDiff,Nat.reduceAdd,Nat.reduceSub,Int.reduceAdd,Int.reduceSub,Int.reduceToNat]
 refine den_call (by (try simp (disch:=omega) only [go_sem,List.length_set,Nat.reduceEqDiff,Nat.reduceAdd,Nat.reduceSub,Int.reduceAdd,Int.reduceSub,Int.reduceToNat])<;>omega) (hset) [some (0,none),some (1,none),some (2,none),some (3,none),some (4,none),some (5,none),some (6,none),some (7,none),some (8,none),some (9,none),some (10,none),some (11,none),some (12,none),some (13,none),some (14,none),some (15,none),some (16,none),some (17,none),some (18,none),some (19,none),some (20,none),some (31,none),some (32,none),some (33,none),some (34,none),some (35,none),some (36,none),some (37,none),some (21,none)] (by simp only [go_sem];repeat' first|rfl|constructor|(rw [List.map_set];rfl)|(simp [List.map_take,List.map_drop]<;>omega)) (by rfl) (run_den 400 ?_)
 simp (disch:=omega) only [go_sem,Nat.reduceEqDiff,Nat.reduceAdd,Nat.reduceSub,Int.reduceAdd,Int.reduceSub,Int.reduceToNat]
 refine den_call (by (try simp (disch:=omega) only [go_sem,List.length_set,Nat.reduceEqDiff,Nat.reduceAdd,Nat.reduceSub,Int.reduceAdd,Int.reduceSub,Int.reduceToNat])<;>omega) (hpost) [some (31,none),some (32,none),some (33,none),some (34,none),some (35,none),some (36,none),some (37,none),some (7,none),some (8,none),some (9,none),some (10,none),some (11,none),some (12,none),some (13,none),some (14,none),some (15,none),some (16,none),some (17,none),some (18,none),some (19,none),some (20,none),some (21,none),some (38,none)] (by simp only [go_sem];repeat' first|rfl|constructor|(rw [List.map_set];rfl)|(simp [List.map_take,List.map_drop]<;>omega)) (by rfl) (run_den 400 ?_)
 simp (disch:=omega) only [go_sem,Nat.reduceEqDiff,Nat.reduceAdd,Nat.reduceSub,Int.reduceAdd,Int.reduceSub,Int.reduceToNat]
 refine den_finO [some (0,none),some (1,none),some (2,none),some (3,none),some (4,none),some (5,none),some (6,none),some (7,none),some (8,none),some (9,none),some (10,none),some (11,none),some (12,none),some (13,none),some (14,none),some (15,none),some (16,none),some (17,none),some (18,none),some (19,none),some (20,none),some (21,none),some (31,none),some (32,none),some (33,none),some (34,none),some (35,none),some (36,none),some (37,none),some (7,none),some (8,none),some (9,none),some (10,none),some (11,none),some (12,none),some (13,none),some (39,none),some (40,none),some (41,none),some (42,none),some (43,none),some (44,none),some (45,none)] (by (try simp (disch:=omega) only [go_sem,List.length_set,Nat.reduceEqDiff,Nat.reduceAdd,Nat.reduceSub,Int.reduceAdd,Int.reduceSub,Int.reduceToNat])<;>omega) _ (by simp only [go_sem];rfl) (by rfl) (by rfl) ?_
 simp (disch:=omega) only [go_sem,Nat.reduceEqDiff,Nat.reduceAdd,Nat.reduceSub,Int.reduceAdd,Int.reduceSub,Int.reduceToNat]
theorem impl_acts3_2 (w:WorldD) (pos many:Int) (text:List UInt8) (ad:AddrD) (le:LetterD) (hw:SmallD w) (htx:text.length≤1048576):
  CallA Tryz.prog 18 [.sc (.pt 21 0 0),.ag (ActD.cs ⟨3,2,pos,many,text,ad,le⟩)] (w.hp true++[some ⟨[w.cs 0],61,47,true,false⟩]) (.sc (.int .i64 0))
  ([none,none,none,none,none,none,none,none,none,none,none,none,none,none,none,none,none,none,none,none,none,some ⟨[WorldD.cs (postL 2 { w with b:=(tick w.b).1 } (tick w.b).2) 22],61,47,true,false⟩]++WorldD.hp (postL 2 { w with b:=(tick w.b).1 } (tick w.b).2) true):=by
 have q1:=hw.s.wa
 have q2:=hw.s.wb
 have q3:=hw.s.ra
 have q4:=hw.s.rb
 have hX:=impl_Tick w.b hw.p.s.b hw.ob
 have hsm:=tick_small hw.p.s.b
 have hlen:=tick_len w.b
 have hEA:CallA Tryz.prog 38 [.ag (w.cs 0),.sc (.int .i64 2)] (w.hp false) (.ag (w.b.cs 21)) (w.hp false++w.b.hp true):=impl_EndAt w 2 hw.p.s.a.own hw.p.s.a.far hw.p.s.a.subs hw.p.s.a.halfs hw.p.s.a.list hw.p.s.a.done hw.p.s.a.over hw.p.s.b.own hw.p.s.b.far hw.p.s.b.subs hw.p.s.b.halfs hw.p.s.b.list hw.p.s.b.done hw.p.s.b.over
 obtain⟨pr,hpr⟩:∃ p,p=tick w.b:=⟨_,rfl⟩
 rw [←hpr] at hX hsm hlen⊢
 obtain⟨e1,l1⟩:=pr
 dsimp only at hX hsm hlen⊢
 have hset:=impl_set2 w e1
 have hpost:=impl_post2 { w with b:=e1 } l1 ⟨hw.p.s.bag,hw.p.s.past,hw.p.s.keys,hw.p.s.tags,hw.p.s.nums,hw.p.s.ansA,hw.p.s.ansB⟩ (by first|omega|simp)
 have hends:=postL_ends (side:=2) (l:=l1) (w:={ w with b:=e1 })
 obtain⟨R,hR⟩:∃ R,R=postL 2 { w with b:=e1 } l1:=⟨_,rfl⟩
 rw [←hR] at hpost hends⊢
 clear hR
 obtain⟨ra,rb,bag,past,wA,wB,rA,rB,known,nums,nsA,nsB⟩:=R
 obtain⟨keys,tags⟩:=known
 dsimp only at hends
 obtain⟨g1,g2,g3,g4,g5,g6⟩:=hends
 replace g1:=g1.symm
 replace g2:=g2.symm
 replace g3:=g3.symm
 replace g4:=g4.symm
 replace g5:=g5.symm
 replace g6:=g6.symm
 subst g1 g2 g3 g4 g5 g6
 refine callA_ofO Tryz.func18 (by kernel_rfl) rfl fun E hE=>run_den 400 ?_
 simp (disch:=omega) only [Tryz.ntmps18,Tryz.results18,go_sem,Nat.reduceEqDiff,Nat.reduceAdd,Nat.reduceSub,Int.reduceAdd,Int.reduceSub,Int.reduceToNat]
 refine den_drawX [(5,6)] [] [[0,1,2,3,4,5,6,7],[0,1,2,3,4,6,5,7]] 22 hE (fun s=>s.at [13,14,15,16,17,18] [(5,.sc (.pt 30 0 0))] (s.hp++(w.b.hp true++[some ⟨[w.b.cs 23],25,41,true,false⟩]))) (by kernel_rfl) (by (try simp (disch:=omega) only [go_sem,List.length_set,Nat.reduceEqDiff,Nat.reduceAdd,Nat.reduceSub,Int.reduceAdd,Int.reduceSub,Int.reduceToNat])<;>omega) (by kernel_rfl) ?_ (run_den 400 ?_)
 rotate_left
 rotate_right
 simp only [allDn]
 refine⟨runD_den 400 ?_,runD_den 400 ?_⟩
 ·simp (disch:=omega) only [go_sem]
  refine den_callD (by (try simp (disch:=omega) only [go_sem,List.length_set,Nat.reduceEqDiff,Nat.reduceAdd,Nat.reduceSub,Int.reduceAdd,Int.reduceSub,Int.reduceToNat])<;>omega) (hEA) [some (0,none),some (1,none),some (2,none),some (3,none),some (4,none),some (5,none),some (6,none),some (7,none),some (8,none),some (9,none),some (10,none),some (11,none),some (12,none),some (13,none),some (14,none),some (15,none),some (16,none),some (17,none),some (18,none),some (19,none),some (20,none)] (by simp only [go_sem];repeat' first|rfl|constructor|(rw [List.map_set];rfl)|(simp [List.map_take,List.map_drop]<;>omega)) (by rfl) (by rfl) (runD_den 400 ?_)
  simp (disch:=omega) only [go_sem,Nat.reduceEqDiff,Nat.reduceAdd,Nat.reduceSub,Int.reduceAdd,Int.reduceSub,Int.reduceToNat]
  refine⟨by (try simp (disch:=omega) only [go_sem,List.length_set,Nat.reduceEqDiff,Nat.reduceAdd,Nat.reduceSub,Int.reduceAdd,Int.reduceSub,Int.reduceToNat])<;>omega,[some (0,none),some (1,none),some (2,none),some (3,none),some (4,none),some (5,none),some (6,none),some (7,none),some (8,none),some (9,none),some (10,none),some (11,none),some (12,none),some (13,none),some (14,none),some (15,none),some (16,none),some (17,none),some (18,none),some (19,none),some (20,none),some (21,none),some (22,none),some (23,none),some (24,none),some (25,none),some (26,none),some (27,none),some (28,none),some (29,none),some (30,none)],weak_mkO (by rfl) (by rfl) ?_⟩
  try simp (disch:=omega) only [go_sem,Nat.reduceEqDiff,Nat.reduceAdd,Nat.reduceSub,Int.reduceAdd,Int.reduceSub,Int.reduceToNat]
 ·simp (disch:=omega) only [go_sem]
  refine den_callD (by (try simp (disch:=omega) only [go_sem,List.length_set,Nat.reduceEqDiff,Nat.reduceAdd,Nat.reduceSub,Int.reduceAdd,Int.reduceSub,Int.reduceToNat])<;>omega) (hEA) [some (0,none),some (1,none),some (2,none),some (3,none),some (4,none),some (5,none),some (6,none),some (7,none),some (8,none),some (9,none),some (10,none),some (11,none),some (12,none),some (13,none),some (14,none),some (15,none),some (16,none),some (17,none),some (18,none),some (19,none),some (20,none)] (by simp only [go_sem];repeat' first|rfl|constructor|(rw [List.map_set];rfl)|(simp [List.map_take,List.map_drop]<;>omega)) (by rfl) (by rfl) (runD_den 400 ?_)
  simp (disch:=omega) only [go_sem,Nat.reduceEqDiff,Nat.reduceAdd,Nat.reduceSub,Int.reduceAdd,Int.reduceSub,Int.reduceToNat]
  refine⟨by (try simp (disch:=omega) only [go_sem,List.length_set,Nat.reduceEqDiff,Nat.reduceAdd,Nat.reduceSub,Int.reduceAdd,Int.reduceSub,Int.reduceToNat])<;>omega,[some (0,none),some (1,none),some (2,none),some (3,none),some (4,none),some (5,none),some (6,none),some (7,none),some (8,none),some (9,none),some (10,none),some (11,none),some (12,none),some (13,none),some (14,none),some (15,none),some (16,none),some (17,none),some (18,none),some (19,none),some (20,none),some (21,none),some (22,none),some (24,none),some (25,none),some (26,none),some (27,none),some (28,none),some (29,none),some (30,none),some (23,none)],weak_mkO (by rfl) (by rfl) ?_⟩
  try simp (disch:=omega) only [go_sem,Nat.reduceEqDiff,Nat.reduceAdd,Nat.reduceSub,Int.reduceAdd,Int.reduceSub,Int.reduceToNat]
 try simp (disch:=omega) only [go_sem,Nat.reduceEqDiff,Nat.reduceAdd,Nat.reduceSub,Int.reduceAdd,Int.reduceSub,Int.reduceToNat]
 refine den_call (by (try simp (disch:=omega) only [go_sem,List.length_set,Nat.reduceEqDiff,Nat.reduceAdd,Nat.reduceSub,Int.reduceAdd,Int.reduceSub,Int.reduceToNat])<;>omega) (hX) [some (23,none),some (24,none),some (25,none),some (26,none),some (27,none),some (28,none),some (29,none)] (by simp only [go_sem];repeat' first|rfl|constructor|(rw [List.map_set];rfl)|(simp [List.map_take,List.map_drop]<;>omega)) (by rfl) (run_den 400 ?_)
 simp (disch:=omega) only [go_sem,Nat.reduceEqDiff,Nat.reduceAdd,Nat.reduceSub,Int.reduceAdd,Int.reduceSub,Int.reduceToNat]
 refine den_call (by (try simp (disch:=omega) only [go_sem,List.length_set,Nat.reduceEqDiff,Nat.reduceAdd,Nat.reduceSub,Int.reduceAdd,Int.reduceSub,Int.reduceToNat])<;>omega) (hset) [some (0,none),some (1,none),some (2,none),some (3,none),some (4,none),some (5,none),some (6,none),some (7,none),some (8,none),some (9,none),some (10,none),some (11,none),some (12,none),some (13,none),some (14,none),some (15,none),some (16,none),some (17,none),some (18,none),some (19,none),some (20,none),some (31,none),some (32,none),some (33,none),some (34,none),some (35,none),some (36,none),some (37,none),some (21,none)] (by simp only [go_sem];repeat' first|rfl|constructor|(rw [List.map_set];rfl)|(simp [List.map_take,List.map_drop]<;>omega)) (by rfl) (run_den 400 ?_)
 simp (disch:=omega) only [go_sem,Nat.reduceEqDiff,Nat.reduceAdd,Nat.reduceSub,Int.reduceAdd,Int.reduceSub,Int.reduceToNat]
 refine den_call (by (try simp (disch:=omega) only [go_sem,List.length_set,Nat.reduceEqDiff,Nat.reduceAdd,Nat.reduceSub,Int.reduceAdd,Int.reduceSub,Int.reduceToNat])<;>omega) (hpost) [some (0,none),some (1,none),some (2,none),some (3,none),some (4,none),some (5,none),some (6,none),some (31,none),some (32,none),some (33,none),some (34,none),some (35,none),some (36,none),some (37,none),some (14,none),some (15,none),some (16,none),some (17,none),some (18,none),some (19,none),some (20,none),some (21,none),some (38,none)] (by simp only [go_sem];repeat' first|rfl|constructor|(rw [List.map_set];rfl)|(simp [List.map_take,List.map_drop]<;>omega)) (by rfl) (run_den 400 ?_)
 simp (disch:=omega) only [go_sem,Nat.reduceEqDiff,Nat.reduceAdd,Nat.reduceSub,Int.reduceAdd,Int.reduceSub,Int.reduceToNat]
 refine den_finO [some (0,none),some (1,none),some (2,none),some (3,none),some (4,none),some (5,none),some (6,none),some (7,none),some (8,none),some (9,none),some (10,none),some (11,none),some (12,none),some (13,none),some (14,none),some (15,none),some (16,none),some (17,none),some (18,none),some (19,none),some (20,none),some (21,none),some (0,none),some (1,none),some (2,none),some (3,none),some (4,none),some (5,none),some (6,none),some (31,none),some (32,none),some (33,none),some (34,none),some (35,none),some (36,none),some (37,none),some (39,none),some (40,none),some (41,none),some (42,none),some (43,none),some (44,none),some (45,none)] (by (try simp (disch:=omega) only [go_sem,List.length_set,Nat.reduceEqDiff,Nat.reduceAdd,Nat.reduceSub,Int.reduceAdd,Int.reduceSub,Int.reduceToNat])<;>omega) _ (by simp only [go_sem];rfl) (by rfl) (by rfl) ?_
 simp (disch:=omega) only [go_sem,Nat.reduceEqDiff,Nat.reduceAdd,Nat.reduceSub,Int.reduceAdd,Int.reduceSub,Int.reduceToNat]
end
section
open Go.RowKit
end
section
open Go.RowKit
end
section
open Go.RowKit
end
end Go.Proofs.YtkabkkjnemongaaGreat
