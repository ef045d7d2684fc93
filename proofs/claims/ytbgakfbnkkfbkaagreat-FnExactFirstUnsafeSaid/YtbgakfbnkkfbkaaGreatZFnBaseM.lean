/-
  Texts merged for this claim by shake.py: what its proof needs.
-/
import Derived.Tactics
import Derived.Below
import Derived.Laws.AppendOwn
import Derived.Laws.OwnMore
import Derived.Laws.Slices
import Derived.Laws.Small
import Derived.Laws.Strings
import Derived.KernelRfl
import Derived.Laws.MakeOwn
import Derived.Laws.BytesString
import Derived.Laws.BytesArg
import Derived.Laws.Build
import Derived.Laws.Concat
import Derived.Laws.StructEq
import Derived.Lib.ConvBytes
import Derived.Orders
import Derived.WalkKit
import Derived.ProofKit
import Derived.ShutString
import Derived.OpenShut
import Derived.ChangeOld
import Derived.Carry
import Derived.Test.YtbgakfbnkkfbkaaGreatChecked
import Derived.Laws.BitsLemmas
import Derived.JoinedOf
import Derived.Test.YtbgakfbnkkfbkaaGreatZFnBaseA
import Derived.Test.YtbgakfbnkkfbkaaGreatZFnBaseB
import Derived.Test.YtbgakfbnkkfbkaaGreatZFnBaseD
import Derived.Test.YtbgakfbnkkfbkaaGreatZFnBaseE
import Derived.Test.YtbgakfbnkkfbkaaGreatZFnBaseF
import Derived.Test.YtbgakfbnkkfbkaaGreatZFnBaseG
import Derived.Test.YtbgakfbnkkfbkaaGreatZFnBaseH
import Derived.Test.YtbgakfbnkkfbkaaGreatZFnBaseI
import Derived.Test.YtbgakfbnkkfbkaaGreatZFnBaseJ
import Derived.Test.YtbgakfbnkkfbkaaGreatZFnBaseK
import Derived.Test.YtbgakfbnkkfbkaaGreatZFnBaseL
set_option maxHeartbeats 16000000
set_option maxRecDepth 100000
set_option linter.unusedVariables false
set_option linter.unusedSimpArgs false
namespace Go.Proofs.YtbgakfbnkkfbkaaGreat
section
open Go.RowKit
theorem ie (e:EndD) (t:List UInt8):(aS e t).2.length≤3:=kV
theorem yg {e:EndD} {t:List UInt8} (hs:Small e):Small (cp e t).1:=by
 rw [cp];split
 ·exact⟨hs.own,hs.far,hs.subs,hs.halfs,hs.list,hs.done,hs.over⟩
 exact hs
theorem eQ {e:EndD} {t:List UInt8} (hs:Small e):Small (aS e t).1:=i3 (yg hs)
theorem gP {e:EndD} {m:Int} (hs:Small e):Small (bu e m).1:=by
 rw [bu];split
 ·refine⟨hs.own,hs.far,hs.subs,hs.halfs,?_,hs.done,hs.over⟩
  dsimp only
  rw [cz];split<;>exact hs.list
 exact hs
theorem df {e:EndD} {a:AddrD} (hs:Small e):Small (aB e a).1:=by
 rw [aB];split
 ·exact⟨rx hs.own,hs.far,hs.subs,hs.halfs,hs.list,hs.done,hs.over⟩
 exact hs
theorem f8 {e:EndD} {k:Int} (hs:Small e):Small (br e k).1:=by
 rw [br];split
 ·exact⟨hs.own,hs.far,by simpa only [cS,List.length_set] using hs.subs,hs.halfs,hs.list,hs.done,hs.over⟩
 exact hs
theorem jU (e:EndD) (k:Int):(br e k).2.length≤1:=by rw [br];split<;>simp
theorem fg {e:EndD} {n:Int} (hs:Small e):Small (bb e n).1:=by
 rw [bb];split
 ·rename_i h
  simp only [A8,Bool.and_eq_true] at h
  have:=(nU h.1.1).1
  exact⟨oT hs.own,hs.far,by simpa only [gO,List.length_map] using hs.subs,hs.halfs,hs.list,by have:=ky e.done n;dsimp only;omega,hs.over⟩
 exact hs
theorem i6 (e:EndD) (n:Int) (hs:Small e):(bb e n).2.length≤1048576:=by
 rw [bb];split
 ·rw [List.length_map]
  have:=jx (gO e n)
  have h2:(gO e n).length=e.subs.length:=by rw [gO,List.length_map]
  have:=hs.subs
  omega
 simp
theorem o0 {far:List AddrD}:∀ {l:List RoadD} {e:EndD},Small e→Small (gY far e l).1
 |[],_,h=>h
 |r::l,e,h=>o0 (l:=l) (mi h)
theorem uN {far:List AddrD}:∀ {l:List RoadD} {e:EndD},(gY far e l).2.length≤l.length
 |[],_=>Nat.le_refl _
 |r::l,e=>by
  have h1:=rU e r (bS far r.far)
  have h2:=uN (far:=far) (l:=l) (e:=(gw e r (bS far r.far)).1)
  rw [show (gY far e (r::l)).2=(gw e r (bS far r.far)).2++(gY far (gw e r (bS far r.far)).1 l).2 from rfl,List.length_append,List.length_cons]
  omega
theorem f9 {e:EndD} (hs:Small e):Small (bs e).1:=by
 rw [bs];split
 ·exact o0 hs
 exact hs
theorem jV (e:EndD):(bs e).2.length≤64:=by
 rw [bs];split
 ·exact Nat.le_trans uN (jP _ _)
 simp
theorem iH {e:EndD} (hs:Small e):Small (dt e).1:=by
 have hy:=mj e.halfs (e.now+1)
 have:=hs.halfs
 rw [dt];split
 ·split
  ·rw [ea];exact i3 ⟨hs.own,hs.far,by dsimp only;rw [List.length_map];exact hs.subs,by dsimp only [oU];omega,hs.list,hs.done,hs.over⟩
  rw [ea];exact i3 ⟨hs.own,hs.far,hs.subs,by dsimp only [oU];omega,hs.list,hs.done,hs.over⟩
 exact hs
theorem o1 (e:EndD) (l:List LetterD):(ea e l).2.length≤l.length+e.own.length+3:=by
 have h1:=jT e
 have h2:=kV (k:=3) (e:=e)
 rw [ea]
 simp only [List.length_append]
 omega
theorem nq (e:EndD):(dt e).2.length≤64:=by
 rw [dt];split
 ·rename_i h
  simp only [Fl,Bool.and_eq_true] at h
  have h8:=dr h.1.1
  have h6:=uM h.1.1
  have hfl:(e.subs.flatMap (eP e)).length≤e.subs.length:=nm (lc e) _
  split
  ·refine Nat.le_trans (o1 _ _) ?_
   show (e.subs.flatMap (eP e)).length+e.own.length+3≤64
   omega
  refine Nat.le_trans (o1 _ _) ?_
  show 0+e.own.length+3≤64
  omega
 simp
structure SmallD (w:WorldD):Prop where
 p:SmallWP w
 s:SmallS w
 oa:w.a.out.text.length≤1048576
 ob:w.b.out.text.length≤1048576
theorem jW {e:EndD} {t:List UInt8} (h:e.out.text.length≤1048576):(cp e t).1.out.text.length≤1048576:=by
 rw [cp];split
 ·dsimp only
  rw [fr];split
  ·rename_i ho
   simp only [i2,Bool.and_eq_true] at ho
   have F:=fq ho.1
   have:=nZ (t:=t) F
   have:=F.room
   dsimp only
   rw [List.length_append,List.length_take]
   omega
  exact h
 exact h
theorem lf {e:EndD} {m:Int} (h:SmallP e.inp):(bu e m).2.length≤1048576:=by
 have:=h.ready
 rw [bu];split
 ·dsimp only
  rw [cz];split
  ·dsimp only;rw [List.length_take];omega
  simp
 simp
theorem wk (w:WorldD) (pos many:Int) (text:List UInt8) (ad:AddrD) (le:LetterD) (hw:SmallD w) (htx:text.length≤1048576):
  ae Tryz.prog 68 [.sc (.pt 21 0 0),.ag (ActD.cs ⟨1,1,pos,many,text,ad,le⟩)] (w.hp true++[some ⟨[w.cs 0],61,51,true,false⟩]) (.sc (.int .i64 0))
  ([none,none,none,none,none,none,none,none,none,none,none,none,none,none,none,none,none,none,none,none,none,some ⟨[WorldD.cs (aq 1 { w with wroteA:=w.wroteA++text.take (cp w.a text).2,a:=(aS w.a text).1 } (aS w.a text).2) 22],61,51,true,false⟩]++WorldD.hp (aq 1 { w with wroteA:=w.wroteA++text.take (cp w.a text).2,a:=(aS w.a text).1 } (aS w.a text).2) true):=by
 have q1:=hw.s.wa
 have q2:=hw.s.wb
 have q3:=hw.s.ra
 have q4:=hw.s.rb
 have hX:=lP w.a text hw.p.s.a htx (jW hw.oa)
 have hsm:=eQ (t:=text) hw.p.s.a
 have hlen:=ie w.a text
 have hEA:ae Tryz.prog 144 [.ag (w.cs 0),.sc (.int .i64 1)] (w.hp false) (.ag (w.a.cs 21)) (w.hp false++w.a.hp true):=bF w 1 hw.p.s.a.own hw.p.s.a.far hw.p.s.a.subs hw.p.s.a.halfs hw.p.s.a.list hw.p.s.a.done hw.p.s.a.over hw.p.s.b.own hw.p.s.b.far hw.p.s.b.subs hw.p.s.b.halfs hw.p.s.b.list hw.p.s.b.done hw.p.s.b.over
 have hX2:=me w.a text hw.p.s.a htx
 have hwl:=ne w.a text
 obtain⟨wr,hwr⟩:∃ p,p=cp w.a text:=⟨_,rfl⟩
 rw [←hwr] at hX2 hwl⊢
 obtain⟨e0,n0⟩:=wr
 dsimp only at hX2 hwl⊢
 obtain⟨pr,hpr⟩:∃ p,p=aS w.a text:=⟨_,rfl⟩
 rw [←hpr] at hX hsm hlen⊢
 obtain⟨e1,l1⟩:=pr
 dsimp only at hX hsm hlen⊢
 have hset:=fL { w with wroteA:=w.wroteA++text.take n0 } e1
 have hpost:=eM { w with wroteA:=w.wroteA++text.take n0,a:=e1 } l1 ⟨hw.p.s.bag,hw.p.s.past,hw.p.s.keys,hw.p.s.tags,hw.p.s.nums,hw.p.s.ansA,hw.p.s.ansB⟩ (by first|omega|simp)
 have hends:=aE (side:=1) (l:=l1) (w:={ w with wroteA:=w.wroteA++text.take n0,a:=e1 })
 obtain⟨R,hR⟩:∃ R,R=aq 1 { w with wroteA:=w.wroteA++text.take n0,a:=e1 } l1:=⟨_,rfl⟩
 rw [←hR] at hpost hends⊢
 clear hR
 obtain⟨ra,rb,bag,past,wA,wB,rA,rB,known,nums,nsA,nsB⟩:=R
 obtain⟨keys,tags⟩:=known
 dsimp only at hends
 obtain⟨g1,g2,g3,g4,g5,g6⟩:=hends
 replace g1:=g1.symm
 replace g2:=g2.symm
 replace g3:=g3.symm
 replace g4:=g4.symm
 replace g5:=g5.symm
 replace g6:=g6.symm
 subst g1 g2 g3 g4 g5 g6
 have htk:(text.take n0).length=n0:=by rw [List.length_take];omega
 refine aN Tryz.func68 (by kernel_rfl) rfl fun E hE=>ac 400 ?_
 simp (disch:=omega) only [Tryz.ntmps68,Tryz.results68,go_sem,Nat.reduceEqDiff,Nat.reduceAdd,Nat.reduceSub,Int.reduceAdd,Int.reduceSub,Int.reduceToNat]
 refine aI [(5,6)] [] [(qU [0,8]),[0,1,2,3,4,6,5,7]] 22 hE (fun s=>s.at (qU [13,6]) [(5,.sc (.pt 30 0 0))] (s.hp++(w.a.hp true++[some ⟨[w.a.cs 23],25,45,true,false⟩]))) (by kernel_rfl) (qC) (by kernel_rfl) ?_ (ac 400 ?_)
 rotate_left
 rotate_right
 simp only [aQ]
 refine⟨aa 400 ?_,aa 400 ?_⟩
 ·simp (disch:=omega) only [go_sem]
  refine am (qC) (hEA) (qI 0 21) qM (by rfl) (by rfl) (aa 400 ?_)
  simp (disch:=omega) only [go_sem,Nat.reduceEqDiff,Nat.reduceAdd,Nat.reduceSub,Int.reduceAdd,Int.reduceSub,Int.reduceToNat]
  refine⟨qC,(qI 0 31),ab (by rfl) (by rfl) ?_⟩
  try simp (disch:=omega) only [go_sem,Nat.reduceEqDiff,Nat.reduceAdd,Nat.reduceSub,Int.reduceAdd,Int.reduceSub,Int.reduceToNat]
 ·simp (disch:=omega) only [go_sem]
  refine am (qC) (hEA) (qI 0 21) qM (by rfl) (by rfl) (aa 400 ?_)
  simp (disch:=omega) only [go_sem,Nat.reduceEqDiff,Nat.reduceAdd,Nat.reduceSub,Int.reduceAdd,Int.reduceSub,Int.reduceToNat]
  refine⟨qC,(qI 0 23++qI 24 7++qI 23 1),ab (by rfl) (by rfl) ?_⟩
  try simp (disch:=omega) only [go_sem,Nat.reduceEqDiff,Nat.reduceAdd,Nat.reduceSub,Int.reduceAdd,Int.reduceSub,Int.reduceToNat]
 try simp (disch:=omega) only [go_sem,Nat.reduceEqDiff,Nat.reduceAdd,Nat.reduceSub,Int.reduceAdd,Int.reduceSub,Int.reduceToNat]
 refine al (qC) (hX2) (qI 23 7) qM (by rfl) (ac 400 ?_)
 simp (disch:=omega) only [go_sem,Nat.reduceEqDiff,Nat.reduceAdd,Nat.reduceSub,Int.reduceAdd,Int.reduceSub,Int.reduceToNat]
 refine al (qC) (hX) (qI 23 7) qM (by rfl) (ac 400 ?_)
 simp (disch:=omega) only [go_sem,Nat.reduceEqDiff,Nat.reduceAdd,Nat.reduceSub,Int.reduceAdd,Int.reduceSub,Int.reduceToNat]
 refine ar (qU [0,12]) (by kernel_rfl) (qC) (by kernel_rfl) (aa 400 ?_)
 simp (disch:=omega) only [go_sem,Nat.reduceEqDiff,Nat.reduceAdd,Nat.reduceSub,Int.reduceAdd,Int.reduceSub,Int.reduceToNat]
 refine⟨qC,ac 400 ?_⟩
 try simp (disch:=omega) only [go_sem,Nat.reduceEqDiff,Nat.reduceAdd,Nat.reduceSub,Int.reduceAdd,Int.reduceSub,Int.reduceToNat]
 refine al (qC) (hset) (qI 0 21++qI 39 7++qI 21 1) qM (by rfl) (ac 400 ?_)
 simp (disch:=omega) only [go_sem,Nat.reduceEqDiff,Nat.reduceAdd,Nat.reduceSub,Int.reduceAdd,Int.reduceSub,Int.reduceToNat]
 refine al (qC) (hpost) (qI 39 7++qI 7 15++qI 46 1) qM (by rfl) (ac 400 ?_)
 simp (disch:=omega) only [go_sem,Nat.reduceEqDiff,Nat.reduceAdd,Nat.reduceSub,Int.reduceAdd,Int.reduceSub,Int.reduceToNat]
 refine aA (qI 0 22++qI 39 7++qI 7 7++qI 47 7) (qC) _ (by simp only [go_sem];rfl) (by rfl) (by rfl) ?_
 simp (disch:=omega) only [go_sem,Nat.reduceEqDiff,Nat.reduceAdd,Nat.reduceSub,Int.reduceAdd,Int.reduceSub,Int.reduceToNat]
theorem wl (w:WorldD) (pos many:Int) (text:List UInt8) (ad:AddrD) (le:LetterD) (hw:SmallD w) (htx:text.length≤1048576):
  ae Tryz.prog 68 [.sc (.pt 21 0 0),.ag (ActD.cs ⟨2,1,pos,many,text,ad,le⟩)] (w.hp true++[some ⟨[w.cs 0],61,51,true,false⟩]) (.sc (.int .i64 0))
  ([none,none,none,none,none,none,none,none,none,none,none,none,none,none,none,none,none,none,none,none,none,some ⟨[WorldD.cs (aq 1 { w with readA:=w.readA++(bu w.a many).2,a:=((bu w.a many).1,([]:List LetterD)).1 } ((bu w.a many).1,([]:List LetterD)).2) 22],61,51,true,false⟩]++WorldD.hp (aq 1 { w with readA:=w.readA++(bu w.a many).2,a:=((bu w.a many).1,([]:List LetterD)).1 } ((bu w.a many).1,([]:List LetterD)).2) true):=by
 have q1:=hw.s.wa
 have q2:=hw.s.wb
 have q3:=hw.s.ra
 have q4:=hw.s.rb
 have hX:=uE w.a many hw.p.s.a hw.p.pa
 have hsm:=gP (m:=many) hw.p.s.a
 have hEA:ae Tryz.prog 144 [.ag (w.cs 0),.sc (.int .i64 1)] (w.hp false) (.ag (w.a.cs 21)) (w.hp false++w.a.hp true):=bF w 1 hw.p.s.a.own hw.p.s.a.far hw.p.s.a.subs hw.p.s.a.halfs hw.p.s.a.list hw.p.s.a.done hw.p.s.a.over hw.p.s.b.own hw.p.s.b.far hw.p.s.b.subs hw.p.s.b.halfs hw.p.s.b.list hw.p.s.b.done hw.p.s.b.over
 obtain⟨pr,hpr⟩:∃ p,p=bu w.a many:=⟨_,rfl⟩
 have hrl:(bu w.a many).2.length≤1048576:=lf hw.p.pa
 rw [←hpr] at hX hsm hrl⊢
 obtain⟨e1,t1⟩:=pr
 dsimp only at hX hsm hrl⊢
 obtain⟨l1,hl1⟩:∃ l:List LetterD,l=[]:=⟨_,rfl⟩
 have hlen:l1.length≤1:=by rw [hl1];simp
 have hset:=fL { w with readA:=w.readA++t1 } e1
 have hpost:=eM { w with readA:=w.readA++t1,a:=e1 } [] ⟨hw.p.s.bag,hw.p.s.past,hw.p.s.keys,hw.p.s.tags,hw.p.s.nums,hw.p.s.ansA,hw.p.s.ansB⟩ (by first|omega|simp)
 have hends:=aE (side:=1) (l:=[]) (w:={ w with readA:=w.readA++t1,a:=e1 })
 obtain⟨R,hR⟩:∃ R,R=aq 1 { w with readA:=w.readA++t1,a:=e1 } []:=⟨_,rfl⟩
 rw [←hR] at hpost hends⊢
 clear hR
 obtain⟨ra,rb,bag,past,wA,wB,rA,rB,known,nums,nsA,nsB⟩:=R
 obtain⟨keys,tags⟩:=known
 dsimp only at hends
 obtain⟨g1,g2,g3,g4,g5,g6⟩:=hends
 replace g1:=g1.symm
 replace g2:=g2.symm
 replace g3:=g3.symm
 replace g4:=g4.symm
 replace g5:=g5.symm
 replace g6:=g6.symm
 subst g1 g2 g3 g4 g5 g6
 refine aN Tryz.func68 (by kernel_rfl) rfl fun E hE=>ac 400 ?_
 simp (disch:=omega) only [Tryz.ntmps68,Tryz.results68,go_sem,Nat.reduceEqDiff,Nat.reduceAdd,Nat.reduceSub,Int.reduceAdd,Int.reduceSub,Int.reduceToNat]
 refine aI [(5,6)] [] [(qU [0,8]),[0,1,2,3,4,6,5,7]] 22 hE (fun s=>s.at (qU [13,6]) [(5,.sc (.pt 30 0 0))] (s.hp++(w.a.hp true++[some ⟨[w.a.cs 23],25,45,true,false⟩]))) (by kernel_rfl) (qC) (by kernel_rfl) ?_ (ac 400 ?_)
 rotate_left
 rotate_right
 simp only [aQ]
 refine⟨aa 400 ?_,aa 400 ?_⟩
 ·simp (disch:=omega) only [go_sem]
  refine am (qC) (hEA) (qI 0 21) qM (by rfl) (by rfl) (aa 400 ?_)
  simp (disch:=omega) only [go_sem,Nat.reduceEqDiff,Nat.reduceAdd,Nat.reduceSub,Int.reduceAdd,Int.reduceSub,Int.reduceToNat]
  refine⟨qC,(qI 0 31),ab (by rfl) (by rfl) ?_⟩
  try simp (disch:=omega) only [go_sem,Nat.reduceEqDiff,Nat.reduceAdd,Nat.reduceSub,Int.reduceAdd,Int.reduceSub,Int.reduceToNat]
 ·simp (disch:=omega) only [go_sem]
  refine am (qC) (hEA) (qI 0 21) qM (by rfl) (by rfl) (aa 400 ?_)
  simp (disch:=omega) only [go_sem,Nat.reduceEqDiff,Nat.reduceAdd,Nat.reduceSub,Int.reduceAdd,Int.reduceSub,Int.reduceToNat]
  refine⟨qC,(qI 0 23++qI 24 7++qI 23 1),ab (by rfl) (by rfl) ?_⟩
  try simp (disch:=omega) only [go_sem,Nat.reduceEqDiff,Nat.reduceAdd,Nat.reduceSub,Int.reduceAdd,Int.reduceSub,Int.reduceToNat]
 try simp (disch:=omega) only [go_sem,Nat.reduceEqDiff,Nat.reduceAdd,Nat.reduceSub,Int.reduceAdd,Int.reduceSub,Int.reduceToNat]
 refine al (qC) (hX) (qI 23 7) qM (by rfl) (ac 400 ?_)
 simp (disch:=omega) only [go_sem,Nat.reduceEqDiff,Nat.reduceAdd,Nat.reduceSub,Int.reduceAdd,Int.reduceSub,Int.reduceToNat]
 refine al (qC) (hset) (qI 0 21++qI 31 7++qI 21 1) qM (by rfl) (ac 400 ?_)
 simp (disch:=omega) only [go_sem,Nat.reduceEqDiff,Nat.reduceAdd,Nat.reduceSub,Int.reduceAdd,Int.reduceSub,Int.reduceToNat]
 refine al (qC) (hpost) (qI 31 7++qI 7 15++qO 1) qM (by rfl) (ac 400 ?_)
 simp (disch:=omega) only [go_sem,Nat.reduceEqDiff,Nat.reduceAdd,Nat.reduceSub,Int.reduceAdd,Int.reduceSub,Int.reduceToNat]
 refine aA (qI 0 22++qI 31 7++qI 7 7++qI 39 7) (qC) _ (by simp only [go_sem];rfl) (by rfl) (by rfl) ?_
 simp (disch:=omega) only [go_sem,Nat.reduceEqDiff,Nat.reduceAdd,Nat.reduceSub,Int.reduceAdd,Int.reduceSub,Int.reduceToNat]
theorem wm (w:WorldD) (pos many:Int) (text:List UInt8) (ad:AddrD) (le:LetterD) (hw:SmallD w) (htx:text.length≤1048576):
  ae Tryz.prog 68 [.sc (.pt 21 0 0),.ag (ActD.cs ⟨4,1,pos,many,text,ad,le⟩)] (w.hp true++[some ⟨[w.cs 0],61,51,true,false⟩]) (.sc (.int .i64 0))
  ([none,none,none,none,none,none,none,none,none,none,none,none,none,none,none,none,none,none,none,none,none,some ⟨[WorldD.cs (aq 1 { w with a:=(bs w.a).1 } (bs w.a).2) 22],61,51,true,false⟩]++WorldD.hp (aq 1 { w with a:=(bs w.a).1 } (bs w.a).2) true):=by
 have q1:=hw.s.wa
 have q2:=hw.s.wb
 have q3:=hw.s.ra
 have q4:=hw.s.rb
 have hX:=oW w.a hw.p.s.a
 have hsm:=f9 hw.p.s.a
 have hlen:=jV w.a
 have hEA:ae Tryz.prog 144 [.ag (w.cs 0),.sc (.int .i64 1)] (w.hp false) (.ag (w.a.cs 21)) (w.hp false++w.a.hp true):=bF w 1 hw.p.s.a.own hw.p.s.a.far hw.p.s.a.subs hw.p.s.a.halfs hw.p.s.a.list hw.p.s.a.done hw.p.s.a.over hw.p.s.b.own hw.p.s.b.far hw.p.s.b.subs hw.p.s.b.halfs hw.p.s.b.list hw.p.s.b.done hw.p.s.b.over
 obtain⟨pr,hpr⟩:∃ p,p=bs w.a:=⟨_,rfl⟩
 rw [←hpr] at hX hsm hlen⊢
 obtain⟨e1,l1⟩:=pr
 dsimp only at hX hsm hlen⊢
 have hset:=fL w e1
 have hpost:=eM { w with a:=e1 } l1 ⟨hw.p.s.bag,hw.p.s.past,hw.p.s.keys,hw.p.s.tags,hw.p.s.nums,hw.p.s.ansA,hw.p.s.ansB⟩ (by first|omega|simp)
 have hends:=aE (side:=1) (l:=l1) (w:={ w with a:=e1 })
 obtain⟨R,hR⟩:∃ R,R=aq 1 { w with a:=e1 } l1:=⟨_,rfl⟩
 rw [←hR] at hpost hends⊢
 clear hR
 obtain⟨ra,rb,bag,past,wA,wB,rA,rB,known,nums,nsA,nsB⟩:=R
 obtain⟨keys,tags⟩:=known
 dsimp only at hends
 obtain⟨g1,g2,g3,g4,g5,g6⟩:=hends
 replace g1:=g1.symm
 replace g2:=g2.symm
 replace g3:=g3.symm
 replace g4:=g4.symm
 replace g5:=g5.symm
 replace g6:=g6.symm
 subst g1 g2 g3 g4 g5 g6
 refine aN Tryz.func68 (by kernel_rfl) rfl fun E hE=>ac 400 ?_
 simp (disch:=omega) only [Tryz.ntmps68,Tryz.results68,go_sem,Nat.reduceEqDiff,Nat.reduceAdd,Nat.reduceSub,Int.reduceAdd,Int.reduceSub,Int.reduceToNat]
 refine aI [(5,6)] [] [(qU [0,8]),[0,1,2,3,4,6,5,7]] 22 hE (fun s=>s.at (qU [13,6]) [(5,.sc (.pt 30 0 0))] (s.hp++(w.a.hp true++[some ⟨[w.a.cs 23],25,45,true,false⟩]))) (by kernel_rfl) (qC) (by kernel_rfl) ?_ (ac 400 ?_)
 rotate_left
 rotate_right
 simp only [aQ]
 refine⟨aa 400 ?_,aa 400 ?_⟩
 ·simp (disch:=omega) only [go_sem]
  refine am (qC) (hEA) (qI 0 21) qM (by rfl) (by rfl) (aa 400 ?_)
  simp (disch:=omega) only [go_sem,Nat.reduceEqDiff,Nat.reduceAdd,Nat.reduceSub,Int.reduceAdd,Int.reduceSub,Int.reduceToNat]
  refine⟨qC,(qI 0 31),ab (by rfl) (by rfl) ?_⟩
  try simp (disch:=omega) only [go_sem,Nat.reduceEqDiff,Nat.reduceAdd,Nat.reduceSub,Int.reduceAdd,Int.reduceSub,Int.reduceToNat]
 ·simp (disch:=omega) only [go_sem]
  refine am (qC) (hEA) (qI 0 21) qM (by rfl) (by rfl) (aa 400 ?_)
  simp (disch:=omega) only [go_sem,Nat.reduceEqDiff,Nat.reduceAdd,Nat.reduceSub,Int.reduceAdd,Int.reduceSub,Int.reduceToNat]
  refine⟨qC,(qI 0 23++qI 24 7++qI 23 1),ab (by rfl) (by rfl) ?_⟩
  try simp (disch:=omega) only [go_sem,Nat.reduceEqDiff,Nat.reduceAdd,Nat.reduceSub,Int.reduceAdd,Int.reduceSub,Int.reduceToNat]
 try simp (disch:=omega) only [go_sem,Nat.reduceEqDiff,Nat.reduceAdd,Nat.reduceSub,Int.reduceAdd,Int.reduceSub,Int.reduceToNat]
 refine al (qC) (hX) (qI 23 7) qM (by rfl) (ac 400 ?_)
 simp (disch:=omega) only [go_sem,Nat.reduceEqDiff,Nat.reduceAdd,Nat.reduceSub,Int.reduceAdd,Int.reduceSub,Int.reduceToNat]
 refine al (qC) (hset) (qI 0 21++qI 31 7++qI 21 1) qM (by rfl) (ac 400 ?_)
 simp (disch:=omega) only [go_sem,Nat.reduceEqDiff,Nat.reduceAdd,Nat.reduceSub,Int.reduceAdd,Int.reduceSub,Int.reduceToNat]
 refine al (qC) (hpost) (qI 31 7++qI 7 15++qI 38 1) qM (by rfl) (ac 400 ?_)
 simp (disch:=omega) only [go_sem,Nat.reduceEqDiff,Nat.reduceAdd,Nat.reduceSub,Int.reduceAdd,Int.reduceSub,Int.reduceToNat]
 refine aA (qI 0 22++qI 31 7++qI 7 7++qI 39 7) (qC) _ (by simp only [go_sem];rfl) (by rfl) (by rfl) ?_
 simp (disch:=omega) only [go_sem,Nat.reduceEqDiff,Nat.reduceAdd,Nat.reduceSub,Int.reduceAdd,Int.reduceSub,Int.reduceToNat]
theorem wn (w:WorldD) (pos many:Int) (text:List UInt8) (ad:AddrD) (le:LetterD) (hw:SmallD w) (htx:text.length≤1048576) (hsd:aZ ad.addr=1) (hgood:(aB w.a ad).2=true):
  ae Tryz.prog 68 [.sc (.pt 21 0 0),.ag (ActD.cs ⟨5,1,pos,many,text,ad,le⟩)] (w.hp true++[some ⟨[w.cs 0],61,51,true,false⟩]) (.sc (.int .i64 0))
  ([none,none,none,none,none,none,none,none,none,none,none,none,none,none,none,none,none,none,none,none,none,some ⟨[WorldD.cs (aq 1 { w with a:=((aB w.a ad).1,([]:List LetterD)).1 } ((aB w.a ad).1,([]:List LetterD)).2) 22],61,51,true,false⟩]++WorldD.hp (aq 1 { w with a:=((aB w.a ad).1,([]:List LetterD)).1 } ((aB w.a ad).1,([]:List LetterD)).2) true):=by
 have q1:=hw.s.wa
 have q2:=hw.s.wb
 have q3:=hw.s.ra
 have q4:=hw.s.rb
 have hX:=i4 w.a ad hw.p.s.a
 have hsm:=df (a:=ad) hw.p.s.a
 have hEA:ae Tryz.prog 144 [.ag (w.cs 0),.sc (.int .i64 1)] (w.hp false) (.ag (w.a.cs 21)) (w.hp false++w.a.hp true):=bF w 1 hw.p.s.a.own hw.p.s.a.far hw.p.s.a.subs hw.p.s.a.halfs hw.p.s.a.list hw.p.s.a.done hw.p.s.a.over hw.p.s.b.own hw.p.s.b.far hw.p.s.b.subs hw.p.s.b.halfs hw.p.s.b.list hw.p.s.b.done hw.p.s.b.over
 obtain⟨pr,hpr⟩:∃ p,p=aB w.a ad:=⟨_,rfl⟩
 rw [←hpr] at hX hsm hgood⊢
 obtain⟨e1,ok1⟩:=pr
 dsimp only at hX hsm hgood⊢
 subst hgood
 obtain⟨l1,hl1⟩:∃ l:List LetterD,l=[]:=⟨_,rfl⟩
 have hlen:l1.length≤1:=by rw [hl1];simp
 have hset:=fL w e1
 have hpost:=eM { w with a:=e1 } [] ⟨hw.p.s.bag,hw.p.s.past,hw.p.s.keys,hw.p.s.tags,hw.p.s.nums,hw.p.s.ansA,hw.p.s.ansB⟩ (by first|omega|simp)
 have hends:=aE (side:=1) (l:=[]) (w:={ w with a:=e1 })
 obtain⟨R,hR⟩:∃ R,R=aq 1 { w with a:=e1 } []:=⟨_,rfl⟩
 rw [←hR] at hpost hends⊢
 clear hR
 obtain⟨ra,rb,bag,past,wA,wB,rA,rB,known,nums,nsA,nsB⟩:=R
 obtain⟨keys,tags⟩:=known
 dsimp only at hends
 obtain⟨g1,g2,g3,g4,g5,g6⟩:=hends
 replace g1:=g1.symm
 replace g2:=g2.symm
 replace g3:=g3.symm
 replace g4:=g4.symm
 replace g5:=g5.symm
 replace g6:=g6.symm
 subst g1 g2 g3 g4 g5 g6
 have hSd:=dC ad.addr
 rw [hsd] at hSd
 refine aN Tryz.func68 (by kernel_rfl) rfl fun E hE=>ac 400 ?_
 simp (disch:=omega) only [Tryz.ntmps68,Tryz.results68,go_sem,Nat.reduceEqDiff,Nat.reduceAdd,Nat.reduceSub,Int.reduceAdd,Int.reduceSub,Int.reduceToNat]
 refine aI [(5,6)] [] [(qU [0,8]),[0,1,2,3,4,6,5,7]] 22 hE (fun s=>s.at (qU [13,6]) [(5,.sc (.pt 30 0 0))] (s.hp++(w.a.hp true++[some ⟨[w.a.cs 23],25,45,true,false⟩]))) (by kernel_rfl) (qC) (by kernel_rfl) ?_ (ac 400 ?_)
 rotate_left
 rotate_right
 simp only [aQ]
 refine⟨aa 400 ?_,aa 400 ?_⟩
 ·simp (disch:=omega) only [go_sem]
  refine am (qC) (hEA) (qI 0 21) qM (by rfl) (by rfl) (aa 400 ?_)
  simp (disch:=omega) only [go_sem,Nat.reduceEqDiff,Nat.reduceAdd,Nat.reduceSub,Int.reduceAdd,Int.reduceSub,Int.reduceToNat]
  refine⟨qC,(qI 0 31),ab (by rfl) (by rfl) ?_⟩
  try simp (disch:=omega) only [go_sem,Nat.reduceEqDiff,Nat.reduceAdd,Nat.reduceSub,Int.reduceAdd,Int.reduceSub,Int.reduceToNat]
 ·simp (disch:=omega) only [go_sem]
  refine am (qC) (hEA) (qI 0 21) qM (by rfl) (by rfl) (aa 400 ?_)
  simp (disch:=omega) only [go_sem,Nat.reduceEqDiff,Nat.reduceAdd,Nat.reduceSub,Int.reduceAdd,Int.reduceSub,Int.reduceToNat]
  refine⟨qC,(qI 0 23++qI 24 7++qI 23 1),ab (by rfl) (by rfl) ?_⟩
  try simp (disch:=omega) only [go_sem,Nat.reduceEqDiff,Nat.reduceAdd,Nat.reduceSub,Int.reduceAdd,Int.reduceSub,Int.reduceToNat]
 try simp (disch:=omega) only [go_sem,Nat.reduceEqDiff,Nat.reduceAdd,Nat.reduceSub,Int.reduceAdd,Int.reduceSub,Int.reduceToNat]
 refine al (qC) (hX) (qI 23 7) qM (by rfl) (ac 400 ?_)
 simp (disch:=omega) only [go_sem,Nat.reduceEqDiff,Nat.reduceAdd,Nat.reduceSub,Int.reduceAdd,Int.reduceSub,Int.reduceToNat]
 refine ar (qU [0,3,4,2,3,1,6,5]) (by kernel_rfl) (qC) (by kernel_rfl) (aa 400 ?_)
 simp (disch:=omega) only [go_sem,Nat.reduceEqDiff,Nat.reduceAdd,Nat.reduceSub,Int.reduceAdd,Int.reduceSub,Int.reduceToNat]
 refine am (qC) (hSd) [] qM (by rfl) (by rfl) (aa 400 ?_)
 simp (disch:=omega) only [go_sem,Nat.reduceEqDiff,Nat.reduceAdd,Nat.reduceSub,Int.reduceAdd,Int.reduceSub,Int.reduceToNat]
 refine⟨qC,ac 400 ?_⟩
 try simp (disch:=omega) only [go_sem,Nat.reduceEqDiff,Nat.reduceAdd,Nat.reduceSub,Int.reduceAdd,Int.reduceSub,Int.reduceToNat]
 refine al (qC) (hset) (qI 0 21++qI 31 7++qI 21 1) qM (by rfl) (ac 400 ?_)
 simp (disch:=omega) only [go_sem,Nat.reduceEqDiff,Nat.reduceAdd,Nat.reduceSub,Int.reduceAdd,Int.reduceSub,Int.reduceToNat]
 refine al (qC) (hpost) (qI 31 7++qI 7 15++qO 1) qM (by rfl) (ac 400 ?_)
 simp (disch:=omega) only [go_sem,Nat.reduceEqDiff,Nat.reduceAdd,Nat.reduceSub,Int.reduceAdd,Int.reduceSub,Int.reduceToNat]
 refine aA (qI 0 22++qI 31 7++qI 7 7++qI 39 7) (qC) _ (by simp only [go_sem];rfl) (by rfl) (by rfl) ?_
 simp (disch:=omega) only [go_sem,Nat.reduceEqDiff,Nat.reduceAdd,Nat.reduceSub,Int.reduceAdd,Int.reduceSub,Int.reduceToNat]
theorem wo (w:WorldD) (pos many:Int) (text:List UInt8) (ad:AddrD) (le:LetterD) (hw:SmallD w) (htx:text.length≤1048576):
  ae Tryz.prog 68 [.sc (.pt 21 0 0),.ag (ActD.cs ⟨6,1,pos,many,text,ad,le⟩)] (w.hp true++[some ⟨[w.cs 0],61,51,true,false⟩]) (.sc (.int .i64 0))
  ([none,none,none,none,none,none,none,none,none,none,none,none,none,none,none,none,none,none,none,none,none,some ⟨[WorldD.cs (aq 1 { w with a:=(bb w.a pos).1 } (bb w.a pos).2) 22],61,51,true,false⟩]++WorldD.hp (aq 1 { w with a:=(bb w.a pos).1 } (bb w.a pos).2) true):=by
 have q1:=hw.s.wa
 have q2:=hw.s.wb
 have q3:=hw.s.ra
 have q4:=hw.s.rb
 have hX:=nk w.a pos hw.p.s.a
 have hsm:=fg (n:=pos) hw.p.s.a
 have hlen:=i6 w.a pos hw.p.s.a
 have hEA:ae Tryz.prog 144 [.ag (w.cs 0),.sc (.int .i64 1)] (w.hp false) (.ag (w.a.cs 21)) (w.hp false++w.a.hp true):=bF w 1 hw.p.s.a.own hw.p.s.a.far hw.p.s.a.subs hw.p.s.a.halfs hw.p.s.a.list hw.p.s.a.done hw.p.s.a.over hw.p.s.b.own hw.p.s.b.far hw.p.s.b.subs hw.p.s.b.halfs hw.p.s.b.list hw.p.s.b.done hw.p.s.b.over
 obtain⟨pr,hpr⟩:∃ p,p=bb w.a pos:=⟨_,rfl⟩
 rw [←hpr] at hX hsm hlen⊢
 obtain⟨e1,l1⟩:=pr
 dsimp only at hX hsm hlen⊢
 have hset:=fL w e1
 have hpost:=eM { w with a:=e1 } l1 ⟨hw.p.s.bag,hw.p.s.past,hw.p.s.keys,hw.p.s.tags,hw.p.s.nums,hw.p.s.ansA,hw.p.s.ansB⟩ (by first|omega|simp)
 have hends:=aE (side:=1) (l:=l1) (w:={ w with a:=e1 })
 obtain⟨R,hR⟩:∃ R,R=aq 1 { w with a:=e1 } l1:=⟨_,rfl⟩
 rw [←hR] at hpost hends⊢
 clear hR
 obtain⟨ra,rb,bag,past,wA,wB,rA,rB,known,nums,nsA,nsB⟩:=R
 obtain⟨keys,tags⟩:=known
 dsimp only at hends
 obtain⟨g1,g2,g3,g4,g5,g6⟩:=hends
 replace g1:=g1.symm
 replace g2:=g2.symm
 replace g3:=g3.symm
 replace g4:=g4.symm
 replace g5:=g5.symm
 replace g6:=g6.symm
 subst g1 g2 g3 g4 g5 g6
 refine aN Tryz.func68 (by kernel_rfl) rfl fun E hE=>ac 400 ?_
 simp (disch:=omega) only [Tryz.ntmps68,Tryz.results68,go_sem,Nat.reduceEqDiff,Nat.reduceAdd,Nat.reduceSub,Int.reduceAdd,Int.reduceSub,Int.reduceToNat]
 refine aI [(5,6)] [] [(qU [0,8]),[0,1,2,3,4,6,5,7]] 22 hE (fun s=>s.at (qU [13,6]) [(5,.sc (.pt 30 0 0))] (s.hp++(w.a.hp true++[some ⟨[w.a.cs 23],25,45,true,false⟩]))) (by kernel_rfl) (qC) (by kernel_rfl) ?_ (ac 400 ?_)
 rotate_left
 rotate_right
 simp only [aQ]
 refine⟨aa 400 ?_,aa 400 ?_⟩
 ·simp (disch:=omega) only [go_sem]
  refine am (qC) (hEA) (qI 0 21) qM (by rfl) (by rfl) (aa 400 ?_)
  simp (disch:=omega) only [go_sem,Nat.reduceEqDiff,Nat.reduceAdd,Nat.reduceSub,Int.reduceAdd,Int.reduceSub,Int.reduceToNat]
  refine⟨qC,(qI 0 31),ab (by rfl) (by rfl) ?_⟩
  try simp (disch:=omega) only [go_sem,Nat.reduceEqDiff,Nat.reduceAdd,Nat.reduceSub,Int.reduceAdd,Int.reduceSub,Int.reduceToNat]
 ·simp (disch:=omega) only [go_sem]
  refine am (qC) (hEA) (qI 0 21) qM (by rfl) (by rfl) (aa 400 ?_)
  simp (disch:=omega) only [go_sem,Nat.reduceEqDiff,Nat.reduceAdd,Nat.reduceSub,Int.reduceAdd,Int.reduceSub,Int.reduceToNat]
  refine⟨qC,(qI 0 23++qI 24 7++qI 23 1),ab (by rfl) (by rfl) ?_⟩
  try simp (disch:=omega) only [go_sem,Nat.reduceEqDiff,Nat.reduceAdd,Nat.reduceSub,Int.reduceAdd,Int.reduceSub,Int.reduceToNat]
 try simp (disch:=omega) only [go_sem,Nat.reduceEqDiff,Nat.reduceAdd,Nat.reduceSub,Int.reduceAdd,Int.reduceSub,Int.reduceToNat]
 refine al (qC) (hX) (qI 23 7) qM (by rfl) (ac 400 ?_)
 simp (disch:=omega) only [go_sem,Nat.reduceEqDiff,Nat.reduceAdd,Nat.reduceSub,Int.reduceAdd,Int.reduceSub,Int.reduceToNat]
 refine al (qC) (hset) (qI 0 21++qI 31 7++qI 21 1) qM (by rfl) (ac 400 ?_)
 simp (disch:=omega) only [go_sem,Nat.reduceEqDiff,Nat.reduceAdd,Nat.reduceSub,Int.reduceAdd,Int.reduceSub,Int.reduceToNat]
 refine al (qC) (hpost) (qI 31 7++qI 7 15++qI 38 1) qM (by rfl) (ac 400 ?_)
 simp (disch:=omega) only [go_sem,Nat.reduceEqDiff,Nat.reduceAdd,Nat.reduceSub,Int.reduceAdd,Int.reduceSub,Int.reduceToNat]
 refine aA (qI 0 22++qI 31 7++qI 7 7++qI 39 7) (qC) _ (by simp only [go_sem];rfl) (by rfl) (by rfl) ?_
 simp (disch:=omega) only [go_sem,Nat.reduceEqDiff,Nat.reduceAdd,Nat.reduceSub,Int.reduceAdd,Int.reduceSub,Int.reduceToNat]
theorem wq (w:WorldD) (pos many:Int) (text:List UInt8) (ad:AddrD) (le:LetterD) (hw:SmallD w) (htx:text.length≤1048576):
  ae Tryz.prog 68 [.sc (.pt 21 0 0),.ag (ActD.cs ⟨7,1,pos,many,text,ad,le⟩)] (w.hp true++[some ⟨[w.cs 0],61,51,true,false⟩]) (.sc (.int .i64 0))
  ([none,none,none,none,none,none,none,none,none,none,none,none,none,none,none,none,none,none,none,none,none,some ⟨[WorldD.cs (aq 1 { w with a:=(br w.a pos).1 } (br w.a pos).2) 22],61,51,true,false⟩]++WorldD.hp (aq 1 { w with a:=(br w.a pos).1 } (br w.a pos).2) true):=by
 have q1:=hw.s.wa
 have q2:=hw.s.wb
 have q3:=hw.s.ra
 have q4:=hw.s.rb
 have hX:=si w.a pos hw.p.s.a
 have hsm:=f8 (k:=pos) hw.p.s.a
 have hlen:=jU w.a pos
 have hEA:ae Tryz.prog 144 [.ag (w.cs 0),.sc (.int .i64 1)] (w.hp false) (.ag (w.a.cs 21)) (w.hp false++w.a.hp true):=bF w 1 hw.p.s.a.own hw.p.s.a.far hw.p.s.a.subs hw.p.s.a.halfs hw.p.s.a.list hw.p.s.a.done hw.p.s.a.over hw.p.s.b.own hw.p.s.b.far hw.p.s.b.subs hw.p.s.b.halfs hw.p.s.b.list hw.p.s.b.done hw.p.s.b.over
 obtain⟨pr,hpr⟩:∃ p,p=br w.a pos:=⟨_,rfl⟩
 rw [←hpr] at hX hsm hlen⊢
 obtain⟨e1,l1⟩:=pr
 dsimp only at hX hsm hlen⊢
 have hset:=fL w e1
 have hpost:=eM { w with a:=e1 } l1 ⟨hw.p.s.bag,hw.p.s.past,hw.p.s.keys,hw.p.s.tags,hw.p.s.nums,hw.p.s.ansA,hw.p.s.ansB⟩ (by first|omega|simp)
 have hends:=aE (side:=1) (l:=l1) (w:={ w with a:=e1 })
 obtain⟨R,hR⟩:∃ R,R=aq 1 { w with a:=e1 } l1:=⟨_,rfl⟩
 rw [←hR] at hpost hends⊢
 clear hR
 obtain⟨ra,rb,bag,past,wA,wB,rA,rB,known,nums,nsA,nsB⟩:=R
 obtain⟨keys,tags⟩:=known
 dsimp only at hends
 obtain⟨g1,g2,g3,g4,g5,g6⟩:=hends
 replace g1:=g1.symm
 replace g2:=g2.symm
 replace g3:=g3.symm
 replace g4:=g4.symm
 replace g5:=g5.symm
 replace g6:=g6.symm
 subst g1 g2 g3 g4 g5 g6
 refine aN Tryz.func68 (by kernel_rfl) rfl fun E hE=>ac 400 ?_
 simp (disch:=omega) only [Tryz.ntmps68,Tryz.results68,go_sem,Nat.reduceEqDiff,Nat.reduceAdd,Nat.reduceSub,Int.reduceAdd,Int.reduceSub,Int.reduceToNat]
 refine aI [(5,6)] [] [(qU [0,8]),[0,1,2,3,4,6,5,7]] 22 hE (fun s=>s.at (qU [13,6]) [(5,.sc (.pt 30 0 0))] (s.hp++(w.a.hp true++[some ⟨[w.a.cs 23],25,45,true,false⟩]))) (by kernel_rfl) (qC) (by kernel_rfl) ?_ (ac 400 ?_)
 rotate_left
 rotate_right
 simp only [aQ]
 refine⟨aa 400 ?_,aa 400 ?_⟩
 ·simp (disch:=omega) only [go_sem]
  refine am (qC) (hEA) (qI 0 21) qM (by rfl) (by rfl) (aa 400 ?_)
  simp (disch:=omega) only [go_sem,Nat.reduceEqDiff,Nat.reduceAdd,Nat.reduceSub,Int.reduceAdd,Int.reduceSub,Int.reduceToNat]
  refine⟨qC,(qI 0 31),ab (by rfl) (by rfl) ?_⟩
  try simp (disch:=omega) only [go_sem,Nat.reduceEqDiff,Nat.reduceAdd,Nat.reduceSub,Int.reduceAdd,Int.reduceSub,Int.reduceToNat]
 ·simp (disch:=omega) only [go_sem]
  refine am (qC) (hEA) (qI 0 21) qM (by rfl) (by rfl) (aa 400 ?_)
  simp (disch:=omega) only [go_sem,Nat.reduceEqDiff,Nat.reduceAdd,Nat.reduceSub,Int.reduceAdd,Int.reduceSub,Int.reduceToNat]
  refine⟨qC,(qI 0 23++qI 24 7++qI 23 1),ab (by rfl) (by rfl) ?_⟩
  try simp (disch:=omega) only [go_sem,Nat.reduceEqDiff,Nat.reduceAdd,Nat.reduceSub,Int.reduceAdd,Int.reduceSub,Int.reduceToNat]
 try simp (disch:=omega) only [go_sem,Nat.reduceEqDiff,Nat.reduceAdd,Nat.reduceSub,Int.reduceAdd,Int.reduceSub,Int.reduceToNat]
 refine al (qC) (hX) (qI 23 7) qM (by rfl) (ac 400 ?_)
 simp (disch:=omega) only [go_sem,Nat.reduceEqDiff,Nat.reduceAdd,Nat.reduceSub,Int.reduceAdd,Int.reduceSub,Int.reduceToNat]
 refine al (qC) (hset) (qI 0 21++qI 31 7++qI 21 1) qM (by rfl) (ac 400 ?_)
 simp (disch:=omega) only [go_sem,Nat.reduceEqDiff,Nat.reduceAdd,Nat.reduceSub,Int.reduceAdd,Int.reduceSub,Int.reduceToNat]
 refine al (qC) (hpost) (qI 31 7++qI 7 15++qI 38 1) qM (by rfl) (ac 400 ?_)
 simp (disch:=omega) only [go_sem,Nat.reduceEqDiff,Nat.reduceAdd,Nat.reduceSub,Int.reduceAdd,Int.reduceSub,Int.reduceToNat]
 refine aA (qI 0 22++qI 31 7++qI 7 7++qI 39 7) (qC) _ (by simp only [go_sem];rfl) (by rfl) (by rfl) ?_
 simp (disch:=omega) only [go_sem,Nat.reduceEqDiff,Nat.reduceAdd,Nat.reduceSub,Int.reduceAdd,Int.reduceSub,Int.reduceToNat]
theorem wt (w:WorldD) (pos many:Int) (text:List UInt8) (ad:AddrD) (le:LetterD) (hw:SmallD w) (htx:text.length≤1048576):
  ae Tryz.prog 68 [.sc (.pt 21 0 0),.ag (ActD.cs ⟨1,2,pos,many,text,ad,le⟩)] (w.hp true++[some ⟨[w.cs 0],61,51,true,false⟩]) (.sc (.int .i64 0))
  ([none,none,none,none,none,none,none,none,none,none,none,none,none,none,none,none,none,none,none,none,none,some ⟨[WorldD.cs (aq 2 { w with wroteB:=w.wroteB++text.take (cp w.b text).2,b:=(aS w.b text).1 } (aS w.b text).2) 22],61,51,true,false⟩]++WorldD.hp (aq 2 { w with wroteB:=w.wroteB++text.take (cp w.b text).2,b:=(aS w.b text).1 } (aS w.b text).2) true):=by
 have q1:=hw.s.wa
 have q2:=hw.s.wb
 have q3:=hw.s.ra
 have q4:=hw.s.rb
 have hX:=lP w.b text hw.p.s.b htx (jW hw.ob)
 have hsm:=eQ (t:=text) hw.p.s.b
 have hlen:=ie w.b text
 have hEA:ae Tryz.prog 144 [.ag (w.cs 0),.sc (.int .i64 2)] (w.hp false) (.ag (w.b.cs 21)) (w.hp false++w.b.hp true):=bF w 2 hw.p.s.a.own hw.p.s.a.far hw.p.s.a.subs hw.p.s.a.halfs hw.p.s.a.list hw.p.s.a.done hw.p.s.a.over hw.p.s.b.own hw.p.s.b.far hw.p.s.b.subs hw.p.s.b.halfs hw.p.s.b.list hw.p.s.b.done hw.p.s.b.over
 have hX2:=me w.b text hw.p.s.b htx
 have hwl:=ne w.b text
 obtain⟨wr,hwr⟩:∃ p,p=cp w.b text:=⟨_,rfl⟩
 rw [←hwr] at hX2 hwl⊢
 obtain⟨e0,n0⟩:=wr
 dsimp only at hX2 hwl⊢
 obtain⟨pr,hpr⟩:∃ p,p=aS w.b text:=⟨_,rfl⟩
 rw [←hpr] at hX hsm hlen⊢
 obtain⟨e1,l1⟩:=pr
 dsimp only at hX hsm hlen⊢
 have hset:=fM { w with wroteB:=w.wroteB++text.take n0 } e1
 have hpost:=eN { w with wroteB:=w.wroteB++text.take n0,b:=e1 } l1 ⟨hw.p.s.bag,hw.p.s.past,hw.p.s.keys,hw.p.s.tags,hw.p.s.nums,hw.p.s.ansA,hw.p.s.ansB⟩ (by first|omega|simp)
 have hends:=aE (side:=2) (l:=l1) (w:={ w with wroteB:=w.wroteB++text.take n0,b:=e1 })
 obtain⟨R,hR⟩:∃ R,R=aq 2 { w with wroteB:=w.wroteB++text.take n0,b:=e1 } l1:=⟨_,rfl⟩
 rw [←hR] at hpost hends⊢
 clear hR
 obtain⟨ra,rb,bag,past,wA,wB,rA,rB,known,nums,nsA,nsB⟩:=R
 obtain⟨keys,tags⟩:=known
 dsimp only at hends
 obtain⟨g1,g2,g3,g4,g5,g6⟩:=hends
 replace g1:=g1.symm
 replace g2:=g2.symm
 replace g3:=g3.symm
 replace g4:=g4.symm
 replace g5:=g5.symm
 replace g6:=g6.symm
 subst g1 g2 g3 g4 g5 g6
 have htk:(text.take n0).length=n0:=by rw [List.length_take];omega
 refine aN Tryz.func68 (by kernel_rfl) rfl fun E hE=>ac 400 ?_
 simp (disch:=omega) only [Tryz.ntmps68,Tryz.results68,go_sem,Nat.reduceEqDiff,Nat.reduceAdd,Nat.reduceSub,Int.reduceAdd,Int.reduceSub,Int.reduceToNat]
 refine aI [(5,6)] [] [(qU [0,8]),[0,1,2,3,4,6,5,7]] 22 hE (fun s=>s.at (qU [13,6]) [(5,.sc (.pt 30 0 0))] (s.hp++(w.b.hp true++[some ⟨[w.b.cs 23],25,45,true,false⟩]))) (by kernel_rfl) (qC) (by kernel_rfl) ?_ (ac 400 ?_)
 rotate_left
 rotate_right
 simp only [aQ]
 refine⟨aa 400 ?_,aa 400 ?_⟩
 ·simp (disch:=omega) only [go_sem]
  refine am (qC) (hEA) (qI 0 21) qM (by rfl) (by rfl) (aa 400 ?_)
  simp (disch:=omega) only [go_sem,Nat.reduceEqDiff,Nat.reduceAdd,Nat.reduceSub,Int.reduceAdd,Int.reduceSub,Int.reduceToNat]
  refine⟨qC,(qI 0 31),ab (by rfl) (by rfl) ?_⟩
  try simp (disch:=omega) only [go_sem,Nat.reduceEqDiff,Nat.reduceAdd,Nat.reduceSub,Int.reduceAdd,Int.reduceSub,Int.reduceToNat]
 ·simp (disch:=omega) only [go_sem]
  refine am (qC) (hEA) (qI 0 21) qM (by rfl) (by rfl) (aa 400 ?_)
  simp (disch:=omega) only [go_sem,Nat.reduceEqDiff,Nat.reduceAdd,Nat.reduceSub,Int.reduceAdd,Int.reduceSub,Int.reduceToNat]
  refine⟨qC,(qI 0 23++qI 24 7++qI 23 1),ab (by rfl) (by rfl) ?_⟩
  try simp (disch:=omega) only [go_sem,Nat.reduceEqDiff,Nat.reduceAdd,Nat.reduceSub,Int.reduceAdd,Int.reduceSub,Int.reduceToNat]
 try simp (disch:=omega) only [go_sem,Nat.reduceEqDiff,Nat.reduceAdd,Nat.reduceSub,Int.reduceAdd,Int.reduceSub,Int.reduceToNat]
 refine al (qC) (hX2) (qI 23 7) qM (by rfl) (ac 400 ?_)
 simp (disch:=omega) only [go_sem,Nat.reduceEqDiff,Nat.reduceAdd,Nat.reduceSub,Int.reduceAdd,Int.reduceSub,Int.reduceToNat]
 refine al (qC) (hX) (qI 23 7) qM (by rfl) (ac 400 ?_)
 simp (disch:=omega) only [go_sem,Nat.reduceEqDiff,Nat.reduceAdd,Nat.reduceSub,Int.reduceAdd,Int.reduceSub,Int.reduceToNat]
 refine ar (qU [0,12]) (by kernel_rfl) (qC) (by kernel_rfl) (aa 400 ?_)
 simp (disch:=omega) only [go_sem,Nat.reduceEqDiff,Nat.reduceAdd,Nat.reduceSub,Int.reduceAdd,Int.reduceSub,Int.reduceToNat]
 refine⟨qC,ac 400 ?_⟩
 try simp (disch:=omega) only [go_sem,Nat.reduceEqDiff,Nat.reduceAdd,Nat.reduceSub,Int.reduceAdd,Int.reduceSub,Int.reduceToNat]
 refine al (qC) (hset) (qI 0 21++qI 39 7++qI 21 1) qM (by rfl) (ac 400 ?_)
 simp (disch:=omega) only [go_sem,Nat.reduceEqDiff,Nat.reduceAdd,Nat.reduceSub,Int.reduceAdd,Int.reduceSub,Int.reduceToNat]
 refine al (qC) (hpost) (qI 0 7++qI 39 7++qI 14 8++qI 46 1) qM (by rfl) (ac 400 ?_)
 simp (disch:=omega) only [go_sem,Nat.reduceEqDiff,Nat.reduceAdd,Nat.reduceSub,Int.reduceAdd,Int.reduceSub,Int.reduceToNat]
 refine aA (qI 0 22++qI 0 7++qI 39 7++qI 47 7) (qC) _ (by simp only [go_sem];rfl) (by rfl) (by rfl) ?_
 simp (disch:=omega) only [go_sem,Nat.reduceEqDiff,Nat.reduceAdd,Nat.reduceSub,Int.reduceAdd,Int.reduceSub,Int.reduceToNat]
theorem wu (w:WorldD) (pos many:Int) (text:List UInt8) (ad:AddrD) (le:LetterD) (hw:SmallD w) (htx:text.length≤1048576):
  ae Tryz.prog 68 [.sc (.pt 21 0 0),.ag (ActD.cs ⟨2,2,pos,many,text,ad,le⟩)] (w.hp true++[some ⟨[w.cs 0],61,51,true,false⟩]) (.sc (.int .i64 0))
  ([none,none,none,none,none,none,none,none,none,none,none,none,none,none,none,none,none,none,none,none,none,some ⟨[WorldD.cs (aq 2 { w with readB:=w.readB++(bu w.b many).2,b:=((bu w.b many).1,([]:List LetterD)).1 } ((bu w.b many).1,([]:List LetterD)).2) 22],61,51,true,false⟩]++WorldD.hp (aq 2 { w with readB:=w.readB++(bu w.b many).2,b:=((bu w.b many).1,([]:List LetterD)).1 } ((bu w.b many).1,([]:List LetterD)).2) true):=by
 have q1:=hw.s.wa
 have q2:=hw.s.wb
 have q3:=hw.s.ra
 have q4:=hw.s.rb
 have hX:=uE w.b many hw.p.s.b hw.p.pb
 have hsm:=gP (m:=many) hw.p.s.b
 have hEA:ae Tryz.prog 144 [.ag (w.cs 0),.sc (.int .i64 2)] (w.hp false) (.ag (w.b.cs 21)) (w.hp false++w.b.hp true):=bF w 2 hw.p.s.a.own hw.p.s.a.far hw.p.s.a.subs hw.p.s.a.halfs hw.p.s.a.list hw.p.s.a.done hw.p.s.a.over hw.p.s.b.own hw.p.s.b.far hw.p.s.b.subs hw.p.s.b.halfs hw.p.s.b.list hw.p.s.b.done hw.p.s.b.over
 obtain⟨pr,hpr⟩:∃ p,p=bu w.b many:=⟨_,rfl⟩
 have hrl:(bu w.b many).2.length≤1048576:=lf hw.p.pb
 rw [←hpr] at hX hsm hrl⊢
 obtain⟨e1,t1⟩:=pr
 dsimp only at hX hsm hrl⊢
 obtain⟨l1,hl1⟩:∃ l:List LetterD,l=[]:=⟨_,rfl⟩
 have hlen:l1.length≤1:=by rw [hl1];simp
 have hset:=fM { w with readB:=w.readB++t1 } e1
 have hpost:=eN { w with readB:=w.readB++t1,b:=e1 } [] ⟨hw.p.s.bag,hw.p.s.past,hw.p.s.keys,hw.p.s.tags,hw.p.s.nums,hw.p.s.ansA,hw.p.s.ansB⟩ (by first|omega|simp)
 have hends:=aE (side:=2) (l:=[]) (w:={ w with readB:=w.readB++t1,b:=e1 })
 obtain⟨R,hR⟩:∃ R,R=aq 2 { w with readB:=w.readB++t1,b:=e1 } []:=⟨_,rfl⟩
 rw [←hR] at hpost hends⊢
 clear hR
 obtain⟨ra,rb,bag,past,wA,wB,rA,rB,known,nums,nsA,nsB⟩:=R
 obtain⟨keys,tags⟩:=known
 dsimp only at hends
 obtain⟨g1,g2,g3,g4,g5,g6⟩:=hends
 replace g1:=g1.symm
 replace g2:=g2.symm
 replace g3:=g3.symm
 replace g4:=g4.symm
 replace g5:=g5.symm
 replace g6:=g6.symm
 subst g1 g2 g3 g4 g5 g6
 refine aN Tryz.func68 (by kernel_rfl) rfl fun E hE=>ac 400 ?_
 simp (disch:=omega) only [Tryz.ntmps68,Tryz.results68,go_sem,Nat.reduceEqDiff,Nat.reduceAdd,Nat.reduceSub,Int.reduceAdd,Int.reduceSub,Int.reduceToNat]
 refine aI [(5,6)] [] [(qU [0,8]),[0,1,2,3,4,6,5,7]] 22 hE (fun s=>s.at (qU [13,6]) [(5,.sc (.pt 30 0 0))] (s.hp++(w.b.hp true++[some ⟨[w.b.cs 23],25,45,true,false⟩]))) (by kernel_rfl) (qC) (by kernel_rfl) ?_ (ac 400 ?_)
 rotate_left
 rotate_right
 simp only [aQ]
 refine⟨aa 400 ?_,aa 400 ?_⟩
 ·simp (disch:=omega) only [go_sem]
  refine am (qC) (hEA) (qI 0 21) qM (by rfl) (by rfl) (aa 400 ?_)
  simp (disch:=omega) only [go_sem,Nat.reduceEqDiff,Nat.reduceAdd,Nat.reduceSub,Int.reduceAdd,Int.reduceSub,Int.reduceToNat]
  refine⟨qC,(qI 0 31),ab (by rfl) (by rfl) ?_⟩
  try simp (disch:=omega) only [go_sem,Nat.reduceEqDiff,Nat.reduceAdd,Nat.reduceSub,Int.reduceAdd,Int.reduceSub,Int.reduceToNat]
 ·simp (disch:=omega) only [go_sem]
  refine am (qC) (hEA) (qI 0 21) qM (by rfl) (by rfl) (aa 400 ?_)
  simp (disch:=omega) only [go_sem,Nat.reduceEqDiff,Nat.reduceAdd,Nat.reduceSub,Int.reduceAdd,Int.reduceSub,Int.reduceToNat]
  refine⟨qC,(qI 0 23++qI 24 7++qI 23 1),ab (by rfl) (by rfl) ?_⟩
  try simp (disch:=omega) only [go_sem,Nat.reduceEqDiff,Nat.reduceAdd,Nat.reduceSub,Int.reduceAdd,Int.reduceSub,Int.reduceToNat]
 try simp (disch:=omega) only [go_sem,Nat.reduceEqDiff,Nat.reduceAdd,Nat.reduceSub,Int.reduceAdd,Int.reduceSub,Int.reduceToNat]
 refine al (qC) (hX) (qI 23 7) qM (by rfl) (ac 400 ?_)
 simp (disch:=omega) only [go_sem,Nat.reduceEqDiff,Nat.reduceAdd,Nat.reduceSub,Int.reduceAdd,Int.reduceSub,Int.reduceToNat]
 refine al (qC) (hset) (qI 0 21++qI 31 7++qI 21 1) qM (by rfl) (ac 400 ?_)
 simp (disch:=omega) only [go_sem,Nat.reduceEqDiff,Nat.reduceAdd,Nat.reduceSub,Int.reduceAdd,Int.reduceSub,Int.reduceToNat]
 refine al (qC) (hpost) (qI 0 7++qI 31 7++qI 14 8++qO 1) qM (by rfl) (ac 400 ?_)
 simp (disch:=omega) only [go_sem,Nat.reduceEqDiff,Nat.reduceAdd,Nat.reduceSub,Int.reduceAdd,Int.reduceSub,Int.reduceToNat]
 refine aA (qI 0 22++qI 0 7++qI 31 7++qI 39 7) (qC) _ (by simp only [go_sem];rfl) (by rfl) (by rfl) ?_
 simp (disch:=omega) only [go_sem,Nat.reduceEqDiff,Nat.reduceAdd,Nat.reduceSub,Int.reduceAdd,Int.reduceSub,Int.reduceToNat]
theorem wv (w:WorldD) (pos many:Int) (text:List UInt8) (ad:AddrD) (le:LetterD) (hw:SmallD w) (htx:text.length≤1048576):
  ae Tryz.prog 68 [.sc (.pt 21 0 0),.ag (ActD.cs ⟨4,2,pos,many,text,ad,le⟩)] (w.hp true++[some ⟨[w.cs 0],61,51,true,false⟩]) (.sc (.int .i64 0))
  ([none,none,none,none,none,none,none,none,none,none,none,none,none,none,none,none,none,none,none,none,none,some ⟨[WorldD.cs (aq 2 { w with b:=(bs w.b).1 } (bs w.b).2) 22],61,51,true,false⟩]++WorldD.hp (aq 2 { w with b:=(bs w.b).1 } (bs w.b).2) true):=by
 have q1:=hw.s.wa
 have q2:=hw.s.wb
 have q3:=hw.s.ra
 have q4:=hw.s.rb
 have hX:=oW w.b hw.p.s.b
 have hsm:=f9 hw.p.s.b
 have hlen:=jV w.b
 have hEA:ae Tryz.prog 144 [.ag (w.cs 0),.sc (.int .i64 2)] (w.hp false) (.ag (w.b.cs 21)) (w.hp false++w.b.hp true):=bF w 2 hw.p.s.a.own hw.p.s.a.far hw.p.s.a.subs hw.p.s.a.halfs hw.p.s.a.list hw.p.s.a.done hw.p.s.a.over hw.p.s.b.own hw.p.s.b.far hw.p.s.b.subs hw.p.s.b.halfs hw.p.s.b.list hw.p.s.b.done hw.p.s.b.over
 obtain⟨pr,hpr⟩:∃ p,p=bs w.b:=⟨_,rfl⟩
 rw [←hpr] at hX hsm hlen⊢
 obtain⟨e1,l1⟩:=pr
 dsimp only at hX hsm hlen⊢
 have hset:=fM w e1
 have hpost:=eN { w with b:=e1 } l1 ⟨hw.p.s.bag,hw.p.s.past,hw.p.s.keys,hw.p.s.tags,hw.p.s.nums,hw.p.s.ansA,hw.p.s.ansB⟩ (by first|omega|simp)
 have hends:=aE (side:=2) (l:=l1) (w:={ w with b:=e1 })
 obtain⟨R,hR⟩:∃ R,R=aq 2 { w with b:=e1 } l1:=⟨_,rfl⟩
 rw [←hR] at hpost hends⊢
 clear hR
 obtain⟨ra,rb,bag,past,wA,wB,rA,rB,known,nums,nsA,nsB⟩:=R
 obtain⟨keys,tags⟩:=known
 dsimp only at hends
 obtain⟨g1,g2,g3,g4,g5,g6⟩:=hends
 replace g1:=g1.symm
 replace g2:=g2.symm
 replace g3:=g3.symm
 replace g4:=g4.symm
 replace g5:=g5.symm
 replace g6:=g6.symm
 subst g1 g2 g3 g4 g5 g6
 refine aN Tryz.func68 (by kernel_rfl) rfl fun E hE=>ac 400 ?_
 simp (disch:=omega) only [Tryz.ntmps68,Tryz.results68,go_sem,Nat.reduceEqDiff,Nat.reduceAdd,Nat.reduceSub,Int.reduceAdd,Int.reduceSub,Int.reduceToNat]
 refine aI [(5,6)] [] [(qU [0,8]),[0,1,2,3,4,6,5,7]] 22 hE (fun s=>s.at (qU [13,6]) [(5,.sc (.pt 30 0 0))] (s.hp++(w.b.hp true++[some ⟨[w.b.cs 23],25,45,true,false⟩]))) (by kernel_rfl) (qC) (by kernel_rfl) ?_ (ac 400 ?_)
 rotate_left
 rotate_right
 simp only [aQ]
 refine⟨aa 400 ?_,aa 400 ?_⟩
 ·simp (disch:=omega) only [go_sem]
  refine am (qC) (hEA) (qI 0 21) qM (by rfl) (by rfl) (aa 400 ?_)
  simp (disch:=omega) only [go_sem,Nat.reduceEqDiff,Nat.reduceAdd,Nat.reduceSub,Int.reduceAdd,Int.reduceSub,Int.reduceToNat]
  refine⟨qC,(qI 0 31),ab (by rfl) (by rfl) ?_⟩
  try simp (disch:=omega) only [go_sem,Nat.reduceEqDiff,Nat.reduceAdd,Nat.reduceSub,Int.reduceAdd,Int.reduceSub,Int.reduceToNat]
 ·simp (disch:=omega) only [go_sem]
  refine am (qC) (hEA) (qI 0 21) qM (by rfl) (by rfl) (aa 400 ?_)
  simp (disch:=omega) only [go_sem,Nat.reduceEqDiff,Nat.reduceAdd,Nat.reduceSub,Int.reduceAdd,Int.reduceSub,Int.reduceToNat]
  refine⟨qC,(qI 0 23++qI 24 7++qI 23 1),ab (by rfl) (by rfl) ?_⟩
  try simp (disch:=omega) only [go_sem,Nat.reduceEqDiff,Nat.reduceAdd,Nat.reduceSub,Int.reduceAdd,Int.reduceSub,Int.reduceToNat]
 try simp (disch:=omega) only [go_sem,Nat.reduceEqDiff,Nat.reduceAdd,Nat.reduceSub,Int.reduceAdd,Int.reduceSub,Int.reduceToNat]
 refine al (qC) (hX) (qI 23 7) qM (by rfl) (ac 400 ?_)
 simp (disch:=omega) only [go_sem,Nat.reduceEqDiff,Nat.reduceAdd,Nat.reduceSub,Int.reduceAdd,Int.reduceSub,Int.reduceToNat]
 refine al (qC) (hset) (qI 0 21++qI 31 7++qI 21 1) qM (by rfl) (ac 400 ?_)
 simp (disch:=omega) only [go_sem,Nat.reduceEqDiff,Nat.reduceAdd,Nat.reduceSub,Int.reduceAdd,Int.reduceSub,Int.reduceToNat]
 refine al (qC) (hpost) (qI 0 7++qI 31 7++qI 14 8++qI 38 1) qM (by rfl) (ac 400 ?_)
 simp (disch:=omega) only [go_sem,Nat.reduceEqDiff,Nat.reduceAdd,Nat.reduceSub,Int.reduceAdd,Int.reduceSub,Int.reduceToNat]
 refine aA (qI 0 22++qI 0 7++qI 31 7++qI 39 7) (qC) _ (by simp only [go_sem];rfl) (by rfl) (by rfl) ?_
 simp (disch:=omega) only [go_sem,Nat.reduceEqDiff,Nat.reduceAdd,Nat.reduceSub,Int.reduceAdd,Int.reduceSub,Int.reduceToNat]
theorem ww (w:WorldD) (pos many:Int) (text:List UInt8) (ad:AddrD) (le:LetterD) (hw:SmallD w) (htx:text.length≤1048576) (hsd:aZ ad.addr=2) (hgood:(aB w.b ad).2=true):
  ae Tryz.prog 68 [.sc (.pt 21 0 0),.ag (ActD.cs ⟨5,2,pos,many,text,ad,le⟩)] (w.hp true++[some ⟨[w.cs 0],61,51,true,false⟩]) (.sc (.int .i64 0))
  ([none,none,none,none,none,none,none,none,none,none,none,none,none,none,none,none,none,none,none,none,none,some ⟨[WorldD.cs (aq 2 { w with b:=((aB w.b ad).1,([]:List LetterD)).1 } ((aB w.b ad).1,([]:List LetterD)).2) 22],61,51,true,false⟩]++WorldD.hp (aq 2 { w with b:=((aB w.b ad).1,([]:List LetterD)).1 } ((aB w.b ad).1,([]:List LetterD)).2) true):=by
 have q1:=hw.s.wa
 have q2:=hw.s.wb
 have q3:=hw.s.ra
 have q4:=hw.s.rb
 have hX:=i4 w.b ad hw.p.s.b
 have hsm:=df (a:=ad) hw.p.s.b
 have hEA:ae Tryz.prog 144 [.ag (w.cs 0),.sc (.int .i64 2)] (w.hp false) (.ag (w.b.cs 21)) (w.hp false++w.b.hp true):=bF w 2 hw.p.s.a.own hw.p.s.a.far hw.p.s.a.subs hw.p.s.a.halfs hw.p.s.a.list hw.p.s.a.done hw.p.s.a.over hw.p.s.b.own hw.p.s.b.far hw.p.s.b.subs hw.p.s.b.halfs hw.p.s.b.list hw.p.s.b.done hw.p.s.b.over
 obtain⟨pr,hpr⟩:∃ p,p=aB w.b ad:=⟨_,rfl⟩
 rw [←hpr] at hX hsm hgood⊢
 obtain⟨e1,ok1⟩:=pr
 dsimp only at hX hsm hgood⊢
 subst hgood
 obtain⟨l1,hl1⟩:∃ l:List LetterD,l=[]:=⟨_,rfl⟩
 have hlen:l1.length≤1:=by rw [hl1];simp
 have hset:=fM w e1
 have hpost:=eN { w with b:=e1 } [] ⟨hw.p.s.bag,hw.p.s.past,hw.p.s.keys,hw.p.s.tags,hw.p.s.nums,hw.p.s.ansA,hw.p.s.ansB⟩ (by first|omega|simp)
 have hends:=aE (side:=2) (l:=[]) (w:={ w with b:=e1 })
 obtain⟨R,hR⟩:∃ R,R=aq 2 { w with b:=e1 } []:=⟨_,rfl⟩
 rw [←hR] at hpost hends⊢
 clear hR
 obtain⟨ra,rb,bag,past,wA,wB,rA,rB,known,nums,nsA,nsB⟩:=R
 obtain⟨keys,tags⟩:=known
 dsimp only at hends
 obtain⟨g1,g2,g3,g4,g5,g6⟩:=hends
 replace g1:=g1.symm
 replace g2:=g2.symm
 replace g3:=g3.symm
 replace g4:=g4.symm
 replace g5:=g5.symm
 replace g6:=g6.symm
 subst g1 g2 g3 g4 g5 g6
 have hSd:=dC ad.addr
 rw [hsd] at hSd
 refine aN Tryz.func68 (by kernel_rfl) rfl fun E hE=>ac 400 ?_
 simp (disch:=omega) only [Tryz.ntmps68,Tryz.results68,go_sem,Nat.reduceEqDiff,Nat.reduceAdd,Nat.reduceSub,Int.reduceAdd,Int.reduceSub,Int.reduceToNat]
 refine aI [(5,6)] [] [(qU [0,8]),[0,1,2,3,4,6,5,7]] 22 hE (fun s=>s.at (qU [13,6]) [(5,.sc (.pt 30 0 0))] (s.hp++(w.b.hp true++[some ⟨[w.b.cs 23],25,45,true,false⟩]))) (by kernel_rfl) (qC) (by kernel_rfl) ?_ (ac 400 ?_)
 rotate_left
 rotate_right
 simp only [aQ]
 refine⟨aa 400 ?_,aa 400 ?_⟩
 ·simp (disch:=omega) only [go_sem]
  refine am (qC) (hEA) (qI 0 21) qM (by rfl) (by rfl) (aa 400 ?_)
  simp (disch:=omega) only [go_sem,Nat.reduceEqDiff,Nat.reduceAdd,Nat.reduceSub,Int.reduceAdd,Int.reduceSub,Int.reduceToNat]
  refine⟨qC,(qI 0 31),ab (by rfl) (by rfl) ?_⟩
  try simp (disch:=omega) only [go_sem,Nat.reduceEqDiff,Nat.reduceAdd,Nat.reduceSub,Int.reduceAdd,Int.reduceSub,Int.reduceToNat]
 ·simp (disch:=omega) only [go_sem]
  refine am (qC) (hEA) (qI 0 21) qM (by rfl) (by rfl) (aa 400 ?_)
  simp (disch:=omega) only [go_sem,Nat.reduceEqDiff,Nat.reduceAdd,Nat.reduceSub,Int.reduceAdd,Int.reduceSub,Int.reduceToNat]
  refine⟨qC,(qI 0 23++qI 24 7++qI 23 1),ab (by rfl) (by rfl) ?_⟩
  try simp (disch:=omega) only [go_sem,Nat.reduceEqDiff,Nat.reduceAdd,Nat.reduceSub,Int.reduceAdd,Int.reduceSub,Int.reduceToNat]
 try simp (disch:=omega) only [go_sem,Nat.reduceEqDiff,Nat.reduceAdd,Nat.reduceSub,Int.reduceAdd,Int.reduceSub,Int.reduceToNat]
 refine al (qC) (hX) (qI 23 7) qM (by rfl) (ac 400 ?_)
 simp (disch:=omega) only [go_sem,Nat.reduceEqDiff,Nat.reduceAdd,Nat.reduceSub,Int.reduceAdd,Int.reduceSub,Int.reduceToNat]
 refine ar (qU [0,3,4,2,3,1,6,5]) (by kernel_rfl) (qC) (by kernel_rfl) (aa 400 ?_)
 simp (disch:=omega) only [go_sem,Nat.reduceEqDiff,Nat.reduceAdd,Nat.reduceSub,Int.reduceAdd,Int.reduceSub,Int.reduceToNat]
 refine am (qC) (hSd) [] qM (by rfl) (by rfl) (aa 400 ?_)
 simp (disch:=omega) only [go_sem,Nat.reduceEqDiff,Nat.reduceAdd,Nat.reduceSub,Int.reduceAdd,Int.reduceSub,Int.reduceToNat]
 refine⟨qC,ac 400 ?_⟩
 try simp (disch:=omega) only [go_sem,Nat.reduceEqDiff,Nat.reduceAdd,Nat.reduceSub,Int.reduceAdd,Int.reduceSub,Int.reduceToNat]
 refine al (qC) (hset) (qI 0 21++qI 31 7++qI 21 1) qM (by rfl) (ac 400 ?_)
 simp (disch:=omega) only [go_sem,Nat.reduceEqDiff,Nat.reduceAdd,Nat.reduceSub,Int.reduceAdd,Int.reduceSub,Int.reduceToNat]
 refine al (qC) (hpost) (qI 0 7++qI 31 7++qI 14 8++qO 1) qM (by rfl) (ac 400 ?_)
 simp (disch:=omega) only [go_sem,Nat.reduceEqDiff,Nat.reduceAdd,Nat.reduceSub,Int.reduceAdd,Int.reduceSub,Int.reduceToNat]
 refine aA (qI 0 22++qI 0 7++qI 31 7++qI 39 7) (qC) _ (by simp only [go_sem];rfl) (by rfl) (by rfl) ?_
 simp (disch:=omega) only [go_sem,Nat.reduceEqDiff,Nat.reduceAdd,Nat.reduceSub,Int.reduceAdd,Int.reduceSub,Int.reduceToNat]
theorem wx (w:WorldD) (pos many:Int) (text:List UInt8) (ad:AddrD) (le:LetterD) (hw:SmallD w) (htx:text.length≤1048576):
  ae Tryz.prog 68 [.sc (.pt 21 0 0),.ag (ActD.cs ⟨6,2,pos,many,text,ad,le⟩)] (w.hp true++[some ⟨[w.cs 0],61,51,true,false⟩]) (.sc (.int .i64 0))
  ([none,none,none,none,none,none,none,none,none,none,none,none,none,none,none,none,none,none,none,none,none,some ⟨[WorldD.cs (aq 2 { w with b:=(bb w.b pos).1 } (bb w.b pos).2) 22],61,51,true,false⟩]++WorldD.hp (aq 2 { w with b:=(bb w.b pos).1 } (bb w.b pos).2) true):=by
 have q1:=hw.s.wa
 have q2:=hw.s.wb
 have q3:=hw.s.ra
 have q4:=hw.s.rb
 have hX:=nk w.b pos hw.p.s.b
 have hsm:=fg (n:=pos) hw.p.s.b
 have hlen:=i6 w.b pos hw.p.s.b
 have hEA:ae Tryz.prog 144 [.ag (w.cs 0),.sc (.int .i64 2)] (w.hp false) (.ag (w.b.cs 21)) (w.hp false++w.b.hp true):=bF w 2 hw.p.s.a.own hw.p.s.a.far hw.p.s.a.subs hw.p.s.a.halfs hw.p.s.a.list hw.p.s.a.done hw.p.s.a.over hw.p.s.b.own hw.p.s.b.far hw.p.s.b.subs hw.p.s.b.halfs hw.p.s.b.list hw.p.s.b.done hw.p.s.b.over
 obtain⟨pr,hpr⟩:∃ p,p=bb w.b pos:=⟨_,rfl⟩
 rw [←hpr] at hX hsm hlen⊢
 obtain⟨e1,l1⟩:=pr
 dsimp only at hX hsm hlen⊢
 have hset:=fM w e1
 have hpost:=eN { w with b:=e1 } l1 ⟨hw.p.s.bag,hw.p.s.past,hw.p.s.keys,hw.p.s.tags,hw.p.s.nums,hw.p.s.ansA,hw.p.s.ansB⟩ (by first|omega|simp)
 have hends:=aE (side:=2) (l:=l1) (w:={ w with b:=e1 })
 obtain⟨R,hR⟩:∃ R,R=aq 2 { w with b:=e1 } l1:=⟨_,rfl⟩
 rw [←hR] at hpost hends⊢
 clear hR
 obtain⟨ra,rb,bag,past,wA,wB,rA,rB,known,nums,nsA,nsB⟩:=R
 obtain⟨keys,tags⟩:=known
 dsimp only at hends
 obtain⟨g1,g2,g3,g4,g5,g6⟩:=hends
 replace g1:=g1.symm
 replace g2:=g2.symm
 replace g3:=g3.symm
 replace g4:=g4.symm
 replace g5:=g5.symm
 replace g6:=g6.symm
 subst g1 g2 g3 g4 g5 g6
 refine aN Tryz.func68 (by kernel_rfl) rfl fun E hE=>ac 400 ?_
 simp (disch:=omega) only [Tryz.ntmps68,Tryz.results68,go_sem,Nat.reduceEqDiff,Nat.reduceAdd,Nat.reduceSub,Int.reduceAdd,Int.reduceSub,Int.reduceToNat]
 refine aI [(5,6)] [] [(qU [0,8]),[0,1,2,3,4,6,5,7]] 22 hE (fun s=>s.at (qU [13,6]) [(5,.sc (.pt 30 0 0))] (s.hp++(w.b.hp true++[some ⟨[w.b.cs 23],25,45,true,false⟩]))) (by kernel_rfl) (qC) (by kernel_rfl) ?_ (ac 400 ?_)
 rotate_left
 rotate_right
 simp only [aQ]
 refine⟨aa 400 ?_,aa 400 ?_⟩
 ·simp (disch:=omega) only [go_sem]
  refine am (qC) (hEA) (qI 0 21) qM (by rfl) (by rfl) (aa 400 ?_)
  simp (disch:=omega) only [go_sem,Nat.reduceEqDiff,Nat.reduceAdd,Nat.reduceSub,Int.reduceAdd,Int.reduceSub,Int.reduceToNat]
  refine⟨qC,(qI 0 31),ab (by rfl) (by rfl) ?_⟩
  try simp (disch:=omega) only [go_sem,Nat.reduceEqDiff,Nat.reduceAdd,Nat.reduceSub,Int.reduceAdd,Int.reduceSub,Int.reduceToNat]
 ·simp (disch:=omega) only [go_sem]
  refine am (qC) (hEA) (qI 0 21) qM (by rfl) (by rfl) (aa 400 ?_)
  simp (disch:=omega) only [go_sem,Nat.reduceEqDiff,Nat.reduceAdd,Nat.reduceSub,Int.reduceAdd,Int.reduceSub,Int.reduceToNat]
  refine⟨qC,(qI 0 23++qI 24 7++qI 23 1),ab (by rfl) (by rfl) ?_⟩
  try simp (disch:=omega) only [go_sem,Nat.reduceEqDiff,Nat.reduceAdd,Nat.reduceSub,Int.reduceAdd,Int.reduceSub,Int.reduceToNat]
 try simp (disch:=omega) only [go_sem,Nat.reduceEqDiff,Nat.reduceAdd,Nat.reduceSub,Int.reduceAdd,Int.reduceSub,Int.reduceToNat]
 refine al (qC) (hX) (qI 23 7) qM (by rfl) (ac 400 ?_)
 simp (disch:=omega) only [go_sem,Nat.reduceEqDiff,Nat.reduceAdd,Nat.reduceSub,Int.reduceAdd,Int.reduceSub,Int.reduceToNat]
 refine al (qC) (hset) (qI 0 21++qI 31 7++qI 21 1) qM (by rfl) (ac 400 ?_)
 simp (disch:=omega) only [go_sem,Nat.reduceEqDiff,Nat.reduceAdd,Nat.reduceSub,Int.reduceAdd,Int.reduceSub,Int.reduceToNat]
 refine al (qC) (hpost) (qI 0 7++qI 31 7++qI 14 8++qI 38 1) qM (by rfl) (ac 400 ?_)
 simp (disch:=omega) only [go_sem,Nat.reduceEqDiff,Nat.reduceAdd,Nat.reduceSub,Int.reduceAdd,Int.reduceSub,Int.reduceToNat]
 refine aA (qI 0 22++qI 0 7++qI 31 7++qI 39 7) (qC) _ (by simp only [go_sem];rfl) (by rfl) (by rfl) ?_
 simp (disch:=omega) only [go_sem,Nat.reduceEqDiff,Nat.reduceAdd,Nat.reduceSub,Int.reduceAdd,Int.reduceSub,Int.reduceToNat]
theorem wy (w:WorldD) (pos many:Int) (text:List UInt8) (ad:AddrD) (le:LetterD) (hw:SmallD w) (htx:text.length≤1048576):
  ae Tryz.prog 68 [.sc (.pt 21 0 0),.ag (ActD.cs ⟨7,2,pos,many,text,ad,le⟩)] (w.hp true++[some ⟨[w.cs 0],61,51,true,false⟩]) (.sc (.int .i64 0))
  ([none,none,none,none,none,none,none,none,none,none,none,none,none,none,none,none,none,none,none,none,none,some ⟨[WorldD.cs (aq 2 { w with b:=(br w.b pos).1 } (br w.b pos).2) 22],61,51,true,false⟩]++WorldD.hp (aq 2 { w with b:=(br w.b pos).1 } (br w.b pos).2) true):=by
 have q1:=hw.s.wa
 have q2:=hw.s.wb
 have q3:=hw.s.ra
 have q4:=hw.s.rb
 have hX:=si w.b pos hw.p.s.b
 have hsm:=f8 (k:=pos) hw.p.s.b
 have hlen:=jU w.b pos
 have hEA:ae Tryz.prog 144 [.ag (w.cs 0),.sc (.int .i64 2)] (w.hp false) (.ag (w.b.cs 21)) (w.hp false++w.b.hp true):=bF w 2 hw.p.s.a.own hw.p.s.a.far hw.p.s.a.subs hw.p.s.a.halfs hw.p.s.a.list hw.p.s.a.done hw.p.s.a.over hw.p.s.b.own hw.p.s.b.far hw.p.s.b.subs hw.p.s.b.halfs hw.p.s.b.list hw.p.s.b.done hw.p.s.b.over
 obtain⟨pr,hpr⟩:∃ p,p=br w.b pos:=⟨_,rfl⟩
 rw [←hpr] at hX hsm hlen⊢
 obtain⟨e1,l1⟩:=pr
 dsimp only at hX hsm hlen⊢
 have hset:=fM w e1
 have hpost:=eN { w with b:=e1 } l1 ⟨hw.p.s.bag,hw.p.s.past,hw.p.s.keys,hw.p.s.tags,hw.p.s.nums,hw.p.s.ansA,hw.p.s.ansB⟩ (by first|omega|simp)
 have hends:=aE (side:=2) (l:=l1) (w:={ w with b:=e1 })
 obtain⟨R,hR⟩:∃ R,R=aq 2 { w with b:=e1 } l1:=⟨_,rfl⟩
 rw [←hR] at hpost hends⊢
 clear hR
 obtain⟨ra,rb,bag,past,wA,wB,rA,rB,known,nums,nsA,nsB⟩:=R
 obtain⟨keys,tags⟩:=known
 dsimp only at hends
 obtain⟨g1,g2,g3,g4,g5,g6⟩:=hends
 replace g1:=g1.symm
 replace g2:=g2.symm
 replace g3:=g3.symm
 replace g4:=g4.symm
 replace g5:=g5.symm
 replace g6:=g6.symm
 subst g1 g2 g3 g4 g5 g6
 refine aN Tryz.func68 (by kernel_rfl) rfl fun E hE=>ac 400 ?_
 simp (disch:=omega) only [Tryz.ntmps68,Tryz.results68,go_sem,Nat.reduceEqDiff,Nat.reduceAdd,Nat.reduceSub,Int.reduceAdd,Int.reduceSub,Int.reduceToNat]
 refine aI [(5,6)] [] [(qU [0,8]),[0,1,2,3,4,6,5,7]] 22 hE (fun s=>s.at (qU [13,6]) [(5,.sc (.pt 30 0 0))] (s.hp++(w.b.hp true++[some ⟨[w.b.cs 23],25,45,true,false⟩]))) (by kernel_rfl) (qC) (by kernel_rfl) ?_ (ac 400 ?_)
 rotate_left
 rotate_right
 simp only [aQ]
 refine⟨aa 400 ?_,aa 400 ?_⟩
 ·simp (disch:=omega) only [go_sem]
  refine am (qC) (hEA) (qI 0 21) qM (by rfl) (by rfl) (aa 400 ?_)
  simp (disch:=omega) only [go_sem,Nat.reduceEqDiff,Nat.reduceAdd,Nat.reduceSub,Int.reduceAdd,Int.reduceSub,Int.reduceToNat]
  refine⟨qC,(qI 0 31),ab (by rfl) (by rfl) ?_⟩
  try simp (disch:=omega) only [go_sem,Nat.reduceEqDiff,Nat.reduceAdd,Nat.reduceSub,Int.reduceAdd,Int.reduceSub,Int.reduceToNat]
 ·simp (disch:=omega) only [go_sem]
  refine am (qC) (hEA) (qI 0 21) qM (by rfl) (by rfl) (aa 400 ?_)
  simp (disch:=omega) only [go_sem,Nat.reduceEqDiff,Nat.reduceAdd,Nat.reduceSub,Int.reduceAdd,Int.reduceSub,Int.reduceToNat]
  refine⟨qC,(qI 0 23++qI 24 7++qI 23 1),ab (by rfl) (by rfl) ?_⟩
  try simp (disch:=omega) only [go_sem,Nat.reduceEqDiff,Nat.reduceAdd,Nat.reduceSub,Int.reduceAdd,Int.reduceSub,Int.reduceToNat]
 try simp (disch:=omega) only [go_sem,Nat.reduceEqDiff,Nat.reduceAdd,Nat.reduceSub,Int.reduceAdd,Int.reduceSub,Int.reduceToNat]
 refine al (qC) (hX) (qI 23 7) qM (by rfl) (ac 400 ?_)
 simp (disch:=omega) only [go_sem,Nat.reduceEqDiff,Nat.reduceAdd,Nat.reduceSub,Int.reduceAdd,Int.reduceSub,Int.reduceToNat]
 refine al (qC) (hset) (qI 0 21++qI 31 7++qI 21 1) qM (by rfl) (ac 400 ?_)
 simp (disch:=omega) only [go_sem,Nat.reduceEqDiff,Nat.reduceAdd,Nat.reduceSub,Int.reduceAdd,Int.reduceSub,Int.reduceToNat]
 refine al (qC) (hpost) (qI 0 7++qI 31 7++qI 14 8++qI 38 1) qM (by rfl) (ac 400 ?_)
 simp (disch:=omega) only [go_sem,Nat.reduceEqDiff,Nat.reduceAdd,Nat.reduceSub,Int.reduceAdd,Int.reduceSub,Int.reduceToNat]
 refine aA (qI 0 22++qI 0 7++qI 31 7++qI 39 7) (qC) _ (by simp only [go_sem];rfl) (by rfl) (by rfl) ?_
 simp (disch:=omega) only [go_sem,Nat.reduceEqDiff,Nat.reduceAdd,Nat.reduceSub,Int.reduceAdd,Int.reduceSub,Int.reduceToNat]
end
section
open Go.RowKit
theorem nr {l:List LetterD} {p:Nat} (h:p < l.length):uD l (Int.toNat (p:Int))=l[p]:=by simp [uD,h]
theorem n6 (l:List LetterD) (p:Nat):gU l (p:Int)=l.take p++l.drop (p+1):=rfl
theorem gy {l:List LetterD} {p:Nat} (h:p < l.length):(gU l (p:Int)).length=l.length - 1:=by
 rw [n6,List.length_append,List.length_take,List.length_drop];omega
theorem NM {w:WorldD} {s m:Int} {p:Nat} {t:List UInt8} {ad:AddrD} {le:LetterD} (h:¬ p < w.bag.length):a_ w ⟨8,s,(p:Nat),m,t,ad,le⟩=(w,1):=by
 unfold a_;dsimp only;rw [if_pos (.inl rfl),if_pos (by omega)]
theorem NN {w:WorldD} {s m:Int} {p:Nat} {t:List UInt8} {ad:AddrD} {le:LetterD} (h:p < w.bag.length):a_ w ⟨8,s,(p:Nat),m,t,ad,le⟩=(gN { w with bag:=gU w.bag (p:Nat) } w.bag[p],0):=by
 unfold a_;dsimp only;rw [if_pos (.inl rfl),if_neg (by omega),if_pos rfl,nr h]
theorem NO {w:WorldD} {s m:Int} {p:Nat} {t:List UInt8} {ad:AddrD} {le:LetterD} (h:¬ p < w.bag.length):a_ w ⟨9,s,(p:Nat),m,t,ad,le⟩=(w,1):=by
 unfold a_;dsimp only;rw [if_pos (.inr rfl),if_pos (by omega)]
theorem NP {w:WorldD} {s m:Int} {p:Nat} {t:List UInt8} {ad:AddrD} {le:LetterD} (h:p < w.bag.length):a_ w ⟨9,s,(p:Nat),m,t,ad,le⟩=({ w with bag:=gU w.bag (p:Nat) },0):=by
 unfold a_;dsimp only;rw [if_pos (.inr rfl),if_neg (by omega),if_neg (by omega)]
theorem E6 {w:WorldD} {s m:Int} {p:Nat} {t:List UInt8} {ad:AddrD} {le:LetterD} (h:¬ p < w.bag.length∨40≤w.bag.length):a_ w ⟨10,s,(p:Nat),m,t,ad,le⟩=(w,1):=by
 unfold a_;dsimp only;rw [if_neg (by omega),if_pos rfl,if_pos (by omega)]
theorem E7 {w:WorldD} {s m:Int} {p:Nat} {t:List UInt8} {ad:AddrD} {le:LetterD} (h:p < w.bag.length) (h2:¬ 40≤w.bag.length):a_ w ⟨10,s,(p:Nat),m,t,ad,le⟩=({ w with bag:=w.bag++[w.bag[p]] },0):=by
 unfold a_;dsimp only;rw [if_neg (by omega),if_pos rfl,if_neg (by omega),nr h]
theorem E8 {w:WorldD} {s m p:Int} {t:List UInt8} {ad:AddrD} {le:LetterD} (h:dV w le=false):a_ w ⟨11,s,p,m,t,ad,le⟩=(w,2):=by
 unfold a_;dsimp only;rw [if_neg (by omega),if_neg (by omega),if_pos rfl,if_pos h]
theorem E9 {w:WorldD} {s m p:Int} {t:List UInt8} {ad:AddrD} {le:LetterD} (h:dV w le=true) (h2:40≤w.bag.length):a_ w ⟨11,s,p,m,t,ad,le⟩=(w,1):=by
 unfold a_;dsimp only;rw [if_neg (by omega),if_neg (by omega),if_pos rfl,if_neg (by simp [h]),if_pos h2]
theorem E_ {w:WorldD} {s m p:Int} {t:List UInt8} {ad:AddrD} {le:LetterD} (h:dV w le=true) (h2:¬ 40≤w.bag.length):a_ w ⟨11,s,p,m,t,ad,le⟩=({ w with bag:=w.bag++[le] },0):=by
 unfold a_;dsimp only;rw [if_neg (by omega),if_neg (by omega),if_pos rfl,if_neg (by simp [h]),if_neg h2]
theorem Fa {w:WorldD} {s m:Int} {p:Nat} {t:List UInt8} {ad:AddrD} {le:LetterD} (h:¬ p < w.past.length):a_ w ⟨12,s,(p:Nat),m,t,ad,le⟩=(w,1):=by
 unfold a_;dsimp only;rw [if_neg (by omega),if_neg (by omega),if_neg (by omega),if_pos (.inl (by omega))]
theorem Fb {w:WorldD} {s m:Int} {p:Nat} {t:List UInt8} {ad:AddrD} {le:LetterD} (h:p < w.past.length) (h2:aZ w.past[p].to=0∨40≤w.bag.length):a_ w ⟨12,s,(p:Nat),m,t,ad,le⟩=(w,1):=by
 unfold a_;dsimp only;rw [if_neg (by omega),if_neg (by omega),if_neg (by omega),nr h,if_pos (.inr h2)]
theorem Fc {w:WorldD} {s m:Int} {p:Nat} {t:List UInt8} {ad:AddrD} {le:LetterD} (h:p < w.past.length) (h1:¬ aZ w.past[p].to=0) (h2:¬ 40≤w.bag.length):a_ w ⟨12,s,(p:Nat),m,t,ad,le⟩=({ w with bag:=w.bag++[w.past[p]] },0):=by
 unfold a_;dsimp only;rw [if_neg (by omega),if_neg (by omega),if_neg (by omega),nr h,if_neg (by omega)]
theorem yh (w:WorldD) (side many:Int) (p:Nat) (text:List UInt8) (ad:AddrD) (le:LetterD) (hw:SmallD w):
  ae Tryz.prog 69 [.sc (.pt 21 0 0),.ag (ActD.cs ⟨8,side,(p:Nat),many,text,ad,le⟩)] (w.hp true++[some ⟨[w.cs 0],61,51,true,false⟩]) (.sc (.int .i64 (a_ w ⟨8,side,(p:Nat),many,text,ad,le⟩).2))
  ([none,none,none,none,none,none,none,none,none,none,none,none,none,none,none,none,none,none,none,none,none,some ⟨[WorldD.cs (a_ w ⟨8,side,(p:Nat),many,text,ad,le⟩).1 22],61,51,true,false⟩]++WorldD.hp (a_ w ⟨8,side,(p:Nat),many,text,ad,le⟩).1 true):=by
 have hbag:=hw.p.s.bag
 have hpast:=hw.p.s.past
 obtain⟨R,hR⟩:∃ R,R=a_ w ⟨8,side,(p:Nat),many,text,ad,le⟩:=⟨_,rfl⟩
 rw [←hR]
 by_cases hp:p < w.bag.length
 ·rw [NN hp] at hR
  obtain⟨B,hBe⟩:∃ B,B=gU w.bag (p:Nat):=⟨_,rfl⟩
  have e2:p+(w.bag.length - (p+1))=B.length:=by rw [hBe,gy hp];omega
  have e1:(w.bag.take p).map LetterD.cs++((w.bag.map LetterD.cs).drop (p+1)).take (w.bag.length - (p+1))=B.map LetterD.cs:=by rw [hBe];exact (jl hp).2
  have hB:B.length≤1048576:=by omega
  have hlt:(w.bag.take p).length=p:=by simp;omega
  have hlt2:(List.take p (List.map LetterD.cs w.bag)).length=p:=by simp;omega
  have hC:=eV (w.bag.take p) (by omega)
  rw [hlt] at hC
  have hx:=ao (enc:=LetterD.cs) hp
  rw [←hBe] at hR
  clear hBe
  generalize hxx:w.bag[p]=x at*
  have hL:=zg { w with bag:=B } x ⟨⟨hw.p.s.a,hw.p.s.b,hB,hw.p.s.past,hw.p.s.keys,hw.p.s.tags,hw.p.s.nums,hw.p.s.ansA,hw.p.s.ansB⟩,hw.p.pa,hw.p.pb⟩
  obtain⟨L,hLe⟩:∃ L,L=gN { w with bag:=B } x:=⟨_,rfl⟩
  rw [←hLe] at hL hR
  clear hLe
  subst hR
  dsimp only
  refine aN Tryz.func69 (by kernel_rfl) rfl fun E hE=>ac 400 ?_
  simp (disch:=omega) only [Tryz.ntmps69,Tryz.results69,go_sem,Nat.reduceEqDiff,Nat.reduceAdd,Nat.reduceSub,Int.reduceAdd,Int.reduceSub,Int.reduceToNat]
  refine ar (qU [0,9]) (by kernel_rfl) (qC) (by kernel_rfl) (aa 400 ?_)
  simp (disch:=omega) only [go_sem,Nat.reduceEqDiff,Nat.reduceAdd,Nat.reduceSub,Int.reduceAdd,Int.reduceSub,Int.reduceToNat]
  refine⟨qC,ac 400 ?_⟩
  try simp (disch:=omega) only [go_sem,Nat.reduceEqDiff,Nat.reduceAdd,Nat.reduceSub,Int.reduceAdd,Int.reduceSub,Int.reduceToNat]
  refine ar (qU [0,10]) (by kernel_rfl) (qC) (by kernel_rfl) (aa 400 ?_)
  simp (disch:=omega) only [go_sem,Nat.reduceEqDiff,Nat.reduceAdd,Nat.reduceSub,Int.reduceAdd,Int.reduceSub,Int.reduceToNat]
  refine⟨qC,ac 400 ?_⟩
  try simp (disch:=omega) only [go_sem,Nat.reduceEqDiff,Nat.reduceAdd,Nat.reduceSub,Int.reduceAdd,Int.reduceSub,Int.reduceToNat,hx,hxx]
  refine ar (qU [0,8,9,8,8,1,17,4]) (by kernel_rfl) (qC) (by kernel_rfl) (aa 400 ?_)
  simp (disch:=omega) only [go_sem,Nat.reduceEqDiff,Nat.reduceAdd,Nat.reduceSub,Int.reduceAdd,Int.reduceSub,Int.reduceToNat]
  refine am (qC) (hC) [some (14,some 0)] qM (by rfl) (by rfl) (aa 400 ?_)
  simp (disch:=omega) only [go_sem,Nat.reduceEqDiff,Nat.reduceAdd,Nat.reduceSub,Int.reduceAdd,Int.reduceSub,Int.reduceToNat]
  refine⟨qC,ac 400 ?_⟩
  try simp (disch:=omega) only [go_sem,Nat.reduceEqDiff,Nat.reduceAdd,Nat.reduceSub,Int.reduceAdd,Int.reduceSub,Int.reduceToNat,e1,e2]
  refine ar (qU [0,8]) (by kernel_rfl) (qC) (by kernel_rfl) (aa 400 ?_)
  simp (disch:=omega) only [go_sem,Nat.reduceEqDiff,Nat.reduceAdd,Nat.reduceSub,Int.reduceAdd,Int.reduceSub,Int.reduceToNat]
  refine am (qC) (hL) (qI 0 14++qI 25 1++qI 15 6) qM (by rfl) (by rfl) (aa 400 ?_)
  simp (disch:=omega) only [go_sem,Nat.reduceEqDiff,Nat.reduceAdd,Nat.reduceSub,Int.reduceAdd,Int.reduceSub,Int.reduceToNat]
  refine⟨qC,ac 400 ?_⟩
  try simp (disch:=omega) only [go_sem,Nat.reduceEqDiff,Nat.reduceAdd,Nat.reduceSub,Int.reduceAdd,Int.reduceSub,Int.reduceToNat]
  refine aA (qI 0 22++qI 26 21) (qC) _ (by simp only [go_sem];rfl) (by rfl) (by rfl) ?_
  simp (disch:=omega) only [go_sem,Nat.reduceEqDiff,Nat.reduceAdd,Nat.reduceSub,Int.reduceAdd,Int.reduceSub,Int.reduceToNat]
 rw [NM hp] at hR
 subst hR
 dsimp only
 refine aN Tryz.func69 (by kernel_rfl) rfl fun E hE=>ac 400 ?_
 simp (disch:=omega) only [Tryz.ntmps69,Tryz.results69,go_sem,Nat.reduceEqDiff,Nat.reduceAdd,Nat.reduceSub,Int.reduceAdd,Int.reduceSub,Int.reduceToNat]
 refine ar (qU [0,9]) (by kernel_rfl) (qC) (by kernel_rfl) (aa 400 ?_)
 simp (disch:=omega) only [go_sem,Nat.reduceEqDiff,Nat.reduceAdd,Nat.reduceSub,Int.reduceAdd,Int.reduceSub,Int.reduceToNat]
 refine⟨qC,ac 400 ?_⟩
 try simp (disch:=omega) only [go_sem,Nat.reduceEqDiff,Nat.reduceAdd,Nat.reduceSub,Int.reduceAdd,Int.reduceSub,Int.reduceToNat]
 refine aA (qI 0 22++qI 0 21) (qC) _ (by simp only [go_sem];rfl) (by rfl) (by rfl) ?_
 simp (disch:=omega) only [go_sem,Nat.reduceEqDiff,Nat.reduceAdd,Nat.reduceSub,Int.reduceAdd,Int.reduceSub,Int.reduceToNat]
theorem yi (w:WorldD) (side many:Int) (p:Nat) (text:List UInt8) (ad:AddrD) (le:LetterD) (hw:SmallD w):
  ae Tryz.prog 69 [.sc (.pt 21 0 0),.ag (ActD.cs ⟨9,side,(p:Nat),many,text,ad,le⟩)] (w.hp true++[some ⟨[w.cs 0],61,51,true,false⟩]) (.sc (.int .i64 (a_ w ⟨9,side,(p:Nat),many,text,ad,le⟩).2))
  ([none,none,none,none,none,none,none,none,none,none,none,none,none,none,none,none,none,none,none,none,none,some ⟨[WorldD.cs (a_ w ⟨9,side,(p:Nat),many,text,ad,le⟩).1 22],61,51,true,false⟩]++WorldD.hp (a_ w ⟨9,side,(p:Nat),many,text,ad,le⟩).1 true):=by
 have hbag:=hw.p.s.bag
 have hpast:=hw.p.s.past
 obtain⟨R,hR⟩:∃ R,R=a_ w ⟨9,side,(p:Nat),many,text,ad,le⟩:=⟨_,rfl⟩
 rw [←hR]
 by_cases hp:p < w.bag.length
 ·rw [NP hp] at hR
  obtain⟨B,hBe⟩:∃ B,B=gU w.bag (p:Nat):=⟨_,rfl⟩
  have e2:p+(w.bag.length - (p+1))=B.length:=by rw [hBe,gy hp];omega
  have e1:(w.bag.take p).map LetterD.cs++((w.bag.map LetterD.cs).drop (p+1)).take (w.bag.length - (p+1))=B.map LetterD.cs:=by rw [hBe];exact (jl hp).2
  have hB:B.length≤1048576:=by omega
  have hlt:(w.bag.take p).length=p:=by simp;omega
  have hlt2:(List.take p (List.map LetterD.cs w.bag)).length=p:=by simp;omega
  have hC:=eV (w.bag.take p) (by omega)
  rw [hlt] at hC
  have hx:=ao (enc:=LetterD.cs) hp
  rw [←hBe] at hR
  clear hBe
  generalize hxx:w.bag[p]=x at*
  subst hR
  dsimp only
  refine aN Tryz.func69 (by kernel_rfl) rfl fun E hE=>ac 400 ?_
  simp (disch:=omega) only [Tryz.ntmps69,Tryz.results69,go_sem,Nat.reduceEqDiff,Nat.reduceAdd,Nat.reduceSub,Int.reduceAdd,Int.reduceSub,Int.reduceToNat]
  refine ar (qU [0,9]) (by kernel_rfl) (qC) (by kernel_rfl) (aa 400 ?_)
  simp (disch:=omega) only [go_sem,Nat.reduceEqDiff,Nat.reduceAdd,Nat.reduceSub,Int.reduceAdd,Int.reduceSub,Int.reduceToNat]
  refine⟨qC,ac 400 ?_⟩
  try simp (disch:=omega) only [go_sem,Nat.reduceEqDiff,Nat.reduceAdd,Nat.reduceSub,Int.reduceAdd,Int.reduceSub,Int.reduceToNat]
  refine ar (qU [0,10]) (by kernel_rfl) (qC) (by kernel_rfl) (aa 400 ?_)
  simp (disch:=omega) only [go_sem,Nat.reduceEqDiff,Nat.reduceAdd,Nat.reduceSub,Int.reduceAdd,Int.reduceSub,Int.reduceToNat]
  refine⟨qC,ac 400 ?_⟩
  try simp (disch:=omega) only [go_sem,Nat.reduceEqDiff,Nat.reduceAdd,Nat.reduceSub,Int.reduceAdd,Int.reduceSub,Int.reduceToNat,hx,hxx]
  refine ar (qU [0,8,9,8,8,1,17,4]) (by kernel_rfl) (qC) (by kernel_rfl) (aa 400 ?_)
  simp (disch:=omega) only [go_sem,Nat.reduceEqDiff,Nat.reduceAdd,Nat.reduceSub,Int.reduceAdd,Int.reduceSub,Int.reduceToNat]
  refine am (qC) (hC) [some (14,some 0)] qM (by rfl) (by rfl) (aa 400 ?_)
  simp (disch:=omega) only [go_sem,Nat.reduceEqDiff,Nat.reduceAdd,Nat.reduceSub,Int.reduceAdd,Int.reduceSub,Int.reduceToNat]
  refine⟨qC,ac 400 ?_⟩
  try simp (disch:=omega) only [go_sem,Nat.reduceEqDiff,Nat.reduceAdd,Nat.reduceSub,Int.reduceAdd,Int.reduceSub,Int.reduceToNat,e1,e2]
  refine aA (qI 0 22++qI 0 14++qI 25 1++qI 15 6) (qC) _ (by simp only [go_sem];rfl) (by rfl) (by rfl) ?_
  simp (disch:=omega) only [go_sem,Nat.reduceEqDiff,Nat.reduceAdd,Nat.reduceSub,Int.reduceAdd,Int.reduceSub,Int.reduceToNat]
 rw [NO hp] at hR
 subst hR
 dsimp only
 refine aN Tryz.func69 (by kernel_rfl) rfl fun E hE=>ac 400 ?_
 simp (disch:=omega) only [Tryz.ntmps69,Tryz.results69,go_sem,Nat.reduceEqDiff,Nat.reduceAdd,Nat.reduceSub,Int.reduceAdd,Int.reduceSub,Int.reduceToNat]
 refine ar (qU [0,9]) (by kernel_rfl) (qC) (by kernel_rfl) (aa 400 ?_)
 simp (disch:=omega) only [go_sem,Nat.reduceEqDiff,Nat.reduceAdd,Nat.reduceSub,Int.reduceAdd,Int.reduceSub,Int.reduceToNat]
 refine⟨qC,ac 400 ?_⟩
 try simp (disch:=omega) only [go_sem,Nat.reduceEqDiff,Nat.reduceAdd,Nat.reduceSub,Int.reduceAdd,Int.reduceSub,Int.reduceToNat]
 refine aA (qI 0 22++qI 0 21) (qC) _ (by simp only [go_sem];rfl) (by rfl) (by rfl) ?_
 simp (disch:=omega) only [go_sem,Nat.reduceEqDiff,Nat.reduceAdd,Nat.reduceSub,Int.reduceAdd,Int.reduceSub,Int.reduceToNat]
theorem wz (w:WorldD) (side many:Int) (p:Nat) (text:List UInt8) (ad:AddrD) (le:LetterD) (hw:SmallD w):
  ae Tryz.prog 69 [.sc (.pt 21 0 0),.ag (ActD.cs ⟨10,side,(p:Nat),many,text,ad,le⟩)] (w.hp true++[some ⟨[w.cs 0],61,51,true,false⟩]) (.sc (.int .i64 (a_ w ⟨10,side,(p:Nat),many,text,ad,le⟩).2))
  ([none,none,none,none,none,none,none,none,none,none,none,none,none,none,none,none,none,none,none,none,none,some ⟨[WorldD.cs (a_ w ⟨10,side,(p:Nat),many,text,ad,le⟩).1 22],61,51,true,false⟩]++WorldD.hp (a_ w ⟨10,side,(p:Nat),many,text,ad,le⟩).1 true):=by
 have hbag:=hw.p.s.bag
 have hpast:=hw.p.s.past
 obtain⟨R,hR⟩:∃ R,R=a_ w ⟨10,side,(p:Nat),many,text,ad,le⟩:=⟨_,rfl⟩
 rw [←hR]
 by_cases hp:p < w.bag.length∧¬ 40≤w.bag.length
 ·obtain⟨hp,h4⟩:=hp
  rw [E7 hp h4] at hR
  have hx:=ao (enc:=LetterD.cs) hp
  generalize hxx:w.bag[p]=x at*
  subst hR
  dsimp only
  refine aN Tryz.func69 (by kernel_rfl) rfl fun E hE=>ac 400 ?_
  simp (disch:=omega) only [Tryz.ntmps69,Tryz.results69,go_sem,Nat.reduceEqDiff,Nat.reduceAdd,Nat.reduceSub,Int.reduceAdd,Int.reduceSub,Int.reduceToNat]
  refine ar (qU [0,9]) (by kernel_rfl) (qC) (by kernel_rfl) (aa 400 ?_)
  simp (disch:=omega) only [go_sem,Nat.reduceEqDiff,Nat.reduceAdd,Nat.reduceSub,Int.reduceAdd,Int.reduceSub,Int.reduceToNat]
  refine⟨qC,ac 400 ?_⟩
  try simp (disch:=omega) only [go_sem,Nat.reduceEqDiff,Nat.reduceAdd,Nat.reduceSub,Int.reduceAdd,Int.reduceSub,Int.reduceToNat]
  refine ar (qU [0,18]) (by kernel_rfl) (qC) (by kernel_rfl) (aa 400 ?_)
  simp (disch:=omega) only [go_sem,Nat.reduceEqDiff,Nat.reduceAdd,Nat.reduceSub,Int.reduceAdd,Int.reduceSub,Int.reduceToNat]
  refine⟨qC,ac 400 ?_⟩
  try simp (disch:=omega) only [go_sem,Nat.reduceEqDiff,Nat.reduceAdd,Nat.reduceSub,Int.reduceAdd,Int.reduceSub,Int.reduceToNat,hx,hxx]
  refine aA (qI 0 22++qI 0 14++qI 24 1++qI 15 6) (qC) _ (by simp only [go_sem];rfl) (by rfl) (by rfl) ?_
  simp (disch:=omega) only [go_sem,Nat.reduceEqDiff,Nat.reduceAdd,Nat.reduceSub,Int.reduceAdd,Int.reduceSub,Int.reduceToNat]
  simp [LetterD.cs]
 rw [E6 (by omega)] at hR
 subst hR
 dsimp only
 by_cases hq:p < w.bag.length
 ·have h4:40≤w.bag.length:=by omega
  refine aN Tryz.func69 (by kernel_rfl) rfl fun E hE=>ac 400 ?_
  simp (disch:=omega) only [Tryz.ntmps69,Tryz.results69,go_sem,Nat.reduceEqDiff,Nat.reduceAdd,Nat.reduceSub,Int.reduceAdd,Int.reduceSub,Int.reduceToNat]
  refine ar (qU [0,9]) (by kernel_rfl) (qC) (by kernel_rfl) (aa 400 ?_)
  simp (disch:=omega) only [go_sem,Nat.reduceEqDiff,Nat.reduceAdd,Nat.reduceSub,Int.reduceAdd,Int.reduceSub,Int.reduceToNat]
  refine⟨qC,ac 400 ?_⟩
  try simp (disch:=omega) only [go_sem,Nat.reduceEqDiff,Nat.reduceAdd,Nat.reduceSub,Int.reduceAdd,Int.reduceSub,Int.reduceToNat]
  refine aA (qI 0 22++qI 0 21) (qC) _ (by simp only [go_sem];rfl) (by rfl) (by rfl) ?_
  simp (disch:=omega) only [go_sem,Nat.reduceEqDiff,Nat.reduceAdd,Nat.reduceSub,Int.reduceAdd,Int.reduceSub,Int.reduceToNat]
 refine aN Tryz.func69 (by kernel_rfl) rfl fun E hE=>ac 400 ?_
 simp (disch:=omega) only [Tryz.ntmps69,Tryz.results69,go_sem,Nat.reduceEqDiff,Nat.reduceAdd,Nat.reduceSub,Int.reduceAdd,Int.reduceSub,Int.reduceToNat]
 refine ar (qU [0,9]) (by kernel_rfl) (qC) (by kernel_rfl) (aa 400 ?_)
 simp (disch:=omega) only [go_sem,Nat.reduceEqDiff,Nat.reduceAdd,Nat.reduceSub,Int.reduceAdd,Int.reduceSub,Int.reduceToNat]
 refine⟨qC,ac 400 ?_⟩
 try simp (disch:=omega) only [go_sem,Nat.reduceEqDiff,Nat.reduceAdd,Nat.reduceSub,Int.reduceAdd,Int.reduceSub,Int.reduceToNat]
 refine aA (qI 0 22++qI 0 21) (qC) _ (by simp only [go_sem];rfl) (by rfl) (by rfl) ?_
 simp (disch:=omega) only [go_sem,Nat.reduceEqDiff,Nat.reduceAdd,Nat.reduceSub,Int.reduceAdd,Int.reduceSub,Int.reduceToNat]
theorem wC (w:WorldD) (side many:Int) (p:Int) (text:List UInt8) (ad:AddrD) (le:LetterD) (hw:SmallD w):
  ae Tryz.prog 69 [.sc (.pt 21 0 0),.ag (ActD.cs ⟨11,side,p,many,text,ad,le⟩)] (w.hp true++[some ⟨[w.cs 0],61,51,true,false⟩]) (.sc (.int .i64 (a_ w ⟨11,side,p,many,text,ad,le⟩).2))
  ([none,none,none,none,none,none,none,none,none,none,none,none,none,none,none,none,none,none,none,none,none,some ⟨[WorldD.cs (a_ w ⟨11,side,p,many,text,ad,le⟩).1 22],61,51,true,false⟩]++WorldD.hp (a_ w ⟨11,side,p,many,text,ad,le⟩).1 true):=by
 have hbag:=hw.p.s.bag
 have hpast:=hw.p.s.past
 obtain⟨R,hR⟩:∃ R,R=a_ w ⟨11,side,p,many,text,ad,le⟩:=⟨_,rfl⟩
 rw [←hR]
 cases hm:dV w le with
 |false=>
  rw [E8 hm] at hR
  subst hR
  dsimp only
  have hM:=iG w le hw.p.s.keys hw.p.s.tags hw.p.s.nums
  rw [hm] at hM
  refine aN Tryz.func69 (by kernel_rfl) rfl fun E hE=>ac 400 ?_
  simp (disch:=omega) only [Tryz.ntmps69,Tryz.results69,go_sem,Nat.reduceEqDiff,Nat.reduceAdd,Nat.reduceSub,Int.reduceAdd,Int.reduceSub,Int.reduceToNat]
  refine ar (qU [0,9]) (by kernel_rfl) (qC) (by kernel_rfl) (aa 400 ?_)
  simp (disch:=omega) only [go_sem,Nat.reduceEqDiff,Nat.reduceAdd,Nat.reduceSub,Int.reduceAdd,Int.reduceSub,Int.reduceToNat]
  refine⟨qC,ac 400 ?_⟩
  try simp (disch:=omega) only [go_sem,Nat.reduceEqDiff,Nat.reduceAdd,Nat.reduceSub,Int.reduceAdd,Int.reduceSub,Int.reduceToNat]
  refine ar (qU [0,7]) (by kernel_rfl) (qC) (by kernel_rfl) (aa 400 ?_)
  simp (disch:=omega) only [go_sem,Nat.reduceEqDiff,Nat.reduceAdd,Nat.reduceSub,Int.reduceAdd,Int.reduceSub,Int.reduceToNat]
  refine am (qC) (hM) (qI 0 21) qM (by rfl) (by rfl) (aa 400 ?_)
  simp (disch:=omega) only [go_sem,Nat.reduceEqDiff,Nat.reduceAdd,Nat.reduceSub,Int.reduceAdd,Int.reduceSub,Int.reduceToNat]
  refine⟨qC,ac 400 ?_⟩
  try simp (disch:=omega) only [go_sem,Nat.reduceEqDiff,Nat.reduceAdd,Nat.reduceSub,Int.reduceAdd,Int.reduceSub,Int.reduceToNat]
  refine aA (qI 0 22++qI 0 21) (qC) _ (by simp only [go_sem];rfl) (by rfl) (by rfl) ?_
  simp (disch:=omega) only [go_sem,Nat.reduceEqDiff,Nat.reduceAdd,Nat.reduceSub,Int.reduceAdd,Int.reduceSub,Int.reduceToNat]
 |true=>
  by_cases h4:40≤w.bag.length
  ·rw [E9 hm h4] at hR
   subst hR
   dsimp only
   have hM:=iG w le hw.p.s.keys hw.p.s.tags hw.p.s.nums
   rw [hm] at hM
   refine aN Tryz.func69 (by kernel_rfl) rfl fun E hE=>ac 400 ?_
   simp (disch:=omega) only [Tryz.ntmps69,Tryz.results69,go_sem,Nat.reduceEqDiff,Nat.reduceAdd,Nat.reduceSub,Int.reduceAdd,Int.reduceSub,Int.reduceToNat]
   refine ar (qU [0,9]) (by kernel_rfl) (qC) (by kernel_rfl) (aa 400 ?_)
   simp (disch:=omega) only [go_sem,Nat.reduceEqDiff,Nat.reduceAdd,Nat.reduceSub,Int.reduceAdd,Int.reduceSub,Int.reduceToNat]
   refine⟨qC,ac 400 ?_⟩
   try simp (disch:=omega) only [go_sem,Nat.reduceEqDiff,Nat.reduceAdd,Nat.reduceSub,Int.reduceAdd,Int.reduceSub,Int.reduceToNat]
   refine ar (qU [0,7]) (by kernel_rfl) (qC) (by kernel_rfl) (aa 400 ?_)
   simp (disch:=omega) only [go_sem,Nat.reduceEqDiff,Nat.reduceAdd,Nat.reduceSub,Int.reduceAdd,Int.reduceSub,Int.reduceToNat]
   refine am (qC) (hM) (qI 0 21) qM (by rfl) (by rfl) (aa 400 ?_)
   simp (disch:=omega) only [go_sem,Nat.reduceEqDiff,Nat.reduceAdd,Nat.reduceSub,Int.reduceAdd,Int.reduceSub,Int.reduceToNat]
   refine⟨qC,ac 400 ?_⟩
   try simp (disch:=omega) only [go_sem,Nat.reduceEqDiff,Nat.reduceAdd,Nat.reduceSub,Int.reduceAdd,Int.reduceSub,Int.reduceToNat]
   refine aA (qI 0 22++qI 0 21) (qC) _ (by simp only [go_sem];rfl) (by rfl) (by rfl) ?_
   simp (disch:=omega) only [go_sem,Nat.reduceEqDiff,Nat.reduceAdd,Nat.reduceSub,Int.reduceAdd,Int.reduceSub,Int.reduceToNat]
  rw [E_ hm h4] at hR
  subst hR
  dsimp only
  have hM:=iG w le hw.p.s.keys hw.p.s.tags hw.p.s.nums
  rw [hm] at hM
  refine aN Tryz.func69 (by kernel_rfl) rfl fun E hE=>ac 400 ?_
  simp (disch:=omega) only [Tryz.ntmps69,Tryz.results69,go_sem,Nat.reduceEqDiff,Nat.reduceAdd,Nat.reduceSub,Int.reduceAdd,Int.reduceSub,Int.reduceToNat]
  refine ar (qU [0,9]) (by kernel_rfl) (qC) (by kernel_rfl) (aa 400 ?_)
  simp (disch:=omega) only [go_sem,Nat.reduceEqDiff,Nat.reduceAdd,Nat.reduceSub,Int.reduceAdd,Int.reduceSub,Int.reduceToNat]
  refine⟨qC,ac 400 ?_⟩
  try simp (disch:=omega) only [go_sem,Nat.reduceEqDiff,Nat.reduceAdd,Nat.reduceSub,Int.reduceAdd,Int.reduceSub,Int.reduceToNat]
  refine ar (qU [0,7]) (by kernel_rfl) (qC) (by kernel_rfl) (aa 400 ?_)
  simp (disch:=omega) only [go_sem,Nat.reduceEqDiff,Nat.reduceAdd,Nat.reduceSub,Int.reduceAdd,Int.reduceSub,Int.reduceToNat]
  refine am (qC) (hM) (qI 0 21) qM (by rfl) (by rfl) (aa 400 ?_)
  simp (disch:=omega) only [go_sem,Nat.reduceEqDiff,Nat.reduceAdd,Nat.reduceSub,Int.reduceAdd,Int.reduceSub,Int.reduceToNat]
  refine⟨qC,ac 400 ?_⟩
  try simp (disch:=omega) only [go_sem,Nat.reduceEqDiff,Nat.reduceAdd,Nat.reduceSub,Int.reduceAdd,Int.reduceSub,Int.reduceToNat]
  refine ar (qU [0,12]) (by kernel_rfl) (qC) (by kernel_rfl) (aa 400 ?_)
  simp (disch:=omega) only [go_sem,Nat.reduceEqDiff,Nat.reduceAdd,Nat.reduceSub,Int.reduceAdd,Int.reduceSub,Int.reduceToNat]
  refine⟨qC,ac 400 ?_⟩
  try simp (disch:=omega) only [go_sem,Nat.reduceEqDiff,Nat.reduceAdd,Nat.reduceSub,Int.reduceAdd,Int.reduceSub,Int.reduceToNat]
  refine aA (qI 0 22++qI 0 14++qI 24 1++qI 15 6) (qC) _ (by simp only [go_sem];rfl) (by rfl) (by rfl) ?_
  simp (disch:=omega) only [go_sem,Nat.reduceEqDiff,Nat.reduceAdd,Nat.reduceSub,Int.reduceAdd,Int.reduceSub,Int.reduceToNat]
  simp [LetterD.cs]
theorem wD (w:WorldD) (side many:Int) (p:Nat) (text:List UInt8) (ad:AddrD) (le:LetterD) (hw:SmallD w):
  ae Tryz.prog 69 [.sc (.pt 21 0 0),.ag (ActD.cs ⟨12,side,(p:Nat),many,text,ad,le⟩)] (w.hp true++[some ⟨[w.cs 0],61,51,true,false⟩]) (.sc (.int .i64 (a_ w ⟨12,side,(p:Nat),many,text,ad,le⟩).2))
  ([none,none,none,none,none,none,none,none,none,none,none,none,none,none,none,none,none,none,none,none,none,some ⟨[WorldD.cs (a_ w ⟨12,side,(p:Nat),many,text,ad,le⟩).1 22],61,51,true,false⟩]++WorldD.hp (a_ w ⟨12,side,(p:Nat),many,text,ad,le⟩).1 true):=by
 have hbag:=hw.p.s.bag
 have hpast:=hw.p.s.past
 obtain⟨R,hR⟩:∃ R,R=a_ w ⟨12,side,(p:Nat),many,text,ad,le⟩:=⟨_,rfl⟩
 rw [←hR]
 by_cases hp:p < w.past.length
 ·have hx:=ao (enc:=LetterD.cs) hp
  have hq1:= @Fb w side many p text ad le hp
  have hq2:= @Fc w side many p text ad le hp
  rw [←hR] at hq1 hq2
  generalize hxx:w.past[p]=x at*
  have hS:=dC x.to
  have hSb:=kT x.to
  generalize aZ x.to=sd at*
  by_cases h0:sd=0
  ·rw [hq1 (.inl h0)]
   dsimp only
   refine aN Tryz.func69 (by kernel_rfl) rfl fun E hE=>ac 400 ?_
   simp (disch:=omega) only [Tryz.ntmps69,Tryz.results69,go_sem,Nat.reduceEqDiff,Nat.reduceAdd,Nat.reduceSub,Int.reduceAdd,Int.reduceSub,Int.reduceToNat]
   refine ar (qU [0,9]) (by kernel_rfl) (qC) (by kernel_rfl) (aa 400 ?_)
   simp (disch:=omega) only [go_sem,Nat.reduceEqDiff,Nat.reduceAdd,Nat.reduceSub,Int.reduceAdd,Int.reduceSub,Int.reduceToNat]
   refine⟨qC,ac 400 ?_⟩
   try simp (disch:=omega) only [go_sem,Nat.reduceEqDiff,Nat.reduceAdd,Nat.reduceSub,Int.reduceAdd,Int.reduceSub,Int.reduceToNat]
   refine ar (qU [0,24]) (by kernel_rfl) (qC) (by kernel_rfl) (aa 400 ?_)
   simp (disch:=omega) only [go_sem,Nat.reduceEqDiff,Nat.reduceAdd,Nat.reduceSub,Int.reduceAdd,Int.reduceSub,Int.reduceToNat]
   try simp (disch:=omega) only [go_sem,hx,hxx]
   refine am (qC) (hS) [] qM (by rfl) (by rfl) (aa 400 ?_)
   simp (disch:=omega) only [go_sem,Nat.reduceEqDiff,Nat.reduceAdd,Nat.reduceSub,Int.reduceAdd,Int.reduceSub,Int.reduceToNat]
   refine⟨qC,ac 400 ?_⟩
   try simp (disch:=omega) only [go_sem,Nat.reduceEqDiff,Nat.reduceAdd,Nat.reduceSub,Int.reduceAdd,Int.reduceSub,Int.reduceToNat,hx,hxx]
   refine aA (qI 0 22++qI 0 21) (qC) _ (by simp only [go_sem];rfl) (by rfl) (by rfl) ?_
   simp (disch:=omega) only [go_sem,Nat.reduceEqDiff,Nat.reduceAdd,Nat.reduceSub,Int.reduceAdd,Int.reduceSub,Int.reduceToNat]
  by_cases h4:40≤w.bag.length
  ·rw [hq1 (.inr h4)]
   dsimp only
   refine aN Tryz.func69 (by kernel_rfl) rfl fun E hE=>ac 400 ?_
   simp (disch:=omega) only [Tryz.ntmps69,Tryz.results69,go_sem,Nat.reduceEqDiff,Nat.reduceAdd,Nat.reduceSub,Int.reduceAdd,Int.reduceSub,Int.reduceToNat]
   refine ar (qU [0,9]) (by kernel_rfl) (qC) (by kernel_rfl) (aa 400 ?_)
   simp (disch:=omega) only [go_sem,Nat.reduceEqDiff,Nat.reduceAdd,Nat.reduceSub,Int.reduceAdd,Int.reduceSub,Int.reduceToNat]
   refine⟨qC,ac 400 ?_⟩
   try simp (disch:=omega) only [go_sem,Nat.reduceEqDiff,Nat.reduceAdd,Nat.reduceSub,Int.reduceAdd,Int.reduceSub,Int.reduceToNat]
   refine ar (qU [0,24]) (by kernel_rfl) (qC) (by kernel_rfl) (aa 400 ?_)
   simp (disch:=omega) only [go_sem,Nat.reduceEqDiff,Nat.reduceAdd,Nat.reduceSub,Int.reduceAdd,Int.reduceSub,Int.reduceToNat]
   try simp (disch:=omega) only [go_sem,hx,hxx]
   refine am (qC) (hS) [] qM (by rfl) (by rfl) (aa 400 ?_)
   simp (disch:=omega) only [go_sem,Nat.reduceEqDiff,Nat.reduceAdd,Nat.reduceSub,Int.reduceAdd,Int.reduceSub,Int.reduceToNat]
   refine⟨qC,ac 400 ?_⟩
   try simp (disch:=omega) only [go_sem,Nat.reduceEqDiff,Nat.reduceAdd,Nat.reduceSub,Int.reduceAdd,Int.reduceSub,Int.reduceToNat,hx,hxx]
   refine aA (qI 0 22++qI 0 21) (qC) _ (by simp only [go_sem];rfl) (by rfl) (by rfl) ?_
   simp (disch:=omega) only [go_sem,Nat.reduceEqDiff,Nat.reduceAdd,Nat.reduceSub,Int.reduceAdd,Int.reduceSub,Int.reduceToNat]
  rw [hq2 h0 h4]
  dsimp only
  refine aN Tryz.func69 (by kernel_rfl) rfl fun E hE=>ac 400 ?_
  simp (disch:=omega) only [Tryz.ntmps69,Tryz.results69,go_sem,Nat.reduceEqDiff,Nat.reduceAdd,Nat.reduceSub,Int.reduceAdd,Int.reduceSub,Int.reduceToNat]
  refine ar (qU [0,9]) (by kernel_rfl) (qC) (by kernel_rfl) (aa 400 ?_)
  simp (disch:=omega) only [go_sem,Nat.reduceEqDiff,Nat.reduceAdd,Nat.reduceSub,Int.reduceAdd,Int.reduceSub,Int.reduceToNat]
  refine⟨qC,ac 400 ?_⟩
  try simp (disch:=omega) only [go_sem,Nat.reduceEqDiff,Nat.reduceAdd,Nat.reduceSub,Int.reduceAdd,Int.reduceSub,Int.reduceToNat]
  refine ar (qU [0,24]) (by kernel_rfl) (qC) (by kernel_rfl) (aa 400 ?_)
  simp (disch:=omega) only [go_sem,Nat.reduceEqDiff,Nat.reduceAdd,Nat.reduceSub,Int.reduceAdd,Int.reduceSub,Int.reduceToNat]
  try simp (disch:=omega) only [go_sem,hx,hxx]
  refine am (qC) (hS) [] qM (by rfl) (by rfl) (aa 400 ?_)
  simp (disch:=omega) only [go_sem,Nat.reduceEqDiff,Nat.reduceAdd,Nat.reduceSub,Int.reduceAdd,Int.reduceSub,Int.reduceToNat]
  refine⟨qC,ac 400 ?_⟩
  try simp (disch:=omega) only [go_sem,Nat.reduceEqDiff,Nat.reduceAdd,Nat.reduceSub,Int.reduceAdd,Int.reduceSub,Int.reduceToNat,hx,hxx]
  refine ar (qU [0,18]) (by kernel_rfl) (qC) (by kernel_rfl) (aa 400 ?_)
  simp (disch:=omega) only [go_sem,Nat.reduceEqDiff,Nat.reduceAdd,Nat.reduceSub,Int.reduceAdd,Int.reduceSub,Int.reduceToNat]
  refine⟨qC,ac 400 ?_⟩
  try simp (disch:=omega) only [go_sem,Nat.reduceEqDiff,Nat.reduceAdd,Nat.reduceSub,Int.reduceAdd,Int.reduceSub,Int.reduceToNat,hx,hxx]
  refine aA (qI 0 22++qI 0 14++qI 24 1++qI 15 6) (qC) _ (by simp only [go_sem];rfl) (by rfl) (by rfl) ?_
  simp (disch:=omega) only [go_sem,Nat.reduceEqDiff,Nat.reduceAdd,Nat.reduceSub,Int.reduceAdd,Int.reduceSub,Int.reduceToNat]
  simp [LetterD.cs]
 rw [Fa hp] at hR
 subst hR
 dsimp only
 refine aN Tryz.func69 (by kernel_rfl) rfl fun E hE=>ac 400 ?_
 simp (disch:=omega) only [Tryz.ntmps69,Tryz.results69,go_sem,Nat.reduceEqDiff,Nat.reduceAdd,Nat.reduceSub,Int.reduceAdd,Int.reduceSub,Int.reduceToNat]
 refine ar (qU [0,9]) (by kernel_rfl) (qC) (by kernel_rfl) (aa 400 ?_)
 simp (disch:=omega) only [go_sem,Nat.reduceEqDiff,Nat.reduceAdd,Nat.reduceSub,Int.reduceAdd,Int.reduceSub,Int.reduceToNat]
 refine⟨qC,ac 400 ?_⟩
 try simp (disch:=omega) only [go_sem,Nat.reduceEqDiff,Nat.reduceAdd,Nat.reduceSub,Int.reduceAdd,Int.reduceSub,Int.reduceToNat]
 refine ar (qU [0,24]) (by kernel_rfl) (qC) (by kernel_rfl) (aa 400 ?_)
 simp (disch:=omega) only [go_sem,Nat.reduceEqDiff,Nat.reduceAdd,Nat.reduceSub,Int.reduceAdd,Int.reduceSub,Int.reduceToNat]
 refine⟨qC,ac 400 ?_⟩
 try simp (disch:=omega) only [go_sem,Nat.reduceEqDiff,Nat.reduceAdd,Nat.reduceSub,Int.reduceAdd,Int.reduceSub,Int.reduceToNat]
 refine aA (qI 0 22++qI 0 21) (qC) _ (by simp only [go_sem];rfl) (by rfl) (by rfl) ?_
 simp (disch:=omega) only [go_sem,Nat.reduceEqDiff,Nat.reduceAdd,Nat.reduceSub,Int.reduceAdd,Int.reduceSub,Int.reduceToNat]
end
section
open Go.RowKit
theorem wE (w:WorldD) (side many:Int) (p:Nat) (text:List UInt8) (ad:AddrD) (le:LetterD) (hw:SmallD w):
  ae Tryz.prog 59 [.ag (w.cs 0),.ag (ActD.cs ⟨8,side,(p:Nat),many,text,ad,le⟩)] (w.hp true) (.tu [.ag (WorldD.cs (a_ w ⟨8,side,(p:Nat),many,text,ad,le⟩).1 21),.sc (.int .i64 (a_ w ⟨8,side,(p:Nat),many,text,ad,le⟩).2)])
  ([none,none,none,none,none,none,none,none,none,none,none,none,none,none,none,none,none,none,none,none,none]++WorldD.hp (a_ w ⟨8,side,(p:Nat),many,text,ad,le⟩).1 true):=by
 have hbag:=hw.p.s.bag
 obtain⟨R,hR⟩:∃ R,R=a_ w ⟨8,side,(p:Nat),many,text,ad,le⟩:=⟨_,rfl⟩
 rw [←hR]
 by_cases hp:p < w.bag.length
 ·rw [NN hp] at hR
  have hO:=oZ w.bag p hbag hp
  rw [←gy hp,←n6] at hO
  obtain⟨B,hBe⟩:∃ B,B=gU w.bag (p:Nat):=⟨_,rfl⟩
  have hB:B.length≤1048576:=by rw [hBe,gy hp];omega
  have hx:=ao (enc:=LetterD.cs) hp
  rw [←hBe] at hR hO
  clear hBe
  generalize hxx:w.bag[p]=x at*
  have hL:=zh { w with bag:=B } x ⟨⟨hw.p.s.a,hw.p.s.b,hB,hw.p.s.past,hw.p.s.keys,hw.p.s.tags,hw.p.s.nums,hw.p.s.ansA,hw.p.s.ansB⟩,hw.p.pa,hw.p.pb⟩
  obtain⟨L,hLe⟩:∃ L,L=gN { w with bag:=B } x:=⟨_,rfl⟩
  rw [←hLe] at hL hR
  clear hLe
  subst hR
  dsimp only
  refine ga Tryz.func59 Tryz.ntmps59 Tryz.results59 fun E hE=>?_
  try simp (disch:=omega) only [go_sem,seval,hx,hxx]
  refine qK (hO) (qI 14 1) ?_
  refine qK (hL) (qI 0 14++qI 25 1++qI 15 6) ?_
  exact cc (qI 0 21++qI 26 21)
 rw [NM hp] at hR
 subst hR
 dsimp only
 refine ga Tryz.func59 Tryz.ntmps59 Tryz.results59 fun E hE=>?_
 exact cc (qI 0 21++qI 0 21)
theorem wF (w:WorldD) (side many:Int) (p:Nat) (text:List UInt8) (ad:AddrD) (le:LetterD) (hw:SmallD w):
  ae Tryz.prog 59 [.ag (w.cs 0),.ag (ActD.cs ⟨9,side,(p:Nat),many,text,ad,le⟩)] (w.hp true) (.tu [.ag (WorldD.cs (a_ w ⟨9,side,(p:Nat),many,text,ad,le⟩).1 21),.sc (.int .i64 (a_ w ⟨9,side,(p:Nat),many,text,ad,le⟩).2)])
  ([none,none,none,none,none,none,none,none,none,none,none,none,none,none,none,none,none,none,none,none,none]++WorldD.hp (a_ w ⟨9,side,(p:Nat),many,text,ad,le⟩).1 true):=by
 have hbag:=hw.p.s.bag
 obtain⟨R,hR⟩:∃ R,R=a_ w ⟨9,side,(p:Nat),many,text,ad,le⟩:=⟨_,rfl⟩
 rw [←hR]
 by_cases hp:p < w.bag.length
 ·rw [NP hp] at hR
  have hO:=oZ w.bag p hbag hp
  rw [←gy hp,←n6] at hO
  obtain⟨B,hBe⟩:∃ B,B=gU w.bag (p:Nat):=⟨_,rfl⟩
  have hB:B.length≤1048576:=by rw [hBe,gy hp];omega
  have hx:=ao (enc:=LetterD.cs) hp
  rw [←hBe] at hR hO
  clear hBe
  generalize hxx:w.bag[p]=x at*
  subst hR
  dsimp only
  refine ga Tryz.func59 Tryz.ntmps59 Tryz.results59 fun E hE=>?_
  try simp (disch:=omega) only [go_sem,seval,hx,hxx]
  refine qK (hO) (qI 14 1) ?_
  exact cc (qI 0 21++qI 0 14++qI 25 1++qI 15 6)
 rw [NO hp] at hR
 subst hR
 dsimp only
 refine ga Tryz.func59 Tryz.ntmps59 Tryz.results59 fun E hE=>?_
 exact cc (qI 0 21++qI 0 21)
theorem tD (w:WorldD) (side many:Int) (p:Nat) (text:List UInt8) (ad:AddrD) (le:LetterD) (hw:SmallD w):
  ae Tryz.prog 59 [.ag (w.cs 0),.ag (ActD.cs ⟨10,side,(p:Nat),many,text,ad,le⟩)] (w.hp true) (.tu [.ag (WorldD.cs (a_ w ⟨10,side,(p:Nat),many,text,ad,le⟩).1 21),.sc (.int .i64 (a_ w ⟨10,side,(p:Nat),many,text,ad,le⟩).2)])
  ([none,none,none,none,none,none,none,none,none,none,none,none,none,none,none,none,none,none,none,none,none]++WorldD.hp (a_ w ⟨10,side,(p:Nat),many,text,ad,le⟩).1 true):=by
 have hbag:=hw.p.s.bag
 obtain⟨R,hR⟩:∃ R,R=a_ w ⟨10,side,(p:Nat),many,text,ad,le⟩:=⟨_,rfl⟩
 rw [←hR]
 by_cases hp:p < w.bag.length∧¬ 40≤w.bag.length
 ·obtain⟨hp,h4⟩:=hp
  rw [E7 hp h4] at hR
  have hx:=ao (enc:=LetterD.cs) hp
  generalize hxx:w.bag[p]=x at*
  subst hR
  dsimp only
  refine ga Tryz.func59 Tryz.ntmps59 Tryz.results59 fun E hE=>?_
  try simp (disch:=omega) only [go_sem,seval,hx,hxx]
  refine aA (qI 0 21++qI 0 14++qI 26 1++qI 15 6) (qC) _ (by simp only [go_sem];rfl) (by rfl) (by rfl) ?_
  simp (disch:=omega) only [go_sem,seval]
  simp [LetterD.cs]
 rw [E6 (by omega)] at hR
 subst hR
 dsimp only
 by_cases hq:p < w.bag.length
 ·have h4:40≤w.bag.length:=by omega
  have hx:=ao (enc:=LetterD.cs) hq
  generalize hxx:w.bag[p]=x at*
  refine ga Tryz.func59 Tryz.ntmps59 Tryz.results59 fun E hE=>?_
  try simp (disch:=omega) only [go_sem,seval,hx,hxx]
  exact cc (qI 0 21++qI 0 21)
 refine ga Tryz.func59 Tryz.ntmps59 Tryz.results59 fun E hE=>?_
 exact cc (qI 0 21++qI 0 21)
end
section
open Go.RowKit
theorem wG (w:WorldD) (pos many:Int) (text:List UInt8) (ad:AddrD) (le:LetterD) (hw:SmallD w) (htx:text.length≤1048576):
  ae Tryz.prog 68 [.sc (.pt 21 0 0),.ag (ActD.cs ⟨3,1,pos,many,text,ad,le⟩)] (w.hp true++[some ⟨[w.cs 0],61,51,true,false⟩]) (.sc (.int .i64 0))
  ([none,none,none,none,none,none,none,none,none,none,none,none,none,none,none,none,none,none,none,none,none,some ⟨[WorldD.cs (aq 1 { w with a:=(dt w.a).1 } (dt w.a).2) 22],61,51,true,false⟩]++WorldD.hp (aq 1 { w with a:=(dt w.a).1 } (dt w.a).2) true):=by
 have q1:=hw.s.wa
 have q2:=hw.s.wb
 have q3:=hw.s.ra
 have q4:=hw.s.rb
 have hX:=uO w.a hw.p.s.a hw.oa
 have hsm:=iH hw.p.s.a
 have hlen:=nq w.a
 have hEA:ae Tryz.prog 144 [.ag (w.cs 0),.sc (.int .i64 1)] (w.hp false) (.ag (w.a.cs 21)) (w.hp false++w.a.hp true):=bF w 1 hw.p.s.a.own hw.p.s.a.far hw.p.s.a.subs hw.p.s.a.halfs hw.p.s.a.list hw.p.s.a.done hw.p.s.a.over hw.p.s.b.own hw.p.s.b.far hw.p.s.b.subs hw.p.s.b.halfs hw.p.s.b.list hw.p.s.b.done hw.p.s.b.over
 obtain⟨pr,hpr⟩:∃ p,p=dt w.a:=⟨_,rfl⟩
 rw [←hpr] at hX hsm hlen⊢
 obtain⟨e1,l1⟩:=pr
 dsimp only at hX hsm hlen⊢
 have hset:=fL w e1
 have hpost:=eM { w with a:=e1 } l1 ⟨hw.p.s.bag,hw.p.s.past,hw.p.s.keys,hw.p.s.tags,hw.p.s.nums,hw.p.s.ansA,hw.p.s.ansB⟩ (by first|omega|simp)
 have hends:=aE (side:=1) (l:=l1) (w:={ w with a:=e1 })
 obtain⟨R,hR⟩:∃ R,R=aq 1 { w with a:=e1 } l1:=⟨_,rfl⟩
 rw [←hR] at hpost hends⊢
 clear hR
 obtain⟨ra,rb,bag,past,wA,wB,rA,rB,known,nums,nsA,nsB⟩:=R
 obtain⟨keys,tags⟩:=known
 dsimp only at hends
 obtain⟨g1,g2,g3,g4,g5,g6⟩:=hends
 replace g1:=g1.symm
 replace g2:=g2.symm
 replace g3:=g3.symm
 replace g4:=g4.symm
 replace g5:=g5.symm
 replace g6:=g6.symm
 subst g1 g2 g3 g4 g5 g6
 refine aN Tryz.func68 (by kernel_rfl) rfl fun E hE=>ac 400 ?_
 simp (disch:=omega) only [Tryz.ntmps68,Tryz.results68,go_sem,Nat.reduceEqDiff,Nat.reduceAdd,Nat.reduceSub,Int.reduceAdd,Int.reduceSub,Int.reduceToNat]
 refine aI [(5,6)] [] [(qU [0,8]),[0,1,2,3,4,6,5,7]] 22 hE (fun s=>s.at (qU [13,6]) [(5,.sc (.pt 30 0 0))] (s.hp++(w.a.hp true++[some ⟨[w.a.cs 23],25,45,true,false⟩]))) (by kernel_rfl) (qC) (by kernel_rfl) ?_ (ac 400 ?_)
 rotate_left
 rotate_right
 simp only [aQ]
 refine⟨aa 400 ?_,aa 400 ?_⟩
 ·simp (disch:=omega) only [go_sem]
  refine am (qC) (hEA) (qI 0 21) qM (by rfl) (by rfl) (aa 400 ?_)
  simp (disch:=omega) only [go_sem,Nat.reduceEqDiff,Nat.reduceAdd,Nat.reduceSub,Int.reduceAdd,Int.reduceSub,Int.reduceToNat]
  refine⟨qC,(qI 0 31),ab (by rfl) (by rfl) ?_⟩
  try simp (disch:=omega) only [go_sem,Nat.reduceEqDiff,Nat.reduceAdd,Nat.reduceSub,Int.reduceAdd,Int.reduceSub,Int.reduceToNat]
 ·simp (disch:=omega) only [go_sem]
  refine am (qC) (hEA) (qI 0 21) qM (by rfl) (by rfl) (aa 400 ?_)
  simp (disch:=omega) only [go_sem,Nat.reduceEqDiff,Nat.reduceAdd,Nat.reduceSub,Int.reduceAdd,Int.reduceSub,Int.reduceToNat]
  refine⟨qC,(qI 0 23++qI 24 7++qI 23 1),ab (by rfl) (by rfl) ?_⟩
  try simp (disch:=omega) only [go_sem,Nat.reduceEqDiff,Nat.reduceAdd,Nat.reduceSub,Int.reduceAdd,Int.reduceSub,Int.reduceToNat]
 try simp (disch:=omega) only [go_sem,Nat.reduceEqDiff,Nat.reduceAdd,Nat.reduceSub,Int.reduceAdd,Int.reduceSub,Int.reduceToNat]
 refine al (qC) (hX) (qI 23 7) qM (by rfl) (ac 400 ?_)
 simp (disch:=omega) only [go_sem,Nat.reduceEqDiff,Nat.reduceAdd,Nat.reduceSub,Int.reduceAdd,Int.reduceSub,Int.reduceToNat]
 refine al (qC) (hset) (qI 0 21++qI 31 7++qI 21 1) qM (by rfl) (ac 400 ?_)
 simp (disch:=omega) only [go_sem,Nat.reduceEqDiff,Nat.reduceAdd,Nat.reduceSub,Int.reduceAdd,Int.reduceSub,Int.reduceToNat]
 refine al (qC) (hpost) (qI 31 7++qI 7 15++qI 38 1) qM (by rfl) (ac 400 ?_)
 simp (disch:=omega) only [go_sem,Nat.reduceEqDiff,Nat.reduceAdd,Nat.reduceSub,Int.reduceAdd,Int.reduceSub,Int.reduceToNat]
 refine aA (qI 0 22++qI 31 7++qI 7 7++qI 39 7) (qC) _ (by simp only [go_sem];rfl) (by rfl) (by rfl) ?_
 simp (disch:=omega) only [go_sem,Nat.reduceEqDiff,Nat.reduceAdd,Nat.reduceSub,Int.reduceAdd,Int.reduceSub,Int.reduceToNat]
theorem wH (w:WorldD) (pos many:Int) (text:List UInt8) (ad:AddrD) (le:LetterD) (hw:SmallD w) (htx:text.length≤1048576):
  ae Tryz.prog 68 [.sc (.pt 21 0 0),.ag (ActD.cs ⟨3,2,pos,many,text,ad,le⟩)] (w.hp true++[some ⟨[w.cs 0],61,51,true,false⟩]) (.sc (.int .i64 0))
  ([none,none,none,none,none,none,none,none,none,none,none,none,none,none,none,none,none,none,none,none,none,some ⟨[WorldD.cs (aq 2 { w with b:=(dt w.b).1 } (dt w.b).2) 22],61,51,true,false⟩]++WorldD.hp (aq 2 { w with b:=(dt w.b).1 } (dt w.b).2) true):=by
 have q1:=hw.s.wa
 have q2:=hw.s.wb
 have q3:=hw.s.ra
 have q4:=hw.s.rb
 have hX:=uO w.b hw.p.s.b hw.ob
 have hsm:=iH hw.p.s.b
 have hlen:=nq w.b
 have hEA:ae Tryz.prog 144 [.ag (w.cs 0),.sc (.int .i64 2)] (w.hp false) (.ag (w.b.cs 21)) (w.hp false++w.b.hp true):=bF w 2 hw.p.s.a.own hw.p.s.a.far hw.p.s.a.subs hw.p.s.a.halfs hw.p.s.a.list hw.p.s.a.done hw.p.s.a.over hw.p.s.b.own hw.p.s.b.far hw.p.s.b.subs hw.p.s.b.halfs hw.p.s.b.list hw.p.s.b.done hw.p.s.b.over
 obtain⟨pr,hpr⟩:∃ p,p=dt w.b:=⟨_,rfl⟩
 rw [←hpr] at hX hsm hlen⊢
 obtain⟨e1,l1⟩:=pr
 dsimp only at hX hsm hlen⊢
 have hset:=fM w e1
 have hpost:=eN { w with b:=e1 } l1 ⟨hw.p.s.bag,hw.p.s.past,hw.p.s.keys,hw.p.s.tags,hw.p.s.nums,hw.p.s.ansA,hw.p.s.ansB⟩ (by first|omega|simp)
 have hends:=aE (side:=2) (l:=l1) (w:={ w with b:=e1 })
 obtain⟨R,hR⟩:∃ R,R=aq 2 { w with b:=e1 } l1:=⟨_,rfl⟩
 rw [←hR] at hpost hends⊢
 clear hR
 obtain⟨ra,rb,bag,past,wA,wB,rA,rB,known,nums,nsA,nsB⟩:=R
 obtain⟨keys,tags⟩:=known
 dsimp only at hends
 obtain⟨g1,g2,g3,g4,g5,g6⟩:=hends
 replace g1:=g1.symm
 replace g2:=g2.symm
 replace g3:=g3.symm
 replace g4:=g4.symm
 replace g5:=g5.symm
 replace g6:=g6.symm
 subst g1 g2 g3 g4 g5 g6
 refine aN Tryz.func68 (by kernel_rfl) rfl fun E hE=>ac 400 ?_
 simp (disch:=omega) only [Tryz.ntmps68,Tryz.results68,go_sem,Nat.reduceEqDiff,Nat.reduceAdd,Nat.reduceSub,Int.reduceAdd,Int.reduceSub,Int.reduceToNat]
 refine aI [(5,6)] [] [(qU [0,8]),[0,1,2,3,4,6,5,7]] 22 hE (fun s=>s.at (qU [13,6]) [(5,.sc (.pt 30 0 0))] (s.hp++(w.b.hp true++[some ⟨[w.b.cs 23],25,45,true,false⟩]))) (by kernel_rfl) (qC) (by kernel_rfl) ?_ (ac 400 ?_)
 rotate_left
 rotate_right
 simp only [aQ]
 refine⟨aa 400 ?_,aa 400 ?_⟩
 ·simp (disch:=omega) only [go_sem]
  refine am (qC) (hEA) (qI 0 21) qM (by rfl) (by rfl) (aa 400 ?_)
  simp (disch:=omega) only [go_sem,Nat.reduceEqDiff,Nat.reduceAdd,Nat.reduceSub,Int.reduceAdd,Int.reduceSub,Int.reduceToNat]
  refine⟨qC,(qI 0 31),ab (by rfl) (by rfl) ?_⟩
  try simp (disch:=omega) only [go_sem,Nat.reduceEqDiff,Nat.reduceAdd,Nat.reduceSub,Int.reduceAdd,Int.reduceSub,Int.reduceToNat]
 ·simp (disch:=omega) only [go_sem]
  refine am (qC) (hEA) (qI 0 21) qM (by rfl) (by rfl) (aa 400 ?_)
  simp (disch:=omega) only [go_sem,Nat.reduceEqDiff,Nat.reduceAdd,Nat.reduceSub,Int.reduceAdd,Int.reduceSub,Int.reduceToNat]
  refine⟨qC,(qI 0 23++qI 24 7++qI 23 1),ab (by rfl) (by rfl) ?_⟩
  try simp (disch:=omega) only [go_sem,Nat.reduceEqDiff,Nat.reduceAdd,Nat.reduceSub,Int.reduceAdd,Int.reduceSub,Int.reduceToNat]
 try simp (disch:=omega) only [go_sem,Nat.reduceEqDiff,Nat.reduceAdd,Nat.reduceSub,Int.reduceAdd,Int.reduceSub,Int.reduceToNat]
 refine al (qC) (hX) (qI 23 7) qM (by rfl) (ac 400 ?_)
 simp (disch:=omega) only [go_sem,Nat.reduceEqDiff,Nat.reduceAdd,Nat.reduceSub,Int.reduceAdd,Int.reduceSub,Int.reduceToNat]
 refine al (qC) (hset) (qI 0 21++qI 31 7++qI 21 1) qM (by rfl) (ac 400 ?_)
 simp (disch:=omega) only [go_sem,Nat.reduceEqDiff,Nat.reduceAdd,Nat.reduceSub,Int.reduceAdd,Int.reduceSub,Int.reduceToNat]
 refine al (qC) (hpost) (qI 0 7++qI 31 7++qI 14 8++qI 38 1) qM (by rfl) (ac 400 ?_)
 simp (disch:=omega) only [go_sem,Nat.reduceEqDiff,Nat.reduceAdd,Nat.reduceSub,Int.reduceAdd,Int.reduceSub,Int.reduceToNat]
 refine aA (qI 0 22++qI 0 7++qI 31 7++qI 39 7) (qC) _ (by simp only [go_sem];rfl) (by rfl) (by rfl) ?_
 simp (disch:=omega) only [go_sem,Nat.reduceEqDiff,Nat.reduceAdd,Nat.reduceSub,Int.reduceAdd,Int.reduceSub,Int.reduceToNat]
end
section
open Go.RowKit
theorem sk (w:WorldD) (pos many:Int) (text:List UInt8) (ad:AddrD) (le:LetterD) (hw:SmallD w) (htx:text.length≤1048576):
  ae Tryz.prog 56 [.ag (w.cs 0),.ag (ActD.cs ⟨1,1,pos,many,text,ad,le⟩)] (w.hp false) (.tu [.ag (WorldD.cs (aq 1 { w with wroteA:=w.wroteA++text.take (cp w.a text).2,a:=(aS w.a text).1 } (aS w.a text).2) 21),.sc (.int .i64 0)]) (w.hp false++WorldD.hp (aq 1 { w with wroteA:=w.wroteA++text.take (cp w.a text).2,a:=(aS w.a text).1 } (aS w.a text).2) true):=by
 have hX:=lQ w.a text hw.p.s.a htx (jW hw.oa)
 have hsm:=eQ (t:=text) hw.p.s.a
 have hlen:=ie w.a text
 have hEA:ae Tryz.prog 113 [.ag (w.cs 0),.sc (.int .i64 1)] (w.hp false) (.ag (w.a.cs 21)) (w.hp false++w.a.hp true):=bG w 1 hw.p.s.a.own hw.p.s.a.far hw.p.s.a.subs hw.p.s.a.halfs hw.p.s.a.list hw.p.s.a.done hw.p.s.a.over hw.p.s.b.own hw.p.s.b.far hw.p.s.b.subs hw.p.s.b.halfs hw.p.s.b.list hw.p.s.b.done hw.p.s.b.over
 have hX2:=mf w.a text hw.p.s.a htx
 have hwl:=ne w.a text
 obtain⟨wr,hwr⟩:∃ p,p=cp w.a text:=⟨_,rfl⟩
 rw [←hwr] at hX2 hwl⊢
 obtain⟨e0,n0⟩:=wr
 dsimp only at hX2 hwl⊢
 obtain⟨pr,hpr⟩:∃ p,p=aS w.a text:=⟨_,rfl⟩
 rw [←hpr] at hX hsm hlen⊢
 obtain⟨e1,l1⟩:=pr
 dsimp only at hX hsm hlen⊢
 have hset:=dF { w with wroteA:=w.wroteA++text.take n0 } e1
 have hpost:=dH { w with wroteA:=w.wroteA++text.take n0,a:=e1 } l1 ⟨hsm,hw.p.s.b,hw.p.s.bag,hw.p.s.past,hw.p.s.keys,hw.p.s.tags,hw.p.s.nums,hw.p.s.ansA,hw.p.s.ansB⟩ (by first|omega|simp)
 have hends:=aE (side:=1) (l:=l1) (w:={ w with wroteA:=w.wroteA++text.take n0,a:=e1 })
 obtain⟨R,hR⟩:∃ R,R=aq 1 { w with wroteA:=w.wroteA++text.take n0,a:=e1 } l1:=⟨_,rfl⟩
 rw [←hR] at hpost hends⊢
 clear hR
 obtain⟨ra,rb,bag,past,wA,wB,rA,rB,known,nums,nsA,nsB⟩:=R
 obtain⟨keys,tags⟩:=known
 dsimp only at hends
 obtain⟨g1,g2,g3,g4,g5,g6⟩:=hends
 replace g1:=g1.symm
 replace g2:=g2.symm
 replace g3:=g3.symm
 replace g4:=g4.symm
 replace g5:=g5.symm
 replace g6:=g6.symm
 subst g1 g2 g3 g4 g5 g6
 have htk:(text.take n0).length≤1048576:=by rw [List.length_take];omega
 have hWr:=gE w 1 (text.take n0) [] hw.s htk (by simp)
 rw [ye] at hWr
 refine ga Tryz.func56 Tryz.ntmps56 Tryz.results56 fun E hE=>?_
 refine qK (hEA) (qI 0 21) ?_
 refine qK (hX2) (qI 24 7) ?_
 refine qD [0,1,2,3,4,5,6,7,8] ?_
 refine az (hWr) (qI 0 21) ?_
 refine⟨qC,ac 400 ?_⟩
 try simp (disch:=omega) only [go_sem,seval,e8,cF]
 refine qK (hX) (qI 24 7) ?_
 refine qD [0,1,2,3,5,6,7,4,8,9,10] ?_
 refine az (hset) (qI 0 21++qI 41 7) ?_
 refine az (hpost) (qI 41 7++qI 7 14++qI 48 1) ?_
 refine qG ?_
 exact cc (qI 0 21++qI 49 21)
theorem sm (w:WorldD) (pos many:Int) (text:List UInt8) (ad:AddrD) (le:LetterD) (hw:SmallD w) (htx:text.length≤1048576):
  ae Tryz.prog 56 [.ag (w.cs 0),.ag (ActD.cs ⟨2,1,pos,many,text,ad,le⟩)] (w.hp false) (.tu [.ag (WorldD.cs (aq 1 { w with readA:=w.readA++(bu w.a many).2,a:=((bu w.a many).1,([]:List LetterD)).1 } ((bu w.a many).1,([]:List LetterD)).2) 21),.sc (.int .i64 0)]) (w.hp false++WorldD.hp (aq 1 { w with readA:=w.readA++(bu w.a many).2,a:=((bu w.a many).1,([]:List LetterD)).1 } ((bu w.a many).1,([]:List LetterD)).2) true):=by
 have hX:=uF w.a many hw.p.s.a hw.p.pa
 have hsm:=gP (m:=many) hw.p.s.a
 have hEA:ae Tryz.prog 113 [.ag (w.cs 0),.sc (.int .i64 1)] (w.hp false) (.ag (w.a.cs 21)) (w.hp false++w.a.hp true):=bG w 1 hw.p.s.a.own hw.p.s.a.far hw.p.s.a.subs hw.p.s.a.halfs hw.p.s.a.list hw.p.s.a.done hw.p.s.a.over hw.p.s.b.own hw.p.s.b.far hw.p.s.b.subs hw.p.s.b.halfs hw.p.s.b.list hw.p.s.b.done hw.p.s.b.over
 obtain⟨pr,hpr⟩:∃ p,p=bu w.a many:=⟨_,rfl⟩
 have hrl:(bu w.a many).2.length≤1048576:=lf hw.p.pa
 rw [←hpr] at hX hsm hrl⊢
 obtain⟨e1,t1⟩:=pr
 dsimp only at hX hsm hrl⊢
 obtain⟨l1,hl1⟩:∃ l:List LetterD,l=[]:=⟨_,rfl⟩
 have hlen:l1.length≤1:=by rw [hl1];simp
 have hset:=dF { w with readA:=w.readA++t1 } e1
 have hpost:=dH { w with readA:=w.readA++t1,a:=e1 } [] ⟨hsm,hw.p.s.b,hw.p.s.bag,hw.p.s.past,hw.p.s.keys,hw.p.s.tags,hw.p.s.nums,hw.p.s.ansA,hw.p.s.ansB⟩ (by first|omega|simp)
 have hends:=aE (side:=1) (l:=[]) (w:={ w with readA:=w.readA++t1,a:=e1 })
 obtain⟨R,hR⟩:∃ R,R=aq 1 { w with readA:=w.readA++t1,a:=e1 } []:=⟨_,rfl⟩
 rw [←hR] at hpost hends⊢
 clear hR
 obtain⟨ra,rb,bag,past,wA,wB,rA,rB,known,nums,nsA,nsB⟩:=R
 obtain⟨keys,tags⟩:=known
 dsimp only at hends
 obtain⟨g1,g2,g3,g4,g5,g6⟩:=hends
 replace g1:=g1.symm
 replace g2:=g2.symm
 replace g3:=g3.symm
 replace g4:=g4.symm
 replace g5:=g5.symm
 replace g6:=g6.symm
 subst g1 g2 g3 g4 g5 g6
 have hWr:=gE w 1 [] t1 hw.s (by simp) hrl
 rw [yf] at hWr
 refine ga Tryz.func56 Tryz.ntmps56 Tryz.results56 fun E hE=>?_
 refine qK (hEA) (qI 0 21) ?_
 refine qK (hX) (qI 24 7) ?_
 refine qK (hWr) (qI 0 21) ?_
 try simp (disch:=omega) only [go_sem,seval,e8,cF]
 refine qD [0,1,2,3,5,6,7,4,8,9,10] ?_
 refine az (hset) (qI 0 21++qI 33 7) ?_
 refine az (hpost) (qI 33 7++qI 7 14++qI 32 1) ?_
 refine qG ?_
 exact cc (qI 0 21++qI 40 21)
theorem sn (w:WorldD) (pos many:Int) (text:List UInt8) (ad:AddrD) (le:LetterD) (hw:SmallD w) (htx:text.length≤1048576):
  ae Tryz.prog 56 [.ag (w.cs 0),.ag (ActD.cs ⟨4,1,pos,many,text,ad,le⟩)] (w.hp false) (.tu [.ag (WorldD.cs (aq 1 { w with a:=(bs w.a).1 } (bs w.a).2) 21),.sc (.int .i64 0)]) (w.hp false++WorldD.hp (aq 1 { w with a:=(bs w.a).1 } (bs w.a).2) true):=by
 have hX:=oX w.a hw.p.s.a
 have hsm:=f9 hw.p.s.a
 have hlen:=jV w.a
 have hEA:ae Tryz.prog 113 [.ag (w.cs 0),.sc (.int .i64 1)] (w.hp false) (.ag (w.a.cs 21)) (w.hp false++w.a.hp true):=bG w 1 hw.p.s.a.own hw.p.s.a.far hw.p.s.a.subs hw.p.s.a.halfs hw.p.s.a.list hw.p.s.a.done hw.p.s.a.over hw.p.s.b.own hw.p.s.b.far hw.p.s.b.subs hw.p.s.b.halfs hw.p.s.b.list hw.p.s.b.done hw.p.s.b.over
 obtain⟨pr,hpr⟩:∃ p,p=bs w.a:=⟨_,rfl⟩
 rw [←hpr] at hX hsm hlen⊢
 obtain⟨e1,l1⟩:=pr
 dsimp only at hX hsm hlen⊢
 have hset:=dF w e1
 have hpost:=dH { w with a:=e1 } l1 ⟨hsm,hw.p.s.b,hw.p.s.bag,hw.p.s.past,hw.p.s.keys,hw.p.s.tags,hw.p.s.nums,hw.p.s.ansA,hw.p.s.ansB⟩ (by first|omega|simp)
 have hends:=aE (side:=1) (l:=l1) (w:={ w with a:=e1 })
 obtain⟨R,hR⟩:∃ R,R=aq 1 { w with a:=e1 } l1:=⟨_,rfl⟩
 rw [←hR] at hpost hends⊢
 clear hR
 obtain⟨ra,rb,bag,past,wA,wB,rA,rB,known,nums,nsA,nsB⟩:=R
 obtain⟨keys,tags⟩:=known
 dsimp only at hends
 obtain⟨g1,g2,g3,g4,g5,g6⟩:=hends
 replace g1:=g1.symm
 replace g2:=g2.symm
 replace g3:=g3.symm
 replace g4:=g4.symm
 replace g5:=g5.symm
 replace g6:=g6.symm
 subst g1 g2 g3 g4 g5 g6
 refine ga Tryz.func56 Tryz.ntmps56 Tryz.results56 fun E hE=>?_
 refine qK (hEA) (qI 0 21) ?_
 refine qK (hX) (qI 24 7) ?_
 refine qD [0,1,2,3,5,6,7,4,8,9,10] ?_
 refine az (hset) (qI 0 21++qI 33 7) ?_
 refine az (hpost) (qI 33 7++qI 7 14++qI 40 1) ?_
 refine qG ?_
 exact cc (qI 0 21++qI 41 21)
theorem so (w:WorldD) (pos many:Int) (text:List UInt8) (ad:AddrD) (le:LetterD) (hw:SmallD w) (htx:text.length≤1048576) (hsd:aZ ad.addr=1) (hgood:(aB w.a ad).2=true):
  ae Tryz.prog 56 [.ag (w.cs 0),.ag (ActD.cs ⟨5,1,pos,many,text,ad,le⟩)] (w.hp false) (.tu [.ag (WorldD.cs (aq 1 { w with a:=((aB w.a ad).1,([]:List LetterD)).1 } ((aB w.a ad).1,([]:List LetterD)).2) 21),.sc (.int .i64 0)]) (w.hp false++WorldD.hp (aq 1 { w with a:=((aB w.a ad).1,([]:List LetterD)).1 } ((aB w.a ad).1,([]:List LetterD)).2) true):=by
 have hX:=i5 w.a ad hw.p.s.a
 have hsm:=df (a:=ad) hw.p.s.a
 have hEA:ae Tryz.prog 113 [.ag (w.cs 0),.sc (.int .i64 1)] (w.hp false) (.ag (w.a.cs 21)) (w.hp false++w.a.hp true):=bG w 1 hw.p.s.a.own hw.p.s.a.far hw.p.s.a.subs hw.p.s.a.halfs hw.p.s.a.list hw.p.s.a.done hw.p.s.a.over hw.p.s.b.own hw.p.s.b.far hw.p.s.b.subs hw.p.s.b.halfs hw.p.s.b.list hw.p.s.b.done hw.p.s.b.over
 obtain⟨pr,hpr⟩:∃ p,p=aB w.a ad:=⟨_,rfl⟩
 rw [←hpr] at hX hsm hgood⊢
 obtain⟨e1,ok1⟩:=pr
 dsimp only at hX hsm hgood⊢
 subst hgood
 obtain⟨l1,hl1⟩:∃ l:List LetterD,l=[]:=⟨_,rfl⟩
 have hlen:l1.length≤1:=by rw [hl1];simp
 have hset:=dF w e1
 have hpost:=dH { w with a:=e1 } [] ⟨hsm,hw.p.s.b,hw.p.s.bag,hw.p.s.past,hw.p.s.keys,hw.p.s.tags,hw.p.s.nums,hw.p.s.ansA,hw.p.s.ansB⟩ (by first|omega|simp)
 have hends:=aE (side:=1) (l:=[]) (w:={ w with a:=e1 })
 obtain⟨R,hR⟩:∃ R,R=aq 1 { w with a:=e1 } []:=⟨_,rfl⟩
 rw [←hR] at hpost hends⊢
 clear hR
 obtain⟨ra,rb,bag,past,wA,wB,rA,rB,known,nums,nsA,nsB⟩:=R
 obtain⟨keys,tags⟩:=known
 dsimp only at hends
 obtain⟨g1,g2,g3,g4,g5,g6⟩:=hends
 replace g1:=g1.symm
 replace g2:=g2.symm
 replace g3:=g3.symm
 replace g4:=g4.symm
 replace g5:=g5.symm
 replace g6:=g6.symm
 subst g1 g2 g3 g4 g5 g6
 have hSd:=dD ad.addr
 rw [hsd] at hSd
 refine ga Tryz.func56 Tryz.ntmps56 Tryz.results56 fun E hE=>?_
 refine qK (hEA) (qI 0 21) ?_
 refine qK (hX) (qI 24 7) ?_
 refine qD [0,1,2,3,4,5,7,8,6,9,10] ?_
 refine az (hSd) [] ?_
 refine qG ?_
 refine qD [0,1,2,3,5,6,7,4,8,9,10] ?_
 refine az (hset) (qI 0 21++qI 33 7) ?_
 refine az (hpost) (qI 33 7++qI 7 14++qI 32 1) ?_
 refine qG ?_
 exact cc (qI 0 21++qI 40 21)
theorem sr (w:WorldD) (pos many:Int) (text:List UInt8) (ad:AddrD) (le:LetterD) (hw:SmallD w) (htx:text.length≤1048576):
  ae Tryz.prog 56 [.ag (w.cs 0),.ag (ActD.cs ⟨6,1,pos,many,text,ad,le⟩)] (w.hp false) (.tu [.ag (WorldD.cs (aq 1 { w with a:=(bb w.a pos).1 } (bb w.a pos).2) 21),.sc (.int .i64 0)]) (w.hp false++WorldD.hp (aq 1 { w with a:=(bb w.a pos).1 } (bb w.a pos).2) true):=by
 have hX:=nl w.a pos hw.p.s.a
 have hsm:=fg (n:=pos) hw.p.s.a
 have hlen:=i6 w.a pos hw.p.s.a
 have hEA:ae Tryz.prog 113 [.ag (w.cs 0),.sc (.int .i64 1)] (w.hp false) (.ag (w.a.cs 21)) (w.hp false++w.a.hp true):=bG w 1 hw.p.s.a.own hw.p.s.a.far hw.p.s.a.subs hw.p.s.a.halfs hw.p.s.a.list hw.p.s.a.done hw.p.s.a.over hw.p.s.b.own hw.p.s.b.far hw.p.s.b.subs hw.p.s.b.halfs hw.p.s.b.list hw.p.s.b.done hw.p.s.b.over
 obtain⟨pr,hpr⟩:∃ p,p=bb w.a pos:=⟨_,rfl⟩
 rw [←hpr] at hX hsm hlen⊢
 obtain⟨e1,l1⟩:=pr
 dsimp only at hX hsm hlen⊢
 have hset:=dF w e1
 have hpost:=dH { w with a:=e1 } l1 ⟨hsm,hw.p.s.b,hw.p.s.bag,hw.p.s.past,hw.p.s.keys,hw.p.s.tags,hw.p.s.nums,hw.p.s.ansA,hw.p.s.ansB⟩ (by first|omega|simp)
 have hends:=aE (side:=1) (l:=l1) (w:={ w with a:=e1 })
 obtain⟨R,hR⟩:∃ R,R=aq 1 { w with a:=e1 } l1:=⟨_,rfl⟩
 rw [←hR] at hpost hends⊢
 clear hR
 obtain⟨ra,rb,bag,past,wA,wB,rA,rB,known,nums,nsA,nsB⟩:=R
 obtain⟨keys,tags⟩:=known
 dsimp only at hends
 obtain⟨g1,g2,g3,g4,g5,g6⟩:=hends
 replace g1:=g1.symm
 replace g2:=g2.symm
 replace g3:=g3.symm
 replace g4:=g4.symm
 replace g5:=g5.symm
 replace g6:=g6.symm
 subst g1 g2 g3 g4 g5 g6
 refine ga Tryz.func56 Tryz.ntmps56 Tryz.results56 fun E hE=>?_
 refine qK (hEA) (qI 0 21) ?_
 refine qK (hX) (qI 24 7) ?_
 refine qD [0,1,2,3,5,6,7,4,8,9,10] ?_
 refine az (hset) (qI 0 21++qI 33 7) ?_
 refine az (hpost) (qI 33 7++qI 7 14++qI 40 1) ?_
 refine qG ?_
 exact cc (qI 0 21++qI 41 21)
theorem ss (w:WorldD) (pos many:Int) (text:List UInt8) (ad:AddrD) (le:LetterD) (hw:SmallD w) (htx:text.length≤1048576):
  ae Tryz.prog 56 [.ag (w.cs 0),.ag (ActD.cs ⟨7,1,pos,many,text,ad,le⟩)] (w.hp false) (.tu [.ag (WorldD.cs (aq 1 { w with a:=(br w.a pos).1 } (br w.a pos).2) 21),.sc (.int .i64 0)]) (w.hp false++WorldD.hp (aq 1 { w with a:=(br w.a pos).1 } (br w.a pos).2) true):=by
 have hX:=sj w.a pos hw.p.s.a
 have hsm:=f8 (k:=pos) hw.p.s.a
 have hlen:=jU w.a pos
 have hEA:ae Tryz.prog 113 [.ag (w.cs 0),.sc (.int .i64 1)] (w.hp false) (.ag (w.a.cs 21)) (w.hp false++w.a.hp true):=bG w 1 hw.p.s.a.own hw.p.s.a.far hw.p.s.a.subs hw.p.s.a.halfs hw.p.s.a.list hw.p.s.a.done hw.p.s.a.over hw.p.s.b.own hw.p.s.b.far hw.p.s.b.subs hw.p.s.b.halfs hw.p.s.b.list hw.p.s.b.done hw.p.s.b.over
 obtain⟨pr,hpr⟩:∃ p,p=br w.a pos:=⟨_,rfl⟩
 rw [←hpr] at hX hsm hlen⊢
 obtain⟨e1,l1⟩:=pr
 dsimp only at hX hsm hlen⊢
 have hset:=dF w e1
 have hpost:=dH { w with a:=e1 } l1 ⟨hsm,hw.p.s.b,hw.p.s.bag,hw.p.s.past,hw.p.s.keys,hw.p.s.tags,hw.p.s.nums,hw.p.s.ansA,hw.p.s.ansB⟩ (by first|omega|simp)
 have hends:=aE (side:=1) (l:=l1) (w:={ w with a:=e1 })
 obtain⟨R,hR⟩:∃ R,R=aq 1 { w with a:=e1 } l1:=⟨_,rfl⟩
 rw [←hR] at hpost hends⊢
 clear hR
 obtain⟨ra,rb,bag,past,wA,wB,rA,rB,known,nums,nsA,nsB⟩:=R
 obtain⟨keys,tags⟩:=known
 dsimp only at hends
 obtain⟨g1,g2,g3,g4,g5,g6⟩:=hends
 replace g1:=g1.symm
 replace g2:=g2.symm
 replace g3:=g3.symm
 replace g4:=g4.symm
 replace g5:=g5.symm
 replace g6:=g6.symm
 subst g1 g2 g3 g4 g5 g6
 refine ga Tryz.func56 Tryz.ntmps56 Tryz.results56 fun E hE=>?_
 refine qK (hEA) (qI 0 21) ?_
 refine qK (hX) (qI 24 7) ?_
 refine qD [0,1,2,3,5,6,7,4,8,9,10] ?_
 refine az (hset) (qI 0 21++qI 33 7) ?_
 refine az (hpost) (qI 33 7++qI 7 14++qI 40 1) ?_
 refine qG ?_
 exact cc (qI 0 21++qI 41 21)
theorem su (w:WorldD) (pos many:Int) (text:List UInt8) (ad:AddrD) (le:LetterD) (hw:SmallD w) (htx:text.length≤1048576):
  ae Tryz.prog 56 [.ag (w.cs 0),.ag (ActD.cs ⟨1,2,pos,many,text,ad,le⟩)] (w.hp false) (.tu [.ag (WorldD.cs (aq 2 { w with wroteB:=w.wroteB++text.take (cp w.b text).2,b:=(aS w.b text).1 } (aS w.b text).2) 21),.sc (.int .i64 0)]) (w.hp false++WorldD.hp (aq 2 { w with wroteB:=w.wroteB++text.take (cp w.b text).2,b:=(aS w.b text).1 } (aS w.b text).2) true):=by
 have hX:=lQ w.b text hw.p.s.b htx (jW hw.ob)
 have hsm:=eQ (t:=text) hw.p.s.b
 have hlen:=ie w.b text
 have hEA:ae Tryz.prog 113 [.ag (w.cs 0),.sc (.int .i64 2)] (w.hp false) (.ag (w.b.cs 21)) (w.hp false++w.b.hp true):=bG w 2 hw.p.s.a.own hw.p.s.a.far hw.p.s.a.subs hw.p.s.a.halfs hw.p.s.a.list hw.p.s.a.done hw.p.s.a.over hw.p.s.b.own hw.p.s.b.far hw.p.s.b.subs hw.p.s.b.halfs hw.p.s.b.list hw.p.s.b.done hw.p.s.b.over
 have hX2:=mf w.b text hw.p.s.b htx
 have hwl:=ne w.b text
 obtain⟨wr,hwr⟩:∃ p,p=cp w.b text:=⟨_,rfl⟩
 rw [←hwr] at hX2 hwl⊢
 obtain⟨e0,n0⟩:=wr
 dsimp only at hX2 hwl⊢
 obtain⟨pr,hpr⟩:∃ p,p=aS w.b text:=⟨_,rfl⟩
 rw [←hpr] at hX hsm hlen⊢
 obtain⟨e1,l1⟩:=pr
 dsimp only at hX hsm hlen⊢
 have hset:=dG { w with wroteB:=w.wroteB++text.take n0 } e1
 have hpost:=dI { w with wroteB:=w.wroteB++text.take n0,b:=e1 } l1 ⟨hw.p.s.a,hsm,hw.p.s.bag,hw.p.s.past,hw.p.s.keys,hw.p.s.tags,hw.p.s.nums,hw.p.s.ansA,hw.p.s.ansB⟩ (by first|omega|simp)
 have hends:=aE (side:=2) (l:=l1) (w:={ w with wroteB:=w.wroteB++text.take n0,b:=e1 })
 obtain⟨R,hR⟩:∃ R,R=aq 2 { w with wroteB:=w.wroteB++text.take n0,b:=e1 } l1:=⟨_,rfl⟩
 rw [←hR] at hpost hends⊢
 clear hR
 obtain⟨ra,rb,bag,past,wA,wB,rA,rB,known,nums,nsA,nsB⟩:=R
 obtain⟨keys,tags⟩:=known
 dsimp only at hends
 obtain⟨g1,g2,g3,g4,g5,g6⟩:=hends
 replace g1:=g1.symm
 replace g2:=g2.symm
 replace g3:=g3.symm
 replace g4:=g4.symm
 replace g5:=g5.symm
 replace g6:=g6.symm
 subst g1 g2 g3 g4 g5 g6
 have htk:(text.take n0).length≤1048576:=by rw [List.length_take];omega
 have hWr:=gE w 2 (text.take n0) [] hw.s htk (by simp)
 rw [ye] at hWr
 refine ga Tryz.func56 Tryz.ntmps56 Tryz.results56 fun E hE=>?_
 refine qK (hEA) (qI 0 21) ?_
 refine qK (hX2) (qI 24 7) ?_
 refine qD [0,1,2,3,4,5,6,7,8] ?_
 refine az (hWr) (qI 0 21) ?_
 refine⟨qC,ac 400 ?_⟩
 try simp (disch:=omega) only [go_sem,seval,e8,cF]
 refine qK (hX) (qI 24 7) ?_
 refine qD [0,1,2,3,5,6,7,4,8,9,10] ?_
 refine az (hset) (qI 0 21++qI 41 7) ?_
 refine az (hpost) (qI 0 7++qI 41 7++qI 14 7++qI 48 1) ?_
 refine qG ?_
 exact cc (qI 0 21++qI 49 21)
theorem sv (w:WorldD) (pos many:Int) (text:List UInt8) (ad:AddrD) (le:LetterD) (hw:SmallD w) (htx:text.length≤1048576):
  ae Tryz.prog 56 [.ag (w.cs 0),.ag (ActD.cs ⟨2,2,pos,many,text,ad,le⟩)] (w.hp false) (.tu [.ag (WorldD.cs (aq 2 { w with readB:=w.readB++(bu w.b many).2,b:=((bu w.b many).1,([]:List LetterD)).1 } ((bu w.b many).1,([]:List LetterD)).2) 21),.sc (.int .i64 0)]) (w.hp false++WorldD.hp (aq 2 { w with readB:=w.readB++(bu w.b many).2,b:=((bu w.b many).1,([]:List LetterD)).1 } ((bu w.b many).1,([]:List LetterD)).2) true):=by
 have hX:=uF w.b many hw.p.s.b hw.p.pb
 have hsm:=gP (m:=many) hw.p.s.b
 have hEA:ae Tryz.prog 113 [.ag (w.cs 0),.sc (.int .i64 2)] (w.hp false) (.ag (w.b.cs 21)) (w.hp false++w.b.hp true):=bG w 2 hw.p.s.a.own hw.p.s.a.far hw.p.s.a.subs hw.p.s.a.halfs hw.p.s.a.list hw.p.s.a.done hw.p.s.a.over hw.p.s.b.own hw.p.s.b.far hw.p.s.b.subs hw.p.s.b.halfs hw.p.s.b.list hw.p.s.b.done hw.p.s.b.over
 obtain⟨pr,hpr⟩:∃ p,p=bu w.b many:=⟨_,rfl⟩
 have hrl:(bu w.b many).2.length≤1048576:=lf hw.p.pb
 rw [←hpr] at hX hsm hrl⊢
 obtain⟨e1,t1⟩:=pr
 dsimp only at hX hsm hrl⊢
 obtain⟨l1,hl1⟩:∃ l:List LetterD,l=[]:=⟨_,rfl⟩
 have hlen:l1.length≤1:=by rw [hl1];simp
 have hset:=dG { w with readB:=w.readB++t1 } e1
 have hpost:=dI { w with readB:=w.readB++t1,b:=e1 } [] ⟨hw.p.s.a,hsm,hw.p.s.bag,hw.p.s.past,hw.p.s.keys,hw.p.s.tags,hw.p.s.nums,hw.p.s.ansA,hw.p.s.ansB⟩ (by first|omega|simp)
 have hends:=aE (side:=2) (l:=[]) (w:={ w with readB:=w.readB++t1,b:=e1 })
 obtain⟨R,hR⟩:∃ R,R=aq 2 { w with readB:=w.readB++t1,b:=e1 } []:=⟨_,rfl⟩
 rw [←hR] at hpost hends⊢
 clear hR
 obtain⟨ra,rb,bag,past,wA,wB,rA,rB,known,nums,nsA,nsB⟩:=R
 obtain⟨keys,tags⟩:=known
 dsimp only at hends
 obtain⟨g1,g2,g3,g4,g5,g6⟩:=hends
 replace g1:=g1.symm
 replace g2:=g2.symm
 replace g3:=g3.symm
 replace g4:=g4.symm
 replace g5:=g5.symm
 replace g6:=g6.symm
 subst g1 g2 g3 g4 g5 g6
 have hWr:=gE w 2 [] t1 hw.s (by simp) hrl
 rw [yf] at hWr
 refine ga Tryz.func56 Tryz.ntmps56 Tryz.results56 fun E hE=>?_
 refine qK (hEA) (qI 0 21) ?_
 refine qK (hX) (qI 24 7) ?_
 refine qK (hWr) (qI 0 21) ?_
 try simp (disch:=omega) only [go_sem,seval,e8,cF]
 refine qD [0,1,2,3,5,6,7,4,8,9,10] ?_
 refine az (hset) (qI 0 21++qI 33 7) ?_
 refine az (hpost) (qI 0 7++qI 33 7++qI 14 7++qI 32 1) ?_
 refine qG ?_
 exact cc (qI 0 21++qI 40 21)
theorem sw (w:WorldD) (pos many:Int) (text:List UInt8) (ad:AddrD) (le:LetterD) (hw:SmallD w) (htx:text.length≤1048576):
  ae Tryz.prog 56 [.ag (w.cs 0),.ag (ActD.cs ⟨4,2,pos,many,text,ad,le⟩)] (w.hp false) (.tu [.ag (WorldD.cs (aq 2 { w with b:=(bs w.b).1 } (bs w.b).2) 21),.sc (.int .i64 0)]) (w.hp false++WorldD.hp (aq 2 { w with b:=(bs w.b).1 } (bs w.b).2) true):=by
 have hX:=oX w.b hw.p.s.b
 have hsm:=f9 hw.p.s.b
 have hlen:=jV w.b
 have hEA:ae Tryz.prog 113 [.ag (w.cs 0),.sc (.int .i64 2)] (w.hp false) (.ag (w.b.cs 21)) (w.hp false++w.b.hp true):=bG w 2 hw.p.s.a.own hw.p.s.a.far hw.p.s.a.subs hw.p.s.a.halfs hw.p.s.a.list hw.p.s.a.done hw.p.s.a.over hw.p.s.b.own hw.p.s.b.far hw.p.s.b.subs hw.p.s.b.halfs hw.p.s.b.list hw.p.s.b.done hw.p.s.b.over
 obtain⟨pr,hpr⟩:∃ p,p=bs w.b:=⟨_,rfl⟩
 rw [←hpr] at hX hsm hlen⊢
 obtain⟨e1,l1⟩:=pr
 dsimp only at hX hsm hlen⊢
 have hset:=dG w e1
 have hpost:=dI { w with b:=e1 } l1 ⟨hw.p.s.a,hsm,hw.p.s.bag,hw.p.s.past,hw.p.s.keys,hw.p.s.tags,hw.p.s.nums,hw.p.s.ansA,hw.p.s.ansB⟩ (by first|omega|simp)
 have hends:=aE (side:=2) (l:=l1) (w:={ w with b:=e1 })
 obtain⟨R,hR⟩:∃ R,R=aq 2 { w with b:=e1 } l1:=⟨_,rfl⟩
 rw [←hR] at hpost hends⊢
 clear hR
 obtain⟨ra,rb,bag,past,wA,wB,rA,rB,known,nums,nsA,nsB⟩:=R
 obtain⟨keys,tags⟩:=known
 dsimp only at hends
 obtain⟨g1,g2,g3,g4,g5,g6⟩:=hends
 replace g1:=g1.symm
 replace g2:=g2.symm
 replace g3:=g3.symm
 replace g4:=g4.symm
 replace g5:=g5.symm
 replace g6:=g6.symm
 subst g1 g2 g3 g4 g5 g6
 refine ga Tryz.func56 Tryz.ntmps56 Tryz.results56 fun E hE=>?_
 refine qK (hEA) (qI 0 21) ?_
 refine qK (hX) (qI 24 7) ?_
 refine qD [0,1,2,3,5,6,7,4,8,9,10] ?_
 refine az (hset) (qI 0 21++qI 33 7) ?_
 refine az (hpost) (qI 0 7++qI 33 7++qI 14 7++qI 40 1) ?_
 refine qG ?_
 exact cc (qI 0 21++qI 41 21)
theorem sx (w:WorldD) (pos many:Int) (text:List UInt8) (ad:AddrD) (le:LetterD) (hw:SmallD w) (htx:text.length≤1048576) (hsd:aZ ad.addr=2) (hgood:(aB w.b ad).2=true):
  ae Tryz.prog 56 [.ag (w.cs 0),.ag (ActD.cs ⟨5,2,pos,many,text,ad,le⟩)] (w.hp false) (.tu [.ag (WorldD.cs (aq 2 { w with b:=((aB w.b ad).1,([]:List LetterD)).1 } ((aB w.b ad).1,([]:List LetterD)).2) 21),.sc (.int .i64 0)]) (w.hp false++WorldD.hp (aq 2 { w with b:=((aB w.b ad).1,([]:List LetterD)).1 } ((aB w.b ad).1,([]:List LetterD)).2) true):=by
 have hX:=i5 w.b ad hw.p.s.b
 have hsm:=df (a:=ad) hw.p.s.b
 have hEA:ae Tryz.prog 113 [.ag (w.cs 0),.sc (.int .i64 2)] (w.hp false) (.ag (w.b.cs 21)) (w.hp false++w.b.hp true):=bG w 2 hw.p.s.a.own hw.p.s.a.far hw.p.s.a.subs hw.p.s.a.halfs hw.p.s.a.list hw.p.s.a.done hw.p.s.a.over hw.p.s.b.own hw.p.s.b.far hw.p.s.b.subs hw.p.s.b.halfs hw.p.s.b.list hw.p.s.b.done hw.p.s.b.over
 obtain⟨pr,hpr⟩:∃ p,p=aB w.b ad:=⟨_,rfl⟩
 rw [←hpr] at hX hsm hgood⊢
 obtain⟨e1,ok1⟩:=pr
 dsimp only at hX hsm hgood⊢
 subst hgood
 obtain⟨l1,hl1⟩:∃ l:List LetterD,l=[]:=⟨_,rfl⟩
 have hlen:l1.length≤1:=by rw [hl1];simp
 have hset:=dG w e1
 have hpost:=dI { w with b:=e1 } [] ⟨hw.p.s.a,hsm,hw.p.s.bag,hw.p.s.past,hw.p.s.keys,hw.p.s.tags,hw.p.s.nums,hw.p.s.ansA,hw.p.s.ansB⟩ (by first|omega|simp)
 have hends:=aE (side:=2) (l:=[]) (w:={ w with b:=e1 })
 obtain⟨R,hR⟩:∃ R,R=aq 2 { w with b:=e1 } []:=⟨_,rfl⟩
 rw [←hR] at hpost hends⊢
 clear hR
 obtain⟨ra,rb,bag,past,wA,wB,rA,rB,known,nums,nsA,nsB⟩:=R
 obtain⟨keys,tags⟩:=known
 dsimp only at hends
 obtain⟨g1,g2,g3,g4,g5,g6⟩:=hends
 replace g1:=g1.symm
 replace g2:=g2.symm
 replace g3:=g3.symm
 replace g4:=g4.symm
 replace g5:=g5.symm
 replace g6:=g6.symm
 subst g1 g2 g3 g4 g5 g6
 have hSd:=dD ad.addr
 rw [hsd] at hSd
 refine ga Tryz.func56 Tryz.ntmps56 Tryz.results56 fun E hE=>?_
 refine qK (hEA) (qI 0 21) ?_
 refine qK (hX) (qI 24 7) ?_
 refine qD [0,1,2,3,4,5,7,8,6,9,10] ?_
 refine az (hSd) [] ?_
 refine qG ?_
 refine qD [0,1,2,3,5,6,7,4,8,9,10] ?_
 refine az (hset) (qI 0 21++qI 33 7) ?_
 refine az (hpost) (qI 0 7++qI 33 7++qI 14 7++qI 32 1) ?_
 refine qG ?_
 exact cc (qI 0 21++qI 40 21)
theorem sy (w:WorldD) (pos many:Int) (text:List UInt8) (ad:AddrD) (le:LetterD) (hw:SmallD w) (htx:text.length≤1048576):
  ae Tryz.prog 56 [.ag (w.cs 0),.ag (ActD.cs ⟨6,2,pos,many,text,ad,le⟩)] (w.hp false) (.tu [.ag (WorldD.cs (aq 2 { w with b:=(bb w.b pos).1 } (bb w.b pos).2) 21),.sc (.int .i64 0)]) (w.hp false++WorldD.hp (aq 2 { w with b:=(bb w.b pos).1 } (bb w.b pos).2) true):=by
 have hX:=nl w.b pos hw.p.s.b
 have hsm:=fg (n:=pos) hw.p.s.b
 have hlen:=i6 w.b pos hw.p.s.b
 have hEA:ae Tryz.prog 113 [.ag (w.cs 0),.sc (.int .i64 2)] (w.hp false) (.ag (w.b.cs 21)) (w.hp false++w.b.hp true):=bG w 2 hw.p.s.a.own hw.p.s.a.far hw.p.s.a.subs hw.p.s.a.halfs hw.p.s.a.list hw.p.s.a.done hw.p.s.a.over hw.p.s.b.own hw.p.s.b.far hw.p.s.b.subs hw.p.s.b.halfs hw.p.s.b.list hw.p.s.b.done hw.p.s.b.over
 obtain⟨pr,hpr⟩:∃ p,p=bb w.b pos:=⟨_,rfl⟩
 rw [←hpr] at hX hsm hlen⊢
 obtain⟨e1,l1⟩:=pr
 dsimp only at hX hsm hlen⊢
 have hset:=dG w e1
 have hpost:=dI { w with b:=e1 } l1 ⟨hw.p.s.a,hsm,hw.p.s.bag,hw.p.s.past,hw.p.s.keys,hw.p.s.tags,hw.p.s.nums,hw.p.s.ansA,hw.p.s.ansB⟩ (by first|omega|simp)
 have hends:=aE (side:=2) (l:=l1) (w:={ w with b:=e1 })
 obtain⟨R,hR⟩:∃ R,R=aq 2 { w with b:=e1 } l1:=⟨_,rfl⟩
 rw [←hR] at hpost hends⊢
 clear hR
 obtain⟨ra,rb,bag,past,wA,wB,rA,rB,known,nums,nsA,nsB⟩:=R
 obtain⟨keys,tags⟩:=known
 dsimp only at hends
 obtain⟨g1,g2,g3,g4,g5,g6⟩:=hends
 replace g1:=g1.symm
 replace g2:=g2.symm
 replace g3:=g3.symm
 replace g4:=g4.symm
 replace g5:=g5.symm
 replace g6:=g6.symm
 subst g1 g2 g3 g4 g5 g6
 refine ga Tryz.func56 Tryz.ntmps56 Tryz.results56 fun E hE=>?_
 refine qK (hEA) (qI 0 21) ?_
 refine qK (hX) (qI 24 7) ?_
 refine qD [0,1,2,3,5,6,7,4,8,9,10] ?_
 refine az (hset) (qI 0 21++qI 33 7) ?_
 refine az (hpost) (qI 0 7++qI 33 7++qI 14 7++qI 40 1) ?_
 refine qG ?_
 exact cc (qI 0 21++qI 41 21)
theorem sA (w:WorldD) (pos many:Int) (text:List UInt8) (ad:AddrD) (le:LetterD) (hw:SmallD w) (htx:text.length≤1048576):
  ae Tryz.prog 56 [.ag (w.cs 0),.ag (ActD.cs ⟨7,2,pos,many,text,ad,le⟩)] (w.hp false) (.tu [.ag (WorldD.cs (aq 2 { w with b:=(br w.b pos).1 } (br w.b pos).2) 21),.sc (.int .i64 0)]) (w.hp false++WorldD.hp (aq 2 { w with b:=(br w.b pos).1 } (br w.b pos).2) true):=by
 have hX:=sj w.b pos hw.p.s.b
 have hsm:=f8 (k:=pos) hw.p.s.b
 have hlen:=jU w.b pos
 have hEA:ae Tryz.prog 113 [.ag (w.cs 0),.sc (.int .i64 2)] (w.hp false) (.ag (w.b.cs 21)) (w.hp false++w.b.hp true):=bG w 2 hw.p.s.a.own hw.p.s.a.far hw.p.s.a.subs hw.p.s.a.halfs hw.p.s.a.list hw.p.s.a.done hw.p.s.a.over hw.p.s.b.own hw.p.s.b.far hw.p.s.b.subs hw.p.s.b.halfs hw.p.s.b.list hw.p.s.b.done hw.p.s.b.over
 obtain⟨pr,hpr⟩:∃ p,p=br w.b pos:=⟨_,rfl⟩
 rw [←hpr] at hX hsm hlen⊢
 obtain⟨e1,l1⟩:=pr
 dsimp only at hX hsm hlen⊢
 have hset:=dG w e1
 have hpost:=dI { w with b:=e1 } l1 ⟨hw.p.s.a,hsm,hw.p.s.bag,hw.p.s.past,hw.p.s.keys,hw.p.s.tags,hw.p.s.nums,hw.p.s.ansA,hw.p.s.ansB⟩ (by first|omega|simp)
 have hends:=aE (side:=2) (l:=l1) (w:={ w with b:=e1 })
 obtain⟨R,hR⟩:∃ R,R=aq 2 { w with b:=e1 } l1:=⟨_,rfl⟩
 rw [←hR] at hpost hends⊢
 clear hR
 obtain⟨ra,rb,bag,past,wA,wB,rA,rB,known,nums,nsA,nsB⟩:=R
 obtain⟨keys,tags⟩:=known
 dsimp only at hends
 obtain⟨g1,g2,g3,g4,g5,g6⟩:=hends
 replace g1:=g1.symm
 replace g2:=g2.symm
 replace g3:=g3.symm
 replace g4:=g4.symm
 replace g5:=g5.symm
 replace g6:=g6.symm
 subst g1 g2 g3 g4 g5 g6
 refine ga Tryz.func56 Tryz.ntmps56 Tryz.results56 fun E hE=>?_
 refine qK (hEA) (qI 0 21) ?_
 refine qK (hX) (qI 24 7) ?_
 refine qD [0,1,2,3,5,6,7,4,8,9,10] ?_
 refine az (hset) (qI 0 21++qI 33 7) ?_
 refine az (hpost) (qI 0 7++qI 33 7++qI 14 7++qI 40 1) ?_
 refine qG ?_
 exact cc (qI 0 21++qI 41 21)
end
section
open Go.RowKit
theorem sB (w:WorldD) (pos many:Int) (text:List UInt8) (ad:AddrD) (le:LetterD) (hw:SmallD w) (htx:text.length≤1048576):
  ae Tryz.prog 56 [.ag (w.cs 0),.ag (ActD.cs ⟨3,1,pos,many,text,ad,le⟩)] (w.hp false) (.tu [.ag (WorldD.cs (aq 1 { w with a:=(dt w.a).1 } (dt w.a).2) 21),.sc (.int .i64 0)]) (w.hp false++WorldD.hp (aq 1 { w with a:=(dt w.a).1 } (dt w.a).2) true):=by
 have hX:=uP w.a hw.p.s.a hw.oa
 have hsm:=iH hw.p.s.a
 have hlen:=nq w.a
 have hEA:ae Tryz.prog 113 [.ag (w.cs 0),.sc (.int .i64 1)] (w.hp false) (.ag (w.a.cs 21)) (w.hp false++w.a.hp true):=bG w 1 hw.p.s.a.own hw.p.s.a.far hw.p.s.a.subs hw.p.s.a.halfs hw.p.s.a.list hw.p.s.a.done hw.p.s.a.over hw.p.s.b.own hw.p.s.b.far hw.p.s.b.subs hw.p.s.b.halfs hw.p.s.b.list hw.p.s.b.done hw.p.s.b.over
 obtain⟨pr,hpr⟩:∃ p,p=dt w.a:=⟨_,rfl⟩
 rw [←hpr] at hX hsm hlen⊢
 obtain⟨e1,l1⟩:=pr
 dsimp only at hX hsm hlen⊢
 have hset:=dF w e1
 have hpost:=dH { w with a:=e1 } l1 ⟨hsm,hw.p.s.b,hw.p.s.bag,hw.p.s.past,hw.p.s.keys,hw.p.s.tags,hw.p.s.nums,hw.p.s.ansA,hw.p.s.ansB⟩ (by first|omega|simp)
 have hends:=aE (side:=1) (l:=l1) (w:={ w with a:=e1 })
 obtain⟨R,hR⟩:∃ R,R=aq 1 { w with a:=e1 } l1:=⟨_,rfl⟩
 rw [←hR] at hpost hends⊢
 clear hR
 obtain⟨ra,rb,bag,past,wA,wB,rA,rB,known,nums,nsA,nsB⟩:=R
 obtain⟨keys,tags⟩:=known
 dsimp only at hends
 obtain⟨g1,g2,g3,g4,g5,g6⟩:=hends
 replace g1:=g1.symm
 replace g2:=g2.symm
 replace g3:=g3.symm
 replace g4:=g4.symm
 replace g5:=g5.symm
 replace g6:=g6.symm
 subst g1 g2 g3 g4 g5 g6
 refine ga Tryz.func56 Tryz.ntmps56 Tryz.results56 fun E hE=>?_
 refine qK (hEA) (qI 0 21) ?_
 refine qK (hX) (qI 24 7) ?_
 refine qD [0,1,2,3,5,6,7,4,8,9,10] ?_
 refine az (hset) (qI 0 21++qI 33 7) ?_
 refine az (hpost) (qI 33 7++qI 7 14++qI 40 1) ?_
 refine qG ?_
 exact cc (qI 0 21++qI 41 21)
theorem sC (w:WorldD) (pos many:Int) (text:List UInt8) (ad:AddrD) (le:LetterD) (hw:SmallD w) (htx:text.length≤1048576):
  ae Tryz.prog 56 [.ag (w.cs 0),.ag (ActD.cs ⟨3,2,pos,many,text,ad,le⟩)] (w.hp false) (.tu [.ag (WorldD.cs (aq 2 { w with b:=(dt w.b).1 } (dt w.b).2) 21),.sc (.int .i64 0)]) (w.hp false++WorldD.hp (aq 2 { w with b:=(dt w.b).1 } (dt w.b).2) true):=by
 have hX:=uP w.b hw.p.s.b hw.ob
 have hsm:=iH hw.p.s.b
 have hlen:=nq w.b
 have hEA:ae Tryz.prog 113 [.ag (w.cs 0),.sc (.int .i64 2)] (w.hp false) (.ag (w.b.cs 21)) (w.hp false++w.b.hp true):=bG w 2 hw.p.s.a.own hw.p.s.a.far hw.p.s.a.subs hw.p.s.a.halfs hw.p.s.a.list hw.p.s.a.done hw.p.s.a.over hw.p.s.b.own hw.p.s.b.far hw.p.s.b.subs hw.p.s.b.halfs hw.p.s.b.list hw.p.s.b.done hw.p.s.b.over
 obtain⟨pr,hpr⟩:∃ p,p=dt w.b:=⟨_,rfl⟩
 rw [←hpr] at hX hsm hlen⊢
 obtain⟨e1,l1⟩:=pr
 dsimp only at hX hsm hlen⊢
 have hset:=dG w e1
 have hpost:=dI { w with b:=e1 } l1 ⟨hw.p.s.a,hsm,hw.p.s.bag,hw.p.s.past,hw.p.s.keys,hw.p.s.tags,hw.p.s.nums,hw.p.s.ansA,hw.p.s.ansB⟩ (by first|omega|simp)
 have hends:=aE (side:=2) (l:=l1) (w:={ w with b:=e1 })
 obtain⟨R,hR⟩:∃ R,R=aq 2 { w with b:=e1 } l1:=⟨_,rfl⟩
 rw [←hR] at hpost hends⊢
 clear hR
 obtain⟨ra,rb,bag,past,wA,wB,rA,rB,known,nums,nsA,nsB⟩:=R
 obtain⟨keys,tags⟩:=known
 dsimp only at hends
 obtain⟨g1,g2,g3,g4,g5,g6⟩:=hends
 replace g1:=g1.symm
 replace g2:=g2.symm
 replace g3:=g3.symm
 replace g4:=g4.symm
 replace g5:=g5.symm
 replace g6:=g6.symm
 subst g1 g2 g3 g4 g5 g6
 refine ga Tryz.func56 Tryz.ntmps56 Tryz.results56 fun E hE=>?_
 refine qK (hEA) (qI 0 21) ?_
 refine qK (hX) (qI 24 7) ?_
 refine qD [0,1,2,3,5,6,7,4,8,9,10] ?_
 refine az (hset) (qI 0 21++qI 33 7) ?_
 refine az (hpost) (qI 0 7++qI 33 7++qI 14 7++qI 40 1) ?_
 refine qG ?_
 exact cc (qI 0 21++qI 41 21)
end
section
open Go.RowKit
theorem tE (w:WorldD) (pos many:Int) (text:List UInt8) (ad:AddrD) (le:LetterD) (hw:SmallD w) (hbad:¬ aZ ad.addr=1∨(aB w.a ad).2=false):
  ae Tryz.prog 68 [.sc (.pt 21 0 0),.ag (ActD.cs ⟨5,1,pos,many,text,ad,le⟩)] (w.hp true++[some ⟨[w.cs 0],61,51,true,false⟩]) (.sc (.int .i64 1))
  ([none,none,none,none,none,none,none,none,none,none,none,none,none,none,none,none,none,none,none,none,none,some ⟨[WorldD.cs w 22],61,51,true,false⟩]++WorldD.hp w true):=by
 have hX:=i4 w.a ad hw.p.s.a
 have hsm:=df (a:=ad) hw.p.s.a
 have hEA:ae Tryz.prog 144 [.ag (w.cs 0),.sc (.int .i64 1)] (w.hp false) (.ag (w.a.cs 21)) (w.hp false++w.a.hp true):=bF w 1 hw.p.s.a.own hw.p.s.a.far hw.p.s.a.subs hw.p.s.a.halfs hw.p.s.a.list hw.p.s.a.done hw.p.s.a.over hw.p.s.b.own hw.p.s.b.far hw.p.s.b.subs hw.p.s.b.halfs hw.p.s.b.list hw.p.s.b.done hw.p.s.b.over
 obtain⟨pr,hpr⟩:∃ p,p=aB w.a ad:=⟨_,rfl⟩
 rw [←hpr] at hX hsm hbad
 obtain⟨e1,ok1⟩:=pr
 dsimp only at hX hsm hbad
 have hSd:=dC ad.addr
 generalize aZ ad.addr=sd at*
 refine aN Tryz.func68 (by kernel_rfl) rfl fun E hE=>ac 400 ?_
 simp (disch:=omega) only [Tryz.ntmps68,Tryz.results68,go_sem,Nat.reduceEqDiff,Nat.reduceAdd,Nat.reduceSub,Int.reduceAdd,Int.reduceSub,Int.reduceToNat]
 refine aI [(5,6)] [] [(qU [0,8]),[0,1,2,3,4,6,5,7]] 22 hE (fun s=>s.at (qU [13,6]) [(5,.sc (.pt 30 0 0))] (s.hp++(w.a.hp true++[some ⟨[w.a.cs 23],25,45,true,false⟩]))) (by kernel_rfl) (qC) (by kernel_rfl) ?_ (ac 400 ?_)
 rotate_left
 rotate_right
 simp only [aQ]
 refine⟨aa 400 ?_,aa 400 ?_⟩
 ·simp (disch:=omega) only [go_sem]
  refine am (qC) (hEA) (qI 0 21) qM (by rfl) (by rfl) (aa 400 ?_)
  simp (disch:=omega) only [go_sem,Nat.reduceEqDiff,Nat.reduceAdd,Nat.reduceSub,Int.reduceAdd,Int.reduceSub,Int.reduceToNat]
  refine⟨qC,(qI 0 31),ab (by rfl) (by rfl) ?_⟩
  try simp (disch:=omega) only [go_sem,Nat.reduceEqDiff,Nat.reduceAdd,Nat.reduceSub,Int.reduceAdd,Int.reduceSub,Int.reduceToNat]
 ·simp (disch:=omega) only [go_sem]
  refine am (qC) (hEA) (qI 0 21) qM (by rfl) (by rfl) (aa 400 ?_)
  simp (disch:=omega) only [go_sem,Nat.reduceEqDiff,Nat.reduceAdd,Nat.reduceSub,Int.reduceAdd,Int.reduceSub,Int.reduceToNat]
  refine⟨qC,(qI 0 23++qI 24 7++qI 23 1),ab (by rfl) (by rfl) ?_⟩
  try simp (disch:=omega) only [go_sem,Nat.reduceEqDiff,Nat.reduceAdd,Nat.reduceSub,Int.reduceAdd,Int.reduceSub,Int.reduceToNat]
 try simp (disch:=omega) only [go_sem,Nat.reduceEqDiff,Nat.reduceAdd,Nat.reduceSub,Int.reduceAdd,Int.reduceSub,Int.reduceToNat]
 refine al (qC) (hX) (qI 23 7) qM (by rfl) (ac 400 ?_)
 simp (disch:=omega) only [go_sem,Nat.reduceEqDiff,Nat.reduceAdd,Nat.reduceSub,Int.reduceAdd,Int.reduceSub,Int.reduceToNat]
 by_cases h0:sd=1
 ·subst h0
  have hb:ok1=false:=by rcases hbad with h|h;exact absurd rfl h;exact h
  subst hb
  refine ar (qU [0,3,4,2,3,1,6,5]) (by kernel_rfl) (qC) (by kernel_rfl) (aa 400 ?_)
  simp (disch:=omega) only [go_sem,Nat.reduceEqDiff,Nat.reduceAdd,Nat.reduceSub,Int.reduceAdd,Int.reduceSub,Int.reduceToNat]
  refine am (qC) (hSd) [] qM (by rfl) (by rfl) (aa 400 ?_)
  simp (disch:=omega) only [go_sem,Nat.reduceEqDiff,Nat.reduceAdd,Nat.reduceSub,Int.reduceAdd,Int.reduceSub,Int.reduceToNat]
  refine⟨qC,ac 400 ?_⟩
  try simp (disch:=omega) only [go_sem,Nat.reduceEqDiff,Nat.reduceAdd,Nat.reduceSub,Int.reduceAdd,Int.reduceSub,Int.reduceToNat]
  refine aA (qI 0 22++qI 0 21) (qC) _ (by simp only [go_sem];rfl) (by rfl) (by rfl) ?_
  simp (disch:=omega) only [go_sem,Nat.reduceEqDiff,Nat.reduceAdd,Nat.reduceSub,Int.reduceAdd,Int.reduceSub,Int.reduceToNat]
 refine ar (qU [0,3,4,2,3,1,6,5]) (by kernel_rfl) (qC) (by kernel_rfl) (aa 400 ?_)
 simp (disch:=omega) only [go_sem,Nat.reduceEqDiff,Nat.reduceAdd,Nat.reduceSub,Int.reduceAdd,Int.reduceSub,Int.reduceToNat]
 refine am (qC) (hSd) [] qM (by rfl) (by rfl) (aa 400 ?_)
 simp (disch:=omega) only [go_sem,Nat.reduceEqDiff,Nat.reduceAdd,Nat.reduceSub,Int.reduceAdd,Int.reduceSub,Int.reduceToNat]
 refine⟨qC,ac 400 ?_⟩
 try simp (disch:=omega) only [go_sem,Nat.reduceEqDiff,Nat.reduceAdd,Nat.reduceSub,Int.reduceAdd,Int.reduceSub,Int.reduceToNat]
 refine aA (qI 0 22++qI 0 21) (qC) _ (by simp only [go_sem];rfl) (by rfl) (by rfl) ?_
 simp (disch:=omega) only [go_sem,Nat.reduceEqDiff,Nat.reduceAdd,Nat.reduceSub,Int.reduceAdd,Int.reduceSub,Int.reduceToNat]
theorem ph (w:WorldD) (pos many:Int) (text:List UInt8) (ad:AddrD) (le:LetterD) (hw:SmallD w) (hbad:¬ aZ ad.addr=1∨(aB w.a ad).2=false):
  ae Tryz.prog 56 [.ag (w.cs 0),.ag (ActD.cs ⟨5,1,pos,many,text,ad,le⟩)] (w.hp true) (.tu [.ag (WorldD.cs w 21),.sc (.int .i64 1)]) ([none,none,none,none,none,none,none,none,none,none,none,none,none,none,none,none,none,none,none,none,none]++WorldD.hp w true):=by
 have hX:=i5 w.a ad hw.p.s.a
 have hsm:=df (a:=ad) hw.p.s.a
 have hEA:ae Tryz.prog 113 [.ag (w.cs 0),.sc (.int .i64 1)] (w.hp false) (.ag (w.a.cs 21)) (w.hp false++w.a.hp true):=bG w 1 hw.p.s.a.own hw.p.s.a.far hw.p.s.a.subs hw.p.s.a.halfs hw.p.s.a.list hw.p.s.a.done hw.p.s.a.over hw.p.s.b.own hw.p.s.b.far hw.p.s.b.subs hw.p.s.b.halfs hw.p.s.b.list hw.p.s.b.done hw.p.s.b.over
 obtain⟨pr,hpr⟩:∃ p,p=aB w.a ad:=⟨_,rfl⟩
 rw [←hpr] at hX hsm hbad
 obtain⟨e1,ok1⟩:=pr
 dsimp only at hX hsm hbad
 have hSd:=dD ad.addr
 generalize aZ ad.addr=sd at*
 refine ga Tryz.func56 Tryz.ntmps56 Tryz.results56 fun E hE=>?_
 refine qK (hEA) (qI 0 21) ?_
 refine qK (hX) (qI 24 7) ?_
 cases ok1 with
 |false=>
  refine qD [0,1,2,3,4,5,7,8,6,9,10] ?_
  refine qG ?_
  exact cc (qI 0 21++qI 0 21)
 |true=>
  have h0:¬ sd=1:=by rcases hbad with h|h;exact h;exact absurd h (by simp)
  refine qD [0,1,2,3,4,5,7,8,6,9,10] ?_
  refine az (hSd) [] ?_
  refine qG ?_
  exact cc (qI 0 21++qI 0 21)
theorem tF (w:WorldD) (pos many:Int) (text:List UInt8) (ad:AddrD) (le:LetterD) (hw:SmallD w) (hbad:¬ aZ ad.addr=2∨(aB w.b ad).2=false):
  ae Tryz.prog 68 [.sc (.pt 21 0 0),.ag (ActD.cs ⟨5,2,pos,many,text,ad,le⟩)] (w.hp true++[some ⟨[w.cs 0],61,51,true,false⟩]) (.sc (.int .i64 1))
  ([none,none,none,none,none,none,none,none,none,none,none,none,none,none,none,none,none,none,none,none,none,some ⟨[WorldD.cs w 22],61,51,true,false⟩]++WorldD.hp w true):=by
 have hX:=i4 w.b ad hw.p.s.b
 have hsm:=df (a:=ad) hw.p.s.b
 have hEA:ae Tryz.prog 144 [.ag (w.cs 0),.sc (.int .i64 2)] (w.hp false) (.ag (w.b.cs 21)) (w.hp false++w.b.hp true):=bF w 2 hw.p.s.a.own hw.p.s.a.far hw.p.s.a.subs hw.p.s.a.halfs hw.p.s.a.list hw.p.s.a.done hw.p.s.a.over hw.p.s.b.own hw.p.s.b.far hw.p.s.b.subs hw.p.s.b.halfs hw.p.s.b.list hw.p.s.b.done hw.p.s.b.over
 obtain⟨pr,hpr⟩:∃ p,p=aB w.b ad:=⟨_,rfl⟩
 rw [←hpr] at hX hsm hbad
 obtain⟨e1,ok1⟩:=pr
 dsimp only at hX hsm hbad
 have hSd:=dC ad.addr
 generalize aZ ad.addr=sd at*
 refine aN Tryz.func68 (by kernel_rfl) rfl fun E hE=>ac 400 ?_
 simp (disch:=omega) only [Tryz.ntmps68,Tryz.results68,go_sem,Nat.reduceEqDiff,Nat.reduceAdd,Nat.reduceSub,Int.reduceAdd,Int.reduceSub,Int.reduceToNat]
 refine aI [(5,6)] [] [(qU [0,8]),[0,1,2,3,4,6,5,7]] 22 hE (fun s=>s.at (qU [13,6]) [(5,.sc (.pt 30 0 0))] (s.hp++(w.b.hp true++[some ⟨[w.b.cs 23],25,45,true,false⟩]))) (by kernel_rfl) (qC) (by kernel_rfl) ?_ (ac 400 ?_)
 rotate_left
 rotate_right
 simp only [aQ]
 refine⟨aa 400 ?_,aa 400 ?_⟩
 ·simp (disch:=omega) only [go_sem]
  refine am (qC) (hEA) (qI 0 21) qM (by rfl) (by rfl) (aa 400 ?_)
  simp (disch:=omega) only [go_sem,Nat.reduceEqDiff,Nat.reduceAdd,Nat.reduceSub,Int.reduceAdd,Int.reduceSub,Int.reduceToNat]
  refine⟨qC,(qI 0 31),ab (by rfl) (by rfl) ?_⟩
  try simp (disch:=omega) only [go_sem,Nat.reduceEqDiff,Nat.reduceAdd,Nat.reduceSub,Int.reduceAdd,Int.reduceSub,Int.reduceToNat]
 ·simp (disch:=omega) only [go_sem]
  refine am (qC) (hEA) (qI 0 21) qM (by rfl) (by rfl) (aa 400 ?_)
  simp (disch:=omega) only [go_sem,Nat.reduceEqDiff,Nat.reduceAdd,Nat.reduceSub,Int.reduceAdd,Int.reduceSub,Int.reduceToNat]
  refine⟨qC,(qI 0 23++qI 24 7++qI 23 1),ab (by rfl) (by rfl) ?_⟩
  try simp (disch:=omega) only [go_sem,Nat.reduceEqDiff,Nat.reduceAdd,Nat.reduceSub,Int.reduceAdd,Int.reduceSub,Int.reduceToNat]
 try simp (disch:=omega) only [go_sem,Nat.reduceEqDiff,Nat.reduceAdd,Nat.reduceSub,Int.reduceAdd,Int.reduceSub,Int.reduceToNat]
 refine al (qC) (hX) (qI 23 7) qM (by rfl) (ac 400 ?_)
 simp (disch:=omega) only [go_sem,Nat.reduceEqDiff,Nat.reduceAdd,Nat.reduceSub,Int.reduceAdd,Int.reduceSub,Int.reduceToNat]
 by_cases h0:sd=2
 ·subst h0
  have hb:ok1=false:=by rcases hbad with h|h;exact absurd rfl h;exact h
  subst hb
  refine ar (qU [0,3,4,2,3,1,6,5]) (by kernel_rfl) (qC) (by kernel_rfl) (aa 400 ?_)
  simp (disch:=omega) only [go_sem,Nat.reduceEqDiff,Nat.reduceAdd,Nat.reduceSub,Int.reduceAdd,Int.reduceSub,Int.reduceToNat]
  refine am (qC) (hSd) [] qM (by rfl) (by rfl) (aa 400 ?_)
  simp (disch:=omega) only [go_sem,Nat.reduceEqDiff,Nat.reduceAdd,Nat.reduceSub,Int.reduceAdd,Int.reduceSub,Int.reduceToNat]
  refine⟨qC,ac 400 ?_⟩
  try simp (disch:=omega) only [go_sem,Nat.reduceEqDiff,Nat.reduceAdd,Nat.reduceSub,Int.reduceAdd,Int.reduceSub,Int.reduceToNat]
  refine aA (qI 0 22++qI 0 21) (qC) _ (by simp only [go_sem];rfl) (by rfl) (by rfl) ?_
  simp (disch:=omega) only [go_sem,Nat.reduceEqDiff,Nat.reduceAdd,Nat.reduceSub,Int.reduceAdd,Int.reduceSub,Int.reduceToNat]
 refine ar (qU [0,3,4,2,3,1,6,5]) (by kernel_rfl) (qC) (by kernel_rfl) (aa 400 ?_)
 simp (disch:=omega) only [go_sem,Nat.reduceEqDiff,Nat.reduceAdd,Nat.reduceSub,Int.reduceAdd,Int.reduceSub,Int.reduceToNat]
 refine am (qC) (hSd) [] qM (by rfl) (by rfl) (aa 400 ?_)
 simp (disch:=omega) only [go_sem,Nat.reduceEqDiff,Nat.reduceAdd,Nat.reduceSub,Int.reduceAdd,Int.reduceSub,Int.reduceToNat]
 refine⟨qC,ac 400 ?_⟩
 try simp (disch:=omega) only [go_sem,Nat.reduceEqDiff,Nat.reduceAdd,Nat.reduceSub,Int.reduceAdd,Int.reduceSub,Int.reduceToNat]
 refine aA (qI 0 22++qI 0 21) (qC) _ (by simp only [go_sem];rfl) (by rfl) (by rfl) ?_
 simp (disch:=omega) only [go_sem,Nat.reduceEqDiff,Nat.reduceAdd,Nat.reduceSub,Int.reduceAdd,Int.reduceSub,Int.reduceToNat]
theorem pi (w:WorldD) (pos many:Int) (text:List UInt8) (ad:AddrD) (le:LetterD) (hw:SmallD w) (hbad:¬ aZ ad.addr=2∨(aB w.b ad).2=false):
  ae Tryz.prog 56 [.ag (w.cs 0),.ag (ActD.cs ⟨5,2,pos,many,text,ad,le⟩)] (w.hp true) (.tu [.ag (WorldD.cs w 21),.sc (.int .i64 1)]) ([none,none,none,none,none,none,none,none,none,none,none,none,none,none,none,none,none,none,none,none,none]++WorldD.hp w true):=by
 have hX:=i5 w.b ad hw.p.s.b
 have hsm:=df (a:=ad) hw.p.s.b
 have hEA:ae Tryz.prog 113 [.ag (w.cs 0),.sc (.int .i64 2)] (w.hp false) (.ag (w.b.cs 21)) (w.hp false++w.b.hp true):=bG w 2 hw.p.s.a.own hw.p.s.a.far hw.p.s.a.subs hw.p.s.a.halfs hw.p.s.a.list hw.p.s.a.done hw.p.s.a.over hw.p.s.b.own hw.p.s.b.far hw.p.s.b.subs hw.p.s.b.halfs hw.p.s.b.list hw.p.s.b.done hw.p.s.b.over
 obtain⟨pr,hpr⟩:∃ p,p=aB w.b ad:=⟨_,rfl⟩
 rw [←hpr] at hX hsm hbad
 obtain⟨e1,ok1⟩:=pr
 dsimp only at hX hsm hbad
 have hSd:=dD ad.addr
 generalize aZ ad.addr=sd at*
 refine ga Tryz.func56 Tryz.ntmps56 Tryz.results56 fun E hE=>?_
 refine qK (hEA) (qI 0 21) ?_
 refine qK (hX) (qI 24 7) ?_
 cases ok1 with
 |false=>
  refine qD [0,1,2,3,4,5,7,8,6,9,10] ?_
  refine qG ?_
  exact cc (qI 0 21++qI 0 21)
 |true=>
  have h0:¬ sd=2:=by rcases hbad with h|h;exact h;exact absurd h (by simp)
  refine qD [0,1,2,3,4,5,7,8,6,9,10] ?_
  refine az (hSd) [] ?_
  refine qG ?_
  exact cc (qI 0 21++qI 0 21)
theorem Aa {w:WorldD} {pos many:Int} {text:List UInt8} {ad:AddrD} {le:LetterD}:db w ⟨1,1,pos,many,text,ad,le⟩=(aq 1 { w with wroteA:=w.wroteA++text.take (cp w.a text).2,a:=(aS w.a text).1 } (aS w.a text).2,0):=by
 simp [db,cC,kE,j5,cG,el,e8,cF]
theorem Ab {w:WorldD} {pos many:Int} {text:List UInt8} {ad:AddrD} {le:LetterD}:db w ⟨2,1,pos,many,text,ad,le⟩=(aq 1 { w with readA:=w.readA++(bu w.a many).2,a:=((bu w.a many).1,([]:List LetterD)).1 } ((bu w.a many).1,([]:List LetterD)).2,0):=by
 simp [db,cC,kE,j5,cG,el,e8,cF]
theorem Ac {w:WorldD} {pos many:Int} {text:List UInt8} {ad:AddrD} {le:LetterD}:db w ⟨3,1,pos,many,text,ad,le⟩=(aq 1 { w with a:=(dt w.a).1 } (dt w.a).2,0):=by
 simp [db,cC,kE,j5,cG,el,e8,cF]
theorem Ad {w:WorldD} {pos many:Int} {text:List UInt8} {ad:AddrD} {le:LetterD}:db w ⟨4,1,pos,many,text,ad,le⟩=(aq 1 { w with a:=(bs w.a).1 } (bs w.a).2,0):=by
 simp [db,cC,kE,j5,cG,el,e8,cF]
theorem Ae {w:WorldD} {pos many:Int} {text:List UInt8} {ad:AddrD} {le:LetterD} (hsd:aZ ad.addr=1) (hgood:(aB w.a ad).2=true):db w ⟨5,1,pos,many,text,ad,le⟩=(aq 1 { w with a:=((aB w.a ad).1,([]:List LetterD)).1 } ((aB w.a ad).1,([]:List LetterD)).2,0):=by
 simp [db,cC,kE,j5,cG,el,e8,cF,hsd,hgood]
theorem Af {w:WorldD} {pos many:Int} {text:List UInt8} {ad:AddrD} {le:LetterD}:db w ⟨6,1,pos,many,text,ad,le⟩=(aq 1 { w with a:=(bb w.a pos).1 } (bb w.a pos).2,0):=by
 simp [db,cC,kE,j5,cG,el,e8,cF]
theorem Ag {w:WorldD} {pos many:Int} {text:List UInt8} {ad:AddrD} {le:LetterD}:db w ⟨7,1,pos,many,text,ad,le⟩=(aq 1 { w with a:=(br w.a pos).1 } (br w.a pos).2,0):=by
 simp [db,cC,kE,j5,cG,el,e8,cF]
theorem Fd {w:WorldD} {pos many:Int} {text:List UInt8} {ad:AddrD} {le:LetterD} (hbad:¬ aZ ad.addr=1∨(aB w.a ad).2=false):db w ⟨5,1,pos,many,text,ad,le⟩=(w,1):=by
 rcases hbad with h|h<;>simp [db,cC,cG,h]
theorem Ah {w:WorldD} {pos many:Int} {text:List UInt8} {ad:AddrD} {le:LetterD}:db w ⟨1,2,pos,many,text,ad,le⟩=(aq 2 { w with wroteB:=w.wroteB++text.take (cp w.b text).2,b:=(aS w.b text).1 } (aS w.b text).2,0):=by
 simp [db,cC,kE,j5,cG,el,e8,cF]
theorem Ai {w:WorldD} {pos many:Int} {text:List UInt8} {ad:AddrD} {le:LetterD}:db w ⟨2,2,pos,many,text,ad,le⟩=(aq 2 { w with readB:=w.readB++(bu w.b many).2,b:=((bu w.b many).1,([]:List LetterD)).1 } ((bu w.b many).1,([]:List LetterD)).2,0):=by
 simp [db,cC,kE,j5,cG,el,e8,cF]
theorem Aj {w:WorldD} {pos many:Int} {text:List UInt8} {ad:AddrD} {le:LetterD}:db w ⟨3,2,pos,many,text,ad,le⟩=(aq 2 { w with b:=(dt w.b).1 } (dt w.b).2,0):=by
 simp [db,cC,kE,j5,cG,el,e8,cF]
theorem Ak {w:WorldD} {pos many:Int} {text:List UInt8} {ad:AddrD} {le:LetterD}:db w ⟨4,2,pos,many,text,ad,le⟩=(aq 2 { w with b:=(bs w.b).1 } (bs w.b).2,0):=by
 simp [db,cC,kE,j5,cG,el,e8,cF]
theorem Al {w:WorldD} {pos many:Int} {text:List UInt8} {ad:AddrD} {le:LetterD} (hsd:aZ ad.addr=2) (hgood:(aB w.b ad).2=true):db w ⟨5,2,pos,many,text,ad,le⟩=(aq 2 { w with b:=((aB w.b ad).1,([]:List LetterD)).1 } ((aB w.b ad).1,([]:List LetterD)).2,0):=by
 simp [db,cC,kE,j5,cG,el,e8,cF,hsd,hgood]
theorem Am {w:WorldD} {pos many:Int} {text:List UInt8} {ad:AddrD} {le:LetterD}:db w ⟨6,2,pos,many,text,ad,le⟩=(aq 2 { w with b:=(bb w.b pos).1 } (bb w.b pos).2,0):=by
 simp [db,cC,kE,j5,cG,el,e8,cF]
theorem An {w:WorldD} {pos many:Int} {text:List UInt8} {ad:AddrD} {le:LetterD}:db w ⟨7,2,pos,many,text,ad,le⟩=(aq 2 { w with b:=(br w.b pos).1 } (br w.b pos).2,0):=by
 simp [db,cC,kE,j5,cG,el,e8,cF]
theorem Fe {w:WorldD} {pos many:Int} {text:List UInt8} {ad:AddrD} {le:LetterD} (hbad:¬ aZ ad.addr=2∨(aB w.b ad).2=false):db w ⟨5,2,pos,many,text,ad,le⟩=(w,1):=by
 rcases hbad with h|h<;>simp [db,cC,cG,h]
theorem yj {w:WorldD} {a:ActD} (h:cC w a=true):db w a=(w,1):=if_pos h
theorem Bf {w:WorldD} {a:ActD} (h:¬ cC w a=true):(db w a).2=0:=by rw [db,if_neg h]
theorem zm (w:WorldD) (a:ActD):(a_ w a).2=0∨(a_ w a).1=w:=by
 unfold a_;repeat' split
 all_goals first|exact .inl rfl|exact .inr rfl
theorem Bg (w:WorldD) (a:ActD):(db w a).2=0∨(db w a).1=w:=by
 by_cases h:cC w a=true
 ·rw [yj h];exact .inr rfl
 exact .inl (Bf h)
theorem fN {a:ActD} (h:fe a=true):1≤a.kind∧a.kind≤12∧1≤a.side∧a.side≤2∧0≤a.pos∧a.text.length≤1048576:=by
 simp only [fe,cr,iQ,Bool.and_eq_true,decide_eq_true_eq] at h
 omega
theorem Bh (w:WorldD) (a:ActD) (hw:SmallD w) (ha:fe a=true) (h7:a.kind≤7):
  ae Tryz.prog 68 [.sc (.pt 21 0 0),.ag a.cs] (w.hp true++[some ⟨[w.cs 0],61,51,true,false⟩]) (.sc (.int .i64 (db w a).2))
  ([none,none,none,none,none,none,none,none,none,none,none,none,none,none,none,none,none,none,none,none,none,some ⟨[WorldD.cs (db w a).1 22],61,51,true,false⟩]++WorldD.hp (db w a).1 true):=by
 obtain⟨k1,k2,k3,k4,k5,k6⟩:=fN ha
 obtain⟨kind,side,pos,many,text,ad,le⟩:=a
 dsimp only at*
 have hs:side=1∨side=2:=by omega
 have hk:kind=1∨kind=2∨kind=3∨kind=4∨kind=5∨kind=6∨kind=7:=by omega
 clear ha k1 k2 k3 k4 h7
 rcases hs with rfl|rfl<;>rcases hk with rfl|rfl|rfl|rfl|rfl|rfl|rfl
 ·rw [Aa];exact wk w pos many text ad le hw k6
 ·rw [Ab];exact wl w pos many text ad le hw k6
 ·rw [Ac];exact wG w pos many text ad le hw k6
 ·rw [Ad];exact wm w pos many text ad le hw k6
 ·by_cases hb:aZ ad.addr=1∧(aB w.a ad).2=true
  ·rw [Ae hb.1 hb.2];exact wn w pos many text ad le hw k6 hb.1 hb.2
  have hb:¬ aZ ad.addr=1∨(aB w.a ad).2=false:=by
   by_cases h0:aZ ad.addr=1
   ·exact .inr (by cases h1:(aB w.a ad).2;rfl;exact absurd ⟨h0,h1⟩ hb)
   exact .inl h0
  rw [Fd hb];exact tE w pos many text ad le hw hb
 ·rw [Af];exact wo w pos many text ad le hw k6
 ·rw [Ag];exact wq w pos many text ad le hw k6
 ·rw [Ah];exact wt w pos many text ad le hw k6
 ·rw [Ai];exact wu w pos many text ad le hw k6
 ·rw [Aj];exact wH w pos many text ad le hw k6
 ·rw [Ak];exact wv w pos many text ad le hw k6
 ·by_cases hb:aZ ad.addr=2∧(aB w.b ad).2=true
  ·rw [Al hb.1 hb.2];exact ww w pos many text ad le hw k6 hb.1 hb.2
  have hb:¬ aZ ad.addr=2∨(aB w.b ad).2=false:=by
   by_cases h0:aZ ad.addr=2
   ·exact .inr (by cases h1:(aB w.b ad).2;rfl;exact absurd ⟨h0,h1⟩ hb)
   exact .inl h0
  rw [Fe hb];exact tF w pos many text ad le hw hb
 ·rw [Am];exact wx w pos many text ad le hw k6
 rw [An];exact wy w pos many text ad le hw k6
theorem yk (w:WorldD) (a:ActD) (hw:SmallD w) (ha:fe a=true) (h7:a.kind≤7) (hb:¬ cC w a=true):
  ae Tryz.prog 56 [.ag (w.cs 0),.ag a.cs] (w.hp false) (.tu [.ag ((db w a).1.cs 21),.sc (.int .i64 (db w a).2)]) (w.hp false++(db w a).1.hp true):=by
 obtain⟨k1,k2,k3,k4,k5,k6⟩:=fN ha
 obtain⟨kind,side,pos,many,text,ad,le⟩:=a
 dsimp only at*
 have hs:side=1∨side=2:=by omega
 have hk:kind=1∨kind=2∨kind=3∨kind=4∨kind=5∨kind=6∨kind=7:=by omega
 clear ha k1 k2 k3 k4 h7
 rcases hs with rfl|rfl<;>rcases hk with rfl|rfl|rfl|rfl|rfl|rfl|rfl
 ·rw [Aa];exact sk w pos many text ad le hw k6
 ·rw [Ab];exact sm w pos many text ad le hw k6
 ·rw [Ac];exact sB w pos many text ad le hw k6
 ·rw [Ad];exact sn w pos many text ad le hw k6
 ·have hb:aZ ad.addr=1∧(aB w.a ad).2=true:=by
   by_cases h0:aZ ad.addr=1<;>cases h1:(aB w.a ad).2<;>simp [cC,cG,h0,h1] at hb<;>exact⟨h0,rfl⟩
  rw [Ae hb.1 hb.2];exact so w pos many text ad le hw k6 hb.1 hb.2
 ·rw [Af];exact sr w pos many text ad le hw k6
 ·rw [Ag];exact ss w pos many text ad le hw k6
 ·rw [Ah];exact su w pos many text ad le hw k6
 ·rw [Ai];exact sv w pos many text ad le hw k6
 ·rw [Aj];exact sC w pos many text ad le hw k6
 ·rw [Ak];exact sw w pos many text ad le hw k6
 ·have hb:aZ ad.addr=2∧(aB w.b ad).2=true:=by
   by_cases h0:aZ ad.addr=2<;>cases h1:(aB w.b ad).2<;>simp [cC,cG,h0,h1] at hb<;>exact⟨h0,rfl⟩
  rw [Al hb.1 hb.2];exact sx w pos many text ad le hw k6 hb.1 hb.2
 ·rw [Am];exact sy w pos many text ad le hw k6
 rw [An];exact sA w pos many text ad le hw k6
theorem wI (w:WorldD) (a:ActD) (hw:SmallD w) (ha:fe a=true) (hb:cC w a=true):
  ae Tryz.prog 56 [.ag (w.cs 0),.ag a.cs] (w.hp true) (.tu [.ag (w.cs 21),.sc (.int .i64 1)]) ([none,none,none,none,none,none,none,none,none,none,none,none,none,none,none,none,none,none,none,none,none]++w.hp true):=by
 obtain⟨k1,k2,k3,k4,k5,k6⟩:=fN ha
 obtain⟨kind,side,pos,many,text,ad,le⟩:=a
 dsimp only at*
 have hs:side=1∨side=2:=by omega
 have hk:kind=5:=by simp only [cC,Bool.and_eq_true,decide_eq_true_eq] at hb;exact hb.1
 subst hk
 rcases hs with rfl|rfl
 ·refine ph w pos many text ad le hw ?_
  by_cases h0:aZ ad.addr=1
  ·exact .inr (by cases h1:(aB w.a ad).2;rfl;simp [cC,cG,h0,h1] at hb)
  exact .inl h0
 refine pi w pos many text ad le hw ?_
 by_cases h0:aZ ad.addr=2
 ·exact .inr (by cases h1:(aB w.b ad).2;rfl;simp [cC,cG,h0,h1] at hb)
 exact .inl h0
theorem zn (w:WorldD) (a:ActD) (hw:SmallD w) (ha:fe a=true) (h7:¬ a.kind≤7):
  ae Tryz.prog 69 [.sc (.pt 21 0 0),.ag a.cs] (w.hp true++[some ⟨[w.cs 0],61,51,true,false⟩]) (.sc (.int .i64 (a_ w a).2))
  ([none,none,none,none,none,none,none,none,none,none,none,none,none,none,none,none,none,none,none,none,none,some ⟨[WorldD.cs (a_ w a).1 22],61,51,true,false⟩]++WorldD.hp (a_ w a).1 true):=by
 obtain⟨k1,k2,k3,k4,k5,k6⟩:=fN ha
 obtain⟨kind,side,pos,many,text,ad,le⟩:=a
 dsimp only at*
 have hk:kind=8∨kind=9∨kind=10∨kind=11∨kind=12:=by omega
 obtain⟨p,rfl⟩:=Int.eq_ofNat_of_zero_le k5
 rcases hk with rfl|rfl|rfl|rfl|rfl
 ·exact yh w side many p text ad le hw
 ·exact yi w side many p text ad le hw
 ·exact wz w side many p text ad le hw
 ·exact wC w side many p text ad le hw
 exact wD w side many p text ad le hw
theorem yl (w:WorldD) (a:ActD) (hw:SmallD w) (ha:fe a=true) (h7:¬ a.kind≤7) (h10:a.kind≤10):
  ae Tryz.prog 59 [.ag (w.cs 0),.ag a.cs] (w.hp true) (.tu [.ag ((a_ w a).1.cs 21),.sc (.int .i64 (a_ w a).2)]) ([none,none,none,none,none,none,none,none,none,none,none,none,none,none,none,none,none,none,none,none,none]++(a_ w a).1.hp true):=by
 obtain⟨k1,k2,k3,k4,k5,k6⟩:=fN ha
 obtain⟨kind,side,pos,many,text,ad,le⟩:=a
 dsimp only at*
 have hk:kind=8∨kind=9∨kind=10:=by omega
 obtain⟨p,rfl⟩:=Int.eq_ofNat_of_zero_le k5
 rcases hk with rfl|rfl|rfl
 ·exact wE w side many p text ad le hw
 ·exact wF w side many p text ad le hw
 exact tD w side many p text ad le hw
end
section
open Go.RowKit
theorem Bi (w:WorldD) (a:ActD) (hw:SmallD w):ae Tryz.prog 28 [.ag (w.cs 0),.ag a.cs] (w.hp false) (.tu [.ag ((ff w a).1.cs 21),.sc (.int .i64 (ff w a).2)]) (w.hp false++(ff w a).1.hp true):=by
 have hC:=kB w hw.p.s
 have hA:=zo a
 cases hok:fe a with
 |false=>
  rw [show ff w a=(w,3) from by rw [ff,if_neg (by simp [hok])]]
  rw [hok] at hA
  dsimp only
  refine e_ Tryz.func28 (by kernel_rfl) rfl fun E hE=>ac 400 ?_
  simp (disch:=omega) only [Tryz.ntmps28,Tryz.results28,go_sem,Nat.reduceEqDiff,Nat.reduceAdd,Nat.reduceSub,Int.reduceAdd,Int.reduceSub,Int.reduceToNat]
  refine al (qC) (hA) [] qM (by rfl) (ac 400 ?_)
  simp (disch:=omega) only [go_sem,Nat.reduceEqDiff,Nat.reduceAdd,Nat.reduceSub,Int.reduceAdd,Int.reduceSub,Int.reduceToNat]
  refine al (qC) (hC) (qI 0 21) qM (by rfl) (ac 400 ?_)
  simp (disch:=omega) only [go_sem,Nat.reduceEqDiff,Nat.reduceAdd,Nat.reduceSub,Int.reduceAdd,Int.reduceSub,Int.reduceToNat]
  refine ah (qI 0 21++qI 24 21) (qC) _ (by simp only [go_sem];rfl) (by rfl) (by rfl) ?_
  simp (disch:=omega) only [go_sem,Nat.reduceEqDiff,Nat.reduceAdd,Nat.reduceSub,Int.reduceAdd,Int.reduceSub,Int.reduceToNat]
 |true=>
  rw [hok] at hA
  by_cases h7:a.kind≤7
  ·have hM:=Bh w a hw hok h7
   have hcode:=Bg w a
   rw [show ff w a=db w a from by rw [ff,if_pos hok,if_pos h7]]
   obtain⟨R,hR⟩:∃ R,R=db w a:=⟨_,rfl⟩
   rw [←hR] at hM hcode⊢
   clear hR
   obtain⟨r,c⟩:=R
   dsimp only at hM hcode⊢
   refine e_ Tryz.func28 (by kernel_rfl) rfl fun E hE=>ac 400 ?_
   simp (disch:=omega) only [Tryz.ntmps28,Tryz.results28,go_sem,Nat.reduceEqDiff,Nat.reduceAdd,Nat.reduceSub,Int.reduceAdd,Int.reduceSub,Int.reduceToNat]
   refine al (qC) (hA) [] qM (by rfl) (ac 400 ?_)
   simp (disch:=omega) only [go_sem,Nat.reduceEqDiff,Nat.reduceAdd,Nat.reduceSub,Int.reduceAdd,Int.reduceSub,Int.reduceToNat]
   refine al (qC) (hC) (qI 0 21) qM (by rfl) (ac 400 ?_)
   simp (disch:=omega) only [go_sem,Nat.reduceEqDiff,Nat.reduceAdd,Nat.reduceSub,Int.reduceAdd,Int.reduceSub,Int.reduceToNat]
   refine al (qC) (hM) (qI 24 22) qM (by rfl) (ac 400 ?_)
   simp (disch:=omega) only [go_sem,Nat.reduceEqDiff,Nat.reduceAdd,Nat.reduceSub,Int.reduceAdd,Int.reduceSub,Int.reduceToNat]
   by_cases hz:c=0
   ·subst hz
    try simp (disch:=omega) only [go_sem,Nat.reduceEqDiff,Nat.reduceAdd,Nat.reduceSub,Int.reduceAdd,Int.reduceSub,Int.reduceToNat]
    refine ah (qI 0 21++qI 46 21) (qC) _ (by simp only [go_sem];rfl) (by rfl) (by rfl) ?_
    simp (disch:=omega) only [go_sem,Nat.reduceEqDiff,Nat.reduceAdd,Nat.reduceSub,Int.reduceAdd,Int.reduceSub,Int.reduceToNat]
   have hr:r=w:=by rcases hcode with h|h;exact absurd h hz;exact h
   subst hr
   try simp (disch:=omega) only [go_sem,Nat.reduceEqDiff,Nat.reduceAdd,Nat.reduceSub,Int.reduceAdd,Int.reduceSub,Int.reduceToNat]
   refine al (qC) (hC) (qI 0 21) qM (by rfl) (ac 400 ?_)
   simp (disch:=omega) only [go_sem,Nat.reduceEqDiff,Nat.reduceAdd,Nat.reduceSub,Int.reduceAdd,Int.reduceSub,Int.reduceToNat]
   refine ah (qI 0 21++qI 67 21) (qC) _ (by simp only [go_sem];rfl) (by rfl) (by rfl) ?_
   simp (disch:=omega) only [go_sem,Nat.reduceEqDiff,Nat.reduceAdd,Nat.reduceSub,Int.reduceAdd,Int.reduceSub,Int.reduceToNat]
  have hM:=zn w a hw hok h7
  have hcode:=zm w a
  rw [show ff w a=a_ w a from by rw [ff,if_pos hok,if_neg h7]]
  obtain⟨R,hR⟩:∃ R,R=a_ w a:=⟨_,rfl⟩
  rw [←hR] at hM hcode⊢
  clear hR
  obtain⟨r,c⟩:=R
  dsimp only at hM hcode⊢
  refine e_ Tryz.func28 (by kernel_rfl) rfl fun E hE=>ac 400 ?_
  simp (disch:=omega) only [Tryz.ntmps28,Tryz.results28,go_sem,Nat.reduceEqDiff,Nat.reduceAdd,Nat.reduceSub,Int.reduceAdd,Int.reduceSub,Int.reduceToNat]
  refine al (qC) (hA) [] qM (by rfl) (ac 400 ?_)
  simp (disch:=omega) only [go_sem,Nat.reduceEqDiff,Nat.reduceAdd,Nat.reduceSub,Int.reduceAdd,Int.reduceSub,Int.reduceToNat]
  refine al (qC) (hC) (qI 0 21) qM (by rfl) (ac 400 ?_)
  simp (disch:=omega) only [go_sem,Nat.reduceEqDiff,Nat.reduceAdd,Nat.reduceSub,Int.reduceAdd,Int.reduceSub,Int.reduceToNat]
  refine al (qC) (hM) (qI 24 22) qM (by rfl) (ac 400 ?_)
  simp (disch:=omega) only [go_sem,Nat.reduceEqDiff,Nat.reduceAdd,Nat.reduceSub,Int.reduceAdd,Int.reduceSub,Int.reduceToNat]
  by_cases hz:c=0
  ·subst hz
   try simp (disch:=omega) only [go_sem,Nat.reduceEqDiff,Nat.reduceAdd,Nat.reduceSub,Int.reduceAdd,Int.reduceSub,Int.reduceToNat]
   refine ah (qI 0 21++qI 46 21) (qC) _ (by simp only [go_sem];rfl) (by rfl) (by rfl) ?_
   simp (disch:=omega) only [go_sem,Nat.reduceEqDiff,Nat.reduceAdd,Nat.reduceSub,Int.reduceAdd,Int.reduceSub,Int.reduceToNat]
  have hr:r=w:=by rcases hcode with h|h;exact absurd h hz;exact h
  subst hr
  try simp (disch:=omega) only [go_sem,Nat.reduceEqDiff,Nat.reduceAdd,Nat.reduceSub,Int.reduceAdd,Int.reduceSub,Int.reduceToNat]
  refine al (qC) (hC) (qI 0 21) qM (by rfl) (ac 400 ?_)
  simp (disch:=omega) only [go_sem,Nat.reduceEqDiff,Nat.reduceAdd,Nat.reduceSub,Int.reduceAdd,Int.reduceSub,Int.reduceToNat]
  refine ah (qI 0 21++qI 67 21) (qC) _ (by simp only [go_sem];rfl) (by rfl) (by rfl) ?_
  simp (disch:=omega) only [go_sem,Nat.reduceEqDiff,Nat.reduceAdd,Nat.reduceSub,Int.reduceAdd,Int.reduceSub,Int.reduceToNat]
theorem Bj (w:WorldD) (a:ActD) (hw:SmallD w):ae Tryz.prog 25 [.ag (w.cs 0),.ag a.cs] (w.hp false) (.tu [.ag ((ff w a).1.cs 21),.sc (.int .i64 (ff w a).2)]) (w.hp false++(ff w a).1.hp true):=by
 have hC:=ib w hw.p.s
 have hA:=zp a
 have hI:=aM a.kind 1 7
 cases hok:fe a with
 |false=>
  rw [show ff w a=(w,3) from by rw [ff,if_neg (by simp [hok])]]
  rw [hok] at hA
  dsimp only
  refine qE Tryz.func25 Tryz.ntmps25 Tryz.results25 fun E hE=>?_
  refine qK (hC) (qI 0 21) ?_
  refine qK (hA) [] ?_
  exact qF (qI 0 21++qI 24 21)
 |true=>
  rw [hok] at hA
  obtain⟨k1,k2,k3,k4,k5,k6⟩:=fN hok
  by_cases h7:a.kind≤7
  ·rw [show ff w a=db w a from by rw [ff,if_pos hok,if_pos h7]]
   have hin:cr a.kind 1 7=true:=by simp only [cr,Bool.and_eq_true,decide_eq_true_eq];omega
   rw [hin] at hI
   by_cases hb:cC w a=true
   ·have hQ:=wI w a hw hok hb
    rw [yj hb]
    dsimp only
    refine qE Tryz.func25 Tryz.ntmps25 Tryz.results25 fun E hE=>?_
    refine qK (hC) (qI 0 21) ?_
    refine qK (hA) [] ?_
    refine qK (hI) [] ?_
    refine qK (hQ) (qI 24 21) ?_
    exact qF (qI 0 21++qI 45 21)
   have hQ:=yk w a hw hok h7 hb
   obtain⟨R,hR⟩:∃ R,R=db w a:=⟨_,rfl⟩
   rw [←hR] at hQ⊢
   clear hR
   obtain⟨r,c⟩:=R
   dsimp only at hQ⊢
   refine qE Tryz.func25 Tryz.ntmps25 Tryz.results25 fun E hE=>?_
   refine qK (hC) (qI 0 21) ?_
   refine qK (hA) [] ?_
   refine qK (hI) [] ?_
   refine qK (hQ) (qI 24 21) ?_
   exact qF (qI 0 21++qI 45 21)
  rw [show ff w a=a_ w a from by rw [ff,if_pos hok,if_neg h7]]
  have hin:cr a.kind 1 7=false:=by simp only [cr,Bool.and_eq_false_iff,decide_eq_false_iff_not];omega
  rw [hin] at hI
  by_cases h10:a.kind≤10
  ·have hQ:=yl w a hw hok h7 h10
   obtain⟨R,hR⟩:∃ R,R=a_ w a:=⟨_,rfl⟩
   rw [←hR] at hQ⊢
   clear hR
   obtain⟨r,c⟩:=R
   dsimp only at hQ⊢
   refine qE Tryz.func25 Tryz.ntmps25 Tryz.results25 fun E hE=>?_
   refine qK (hC) (qI 0 21) ?_
   refine qK (hA) [] ?_
   refine qK (hI) [] ?_
   refine qK (hQ) (qI 24 21) ?_
   exact qF (qI 0 21++qI 46 21)
  obtain⟨kind,side,pos,many,text,ad,le⟩:=a
  dsimp only at*
  have hbag:=hw.p.s.bag
  have hpast:=hw.p.s.past
  have hk:kind=11∨kind=12:=by omega
  clear h7 h10 k1 k2 hok
  rcases hk with rfl|rfl
  ·have hM:=sh w le hw.p.s.keys hw.p.s.tags hw.p.s.nums
   cases hm:dV w le with
   |false=>
    rw [E8 hm]
    rw [hm] at hM
    dsimp only
    refine qE Tryz.func25 Tryz.ntmps25 Tryz.results25 fun E hE=>?_
    refine qK (hC) (qI 0 21) ?_
    refine qK (hA) [] ?_
    refine qK (hI) [] ?_
    refine qK (hM) (qI 24 21) ?_
    exact qF (qI 0 21++qI 24 21)
   |true=>
    rw [hm] at hM
    by_cases h4:40≤w.bag.length
    ·rw [E9 hm h4]
     dsimp only
     refine qE Tryz.func25 Tryz.ntmps25 Tryz.results25 fun E hE=>?_
     refine qK (hC) (qI 0 21) ?_
     refine qK (hA) [] ?_
     refine qK (hI) [] ?_
     refine qK (hM) (qI 24 21) ?_
     exact qF (qI 0 21++qI 24 21)
    rw [E_ hm h4]
    dsimp only
    refine qE Tryz.func25 Tryz.ntmps25 Tryz.results25 fun E hE=>?_
    refine qK (hC) (qI 0 21) ?_
    refine qK (hA) [] ?_
    refine qK (hI) [] ?_
    refine qK (hM) (qI 24 21) ?_
    refine qJ (qI 0 21++qI 24 14++qI 47 1++qI 39 6) ?_
    simp [LetterD.cs]
  obtain⟨p,rfl⟩:=Int.eq_ofNat_of_zero_le k5
  by_cases hp:p < w.past.length
  ·have hx:=ao (enc:=LetterD.cs) hp
   have hq1:= @Fb w side many p text ad le hp
   have hq2:= @Fc w side many p text ad le hp
   obtain⟨R,hR⟩:∃ R,R=a_ w ⟨12,side,(p:Nat),many,text,ad,le⟩:=⟨_,rfl⟩
   change _=a_ w _ at hR
   rw [←hR] at hq1 hq2
   try rw [←hR]
   clear hR
   generalize hxx:w.past[p]=x at*
   have hS:=dD x.to
   generalize aZ x.to=sd at*
   by_cases h0:sd=0
   ·rw [hq1 (.inl h0)]
    dsimp only
    refine qE Tryz.func25 Tryz.ntmps25 Tryz.results25 fun E hE=>?_
    refine qK (hC) (qI 0 21) ?_
    refine qK (hA) [] ?_
    refine qK (hI) [] ?_
    try simp (disch:=omega) only [go_sem,seval,hx,hxx]
    refine qK (hS) [] ?_
    exact qF (qI 0 21++qI 24 21)
   by_cases h4:40≤w.bag.length
   ·rw [hq1 (.inr h4)]
    dsimp only
    refine qE Tryz.func25 Tryz.ntmps25 Tryz.results25 fun E hE=>?_
    refine qK (hC) (qI 0 21) ?_
    refine qK (hA) [] ?_
    refine qK (hI) [] ?_
    try simp (disch:=omega) only [go_sem,seval,hx,hxx]
    refine qK (hS) [] ?_
    exact qF (qI 0 21++qI 24 21)
   rw [hq2 h0 h4]
   dsimp only
   refine qE Tryz.func25 Tryz.ntmps25 Tryz.results25 fun E hE=>?_
   refine qK (hC) (qI 0 21) ?_
   refine qK (hA) [] ?_
   refine qK (hI) [] ?_
   try simp (disch:=omega) only [go_sem,seval,hx,hxx]
   refine qK (hS) [] ?_
   refine qX ?_
   refine qJ (qI 0 21++qI 24 14++qI 47 1++qI 39 6) ?_
   simp [LetterD.cs]
  rw [Fa hp]
  dsimp only
  refine qE Tryz.func25 Tryz.ntmps25 Tryz.results25 fun E hE=>?_
  refine qK (hC) (qI 0 21) ?_
  refine qK (hA) [] ?_
  refine qK (hI) [] ?_
  exact qF (qI 0 21++qI 24 21)
end
section
open Go.RowKit
theorem GoodE.io {e e':EndD} (h:GoodE e) (hs:Small e') (hi:e'.inp=e.inp) (ho:e'.out.text=e.out.text):GoodE e':=⟨hs,by rw [hi];exact h.p,by rw [ho];exact h.o⟩
theorem aaA {k:Nat} {e:EndD} (h:GoodE e):GoodE (dU k e).1:=h.io (i3 h.s) w4 t8
theorem aaM (e:EndD) (t:List UInt8):(cp e t).1.inp=e.inp:=by rw [cp];split<;>rfl
theorem aad {e:EndD} {t:List UInt8} (h:GoodE e):GoodE (aS e t).1:=by
 rw [aS]
 exact aaA ⟨yg h.s,by rw [aaM];exact h.p,jW h.o⟩
theorem aaB {p:PiecesD} {m:Int} (h:SmallP p):SmallP (cz p m).1:=by
 rw [cz];split
 ·exact⟨h.list,by have:=h.ready;simp only [List.length_drop];omega,h.texts⟩
 exact h
theorem aaC {e:EndD} {m:Int} (h:GoodE e):GoodE (bu e m).1:=by
 have hs:=gP (m:=m) h.s
 rw [bu] at hs⊢;split at hs
 ·rename_i hk;rw [if_pos hk];exact⟨hs,aaB h.p,h.o⟩
 rename_i hk;rw [if_neg hk];exact h
theorem aah (o:OutD):(fu o).text=o.text:=by rw [fu];split<;>rfl
theorem aaN {e:EndD} (h:GoodE e):GoodE (dt e).1:=by
 have hs:=iH h.s
 refine h.io hs ?_ ?_
 ·rw [dt];split
  ·split
   ·rw [ea];exact w4
   rw [ea];exact w4
  rfl
 rw [dt];split
 ·split
  ·rw [ea];exact t8.trans (aah _)
  rw [ea];exact t8.trans (aah _)
 rfl
theorem aa6 (e:EndD) (r:RoadD) (b:Bool):(gw e r b).1.inp=e.inp∧(gw e r b).1.out=e.out:=by rw [gw];split<;>exact⟨rfl,rfl⟩
theorem aap {far:List AddrD}:∀ {l:List RoadD} {e:EndD},(gY far e l).1.inp=e.inp∧(gY far e l).1.out=e.out
 |[],e=>⟨rfl,rfl⟩
 |r::l,e=>by
  have h1:=aa6 e r (bS far r.far)
  have h2:=aap (far:=far) (l:=l) (e:=(gw e r (bS far r.far)).1)
  exact⟨h2.1.trans h1.1,h2.2.trans h1.2⟩
theorem aaq {e:EndD} (h:GoodE e):GoodE (bs e).1:=by
 have hs:=f9 h.s
 have hio:(bs e).1.inp=e.inp∧(bs e).1.out=e.out:=by
  rw [bs];split
  ·exact aap
  exact⟨rfl,rfl⟩
 exact h.io hs hio.1 (by rw [hio.2])
theorem aar {e:EndD} {a:AddrD} (h:GoodE e):GoodE (aB e a).1:=by
 refine h.io (df h.s) ?_ ?_<;>(rw [aB];split<;>rfl)
theorem aas {e:EndD} {k:Int} (h:GoodE e):GoodE (br e k).1:=by
 refine h.io (f8 h.s) ?_ ?_<;>(rw [br];split<;>rfl)
theorem aal {e:EndD} {n:Int} (h:GoodE e):GoodE (bb e n).1:=by
 refine h.io (fg h.s) ?_ ?_<;>(rw [bb];split<;>rfl)
theorem aaO {e:EndD} {a:ActD} (h:GoodE e):GoodE (j5 e a).1:=by
 rw [j5]
 split
 ·exact aad h
 split
 ·exact aaC h
 split
 ·exact aaN h
 split
 ·exact aaq h
 split
 ·exact aar h
 split
 ·exact aal h
 exact aas h
structure GoodW (w:WorldD) (k:Nat):Prop where
 a:GoodE w.a
 b:GoodE w.b
 r:SmallP2 w
 wa:w.wroteA.length≤2000000*k
 wb:w.wroteB.length≤2000000*k
 ra:w.readA.length≤2000000*k
 rb:w.readB.length≤2000000*k
theorem GoodW.s {w:WorldD} {k:Nat} (h:GoodW w k):SmallW w:=⟨h.a.s,h.b.s,h.r.bag,h.r.past,h.r.keys,h.r.tags,h.r.nums,h.r.ansA,h.r.ansB⟩
theorem GoodW.d {w:WorldD} {k:Nat} (h:GoodW w k) (hk:k≤1000):SmallD w:=
 ⟨⟨h.s,h.a.p,h.b.p⟩,⟨by have:=h.wa;omega,by have:=h.wb;omega,by have:=h.ra;omega,by have:=h.rb;omega⟩,h.a.o,h.b.o⟩
theorem GoodW.up {w:WorldD} {k:Nat} (h:GoodW w k):GoodW w (k+1):=⟨h.a,h.b,h.r,by have:=h.wa;omega,by have:=h.wb;omega,by have:=h.ra;omega,by have:=h.rb;omega⟩
theorem ZS {side:Int}:∀ {l:List LetterD} {w:WorldD},(aq side w l).a=w.a∧(aq side w l).b=w.b∧(aq side w l).wroteA=w.wroteA∧(aq side w l).wroteB=w.wroteB∧(aq side w l).readA=w.readA∧(aq side w l).readB=w.readB
 |[],w=>⟨rfl,rfl,rfl,rfl,rfl,rfl⟩
 |x::l,w=>by
  obtain⟨h1,h2,h3,h4,h5,h6⟩:=ZS (side:=side) (l:=l) (w:=c_ side w x)
  obtain⟨g1,g2,g3,g4,g5,g6⟩:=ze (side:=side) (w:=w) (x:=x)
  exact⟨h1.trans g1,h2.trans g2,h3.trans g3,h4.trans g4,h5.trans g5,h6.trans g6⟩
theorem Z5 {side:Int} {l:List LetterD} {w:WorldD} {k:Nat} (h:GoodW w k):GoodW (aq side w l) k:=by
 obtain⟨h1,h2,h3,h4,h5,h6⟩:=ZS (side:=side) (l:=l) (w:=w)
 exact⟨by rw [h1];exact h.a,by rw [h2];exact h.b,oS h.r,by rw [h3];exact h.wa,by rw [h4];exact h.wb,by rw [h5];exact h.ra,by rw [h6];exact h.rb⟩
theorem ZT {w:WorldD} {s:Int} {e:EndD} {k:Nat} (h:GoodW w k) (he:GoodE e):GoodW (el w s e) k:=by
 unfold el;split
 ·exact⟨he,h.b,⟨h.r.bag,h.r.past,h.r.keys,h.r.tags,h.r.nums,h.r.ansA,h.r.ansB⟩,h.wa,h.wb,h.ra,h.rb⟩
 exact⟨h.a,he,⟨h.r.bag,h.r.past,h.r.keys,h.r.tags,h.r.nums,h.r.ansA,h.r.ansB⟩,h.wa,h.wb,h.ra,h.rb⟩
theorem aam:GoodE pu:=⟨⟨by decide,by decide,by decide,by decide,by decide,by decide,by decide⟩,⟨by decide,by decide,fun x hx=>by simp [pu] at hx⟩,by decide⟩
theorem w6 {w:WorldD} {s:Int} {k:Nat} (h:GoodW w k):GoodE (cG w s):=by
 unfold cG;repeat' split
 ·exact h.a
 ·exact h.b
 exact aam
theorem aat {side:Int} {l:List LetterD} {w:WorldD} {k:Nat} (h:GoodW w k):GoodW (TX w side l) k:=by
 rw [TX];split
 ·exact Z5 h
 exact h
theorem aaD {w:WorldD} {x:LetterD} {k:Nat} (h:GoodW w k):GoodW (gN w x) k:=by
 rw [gN];split
 ·exact h
 exact aat (ZT h (aaL (w6 h)))
theorem Z6 {w:WorldD} {b:List LetterD} {k:Nat} (h:GoodW w k) (hb:b.length≤1048576):GoodW { w with bag:=b } k:=
 ⟨h.a,h.b,⟨hb,h.r.past,h.r.keys,h.r.tags,h.r.nums,h.r.ansA,h.r.ansB⟩,h.wa,h.wb,h.ra,h.rb⟩
theorem aaE (l:List LetterD) (n:Int) (h:l.length≤1048576):(gU l n).length≤1048576:=by
 simp only [gU,List.length_append,List.length_take,List.length_drop];omega
theorem aaP {w:WorldD} {a:ActD} {k:Nat} (h:GoodW w k) (ha:a.text.length≤1048576):GoodW (kE w a) (k+1):=by
 have hr:=lf (m:=a.many) (w6 (s:=a.side) h).p
 have h1:=h.wa
 have h2:=h.wb
 have h3:=h.ra
 have h4:=h.rb
 have hu:=h.up
 unfold kE e8 cF;repeat' split
 ·exact⟨h.a,h.b,⟨h.r.bag,h.r.past,h.r.keys,h.r.tags,h.r.nums,h.r.ansA,h.r.ansB⟩,by simp only [List.length_append,List.length_take];omega,hu.wb,hu.ra,hu.rb⟩
 ·exact⟨h.a,h.b,⟨h.r.bag,h.r.past,h.r.keys,h.r.tags,h.r.nums,h.r.ansA,h.r.ansB⟩,hu.wa,by simp only [List.length_append,List.length_take];omega,hu.ra,hu.rb⟩
 ·exact⟨h.a,h.b,⟨h.r.bag,h.r.past,h.r.keys,h.r.tags,h.r.nums,h.r.ansA,h.r.ansB⟩,hu.wa,hu.wb,by simp only [List.length_append];omega,hu.rb⟩
 ·exact⟨h.a,h.b,⟨h.r.bag,h.r.past,h.r.keys,h.r.tags,h.r.nums,h.r.ansA,h.r.ansB⟩,hu.wa,hu.wb,hu.ra,by simp only [List.length_append];omega⟩
 exact hu
theorem w7 {w:WorldD} {a:ActD} {k:Nat} (h:GoodW w k) (ha:a.text.length≤1048576):GoodW (ff w a).1 (k+1):=by
 have hb:=aaE w.bag a.pos h.r.bag
 have hl:=h.r.bag
 unfold ff;split
 ·split
  ·unfold db;split
   ·exact h.up
   exact Z5 (ZT (aaP h ha) (aaO (w6 h)))
  unfold a_;repeat' split
  all_goals first
   |exact h.up
   |exact (aaD (Z6 h hb)).up
   |exact (Z6 h hb).up
   |exact (Z6 h (by simp only [List.length_append,List.length_singleton];omega)).up
 exact h.up
end
end Go.Proofs.YtbgakfbnkkfbkaaGreat
