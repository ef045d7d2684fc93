/-
  Texts merged for this claim by shake.py: what its proof needs.
-/
import Derived.Tactics
import Derived.Below
import Derived.Laws.AppendOwn
import Derived.Laws.OwnMore
import Derived.Laws.Slices
import Derived.Laws.Small
import Derived.Laws.Strings
import Derived.KernelRfl
import Derived.Laws.MakeOwn
import Derived.Laws.BytesString
import Derived.Laws.BytesArg
import Derived.Laws.Build
import Derived.Laws.Concat
import Derived.Laws.StructEq
import Derived.Lib.ConvBytes
import Derived.Orders
import Derived.WalkKit
import Derived.ProofKit
import Derived.ShutString
import Derived.OpenShut
import Derived.ChangeOld
import Derived.Carry
import Derived.Test.YtbgakfbnkkfbkaaGreatChecked
import Derived.Laws.BitsLemmas
import Derived.JoinedOf
import Derived.Test.YtbgakfbnkkfbkaaGreatRows
import Derived.Test.YtbgakfbnkkfbkaaGreatZFnExactDoneE
set_option maxHeartbeats 16000000
set_option maxRecDepth 100000
set_option linter.unusedVariables false
set_option linter.unusedSimpArgs false
namespace Go.Proofs.YtbgakfbnkkfbkaaGreat
section
open Go.RowKit
theorem tE (w:WorldD) (pos many:Int) (text:List UInt8) (ad:AddrD) (le:LetterD) (hw:SmallD w) (hbad:¬ aZ ad.addr=1∨(aB w.a ad).2=false):
  ae Tryz.prog 68 [.sc (.pt 21 0 0),.ag (ActD.cs ⟨5,1,pos,many,text,ad,le⟩)] (w.hp true++[some ⟨[w.cs 0],61,51,true,false⟩]) (.sc (.int .i64 1))
  ([none,none,none,none,none,none,none,none,none,none,none,none,none,none,none,none,none,none,none,none,none,some ⟨[WorldD.cs w 22],61,51,true,false⟩]++WorldD.hp w true):=by
 have hX:=i4 w.a ad hw.p.s.a
 have hsm:=df (a:=ad) hw.p.s.a
 have hEA:ae Tryz.prog 144 [.ag (w.cs 0),.sc (.int .i64 1)] (w.hp false) (.ag (w.a.cs 21)) (w.hp false++w.a.hp true):=bF w 1 hw.p.s.a.own hw.p.s.a.far hw.p.s.a.subs hw.p.s.a.halfs hw.p.s.a.list hw.p.s.a.done hw.p.s.a.over hw.p.s.b.own hw.p.s.b.far hw.p.s.b.subs hw.p.s.b.halfs hw.p.s.b.list hw.p.s.b.done hw.p.s.b.over
 obtain⟨pr,hpr⟩:∃ p,p=aB w.a ad:=⟨_,rfl⟩
 rw [←hpr] at hX hsm hbad
 obtain⟨e1,ok1⟩:=pr
 dsimp only at hX hsm hbad
 have hSd:=dC ad.addr
 generalize aZ ad.addr=sd at*
 refine aN Tryz.func68 (by kernel_rfl) rfl fun E hE=>ac 400 ?_
 simp (disch:=omega) only [Tryz.ntmps68,Tryz.results68,go_sem,Nat.reduceEqDiff,Nat.reduceAdd,Nat.reduceSub,Int.reduceAdd,Int.reduceSub,Int.reduceToNat]
 refine aI [(5,6)] [] [(qU [0,8]),[0,1,2,3,4,6,5,7]] 22 hE (fun s=>s.at (qU [13,6]) [(5,.sc (.pt 30 0 0))] (s.hp++(w.a.hp true++[some ⟨[w.a.cs 23],25,45,true,false⟩]))) (by kernel_rfl) (qC) (by kernel_rfl) ?_ (ac 400 ?_)
 rotate_left
 rotate_right
 simp only [aQ]
 refine⟨aa 400 ?_,aa 400 ?_⟩
 ·simp (disch:=omega) only [go_sem]
  refine am (qC) (hEA) (qI 0 21) qM (by rfl) (by rfl) (aa 400 ?_)
  simp (disch:=omega) only [go_sem,Nat.reduceEqDiff,Nat.reduceAdd,Nat.reduceSub,Int.reduceAdd,Int.reduceSub,Int.reduceToNat]
  refine⟨qC,(qI 0 31),ab (by rfl) (by rfl) ?_⟩
  try simp (disch:=omega) only [go_sem,Nat.reduceEqDiff,Nat.reduceAdd,Nat.reduceSub,Int.reduceAdd,Int.reduceSub,Int.reduceToNat]
 ·simp (disch:=omega) only [go_sem]
  refine am (qC) (hEA) (qI 0 21) qM (by rfl) (by rfl) (aa 400 ?_)
  simp (disch:=omega) only [go_sem,Nat.reduceEqDiff,Nat.reduceAdd,Nat.reduceSub,Int.reduceAdd,Int.reduceSub,Int.reduceToNat]
  refine⟨qC,(qI 0 23++qI 24 7++qI 23 1),ab (by rfl) (by rfl) ?_⟩
  try simp (disch:=omega) only [go_sem,Nat.reduceEqDiff,Nat.reduceAdd,Nat.reduceSub,Int.reduceAdd,Int.reduceSub,Int.reduceToNat]
 try simp (disch:=omega) only [go_sem,Nat.reduceEqDiff,Nat.reduceAdd,Nat.reduceSub,Int.reduceAdd,Int.reduceSub,Int.reduceToNat]
 refine al (qC) (hX) (qI 23 7) qM (by rfl) (ac 400 ?_)
 simp (disch:=omega) only [go_sem,Nat.reduceEqDiff,Nat.reduceAdd,Nat.reduceSub,Int.reduceAdd,Int.reduceSub,Int.reduceToNat]
 by_cases h0:sd=1
 ·subst h0
  have hb:ok1=false:=by rcases hbad with h|h;exact absurd rfl h;exact h
  subst hb
  refine ar (qU [0,3,4,2,3,1,6,5]) (by kernel_rfl) (qC) (by kernel_rfl) (aa 400 ?_)
  simp (disch:=omega) only [go_sem,Nat.reduceEqDiff,Nat.reduceAdd,Nat.reduceSub,Int.reduceAdd,Int.reduceSub,Int.reduceToNat]
  refine am (qC) (hSd) [] qM (by rfl) (by rfl) (aa 400 ?_)
  simp (disch:=omega) only [go_sem,Nat.reduceEqDiff,Nat.reduceAdd,Nat.reduceSub,Int.reduceAdd,Int.reduceSub,Int.reduceToNat]
  refine⟨qC,ac 400 ?_⟩
  try simp (disch:=omega) only [go_sem,Nat.reduceEqDiff,Nat.reduceAdd,Nat.reduceSub,Int.reduceAdd,Int.reduceSub,Int.reduceToNat]
  refine aA (qI 0 22++qI 0 21) (qC) _ (by simp only [go_sem];rfl) (by rfl) (by rfl) ?_
  simp (disch:=omega) only [go_sem,Nat.reduceEqDiff,Nat.reduceAdd,Nat.reduceSub,Int.reduceAdd,Int.reduceSub,Int.reduceToNat]
 refine ar (qU [0,3,4,2,3,1,6,5]) (by kernel_rfl) (qC) (by kernel_rfl) (aa 400 ?_)
 simp (disch:=omega) only [go_sem,Nat.reduceEqDiff,Nat.reduceAdd,Nat.reduceSub,Int.reduceAdd,Int.reduceSub,Int.reduceToNat]
 refine am (qC) (hSd) [] qM (by rfl) (by rfl) (aa 400 ?_)
 simp (disch:=omega) only [go_sem,Nat.reduceEqDiff,Nat.reduceAdd,Nat.reduceSub,Int.reduceAdd,Int.reduceSub,Int.reduceToNat]
 refine⟨qC,ac 400 ?_⟩
 try simp (disch:=omega) only [go_sem,Nat.reduceEqDiff,Nat.reduceAdd,Nat.reduceSub,Int.reduceAdd,Int.reduceSub,Int.reduceToNat]
 refine aA (qI 0 22++qI 0 21) (qC) _ (by simp only [go_sem];rfl) (by rfl) (by rfl) ?_
 simp (disch:=omega) only [go_sem,Nat.reduceEqDiff,Nat.reduceAdd,Nat.reduceSub,Int.reduceAdd,Int.reduceSub,Int.reduceToNat]
theorem ph (w:WorldD) (pos many:Int) (text:List UInt8) (ad:AddrD) (le:LetterD) (hw:SmallD w) (hbad:¬ aZ ad.addr=1∨(aB w.a ad).2=false):
  ae Tryz.prog 56 [.ag (w.cs 0),.ag (ActD.cs ⟨5,1,pos,many,text,ad,le⟩)] (w.hp true) (.tu [.ag (WorldD.cs w 21),.sc (.int .i64 1)]) ([none,none,none,none,none,none,none,none,none,none,none,none,none,none,none,none,none,none,none,none,none]++WorldD.hp w true):=by
 have hX:=i5 w.a ad hw.p.s.a
 have hsm:=df (a:=ad) hw.p.s.a
 have hEA:ae Tryz.prog 113 [.ag (w.cs 0),.sc (.int .i64 1)] (w.hp false) (.ag (w.a.cs 21)) (w.hp false++w.a.hp true):=bG w 1 hw.p.s.a.own hw.p.s.a.far hw.p.s.a.subs hw.p.s.a.halfs hw.p.s.a.list hw.p.s.a.done hw.p.s.a.over hw.p.s.b.own hw.p.s.b.far hw.p.s.b.subs hw.p.s.b.halfs hw.p.s.b.list hw.p.s.b.done hw.p.s.b.over
 obtain⟨pr,hpr⟩:∃ p,p=aB w.a ad:=⟨_,rfl⟩
 rw [←hpr] at hX hsm hbad
 obtain⟨e1,ok1⟩:=pr
 dsimp only at hX hsm hbad
 have hSd:=dD ad.addr
 generalize aZ ad.addr=sd at*
 refine ga Tryz.func56 Tryz.ntmps56 Tryz.results56 fun E hE=>?_
 refine qK (hEA) (qI 0 21) ?_
 refine qK (hX) (qI 24 7) ?_
 cases ok1 with
 |false=>
  refine qD [0,1,2,3,4,5,7,8,6,9,10] ?_
  refine qG ?_
  exact cc (qI 0 21++qI 0 21)
 |true=>
  have h0:¬ sd=1:=by rcases hbad with h|h;exact h;exact absurd h (by simp)
  refine qD [0,1,2,3,4,5,7,8,6,9,10] ?_
  refine az (hSd) [] ?_
  refine qG ?_
  exact cc (qI 0 21++qI 0 21)
theorem tF (w:WorldD) (pos many:Int) (text:List UInt8) (ad:AddrD) (le:LetterD) (hw:SmallD w) (hbad:¬ aZ ad.addr=2∨(aB w.b ad).2=false):
  ae Tryz.prog 68 [.sc (.pt 21 0 0),.ag (ActD.cs ⟨5,2,pos,many,text,ad,le⟩)] (w.hp true++[some ⟨[w.cs 0],61,51,true,false⟩]) (.sc (.int .i64 1))
  ([none,none,none,none,none,none,none,none,none,none,none,none,none,none,none,none,none,none,none,none,none,some ⟨[WorldD.cs w 22],61,51,true,false⟩]++WorldD.hp w true):=by
 have hX:=i4 w.b ad hw.p.s.b
 have hsm:=df (a:=ad) hw.p.s.b
 have hEA:ae Tryz.prog 144 [.ag (w.cs 0),.sc (.int .i64 2)] (w.hp false) (.ag (w.b.cs 21)) (w.hp false++w.b.hp true):=bF w 2 hw.p.s.a.own hw.p.s.a.far hw.p.s.a.subs hw.p.s.a.halfs hw.p.s.a.list hw.p.s.a.done hw.p.s.a.over hw.p.s.b.own hw.p.s.b.far hw.p.s.b.subs hw.p.s.b.halfs hw.p.s.b.list hw.p.s.b.done hw.p.s.b.over
 obtain⟨pr,hpr⟩:∃ p,p=aB w.b ad:=⟨_,rfl⟩
 rw [←hpr] at hX hsm hbad
 obtain⟨e1,ok1⟩:=pr
 dsimp only at hX hsm hbad
 have hSd:=dC ad.addr
 generalize aZ ad.addr=sd at*
 refine aN Tryz.func68 (by kernel_rfl) rfl fun E hE=>ac 400 ?_
 simp (disch:=omega) only [Tryz.ntmps68,Tryz.results68,go_sem,Nat.reduceEqDiff,Nat.reduceAdd,Nat.reduceSub,Int.reduceAdd,Int.reduceSub,Int.reduceToNat]
 refine aI [(5,6)] [] [(qU [0,8]),[0,1,2,3,4,6,5,7]] 22 hE (fun s=>s.at (qU [13,6]) [(5,.sc (.pt 30 0 0))] (s.hp++(w.b.hp true++[some ⟨[w.b.cs 23],25,45,true,false⟩]))) (by kernel_rfl) (qC) (by kernel_rfl) ?_ (ac 400 ?_)
 rotate_left
 rotate_right
 simp only [aQ]
 refine⟨aa 400 ?_,aa 400 ?_⟩
 ·simp (disch:=omega) only [go_sem]
  refine am (qC) (hEA) (qI 0 21) qM (by rfl) (by rfl) (aa 400 ?_)
  simp (disch:=omega) only [go_sem,Nat.reduceEqDiff,Nat.reduceAdd,Nat.reduceSub,Int.reduceAdd,Int.reduceSub,Int.reduceToNat]
  refine⟨qC,(qI 0 31),ab (by rfl) (by rfl) ?_⟩
  try simp (disch:=omega) only [go_sem,Nat.reduceEqDiff,Nat.reduceAdd,Nat.reduceSub,Int.reduceAdd,Int.reduceSub,Int.reduceToNat]
 ·simp (disch:=omega) only [go_sem]
  refine am (qC) (hEA) (qI 0 21) qM (by rfl) (by rfl) (aa 400 ?_)
  simp (disch:=omega) only [go_sem,Nat.reduceEqDiff,Nat.reduceAdd,Nat.reduceSub,Int.reduceAdd,Int.reduceSub,Int.reduceToNat]
  refine⟨qC,(qI 0 23++qI 24 7++qI 23 1),ab (by rfl) (by rfl) ?_⟩
  try simp (disch:=omega) only [go_sem,Nat.reduceEqDiff,Nat.reduceAdd,Nat.reduceSub,Int.reduceAdd,Int.reduceSub,Int.reduceToNat]
 try simp (disch:=omega) only [go_sem,Nat.reduceEqDiff,Nat.reduceAdd,Nat.reduceSub,Int.reduceAdd,Int.reduceSub,Int.reduceToNat]
 refine al (qC) (hX) (qI 23 7) qM (by rfl) (ac 400 ?_)
 simp (disch:=omega) only [go_sem,Nat.reduceEqDiff,Nat.reduceAdd,Nat.reduceSub,Int.reduceAdd,Int.reduceSub,Int.reduceToNat]
 by_cases h0:sd=2
 ·subst h0
  have hb:ok1=false:=by rcases hbad with h|h;exact absurd rfl h;exact h
  subst hb
  refine ar (qU [0,3,4,2,3,1,6,5]) (by kernel_rfl) (qC) (by kernel_rfl) (aa 400 ?_)
  simp (disch:=omega) only [go_sem,Nat.reduceEqDiff,Nat.reduceAdd,Nat.reduceSub,Int.reduceAdd,Int.reduceSub,Int.reduceToNat]
  refine am (qC) (hSd) [] qM (by rfl) (by rfl) (aa 400 ?_)
  simp (disch:=omega) only [go_sem,Nat.reduceEqDiff,Nat.reduceAdd,Nat.reduceSub,Int.reduceAdd,Int.reduceSub,Int.reduceToNat]
  refine⟨qC,ac 400 ?_⟩
  try simp (disch:=omega) only [go_sem,Nat.reduceEqDiff,Nat.reduceAdd,Nat.reduceSub,Int.reduceAdd,Int.reduceSub,Int.reduceToNat]
  refine aA (qI 0 22++qI 0 21) (qC) _ (by simp only [go_sem];rfl) (by rfl) (by rfl) ?_
  simp (disch:=omega) only [go_sem,Nat.reduceEqDiff,Nat.reduceAdd,Nat.reduceSub,Int.reduceAdd,Int.reduceSub,Int.reduceToNat]
 refine ar (qU [0,3,4,2,3,1,6,5]) (by kernel_rfl) (qC) (by kernel_rfl) (aa 400 ?_)
 simp (disch:=omega) only [go_sem,Nat.reduceEqDiff,Nat.reduceAdd,Nat.reduceSub,Int.reduceAdd,Int.reduceSub,Int.reduceToNat]
 refine am (qC) (hSd) [] qM (by rfl) (by rfl) (aa 400 ?_)
 simp (disch:=omega) only [go_sem,Nat.reduceEqDiff,Nat.reduceAdd,Nat.reduceSub,Int.reduceAdd,Int.reduceSub,Int.reduceToNat]
 refine⟨qC,ac 400 ?_⟩
 try simp (disch:=omega) only [go_sem,Nat.reduceEqDiff,Nat.reduceAdd,Nat.reduceSub,Int.reduceAdd,Int.reduceSub,Int.reduceToNat]
 refine aA (qI 0 22++qI 0 21) (qC) _ (by simp only [go_sem];rfl) (by rfl) (by rfl) ?_
 simp (disch:=omega) only [go_sem,Nat.reduceEqDiff,Nat.reduceAdd,Nat.reduceSub,Int.reduceAdd,Int.reduceSub,Int.reduceToNat]
theorem pi (w:WorldD) (pos many:Int) (text:List UInt8) (ad:AddrD) (le:LetterD) (hw:SmallD w) (hbad:¬ aZ ad.addr=2∨(aB w.b ad).2=false):
  ae Tryz.prog 56 [.ag (w.cs 0),.ag (ActD.cs ⟨5,2,pos,many,text,ad,le⟩)] (w.hp true) (.tu [.ag (WorldD.cs w 21),.sc (.int .i64 1)]) ([none,none,none,none,none,none,none,none,none,none,none,none,none,none,none,none,none,none,none,none,none]++WorldD.hp w true):=by
 have hX:=i5 w.b ad hw.p.s.b
 have hsm:=df (a:=ad) hw.p.s.b
 have hEA:ae Tryz.prog 113 [.ag (w.cs 0),.sc (.int .i64 2)] (w.hp false) (.ag (w.b.cs 21)) (w.hp false++w.b.hp true):=bG w 2 hw.p.s.a.own hw.p.s.a.far hw.p.s.a.subs hw.p.s.a.halfs hw.p.s.a.list hw.p.s.a.done hw.p.s.a.over hw.p.s.b.own hw.p.s.b.far hw.p.s.b.subs hw.p.s.b.halfs hw.p.s.b.list hw.p.s.b.done hw.p.s.b.over
 obtain⟨pr,hpr⟩:∃ p,p=aB w.b ad:=⟨_,rfl⟩
 rw [←hpr] at hX hsm hbad
 obtain⟨e1,ok1⟩:=pr
 dsimp only at hX hsm hbad
 have hSd:=dD ad.addr
 generalize aZ ad.addr=sd at*
 refine ga Tryz.func56 Tryz.ntmps56 Tryz.results56 fun E hE=>?_
 refine qK (hEA) (qI 0 21) ?_
 refine qK (hX) (qI 24 7) ?_
 cases ok1 with
 |false=>
  refine qD [0,1,2,3,4,5,7,8,6,9,10] ?_
  refine qG ?_
  exact cc (qI 0 21++qI 0 21)
 |true=>
  have h0:¬ sd=2:=by rcases hbad with h|h;exact h;exact absurd h (by simp)
  refine qD [0,1,2,3,4,5,7,8,6,9,10] ?_
  refine az (hSd) [] ?_
  refine qG ?_
  exact cc (qI 0 21++qI 0 21)
theorem Aa {w:WorldD} {pos many:Int} {text:List UInt8} {ad:AddrD} {le:LetterD}:db w ⟨1,1,pos,many,text,ad,le⟩=(aq 1 { w with wroteA:=w.wroteA++text.take (cp w.a text).2,a:=(aS w.a text).1 } (aS w.a text).2,0):=by
 simp [db,cC,kE,j5,cG,el,e8,cF]
theorem Ab {w:WorldD} {pos many:Int} {text:List UInt8} {ad:AddrD} {le:LetterD}:db w ⟨2,1,pos,many,text,ad,le⟩=(aq 1 { w with readA:=w.readA++(bu w.a many).2,a:=((bu w.a many).1,([]:List LetterD)).1 } ((bu w.a many).1,([]:List LetterD)).2,0):=by
 simp [db,cC,kE,j5,cG,el,e8,cF]
theorem Ac {w:WorldD} {pos many:Int} {text:List UInt8} {ad:AddrD} {le:LetterD}:db w ⟨3,1,pos,many,text,ad,le⟩=(aq 1 { w with a:=(dt w.a).1 } (dt w.a).2,0):=by
 simp [db,cC,kE,j5,cG,el,e8,cF]
theorem Ad {w:WorldD} {pos many:Int} {text:List UInt8} {ad:AddrD} {le:LetterD}:db w ⟨4,1,pos,many,text,ad,le⟩=(aq 1 { w with a:=(bs w.a).1 } (bs w.a).2,0):=by
 simp [db,cC,kE,j5,cG,el,e8,cF]
theorem Ae {w:WorldD} {pos many:Int} {text:List UInt8} {ad:AddrD} {le:LetterD} (hsd:aZ ad.addr=1) (hgood:(aB w.a ad).2=true):db w ⟨5,1,pos,many,text,ad,le⟩=(aq 1 { w with a:=((aB w.a ad).1,([]:List LetterD)).1 } ((aB w.a ad).1,([]:List LetterD)).2,0):=by
 simp [db,cC,kE,j5,cG,el,e8,cF,hsd,hgood]
theorem Af {w:WorldD} {pos many:Int} {text:List UInt8} {ad:AddrD} {le:LetterD}:db w ⟨6,1,pos,many,text,ad,le⟩=(aq 1 { w with a:=(bb w.a pos).1 } (bb w.a pos).2,0):=by
 simp [db,cC,kE,j5,cG,el,e8,cF]
theorem Ag {w:WorldD} {pos many:Int} {text:List UInt8} {ad:AddrD} {le:LetterD}:db w ⟨7,1,pos,many,text,ad,le⟩=(aq 1 { w with a:=(br w.a pos).1 } (br w.a pos).2,0):=by
 simp [db,cC,kE,j5,cG,el,e8,cF]
theorem Fd {w:WorldD} {pos many:Int} {text:List UInt8} {ad:AddrD} {le:LetterD} (hbad:¬ aZ ad.addr=1∨(aB w.a ad).2=false):db w ⟨5,1,pos,many,text,ad,le⟩=(w,1):=by
 rcases hbad with h|h<;>simp [db,cC,cG,h]
theorem Ah {w:WorldD} {pos many:Int} {text:List UInt8} {ad:AddrD} {le:LetterD}:db w ⟨1,2,pos,many,text,ad,le⟩=(aq 2 { w with wroteB:=w.wroteB++text.take (cp w.b text).2,b:=(aS w.b text).1 } (aS w.b text).2,0):=by
 simp [db,cC,kE,j5,cG,el,e8,cF]
theorem Ai {w:WorldD} {pos many:Int} {text:List UInt8} {ad:AddrD} {le:LetterD}:db w ⟨2,2,pos,many,text,ad,le⟩=(aq 2 { w with readB:=w.readB++(bu w.b many).2,b:=((bu w.b many).1,([]:List LetterD)).1 } ((bu w.b many).1,([]:List LetterD)).2,0):=by
 simp [db,cC,kE,j5,cG,el,e8,cF]
theorem Aj {w:WorldD} {pos many:Int} {text:List UInt8} {ad:AddrD} {le:LetterD}:db w ⟨3,2,pos,many,text,ad,le⟩=(aq 2 { w with b:=(dt w.b).1 } (dt w.b).2,0):=by
 simp [db,cC,kE,j5,cG,el,e8,cF]
theorem Ak {w:WorldD} {pos many:Int} {text:List UInt8} {ad:AddrD} {le:LetterD}:db w ⟨4,2,pos,many,text,ad,le⟩=(aq 2 { w with b:=(bs w.b).1 } (bs w.b).2,0):=by
 simp [db,cC,kE,j5,cG,el,e8,cF]
theorem Al {w:WorldD} {pos many:Int} {text:List UInt8} {ad:AddrD} {le:LetterD} (hsd:aZ ad.addr=2) (hgood:(aB w.b ad).2=true):db w ⟨5,2,pos,many,text,ad,le⟩=(aq 2 { w with b:=((aB w.b ad).1,([]:List LetterD)).1 } ((aB w.b ad).1,([]:List LetterD)).2,0):=by
 simp [db,cC,kE,j5,cG,el,e8,cF,hsd,hgood]
theorem Am {w:WorldD} {pos many:Int} {text:List UInt8} {ad:AddrD} {le:LetterD}:db w ⟨6,2,pos,many,text,ad,le⟩=(aq 2 { w with b:=(bb w.b pos).1 } (bb w.b pos).2,0):=by
 simp [db,cC,kE,j5,cG,el,e8,cF]
theorem An {w:WorldD} {pos many:Int} {text:List UInt8} {ad:AddrD} {le:LetterD}:db w ⟨7,2,pos,many,text,ad,le⟩=(aq 2 { w with b:=(br w.b pos).1 } (br w.b pos).2,0):=by
 simp [db,cC,kE,j5,cG,el,e8,cF]
theorem Fe {w:WorldD} {pos many:Int} {text:List UInt8} {ad:AddrD} {le:LetterD} (hbad:¬ aZ ad.addr=2∨(aB w.b ad).2=false):db w ⟨5,2,pos,many,text,ad,le⟩=(w,1):=by
 rcases hbad with h|h<;>simp [db,cC,cG,h]
theorem yj {w:WorldD} {a:ActD} (h:cC w a=true):db w a=(w,1):=if_pos h
theorem Bf {w:WorldD} {a:ActD} (h:¬ cC w a=true):(db w a).2=0:=by rw [db,if_neg h]
theorem zm (w:WorldD) (a:ActD):(a_ w a).2=0∨(a_ w a).1=w:=by
 unfold a_;repeat' split
 all_goals first|exact .inl rfl|exact .inr rfl
theorem Bg (w:WorldD) (a:ActD):(db w a).2=0∨(db w a).1=w:=by
 by_cases h:cC w a=true
 ·rw [yj h];exact .inr rfl
 exact .inl (Bf h)
theorem fN {a:ActD} (h:fe a=true):1≤a.kind∧a.kind≤12∧1≤a.side∧a.side≤2∧0≤a.pos∧a.text.length≤1048576:=by
 simp only [fe,cr,iQ,Bool.and_eq_true,decide_eq_true_eq] at h
 omega
theorem Bh (w:WorldD) (a:ActD) (hw:SmallD w) (ha:fe a=true) (h7:a.kind≤7):
  ae Tryz.prog 68 [.sc (.pt 21 0 0),.ag a.cs] (w.hp true++[some ⟨[w.cs 0],61,51,true,false⟩]) (.sc (.int .i64 (db w a).2))
  ([none,none,none,none,none,none,none,none,none,none,none,none,none,none,none,none,none,none,none,none,none,some ⟨[WorldD.cs (db w a).1 22],61,51,true,false⟩]++WorldD.hp (db w a).1 true):=by
 obtain⟨k1,k2,k3,k4,k5,k6⟩:=fN ha
 obtain⟨kind,side,pos,many,text,ad,le⟩:=a
 dsimp only at*
 have hs:side=1∨side=2:=by omega
 have hk:kind=1∨kind=2∨kind=3∨kind=4∨kind=5∨kind=6∨kind=7:=by omega
 clear ha k1 k2 k3 k4 h7
 rcases hs with rfl|rfl<;>rcases hk with rfl|rfl|rfl|rfl|rfl|rfl|rfl
 ·rw [Aa];exact wk w pos many text ad le hw k6
 ·rw [Ab];exact wl w pos many text ad le hw k6
 ·rw [Ac];exact wG w pos many text ad le hw k6
 ·rw [Ad];exact wm w pos many text ad le hw k6
 ·by_cases hb:aZ ad.addr=1∧(aB w.a ad).2=true
  ·rw [Ae hb.1 hb.2];exact wn w pos many text ad le hw k6 hb.1 hb.2
  have hb:¬ aZ ad.addr=1∨(aB w.a ad).2=false:=by
   by_cases h0:aZ ad.addr=1
   ·exact .inr (by cases h1:(aB w.a ad).2;rfl;exact absurd ⟨h0,h1⟩ hb)
   exact .inl h0
  rw [Fd hb];exact tE w pos many text ad le hw hb
 ·rw [Af];exact wo w pos many text ad le hw k6
 ·rw [Ag];exact wq w pos many text ad le hw k6
 ·rw [Ah];exact wt w pos many text ad le hw k6
 ·rw [Ai];exact wu w pos many text ad le hw k6
 ·rw [Aj];exact wH w pos many text ad le hw k6
 ·rw [Ak];exact wv w pos many text ad le hw k6
 ·by_cases hb:aZ ad.addr=2∧(aB w.b ad).2=true
  ·rw [Al hb.1 hb.2];exact ww w pos many text ad le hw k6 hb.1 hb.2
  have hb:¬ aZ ad.addr=2∨(aB w.b ad).2=false:=by
   by_cases h0:aZ ad.addr=2
   ·exact .inr (by cases h1:(aB w.b ad).2;rfl;exact absurd ⟨h0,h1⟩ hb)
   exact .inl h0
  rw [Fe hb];exact tF w pos many text ad le hw hb
 ·rw [Am];exact wx w pos many text ad le hw k6
 rw [An];exact wy w pos many text ad le hw k6
theorem yk (w:WorldD) (a:ActD) (hw:SmallD w) (ha:fe a=true) (h7:a.kind≤7) (hb:¬ cC w a=true):
  ae Tryz.prog 56 [.ag (w.cs 0),.ag a.cs] (w.hp false) (.tu [.ag ((db w a).1.cs 21),.sc (.int .i64 (db w a).2)]) (w.hp false++(db w a).1.hp true):=by
 obtain⟨k1,k2,k3,k4,k5,k6⟩:=fN ha
 obtain⟨kind,side,pos,many,text,ad,le⟩:=a
 dsimp only at*
 have hs:side=1∨side=2:=by omega
 have hk:kind=1∨kind=2∨kind=3∨kind=4∨kind=5∨kind=6∨kind=7:=by omega
 clear ha k1 k2 k3 k4 h7
 rcases hs with rfl|rfl<;>rcases hk with rfl|rfl|rfl|rfl|rfl|rfl|rfl
 ·rw [Aa];exact sk w pos many text ad le hw k6
 ·rw [Ab];exact sm w pos many text ad le hw k6
 ·rw [Ac];exact sB w pos many text ad le hw k6
 ·rw [Ad];exact sn w pos many text ad le hw k6
 ·have hb:aZ ad.addr=1∧(aB w.a ad).2=true:=by
   by_cases h0:aZ ad.addr=1<;>cases h1:(aB w.a ad).2<;>simp [cC,cG,h0,h1] at hb<;>exact⟨h0,rfl⟩
  rw [Ae hb.1 hb.2];exact so w pos many text ad le hw k6 hb.1 hb.2
 ·rw [Af];exact sr w pos many text ad le hw k6
 ·rw [Ag];exact ss w pos many text ad le hw k6
 ·rw [Ah];exact su w pos many text ad le hw k6
 ·rw [Ai];exact sv w pos many text ad le hw k6
 ·rw [Aj];exact sC w pos many text ad le hw k6
 ·rw [Ak];exact sw w pos many text ad le hw k6
 ·have hb:aZ ad.addr=2∧(aB w.b ad).2=true:=by
   by_cases h0:aZ ad.addr=2<;>cases h1:(aB w.b ad).2<;>simp [cC,cG,h0,h1] at hb<;>exact⟨h0,rfl⟩
  rw [Al hb.1 hb.2];exact sx w pos many text ad le hw k6 hb.1 hb.2
 ·rw [Am];exact sy w pos many text ad le hw k6
 rw [An];exact sA w pos many text ad le hw k6
theorem wI (w:WorldD) (a:ActD) (hw:SmallD w) (ha:fe a=true) (hb:cC w a=true):
  ae Tryz.prog 56 [.ag (w.cs 0),.ag a.cs] (w.hp true) (.tu [.ag (w.cs 21),.sc (.int .i64 1)]) ([none,none,none,none,none,none,none,none,none,none,none,none,none,none,none,none,none,none,none,none,none]++w.hp true):=by
 obtain⟨k1,k2,k3,k4,k5,k6⟩:=fN ha
 obtain⟨kind,side,pos,many,text,ad,le⟩:=a
 dsimp only at*
 have hs:side=1∨side=2:=by omega
 have hk:kind=5:=by simp only [cC,Bool.and_eq_true,decide_eq_true_eq] at hb;exact hb.1
 subst hk
 rcases hs with rfl|rfl
 ·refine ph w pos many text ad le hw ?_
  by_cases h0:aZ ad.addr=1
  ·exact .inr (by cases h1:(aB w.a ad).2;rfl;simp [cC,cG,h0,h1] at hb)
  exact .inl h0
 refine pi w pos many text ad le hw ?_
 by_cases h0:aZ ad.addr=2
 ·exact .inr (by cases h1:(aB w.b ad).2;rfl;simp [cC,cG,h0,h1] at hb)
 exact .inl h0
theorem zn (w:WorldD) (a:ActD) (hw:SmallD w) (ha:fe a=true) (h7:¬ a.kind≤7):
  ae Tryz.prog 69 [.sc (.pt 21 0 0),.ag a.cs] (w.hp true++[some ⟨[w.cs 0],61,51,true,false⟩]) (.sc (.int .i64 (a_ w a).2))
  ([none,none,none,none,none,none,none,none,none,none,none,none,none,none,none,none,none,none,none,none,none,some ⟨[WorldD.cs (a_ w a).1 22],61,51,true,false⟩]++WorldD.hp (a_ w a).1 true):=by
 obtain⟨k1,k2,k3,k4,k5,k6⟩:=fN ha
 obtain⟨kind,side,pos,many,text,ad,le⟩:=a
 dsimp only at*
 have hk:kind=8∨kind=9∨kind=10∨kind=11∨kind=12:=by omega
 obtain⟨p,rfl⟩:=Int.eq_ofNat_of_zero_le k5
 rcases hk with rfl|rfl|rfl|rfl|rfl
 ·exact yh w side many p text ad le hw
 ·exact yi w side many p text ad le hw
 ·exact wz w side many p text ad le hw
 ·exact wC w side many p text ad le hw
 exact wD w side many p text ad le hw
theorem yl (w:WorldD) (a:ActD) (hw:SmallD w) (ha:fe a=true) (h7:¬ a.kind≤7) (h10:a.kind≤10):
  ae Tryz.prog 59 [.ag (w.cs 0),.ag a.cs] (w.hp true) (.tu [.ag ((a_ w a).1.cs 21),.sc (.int .i64 (a_ w a).2)]) ([none,none,none,none,none,none,none,none,none,none,none,none,none,none,none,none,none,none,none,none,none]++(a_ w a).1.hp true):=by
 obtain⟨k1,k2,k3,k4,k5,k6⟩:=fN ha
 obtain⟨kind,side,pos,many,text,ad,le⟩:=a
 dsimp only at*
 have hk:kind=8∨kind=9∨kind=10:=by omega
 obtain⟨p,rfl⟩:=Int.eq_ofNat_of_zero_le k5
 rcases hk with rfl|rfl|rfl
 ·exact wE w side many p text ad le hw
 ·exact wF w side many p text ad le hw
 exact tD w side many p text ad le hw
end
section
open Go.RowKit
theorem zo (a:ActD):ae Tryz.prog 66 [.ag a.cs] [] (.sc (.bo (fe a))) []:=by
 refine qE Tryz.func66 Tryz.ntmps66 Tryz.results66 fun E hE=>?_
 refine qK (aO _ _ _) [] ?_
 refine qB (fun h1=>?_) fun h1=>?_
 ·refine qK (aO _ _ _) [] ?_
  refine qB (fun h2=>?_) fun h2=>?_
  ·refine qK (cu [a.pos,a.many] (by show 2≤1000000;decide)) (qI 1 1) ?_
   refine qB (fun h3=>?_) fun h3=>?_
   ·refine qJ [] ?_
    simp only [List.all_cons,List.all_nil,Bool.and_true,Bool.and_eq_true] at h3
    simp [fe,h1,h2,h3.1,h3.2]
    omega
   refine qJ [] ?_
   simp only [List.all_cons,List.all_nil,Bool.and_true] at h3
   simp only [fe,h3,Bool.and_false,Bool.false_and]
  refine qJ [] ?_
  simp [fe,h1,h2]
 refine qJ [] ?_
 simp [fe,h1]
theorem zp (a:ActD):ae Tryz.prog 54 [.ag a.cs] [] (.sc (.bo (fe a))) []:=by
 refine qE Tryz.func54 Tryz.ntmps54 Tryz.results54 fun E hE=>?_
 refine qK (aM _ _ _) [] ?_
 refine qB (fun h1=>?_) fun h1=>?_
 ·refine qK (aM _ _ _) [] ?_
  refine qB (fun h2=>?_) fun h2=>?_
  ·refine qK (aP _) [] ?_
   refine qB (fun h3=>?_) fun h3=>?_
   ·refine qK (aP _) [] ?_
    refine qB (fun h4=>?_) fun h4=>?_
    ·refine qJ [] ?_
     simp [fe,h1,h2,h3,h4]
     omega
    refine qJ [] ?_
    simp [fe,h1,h2,h3,h4]
   refine qJ [] ?_
   simp [fe,h1,h2,h3]
  refine qJ [] ?_
  simp [fe,h1,h2]
 refine qJ [] ?_
 simp [fe,h1]
end
section
open Go.RowKit
theorem Bi (w:WorldD) (a:ActD) (hw:SmallD w):ae Tryz.prog 28 [.ag (w.cs 0),.ag a.cs] (w.hp false) (.tu [.ag ((ff w a).1.cs 21),.sc (.int .i64 (ff w a).2)]) (w.hp false++(ff w a).1.hp true):=by
 have hC:=kB w hw.p.s
 have hA:=zo a
 cases hok:fe a with
 |false=>
  rw [show ff w a=(w,3) from by rw [ff,if_neg (by simp [hok])]]
  rw [hok] at hA
  dsimp only
  refine e_ Tryz.func28 (by kernel_rfl) rfl fun E hE=>ac 400 ?_
  simp (disch:=omega) only [Tryz.ntmps28,Tryz.results28,go_sem,Nat.reduceEqDiff,Nat.reduceAdd,Nat.reduceSub,Int.reduceAdd,Int.reduceSub,Int.reduceToNat]
  refine al (qC) (hA) [] qM (by rfl) (ac 400 ?_)
  simp (disch:=omega) only [go_sem,Nat.reduceEqDiff,Nat.reduceAdd,Nat.reduceSub,Int.reduceAdd,Int.reduceSub,Int.reduceToNat]
  refine al (qC) (hC) (qI 0 21) qM (by rfl) (ac 400 ?_)
  simp (disch:=omega) only [go_sem,Nat.reduceEqDiff,Nat.reduceAdd,Nat.reduceSub,Int.reduceAdd,Int.reduceSub,Int.reduceToNat]
  refine ah (qI 0 21++qI 24 21) (qC) _ (by simp only [go_sem];rfl) (by rfl) (by rfl) ?_
  simp (disch:=omega) only [go_sem,Nat.reduceEqDiff,Nat.reduceAdd,Nat.reduceSub,Int.reduceAdd,Int.reduceSub,Int.reduceToNat]
 |true=>
  rw [hok] at hA
  by_cases h7:a.kind≤7
  ·have hM:=Bh w a hw hok h7
   have hcode:=Bg w a
   rw [show ff w a=db w a from by rw [ff,if_pos hok,if_pos h7]]
   obtain⟨R,hR⟩:∃ R,R=db w a:=⟨_,rfl⟩
   rw [←hR] at hM hcode⊢
   clear hR
   obtain⟨r,c⟩:=R
   dsimp only at hM hcode⊢
   refine e_ Tryz.func28 (by kernel_rfl) rfl fun E hE=>ac 400 ?_
   simp (disch:=omega) only [Tryz.ntmps28,Tryz.results28,go_sem,Nat.reduceEqDiff,Nat.reduceAdd,Nat.reduceSub,Int.reduceAdd,Int.reduceSub,Int.reduceToNat]
   refine al (qC) (hA) [] qM (by rfl) (ac 400 ?_)
   simp (disch:=omega) only [go_sem,Nat.reduceEqDiff,Nat.reduceAdd,Nat.reduceSub,Int.reduceAdd,Int.reduceSub,Int.reduceToNat]
   refine al (qC) (hC) (qI 0 21) qM (by rfl) (ac 400 ?_)
   simp (disch:=omega) only [go_sem,Nat.reduceEqDiff,Nat.reduceAdd,Nat.reduceSub,Int.reduceAdd,Int.reduceSub,Int.reduceToNat]
   refine al (qC) (hM) (qI 24 22) qM (by rfl) (ac 400 ?_)
   simp (disch:=omega) only [go_sem,Nat.reduceEqDiff,Nat.reduceAdd,Nat.reduceSub,Int.reduceAdd,Int.reduceSub,Int.reduceToNat]
   by_cases hz:c=0
   ·subst hz
    try simp (disch:=omega) only [go_sem,Nat.reduceEqDiff,Nat.reduceAdd,Nat.reduceSub,Int.reduceAdd,Int.reduceSub,Int.reduceToNat]
    refine ah (qI 0 21++qI 46 21) (qC) _ (by simp only [go_sem];rfl) (by rfl) (by rfl) ?_
    simp (disch:=omega) only [go_sem,Nat.reduceEqDiff,Nat.reduceAdd,Nat.reduceSub,Int.reduceAdd,Int.reduceSub,Int.reduceToNat]
   have hr:r=w:=by rcases hcode with h|h;exact absurd h hz;exact h
   subst hr
   try simp (disch:=omega) only [go_sem,Nat.reduceEqDiff,Nat.reduceAdd,Nat.reduceSub,Int.reduceAdd,Int.reduceSub,Int.reduceToNat]
   refine al (qC) (hC) (qI 0 21) qM (by rfl) (ac 400 ?_)
   simp (disch:=omega) only [go_sem,Nat.reduceEqDiff,Nat.reduceAdd,Nat.reduceSub,Int.reduceAdd,Int.reduceSub,Int.reduceToNat]
   refine ah (qI 0 21++qI 67 21) (qC) _ (by simp only [go_sem];rfl) (by rfl) (by rfl) ?_
   simp (disch:=omega) only [go_sem,Nat.reduceEqDiff,Nat.reduceAdd,Nat.reduceSub,Int.reduceAdd,Int.reduceSub,Int.reduceToNat]
  have hM:=zn w a hw hok h7
  have hcode:=zm w a
  rw [show ff w a=a_ w a from by rw [ff,if_pos hok,if_neg h7]]
  obtain⟨R,hR⟩:∃ R,R=a_ w a:=⟨_,rfl⟩
  rw [←hR] at hM hcode⊢
  clear hR
  obtain⟨r,c⟩:=R
  dsimp only at hM hcode⊢
  refine e_ Tryz.func28 (by kernel_rfl) rfl fun E hE=>ac 400 ?_
  simp (disch:=omega) only [Tryz.ntmps28,Tryz.results28,go_sem,Nat.reduceEqDiff,Nat.reduceAdd,Nat.reduceSub,Int.reduceAdd,Int.reduceSub,Int.reduceToNat]
  refine al (qC) (hA) [] qM (by rfl) (ac 400 ?_)
  simp (disch:=omega) only [go_sem,Nat.reduceEqDiff,Nat.reduceAdd,Nat.reduceSub,Int.reduceAdd,Int.reduceSub,Int.reduceToNat]
  refine al (qC) (hC) (qI 0 21) qM (by rfl) (ac 400 ?_)
  simp (disch:=omega) only [go_sem,Nat.reduceEqDiff,Nat.reduceAdd,Nat.reduceSub,Int.reduceAdd,Int.reduceSub,Int.reduceToNat]
  refine al (qC) (hM) (qI 24 22) qM (by rfl) (ac 400 ?_)
  simp (disch:=omega) only [go_sem,Nat.reduceEqDiff,Nat.reduceAdd,Nat.reduceSub,Int.reduceAdd,Int.reduceSub,Int.reduceToNat]
  by_cases hz:c=0
  ·subst hz
   try simp (disch:=omega) only [go_sem,Nat.reduceEqDiff,Nat.reduceAdd,Nat.reduceSub,Int.reduceAdd,Int.reduceSub,Int.reduceToNat]
   refine ah (qI 0 21++qI 46 21) (qC) _ (by simp only [go_sem];rfl) (by rfl) (by rfl) ?_
   simp (disch:=omega) only [go_sem,Nat.reduceEqDiff,Nat.reduceAdd,Nat.reduceSub,Int.reduceAdd,Int.reduceSub,Int.reduceToNat]
  have hr:r=w:=by rcases hcode with h|h;exact absurd h hz;exact h
  subst hr
  try simp (disch:=omega) only [go_sem,Nat.reduceEqDiff,Nat.reduceAdd,Nat.reduceSub,Int.reduceAdd,Int.reduceSub,Int.reduceToNat]
  refine al (qC) (hC) (qI 0 21) qM (by rfl) (ac 400 ?_)
  simp (disch:=omega) only [go_sem,Nat.reduceEqDiff,Nat.reduceAdd,Nat.reduceSub,Int.reduceAdd,Int.reduceSub,Int.reduceToNat]
  refine ah (qI 0 21++qI 67 21) (qC) _ (by simp only [go_sem];rfl) (by rfl) (by rfl) ?_
  simp (disch:=omega) only [go_sem,Nat.reduceEqDiff,Nat.reduceAdd,Nat.reduceSub,Int.reduceAdd,Int.reduceSub,Int.reduceToNat]
theorem Bj (w:WorldD) (a:ActD) (hw:SmallD w):ae Tryz.prog 25 [.ag (w.cs 0),.ag a.cs] (w.hp false) (.tu [.ag ((ff w a).1.cs 21),.sc (.int .i64 (ff w a).2)]) (w.hp false++(ff w a).1.hp true):=by
 have hC:=ib w hw.p.s
 have hA:=zp a
 have hI:=aM a.kind 1 7
 cases hok:fe a with
 |false=>
  rw [show ff w a=(w,3) from by rw [ff,if_neg (by simp [hok])]]
  rw [hok] at hA
  dsimp only
  refine qE Tryz.func25 Tryz.ntmps25 Tryz.results25 fun E hE=>?_
  refine qK (hC) (qI 0 21) ?_
  refine qK (hA) [] ?_
  exact qF (qI 0 21++qI 24 21)
 |true=>
  rw [hok] at hA
  obtain⟨k1,k2,k3,k4,k5,k6⟩:=fN hok
  by_cases h7:a.kind≤7
  ·rw [show ff w a=db w a from by rw [ff,if_pos hok,if_pos h7]]
   have hin:cr a.kind 1 7=true:=by simp only [cr,Bool.and_eq_true,decide_eq_true_eq];omega
   rw [hin] at hI
   by_cases hb:cC w a=true
   ·have hQ:=wI w a hw hok hb
    rw [yj hb]
    dsimp only
    refine qE Tryz.func25 Tryz.ntmps25 Tryz.results25 fun E hE=>?_
    refine qK (hC) (qI 0 21) ?_
    refine qK (hA) [] ?_
    refine qK (hI) [] ?_
    refine qK (hQ) (qI 24 21) ?_
    exact qF (qI 0 21++qI 45 21)
   have hQ:=yk w a hw hok h7 hb
   obtain⟨R,hR⟩:∃ R,R=db w a:=⟨_,rfl⟩
   rw [←hR] at hQ⊢
   clear hR
   obtain⟨r,c⟩:=R
   dsimp only at hQ⊢
   refine qE Tryz.func25 Tryz.ntmps25 Tryz.results25 fun E hE=>?_
   refine qK (hC) (qI 0 21) ?_
   refine qK (hA) [] ?_
   refine qK (hI) [] ?_
   refine qK (hQ) (qI 24 21) ?_
   exact qF (qI 0 21++qI 45 21)
  rw [show ff w a=a_ w a from by rw [ff,if_pos hok,if_neg h7]]
  have hin:cr a.kind 1 7=false:=by simp only [cr,Bool.and_eq_false_iff,decide_eq_false_iff_not];omega
  rw [hin] at hI
  by_cases h10:a.kind≤10
  ·have hQ:=yl w a hw hok h7 h10
   obtain⟨R,hR⟩:∃ R,R=a_ w a:=⟨_,rfl⟩
   rw [←hR] at hQ⊢
   clear hR
   obtain⟨r,c⟩:=R
   dsimp only at hQ⊢
   refine qE Tryz.func25 Tryz.ntmps25 Tryz.results25 fun E hE=>?_
   refine qK (hC) (qI 0 21) ?_
   refine qK (hA) [] ?_
   refine qK (hI) [] ?_
   refine qK (hQ) (qI 24 21) ?_
   exact qF (qI 0 21++qI 46 21)
  obtain⟨kind,side,pos,many,text,ad,le⟩:=a
  dsimp only at*
  have hbag:=hw.p.s.bag
  have hpast:=hw.p.s.past
  have hk:kind=11∨kind=12:=by omega
  clear h7 h10 k1 k2 hok
  rcases hk with rfl|rfl
  ·have hM:=sh w le hw.p.s.keys hw.p.s.tags hw.p.s.nums
   cases hm:dV w le with
   |false=>
    rw [E8 hm]
    rw [hm] at hM
    dsimp only
    refine qE Tryz.func25 Tryz.ntmps25 Tryz.results25 fun E hE=>?_
    refine qK (hC) (qI 0 21) ?_
    refine qK (hA) [] ?_
    refine qK (hI) [] ?_
    refine qK (hM) (qI 24 21) ?_
    exact qF (qI 0 21++qI 24 21)
   |true=>
    rw [hm] at hM
    by_cases h4:40≤w.bag.length
    ·rw [E9 hm h4]
     dsimp only
     refine qE Tryz.func25 Tryz.ntmps25 Tryz.results25 fun E hE=>?_
     refine qK (hC) (qI 0 21) ?_
     refine qK (hA) [] ?_
     refine qK (hI) [] ?_
     refine qK (hM) (qI 24 21) ?_
     exact qF (qI 0 21++qI 24 21)
    rw [E_ hm h4]
    dsimp only
    refine qE Tryz.func25 Tryz.ntmps25 Tryz.results25 fun E hE=>?_
    refine qK (hC) (qI 0 21) ?_
    refine qK (hA) [] ?_
    refine qK (hI) [] ?_
    refine qK (hM) (qI 24 21) ?_
    refine qJ (qI 0 21++qI 24 14++qI 47 1++qI 39 6) ?_
    simp [LetterD.cs]
  obtain⟨p,rfl⟩:=Int.eq_ofNat_of_zero_le k5
  by_cases hp:p < w.past.length
  ·have hx:=ao (enc:=LetterD.cs) hp
   have hq1:= @Fb w side many p text ad le hp
   have hq2:= @Fc w side many p text ad le hp
   obtain⟨R,hR⟩:∃ R,R=a_ w ⟨12,side,(p:Nat),many,text,ad,le⟩:=⟨_,rfl⟩
   change _=a_ w _ at hR
   rw [←hR] at hq1 hq2
   try rw [←hR]
   clear hR
   generalize hxx:w.past[p]=x at*
   have hS:=dD x.to
   generalize aZ x.to=sd at*
   by_cases h0:sd=0
   ·rw [hq1 (.inl h0)]
    dsimp only
    refine qE Tryz.func25 Tryz.ntmps25 Tryz.results25 fun E hE=>?_
    refine qK (hC) (qI 0 21) ?_
    refine qK (hA) [] ?_
    refine qK (hI) [] ?_
    try simp (disch:=omega) only [go_sem,seval,hx,hxx]
    refine qK (hS) [] ?_
    exact qF (qI 0 21++qI 24 21)
   by_cases h4:40≤w.bag.length
   ·rw [hq1 (.inr h4)]
    dsimp only
    refine qE Tryz.func25 Tryz.ntmps25 Tryz.results25 fun E hE=>?_
    refine qK (hC) (qI 0 21) ?_
    refine qK (hA) [] ?_
    refine qK (hI) [] ?_
    try simp (disch:=omega) only [go_sem,seval,hx,hxx]
    refine qK (hS) [] ?_
    exact qF (qI 0 21++qI 24 21)
   rw [hq2 h0 h4]
   dsimp only
   refine qE Tryz.func25 Tryz.ntmps25 Tryz.results25 fun E hE=>?_
   refine qK (hC) (qI 0 21) ?_
   refine qK (hA) [] ?_
   refine qK (hI) [] ?_
   try simp (disch:=omega) only [go_sem,seval,hx,hxx]
   refine qK (hS) [] ?_
   refine qX ?_
   refine qJ (qI 0 21++qI 24 14++qI 47 1++qI 39 6) ?_
   simp [LetterD.cs]
  rw [Fa hp]
  dsimp only
  refine qE Tryz.func25 Tryz.ntmps25 Tryz.results25 fun E hE=>?_
  refine qK (hC) (qI 0 21) ?_
  refine qK (hA) [] ?_
  refine qK (hI) [] ?_
  exact qF (qI 0 21++qI 24 21)
end
section
open Go.RowKit
theorem ym {w:WorldD} {s:Int} (hw:SmallW w):Small (cG w s):=by
 unfold cG;repeat' split
 ·exact hw.a
 ·exact hw.b
 constructor<;>simp [pu]
theorem zq {e:EndD} {a:ActD} (hs:Small e):Small (j5 e a).1:=by
 unfold j5
 split
 ·exact eQ hs
 split
 ·exact gP hs
 split
 ·exact iH hs
 split
 ·exact f9 hs
 split
 ·exact df hs
 split
 ·exact fg hs
 exact f8 hs
theorem zr {w:WorldD} {a:ActD} (hw:SmallW w):SmallW (kE w a):=by
 unfold kE e8 cF;repeat' split
 all_goals exact⟨hw.a,hw.b,hw.bag,hw.past,hw.keys,hw.tags,hw.nums,hw.ansA,hw.ansB⟩
theorem tG {w:WorldD} {e:EndD} {s:Int} (hw:SmallW w) (h:Small e):SmallW (el w s e):=by
 unfold el;split
 ·exact lL hw h
 exact lM hw h
theorem ml {w:WorldD} {b:List LetterD} (hw:SmallW w) (h:b.length≤1048576):SmallW { w with bag:=b }:=⟨hw.a,hw.b,h,hw.past,hw.keys,hw.tags,hw.nums,hw.ansA,hw.ansB⟩
theorem zt {w:WorldD} {a:ActD} (hw:SmallW w):SmallW (db w a).1:=by
 unfold db;split
 ·exact hw
 exact jL (tG (zr hw) (zq (ym hw)))
theorem Bk (l:List LetterD) (n:Int) (h:l.length≤1048576):(gU l n).length≤1048576:=by
 simp only [gU,List.length_append,List.length_take,List.length_drop];omega
theorem yn {w:WorldD} {a:ActD} (hw:SmallW w):SmallW (a_ w a).1:=by
 have hb:=Bk w.bag a.pos hw.bag
 unfold a_;repeat' split
 all_goals first|exact hw|exact xU _ _ (ml hw hb)|exact ml hw hb|exact ml hw (by simp only [List.length_append,List.length_singleton];omega)
theorem yo (w:WorldD) (a:ActD) (hw:SmallD w):SmallW (ff w a).1:=by
 unfold ff;repeat' split
 ·exact zt hw.p.s
 ·exact yn hw.p.s
 exact hw.p.s
theorem Ff (a0:WorldD) (w0:a0.wf) (a1:ActD) (w1:ActD.wf a1):ae Tryz.prog 5 [.ag (a0.cs 0),.ag a1.cs] (a0.hpL) (.sc (.bo true)) (a0.hpL):=by
 refine ga Tryz.func5 Tryz.ntmps5 Tryz.results5 fun E hE=>?_
 refine qK (vr a0 1048576 w0 (by omega) (by omega)) (qI 0 21) ?_
 generalize hr0:aU 1048576 a0.szL=r0
 have hb0:=bL (by omega) a0.szL_nn hr0
 refine qB (fun h0=>?_) fun h0=>?_
 ·exact cc (qI 0 21)
 have hn0:0≤r0:=by omega
 have hm0:r0≤1048576:=by omega
 obtain⟨l0_0,l0_1,l0_2,l0_3,l0_4,l0_5,l0_6,l0_7,l0_8,l0_9,l0_10,l0_11,l0_12,l0_13,l0_14,l0_15,l0_16,l0_17,l0_18,l0_19,l0_20⟩:=WorldD.sz_le (by omega) (by omega) hr0 hn0
 obtain⟨s0_0,s0_1,s0_2,s0_3,s0_4,s0_5,s0_6,s0_7⟩:=WorldD.str_le (by omega) (by omega) hr0 hn0
 obtain⟨x0_0,x0_1⟩:=WorldD.txt_le (by omega) (by omega) hr0 hn0
 refine qX ?_
 refine qK (zi a1 r0 w1 hn0 hm0) [] ?_
 generalize hr1:aU r0 (ic a1)=r1
 have hb1:=bL hn0 (rM a1) hr1
 refine qB (fun h1=>?_) fun h1=>?_
 ·exact cc (qI 0 21)
 have hn1:0≤r1:=by omega
 have hm1:r1≤1048576:=by omega
 have hx1:=ET hn0 hm0 hr1 hn1
 refine qX ?_
 have hsw:SmallWP a0:=⟨⟨⟨l0_0,l0_1,l0_2,l0_3,l0_4,l0_5,l0_6⟩,⟨l0_7,l0_8,l0_9,l0_10,l0_11,l0_12,l0_13⟩,l0_14,l0_15,l0_16,l0_17,l0_18,l0_19,l0_20⟩,⟨l0_4,s0_1,x0_0⟩,⟨l0_11,s0_3,x0_1⟩⟩
 have hsd:SmallD a0:=⟨hsw,⟨by omega,by omega,by omega,by omega⟩,s0_0,s0_2⟩
 have hSp:=Bj a0 a1 hsd
 have hIm:=Bi a0 a1 hsd
 have hsm:=yo a0 a1 hsd
 obtain⟨RR,hW⟩:∃ W,W=ff a0 a1:=⟨_,rfl⟩
 rw [←hW] at hSp hIm hsm
 clear hW
 obtain⟨W,C⟩:=RR
 dsimp only at hSp hIm hsm
 have q0:=hsm.a.own
 have q1:=hsm.a.far
 have q2:=hsm.a.subs
 have q3:=hsm.a.halfs
 have q4:=hsm.a.list
 have q5:=hsm.a.done
 have q6:=hsm.a.over
 have q7:=hsm.b.own
 have q8:=hsm.b.far
 have q9:=hsm.b.subs
 have q10:=hsm.b.halfs
 have q11:=hsm.b.list
 have q12:=hsm.b.done
 have q13:=hsm.b.over
 have q14:=hsm.bag
 have q15:=hsm.past
 have q16:=hsm.keys
 have q17:=hsm.tags
 have q18:=hsm.nums
 have q19:=hsm.ansA
 have q20:=hsm.ansB
 have hcnt:=WorldD.cnt_le W q0 q1 q2 q3 q4 q5 q6 q7 q8 q9 q10 q11 q12 q13 q14 q15 q16 q17 q18 q19 q20
 refine aI [(1,8),(3,8),(4,8)] [(1,3),(1,4),(3,4)] [(qU [0,1,2,1,1,1,3,8]),[0,2,1,3,8,4,5,6,7,9,10],[0,2,1,8,3,4,5,6,7,9,10],[0,2,8,1,3,4,5,6,7,9,10]] 21 hE (fun s=>s.at (qU [26,8]) [(6,.sc (.pt 65 0 0)),(7,.sc (.int .i64 C))] (s.hp++(a0.hp true++(W.hp true++([some ⟨[W.cs 44],61,51,true,false⟩]))))) (by kernel_rfl) (qC) (by kernel_rfl) ?_ (ac 400 ?_)
 rotate_left
 rotate_right
 simp only [aQ]
 refine⟨aa 400 ?_,aa 400 ?_,aa 400 ?_,aa 400 ?_⟩
 ·simp (disch:=omega) only [go_sem,seval]
  refine az (cN a0 l0_0 l0_1 l0_2 l0_3 l0_4 l0_5 l0_6 l0_7 l0_8 l0_9 l0_10 l0_11 l0_12 l0_13 l0_14 l0_15 l0_16 l0_17 l0_18 l0_19 l0_20) (qI 0 21) ?_
  refine az (dq a1) [] ?_
  refine az (hSp) (qI 23 21) ?_
  refine⟨qC,(qI 0 66),ab (by rfl) (by rfl) ?_⟩
  try simp (disch:=omega) only [go_sem,seval]
 ·simp (disch:=omega) only [go_sem,seval]
  refine az (cN a0 l0_0 l0_1 l0_2 l0_3 l0_4 l0_5 l0_6 l0_7 l0_8 l0_9 l0_10 l0_11 l0_12 l0_13 l0_14 l0_15 l0_16 l0_17 l0_18 l0_19 l0_20) (qI 0 21) ?_
  refine az (dq a1) [] ?_
  refine az (hSp) (qI 23 21) ?_
  refine⟨qC,(qI 0 44++qI 45 21++qI 44 1),ab (by rfl) (by rfl) ?_⟩
  try simp (disch:=omega) only [go_sem,seval]
 ·simp (disch:=omega) only [go_sem,seval]
  refine az (cN a0 l0_0 l0_1 l0_2 l0_3 l0_4 l0_5 l0_6 l0_7 l0_8 l0_9 l0_10 l0_11 l0_12 l0_13 l0_14 l0_15 l0_16 l0_17 l0_18 l0_19 l0_20) (qI 0 21) ?_
  refine az (dq a1) [] ?_
  refine az (hSp) (qI 23 21) ?_
  refine⟨qC,(qI 0 44++qI 45 21++qI 44 1),ab (by rfl) (by rfl) ?_⟩
  try simp (disch:=omega) only [go_sem,seval]
 ·simp (disch:=omega) only [go_sem,seval]
  refine az (cN a0 l0_0 l0_1 l0_2 l0_3 l0_4 l0_5 l0_6 l0_7 l0_8 l0_9 l0_10 l0_11 l0_12 l0_13 l0_14 l0_15 l0_16 l0_17 l0_18 l0_19 l0_20) (qI 0 21) ?_
  refine az (dq a1) [] ?_
  refine az (hSp) (qI 24 21) ?_
  refine⟨qC,(qI 0 23++qI 24 42++qI 23 1),ab (by rfl) (by rfl) ?_⟩
  try simp (disch:=omega) only [go_sem,seval]
 refine qX ?_
 refine qK (cN a0 l0_0 l0_1 l0_2 l0_3 l0_4 l0_5 l0_6 l0_7 l0_8 l0_9 l0_10 l0_11 l0_12 l0_13 l0_14 l0_15 l0_16 l0_17 l0_18 l0_19 l0_20) (qI 0 21) ?_
 refine aI [(2,7),(3,7)] [(2,3)] [(qU [0,10]),[0,1,2,7,3,4,5,6,8,9],[0,1,7,2,3,4,5,6,8,9]] 21 hE (fun s=>s.at (qU [36,7]) [(9,.sc (.pt 109 0 0)),(10,.sc (.int .i64 C))] (s.hp++(W.hp true++([some ⟨[W.cs 88],61,51,true,false⟩])))) (by kernel_rfl) (qC) (by kernel_rfl) ?_ (ac 400 ?_)
 rotate_left
 rotate_right
 simp only [aQ]
 refine⟨aa 400 ?_,aa 400 ?_,aa 400 ?_⟩
 ·simp (disch:=omega) only [go_sem,seval]
  refine az (dq a1) [] ?_
  refine az (hIm) (qI 66 21) ?_
  refine⟨qC,(qI 0 110),ab (by rfl) (by rfl) ?_⟩
  try simp (disch:=omega) only [go_sem,seval]
 ·simp (disch:=omega) only [go_sem,seval]
  refine az (dq a1) [] ?_
  refine az (hIm) (qI 66 21) ?_
  refine⟨qC,(qI 0 88++qI 89 21++qI 88 1),ab (by rfl) (by rfl) ?_⟩
  try simp (disch:=omega) only [go_sem,seval]
 ·simp (disch:=omega) only [go_sem,seval]
  refine az (dq a1) [] ?_
  refine az (hIm) (qI 66 21) ?_
  refine⟨qC,(qI 0 88++qI 89 21++qI 88 1),ab (by rfl) (by rfl) ?_⟩
  try simp (disch:=omega) only [go_sem,seval]
 refine qX ?_
 refine qK (h_ W (by omega) (by omega) (by omega) (by omega) (by omega) (by omega) (by omega) (by omega) (by omega) (by omega) (by omega) (by omega) (by omega) (by omega) (by omega) (by omega) (by omega) (by omega) (by omega) (by omega) (by omega)) (qI 88 21++qI 44 21) ?_
 refine qD [0,1,2,3,4] ?_
 refine az (cN a0 l0_0 l0_1 l0_2 l0_3 l0_4 l0_5 l0_6 l0_7 l0_8 l0_9 l0_10 l0_11 l0_12 l0_13 l0_14 l0_15 l0_16 l0_17 l0_18 l0_19 l0_20) (qI 0 21) ?_
 refine az (h_ a0 (by omega) (by omega) (by omega) (by omega) (by omega) (by omega) (by omega) (by omega) (by omega) (by omega) (by omega) (by omega) (by omega) (by omega) (by omega) (by omega) (by omega) (by omega) (by omega) (by omega) (by omega)) (qI 66 21++qI 110 21) ?_
 refine qG ?_
 refine qK (o7 a0 1 l0_0 l0_1 l0_2 l0_3 l0_4 l0_5 l0_6 l0_7 l0_8 l0_9 l0_10 l0_11 l0_12 l0_13 l0_14 l0_15 l0_16 l0_17 l0_18 l0_19 l0_20 (by omega) (by omega)) (qI 66 21) ?_
 refine qK (h_ W (by omega) (by omega) (by omega) (by omega) (by omega) (by omega) (by omega) (by omega) (by omega) (by omega) (by omega) (by omega) (by omega) (by omega) (by omega) (by omega) (by omega) (by omega) (by omega) (by omega) (by omega)) (qI 88 21++qI 44 21) ?_
 refine qK (pf W 1 q0 q1 q2 q3 q4 q5 q6 q7 q8 q9 q10 q11 q12 q13 q14 q15 q16 q17 q18 q19 q20 (by omega) (by omega)) (qI 88 21) ?_
 refine qK (j3 W 1 q0 q1 q2 q3 q4 q5 q6 q7 q8 q9 q10 q11 q12 q13 q14 q15 q16 q17 q18 q19 q20 (by omega) (by omega)) (qI 88 21) ?_
 refine aI [(1,8),(3,8),(4,8)] [(1,3),(1,4),(3,4)] [(qU [0,1,2,1,1,1,3,8]),[0,2,1,3,8,4,5,6,7,9,10],[0,2,1,8,3,4,5,6,7,9,10],[0,2,8,1,3,4,5,6,7,9,10]] 21 hE (fun s=>s.at (qU [84,8]) [(14,.sc (.pt 173 0 0)),(15,.sc (.int .i64 C))] (s.hp++(a0.hp true++(W.hp true++([some ⟨[W.cs 152],61,51,true,false⟩]))))) (by kernel_rfl) (qC) (by kernel_rfl) ?_ (ac 400 ?_)
 rotate_left
 rotate_right
 simp only [aQ]
 refine⟨aa 400 ?_,aa 400 ?_,aa 400 ?_,aa 400 ?_⟩
 ·simp (disch:=omega) only [go_sem,seval]
  refine az (cN a0 l0_0 l0_1 l0_2 l0_3 l0_4 l0_5 l0_6 l0_7 l0_8 l0_9 l0_10 l0_11 l0_12 l0_13 l0_14 l0_15 l0_16 l0_17 l0_18 l0_19 l0_20) (qI 0 21) ?_
  refine az (dq a1) [] ?_
  refine az (hIm) (qI 131 21) ?_
  refine⟨qC,(qI 0 174),ab (by rfl) (by rfl) ?_⟩
  try simp (disch:=omega) only [go_sem,seval]
 ·simp (disch:=omega) only [go_sem,seval]
  refine az (cN a0 l0_0 l0_1 l0_2 l0_3 l0_4 l0_5 l0_6 l0_7 l0_8 l0_9 l0_10 l0_11 l0_12 l0_13 l0_14 l0_15 l0_16 l0_17 l0_18 l0_19 l0_20) (qI 0 21) ?_
  refine az (dq a1) [] ?_
  refine az (hIm) (qI 131 21) ?_
  refine⟨qC,(qI 0 152++qI 153 21++qI 152 1),ab (by rfl) (by rfl) ?_⟩
  try simp (disch:=omega) only [go_sem,seval]
 ·simp (disch:=omega) only [go_sem,seval]
  refine az (cN a0 l0_0 l0_1 l0_2 l0_3 l0_4 l0_5 l0_6 l0_7 l0_8 l0_9 l0_10 l0_11 l0_12 l0_13 l0_14 l0_15 l0_16 l0_17 l0_18 l0_19 l0_20) (qI 0 21) ?_
  refine az (dq a1) [] ?_
  refine az (hIm) (qI 131 21) ?_
  refine⟨qC,(qI 0 152++qI 153 21++qI 152 1),ab (by rfl) (by rfl) ?_⟩
  try simp (disch:=omega) only [go_sem,seval]
 ·simp (disch:=omega) only [go_sem,seval]
  refine az (cN a0 l0_0 l0_1 l0_2 l0_3 l0_4 l0_5 l0_6 l0_7 l0_8 l0_9 l0_10 l0_11 l0_12 l0_13 l0_14 l0_15 l0_16 l0_17 l0_18 l0_19 l0_20) (qI 0 21) ?_
  refine az (dq a1) [] ?_
  refine az (hIm) (qI 132 21) ?_
  refine⟨qC,(qI 0 131++qI 132 42++qI 131 1),ab (by rfl) (by rfl) ?_⟩
  try simp (disch:=omega) only [go_sem,seval]
 refine qX ?_
 refine qK (h_ W (by omega) (by omega) (by omega) (by omega) (by omega) (by omega) (by omega) (by omega) (by omega) (by omega) (by omega) (by omega) (by omega) (by omega) (by omega) (by omega) (by omega) (by omega) (by omega) (by omega) (by omega)) (qI 152 21++qI 44 21) ?_
 refine qK (j3 W 1 q0 q1 q2 q3 q4 q5 q6 q7 q8 q9 q10 q11 q12 q13 q14 q15 q16 q17 q18 q19 q20 (by omega) (by omega)) (qI 88 21) ?_
 exact cc (qI 0 21)
end
section
open Go.RowKit
def zu:Hp→Bool
 |[]=>true
 |some ob::h=> !ob.own && zu h
 |none::h=>zu h
theorem sD:∀ {h:Hp} {o:Nat} {ob:AObj},zu h=true→h[o]? =some (some ob)→ob.own=false
 |some x::h,0,ob,hr,ho=>by
  simp only [zu,Bool.and_eq_true,Bool.not_eq_true'] at hr
  simp at ho
  subst ho
  exact hr.1
 |some x::h,o+1,ob,hr,ho=>by
  simp only [zu,Bool.and_eq_true] at hr
  exact sD hr.2 (by simpa using ho)
 |none::h,0,ob,hr,ho=>by simp at ho
 |none::h,o+1,ob,hr,ho=>sD (h:=h) hr (by simpa using ho)
 |[],o,ob,_,ho=>by simp at ho
theorem Fg {β:Be} {w:World}:∀ {l:Be} {h:Hp},IS β w l h→zu h=true
 |[],[],_=>rfl
 |p::l,some ob::h,hr=>by
  have:=Fg hr.2
  simp [zu,hr.1.1,this]
 |[],_::_,h=>h.elim
 |_::_,[],h=>h.elim
 |_::_,none::_,h=>h.elim
theorem Fh {P:Program} {f:FuncId} {args:List AV} {b:Bool} {h h':Hp} (ct:ae P f args h (.sc (.bo b)) h') {β:Be} {w:World} (hr:IS β w β h) {vs:List Value} (hvs:L2 (gf β) args vs):
  Calls P f vs.toArray w fun e w'=>e=.returned (.bool b)∧Below w.heap.size w w':=
 (ct.2 β w vs (B5 hr) hvs).mono fun e w' ⟨β',v,he,hv,hh,hst⟩=>by
  have hv':v=.bool b:=hv
  subst hv'
  exact⟨he,⟨hst.os,hst.tape,hst.output,hst.size,fun k hk=>hst.block k hk fun⟨o,ob,p,ho,hown,hp,_⟩=>by
   rw [sD (Fg hr) ho] at hown
   cases hown⟩⟩
end
section
open Go
def kK (R:Nat) (g:Nat):Nat:=(R >>> (10*g)) % 1024
def T2 (P:Program) (R lo hi:Nat) (g:Nat):Bool:=
 match P.funcs[g]? with
 |none=>true
 |some fn=>((P.leadsTo fn).all fun h=>Nat.blt (kK R h) (kK R g) && (Nat.ble lo h && Nat.blt h hi)) && (!(fn.ours || fn.body.isNone || fn.name == "runtime.NumGoroutine") && (match fn.body with|some c=> !c.unfollowed && c.globalsNamed.isEmpty|none=>false))
def o2 (P:Program) (R lo hi:Nat) (g:Nat):Bool:=Nat.ble 1000 (kK R g) || T2 P R lo hi g
theorem ns {P:Program} {R lo hi g:Nat} (h:o2 P R lo hi g=true) (hr:kK R g < 1000):T2 P R lo hi g=true:=by
 unfold o2 at h
 rw [Bool.or_eq_true,Nat.ble_eq] at h
 exact h.resolve_left (by omega)
theorem iI {P:Program} {S:FuncId→Prop} (hS:∀ g,S g→∀ h∈(P.funcs[g]?).elim [] P.leadsTo,S h):∀ (n:Nat) (todo seen:List FuncId),(∀ x∈todo,S x)→(∀ x∈seen,S x)→∀ x∈P.closureVia n todo seen,S x
 |0,todo,seen,_,hs,x,hx=>by
  unfold Program.closureVia at hx
  exact hs x (List.mem_reverse.1 hx)
 |n+1,[],seen,_,hs,x,hx=>by
  unfold Program.closureVia at hx
  exact hs x (List.mem_reverse.1 hx)
 |n+1,f::todo,seen,ht,hs,x,hx=>by
  unfold Program.closureVia at hx
  split at hx
  ·exact iI hS n todo seen (fun y hy=>ht y (List.mem_cons_of_mem _ hy)) hs x hx
  refine iI hS n _ (f::seen) (fun y hy=>?_) (fun y hy=>?_) x hx
  ·rcases List.mem_append.1 hy with hy|hy
   ·exact hS f (ht f (List.mem_cons_self ..)) y hy
   exact ht y (List.mem_cons_of_mem _ hy)
  rcases List.mem_cons.1 hy with rfl|hy
  ·exact ht y (List.mem_cons_self ..)
  exact hs y hy
theorem o3 {P:Program} {S:FuncId→Prop} (hS:∀ g,S g→∀ h∈(P.funcs[g]?).elim [] P.leadsTo,S h) {f:FuncId} (hf:S f):∀ x∈P.closure f,S x:=
 iI hS _ [f] [] (fun x hx=>by rw [List.mem_singleton.1 hx];exact hf) (fun x hx=>by cases hx)
theorem yp {P:Program} {R lo hi:Nat} (h:∀ g,lo≤g∧g < hi→o2 P R lo hi g=true) {g k:FuncId} (hb:lo≤g∧g < hi) (hr:kK R g < 1000) (hk:k∈(P.funcs[g]?).elim [] P.leadsTo):kK R k < kK R g∧lo≤k∧k < hi:=by
 have hg:=ns (h g hb) hr
 unfold T2 at hg
 cases hf:P.funcs[g]? with
 |none=>rw [hf] at hk;simp at hk
 |some fn=>
  rw [hf] at hg hk
  simp only [Bool.and_eq_true,List.all_eq_true,Nat.blt_eq,Nat.ble_eq] at hg
  exact hg.1 k hk
theorem yq {P:Program} {R lo hi:Nat} (h:∀ g,lo≤g∧g < hi→o2 P R lo hi g=true) (f:FuncId) (hf0:(lo≤f∧f < hi)∧kK R f < 1000):P.inPlace f=[]∧P.unfollowed f=false∧P.recurses f=false∧P.varsNamed f=[]:=by
 have hin:∀ k,(lo≤k∧k < hi)∧kK R k < 1000→∀ x∈P.closure k,(lo≤x∧x < hi)∧kK R x < 1000:=fun k hk=>o3 (S:=fun x=>(lo≤x∧x < hi)∧kK R x < 1000) (fun a ha b hb=>⟨(yp h ha.1 ha.2 hb).2,Nat.lt_trans (yp h ha.1 ha.2 hb).1 ha.2⟩) hk
 have hu:P.unfollowed f=false:=by
  unfold Program.unfollowed
  rw [List.any_eq_false]
  intro g hgc
  have hg:=ns (h g (hin f hf0 g hgc).1) (hin f hf0 g hgc).2
  unfold T2 at hg
  cases hf:P.funcs[g]? with
  |none=>simp
  |some fn=>
   rw [hf] at hg
   simp only [Bool.and_eq_true] at hg
   simp only [Option.any_some]
   cases hb:fn.body with
   |none=>rw [hb] at hg;simp at hg
   |some c=>rw [hb] at hg;simp at hg⊢;exact hg.2.2.1
 refine⟨?_,hu,?_,?_⟩
 ·unfold Program.inPlace
  rw [List.filterMap_eq_nil_iff]
  intro g hgc
  have hg:=ns (h g (hin f hf0 g hgc).1) (hin f hf0 g hgc).2
  unfold T2 at hg
  cases hf:P.funcs[g]? with
  |none=>rfl
  |some fn=>
   rw [hf] at hg
   simp only [Bool.and_eq_true,Bool.not_eq_true'] at hg
   simp only [Option.bind_some]
   rw [hg.2.1]
   rfl
 ·unfold Program.recurses
  rw [hu,Bool.false_or,List.any_eq_false]
  intro g hgc
  rw [Bool.not_eq_true,List.any_eq_false]
  intro k hk
  rw [Bool.not_eq_true]
  obtain⟨h1,hkb⟩:=yp h (hin f hf0 g hgc).1 (hin f hf0 g hgc).2 hk
  have hkr:kK R k < 1000:=Nat.lt_trans h1 (hin f hf0 g hgc).2
  have h2:∀ x∈P.closure k,kK R x≤kK R k∧lo≤x∧x < hi:=o3 (S:=fun x=>kK R x≤kK R k∧lo≤x∧x < hi) (fun a ha b hb=>⟨Nat.le_trans (Nat.le_of_lt (yp h ha.2 (by omega) hb).1) ha.1,(yp h ha.2 (by omega) hb).2⟩) ⟨Nat.le_refl _,hkb⟩
  cases hc:(P.closure k).contains g with
  |false=>rfl
  |true=>
   have:=(h2 g (List.contains_iff_mem.1 hc)).1
   omega
 unfold Program.varsNamed
 have e1:((P.closure f).flatMap fun g=>((P.funcs[g]?).bind (·.body)).elim [] Code.globalsNamed)=[]:=by
  rw [List.flatMap_eq_nil_iff]
  intro g hgc
  have hg:=ns (h g (hin f hf0 g hgc).1) (hin f hf0 g hgc).2
  unfold T2 at hg
  cases hf:P.funcs[g]? with
  |none=>rfl
  |some fn=>
   rw [hf] at hg
   simp only [Bool.and_eq_true] at hg
   simp only [Option.bind_some]
   cases hb:fn.body with
   |none=>rfl
   |some c=>rw [hb] at hg;simp at hg⊢;exact hg.2.2.2
 have e2:((P.closure f).filterMap fun g=>(P.funcs[g]?).bind fun fn=>if fn.body.isNone then entryReads.lookup fn.name else none)=[]:=by
  rw [List.filterMap_eq_nil_iff]
  intro g hgc
  have hg:=ns (h g (hin f hf0 g hgc).1) (hin f hf0 g hgc).2
  unfold T2 at hg
  cases hf:P.funcs[g]? with
  |none=>rfl
  |some fn=>
   rw [hf] at hg
   simp only [Bool.and_eq_true] at hg
   simp only [Option.bind_some]
   cases hb:fn.body with
   |none=>rw [hb] at hg;simp at hg
   |some c=>rfl
 rw [e1,e2]
 rfl
def tH (l:List Nat):List Char:=l.map Char.ofNat
theorem wJ (a b:List Nat):tH (a++b)=tH a++tH b:=by simp [tH]
theorem sE (a:Nat) (b:List Nat):tH (a::b)=Char.ofNat a::tH b:=rfl
theorem pj {c:Char} (h:c≠Char.ofNat 32) (r:List Char):wordsSigns (c::r)=match wordsSigns r with
  |w::ws=>(c::w)::ws
  |[]=>[[c]]:=by
 conv=>lhs;unfold wordsSigns
 split
 ·rename_i e
  simp at e
 ·rename_i r' e
  obtain⟨e1,_⟩:=List.cons.inj e
  exact absurd e1 h
 rename_i c' r' _ e
 obtain⟨e1,e2⟩:=List.cons.inj e
 subst e1;subst e2
 rfl
theorem fo:∀ {w:List Char} (r:List Char),(∀ c∈w,c≠Char.ofNat 32)→wordsSigns (w++Char.ofNat 32::r)=w::wordsSigns r
 |[],r,_=>by
  show wordsSigns (Char.ofNat 32::r)=[]::wordsSigns r
  conv=>lhs;unfold wordsSigns
  rfl
 |c::w,r,h=>by
  rw [List.cons_append,pj (h c (List.mem_cons_self ..)),fo r (fun x hx=>h x (List.mem_cons_of_mem _ hx))]
def pz (l:List Nat):Bool:=(tH l).all fun c=>c != Char.ofNat 32
theorem kL {l:List Nat} (h:pz l=true):∀ c∈tH l,c≠Char.ofNat 32:=by
 intro c hc
 have:=List.all_eq_true.1 h c hc
 simpa using this
theorem zw {P:Program} {a b c r:List Nat} (h:P.initOrder=String.ofList (tH (a++32::(b++32::(c++32::r))))) (ha:pz a=true) (hb:pz b=true) (hc:pz c=true)
  (hm:((tH a == "harness".toList || tH a == "ownmain".toList) && isSumSigns (tH b))=true):∃ rest,behindMainWord (wordsSigns P.initOrder.toList)=tH c::rest:=by
 refine⟨wordsSigns (tH r),?_⟩
 rw [h,String.toList_ofList,wJ,sE,wJ,sE,wJ,sE,fo _ (kL ha),fo _ (kL hb),fo _ (kL hc)]
 exact if_pos hm
def yr:List Nat:=[99,117,116]
theorem Fi {P:Program} {rest:List (List Char)} (h:behindMainWord (wordsSigns P.initOrder.toList)=tH yr::rest):P.make=some .cut:=by
 unfold Program.make
 rw [h]
 rfl
theorem Bl {P:Program} {rest:List (List Char)} (h:behindMainWord (wordsSigns P.initOrder.toList)=tH yr::rest):P.liftsFinal=false:=by
 unfold Program.liftsFinal Program.headLifts
 rw [h]
 rfl
theorem Ns {P:Program} {rest:List (List Char)} (h:behindMainWord (wordsSigns P.initOrder.toList)=tH yr::rest) (l1:P.laysLater=false) (l2:P.bearsReflect=false) (l3:P.doorRows=[]):P.mayEnter=true:=by
 have l4:P.doorFits []=true:=by
  unfold Program.doorFits
  rw [l3]
  rfl
 unfold Program.mayEnter
 rw [h]
 show ((_ || _) || _)=true
 have e:stripLifts liftWords (tH yr::rest)=([],tH yr::rest):=rfl
 rw [e,l1,l2,l4]
 simp only [List.contains_nil,Bool.and_true,Bool.not_false,Bool.or_true,List.head?_cons]
 rw [show (some (tH yr) == some "cut".toList)=true from by kernel_rfl]
 simp
def uQ (P:Program) (f:FuncId) (fn:Func) (s:ChangeSpec) (c:OpenClaim):Bool:=
 c.wf (OpenSpec.ofChange s) && laidOutB P && mapsRowed P &&
 fn.params.all (P.readableRec ·) && namedTie P c.named s.vars &&
 (c.stops == []) && (P.stops == []) && (c.knobs == []) && (P.stopKnobs == []) &&
 (c.maps == (fn.params.toList++s.plain.varTypes P).any (P.mapsRec ·)) && (c.ifaces == (fn.params.toList++s.plain.varTypes P).any (P.ifacesRec ·)) && (c.mapsOut == P.mapsAmong fn.resultTypes.toList) &&
 (c.loops == (fn.params.toList++s.plain.varTypes P).any (P.loopsFrom ·)) && (c.wideKeys == (fn.params.toList++s.plain.varTypes P++fn.resultTypes.toList).any (P.wideKeysFrom ·)) &&
 s.vars.all (P.varReadable ·) && fn.resultTypes.all (fun t=>P.readableRec t && decide (t < P.types.size)) && (c.ifacesOut == fn.resultTypes.toList.any (P.ifacesRec ·)) && (c.loopsOut == fn.resultTypes.toList.any (P.loopsFrom ·)) && (c.plainKeys == P.plainKeys) && c.shortTexts.isNone && P.stopsHeard && (c.kinds == (if c.domain.isEmpty then [] else fn.params.toList.map fun t=>match P.underlying t with|some (.int k)=>some k|_=>none)) && (c.pinned == c.pinnedBy) &&
 (c.veiled == (fn.params.toList++s.plain.varTypes P++fn.resultTypes.toList).any (P.veiledRec ·)) && c.veiledFits P fn.params.toList (fn.params.toList++s.plain.varTypes P++fn.resultTypes.toList)
theorem Bm {P:Program} {f:FuncId} {fn:Func} {s:ChangeSpec} {c:OpenClaim} (g:P.inPlace f=[]∧P.unfollowed f=false∧P.recurses f=false∧P.varsNamed f=[]) (c1:c.inPlace=[]) (c2:c.unfollowed=false) (c3:c.recurses=false) (c4:c.named=[])
  (m1:P.mayEnter=true) (m2:P.liftsFinal=false) (m3:P.make=some .cut) (d2:c.lifted=false) (d3:c.make=.cut) (h:uQ P f fn s c=true):joinedFacts P f fn s c=true:=by
 obtain⟨g1,g2,g3,g4⟩:=g
 unfold uQ at h
 unfold joinedFacts
 simp only [Bool.and_eq_true] at h⊢
 obtain⟨⟨⟨⟨⟨⟨⟨⟨⟨⟨⟨⟨⟨⟨⟨⟨⟨⟨⟨⟨⟨⟨⟨⟨k1,k2⟩,k3⟩,k4⟩,k5⟩,k6⟩,k7⟩,k8⟩,k9⟩,k14⟩,k15⟩,k16⟩,k17⟩,k17b⟩,k18⟩,k19⟩,k20⟩,k21⟩,k22⟩,k23⟩,k23b⟩,k25⟩,k26⟩,k27⟩,k28⟩:=h
 refine⟨⟨⟨⟨⟨⟨⟨⟨⟨⟨⟨⟨⟨⟨⟨⟨⟨⟨⟨⟨⟨⟨⟨⟨⟨⟨⟨⟨⟨⟨⟨k1,k2⟩,k3⟩,k4⟩,k5⟩,k6⟩,k7⟩,k8⟩,k9⟩,?_⟩,?_⟩,?_⟩,?_⟩,k14⟩,k15⟩,k16⟩,k17⟩,k17b⟩,k18⟩,k19⟩,k20⟩,k21⟩,k22⟩,k23⟩,k23b⟩,m1⟩,?_⟩,?_⟩,k25⟩,k26⟩,k27⟩,k28⟩
 ·rw [c1,g1];rfl
 ·rw [c2,g2];rfl
 ·rw [c3,g3];rfl
 ·rw [c4,g4];rfl
 ·rw [d2,m2];rfl
 rw [d3,m3];exact beq_self_eq_true _
end
section
open Go
def sF:Nat:=4127709296514965581574130207898135477016090583860908683816611082416418699306445256048521739119197038800133040607493888136482878208103614867012897715814327383968937771184328743299043727432674766419352034296194189775915105123969475293047942064567987957297746772036274141639756143335356454459961757787509386274028167290170246131744033739594570797354585001949071822530778719924940354914106281572781863363488089547028258024140349189318048278987666063170120712240749526075327643276220391292031336896819321013677037754123209363458104387510212956123100663545909959687419025493818178590660849905795661169957897195758119496797435787912940154068190295988193834433306309441611741002576257999632158580715036778986185081028624194807369837696392018307437665091664616222300008628503877977449765822556614231222086308138610323895409789901619308495286034686304374946829222880609672737256789539618474361372020835263858969252764648897897054969936028641130542336383816375451655683889803144669746003408824795384829433287363740816669912802580539021104906242122941374875731503349760
theorem YZ:(List.range' 3 16).all (o2 Tryz.prog sF 3 336)=true:=by kernel_rfl
theorem Y0:(List.range' 19 16).all (o2 Tryz.prog sF 3 336)=true:=by kernel_rfl
theorem Y1:(List.range' 35 16).all (o2 Tryz.prog sF 3 336)=true:=by kernel_rfl
theorem Y2:(List.range' 51 16).all (o2 Tryz.prog sF 3 336)=true:=by kernel_rfl
theorem Y3:(List.range' 67 16).all (o2 Tryz.prog sF 3 336)=true:=by kernel_rfl
theorem Y4:(List.range' 83 16).all (o2 Tryz.prog sF 3 336)=true:=by kernel_rfl
theorem Y5:(List.range' 99 16).all (o2 Tryz.prog sF 3 336)=true:=by kernel_rfl
theorem Y6:(List.range' 115 16).all (o2 Tryz.prog sF 3 336)=true:=by kernel_rfl
theorem Y7:(List.range' 131 16).all (o2 Tryz.prog sF 3 336)=true:=by kernel_rfl
theorem Y8:(List.range' 147 16).all (o2 Tryz.prog sF 3 336)=true:=by kernel_rfl
theorem T3:(List.range' 163 16).all (o2 Tryz.prog sF 3 336)=true:=by kernel_rfl
theorem T4:(List.range' 179 16).all (o2 Tryz.prog sF 3 336)=true:=by kernel_rfl
theorem T5:(List.range' 195 16).all (o2 Tryz.prog sF 3 336)=true:=by kernel_rfl
theorem T6:(List.range' 211 16).all (o2 Tryz.prog sF 3 336)=true:=by kernel_rfl
theorem T7:(List.range' 227 16).all (o2 Tryz.prog sF 3 336)=true:=by kernel_rfl
theorem T8:(List.range' 243 16).all (o2 Tryz.prog sF 3 336)=true:=by kernel_rfl
theorem T9:(List.range' 259 16).all (o2 Tryz.prog sF 3 336)=true:=by kernel_rfl
theorem T_:(List.range' 275 16).all (o2 Tryz.prog sF 3 336)=true:=by kernel_rfl
theorem Ua:(List.range' 291 16).all (o2 Tryz.prog sF 3 336)=true:=by kernel_rfl
theorem Ub:(List.range' 307 16).all (o2 Tryz.prog sF 3 336)=true:=by kernel_rfl
theorem Uc:(List.range' 323 13).all (o2 Tryz.prog sF 3 336)=true:=by kernel_rfl
theorem Nt (g:Nat) (h:3≤g∧g < 336):o2 Tryz.prog sF 3 336 g=true:=by
 rcases (by omega:(3≤g∧g < 19)∨(19≤g∧g < 35)∨(35≤g∧g < 51)∨(51≤g∧g < 67)∨(67≤g∧g < 83)∨(83≤g∧g < 99)∨(99≤g∧g < 115)∨(115≤g∧g < 131)∨(131≤g∧g < 147)∨(147≤g∧g < 163)∨(163≤g∧g < 179)∨(179≤g∧g < 195)∨(195≤g∧g < 211)∨(211≤g∧g < 227)∨(227≤g∧g < 243)∨(243≤g∧g < 259)∨(259≤g∧g < 275)∨(275≤g∧g < 291)∨(291≤g∧g < 307)∨(307≤g∧g < 323)∨(323≤g∧g < 336)) with h|h|h|h|h|h|h|h|h|h|h|h|h|h|h|h|h|h|h|h|h
 ·exact List.all_eq_true.1 YZ g (List.mem_range'_1.2 h)
 ·exact List.all_eq_true.1 Y0 g (List.mem_range'_1.2 h)
 ·exact List.all_eq_true.1 Y1 g (List.mem_range'_1.2 h)
 ·exact List.all_eq_true.1 Y2 g (List.mem_range'_1.2 h)
 ·exact List.all_eq_true.1 Y3 g (List.mem_range'_1.2 h)
 ·exact List.all_eq_true.1 Y4 g (List.mem_range'_1.2 h)
 ·exact List.all_eq_true.1 Y5 g (List.mem_range'_1.2 h)
 ·exact List.all_eq_true.1 Y6 g (List.mem_range'_1.2 h)
 ·exact List.all_eq_true.1 Y7 g (List.mem_range'_1.2 h)
 ·exact List.all_eq_true.1 Y8 g (List.mem_range'_1.2 h)
 ·exact List.all_eq_true.1 T3 g (List.mem_range'_1.2 h)
 ·exact List.all_eq_true.1 T4 g (List.mem_range'_1.2 h)
 ·exact List.all_eq_true.1 T5 g (List.mem_range'_1.2 h)
 ·exact List.all_eq_true.1 T6 g (List.mem_range'_1.2 h)
 ·exact List.all_eq_true.1 T7 g (List.mem_range'_1.2 h)
 ·exact List.all_eq_true.1 T8 g (List.mem_range'_1.2 h)
 ·exact List.all_eq_true.1 T9 g (List.mem_range'_1.2 h)
 ·exact List.all_eq_true.1 T_ g (List.mem_range'_1.2 h)
 ·exact List.all_eq_true.1 Ua g (List.mem_range'_1.2 h)
 ·exact List.all_eq_true.1 Ub g (List.mem_range'_1.2 h)
 exact List.all_eq_true.1 Uc g (List.mem_range'_1.2 h)
theorem n7:∃ rest,behindMainWord (wordsSigns Tryz.prog.initOrder.toList)=tH yr::rest:=
 zw (a:=[104,97,114,110,101,115,115]) (b:=[98,50,49,51,99,48,57,53,51,54,102,50,51,102,100,51,57,57,102,56,52,48,56,57,100,102,57,56,48,54,98,55,98,100,101,48,48,50,101,55,102,97,53,48,48,56,101,100,102,51,99,102,51,55,56,99,57,54,49,56,50,98,100,101]) (c:=yr) (r:=[97,116,32,108,111,111,112,46,101,120,97,109,112,108,101,47,103,48,48,57,54,55,47,108,97,119,115,46,70,110,69,120,97,99,116,70,105,114,115,116,85,110,115,97,102,101,32,108,111,111,112,46,101,120,97,109,112,108,101,47,103,48,48,57,54,55,47,108,97,119,115,46,70,110,69,120,97,99,116,76,105,118,101,100,32,108,111,111,112,46,101,120,97,109,112,108,101,47,103,48,48,57,54,55,47,108,97,119,115,46,70,110,69,120,97,99,116,68,111,110,101,32,108,111,111,112,46,101,120,97,109,112,108,101,47,103,48,48,57,54,55,47,108,97,119,115,46,70,110,69,120,97,99,116,67,97,108,109,82,111,117,110,100,32,108,111,111,112,46,101,120,97,109,112,108,101,47,103,48,48,57,54,55,47,108,97,119,115,46,70,110,69,120,97,99,116,67,97,108,109,82,111,117,110,100,115]) (by kernel_rfl) (by kernel_rfl) (by kernel_rfl) (by kernel_rfl) (by kernel_rfl)
theorem Ud:Tryz.prog.laysLater=false:=by kernel_rfl
theorem Ue:Tryz.prog.bearsReflect=false:=by kernel_rfl
theorem Uf:Tryz.prog.doorRows=[]:=by kernel_rfl
theorem Nu:Tryz.prog.mayEnter=true:=n7.elim fun _ h=>Ns h Ud Ue Uf
theorem Bn:Tryz.prog.liftsFinal=false:=n7.elim fun _ h=>Bl h
theorem Fj:Tryz.prog.make=some .cut:=n7.elim fun _ h=>Fi h
theorem Bo (f:Nat) (h:((Nat.ble 3 f && Nat.blt f 336) && Nat.blt (kK sF f) 1000)=true):Tryz.prog.inPlace f=[]∧Tryz.prog.unfollowed f=false∧Tryz.prog.recurses f=false∧Tryz.prog.varsNamed f=[]:=
 yq Nt f (by simpa only [Bool.and_eq_true,Nat.ble_eq,Nat.blt_eq] using h)
end
end Go.Proofs.YtbgakfbnkkfbkaaGreat
