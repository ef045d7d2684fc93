/-
  Texts merged for this claim by shake.py: what its proof needs.
-/
import Derived.Test.YtjghbknhneffjaaGreatZFnBaseA
import Derived.Test.YtjghbknhneffjaaGreatZFnBaseB
import Derived.Test.YtjghbknhneffjaaGreatZFnBaseC
import Derived.Test.YtjghbknhneffjaaGreatZFnBaseD
import Derived.Test.YtjghbknhneffjaaGreatZFnBaseF
import Derived.Test.YtjghbknhneffjaaGreatZFnBaseG
import Derived.Test.YtjghbknhneffjaaGreatZFnBaseJ
set_option maxHeartbeats 16000000
set_option maxRecDepth 100000
set_option linter.unusedVariables false
set_option linter.unusedSimpArgs false
namespace Go.Proofs.YtjghbknhneffjaaGreat
section
open Go.RowKit
theorem zy (w:WorldD) (pos many:Int) (text:List UInt8) (ad:AddrD) (le:LetterD) (hw:SmallD w) (htx:text.length<=1048576):
  aP 169 [.ag (w.cs 0),.ag (ActD.cs ⟨1,1,pos,many,text,ad,le⟩)] (w.hp false) (.tu [.ag (WorldD.cs (an 1 { w with wroteA:=w.wroteA++text.take (cc w.a text).2,a:=(aA w.a text).1 } (aA w.a text).2) 21),.sc (.int .i64 0)]) (w.hp false++WorldD.hp (an 1 { w with wroteA:=w.wroteA++text.take (cc w.a text).2,a:=(aA w.a text).1 } (aA w.a text).2) true):=by
 have hX:=iQ w.a text hw.p.s.a htx (jc hw.oa)
 have hsm:=ij (t:=text) hw.p.s.a
 have hlen:=jY w.a text
 have hEA:aP 74 [.ag (w.cs 0),.sc (.int .i64 1)] (w.hp false) (.ag (w.a.cs 21)) (w.hp false++w.a.hp true):=bq w 1 hw.p.s.a.own hw.p.s.a.far hw.p.s.a.subs hw.p.s.a.halfs hw.p.s.a.list hw.p.s.a.done hw.p.s.a.over hw.p.s.b.own hw.p.s.b.far hw.p.s.b.subs hw.p.s.b.halfs hw.p.s.b.list hw.p.s.b.done hw.p.s.b.over
 have hX2:=i_ w.a text hw.p.s.a htx
 have hwl:=sf w.a text
 obtain⟨wr,hwr⟩:∃ p,p=cc w.a text:=⟨_,rfl⟩
 rw [<-hwr] at hX2 hwl⊢
 obtain⟨e0,n0⟩:=wr
 dsimp only at hX2 hwl⊢
 obtain⟨pr,hpr⟩:∃ p,p=aA w.a text:=⟨_,rfl⟩
 rw [<-hpr] at hX hsm hlen⊢
 obtain⟨e1,l1⟩:=pr
 dsimp only at hX hsm hlen⊢
 have hset:=dc { w with wroteA:=w.wroteA++text.take n0 } e1
 have hpost:=df { w with wroteA:=w.wroteA++text.take n0,a:=e1 } l1 ⟨hsm,hw.p.s.b,hw.p.s.bag,hw.p.s.past,hw.p.s.keys,hw.p.s.tags,hw.p.s.nums,hw.p.s.ansA,hw.p.s.ansB⟩ (by first|omega|simp)
 have hends:=ba (side:=1) (l:=l1) (w:={ w with wroteA:=w.wroteA++text.take n0,a:=e1 })
 obtain⟨R,hR⟩:∃ R,R=an 1 { w with wroteA:=w.wroteA++text.take n0,a:=e1 } l1:=⟨_,rfl⟩
 rw [<-hR] at hpost hends⊢
 clear hR
 obtain⟨ra,rb,bag,past,wA,wB,rA,rB,known,nums,nsA,nsB⟩:=R
 obtain⟨keys,tags⟩:=known
 dsimp only at hends
 obtain⟨g1,g2,g3,g4,g5,g6⟩:=hends
 replace g1:=g1.symm
 replace g2:=g2.symm
 replace g3:=g3.symm
 replace g4:=g4.symm
 replace g5:=g5.symm
 replace g6:=g6.symm
 subst g1 g2 g3 g4 g5 g6
 have htk:(text.take n0).length<=1048576:=by rw [List.length_take];omega
 have hWr:=es w 1 (text.take n0) [] hw.s htk (by simp)
 rw [sx] at hWr
 refine gU Tryz.func169 Tryz.ntmps169 Tryz.results169 fun E hE=>?_
 refine qK (hEA) (qI 0 21) ?_
 refine qK (hX2) (qI 24 7) ?_
 refine qD [0,1,2,3,4,5,6,7,8] ?_
 refine aQ (hWr) (qI 0 21) ?_
 refine⟨qC,ac 400 ?_⟩
 try simp (disch:=omega) only [go_sem,seval,dT,bR]
 refine qK (hX) (qI 24 7) ?_
 refine qD [0,1,2,3,5,6,7,4,8,9,10] ?_
 refine aQ (hset) (qI 0 21++qI 41 7) ?_
 refine aQ (hpost) (qI 41 7++qI 7 14++qI 48 1) ?_
 refine qG ?_
 exact dk (qI 0 21++qI 49 21)
theorem zz (w:WorldD) (pos many:Int) (text:List UInt8) (ad:AddrD) (le:LetterD) (hw:SmallD w) (htx:text.length<=1048576):
  aP 169 [.ag (w.cs 0),.ag (ActD.cs ⟨2,1,pos,many,text,ad,le⟩)] (w.hp false) (.tu [.ag (WorldD.cs (an 1 { w with readA:=w.readA++(bi w.a many).2,a:=((bi w.a many).1,([]:List LetterD)).1 } ((bi w.a many).1,([]:List LetterD)).2) 21),.sc (.int .i64 0)]) (w.hp false++WorldD.hp (an 1 { w with readA:=w.readA++(bi w.a many).2,a:=((bi w.a many).1,([]:List LetterD)).1 } ((bi w.a many).1,([]:List LetterD)).2) true):=by
 have hX:=oZ w.a many hw.p.s.a hw.p.pa
 have hsm:=ik (m:=many) hw.p.s.a
 have hEA:aP 74 [.ag (w.cs 0),.sc (.int .i64 1)] (w.hp false) (.ag (w.a.cs 21)) (w.hp false++w.a.hp true):=bq w 1 hw.p.s.a.own hw.p.s.a.far hw.p.s.a.subs hw.p.s.a.halfs hw.p.s.a.list hw.p.s.a.done hw.p.s.a.over hw.p.s.b.own hw.p.s.b.far hw.p.s.b.subs hw.p.s.b.halfs hw.p.s.b.list hw.p.s.b.done hw.p.s.b.over
 obtain⟨pr,hpr⟩:∃ p,p=bi w.a many:=⟨_,rfl⟩
 have hrl:(bi w.a many).2.length<=1048576:=kx hw.p.pa
 rw [<-hpr] at hX hsm hrl⊢
 obtain⟨e1,t1⟩:=pr
 dsimp only at hX hsm hrl⊢
 obtain⟨l1,hl1⟩:∃ l:List LetterD,l=[]:=⟨_,rfl⟩
 have hlen:l1.length<=1:=by rw [hl1];simp
 have hset:=dc { w with readA:=w.readA++t1 } e1
 have hpost:=df { w with readA:=w.readA++t1,a:=e1 } [] ⟨hsm,hw.p.s.b,hw.p.s.bag,hw.p.s.past,hw.p.s.keys,hw.p.s.tags,hw.p.s.nums,hw.p.s.ansA,hw.p.s.ansB⟩ (by first|omega|simp)
 have hends:=ba (side:=1) (l:=[]) (w:={ w with readA:=w.readA++t1,a:=e1 })
 obtain⟨R,hR⟩:∃ R,R=an 1 { w with readA:=w.readA++t1,a:=e1 } []:=⟨_,rfl⟩
 rw [<-hR] at hpost hends⊢
 clear hR
 obtain⟨ra,rb,bag,past,wA,wB,rA,rB,known,nums,nsA,nsB⟩:=R
 obtain⟨keys,tags⟩:=known
 dsimp only at hends
 obtain⟨g1,g2,g3,g4,g5,g6⟩:=hends
 replace g1:=g1.symm
 replace g2:=g2.symm
 replace g3:=g3.symm
 replace g4:=g4.symm
 replace g5:=g5.symm
 replace g6:=g6.symm
 subst g1 g2 g3 g4 g5 g6
 have hWr:=es w 1 [] t1 hw.s (by simp) hrl
 rw [sy] at hWr
 refine gU Tryz.func169 Tryz.ntmps169 Tryz.results169 fun E hE=>?_
 refine qK (hEA) (qI 0 21) ?_
 refine qK (hX) (qI 24 7) ?_
 refine qK (hWr) (qI 0 21) ?_
 try simp (disch:=omega) only [go_sem,seval,dT,bR]
 refine qD [0,1,2,3,5,6,7,4,8,9,10] ?_
 refine aQ (hset) (qI 0 21++qI 33 7) ?_
 refine aQ (hpost) (qI 33 7++qI 7 14++qI 32 1) ?_
 refine qG ?_
 exact dk (qI 0 21++qI 40 21)
theorem zA (w:WorldD) (pos many:Int) (text:List UInt8) (ad:AddrD) (le:LetterD) (hw:SmallD w) (htx:text.length<=1048576):
  aP 169 [.ag (w.cs 0),.ag (ActD.cs ⟨4,1,pos,many,text,ad,le⟩)] (w.hp false) (.tu [.ag (WorldD.cs (an 1 { w with a:=(bb w.a).1 } (bb w.a).2) 21),.sc (.int .i64 0)]) (w.hp false++WorldD.hp (an 1 { w with a:=(bb w.a).1 } (bb w.a).2) true):=by
 have hX:=lc w.a hw.p.s.a
 have hsm:=gu hw.p.s.a
 have hlen:=no w.a
 have hEA:aP 74 [.ag (w.cs 0),.sc (.int .i64 1)] (w.hp false) (.ag (w.a.cs 21)) (w.hp false++w.a.hp true):=bq w 1 hw.p.s.a.own hw.p.s.a.far hw.p.s.a.subs hw.p.s.a.halfs hw.p.s.a.list hw.p.s.a.done hw.p.s.a.over hw.p.s.b.own hw.p.s.b.far hw.p.s.b.subs hw.p.s.b.halfs hw.p.s.b.list hw.p.s.b.done hw.p.s.b.over
 obtain⟨pr,hpr⟩:∃ p,p=bb w.a:=⟨_,rfl⟩
 rw [<-hpr] at hX hsm hlen⊢
 obtain⟨e1,l1⟩:=pr
 dsimp only at hX hsm hlen⊢
 have hset:=dc w e1
 have hpost:=df { w with a:=e1 } l1 ⟨hsm,hw.p.s.b,hw.p.s.bag,hw.p.s.past,hw.p.s.keys,hw.p.s.tags,hw.p.s.nums,hw.p.s.ansA,hw.p.s.ansB⟩ (by first|omega|simp)
 have hends:=ba (side:=1) (l:=l1) (w:={ w with a:=e1 })
 obtain⟨R,hR⟩:∃ R,R=an 1 { w with a:=e1 } l1:=⟨_,rfl⟩
 rw [<-hR] at hpost hends⊢
 clear hR
 obtain⟨ra,rb,bag,past,wA,wB,rA,rB,known,nums,nsA,nsB⟩:=R
 obtain⟨keys,tags⟩:=known
 dsimp only at hends
 obtain⟨g1,g2,g3,g4,g5,g6⟩:=hends
 replace g1:=g1.symm
 replace g2:=g2.symm
 replace g3:=g3.symm
 replace g4:=g4.symm
 replace g5:=g5.symm
 replace g6:=g6.symm
 subst g1 g2 g3 g4 g5 g6
 refine gU Tryz.func169 Tryz.ntmps169 Tryz.results169 fun E hE=>?_
 refine qK (hEA) (qI 0 21) ?_
 refine qK (hX) (qI 24 7) ?_
 refine qD [0,1,2,3,5,6,7,4,8,9,10] ?_
 refine aQ (hset) (qI 0 21++qI 33 7) ?_
 refine aQ (hpost) (qI 33 7++qI 7 14++qI 40 1) ?_
 refine qG ?_
 exact dk (qI 0 21++qI 41 21)
theorem zB (w:WorldD) (pos many:Int) (text:List UInt8) (ad:AddrD) (le:LetterD) (hw:SmallD w) (htx:text.length<=1048576) (hsd:sideAt ad.addr=1) (hgood:(az w.a ad).2=true):
  aP 169 [.ag (w.cs 0),.ag (ActD.cs ⟨5,1,pos,many,text,ad,le⟩)] (w.hp false) (.tu [.ag (WorldD.cs (an 1 { w with a:=((az w.a ad).1,([]:List LetterD)).1 } ((az w.a ad).1,([]:List LetterD)).2) 21),.sc (.int .i64 0)]) (w.hp false++WorldD.hp (an 1 { w with a:=((az w.a ad).1,([]:List LetterD)).1 } ((az w.a ad).1,([]:List LetterD)).2) true):=by
 have hX:=fy w.a ad hw.p.s.a
 have hsm:=dU (a:=ad) hw.p.s.a
 have hEA:aP 74 [.ag (w.cs 0),.sc (.int .i64 1)] (w.hp false) (.ag (w.a.cs 21)) (w.hp false++w.a.hp true):=bq w 1 hw.p.s.a.own hw.p.s.a.far hw.p.s.a.subs hw.p.s.a.halfs hw.p.s.a.list hw.p.s.a.done hw.p.s.a.over hw.p.s.b.own hw.p.s.b.far hw.p.s.b.subs hw.p.s.b.halfs hw.p.s.b.list hw.p.s.b.done hw.p.s.b.over
 obtain⟨pr,hpr⟩:∃ p,p=az w.a ad:=⟨_,rfl⟩
 rw [<-hpr] at hX hsm hgood⊢
 obtain⟨e1,ok1⟩:=pr
 dsimp only at hX hsm hgood⊢
 subst hgood
 obtain⟨l1,hl1⟩:∃ l:List LetterD,l=[]:=⟨_,rfl⟩
 have hlen:l1.length<=1:=by rw [hl1];simp
 have hset:=dc w e1
 have hpost:=df { w with a:=e1 } [] ⟨hsm,hw.p.s.b,hw.p.s.bag,hw.p.s.past,hw.p.s.keys,hw.p.s.tags,hw.p.s.nums,hw.p.s.ansA,hw.p.s.ansB⟩ (by first|omega|simp)
 have hends:=ba (side:=1) (l:=[]) (w:={ w with a:=e1 })
 obtain⟨R,hR⟩:∃ R,R=an 1 { w with a:=e1 } []:=⟨_,rfl⟩
 rw [<-hR] at hpost hends⊢
 clear hR
 obtain⟨ra,rb,bag,past,wA,wB,rA,rB,known,nums,nsA,nsB⟩:=R
 obtain⟨keys,tags⟩:=known
 dsimp only at hends
 obtain⟨g1,g2,g3,g4,g5,g6⟩:=hends
 replace g1:=g1.symm
 replace g2:=g2.symm
 replace g3:=g3.symm
 replace g4:=g4.symm
 replace g5:=g5.symm
 replace g6:=g6.symm
 subst g1 g2 g3 g4 g5 g6
 have hSd:=cV ad.addr
 rw [hsd] at hSd
 refine gU Tryz.func169 Tryz.ntmps169 Tryz.results169 fun E hE=>?_
 refine qK (hEA) (qI 0 21) ?_
 refine qK (hX) (qI 24 7) ?_
 refine qD [0,1,2,3,4,5,7,8,6,9,10] ?_
 refine aQ (hSd) [] ?_
 refine qG ?_
 refine qD [0,1,2,3,5,6,7,4,8,9,10] ?_
 refine aQ (hset) (qI 0 21++qI 33 7) ?_
 refine aQ (hpost) (qI 33 7++qI 7 14++qI 32 1) ?_
 refine qG ?_
 exact dk (qI 0 21++qI 40 21)
theorem zC (w:WorldD) (pos many:Int) (text:List UInt8) (ad:AddrD) (le:LetterD) (hw:SmallD w) (htx:text.length<=1048576):
  aP 169 [.ag (w.cs 0),.ag (ActD.cs ⟨1,2,pos,many,text,ad,le⟩)] (w.hp false) (.tu [.ag (WorldD.cs (an 2 { w with wroteB:=w.wroteB++text.take (cc w.b text).2,b:=(aA w.b text).1 } (aA w.b text).2) 21),.sc (.int .i64 0)]) (w.hp false++WorldD.hp (an 2 { w with wroteB:=w.wroteB++text.take (cc w.b text).2,b:=(aA w.b text).1 } (aA w.b text).2) true):=by
 have hX:=iQ w.b text hw.p.s.b htx (jc hw.ob)
 have hsm:=ij (t:=text) hw.p.s.b
 have hlen:=jY w.b text
 have hEA:aP 74 [.ag (w.cs 0),.sc (.int .i64 2)] (w.hp false) (.ag (w.b.cs 21)) (w.hp false++w.b.hp true):=bq w 2 hw.p.s.a.own hw.p.s.a.far hw.p.s.a.subs hw.p.s.a.halfs hw.p.s.a.list hw.p.s.a.done hw.p.s.a.over hw.p.s.b.own hw.p.s.b.far hw.p.s.b.subs hw.p.s.b.halfs hw.p.s.b.list hw.p.s.b.done hw.p.s.b.over
 have hX2:=i_ w.b text hw.p.s.b htx
 have hwl:=sf w.b text
 obtain⟨wr,hwr⟩:∃ p,p=cc w.b text:=⟨_,rfl⟩
 rw [<-hwr] at hX2 hwl⊢
 obtain⟨e0,n0⟩:=wr
 dsimp only at hX2 hwl⊢
 obtain⟨pr,hpr⟩:∃ p,p=aA w.b text:=⟨_,rfl⟩
 rw [<-hpr] at hX hsm hlen⊢
 obtain⟨e1,l1⟩:=pr
 dsimp only at hX hsm hlen⊢
 have hset:=de { w with wroteB:=w.wroteB++text.take n0 } e1
 have hpost:=dg { w with wroteB:=w.wroteB++text.take n0,b:=e1 } l1 ⟨hw.p.s.a,hsm,hw.p.s.bag,hw.p.s.past,hw.p.s.keys,hw.p.s.tags,hw.p.s.nums,hw.p.s.ansA,hw.p.s.ansB⟩ (by first|omega|simp)
 have hends:=ba (side:=2) (l:=l1) (w:={ w with wroteB:=w.wroteB++text.take n0,b:=e1 })
 obtain⟨R,hR⟩:∃ R,R=an 2 { w with wroteB:=w.wroteB++text.take n0,b:=e1 } l1:=⟨_,rfl⟩
 rw [<-hR] at hpost hends⊢
 clear hR
 obtain⟨ra,rb,bag,past,wA,wB,rA,rB,known,nums,nsA,nsB⟩:=R
 obtain⟨keys,tags⟩:=known
 dsimp only at hends
 obtain⟨g1,g2,g3,g4,g5,g6⟩:=hends
 replace g1:=g1.symm
 replace g2:=g2.symm
 replace g3:=g3.symm
 replace g4:=g4.symm
 replace g5:=g5.symm
 replace g6:=g6.symm
 subst g1 g2 g3 g4 g5 g6
 have htk:(text.take n0).length<=1048576:=by rw [List.length_take];omega
 have hWr:=es w 2 (text.take n0) [] hw.s htk (by simp)
 rw [sx] at hWr
 refine gU Tryz.func169 Tryz.ntmps169 Tryz.results169 fun E hE=>?_
 refine qK (hEA) (qI 0 21) ?_
 refine qK (hX2) (qI 24 7) ?_
 refine qD [0,1,2,3,4,5,6,7,8] ?_
 refine aQ (hWr) (qI 0 21) ?_
 refine⟨qC,ac 400 ?_⟩
 try simp (disch:=omega) only [go_sem,seval,dT,bR]
 refine qK (hX) (qI 24 7) ?_
 refine qD [0,1,2,3,5,6,7,4,8,9,10] ?_
 refine aQ (hset) (qI 0 21++qI 41 7) ?_
 refine aQ (hpost) (qI 0 7++qI 41 7++qI 14 7++qI 48 1) ?_
 refine qG ?_
 exact dk (qI 0 21++qI 49 21)
theorem zD (w:WorldD) (pos many:Int) (text:List UInt8) (ad:AddrD) (le:LetterD) (hw:SmallD w) (htx:text.length<=1048576):
  aP 169 [.ag (w.cs 0),.ag (ActD.cs ⟨2,2,pos,many,text,ad,le⟩)] (w.hp false) (.tu [.ag (WorldD.cs (an 2 { w with readB:=w.readB++(bi w.b many).2,b:=((bi w.b many).1,([]:List LetterD)).1 } ((bi w.b many).1,([]:List LetterD)).2) 21),.sc (.int .i64 0)]) (w.hp false++WorldD.hp (an 2 { w with readB:=w.readB++(bi w.b many).2,b:=((bi w.b many).1,([]:List LetterD)).1 } ((bi w.b many).1,([]:List LetterD)).2) true):=by
 have hX:=oZ w.b many hw.p.s.b hw.p.pb
 have hsm:=ik (m:=many) hw.p.s.b
 have hEA:aP 74 [.ag (w.cs 0),.sc (.int .i64 2)] (w.hp false) (.ag (w.b.cs 21)) (w.hp false++w.b.hp true):=bq w 2 hw.p.s.a.own hw.p.s.a.far hw.p.s.a.subs hw.p.s.a.halfs hw.p.s.a.list hw.p.s.a.done hw.p.s.a.over hw.p.s.b.own hw.p.s.b.far hw.p.s.b.subs hw.p.s.b.halfs hw.p.s.b.list hw.p.s.b.done hw.p.s.b.over
 obtain⟨pr,hpr⟩:∃ p,p=bi w.b many:=⟨_,rfl⟩
 have hrl:(bi w.b many).2.length<=1048576:=kx hw.p.pb
 rw [<-hpr] at hX hsm hrl⊢
 obtain⟨e1,t1⟩:=pr
 dsimp only at hX hsm hrl⊢
 obtain⟨l1,hl1⟩:∃ l:List LetterD,l=[]:=⟨_,rfl⟩
 have hlen:l1.length<=1:=by rw [hl1];simp
 have hset:=de { w with readB:=w.readB++t1 } e1
 have hpost:=dg { w with readB:=w.readB++t1,b:=e1 } [] ⟨hw.p.s.a,hsm,hw.p.s.bag,hw.p.s.past,hw.p.s.keys,hw.p.s.tags,hw.p.s.nums,hw.p.s.ansA,hw.p.s.ansB⟩ (by first|omega|simp)
 have hends:=ba (side:=2) (l:=[]) (w:={ w with readB:=w.readB++t1,b:=e1 })
 obtain⟨R,hR⟩:∃ R,R=an 2 { w with readB:=w.readB++t1,b:=e1 } []:=⟨_,rfl⟩
 rw [<-hR] at hpost hends⊢
 clear hR
 obtain⟨ra,rb,bag,past,wA,wB,rA,rB,known,nums,nsA,nsB⟩:=R
 obtain⟨keys,tags⟩:=known
 dsimp only at hends
 obtain⟨g1,g2,g3,g4,g5,g6⟩:=hends
 replace g1:=g1.symm
 replace g2:=g2.symm
 replace g3:=g3.symm
 replace g4:=g4.symm
 replace g5:=g5.symm
 replace g6:=g6.symm
 subst g1 g2 g3 g4 g5 g6
 have hWr:=es w 2 [] t1 hw.s (by simp) hrl
 rw [sy] at hWr
 refine gU Tryz.func169 Tryz.ntmps169 Tryz.results169 fun E hE=>?_
 refine qK (hEA) (qI 0 21) ?_
 refine qK (hX) (qI 24 7) ?_
 refine qK (hWr) (qI 0 21) ?_
 try simp (disch:=omega) only [go_sem,seval,dT,bR]
 refine qD [0,1,2,3,5,6,7,4,8,9,10] ?_
 refine aQ (hset) (qI 0 21++qI 33 7) ?_
 refine aQ (hpost) (qI 0 7++qI 33 7++qI 14 7++qI 32 1) ?_
 refine qG ?_
 exact dk (qI 0 21++qI 40 21)
theorem zE (w:WorldD) (pos many:Int) (text:List UInt8) (ad:AddrD) (le:LetterD) (hw:SmallD w) (htx:text.length<=1048576):
  aP 169 [.ag (w.cs 0),.ag (ActD.cs ⟨4,2,pos,many,text,ad,le⟩)] (w.hp false) (.tu [.ag (WorldD.cs (an 2 { w with b:=(bb w.b).1 } (bb w.b).2) 21),.sc (.int .i64 0)]) (w.hp false++WorldD.hp (an 2 { w with b:=(bb w.b).1 } (bb w.b).2) true):=by
 have hX:=lc w.b hw.p.s.b
 have hsm:=gu hw.p.s.b
 have hlen:=no w.b
 have hEA:aP 74 [.ag (w.cs 0),.sc (.int .i64 2)] (w.hp false) (.ag (w.b.cs 21)) (w.hp false++w.b.hp true):=bq w 2 hw.p.s.a.own hw.p.s.a.far hw.p.s.a.subs hw.p.s.a.halfs hw.p.s.a.list hw.p.s.a.done hw.p.s.a.over hw.p.s.b.own hw.p.s.b.far hw.p.s.b.subs hw.p.s.b.halfs hw.p.s.b.list hw.p.s.b.done hw.p.s.b.over
 obtain⟨pr,hpr⟩:∃ p,p=bb w.b:=⟨_,rfl⟩
 rw [<-hpr] at hX hsm hlen⊢
 obtain⟨e1,l1⟩:=pr
 dsimp only at hX hsm hlen⊢
 have hset:=de w e1
 have hpost:=dg { w with b:=e1 } l1 ⟨hw.p.s.a,hsm,hw.p.s.bag,hw.p.s.past,hw.p.s.keys,hw.p.s.tags,hw.p.s.nums,hw.p.s.ansA,hw.p.s.ansB⟩ (by first|omega|simp)
 have hends:=ba (side:=2) (l:=l1) (w:={ w with b:=e1 })
 obtain⟨R,hR⟩:∃ R,R=an 2 { w with b:=e1 } l1:=⟨_,rfl⟩
 rw [<-hR] at hpost hends⊢
 clear hR
 obtain⟨ra,rb,bag,past,wA,wB,rA,rB,known,nums,nsA,nsB⟩:=R
 obtain⟨keys,tags⟩:=known
 dsimp only at hends
 obtain⟨g1,g2,g3,g4,g5,g6⟩:=hends
 replace g1:=g1.symm
 replace g2:=g2.symm
 replace g3:=g3.symm
 replace g4:=g4.symm
 replace g5:=g5.symm
 replace g6:=g6.symm
 subst g1 g2 g3 g4 g5 g6
 refine gU Tryz.func169 Tryz.ntmps169 Tryz.results169 fun E hE=>?_
 refine qK (hEA) (qI 0 21) ?_
 refine qK (hX) (qI 24 7) ?_
 refine qD [0,1,2,3,5,6,7,4,8,9,10] ?_
 refine aQ (hset) (qI 0 21++qI 33 7) ?_
 refine aQ (hpost) (qI 0 7++qI 33 7++qI 14 7++qI 40 1) ?_
 refine qG ?_
 exact dk (qI 0 21++qI 41 21)
theorem zF (w:WorldD) (pos many:Int) (text:List UInt8) (ad:AddrD) (le:LetterD) (hw:SmallD w) (htx:text.length<=1048576) (hsd:sideAt ad.addr=2) (hgood:(az w.b ad).2=true):
  aP 169 [.ag (w.cs 0),.ag (ActD.cs ⟨5,2,pos,many,text,ad,le⟩)] (w.hp false) (.tu [.ag (WorldD.cs (an 2 { w with b:=((az w.b ad).1,([]:List LetterD)).1 } ((az w.b ad).1,([]:List LetterD)).2) 21),.sc (.int .i64 0)]) (w.hp false++WorldD.hp (an 2 { w with b:=((az w.b ad).1,([]:List LetterD)).1 } ((az w.b ad).1,([]:List LetterD)).2) true):=by
 have hX:=fy w.b ad hw.p.s.b
 have hsm:=dU (a:=ad) hw.p.s.b
 have hEA:aP 74 [.ag (w.cs 0),.sc (.int .i64 2)] (w.hp false) (.ag (w.b.cs 21)) (w.hp false++w.b.hp true):=bq w 2 hw.p.s.a.own hw.p.s.a.far hw.p.s.a.subs hw.p.s.a.halfs hw.p.s.a.list hw.p.s.a.done hw.p.s.a.over hw.p.s.b.own hw.p.s.b.far hw.p.s.b.subs hw.p.s.b.halfs hw.p.s.b.list hw.p.s.b.done hw.p.s.b.over
 obtain⟨pr,hpr⟩:∃ p,p=az w.b ad:=⟨_,rfl⟩
 rw [<-hpr] at hX hsm hgood⊢
 obtain⟨e1,ok1⟩:=pr
 dsimp only at hX hsm hgood⊢
 subst hgood
 obtain⟨l1,hl1⟩:∃ l:List LetterD,l=[]:=⟨_,rfl⟩
 have hlen:l1.length<=1:=by rw [hl1];simp
 have hset:=de w e1
 have hpost:=dg { w with b:=e1 } [] ⟨hw.p.s.a,hsm,hw.p.s.bag,hw.p.s.past,hw.p.s.keys,hw.p.s.tags,hw.p.s.nums,hw.p.s.ansA,hw.p.s.ansB⟩ (by first|omega|simp)
 have hends:=ba (side:=2) (l:=[]) (w:={ w with b:=e1 })
 obtain⟨R,hR⟩:∃ R,R=an 2 { w with b:=e1 } []:=⟨_,rfl⟩
 rw [<-hR] at hpost hends⊢
 clear hR
 obtain⟨ra,rb,bag,past,wA,wB,rA,rB,known,nums,nsA,nsB⟩:=R
 obtain⟨keys,tags⟩:=known
 dsimp only at hends
 obtain⟨g1,g2,g3,g4,g5,g6⟩:=hends
 replace g1:=g1.symm
 replace g2:=g2.symm
 replace g3:=g3.symm
 replace g4:=g4.symm
 replace g5:=g5.symm
 replace g6:=g6.symm
 subst g1 g2 g3 g4 g5 g6
 have hSd:=cV ad.addr
 rw [hsd] at hSd
 refine gU Tryz.func169 Tryz.ntmps169 Tryz.results169 fun E hE=>?_
 refine qK (hEA) (qI 0 21) ?_
 refine qK (hX) (qI 24 7) ?_
 refine qD [0,1,2,3,4,5,7,8,6,9,10] ?_
 refine aQ (hSd) [] ?_
 refine qG ?_
 refine qD [0,1,2,3,5,6,7,4,8,9,10] ?_
 refine aQ (hset) (qI 0 21++qI 33 7) ?_
 refine aQ (hpost) (qI 0 7++qI 33 7++qI 14 7++qI 32 1) ?_
 refine qG ?_
 exact dk (qI 0 21++qI 40 21)
theorem zG (w:WorldD) (pos many:Int) (text:List UInt8) (ad:AddrD) (le:LetterD) (hw:SmallD w) (htx:text.length<=1048576):
  aP 169 [.ag (w.cs 0),.ag (ActD.cs ⟨3,1,pos,many,text,ad,le⟩)] (w.hp false) (.tu [.ag (WorldD.cs (an 1 { w with a:=(cQ w.a).1 } (cQ w.a).2) 21),.sc (.int .i64 0)]) (w.hp false++WorldD.hp (an 1 { w with a:=(cQ w.a).1 } (cQ w.a).2) true):=by
 have hX:=pf w.a hw.p.s.a hw.oa
 have hsm:=jb hw.p.s.a
 have hlen:=sA w.a
 have hEA:aP 74 [.ag (w.cs 0),.sc (.int .i64 1)] (w.hp false) (.ag (w.a.cs 21)) (w.hp false++w.a.hp true):=bq w 1 hw.p.s.a.own hw.p.s.a.far hw.p.s.a.subs hw.p.s.a.halfs hw.p.s.a.list hw.p.s.a.done hw.p.s.a.over hw.p.s.b.own hw.p.s.b.far hw.p.s.b.subs hw.p.s.b.halfs hw.p.s.b.list hw.p.s.b.done hw.p.s.b.over
 obtain⟨pr,hpr⟩:∃ p,p=cQ w.a:=⟨_,rfl⟩
 rw [<-hpr] at hX hsm hlen⊢
 obtain⟨e1,l1⟩:=pr
 dsimp only at hX hsm hlen⊢
 have hset:=dc w e1
 have hpost:=df { w with a:=e1 } l1 ⟨hsm,hw.p.s.b,hw.p.s.bag,hw.p.s.past,hw.p.s.keys,hw.p.s.tags,hw.p.s.nums,hw.p.s.ansA,hw.p.s.ansB⟩ (by first|omega|simp)
 have hends:=ba (side:=1) (l:=l1) (w:={ w with a:=e1 })
 obtain⟨R,hR⟩:∃ R,R=an 1 { w with a:=e1 } l1:=⟨_,rfl⟩
 rw [<-hR] at hpost hends⊢
 clear hR
 obtain⟨ra,rb,bag,past,wA,wB,rA,rB,known,nums,nsA,nsB⟩:=R
 obtain⟨keys,tags⟩:=known
 dsimp only at hends
 obtain⟨g1,g2,g3,g4,g5,g6⟩:=hends
 replace g1:=g1.symm
 replace g2:=g2.symm
 replace g3:=g3.symm
 replace g4:=g4.symm
 replace g5:=g5.symm
 replace g6:=g6.symm
 subst g1 g2 g3 g4 g5 g6
 refine gU Tryz.func169 Tryz.ntmps169 Tryz.results169 fun E hE=>?_
 refine qK (hEA) (qI 0 21) ?_
 refine qK (hX) (qI 24 7) ?_
 refine qD [0,1,2,3,5,6,7,4,8,9,10] ?_
 refine aQ (hset) (qI 0 21++qI 33 7) ?_
 refine aQ (hpost) (qI 33 7++qI 7 14++qI 40 1) ?_
 refine qG ?_
 exact dk (qI 0 21++qI 41 21)
theorem zH (w:WorldD) (pos many:Int) (text:List UInt8) (ad:AddrD) (le:LetterD) (hw:SmallD w) (htx:text.length<=1048576):
  aP 169 [.ag (w.cs 0),.ag (ActD.cs ⟨3,2,pos,many,text,ad,le⟩)] (w.hp false) (.tu [.ag (WorldD.cs (an 2 { w with b:=(cQ w.b).1 } (cQ w.b).2) 21),.sc (.int .i64 0)]) (w.hp false++WorldD.hp (an 2 { w with b:=(cQ w.b).1 } (cQ w.b).2) true):=by
 have hX:=pf w.b hw.p.s.b hw.ob
 have hsm:=jb hw.p.s.b
 have hlen:=sA w.b
 have hEA:aP 74 [.ag (w.cs 0),.sc (.int .i64 2)] (w.hp false) (.ag (w.b.cs 21)) (w.hp false++w.b.hp true):=bq w 2 hw.p.s.a.own hw.p.s.a.far hw.p.s.a.subs hw.p.s.a.halfs hw.p.s.a.list hw.p.s.a.done hw.p.s.a.over hw.p.s.b.own hw.p.s.b.far hw.p.s.b.subs hw.p.s.b.halfs hw.p.s.b.list hw.p.s.b.done hw.p.s.b.over
 obtain⟨pr,hpr⟩:∃ p,p=cQ w.b:=⟨_,rfl⟩
 rw [<-hpr] at hX hsm hlen⊢
 obtain⟨e1,l1⟩:=pr
 dsimp only at hX hsm hlen⊢
 have hset:=de w e1
 have hpost:=dg { w with b:=e1 } l1 ⟨hw.p.s.a,hsm,hw.p.s.bag,hw.p.s.past,hw.p.s.keys,hw.p.s.tags,hw.p.s.nums,hw.p.s.ansA,hw.p.s.ansB⟩ (by first|omega|simp)
 have hends:=ba (side:=2) (l:=l1) (w:={ w with b:=e1 })
 obtain⟨R,hR⟩:∃ R,R=an 2 { w with b:=e1 } l1:=⟨_,rfl⟩
 rw [<-hR] at hpost hends⊢
 clear hR
 obtain⟨ra,rb,bag,past,wA,wB,rA,rB,known,nums,nsA,nsB⟩:=R
 obtain⟨keys,tags⟩:=known
 dsimp only at hends
 obtain⟨g1,g2,g3,g4,g5,g6⟩:=hends
 replace g1:=g1.symm
 replace g2:=g2.symm
 replace g3:=g3.symm
 replace g4:=g4.symm
 replace g5:=g5.symm
 replace g6:=g6.symm
 subst g1 g2 g3 g4 g5 g6
 refine gU Tryz.func169 Tryz.ntmps169 Tryz.results169 fun E hE=>?_
 refine qK (hEA) (qI 0 21) ?_
 refine qK (hX) (qI 24 7) ?_
 refine qD [0,1,2,3,5,6,7,4,8,9,10] ?_
 refine aQ (hset) (qI 0 21++qI 33 7) ?_
 refine aQ (hpost) (qI 0 7++qI 33 7++qI 14 7++qI 40 1) ?_
 refine qG ?_
 exact dk (qI 0 21++qI 41 21)
def EQ (a:ActD):Prop:=a.wf/\a.text.length<=200/\cO a=true
theorem GoodW.mono {w:WorldD} {k j:Nat} (h:GoodW w k) (hk:k<=j):GoodW w j:=⟨h.a,h.b,h.r,by have:=h.wa;omega,by have:=h.wb;omega,by have:=h.ra;omega,by have:=h.rb;omega⟩
end
end Go.Proofs.YtjghbknhneffjaaGreat
