/- Lemmas of this claim. -/
import Derived.Test.YtdiiopjaebnmfaaGreatDoorZFnExactRunScriptP
set_option maxHeartbeats 16000000
set_option maxRecDepth 100000
set_option linter.unusedVariables false
set_option linter.unusedSimpArgs false
namespace Go.Proofs.YtdiiopjaebnmfaaGreatDoor
open _root_.Go.Proofs.YtdiiopjaebnmfaaGreatDoor renaming q4->qHW
open _root_.Go.Proofs.Tryz
section
open Go.RowKit
theorem De (w:WorldD) (pos many:Int) (text:List UInt8) (ad:AddrD) (le:LetterD) (hw:SmallD w) (htx:text.length<=1048576):
  aP 57 [.sc (.pt 21 0 0),.ag (ActD.cs ⟨3,1,pos,many,text,ad,le⟩)] (w.hp true++[some ⟨[w.cs 0],61,60,true,false⟩]) (.sc (.int .i64 0))
  ((nH 21++[some ⟨[WorldD.cs (ay 1 { w with a:=(tick w.a).1 } (tick w.a).2) 22],61,60,true,false⟩])++WorldD.hp (ay 1 { w with a:=(tick w.a).1 } (tick w.a).2) true):=by
 have q1:=hw.s.wa
 have q2:=hw.s.wb
 have q3:=hw.s.ra
 have q4:=hw.s.rb
 have hX:=BA w.a hw.p.s.a hw.oa
 have hsm:=lh hw.p.s.a
 have hlen:=tf w.a
 have hEA:aP 90 [.ag (w.cs 0),.sc (.int .i64 1)] (w.hp false) (.ag (w.a.cs 21)) (w.hp false++w.a.hp true):=qHW hw.p.s (cf w 1)
 obtain⟨pr,hpr⟩:∃ p,p=tick w.a:=⟨_,rfl⟩
 rw [<-hpr] at hX hsm hlen⊢
 obtain⟨e1,l1⟩:=pr
 dsimp only at hX hsm hlen⊢
 have hset:=iN w e1
 have hpost:=gN { w with a:=e1 } l1 ⟨hw.p.s.bag,hw.p.s.past,hw.p.s.keys,hw.p.s.tags,hw.p.s.nums,hw.p.s.ansA,hw.p.s.ansB⟩ (by first|omega|simp)
 have hends:=aQ (side:=1) (l:=l1) (w:={ w with a:=e1 })
 obtain⟨R,hR⟩:∃ R,R=ay 1 { w with a:=e1 } l1:=⟨_,rfl⟩
 rw [<-hR] at hpost hends⊢
 clear hR
 obtain⟨ra,rb,bag,past,wA,wB,rA,rB,known,nums,nsA,nsB⟩:=R
 obtain⟨keys,tags⟩:=known
 dsimp only at hends
 obtain⟨g1,g2,g3,g4,g5,g6⟩:=hends
 replace g1:=g1.symm
 replace g2:=g2.symm
 replace g3:=g3.symm
 replace g4:=g4.symm
 replace g5:=g5.symm
 replace g6:=g6.symm
 subst g1 g2 g3 g4 g5 g6
 refine aV func57 zXk rfl fun E hE=>ab 400 ?_
 simp (disch:=omega) only [ntmps57,results57,go_sem,seval]
 refine aR [(5,6)] [] [(qU [0,8]),[0,1,2,3,4,6,5,7]] 22 hE (fun s=>s.at (qU [13,6]) [(5,.sc (.pt 30 0 0))] (s.hp++(w.a.hp true++[some ⟨[w.a.cs 23],25,54,true,false⟩]))) zXk (qC) zXk ?_ (ab 400 ?_)
 rotate_left
 rotate_right
 simp only [aM]
 refine⟨aa 400 ?_,aa 400 ?_⟩
 ·simp (disch:=omega) only [go_sem]
  refine ak (qC) (hEA) (qI 0 21) qM zF zF (aa 400 ?_)
  simp (disch:=omega) only [go_sem,seval]
  exact qZ (qI 0 31)
 ·simp (disch:=omega) only [go_sem]
  refine ak (qC) (hEA) (qI 0 21) qM zF zF (aa 400 ?_)
  simp (disch:=omega) only [go_sem,seval]
  exact qZ (qI 0 23++qI 24 7++qI 23 1)
 try simp (disch:=omega) only [go_sem,seval]
 refine ai (qC) (hX) (qI 23 7) qM zF (ab 400 ?_)
 simp (disch:=omega) only [go_sem,seval]
 refine ai (qC) (hset) (qI 0 21++qI 31 7++qI 21 1) qM zF (ab 400 ?_)
 simp (disch:=omega) only [go_sem,seval]
 refine ai (qC) (hpost) (qI 31 7++qI 7 15++qI 38 1) qM zF (ab 400 ?_)
 simp (disch:=omega) only [go_sem,seval]
 refine aO (qI 0 22++qI 31 7++qI 7 7++qI 39 7) (qC) _ zXg zF zF ?_
 simp (disch:=omega) only [go_sem,seval]
theorem Df (w:WorldD) (pos many:Int) (text:List UInt8) (ad:AddrD) (le:LetterD) (hw:SmallD w) (htx:text.length<=1048576):
  aP 57 [.sc (.pt 21 0 0),.ag (ActD.cs ⟨3,2,pos,many,text,ad,le⟩)] (w.hp true++[some ⟨[w.cs 0],61,60,true,false⟩]) (.sc (.int .i64 0))
  ((nH 21++[some ⟨[WorldD.cs (ay 2 { w with b:=(tick w.b).1 } (tick w.b).2) 22],61,60,true,false⟩])++WorldD.hp (ay 2 { w with b:=(tick w.b).1 } (tick w.b).2) true):=by
 have q1:=hw.s.wa
 have q2:=hw.s.wb
 have q3:=hw.s.ra
 have q4:=hw.s.rb
 have hX:=BA w.b hw.p.s.b hw.ob
 have hsm:=lh hw.p.s.b
 have hlen:=tf w.b
 have hEA:aP 90 [.ag (w.cs 0),.sc (.int .i64 2)] (w.hp false) (.ag (w.b.cs 21)) (w.hp false++w.b.hp true):=qHW hw.p.s (cf w 2)
 obtain⟨pr,hpr⟩:∃ p,p=tick w.b:=⟨_,rfl⟩
 rw [<-hpr] at hX hsm hlen⊢
 obtain⟨e1,l1⟩:=pr
 dsimp only at hX hsm hlen⊢
 have hset:=iO w e1
 have hpost:=gO { w with b:=e1 } l1 ⟨hw.p.s.bag,hw.p.s.past,hw.p.s.keys,hw.p.s.tags,hw.p.s.nums,hw.p.s.ansA,hw.p.s.ansB⟩ (by first|omega|simp)
 have hends:=aQ (side:=2) (l:=l1) (w:={ w with b:=e1 })
 obtain⟨R,hR⟩:∃ R,R=ay 2 { w with b:=e1 } l1:=⟨_,rfl⟩
 rw [<-hR] at hpost hends⊢
 clear hR
 obtain⟨ra,rb,bag,past,wA,wB,rA,rB,known,nums,nsA,nsB⟩:=R
 obtain⟨keys,tags⟩:=known
 dsimp only at hends
 obtain⟨g1,g2,g3,g4,g5,g6⟩:=hends
 replace g1:=g1.symm
 replace g2:=g2.symm
 replace g3:=g3.symm
 replace g4:=g4.symm
 replace g5:=g5.symm
 replace g6:=g6.symm
 subst g1 g2 g3 g4 g5 g6
 refine aV func57 zXk rfl fun E hE=>ab 400 ?_
 simp (disch:=omega) only [ntmps57,results57,go_sem,seval]
 refine aR [(5,6)] [] [(qU [0,8]),[0,1,2,3,4,6,5,7]] 22 hE (fun s=>s.at (qU [13,6]) [(5,.sc (.pt 30 0 0))] (s.hp++(w.b.hp true++[some ⟨[w.b.cs 23],25,54,true,false⟩]))) zXk (qC) zXk ?_ (ab 400 ?_)
 rotate_left
 rotate_right
 simp only [aM]
 refine⟨aa 400 ?_,aa 400 ?_⟩
 ·simp (disch:=omega) only [go_sem]
  refine ak (qC) (hEA) (qI 0 21) qM zF zF (aa 400 ?_)
  simp (disch:=omega) only [go_sem,seval]
  exact qZ (qI 0 31)
 ·simp (disch:=omega) only [go_sem]
  refine ak (qC) (hEA) (qI 0 21) qM zF zF (aa 400 ?_)
  simp (disch:=omega) only [go_sem,seval]
  exact qZ (qI 0 23++qI 24 7++qI 23 1)
 try simp (disch:=omega) only [go_sem,seval]
 refine ai (qC) (hX) (qI 23 7) qM zF (ab 400 ?_)
 simp (disch:=omega) only [go_sem,seval]
 refine ai (qC) (hset) (qI 0 21++qI 31 7++qI 21 1) qM zF (ab 400 ?_)
 simp (disch:=omega) only [go_sem,seval]
 refine ai (qC) (hpost) (qI 0 7++qI 31 7++qI 14 8++qI 38 1) qM zF (ab 400 ?_)
 simp (disch:=omega) only [go_sem,seval]
 refine aO (qI 0 22++qI 0 7++qI 31 7++qI 39 7) (qC) _ zXg zF zF ?_
 simp (disch:=omega) only [go_sem,seval]
theorem yO (w:WorldD) (pos many:Int) (text:List UInt8) (ad:AddrD) (le:LetterD) (hw:SmallD w) (htx:text.length<=1048576):
  aP 109 [.ag (w.cs 0),.ag (ActD.cs ⟨1,1,pos,many,text,ad,le⟩)] (w.hp false) (.tu [.ag (WorldD.cs (ay 1 { w with wroteA:=w.wroteA++text.take (write w.a text).2,a:=(aY w.a text).1 } (aY w.a text).2) 21),.sc (.int .i64 0)]) (w.hp false++WorldD.hp (ay 1 { w with wroteA:=w.wroteA++text.take (write w.a text).2,a:=(aY w.a text).1 } (aY w.a text).2) true):=by
 have hX:=qc w.a text hw.p.s.a htx (li hw.oa)
 have hsm:=je (t:=text) hw.p.s.a
 have hlen:=kD w.a text
 have hEA:aP 168 [.ag (w.cs 0),.sc (.int .i64 1)] (w.hp false) (.ag (w.a.cs 21)) (w.hp false++w.a.hp true):=qHW hw.p.s (cg w 1)
 have hX2:=rf w.a text hw.p.s.a htx
 have hwl:=sS w.a text
 obtain⟨wr,hwr⟩:∃ p,p=write w.a text:=⟨_,rfl⟩
 rw [<-hwr] at hX2 hwl⊢
 obtain⟨e0,n0⟩:=wr
 dsimp only at hX2 hwl⊢
 obtain⟨pr,hpr⟩:∃ p,p=aY w.a text:=⟨_,rfl⟩
 rw [<-hpr] at hX hsm hlen⊢
 obtain⟨e1,l1⟩:=pr
 dsimp only at hX hsm hlen⊢
 have hset:=fj { w with wroteA:=w.wroteA++text.take n0 } e1
 have hpost:=fm { w with wroteA:=w.wroteA++text.take n0,a:=e1 } l1 ⟨hsm,hw.p.s.b,hw.p.s.bag,hw.p.s.past,hw.p.s.keys,hw.p.s.tags,hw.p.s.nums,hw.p.s.ansA,hw.p.s.ansB⟩ (by first|omega|simp)
 have hends:=aQ (side:=1) (l:=l1) (w:={ w with wroteA:=w.wroteA++text.take n0,a:=e1 })
 obtain⟨R,hR⟩:∃ R,R=ay 1 { w with wroteA:=w.wroteA++text.take n0,a:=e1 } l1:=⟨_,rfl⟩
 rw [<-hR] at hpost hends⊢
 clear hR
 obtain⟨ra,rb,bag,past,wA,wB,rA,rB,known,nums,nsA,nsB⟩:=R
 obtain⟨keys,tags⟩:=known
 dsimp only at hends
 obtain⟨g1,g2,g3,g4,g5,g6⟩:=hends
 replace g1:=g1.symm
 replace g2:=g2.symm
 replace g3:=g3.symm
 replace g4:=g4.symm
 replace g5:=g5.symm
 replace g6:=g6.symm
 subst g1 g2 g3 g4 g5 g6
 have htk:(text.take n0).length<=1048576:=by rw [List.length_take];omega
 have hWr:=jT w 1 (text.take n0) [] hw.s htk zP
 rw [E2] at hWr
 refine ix func109 ntmps109 results109 fun E hE=>?_
 refine qK (hEA) (qI 0 21) ?_
 refine qK (hX2) (qI 24 7) ?_
 refine qD [0,1,2,3,4,5,6,7,8] ?_
 refine aE (hWr) (qI 0 21) ?_
 refine⟨qC,ab 400 ?_⟩
 try simp (disch:=omega) only [go_sem,seval,gr,dj]
 refine qK (hX) (qI 24 7) ?_
 refine qD [0,1,2,3,5,6,7,4,8,9,10] ?_
 refine aE (hset) (qI 0 21++qI 41 7) ?_
 refine aE (hpost) (qI 41 7++qI 7 14++qI 48 1) ?_
 refine qG ?_
 exact cP (qI 0 21++qI 49 21)
theorem yP (w:WorldD) (pos many:Int) (text:List UInt8) (ad:AddrD) (le:LetterD) (hw:SmallD w) (htx:text.length<=1048576):
  aP 109 [.ag (w.cs 0),.ag (ActD.cs ⟨2,1,pos,many,text,ad,le⟩)] (w.hp false) (.tu [.ag (WorldD.cs (ay 1 { w with readA:=w.readA++(bJ w.a many).2,a:=((bJ w.a many).1,([]:List LetterD)).1 } ((bJ w.a many).1,([]:List LetterD)).2) 21),.sc (.int .i64 0)]) (w.hp false++WorldD.hp (ay 1 { w with readA:=w.readA++(bJ w.a many).2,a:=((bJ w.a many).1,([]:List LetterD)).1 } ((bJ w.a many).1,([]:List LetterD)).2) true):=by
 have hX:=Br w.a many hw.p.s.a hw.p.pa
 have hsm:=kc (m:=many) hw.p.s.a
 have hEA:aP 168 [.ag (w.cs 0),.sc (.int .i64 1)] (w.hp false) (.ag (w.a.cs 21)) (w.hp false++w.a.hp true):=qHW hw.p.s (cg w 1)
 obtain⟨pr,hpr⟩:∃ p,p=bJ w.a many:=⟨_,rfl⟩
 have hrl:(bJ w.a many).2.length<=1048576:=mn hw.p.pa
 rw [<-hpr] at hX hsm hrl⊢
 obtain⟨e1,t1⟩:=pr
 dsimp only at hX hsm hrl⊢
 obtain⟨l1,hl1⟩:∃ l:List LetterD,l=[]:=⟨_,rfl⟩
 have hlen:l1.length<=1:=by rw [hl1];simp
 have hset:=fj { w with readA:=w.readA++t1 } e1
 have hpost:=fm { w with readA:=w.readA++t1,a:=e1 } [] ⟨hsm,hw.p.s.b,hw.p.s.bag,hw.p.s.past,hw.p.s.keys,hw.p.s.tags,hw.p.s.nums,hw.p.s.ansA,hw.p.s.ansB⟩ (by first|omega|simp)
 have hends:=aQ (side:=1) (l:=[]) (w:={ w with readA:=w.readA++t1,a:=e1 })
 obtain⟨R,hR⟩:∃ R,R=ay 1 { w with readA:=w.readA++t1,a:=e1 } []:=⟨_,rfl⟩
 rw [<-hR] at hpost hends⊢
 clear hR
 obtain⟨ra,rb,bag,past,wA,wB,rA,rB,known,nums,nsA,nsB⟩:=R
 obtain⟨keys,tags⟩:=known
 dsimp only at hends
 obtain⟨g1,g2,g3,g4,g5,g6⟩:=hends
 replace g1:=g1.symm
 replace g2:=g2.symm
 replace g3:=g3.symm
 replace g4:=g4.symm
 replace g5:=g5.symm
 replace g6:=g6.symm
 subst g1 g2 g3 g4 g5 g6
 have hWr:=jT w 1 [] t1 hw.s zP hrl
 rw [E3] at hWr
 refine ix func109 ntmps109 results109 fun E hE=>?_
 refine qK (hEA) (qI 0 21) ?_
 refine qK (hX) (qI 24 7) ?_
 refine qK (hWr) (qI 0 21) ?_
 try simp (disch:=omega) only [go_sem,seval,gr,dj]
 refine qD [0,1,2,3,5,6,7,4,8,9,10] ?_
 refine aE (hset) (qI 0 21++qI 33 7) ?_
 refine aE (hpost) (qI 33 7++qI 7 14++qI 32 1) ?_
 refine qG ?_
 exact cP (qI 0 21++qI 40 21)
theorem yQ (w:WorldD) (pos many:Int) (text:List UInt8) (ad:AddrD) (le:LetterD) (hw:SmallD w) (htx:text.length<=1048576):
  aP 109 [.ag (w.cs 0),.ag (ActD.cs ⟨4,1,pos,many,text,ad,le⟩)] (w.hp false) (.tu [.ag (WorldD.cs (ay 1 { w with a:=(manage w.a).1 } (manage w.a).2) 21),.sc (.int .i64 0)]) (w.hp false++WorldD.hp (ay 1 { w with a:=(manage w.a).1 } (manage w.a).2) true):=by
 have hX:=vw w.a hw.p.s.a
 have hsm:=jg hw.p.s.a
 have hlen:=nh w.a
 have hEA:aP 168 [.ag (w.cs 0),.sc (.int .i64 1)] (w.hp false) (.ag (w.a.cs 21)) (w.hp false++w.a.hp true):=qHW hw.p.s (cg w 1)
 obtain⟨pr,hpr⟩:∃ p,p=manage w.a:=⟨_,rfl⟩
 rw [<-hpr] at hX hsm hlen⊢
 obtain⟨e1,l1⟩:=pr
 dsimp only at hX hsm hlen⊢
 have hset:=fj w e1
 have hpost:=fm { w with a:=e1 } l1 ⟨hsm,hw.p.s.b,hw.p.s.bag,hw.p.s.past,hw.p.s.keys,hw.p.s.tags,hw.p.s.nums,hw.p.s.ansA,hw.p.s.ansB⟩ (by first|omega|simp)
 have hends:=aQ (side:=1) (l:=l1) (w:={ w with a:=e1 })
 obtain⟨R,hR⟩:∃ R,R=ay 1 { w with a:=e1 } l1:=⟨_,rfl⟩
 rw [<-hR] at hpost hends⊢
 clear hR
 obtain⟨ra,rb,bag,past,wA,wB,rA,rB,known,nums,nsA,nsB⟩:=R
 obtain⟨keys,tags⟩:=known
 dsimp only at hends
 obtain⟨g1,g2,g3,g4,g5,g6⟩:=hends
 replace g1:=g1.symm
 replace g2:=g2.symm
 replace g3:=g3.symm
 replace g4:=g4.symm
 replace g5:=g5.symm
 replace g6:=g6.symm
 subst g1 g2 g3 g4 g5 g6
 refine ix func109 ntmps109 results109 fun E hE=>?_
 refine qK (hEA) (qI 0 21) ?_
 refine qK (hX) (qI 24 7) ?_
 refine qD [0,1,2,3,5,6,7,4,8,9,10] ?_
 refine aE (hset) (qI 0 21++qI 33 7) ?_
 refine aE (hpost) (qI 33 7++qI 7 14++qI 40 1) ?_
 refine qG ?_
 exact cP (qI 0 21++qI 41 21)
theorem yR (w:WorldD) (pos many:Int) (text:List UInt8) (ad:AddrD) (le:LetterD) (hw:SmallD w) (htx:text.length<=1048576) (hsd:bj ad.addr=1) (hgood:(aK w.a ad).2=true):
  aP 109 [.ag (w.cs 0),.ag (ActD.cs ⟨5,1,pos,many,text,ad,le⟩)] (w.hp false) (.tu [.ag (WorldD.cs (ay 1 { w with a:=((aK w.a ad).1,([]:List LetterD)).1 } ((aK w.a ad).1,([]:List LetterD)).2) 21),.sc (.int .i64 0)]) (w.hp false++WorldD.hp (ay 1 { w with a:=((aK w.a ad).1,([]:List LetterD)).1 } ((aK w.a ad).1,([]:List LetterD)).2) true):=by
 have hX:=lJ w.a ad hw.p.s.a
 have hsm:=eA (a:=ad) hw.p.s.a
 have hEA:aP 168 [.ag (w.cs 0),.sc (.int .i64 1)] (w.hp false) (.ag (w.a.cs 21)) (w.hp false++w.a.hp true):=qHW hw.p.s (cg w 1)
 obtain⟨pr,hpr⟩:∃ p,p=aK w.a ad:=⟨_,rfl⟩
 rw [<-hpr] at hX hsm hgood⊢
 obtain⟨e1,ok1⟩:=pr
 dsimp only at hX hsm hgood⊢
 subst hgood
 obtain⟨l1,hl1⟩:∃ l:List LetterD,l=[]:=⟨_,rfl⟩
 have hlen:l1.length<=1:=by rw [hl1];simp
 have hset:=fj w e1
 have hpost:=fm { w with a:=e1 } [] ⟨hsm,hw.p.s.b,hw.p.s.bag,hw.p.s.past,hw.p.s.keys,hw.p.s.tags,hw.p.s.nums,hw.p.s.ansA,hw.p.s.ansB⟩ (by first|omega|simp)
 have hends:=aQ (side:=1) (l:=[]) (w:={ w with a:=e1 })
 obtain⟨R,hR⟩:∃ R,R=ay 1 { w with a:=e1 } []:=⟨_,rfl⟩
 rw [<-hR] at hpost hends⊢
 clear hR
 obtain⟨ra,rb,bag,past,wA,wB,rA,rB,known,nums,nsA,nsB⟩:=R
 obtain⟨keys,tags⟩:=known
 dsimp only at hends
 obtain⟨g1,g2,g3,g4,g5,g6⟩:=hends
 replace g1:=g1.symm
 replace g2:=g2.symm
 replace g3:=g3.symm
 replace g4:=g4.symm
 replace g5:=g5.symm
 replace g6:=g6.symm
 subst g1 g2 g3 g4 g5 g6
 have hSd:=ff ad.addr
 rw [hsd] at hSd
 refine ix func109 ntmps109 results109 fun E hE=>?_
 refine qK (hEA) (qI 0 21) ?_
 refine qK (hX) (qI 24 7) ?_
 refine qD [0,1,2,3,4,5,7,8,6,9,10] ?_
 refine aE (hSd) [] ?_
 refine qG ?_
 refine qD [0,1,2,3,5,6,7,4,8,9,10] ?_
 refine aE (hset) (qI 0 21++qI 33 7) ?_
 refine aE (hpost) (qI 33 7++qI 7 14++qI 32 1) ?_
 refine qG ?_
 exact cP (qI 0 21++qI 40 21)
theorem yS (w:WorldD) (pos many:Int) (text:List UInt8) (ad:AddrD) (le:LetterD) (hw:SmallD w) (htx:text.length<=1048576):
  aP 109 [.ag (w.cs 0),.ag (ActD.cs ⟨6,1,pos,many,text,ad,le⟩)] (w.hp false) (.tu [.ag (WorldD.cs (ay 1 { w with a:=(bf w.a pos).1 } (bf w.a pos).2) 21),.sc (.int .i64 0)]) (w.hp false++WorldD.hp (ay 1 { w with a:=(bf w.a pos).1 } (bf w.a pos).2) true):=by
 have hX:=s8 w.a pos hw.p.s.a
 have hsm:=im (n:=pos) hw.p.s.a
 have hlen:=lK w.a pos hw.p.s.a
 have hEA:aP 168 [.ag (w.cs 0),.sc (.int .i64 1)] (w.hp false) (.ag (w.a.cs 21)) (w.hp false++w.a.hp true):=qHW hw.p.s (cg w 1)
 obtain⟨pr,hpr⟩:∃ p,p=bf w.a pos:=⟨_,rfl⟩
 rw [<-hpr] at hX hsm hlen⊢
 obtain⟨e1,l1⟩:=pr
 dsimp only at hX hsm hlen⊢
 have hset:=fj w e1
 have hpost:=fm { w with a:=e1 } l1 ⟨hsm,hw.p.s.b,hw.p.s.bag,hw.p.s.past,hw.p.s.keys,hw.p.s.tags,hw.p.s.nums,hw.p.s.ansA,hw.p.s.ansB⟩ (by first|omega|simp)
 have hends:=aQ (side:=1) (l:=l1) (w:={ w with a:=e1 })
 obtain⟨R,hR⟩:∃ R,R=ay 1 { w with a:=e1 } l1:=⟨_,rfl⟩
 rw [<-hR] at hpost hends⊢
 clear hR
 obtain⟨ra,rb,bag,past,wA,wB,rA,rB,known,nums,nsA,nsB⟩:=R
 obtain⟨keys,tags⟩:=known
 dsimp only at hends
 obtain⟨g1,g2,g3,g4,g5,g6⟩:=hends
 replace g1:=g1.symm
 replace g2:=g2.symm
 replace g3:=g3.symm
 replace g4:=g4.symm
 replace g5:=g5.symm
 replace g6:=g6.symm
 subst g1 g2 g3 g4 g5 g6
 refine ix func109 ntmps109 results109 fun E hE=>?_
 refine qK (hEA) (qI 0 21) ?_
 refine qK (hX) (qI 24 7) ?_
 refine qD [0,1,2,3,5,6,7,4,8,9,10] ?_
 refine aE (hset) (qI 0 21++qI 33 7) ?_
 refine aE (hpost) (qI 33 7++qI 7 14++qI 40 1) ?_
 refine qG ?_
 exact cP (qI 0 21++qI 41 21)
theorem yT (w:WorldD) (pos many:Int) (text:List UInt8) (ad:AddrD) (le:LetterD) (hw:SmallD w) (htx:text.length<=1048576):
  aP 109 [.ag (w.cs 0),.ag (ActD.cs ⟨7,1,pos,many,text,ad,le⟩)] (w.hp false) (.tu [.ag (WorldD.cs (ay 1 { w with a:=(bI w.a pos).1 } (bI w.a pos).2) 21),.sc (.int .i64 0)]) (w.hp false++WorldD.hp (ay 1 { w with a:=(bI w.a pos).1 } (bI w.a pos).2) true):=by
 have hX:=yN w.a pos hw.p.s.a
 have hsm:=jf (k:=pos) hw.p.s.a
 have hlen:=ng w.a pos
 have hEA:aP 168 [.ag (w.cs 0),.sc (.int .i64 1)] (w.hp false) (.ag (w.a.cs 21)) (w.hp false++w.a.hp true):=qHW hw.p.s (cg w 1)
 obtain⟨pr,hpr⟩:∃ p,p=bI w.a pos:=⟨_,rfl⟩
 rw [<-hpr] at hX hsm hlen⊢
 obtain⟨e1,l1⟩:=pr
 dsimp only at hX hsm hlen⊢
 have hset:=fj w e1
 have hpost:=fm { w with a:=e1 } l1 ⟨hsm,hw.p.s.b,hw.p.s.bag,hw.p.s.past,hw.p.s.keys,hw.p.s.tags,hw.p.s.nums,hw.p.s.ansA,hw.p.s.ansB⟩ (by first|omega|simp)
 have hends:=aQ (side:=1) (l:=l1) (w:={ w with a:=e1 })
 obtain⟨R,hR⟩:∃ R,R=ay 1 { w with a:=e1 } l1:=⟨_,rfl⟩
 rw [<-hR] at hpost hends⊢
 clear hR
 obtain⟨ra,rb,bag,past,wA,wB,rA,rB,known,nums,nsA,nsB⟩:=R
 obtain⟨keys,tags⟩:=known
 dsimp only at hends
 obtain⟨g1,g2,g3,g4,g5,g6⟩:=hends
 replace g1:=g1.symm
 replace g2:=g2.symm
 replace g3:=g3.symm
 replace g4:=g4.symm
 replace g5:=g5.symm
 replace g6:=g6.symm
 subst g1 g2 g3 g4 g5 g6
 refine ix func109 ntmps109 results109 fun E hE=>?_
 refine qK (hEA) (qI 0 21) ?_
 refine qK (hX) (qI 24 7) ?_
 refine qD [0,1,2,3,5,6,7,4,8,9,10] ?_
 refine aE (hset) (qI 0 21++qI 33 7) ?_
 refine aE (hpost) (qI 33 7++qI 7 14++qI 40 1) ?_
 refine qG ?_
 exact cP (qI 0 21++qI 41 21)
theorem yU (w:WorldD) (pos many:Int) (text:List UInt8) (ad:AddrD) (le:LetterD) (hw:SmallD w) (htx:text.length<=1048576):
  aP 109 [.ag (w.cs 0),.ag (ActD.cs ⟨1,2,pos,many,text,ad,le⟩)] (w.hp false) (.tu [.ag (WorldD.cs (ay 2 { w with wroteB:=w.wroteB++text.take (write w.b text).2,b:=(aY w.b text).1 } (aY w.b text).2) 21),.sc (.int .i64 0)]) (w.hp false++WorldD.hp (ay 2 { w with wroteB:=w.wroteB++text.take (write w.b text).2,b:=(aY w.b text).1 } (aY w.b text).2) true):=by
 have hX:=qc w.b text hw.p.s.b htx (li hw.ob)
 have hsm:=je (t:=text) hw.p.s.b
 have hlen:=kD w.b text
 have hEA:aP 168 [.ag (w.cs 0),.sc (.int .i64 2)] (w.hp false) (.ag (w.b.cs 21)) (w.hp false++w.b.hp true):=qHW hw.p.s (cg w 2)
 have hX2:=rf w.b text hw.p.s.b htx
 have hwl:=sS w.b text
 obtain⟨wr,hwr⟩:∃ p,p=write w.b text:=⟨_,rfl⟩
 rw [<-hwr] at hX2 hwl⊢
 obtain⟨e0,n0⟩:=wr
 dsimp only at hX2 hwl⊢
 obtain⟨pr,hpr⟩:∃ p,p=aY w.b text:=⟨_,rfl⟩
 rw [<-hpr] at hX hsm hlen⊢
 obtain⟨e1,l1⟩:=pr
 dsimp only at hX hsm hlen⊢
 have hset:=fk { w with wroteB:=w.wroteB++text.take n0 } e1
 have hpost:=fq { w with wroteB:=w.wroteB++text.take n0,b:=e1 } l1 ⟨hw.p.s.a,hsm,hw.p.s.bag,hw.p.s.past,hw.p.s.keys,hw.p.s.tags,hw.p.s.nums,hw.p.s.ansA,hw.p.s.ansB⟩ (by first|omega|simp)
 have hends:=aQ (side:=2) (l:=l1) (w:={ w with wroteB:=w.wroteB++text.take n0,b:=e1 })
 obtain⟨R,hR⟩:∃ R,R=ay 2 { w with wroteB:=w.wroteB++text.take n0,b:=e1 } l1:=⟨_,rfl⟩
 rw [<-hR] at hpost hends⊢
 clear hR
 obtain⟨ra,rb,bag,past,wA,wB,rA,rB,known,nums,nsA,nsB⟩:=R
 obtain⟨keys,tags⟩:=known
 dsimp only at hends
 obtain⟨g1,g2,g3,g4,g5,g6⟩:=hends
 replace g1:=g1.symm
 replace g2:=g2.symm
 replace g3:=g3.symm
 replace g4:=g4.symm
 replace g5:=g5.symm
 replace g6:=g6.symm
 subst g1 g2 g3 g4 g5 g6
 have htk:(text.take n0).length<=1048576:=by rw [List.length_take];omega
 have hWr:=jT w 2 (text.take n0) [] hw.s htk zP
 rw [E2] at hWr
 refine ix func109 ntmps109 results109 fun E hE=>?_
 refine qK (hEA) (qI 0 21) ?_
 refine qK (hX2) (qI 24 7) ?_
 refine qD [0,1,2,3,4,5,6,7,8] ?_
 refine aE (hWr) (qI 0 21) ?_
 refine⟨qC,ab 400 ?_⟩
 try simp (disch:=omega) only [go_sem,seval,gr,dj]
 refine qK (hX) (qI 24 7) ?_
 refine qD [0,1,2,3,5,6,7,4,8,9,10] ?_
 refine aE (hset) (qI 0 21++qI 41 7) ?_
 refine aE (hpost) (qI 0 7++qI 41 7++qI 14 7++qI 48 1) ?_
 refine qG ?_
 exact cP (qI 0 21++qI 49 21)
theorem yV (w:WorldD) (pos many:Int) (text:List UInt8) (ad:AddrD) (le:LetterD) (hw:SmallD w) (htx:text.length<=1048576):
  aP 109 [.ag (w.cs 0),.ag (ActD.cs ⟨2,2,pos,many,text,ad,le⟩)] (w.hp false) (.tu [.ag (WorldD.cs (ay 2 { w with readB:=w.readB++(bJ w.b many).2,b:=((bJ w.b many).1,([]:List LetterD)).1 } ((bJ w.b many).1,([]:List LetterD)).2) 21),.sc (.int .i64 0)]) (w.hp false++WorldD.hp (ay 2 { w with readB:=w.readB++(bJ w.b many).2,b:=((bJ w.b many).1,([]:List LetterD)).1 } ((bJ w.b many).1,([]:List LetterD)).2) true):=by
 have hX:=Br w.b many hw.p.s.b hw.p.pb
 have hsm:=kc (m:=many) hw.p.s.b
 have hEA:aP 168 [.ag (w.cs 0),.sc (.int .i64 2)] (w.hp false) (.ag (w.b.cs 21)) (w.hp false++w.b.hp true):=qHW hw.p.s (cg w 2)
 obtain⟨pr,hpr⟩:∃ p,p=bJ w.b many:=⟨_,rfl⟩
 have hrl:(bJ w.b many).2.length<=1048576:=mn hw.p.pb
 rw [<-hpr] at hX hsm hrl⊢
 obtain⟨e1,t1⟩:=pr
 dsimp only at hX hsm hrl⊢
 obtain⟨l1,hl1⟩:∃ l:List LetterD,l=[]:=⟨_,rfl⟩
 have hlen:l1.length<=1:=by rw [hl1];simp
 have hset:=fk { w with readB:=w.readB++t1 } e1
 have hpost:=fq { w with readB:=w.readB++t1,b:=e1 } [] ⟨hw.p.s.a,hsm,hw.p.s.bag,hw.p.s.past,hw.p.s.keys,hw.p.s.tags,hw.p.s.nums,hw.p.s.ansA,hw.p.s.ansB⟩ (by first|omega|simp)
 have hends:=aQ (side:=2) (l:=[]) (w:={ w with readB:=w.readB++t1,b:=e1 })
 obtain⟨R,hR⟩:∃ R,R=ay 2 { w with readB:=w.readB++t1,b:=e1 } []:=⟨_,rfl⟩
 rw [<-hR] at hpost hends⊢
 clear hR
 obtain⟨ra,rb,bag,past,wA,wB,rA,rB,known,nums,nsA,nsB⟩:=R
 obtain⟨keys,tags⟩:=known
 dsimp only at hends
 obtain⟨g1,g2,g3,g4,g5,g6⟩:=hends
 replace g1:=g1.symm
 replace g2:=g2.symm
 replace g3:=g3.symm
 replace g4:=g4.symm
 replace g5:=g5.symm
 replace g6:=g6.symm
 subst g1 g2 g3 g4 g5 g6
 have hWr:=jT w 2 [] t1 hw.s zP hrl
 rw [E3] at hWr
 refine ix func109 ntmps109 results109 fun E hE=>?_
 refine qK (hEA) (qI 0 21) ?_
 refine qK (hX) (qI 24 7) ?_
 refine qK (hWr) (qI 0 21) ?_
 try simp (disch:=omega) only [go_sem,seval,gr,dj]
 refine qD [0,1,2,3,5,6,7,4,8,9,10] ?_
 refine aE (hset) (qI 0 21++qI 33 7) ?_
 refine aE (hpost) (qI 0 7++qI 33 7++qI 14 7++qI 32 1) ?_
 refine qG ?_
 exact cP (qI 0 21++qI 40 21)
theorem yW (w:WorldD) (pos many:Int) (text:List UInt8) (ad:AddrD) (le:LetterD) (hw:SmallD w) (htx:text.length<=1048576):
  aP 109 [.ag (w.cs 0),.ag (ActD.cs ⟨4,2,pos,many,text,ad,le⟩)] (w.hp false) (.tu [.ag (WorldD.cs (ay 2 { w with b:=(manage w.b).1 } (manage w.b).2) 21),.sc (.int .i64 0)]) (w.hp false++WorldD.hp (ay 2 { w with b:=(manage w.b).1 } (manage w.b).2) true):=by
 have hX:=vw w.b hw.p.s.b
 have hsm:=jg hw.p.s.b
 have hlen:=nh w.b
 have hEA:aP 168 [.ag (w.cs 0),.sc (.int .i64 2)] (w.hp false) (.ag (w.b.cs 21)) (w.hp false++w.b.hp true):=qHW hw.p.s (cg w 2)
 obtain⟨pr,hpr⟩:∃ p,p=manage w.b:=⟨_,rfl⟩
 rw [<-hpr] at hX hsm hlen⊢
 obtain⟨e1,l1⟩:=pr
 dsimp only at hX hsm hlen⊢
 have hset:=fk w e1
 have hpost:=fq { w with b:=e1 } l1 ⟨hw.p.s.a,hsm,hw.p.s.bag,hw.p.s.past,hw.p.s.keys,hw.p.s.tags,hw.p.s.nums,hw.p.s.ansA,hw.p.s.ansB⟩ (by first|omega|simp)
 have hends:=aQ (side:=2) (l:=l1) (w:={ w with b:=e1 })
 obtain⟨R,hR⟩:∃ R,R=ay 2 { w with b:=e1 } l1:=⟨_,rfl⟩
 rw [<-hR] at hpost hends⊢
 clear hR
 obtain⟨ra,rb,bag,past,wA,wB,rA,rB,known,nums,nsA,nsB⟩:=R
 obtain⟨keys,tags⟩:=known
 dsimp only at hends
 obtain⟨g1,g2,g3,g4,g5,g6⟩:=hends
 replace g1:=g1.symm
 replace g2:=g2.symm
 replace g3:=g3.symm
 replace g4:=g4.symm
 replace g5:=g5.symm
 replace g6:=g6.symm
 subst g1 g2 g3 g4 g5 g6
 refine ix func109 ntmps109 results109 fun E hE=>?_
 refine qK (hEA) (qI 0 21) ?_
 refine qK (hX) (qI 24 7) ?_
 refine qD [0,1,2,3,5,6,7,4,8,9,10] ?_
 refine aE (hset) (qI 0 21++qI 33 7) ?_
 refine aE (hpost) (qI 0 7++qI 33 7++qI 14 7++qI 40 1) ?_
 refine qG ?_
 exact cP (qI 0 21++qI 41 21)
theorem yX (w:WorldD) (pos many:Int) (text:List UInt8) (ad:AddrD) (le:LetterD) (hw:SmallD w) (htx:text.length<=1048576) (hsd:bj ad.addr=2) (hgood:(aK w.b ad).2=true):
  aP 109 [.ag (w.cs 0),.ag (ActD.cs ⟨5,2,pos,many,text,ad,le⟩)] (w.hp false) (.tu [.ag (WorldD.cs (ay 2 { w with b:=((aK w.b ad).1,([]:List LetterD)).1 } ((aK w.b ad).1,([]:List LetterD)).2) 21),.sc (.int .i64 0)]) (w.hp false++WorldD.hp (ay 2 { w with b:=((aK w.b ad).1,([]:List LetterD)).1 } ((aK w.b ad).1,([]:List LetterD)).2) true):=by
 have hX:=lJ w.b ad hw.p.s.b
 have hsm:=eA (a:=ad) hw.p.s.b
 have hEA:aP 168 [.ag (w.cs 0),.sc (.int .i64 2)] (w.hp false) (.ag (w.b.cs 21)) (w.hp false++w.b.hp true):=qHW hw.p.s (cg w 2)
 obtain⟨pr,hpr⟩:∃ p,p=aK w.b ad:=⟨_,rfl⟩
 rw [<-hpr] at hX hsm hgood⊢
 obtain⟨e1,ok1⟩:=pr
 dsimp only at hX hsm hgood⊢
 subst hgood
 obtain⟨l1,hl1⟩:∃ l:List LetterD,l=[]:=⟨_,rfl⟩
 have hlen:l1.length<=1:=by rw [hl1];simp
 have hset:=fk w e1
 have hpost:=fq { w with b:=e1 } [] ⟨hw.p.s.a,hsm,hw.p.s.bag,hw.p.s.past,hw.p.s.keys,hw.p.s.tags,hw.p.s.nums,hw.p.s.ansA,hw.p.s.ansB⟩ (by first|omega|simp)
 have hends:=aQ (side:=2) (l:=[]) (w:={ w with b:=e1 })
 obtain⟨R,hR⟩:∃ R,R=ay 2 { w with b:=e1 } []:=⟨_,rfl⟩
 rw [<-hR] at hpost hends⊢
 clear hR
 obtain⟨ra,rb,bag,past,wA,wB,rA,rB,known,nums,nsA,nsB⟩:=R
 obtain⟨keys,tags⟩:=known
 dsimp only at hends
 obtain⟨g1,g2,g3,g4,g5,g6⟩:=hends
 replace g1:=g1.symm
 replace g2:=g2.symm
 replace g3:=g3.symm
 replace g4:=g4.symm
 replace g5:=g5.symm
 replace g6:=g6.symm
 subst g1 g2 g3 g4 g5 g6
 have hSd:=ff ad.addr
 rw [hsd] at hSd
 refine ix func109 ntmps109 results109 fun E hE=>?_
 refine qK (hEA) (qI 0 21) ?_
 refine qK (hX) (qI 24 7) ?_
 refine qD [0,1,2,3,4,5,7,8,6,9,10] ?_
 refine aE (hSd) [] ?_
 refine qG ?_
 refine qD [0,1,2,3,5,6,7,4,8,9,10] ?_
 refine aE (hset) (qI 0 21++qI 33 7) ?_
 refine aE (hpost) (qI 0 7++qI 33 7++qI 14 7++qI 32 1) ?_
 refine qG ?_
 exact cP (qI 0 21++qI 40 21)
theorem yY (w:WorldD) (pos many:Int) (text:List UInt8) (ad:AddrD) (le:LetterD) (hw:SmallD w) (htx:text.length<=1048576):
  aP 109 [.ag (w.cs 0),.ag (ActD.cs ⟨6,2,pos,many,text,ad,le⟩)] (w.hp false) (.tu [.ag (WorldD.cs (ay 2 { w with b:=(bf w.b pos).1 } (bf w.b pos).2) 21),.sc (.int .i64 0)]) (w.hp false++WorldD.hp (ay 2 { w with b:=(bf w.b pos).1 } (bf w.b pos).2) true):=by
 have hX:=s8 w.b pos hw.p.s.b
 have hsm:=im (n:=pos) hw.p.s.b
 have hlen:=lK w.b pos hw.p.s.b
 have hEA:aP 168 [.ag (w.cs 0),.sc (.int .i64 2)] (w.hp false) (.ag (w.b.cs 21)) (w.hp false++w.b.hp true):=qHW hw.p.s (cg w 2)
 obtain⟨pr,hpr⟩:∃ p,p=bf w.b pos:=⟨_,rfl⟩
 rw [<-hpr] at hX hsm hlen⊢
 obtain⟨e1,l1⟩:=pr
 dsimp only at hX hsm hlen⊢
 have hset:=fk w e1
 have hpost:=fq { w with b:=e1 } l1 ⟨hw.p.s.a,hsm,hw.p.s.bag,hw.p.s.past,hw.p.s.keys,hw.p.s.tags,hw.p.s.nums,hw.p.s.ansA,hw.p.s.ansB⟩ (by first|omega|simp)
 have hends:=aQ (side:=2) (l:=l1) (w:={ w with b:=e1 })
 obtain⟨R,hR⟩:∃ R,R=ay 2 { w with b:=e1 } l1:=⟨_,rfl⟩
 rw [<-hR] at hpost hends⊢
 clear hR
 obtain⟨ra,rb,bag,past,wA,wB,rA,rB,known,nums,nsA,nsB⟩:=R
 obtain⟨keys,tags⟩:=known
 dsimp only at hends
 obtain⟨g1,g2,g3,g4,g5,g6⟩:=hends
 replace g1:=g1.symm
 replace g2:=g2.symm
 replace g3:=g3.symm
 replace g4:=g4.symm
 replace g5:=g5.symm
 replace g6:=g6.symm
 subst g1 g2 g3 g4 g5 g6
 refine ix func109 ntmps109 results109 fun E hE=>?_
 refine qK (hEA) (qI 0 21) ?_
 refine qK (hX) (qI 24 7) ?_
 refine qD [0,1,2,3,5,6,7,4,8,9,10] ?_
 refine aE (hset) (qI 0 21++qI 33 7) ?_
 refine aE (hpost) (qI 0 7++qI 33 7++qI 14 7++qI 40 1) ?_
 refine qG ?_
 exact cP (qI 0 21++qI 41 21)
theorem yZ (w:WorldD) (pos many:Int) (text:List UInt8) (ad:AddrD) (le:LetterD) (hw:SmallD w) (htx:text.length<=1048576):
  aP 109 [.ag (w.cs 0),.ag (ActD.cs ⟨7,2,pos,many,text,ad,le⟩)] (w.hp false) (.tu [.ag (WorldD.cs (ay 2 { w with b:=(bI w.b pos).1 } (bI w.b pos).2) 21),.sc (.int .i64 0)]) (w.hp false++WorldD.hp (ay 2 { w with b:=(bI w.b pos).1 } (bI w.b pos).2) true):=by
 have hX:=yN w.b pos hw.p.s.b
 have hsm:=jf (k:=pos) hw.p.s.b
 have hlen:=ng w.b pos
 have hEA:aP 168 [.ag (w.cs 0),.sc (.int .i64 2)] (w.hp false) (.ag (w.b.cs 21)) (w.hp false++w.b.hp true):=qHW hw.p.s (cg w 2)
 obtain⟨pr,hpr⟩:∃ p,p=bI w.b pos:=⟨_,rfl⟩
 rw [<-hpr] at hX hsm hlen⊢
 obtain⟨e1,l1⟩:=pr
 dsimp only at hX hsm hlen⊢
 have hset:=fk w e1
 have hpost:=fq { w with b:=e1 } l1 ⟨hw.p.s.a,hsm,hw.p.s.bag,hw.p.s.past,hw.p.s.keys,hw.p.s.tags,hw.p.s.nums,hw.p.s.ansA,hw.p.s.ansB⟩ (by first|omega|simp)
 have hends:=aQ (side:=2) (l:=l1) (w:={ w with b:=e1 })
 obtain⟨R,hR⟩:∃ R,R=ay 2 { w with b:=e1 } l1:=⟨_,rfl⟩
 rw [<-hR] at hpost hends⊢
 clear hR
 obtain⟨ra,rb,bag,past,wA,wB,rA,rB,known,nums,nsA,nsB⟩:=R
 obtain⟨keys,tags⟩:=known
 dsimp only at hends
 obtain⟨g1,g2,g3,g4,g5,g6⟩:=hends
 replace g1:=g1.symm
 replace g2:=g2.symm
 replace g3:=g3.symm
 replace g4:=g4.symm
 replace g5:=g5.symm
 replace g6:=g6.symm
 subst g1 g2 g3 g4 g5 g6
 refine ix func109 ntmps109 results109 fun E hE=>?_
 refine qK (hEA) (qI 0 21) ?_
 refine qK (hX) (qI 24 7) ?_
 refine qD [0,1,2,3,5,6,7,4,8,9,10] ?_
 refine aE (hset) (qI 0 21++qI 33 7) ?_
 refine aE (hpost) (qI 0 7++qI 33 7++qI 14 7++qI 40 1) ?_
 refine qG ?_
 exact cP (qI 0 21++qI 41 21)
end
end Go.Proofs.YtdiiopjaebnmfaaGreatDoor
