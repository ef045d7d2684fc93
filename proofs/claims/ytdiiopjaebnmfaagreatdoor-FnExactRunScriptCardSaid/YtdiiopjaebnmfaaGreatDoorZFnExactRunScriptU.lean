/- Lemmas of this claim. -/
import Derived.Test.YtdiiopjaebnmfaaGreatDoorZFnExactRunScriptQ
import Derived.Test.YtdiiopjaebnmfaaGreatDoorZFnExactRunScriptT
set_option maxHeartbeats 16000000
set_option maxRecDepth 100000
set_option linter.unusedVariables false
set_option linter.unusedSimpArgs false
namespace Go.Proofs.YtdiiopjaebnmfaaGreatDoor
open _root_.Go.Proofs.YtdiiopjaebnmfaaGreatDoor renaming q4->qHW
open _root_.Go.Proofs.Tryz
open _root_.Int renaming eq_ofNat_of_zero_le->zk
open _root_.Bool renaming and_eq_true->zG
section
open Go.RowKit
theorem Am (w:WorldD) (pos many:Int) (text:List UInt8) (ad:AddrD) (le:LetterD) (hw:SmallD w) (hbad:¬ bj ad.addr=1\/(aK w.a ad).2=false):
  aP 57 [.sc (.pt 21 0 0),.ag (ActD.cs ⟨5,1,pos,many,text,ad,le⟩)] (w.hp true++[some ⟨[w.cs 0],61,60,true,false⟩]) (.sc (.int .i64 1))
  ((nH 21++[some ⟨[WorldD.cs w 22],61,60,true,false⟩])++WorldD.hp w true):=by
 have hX:=lI w.a ad hw.p.s.a
 have hsm:=eA (a:=ad) hw.p.s.a
 have hEA:aP 90 [.ag (w.cs 0),.sc (.int .i64 1)] (w.hp false) (.ag (w.a.cs 21)) (w.hp false++w.a.hp true):=qHW hw.p.s (cf w 1)
 obtain⟨pr,hpr⟩:∃ p,p=aK w.a ad:=⟨_,rfl⟩
 rw [<-hpr] at hX hsm hbad
 obtain⟨e1,ok1⟩:=pr
 dsimp only at hX hsm hbad
 have hSd:=fe ad.addr
 generalize bj ad.addr=sd at*
 refine aV func57 zXk rfl fun E hE=>ab 400 ?_
 simp (disch:=omega) only [ntmps57,results57,go_sem,seval]
 refine aR [(5,6)] [] [(qU [0,8]),[0,1,2,3,4,6,5,7]] 22 hE (fun s=>s.at (qU [13,6]) [(5,.sc (.pt 30 0 0))] (s.hp++(w.a.hp true++[some ⟨[w.a.cs 23],25,54,true,false⟩]))) zXk (qC) zXk ?_ (ab 400 ?_)
 rotate_left
 rotate_right
 simp only [aM]
 refine⟨aa 400 ?_,aa 400 ?_⟩
 ·simp (disch:=omega) only [go_sem]
  refine ak (qC) (hEA) (qI 0 21) qM zF zF (aa 400 ?_)
  simp (disch:=omega) only [go_sem,seval]
  exact qZ (qI 0 31)
 ·simp (disch:=omega) only [go_sem]
  refine ak (qC) (hEA) (qI 0 21) qM zF zF (aa 400 ?_)
  simp (disch:=omega) only [go_sem,seval]
  exact qZ (qI 0 23++qI 24 7++qI 23 1)
 try simp (disch:=omega) only [go_sem,seval]
 refine ai (qC) (hX) (qI 23 7) qM zF (ab 400 ?_)
 simp (disch:=omega) only [go_sem,seval]
 by_cases h0:sd=1
 ·subst h0
  have hb:ok1=false:=by rcases hbad with h|h;exact absurd rfl h;exact h
  subst hb
  refine ao (qU [0,3,4,2,3,1,6,5]) zXk (qC) zXk (aa 400 ?_)
  simp (disch:=omega) only [go_sem,seval]
  refine ak (qC) (hSd) [] qM zF zF (aa 400 ?_)
  simp (disch:=omega) only [go_sem,seval]
  refine⟨qC,ab 400 ?_⟩
  try simp (disch:=omega) only [go_sem,seval]
  refine aO (qI 0 22++qI 0 21) (qC) _ zXg zF zF ?_
  simp (disch:=omega) only [go_sem,seval]
 refine ao (qU [0,3,4,2,3,1,6,5]) zXk (qC) zXk (aa 400 ?_)
 simp (disch:=omega) only [go_sem,seval]
 refine ak (qC) (hSd) [] qM zF zF (aa 400 ?_)
 simp (disch:=omega) only [go_sem,seval]
 refine⟨qC,ab 400 ?_⟩
 try simp (disch:=omega) only [go_sem,seval]
 refine aO (qI 0 22++qI 0 21) (qC) _ zXg zF zF ?_
 simp (disch:=omega) only [go_sem,seval]
theorem vW (w:WorldD) (pos many:Int) (text:List UInt8) (ad:AddrD) (le:LetterD) (hw:SmallD w) (hbad:¬ bj ad.addr=1\/(aK w.a ad).2=false):
  aP 109 [.ag (w.cs 0),.ag (ActD.cs ⟨5,1,pos,many,text,ad,le⟩)] (w.hp true) (.tu [.ag (WorldD.cs w 21),.sc (.int .i64 1)]) ((nH 21)++WorldD.hp w true):=by
 have hX:=lJ w.a ad hw.p.s.a
 have hsm:=eA (a:=ad) hw.p.s.a
 have hEA:aP 168 [.ag (w.cs 0),.sc (.int .i64 1)] (w.hp false) (.ag (w.a.cs 21)) (w.hp false++w.a.hp true):=qHW hw.p.s (cg w 1)
 obtain⟨pr,hpr⟩:∃ p,p=aK w.a ad:=⟨_,rfl⟩
 rw [<-hpr] at hX hsm hbad
 obtain⟨e1,ok1⟩:=pr
 dsimp only at hX hsm hbad
 have hSd:=ff ad.addr
 generalize bj ad.addr=sd at*
 refine ix func109 ntmps109 results109 fun E hE=>?_
 refine qK (hEA) (qI 0 21) ?_
 refine qK (hX) (qI 24 7) ?_
 cases ok1 with
 |false=>
  refine qD [0,1,2,3,4,5,7,8,6,9,10] ?_
  refine qG ?_
  exact cP (qI 0 21++qI 0 21)
 |true=>
  have h0:¬ sd=1:=by rcases hbad with h|h;exact h;exact absurd h zP
  refine qD [0,1,2,3,4,5,7,8,6,9,10] ?_
  refine aE (hSd) [] ?_
  refine qG ?_
  exact cP (qI 0 21++qI 0 21)
theorem Ao (w:WorldD) (pos many:Int) (text:List UInt8) (ad:AddrD) (le:LetterD) (hw:SmallD w) (hbad:¬ bj ad.addr=2\/(aK w.b ad).2=false):
  aP 57 [.sc (.pt 21 0 0),.ag (ActD.cs ⟨5,2,pos,many,text,ad,le⟩)] (w.hp true++[some ⟨[w.cs 0],61,60,true,false⟩]) (.sc (.int .i64 1))
  ((nH 21++[some ⟨[WorldD.cs w 22],61,60,true,false⟩])++WorldD.hp w true):=by
 have hX:=lI w.b ad hw.p.s.b
 have hsm:=eA (a:=ad) hw.p.s.b
 have hEA:aP 90 [.ag (w.cs 0),.sc (.int .i64 2)] (w.hp false) (.ag (w.b.cs 21)) (w.hp false++w.b.hp true):=qHW hw.p.s (cf w 2)
 obtain⟨pr,hpr⟩:∃ p,p=aK w.b ad:=⟨_,rfl⟩
 rw [<-hpr] at hX hsm hbad
 obtain⟨e1,ok1⟩:=pr
 dsimp only at hX hsm hbad
 have hSd:=fe ad.addr
 generalize bj ad.addr=sd at*
 refine aV func57 zXk rfl fun E hE=>ab 400 ?_
 simp (disch:=omega) only [ntmps57,results57,go_sem,seval]
 refine aR [(5,6)] [] [(qU [0,8]),[0,1,2,3,4,6,5,7]] 22 hE (fun s=>s.at (qU [13,6]) [(5,.sc (.pt 30 0 0))] (s.hp++(w.b.hp true++[some ⟨[w.b.cs 23],25,54,true,false⟩]))) zXk (qC) zXk ?_ (ab 400 ?_)
 rotate_left
 rotate_right
 simp only [aM]
 refine⟨aa 400 ?_,aa 400 ?_⟩
 ·simp (disch:=omega) only [go_sem]
  refine ak (qC) (hEA) (qI 0 21) qM zF zF (aa 400 ?_)
  simp (disch:=omega) only [go_sem,seval]
  exact qZ (qI 0 31)
 ·simp (disch:=omega) only [go_sem]
  refine ak (qC) (hEA) (qI 0 21) qM zF zF (aa 400 ?_)
  simp (disch:=omega) only [go_sem,seval]
  exact qZ (qI 0 23++qI 24 7++qI 23 1)
 try simp (disch:=omega) only [go_sem,seval]
 refine ai (qC) (hX) (qI 23 7) qM zF (ab 400 ?_)
 simp (disch:=omega) only [go_sem,seval]
 by_cases h0:sd=2
 ·subst h0
  have hb:ok1=false:=by rcases hbad with h|h;exact absurd rfl h;exact h
  subst hb
  refine ao (qU [0,3,4,2,3,1,6,5]) zXk (qC) zXk (aa 400 ?_)
  simp (disch:=omega) only [go_sem,seval]
  refine ak (qC) (hSd) [] qM zF zF (aa 400 ?_)
  simp (disch:=omega) only [go_sem,seval]
  refine⟨qC,ab 400 ?_⟩
  try simp (disch:=omega) only [go_sem,seval]
  refine aO (qI 0 22++qI 0 21) (qC) _ zXg zF zF ?_
  simp (disch:=omega) only [go_sem,seval]
 refine ao (qU [0,3,4,2,3,1,6,5]) zXk (qC) zXk (aa 400 ?_)
 simp (disch:=omega) only [go_sem,seval]
 refine ak (qC) (hSd) [] qM zF zF (aa 400 ?_)
 simp (disch:=omega) only [go_sem,seval]
 refine⟨qC,ab 400 ?_⟩
 try simp (disch:=omega) only [go_sem,seval]
 refine aO (qI 0 22++qI 0 21) (qC) _ zXg zF zF ?_
 simp (disch:=omega) only [go_sem,seval]
theorem vX (w:WorldD) (pos many:Int) (text:List UInt8) (ad:AddrD) (le:LetterD) (hw:SmallD w) (hbad:¬ bj ad.addr=2\/(aK w.b ad).2=false):
  aP 109 [.ag (w.cs 0),.ag (ActD.cs ⟨5,2,pos,many,text,ad,le⟩)] (w.hp true) (.tu [.ag (WorldD.cs w 21),.sc (.int .i64 1)]) ((nH 21)++WorldD.hp w true):=by
 have hX:=lJ w.b ad hw.p.s.b
 have hsm:=eA (a:=ad) hw.p.s.b
 have hEA:aP 168 [.ag (w.cs 0),.sc (.int .i64 2)] (w.hp false) (.ag (w.b.cs 21)) (w.hp false++w.b.hp true):=qHW hw.p.s (cg w 2)
 obtain⟨pr,hpr⟩:∃ p,p=aK w.b ad:=⟨_,rfl⟩
 rw [<-hpr] at hX hsm hbad
 obtain⟨e1,ok1⟩:=pr
 dsimp only at hX hsm hbad
 have hSd:=ff ad.addr
 generalize bj ad.addr=sd at*
 refine ix func109 ntmps109 results109 fun E hE=>?_
 refine qK (hEA) (qI 0 21) ?_
 refine qK (hX) (qI 24 7) ?_
 cases ok1 with
 |false=>
  refine qD [0,1,2,3,4,5,7,8,6,9,10] ?_
  refine qG ?_
  exact cP (qI 0 21++qI 0 21)
 |true=>
  have h0:¬ sd=2:=by rcases hbad with h|h;exact h;exact absurd h zP
  refine qD [0,1,2,3,4,5,7,8,6,9,10] ?_
  refine aE (hSd) [] ?_
  refine qG ?_
  exact cP (qI 0 21++qI 0 21)
theorem HD {w:WorldD} {pos many:Int} {text:List UInt8} {ad:AddrD} {le:LetterD}:bb w ⟨1,1,pos,many,text,ad,le⟩=(ay 1 { w with wroteA:=w.wroteA++text.take (write w.a text).2,a:=(aY w.a text).1 } (aY w.a text).2,0):=by
 simp [bb,dK,ld,kC,cV,cN,gr,dj]
theorem HE {w:WorldD} {pos many:Int} {text:List UInt8} {ad:AddrD} {le:LetterD}:bb w ⟨2,1,pos,many,text,ad,le⟩=(ay 1 { w with readA:=w.readA++(bJ w.a many).2,a:=((bJ w.a many).1,([]:List LetterD)).1 } ((bJ w.a many).1,([]:List LetterD)).2,0):=by
 simp [bb,dK,ld,kC,cV,cN,gr,dj]
theorem HG {w:WorldD} {pos many:Int} {text:List UInt8} {ad:AddrD} {le:LetterD}:bb w ⟨3,1,pos,many,text,ad,le⟩=(ay 1 { w with a:=(tick w.a).1 } (tick w.a).2,0):=by
 simp [bb,dK,ld,kC,cV,cN,gr,dj]
theorem HH {w:WorldD} {pos many:Int} {text:List UInt8} {ad:AddrD} {le:LetterD}:bb w ⟨4,1,pos,many,text,ad,le⟩=(ay 1 { w with a:=(manage w.a).1 } (manage w.a).2,0):=by
 simp [bb,dK,ld,kC,cV,cN,gr,dj]
theorem HI {w:WorldD} {pos many:Int} {text:List UInt8} {ad:AddrD} {le:LetterD} (hsd:bj ad.addr=1) (hgood:(aK w.a ad).2=true):bb w ⟨5,1,pos,many,text,ad,le⟩=(ay 1 { w with a:=((aK w.a ad).1,([]:List LetterD)).1 } ((aK w.a ad).1,([]:List LetterD)).2,0):=by
 simp [bb,dK,ld,kC,cV,cN,gr,dj,hsd,hgood]
theorem HJ {w:WorldD} {pos many:Int} {text:List UInt8} {ad:AddrD} {le:LetterD}:bb w ⟨6,1,pos,many,text,ad,le⟩=(ay 1 { w with a:=(bf w.a pos).1 } (bf w.a pos).2,0):=by
 simp [bb,dK,ld,kC,cV,cN,gr,dj]
theorem HK {w:WorldD} {pos many:Int} {text:List UInt8} {ad:AddrD} {le:LetterD}:bb w ⟨7,1,pos,many,text,ad,le⟩=(ay 1 { w with a:=(bI w.a pos).1 } (bI w.a pos).2,0):=by
 simp [bb,dK,ld,kC,cV,cN,gr,dj]
theorem K5 {w:WorldD} {pos many:Int} {text:List UInt8} {ad:AddrD} {le:LetterD} (hbad:¬ bj ad.addr=1\/(aK w.a ad).2=false):bb w ⟨5,1,pos,many,text,ad,le⟩=(w,1):=by
 rcases hbad with h|h<;>simp [bb,dK,cV,h]
theorem HL {w:WorldD} {pos many:Int} {text:List UInt8} {ad:AddrD} {le:LetterD}:bb w ⟨1,2,pos,many,text,ad,le⟩=(ay 2 { w with wroteB:=w.wroteB++text.take (write w.b text).2,b:=(aY w.b text).1 } (aY w.b text).2,0):=by
 simp [bb,dK,ld,kC,cV,cN,gr,dj]
theorem HM {w:WorldD} {pos many:Int} {text:List UInt8} {ad:AddrD} {le:LetterD}:bb w ⟨2,2,pos,many,text,ad,le⟩=(ay 2 { w with readB:=w.readB++(bJ w.b many).2,b:=((bJ w.b many).1,([]:List LetterD)).1 } ((bJ w.b many).1,([]:List LetterD)).2,0):=by
 simp [bb,dK,ld,kC,cV,cN,gr,dj]
theorem HN {w:WorldD} {pos many:Int} {text:List UInt8} {ad:AddrD} {le:LetterD}:bb w ⟨3,2,pos,many,text,ad,le⟩=(ay 2 { w with b:=(tick w.b).1 } (tick w.b).2,0):=by
 simp [bb,dK,ld,kC,cV,cN,gr,dj]
theorem HO {w:WorldD} {pos many:Int} {text:List UInt8} {ad:AddrD} {le:LetterD}:bb w ⟨4,2,pos,many,text,ad,le⟩=(ay 2 { w with b:=(manage w.b).1 } (manage w.b).2,0):=by
 simp [bb,dK,ld,kC,cV,cN,gr,dj]
theorem HP {w:WorldD} {pos many:Int} {text:List UInt8} {ad:AddrD} {le:LetterD} (hsd:bj ad.addr=2) (hgood:(aK w.b ad).2=true):bb w ⟨5,2,pos,many,text,ad,le⟩=(ay 2 { w with b:=((aK w.b ad).1,([]:List LetterD)).1 } ((aK w.b ad).1,([]:List LetterD)).2,0):=by
 simp [bb,dK,ld,kC,cV,cN,gr,dj,hsd,hgood]
theorem HQ {w:WorldD} {pos many:Int} {text:List UInt8} {ad:AddrD} {le:LetterD}:bb w ⟨6,2,pos,many,text,ad,le⟩=(ay 2 { w with b:=(bf w.b pos).1 } (bf w.b pos).2,0):=by
 simp [bb,dK,ld,kC,cV,cN,gr,dj]
theorem HR {w:WorldD} {pos many:Int} {text:List UInt8} {ad:AddrD} {le:LetterD}:bb w ⟨7,2,pos,many,text,ad,le⟩=(ay 2 { w with b:=(bI w.b pos).1 } (bI w.b pos).2,0):=by
 simp [bb,dK,ld,kC,cV,cN,gr,dj]
theorem K6 {w:WorldD} {pos many:Int} {text:List UInt8} {ad:AddrD} {le:LetterD} (hbad:¬ bj ad.addr=2\/(aK w.b ad).2=false):bb w ⟨5,2,pos,many,text,ad,le⟩=(w,1):=by
 rcases hbad with h|h<;>simp [bb,dK,cV,h]
theorem E6 {w:WorldD} {a:ActD} (h:dK w a=true):bb w a=(w,1):=if_pos h
theorem I1 {w:WorldD} {a:ActD} (h:¬ dK w a=true):(bb w a).2=0:=by rw [bb,if_neg h]
theorem Gn (w:WorldD) (a:ActD):(bg w a).2=0\/(bg w a).1=w:=by
 unfold bg;repeat' split
 all_goals first|exact .inl rfl|exact .inr rfl
theorem I2 (w:WorldD) (a:ActD):(bb w a).2=0\/(bb w a).1=w:=by
 by_cases h:dK w a=true
 ·rw [E6 h];exact .inr rfl
 exact .inl (I1 h)
theorem gP {a:ActD} (h:dN a=true):1<=a.kind/\a.kind<=12/\1<=a.side/\a.side<=2/\0<=a.pos/\a.text.length<=1048576:=by
 simp only [dN,bU,fv,zG,decide_eq_true_eq] at h
 omega
theorem I3 (w:WorldD) (a:ActD) (hw:SmallD w) (ha:dN a=true) (h7:a.kind<=7):
  aP 57 [.sc (.pt 21 0 0),.ag a.cs] (w.hp true++[some ⟨[w.cs 0],61,60,true,false⟩]) (.sc (.int .i64 (bb w a).2))
  ((nH 21++[some ⟨[WorldD.cs (bb w a).1 22],61,60,true,false⟩])++WorldD.hp (bb w a).1 true):=by
 obtain⟨k1,k2,k3,k4,k5,k6⟩:=gP ha
 obtain⟨kind,side,pos,many,text,ad,le⟩:=a
 dsimp only at*
 have hs:side=1\/side=2:=zO
 have hk:kind=1\/kind=2\/kind=3\/kind=4\/kind=5\/kind=6\/kind=7:=zO
 clear ha k1 k2 k3 k4 h7
 rcases hs with rfl|rfl<;>rcases hk with rfl|rfl|rfl|rfl|rfl|rfl|rfl
 ·rw [HD];exact CX w pos many text ad le hw k6
 ·rw [HE];exact CY w pos many text ad le hw k6
 ·rw [HG];exact De w pos many text ad le hw k6
 ·rw [HH];exact CZ w pos many text ad le hw k6
 ·by_cases hb:bj ad.addr=1/\(aK w.a ad).2=true
  ·rw [HI hb.1 hb.2];exact C0 w pos many text ad le hw k6 hb.1 hb.2
  have hb:¬ bj ad.addr=1\/(aK w.a ad).2=false:=by
   by_cases h0:bj ad.addr=1
   ·exact .inr (by cases h1:(aK w.a ad).2;rfl;exact absurd ⟨h0,h1⟩ hb)
   exact .inl h0
  rw [K5 hb];exact Am w pos many text ad le hw hb
 ·rw [HJ];exact C2 w pos many text ad le hw k6
 ·rw [HK];exact C3 w pos many text ad le hw k6
 ·rw [HL];exact C4 w pos many text ad le hw k6
 ·rw [HM];exact C5 w pos many text ad le hw k6
 ·rw [HN];exact Df w pos many text ad le hw k6
 ·rw [HO];exact C6 w pos many text ad le hw k6
 ·by_cases hb:bj ad.addr=2/\(aK w.b ad).2=true
  ·rw [HP hb.1 hb.2];exact C7 w pos many text ad le hw k6 hb.1 hb.2
  have hb:¬ bj ad.addr=2\/(aK w.b ad).2=false:=by
   by_cases h0:bj ad.addr=2
   ·exact .inr (by cases h1:(aK w.b ad).2;rfl;exact absurd ⟨h0,h1⟩ hb)
   exact .inl h0
  rw [K6 hb];exact Ao w pos many text ad le hw hb
 ·rw [HQ];exact C8 w pos many text ad le hw k6
 rw [HR];exact C9 w pos many text ad le hw k6
theorem E7 (w:WorldD) (a:ActD) (hw:SmallD w) (ha:dN a=true) (h7:a.kind<=7) (hb:¬ dK w a=true):
  aP 109 [.ag (w.cs 0),.ag a.cs] (w.hp false) (.tu [.ag ((bb w a).1.cs 21),.sc (.int .i64 (bb w a).2)]) (w.hp false++(bb w a).1.hp true):=by
 obtain⟨k1,k2,k3,k4,k5,k6⟩:=gP ha
 obtain⟨kind,side,pos,many,text,ad,le⟩:=a
 dsimp only at*
 have hs:side=1\/side=2:=zO
 have hk:kind=1\/kind=2\/kind=3\/kind=4\/kind=5\/kind=6\/kind=7:=zO
 clear ha k1 k2 k3 k4 h7
 rcases hs with rfl|rfl<;>rcases hk with rfl|rfl|rfl|rfl|rfl|rfl|rfl
 ·rw [HD];exact yO w pos many text ad le hw k6
 ·rw [HE];exact yP w pos many text ad le hw k6
 ·rw [HG];exact y3 w pos many text ad le hw k6
 ·rw [HH];exact yQ w pos many text ad le hw k6
 ·have hb:bj ad.addr=1/\(aK w.a ad).2=true:=by
   by_cases h0:bj ad.addr=1<;>cases h1:(aK w.a ad).2<;>simp [dK,cV,h0,h1] at hb<;>exact⟨h0,rfl⟩
  rw [HI hb.1 hb.2];exact yR w pos many text ad le hw k6 hb.1 hb.2
 ·rw [HJ];exact yS w pos many text ad le hw k6
 ·rw [HK];exact yT w pos many text ad le hw k6
 ·rw [HL];exact yU w pos many text ad le hw k6
 ·rw [HM];exact yV w pos many text ad le hw k6
 ·rw [HN];exact y4 w pos many text ad le hw k6
 ·rw [HO];exact yW w pos many text ad le hw k6
 ·have hb:bj ad.addr=2/\(aK w.b ad).2=true:=by
   by_cases h0:bj ad.addr=2<;>cases h1:(aK w.b ad).2<;>simp [dK,cV,h0,h1] at hb<;>exact⟨h0,rfl⟩
  rw [HP hb.1 hb.2];exact yX w pos many text ad le hw k6 hb.1 hb.2
 ·rw [HQ];exact yY w pos many text ad le hw k6
 rw [HR];exact yZ w pos many text ad le hw k6
theorem Dg (w:WorldD) (a:ActD) (hw:SmallD w) (ha:dN a=true) (hb:dK w a=true):
  aP 109 [.ag (w.cs 0),.ag a.cs] (w.hp true) (.tu [.ag (w.cs 21),.sc (.int .i64 1)]) ((nH 21)++w.hp true):=by
 obtain⟨k1,k2,k3,k4,k5,k6⟩:=gP ha
 obtain⟨kind,side,pos,many,text,ad,le⟩:=a
 dsimp only at*
 have hs:side=1\/side=2:=zO
 have hk:kind=5:=by simp only [dK,zG,decide_eq_true_eq] at hb;exact hb.1
 subst hk
 rcases hs with rfl|rfl
 ·refine vW w pos many text ad le hw ?_
  by_cases h0:bj ad.addr=1
  ·exact .inr (by cases h1:(aK w.a ad).2;rfl;simp [dK,cV,h0,h1] at hb)
  exact .inl h0
 refine vX w pos many text ad le hw ?_
 by_cases h0:bj ad.addr=2
 ·exact .inr (by cases h1:(aK w.b ad).2;rfl;simp [dK,cV,h0,h1] at hb)
 exact .inl h0
theorem Gp (w:WorldD) (a:ActD) (hw:SmallD w) (ha:dN a=true) (h7:¬ a.kind<=7):
  aP 58 [.sc (.pt 21 0 0),.ag a.cs] (w.hp true++[some ⟨[w.cs 0],61,60,true,false⟩]) (.sc (.int .i64 (bg w a).2))
  ((nH 21++[some ⟨[WorldD.cs (bg w a).1 22],61,60,true,false⟩])++WorldD.hp (bg w a).1 true):=by
 obtain⟨k1,k2,k3,k4,k5,k6⟩:=gP ha
 obtain⟨kind,side,pos,many,text,ad,le⟩:=a
 dsimp only at*
 have hk:kind=8\/kind=9\/kind=10\/kind=11\/kind=12:=zO
 obtain⟨p,rfl⟩:=zk k5
 rcases hk with rfl|rfl|rfl|rfl|rfl
 ·exact E4 w side many p text ad le hw
 ·exact E5 w side many p text ad le hw
 ·exact C_ w side many p text ad le hw
 ·exact Da w side many p text ad le hw
 exact Db w side many p text ad le hw
theorem E8 (w:WorldD) (a:ActD) (hw:SmallD w) (ha:dN a=true) (h7:¬ a.kind<=7) (h10:a.kind<=10):
  aP 112 [.ag (w.cs 0),.ag a.cs] (w.hp true) (.tu [.ag ((bg w a).1.cs 21),.sc (.int .i64 (bg w a).2)]) ((nH 21)++(bg w a).1.hp true):=by
 obtain⟨k1,k2,k3,k4,k5,k6⟩:=gP ha
 obtain⟨kind,side,pos,many,text,ad,le⟩:=a
 dsimp only at*
 have hk:kind=8\/kind=9\/kind=10:=zO
 obtain⟨p,rfl⟩:=zk k5
 rcases hk with rfl|rfl|rfl
 ·exact Dc w side many p text ad le hw
 ·exact Dd w side many p text ad le hw
 exact Al w side many p text ad le hw
theorem I4 (w:WorldD) (a:ActD) (hw:SmallD w):aP 35 [.ag (w.cs 0),.ag a.cs] (w.hp false) (.tu [.ag ((d_ w a).1.cs 21),.sc (.int .i64 (d_ w a).2)]) (w.hp false++(d_ w a).1.hp true):=by
 have hC:=oC w hw.p.s
 have hA:=y5 a
 cases hok:dN a with
 |false=>
  rw [show d_ w a=(w,3) from by rw [d_,if_neg (by simp [hok])]]
  rw [hok] at hA
  dsimp only
  refine au func35 zXk rfl fun E hE=>ab 400 ?_
  simp (disch:=omega) only [ntmps35,results35,go_sem,seval]
  refine ai (qC) (hA) [] qM zF (ab 400 ?_)
  simp (disch:=omega) only [go_sem,seval]
  refine ai (qC) (hC) (qI 0 21) qM zF (ab 400 ?_)
  simp (disch:=omega) only [go_sem,seval]
  refine aj (qI 0 21++qI 24 21) (qC) _ zXg zF zF ?_
  simp (disch:=omega) only [go_sem,seval]
 |true=>
  rw [hok] at hA
  by_cases h7:a.kind<=7
  ·have hM:=I3 w a hw hok h7
   have hcode:=I2 w a
   rw [show d_ w a=bb w a from by rw [d_,if_pos hok,if_pos h7]]
   obtain⟨R,hR⟩:∃ R,R=bb w a:=⟨_,rfl⟩
   rw [<-hR] at hM hcode⊢
   clear hR
   obtain⟨r,c⟩:=R
   dsimp only at hM hcode⊢
   refine au func35 zXk rfl fun E hE=>ab 400 ?_
   simp (disch:=omega) only [ntmps35,results35,go_sem,seval]
   refine ai (qC) (hA) [] qM zF (ab 400 ?_)
   simp (disch:=omega) only [go_sem,seval]
   refine ai (qC) (hC) (qI 0 21) qM zF (ab 400 ?_)
   simp (disch:=omega) only [go_sem,seval]
   refine ai (qC) (hM) (qI 24 22) qM zF (ab 400 ?_)
   simp (disch:=omega) only [go_sem,seval]
   by_cases hz:c=0
   ·subst hz
    try simp (disch:=omega) only [go_sem,seval]
    refine aj (qI 0 21++qI 46 21) (qC) _ zXg zF zF ?_
    simp (disch:=omega) only [go_sem,seval]
   have hr:r=w:=by rcases hcode with h|h;exact absurd h hz;exact h
   subst hr
   try simp (disch:=omega) only [go_sem,seval]
   refine ai (qC) (hC) (qI 0 21) qM zF (ab 400 ?_)
   simp (disch:=omega) only [go_sem,seval]
   refine aj (qI 0 21++qI 67 21) (qC) _ zXg zF zF ?_
   simp (disch:=omega) only [go_sem,seval]
  have hM:=Gp w a hw hok h7
  have hcode:=Gn w a
  rw [show d_ w a=bg w a from by rw [d_,if_pos hok,if_neg h7]]
  obtain⟨R,hR⟩:∃ R,R=bg w a:=⟨_,rfl⟩
  rw [<-hR] at hM hcode⊢
  clear hR
  obtain⟨r,c⟩:=R
  dsimp only at hM hcode⊢
  refine au func35 zXk rfl fun E hE=>ab 400 ?_
  simp (disch:=omega) only [ntmps35,results35,go_sem,seval]
  refine ai (qC) (hA) [] qM zF (ab 400 ?_)
  simp (disch:=omega) only [go_sem,seval]
  refine ai (qC) (hC) (qI 0 21) qM zF (ab 400 ?_)
  simp (disch:=omega) only [go_sem,seval]
  refine ai (qC) (hM) (qI 24 22) qM zF (ab 400 ?_)
  simp (disch:=omega) only [go_sem,seval]
  by_cases hz:c=0
  ·subst hz
   try simp (disch:=omega) only [go_sem,seval]
   refine aj (qI 0 21++qI 46 21) (qC) _ zXg zF zF ?_
   simp (disch:=omega) only [go_sem,seval]
  have hr:r=w:=by rcases hcode with h|h;exact absurd h hz;exact h
  subst hr
  try simp (disch:=omega) only [go_sem,seval]
  refine ai (qC) (hC) (qI 0 21) qM zF (ab 400 ?_)
  simp (disch:=omega) only [go_sem,seval]
  refine aj (qI 0 21++qI 67 21) (qC) _ zXg zF zF ?_
  simp (disch:=omega) only [go_sem,seval]
theorem I5 (w:WorldD) (a:ActD) (hw:SmallD w):aP 67 [.ag (w.cs 0),.ag a.cs] (w.hp false) (.tu [.ag ((d_ w a).1.cs 21),.sc (.int .i64 (d_ w a).2)]) (w.hp false++(d_ w a).1.hp true):=by
 have hC:=kB w hw.p.s
 have hA:=y6 a
 have hI:=aJ a.kind 1 7
 cases hok:dN a with
 |false=>
  rw [show d_ w a=(w,3) from by rw [d_,if_neg (by simp [hok])]]
  rw [hok] at hA
  dsimp only
  refine qE func67 ntmps67 results67 fun E hE=>?_
  refine qK (hC) (qI 0 21) ?_
  refine qK (hA) [] ?_
  exact qF (qI 0 21++qI 24 21)
 |true=>
  rw [hok] at hA
  obtain⟨k1,k2,k3,k4,k5,k6⟩:=gP hok
  by_cases h7:a.kind<=7
  ·rw [show d_ w a=bb w a from by rw [d_,if_pos hok,if_pos h7]]
   have hin:bU a.kind 1 7=true:=by simp only [bU,zG,decide_eq_true_eq];omega
   rw [hin] at hI
   by_cases hb:dK w a=true
   ·have hQ:=Dg w a hw hok hb
    rw [E6 hb]
    dsimp only
    refine qE func67 ntmps67 results67 fun E hE=>?_
    refine qK (hC) (qI 0 21) ?_
    refine qK (hA) [] ?_
    refine qK (hI) [] ?_
    refine qK (hQ) (qI 24 21) ?_
    exact qF (qI 0 21++qI 45 21)
   have hQ:=E7 w a hw hok h7 hb
   obtain⟨R,hR⟩:∃ R,R=bb w a:=⟨_,rfl⟩
   rw [<-hR] at hQ⊢
   clear hR
   obtain⟨r,c⟩:=R
   dsimp only at hQ⊢
   refine qE func67 ntmps67 results67 fun E hE=>?_
   refine qK (hC) (qI 0 21) ?_
   refine qK (hA) [] ?_
   refine qK (hI) [] ?_
   refine qK (hQ) (qI 24 21) ?_
   exact qF (qI 0 21++qI 45 21)
  rw [show d_ w a=bg w a from by rw [d_,if_pos hok,if_neg h7]]
  have hin:bU a.kind 1 7=false:=by simp only [bU,Bool.and_eq_false_iff,decide_eq_false_iff_not];omega
  rw [hin] at hI
  by_cases h10:a.kind<=10
  ·have hQ:=E8 w a hw hok h7 h10
   obtain⟨R,hR⟩:∃ R,R=bg w a:=⟨_,rfl⟩
   rw [<-hR] at hQ⊢
   clear hR
   obtain⟨r,c⟩:=R
   dsimp only at hQ⊢
   refine qE func67 ntmps67 results67 fun E hE=>?_
   refine qK (hC) (qI 0 21) ?_
   refine qK (hA) [] ?_
   refine qK (hI) [] ?_
   refine qK (hQ) (qI 24 21) ?_
   exact qF (qI 0 21++qI 46 21)
  obtain⟨kind,side,pos,many,text,ad,le⟩:=a
  dsimp only at*
  have hbag:=hw.p.s.bag
  have hpast:=hw.p.s.past
  have hk:kind=11\/kind=12:=zO
  clear h7 h10 k1 k2 hok
  rcases hk with rfl|rfl
  ·have hM:=yL w le hw.p.s.keys hw.p.s.tags hw.p.s.nums
   cases hm:eK w le with
   |false=>
    rw [KZ hm]
    rw [hm] at hM
    dsimp only
    refine qE func67 ntmps67 results67 fun E hE=>?_
    refine qK (hC) (qI 0 21) ?_
    refine qK (hA) [] ?_
    refine qK (hI) [] ?_
    refine qK (hM) (qI 24 21) ?_
    exact qF (qI 0 21++qI 24 21)
   |true=>
    rw [hm] at hM
    by_cases h4:40<=w.bag.length
    ·rw [K0 hm h4]
     dsimp only
     refine qE func67 ntmps67 results67 fun E hE=>?_
     refine qK (hC) (qI 0 21) ?_
     refine qK (hA) [] ?_
     refine qK (hI) [] ?_
     refine qK (hM) (qI 24 21) ?_
     exact qF (qI 0 21++qI 24 21)
    rw [K1 hm h4]
    dsimp only
    refine qE func67 ntmps67 results67 fun E hE=>?_
    refine qK (hC) (qI 0 21) ?_
    refine qK (hA) [] ?_
    refine qK (hI) [] ?_
    refine qK (hM) (qI 24 21) ?_
    refine qJ (qI 0 21++qI 24 14++qI 47 1++qI 39 6) ?_
    simp [LetterD.cs]
  obtain⟨p,rfl⟩:=zk k5
  by_cases hp:p < w.past.length
  ·have hx:=aC (enc:=LetterD.cs) hp
   have hq1:= @K3 w side many p text ad le hp
   have hq2:= @K4 w side many p text ad le hp
   obtain⟨R,hR⟩:∃ R,R=bg w ⟨12,side,(p:Nat),many,text,ad,le⟩:=⟨_,rfl⟩
   change _=bg w _ at hR
   rw [<-hR] at hq1 hq2
   try rw [<-hR]
   clear hR
   generalize hxx:w.past[p]=x at*
   have hS:=ff x.to
   generalize bj x.to=sd at*
   by_cases h0:sd=0
   ·rw [hq1 (.inl h0)]
    dsimp only
    refine qE func67 ntmps67 results67 fun E hE=>?_
    refine qK (hC) (qI 0 21) ?_
    refine qK (hA) [] ?_
    refine qK (hI) [] ?_
    try simp (disch:=omega) only [go_sem,seval,hx,hxx]
    refine qK (hS) [] ?_
    exact qF (qI 0 21++qI 24 21)
   by_cases h4:40<=w.bag.length
   ·rw [hq1 (.inr h4)]
    dsimp only
    refine qE func67 ntmps67 results67 fun E hE=>?_
    refine qK (hC) (qI 0 21) ?_
    refine qK (hA) [] ?_
    refine qK (hI) [] ?_
    try simp (disch:=omega) only [go_sem,seval,hx,hxx]
    refine qK (hS) [] ?_
    exact qF (qI 0 21++qI 24 21)
   rw [hq2 h0 h4]
   dsimp only
   refine qE func67 ntmps67 results67 fun E hE=>?_
   refine qK (hC) (qI 0 21) ?_
   refine qK (hA) [] ?_
   refine qK (hI) [] ?_
   try simp (disch:=omega) only [go_sem,seval,hx,hxx]
   refine qK (hS) [] ?_
   refine qX ?_
   refine qJ (qI 0 21++qI 24 14++qI 47 1++qI 39 6) ?_
   simp [LetterD.cs]
  rw [K2 hp]
  dsimp only
  refine qE func67 ntmps67 results67 fun E hE=>?_
  refine qK (hC) (qI 0 21) ?_
  refine qK (hA) [] ?_
  refine qK (hI) [] ?_
  exact qF (qI 0 21++qI 24 21)
theorem Jj {e:EndD} {x:LetterD} {Q:EndD×List LetterD->Prop} (h0:Q (e,[])) (h1:x.kind=1->Q (aW e x)) (h2:x.kind=2->Q (bE e x)) (h4:x.kind=4->Q (cc e x)) (h5:x.kind=5->Q (ba e x)) (h6:x.kind=6->Q (aH e x)) (h7:x.kind=7->Q (bl e x)) (h8:x.kind=8->Q (cv e x)) (h9:x.kind=9->Q (cx e x)) (h10:x.kind=10->Q (cy e x)) (h11:x.kind=11->Q (cA e x)) (h12:x.kind=12->Q (cm e x)) (h13:x.kind=13->Q (bP e x)):Q (cR e x):=by
 by_cases hc:dJ e x=true
 ·by_cases k1:x.kind=1
  ·rw [yb hc k1];exact h1 k1
  by_cases k2:x.kind=2
  ·rw [yc hc k2];exact h2 k2
  by_cases k4:x.kind=4
  ·rw [Cw hc k4];exact h4 k4
  by_cases k5:x.kind=5
  ·rw [Cx hc k5];exact h5 k5
  by_cases k6:x.kind=6
  ·rw [Cy hc k6];exact h6 k6
  by_cases k7:x.kind=7
  ·rw [Cz hc k7];exact h7 k7
  by_cases k8:x.kind=8
  ·rw [CA hc k8];exact h8 k8
  by_cases k9:x.kind=9
  ·rw [CB hc k9];exact h9 k9
  by_cases k10:x.kind=10
  ·rw [sL hc k10];exact h10 k10
  by_cases k11:x.kind=11
  ·rw [wt hc k11];exact h11 k11
  by_cases k12:x.kind=12
  ·rw [wu hc k12];exact h12 k12
  by_cases k13:x.kind=13
  ·rw [sM hc k13];exact h13 k13
  rw [cR,if_pos hc,if_neg k1,if_neg k2,if_neg k4,if_neg k5,if_neg k6,if_neg k7,if_neg k8,if_neg k9,if_neg k10,if_neg k11,if_neg k12,if_neg k13];exact h0
 rw [um (by simpa using hc)];exact h0
theorem GN (a:ActD):(aU a).length<=4:=by
 rw [aU,cH]
 (repeat' split)<;>simp
theorem Ly {k:Int} (h:1<=k/\k<=12):actTab[k.toNat]? =some (actTab.getD k.toNat []):=by
 have hl:actTab.length=13:=rfl
 rw [List.getD_eq_getElem?_getD,List.getElem?_eq_getElem zO]
 rfl
theorem DB (a:ActD) (hw:a.wf):oO Tryz.prog 0 actTab 52 [.ag a.cs] [] (.sc (.st (bM a))) []:=by
 have hA:=y5 a
 by_cases hok:dN a=true
 ·rw [hok] at hA
  have hk:1<=a.kind/\a.kind<=12:=by
   simp only [dN,bU,zG,decide_eq_true_eq] at hok
   exact hok.1.1.1
  have hS:=GM a hw hk
  have hfl:=GN a
  by_cases hf:aN a=true
  ·by_cases ht:cq a=a
   ·have hg:actGood a=true:=by simp [actGood,hok,hf,ht]
    have hal:=iW hg
    rw [actParts] at hal
    have hp:=(iI (ks hg)).tot
    rw [actParts] at hp
    have hx:=Ly hk
    generalize actTab.getD a.kind.toNat []=x at hal hp hx
    have hj:=oW (y:=[32]) (l:=x::aU a)
    simp only [List.length_cons,List.length_nil,Nat.mul_one] at hj
    rw [hal]
    rw [ht,hf] at hS
    generalize aU a=fl at*
    refine tw func52 zXk rfl fun E hG hE=>ab 400 ?_
    simp (disch:=omega) only [ntmps52,results52,go_sem]
    refine qK (hA) [] ?_
    refine qK (hS) [] ?_
    have hJ:=lv [32] (x::fl) zS zO
    rw [show (x::fl).length=1+fl.length from by simp;omega] at hJ
    refine Lx hG rfl rfl rfl rfl rfl rfl underlying104 zXk zXk zXk zXk rfl zO zO hx (qC) (ab 400 ?_) (by unfold Slots.has;simp)
    refine qX ?_
    refine qK (hJ) (qI 4 1) ?_
    exact qF []
   have hcmp:cS a.cs (cq a).cs=false:=by rw [ActD.cmp];simpa using fun h=>ht h.symm
   rw [nq (fun h=>ht h.2)]
   generalize cq a=u at*
   simp only [go_sem] at hcmp
   rw [hf] at hS
   generalize aU a=fl at*
   refine DA ?_
   refine qE func52 ntmps52 results52 fun E hE=>?_
   refine qK (hA) [] ?_
   refine ai (qC) (hS) [] qM zF (ab 400 ?_)
   simp (disch:=omega) only [go_sem,seval,hcmp]
   exact qF []
  have hf':aN a=false:=by simpa using hf
  have hno:bM a=[]:=by simp [bM,actGood,hf']
  rw [hno]
  rw [hf'] at hS
  generalize aU a=fl at*
  refine DA ?_
  refine qE func52 ntmps52 results52 fun E hE=>?_
  refine qK (hA) [] ?_
  refine qK (hS) [] ?_
  exact qF []
 have hok':dN a=false:=by simpa using hok
 rw [hok'] at hA
 rw [nq (fun h=>hok h.1)]
 refine DA ?_
 refine qE func52 ntmps52 results52 fun E hE=>?_
 refine qK (hA) [] ?_
 exact qF []
end
end Go.Proofs.YtdiiopjaebnmfaaGreatDoor
