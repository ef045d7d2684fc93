/-
  Texts merged for this claim by shake.py: what its proof needs.
-/
import Derived.Test.YtjghbknhneffjaaGreatZFnBaseA
import Derived.Test.YtjghbknhneffjaaGreatZFnBaseB
import Derived.Test.YtjghbknhneffjaaGreatZFnBaseC
import Derived.Test.YtjghbknhneffjaaGreatZFnBaseF
import Derived.Test.YtjghbknhneffjaaGreatZFnBaseG
import Derived.Test.YtjghbknhneffjaaGreatZFnBaseI
import Derived.Test.YtjghbknhneffjaaGreatZFnBaseJ
set_option maxHeartbeats 16000000
set_option maxRecDepth 100000
set_option linter.unusedVariables false
set_option linter.unusedSimpArgs false
namespace Go.Proofs.YtjghbknhneffjaaGreat
section
open Go.RowKit
theorem qm (w:WorldD) (side many:Int) (p:Nat) (text:List UInt8) (ad:AddrD) (le:LetterD) (hw:SmallD w):
  aP 170 [.ag (w.cs 0),.ag (ActD.cs ⟨8,side,(p:Nat),many,text,ad,le⟩)] (w.hp true) (.tu [.ag (WorldD.cs (ce w ⟨8,side,(p:Nat),many,text,ad,le⟩).1 21),.sc (.int .i64 (ce w ⟨8,side,(p:Nat),many,text,ad,le⟩).2)])
  ((nH 21)++WorldD.hp (ce w ⟨8,side,(p:Nat),many,text,ad,le⟩).1 true):=by
 have hbag:=hw.p.s.bag
 obtain⟨R,hR⟩:∃ R,R=ce w ⟨8,side,(p:Nat),many,text,ad,le⟩:=⟨_,rfl⟩
 rw [<-hR]
 by_cases hp:p < w.bag.length
 ·rw [Dz hp] at hR
  have hO:=ld w.bag p hbag hp
  rw [<-gv hp,<-kz] at hO
  obtain⟨B,hBe⟩:∃ B,B=fF w.bag (p:Nat):=⟨_,rfl⟩
  have hB:B.length<=1048576:=by rw [hBe,gv hp];omega
  have hx:=aT (enc:=LetterD.cs) hp
  rw [<-hBe] at hR hO
  clear hBe
  generalize hxx:w.bag[p]=x at*
  have hL:=uw { w with bag:=B } x ⟨⟨hw.p.s.a,hw.p.s.b,hB,hw.p.s.past,hw.p.s.keys,hw.p.s.tags,hw.p.s.nums,hw.p.s.ansA,hw.p.s.ansB⟩,hw.p.pa,hw.p.pb⟩
  obtain⟨L,hLe⟩:∃ L,L=eF { w with bag:=B } x:=⟨_,rfl⟩
  rw [<-hLe] at hL hR
  clear hLe
  subst hR
  dsimp only
  refine gU Tryz.func170 Tryz.ntmps170 Tryz.results170 fun E hE=>?_
  try simp (disch:=omega) only [go_sem,seval,hx,hxx]
  refine qK (hO) (qI 14 1) ?_
  refine qK (hL) (qI 0 14++qI 25 1++qI 15 6) ?_
  exact dk (qI 0 21++qI 26 21)
 rw [Dy hp] at hR
 subst hR
 dsimp only
 refine gU Tryz.func170 Tryz.ntmps170 Tryz.results170 fun E hE=>?_
 exact dk (qI 0 21++qI 0 21)
theorem qo (w:WorldD) (side many:Int) (p:Nat) (text:List UInt8) (ad:AddrD) (le:LetterD) (hw:SmallD w):
  aP 170 [.ag (w.cs 0),.ag (ActD.cs ⟨9,side,(p:Nat),many,text,ad,le⟩)] (w.hp true) (.tu [.ag (WorldD.cs (ce w ⟨9,side,(p:Nat),many,text,ad,le⟩).1 21),.sc (.int .i64 (ce w ⟨9,side,(p:Nat),many,text,ad,le⟩).2)])
  ((nH 21)++WorldD.hp (ce w ⟨9,side,(p:Nat),many,text,ad,le⟩).1 true):=by
 have hbag:=hw.p.s.bag
 obtain⟨R,hR⟩:∃ R,R=ce w ⟨9,side,(p:Nat),many,text,ad,le⟩:=⟨_,rfl⟩
 rw [<-hR]
 by_cases hp:p < w.bag.length
 ·rw [DB hp] at hR
  have hO:=ld w.bag p hbag hp
  rw [<-gv hp,<-kz] at hO
  obtain⟨B,hBe⟩:∃ B,B=fF w.bag (p:Nat):=⟨_,rfl⟩
  have hB:B.length<=1048576:=by rw [hBe,gv hp];omega
  have hx:=aT (enc:=LetterD.cs) hp
  rw [<-hBe] at hR hO
  clear hBe
  generalize hxx:w.bag[p]=x at*
  subst hR
  dsimp only
  refine gU Tryz.func170 Tryz.ntmps170 Tryz.results170 fun E hE=>?_
  try simp (disch:=omega) only [go_sem,seval,hx,hxx]
  refine qK (hO) (qI 14 1) ?_
  exact dk (qI 0 21++qI 0 14++qI 25 1++qI 15 6)
 rw [DA hp] at hR
 subst hR
 dsimp only
 refine gU Tryz.func170 Tryz.ntmps170 Tryz.results170 fun E hE=>?_
 exact dk (qI 0 21++qI 0 21)
theorem n7 (w:WorldD) (side many:Int) (p:Nat) (text:List UInt8) (ad:AddrD) (le:LetterD) (hw:SmallD w):
  aP 170 [.ag (w.cs 0),.ag (ActD.cs ⟨10,side,(p:Nat),many,text,ad,le⟩)] (w.hp true) (.tu [.ag (WorldD.cs (ce w ⟨10,side,(p:Nat),many,text,ad,le⟩).1 21),.sc (.int .i64 (ce w ⟨10,side,(p:Nat),many,text,ad,le⟩).2)])
  ((nH 21)++WorldD.hp (ce w ⟨10,side,(p:Nat),many,text,ad,le⟩).1 true):=by
 have hbag:=hw.p.s.bag
 obtain⟨R,hR⟩:∃ R,R=ce w ⟨10,side,(p:Nat),many,text,ad,le⟩:=⟨_,rfl⟩
 rw [<-hR]
 by_cases hp:p < w.bag.length/\¬ 40<=w.bag.length
 ·obtain⟨hp,h4⟩:=hp
  rw [B7 hp h4] at hR
  have hx:=aT (enc:=LetterD.cs) hp
  generalize hxx:w.bag[p]=x at*
  subst hR
  dsimp only
  refine gU Tryz.func170 Tryz.ntmps170 Tryz.results170 fun E hE=>?_
  try simp (disch:=omega) only [go_sem,seval,hx,hxx]
  refine fL (qI 0 21++qI 0 14++qI 26 1++qI 15 6) (qC) _ (by simp only [go_sem];rfl) (by rfl) (by rfl) ?_
  simp (disch:=omega) only [go_sem,seval]
  simp [LetterD.cs]
 rw [B6 (by omega)] at hR
 subst hR
 dsimp only
 by_cases hq:p < w.bag.length
 ·have h4:40<=w.bag.length:=by omega
  have hx:=aT (enc:=LetterD.cs) hq
  generalize hxx:w.bag[p]=x at*
  refine gU Tryz.func170 Tryz.ntmps170 Tryz.results170 fun E hE=>?_
  try simp (disch:=omega) only [go_sem,seval,hx,hxx]
  exact dk (qI 0 21++qI 0 21)
 refine gU Tryz.func170 Tryz.ntmps170 Tryz.results170 fun E hE=>?_
 exact dk (qI 0 21++qI 0 21)
theorem lw (w:WorldD) (pos many:Int) (text:List UInt8) (ad:AddrD) (le:LetterD) (hw:SmallD w) (hbad:¬ sideAt ad.addr=1\/(az w.a ad).2=false):
  aP 169 [.ag (w.cs 0),.ag (ActD.cs ⟨5,1,pos,many,text,ad,le⟩)] (w.hp true) (.tu [.ag (WorldD.cs w 21),.sc (.int .i64 1)]) ((nH 21)++WorldD.hp w true):=by
 have hX:=fy w.a ad hw.p.s.a
 have hsm:=dU (a:=ad) hw.p.s.a
 have hEA:aP 74 [.ag (w.cs 0),.sc (.int .i64 1)] (w.hp false) (.ag (w.a.cs 21)) (w.hp false++w.a.hp true):=bq w 1 hw.p.s.a.own hw.p.s.a.far hw.p.s.a.subs hw.p.s.a.halfs hw.p.s.a.list hw.p.s.a.done hw.p.s.a.over hw.p.s.b.own hw.p.s.b.far hw.p.s.b.subs hw.p.s.b.halfs hw.p.s.b.list hw.p.s.b.done hw.p.s.b.over
 obtain⟨pr,hpr⟩:∃ p,p=az w.a ad:=⟨_,rfl⟩
 rw [<-hpr] at hX hsm hbad
 obtain⟨e1,ok1⟩:=pr
 dsimp only at hX hsm hbad
 have hSd:=cV ad.addr
 generalize sideAt ad.addr=sd at*
 refine gU Tryz.func169 Tryz.ntmps169 Tryz.results169 fun E hE=>?_
 refine qK (hEA) (qI 0 21) ?_
 refine qK (hX) (qI 24 7) ?_
 cases ok1 with
 |false=>
  refine qD [0,1,2,3,4,5,7,8,6,9,10] ?_
  refine qG ?_
  exact dk (qI 0 21++qI 0 21)
 |true=>
  have h0:¬ sd=1:=by rcases hbad with h|h;exact h;exact absurd h (by simp)
  refine qD [0,1,2,3,4,5,7,8,6,9,10] ?_
  refine aQ (hSd) [] ?_
  refine qG ?_
  exact dk (qI 0 21++qI 0 21)
theorem lx (w:WorldD) (pos many:Int) (text:List UInt8) (ad:AddrD) (le:LetterD) (hw:SmallD w) (hbad:¬ sideAt ad.addr=2\/(az w.b ad).2=false):
  aP 169 [.ag (w.cs 0),.ag (ActD.cs ⟨5,2,pos,many,text,ad,le⟩)] (w.hp true) (.tu [.ag (WorldD.cs w 21),.sc (.int .i64 1)]) ((nH 21)++WorldD.hp w true):=by
 have hX:=fy w.b ad hw.p.s.b
 have hsm:=dU (a:=ad) hw.p.s.b
 have hEA:aP 74 [.ag (w.cs 0),.sc (.int .i64 2)] (w.hp false) (.ag (w.b.cs 21)) (w.hp false++w.b.hp true):=bq w 2 hw.p.s.a.own hw.p.s.a.far hw.p.s.a.subs hw.p.s.a.halfs hw.p.s.a.list hw.p.s.a.done hw.p.s.a.over hw.p.s.b.own hw.p.s.b.far hw.p.s.b.subs hw.p.s.b.halfs hw.p.s.b.list hw.p.s.b.done hw.p.s.b.over
 obtain⟨pr,hpr⟩:∃ p,p=az w.b ad:=⟨_,rfl⟩
 rw [<-hpr] at hX hsm hbad
 obtain⟨e1,ok1⟩:=pr
 dsimp only at hX hsm hbad
 have hSd:=cV ad.addr
 generalize sideAt ad.addr=sd at*
 refine gU Tryz.func169 Tryz.ntmps169 Tryz.results169 fun E hE=>?_
 refine qK (hEA) (qI 0 21) ?_
 refine qK (hX) (qI 24 7) ?_
 cases ok1 with
 |false=>
  refine qD [0,1,2,3,4,5,7,8,6,9,10] ?_
  refine qG ?_
  exact dk (qI 0 21++qI 0 21)
 |true=>
  have h0:¬ sd=2:=by rcases hbad with h|h;exact h;exact absurd h (by simp)
  refine qD [0,1,2,3,4,5,7,8,6,9,10] ?_
  refine aQ (hSd) [] ?_
  refine qG ?_
  exact dk (qI 0 21++qI 0 21)
theorem DQ {w:WorldD} {pos many:Int} {text:List UInt8} {ad:AddrD} {le:LetterD}:eX w ⟨1,1,pos,many,text,ad,le⟩=(an 1 { w with wroteA:=w.wroteA++text.take (cc w.a text).2,a:=(aA w.a text).1 } (aA w.a text).2,0):=by
 simp [eX,dl,gD,ie,bB,cq,dT,bR]
theorem DR {w:WorldD} {pos many:Int} {text:List UInt8} {ad:AddrD} {le:LetterD}:eX w ⟨2,1,pos,many,text,ad,le⟩=(an 1 { w with readA:=w.readA++(bi w.a many).2,a:=((bi w.a many).1,([]:List LetterD)).1 } ((bi w.a many).1,([]:List LetterD)).2,0):=by
 simp [eX,dl,gD,ie,bB,cq,dT,bR]
theorem DS {w:WorldD} {pos many:Int} {text:List UInt8} {ad:AddrD} {le:LetterD}:eX w ⟨3,1,pos,many,text,ad,le⟩=(an 1 { w with a:=(cQ w.a).1 } (cQ w.a).2,0):=by
 simp [eX,dl,gD,ie,bB,cq,dT,bR]
theorem DT {w:WorldD} {pos many:Int} {text:List UInt8} {ad:AddrD} {le:LetterD}:eX w ⟨4,1,pos,many,text,ad,le⟩=(an 1 { w with a:=(bb w.a).1 } (bb w.a).2,0):=by
 simp [eX,dl,gD,ie,bB,cq,dT,bR]
theorem DU {w:WorldD} {pos many:Int} {text:List UInt8} {ad:AddrD} {le:LetterD} (hsd:sideAt ad.addr=1) (hgood:(az w.a ad).2=true):eX w ⟨5,1,pos,many,text,ad,le⟩=(an 1 { w with a:=((az w.a ad).1,([]:List LetterD)).1 } ((az w.a ad).1,([]:List LetterD)).2,0):=by
 simp [eX,dl,gD,ie,bB,cq,dT,bR,hsd,hgood]
theorem DV {w:WorldD} {pos many:Int} {text:List UInt8} {ad:AddrD} {le:LetterD}:eX w ⟨1,2,pos,many,text,ad,le⟩=(an 2 { w with wroteB:=w.wroteB++text.take (cc w.b text).2,b:=(aA w.b text).1 } (aA w.b text).2,0):=by
 simp [eX,dl,gD,ie,bB,cq,dT,bR]
theorem DW {w:WorldD} {pos many:Int} {text:List UInt8} {ad:AddrD} {le:LetterD}:eX w ⟨2,2,pos,many,text,ad,le⟩=(an 2 { w with readB:=w.readB++(bi w.b many).2,b:=((bi w.b many).1,([]:List LetterD)).1 } ((bi w.b many).1,([]:List LetterD)).2,0):=by
 simp [eX,dl,gD,ie,bB,cq,dT,bR]
theorem DX {w:WorldD} {pos many:Int} {text:List UInt8} {ad:AddrD} {le:LetterD}:eX w ⟨3,2,pos,many,text,ad,le⟩=(an 2 { w with b:=(cQ w.b).1 } (cQ w.b).2,0):=by
 simp [eX,dl,gD,ie,bB,cq,dT,bR]
theorem DY {w:WorldD} {pos many:Int} {text:List UInt8} {ad:AddrD} {le:LetterD}:eX w ⟨4,2,pos,many,text,ad,le⟩=(an 2 { w with b:=(bb w.b).1 } (bb w.b).2,0):=by
 simp [eX,dl,gD,ie,bB,cq,dT,bR]
theorem DZ {w:WorldD} {pos many:Int} {text:List UInt8} {ad:AddrD} {le:LetterD} (hsd:sideAt ad.addr=2) (hgood:(az w.b ad).2=true):eX w ⟨5,2,pos,many,text,ad,le⟩=(an 2 { w with b:=((az w.b ad).1,([]:List LetterD)).1 } ((az w.b ad).1,([]:List LetterD)).2,0):=by
 simp [eX,dl,gD,ie,bB,cq,dT,bR,hsd,hgood]
theorem DC {w:WorldD} {a:ActD} (h:dl w a=true):eX w a=(w,1):=if_pos h
theorem lk {a:ActD} (h:cO a=true):1<=a.kind/\a.kind<=12/\1<=a.side/\a.side<=2/\0<=a.pos/\a.text.length<=1048576:=by
 simp only [cO,bj,gA,Bool.and_eq_true,decide_eq_true_eq] at h
 omega
theorem A0 (w:WorldD) (a:ActD) (hw:SmallD w) (ha:cO a=true) (hb:dl w a=true):
  aP 169 [.ag (w.cs 0),.ag a.cs] (w.hp true) (.tu [.ag (w.cs 21),.sc (.int .i64 1)]) ((nH 21)++w.hp true):=by
 obtain⟨k1,k2,k3,k4,k5,k6⟩:=lk ha
 obtain⟨kind,side,pos,many,text,ad,le⟩:=a
 dsimp only at*
 have hs:side=1\/side=2:=by omega
 have hk:kind=5:=by simp only [dl,Bool.and_eq_true,decide_eq_true_eq] at hb;exact hb.1
 subst hk
 rcases hs with rfl|rfl
 ·refine lw w pos many text ad le hw ?_
  by_cases h0:sideAt ad.addr=1
  ·exact .inr (by cases h1:(az w.a ad).2;rfl;simp [dl,bB,h0,h1] at hb)
  exact .inl h0
 refine lx w pos many text ad le hw ?_
 by_cases h0:sideAt ad.addr=2
 ·exact .inr (by cases h1:(az w.b ad).2;rfl;simp [dl,bB,h0,h1] at hb)
 exact .inl h0
theorem Bl (w:WorldD) (a:ActD) (hw:SmallD w) (ha:cO a=true) (h7:¬ a.kind<=7) (h10:a.kind<=10):
  aP 170 [.ag (w.cs 0),.ag a.cs] (w.hp true) (.tu [.ag ((ce w a).1.cs 21),.sc (.int .i64 (ce w a).2)]) ((nH 21)++(ce w a).1.hp true):=by
 obtain⟨k1,k2,k3,k4,k5,k6⟩:=lk ha
 obtain⟨kind,side,pos,many,text,ad,le⟩:=a
 dsimp only at*
 have hk:kind=8\/kind=9\/kind=10:=by omega
 obtain⟨p,rfl⟩:=Int.eq_ofNat_of_zero_le k5
 rcases hk with rfl|rfl|rfl
 ·exact qm w side many p text ad le hw
 ·exact qo w side many p text ad le hw
 exact n7 w side many p text ad le hw
def qp (l:List LetterD):Prop:=∀ y∈l,¬ y.kind=5
theorem aC:qp []:=fun y hy=>by simp at hy
theorem dV {x:LetterD} (h:¬ x.kind=5):qp [x]:=fun y hy=>by rw [List.mem_singleton] at hy;rw [hy];exact h
theorem lM {l m:List LetterD} (h:qp l) (g:qp m):qp (l++m):=fun y hy=>(List.mem_append.1 hy).elim (h y) (g y)
theorem vM {α:Type} {l:List α} {f:α->LetterD} (h:∀ a,¬ (f a).kind=5):qp (l.map f):=fun y hy=>by
 obtain⟨a,_,rfl⟩:=List.mem_map.1 hy
 exact h a
theorem zK {e:EndD}:qp (cL e).2:=by
 unfold cL;split
 ·exact dV (by simp [vK,aq])
 exact aC
theorem kA:∀ {k:Nat} {e:EndD},qp (cu k e).2
 |0,e=>aC
 |k+1,e=>lM zK (kA (k:=k))
theorem zL {e:EndD}:qp (bX e):=by
 unfold bX;split
 ·exact vM fun a=>by simp [sh,aq]
 exact aC
theorem xt {e:EndD} {s:SubD}:qp (di e s):=by
 unfold di;repeat' split
 all_goals first|exact aC|exact dV (by simp [eM,cb,aq])
theorem zM {e:EndD} {r:RoadD} {s:Bool}:qp (dz e r s).2:=by
 unfold dz;split
 ·exact dV (by simp [eM,aq])
 exact aC
theorem pg {far:List AddrD}:∀ {l:List RoadD} {e:EndD},qp (dS far e l).2
 |[],e=>aC
 |r::l,e=>lM zM (pg (l:=l))
structure Keep (e e':EndD):Prop where
 now:e'.now=e.now
 bucket:e'.bucket=e.bucket
 halfs:e'.halfs=e.halfs
theorem Keep.refl (e:EndD):Keep e e:=⟨rfl,rfl,rfl⟩
theorem Keep.trans {a b c:EndD} (h:Keep a b) (g:Keep b c):Keep a c:=⟨g.now.trans h.now,g.bucket.trans h.bucket,g.halfs.trans h.halfs⟩
theorem xu {e:EndD}:Keep e (cL e).1:=by unfold cL;split<;>exact⟨rfl,rfl,rfl⟩
theorem je:∀ {k:Nat} {e:EndD},Keep e (cu k e).1
 |0,e=>Keep.refl e
 |k+1,e=>xu.trans (je (k:=k))
theorem xv {e:EndD} {r:RoadD} {s:Bool}:Keep e (dz e r s).1:=by unfold dz;split<;>exact⟨rfl,rfl,rfl⟩
theorem gx {far:List AddrD}:∀ {l:List RoadD} {e:EndD},Keep e (dS far e l).1
 |[],e=>Keep.refl e
 |r::l,e=>xv.trans (gx (l:=l))
theorem uO {e:EndD} {t:List UInt8}:Keep e (cc e t).1:=by unfold cc;split<;>exact⟨rfl,rfl,rfl⟩
structure YoungE (e:EndD):Prop where
 now:0<=e.now/\e.now<=1000000000
 rate:e.bucket.rate=1
 burst:e.bucket.burst=3
 cur:0<=e.bucket.cur/\e.bucket.cur<=3
 halfs:∀ h∈e.halfs,e.now < h.till/\h.till<=e.now+6
 few:e.halfs.length<=4
 subs:e.subs.length<=8
theorem YoungE.keep {e e':EndD} (h:YoungE e) (k:Keep e e') (hs:e'.subs.length<=8):YoungE e':=by
 obtain⟨k1,k2,k3⟩:=k
 exact⟨by rw [k1];exact h.now,by rw [k2];exact h.rate,by rw [k2];exact h.burst,by rw [k2];exact h.cur,by rw [k1,k3];exact h.halfs,by rw [k3];exact h.few,hs⟩
theorem xw {e:EndD}:(cL e).1.subs=e.subs:=by unfold cL;split<;>rfl
theorem jf:∀ {k:Nat} {e:EndD},(cu k e).1.subs=e.subs
 |0,e=>rfl
 |k+1,e=>(jf (k:=k)).trans xw
theorem xx {e:EndD} {r:RoadD} {s:Bool} (h:e.subs.length<=8):(dz e r s).1.subs.length<=8:=by
 unfold dz;split
 ·rename_i hk
  simp only [w_,Bool.and_eq_true,decide_eq_true_eq] at hk
  simp only [List.length_append,List.length_singleton]
  omega
 exact h
theorem nu {far:List AddrD}:∀ {l:List RoadD} {e:EndD},e.subs.length<=8->(dS far e l).1.subs.length<=8
 |[],e,h=>h
 |r::l,e,h=>nu (l:=l) (xx h)
theorem nv {e:EndD} (h:YoungE e):bucketOk e.bucket=true:=by
 have h1:=h.rate;have h2:=h.burst;have h3:=h.cur
 simp only [bucketOk,bj,Bool.and_eq_true,decide_eq_true_eq]
 omega
def sI (e:EndD) (r:EndD×List LetterD):Prop:=
 (r.1.now=e.now/\r.1.bucket=e.bucket/\qp r.2)\/(r.1.now=e.now/\0 < e.bucket.cur/\r.1.bucket={ e.bucket with cur:=e.bucket.cur - 1 }/\∃ y,r.2=[y])\/(r.1.now=e.now+1/\r.1.bucket={ e.bucket with cur:=min 3 (e.bucket.cur+1) }/\qp r.2)
theorem n9 {e:EndD} (h:YoungE e) (ht:(bI e.bucket).2=true):0 < e.bucket.cur/\(bI e.bucket).1={ e.bucket with cur:=e.bucket.cur - 1 }:=by
 rw [bI] at ht⊢
 have h3:=h.cur
 split at ht
 ·rename_i hc
  rw [if_pos hc]
  exact⟨by have:=hc.2;omega,rfl⟩
 simp at ht
theorem jZ {l:List HalfD} {n:Nat} {t now:Int} (ht:now < t/\t<=now+6) (h:∀ h∈l,now < h.till/\h.till<=now+6) {q:HalfD} (hq:q.till=t):∀ h∈l.set n q,now < h.till/\h.till<=now+6:=fun y hy=>by
 rcases List.mem_or_eq_of_mem_set hy with hy|hy
 ·exact h y hy
 rw [hy,hq];exact ht
theorem n_ {l:List HalfD} {now:Int} {q:HalfD} (hq:now < q.till/\q.till<=now+6) (h:∀ h∈l,now < h.till/\h.till<=now+6) (hl:l.length<=4):(∀ h∈(bJ l q).1,now < h.till/\h.till<=now+6)/\(bJ l q).1.length<=4:=by
 rw [bJ];split
 ·rename_i hk
  refine⟨?_,ca hk⟩
  dsimp only
  rw [cx];split
  ·exact jZ hq h rfl
  intro y hy
  rcases List.mem_append.1 hy with hy|hy
  ·exact h y hy
  rw [List.mem_singleton.1 hy];exact hq
 exact⟨h,hl⟩
theorem ny {l:List HalfD} {r:RoadD}:(∀ h∈bz l r,h∈l)/\(bz l r).length<=l.length:=by
 rw [bz];split
 ·exact⟨fun _ h=>h,Nat.le_refl _⟩
 exact⟨fun y hy=>(List.mem_append.1 hy).elim List.mem_of_mem_take List.mem_of_mem_drop,by simp only [List.length_append,List.length_take,List.length_drop];omega⟩
theorem xy {e:EndD} {x:LetterD} (h:YoungE e):sI e (bM e x)/\YoungE (bM e x).1:=by
 have same:∀ {s:List SubD} {o f:List AddrD} {q:Int} {st k p:Int} {i:PiecesD} {u:OutD} {dn ov:List Int},s.length<=8->YoungE { e with subs:=s,own:=o,far:=f,draw:=q,state:=st,key:=k,peer:=p,inp:=i,out:=u,done:=dn,over:=ov }:=fun hs=>⟨h.now,h.rate,h.burst,h.cur,h.halfs,h.few,hs⟩
 have hsub:=h.subs
 have t0:∀ {e':EndD} {l:List LetterD},e'.now=e.now->e'.bucket=e.bucket->qp l->sI e (e',l):=fun h1 h2 h3=>.inl ⟨h1,h2,h3⟩
 refine jS (Q:=fun r=>sI e r/\YoungE r.1) ⟨t0 rfl rfl aC,h⟩ ?_ ?_ ?_ ?_ ?_ ?_ ?_ ?_ ?_ ?_ ?_ ?_
 ·unfold ax;split
  ·rename_i hk
   simp only [f8,Bool.and_eq_true,decide_eq_true_eq] at hk
   exact⟨t0 rfl rfl (dV (by simp [aq])),same (by simp only [List.length_append,List.length_singleton];omega)⟩
  exact⟨t0 rfl rfl aC,h⟩
 ·unfold aS;split
  ·exact⟨t0 rfl rfl (dV (by simp [aq])),same (by rw [List.length_set];exact hsub)⟩
  exact⟨t0 rfl rfl aC,h⟩
 ·unfold br;split
  ·rename_i hk
   simp only [rF,Bool.and_eq_true,decide_eq_true_eq] at hk
   obtain⟨hc,hb⟩:=n9 h hk.2
   have ht:e.now < e.now+6/\e.now+6<=e.now+6:=by omega
   split
   ·refine⟨.inr (.inl ⟨rfl,hc,hb,_,rfl⟩),⟨h.now,by rw [hb];exact h.rate,by rw [hb];exact h.burst,by rw [hb];have:=h.cur;dsimp only;omega,jZ ht h.halfs rfl,by dsimp only;rw [List.length_set];exact h.few,hsub⟩⟩
   obtain⟨p1,p2⟩:=n_ (q:=aK e x) ht h.halfs h.few
   exact⟨.inr (.inl ⟨rfl,hc,hb,_,rfl⟩),⟨h.now,by rw [hb];exact h.rate,by rw [hb];exact h.burst,by rw [hb];have:=h.cur;dsimp only;omega,p1,p2,hsub⟩⟩
  exact⟨t0 rfl rfl aC,h⟩
 ·unfold ay;split
  ·exact⟨t0 rfl rfl (dV (by simp [cb,aq])),same (by rw [List.length_set];exact hsub)⟩
  exact⟨t0 rfl rfl aC,h⟩
 ·unfold ao;split
  ·split
   ·rename_i hk
    simp only [rE,Bool.and_eq_true,decide_eq_true_eq] at hk
    have hd:=ny (l:=e.halfs) (r:=roadOf x)
    refine⟨t0 rfl rfl (dV (by simp [pY,aq])),⟨h.now,h.rate,h.burst,h.cur,fun y hy=>h.halfs y (hd.1 y hy),Nat.le_trans hd.2 h.few,?_⟩⟩
    dsimp only
    split<;>simp only [bP,List.length_append,List.length_set,List.length_singleton]<;>omega
   split
   ·exact⟨t0 rfl rfl (dV (by simp [pY,aq])),h⟩
   exact⟨t0 rfl rfl aC,h⟩
  exact⟨t0 rfl rfl aC,h⟩
 ·unfold aE;dsimp only;split
  ·exact⟨t0 rfl rfl aC,same (by rw [bP,List.length_set];exact hsub)⟩
  exact⟨t0 rfl rfl aC,h⟩
 ·unfold bC;split
  ·exact⟨t0 rfl rfl (dV (by simp [rO,aq])),same hsub⟩
  exact⟨t0 rfl rfl aC,h⟩
 ·unfold bD;dsimp only;split
  ·exact⟨t0 rfl rfl aC,same hsub⟩
  exact⟨t0 rfl rfl aC,h⟩
 ·unfold bE;dsimp only;split
  ·exact⟨t0 rfl rfl aC,same (by rw [List.length_map];exact hsub)⟩
  exact⟨t0 rfl rfl aC,h⟩
 ·unfold bF;split
  ·exact⟨t0 rfl rfl (dV (by simp [vA,aq])),same hsub⟩
  exact⟨t0 rfl rfl aC,h⟩
 ·unfold bA;dsimp only;split
  ·exact⟨t0 rfl rfl aC,same hsub⟩
  exact⟨t0 rfl rfl aC,h⟩
 unfold bf;dsimp only;split
 ·exact⟨t0 rfl rfl aC,same (by rw [bP,List.length_set];exact hsub)⟩
 exact⟨t0 rfl rfl aC,h⟩
theorem qq {e:EndD} {l:List LetterD} (hl:qp l):Keep e (bQ e l).1/\qp (bQ e l).2/\(bQ e l).1.subs=e.subs:=⟨je,lM (lM hl zL) kA,jf⟩
theorem xz {e:EndD} (h:YoungE e):sI e (cQ e)/\YoungE (cQ e).1:=by
 unfold cQ;split
 ·rename_i hk
  simp only [AT,Bool.and_eq_true,decide_eq_true_eq] at hk
  have hb:cr e.bucket={ e.bucket with cur:=min 3 (e.bucket.cur+1) }:=by
   rw [cr,if_pos (nv h),h.rate,h.burst]
   have h1:=h.rate
   have h2:=h.burst
   cases hb:e.bucket
   rw [hb] at h1 h2
   dsimp only at h1 h2⊢
   rw [h1,h2]
  have hn:=hk.1.2
  have hy:∀ s:List SubD,s.length<=8->YoungE { eR e with subs:=s }:=fun s hs=>by
   refine⟨by have:=h.now;simp only [eR];omega,by simp only [eR];rw [hb];exact h.rate,by simp only [eR];rw [hb];exact h.burst,by simp only [eR];rw [hb];have:=h.cur;dsimp only;omega,?_,?_,hs⟩
   ·intro y hy
    simp only [eR,bx,List.mem_filter,decide_eq_true_eq] at hy⊢
    have:=h.halfs y hy.1
    omega
   simp only [eR,bx]
   exact Nat.le_trans (List.length_filter_le _ _) h.few
  have fin:∀ (s:List SubD) (l:List LetterD),s.length<=8->qp l->sI e (bQ { eR e with subs:=s } l)/\YoungE (bQ { eR e with subs:=s } l).1:=fun s l hs hl=>by
   obtain⟨k1,k2,k3⟩:=qq (e:={ eR e with subs:=s }) hl
   refine⟨.inr (.inr ⟨k1.now,by rw [k1.bucket];exact hb,k2⟩),(hy s hs).keep k1 (by rw [k3];exact hs)⟩
  split
  ·exact fin _ _ (by rw [List.length_map];exact h.subs) fun y hy=>by
    obtain⟨s,_,hs⟩:=List.mem_flatMap.1 hy
    exact xt y hs
  exact fin e.subs [] h.subs aC
 exact⟨.inl ⟨rfl,rfl,aC⟩,h⟩
theorem xA {e:EndD} {a:ActD} (h:YoungE e):sI e (ie e a)/\YoungE (ie e a).1:=by
 unfold ie
 split
 ·have hk:Keep e (aA e a.text).1:=uO.trans je
  have hs:(aA e a.text).1.subs=e.subs:=by rw [aA,jf];unfold cc;split<;>rfl
  exact⟨.inl ⟨hk.now,hk.bucket,kA⟩,h.keep hk (by rw [hs];exact h.subs)⟩
 split
 ·have hk:Keep e (bi e a.many).1:=by unfold bi;split<;>exact⟨rfl,rfl,rfl⟩
  have hs:(bi e a.many).1.subs=e.subs:=by unfold bi;split<;>rfl
  exact⟨.inl ⟨hk.now,hk.bucket,aC⟩,h.keep hk (by rw [hs];exact h.subs)⟩
 split
 ·exact xz h
 split
 ·unfold bb;split
  ·exact⟨.inl ⟨gx.now,gx.bucket,pg⟩,h.keep gx (nu h.subs)⟩
  exact⟨.inl ⟨rfl,rfl,aC⟩,h⟩
 split
 ·have hk:Keep e (az e a.addr).1:=by unfold az;split<;>exact⟨rfl,rfl,rfl⟩
  have hs:(az e a.addr).1.subs=e.subs:=by unfold az;split<;>rfl
  exact⟨.inl ⟨hk.now,hk.bucket,aC⟩,h.keep hk (by rw [hs];exact h.subs)⟩
 split
 ·unfold iA;split
  ·exact⟨.inl ⟨rfl,rfl,vM fun k=>by simp [Bj,aq]⟩,⟨h.now,h.rate,h.burst,h.cur,h.halfs,h.few,by dsimp only;rw [ic,List.length_map];exact h.subs⟩⟩
  exact⟨.inl ⟨rfl,rfl,aC⟩,h⟩
 unfold ks;split
 ·exact⟨.inl ⟨rfl,rfl,dV (by simp [aq])⟩,⟨h.now,h.rate,h.burst,h.cur,h.halfs,h.few,by dsimp only;rw [bP,List.length_set];exact h.subs⟩⟩
 exact⟨.inl ⟨rfl,rfl,aC⟩,h⟩
def cntF (l:List Int) (f g:Int):Nat:=(l.filter fun x=>decide (f<=x) && decide (x<=g)).length
theorem sJ (l:List Int) (n f g:Int):cntF (l++[n]) f g=cntF l f g+(if f<=n/\n<=g then 1 else 0):=by
 rw [cntF,cntF,List.filter_append,List.length_append]
 congr 1
 by_cases h:f<=n/\n<=g
 ·rw [if_pos h];simp [h.1,h.2]
 rw [if_neg h]
 by_cases h1:f<=n
 ·simp [h1,show ¬ n<=g by omega]
 simp [h1]
structure AnsI (l:List Int) (e:EndD):Prop where
 y:YoungE e
 t:∀ x∈l,0<=x/\x<=e.now
 i:∀ f:Int,f<=e.now->(cntF l f e.now:Int)+e.bucket.cur<=3+(e.now - f)
 j:∀ f g:Int,f<=g->g<=e.now->(cntF l f g:Int)<=3+(g - f)
theorem vN {l:List Int} {f g k:Int} (ht:∀ x∈l,x<=g) (h:g<=k):cntF l f k=cntF l f g:=by
 rw [cntF,cntF]
 congr 1
 refine List.filter_congr fun x hx=>?_
 have:=ht x hx
 simp only [decide_eq_true (show x<=g from this),decide_eq_true (show x<=k by omega)]
theorem ph {l:List Int} {f g:Int} (ht:∀ x∈l,x < f):cntF l f g=0:=by
 rw [cntF,List.length_eq_zero_iff,List.filter_eq_nil_iff]
 intro x hx
 have:=ht x hx
 simp only [Bool.and_eq_true,decide_eq_true_eq]
 omega
def sK (side:Int) (now:Int) (ns:List Int):List LetterD->List Int
 |[]=>ns
 |x::l=>sK side now (h_ ns (ia side side x) now) l
theorem nz {side now:Int}:∀ {l:List LetterD} {ns:List Int},qp l->sK side now ns l=ns
 |[],ns,h=>rfl
 |x::l,ns,h=>by
  rw [sK,uu (h x (by simp)),gk]
  exact nz fun y hy=>h y (by simp [hy])
theorem sL {ns:List Int} {e:EndD} {r:EndD×List LetterD} {side:Int} (h:AnsI ns e) (ht:sI e r) (hy:YoungE r.1):AnsI (sK side r.1.now ns r.2) r.1:=by
 have hcur:=h.y.cur
 rcases ht with⟨h1,h2,h3⟩|⟨h1,h2,h3,y,h4⟩|⟨h1,h2,h3⟩
 ·rw [nz h3]
  exact⟨hy,by rw [h1];exact h.t,by rw [h1,h2];exact h.i,by rw [h1];exact h.j⟩
 ·rw [h4,sK,sK,h1]
  have hc:∀ {l:List Int},AnsI l e->(∀ x∈ns,x∈l)->(l=ns\/l=ns++[e.now])->AnsI l r.1\/True:=fun _ _ _=>.inr trivial
  rcases (show h_ ns (ia side side y) e.now=ns\/h_ ns (ia side side y) e.now=ns++[e.now] by rw [h_];split;exact .inr rfl;exact .inl rfl) with e1|e1
  ·rw [e1]
   refine⟨hy,by rw [h1];exact h.t,fun f hf=>?_,by rw [h1];exact h.j⟩
   rw [h1] at hf⊢
   have:=h.i f hf
   rw [h3]
   dsimp only
   omega
  rw [e1]
  refine⟨hy,fun x hx=>?_,fun f hf=>?_,fun f g hf hg=>?_⟩
  ·rw [h1]
   rcases List.mem_append.1 hx with hx|hx
   ·exact h.t x hx
   rw [List.mem_singleton.1 hx];have:=h.y.now;omega
  ·rw [h1] at hf⊢
   have:=h.i f hf
   rw [sJ,if_pos (by omega),h3]
   dsimp only
   omega
  rw [h1] at hg
  rw [sJ]
  by_cases hgn:g=e.now
  ·subst hgn
   have:=h.i f hf
   rw [if_pos (by omega)]
   omega
  have:=h.j f g hf hg
  rw [if_neg (by omega)]
  omega
 rw [nz h3]
 refine⟨hy,fun x hx=>by have:=h.t x hx;rw [h1];omega,fun f hf=>?_,fun f g hf hg=>?_⟩
 ·rw [h1] at hf⊢
  rw [h2]
  dsimp only
  by_cases hfn:f<=e.now
  ·have:=h.i f hfn
   rw [vN (g:=e.now) (fun x hx=>(h.t x hx).2) (by omega)]
   omega
  rw [ph fun x hx=>by have:=h.t x hx;omega]
  omega
 rw [h1] at hg
 by_cases hfn:f<=e.now
 ·by_cases hgn:g<=e.now
  ·exact h.j f g hf hgn
  have:=h.i f hfn
  rw [vN (g:=e.now) (fun x hx=>(h.t x hx).2) (by omega)]
  omega
 rw [ph fun x hx=>by have:=h.t x hx;omega]
 omega
structure AnsW (w:WorldD):Prop where
 a:AnsI w.answersA w.a
 b:AnsI w.answersB w.b
theorem pi {side:Int} {w:WorldD} {x:LetterD}:(cn side w x).answersA=h_ w.answersA (ia side 1 x) w.a.now/\(cn side w x).answersB=h_ w.answersB (ia side 2 x) w.b.now:=by
 rw [cn];split<;>exact⟨rfl,rfl⟩
theorem nA:∀ {l:List LetterD} {w:WorldD},(an 1 w l).answersA=sK 1 w.a.now w.answersA l/\(an 1 w l).answersB=w.answersB
 |[],w=>⟨rfl,rfl⟩
 |x::l,w=>by
  obtain⟨h1,h2⟩:=nA (l:=l) (w:=cn 1 w x)
  obtain⟨g1,g2⟩:=pi (side:=1) (w:=w) (x:=x)
  have ge:=(gm (side:=1) (w:=w) (x:=x)).1
  rw [show an 1 w (x::l)=an 1 (cn 1 w x) l from rfl,h1,h2,g1,g2,ge,qd (side:=1) (k:=2) (by omega),gk]
  exact⟨rfl,rfl⟩
theorem nB:∀ {l:List LetterD} {w:WorldD},(an 2 w l).answersB=sK 2 w.b.now w.answersB l/\(an 2 w l).answersA=w.answersA
 |[],w=>⟨rfl,rfl⟩
 |x::l,w=>by
  obtain⟨h1,h2⟩:=nB (l:=l) (w:=cn 2 w x)
  obtain⟨g1,g2⟩:=pi (side:=2) (w:=w) (x:=x)
  have ge:=(gm (side:=2) (w:=w) (x:=x)).2.1
  rw [show an 2 w (x::l)=an 2 (cn 2 w x) l from rfl,h1,h2,g1,g2,ge,qd (side:=2) (k:=1) (by omega),gk]
  exact⟨rfl,rfl⟩
theorem pj {w w':WorldD} {s:Int} {r:EndD×List LetterD} (hs:s=1\/s=2) (h:AnsW w) (ht:sI (bB w s) r) (hy:YoungE r.1) (ea:w'.a=w.a) (eb:w'.b=w.b) (e1:w'.answersA=w.answersA) (e2:w'.answersB=w.answersB):
  AnsW (an s (cq w' s r.1) r.2):=by
 rcases hs with rfl|rfl
 ·rw [bB,if_pos rfl] at ht
  obtain⟨p1,p2⟩:=nA (l:=r.2) (w:=cq w' 1 r.1)
  obtain⟨q1,q2,_⟩:=ba (side:=1) (l:=r.2) (w:=cq w' 1 r.1)
  rw [cq,if_pos rfl] at*
  refine⟨?_,?_⟩
  ·rw [p1,q1];dsimp only;rw [e1];exact sL h.a ht hy
  rw [p2,q2];dsimp only;rw [e2,eb];exact h.b
 rw [bB,if_neg (by omega),if_pos rfl] at ht
 obtain⟨p1,p2⟩:=nB (l:=r.2) (w:=cq w' 2 r.1)
 obtain⟨q1,q2,_⟩:=ba (side:=2) (l:=r.2) (w:=cq w' 2 r.1)
 rw [cq,if_neg (by omega)] at*
 refine⟨?_,?_⟩
 ·rw [p2,q1];dsimp only;rw [e1,ea];exact h.a
 rw [p1,q2];dsimp only;rw [e2];exact sL h.b ht hy
theorem ll {w:WorldD} {s:Int} (hs:s=1\/s=2) (h:AnsW w):YoungE (bB w s):=by
 rcases hs with rfl|rfl
 ·rw [bB,if_pos rfl];exact h.a.y
 rw [bB,if_neg (by omega),if_pos rfl];exact h.b.y
theorem uP {w:WorldD} {x:LetterD} (h:AnsW w):AnsW (eF w x):=by
 rcases oU x.to with h0|h0
 ·rw [eF,if_pos h0];exact h
 obtain⟨t1,t2⟩:=xy (x:=x) (ll h0 h)
 rw [eF,if_neg (by omega),qe,if_pos h0]
 exact pj h0 h t1 t2 rfl rfl rfl rfl
theorem uQ {a:ActD} (h:cO a=true):a.side=1\/a.side=2:=by
 simp only [cO,bj,Bool.and_eq_true,decide_eq_true_eq] at h
 omega
theorem xB (w:WorldD) (a:ActD):(gD w a).a=w.a/\(gD w a).b=w.b/\(gD w a).answersA=w.answersA/\(gD w a).answersB=w.answersB:=by
 unfold gD dT bR;repeat' split
 all_goals exact⟨rfl,rfl,rfl,rfl⟩
theorem B_ {w:WorldD} {a:ActD} (h:AnsW w):AnsW (iP w a).1:=by
 have ha:∀ b:List LetterD,AnsW { w with bag:=b }:=fun b=>⟨h.a,h.b⟩
 unfold iP;split
 ·rename_i hok
  have hs:=uQ hok
  split
  ·unfold eX;split
   ·exact h
   obtain⟨t1,t2⟩:=xA (a:=a) (ll hs h)
   obtain⟨s1,s2,s3,s4⟩:=xB w a
   exact pj hs h t1 t2 s1 s2 s3 s4
  unfold ce;repeat' split
  all_goals first|exact h|exact uP (ha _)|exact ha _
 exact h
theorem xC {x f t:Int} (hx:0<=x/\x<=1000000000) (hf:0<=f/\f<=1000000000) (ht:1<=t/\t<=1000):yE x f t=(decide (f<=x) && decide (x<=f+t - 1)):=by
 rw [yE]
 by_cases h:f<=x
 ·rw [decide_eq_true h,Bool.true_and,Bool.true_and]
  simp only [IntKind.wrap_u64]
  congr 1
  apply propext
  constructor<;>intro _<;>omega
 rw [decide_eq_false h,Bool.false_and,Bool.false_and]
theorem vO {l:List Int} {f t:Int} (hl:∀ x∈l,0<=x/\x<=1000000000) (hf:0<=f/\f<=1000000000) (ht:1<=t/\t<=1000):yF l f t=cntF l f (f+t - 1):=by
 rw [yF,cntF]
 congr 1
 exact List.filter_congr fun x hx=>xC (hl x hx) hf ht
theorem lm {l:List Int} {t s:Int}:∀ {m:List Int} {j k:Nat},j<=k->(∀ f∈m,yF l f s<=yF l f t)->kg l s j m<=kg l t k m
 |[],j,k,h,_=>h
 |f::r,j,k,h,hm=>by
  rw [kg,kg]
  exact lm (by have:=hm f (by simp);omega) fun g hg=>hm g (by simp [hg])
theorem xD {l:List Int} {f g k:Int} (h:g<=k):cntF l f g<=cntF l f k:=by
 rw [cntF,cntF]
 refine List.Sublist.length_le ?_
 rw [show (l.filter fun x=>decide (f<=x) && decide (x<=g))=(l.filter fun x=>decide (f<=x) && decide (x<=k)).filter fun x=>decide (x<=g) by
  rw [List.filter_filter]
  refine List.filter_congr fun x _=>?_
  by_cases h1:x<=g
  ·simp [h1,show x<=k by omega]
  simp [h1]]
 exact List.filter_sublist
theorem AnsI.big {l:List Int} {e:EndD} (h:AnsI l e):∀ x∈l,0<=x/\x<=1000000000:=fun x hx=>by have:=h.t x hx;have:=h.y.now;omega
theorem AnsI.one {l:List Int} {e:EndD} (h:AnsI l e) {t:Int} (ht:1<=t/\t<=1000):vt l 1<=vt l t:=by
 rw [vt,vt]
 by_cases hl:l.length<=300
 ·rw [if_pos ⟨by decide,hl⟩,if_pos ⟨by simp only [bj,Bool.and_eq_true,decide_eq_true_eq];exact ht,hl⟩]
  refine lm (Nat.le_refl _) fun f hf=>?_
  rw [vO h.big (h.big f hf) (by omega),vO h.big (h.big f hf) ht]
  exact xD (by omega)
 rw [if_neg (fun hc=>hl hc.2)];exact Nat.zero_le _
theorem YoungE.fresh {e:EndD} (h:YoungE e):fresh e=true:=by
 rw [Go.Proofs.YtjghbknhneffjaaGreat.fresh,List.all_eq_true]
 intro y hy
 have h1:=h.halfs y hy
 have h2:=h.now
 rw [Bd,decide_eq_false (by omega),Bool.false_or,Bool.not_eq_true',decide_eq_false_iff_not]
 simp only [IntKind.wrap_u64]
 omega
def N9 (n:Int):Prop:=0<=n/\n<=1000000000
theorem vP {n a b:Int}:bj n a b=true↔a<=n/\n<=b:=by simp [bj]
def RN (r:RoadD):Prop:=N9 r.own/\N9 r.far/\N9 r.port
theorem pk {α:Type} {p:α->Bool}:∀ {l:List α} {k j:Nat},ck p k l=((k+j:Nat):Int)↔∃ h:j < l.length,p l[j]=true/\∀ (i:Nat) (hi:i < j),p (l[i]'(by omega))=false
 |[],k,j=>by
  rw [ck]
  constructor
  ·intro h;omega
  rintro⟨h,_⟩;simp at h
 |a::r,k,j=>by
  rw [ck]
  by_cases hp:p a=true
  ·rw [if_pos hp]
   constructor
   ·intro h
    obtain rfl:j=0:=by omega
    exact⟨by simp,hp,fun i hi=>by omega⟩
   rintro⟨h,h1,h2⟩
   rcases j with _|j
   ·simp
   have:=h2 0 (by omega)
   simp only [List.getElem_cons_zero] at this
   rw [hp] at this
   cases this
  rw [if_neg hp]
  have hp':p a=false:=by simpa using hp
  rcases j with _|j
  ·constructor
   ·intro h
    rcases jC (p:=p) (l:=r) (k:=k+1) with h'|h'<;>omega
   rintro⟨h,h1,_⟩
   simp only [List.getElem_cons_zero] at h1
   exact absurd h1 hp
  rw [show k+(j+1)=(k+1)+j by omega,pk (l:=r)]
  constructor
  ·rintro⟨h,h1,h2⟩
   refine⟨by simp;omega,by simpa using h1,fun i hi=>?_⟩
   rcases i with _|i
   ·simpa using hp'
   simpa using h2 i (by omega)
  rintro⟨h,h1,h2⟩
  refine⟨by simpa using h,by simpa using h1,fun i hi=>?_⟩
  have:=h2 (i+1) (by omega)
  simpa using this
theorem xE {α:Type} {p:α->Bool} {l:List α} {j:Nat}:eQ p l=(j:Int)↔∃ h:j < l.length,p l[j]=true/\∀ (i:Nat) (hi:i < j),p (l[i]'(by omega))=false:=by
 have:=pk (p:=p) (l:=l) (k:=0) (j:=j)
 rw [Nat.zero_add] at this
 exact this
theorem pm {α:Type} {p:α->Bool}:∀ {l:List α} {k:Nat},ck p k l < 0↔∀ x∈l,p x=false
 |[],k=>by simp [ck]
 |a::r,k=>by
  rw [ck]
  by_cases hp:p a=true
  ·rw [if_pos hp]
   constructor
   ·intro h;omega
   intro h;rw [h a (by simp)] at hp;cases hp
  rw [if_neg hp,pm (l:=r)]
  constructor
  ·intro h x hx
   rcases List.mem_cons.1 hx with rfl|hx
   ·simpa using hp
   exact h x hx
  intro h x hx;exact h x (List.mem_cons_of_mem _ hx)
theorem xF {α:Type} {p:α->Bool} {l:List α}:eQ p l < 0↔∀ x∈l,p x=false:=pm
theorem xG {α:Type} {p:α->Bool} {l:List α} (h:0<=eQ p l):∃ n:Nat,eQ p l=(n:Int):=⟨(eQ p l).toNat,by omega⟩
theorem qr {α:Type} (l:List α) (n:Nat):(l.take n++l.drop (n+1)).Sublist l:=by
 rw [<-List.eraseIdx_eq_take_drop_succ]
 exact List.eraseIdx_sublist ..
def AdR (a b:AddrD):Prop:=a.id < b.id/\¬ a.addr=b.addr
def AdE (a:AddrD):Prop:=(0<=a.id/\a.id<=255)/\1<=a.addr/\a.addr<=65535
structure AdOk (l:List AddrD):Prop where
 len:l.length<=6
 el:∀ a∈l,AdE a
 pw:l.Pairwise AdR
theorem sM {l:List AddrD}:aX l=true↔AdOk l:=by
 simp only [aX,Bool.and_eq_true,decide_eq_true_eq]
 constructor
 ·rintro⟨h1,h2⟩
  have he:∀ (j:Nat) (hj:j < l.length),AdE l[j]/\(∀ i,i+1=j->(zU l i).id < l[j].id)/\∀ b∈l.take j,¬ l[j].addr=b.addr:=by
   intro j hj
   have:=iz h2 hj
   simp only [gB,i1 hj,Bool.and_eq_true,vP,Bool.or_eq_true,beq_iff_eq,decide_eq_true_eq,List.all_eq_true,Bool.not_eq_true',beq_eq_false_iff_ne] at this
   obtain⟨⟨⟨a1,a2⟩,a3⟩,a4⟩:=this
   refine⟨⟨a1,a2⟩,fun i hi=>?_,a4⟩
   rcases a3 with a3|a3
   ·omega
   subst hi;simpa using a3
  have hid:∀ (j i:Nat) (hj:j < l.length) (hi:i < j),l[i].id < l[j].id:=by
   intro j
   induction j with
   |zero=>intro i hj hi;omega
   |succ j ih=>
    intro i hj hi
    have h3:=(he (j+1) hj).2.1 j rfl
    rw [i1 (by omega)] at h3
    by_cases hij:i=j
    ·subst hij;exact h3
    have:=ih i (by omega) (by omega);omega
  refine⟨by omega,fun a ha=>?_,?_⟩
  ·obtain⟨j,hj,rfl⟩:=List.getElem_of_mem ha
   exact (he j hj).1
  rw [List.pairwise_iff_getElem]
  intro i j hi hj hij
  refine⟨hid j i hj hij,fun hc=>?_⟩
  refine (he j hj).2.2 l[i] ?_ hc.symm
  rw [List.mem_take_iff_getElem]
  exact⟨i,by omega,rfl⟩
 rintro⟨h1,h2,h3⟩
 rw [List.pairwise_iff_getElem] at h3
 refine⟨by omega,ed fun j hj=>?_⟩
 have hm:=h2 l[j] (List.getElem_mem hj)
 simp only [gB,i1 hj,Bool.and_eq_true,vP,Bool.or_eq_true,beq_iff_eq,decide_eq_true_eq,List.all_eq_true,Bool.not_eq_true',beq_eq_false_iff_ne]
 refine⟨⟨⟨hm.1,hm.2⟩,?_⟩,fun b hb=>?_⟩
 ·rcases Nat.eq_zero_or_pos j with h0|h0
  ·exact .inl h0
  refine .inr ?_
  rw [i1 (by omega)]
  exact (h3 (j - 1) j (by omega) hj (by omega)).1
 rw [List.mem_take_iff_getElem] at hb
 obtain⟨i,hi,rfl⟩:=hb
 exact fun hc=>(h3 i j (by omega) hj (by omega)).2 hc.symm
theorem AdOk.sub {l m:List AddrD} (h:AdOk l) (s:m.Sublist l):AdOk m:=⟨Nat.le_trans s.length_le h.len,fun a ha=>h.el a (s.subset ha),h.pw.sublist s⟩
theorem AdOk.drop {l:List AddrD} {n:Int} (h:AdOk l):AdOk (be l n).1:=by
 rw [be];split
 ·exact h
 exact h.sub (qr l _)
theorem AdOk.put {l:List AddrD} {a:AddrD} (h:AdOk l):AdOk (aJ l a).1:=by
 rw [aJ];split
 ·rename_i hk;exact sM.1 hk
 exact h
theorem AdOk.pt {l m:List AddrD} (h:AdOk l) (hl:m.length=l.length) (hp:∀ (i:Nat) (h1:i < m.length) (h2:i < l.length),m[i].id=l[i].id/\m[i].addr=l[i].addr):AdOk m:=by
 refine⟨by rw [hl];exact h.len,fun a ha=>?_,?_⟩
 ·obtain⟨j,hj,rfl⟩:=List.getElem_of_mem ha
  obtain⟨e1,e2⟩:=hp j hj (by omega)
  have:=h.el l[j] (List.getElem_mem _)
  rw [AdE,e1,e2];exact this
 have hq:=h.pw
 rw [List.pairwise_iff_getElem] at hq⊢
 intro i j hi hj hij
 obtain⟨e1,e2⟩:=hp i hi (by omega)
 obtain⟨f1,f2⟩:=hp j hj (by omega)
 have:=hq i j (by omega) (by omega) hij
 rw [AdR,e1,e2,f1,f2];exact this
theorem qs {l:List AddrD} {n:Int} {a:AddrD} (h:a∈(be l n).1):a∈l:=by
 rw [be] at h;split at h
 ·exact h
 exact (qr l _).subset h
theorem sN {l:List AddrD} {a b:AddrD} (h:b∈(aJ l a).1):b=a\/b∈l:=by
 rw [aJ] at h;split at h
 ·dsimp only at h
  rw [bO] at h;split at h
  ·rcases List.mem_or_eq_of_mem_set h with h|h
   ·exact .inr h
   exact .inl h
  rcases List.mem_append.1 h with h|h
  ·rcases List.mem_append.1 h with h|h
   ·exact .inr (List.mem_of_mem_take h)
   exact .inl (List.mem_singleton.1 h)
  exact .inr (List.mem_of_mem_drop h)
 exact .inr h
structure IdOk (l:List Int) (t:List AddrD):Prop where
 pw:l.Pairwise fun a b=>a < b
 el:∀ n∈l,(0<=n/\n<=255)/\∀ a∈t,¬ a.id=n
theorem A1 {l:List Int} {n:Nat} (h:n < l.length):l.getD n 0=l[n]:=by rw [List.getD_eq_getElem?_getD,List.getElem?_eq_getElem h];rfl
theorem uR {l:List AddrD} {n:Int}:aG l n < 0↔∀ a∈l,¬ a.id=n:=by
 rw [aG,xF]
 simp
theorem vQ {α:Type} {p:α->Bool}:∀ (l:List α),l.take (l.takeWhile p).length=l.takeWhile p
 |[]=>rfl
 |a::r=>by
  rw [List.takeWhile_cons];split
  ·rw [List.length_cons,List.take_succ_cons,vQ r]
  rfl
theorem vR {α:Type} {p:α->Bool}:∀ (l:List α),l.drop (l.takeWhile p).length=l.dropWhile p
 |[]=>rfl
 |a::r=>by
  rw [List.takeWhile_cons,List.dropWhile_cons];split
  ·rename_i h
   rw [List.length_cons,List.drop_succ_cons,vR r]
  rfl
theorem zO {α:Type} {p:α->Bool}:∀ (l:List α),∀ x∈l.takeWhile p,p x=true
 |[],x,h=>by simp at h
 |a::r,x,h=>by
  rw [List.takeWhile_cons] at h;split at h
  ·rename_i hp
   rcases List.mem_cons.1 h with rfl|h
   ·exact hp
   exact zO r x h
  simp at h
theorem vS {α:Type} {p:α->Bool}:∀ {l r:List α} {y:α},l.dropWhile p=y::r->p y=false
 |[],r,y,h=>by simp at h
 |a::l,r,y,h=>by
  rw [List.dropWhile_cons] at h;split at h
  ·exact vS h
  rename_i hp
  injection h with h1 _
  rw [<-h1];simpa using hp
theorem DD {l:List Int} {n:Int}:∀ x∈l.take (gd l n),x < n:=by
 intro x hx
 rw [gd,vQ] at hx
 simpa using zO l x hx
theorem DE {l:List Int} {n:Int} (hp:l.Pairwise fun a b=>a < b):∀ x∈l.drop (gd l n),n<=x:=by
 have e:l.drop (gd l n)=l.dropWhile fun a=>decide (a < n):=by rw [gd,vR]
 have hq:(l.drop (gd l n)).Pairwise fun a b=>a < b:=hp.sublist (List.drop_sublist _ _)
 rw [e] at hq⊢
 cases hd:l.dropWhile fun a=>decide (a < n) with
 |nil=>simp
 |cons y r=>
  rw [hd] at hq
  have hy:¬ y < n:=by simpa using vS hd
  intro x hx
  rcases List.mem_cons.1 hx with rfl|hx
  ·omega
  have:=(List.pairwise_cons.1 hq).1 x hx;omega
theorem zP {l:List Int} {n x:Int} (h:x∈gf l n):x=n\/x∈l:=by
 rw [gf] at h;split at h
 ·exact .inr h
 rcases List.mem_append.1 h with h|h
 ·rcases List.mem_append.1 h with h|h
  ·exact .inr (List.mem_of_mem_take h)
  exact .inl (List.mem_singleton.1 h)
 exact .inr (List.mem_of_mem_drop h)
theorem A2 {l:List Int} {n:Int} (hp:l.Pairwise fun a b=>a < b):(gf l n).Pairwise fun a b=>a < b:=by
 rw [gf];split
 ·exact hp
 rename_i hn
 have h1:=DD (l:=l) (n:=n)
 have h2:=DE (n:=n) hp
 have h3:∀ x∈l.drop (gd l n),n < x:=by
  intro x hx
  have hx':=h2 x hx
  by_cases he:x=n
  ·exfalso
   have hq:(l.drop (gd l n)).Pairwise fun a b=>a < b:=hp.sublist (List.drop_sublist _ _)
   by_cases hl:gd l n < l.length
   ·rw [List.drop_eq_getElem_cons hl] at hx hq h2
    rcases List.mem_cons.1 hx with hx|hx
    ·exact hn ⟨hl,by rw [A1 hl,<-hx,he]⟩
    have:=(List.pairwise_cons.1 hq).1 x hx
    have:=h2 l[gd l n] (List.mem_cons_self ..)
    omega
   rw [List.drop_eq_nil_of_le (by omega)] at hx;simp at hx
  omega
 rw [List.pairwise_append,List.pairwise_append]
 refine⟨⟨hp.sublist (List.take_sublist _ _),List.pairwise_singleton ..,fun a ha b hb=>?_⟩,hp.sublist (List.drop_sublist _ _),fun a ha b hb=>?_⟩
 ·rw [List.mem_singleton.1 hb];exact h1 a ha
 rcases List.mem_append.1 ha with ha|ha
 ·have:=h1 a ha;have:=h3 b hb;omega
 rw [List.mem_singleton.1 ha];exact h3 b hb
theorem IdOk.drop {l:List Int} {t:List AddrD} {n:Int} (h:IdOk l t) (ht:AdOk t) (hn:∃ a∈t,a.id=n):IdOk (gf l n) (be t n).1:=by
 obtain⟨q,hq,hqn⟩:=hn
 refine⟨A2 h.pw,fun x hx=>?_⟩
 rcases zP hx with rfl|hx
 ·refine⟨by have:=(ht.el q hq).1;omega,fun a ha=>?_⟩
  have h0:¬ aG t x < 0:=fun hc=>uR.1 hc q hq hqn
  rw [be,if_neg h0] at ha
  obtain⟨k,hk⟩:=xG (show 0<=eQ (fun a=>a.id == x) t by rw [aG] at h0;omega)
  obtain⟨hkl,hk1,_⟩:=xE.1 hk
  rw [aG,hk] at ha
  dsimp only at ha
  rw [Int.toNat_natCast] at ha
  have hpw:=ht.pw
  rw [List.pairwise_iff_getElem] at hpw
  simp only [beq_iff_eq] at hk1
  rcases List.mem_append.1 ha with ha|ha
  ·rw [List.mem_take_iff_getElem] at ha
   obtain⟨i,hi,rfl⟩:=ha
   have:=(hpw i k (by omega) hkl (by omega)).1
   omega
  rw [List.mem_drop_iff_getElem] at ha
  obtain⟨i,hi,rfl⟩:=ha
  have:=(hpw k (k+1+i) hkl (by omega) (by omega)).1
  omega
 have:=h.el x hx
 exact⟨this.1,fun a ha=>this.2 a (qs ha)⟩
theorem IdOk.put {l:List Int} {t:List AddrD} {a:AddrD} (h:IdOk l t) (hn:¬ a.id∈l):IdOk l (aJ t a).1:=by
 refine⟨h.pw,fun x hx=>?_⟩
 have:=h.el x hx
 refine⟨this.1,fun b hb=>?_⟩
 rcases sN hb with rfl|hb
 ·exact fun hc=>hn (hc▸hx)
 exact this.2 b hb
def HaE (h:HalfD):Prop:=RN h.road/\N9 h.theirs/\N9 h.mine/\N9 h.give/\N9 h.take/\N9 h.till
structure HaOk (l:List HalfD):Prop where
 len:l.length<=4
 el:∀ h∈l,HaE h
 pw:l.Pairwise fun a b=>¬ a.road=b.road
theorem HaOk.sub {l m:List HalfD} (h:HaOk l) (s:m.Sublist l):HaOk m:=⟨Nat.le_trans s.length_le h.len,fun a ha=>h.el a (s.subset ha),h.pw.sublist s⟩
theorem HaOk.drop {l:List HalfD} {r:RoadD} (h:HaOk l):HaOk (bz l r):=by
 rw [bz];split
 ·exact h
 exact h.sub (qr l _)
def SuE (s:SubD):Prop:=(1<=s.state/\s.state<=4)/\RN s.road/\N9 s.mine/\N9 s.theirs/\N9 s.give/\N9 s.take/\N9 s.tries
structure SuOk (l:List SubD):Prop where
 el:∀ s∈l,SuE s
 pw:l.Pairwise fun a b=>a.state=4\/b.state=4\/¬ a.road=b.road
theorem SuOk.pt {l m:List SubD} (h:SuOk l) (hl:m.length=l.length) (hp:∀ (i:Nat) (h1:i < m.length) (h2:i < l.length),SuE m[i]/\m[i].road=l[i].road/\(l[i].state=4->m[i].state=4)):SuOk m:=by
 refine⟨fun s hs=>?_,?_⟩
 ·obtain⟨j,hj,rfl⟩:=List.getElem_of_mem hs
  exact (hp j hj (by omega)).1
 have hq:=h.pw
 rw [List.pairwise_iff_getElem] at hq⊢
 intro i j hi hj hij
 obtain⟨_,e1,e2⟩:=hp i hi (by omega)
 obtain⟨_,f1,f2⟩:=hp j hj (by omega)
 rcases hq i j (by omega) (by omega) hij with h|h|h
 ·exact .inl (e2 h)
 ·exact .inr (.inl (f2 h))
 rw [e1,f1];exact .inr (.inr h)
theorem SuOk.set {l:List SubD} {n:Nat} {s:SubD} (h:SuOk l) (hn:n < l.length) (hs:SuE s) (hr:s.road=l[n].road) (h4:l[n].state=4->s.state=4):SuOk (l.set n s):=by
 refine h.pt (by simp) fun i h1 h2=>?_
 rw [List.getElem_set]
 split
 ·rename_i e;subst e;exact⟨hs,hr,h4⟩
 exact⟨h.el _ (List.getElem_mem h2),rfl,fun h=>h⟩
theorem SuOk.map {l:List SubD} {f:SubD->SubD} (h:SuOk l) (hf:∀ s∈l,SuE (f s)/\(f s).road=s.road/\(s.state=4->(f s).state=4)):SuOk (l.map f):=
 h.pt (by simp) fun i h1 h2=>by rw [List.getElem_map];exact hf _ (List.getElem_mem h2)
theorem SuOk.app {l:List SubD} {s:SubD} (h:SuOk l) (hs:SuE s) (hr:∀ x∈l,x.state=4\/¬ x.road=s.road):SuOk (l++[s]):=by
 refine⟨fun x hx=>?_,?_⟩
 ·rcases List.mem_append.1 hx with hx|hx
  ·exact h.el x hx
  rw [List.mem_singleton.1 hx];exact hs
 rw [List.pairwise_append]
 refine⟨h.pw,List.pairwise_singleton ..,fun a ha b hb=>?_⟩
 rw [List.mem_singleton.1 hb]
 rcases hr a ha with h|h
 ·exact .inl h
 exact .inr (.inr h)
theorem SuE.st {s:SubD} {n:Int} (h:SuE s) (hn:1<=n/\n<=4):SuE { s with state:=n }:=⟨hn,h.2⟩
structure OkE (e:EndD):Prop where
 side:1<=e.side/\e.side<=2
 state:0<=e.state/\e.state<=2
 pol:polOk e.policy=true
 own:AdOk e.own
 far:AdOk e.far
 halfs:HaOk e.halfs
 bucket:bucketOk e.bucket=true
 out:outOk e.out=true
 inp:piecesOk e.inp=true
 done:IdOk e.done e.own
 over:IdOk e.over e.far
 subs8:e.subs.length<=8
 nums:N9 e.key/\N9 e.peer/\N9 e.draw/\N9 e.now/\N9 e.pick
 subs:SuOk e.subs
theorem HaOk.pt {l m:List HalfD} (h:HaOk l) (hl:m.length=l.length) (hp:∀ (i:Nat) (h1:i < m.length) (h2:i < l.length),HaE m[i]/\m[i].road=l[i].road):HaOk m:=by
 refine⟨by rw [hl];exact h.len,fun a ha=>?_,?_⟩
 ·obtain⟨j,hj,rfl⟩:=List.getElem_of_mem ha
  exact (hp j hj (by omega)).1
 have hq:=h.pw
 rw [List.pairwise_iff_getElem] at hq⊢
 intro i j hi hj hij
 rw [(hp i hi (by omega)).2,(hp j hj (by omega)).2]
 exact hq i j (by omega) (by omega) hij
theorem IdOk.pt {l:List Int} {t u:List AddrD} (h:IdOk l t) (hu:∀ a∈u,∃ b∈t,b.id=a.id):IdOk l u:=⟨h.pw,fun n hn=>⟨(h.el n hn).1,fun a ha=>by
 obtain⟨b,hb,e⟩:=hu a ha
 rw [<-e];exact (h.el n hn).2 b hb⟩⟩
def bk (r:RoadD):RoadD:=⟨r.far,r.own,r.port⟩
def Loose (nums:List Int) (n:Int):Prop:=n < 1000\/n∈nums
def Slice (W:List UInt8) (p:Int) (t:List UInt8):Prop:=0<=p/\p+(t.length:Int)<=W.length/\t=(W.drop p.toNat).take t.length
theorem Slice.app {W:List UInt8} {p:Int} {t:List UInt8} (h:Slice W p t) (V:List UInt8):Slice (W++V) p t:=by
 obtain⟨h0,h1,h2⟩:=h
 refine⟨h0,by simp only [List.length_append];omega,?_⟩
 rw [List.drop_append_of_le_length (by omega),List.take_append_of_le_length (by simp only [List.length_drop];omega)]
 exact h2
def Told (e:EndD) (i d:Int):Prop:=(∃ q∈e.own,q.id=i/\q.addr=d)\/i∈e.done
structure LetI (w:WorldD) (x:LetterD):Prop where
 a4:sideAt x.to=1->x.kind=4->Loose w.nums x.nonce
 a5:sideAt x.to=1->x.kind=5->∀ m,x.tag=⟨1,w.b.key,w.a.key,x.nonce,m⟩->Loose w.nums m\/(x.nonce < w.b.draw/\∀ h∈w.b.halfs,h.mine=x.nonce->h.theirs=m/\h.take=x.give/\h.road=bk (roadOf x))
 a6:sideAt x.to=1->x.kind=6->∀ m n,¬ x.tag=⟨2,w.b.key,w.a.key,m,n⟩
 a7:sideAt x.to=1->x.kind=7->Loose w.nums x.sgn\/∃ t∈w.b.subs,t.give=x.sgn
 a8:sideAt x.to=1->x.kind=8->∀ i d,x.tag=⟨3,w.b.key,w.a.key,i,d⟩->sideAt d=2/\Told w.b i d
 a11:sideAt x.to=1->x.kind=11->Loose w.nums x.sgn\/Slice w.wroteB x.pos x.text
 b4:sideAt x.to=2->x.kind=4->Loose w.nums x.nonce\/∃ s∈w.a.subs,1000<=s.mine/\x.nonce=s.mine/\x.give=s.take/\roadOf x=bk s.road
 b6:sideAt x.to=2->x.kind=6->∀ m n,x.tag=⟨2,w.a.key,w.b.key,m,n⟩->∃ s∈w.a.subs,¬ s.state=1/\1000<=s.mine/\m=s.mine/\n=s.theirs/\roadOf x=bk s.road
 b8:sideAt x.to=2->x.kind=8->∀ i d,x.tag=⟨3,w.a.key,w.b.key,i,d⟩->sideAt d=1/\Told w.a i d
 b11:sideAt x.to=2->x.kind=11->Loose w.nums x.sgn\/Slice w.wroteA x.pos x.text
structure SubTo (s s':SubD):Prop where
 road:s'.road=s.road
 mine:s'.mine=s.mine
 take:s'.take=s.take
 rest:¬ s.state=1->¬ s'.state=1/\s'.theirs=s.theirs/\s'.give=s.give
theorem SubTo.refl (s:SubD):SubTo s s:=⟨rfl,rfl,rfl,fun h=>⟨h,rfl,rfl⟩⟩
structure Le (w w':WorldD):Prop where
 ka:w'.a.key=w.a.key
 kb:w'.b.key=w.b.key
 nums:∀ n∈w.nums,n∈w'.nums
 sa:∀ s∈w.a.subs,∃ s'∈w'.a.subs,SubTo s s'
 sb:∀ t∈w.b.subs,∃ t'∈w'.b.subs,t'.give=t.give
 db:w.b.draw<=w'.b.draw
 hb:∀ h'∈w'.b.halfs,w.b.draw<=h'.mine\/∃ h∈w.b.halfs,h.mine=h'.mine/\h.theirs=h'.theirs/\h.take=h'.take/\h.road=h'.road
 ta:∀ i d,Told w.a i d->Told w'.a i d
 tb:∀ i d,Told w.b i d->Told w'.b i d
 wa:∃ t,w'.wroteA=w.wroteA++t
 wb:∃ t,w'.wroteB=w.wroteB++t
theorem Loose.mono {l m:List Int} {n:Int} (h:Loose l n) (g:∀ n∈l,n∈m):Loose m n:=h.imp id (g n)
theorem LetI.mono {w w':WorldD} {x:LetterD} (L:LetI w x) (h:Le w w'):LetI w' x:=by
 refine⟨?_,?_,?_,?_,?_,?_,?_,?_,?_,?_⟩
 ·exact fun h1 h2=>(L.a4 h1 h2).mono h.nums
 ·intro h1 h2 m h3
  rw [h.ka,h.kb] at h3
  rcases L.a5 h1 h2 m h3 with q|⟨q1,q2⟩
  ·exact .inl (q.mono h.nums)
  refine .inr ⟨Int.lt_of_lt_of_le q1 h.db,fun k hk hm=>?_⟩
  rcases h.hb k hk with g|⟨k',g1,g2,g3,g4,g5⟩
  ·omega
  rw [<-g3,<-g4,<-g5];exact q2 k' g1 (by omega)
 ·intro h1 h2;rw [h.ka,h.kb];exact L.a6 h1 h2
 ·intro h1 h2
  rcases L.a7 h1 h2 with q|⟨t,q1,q2⟩
  ·exact .inl (q.mono h.nums)
  obtain⟨t',g1,g2⟩:=h.sb t q1
  exact .inr ⟨t',g1,g2.trans q2⟩
 ·intro h1 h2 i d h3
  rw [h.ka,h.kb] at h3
  obtain⟨q1,q2⟩:=L.a8 h1 h2 i d h3
  exact⟨q1,h.tb i d q2⟩
 ·intro h1 h2
  rcases L.a11 h1 h2 with q|q
  ·exact .inl (q.mono h.nums)
  obtain⟨t,e⟩:=h.wb
  rw [e];exact .inr (q.app t)
 ·intro h1 h2
  rcases L.b4 h1 h2 with q|⟨s,q1,q2,q3,q4,q5⟩
  ·exact .inl (q.mono h.nums)
  obtain⟨s',g1,g2⟩:=h.sa s q1
  exact .inr ⟨s',g1,by rw [g2.mine];exact q2,by rw [g2.mine];exact q3,by rw [g2.take];exact q4,by rw [g2.road];exact q5⟩
 ·intro h1 h2 m n h3
  rw [h.ka,h.kb] at h3
  obtain⟨s,q1,q2,q3,q4,q5,q6⟩:=L.b6 h1 h2 m n h3
  obtain⟨s',g1,g2⟩:=h.sa s q1
  obtain⟨r1,r2,r3⟩:=g2.rest q2
  exact⟨s',g1,r1,by rw [g2.mine];exact q3,by rw [g2.mine];exact q4,by rw [r2];exact q5,by rw [g2.road];exact q6⟩
 ·intro h1 h2 i d h3
  rw [h.ka,h.kb] at h3
  obtain⟨q1,q2⟩:=L.b8 h1 h2 i d h3
  exact⟨q1,h.ta i d q2⟩
 intro h1 h2
 rcases L.b11 h1 h2 with q|q
 ·exact .inl (q.mono h.nums)
 obtain⟨t,e⟩:=h.wa
 rw [e];exact .inr (q.app t)
structure SubA (nums:List Int) (da db:Int) (hb:List HalfD) (sb:List SubD) (s:SubD):Prop where
 t4:s.take % 4=3/\1000<=s.take/\s.take < da
 tn:¬ s.take∈nums
 mine:s.mine=0\/(s.mine+2=s.take/\¬ s.mine∈nums)
 own:sideAt s.road.own=1
 far:sideAt s.road.far=2
 th:s.theirs < db/\∀ h∈hb,h.mine=s.theirs->h.theirs=s.mine/\h.take=s.give/\h.road=bk s.road
 on:s.state=3->∃ t∈sb,t.road=bk s.road/\t.take=s.give/\t.give=s.take
 ask:s.state=1\/s.state=2->1000<=s.mine
structure SubB (nums:List Int) (db:Int) (sa:List SubD) (t:SubD):Prop where
 t4:t.take % 4=0/\1000<=t.take/\t.take < db
 tn:¬ t.take∈nums
 st:t.state=3\/t.state=4
 like:∃ s∈sa,¬ s.state=1/\s.road=bk t.road/\s.take=t.give/\s.give=t.take
structure HalfA (nums:List Int) (da:Int) (sa:List SubD) (h:HalfD):Prop where
 m4:h.mine % 4=1/\1000<=h.mine/\h.mine+2 < da/\h.take=h.mine+2
 sep:∀ s∈sa,¬ s.take=h.take
 th:Loose nums h.theirs
structure HalfB (nums:List Int) (db:Int) (sa sb:List SubD) (h:HalfD):Prop where
 m4:h.mine % 4=2/\1000<=h.mine/\h.mine+2 < db/\h.take=h.mine+2
 sep:∀ t∈sb,¬ t.take=h.take
 th:Loose nums h.theirs\/(¬ h.take∈nums/\∃ s∈sa,1000<=s.mine/\s.mine=h.theirs/\s.take=h.give/\s.road=bk h.road)
structure OutI (W:List UInt8) (o:OutD):Prop where
 base:0<=o.base/\o.base+(o.text.length:Int)=W.length
 text:o.text=W.drop o.base.toNat
structure InI (W R:List UInt8) (p:PiecesD):Prop where
 read:p.read=R.length
 pre:∃ T,W=R++p.ready++T
 list:∀ x∈p.list,Slice W x.pos x.text
structure Core (w:WorldD):Prop where
 oka:OkE w.a
 okb:OkE w.b
 sta:w.a.state=2
 stb:w.b.state=2
 sia:w.a.side=1
 sib:w.b.side=2
 ka:1000<=w.a.key
 kb:1000<=w.b.key
 kk:¬ w.a.key=w.b.key
 pa:w.a.peer=w.b.key
 pb:w.b.peer=w.a.key
 keys:w.known.keys=[5,7]
 tags:∀ u∈w.known.tags,u.kind=1/\Loose w.nums u.b
 da:w.a.draw % 4=1/\1000<=w.a.draw
 db:w.b.draw % 4=2/\1000<=w.b.draw
 nn:∀ n∈w.nums,(n % 2=1->n < w.a.draw)/\(n % 2=0->n < w.b.draw)
 sa:∀ s∈w.a.subs,SubA w.nums w.a.draw w.b.draw w.b.halfs w.b.subs s
 sad:w.a.subs.Pairwise fun s t=>¬ s.take=t.take
 sb:∀ t∈w.b.subs,SubB w.nums w.b.draw w.a.subs t
 ha:∀ h∈w.a.halfs,HalfA w.nums w.a.draw w.a.subs h
 hb:∀ h∈w.b.halfs,HalfB w.nums w.b.draw w.a.subs w.b.subs h
 hbd:w.b.halfs.Pairwise fun h k=>¬ h.take=k.take
 oa:∀ q∈w.a.own,sideAt q.addr=1
 ob:∀ q∈w.b.own,sideAt q.addr=2
 fa:∀ f∈w.a.far,sideAt f.addr=2/\Told w.b f.id f.addr
 fb:∀ f∈w.b.far,sideAt f.addr=1/\Told w.a f.id f.addr
 oia:OutI w.wroteA w.a.out
 oib:OutI w.wroteB w.b.out
 iia:InI w.wroteB w.readA w.a.inp
 iib:InI w.wroteA w.readB w.b.inp
structure Free (w:WorldD) (x:LetterD):Prop where
 kind:x.tag.kind=1
 th:Loose w.nums x.tag.b
 sgn:x.sgn=0
 sa:∀ s∈w.a.subs,¬ s.take=x.give/\¬ s.take=x.nonce/\(s.mine=0\/¬ s.mine=x.nonce/\¬ s.mine=x.give)
 sb:∀ t∈w.b.subs,¬ t.take=x.give/\¬ t.take=x.nonce
 hb:∀ h∈w.b.halfs,h.take=x.give\/h.take=x.nonce->Loose w.nums h.theirs
 pos:1000<=x.nonce/\1000<=x.give
 nn:∀ n,n=x.nonce\/n=x.give->(n % 2=1->n < w.a.draw)/\(n % 2=0->n < w.b.draw)
structure Post (w:WorldD) (x:LetterD):Prop where
 some:sideAt x.to=0\/LetI w x
 none:sideAt x.to=0->Free w x
theorem Post.mono {w w':WorldD} {x:LetterD} (h:Post w x) (L:Le w w') (ha:w'.a=w.a) (hb:w'.b=w.b):Post w' x:=by
 refine⟨h.some.imp id fun q=>q.mono L,fun h0=>?_⟩
 have F:=h.none h0
 exact⟨F.kind,F.th.mono L.nums,F.sgn,by rw [ha];exact F.sa,by rw [hb];exact F.sb,by rw [hb];exact fun k hk hq=>(F.hb k hk hq).mono L.nums,F.pos,by rw [ha,hb];exact F.nn⟩
theorem InI.app {W R:List UInt8} {p:PiecesD} (h:InI W R p) (V:List UInt8):InI (W++V) R p:=by
 obtain⟨T,hT⟩:=h.pre
 exact⟨h.read,⟨T++V,by rw [hT];simp⟩,fun x hx=>(h.list x hx).app V⟩
structure PutA (w w':WorldD):Prop where
 hb:w'.b=w.b
 nums:w'.nums=w.nums
 known:w'.known=w.known
 readB:w'.readB=w.readB
 wroteB:w'.wroteB=w.wroteB
 wroteA:∃ t,w'.wroteA=w.wroteA++t
 ok:OkE w'.a
 st:w'.a.state=2
 sd:w'.a.side=1
 ky:w'.a.key=w.a.key
 pe:w'.a.peer=w.a.peer
 dr:w'.a.draw % 4=1/\w.a.draw<=w'.a.draw
 evo:∀ s∈w.a.subs,∃ s'∈w'.a.subs,SubTo s s'
 sa:∀ s∈w'.a.subs,SubA w.nums w'.a.draw w.b.draw w.b.halfs w.b.subs s
 sad:w'.a.subs.Pairwise fun s t=>¬ s.take=t.take
 ha:∀ h∈w'.a.halfs,HalfA w.nums w'.a.draw w'.a.subs h
 oa:∀ q∈w'.a.own,sideAt q.addr=1
 fa:∀ f∈w'.a.far,sideAt f.addr=2/\Told w.b f.id f.addr
 tl:∀ i d,Told w.a i d->Told w'.a i d
 oia:OutI w'.wroteA w'.a.out
 iia:InI w.wroteB w'.readA w'.a.inp
theorem PutA.le {w w':WorldD} (P:PutA w w'):Le w w':=
 ⟨P.ky,by rw [P.hb],by rw [P.nums];exact fun n h=>h,P.evo,fun t ht=>⟨t,by rw [P.hb];exact ht,rfl⟩,by rw [P.hb];exact Int.le_refl _,fun h hh=>.inr ⟨h,by rw [P.hb] at hh;exact hh,rfl,rfl,rfl,rfl⟩,P.tl,fun i d h=>by rw [P.hb];exact h,P.wroteA,⟨[],by rw [P.wroteB,List.append_nil]⟩⟩
structure PutB (w w':WorldD):Prop where
 ha:w'.a=w.a
 nums:w'.nums=w.nums
 known:w'.known=w.known
 readA:w'.readA=w.readA
 wroteA:w'.wroteA=w.wroteA
 wroteB:∃ t,w'.wroteB=w.wroteB++t
 ok:OkE w'.b
 st:w'.b.state=2
 sd:w'.b.side=2
 ky:w'.b.key=w.b.key
 pe:w'.b.peer=w.b.peer
 dr:w'.b.draw % 4=2/\w.b.draw<=w'.b.draw
 evo:∀ t∈w.b.subs,∃ t'∈w'.b.subs,t'.road=t.road/\t'.take=t.take/\t'.give=t.give
 sb:∀ t∈w'.b.subs,SubB w.nums w'.b.draw w.a.subs t
 hb:∀ h∈w'.b.halfs,HalfB w.nums w'.b.draw w.a.subs w'.b.subs h
 hbd:w'.b.halfs.Pairwise fun h k=>¬ h.take=k.take
 hev:∀ h'∈w'.b.halfs,w.b.draw<=h'.mine\/∃ h∈w.b.halfs,h.mine=h'.mine/\h.theirs=h'.theirs/\h.take=h'.take/\h.road=h'.road
 ob:∀ q∈w'.b.own,sideAt q.addr=2
 fb:∀ f∈w'.b.far,sideAt f.addr=1/\Told w.a f.id f.addr
 tl:∀ i d,Told w.b i d->Told w'.b i d
 oib:OutI w'.wroteB w'.b.out
 iib:InI w.wroteA w'.readB w'.b.inp
theorem PutB.le {w w':WorldD} (P:PutB w w'):Le w w':=
 ⟨by rw [P.ha],P.ky,by rw [P.nums];exact fun n h=>h,fun s hs=>⟨s,by rw [P.ha];exact hs,SubTo.refl s⟩,fun t ht=>by obtain⟨t',g1,_,_,g2⟩:=P.evo t ht;exact⟨t',g1,g2⟩,P.dr.2,P.hev,fun i d h=>by rw [P.ha];exact h,P.tl,⟨[],by rw [P.wroteA,List.append_nil]⟩,P.wroteB⟩
structure SubKeep (s s':SubD):Prop where
 road:s'.road=s.road
 mine:s'.mine=s.mine
 theirs:s'.theirs=s.theirs
 give:s'.give=s.give
 take:s'.take=s.take
 state:s'.state=s.state\/s'.state=4
theorem SubKeep.refl (s:SubD):SubKeep s s:=⟨rfl,rfl,rfl,rfl,rfl,.inl rfl⟩
theorem SubKeep.to {s s':SubD} (h:SubKeep s s'):SubTo s s':=⟨h.road,h.mine,h.take,fun h1=>⟨by rcases h.state with g|g<;>omega,h.theirs,h.give⟩⟩
theorem SubKeep.subA {nums:List Int} {da db:Int} {hb:List HalfD} {sb:List SubD} {s s':SubD} (h:SubKeep s s') (S:SubA nums da db hb sb s):SubA nums da db hb sb s':=by
 refine⟨by rw [h.take];exact S.t4,by rw [h.take];exact S.tn,by rw [h.mine,h.take];exact S.mine,by rw [h.road];exact S.own,by rw [h.road];exact S.far,by rw [h.theirs,h.mine,h.give,h.road];exact S.th,fun h3=>?_,fun h1=>?_⟩
 ·rw [h.road,h.give,h.take]
  exact S.on (by rcases h.state with g|g<;>omega)
 rw [h.mine];exact S.ask (by rcases h.state with g|g<;>omega)
theorem SubKeep.subB {nums:List Int} {db:Int} {sa:List SubD} {t t':SubD} (h:SubKeep t t') (S:SubB nums db sa t):SubB nums db sa t':=
 ⟨by rw [h.take];exact S.t4,by rw [h.take];exact S.tn,by rcases h.state with g|g<;>(rw [g];first|exact S.st|exact .inr rfl),by rw [h.road,h.give,h.take];exact S.like⟩
structure SubsKeep (l m:List SubD):Prop where
 len:m.length=l.length
 at_:∀ (i:Nat) (h1:i < m.length) (h2:i < l.length),SubKeep l[i] m[i]
theorem SubsKeep.refl (l:List SubD):SubsKeep l l:=⟨rfl,fun i h1 h2=>SubKeep.refl _⟩
theorem SubsKeep.map {l:List SubD} {f:SubD->SubD} (h:∀ s∈l,SubKeep s (f s)):SubsKeep l (l.map f):=⟨by simp,fun i h1 h2=>by rw [List.getElem_map];exact h _ (List.getElem_mem h2)⟩
theorem SubsKeep.old {l m:List SubD} (h:SubsKeep l m) {s:SubD} (hs:s∈m):∃ r∈l,SubKeep r s:=by
 obtain⟨i,hi,rfl⟩:=List.getElem_of_mem hs
 have:=h.len
 exact⟨l[i],List.getElem_mem (by omega),h.at_ i hi (by omega)⟩
theorem SubsKeep.new {l m:List SubD} (h:SubsKeep l m) {s:SubD} (hs:s∈l):∃ r∈m,SubKeep s r:=by
 obtain⟨i,hi,rfl⟩:=List.getElem_of_mem hs
 have:=h.len
 exact⟨m[i],List.getElem_mem (by omega),h.at_ i (by omega) hi⟩
theorem SubsKeep.pw {l m:List SubD} (h:SubsKeep l m) (p:l.Pairwise fun s t=>¬ s.take=t.take):m.Pairwise fun s t=>¬ s.take=t.take:=by
 rw [List.pairwise_iff_getElem] at p⊢
 have:=h.len
 intro i j hi hj hij
 rw [(h.at_ i hi (by omega)).take,(h.at_ j hj (by omega)).take]
 exact p i j (by omega) (by omega) hij
def HalfKeep (h h':HalfD):Prop:=h.mine=h'.mine/\h.theirs=h'.theirs/\h.take=h'.take/\h.road=h'.road/\h.give=h'.give
theorem HalfKeep.refl (h:HalfD):HalfKeep h h:=⟨rfl,rfl,rfl,rfl,rfl⟩
structure MildA (w w':WorldD):Prop where
 hb:w'.b=w.b
 nums:w'.nums=w.nums
 known:w'.known=w.known
 readB:w'.readB=w.readB
 wroteB:w'.wroteB=w.wroteB
 wroteA:∃ t,w'.wroteA=w.wroteA++t
 ok:OkE w'.a/\w'.a.state=2
 sd:w'.a.side=w.a.side/\w'.a.key=w.a.key/\w'.a.peer=w.a.peer/\w'.a.draw=w.a.draw
 subs:SubsKeep w.a.subs w'.a.subs
 halfs:∀ h'∈w'.a.halfs,∃ h∈w.a.halfs,HalfKeep h h'
 oa:∀ q∈w'.a.own,sideAt q.addr=1
 fa:∀ f∈w'.a.far,sideAt f.addr=2/\Told w.b f.id f.addr
 tl:∀ i d,Told w.a i d->Told w'.a i d
 oia:OutI w'.wroteA w'.a.out
 iia:InI w.wroteB w'.readA w'.a.inp
theorem MildA.put {w w':WorldD} (M:MildA w w') (C:Core w):PutA w w':=by
 obtain⟨d1,d2,d3,d4⟩:=M.sd
 refine⟨M.hb,M.nums,M.known,M.readB,M.wroteB,M.wroteA,M.ok.1,M.ok.2,d1.trans C.sia,d2,d3,by rw [d4];exact⟨C.da.1,Int.le_refl _⟩,fun s hs=>?_,fun s hs=>?_,M.subs.pw C.sad,fun h hh=>?_,M.oa,M.fa,M.tl,M.oia,M.iia⟩
 ·obtain⟨r,h1,h2⟩:=M.subs.new hs
  exact⟨r,h1,h2.to⟩
 ·obtain⟨r,h1,h2⟩:=M.subs.old hs
  rw [d4];exact h2.subA (C.sa r h1)
 obtain⟨k,h1,h2,h3,h4,h5⟩:=M.halfs h hh
 have S:=C.ha k h1
 refine⟨by rw [d4,<-h2,<-h4];exact S.m4,fun s hs=>?_,by rw [<-h3];exact S.th⟩
 obtain⟨r,g1,g2⟩:=M.subs.old hs
 rw [<-h4,g2.take];exact S.sep r g1
structure MildB (w w':WorldD):Prop where
 ha:w'.a=w.a
 nums:w'.nums=w.nums
 known:w'.known=w.known
 readA:w'.readA=w.readA
 wroteA:w'.wroteA=w.wroteA
 wroteB:∃ t,w'.wroteB=w.wroteB++t
 ok:OkE w'.b/\w'.b.state=2
 sd:w'.b.side=w.b.side/\w'.b.key=w.b.key/\w'.b.peer=w.b.peer/\w'.b.draw=w.b.draw
 subs:SubsKeep w.b.subs w'.b.subs
 halfs:w'.b.halfs.Sublist w.b.halfs
 ob:∀ q∈w'.b.own,sideAt q.addr=2
 fb:∀ f∈w'.b.far,sideAt f.addr=1/\Told w.a f.id f.addr
 tl:∀ i d,Told w.b i d->Told w'.b i d
 oib:OutI w'.wroteB w'.b.out
 iib:InI w.wroteA w'.readB w'.b.inp
theorem MildB.put {w w':WorldD} (M:MildB w w') (C:Core w):PutB w w':=by
 obtain⟨d1,d2,d3,d4⟩:=M.sd
 refine⟨M.ha,M.nums,M.known,M.readA,M.wroteA,M.wroteB,M.ok.1,M.ok.2,d1.trans C.sib,d2,d3,by rw [d4];exact⟨C.db.1,Int.le_refl _⟩,fun s hs=>?_,fun s hs=>?_,fun h hh=>?_,C.hbd.sublist M.halfs,fun h hh=>.inr ⟨h,M.halfs.subset hh,rfl,rfl,rfl,rfl⟩,M.ob,M.fb,M.tl,M.oib,M.iib⟩
 ·obtain⟨r,h1,h2⟩:=M.subs.new hs
  exact⟨r,h1,h2.road,h2.take,h2.give⟩
 ·obtain⟨r,h1,h2⟩:=M.subs.old hs
  rw [d4];exact h2.subB (C.sb r h1)
 have S:=C.hb h (M.halfs.subset hh)
 refine⟨by rw [d4];exact S.m4,fun s hs=>?_,S.th⟩
 obtain⟨r,g1,g2⟩:=M.subs.old hs
 rw [g2.take];exact S.sep r g1
def inB (w:WorldD) (e:EndD):WorldD:={ w with b:=e }
theorem MildA.refl {w:WorldD} (C:Core w):MildA w w:=⟨rfl,rfl,rfl,rfl,rfl,⟨[],by simp⟩,⟨C.oka,C.sta⟩,⟨rfl,rfl,rfl,rfl⟩,SubsKeep.refl _,fun h hh=>⟨h,hh,HalfKeep.refl h⟩,C.oa,C.fa,fun _ _ h=>h,C.oia,C.iia⟩
theorem MildB.refl {w:WorldD} (C:Core w):MildB w w:=⟨rfl,rfl,rfl,rfl,rfl,⟨[],by simp⟩,⟨C.okb,C.stb⟩,⟨rfl,rfl,rfl,rfl⟩,SubsKeep.refl _,List.Sublist.refl _,C.ob,C.fb,fun _ _ h=>h,C.oib,C.iib⟩
def Sent (w:WorldD) (l:List LetterD):Prop:=∀ x∈l,¬ sideAt x.to=0/\LetI w x
theorem Sent.post {w:WorldD} {l:List LetterD} (h:Sent w l):∀ x∈l,Post w x:=fun x hx=>⟨.inr (h x hx).2,fun h0=>absurd h0 (h x hx).1⟩
theorem Sent.mono {w w':WorldD} {l:List LetterD} (h:Sent w l) (L:Le w w'):Sent w' l:=fun x hx=>⟨(h x hx).1,(h x hx).2.mono L⟩
theorem zR {w:WorldD} {l m:List LetterD} (h:Sent w l) (g:Sent w m):Sent w (l++m):=fun x hx=>(List.mem_append.1 hx).elim (h x) (g x)
theorem SubTo.trans {a b c:SubD} (h:SubTo a b) (g:SubTo b c):SubTo a c:=⟨g.road.trans h.road,g.mine.trans h.mine,g.take.trans h.take,fun h1=>by
 obtain⟨p1,p2,p3⟩:=h.rest h1
 obtain⟨q1,q2,q3⟩:=g.rest p1
 exact⟨q1,q2.trans p2,q3.trans p3⟩⟩
theorem Le.trans {a b c:WorldD} (h:Le a b) (g:Le b c):Le a c:=by
 refine⟨g.ka.trans h.ka,g.kb.trans h.kb,fun n hn=>g.nums n (h.nums n hn),fun s hs=>?_,fun t ht=>?_,Int.le_trans h.db g.db,fun k hk=>?_,fun i d q=>g.ta i d (h.ta i d q),fun i d q=>g.tb i d (h.tb i d q),?_,?_⟩
 ·obtain⟨r,r1,r2⟩:=h.sa s hs
  obtain⟨u,u1,u2⟩:=g.sa r r1
  exact⟨u,u1,r2.trans u2⟩
 ·obtain⟨r,r1,r2⟩:=h.sb t ht
  obtain⟨u,u1,u2⟩:=g.sb r r1
  exact⟨u,u1,u2.trans r2⟩
 ·rcases g.hb k hk with q|⟨r,r1,r2,r3,r4,r5⟩
  ·exact .inl (Int.le_trans h.db q)
  rcases h.hb r r1 with q|⟨u,u1,u2,u3,u4,u5⟩
  ·exact .inl (by omega)
  exact .inr ⟨u,u1,u2.trans r2,u3.trans r3,u4.trans r4,u5.trans r5⟩
 ·obtain⟨t,e⟩:=h.wa;obtain⟨u,f⟩:=g.wa
  exact⟨t++u,by rw [f,e,List.append_assoc]⟩
 obtain⟨t,e⟩:=h.wb;obtain⟨u,f⟩:=g.wb
 exact⟨t++u,by rw [f,e,List.append_assoc]⟩
structure Go1 (w w':WorldD) (l:List LetterD):Prop where
 c:Core w'
 le:Le w w'
 s:Sent w' l
theorem Go1.trans {a b c:WorldD} {l m:List LetterD} (h:Go1 a b l) (g:Go1 b c m):Go1 a c (l++m):=⟨g.c,h.le.trans g.le,zR (h.s.mono g.le) g.s⟩
end
end Go.Proofs.YtjghbknhneffjaaGreat
