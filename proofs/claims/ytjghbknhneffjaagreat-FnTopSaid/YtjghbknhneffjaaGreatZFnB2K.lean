/-
  Texts merged for this claim by shake.py: what its proof needs.
-/
import Derived.Test.YtjghbknhneffjaaGreatZFnBaseL
import Derived.Test.YtjghbknhneffjaaGreatZFnBaseM
import Derived.Test.YtjghbknhneffjaaGreatZFnBaseN
import Derived.Test.YtjghbknhneffjaaGreatZFnB2A
import Derived.Test.YtjghbknhneffjaaGreatZFnB2B
import Derived.Test.YtjghbknhneffjaaGreatZFnB2C
import Derived.Test.YtjghbknhneffjaaGreatZFnB2D
import Derived.Test.YtjghbknhneffjaaGreatZFnB2G
import Derived.Test.YtjghbknhneffjaaGreatZFnB2H
import Derived.Test.YtjghbknhneffjaaGreatZFnB2I
import Derived.Test.YtjghbknhneffjaaGreatZFnB2J
set_option maxHeartbeats 16000000
set_option maxRecDepth 100000
set_option linter.unusedVariables false
set_option linter.unusedSimpArgs false
namespace Go.Proofs.YtjghbknhneffjaaGreat
section
open Go.RowKit
theorem m3 (e:EndD) (x:LetterD) (hs:Small e) (hsp:SmallP e.inp):aP 65 [.ag (e.cs 0),.ag x.cs] (e.hp false) (.tu [.ag ((bM e x).1.cs 7),.sc (.sl 14 0 (bM e x).2.length)])
  (e.hp false++((bM e x).1.hp true++[some ⟨(bM e x).2.map LetterD.cs,19,48,true,true⟩])):=by
 have hC:=(qH (jF e))
 have hK:=(qH (ap e))
 have hL:=a1 x
 have hO:=cl e x.to (by have:=hs.own;omega)
 have hf:=ur (e:=e) (x:=x)
 have hno:=y2 (e:=e) (x:=x)
 have hr1:=y3 (e:=e) (x:=x)
 have hr2:=y4 (e:=e) (x:=x)
 have hr4:=y5 (e:=e) (x:=x)
 have hr5:=y6 (e:=e) (x:=x)
 have hr6:=y7 (e:=e) (x:=x)
 have hr7:=y8 (e:=e) (x:=x)
 have hr8:=y9 (e:=e) (x:=x)
 have hr9:=y_ (e:=e) (x:=x)
 have hr10:=vB (e:=e) (x:=x)
 have hr11:=vC (e:=e) (x:=x)
 have hr12:=vD (e:=e) (x:=x)
 have hr13:=vE (e:=e) (x:=x)
 generalize bM e x=R at*
 refine qE Tryz.func65 Tryz.ntmps65 Tryz.results65 fun E hE=>?_
 refine qK (hK) (qI 0 7) ?_
 refine qB (fun h1=>?_) fun h1=>?_
 ·refine qK (hL) [] ?_
  refine qB (fun h2=>?_) fun h2=>?_
  ·refine qK (hO) (qI 0 7) ?_
   refine qB (fun h3=>?_) fun h3=>?_
   ·rw [hf (by simp [cp,h1,h2,h3])]
    refine qX ?_
    refine qK (hC) (qI 0 7) ?_
    exact qF (qI 0 7++qI 10 7++qO 1)
   have hh:cp e x=true:=by simp [cp,h1,h2,h3]
   refine qX ?_
   refine qB (fun k1=>?_) fun k1=>?_
   ·rw [hr1 hh k1]
    refine qX ?_
    refine qK (fn e x hs) (qI 0 7) ?_
    exact qF (qI 0 7++qI 10 8)
   refine qX ?_
   refine qB (fun k2=>?_) fun k2=>?_
   ·rw [hr2 hh k2]
    refine qX ?_
    refine qK (ka e x hs) (qI 0 7) ?_
    exact qF (qI 0 7++qI 10 8)
   refine qX ?_
   refine qB (fun k4=>?_) fun k4=>?_
   ·rw [hr4 hh k4]
    refine qX ?_
    refine qK (ky e x hs) (qI 0 7) ?_
    exact qF (qI 0 7++qI 10 8)
   refine qX ?_
   refine qB (fun k5=>?_) fun k5=>?_
   ·rw [hr5 hh k5]
    refine qX ?_
    refine qK (ep e x hs) (qI 0 7) ?_
    exact qF (qI 0 7++qI 10 8)
   refine qX ?_
   refine qB (fun k6=>?_) fun k6=>?_
   ·rw [hr6 hh k6]
    refine qX ?_
    refine qK (ex e x hs) (qI 0 7) ?_
    exact qF (qI 0 7++qI 10 8)
   refine qX ?_
   refine qB (fun k7=>?_) fun k7=>?_
   ·rw [hr7 hh k7]
    refine qX ?_
    refine qK (e4 e x hs) (qI 0 7) ?_
    exact qF (qI 0 7++qI 10 8)
   refine qX ?_
   refine qB (fun k8=>?_) fun k8=>?_
   ·rw [hr8 hh k8]
    refine qX ?_
    refine qK (k3 e x hs) (qI 0 7) ?_
    exact qF (qI 0 7++qI 10 8)
   refine qX ?_
   refine qB (fun k9=>?_) fun k9=>?_
   ·rw [hr9 hh k9]
    refine qX ?_
    refine qK (lo e x hs) (qI 0 7) ?_
    exact qF (qI 0 7++qI 10 8)
   refine qX ?_
   refine qB (fun k10=>?_) fun k10=>?_
   ·rw [hr10 hh k10]
    refine qX ?_
    refine qK (lp e x hs) (qI 0 7) ?_
    exact qF (qI 0 7++qI 10 8)
   refine qX ?_
   refine qB (fun k11=>?_) fun k11=>?_
   ·rw [hr11 hh k11]
    refine qX ?_
    refine qK (l0 e x hs hsp) (qI 0 7) ?_
    exact qF (qI 0 7++qI 10 8)
   refine qX ?_
   refine qB (fun k12=>?_) fun k12=>?_
   ·rw [hr12 hh k12]
    refine qX ?_
    refine qK (i0 e x hs) (qI 0 7) ?_
    exact qF (qI 0 7++qI 10 8)
   refine qX ?_
   refine qB (fun k13=>?_) fun k13=>?_
   ·rw [hr13 hh k13]
    refine qX ?_
    refine qK (fs e x hs) (qI 0 7) ?_
    exact qF (qI 0 7++qI 10 8)
   refine qX ?_
   rw [hno (by intro k hk;omega)]
   refine qX ?_
   refine qK (hC) (qI 0 7) ?_
   exact qF (qI 0 7++qI 10 7++qO 1)
  rw [hf (by simp [cp,h2])]
  refine qX ?_
  refine qK (hC) (qI 0 7) ?_
  exact qF (qI 0 7++qI 10 7++qO 1)
 rw [hf (by simp [cp,h1])]
 refine qX ?_
 refine qK (hC) (qI 0 7) ?_
 exact qF (qI 0 7++qI 10 7++qO 1)
theorem n8 (w:WorldD) (x:LetterD) (hw:SmallWP w):aP 14 [.ag (w.cs 0),.ag x.cs] (w.hp false) (.ag ((eF w x).cs 21)) (w.hp false++(eF w x).hp true):=by
 have hC:=ge w hw.s
 have hS:=d1 x.to
 obtain⟨R,hR⟩:∃ R,R=eF w x:=⟨_,rfl⟩
 rw [<-hR]
 rcases oU x.to with h0|h0|h0
 ·rw [AU h0] at hR
  subst hR
  rw [h0] at hS
  refine gU Tryz.func14 Tryz.ntmps14 Tryz.results14 fun E hE=>?_
  refine qK (hC) (qI 0 21) ?_
  refine qK (hS) [] ?_
  exact dk (qI 0 21++qI 24 21)
 ·rw [AW h0] at hR
  rw [h0] at hS
  have hEA:aP 66 [.ag (w.cs 0),.sc (.int .i64 1)] (w.hp false) (.ag (w.a.cs 21)) (w.hp false++w.a.hp true):=BM w 1 hw.s.a.own hw.s.a.far hw.s.a.subs hw.s.a.halfs hw.s.a.list hw.s.a.done hw.s.a.over hw.s.b.own hw.s.b.far hw.s.b.subs hw.s.b.halfs hw.s.b.list hw.s.b.done hw.s.b.over
  have hH:=m3 w.a x hw.s.a hw.pa
  have hsm:=gn (e:=w.a) (x:=x) hw.s.a
  have hone:=r_ (e:=w.a) (x:=x)
  obtain⟨pr,hpr⟩:∃ p,p=bM w.a x:=⟨_,rfl⟩
  rw [<-hpr] at hH hsm hone hR
  obtain⟨e1,l1⟩:=pr
  dsimp only at hH hsm hone hR
  have hends:=ba (side:=1) (l:=l1) (w:={ w with a:=e1 })
  rw [<-hR] at hends
  have hset:=d4 w e1
  have hpost:=dd { w with a:=e1 } l1 ⟨hw.s.bag,hw.s.past,hw.s.keys,hw.s.tags,hw.s.nums,hw.s.ansA,hw.s.ansB⟩ (by omega)
  rw [<-hR] at hpost
  clear hR hpr
  obtain⟨ra,rb,bag,past,wA,wB,rA,rB,known,nums,nsA,nsB⟩:=R
  obtain⟨keys,tags⟩:=known
  dsimp only at hends
  obtain⟨g1,g2,g3,g4,g5,g6⟩:=hends
  replace g1:=g1.symm
  replace g2:=g2.symm
  replace g3:=g3.symm
  replace g4:=g4.symm
  replace g5:=g5.symm
  replace g6:=g6.symm
  subst g1 g2 g3 g4 g5 g6
  refine gU Tryz.func14 Tryz.ntmps14 Tryz.results14 fun E hE=>?_
  refine qK (hC) (qI 0 21) ?_
  refine qK (hS) [] ?_
  refine cG [(2,8),(4,8)] [(2,4)] [(qU [0,2,3,1,2,1,4,7]),[0,1,3,2,8,4,5,6,7,9,10],[0,1,3,8,2,4,5,6,7,9,10]] 21 hE (fun s=>s.at (qU [16,8]) [(7,.sc (.pt 61 0 0)),(8,.sc (.sl 60 0 l1.length))] (s.hp++(w.a.hp true++(e1.hp true++[some ⟨l1.map LetterD.cs,19,48,true,true⟩,some ⟨[e1.cs 53],25,38,true,false⟩])))) (by kernel_rfl) (qC) (by kernel_rfl) ?_ (ac 400 ?_)
  rotate_left
  rotate_right
  simp only [bm]
  refine⟨aa 400 ?_,aa 400 ?_,aa 400 ?_⟩
  ·simp (disch:=omega) only [go_sem,seval]
   refine aQ (hEA) (qI 0 21) ?_
   refine aQ (hH) (qI 46 7) ?_
   refine⟨qC,(qI 0 62),ab (by rfl) (by rfl) ?_⟩
   try simp (disch:=omega) only [go_sem,seval]
  ·simp (disch:=omega) only [go_sem,seval]
   refine aQ (hEA) (qI 0 21) ?_
   refine aQ (hH) (qI 46 7) ?_
   refine⟨qC,(qI 0 53++qI 54 8++qI 53 1),ab (by rfl) (by rfl) ?_⟩
   try simp (disch:=omega) only [go_sem,seval]
  ·simp (disch:=omega) only [go_sem,seval]
   refine aQ (hEA) (qI 0 21) ?_
   refine aQ (hH) (qI 47 7) ?_
   refine⟨qC,(qI 0 46++qI 47 15++qI 46 1),ab (by rfl) (by rfl) ?_⟩
   try simp (disch:=omega) only [go_sem,seval]
  refine qX ?_
  refine qK (hset) (qI 24 21++qI 53 7++qI 45 1) ?_
  refine qK (hpost) (qI 53 7++qI 31 15++qI 60 1) ?_
  exact dk (qI 0 21++qI 53 7++qI 31 7++qI 62 7)
 rw [AX h0] at hR
 rw [h0] at hS
 have hEA:aP 66 [.ag (w.cs 0),.sc (.int .i64 2)] (w.hp false) (.ag (w.b.cs 21)) (w.hp false++w.b.hp true):=BM w 2 hw.s.a.own hw.s.a.far hw.s.a.subs hw.s.a.halfs hw.s.a.list hw.s.a.done hw.s.a.over hw.s.b.own hw.s.b.far hw.s.b.subs hw.s.b.halfs hw.s.b.list hw.s.b.done hw.s.b.over
 have hH:=m3 w.b x hw.s.b hw.pb
 have hsm:=gn (e:=w.b) (x:=x) hw.s.b
 have hone:=r_ (e:=w.b) (x:=x)
 obtain⟨pr,hpr⟩:∃ p,p=bM w.b x:=⟨_,rfl⟩
 rw [<-hpr] at hH hsm hone hR
 obtain⟨e1,l1⟩:=pr
 dsimp only at hH hsm hone hR
 have hends:=ba (side:=2) (l:=l1) (w:={ w with b:=e1 })
 rw [<-hR] at hends
 have hset:=e5 w e1
 have hpost:=ea { w with b:=e1 } l1 ⟨hw.s.bag,hw.s.past,hw.s.keys,hw.s.tags,hw.s.nums,hw.s.ansA,hw.s.ansB⟩ (by omega)
 rw [<-hR] at hpost
 clear hR hpr
 obtain⟨ra,rb,bag,past,wA,wB,rA,rB,known,nums,nsA,nsB⟩:=R
 obtain⟨keys,tags⟩:=known
 dsimp only at hends
 obtain⟨g1,g2,g3,g4,g5,g6⟩:=hends
 replace g1:=g1.symm
 replace g2:=g2.symm
 replace g3:=g3.symm
 replace g4:=g4.symm
 replace g5:=g5.symm
 replace g6:=g6.symm
 subst g1 g2 g3 g4 g5 g6
 refine gU Tryz.func14 Tryz.ntmps14 Tryz.results14 fun E hE=>?_
 refine qK (hC) (qI 0 21) ?_
 refine qK (hS) [] ?_
 refine cG [(2,8),(4,8)] [(2,4)] [(qU [0,2,3,1,2,1,4,7]),[0,1,3,2,8,4,5,6,7,9,10],[0,1,3,8,2,4,5,6,7,9,10]] 21 hE (fun s=>s.at (qU [16,8]) [(7,.sc (.pt 61 0 0)),(8,.sc (.sl 60 0 l1.length))] (s.hp++(w.b.hp true++(e1.hp true++[some ⟨l1.map LetterD.cs,19,48,true,true⟩,some ⟨[e1.cs 53],25,38,true,false⟩])))) (by kernel_rfl) (qC) (by kernel_rfl) ?_ (ac 400 ?_)
 rotate_left
 rotate_right
 simp only [bm]
 refine⟨aa 400 ?_,aa 400 ?_,aa 400 ?_⟩
 ·simp (disch:=omega) only [go_sem,seval]
  refine aQ (hEA) (qI 0 21) ?_
  refine aQ (hH) (qI 46 7) ?_
  refine⟨qC,(qI 0 62),ab (by rfl) (by rfl) ?_⟩
  try simp (disch:=omega) only [go_sem,seval]
 ·simp (disch:=omega) only [go_sem,seval]
  refine aQ (hEA) (qI 0 21) ?_
  refine aQ (hH) (qI 46 7) ?_
  refine⟨qC,(qI 0 53++qI 54 8++qI 53 1),ab (by rfl) (by rfl) ?_⟩
  try simp (disch:=omega) only [go_sem,seval]
 ·simp (disch:=omega) only [go_sem,seval]
  refine aQ (hEA) (qI 0 21) ?_
  refine aQ (hH) (qI 47 7) ?_
  refine⟨qC,(qI 0 46++qI 47 15++qI 46 1),ab (by rfl) (by rfl) ?_⟩
  try simp (disch:=omega) only [go_sem,seval]
 refine qX ?_
 refine qK (hset) (qI 24 21++qI 53 7++qI 45 1) ?_
 refine qK (hpost) (qI 24 7++qI 53 7++qI 38 8++qI 60 1) ?_
 exact dk (qI 0 21++qI 24 7++qI 53 7++qI 62 7)
theorem o9 (w:WorldD) (side many:Int) (p:Nat) (text:List UInt8) (ad:AddrD) (le:LetterD) (hw:SmallD w):
  aP 165 [.sc (.pt 21 0 0),.ag (ActD.cs ⟨8,side,(p:Nat),many,text,ad,le⟩)] (w.hp true++[some ⟨[w.cs 0],61,44,true,false⟩]) (.sc (.int .i64 (ce w ⟨8,side,(p:Nat),many,text,ad,le⟩).2))
  ((nH 21++[some ⟨[WorldD.cs (ce w ⟨8,side,(p:Nat),many,text,ad,le⟩).1 22],61,44,true,false⟩])++WorldD.hp (ce w ⟨8,side,(p:Nat),many,text,ad,le⟩).1 true):=by
 have hbag:=hw.p.s.bag
 have hpast:=hw.p.s.past
 obtain⟨R,hR⟩:∃ R,R=ce w ⟨8,side,(p:Nat),many,text,ad,le⟩:=⟨_,rfl⟩
 rw [<-hR]
 by_cases hp:p < w.bag.length
 ·rw [Dz hp] at hR
  obtain⟨B,hBe⟩:∃ B,B=fF w.bag (p:Nat):=⟨_,rfl⟩
  have e2:p+(w.bag.length - (p+1))=B.length:=by rw [hBe,gv hp];omega
  have e1:(w.bag.take p).map LetterD.cs++((w.bag.map LetterD.cs).drop (p+1)).take (w.bag.length - (p+1))=B.map LetterD.cs:=by rw [hBe];exact (oP hp).2
  have hB:B.length<=1048576:=by omega
  have hlt:(w.bag.take p).length=p:=by simp;omega
  have hlt2:(List.take p (List.map LetterD.cs w.bag)).length=p:=by simp;omega
  have hC:=ch (w.bag.take p) (by omega)
  rw [hlt] at hC
  have hx:=aT (enc:=LetterD.cs) hp
  rw [<-hBe] at hR
  clear hBe
  generalize hxx:w.bag[p]=x at*
  have hL:=n8 { w with bag:=B } x ⟨⟨hw.p.s.a,hw.p.s.b,hB,hw.p.s.past,hw.p.s.keys,hw.p.s.tags,hw.p.s.nums,hw.p.s.ansA,hw.p.s.ansB⟩,hw.p.pa,hw.p.pb⟩
  obtain⟨L,hLe⟩:∃ L,L=eF { w with bag:=B } x:=⟨_,rfl⟩
  rw [<-hLe] at hL hR
  clear hLe
  subst hR
  dsimp only
  refine kc Tryz.func165 (by kernel_rfl) rfl fun E hE=>ac 400 ?_
  simp (disch:=omega) only [Tryz.ntmps165,Tryz.results165,go_sem,seval]
  refine iu (qU [0,9]) (by kernel_rfl) (qC) (by kernel_rfl) (aa 400 ?_)
  simp (disch:=omega) only [go_sem,seval]
  refine⟨qC,ac 400 ?_⟩
  try simp (disch:=omega) only [go_sem,seval]
  refine iu (qU [0,10]) (by kernel_rfl) (qC) (by kernel_rfl) (aa 400 ?_)
  simp (disch:=omega) only [go_sem,seval]
  refine⟨qC,ac 400 ?_⟩
  try simp (disch:=omega) only [go_sem,seval,hx,hxx]
  refine iu (qU [0,8,9,8,8,1,17,4]) (by kernel_rfl) (qC) (by kernel_rfl) (aa 400 ?_)
  simp (disch:=omega) only [go_sem,seval]
  refine it (qC) (hC) [some (14,some 0)] qM (by rfl) (by rfl) (aa 400 ?_)
  simp (disch:=omega) only [go_sem,seval]
  refine⟨qC,ac 400 ?_⟩
  try simp (disch:=omega) only [go_sem,seval,e1,e2]
  refine iu (qU [0,8]) (by kernel_rfl) (qC) (by kernel_rfl) (aa 400 ?_)
  simp (disch:=omega) only [go_sem,seval]
  refine it (qC) (hL) (qI 0 14++qI 25 1++qI 15 6) qM (by rfl) (by rfl) (aa 400 ?_)
  simp (disch:=omega) only [go_sem,seval]
  refine⟨qC,ac 400 ?_⟩
  try simp (disch:=omega) only [go_sem,seval]
  refine fL (qI 0 22++qI 26 21) (qC) _ (by simp only [go_sem];rfl) (by rfl) (by rfl) ?_
  simp (disch:=omega) only [go_sem,seval]
 rw [Dy hp] at hR
 subst hR
 dsimp only
 refine kc Tryz.func165 (by kernel_rfl) rfl fun E hE=>ac 400 ?_
 simp (disch:=omega) only [Tryz.ntmps165,Tryz.results165,go_sem,seval]
 refine iu (qU [0,9]) (by kernel_rfl) (qC) (by kernel_rfl) (aa 400 ?_)
 simp (disch:=omega) only [go_sem,seval]
 refine⟨qC,ac 400 ?_⟩
 try simp (disch:=omega) only [go_sem,seval]
 refine fL (qI 0 22++qI 0 21) (qC) _ (by simp only [go_sem];rfl) (by rfl) (by rfl) ?_
 simp (disch:=omega) only [go_sem,seval]
end
end Go.Proofs.YtjghbknhneffjaaGreat
