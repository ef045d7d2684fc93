/-
  Texts merged for this claim by shake.py: what its proof needs.
-/
import Derived.Test.YtjghbknhneffjaaGreatZFnBaseA
import Derived.Test.YtjghbknhneffjaaGreatZFnBaseB
import Derived.Test.YtjghbknhneffjaaGreatZFnBaseC
import Derived.Test.YtjghbknhneffjaaGreatZFnBaseD
import Derived.Test.YtjghbknhneffjaaGreatZFnBaseE
import Derived.Test.YtjghbknhneffjaaGreatZFnBaseH
set_option maxHeartbeats 16000000
set_option maxRecDepth 100000
set_option linter.unusedVariables false
set_option linter.unusedSimpArgs false
namespace Go.Proofs.YtjghbknhneffjaaGreat
section
open Go.RowKit
theorem nP (e:EndD) (x:LetterD) (hs:Small e):aP 149 [.ag (e.cs 0),.ag x.cs] (e.hp false) (.tu [.ag ((bC e x).1.cs 7),.sc (.sl 14 0 (bC e x).2.length)])
  (e.hp false++((bC e x).1.hp true++[some ⟨(bC e x).2.map LetterD.cs,19,48,true,true⟩])):=by
 have hC:=(qH (aj e))
 have hK:=(qH (au e))
 have hA:=cm e.far x.id (by have:=hs.far;omega)
 have hH:=eA e.over x.id (by have:=hs.over;omega)
 have hS:=ef e x hs
 have hbA:=fQ e.far x.id
 have hbd:=f9 e x
 have hf:=uc (e:=e) (x:=x)
 have ht:=fun (n:Nat)=> @ud e x n
 have hok:=lH.eq_1 e x
 generalize bC e x=R at*
 refine qE Tryz.func149 Tryz.ntmps149 Tryz.results149 fun E hE=>?_
 refine qK (hC) (qI 0 7) ?_
 refine qK (hS) (qI 0 7) ?_
 have hcmp:=TagD.cmp x.tag ⟨3,e.peer,e.key,x.id,x.addr⟩
 simp only [TagD.cs,go_sem] at hcmp
 rcases hbd with hon|⟨n,hon,hk,hn,hq1,hq2⟩
 ·rw [hf (by rw [hok];simp [hon]),hon]
  refine qX ?_
  refine qD [0,1,2,3,4,5,6,7,8,9,10,11,12,13,14,15,16,17,18,19,20,21,22] ?_
  refine qG ?_
  exact qF (qI 0 7++qI 10 7++qI 18 1)
 rw [hon]
 refine qX ?_
 refine qD [0,1,2,3,4,5,6,7,8,9,10,11,12,13,14,15,16,17,18,19,20,21,22] ?_
 refine aQ (jH _ _ _ _) [] ?_
 try simp (disch:=omega) only [go_sem,seval,hcmp]
 refine qB (fun h4=>?_) fun h4=>?_
 ·refine aQ (hH) (qI 6 1) ?_
  refine qG ?_
  refine qB (fun h5=>?_) fun h5=>?_
  ·rw [hf (by rw [hok];simp [h5])]
   refine qX ?_
   exact qF (qI 0 7++qI 10 7++qI 18 1)
  refine qX ?_
  refine qK (hA) (qI 1 1) ?_
  rcases hbA with hi|⟨hi0,hi1⟩
  ·rw [hi]
   refine qX ?_
   have hoth:=t9 hi
   refine qD [0,1,2,3,4,5,6,7,8,9,10,11,12] ?_
   refine qG ?_
   have hP:=eW e.far (jN x) (by have:=iy hq1;omega)
   obtain⟨Q,hQ⟩:∃ Q,Q=aJ e.far (jN x):=⟨_,rfl⟩
   have hQl:Q.1.length<=1048576:=by rw [hQ];have:=iy hq1;have:=dR e.far (jN x);unfold aJ;split<;>dsimp only<;>omega
   rw [<-hQ] at hP
   refine qX ?_
   refine qK (hP) (qI 1 1) ?_
   refine qB (fun h7=>?_) fun h7=>?_
   ·rw [hf (by rw [hok,<-hQ];simp [h7])]
    refine qX ?_
    exact qF (qI 0 7++qI 10 7++qI 18 1)
   rw [ht _ (by rw [hok,hoth,<-hQ];simp [hon,h4,h5,h7]) hon hn,<-hQ]
   refine qX ?_
   refine aO [(0,17),(3,0),(15,0),(16,0)] [(qU [1,2,4,11,3,1,15,2,0,1,17,3]),(qU [1,2,4,11,3,1,15,1,0,1,16,4]),(qU [1,2,4,11,3,1,0,1,15,5]),(qU [1,2,4,11,0,1,3,1,15,5]),(qU [1,2,4,11,3,1,15,3,0,1,18,2])] (by kernel_rfl) (qC) (by kernel_rfl) ?_
   simp only [bm]
   refine⟨aa 400 ?_,aa 400 ?_,aa 400 ?_,aa 400 ?_,aa 400 ?_⟩
   all_goals simp (disch:=omega) only [go_sem,seval]
   all_goals
    refine aQ (bg x) [] ?_
    refine aQ (aw (roadOf x) { ah with kind:=9,sgn:=e.subs[n].give,id:=x.id,addr:=x.addr }) [] ?_
    refine qG ?_
    refine qP (qI 0 7++qI 10 1++qI 19 1++qI 12 5++qI 21 1) ?_
    first|exact⟨⟩|simp [rO,aq,LetterD.cs]
  obtain⟨i,hi⟩:=Int.eq_ofNat_of_zero_le hi0
  have hil:i < e.far.length:=by omega
  have hoth:=t_ hi hil
  rw [hi]
  refine qX ?_
  refine qD [0,1,2,3,4,5,6,7,8,9,10,11,12] ?_
  refine qG ?_
  refine qB (fun h6=>?_) fun h6=>?_
  ·rw [hf (by rw [hok,hoth];simp [h6])]
   refine qX ?_
   exact qF (qI 0 7++qI 10 7++qI 18 1)
  simp only [h6,decide_true,Bool.not_true] at hoth
  have hP:=eW e.far (jN x) (by have:=iy hq1;omega)
  obtain⟨Q,hQ⟩:∃ Q,Q=aJ e.far (jN x):=⟨_,rfl⟩
  have hQl:Q.1.length<=1048576:=by rw [hQ];have:=iy hq1;have:=dR e.far (jN x);unfold aJ;split<;>dsimp only<;>omega
  rw [<-hQ] at hP
  refine qX ?_
  refine qK (hP) (qI 1 1) ?_
  refine qB (fun h7=>?_) fun h7=>?_
  ·rw [hf (by rw [hok,<-hQ];simp [h7])]
   refine qX ?_
   exact qF (qI 0 7++qI 10 7++qI 18 1)
  rw [ht _ (by rw [hok,hoth,<-hQ];simp [hon,h4,h5,h7]) hon hn,<-hQ]
  refine qX ?_
  refine aO [(0,17),(3,0),(15,0),(16,0)] [(qU [1,2,4,11,3,1,15,2,0,1,17,3]),(qU [1,2,4,11,3,1,15,1,0,1,16,4]),(qU [1,2,4,11,3,1,0,1,15,5]),(qU [1,2,4,11,0,1,3,1,15,5]),(qU [1,2,4,11,3,1,15,3,0,1,18,2])] (by kernel_rfl) (qC) (by kernel_rfl) ?_
  simp only [bm]
  refine⟨aa 400 ?_,aa 400 ?_,aa 400 ?_,aa 400 ?_,aa 400 ?_⟩
  all_goals simp (disch:=omega) only [go_sem,seval]
  all_goals
   refine aQ (bg x) [] ?_
   refine aQ (aw (roadOf x) { ah with kind:=9,sgn:=e.subs[n].give,id:=x.id,addr:=x.addr }) [] ?_
   refine qG ?_
   refine qP (qI 0 7++qI 10 1++qI 19 1++qI 12 5++qI 21 1) ?_
   first|exact⟨⟩|simp [rO,aq,LetterD.cs]
 rw [hf (by rw [hok];simp [h4])]
 refine qG ?_
 exact qF (qI 0 7++qI 10 7++qI 18 1)
theorem oS (e:EndD) (x:LetterD) (hs:Small e) (hsp:SmallP e.inp):aP 73 [.ag (e.cs 0),.ag x.cs] (e.hp false) (.tu [.ag ((bM e x).1.cs 7),.sc (.sl 14 0 (bM e x).2.length)])
  (e.hp false++((bM e x).1.hpS++[some ⟨(bM e x).2.map LetterD.cs,19,48,true,true⟩])):=by
 have hC:=(qH (aj e))
 have hK:=(qH (au e))
 have hL:=bT x
 have hO:=ej e x.to (by have:=hs.own;omega)
 have hf:=ur (e:=e) (x:=x)
 have hno:=y2 (e:=e) (x:=x)
 have hr1:=y3 (e:=e) (x:=x)
 have hr2:=y4 (e:=e) (x:=x)
 have hr4:=y5 (e:=e) (x:=x)
 have hr5:=y6 (e:=e) (x:=x)
 have hr6:=y7 (e:=e) (x:=x)
 have hr7:=y8 (e:=e) (x:=x)
 have hr8:=y9 (e:=e) (x:=x)
 have hr9:=y_ (e:=e) (x:=x)
 have hr10:=vB (e:=e) (x:=x)
 have hr11:=vC (e:=e) (x:=x)
 have hr12:=vD (e:=e) (x:=x)
 have hr13:=vE (e:=e) (x:=x)
 generalize bM e x=R at*
 refine qE Tryz.func73 Tryz.ntmps73 Tryz.results73 fun E hE=>?_
 refine qK (hK) (qI 0 7) ?_
 refine qB (fun h1=>?_) fun h1=>?_
 ·refine qK (hL) [] ?_
  refine qB (fun h2=>?_) fun h2=>?_
  ·refine qK (hO) (qI 0 7) ?_
   refine qB (fun h3=>?_) fun h3=>?_
   ·rw [hf (by simp [cp,h1,h2,h3])]
    refine qX ?_
    refine qK (hC) (qI 0 7) ?_
    exact qF (qI 0 7++qI 10 8)
   have hh:cp e x=true:=by simp [cp,h1,h2,h3]
   refine qX ?_
   refine qB (fun k1=>?_) fun k1=>?_
   ·rw [hr1 hh k1]
    refine qX ?_
    refine qK (gY e x hs) (qI 0 7) ?_
    exact qF (qI 0 7++qI 10 8)
   refine qX ?_
   refine qB (fun k2=>?_) fun k2=>?_
   ·rw [hr2 hh k2]
    refine qX ?_
    refine qK (iM e x hs) (qI 0 7) ?_
    exact qF (qI 0 7++qI 10 8)
   refine qX ?_
   refine qB (fun k4=>?_) fun k4=>?_
   ·rw [hr4 hh k4]
    refine qX ?_
    refine qK (nO e x hs) (qI 0 7) ?_
    exact qF (qI 0 7++qI 10 8)
   refine qX ?_
   refine qB (fun k5=>?_) fun k5=>?_
   ·rw [hr5 hh k5]
    refine qX ?_
    refine qK (jL e x hs) (qI 0 7) ?_
    exact qF (qI 0 7++qI 10 8)
   refine qX ?_
   refine qB (fun k6=>?_) fun k6=>?_
   ·rw [hr6 hh k6]
    refine qX ?_
    refine qK (jM e x hs) (qI 0 7) ?_
    exact qF (qI 0 7++qI 10 8)
   refine qX ?_
   refine qB (fun k7=>?_) fun k7=>?_
   ·rw [hr7 hh k7]
    refine qX ?_
    refine qK (kj e x hs) (qI 0 7) ?_
    exact qF (qI 0 7++qI 10 8)
   refine qX ?_
   refine qB (fun k8=>?_) fun k8=>?_
   ·rw [hr8 hh k8]
    refine qX ?_
    refine qK (nP e x hs) (qI 0 7) ?_
    exact qF (qI 0 7++qI 10 8)
   refine qX ?_
   refine qB (fun k9=>?_) fun k9=>?_
   ·rw [hr9 hh k9]
    refine qX ?_
    refine qK (nQ e x hs) (qI 0 7) ?_
    exact qF (qI 0 7++qI 10 8)
   refine qX ?_
   refine qB (fun k10=>?_) fun k10=>?_
   ·rw [hr10 hh k10]
    refine qX ?_
    refine qK (nR e x hs) (qI 0 7) ?_
    exact qF (qI 0 7++qI 10 8)
   refine qX ?_
   refine qB (fun k11=>?_) fun k11=>?_
   ·rw [hr11 hh k11]
    refine qX ?_
    refine qK (nT e x hs hsp) (qI 0 7) ?_
    exact qF (qI 0 7++qI 10 8)
   refine qX ?_
   refine qB (fun k12=>?_) fun k12=>?_
   ·rw [hr12 hh k12]
    refine qX ?_
    refine qK (nL e x hs) (qI 0 7) ?_
    exact qF (qI 0 7++qI 10 8)
   refine qX ?_
   refine qB (fun k13=>?_) fun k13=>?_
   ·rw [hr13 hh k13]
    refine qX ?_
    refine qK (mB e x hs) (qI 0 7) ?_
    exact qF (qI 0 7++qI 10 8)
   refine qX ?_
   rw [hno (by intro k hk;omega)]
   refine qX ?_
   refine qK (hC) (qI 0 7) ?_
   exact qF (qI 0 7++qI 10 8)
  rw [hf (by simp [cp,h2])]
  refine qX ?_
  refine qK (hC) (qI 0 7) ?_
  exact qF (qI 0 7++qI 10 8)
 rw [hf (by simp [cp,h1])]
 refine qX ?_
 refine qK (hC) (qI 0 7) ?_
 exact qF (qI 0 7++qI 10 8)
theorem AU {w:WorldD} {x:LetterD} (h:sideAt x.to=0):eF w x=w:=by rw [eF,if_pos h]
theorem AW {w:WorldD} {x:LetterD} (h:sideAt x.to=1):eF w x=an 1 { w with a:=(bM w.a x).1 } (bM w.a x).2:=by rw [eF,h];rfl
theorem AX {w:WorldD} {x:LetterD} (h:sideAt x.to=2):eF w x=an 2 { w with b:=(bM w.b x).1 } (bM w.b x).2:=by rw [eF,h];rfl
structure SmallWP (w:WorldD):Prop where
 s:SmallW w
 pa:SmallP w.a.inp
 pb:SmallP w.b.inp
theorem uw (w:WorldD) (x:LetterD) (hw:SmallWP w):aP 16 [.ag (w.cs 0),.ag x.cs] (w.hp false) (.ag ((eF w x).cs 21)) (w.hp false++(eF w x).hp true):=by
 have hC:=gi w hw.s
 have hS:=cV x.to
 obtain⟨R,hR⟩:∃ R,R=eF w x:=⟨_,rfl⟩
 rw [<-hR]
 rcases oU x.to with h0|h0|h0
 ·rw [AU h0] at hR
  subst hR
  rw [h0] at hS
  refine gU Tryz.func16 Tryz.ntmps16 Tryz.results16 fun E hE=>?_
  refine qK (hS) [] ?_
  refine qK (hC) (qI 0 21) ?_
  exact dk (qI 0 21++qI 24 21)
 ·rw [AW h0] at hR
  rw [h0] at hS
  have hEA:aP 74 [.ag (w.cs 0),.sc (.int .i64 1)] (w.hp false) (.ag (w.a.cs 21)) (w.hp false++w.a.hp true):=bq w 1 hw.s.a.own hw.s.a.far hw.s.a.subs hw.s.a.halfs hw.s.a.list hw.s.a.done hw.s.a.over hw.s.b.own hw.s.b.far hw.s.b.subs hw.s.b.halfs hw.s.b.list hw.s.b.done hw.s.b.over
  have hH:=oS w.a x hw.s.a hw.pa
  have hsm:=gn (e:=w.a) (x:=x) hw.s.a
  have hone:=r_ (e:=w.a) (x:=x)
  obtain⟨pr,hpr⟩:∃ p,p=bM w.a x:=⟨_,rfl⟩
  rw [<-hpr] at hH hsm hone hR
  obtain⟨e1,l1⟩:=pr
  dsimp only at hH hsm hone hR
  have hends:=ba (side:=1) (l:=l1) (w:={ w with a:=e1 })
  rw [<-hR] at hends
  have hset:=dc w e1
  have hpost:=df { w with a:=e1 } l1 ⟨hsm,hw.s.b,hw.s.bag,hw.s.past,hw.s.keys,hw.s.tags,hw.s.nums,hw.s.ansA,hw.s.ansB⟩ (by omega)
  rw [<-hR] at hpost
  clear hR hpr
  obtain⟨ra,rb,bag,past,wA,wB,rA,rB,known,nums,nsA,nsB⟩:=R
  obtain⟨keys,tags⟩:=known
  dsimp only at hends
  obtain⟨g1,g2,g3,g4,g5,g6⟩:=hends
  replace g1:=g1.symm
  replace g2:=g2.symm
  replace g3:=g3.symm
  replace g4:=g4.symm
  replace g5:=g5.symm
  replace g6:=g6.symm
  subst g1 g2 g3 g4 g5 g6
  refine gU Tryz.func16 Tryz.ntmps16 Tryz.results16 fun E hE=>?_
  refine qK (hS) [] ?_
  refine qK (hC) (qI 0 21) ?_
  refine cG [(2,8),(4,8)] [(2,4)] [(qU [0,2,3,1,2,1,4,7]),[0,1,3,2,8,4,5,6,7,9,10],[0,1,3,8,2,4,5,6,7,9,10]] 21 hE (fun s=>s.at (qU [16,8]) [(6,.sc (.pt 60 0 0)),(7,.sc (.sl 59 0 l1.length))] (s.hp++(w.a.hp true++(e1.hpS++[some ⟨l1.map LetterD.cs,19,48,true,true⟩,some ⟨[e1.cs 52],25,38,true,false⟩])))) (by kernel_rfl) (qC) (by kernel_rfl) ?_ (ac 400 ?_)
  rotate_left
  rotate_right
  simp only [bm]
  refine⟨aa 400 ?_,aa 400 ?_,aa 400 ?_⟩
  ·simp (disch:=omega) only [go_sem,seval]
   refine aQ (hEA) (qI 24 21) ?_
   refine aQ (hH) (qI 45 7) ?_
   refine⟨qC,(qI 0 61),ab (by rfl) (by rfl) ?_⟩
   try simp (disch:=omega) only [go_sem,seval]
  ·simp (disch:=omega) only [go_sem,seval]
   refine aQ (hEA) (qI 24 21) ?_
   refine aQ (hH) (qI 45 7) ?_
   refine⟨qC,(qI 0 52++qI 53 8++qI 52 1),ab (by rfl) (by rfl) ?_⟩
   try simp (disch:=omega) only [go_sem,seval]
  ·simp (disch:=omega) only [go_sem,seval]
   refine aQ (hEA) (qI 24 21) ?_
   refine aQ (hH) (qI 46 7) ?_
   refine⟨qC,(qI 0 45++qI 46 15++qI 45 1),ab (by rfl) (by rfl) ?_⟩
   try simp (disch:=omega) only [go_sem,seval]
  refine qX ?_
  refine qK (hset) (qI 24 21++qI 52 7) ?_
  refine qK (hpost) (qI 52 7++qI 31 14++qI 59 1) ?_
  exact dk (qI 0 21++qI 61 21)
 rw [AX h0] at hR
 rw [h0] at hS
 have hEA:aP 74 [.ag (w.cs 0),.sc (.int .i64 2)] (w.hp false) (.ag (w.b.cs 21)) (w.hp false++w.b.hp true):=bq w 2 hw.s.a.own hw.s.a.far hw.s.a.subs hw.s.a.halfs hw.s.a.list hw.s.a.done hw.s.a.over hw.s.b.own hw.s.b.far hw.s.b.subs hw.s.b.halfs hw.s.b.list hw.s.b.done hw.s.b.over
 have hH:=oS w.b x hw.s.b hw.pb
 have hsm:=gn (e:=w.b) (x:=x) hw.s.b
 have hone:=r_ (e:=w.b) (x:=x)
 obtain⟨pr,hpr⟩:∃ p,p=bM w.b x:=⟨_,rfl⟩
 rw [<-hpr] at hH hsm hone hR
 obtain⟨e1,l1⟩:=pr
 dsimp only at hH hsm hone hR
 have hends:=ba (side:=2) (l:=l1) (w:={ w with b:=e1 })
 rw [<-hR] at hends
 have hset:=de w e1
 have hpost:=dg { w with b:=e1 } l1 ⟨hw.s.a,hsm,hw.s.bag,hw.s.past,hw.s.keys,hw.s.tags,hw.s.nums,hw.s.ansA,hw.s.ansB⟩ (by omega)
 rw [<-hR] at hpost
 clear hR hpr
 obtain⟨ra,rb,bag,past,wA,wB,rA,rB,known,nums,nsA,nsB⟩:=R
 obtain⟨keys,tags⟩:=known
 dsimp only at hends
 obtain⟨g1,g2,g3,g4,g5,g6⟩:=hends
 replace g1:=g1.symm
 replace g2:=g2.symm
 replace g3:=g3.symm
 replace g4:=g4.symm
 replace g5:=g5.symm
 replace g6:=g6.symm
 subst g1 g2 g3 g4 g5 g6
 refine gU Tryz.func16 Tryz.ntmps16 Tryz.results16 fun E hE=>?_
 refine qK (hS) [] ?_
 refine qK (hC) (qI 0 21) ?_
 refine cG [(2,8),(4,8)] [(2,4)] [(qU [0,2,3,1,2,1,4,7]),[0,1,3,2,8,4,5,6,7,9,10],[0,1,3,8,2,4,5,6,7,9,10]] 21 hE (fun s=>s.at (qU [16,8]) [(6,.sc (.pt 60 0 0)),(7,.sc (.sl 59 0 l1.length))] (s.hp++(w.b.hp true++(e1.hpS++[some ⟨l1.map LetterD.cs,19,48,true,true⟩,some ⟨[e1.cs 52],25,38,true,false⟩])))) (by kernel_rfl) (qC) (by kernel_rfl) ?_ (ac 400 ?_)
 rotate_left
 rotate_right
 simp only [bm]
 refine⟨aa 400 ?_,aa 400 ?_,aa 400 ?_⟩
 ·simp (disch:=omega) only [go_sem,seval]
  refine aQ (hEA) (qI 24 21) ?_
  refine aQ (hH) (qI 45 7) ?_
  refine⟨qC,(qI 0 61),ab (by rfl) (by rfl) ?_⟩
  try simp (disch:=omega) only [go_sem,seval]
 ·simp (disch:=omega) only [go_sem,seval]
  refine aQ (hEA) (qI 24 21) ?_
  refine aQ (hH) (qI 45 7) ?_
  refine⟨qC,(qI 0 52++qI 53 8++qI 52 1),ab (by rfl) (by rfl) ?_⟩
  try simp (disch:=omega) only [go_sem,seval]
 ·simp (disch:=omega) only [go_sem,seval]
  refine aQ (hEA) (qI 24 21) ?_
  refine aQ (hH) (qI 46 7) ?_
  refine⟨qC,(qI 0 45++qI 46 15++qI 45 1),ab (by rfl) (by rfl) ?_⟩
  try simp (disch:=omega) only [go_sem,seval]
 refine qX ?_
 refine qK (hset) (qI 24 21++qI 52 7) ?_
 refine qK (hpost) (qI 24 7++qI 52 7++qI 38 7++qI 59 1) ?_
 exact dk (qI 0 21++qI 61 21)
end
end Go.Proofs.YtjghbknhneffjaaGreat
