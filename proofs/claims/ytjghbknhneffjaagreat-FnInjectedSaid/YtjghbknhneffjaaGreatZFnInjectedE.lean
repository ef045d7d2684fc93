/-
  Texts merged for this claim by shake.py: what its proof needs.
-/
import Derived.Test.YtjghbknhneffjaaGreatZFnBaseL
import Derived.Test.YtjghbknhneffjaaGreatZFnBaseM
import Derived.Test.YtjghbknhneffjaaGreatZFnBaseN
import Derived.Test.YtjghbknhneffjaaGreatZFnInjectedA
import Derived.Test.YtjghbknhneffjaaGreatZFnInjectedB
import Derived.Test.YtjghbknhneffjaaGreatZFnInjectedC
import Derived.Test.YtjghbknhneffjaaGreatZFnInjectedD
set_option maxHeartbeats 16000000
set_option maxRecDepth 100000
set_option linter.unusedVariables false
set_option linter.unusedSimpArgs false
namespace Go.Proofs.YtjghbknhneffjaaGreat
section
open Go.RowKit
end
section
open Go.ChangeShapes Go.WideShapes Go.ChangeAt Go.RowKit
end
section
open Go.RowKit
end
section
open Go.ChangeShapes Go.WideShapes Go.ChangeAt Go.RowKit
end
section
open Go.ChangeShapes Go.WideShapes Go.ChangeAt Go.RowKit
end
section
open Go.RowKit
theorem JL:∀ p∈Er,polOk p=true:=by decide
theorem Jh {s:Int} {p:PolicyD} (hs:1<=s/\s<=2) (hp:p∈Er):i3 s (10*s+1) p=(EO s p,true):=by
 have h1:bj s 1 2=true:=by simp only [bj,Bool.and_eq_true,decide_eq_true_eq];omega
 have h2:aX (eK (10*s+1))=true:=by
  have:s=1\/s=2:=by omega
  rcases this with rfl|rfl<;>decide
 rw [yV (by rw [h1,JL p hp,h2];rfl)];rfl
theorem m3 (e:EndD) (x:LetterD) (hs:Small e) (hsp:SmallP e.inp):aP 65 [.ag (e.cs 0),.ag x.cs] (e.hp false) (.tu [.ag ((bM e x).1.cs 7),.sc (.sl 14 0 (bM e x).2.length)])
  (e.hp false++((bM e x).1.hp true++[some ⟨(bM e x).2.map LetterD.cs,19,48,true,true⟩])):=by
 have hC:=(qH (jF e))
 have hK:=(qH (ap e))
 have hL:=a1 x
 have hO:=cl e x.to (by have:=hs.own;omega)
 have hf:=ur (e:=e) (x:=x)
 have hno:=y2 (e:=e) (x:=x)
 have hr1:=y3 (e:=e) (x:=x)
 have hr2:=y4 (e:=e) (x:=x)
 have hr4:=y5 (e:=e) (x:=x)
 have hr5:=y6 (e:=e) (x:=x)
 have hr6:=y7 (e:=e) (x:=x)
 have hr7:=y8 (e:=e) (x:=x)
 have hr8:=y9 (e:=e) (x:=x)
 have hr9:=y_ (e:=e) (x:=x)
 have hr10:=vB (e:=e) (x:=x)
 have hr11:=vC (e:=e) (x:=x)
 have hr12:=vD (e:=e) (x:=x)
 have hr13:=vE (e:=e) (x:=x)
 generalize bM e x=R at*
 refine qE Tryz.func65 Tryz.ntmps65 Tryz.results65 fun E hE=>?_
 refine qK (hK) (qI 0 7) ?_
 refine qB (fun h1=>?_) fun h1=>?_
 ·refine qK (hL) [] ?_
  refine qB (fun h2=>?_) fun h2=>?_
  ·refine qK (hO) (qI 0 7) ?_
   refine qB (fun h3=>?_) fun h3=>?_
   ·rw [hf (by simp [cp,h1,h2,h3])]
    refine qX ?_
    refine qK (hC) (qI 0 7) ?_
    exact qF (qI 0 7++qI 10 7++qO 1)
   have hh:cp e x=true:=by simp [cp,h1,h2,h3]
   refine qX ?_
   refine qB (fun k1=>?_) fun k1=>?_
   ·rw [hr1 hh k1]
    refine qX ?_
    refine qK (fn e x hs) (qI 0 7) ?_
    exact qF (qI 0 7++qI 10 8)
   refine qX ?_
   refine qB (fun k2=>?_) fun k2=>?_
   ·rw [hr2 hh k2]
    refine qX ?_
    refine qK (ka e x hs) (qI 0 7) ?_
    exact qF (qI 0 7++qI 10 8)
   refine qX ?_
   refine qB (fun k4=>?_) fun k4=>?_
   ·rw [hr4 hh k4]
    refine qX ?_
    refine qK (ky e x hs) (qI 0 7) ?_
    exact qF (qI 0 7++qI 10 8)
   refine qX ?_
   refine qB (fun k5=>?_) fun k5=>?_
   ·rw [hr5 hh k5]
    refine qX ?_
    refine qK (ep e x hs) (qI 0 7) ?_
    exact qF (qI 0 7++qI 10 8)
   refine qX ?_
   refine qB (fun k6=>?_) fun k6=>?_
   ·rw [hr6 hh k6]
    refine qX ?_
    refine qK (ex e x hs) (qI 0 7) ?_
    exact qF (qI 0 7++qI 10 8)
   refine qX ?_
   refine qB (fun k7=>?_) fun k7=>?_
   ·rw [hr7 hh k7]
    refine qX ?_
    refine qK (e4 e x hs) (qI 0 7) ?_
    exact qF (qI 0 7++qI 10 8)
   refine qX ?_
   refine qB (fun k8=>?_) fun k8=>?_
   ·rw [hr8 hh k8]
    refine qX ?_
    refine qK (k3 e x hs) (qI 0 7) ?_
    exact qF (qI 0 7++qI 10 8)
   refine qX ?_
   refine qB (fun k9=>?_) fun k9=>?_
   ·rw [hr9 hh k9]
    refine qX ?_
    refine qK (lo e x hs) (qI 0 7) ?_
    exact qF (qI 0 7++qI 10 8)
   refine qX ?_
   refine qB (fun k10=>?_) fun k10=>?_
   ·rw [hr10 hh k10]
    refine qX ?_
    refine qK (lp e x hs) (qI 0 7) ?_
    exact qF (qI 0 7++qI 10 8)
   refine qX ?_
   refine qB (fun k11=>?_) fun k11=>?_
   ·rw [hr11 hh k11]
    refine qX ?_
    refine qK (l0 e x hs hsp) (qI 0 7) ?_
    exact qF (qI 0 7++qI 10 8)
   refine qX ?_
   refine qB (fun k12=>?_) fun k12=>?_
   ·rw [hr12 hh k12]
    refine qX ?_
    refine qK (i0 e x hs) (qI 0 7) ?_
    exact qF (qI 0 7++qI 10 8)
   refine qX ?_
   refine qB (fun k13=>?_) fun k13=>?_
   ·rw [hr13 hh k13]
    refine qX ?_
    refine qK (fs e x hs) (qI 0 7) ?_
    exact qF (qI 0 7++qI 10 8)
   refine qX ?_
   rw [hno (by intro k hk;omega)]
   refine qX ?_
   refine qK (hC) (qI 0 7) ?_
   exact qF (qI 0 7++qI 10 7++qO 1)
  rw [hf (by simp [cp,h2])]
  refine qX ?_
  refine qK (hC) (qI 0 7) ?_
  exact qF (qI 0 7++qI 10 7++qO 1)
 rw [hf (by simp [cp,h1])]
 refine qX ?_
 refine qK (hC) (qI 0 7) ?_
 exact qF (qI 0 7++qI 10 7++qO 1)
theorem n8 (w:WorldD) (x:LetterD) (hw:SmallWP w):aP 14 [.ag (w.cs 0),.ag x.cs] (w.hp false) (.ag ((eF w x).cs 21)) (w.hp false++(eF w x).hp true):=by
 have hC:=ge w hw.s
 have hS:=d1 x.to
 obtain⟨R,hR⟩:∃ R,R=eF w x:=⟨_,rfl⟩
 rw [<-hR]
 rcases oU x.to with h0|h0|h0
 ·rw [AU h0] at hR
  subst hR
  rw [h0] at hS
  refine gU Tryz.func14 Tryz.ntmps14 Tryz.results14 fun E hE=>?_
  refine qK (hC) (qI 0 21) ?_
  refine qK (hS) [] ?_
  exact dk (qI 0 21++qI 24 21)
 ·rw [AW h0] at hR
  rw [h0] at hS
  have hEA:aP 66 [.ag (w.cs 0),.sc (.int .i64 1)] (w.hp false) (.ag (w.a.cs 21)) (w.hp false++w.a.hp true):=BM w 1 hw.s.a.own hw.s.a.far hw.s.a.subs hw.s.a.halfs hw.s.a.list hw.s.a.done hw.s.a.over hw.s.b.own hw.s.b.far hw.s.b.subs hw.s.b.halfs hw.s.b.list hw.s.b.done hw.s.b.over
  have hH:=m3 w.a x hw.s.a hw.pa
  have hsm:=gn (e:=w.a) (x:=x) hw.s.a
  have hone:=r_ (e:=w.a) (x:=x)
  obtain⟨pr,hpr⟩:∃ p,p=bM w.a x:=⟨_,rfl⟩
  rw [<-hpr] at hH hsm hone hR
  obtain⟨e1,l1⟩:=pr
  dsimp only at hH hsm hone hR
  have hends:=ba (side:=1) (l:=l1) (w:={ w with a:=e1 })
  rw [<-hR] at hends
  have hset:=d4 w e1
  have hpost:=dd { w with a:=e1 } l1 ⟨hw.s.bag,hw.s.past,hw.s.keys,hw.s.tags,hw.s.nums,hw.s.ansA,hw.s.ansB⟩ (by omega)
  rw [<-hR] at hpost
  clear hR hpr
  obtain⟨ra,rb,bag,past,wA,wB,rA,rB,known,nums,nsA,nsB⟩:=R
  obtain⟨keys,tags⟩:=known
  dsimp only at hends
  obtain⟨g1,g2,g3,g4,g5,g6⟩:=hends
  replace g1:=g1.symm
  replace g2:=g2.symm
  replace g3:=g3.symm
  replace g4:=g4.symm
  replace g5:=g5.symm
  replace g6:=g6.symm
  subst g1 g2 g3 g4 g5 g6
  refine gU Tryz.func14 Tryz.ntmps14 Tryz.results14 fun E hE=>?_
  refine qK (hC) (qI 0 21) ?_
  refine qK (hS) [] ?_
  refine cG [(2,8),(4,8)] [(2,4)] [(qU [0,2,3,1,2,1,4,7]),[0,1,3,2,8,4,5,6,7,9,10],[0,1,3,8,2,4,5,6,7,9,10]] 21 hE (fun s=>s.at (qU [16,8]) [(7,.sc (.pt 61 0 0)),(8,.sc (.sl 60 0 l1.length))] (s.hp++(w.a.hp true++(e1.hp true++[some ⟨l1.map LetterD.cs,19,48,true,true⟩,some ⟨[e1.cs 53],25,38,true,false⟩])))) (by kernel_rfl) (qC) (by kernel_rfl) ?_ (ac 400 ?_)
  rotate_left
  rotate_right
  simp only [bm]
  refine⟨aa 400 ?_,aa 400 ?_,aa 400 ?_⟩
  ·simp (disch:=omega) only [go_sem,seval]
   refine aQ (hEA) (qI 0 21) ?_
   refine aQ (hH) (qI 46 7) ?_
   refine⟨qC,(qI 0 62),ab (by rfl) (by rfl) ?_⟩
   try simp (disch:=omega) only [go_sem,seval]
  ·simp (disch:=omega) only [go_sem,seval]
   refine aQ (hEA) (qI 0 21) ?_
   refine aQ (hH) (qI 46 7) ?_
   refine⟨qC,(qI 0 53++qI 54 8++qI 53 1),ab (by rfl) (by rfl) ?_⟩
   try simp (disch:=omega) only [go_sem,seval]
  ·simp (disch:=omega) only [go_sem,seval]
   refine aQ (hEA) (qI 0 21) ?_
   refine aQ (hH) (qI 47 7) ?_
   refine⟨qC,(qI 0 46++qI 47 15++qI 46 1),ab (by rfl) (by rfl) ?_⟩
   try simp (disch:=omega) only [go_sem,seval]
  refine qX ?_
  refine qK (hset) (qI 24 21++qI 53 7++qI 45 1) ?_
  refine qK (hpost) (qI 53 7++qI 31 15++qI 60 1) ?_
  exact dk (qI 0 21++qI 53 7++qI 31 7++qI 62 7)
 rw [AX h0] at hR
 rw [h0] at hS
 have hEA:aP 66 [.ag (w.cs 0),.sc (.int .i64 2)] (w.hp false) (.ag (w.b.cs 21)) (w.hp false++w.b.hp true):=BM w 2 hw.s.a.own hw.s.a.far hw.s.a.subs hw.s.a.halfs hw.s.a.list hw.s.a.done hw.s.a.over hw.s.b.own hw.s.b.far hw.s.b.subs hw.s.b.halfs hw.s.b.list hw.s.b.done hw.s.b.over
 have hH:=m3 w.b x hw.s.b hw.pb
 have hsm:=gn (e:=w.b) (x:=x) hw.s.b
 have hone:=r_ (e:=w.b) (x:=x)
 obtain⟨pr,hpr⟩:∃ p,p=bM w.b x:=⟨_,rfl⟩
 rw [<-hpr] at hH hsm hone hR
 obtain⟨e1,l1⟩:=pr
 dsimp only at hH hsm hone hR
 have hends:=ba (side:=2) (l:=l1) (w:={ w with b:=e1 })
 rw [<-hR] at hends
 have hset:=e5 w e1
 have hpost:=ea { w with b:=e1 } l1 ⟨hw.s.bag,hw.s.past,hw.s.keys,hw.s.tags,hw.s.nums,hw.s.ansA,hw.s.ansB⟩ (by omega)
 rw [<-hR] at hpost
 clear hR hpr
 obtain⟨ra,rb,bag,past,wA,wB,rA,rB,known,nums,nsA,nsB⟩:=R
 obtain⟨keys,tags⟩:=known
 dsimp only at hends
 obtain⟨g1,g2,g3,g4,g5,g6⟩:=hends
 replace g1:=g1.symm
 replace g2:=g2.symm
 replace g3:=g3.symm
 replace g4:=g4.symm
 replace g5:=g5.symm
 replace g6:=g6.symm
 subst g1 g2 g3 g4 g5 g6
 refine gU Tryz.func14 Tryz.ntmps14 Tryz.results14 fun E hE=>?_
 refine qK (hC) (qI 0 21) ?_
 refine qK (hS) [] ?_
 refine cG [(2,8),(4,8)] [(2,4)] [(qU [0,2,3,1,2,1,4,7]),[0,1,3,2,8,4,5,6,7,9,10],[0,1,3,8,2,4,5,6,7,9,10]] 21 hE (fun s=>s.at (qU [16,8]) [(7,.sc (.pt 61 0 0)),(8,.sc (.sl 60 0 l1.length))] (s.hp++(w.b.hp true++(e1.hp true++[some ⟨l1.map LetterD.cs,19,48,true,true⟩,some ⟨[e1.cs 53],25,38,true,false⟩])))) (by kernel_rfl) (qC) (by kernel_rfl) ?_ (ac 400 ?_)
 rotate_left
 rotate_right
 simp only [bm]
 refine⟨aa 400 ?_,aa 400 ?_,aa 400 ?_⟩
 ·simp (disch:=omega) only [go_sem,seval]
  refine aQ (hEA) (qI 0 21) ?_
  refine aQ (hH) (qI 46 7) ?_
  refine⟨qC,(qI 0 62),ab (by rfl) (by rfl) ?_⟩
  try simp (disch:=omega) only [go_sem,seval]
 ·simp (disch:=omega) only [go_sem,seval]
  refine aQ (hEA) (qI 0 21) ?_
  refine aQ (hH) (qI 46 7) ?_
  refine⟨qC,(qI 0 53++qI 54 8++qI 53 1),ab (by rfl) (by rfl) ?_⟩
  try simp (disch:=omega) only [go_sem,seval]
 ·simp (disch:=omega) only [go_sem,seval]
  refine aQ (hEA) (qI 0 21) ?_
  refine aQ (hH) (qI 47 7) ?_
  refine⟨qC,(qI 0 46++qI 47 15++qI 46 1),ab (by rfl) (by rfl) ?_⟩
  try simp (disch:=omega) only [go_sem,seval]
 refine qX ?_
 refine qK (hset) (qI 24 21++qI 53 7++qI 45 1) ?_
 refine qK (hpost) (qI 24 7++qI 53 7++qI 38 8++qI 60 1) ?_
 exact dk (qI 0 21++qI 24 7++qI 53 7++qI 62 7)
structure Fine0 (w:WorldD):Prop where
 g:GoodW w 0
 f:FewW w
 bag:w.bag=[]
 past:w.past=[]
 tags:w.known.tags=[]
 st:Start w
 s2:Start2 w
theorem I1 (p:PolicyD) (hp:p∈Er):∃ w:WorldD,Fine0 w/\aP 87 [.ag p.cs] [] (.tu [.ag (w.cs 0),.sc (.bo true)]) (w.hp true):=by
 have h1:=Bh 1 11 p
 have h2:=Bh 2 21 p
 have i1:=Jh (s:=1) (by omega) hp
 have i2:=Jh (s:=2) (by omega) hp
 rw [show (10*1+1:Int)=11 from rfl] at i1
 rw [show (10*2+1:Int)=21 from rfl] at i2
 rw [i1] at h1
 rw [i2] at h2
 have hm:=List.all_eq_true.1 Jt p hp
 simp only [Bool.and_eq_true] at hm
 obtain⟨⟨⟨m1,m2⟩,m3⟩,m4⟩:=hm
 have hM:=Ci (EO 1 p) (EO 2 p) (t8 m1) (t8 m2)
 have hst:=List.all_eq_true.1 Ju p hp
 have hs2:=List.all_eq_true.1 Ji p hp
 obtain⟨g1,f1⟩:=Bm m3
 obtain⟨g2,f2⟩:=Bm m4
 clear i1 i2 m1 m2 m3 m4
 generalize EO 1 p=a at*
 generalize EO 2 p=c at*
 obtain⟨M,hMM⟩:∃ M,M=pX a c:=⟨_,rfl⟩
 rw [<-hMM] at hM g1 f1 g2 f2 hst hs2
 clear hMM
 obtain⟨X,Y,ok⟩:=M
 dsimp only at hM g1 f1 g2 f2 hst hs2
 simp only [Bool.and_eq_true,decide_eq_true_eq] at hs2
 obtain⟨⟨e1,e2⟩,e3⟩:=hs2
 refine⟨EM X Y,⟨⟨g1,g2,⟨by simp [EM],by simp [EM],by simp [EM],by simp [EM],by simp [EM],by simp [EM],by simp [EM]⟩,by simp [EM],by simp [EM],by simp [EM],by simp [EM]⟩,⟨f1,f2⟩,rfl,rfl,rfl,⟨hst,rfl,rfl,rfl,rfl,rfl,rfl,rfl,rfl,rfl,rfl,rfl⟩,⟨by show X.policy∈Er;rw [e1];exact hp,e2,e3⟩⟩,?_⟩
 refine qE Tryz.func87 Tryz.ntmps87 Tryz.results87 fun E hE=>?_
 refine qK (h1) [] ?_
 refine qK (h2) [] ?_
 refine qK (hM) (qI 2 7++qI 10 7) ?_
 refine qP (qI 20 14++qO 2++qI 18 1++qO 4) ?_
 first|exact⟨⟩|simp [EM,aM]
theorem IG {b:List UInt8} {α:Type} [Inhabited α] {C:CurD->α->CurD->Prop} (h:∀ c,c.ok b->∃ x c',C c x c'):∃ F:CurD->α×CurD,∀ c,c.ok b->C c (F c).1 (F c).2:=by
 classical
 refine⟨fun c=>if hc:c.ok b then ((h c hc).choose,(h c hc).choose_spec.choose) else (default,c),fun c hc=>?_⟩
 simp only [dif_pos hc]
 exact (h c hc).choose_spec.choose_spec
def r8 (F:CurD->ActD×CurD):Nat->CurD->List ActD×CurD
 |0,c=>([],c)
 |n+1,c=>((F c).1::(r8 F n (F c).2).1,(r8 F n (F c).2).2)
theorem Gq {b:List UInt8} {F:CurD->ActD×CurD} (hF:∀ c,c.ok b->(F c).2.ok b/\EQ (F c).1):∀ (n:Nat) (c:CurD),c.ok b->(r8 F n c).2.ok b/\(r8 F n c).1.length=n/\∀ a∈(r8 F n c).1,EQ a
 |0,c,h=>⟨h,rfl,fun a ha=>by simp [r8] at ha⟩
 |n+1,c,h=>by
  obtain⟨h1,h2⟩:=hF c h
  obtain⟨h3,h4,h5⟩:=Gq hF n (F c).2 h1
  refine⟨h3,by simp only [r8,List.length_cons,h4],fun a ha=>?_⟩
  simp only [r8,List.mem_cons] at ha
  rcases ha with rfl|ha
  ·exact h2
  exact h5 a ha
theorem F7 (b:List UInt8) (c:CurD) (hc:c.ok b) (m:Int) (hm:1<=m/\m<=120):∃ (l:List ActD) (c':CurD),c'.ok b/\l.length<=120/\(∀ a∈l,EQ a)/\aP 84 [.sc (.pt 1 0 0),.sc (.int .i64 m)] (c.hp b) (.sc (.sl 2 0 l.length)) (c'.hp b++[some ⟨l.map ActD.cs,28,113,true,true⟩]):=by
 obtain⟨F,hF⟩:=IG (b:=b) (Bi b)
 have h1:=ai b c hc m
 have o1:=CurD.below_ok hc m
 have b1:=c.below_lt b (n:=m) (by omega)
 generalize c.below b m=r1 at h1 o1 b1
 obtain⟨v,c1⟩:=r1
 dsimp only at h1 o1 b1
 obtain⟨n,rfl⟩:=Int.eq_ofNat_of_zero_le b1.1
 obtain⟨q1,q2,q3⟩:=Gq (F:=F) (fun c h=>⟨(hF c h).1,(hF c h).2.1⟩) n c1 o1
 obtain⟨R,hR⟩:∃ R,R=r8 F n c1:=⟨_,rfl⟩
 rw [<-hR] at q1 q2 q3
 refine⟨R.1,R.2,q1,by omega,q3,?_⟩
 refine qE Tryz.func84 Tryz.ntmps84 Tryz.results84 fun E hE=>?_
 refine qK (h1) (qI 0 2) ?_
 refine jx 2 hE (fun s (y:List ActD×CurD)=>s.at (qU [1,1,8,14]) [(7,.sc (.int .i64 (y.1.length:Nat))),(5,.sc (.sl 2 0 y.1.length))] (y.2.hp b++[some ⟨y.1.map ActD.cs,28,113,true,true⟩])) (fun (y:List ActD×CurD)=>y.1.length<=n/\y.2.ok b/\(y.1++(r8 F (n - y.1.length) y.2).1,(r8 F (n - y.1.length) y.2).2)=R) (fun (y:List ActD×CurD)=>n - y.1.length) ([],c1) (qI 0 3) (⟨Nat.zero_le _,o1,hR.symm⟩) fun y hy N hN=>?_
 obtain⟨acc,c2⟩:=y
 obtain⟨f1,f2,f3⟩:=hy
 dsimp only at f1 f2 f3
 obtain⟨k1,k2,k3⟩:=hF c2 f2
 refine qR ?_
 refine qB (fun h=>?_) fun h=>?_
 ·rw [show n - acc.length=(n - (acc.length+1))+1 from by omega,r8] at f3
  generalize F c2=z at k1 k2 k3 f3
  obtain⟨a,c3⟩:=z
  dsimp only at k1 k2 k3 f3
  refine qK (k3) (qI 0 2) ?_
  refine⟨qC,hN _ (acc++[a],c3) (qI 0 2++qI 4 1) (by (try dsimp only);exact⟨by simp;omega,k1,by rw [List.length_append,List.length_singleton,List.append_assoc];exact f3⟩) (by simp;omega) (bw (by rfl) (by rfl) ?_)⟩
  try simp (disch:=omega) only [go_sem,seval]
  try simp [ActD.cs]
 rw [show n - acc.length=0 from by omega] at f3
 simp only [r8,List.append_nil] at f3
 subst f3
 exact qF (qI 0 3)
theorem Pf {Q:WorldD->Nat->Prop} (hQ:∀ w k a,Q w k->a.text.length<=200->Q (iP w a).1 (k+1)) {l:List ActD} {w:WorldD} {cs:List Int} {k:Nat} (h:Q w k) (hl:∀ a∈l,EQ a):Q (gw l w cs).1 (k+l.length)/\(gw l w cs).2.length=cs.length+l.length:=
 sH (P:=EQ) (fun w k a h ha=>hQ w k a h ha.2.1) h hl
theorem O9 (p:PolicyD) (hp:p∈Er) (l:List ActD) (hl:l.length<=120) (ha:∀ a∈l,EQ a):∃ (w0:WorldD),Fine0 w0/\aP 31 [.ag p.cs,.sc (.sl 0 0 l.length)] [some ⟨l.map ActD.cs,28,113,false,true⟩]
  (.tu [.ag ((gw l w0 []).1.cs 1),.sc (.sl 22 0 (gw l w0 []).2.length)]) ([some ⟨l.map ActD.cs,28,113,false,true⟩]++((gw l w0 []).1.hp true++[some ⟨(gw l w0 []).2.map aM,1,3,true,true⟩])):=by
 obtain⟨w0,h0,hW⟩:=I1 p hp
 refine⟨w0,h0,?_⟩
 obtain⟨R,hR⟩:∃ R,R=gw l w0 []:=⟨_,rfl⟩
 rw [<-hR]
 refine gU Tryz.func31 Tryz.ntmps31 Tryz.results31 fun E hE=>?_
 refine qK (hW) [] ?_
 refine tD 1 hE (fun s (y:Nat×WorldD×List Int)=>s.at (qU [0,1,2,1,7,1,10,35]) [(9,.sc (.int .i64 (y.1:Nat))),(8,.sc (.sl 25 0 y.2.2.length))] ((s.hp.take 3)++(y.2.1.hp true++[some ⟨[WorldD.cs y.2.1 3],61,44,true,false⟩,some ⟨y.2.2.map aM,1,3,true,true⟩]))) (fun (y:Nat×WorldD×List Int)=>y.1<=l.length/\GoodW y.2.1 y.1/\y.2.2.length=y.1/\gw (l.drop y.1) y.2.1 y.2.2=R) (fun (y:Nat×WorldD×List Int)=>l.length - y.1) (0,w0,[]) (qI 0 26) (⟨Nat.zero_le _,h0.g,rfl,hR.symm⟩) fun y hy N hN=>?_
 obtain⟨k,w,cs⟩:=y
 obtain⟨f1,f2,f3,f4⟩:=hy
 dsimp only at f1 f2 f3 f4
 refine qR ?_
 refine qB (fun h=>?_) fun h=>?_
 ·rw [Bn h] at f4
  have hak:=ha l[k] (List.getElem_mem h)
  have hD:=Hd w l[k] (f2.d (by omega))
  have hG:=B5 f2 (a:=l[k]) (by have:=hak.2.1;omega)
  generalize hx:l[k]=x at*
  obtain⟨Q,hQ⟩:∃ Q,Q=iP w x:=⟨_,rfl⟩
  rw [<-hQ] at hD hG f4
  try simp (disch:=omega) only [go_sem,seval,hx]
  refine qD [0,1,2,3,4,5,6,7,8,9,10] ?_
  try simp (disch:=omega) only [go_sem,seval,hx]
  refine aQ (hD) (qI 3 21) ?_
  refine qG ?_
  refine BE hN (k+1,Q.1,cs++[Q.2]) (qI 0 3++qI 26 21++qI 24 1++qI 48 1) (by (try dsimp only);exact⟨by omega,hG,by simp [f3],f4⟩) ?_
  first|exact⟨⟩|simp [aM]
 rw [B9 (by omega)] at f4
 subst f4
 refine qX ?_
 exact dk (qI 0 1++qI 3 21++qI 25 1)
structure FineW (w:WorldD):Prop where
 g:GoodW w 120
 f:FewW w
theorem OW (b:List UInt8) (c:CurD) (hc:c.ok b):∃ (w:WorldD) (c':CurD),c'.ok b/\(FineW w/\∃ w0 l,Fine0 w0/\l.length<=120/\(∀ a∈l,EQ a)/\w=(gw l w0 []).1)/\aP 47 [.sc (.pt 1 0 0)] (c.hp b) (.ag (w.cs 2)) (c'.hp b++w.hp true):=by
 obtain⟨p,c1,o1,hp,h1⟩:=yA b c hc
 obtain⟨l,c2,o2,hl,ha,h2⟩:=F7 b c1 o1 50 (by omega)
 obtain⟨w0,f0,h3⟩:=O9 p hp l hl ha
 have hg:=Pf (Q:=fun w k=>GoodW w k/\FewW w) (fun w k a h ht=>⟨B5 h.1 (by omega),Pj h.2⟩) (l:=l) (w:=w0) (cs:=[]) (k:=0) ⟨f0.g,f0.f⟩ ha
 refine⟨(gw l w0 []).1,c2,o2,⟨⟨hg.1.1.mono (by omega),hg.1.2⟩,w0,l,f0,hl,ha,rfl⟩,?_⟩
 generalize gw l w0 []=R at*
 obtain⟨w,cs⟩:=R
 dsimp only at h3⊢
 refine qE Tryz.func47 Tryz.ntmps47 Tryz.results47 fun E hE=>?_
 refine qK (h1) (qI 0 2) ?_
 refine Pe [(0,2),(2,7),(3,7),(7,0)] [(0,3),(2,3)] [(qU [1,1,0,1,2,8]),[1,0,2,7,3,4,5,6,8,9],[1,7,0,2,3,4,5,6,8,9],[1,0,7,2,3,4,5,6,8,9],(qU [1,2,0,1,3,7]),[1,2,7,0,3,4,5,6,8,9],[1,2,0,7,3,4,5,6,8,9],[1,7,2,0,3,4,5,6,8,9]] (by kernel_rfl) (qC) (by kernel_rfl) ?_
 simp only [bm]
 refine⟨cj 400 ?_,cj 400 ?_,cj 400 ?_,cj 400 ?_,cj 400 ?_,cj 400 ?_,cj 400 ?_,cj 400 ?_⟩
 all_goals simp (disch:=omega) only [go_sem,seval]
 ·refine fK (qC) (h2) (qI 0 2) qM (by rfl) (cj 400 ?_)
  simp (disch:=omega) only [go_sem,seval]
  refine fK (qC) (h3) (qI 4 1) qM (by rfl) (cj 400 ?_)
  simp (disch:=omega) only [go_sem,seval]
  refine qG ?_
  exact qF (qI 0 2++qI 5 21)
 ·refine fK (qC) (h2) (qI 0 2) qM (by rfl) (cj 400 ?_)
  simp (disch:=omega) only [go_sem,seval]
  refine fK (qC) (h3) (qI 4 1) qM (by rfl) (cj 400 ?_)
  simp (disch:=omega) only [go_sem,seval]
  refine qG ?_
  exact qF (qI 0 2++qI 6 21)
 ·refine fK (qC) (h2) (qI 0 2) qM (by rfl) (cj 400 ?_)
  simp (disch:=omega) only [go_sem,seval]
  refine fK (qC) (h3) (qI 5 1) qM (by rfl) (cj 400 ?_)
  simp (disch:=omega) only [go_sem,seval]
  refine qG ?_
  exact qF (qI 0 2++qI 6 21)
 ·refine fK (qC) (h2) (qI 0 2) qM (by rfl) (cj 400 ?_)
  simp (disch:=omega) only [go_sem,seval]
  refine fK (qC) (h3) (qI 5 1) qM (by rfl) (cj 400 ?_)
  simp (disch:=omega) only [go_sem,seval]
  refine qG ?_
  exact qF (qI 0 2++qI 6 21)
 ·refine fK (qC) (h2) (qI 0 2) qM (by rfl) (cj 400 ?_)
  simp (disch:=omega) only [go_sem,seval]
  refine fK (qC) (h3) (qI 4 1) qM (by rfl) (cj 400 ?_)
  simp (disch:=omega) only [go_sem,seval]
  refine qG ?_
  exact qF (qI 0 2++qI 5 21)
 ·refine fK (qC) (h2) (qI 0 2) qM (by rfl) (cj 400 ?_)
  simp (disch:=omega) only [go_sem,seval]
  refine fK (qC) (h3) (qI 4 1) qM (by rfl) (cj 400 ?_)
  simp (disch:=omega) only [go_sem,seval]
  refine qG ?_
  exact qF (qI 0 2++qI 6 21)
 ·refine fK (qC) (h2) (qI 0 2) qM (by rfl) (cj 400 ?_)
  simp (disch:=omega) only [go_sem,seval]
  refine fK (qC) (h3) (qI 4 1) qM (by rfl) (cj 400 ?_)
  simp (disch:=omega) only [go_sem,seval]
  refine qG ?_
  exact qF (qI 0 2++qI 6 21)
 refine fK (qC) (h2) (qI 0 2) qM (by rfl) (cj 400 ?_)
 simp (disch:=omega) only [go_sem,seval]
 refine fK (qC) (h3) (qI 5 1) qM (by rfl) (cj 400 ?_)
 simp (disch:=omega) only [go_sem,seval]
 refine qG ?_
 exact qF (qI 0 2++qI 6 21)
theorem L3 (b:List UInt8) (hb:b.length<=1048576):∃ (w:WorldD) (x:LetterD),FineW w/\(∃ w0 l,Fine0 w0/\l.length<=120/\(∀ a∈l,EQ a)/\w=(gw l w0 []).1)/\aP 10 [.sc (.sl 0 0 b.length)] [some ⟨b.map ew,1,5,false,true⟩] (.tu [.ag (w.cs 1),.ag x.cs]) ([some ⟨b.map ew,1,5,false,true⟩]++w.hp true):=by
 obtain⟨w,c0,o0,⟨hw,hl⟩,h0⟩:=OW b (pL b) (Cf hb)
 have hS:=hw.g.s
 obtain⟨x,c1,o1,w1,h1⟩:=O4 b c0 o0
 have h2:=ai b c1 o1 6
 have o2:=CurD.below_ok o1 6
 have b2:=c1.below_lt b (n:=6) (by omega)
 generalize c1.below b 6=r2 at h2 o2 b2
 obtain⟨v2,c2⟩:=r2
 dsimp only at h2 o2 b2
 have hv:v2=0\/v2=1\/v2=2\/v2=3\/4<=v2:=by omega
 rcases hv with rfl|rfl|rfl|rfl|hv
 ·by_cases hz:w.nums.length=0
  ·refine⟨w,x,hw,hl,?_⟩
   refine qE Tryz.func10 Tryz.ntmps10 Tryz.results10 fun E hE=>?_
   refine qK (Bc b hb) (qI 0 1) ?_
   refine qK (h0) (qI 0 1++qI 3 1) ?_
   refine qK (h1) (qI 0 1++qI 3 1) ?_
   refine qK (h2) (qI 0 1++qI 3 1) ?_
   refine aO [(1,2)] [[0,1,2,3],[0,2,1,3]] (by kernel_rfl) (qC) (by kernel_rfl) ?_
   simp only [bm]
   refine⟨aa 400 ?_,aa 400 ?_⟩
   all_goals simp (disch:=omega) only [go_sem,seval]
   all_goals
    refine qG ?_
    exact qF (qI 0 1++qI 4 21)
  have hlz:=hS.nums
  have h3:=ai b c2 o2 (w.nums.length:Int)
  have o3:=CurD.below_ok o2 (w.nums.length:Int)
  have b3:=c2.below_lt b (n:=(w.nums.length:Int)) (by omega)
  generalize c2.below b (w.nums.length:Int)=r3 at h3 o3 b3
  obtain⟨v3,c3⟩:=r3
  dsimp only at h3 o3 b3
  obtain⟨n,rfl⟩:=Int.eq_ofNat_of_zero_le b3.1
  have hn:n < w.nums.length:=by omega
  obtain⟨s0,hs0⟩:∃ s,w.nums[n]=s:=⟨_,rfl⟩
  refine⟨w,{ x with sgn:=s0 },hw,hl,?_⟩
  refine qE Tryz.func10 Tryz.ntmps10 Tryz.results10 fun E hE=>?_
  refine qK (Bc b hb) (qI 0 1) ?_
  refine qK (h0) (qI 0 1++qI 3 1) ?_
  refine qK (h1) (qI 0 1++qI 3 1) ?_
  refine qK (h2) (qI 0 1++qI 3 1) ?_
  refine oF [(1,6)] [(qU [0,1,2,4,1,1,6,5]),(qU [0,1,2,5,1,1,7,4])] (by kernel_rfl) (qC) (by kernel_rfl) ?_
  simp only [bm]
  refine⟨cj 400 ?_,cj 400 ?_⟩
  all_goals simp (disch:=omega) only [go_sem,seval]
  all_goals
   refine fK (qC) (h3) (qI 0 1++qI 3 1) qM (by rfl) (cj 400 ?_)
   simp (disch:=omega) only [go_sem,seval]
   try simp (disch:=omega) only [go_sem,seval,aT hn,hs0]
   refine qG ?_
   refine aO [(1,2)] [[0,1,2,3],[0,2,1,3]] (by kernel_rfl) (qC) (by kernel_rfl) ?_
   simp only [bm]
   refine⟨aa 400 ?_,aa 400 ?_⟩
   all_goals simp (disch:=omega) only [go_sem,seval]
   all_goals
    refine qG ?_
    exact qF (qI 0 1++qI 4 21)
 ·have h3:=ai b c2 o2 9
  have o3:=CurD.below_ok o2 9
  have b3:=c2.below_lt b (n:=9) (by omega)
  generalize c2.below b 9=r3 at h3 o3 b3
  obtain⟨v3,c3⟩:=r3
  dsimp only at h3 o3 b3
  refine⟨w,{ x with sgn:=1001+v3 },hw,hl,?_⟩
  refine qE Tryz.func10 Tryz.ntmps10 Tryz.results10 fun E hE=>?_
  refine qK (Bc b hb) (qI 0 1) ?_
  refine qK (h0) (qI 0 1++qI 3 1) ?_
  refine qK (h1) (qI 0 1++qI 3 1) ?_
  refine qK (h2) (qI 0 1++qI 3 1) ?_
  refine qK (h3) (qI 0 1++qI 3 1) ?_
  refine aO [(1,2)] [[0,1,2,3],[0,2,1,3]] (by kernel_rfl) (qC) (by kernel_rfl) ?_
  simp only [bm]
  refine⟨aa 400 ?_,aa 400 ?_⟩
  all_goals simp (disch:=omega) only [go_sem,seval]
  all_goals
   refine qG ?_
   exact qF (qI 0 1++qI 4 21)
 ·refine⟨w,{ x with tag:=⟨1,5,7,1,2⟩},hw,hl,?_⟩
  refine qE Tryz.func10 Tryz.ntmps10 Tryz.results10 fun E hE=>?_
  refine qK (Bc b hb) (qI 0 1) ?_
  refine qK (h0) (qI 0 1++qI 3 1) ?_
  refine qK (h1) (qI 0 1++qI 3 1) ?_
  refine qK (h2) (qI 0 1++qI 3 1) ?_
  refine qK (dQ _ _ _ _) [] ?_
  refine aO [(1,2)] [[0,1,2,3],[0,2,1,3]] (by kernel_rfl) (qC) (by kernel_rfl) ?_
  simp only [bm]
  refine⟨aa 400 ?_,aa 400 ?_⟩
  all_goals simp (disch:=omega) only [go_sem,seval]
  all_goals
   refine qG ?_
   exact qF (qI 0 1++qI 4 21)
 ·by_cases hz:w.known.tags.length=0
  ·refine⟨w,x,hw,hl,?_⟩
   refine qE Tryz.func10 Tryz.ntmps10 Tryz.results10 fun E hE=>?_
   refine qK (Bc b hb) (qI 0 1) ?_
   refine qK (h0) (qI 0 1++qI 3 1) ?_
   refine qK (h1) (qI 0 1++qI 3 1) ?_
   refine qK (h2) (qI 0 1++qI 3 1) ?_
   refine aO [(1,2)] [[0,1,2,3],[0,2,1,3]] (by kernel_rfl) (qC) (by kernel_rfl) ?_
   simp only [bm]
   refine⟨aa 400 ?_,aa 400 ?_⟩
   all_goals simp (disch:=omega) only [go_sem,seval]
   all_goals
    refine qG ?_
    exact qF (qI 0 1++qI 4 21)
  have hlz:=hS.tags
  have h3:=ai b c2 o2 (w.known.tags.length:Int)
  have o3:=CurD.below_ok o2 (w.known.tags.length:Int)
  have b3:=c2.below_lt b (n:=(w.known.tags.length:Int)) (by omega)
  generalize c2.below b (w.known.tags.length:Int)=r3 at h3 o3 b3
  obtain⟨v3,c3⟩:=r3
  dsimp only at h3 o3 b3
  obtain⟨n,rfl⟩:=Int.eq_ofNat_of_zero_le b3.1
  have hn:n < w.known.tags.length:=by omega
  obtain⟨s0,hs0⟩:∃ s,w.known.tags[n]=s:=⟨_,rfl⟩
  refine⟨w,{ x with tag:=s0 },hw,hl,?_⟩
  refine qE Tryz.func10 Tryz.ntmps10 Tryz.results10 fun E hE=>?_
  refine qK (Bc b hb) (qI 0 1) ?_
  refine qK (h0) (qI 0 1++qI 3 1) ?_
  refine qK (h1) (qI 0 1++qI 3 1) ?_
  refine qK (h2) (qI 0 1++qI 3 1) ?_
  refine oF [(2,8)] [(qU [0,2,3,5,2,1,8,5]),(qU [0,2,3,6,2,1,9,4])] (by kernel_rfl) (qC) (by kernel_rfl) ?_
  simp only [bm]
  refine⟨cj 400 ?_,cj 400 ?_⟩
  all_goals simp (disch:=omega) only [go_sem,seval]
  all_goals
   refine fK (qC) (h3) (qI 0 1++qI 3 1) qM (by rfl) (cj 400 ?_)
   simp (disch:=omega) only [go_sem,seval]
   try simp (disch:=omega) only [go_sem,seval,aT hn,hs0]
   refine qG ?_
   refine aO [(1,2)] [[0,1,2,3],[0,2,1,3]] (by kernel_rfl) (qC) (by kernel_rfl) ?_
   simp only [bm]
   refine⟨aa 400 ?_,aa 400 ?_⟩
   all_goals simp (disch:=omega) only [go_sem,seval]
   all_goals
    refine qG ?_
    exact qF (qI 0 1++qI 4 21)
 refine⟨w,x,hw,hl,?_⟩
 refine qE Tryz.func10 Tryz.ntmps10 Tryz.results10 fun E hE=>?_
 refine qK (Bc b hb) (qI 0 1) ?_
 refine qK (h0) (qI 0 1++qI 3 1) ?_
 refine qK (h1) (qI 0 1++qI 3 1) ?_
 refine qK (h2) (qI 0 1++qI 3 1) ?_
 refine aO [(1,2)] [[0,1,2,3],[0,2,1,3]] (by kernel_rfl) (qC) (by kernel_rfl) ?_
 simp only [bm]
 refine⟨aa 400 ?_,aa 400 ?_⟩
 all_goals simp (disch:=omega) only [go_sem,seval]
 all_goals
  refine qG ?_
  exact qF (qI 0 1++qI 4 21)
theorem Hf {a:ActD} (h:cO a=true):0<=a.pos:=by
 simp only [cO,gA,bj,Bool.and_eq_true,decide_eq_true_eq] at h
 omega
def p3 (w:WorldD) (e:EndD):WorldD:={ w with a:=e }
structure Step (w w':WorldD) (l:List LetterD):Prop where
 c:Core w'
 le:Le w w'
 post:∀ x∈l,Post w' x
theorem PutA.step {w w':WorldD} {l:List LetterD} (P:PutA w w') (C:Core w) (h:Core w'->∀ x∈l,Post w' x):Step w w' l:=⟨P.core C,P.le,h (P.core C)⟩
theorem PutB.step {w w':WorldD} {l:List LetterD} (P:PutB w w') (C:Core w) (h:Core w'->∀ x∈l,Post w' x):Step w w' l:=⟨P.core C,P.le,h (P.core C)⟩
theorem em {w:WorldD}:∀ x∈([]:List LetterD),Post w x:=fun x hx=>by simp at hx
theorem en {w:WorldD} {y:LetterD} (h:Post w y):∀ x∈[y],Post w x:=fun x hx=>by rw [List.mem_singleton.1 hx];exact h
def E6 (k:Int):Prop:=k=1\/k=2\/k=3\/k=9\/k=10\/k=12\/k=13
theorem u4 {w:WorldD} {x:LetterD} (hk:E6 x.kind) (hs:¬ sideAt x.to=0):Post w x:=by
 simp only [E6] at hk
 refine⟨.inr ?_,fun h=>absurd h hs⟩
 constructor<;>(intro _ h;omega)
theorem G3 {w:WorldD} (C:Core w) {s:SubD} (hs:s∈w.a.subs):¬ Loose w.nums s.take:=fun h=>by
 have S:=C.sa s hs
 rcases h with h|h
 ·have:=S.t4;omega
 exact S.tn h
theorem G4 {w:WorldD} (C:Core w) {s:SubD} (hs:s∈w.a.subs) (h0:1000<=s.mine):¬ Loose w.nums s.mine:=fun h=>by
 have S:=C.sa s hs
 rcases h with h|h
 ·omega
 rcases S.mine with g|⟨_,g⟩
 ·omega
 exact g h
theorem H2 {w:WorldD} (C:Core w) {t:SubD} (ht:t∈w.b.subs):¬ Loose w.nums t.take:=fun h=>by
 have S:=C.sb t ht
 rcases h with h|h
 ·have:=S.t4;omega
 exact S.tn h
theorem Hm {w:WorldD} (C:Core w) {t:SubD} (ht:t∈w.b.subs):sideAt t.road.far=1/\sideAt t.road.own=2:=by
 obtain⟨s,h1,_,h3,_,_⟩:=(C.sb t ht).like
 have S:=C.sa s h1
 have g1:=S.own
 have g2:=S.far
 rw [h3] at g1 g2
 exact⟨g1,g2⟩
theorem In {w:WorldD} {x:LetterD} (C:Core w) (G:SmallP w.a.inp) (L:LetI w x) (hx:sideAt x.to=1):Step w (p3 w (bM w.a x).1) (bM w.a x).2:=by
 have ok:=GY (x:=x) C.oka C.sta
 have M0:=MildA.refl C
 have keep:Step w (p3 w w.a) []:=(M0.put C).step C fun _=>em
 have hk:=bM (e:=w.a) (x:=x)
 by_cases hc:cp w.a x=true
 case neg=>rw [ur (by simpa using hc)];exact keep
 by_cases k1:x.kind=1
 ·rw [y3 hc k1,ax,if_neg]
  ·exact keep
  simp only [f8,Bool.and_eq_true,decide_eq_true_eq];have:=C.sta;omega
 by_cases k2:x.kind=2
 ·rw [y4 hc k2,aS,if_neg]
  ·exact keep
  simp only [i2,Bool.and_eq_true,decide_eq_true_eq];have:=C.sta;omega
 by_cases k4:x.kind=4
 ·rw [y5 hc k4] at ok⊢
  have hL:=L.a4 hx k4
  -- what is answered for a half open road of ours
  have ans:∀ (w':WorldD) (h:HalfD),Core w'->h∈w'.a.halfs->w'.a.key=w.a.key->w'.b.key=w.b.key->w'.b.draw=w.b.draw->Post w' (kT w.a (roadOf x) h):=by
   intro w' h C' hh e1 e2 e3
   have H:=C'.ha h hh
   have hm:=H.m4
   refine⟨.inr ?_,fun h0=>⟨rfl,H.th,rfl,fun s hs=>?_,fun t ht=>?_,fun k hk hq=>?_,⟨by simp only [kT,aq];omega,by simp only [kT,aq];omega⟩,fun n hn=>?_⟩⟩
   ·constructor<;>(intro q1 q2;simp only [kT,aq,ah] at q2;try omega)
    intro m hm'
    simp only [kT,aq] at hm'
    have:=congrArg TagD.one hm'
    dsimp only at this
    exact absurd (this.symm.trans e1.symm) (fun hc=>C'.kk (by rw [<-hc]))
   ·have S:=C'.sa s hs
    have h1:=H.sep s hs
    have t4:=S.t4
    simp only [kT,aq]
    refine⟨by rw [hm.2.2.2] at h1⊢;exact h1,by omega,?_⟩
    rcases S.mine with g|⟨g,_⟩
    ·exact .inl g
    exact .inr ⟨by omega,by omega⟩
   ·have t4:=(C'.sb t ht).t4
    simp only [kT,aq]
    omega
   ·have m4:=(C'.hb k hk).m4
    simp only [kT,aq] at hq
    omega
   simp only [kT,aq] at hn
   constructor<;>intro _<;>omega
  unfold br at ok⊢
  split at ok
  case isFalse hk=>rw [if_neg hk];exact keep
  rename_i hk
  rw [if_pos hk]
  split at ok
  ·rename_i hs
   rw [if_pos hs]
   simp only [fg,Bool.and_eq_true,decide_eq_true_eq] at hs
   obtain⟨n,e1,hn,_⟩:=Fr hs.1.1
   have M:MildA w (p3 w { w.a with bucket:=(bI w.a.bucket).1,halfs:=w.a.halfs.set (a_ w.a.halfs (roadOf x)).toNat { wP w.a x with till:=w.a.now+6 } }):=by
    refine⟨rfl,rfl,rfl,rfl,rfl,⟨[],by simp [p3]⟩,ok,⟨rfl,rfl,rfl,rfl⟩,SubsKeep.refl _,fun h hh=>?_,C.oa,C.fa,fun _ _ h=>h,C.oia,C.iia⟩
    rcases List.mem_or_eq_of_mem_set hh with hh|hh
    ·exact⟨h,hh,HalfKeep.refl h⟩
    rw [hh,wP,e1,Int.toNat_natCast,g0 hn]
    exact⟨_,List.getElem_mem hn,rfl,rfl,rfl,rfl,rfl⟩
   refine (M.put C).step C fun C'=>en ?_
   have hj:wP w.a x=w.a.halfs[n]:=by rw [wP,e1,Int.toNat_natCast,g0 hn]
   have:=ans _ { wP w.a x with till:=w.a.now+6 } C' (by
    dsimp only [p3]
    rw [e1,Int.toNat_natCast]
    exact List.mem_set hn _) rfl rfl rfl
   exact this
  rename_i hs
  rw [if_neg hs]
  simp only [rF,Bool.and_eq_true,decide_eq_true_eq,vP] at hk
  have hd:=hk.1.1.2
  have da:=C.da
  have hput:∀ h∈(bJ w.a.halfs (aK w.a x)).1,h=aK w.a x\/h∈w.a.halfs:=by
   intro h hh
   rw [bJ] at hh;split at hh
   ·dsimp only at hh
    rw [cx] at hh;split at hh
    ·rcases List.mem_or_eq_of_mem_set hh with hh|hh
     ·exact .inr hh
     exact .inl hh
    rcases List.mem_append.1 hh with hh|hh
    ·exact .inr hh
    exact .inl (List.mem_singleton.1 hh)
   exact .inr hh
  have P:PutA w (p3 w { w.a with bucket:=(bI w.a.bucket).1,draw:=w.a.draw+4,halfs:=(bJ w.a.halfs (aK w.a x)).1 }):=by
   refine⟨rfl,rfl,rfl,rfl,rfl,⟨[],by simp [p3]⟩,ok.1,ok.2,C.sia,rfl,rfl,⟨by dsimp only [p3];omega,by dsimp only [p3];omega⟩,fun s hs=>⟨s,hs,SubTo.refl s⟩,fun s hs=>?_,C.sad,fun h hh=>?_,C.oa,C.fa,fun _ _ h=>h,C.oia,C.iia⟩
   ·have S:=C.sa s hs
    exact⟨by have:=S.t4;dsimp only [p3];omega,S.tn,S.mine,S.own,S.far,S.th,S.on,S.ask⟩
   rcases hput h hh with rfl|hh
   ·refine⟨⟨by simp only [aK];omega,by simp only [aK];omega,by simp only [aK,p3];omega,by simp only [aK]⟩,fun s hs=>?_,hL⟩
    have:=(C.sa s hs).t4
    simp only [aK]
    omega
   have S:=C.ha h hh
   exact⟨by have:=S.m4;dsimp only [p3];omega,S.sep,S.th⟩
  refine P.step C fun C'=>en ?_
  by_cases hin:aK w.a x∈(bJ w.a.halfs (aK w.a x)).1
  ·exact ans _ _ C' hin rfl rfl rfl
  -- a half open road that was not laid: its numbers are drawn all the same
  refine⟨.inr ?_,fun h0=>⟨rfl,hL,rfl,fun s hs=>?_,fun t ht=>?_,fun k hk hq=>?_,⟨by simp only [kT,aq,aK];omega,by simp only [kT,aq,aK];omega⟩,fun n hn=>?_⟩⟩
  ·constructor<;>(intro q1 q2;simp only [kT,aq,ah] at q2;try omega)
   intro m hm'
   simp only [kT,aq] at hm'
   have:=congrArg TagD.one hm'
   dsimp only [p3] at this
   exact absurd this C.kk
  ·have S:=C.sa s hs
   have t4:=S.t4
   simp only [kT,aq,aK]
   refine⟨by omega,by omega,?_⟩
   rcases S.mine with g|⟨g,_⟩
   ·exact .inl g
   exact .inr ⟨by omega,by omega⟩
  ·have t4:=(C.sb t ht).t4
   simp only [kT,aq,aK]
   omega
  ·have m4:=(C.hb k hk).m4
   simp only [kT,aq,aK] at hq
   omega
  simp only [kT,aq,aK] at hn
  dsimp only [p3]
  constructor<;>intro _<;>omega
 by_cases k5:x.kind=5
 ·rw [y6 hc k5] at ok⊢
  unfold ay at ok⊢
  split at ok
  case isFalse hk=>rw [if_neg hk];exact keep
  rename_i hk
  rw [if_pos hk]
  simp only [tO,Bool.and_eq_true,decide_eq_true_eq] at hk
  obtain⟨⟨⟨⟨⟨q1,q2⟩,q3⟩,q4⟩,q5⟩,q6⟩:=hk
  obtain⟨n,e1,hn,_,hrd,_⟩:=ws q4
  rw [e1,Int.toNat_natCast,ke hn] at q5 q6 ok⊢
  rw [C.pa] at q6
  have hs:=List.getElem_mem hn
  obtain⟨s,es⟩:∃ s,w.a.subs[n]=s:=⟨_,rfl⟩
  rw [es] at q5 q6 hs hrd ok⊢
  have S:=C.sa s hs
  have h1000:=S.ask (.inl q5)
  have hf:x.nonce < w.b.draw/\∀ h∈w.b.halfs,h.mine=x.nonce->h.theirs=s.mine/\h.take=x.give/\h.road=bk (roadOf x):=by
   rcases L.a5 hx k5 s.mine q6 with g|g
   ·exact absurd g (G4 C hs h1000)
   exact g
  have hat:∀ (i:Nat) (h1:i < (w.a.subs.set n (mD s x)).length) (h2:i < w.a.subs.length),SubTo w.a.subs[i] (w.a.subs.set n (mD s x))[i]/\((w.a.subs.set n (mD s x))[i]=mD s x\/(w.a.subs.set n (mD s x))[i]=w.a.subs[i]):=by
   intro i h1 h2
   rw [List.getElem_set]
   split
   ·rename_i e;subst e
    rw [es]
    exact⟨⟨rfl,rfl,rfl,fun h=>absurd q5 h⟩,.inl rfl⟩
   exact⟨SubTo.refl _,.inr rfl⟩
  have hmem:mD s x∈w.a.subs.set n (mD s x):=List.mem_set hn _
  have P:PutA w (p3 w { w.a with subs:=w.a.subs.set n (mD s x) }):=by
   refine⟨rfl,rfl,rfl,rfl,rfl,⟨[],by simp [p3]⟩,ok.1,ok.2,C.sia,rfl,rfl,⟨C.da.1,Int.le_refl _⟩,fun r hr=>?_,fun r hr=>?_,?_,fun h hh=>?_,C.oa,C.fa,fun _ _ h=>h,C.oia,C.iia⟩
   ·obtain⟨i,hi,rfl⟩:=List.getElem_of_mem hr
    exact⟨_,List.getElem_mem (by simpa [p3] using hi),(hat i (by simpa using hi) hi).1⟩
   ·rcases List.mem_or_eq_of_mem_set hr with hr|hr
    ·exact C.sa r hr
    rw [hr]
    refine⟨S.t4,S.tn,S.mine,S.own,S.far,⟨hf.1,fun h hh hm=>?_⟩,fun h3=>by simp [mD] at h3,fun _=>h1000⟩
    obtain⟨g1,g2,g3⟩:=hf.2 h hh hm
    rw [<-hrd] at g3
    exact⟨g1,g2,g3⟩
   ·have p:=C.sad
    rw [List.pairwise_iff_getElem] at p⊢
    intro i j hi hj hij
    dsimp only [p3] at hi hj⊢
    have hi':i < w.a.subs.length:=by simpa using hi
    have hj':j < w.a.subs.length:=by simpa using hj
    rw [(hat i hi hi').1.take,(hat j hj hj').1.take]
    exact p i j hi' hj' hij
   have H:=C.ha h hh
   refine⟨H.m4,fun r hr=>?_,H.th⟩
   rcases List.mem_or_eq_of_mem_set hr with hr|hr
   ·exact H.sep r hr
   rw [hr];exact H.sep s hs
  refine P.step C fun C'=>en ⟨.inr ?_,fun h0=>?_⟩
  ·constructor<;>(intro p1 p2;simp only [cb,aq,ah] at p2;try omega)
   ·intro m n hm
    have:sideAt s.road.far=1:=p1
    have:=S.far
    omega
   intro m n hm
   simp only [cb,aq,p3] at hm
   injection hm with _ _ _ hm hn'
   exact⟨mD s x,hmem,by simp [mD],h1000,hm.symm,hn'.symm,rfl⟩
  have:sideAt s.road.far=0:=h0
  have:=S.far
  omega
 by_cases k6:x.kind=6
 ·rw [y7 hc k6]
  have hno:=L.a6 hx k6
  have hA:rE w.a x=false:=by
   cases hj:rE w.a x with
   |false=>rfl
   |true=>
    simp only [rE,Bool.and_eq_true,decide_eq_true_eq] at hj
    rw [C.pa] at hj
    exact absurd hj.2 (hno _ _)
  have hB:BN w.a x=false:=by
   cases hj:BN w.a x with
   |false=>rfl
   |true=>
    simp only [BN,Bool.and_eq_true,decide_eq_true_eq] at hj
    rw [C.pa] at hj
    exact absurd hj.2 (hno _ _)
  by_cases hI:mE w.a x=true
  ·rw [Dp hI hA hB];exact keep
  rw [Ev (by simpa using hI)];exact keep
 by_cases k7:x.kind=7
 ·rw [y8 hc k7] at ok⊢
  unfold aE at ok⊢
  dsimp only at ok⊢
  split at ok
  case isFalse hk=>rw [if_neg hk];exact keep
  rename_i hk
  rw [if_pos hk]
  simp only [mu,Bool.and_eq_true,decide_eq_true_eq] at hk
  obtain⟨⟨⟨⟨q1,q2⟩,q3⟩,q4⟩,q5⟩:=hk
  obtain⟨n,e1,hn,_,hr,_⟩:=ws q3
  rw [e1,Int.toNat_natCast] at q4 q5 ok⊢
  rw [ke hn] at q4 q5
  rw [gW hn] at ok⊢
  obtain⟨s,es⟩:∃ s,w.a.subs[n]=s:=⟨_,rfl⟩
  have hs:=List.getElem_mem hn
  rw [es] at q4 q5 hs hr ok⊢
  have S:=C.sa s hs
  have hon:∃ t∈w.b.subs,t.road=bk s.road/\t.take=s.give/\t.give=s.take:=by
   rcases L.a7 hx k7 with g|⟨t,g1,g2⟩
   ·rw [<-q5] at g;exact absurd g (G3 C hs)
   obtain⟨r,r1,r2,r3,r4,r5⟩:=(C.sb t g1).like
   have:r=s:=Gv C.sad r1 hs (by rw [r4,g2,q5])
   subst this
   exact⟨t,g1,by rw [r3];rfl,r5.symm,r4.symm⟩
  have hat:∀ (i:Nat) (h1:i < (w.a.subs.set n { s with state:=3 }).length) (h2:i < w.a.subs.length),SubTo w.a.subs[i] (w.a.subs.set n { s with state:=3 })[i]:=by
   intro i h1 h2
   rw [List.getElem_set]
   split
   ·rename_i e;subst e
    rw [es]
    exact⟨rfl,rfl,rfl,fun h=>⟨by simp,rfl,rfl⟩⟩
   exact SubTo.refl _
  refine PutA.step ⟨rfl,rfl,rfl,rfl,rfl,⟨[],by simp [p3]⟩,ok.1,ok.2,C.sia,rfl,rfl,⟨C.da.1,Int.le_refl _⟩,fun r hr=>?_,fun r hr=>?_,?_,fun h hh=>?_,C.oa,C.fa,fun _ _ h=>h,C.oia,C.iia⟩ C fun _=>em
  ·obtain⟨i,hi,rfl⟩:=List.getElem_of_mem hr
   exact⟨_,List.getElem_mem (by simpa [p3] using hi),hat i (by simpa using hi) hi⟩
  ·rcases List.mem_or_eq_of_mem_set hr with hr|hr
   ·exact C.sa r hr
   rw [hr]
   exact⟨S.t4,S.tn,S.mine,S.own,S.far,S.th,fun _=>hon,fun h=>by simp at h⟩
  ·have p:=C.sad
   rw [List.pairwise_iff_getElem] at p⊢
   intro i j hi hj hij
   dsimp only [p3] at hi hj⊢
   have hi':i < w.a.subs.length:=by simpa using hi
   have hj':j < w.a.subs.length:=by simpa using hj
   rw [(hat i hi hi').take,(hat j hj hj').take]
   exact p i j hi' hj' hij
  have H:=C.ha h hh
  refine⟨H.m4,fun r hr=>?_,H.th⟩
  rcases List.mem_or_eq_of_mem_set hr with hr|hr
  ·exact H.sep r hr
  rw [hr];exact H.sep s hs
 by_cases k8:x.kind=8
 ·rw [y9 hc k8] at ok⊢
  unfold bC at ok⊢
  split at ok
  case isFalse hk=>rw [if_neg hk];exact keep
  rename_i hk
  rw [if_pos hk]
  simp only [lH,Bool.and_eq_true,decide_eq_true_eq] at hk
  obtain⟨⟨⟨⟨q1,q2⟩,_⟩,_⟩,_⟩:=hk
  rw [C.pa] at q2
  obtain⟨t1,t2⟩:=L.a8 hx k8 _ _ q2
  obtain⟨n,e1,_,hn,_,_,hr,_⟩:=Hh q1
  refine PutA.step (MildA.put ⟨rfl,rfl,rfl,rfl,rfl,⟨[],by simp [p3]⟩,ok,⟨rfl,rfl,rfl,rfl⟩,SubsKeep.refl _,fun h hh=>⟨h,hh,HalfKeep.refl h⟩,C.oa,fun f hf=>?_,fun _ _ h=>h,C.oia,C.iia⟩ C) C fun C'=>en (u4 (by simp [E6,rO,aq]) ?_)
  ·rcases sN hf with rfl|hf
   ·exact⟨t1,t2⟩
   exact C.fa f hf
  show ¬ sideAt (roadOf x).far=0
  rw [<-hr]
  have:=(C.sa _ (List.getElem_mem hn)).far
  omega
 by_cases k9:x.kind=9
 ·rw [y_ hc k9] at ok⊢
  unfold bD at ok⊢
  dsimp only at ok⊢
  split at ok
  case isFalse hk=>rw [if_neg hk];exact keep
  rename_i hk
  rw [if_pos hk]
  simp only [hZ,Bool.and_eq_true,decide_eq_true_eq] at hk
  obtain⟨n,e1,hn,_⟩:=EW hk.1.2
  rw [e1,Int.toNat_natCast,hV hn] at ok⊢
  refine PutA.step (MildA.put ⟨rfl,rfl,rfl,rfl,rfl,⟨[],by simp [p3]⟩,ok,⟨rfl,rfl,rfl,rfl⟩,SubsKeep.refl _,fun h hh=>⟨h,hh,HalfKeep.refl h⟩,fun q hq=>?_,C.fa,fun i d h=>?_,C.oia,C.iia⟩ C) C fun _=>em
  ·rcases List.mem_or_eq_of_mem_set hq with hq|hq
   ·exact C.oa q hq
   rw [hq];exact (show sideAt w.a.own[n].addr=1 from C.oa _ (List.getElem_mem hn))
  rcases h with⟨q,h1,h2,h3⟩|h
  ·obtain⟨j,hj,rfl⟩:=List.getElem_of_mem h1
   by_cases hjn:n=j
   ·subst hjn
    exact .inl ⟨_,List.mem_set hn _,h2,h3⟩
   refine .inl ⟨w.a.own[j],?_,h2,h3⟩
   dsimp only [p3]
   rw [List.mem_iff_getElem]
   exact⟨j,by simpa using hj,by rw [List.getElem_set_ne hjn]⟩
  exact .inr h
 by_cases k10:x.kind=10
 ·rw [vB hc k10] at ok⊢
  unfold bE at ok⊢
  dsimp only at ok⊢
  split at ok
  case isFalse hk=>rw [if_neg hk];exact keep
  rename_i hk
  rw [if_pos hk]
  refine PutA.step (MildA.put ⟨rfl,rfl,rfl,rfl,rfl,⟨[],by simp [p3]⟩,ok,⟨rfl,rfl,rfl,rfl⟩,SubsKeep.map fun s hs=>?_,fun h hh=>⟨h,hh,HalfKeep.refl h⟩,C.oa,fun f hf=>C.fa f (qs hf),fun _ _ h=>h,C.oia,C.iia⟩ C) C fun _=>em
  rw [jP];split
  ·exact⟨rfl,rfl,rfl,rfl,rfl,.inr rfl⟩
  exact SubKeep.refl s
 by_cases k11:x.kind=11
 ·rw [vC hc k11] at ok⊢
  unfold bF at ok⊢
  split at ok
  case isFalse hk=>rw [if_neg hk];exact keep
  rename_i hk
  rw [if_pos hk]
  simp only [qb,Bool.and_eq_true,decide_eq_true_eq] at hk
  obtain⟨n,e1,_,hn,_,ht,hr,_⟩:=Hh hk.1
  have hsl:Slice w.wroteB x.pos x.text:=by
   rcases L.a11 hx k11 with g|g
   ·rw [<-ht] at g;exact absurd g (G3 C (List.getElem_mem hn))
   exact g
  refine PutA.step (MildA.put ⟨rfl,rfl,rfl,rfl,rfl,⟨[],by simp [p3]⟩,ok,⟨rfl,rfl,rfl,rfl⟩,SubsKeep.refl _,fun h hh=>⟨h,hh,HalfKeep.refl h⟩,C.oa,C.fa,fun _ _ h=>h,C.oia,Fx C.iia G hsl⟩ C) C fun C'=>en (u4 (by simp [E6,vA,aq]) ?_)
  show ¬ sideAt (roadOf x).far=0
  rw [<-hr]
  have:=(C.sa _ (List.getElem_mem hn)).far
  omega
 by_cases k12:x.kind=12
 ·rw [vD hc k12] at ok⊢
  unfold bA at ok⊢
  dsimp only at ok⊢
  split at ok
  case isFalse hk=>rw [if_neg hk];exact keep
  rename_i hk
  rw [if_pos hk]
  exact PutA.step (MildA.put ⟨rfl,rfl,rfl,rfl,rfl,⟨[],by simp [p3]⟩,ok,⟨rfl,rfl,rfl,rfl⟩,SubsKeep.refl _,fun h hh=>⟨h,hh,HalfKeep.refl h⟩,C.oa,C.fa,fun _ _ h=>h,HP C.oia,C.iia⟩ C) C fun _=>em
 by_cases k13:x.kind=13
 ·rw [vE hc k13] at ok⊢
  unfold bf at ok⊢
  dsimp only at ok⊢
  split at ok
  case isFalse hk=>rw [if_neg hk];exact keep
  rename_i hk
  rw [if_pos hk]
  exact PutA.step (MildA.put ⟨rfl,rfl,rfl,rfl,rfl,⟨[],by simp [p3]⟩,ok,⟨rfl,rfl,rfl,rfl⟩,SubsKeep.st4 _ _,fun h hh=>⟨h,hh,HalfKeep.refl h⟩,C.oa,C.fa,fun _ _ h=>h,C.oia,C.iia⟩ C) C fun _=>em
 rw [y2 fun k hk=>by omega];exact keep
theorem G5 {l:List HalfD} {n:Nat} {q:HalfD} (p:l.Pairwise fun h k=>¬ h.take=k.take) (hq:∀ (i:Nat) (hi:i < l.length),¬ i=n->¬ l[i].take=q.take):(l.set n q).Pairwise fun h k=>¬ h.take=k.take:=by
 rw [List.pairwise_iff_getElem] at p⊢
 intro i j hi hj hij
 have hi':i < l.length:=by simpa using hi
 have hj':j < l.length:=by simpa using hj
 rw [List.getElem_set,List.getElem_set]
 by_cases h1:n=i
 ·rw [if_pos h1,if_neg (by omega)]
  exact fun hc=>hq j hj' (by omega) hc.symm
 rw [if_neg h1]
 by_cases h2:n=j
 ·rw [if_pos h2];exact hq i hi' (by omega)
 rw [if_neg h2];exact p i j hi' hj' hij
theorem HR {l:List HalfD} (h:l.Pairwise fun s t=>¬ s.take=t.take) {s t:HalfD} (hs:s∈l) (ht:t∈l) (e:s.take=t.take):s=t:=by
 obtain⟨i,hi,rfl⟩:=List.getElem_of_mem hs
 obtain⟨j,hj,rfl⟩:=List.getElem_of_mem ht
 rw [List.pairwise_iff_getElem] at h
 rcases Nat.lt_trichotomy i j with hl|hl|hl
 ·exact absurd e (h i j hi hj hl)
 ·subst hl;rfl
 exact absurd e.symm (h j i hj hi hl)
theorem Io {w:WorldD} {x:LetterD} (C:Core w) (G:SmallP w.b.inp) (L:LetI w x) (hx:sideAt x.to=2):Step w (inB w (bM w.b x).1) (bM w.b x).2:=by
 have ok:=GY (x:=x) C.okb C.stb
 have M0:=MildB.refl C
 have keep:Step w (inB w w.b) []:=(M0.put C).step C fun _=>em
 by_cases hc:cp w.b x=true
 case neg=>rw [ur (by simpa using hc)];exact keep
 by_cases k1:x.kind=1
 ·rw [y3 hc k1,ax,if_neg]
  ·exact keep
  simp only [f8,Bool.and_eq_true,decide_eq_true_eq];have:=C.stb;omega
 by_cases k2:x.kind=2
 ·rw [y4 hc k2,aS,if_neg]
  ·exact keep
  simp only [i2,Bool.and_eq_true,decide_eq_true_eq];have:=C.stb;omega
 by_cases k4:x.kind=4
 ·rw [y5 hc k4] at ok⊢
  have hL:=L.b4 hx k4
  have ans:∀ (w':WorldD) (h:HalfD),Core w'->HalfB w'.nums w'.b.draw w'.a.subs w'.b.subs h->h.road=roadOf x->(∀ k∈w'.b.halfs,k.mine=h.mine->k.theirs=h.theirs/\k.take=h.take/\k.road=h.road)->(∀ k∈w'.b.halfs,k.take=h.take->k.theirs=h.theirs)->w'.a.key=w.a.key->w'.b.key=w.b.key->Post w' (kT w.b (roadOf x) h):=by
   intro w' h C' H hr hone htk e1 e2
   have hm:=H.m4
   refine⟨.inr ?_,fun h0=>?_⟩
   ·constructor<;>(intro q1 q2;simp only [kT,aq,ah] at q2;try omega)
    intro m hm'
    simp only [kT,aq] at hm'
    injection hm' with _ _ _ _ hb
    refine .inr ⟨by simp only [kT,aq];omega,fun k hk hkm=>?_⟩
    obtain⟨g1,g2,g3⟩:=hone k hk hkm
    exact⟨by rw [g1,hb],g2,by rw [g3,hr];rfl⟩
   have hth:Loose w'.nums h.theirs:=by
    rcases H.th with g|⟨_,s,s1,_,_,_,s5⟩
    ·exact g
    have:=(C'.sa s s1).own
    rw [s5,hr] at this
    have h0':sideAt (roadOf x).far=0:=h0
    have:sideAt (roadOf x).far=1:=this
    omega
   refine⟨rfl,hth,rfl,fun s hs=>?_,fun t ht=>?_,fun k hk hq=>?_,⟨by simp only [kT,aq];omega,by simp only [kT,aq];omega⟩,fun n hn=>?_⟩
   ·have S:=C'.sa s hs
    have t4:=S.t4
    simp only [kT,aq]
    refine⟨by omega,by omega,?_⟩
    rcases S.mine with g|⟨g,_⟩
    ·exact .inl g
    exact .inr ⟨by omega,by omega⟩
   ·have t4:=(C'.sb t ht).t4
    have:=H.sep t ht
    simp only [kT,aq]
    exact⟨this,by omega⟩
   ·have m4:=(C'.hb k hk).m4
    simp only [kT,aq] at hq
    rcases hq with hq|hq
    ·rw [htk k hk hq];exact hth
    omega
   simp only [kT,aq] at hn
   constructor<;>intro _<;>omega
  unfold br at ok⊢
  split at ok
  case isFalse hk=>rw [if_neg hk];exact keep
  rename_i hk
  rw [if_pos hk]
  split at ok
  ·rename_i hs
   rw [if_pos hs]
   simp only [fg,Bool.and_eq_true,decide_eq_true_eq] at hs
   obtain⟨n,e1,hn,hrd⟩:=Fr hs.1.1
   have hj:wP w.b x=w.b.halfs[n]:=by rw [wP,e1,Int.toNat_natCast,g0 hn]
   rw [hj,e1,Int.toNat_natCast] at ok⊢
   obtain⟨q,hq⟩:∃ q,w.b.halfs[n]=q:=⟨_,rfl⟩
   have hqm:=List.getElem_mem hn
   rw [hq] at ok hrd hqm⊢
   have H:=C.hb q hqm
   have hold:∀ k∈w.b.halfs.set n { q with till:=w.b.now+6 },∃ h∈w.b.halfs,HalfKeep h k:=by
    intro k hk
    rcases List.mem_or_eq_of_mem_set hk with hk|hk
    ·exact⟨k,hk,HalfKeep.refl k⟩
    rw [hk];exact⟨q,hqm,rfl,rfl,rfl,rfl,rfl⟩
   have HB:∀ k,(∃ h∈w.b.halfs,HalfKeep h k)->HalfB w.nums w.b.draw w.a.subs w.b.subs k:=by
    rintro k ⟨h,h1,h2,h3,h4,h5,h6⟩
    have S:=C.hb h h1
    exact⟨by rw [<-h2,<-h4];exact S.m4,by rw [<-h4];exact S.sep,by rw [<-h3,<-h4,<-h5,<-h6];exact S.th⟩
   have P:PutB w (inB w { w.b with bucket:=(bI w.b.bucket).1,halfs:=w.b.halfs.set n { q with till:=w.b.now+6 } }):=by
    refine⟨rfl,rfl,rfl,rfl,rfl,⟨[],by simp [inB]⟩,ok.1,ok.2,C.sib,rfl,rfl,⟨C.db.1,Int.le_refl _⟩,fun t ht=>⟨t,ht,rfl,rfl,rfl⟩,C.sb,fun h hh=>HB h (hold h hh),?_,fun h hh=>?_,C.ob,C.fb,fun _ _ h=>h,C.oib,C.iib⟩
    ·refine G5 C.hbd fun i hi hin=>?_
     have p:=C.hbd
     rw [List.pairwise_iff_getElem] at p
     dsimp only
     rw [<-hq]
     rcases Nat.lt_or_gt_of_ne hin with hl|hl
     ·exact p i n hi hn hl
     exact fun hc=>p n i hn hi hl hc.symm
    obtain⟨k,g1,g2,g3,g4,g5,_⟩:=hold h hh
    exact .inr ⟨k,g1,g2,g3,g4,g5⟩
   refine P.step C fun C'=>en ?_
   have h1:∀ k∈w.b.halfs.set n { q with till:=w.b.now+6 },k.take=q.take->k.theirs=q.theirs/\k.take=q.take/\k.road=q.road:=by
    intro k hk ht
    obtain⟨h,g1,g2,g3,g4,g5,_⟩:=hold k hk
    have:h=q:=HR C.hbd g1 hqm (by rw [g4,ht])
    subst this
    exact⟨g3.symm,g4.symm,g5.symm⟩
   refine ans _ q C' H hrd (fun k hk hm=>?_) (fun k hk ht=>(h1 k hk ht).1) rfl rfl
   have m1:=(HB k (hold k hk)).m4
   have m2:=H.m4
   exact h1 k hk (by omega)
  rename_i hs
  rw [if_neg hs]
  simp only [rF,Bool.and_eq_true,decide_eq_true_eq,vP] at hk
  have hd:=hk.1.1.2
  have db:=C.db
  have hnew:HalfB w.nums (w.b.draw+4) w.a.subs w.b.subs (aK w.b x):=by
   refine⟨⟨by simp only [aK];omega,by simp only [aK];omega,by simp only [aK];omega,by simp only [aK]⟩,fun t ht=>?_,?_⟩
   ·have:=(C.sb t ht).t4
    simp only [aK]
    omega
   rcases hL with g|⟨s,g1,g2,g3,g4,g5⟩
   ·exact .inl g
   refine .inr ⟨fun hc=>?_,s,g1,g2,g3.symm,g4.symm,?_⟩
   ·have:=(C.nn _ hc).2 (by simp only [aK];omega)
    simp only [aK] at this
    omega
   simp only [aK];rw [g5];rfl
  have hput:(∀ h∈(bJ w.b.halfs (aK w.b x)).1,h=aK w.b x\/h∈w.b.halfs)/\(bJ w.b.halfs (aK w.b x)).1.Pairwise fun h k=>¬ h.take=k.take:=by
   have hne:∀ h∈w.b.halfs,¬ h.take=(aK w.b x).take:=fun h hh=>by
    have:=(C.hb h hh).m4
    simp only [aK]
    omega
   rw [bJ];split
   ·dsimp only
    rw [cx];split
    ·refine⟨fun h hh=>?_,G5 C.hbd fun i hi _=>hne _ (List.getElem_mem hi)⟩
     rcases List.mem_or_eq_of_mem_set hh with hh|hh
     ·exact .inr hh
     exact .inl hh
    refine⟨fun h hh=>?_,?_⟩
    ·rcases List.mem_append.1 hh with hh|hh
     ·exact .inr hh
     exact .inl (List.mem_singleton.1 hh)
    rw [List.pairwise_append]
    exact⟨C.hbd,List.pairwise_singleton ..,fun a ha b hb=>by rw [List.mem_singleton.1 hb];exact hne a ha⟩
   exact⟨fun h hh=>.inr hh,C.hbd⟩
  have P:PutB w (inB w { w.b with bucket:=(bI w.b.bucket).1,draw:=w.b.draw+4,halfs:=(bJ w.b.halfs (aK w.b x)).1 }):=by
   refine⟨rfl,rfl,rfl,rfl,rfl,⟨[],by simp [inB]⟩,ok.1,ok.2,C.sib,rfl,rfl,⟨by dsimp only [inB];omega,by dsimp only [inB];omega⟩,fun t ht=>⟨t,ht,rfl,rfl,rfl⟩,fun t ht=>?_,fun h hh=>?_,hput.2,fun h hh=>?_,C.ob,C.fb,fun _ _ h=>h,C.oib,C.iib⟩
   ·have S:=C.sb t ht
    exact⟨by have:=S.t4;dsimp only [inB];omega,S.tn,S.st,S.like⟩
   ·rcases hput.1 h hh with rfl|hh
    ·exact hnew
    have S:=C.hb h hh
    exact⟨by have:=S.m4;dsimp only [inB];omega,S.sep,S.th⟩
   rcases hput.1 h hh with rfl|hh
   ·exact .inl (Int.le_refl _)
   exact .inr ⟨h,hh,rfl,rfl,rfl,rfl⟩
  refine P.step C fun C'=>en ?_
  have h1:∀ k∈(bJ w.b.halfs (aK w.b x)).1,k.take=(aK w.b x).take\/k.mine=(aK w.b x).mine->k=aK w.b x:=by
   intro k hk ht
   rcases hput.1 k hk with g|g
   ·exact g
   have:=(C.hb k g).m4
   simp only [aK] at ht
   omega
  exact ans _ (aK w.b x) C' hnew rfl (fun k hk hm=>by rw [h1 k hk (.inr hm)];exact⟨rfl,rfl,rfl⟩) (fun k hk ht=>by rw [h1 k hk (.inl ht)]) rfl rfl
 by_cases k5:x.kind=5
 ·rw [y6 hc k5,Et]
  ·exact keep
  cases hj:tO w.b x with
  |false=>rfl
  |true=>
   simp only [tO,Bool.and_eq_true,decide_eq_true_eq] at hj
   obtain⟨⟨⟨_,q4⟩,q5⟩,_⟩:=hj
   obtain⟨n,e1,hn,_⟩:=ws q4
   rw [e1,Int.toNat_natCast,ke hn] at q5
   have:=(C.sb _ (List.getElem_mem hn)).st
   omega
 by_cases k6:x.kind=6
 ·rw [y7 hc k6] at ok⊢
  have hL:=L.b6 hx k6
  unfold ao at ok⊢
  split at ok
  case isFalse hk=>rw [if_neg hk];exact keep
  rename_i hk
  rw [if_pos hk]
  split at ok
  ·rename_i ha
   rw [if_pos ha]
   simp only [rE,Bool.and_eq_true,decide_eq_true_eq] at ha
   obtain⟨⟨a1,a2⟩,a3⟩:=ha
   obtain⟨i,e1,hi,hrd⟩:=Fr a1
   have hj:wP w.b x=w.b.halfs[i]:=by rw [wP,e1,Int.toNat_natCast,g0 hi]
   rw [hj] at a3 ok⊢
   obtain⟨q,hq⟩:∃ q,w.b.halfs[i]=q:=⟨_,rfl⟩
   have hqm:=List.getElem_mem hi
   rw [hq] at a3 ok hrd hqm⊢
   have H:=C.hb q hqm
   rw [C.pb] at a3
   obtain⟨s,s1,s2,s3,s4,s5,s6⟩:=hL _ _ a3
   have S:=C.sa s s1
   obtain⟨g1,g2,g3⟩:=S.th.2 q hqm s5
   have hau:¬ q.take∈w.nums/\∃ s∈w.a.subs,1000<=s.mine/\s.mine=q.theirs/\s.take=q.give/\s.road=bk q.road:=by
    rcases H.th with g|g
    ·rw [s4] at g;exact absurd g (G4 C s1 s3)
    exact g
   obtain⟨hn,r,r1,r2,r3,r4,r5⟩:=hau
   have hrs:r=s:=by
    refine Gv C.sad r1 s1 ?_
    have m1:=(C.sa r r1).mine
    have m2:=S.mine
    omega
   subst hrs
   have hdr:bz w.b.halfs (roadOf x)=w.b.halfs.take i++w.b.halfs.drop (i+1):=tR e1
   have hsub:(bz w.b.halfs (roadOf x)).Sublist w.b.halfs:=by rw [hdr];exact qr _ _
   have hoth:∀ k∈bz w.b.halfs (roadOf x),¬ k.take=q.take:=by
    intro k hk
    have p:=C.hbd
    rw [List.pairwise_iff_getElem] at p
    rw [hdr] at hk
    rw [<-hq]
    rcases List.mem_append.1 hk with hk|hk
    ·rw [List.mem_take_iff_getElem] at hk
     obtain⟨j,hj,rfl⟩:=hk
     exact p j i (by omega) hi (by omega)
    rw [List.mem_drop_iff_getElem] at hk
    obtain⟨j,hj,rfl⟩:=hk
    exact fun hc=>p i (i+1+j) hi (by omega) (by omega) hc.symm
   obtain⟨l0,hl0⟩:∃ l0,(if 0<=aU w.b.subs (roadOf x) then bP w.b.subs (aU w.b.subs (roadOf x)).toNat 4 else w.b.subs)=l0:=⟨_,rfl⟩
   rw [hl0] at ok⊢
   have K:SubsKeep w.b.subs l0:=by
    rw [<-hl0];split
    ·exact SubsKeep.st4 _ _
    exact SubsKeep.refl _
   have hmem:jI (roadOf x) q∈l0++[jI (roadOf x) q]:=by simp
   have P:PutB w (inB w { w.b with subs:=l0++[jI (roadOf x) q],halfs:=bz w.b.halfs (roadOf x) }):=by
    refine⟨rfl,rfl,rfl,rfl,rfl,⟨[],by simp [inB]⟩,ok.1,ok.2,C.sib,rfl,rfl,⟨C.db.1,Int.le_refl _⟩,fun t ht=>?_,fun t ht=>?_,fun h hh=>?_,C.hbd.sublist hsub,fun h hh=>.inr ⟨h,hsub.subset hh,rfl,rfl,rfl,rfl⟩,C.ob,C.fb,fun _ _ h=>h,C.oib,C.iib⟩
    ·obtain⟨u,u1,u2⟩:=K.new ht
     exact⟨u,List.mem_append_left _ u1,u2.road,u2.take,u2.give⟩
    ·rcases List.mem_append.1 ht with ht|ht
     ·obtain⟨u,u1,u2⟩:=K.old ht
      exact u2.subB (C.sb u u1)
     rw [List.mem_singleton.1 ht]
     have m4:=H.m4
     exact⟨by simp only [jI,inB];omega,hn,.inl rfl,r,r1,s2,by rw [r5,hrd];rfl,r4,g2.symm⟩
    have S':=C.hb h (hsub.subset hh)
    refine⟨S'.m4,fun t ht=>?_,S'.th⟩
    rcases List.mem_append.1 ht with ht|ht
    ·obtain⟨u,u1,u2⟩:=K.old ht
     rw [u2.take];exact S'.sep u u1
    rw [List.mem_singleton.1 ht]
    exact fun hc=>hoth h hh hc.symm
   refine P.step C fun C'=>en ⟨.inr ?_,fun h0=>?_⟩
   ·constructor<;>(intro p1 p2;simp only [pY,aq,ah] at p2;try omega)
    exact .inr ⟨_,hmem,rfl⟩
   have h0':sideAt (roadOf x).far=0:=h0
   have h3:=(Hm C' (t:=jI (roadOf x) q) hmem).1
   have h3':sideAt (roadOf x).far=1:=h3
   omega
  rename_i ha
  rw [if_neg ha]
  split at ok
  ·rename_i hb
   rw [if_pos hb]
   simp only [BN,Bool.and_eq_true,decide_eq_true_eq] at hb
   obtain⟨n,e1,hn,_,hr,_⟩:=ws hb.1.1
   have hj:Cg w.b x=w.b.subs[n]:=by rw [Cg,e1,Int.toNat_natCast,ke hn]
   rw [hj]
   refine (M0.put C).step C fun C'=>en ⟨.inr ?_,fun h0=>?_⟩
   ·constructor<;>(intro p1 p2;simp only [pY,aq,ah] at p2;try omega)
    exact .inr ⟨_,List.getElem_mem hn,rfl⟩
   have h0':sideAt (roadOf x).far=0:=h0
   have h3:=(Hm C (List.getElem_mem hn)).1
   rw [hr] at h3
   omega
  rename_i hb
  rw [if_neg hb];exact keep
 by_cases k7:x.kind=7
 ·rw [y8 hc k7,Dk]
  ·exact keep
  cases hj:mu w.b x with
  |false=>rfl
  |true=>
   simp only [mu,Bool.and_eq_true,decide_eq_true_eq] at hj
   obtain⟨⟨⟨_,q3⟩,q4⟩,_⟩:=hj
   obtain⟨n,e1,hn,_⟩:=ws q3
   rw [e1,Int.toNat_natCast,ke hn] at q4
   have:=(C.sb _ (List.getElem_mem hn)).st
   omega
 by_cases k8:x.kind=8
 ·rw [y9 hc k8] at ok⊢
  unfold bC at ok⊢
  split at ok
  case isFalse hk=>rw [if_neg hk];exact keep
  rename_i hk
  rw [if_pos hk]
  simp only [lH,Bool.and_eq_true,decide_eq_true_eq] at hk
  obtain⟨⟨⟨⟨q1,q2⟩,_⟩,_⟩,_⟩:=hk
  rw [C.pb] at q2
  obtain⟨t1,t2⟩:=L.b8 hx k8 _ _ q2
  obtain⟨n,e1,_,hn,_,_,hr,_⟩:=Hh q1
  refine PutB.step (MildB.put ⟨rfl,rfl,rfl,rfl,rfl,⟨[],by simp [inB]⟩,ok,⟨rfl,rfl,rfl,rfl⟩,SubsKeep.refl _,List.Sublist.refl _,C.ob,fun f hf=>?_,fun _ _ h=>h,C.oib,C.iib⟩ C) C fun C'=>en (u4 (by simp [E6,rO,aq]) ?_)
  ·rcases sN hf with rfl|hf
   ·exact⟨t1,t2⟩
   exact C.fb f hf
  show ¬ sideAt (roadOf x).far=0
  rw [<-hr]
  have:=(Hm C (List.getElem_mem hn)).1
  omega
 by_cases k9:x.kind=9
 ·rw [y_ hc k9] at ok⊢
  unfold bD at ok⊢
  dsimp only at ok⊢
  split at ok
  case isFalse hk=>rw [if_neg hk];exact keep
  rename_i hk
  rw [if_pos hk]
  simp only [hZ,Bool.and_eq_true,decide_eq_true_eq] at hk
  obtain⟨n,e1,hn,_⟩:=EW hk.1.2
  rw [e1,Int.toNat_natCast,hV hn] at ok⊢
  refine PutB.step (MildB.put ⟨rfl,rfl,rfl,rfl,rfl,⟨[],by simp [inB]⟩,ok,⟨rfl,rfl,rfl,rfl⟩,SubsKeep.refl _,List.Sublist.refl _,fun q hq=>?_,C.fb,fun i d h=>?_,C.oib,C.iib⟩ C) C fun _=>em
  ·rcases List.mem_or_eq_of_mem_set hq with hq|hq
   ·exact C.ob q hq
   rw [hq];exact (show sideAt w.b.own[n].addr=2 from C.ob _ (List.getElem_mem hn))
  rcases h with⟨q,h1,h2,h3⟩|h
  ·obtain⟨j,hj,rfl⟩:=List.getElem_of_mem h1
   by_cases hjn:n=j
   ·subst hjn
    exact .inl ⟨_,List.mem_set hn _,h2,h3⟩
   refine .inl ⟨w.b.own[j],?_,h2,h3⟩
   dsimp only [inB]
   rw [List.mem_iff_getElem]
   exact⟨j,by simpa using hj,by rw [List.getElem_set_ne hjn]⟩
  exact .inr h
 by_cases k10:x.kind=10
 ·rw [vB hc k10] at ok⊢
  unfold bE at ok⊢
  dsimp only at ok⊢
  split at ok
  case isFalse hk=>rw [if_neg hk];exact keep
  rename_i hk
  rw [if_pos hk]
  refine PutB.step (MildB.put ⟨rfl,rfl,rfl,rfl,rfl,⟨[],by simp [inB]⟩,ok,⟨rfl,rfl,rfl,rfl⟩,SubsKeep.map fun s hs=>?_,List.Sublist.refl _,C.ob,fun f hf=>C.fb f (qs hf),fun _ _ h=>h,C.oib,C.iib⟩ C) C fun _=>em
  rw [jP];split
  ·exact⟨rfl,rfl,rfl,rfl,rfl,.inr rfl⟩
  exact SubKeep.refl s
 by_cases k11:x.kind=11
 ·rw [vC hc k11] at ok⊢
  unfold bF at ok⊢
  split at ok
  case isFalse hk=>rw [if_neg hk];exact keep
  rename_i hk
  rw [if_pos hk]
  simp only [qb,Bool.and_eq_true,decide_eq_true_eq] at hk
  obtain⟨n,e1,_,hn,_,ht,hr,_⟩:=Hh hk.1
  have hsl:Slice w.wroteA x.pos x.text:=by
   rcases L.b11 hx k11 with g|g
   ·rw [<-ht] at g;exact absurd g (H2 C (List.getElem_mem hn))
   exact g
  refine PutB.step (MildB.put ⟨rfl,rfl,rfl,rfl,rfl,⟨[],by simp [inB]⟩,ok,⟨rfl,rfl,rfl,rfl⟩,SubsKeep.refl _,List.Sublist.refl _,C.ob,C.fb,fun _ _ h=>h,C.oib,Fx C.iib G hsl⟩ C) C fun C'=>en (u4 (by simp [E6,vA,aq]) ?_)
  show ¬ sideAt (roadOf x).far=0
  rw [<-hr]
  have:=(Hm C (List.getElem_mem hn)).1
  omega
 by_cases k12:x.kind=12
 ·rw [vD hc k12] at ok⊢
  unfold bA at ok⊢
  dsimp only at ok⊢
  split at ok
  case isFalse hk=>rw [if_neg hk];exact keep
  rename_i hk
  rw [if_pos hk]
  exact PutB.step (MildB.put ⟨rfl,rfl,rfl,rfl,rfl,⟨[],by simp [inB]⟩,ok,⟨rfl,rfl,rfl,rfl⟩,SubsKeep.refl _,List.Sublist.refl _,C.ob,C.fb,fun _ _ h=>h,HP C.oib,C.iib⟩ C) C fun _=>em
 by_cases k13:x.kind=13
 ·rw [vE hc k13] at ok⊢
  unfold bf at ok⊢
  dsimp only at ok⊢
  split at ok
  case isFalse hk=>rw [if_neg hk];exact keep
  rename_i hk
  rw [if_pos hk]
  exact PutB.step (MildB.put ⟨rfl,rfl,rfl,rfl,rfl,⟨[],by simp [inB]⟩,ok,⟨rfl,rfl,rfl,rfl⟩,SubsKeep.st4 _ _,List.Sublist.refl _,C.ob,C.fb,fun _ _ h=>h,C.oib,C.iib⟩ C) C fun _=>em
 rw [y2 fun k hk=>by omega];exact keep
theorem l2 {w:WorldD}:Sent w []:=fun x hx=>by simp at hx
theorem ua {w:WorldD} {x:LetterD} (h1:¬ sideAt x.to=0) (h2:LetI w x):Sent w [x]:=fun y hy=>by rw [List.mem_singleton.1 hy];exact⟨h1,h2⟩
theorem u5 {w:WorldD} {x:LetterD} (hk:E6 x.kind):LetI w x:=by
  simp only [E6] at hk
  constructor<;>(intro _ h;omega)
theorem Go1.step {w w':WorldD} {l:List LetterD} (h:Go1 w w' l):Step w w' l:=⟨h.c,h.le,h.s.post⟩
theorem E3 {l:List AddrD} {a b:AddrD} (h:aG l a.id < 0) (hb:b∈l):b∈(aJ l a).1:=by
  rw [aJ];split
  · dsimp only
    rw [bO,if_neg (by omega)]
    have:=List.take_append_drop (wG l a.id) l
    rw [<-this] at hb
    rcases List.mem_append.1 hb with hb|hb
    · exact List.mem_append_left _ (List.mem_append_left _ hb)
    · exact List.mem_append_right _ hb
  · exact hb
theorem w4 {l:List AddrD} {n:Int} {b:AddrD} (hb:b∈l) (hn:¬ b.id=n):b∈(be l n).1:=by
  rw [be];split
  · exact hb
  · rename_i h
    obtain⟨k,e,hk,hi⟩:=EW (show 0<=aG l n by omega)
    rw [e,Int.toNat_natCast]
    dsimp only
    obtain⟨j,hj,rfl⟩:=List.getElem_of_mem hb
    have hjk:¬ j=k:=fun hc=>by subst hc;exact hn hi
    rcases Nat.lt_or_gt_of_ne hjk with hl|hl
    · refine List.mem_append_left _ ?_
      rw [List.mem_take_iff_getElem]
      exact⟨j,by omega,rfl⟩
    · refine List.mem_append_right _ ?_
      rw [List.mem_drop_iff_getElem]
      exact⟨j - (k+1),by omega,by congr 1;omega⟩
theorem F_ {l:List SubD} {k:Nat} (h:k∈j0 l):aN l k∈l:=by
  obtain⟨h1,_⟩:=pN h
  rw [ke h1];exact List.getElem_mem h1
theorem FR {l:List Nat} (h:¬ l.length=0):l.headD 0∈l:=by
  cases l with
  |nil=>simp at h
  |cons a r=>simp
theorem v4 (s:SubD):SubKeep s (cW s):=by
  rw [cW];split
  · split
    · exact⟨rfl,rfl,rfl,rfl,rfl,.inr rfl⟩
    · exact⟨rfl,rfl,rfl,rfl,rfl,.inl rfl⟩
  · exact SubKeep.refl s
theorem GA {e:EndD} (h:OkE e) (hk:AT e=true):OkE { eR e with subs:=e.subs.map cW }:=by
  simp only [AT,Bool.and_eq_true,decide_eq_true_eq,List.all_eq_true] at hk
  refine⟨h.side,h.state,h.pol,h.own,h.far,h.halfs.young,FO h.bucket,GZ h.out,h.inp,h.done,h.over,by dsimp only;rw [List.length_map];exact h.subs8,⟨h.nums.1,h.nums.2.1,h.nums.2.2.1,by have:=h.nums.2.2.2.1;simp only [N9,eR] at this⊢;omega,h.nums.2.2.2.2⟩,h.subs.map fun s hs=>?_⟩
  have hel:=h.subs.el s hs
  have ht:=hk.2 s hs
  have hN:N9 (s.tries+1):=by have:=hel.2.2.2.2.2.2;simp only [N9] at this⊢;omega
  rw [cW];split
  · split
    · exact⟨⟨by simp,hel.2.1,hel.2.2.1,hel.2.2.2.1,hel.2.2.2.2.1,hel.2.2.2.2.2.1,hN⟩,rfl,fun _=>rfl⟩
    · exact⟨⟨hel.1,hel.2.1,hel.2.2.1,hel.2.2.2.1,hel.2.2.2.2.1,hel.2.2.2.2.2.1,hN⟩,rfl,fun h=>h⟩
  · exact⟨hel,rfl,fun h=>h⟩
theorem H7 {w w':WorldD} {l:List LetterD} (M:MildA w w') (C:Core w) (h:Core w'->Sent w' l):Go1 w w' l:=⟨(M.put C).core C,(M.put C).le,h ((M.put C).core C)⟩
theorem w6 {w:WorldD} (C:Core w):Go1 w w []:=H7 (MildA.refl C) C fun _=>l2
theorem Ga {w:WorldD} (C:Core w) {s:SubD} (hs:s∈w.a.subs):¬ sideAt s.road.far=0/\¬ sideAt s.road.far=1:=by
  have:=(C.sa s hs).far
  omega
theorem Ip {w:WorldD} (C:Core w):Go1 w (p3 w (cL w.a).1) (cL w.a).2:=by
  have ok:=F8 C.oka
  have st:=(v3 (e:=w.a)).trans C.sta
  unfold cL at ok st⊢
  split at ok
  · rename_i hk
    rw [if_pos hk] at st⊢
    refine H7 ⟨rfl,rfl,rfl,rfl,rfl,⟨[],by simp [p3]⟩,⟨ok,st⟩,⟨rfl,rfl,rfl,rfl⟩,SubsKeep.refl _,fun h hh=>⟨h,hh,HalfKeep.refl h⟩,C.oa,C.fa,fun _ _ h=>h,FQ C.oia,C.iia⟩ C fun C'=>?_
    simp only [kr,Bool.and_eq_true,decide_eq_true_eq,gC] at hk
    rcases nU w.a with h0|⟨m,hm,e⟩
    · omega
    · rw [e,Int.toNat_natCast,ke hm]
      obtain⟨f0,f1⟩:=Ga C (List.getElem_mem hm)
      refine ua f0 ?_
      have hs:=w3 C.oia hk.1.1
      constructor<;>(intro q1 q2;simp only [vK,aq,ah] at q1 q2;try omega)
      first|exact .inr hs|exact absurd q1 f1
  · rename_i hk
    rw [if_neg hk]
    exact w6 C
theorem GQ:∀ {k:Nat} {w:WorldD},Core w->Go1 w (p3 w (cu k w.a).1) (cu k w.a).2
  |0,w,C=>w6 C
  |k+1,w,C=>by
    have h1:=Ip C
    have h2:=GQ (k:=k) h1.c
    exact h1.trans h2
theorem Iq {w:WorldD} (C:Core w):Sent w (bX w.a):=by
  unfold bX;split
  · rename_i hk
    simp only [AS,Bool.and_eq_true,decide_eq_true_eq,Bool.not_eq_true',decide_eq_false_iff_not] at hk
    intro x hx
    obtain⟨q,hq,rfl⟩:=List.mem_map.1 hx
    have hq':=(List.mem_filter.1 hq).1
    have hs:=F_ (FR hk.2)
    obtain⟨f0,f1⟩:=Ga C hs
    refine⟨f0,?_⟩
    constructor<;>(intro q1 q2;simp only [sh,aq,ah] at q1 q2;try omega)
    all_goals
      intro i d hm
      first
        |exact absurd q1 f1
        | (simp only [sh,aq] at hm
           injection hm with _ _ _ hi hd
           exact⟨by rw [<-hd];exact C.oa q hq',.inl ⟨q,hq',hi,hd⟩⟩)
  · exact l2
theorem HS {w:WorldD} {l:List LetterD} (C:Core w) (hl:Sent w l):Go1 w (p3 w (bQ w.a l).1) (bQ w.a l).2:=by
  have h:=GQ (k:=3) C
  exact⟨h.c,h.le,zR (zR (hl.mono h.le) ((Iq C).mono h.le)) h.s⟩
theorem Ir {w:WorldD} (C:Core w):Go1 w (p3 w (cQ w.a).1) (cQ w.a).2:=by
  have hst:=C.sta
  unfold cQ
  by_cases hk:AT w.a=true
  · rw [if_pos hk,if_pos hst]
    have ok:OkE { eR w.a with subs:=w.a.subs.map cW }:=GA C.oka hk
    have M:MildA w (p3 w { eR w.a with subs:=w.a.subs.map cW }):=by
      refine⟨rfl,rfl,rfl,rfl,rfl,⟨[],by simp [p3]⟩,⟨ok,hst⟩,⟨rfl,rfl,rfl,rfl⟩,SubsKeep.map fun s _=>v4 s,fun h hh=>⟨h,(List.mem_filter.1 hh).1,HalfKeep.refl h⟩,C.oa,C.fa,fun _ _ h=>h,HQ C.oia,C.iia⟩
    have g:Go1 w (p3 w { eR w.a with subs:=w.a.subs.map cW }) (w.a.subs.flatMap (di w.a)):=by
      refine H7 M C fun C' x hx=>?_
      obtain⟨s,hs,hx⟩:=List.mem_flatMap.1 hx
      have S:=C.sa s hs
      have hf:=S.far
      rw [di] at hx
      split at hx
      case isFalse=>simp at hx
      rename_i h12
      have h1000:=S.ask h12
      split at hx
      · simp at hx
      rename_i hn9
      split at hx
      · simp at hx
      have hin:cW s∈(p3 w { eR w.a with subs:=w.a.subs.map cW }).a.subs:=List.mem_map_of_mem hs
      have K:=v4 s
      split at hx
      · rw [List.mem_singleton.1 hx]
        refine⟨by show ¬ sideAt s.road.far=0;omega,?_⟩
        constructor<;>(intro q1 q2;simp only [eM,aq,ah] at q1 q2;try omega)
        exact .inr ⟨_,hin,by rw [K.mine];exact h1000,K.mine.symm,K.take.symm,by rw [K.road];rfl⟩
      · rename_i h1
        rw [List.mem_singleton.1 hx]
        refine⟨by show ¬ sideAt s.road.far=0;omega,?_⟩
        constructor<;>(intro q1 q2;simp only [cb,aq,ah] at q1 q2;try omega)
        intro m n hm
        simp only [cb,aq,p3] at hm
        injection hm with _ _ _ hm hn'
        exact⟨_,hin,by rcases K.state with q|q<;>omega,by rw [K.mine];exact h1000,by rw [K.mine];exact hm.symm,by rw [K.theirs];exact hn'.symm,by rw [K.road];rfl⟩
    have t:=HS g.c g.s
    exact⟨t.c,g.le.trans t.le,t.s⟩
  · rw [if_neg hk];exact w6 C
theorem Is {w:WorldD} (C:Core w) (r:RoadD) (b:Bool):Go1 w (p3 w (dz w.a r b).1) (dz w.a r b).2:=by
  have ok:=G0 (r:=r) (b:=b) C.oka
  unfold dz at ok⊢
  split at ok
  · rename_i hk
    rw [if_pos hk]
    simp only [w_,Bool.and_eq_true,decide_eq_true_eq,vP,u0] at hk
    obtain⟨⟨⟨⟨⟨⟨⟨k1,k2⟩,k3⟩,k4⟩,k5⟩,k6⟩,k7⟩,k8⟩:=hk
    have da:=C.da
    simp only [fN,eh,List.any_eq_true,beq_iff_eq] at k5 k6
    obtain⟨q,q1,q2⟩:=k5
    obtain⟨f,f1,f2⟩:=k6
    have ho:=C.oa q q1
    have hf:=(C.fa f f1).1
    rw [q2] at ho
    rw [f2] at hf
    have hmem:eN w.a r b∈w.a.subs++[eN w.a r b]:=by simp
    have P:PutA w (p3 w { w.a with subs:=w.a.subs++[eN w.a r b],draw:=w.a.draw+4 }):=by
      refine⟨rfl,rfl,rfl,rfl,rfl,⟨[],by simp [p3]⟩,ok.1,ok.2.trans C.sta,C.sia,rfl,rfl,⟨by dsimp only [p3];omega,by dsimp only [p3];omega⟩,fun s hs=>⟨s,List.mem_append_left _ hs,SubTo.refl s⟩,fun s hs=>?_,?_,fun h hh=>?_,C.oa,C.fa,fun _ _ h=>h,C.oia,C.iia⟩
      · rcases List.mem_append.1 hs with hs|hs
        · have S:=C.sa s hs
          exact⟨by have:=S.t4;dsimp only [p3];omega,S.tn,S.mine,S.own,S.far,S.th,S.on,S.ask⟩
        · rw [List.mem_singleton.1 hs]
          refine⟨by simp only [eN,p3];omega,fun hc=>?_,.inr ⟨rfl,fun hc=>?_⟩,ho,hf,⟨by have:=C.db;simp only [eN];omega,fun h hh hm=>?_⟩,fun h3=>by simp [eN] at h3,fun _=>by simp only [eN];omega⟩
          · have:=(C.nn _ hc).1 (by simp only [eN];omega)
            simp only [eN] at this
            omega
          · have:=(C.nn _ hc).1 (by simp only [eN];omega)
            simp only [eN] at this
            omega
          · have:=(C.hb h hh).m4
            simp only [eN] at hm
            omega
      · dsimp only [p3]
        rw [List.pairwise_append]
        refine⟨C.sad,List.pairwise_singleton ..,fun s hs t ht=>?_⟩
        rw [List.mem_singleton.1 ht]
        have:=(C.sa s hs).t4
        simp only [eN]
        omega
      · have S:=C.ha h hh
        refine⟨by have:=S.m4;dsimp only [p3];omega,fun s hs=>?_,S.th⟩
        rcases List.mem_append.1 hs with hs|hs
        · exact S.sep s hs
        · rw [List.mem_singleton.1 hs]
          have:=S.m4
          simp only [eN]
          omega
    refine⟨P.core C,P.le,ua ?_ ?_⟩
    · show ¬ sideAt r.far=0
      omega
    · constructor<;>(intro q1 q2;simp only [eM,eN,aq,ah] at q1 q2;try omega)
      exact .inr ⟨_,hmem,by simp only [eN];omega,rfl,rfl,rfl⟩
  · rename_i hk
    rw [if_neg hk];exact w6 C
theorem HT {far:List AddrD}:∀ {l:List RoadD} {w:WorldD},Core w->Go1 w (p3 w (dS far w.a l).1) (dS far w.a l).2
  |[],w,C=>w6 C
  |r::l,w,C=>by
    have h1:=Is C r (aZ far r.far)
    have h2:=HT (far:=far) (l:=l) h1.c
    exact h1.trans h2
theorem IH {w:WorldD} {a:ActD} (C:Core w) (G:SmallP w.a.inp) (hs:a.side=1) (hb:dl w a=false):Go1 w (cq (gD w a) 1 (ie w.a a).1) (ie w.a a).2:=by
  have ok:=G1 (a:=a) C.oka G
  have hE:bB w a.side=w.a:=by rw [hs];rfl
  have heo:af w.a=true:=p5.2 C.oka
  have hset:∀ (u:WorldD) (e:EndD),cq u 1 e={ u with a:=e }:=fun u e=>rfl
  rw [hset]
  unfold ie at ok⊢
  unfold gD
  rw [hE]
  by_cases k1:a.kind=1
  · simp only [if_pos k1]
    rw [dT,if_pos hs]
    have ok1:=Ft (t:=a.text) C.oka
    have hw:cc w.a a.text=({ w.a with out:=(eL w.a.out a.text).1 },(eL w.a.out a.text).2):=AN heo
    rw [hw] at ok1
    rw [hw,aA,hw]
    dsimp only
    have M:MildA w { w with wroteA:=w.wroteA++a.text.take (eL w.a.out a.text).2,a:={ w.a with out:=(eL w.a.out a.text).1 } }:=
      ⟨rfl,rfl,rfl,rfl,rfl,⟨_,rfl⟩,⟨ok1.1,ok1.2.trans C.sta⟩,⟨rfl,rfl,rfl,rfl⟩,SubsKeep.refl _,fun h hh=>⟨h,hh,HalfKeep.refl h⟩,C.oa,C.fa,fun _ _ h=>h,Gy C.oia,C.iia⟩
    have g:=H7 M C fun _=>l2
    have g2:=GQ (k:=3) g.c
    exact g.trans g2
  simp only [if_neg k1] at ok⊢
  by_cases k2:a.kind=2
  · simp only [if_pos k2] at ok⊢
    rw [bR,if_pos hs]
    have hr:bi w.a a.many=({ w.a with inp:=(bK w.a.inp a.many).1 },(bK w.a.inp a.many).2):=AP heo
    rw [hr] at ok⊢
    exact H7 ⟨rfl,rfl,rfl,rfl,rfl,⟨[],by simp⟩,⟨ok.1,ok.2.trans C.sta⟩,⟨rfl,rfl,rfl,rfl⟩,SubsKeep.refl _,fun h hh=>⟨h,hh,HalfKeep.refl h⟩,C.oa,C.fa,fun _ _ h=>h,C.oia,HO C.iia⟩ C fun _=>l2
  simp only [if_neg k2] at ok⊢
  by_cases k3:a.kind=3
  · simp only [if_pos k3]
    exact Ir C
  simp only [if_neg k3] at ok⊢
  by_cases k4:a.kind=4
  · simp only [if_pos k4]
    unfold bb
    split
    · exact HT C
    · exact w6 C
  simp only [if_neg k4] at ok⊢
  by_cases k5:a.kind=5
  · simp only [if_pos k5] at ok⊢
    unfold az at ok⊢
    split at ok
    · rename_i hk
      rw [if_pos hk]
      simp only [AR,Bool.and_eq_true,decide_eq_true_eq] at hk
      simp only [dl,k5,decide_true,Bool.true_and,Bool.or_eq_false_iff,Bool.not_eq_false',decide_eq_true_eq,hs] at hb
      refine H7 ⟨rfl,rfl,rfl,rfl,rfl,⟨[],by simp⟩,⟨ok.1,ok.2.trans C.sta⟩,⟨rfl,rfl,rfl,rfl⟩,SubsKeep.refl _,fun h hh=>⟨h,hh,HalfKeep.refl h⟩,fun q hq=>?_,C.fa,fun i d h=>?_,C.oia,C.iia⟩ C fun _=>l2
      · rcases sN hq with rfl|hq
        · exact hb.1
        · exact C.oa q hq
      · rcases h with⟨q,h1,h2,h3⟩|h
        · exact .inl ⟨q,E3 hk.1.2 h1,h2,h3⟩
        · exact .inr h
    · rename_i hk
      rw [if_neg hk];exact w6 C
  simp only [if_neg k5] at ok⊢
  by_cases k6:a.kind=6
  · simp only [if_pos k6] at ok⊢
    unfold iA at ok⊢
    split at ok
    · rename_i hk
      rw [if_pos hk]
      have K:SubsKeep w.a.subs (ic w.a a.pos):=SubsKeep.map fun s _=>by
        rw [Dt];split
        · exact⟨rfl,rfl,rfl,rfl,rfl,.inr rfl⟩
        · exact SubKeep.refl s
      refine H7 ⟨rfl,rfl,rfl,rfl,rfl,⟨[],by simp⟩,⟨ok.1,ok.2.trans C.sta⟩,⟨rfl,rfl,rfl,rfl⟩,K,fun h hh=>⟨h,hh,HalfKeep.refl h⟩,fun q hq=>C.oa q (qs hq),C.fa,fun i d h=>?_,C.oia,C.iia⟩ C fun C' x hx=>?_
      · rcases h with⟨q,h1,h2,h3⟩|h
        · by_cases hn:q.id=a.pos
          · exact .inr (by dsimp only;rw [<-h2,hn];exact Gr)
          · exact .inl ⟨q,w4 h1 hn,h2,h3⟩
        · exact .inr (Gs h)
      · obtain⟨k,hk2,rfl⟩:=List.mem_map.1 hx
        exact⟨(Ga C' (F_ hk2)).1,u5 (by simp [E6,Bj,aq])⟩
    · rename_i hk
      rw [if_neg hk];exact w6 C
  simp only [if_neg k6] at ok⊢
  unfold ks at ok⊢
  split at ok
  · rename_i hk
    rw [if_pos hk]
    simp only [EE,Bool.and_eq_true,decide_eq_true_eq,vP] at hk
    refine H7 ⟨rfl,rfl,rfl,rfl,rfl,⟨[],by simp⟩,⟨ok.1,ok.2.trans C.sta⟩,⟨rfl,rfl,rfl,rfl⟩,SubsKeep.st4 _ _,fun h hh=>⟨h,hh,HalfKeep.refl h⟩,C.oa,C.fa,fun _ _ h=>h,C.oia,C.iia⟩ C fun _=>ua ?_ (u5 (by simp [E6,aq]))
    have hl:a.pos.toNat < w.a.subs.length:=by omega
    rw [ke hl]
    exact (Ga C (List.getElem_mem hl)).1
  · rename_i hk
    rw [if_neg hk];exact w6 C
theorem H8 {w w':WorldD} {l:List LetterD} (M:MildB w w') (C:Core w) (h:Core w'->Sent w' l):Go1 w w' l:=⟨(M.put C).core C,(M.put C).le,h ((M.put C).core C)⟩
theorem Fy {w:WorldD} (C:Core w):Go1 w w []:=H8 (MildB.refl C) C fun _=>l2
theorem Gb {w:WorldD} (C:Core w) {s:SubD} (hs:s∈w.b.subs):¬ sideAt s.road.far=0/\¬ sideAt s.road.far=2:=by
  have:=(Hm C hs).1
  omega
theorem It {w:WorldD} (C:Core w):Go1 w (inB w (cL w.b).1) (cL w.b).2:=by
  have ok:=F8 C.okb
  have st:=(v3 (e:=w.b)).trans C.stb
  unfold cL at ok st⊢
  split at ok
  · rename_i hk
    rw [if_pos hk] at st⊢
    refine H8 ⟨rfl,rfl,rfl,rfl,rfl,⟨[],by simp [inB]⟩,⟨ok,st⟩,⟨rfl,rfl,rfl,rfl⟩,SubsKeep.refl _,List.Sublist.refl _,C.ob,C.fb,fun _ _ h=>h,FQ C.oib,C.iib⟩ C fun C'=>?_
    simp only [kr,Bool.and_eq_true,decide_eq_true_eq,gC] at hk
    rcases nU w.b with h0|⟨m,hm,e⟩
    · omega
    · rw [e,Int.toNat_natCast,ke hm]
      obtain⟨f0,f1⟩:=Gb C (List.getElem_mem hm)
      refine ua f0 ?_
      have hs:=w3 C.oib hk.1.1
      constructor<;>(intro q1 q2;simp only [vK,aq,ah] at q1 q2;try omega)
      first|exact .inr hs|exact absurd q1 f1
  · rename_i hk
    rw [if_neg hk]
    exact Fy C
theorem GR:∀ {k:Nat} {w:WorldD},Core w->Go1 w (inB w (cu k w.b).1) (cu k w.b).2
  |0,w,C=>Fy C
  |k+1,w,C=>by
    have h1:=It C
    have h2:=GR (k:=k) h1.c
    exact h1.trans h2
theorem Iu {w:WorldD} (C:Core w):Sent w (bX w.b):=by
  unfold bX;split
  · rename_i hk
    simp only [AS,Bool.and_eq_true,decide_eq_true_eq,Bool.not_eq_true',decide_eq_false_iff_not] at hk
    intro x hx
    obtain⟨q,hq,rfl⟩:=List.mem_map.1 hx
    have hq':=(List.mem_filter.1 hq).1
    have hs:=F_ (FR hk.2)
    obtain⟨f0,f1⟩:=Gb C hs
    refine⟨f0,?_⟩
    constructor<;>(intro q1 q2;simp only [sh,aq,ah] at q1 q2;try omega)
    all_goals
      intro i d hm
      first
        |exact absurd q1 f1
        | (simp only [sh,aq] at hm
           injection hm with _ _ _ hi hd
           exact⟨by rw [<-hd];exact C.ob q hq',.inl ⟨q,hq',hi,hd⟩⟩)
  · exact l2
theorem HU {w:WorldD} {l:List LetterD} (C:Core w) (hl:Sent w l):Go1 w (inB w (bQ w.b l).1) (bQ w.b l).2:=by
  have h:=GR (k:=3) C
  exact⟨h.c,h.le,zR (zR (hl.mono h.le) ((Iu C).mono h.le)) h.s⟩
theorem Iv {w:WorldD} (C:Core w):Go1 w (inB w (cQ w.b).1) (cQ w.b).2:=by
  have hst:=C.stb
  unfold cQ
  by_cases hk:AT w.b=true
  · rw [if_pos hk,if_pos hst]
    have ok:OkE { eR w.b with subs:=w.b.subs.map cW }:=GA C.okb hk
    have M:MildB w (inB w { eR w.b with subs:=w.b.subs.map cW }):=by
      refine⟨rfl,rfl,rfl,rfl,rfl,⟨[],by simp [inB]⟩,⟨ok,hst⟩,⟨rfl,rfl,rfl,rfl⟩,SubsKeep.map fun s _=>v4 s,List.filter_sublist,C.ob,C.fb,fun _ _ h=>h,HQ C.oib,C.iib⟩
    have g:Go1 w (inB w { eR w.b with subs:=w.b.subs.map cW }) (w.b.subs.flatMap (di w.b)):=by
      refine H8 M C fun C' x hx=>?_
      obtain⟨s,hs,hx⟩:=List.mem_flatMap.1 hx
      have S:=(C.sb s hs).st
      rw [di,if_neg (by omega)] at hx
      simp at hx
    have t:=HU g.c g.s
    exact⟨t.c,g.le.trans t.le,t.s⟩
  · rw [if_neg hk];exact Fy C
theorem II {w:WorldD} {a:ActD} (C:Core w) (G:SmallP w.b.inp) (hs:a.side=2) (hb:dl w a=false):Go1 w (cq (gD w a) 2 (ie w.b a).1) (ie w.b a).2:=by
  have ok:=G1 (a:=a) C.okb G
  have hE:bB w a.side=w.b:=by rw [hs];rfl
  have heo:af w.b=true:=p5.2 C.okb
  have hset:∀ (u:WorldD) (e:EndD),cq u 2 e={ u with b:=e }:=fun u e=>rfl
  rw [hset]
  unfold ie at ok⊢
  unfold gD
  rw [hE]
  by_cases k1:a.kind=1
  · simp only [if_pos k1]
    rw [dT,if_neg (by omega)]
    have ok1:=Ft (t:=a.text) C.okb
    have hw:cc w.b a.text=({ w.b with out:=(eL w.b.out a.text).1 },(eL w.b.out a.text).2):=AN heo
    rw [hw] at ok1
    rw [hw,aA,hw]
    dsimp only
    have M:MildB w { w with wroteB:=w.wroteB++a.text.take (eL w.b.out a.text).2,b:={ w.b with out:=(eL w.b.out a.text).1 } }:=
      ⟨rfl,rfl,rfl,rfl,rfl,⟨_,rfl⟩,⟨ok1.1,ok1.2.trans C.stb⟩,⟨rfl,rfl,rfl,rfl⟩,SubsKeep.refl _,List.Sublist.refl _,C.ob,C.fb,fun _ _ h=>h,Gy C.oib,C.iib⟩
    have g:=H8 M C fun _=>l2
    have g2:=GR (k:=3) g.c
    exact g.trans g2
  simp only [if_neg k1] at ok⊢
  by_cases k2:a.kind=2
  · simp only [if_pos k2] at ok⊢
    rw [bR,if_neg (by omega)]
    have hr:bi w.b a.many=({ w.b with inp:=(bK w.b.inp a.many).1 },(bK w.b.inp a.many).2):=AP heo
    rw [hr] at ok⊢
    exact H8 ⟨rfl,rfl,rfl,rfl,rfl,⟨[],by simp⟩,⟨ok.1,ok.2.trans C.stb⟩,⟨rfl,rfl,rfl,rfl⟩,SubsKeep.refl _,List.Sublist.refl _,C.ob,C.fb,fun _ _ h=>h,C.oib,HO C.iib⟩ C fun _=>l2
  simp only [if_neg k2] at ok⊢
  by_cases k3:a.kind=3
  · simp only [if_pos k3]
    exact Iv C
  simp only [if_neg k3] at ok⊢
  by_cases k4:a.kind=4
  · simp only [if_pos k4]
    unfold bb
    rw [if_neg (fun hc=>by have:=C.sib;omega)]
    exact Fy C
  simp only [if_neg k4] at ok⊢
  by_cases k5:a.kind=5
  · simp only [if_pos k5] at ok⊢
    unfold az at ok⊢
    split at ok
    · rename_i hk
      rw [if_pos hk]
      simp only [AR,Bool.and_eq_true,decide_eq_true_eq] at hk
      simp only [dl,k5,decide_true,Bool.true_and,Bool.or_eq_false_iff,Bool.not_eq_false',decide_eq_true_eq,hs] at hb
      refine H8 ⟨rfl,rfl,rfl,rfl,rfl,⟨[],by simp⟩,⟨ok.1,ok.2.trans C.stb⟩,⟨rfl,rfl,rfl,rfl⟩,SubsKeep.refl _,List.Sublist.refl _,fun q hq=>?_,C.fb,fun i d h=>?_,C.oib,C.iib⟩ C fun _=>l2
      · rcases sN hq with rfl|hq
        · exact hb.1
        · exact C.ob q hq
      · rcases h with⟨q,h1,h2,h3⟩|h
        · exact .inl ⟨q,E3 hk.1.2 h1,h2,h3⟩
        · exact .inr h
    · rename_i hk
      rw [if_neg hk];exact Fy C
  simp only [if_neg k5] at ok⊢
  by_cases k6:a.kind=6
  · simp only [if_pos k6] at ok⊢
    unfold iA at ok⊢
    split at ok
    · rename_i hk
      rw [if_pos hk]
      have K:SubsKeep w.b.subs (ic w.b a.pos):=SubsKeep.map fun s _=>by
        rw [Dt];split
        · exact⟨rfl,rfl,rfl,rfl,rfl,.inr rfl⟩
        · exact SubKeep.refl s
      refine H8 ⟨rfl,rfl,rfl,rfl,rfl,⟨[],by simp⟩,⟨ok.1,ok.2.trans C.stb⟩,⟨rfl,rfl,rfl,rfl⟩,K,List.Sublist.refl _,fun q hq=>C.ob q (qs hq),C.fb,fun i d h=>?_,C.oib,C.iib⟩ C fun C' x hx=>?_
      · rcases h with⟨q,h1,h2,h3⟩|h
        · by_cases hn:q.id=a.pos
          · exact .inr (by dsimp only;rw [<-h2,hn];exact Gr)
          · exact .inl ⟨q,w4 h1 hn,h2,h3⟩
        · exact .inr (Gs h)
      · obtain⟨k,hk2,rfl⟩:=List.mem_map.1 hx
        exact⟨(Gb C' (F_ hk2)).1,u5 (by simp [E6,Bj,aq])⟩
    · rename_i hk
      rw [if_neg hk];exact Fy C
  simp only [if_neg k6] at ok⊢
  unfold ks at ok⊢
  split at ok
  · rename_i hk
    rw [if_pos hk]
    simp only [EE,Bool.and_eq_true,decide_eq_true_eq,vP] at hk
    refine H8 ⟨rfl,rfl,rfl,rfl,rfl,⟨[],by simp⟩,⟨ok.1,ok.2.trans C.stb⟩,⟨rfl,rfl,rfl,rfl⟩,SubsKeep.st4 _ _,List.Sublist.refl _,C.ob,C.fb,fun _ _ h=>h,C.oib,C.iib⟩ C fun _=>ua ?_ (u5 (by simp [E6,aq]))
    have hl:a.pos.toNat < w.b.subs.length:=by omega
    rw [ke hl]
    exact (Gb C (List.getElem_mem hl)).1
  · rename_i hk
    rw [if_neg hk];exact Fy C
theorem GS {w:WorldD} {x:LetterD} (C:Core w) (h:xa w x=true):(∀ k a b m n,x.tag=⟨k,a,b,m,n⟩->1000<=a->¬ k=0->k=1/\Loose w.nums n)/\Loose w.nums x.nonce/\Loose w.nums x.sgn/\Loose w.nums x.give:=by
 simp only [xa,Bool.and_eq_true,Bool.not_eq_true',decide_eq_false_iff_not,List.all_cons,List.all_nil,Bool.or_eq_true,decide_eq_true_eq,wp,and_true] at h
 obtain⟨⟨⟨h1,h2⟩,h3⟩,_,q2,q3,q4⟩:=h
 refine⟨fun k a b m n he ha hk=>?_,q2,q4,q3⟩
 simp only [f7,Bool.or_eq_true,decide_eq_true_eq,Bool.and_eq_true,wp,List.any_eq_true] at h3
 rw [he] at h3
 rcases h3 with (h3|h3)|⟨u,u1,u2⟩
 ·rw [lF] at h3
  injection h3 with e
  exact absurd e hk
 ·rw [C.keys] at h3
  simp only [List.mem_cons,List.not_mem_nil,or_false] at h3
  omega
 have:=C.tags u (List.mem_of_mem_take u1)
 rw [u2] at this
 exact this
theorem GB {w:WorldD} {x:LetterD} (C:Core w) (h:xa w x=true):LetI w x:=by
 obtain⟨no,q2,q4,_⟩:=GS C h
 have n1:∀ k a b m n,x.tag=⟨k,a,b,m,n⟩->1000<=a->¬ k=0->¬ k=1->False:=fun k a b m n he ha hk h1=>h1 (no k a b m n he ha hk).1
 exact⟨fun _ _=>q2,fun _ _ m hm=>.inl (no _ _ _ _ _ hm C.kb (by decide)).2,fun _ _ m n hm=>n1 _ _ _ _ _ hm C.kb (by decide) (by decide),fun _ _=>.inl q4,fun _ _ i d hm=>(n1 _ _ _ _ _ hm C.kb (by decide) (by decide)).elim,fun _ _=>.inl q4,fun _ _=>.inl q2,fun _ _ m n hm=>(n1 _ _ _ _ _ hm C.ka (by decide) (by decide)).elim,fun _ _ i d hm=>(n1 _ _ _ _ _ hm C.ka (by decide) (by decide)).elim,fun _ _=>.inl q4⟩
theorem Inv.step {w w':WorldD} {l:List LetterD} {side:Int} (h:Inv w) (S:Step w w' l) (hb:w'.bag=w.bag) (hp:w'.past=w.past):Inv (an side w' l):=
 FP ⟨S.c,fun x hx=>(h.bag x (hb▸hx)).mono S.le,fun x hx=>(h.past x (hp▸hx)).mono S.le⟩ S.post
theorem G6 {w:WorldD} {l:List LetterD} (h:Inv w) (hl:∀ x∈l,LetI w x):Inv { w with bag:=l }:=by
 have L:Le w { w with bag:=l }:=E8 rfl rfl (fun _ h=>h) rfl rfl
 exact⟨Gw h.c,fun x hx=>(hl x hx).mono L,fun x hx=>(h.past x hx).mono L⟩
theorem Hn {w:WorldD} {x:LetterD} (h:Inv w) (ga:SmallP w.a.inp) (gb:SmallP w.b.inp) (L:LetI w x):Inv (eF w x):=by
 rcases oU x.to with h0|h0|h0
 ·rw [eF,if_pos h0];exact h
 ·rw [eF,if_neg (by omega),qe,if_pos (.inl h0),h0]
  exact h.step (In h.c ga L h0) rfl rfl
 rw [eF,if_neg (by omega),qe,if_pos (.inr h0),h0]
 exact h.step (Io h.c gb L h0) rfl rfl
theorem Ho (w:WorldD) (a:ActD) (s:Int) (e:EndD):(cq (gD w a) s e).bag=w.bag/\(cq (gD w a) s e).past=w.past:=by
 unfold cq gD dT bR
 repeat' split
 all_goals exact⟨rfl,rfl⟩
theorem Fz {l:List LetterD} {n:Nat} (h:n < l.length):oX l n∈l:=by
 rw [oX,List.getD_eq_getElem?_getD,List.getElem?_eq_getElem h];exact List.getElem_mem h
theorem GT {l:List LetterD} {n:Int} {x:LetterD} (h:x∈fF l n):x∈l:=(qr l n.toNat).subset h
theorem Hq {w:WorldD} {a:ActD} (h:Inv w) (ga:SmallP w.a.inp) (gb:SmallP w.b.inp):Inv (iP w a).1:=by
 unfold iP;split
 ·rename_i hok
  have hs:=uQ hok
  have hp:=Hf hok
  split
  ·unfold eX;split
   ·exact h
   rename_i hb
   have hb:dl w a=false:=by simpa using hb
   obtain⟨k1,k2⟩:=Ho w a a.side (ie (bB w a.side) a).1
   rcases hs with hs|hs
   ·have g:=IH h.c ga hs hb
    have hE:bB w a.side=w.a:=by rw [hs];rfl
    rw [hE] at k1 k2⊢
    rw [hs] at k1 k2⊢
    exact h.step g.step k1 k2
   have g:=II h.c gb hs hb
   have hE:bB w a.side=w.b:=by rw [hs];rfl
   rw [hE] at k1 k2⊢
   rw [hs] at k1 k2⊢
   exact h.step g.step k1 k2
  have hout:Inv { w with bag:=fF w.bag a.pos }:=G6 h fun x hx=>h.bag x (GT hx)
  have app:∀ x,LetI w x->Inv { w with bag:=w.bag++[x] }:=fun x hx=>G6 h fun y hy=>by
   rcases List.mem_append.1 hy with hy|hy
   ·exact h.bag y hy
   rw [List.mem_singleton.1 hy];exact hx
  unfold ce
  split
  ·split
   ·exact h
   rename_i hl
   split
   ·refine Hn hout ga gb ?_
    exact (h.bag _ (Fz (show a.pos.toNat < w.bag.length by omega))).mono (E8 rfl rfl (fun _ h=>h) rfl rfl)
   exact hout
  split
  ·split
   ·exact h
   rename_i hl
   rw [not_or] at hl
   exact app _ (h.bag _ (Fz (by omega)))
  split
  ·split
   ·exact h
   rename_i hm
   split
   ·exact h
   exact app _ (GB h.c (by simpa using hm))
  split
  ·exact h
  rename_i hl
  rw [not_or] at hl
  exact app _ (h.past _ (Fz (by omega)))
 exact h
theorem Core.pairedA {w:WorldD} (C:Core w):p7 w.a w.b=true:=by
 simp only [p7,List.all_eq_true,Bool.or_eq_true,bne_iff_ne,np,List.any_eq_true]
 intro s hs
 by_cases h3:s.state=3
 ·obtain⟨t,t1,t2,t3,t4⟩:=(C.sa s hs).on h3
  refine .inr ⟨t,t1,?_⟩
  simp [p6,t2,bk,t3,t4]
 exact .inl h3
theorem Core.pairedB {w:WorldD} (C:Core w):p7 w.b w.a=true:=by
 simp only [p7,List.all_eq_true,Bool.or_eq_true,bne_iff_ne,np,List.any_eq_true]
 intro s hs
 obtain⟨t,t1,_,t2,t3,t4⟩:=(C.sb s hs).like
 refine .inr ⟨t,t1,?_⟩
 simp [p6,t2,bk,t3,t4]
theorem InI.begins {W R:List UInt8} {p:PiecesD} (h:InI W R p):Es W (R++p.ready)=true:=by
 obtain⟨T,hT⟩:=h.pre
 simp only [Go.Proofs.YtjghbknhneffjaaGreat.Es,Bool.and_eq_true,decide_eq_true_eq,beq_iff_eq]
 rw [hT]
 exact⟨by simp only [List.length_append];omega,List.take_left ..⟩
theorem Core.streams {w:WorldD} (C:Core w):la w=true:=by
 rw [la,C.iib.begins,C.iia.begins];rfl
theorem Core.roadsA {w:WorldD} (C:Core w):lb w.a=true:=by
 rw [lb,List.all_eq_true]
 intro s hs
 have S:=C.sa s hs
 rw [c6,S.own,S.far,C.sia];decide
theorem Core.roadsB {w:WorldD} (C:Core w):lb w.b=true:=by
 rw [lb,List.all_eq_true]
 intro s hs
 obtain⟨h1,h2⟩:=Hm C hs
 rw [c6,h1,h2,C.sib];decide
theorem G7 {b:EndD} {f:AddrD} (h:Told b f.id f.addr):tS b f=true:=by
 simp only [tS,fN,Bool.or_eq_true,List.any_eq_true,beq_iff_eq,wp]
 exact h.imp (fun⟨q,q1,_,q3⟩=>⟨q,q1,q3⟩) id
theorem Core.far_ {w:WorldD} (C:Core w):v6 w=true:=by
 simp only [v6,GF,Bool.and_eq_true,List.all_eq_true]
 exact⟨fun f hf=>G7 (C.fa f hf).2,fun f hf=>G7 (C.fb f hf).2⟩
theorem Start.inv {w:WorldD} (S:Start w):Inv w:=by
 have h:=S.e
 simp only [startE,Bool.and_eq_true,decide_eq_true_eq] at h
 obtain⟨⟨⟨⟨⟨⟨oa,ob⟩,a1,a2,a3,a4,a5,a6,a7,a8,a9,a10,a11,a12⟩,b1,b2,b3,b4,b5,b6,b7,b8⟩,c1,c2⟩,d1,d2,d3,d4,d5,d6⟩,e1,e2⟩:=h
 refine⟨⟨p5.1 oa,p5.1 ob,a1,a2,a3,a4,by omega,by omega,by omega,by omega,by omega,S.keys,by rw [S.tags];simp,by omega,by omega,by rw [S.nums];simp,?_,by rw [e1];simp,?_,by rw [b1];simp,by rw [b2];simp,by rw [b2];simp,by rw [b3];decide,by rw [b4];decide,?_,?_,by rw [S.wa,c1];exact⟨by decide,rfl⟩,by rw [S.wb,c2];exact⟨by decide,rfl⟩,by rw [S.wb,S.ra];exact⟨d1,⟨[],by rw [d2];rfl⟩,by rw [d3];simp⟩,by rw [S.wa,S.rb];exact⟨d4,⟨[],by rw [d5];rfl⟩,by rw [d6];simp⟩⟩,by rw [S.bag];simp,by rw [S.past];simp⟩
 ·rw [S.nums,b2,e1,e2,a9,a10]
  intro s hs
  rw [List.mem_singleton.1 hs]
  exact⟨by decide,by simp,.inl rfl,by decide,by decide,⟨by decide,by simp⟩,fun _=>⟨_,List.mem_singleton.2 rfl,rfl,rfl,rfl⟩,by decide⟩
 ·rw [S.nums,e1,e2,a10]
  intro s hs
  rw [List.mem_singleton.1 hs]
  exact⟨by decide,by simp,.inl rfl,⟨_,List.mem_singleton.2 rfl,by decide,rfl,rfl,rfl⟩⟩
 ·rw [b5]
  intro f hf
  rw [dO,List.mem_singleton] at hf
  rw [hf]
  exact⟨by decide,.inl ⟨⟨0,21,false,true⟩,by rw [b4];simp [eK],rfl,rfl⟩⟩
 rw [b6]
 intro f hf
 rw [dO,List.mem_singleton] at hf
 rw [hf]
 exact⟨by decide,.inl ⟨⟨0,11,false,true⟩,by rw [b3];simp [eK],rfl,rfl⟩⟩
theorem tk (t h:List UInt8):aP 117 [.sc (.st t),.sc (.st h)] ([]) (.sc (.bo (Es t h))) ([]):=by
 refine qE Tryz.func117 Tryz.ntmps117 Tryz.results117 fun E hE=>?_
 refine qB (fun h1=>?_) fun h1=>?_
 ·skip
  refine qJ [] ?_
  simp [Es,h1]
 refine qJ [] ?_
 simp [Es,h1]
theorem Fn (w:WorldD) (s1:w.readB.length+w.b.inp.ready.length<=4611686018427387904) (s2:w.readA.length+w.a.inp.ready.length<=4611686018427387904):aP 53 [.ag (w.cs 0)] (w.hp false) (.sc (.bo (la w))) (w.hp false):=by
 refine qE Tryz.func53 Tryz.ntmps53 Tryz.results53 fun E hE=>?_
 refine qK (tk _ _) [] ?_
 refine qB (fun h1=>?_) fun h1=>?_
 ·skip
  refine qK (tk _ _) [] ?_
  refine qJ (qI 0 21) ?_
  simp [la,h1]
 refine qJ (qI 0 21) ?_
 simp [la,h1]
theorem GL (w:WorldD) (a1:w.a.far.length<=1048576) (a2:w.b.own.length<=1048576) (a3:w.b.done.length<=1048576) (b1:w.b.far.length<=1048576) (b2:w.a.own.length<=1048576) (b3:w.a.done.length<=1048576):aP 55 [.ag (w.cs 0)] (w.hp false) (.sc (.bo (v6 w))) (w.hp false):=by
 refine qE Tryz.func55 Tryz.ntmps55 Tryz.results55 fun E hE=>?_
 refine qK (EY w.a w.b a1 a2 a3) (qI 0 14) ?_
 refine qB (fun h1=>?_) fun h1=>?_
 ·skip
  refine qK (EY w.b w.a b1 b2 b3) (qI 7 7++qI 0 7) ?_
  refine qJ (qI 0 21) ?_
  simp [v6,h1]
 refine qJ (qI 0 21) ?_
 simp [v6,h1]
def c5 (w:WorldD):Bool:=af w.a && af w.b && p7 w.a w.b && p7 w.b w.a && la w && lb w.a && lb w.b && v6 w
theorem Fo (w:WorldD) (a0:w.a.own.length<=1048576) (a1:w.a.far.length<=1048576) (a2:w.a.subs.length<=1048576) (a3:w.a.halfs.length<=1048576) (a4:w.a.inp.list.length<=1048576) (a5:w.a.done.length<=1048576) (a6:w.a.over.length<=1048576) (b0:w.b.own.length<=1048576) (b1:w.b.far.length<=1048576) (b2:w.b.subs.length<=1048576) (b3:w.b.halfs.length<=1048576) (b4:w.b.inp.list.length<=1048576) (b5:w.b.done.length<=1048576) (b6:w.b.over.length<=1048576) (s1:w.readB.length+w.b.inp.ready.length<=4611686018427387904) (s2:w.readA.length+w.a.inp.ready.length<=4611686018427387904):aP 11 [.ag (w.cs 0)] (w.hp false) (.sc (.bo (c5 w))) (w.hp false):=by
 refine qE Tryz.func11 Tryz.ntmps11 Tryz.results11 fun E hE=>?_
 refine qK (au w.a a0 a1 a2 a3 a4 a5 a6) (qI 0 7) ?_
 refine qB (fun g0=>?_) fun g0=>?_
 ·skip
  refine qK (au w.b b0 b1 b2 b3 b4 b5 b6) (qI 7 7) ?_
  refine qB (fun g1=>?_) fun g1=>?_
  ·skip
   refine qK (E0 w.a w.b a2 b2) (qI 0 14) ?_
   refine qB (fun g2=>?_) fun g2=>?_
   ·skip
    refine qK (E0 w.b w.a b2 a2) (qI 7 7++qI 0 7) ?_
    refine qB (fun g3=>?_) fun g3=>?_
    ·skip
     refine qK (Fn w s1 s2) (qI 0 21) ?_
     refine qB (fun g4=>?_) fun g4=>?_
     ·skip
      refine qK (u8 w.a a2) (qI 0 7) ?_
      refine qB (fun g5=>?_) fun g5=>?_
      ·skip
       refine qK (u8 w.b b2) (qI 7 7) ?_
       refine qB (fun g6=>?_) fun g6=>?_
       ·skip
        refine qK (GL w a1 b0 b5 b1 a0 a5) (qI 0 21) ?_
        refine qJ (qI 0 21) ?_
        simp [c5,g0,g1,g2,g3,g4,g5,g6]
       refine qJ (qI 0 21) ?_
       simp [c5,g6]
      refine qJ (qI 0 21) ?_
      simp [c5,g5]
     refine qJ (qI 0 21) ?_
     simp [c5,g4]
    refine qJ (qI 0 21) ?_
    simp [c5,g3]
   refine qJ (qI 0 21) ?_
   simp [c5,g2]
  refine qJ (qI 0 21) ?_
  simp [c5,g1]
 refine qJ (qI 0 21) ?_
 simp [c5,g0]
structure Same4 (e e':EndD):Prop where
 subs:e'.subs=e.subs
 far:e'.far=e.far
 inp:e'.inp=e.inp
 out:e'.out=e.out
theorem Same4.refl (e:EndD):Same4 e e:=⟨rfl,rfl,rfl,rfl⟩
theorem Pt {e:EndD} {x:LetterD}:Same4 e (br e x).1:=by
 unfold br;split
 ·split<;>exact⟨rfl,rfl,rfl,rfl⟩
 exact Same4.refl e
theorem O_ {e:EndD} {x:LetterD} (hst:e.state=2) (hsg:∀ s∈e.subs,¬ s.take=x.sgn) (h5:tO e x=false) (h6:∀ m n,¬ x.tag=⟨2,e.peer,e.key,m,n⟩):Same4 e (bM e x).1:=by
 have hon:¬ 0<=fo e x:=fun hc=>by
  obtain⟨n,_,_,hn,_,ht,_⟩:=Hh hc
  exact hsg _ (List.getElem_mem hn) ht
 refine jS (Q:=fun r=>Same4 e r.1) (Same4.refl e) ?_ ?_ ?_ ?_ ?_ ?_ ?_ ?_ ?_ ?_ ?_ ?_
 ·rw [ax,if_neg]
  ·exact Same4.refl e
  simp only [f8,Bool.and_eq_true,decide_eq_true_eq];omega
 ·rw [aS,if_neg]
  ·exact Same4.refl e
  simp only [i2,Bool.and_eq_true,decide_eq_true_eq];omega
 ·exact Pt
 ·rw [Et h5];exact Same4.refl e
 ·have hA:rE e x=false:=by
   cases hj:rE e x with
   |false=>rfl
   |true=>
    simp only [rE,Bool.and_eq_true,decide_eq_true_eq] at hj
    exact absurd hj.2 (h6 _ _)
  have hB:BN e x=false:=by
   cases hj:BN e x with
   |false=>rfl
   |true=>
    simp only [BN,Bool.and_eq_true,decide_eq_true_eq] at hj
    exact absurd hj.2 (h6 _ _)
  by_cases hI:mE e x=true
  ·rw [Dp hI hA hB];exact Same4.refl e
  rw [Ev (by simpa using hI)];exact Same4.refl e
 ·rw [Dk]
  ·exact Same4.refl e
  cases hj:mu e x with
  |false=>rfl
  |true=>
   simp only [mu,Bool.and_eq_true,decide_eq_true_eq] at hj
   obtain⟨⟨⟨_,q3⟩,_⟩,q5⟩:=hj
   obtain⟨n,e1,hn,_⟩:=ws q3
   rw [e1,Int.toNat_natCast,ke hn] at q5
   exact absurd q5 (hsg _ (List.getElem_mem hn))
 ·rw [bC,if_neg]
  ·exact Same4.refl e
  simp only [lH,Bool.and_eq_true,decide_eq_true_eq]
  exact fun h=>hon h.1.1.1.1
 ·rw [bD];dsimp only;rw [if_neg]
  ·exact Same4.refl e
  simp only [hZ,Bool.and_eq_true,decide_eq_true_eq]
  exact fun h=>hon h.1.1
 ·rw [bE];dsimp only;rw [if_neg]
  ·exact Same4.refl e
  simp only [mJ,Bool.and_eq_true,decide_eq_true_eq]
  exact fun h=>hon h.1
 ·rw [bF,if_neg]
  ·exact Same4.refl e
  simp only [qb,Bool.and_eq_true,decide_eq_true_eq]
  exact fun h=>hon h.1
 ·rw [bA];dsimp only;rw [if_neg hon]
  exact Same4.refl e
 rw [bf];dsimp only;rw [if_neg hon]
 exact Same4.refl e
theorem Pu {w:WorldD} {x:LetterD} (C:Core w) (h:xa w x=true):Same4 w.a (bM w.a x).1:=by
 obtain⟨no,_,q4,_⟩:=GS C h
 refine O_ C.sta (fun s hs hc=>G3 C hs (by rw [hc];exact q4)) ?_ fun m n hm=>?_
 ·cases hj:tO w.a x with
  |false=>rfl
  |true=>
   simp only [tO,Bool.and_eq_true,decide_eq_true_eq] at hj
   obtain⟨⟨⟨_,p4⟩,p5⟩,p6⟩:=hj
   obtain⟨n,e1,hn,_⟩:=ws p4
   rw [e1,Int.toNat_natCast,ke hn] at p5 p6
   rw [C.pa] at p6
   have hs:=List.getElem_mem hn
   have h2:=(no _ _ _ _ _ p6 C.kb (by decide)).2
   exact absurd h2 (G4 C hs ((C.sa _ hs).ask (.inl p5)))
 rw [C.pa] at hm
 have:=(no _ _ _ _ _ hm C.kb (by decide)).1
 omega
theorem Pv {w:WorldD} {x:LetterD} (C:Core w) (h:xa w x=true):Same4 w.b (bM w.b x).1:=by
 obtain⟨no,_,q4,_⟩:=GS C h
 refine O_ C.stb (fun s hs hc=>H2 C hs (by rw [hc];exact q4)) ?_ fun m n hm=>?_
 ·cases hj:tO w.b x with
  |false=>rfl
  |true=>
   simp only [tO,Bool.and_eq_true,decide_eq_true_eq] at hj
   obtain⟨⟨⟨_,p4⟩,p5⟩,_⟩:=hj
   obtain⟨n,e1,hn,_⟩:=ws p4
   rw [e1,Int.toNat_natCast,ke hn] at p5
   have:=(C.sb _ (List.getElem_mem hn)).st
   omega
 rw [C.pb] at hm
 have:=(no _ _ _ _ _ hm C.ka (by decide)).1
 omega
theorem Pk {w:WorldD} {x:LetterD} (C:Core w) (h:xa w x=true):Same4 w.a (eF w x).a/\Same4 w.b (eF w x).b:=by
 rcases oU x.to with h0|h0|h0
 ·rw [eF,if_pos h0];exact⟨Same4.refl _,Same4.refl _⟩
 ·rw [eF,if_neg (by omega),qe,if_pos (.inl h0),h0]
  obtain⟨e1,e2,_⟩:=ba (side:=1) (l:=(bM (bB w 1) x).2) (w:=cq w 1 (bM (bB w 1) x).1)
  rw [e1,e2]
  exact⟨Pu C h,Same4.refl _⟩
 rw [eF,if_neg (by omega),qe,if_pos (.inr h0),h0]
 obtain⟨e1,e2,_⟩:=ba (side:=2) (l:=(bM (bB w 2) x).2) (w:=cq w 2 (bM (bB w 2) x).1)
 rw [e1,e2]
 exact⟨Same4.refl _,Pv C h⟩
theorem Core.safe {w:WorldD} (C:Core w):c5 w=true:=by
 rw [c5,p5.2 C.oka,p5.2 C.okb,C.pairedA,C.pairedB,C.streams,C.roadsA,C.roadsB,C.far_];rfl
structure Life (w:WorldD) (k:Nat):Prop where
 g:GoodW w k
 i:Inv w
 n:AnsW w
theorem Life.step {w:WorldD} {a:ActD} {k:Nat} (h:Life w k) (ha:a.text.length<=1048576):Life (iP w a).1 (k+1):=⟨B5 h.g ha,Hq h.i h.g.a.p h.g.b.p,B_ h.n⟩
theorem HV {l:List ActD} {w:WorldD} {cs:List Int} {k:Nat} (h:Life w k) (hl:∀ a∈l,a.text.length<=1048576):Life (gw l w cs).1 (k+l.length)/\(gw l w cs).2.length=cs.length+l.length:=
 sH (Q:=Life) (P:=fun a=>a.text.length<=1048576) (fun w k a h ha=>h.step ha) h hl
theorem LC (l:List Nat) (hl:l.length<=1048576):aP 17 [.sc (.sl 0 0 l.length),.sc (.sl 1 0 l.length)] [some ⟨l.map pM,1,3,false,true⟩,some ⟨l.map pM,1,3,false,true⟩] (.sc (.bo true)) [some ⟨l.map pM,1,3,false,true⟩,some ⟨l.map pM,1,3,false,true⟩]:=by
 have h:=ft (l.map fun n:Nat=>Int.ofNat n) (by rw [List.length_map];omega)
 rw [List.length_map,List.map_map] at h
 exact h
theorem O3 (b:List UInt8) (hb:b.length<=maxLen) (_:∀ x∈b,True):aP 3 [.sc (.sl 0 0 b.length)] [some ⟨b.map ew,1,5,false,true⟩] (.sc (.bo true)) [some ⟨b.map ew,1,5,false,true⟩]:=by
 refine qE Tryz.func3 Tryz.ntmps3 Tryz.results3 fun E hE=>?_
 refine qK (DF b hb) (qI 0 1) ?_
 refine qB (fun h=>?_) fun h=>?_
 ·exact qF (qI 0 1)
 obtain⟨w,x,hw,⟨w0,l,f0,hl,hla,hwl⟩,hD⟩:=L3 b (by omega)
 have L:Life w (0+l.length):=by
  rw [hwl]
  exact (HV (l:=l) (w:=w0) (cs:=[]) (k:=0) ⟨f0.g,f0.st.inv,f0.st.ans⟩ fun a ha=>by have:=(hla a ha).2.1;omega).1
 have C:=L.i.c
 have hs:=hw.g.s
 have b1:=hw.g.ra
 have b2:=hw.g.rb
 have b3:=hw.g.a.p.ready
 have b4:=hw.g.b.p.ready
 have s0:=Fo w hs.a.own hs.a.far hs.a.subs hs.a.halfs hs.a.list hs.a.done hs.a.over hs.b.own hs.b.far hs.b.subs hs.b.halfs hs.b.list hs.b.done hs.b.over (by omega) (by omega)
 rw [C.safe] at s0
 have mm1:=p9 w x hs.keys hs.tags hs.nums
 have mm2:=Ff w x hs.keys hs.tags hs.nums
 have hin:xa w x=true->_:=fun h=>Pk C h
 have hsw:SmallWP w:=⟨hs,hw.g.a.p,hw.g.b.p⟩
 have l1:=n8 w x hsw
 have l2:=uw w x hsw
 have gy:=(uM (x:=x) hw.g).s
 obtain⟨y,hY⟩:∃ y,y=eF w x:=⟨_,rfl⟩
 rw [<-hY] at hin l1 l2 gy
 clear hY hwl f0 hla L C
 generalize xa w x=q at mm1 mm2 hin
 refine qK (hD) (qI 0 1) ?_
 refine qK (s0) (qI 1 21) ?_
 refine qK (mm1) (qI 1 21) ?_
 refine qK (mm2) (qI 1 21) ?_
 cases q
 ·refine qX ?_
  exact qF (qI 0 1)
 obtain⟨hA,hB⟩:=hin rfl
 have t1:=FC y gy
 have t2:=m2 y.a gy.a.subs
 have t3:=oK w.a hs.a.subs
 have t4:=m2 y.b gy.b.subs
 have t5:=oK w.b hs.b.subs
 rw [hA.subs] at t2
 rw [hB.subs] at t4
 have n1:=LC (j0 w.a.subs) (by have:=pO w.a.subs;have:=hs.a.subs;omega)
 have n2:=LC (j0 w.b.subs) (by have:=pO w.b.subs;have:=hs.b.subs;omega)
 have k1:=ub y.a.far (by have:=gy.a.far;omega)
 have k2:=ub y.b.far (by have:=gy.b.far;omega)
 have k3:=E7 y.a.inp (by have:=gy.a.list;omega)
 have k4:=E7 y.b.inp (by have:=gy.b.list;omega)
 obtain⟨_,a2,a3,a4⟩:=hA
 obtain⟨_,d2,d3,d4⟩:=hB
 refine qX ?_
 refine qK (l1) (qI 1 21) ?_
 refine qD [0,1,2,3,4,5,6,7,9,10,8,11,12,13,14,15,16,18,19,17,20,21,22,23,24,25,26,27,28,29,30,31,32,33,34,35,36,37,38,39,40,41,42,43,44,45,46,47,48,49,50,51,52,53,54,55,56,57,58,59,60,61,62,63,64,65,66,67,68,69,70,71,72,73,74,75,76,77] ?_
 refine aQ (l2) (qI 1 21) ?_
 refine aQ (t1) (qI 24 21++qI 46 21) ?_
 refine aQ (t2) (qI 24 7) ?_
 refine aQ (t3) (qI 1 7) ?_
 refine aQ (n1) (qI 67 2) ?_
 refine aQ (t4) (qI 31 7) ?_
 refine aQ (t5) (qI 8 7) ?_
 refine aQ (n2) (qI 69 2) ?_
 try simp (disch:=omega) only [go_sem,seval,<-a2,<-a3,<-a4,<-d2,<-d3,<-d4]
 refine aQ (k1) (qI 25 1++qI 2 1) ?_
 refine aQ (k2) (qI 32 1++qI 9 1) ?_
 refine aQ (k3) (qI 28 1++qI 5 1) ?_
 refine aQ (k4) (qI 35 1++qI 12 1) ?_
 refine qG ?_
 exact qF (qI 0 1)
end
end Go.Proofs.YtjghbknhneffjaaGreat
