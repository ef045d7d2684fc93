/-
  Texts merged for this claim by shake.py: what its proof needs.
-/
import Derived.Tactics
import Derived.Below
import Derived.Laws.AppendOwn
import Derived.Laws.OwnMore
import Derived.Laws.Slices
import Derived.Laws.Small
import Derived.Laws.Strings
import Derived.KernelRfl
import Derived.Laws.MakeOwn
import Derived.Laws.BytesString
import Derived.Laws.BytesArg
import Derived.Laws.Build
import Derived.Laws.Concat
import Derived.Laws.StructEq
import Derived.Lib.ConvBytes
import Derived.Orders
import Derived.WalkKit
import Derived.ProofKit
import Derived.ShutString
import Derived.OpenShut
import Derived.ChangeOld
import Derived.Carry
import Derived.Test.YtbgakfbnkkfbkaaGreatChecked
import Derived.Laws.BitsLemmas
import Derived.JoinedOf
import Derived.Test.YtbgakfbnkkfbkaaGreatZFnBaseA
import Derived.Test.YtbgakfbnkkfbkaaGreatZFnBaseB
import Derived.Test.YtbgakfbnkkfbkaaGreatZFnBaseD
import Derived.Test.YtbgakfbnkkfbkaaGreatZFnBaseE
import Derived.Test.YtbgakfbnkkfbkaaGreatZFnBaseF
import Derived.Test.YtbgakfbnkkfbkaaGreatZFnBaseG
import Derived.Test.YtbgakfbnkkfbkaaGreatZFnBaseH
import Derived.Test.YtbgakfbnkkfbkaaGreatZFnBaseI
set_option maxHeartbeats 16000000
set_option maxRecDepth 100000
set_option linter.unusedVariables false
set_option linter.unusedSimpArgs false
namespace Go.Proofs.YtbgakfbnkkfbkaaGreat
section
open Go.RowKit
theorem uy (e:EndD) (x:LetterD) (hs:Small e) (hsp:SmallP e.inp):ae Tryz.prog 248 [.ag (e.cs 0),.ag x.cs] (e.hp false) (.tu [.ag ((cZ e x).1.cs 7),.sc (.sl 14 0 (cZ e x).2.length)])
  (e.hp false++((cZ e x).1.hp true++[some ⟨(cZ e x).2.map LetterD.cs,19,91,true,true⟩])):=by
 have hC:=(qH (aK e))
 have hK:=(qH (bf e))
 have hL:=bt x
 have hO:=gB e x.to (by have:=hs.own;omega)
 have hf:=vG (e:=e) (x:=x)
 have hno:=y5 (e:=e) (x:=x)
 have hr1:=y6 (e:=e) (x:=x)
 have hr2:=y7 (e:=e) (x:=x)
 have hr4:=y8 (e:=e) (x:=x)
 have hr5:=y9 (e:=e) (x:=x)
 have hr6:=y_ (e:=e) (x:=x)
 have hr7:=za (e:=e) (x:=x)
 have hr8:=zb (e:=e) (x:=x)
 have hr9:=zc (e:=e) (x:=x)
 have hr10:=vH (e:=e) (x:=x)
 have hr11:=vI (e:=e) (x:=x)
 have hr12:=vJ (e:=e) (x:=x)
 have hr13:=vK (e:=e) (x:=x)
 generalize cZ e x=R at*
 refine qE Tryz.func248 Tryz.ntmps248 Tryz.results248 fun E hE=>?_
 refine qK (hK) (qI 0 7) ?_
 refine qB (fun h1=>?_) fun h1=>?_
 ·refine qK (hL) [] ?_
  refine qB (fun h2=>?_) fun h2=>?_
  ·refine qK (hO) (qI 0 7) ?_
   refine qB (fun h3=>?_) fun h3=>?_
   ·rw [hf (by simp [cT,h1,h2,h3])]
    refine qX ?_
    refine qK (hC) (qI 0 7) ?_
    exact qF (qI 0 7++qI 10 7++qO 1)
   have hh:cT e x=true:=by simp [cT,h1,h2,h3]
   refine qX ?_
   refine qB (fun k1=>?_) fun k1=>?_
   ·rw [hr1 hh k1]
    refine qX ?_
    refine qK (qs e x hs) (qI 0 7) ?_
    exact qF (qI 0 7++qI 10 8)
   refine qX ?_
   refine qB (fun k2=>?_) fun k2=>?_
   ·rw [hr2 hh k2]
    refine qX ?_
    refine qK (s_ e x hs) (qI 0 7) ?_
    exact qF (qI 0 7++qI 10 8)
   refine qX ?_
   refine qB (fun k4=>?_) fun k4=>?_
   ·rw [hr4 hh k4]
    refine qX ?_
    refine qK (te e x hs) (qI 0 7) ?_
    exact qF (qI 0 7++qI 10 8)
   refine qX ?_
   refine qB (fun k5=>?_) fun k5=>?_
   ·rw [hr5 hh k5]
    refine qX ?_
    refine qK (mS e x hs) (qI 0 7) ?_
    exact qF (qI 0 7++qI 10 8)
   refine qX ?_
   refine qB (fun k6=>?_) fun k6=>?_
   ·rw [hr6 hh k6]
    refine qX ?_
    refine qK (mU e x hs) (qI 0 7) ?_
    exact qF (qI 0 7++qI 10 8)
   refine qX ?_
   refine qB (fun k7=>?_) fun k7=>?_
   ·rw [hr7 hh k7]
    refine qX ?_
    refine qK (nP e x hs) (qI 0 7) ?_
    exact qF (qI 0 7++qI 10 8)
   refine qX ?_
   refine qB (fun k8=>?_) fun k8=>?_
   ·rw [hr8 hh k8]
    refine qX ?_
    refine qK (tg e x hs) (qI 0 7) ?_
    exact qF (qI 0 7++qI 10 8)
   refine qX ?_
   refine qB (fun k9=>?_) fun k9=>?_
   ·rw [hr9 hh k9]
    refine qX ?_
    refine qK (ti e x hs) (qI 0 7) ?_
    exact qF (qI 0 7++qI 10 8)
   refine qX ?_
   refine qB (fun k10=>?_) fun k10=>?_
   ·rw [hr10 hh k10]
    refine qX ?_
    refine qK (tj e x hs) (qI 0 7) ?_
    exact qF (qI 0 7++qI 10 8)
   refine qX ?_
   refine qB (fun k11=>?_) fun k11=>?_
   ·rw [hr11 hh k11]
    refine qX ?_
    refine qK (tt e x hs hsp) (qI 0 7) ?_
    exact qF (qI 0 7++qI 10 8)
   refine qX ?_
   refine qB (fun k12=>?_) fun k12=>?_
   ·rw [hr12 hh k12]
    refine qX ?_
    refine qK (sY e x hs) (qI 0 7) ?_
    exact qF (qI 0 7++qI 10 8)
   refine qX ?_
   refine qB (fun k13=>?_) fun k13=>?_
   ·rw [hr13 hh k13]
    refine qX ?_
    refine qK (qu e x hs) (qI 0 7) ?_
    exact qF (qI 0 7++qI 10 8)
   refine qX ?_
   rw [hno (by intro k hk;omega)]
   refine qX ?_
   refine qK (hC) (qI 0 7) ?_
   exact qF (qI 0 7++qI 10 7++qO 1)
  rw [hf (by simp [cT,h2])]
  refine qX ?_
  refine qK (hC) (qI 0 7) ?_
  exact qF (qI 0 7++qI 10 7++qO 1)
 rw [hf (by simp [cT,h1])]
 refine qX ?_
 refine qK (hC) (qI 0 7) ?_
 exact qF (qI 0 7++qI 10 7++qO 1)
theorem uz (e:EndD) (x:LetterD) (hs:Small e) (hsp:SmallP e.inp):ae Tryz.prog 220 [.ag (e.cs 0),.ag x.cs] (e.hp false) (.tu [.ag ((cZ e x).1.cs 7),.sc (.sl 14 0 (cZ e x).2.length)])
  (e.hp false++((cZ e x).1.hpS++[some ⟨(cZ e x).2.map LetterD.cs,19,91,true,true⟩])):=by
 have hC:=(qH (aD e))
 have hK:=(qH (be e))
 have hL:=cL x
 have hO:=gC e x.to (by have:=hs.own;omega)
 have hf:=vG (e:=e) (x:=x)
 have hno:=y5 (e:=e) (x:=x)
 have hr1:=y6 (e:=e) (x:=x)
 have hr2:=y7 (e:=e) (x:=x)
 have hr4:=y8 (e:=e) (x:=x)
 have hr5:=y9 (e:=e) (x:=x)
 have hr6:=y_ (e:=e) (x:=x)
 have hr7:=za (e:=e) (x:=x)
 have hr8:=zb (e:=e) (x:=x)
 have hr9:=zc (e:=e) (x:=x)
 have hr10:=vH (e:=e) (x:=x)
 have hr11:=vI (e:=e) (x:=x)
 have hr12:=vJ (e:=e) (x:=x)
 have hr13:=vK (e:=e) (x:=x)
 generalize cZ e x=R at*
 refine qE Tryz.func220 Tryz.ntmps220 Tryz.results220 fun E hE=>?_
 refine qK (hK) (qI 0 7) ?_
 refine qB (fun h1=>?_) fun h1=>?_
 ·refine qK (hL) [] ?_
  refine qB (fun h2=>?_) fun h2=>?_
  ·refine qK (hO) (qI 0 7) ?_
   refine qB (fun h3=>?_) fun h3=>?_
   ·rw [hf (by simp [cT,h1,h2,h3])]
    refine qX ?_
    refine qK (hC) (qI 0 7) ?_
    exact qF (qI 0 7++qI 10 8)
   have hh:cT e x=true:=by simp [cT,h1,h2,h3]
   refine qX ?_
   refine qB (fun k1=>?_) fun k1=>?_
   ·rw [hr1 hh k1]
    refine qX ?_
    refine qK (qt e x hs) (qI 0 7) ?_
    exact qF (qI 0 7++qI 10 8)
   refine qX ?_
   refine qB (fun k2=>?_) fun k2=>?_
   ·rw [hr2 hh k2]
    refine qX ?_
    refine qK (ta e x hs) (qI 0 7) ?_
    exact qF (qI 0 7++qI 10 8)
   refine qX ?_
   refine qB (fun k4=>?_) fun k4=>?_
   ·rw [hr4 hh k4]
    refine qX ?_
    refine qK (tf e x hs) (qI 0 7) ?_
    exact qF (qI 0 7++qI 10 8)
   refine qX ?_
   refine qB (fun k5=>?_) fun k5=>?_
   ·rw [hr5 hh k5]
    refine qX ?_
    refine qK (mT e x hs) (qI 0 7) ?_
    exact qF (qI 0 7++qI 10 8)
   refine qX ?_
   refine qB (fun k6=>?_) fun k6=>?_
   ·rw [hr6 hh k6]
    refine qX ?_
    refine qK (mV e x hs) (qI 0 7) ?_
    exact qF (qI 0 7++qI 10 8)
   refine qX ?_
   refine qB (fun k7=>?_) fun k7=>?_
   ·rw [hr7 hh k7]
    refine qX ?_
    refine qK (nQ e x hs) (qI 0 7) ?_
    exact qF (qI 0 7++qI 10 8)
   refine qX ?_
   refine qB (fun k8=>?_) fun k8=>?_
   ·rw [hr8 hh k8]
    refine qX ?_
    refine qK (th e x hs) (qI 0 7) ?_
    exact qF (qI 0 7++qI 10 8)
   refine qX ?_
   refine qB (fun k9=>?_) fun k9=>?_
   ·rw [hr9 hh k9]
    refine qX ?_
    refine qK (tn e x hs) (qI 0 7) ?_
    exact qF (qI 0 7++qI 10 8)
   refine qX ?_
   refine qB (fun k10=>?_) fun k10=>?_
   ·rw [hr10 hh k10]
    refine qX ?_
    refine qK (tp e x hs) (qI 0 7) ?_
    exact qF (qI 0 7++qI 10 8)
   refine qX ?_
   refine qB (fun k11=>?_) fun k11=>?_
   ·rw [hr11 hh k11]
    refine qX ?_
    refine qK (tv e x hs hsp) (qI 0 7) ?_
    exact qF (qI 0 7++qI 10 8)
   refine qX ?_
   refine qB (fun k12=>?_) fun k12=>?_
   ·rw [hr12 hh k12]
    refine qX ?_
    refine qK (sZ e x hs) (qI 0 7) ?_
    exact qF (qI 0 7++qI 10 8)
   refine qX ?_
   refine qB (fun k13=>?_) fun k13=>?_
   ·rw [hr13 hh k13]
    refine qX ?_
    refine qK (qv e x hs) (qI 0 7) ?_
    exact qF (qI 0 7++qI 10 8)
   refine qX ?_
   rw [hno (by intro k hk;omega)]
   refine qX ?_
   refine qK (hC) (qI 0 7) ?_
   exact qF (qI 0 7++qI 10 8)
  rw [hf (by simp [cT,h2])]
  refine qX ?_
  refine qK (hC) (qI 0 7) ?_
  exact qF (qI 0 7++qI 10 8)
 rw [hf (by simp [cT,h1])]
 refine qX ?_
 refine qK (hC) (qI 0 7) ?_
 exact qF (qI 0 7++qI 10 8)
end
section
open Go.RowKit
theorem vW {w:WorldD} {x:LetterD} (h:aZ x.to=0):gN w x=w:=by rw [gN,if_pos h]
theorem vX {w:WorldD} {x:LetterD} (h:aZ x.to=1):gN w x=aq 1 { w with a:=(cZ w.a x).1 } (cZ w.a x).2:=by rw [gN,h];rfl
theorem vY {w:WorldD} {x:LetterD} (h:aZ x.to=2):gN w x=aq 2 { w with b:=(cZ w.b x).1 } (cZ w.b x).2:=by rw [gN,h];rfl
structure SmallWP (w:WorldD):Prop where
 s:SmallW w
 pa:SmallP w.a.inp
 pb:SmallP w.b.inp
theorem zg (w:WorldD) (x:LetterD) (hw:SmallWP w):ae Tryz.prog 156 [.ag (w.cs 0),.ag x.cs] (w.hp false) (.ag ((gN w x).cs 21)) (w.hp false++(gN w x).hp true):=by
 have hC:=kB w hw.s
 have hS:=dC x.to
 obtain⟨R,hR⟩:∃ R,R=gN w x:=⟨_,rfl⟩
 rw [←hR]
 rcases kT x.to with h0|h0|h0
 ·rw [vW h0] at hR
  subst hR
  rw [h0] at hS
  refine ga Tryz.func156 Tryz.ntmps156 Tryz.results156 fun E hE=>?_
  refine qK (hC) (qI 0 21) ?_
  refine qK (hS) [] ?_
  exact cc (qI 0 21++qI 24 21)
 ·rw [vX h0] at hR
  rw [h0] at hS
  have hEA:ae Tryz.prog 144 [.ag (w.cs 0),.sc (.int .i64 1)] (w.hp false) (.ag (w.a.cs 21)) (w.hp false++w.a.hp true):=bF w 1 hw.s.a.own hw.s.a.far hw.s.a.subs hw.s.a.halfs hw.s.a.list hw.s.a.done hw.s.a.over hw.s.b.own hw.s.b.far hw.s.b.subs hw.s.b.halfs hw.s.b.list hw.s.b.done hw.s.b.over
  have hH:=uy w.a x hw.s.a hw.pa
  have hsm:=gu (e:=w.a) (x:=x) hw.s.a
  have hone:=nd (e:=w.a) (x:=x)
  obtain⟨pr,hpr⟩:∃ p,p=cZ w.a x:=⟨_,rfl⟩
  rw [←hpr] at hH hsm hone hR
  obtain⟨e1,l1⟩:=pr
  dsimp only at hH hsm hone hR
  have hends:=aE (side:=1) (l:=l1) (w:={ w with a:=e1 })
  rw [←hR] at hends
  have hset:=fL w e1
  have hpost:=eM { w with a:=e1 } l1 ⟨hw.s.bag,hw.s.past,hw.s.keys,hw.s.tags,hw.s.nums,hw.s.ansA,hw.s.ansB⟩ (by omega)
  rw [←hR] at hpost
  clear hR hpr
  obtain⟨ra,rb,bag,past,wA,wB,rA,rB,known,nums,nsA,nsB⟩:=R
  obtain⟨keys,tags⟩:=known
  dsimp only at hends
  obtain⟨g1,g2,g3,g4,g5,g6⟩:=hends
  replace g1:=g1.symm
  replace g2:=g2.symm
  replace g3:=g3.symm
  replace g4:=g4.symm
  replace g5:=g5.symm
  replace g6:=g6.symm
  subst g1 g2 g3 g4 g5 g6
  refine ga Tryz.func156 Tryz.ntmps156 Tryz.results156 fun E hE=>?_
  refine qK (hC) (qI 0 21) ?_
  refine qK (hS) [] ?_
  refine aI [(2,8),(4,8)] [(2,4)] [(qU [0,2,3,1,2,1,4,7]),[0,1,3,2,8,4,5,6,7,9,10],[0,1,3,8,2,4,5,6,7,9,10]] 21 hE (fun s=>s.at (qU [16,8]) [(7,.sc (.pt 61 0 0)),(8,.sc (.sl 60 0 l1.length))] (s.hp++(w.a.hp true++(e1.hp true++[some ⟨l1.map LetterD.cs,19,91,true,true⟩,some ⟨[e1.cs 53],25,45,true,false⟩])))) (by kernel_rfl) (qC) (by kernel_rfl) ?_ (ac 400 ?_)
  rotate_left
  rotate_right
  simp only [aQ]
  refine⟨aa 400 ?_,aa 400 ?_,aa 400 ?_⟩
  ·simp (disch:=omega) only [go_sem,seval]
   refine az (hEA) (qI 0 21) ?_
   refine az (hH) (qI 46 7) ?_
   refine⟨qC,(qI 0 62),ab (by rfl) (by rfl) ?_⟩
   try simp (disch:=omega) only [go_sem,seval]
  ·simp (disch:=omega) only [go_sem,seval]
   refine az (hEA) (qI 0 21) ?_
   refine az (hH) (qI 46 7) ?_
   refine⟨qC,(qI 0 53++qI 54 8++qI 53 1),ab (by rfl) (by rfl) ?_⟩
   try simp (disch:=omega) only [go_sem,seval]
  ·simp (disch:=omega) only [go_sem,seval]
   refine az (hEA) (qI 0 21) ?_
   refine az (hH) (qI 47 7) ?_
   refine⟨qC,(qI 0 46++qI 47 15++qI 46 1),ab (by rfl) (by rfl) ?_⟩
   try simp (disch:=omega) only [go_sem,seval]
  refine qX ?_
  refine qK (hset) (qI 24 21++qI 53 7++qI 45 1) ?_
  refine qK (hpost) (qI 53 7++qI 31 15++qI 60 1) ?_
  exact cc (qI 0 21++qI 53 7++qI 31 7++qI 62 7)
 rw [vY h0] at hR
 rw [h0] at hS
 have hEA:ae Tryz.prog 144 [.ag (w.cs 0),.sc (.int .i64 2)] (w.hp false) (.ag (w.b.cs 21)) (w.hp false++w.b.hp true):=bF w 2 hw.s.a.own hw.s.a.far hw.s.a.subs hw.s.a.halfs hw.s.a.list hw.s.a.done hw.s.a.over hw.s.b.own hw.s.b.far hw.s.b.subs hw.s.b.halfs hw.s.b.list hw.s.b.done hw.s.b.over
 have hH:=uy w.b x hw.s.b hw.pb
 have hsm:=gu (e:=w.b) (x:=x) hw.s.b
 have hone:=nd (e:=w.b) (x:=x)
 obtain⟨pr,hpr⟩:∃ p,p=cZ w.b x:=⟨_,rfl⟩
 rw [←hpr] at hH hsm hone hR
 obtain⟨e1,l1⟩:=pr
 dsimp only at hH hsm hone hR
 have hends:=aE (side:=2) (l:=l1) (w:={ w with b:=e1 })
 rw [←hR] at hends
 have hset:=fM w e1
 have hpost:=eN { w with b:=e1 } l1 ⟨hw.s.bag,hw.s.past,hw.s.keys,hw.s.tags,hw.s.nums,hw.s.ansA,hw.s.ansB⟩ (by omega)
 rw [←hR] at hpost
 clear hR hpr
 obtain⟨ra,rb,bag,past,wA,wB,rA,rB,known,nums,nsA,nsB⟩:=R
 obtain⟨keys,tags⟩:=known
 dsimp only at hends
 obtain⟨g1,g2,g3,g4,g5,g6⟩:=hends
 replace g1:=g1.symm
 replace g2:=g2.symm
 replace g3:=g3.symm
 replace g4:=g4.symm
 replace g5:=g5.symm
 replace g6:=g6.symm
 subst g1 g2 g3 g4 g5 g6
 refine ga Tryz.func156 Tryz.ntmps156 Tryz.results156 fun E hE=>?_
 refine qK (hC) (qI 0 21) ?_
 refine qK (hS) [] ?_
 refine aI [(2,8),(4,8)] [(2,4)] [(qU [0,2,3,1,2,1,4,7]),[0,1,3,2,8,4,5,6,7,9,10],[0,1,3,8,2,4,5,6,7,9,10]] 21 hE (fun s=>s.at (qU [16,8]) [(7,.sc (.pt 61 0 0)),(8,.sc (.sl 60 0 l1.length))] (s.hp++(w.b.hp true++(e1.hp true++[some ⟨l1.map LetterD.cs,19,91,true,true⟩,some ⟨[e1.cs 53],25,45,true,false⟩])))) (by kernel_rfl) (qC) (by kernel_rfl) ?_ (ac 400 ?_)
 rotate_left
 rotate_right
 simp only [aQ]
 refine⟨aa 400 ?_,aa 400 ?_,aa 400 ?_⟩
 ·simp (disch:=omega) only [go_sem,seval]
  refine az (hEA) (qI 0 21) ?_
  refine az (hH) (qI 46 7) ?_
  refine⟨qC,(qI 0 62),ab (by rfl) (by rfl) ?_⟩
  try simp (disch:=omega) only [go_sem,seval]
 ·simp (disch:=omega) only [go_sem,seval]
  refine az (hEA) (qI 0 21) ?_
  refine az (hH) (qI 46 7) ?_
  refine⟨qC,(qI 0 53++qI 54 8++qI 53 1),ab (by rfl) (by rfl) ?_⟩
  try simp (disch:=omega) only [go_sem,seval]
 ·simp (disch:=omega) only [go_sem,seval]
  refine az (hEA) (qI 0 21) ?_
  refine az (hH) (qI 47 7) ?_
  refine⟨qC,(qI 0 46++qI 47 15++qI 46 1),ab (by rfl) (by rfl) ?_⟩
  try simp (disch:=omega) only [go_sem,seval]
 refine qX ?_
 refine qK (hset) (qI 24 21++qI 53 7++qI 45 1) ?_
 refine qK (hpost) (qI 24 7++qI 53 7++qI 38 8++qI 60 1) ?_
 exact cc (qI 0 21++qI 24 7++qI 53 7++qI 62 7)
theorem zh (w:WorldD) (x:LetterD) (hw:SmallWP w):ae Tryz.prog 129 [.ag (w.cs 0),.ag x.cs] (w.hp false) (.ag ((gN w x).cs 21)) (w.hp false++(gN w x).hp true):=by
 have hC:=ib w hw.s
 have hS:=dD x.to
 obtain⟨R,hR⟩:∃ R,R=gN w x:=⟨_,rfl⟩
 rw [←hR]
 rcases kT x.to with h0|h0|h0
 ·rw [vW h0] at hR
  subst hR
  rw [h0] at hS
  refine ga Tryz.func129 Tryz.ntmps129 Tryz.results129 fun E hE=>?_
  refine qK (hS) [] ?_
  refine qK (hC) (qI 0 21) ?_
  exact cc (qI 0 21++qI 24 21)
 ·rw [vX h0] at hR
  rw [h0] at hS
  have hEA:ae Tryz.prog 113 [.ag (w.cs 0),.sc (.int .i64 1)] (w.hp false) (.ag (w.a.cs 21)) (w.hp false++w.a.hp true):=bG w 1 hw.s.a.own hw.s.a.far hw.s.a.subs hw.s.a.halfs hw.s.a.list hw.s.a.done hw.s.a.over hw.s.b.own hw.s.b.far hw.s.b.subs hw.s.b.halfs hw.s.b.list hw.s.b.done hw.s.b.over
  have hH:=uz w.a x hw.s.a hw.pa
  have hsm:=gu (e:=w.a) (x:=x) hw.s.a
  have hone:=nd (e:=w.a) (x:=x)
  obtain⟨pr,hpr⟩:∃ p,p=cZ w.a x:=⟨_,rfl⟩
  rw [←hpr] at hH hsm hone hR
  obtain⟨e1,l1⟩:=pr
  dsimp only at hH hsm hone hR
  have hends:=aE (side:=1) (l:=l1) (w:={ w with a:=e1 })
  rw [←hR] at hends
  have hset:=dF w e1
  have hpost:=dH { w with a:=e1 } l1 ⟨hsm,hw.s.b,hw.s.bag,hw.s.past,hw.s.keys,hw.s.tags,hw.s.nums,hw.s.ansA,hw.s.ansB⟩ (by omega)
  rw [←hR] at hpost
  clear hR hpr
  obtain⟨ra,rb,bag,past,wA,wB,rA,rB,known,nums,nsA,nsB⟩:=R
  obtain⟨keys,tags⟩:=known
  dsimp only at hends
  obtain⟨g1,g2,g3,g4,g5,g6⟩:=hends
  replace g1:=g1.symm
  replace g2:=g2.symm
  replace g3:=g3.symm
  replace g4:=g4.symm
  replace g5:=g5.symm
  replace g6:=g6.symm
  subst g1 g2 g3 g4 g5 g6
  refine ga Tryz.func129 Tryz.ntmps129 Tryz.results129 fun E hE=>?_
  refine qK (hS) [] ?_
  refine qK (hC) (qI 0 21) ?_
  refine aI [(2,8),(4,8)] [(2,4)] [(qU [0,2,3,1,2,1,4,7]),[0,1,3,2,8,4,5,6,7,9,10],[0,1,3,8,2,4,5,6,7,9,10]] 21 hE (fun s=>s.at (qU [16,8]) [(6,.sc (.pt 60 0 0)),(7,.sc (.sl 59 0 l1.length))] (s.hp++(w.a.hp true++(e1.hpS++[some ⟨l1.map LetterD.cs,19,91,true,true⟩,some ⟨[e1.cs 52],25,45,true,false⟩])))) (by kernel_rfl) (qC) (by kernel_rfl) ?_ (ac 400 ?_)
  rotate_left
  rotate_right
  simp only [aQ]
  refine⟨aa 400 ?_,aa 400 ?_,aa 400 ?_⟩
  ·simp (disch:=omega) only [go_sem,seval]
   refine az (hEA) (qI 24 21) ?_
   refine az (hH) (qI 45 7) ?_
   refine⟨qC,(qI 0 61),ab (by rfl) (by rfl) ?_⟩
   try simp (disch:=omega) only [go_sem,seval]
  ·simp (disch:=omega) only [go_sem,seval]
   refine az (hEA) (qI 24 21) ?_
   refine az (hH) (qI 45 7) ?_
   refine⟨qC,(qI 0 52++qI 53 8++qI 52 1),ab (by rfl) (by rfl) ?_⟩
   try simp (disch:=omega) only [go_sem,seval]
  ·simp (disch:=omega) only [go_sem,seval]
   refine az (hEA) (qI 24 21) ?_
   refine az (hH) (qI 46 7) ?_
   refine⟨qC,(qI 0 45++qI 46 15++qI 45 1),ab (by rfl) (by rfl) ?_⟩
   try simp (disch:=omega) only [go_sem,seval]
  refine qX ?_
  refine qK (hset) (qI 24 21++qI 52 7) ?_
  refine qK (hpost) (qI 52 7++qI 31 14++qI 59 1) ?_
  exact cc (qI 0 21++qI 61 21)
 rw [vY h0] at hR
 rw [h0] at hS
 have hEA:ae Tryz.prog 113 [.ag (w.cs 0),.sc (.int .i64 2)] (w.hp false) (.ag (w.b.cs 21)) (w.hp false++w.b.hp true):=bG w 2 hw.s.a.own hw.s.a.far hw.s.a.subs hw.s.a.halfs hw.s.a.list hw.s.a.done hw.s.a.over hw.s.b.own hw.s.b.far hw.s.b.subs hw.s.b.halfs hw.s.b.list hw.s.b.done hw.s.b.over
 have hH:=uz w.b x hw.s.b hw.pb
 have hsm:=gu (e:=w.b) (x:=x) hw.s.b
 have hone:=nd (e:=w.b) (x:=x)
 obtain⟨pr,hpr⟩:∃ p,p=cZ w.b x:=⟨_,rfl⟩
 rw [←hpr] at hH hsm hone hR
 obtain⟨e1,l1⟩:=pr
 dsimp only at hH hsm hone hR
 have hends:=aE (side:=2) (l:=l1) (w:={ w with b:=e1 })
 rw [←hR] at hends
 have hset:=dG w e1
 have hpost:=dI { w with b:=e1 } l1 ⟨hw.s.a,hsm,hw.s.bag,hw.s.past,hw.s.keys,hw.s.tags,hw.s.nums,hw.s.ansA,hw.s.ansB⟩ (by omega)
 rw [←hR] at hpost
 clear hR hpr
 obtain⟨ra,rb,bag,past,wA,wB,rA,rB,known,nums,nsA,nsB⟩:=R
 obtain⟨keys,tags⟩:=known
 dsimp only at hends
 obtain⟨g1,g2,g3,g4,g5,g6⟩:=hends
 replace g1:=g1.symm
 replace g2:=g2.symm
 replace g3:=g3.symm
 replace g4:=g4.symm
 replace g5:=g5.symm
 replace g6:=g6.symm
 subst g1 g2 g3 g4 g5 g6
 refine ga Tryz.func129 Tryz.ntmps129 Tryz.results129 fun E hE=>?_
 refine qK (hS) [] ?_
 refine qK (hC) (qI 0 21) ?_
 refine aI [(2,8),(4,8)] [(2,4)] [(qU [0,2,3,1,2,1,4,7]),[0,1,3,2,8,4,5,6,7,9,10],[0,1,3,8,2,4,5,6,7,9,10]] 21 hE (fun s=>s.at (qU [16,8]) [(6,.sc (.pt 60 0 0)),(7,.sc (.sl 59 0 l1.length))] (s.hp++(w.b.hp true++(e1.hpS++[some ⟨l1.map LetterD.cs,19,91,true,true⟩,some ⟨[e1.cs 52],25,45,true,false⟩])))) (by kernel_rfl) (qC) (by kernel_rfl) ?_ (ac 400 ?_)
 rotate_left
 rotate_right
 simp only [aQ]
 refine⟨aa 400 ?_,aa 400 ?_,aa 400 ?_⟩
 ·simp (disch:=omega) only [go_sem,seval]
  refine az (hEA) (qI 24 21) ?_
  refine az (hH) (qI 45 7) ?_
  refine⟨qC,(qI 0 61),ab (by rfl) (by rfl) ?_⟩
  try simp (disch:=omega) only [go_sem,seval]
 ·simp (disch:=omega) only [go_sem,seval]
  refine az (hEA) (qI 24 21) ?_
  refine az (hH) (qI 45 7) ?_
  refine⟨qC,(qI 0 52++qI 53 8++qI 52 1),ab (by rfl) (by rfl) ?_⟩
  try simp (disch:=omega) only [go_sem,seval]
 ·simp (disch:=omega) only [go_sem,seval]
  refine az (hEA) (qI 24 21) ?_
  refine az (hH) (qI 46 7) ?_
  refine⟨qC,(qI 0 45++qI 46 15++qI 45 1),ab (by rfl) (by rfl) ?_⟩
  try simp (disch:=omega) only [go_sem,seval]
 refine qX ?_
 refine qK (hset) (qI 24 21++qI 52 7) ?_
 refine qK (hpost) (qI 24 7++qI 52 7++qI 38 7++qI 59 1) ?_
 exact cc (qI 0 21++qI 61 21)
end
end Go.Proofs.YtbgakfbnkkfbkaaGreat
