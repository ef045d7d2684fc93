/- Lemmas of this claim. -/
import Derived.Test.YtdiiopjaebnmfaaGreatDoorZFnExactRunScriptF
import Derived.Test.YtdiiopjaebnmfaaGreatDoorZFnExactRunScriptJ
import Derived.Test.YtdiiopjaebnmfaaGreatDoorZFnExactRunScriptK
import Derived.Test.YtdiiopjaebnmfaaGreatDoorZFnExactRunScriptL
set_option maxHeartbeats 16000000
set_option maxRecDepth 100000
set_option linter.unusedVariables false
set_option linter.unusedSimpArgs false
namespace Go.Proofs.YtdiiopjaebnmfaaGreatDoor
open _root_.Go.Proofs.Tryz
section
open Go.RowKit
theorem Ad (e:EndD) (x:LetterD) (hs:Small e) (hsp:SmallP e.inp):aP 201 [.ag (e.cs 0),.ag x.cs] (e.hp false) (.tu [.ag ((cA e x).1.cs 7),.sc (.sl 14 0 (cA e x).2.length)])
  (e.hp false++((cA e x).1.hp true++[some ⟨(cA e x).2.map LetterD.cs,19,36,true,true⟩])):=by
 have hC:=(qH (aG e))
 have hK:=(qH (bA e))
 have hS:=gc e x (by have:=hs.subs;omega)
 have hL:=bL x
 have hbs:=gG e x
 have hP:=Ab e.inp x.pos x.text hsp
 have hbd:=iz e x
 have hf:=qT (e:=e) (x:=x)
 have ht:=fun (n:Nat)=> @q7 e x n
 have hok:=qQ.eq_1 e x
 have hql:(sK e x).list.length<=1048576:=oA (by have:=hs.list;omega)
 rw [show cz e.inp x.pos x.text=sK e x from rfl] at hP
 generalize sK e x=Q at*
 generalize cA e x=R at*
 refine qE func201 ntmps201 results201 fun E hE=>?_
 refine qK (hC) (qI 0 7) ?_
 refine qK (hS) (qI 0 7) ?_
 rcases hbs with hk|⟨hk0,hk1⟩
 ·rw [hk]
  refine qX ?_
  refine qK (hK) (qI 0 7) ?_
  refine qB (fun h1=>?_) fun h1=>?_
  ·refine qK (hL) [] ?_
   refine qB (fun h2=>?_) fun h2=>?_
   ·rw [hf (by rw [hok];have:=cW (e:=e) (x:=x) (by rintro⟨_,_,hh⟩;omega);simp;omega)]
    refine qX ?_
    exact qF (qI 0 7++qI 10 7++qO 1)
   rw [hf (by rw [hok];have:=cW (e:=e) (x:=x) (by rintro⟨_,hh,_⟩;rw [h2] at hh;cases hh);simp;omega)]
   refine qX ?_
   exact qF (qI 0 7++qI 10 7++qO 1)
  rw [hf (by rw [hok];have:=cW (e:=e) (x:=x) (by rintro⟨hh,_⟩;rw [h1] at hh;cases hh);simp;omega)]
  refine qX ?_
  exact qF (qI 0 7++qI 10 7++qO 1)
 obtain⟨n,hk⟩:=Int.eq_ofNat_of_zero_le hk0
 have hn:n < e.subs.length:=zO
 rw [hk]
 refine qX ?_
 refine qK (hK) (qI 0 7) ?_
 refine qB (fun h1=>?_) fun h1=>?_
 ·refine qK (hL) [] ?_
  refine qB (fun h2=>?_) fun h2=>?_
  ·have hon:=ol h1 h2 hk
   have hq1:=h1
   refine qX ?_
   refine qK (hP) (qI 4 1) ?_
   refine qK (j5 Q) (qI 18 1) ?_
   refine qB (fun h7=>?_) fun h7=>?_
   ·rw [hf (by rw [hok];simp;omega)]
    refine qX ?_
    exact qF (qI 0 7++qI 10 7++qO 1)
   rw [ht _ (by rw [hok];simp [hon];omega) hon hn]
   refine qX ?_
   refine aB [(13,14)] [(qU [0,2,3,7,2,1,10,6]),[0,1,3,4,5,6,7,8,9,2,10,11,12,14,13,15]] zXk (qC) zXk ?_
   simp only [aM]
   refine⟨aa 400 ?_,aa 400 ?_⟩
   all_goals simp (disch:=omega) only [go_sem,seval]
   all_goals
    refine aE (eG x) [] ?_
    refine aE (j5 Q) (qI 18 1) ?_
    refine aE (bB (am x) { ac with kind:=12,sgn:=e.subs[n].give,pos:=nextOf Q }) [] ?_
    refine qG ?_
    refine qP (qI 0 7++qI 10 4++qI 18 1++qI 15 2++qI 20 1) ?_
    first|exact⟨⟩|simp [EC,bc,LetterD.cs]
  rw [hf (by rw [hok];have:=cW (e:=e) (x:=x) (by rintro⟨_,hh,_⟩;rw [h2] at hh;cases hh);simp;omega)]
  refine qX ?_
  exact qF (qI 0 7++qI 10 7++qO 1)
 rw [hf (by rw [hok];have:=cW (e:=e) (x:=x) (by rintro⟨hh,_⟩;rw [h1] at hh;cases hh);simp;omega)]
 refine qX ?_
 exact qF (qI 0 7++qI 10 7++qO 1)
theorem Ae (e:EndD) (x:LetterD) (hs:Small e) (hsp:SmallP e.inp):aP 275 [.ag (e.cs 0),.ag x.cs] (e.hp false) (.tu [.ag ((cA e x).1.cs 7),.sc (.sl 14 0 (cA e x).2.length)])
  (e.hp false++((cA e x).1.hpS++[some ⟨(cA e x).2.map LetterD.cs,19,36,true,true⟩])):=by
 have hC:=(qH (aF e))
 have hK:=(qH (bz e))
 have hS:=jB e x hs
 have hP:=Ac e.inp x.pos x.text hsp
 have hbd:=iz e x
 have hf:=qT (e:=e) (x:=x)
 have ht:=fun (n:Nat)=> @q7 e x n
 have hok:=qQ.eq_1 e x
 have hql:(sK e x).list.length<=1048576:=oA (by have:=hs.list;omega)
 rw [show cz e.inp x.pos x.text=sK e x from rfl] at hP
 generalize sK e x=Q at*
 generalize cA e x=R at*
 refine qE func275 ntmps275 results275 fun E hE=>?_
 refine qK (hC) (qI 0 7) ?_
 refine qK (hS) (qI 0 7) ?_
 rcases hbd with hon|⟨n,hon,hk,hn,hq1,hq2⟩
 ·rw [hf (by rw [hok];simp [hon]),hon]
  refine qX ?_
  exact qF (qI 0 7++qI 10 7++qI 18 1)
 rw [hon]
 refine qX ?_
 refine qX ?_
 refine qK (hP) (qI 4 1) ?_
 refine qK (fg Q) (qI 19 1) ?_
 refine qB (fun h7=>?_) fun h7=>?_
 ·rw [hf (by rw [hok];simp;omega)]
  refine qX ?_
  exact qF (qI 0 7++qI 10 7++qI 18 1)
 rw [ht _ (by rw [hok];simp [hon];omega) hon hn]
 refine qX ?_
 refine aB [(0,15),(3,0),(11,0),(13,0),(14,0)] [(qU [1,2,4,7,3,1,11,4,0,1,15,3]),(qU [1,2,4,7,3,1,11,3,0,1,14,4]),(qU [1,2,4,7,3,1,11,2,0,1,13,5]),(qU [1,2,4,7,3,1,0,1,11,7]),(qU [1,2,4,7,0,1,3,1,11,7]),(qU [1,2,4,7,3,1,11,5,0,1,16,2])] zXk (qC) zXk ?_
 simp only [aM]
 refine⟨aa 400 ?_,aa 400 ?_,aa 400 ?_,aa 400 ?_,aa 400 ?_,aa 400 ?_⟩
 all_goals simp (disch:=omega) only [go_sem,seval]
 all_goals
  refine aE (de x) [] ?_
  refine aE (fg Q) (qI 19 1) ?_
  refine aE (a_ (am x) { ac with kind:=12,sgn:=e.subs[n].give,pos:=nextOf Q }) [] ?_
  refine qG ?_
  refine qP (qI 0 7++qI 10 4++qI 19 1++qI 15 2++qI 22 1) ?_
  first|exact⟨⟩|simp [EC,bc,LetterD.cs]
theorem Bm (e:EndD) (x:LetterD) (hs:Small e) (hsp:SmallP e.inp):aP 160 [.ag (e.cs 0),.ag x.cs] (e.hp false) (.tu [.ag ((cR e x).1.cs 7),.sc (.sl 14 0 (cR e x).2.length)])
  (e.hp false++((cR e x).1.hp true++[some ⟨(cR e x).2.map LetterD.cs,19,36,true,true⟩])):=by
 have hC:=(qH (aG e))
 have hK:=(qH (bA e))
 have hL:=bL x
 have hO:=jO e x.to (by have:=hs.own;omega)
 have hf:=um (e:=e) (x:=x)
 have hno:=Gd (e:=e) (x:=x)
 have hr1:=yb (e:=e) (x:=x)
 have hr2:=yc (e:=e) (x:=x)
 have hr4:=Cw (e:=e) (x:=x)
 have hr5:=Cx (e:=e) (x:=x)
 have hr6:=Cy (e:=e) (x:=x)
 have hr7:=Cz (e:=e) (x:=x)
 have hr8:=CA (e:=e) (x:=x)
 have hr9:=CB (e:=e) (x:=x)
 have hr10:=sL (e:=e) (x:=x)
 have hr11:=wt (e:=e) (x:=x)
 have hr12:=wu (e:=e) (x:=x)
 have hr13:=sM (e:=e) (x:=x)
 generalize cR e x=R at*
 refine qE func160 ntmps160 results160 fun E hE=>?_
 refine qK (hK) (qI 0 7) ?_
 refine qB (fun h1=>?_) fun h1=>?_
 ·refine qK (hL) [] ?_
  refine qB (fun h2=>?_) fun h2=>?_
  ·refine qK (hO) (qI 0 7) ?_
   refine qB (fun h3=>?_) fun h3=>?_
   ·rw [hf (by simp [dJ,h1,h2,h3])]
    refine qX ?_
    refine qK (hC) (qI 0 7) ?_
    exact qF (qI 0 7++qI 10 7++qO 1)
   have hh:dJ e x=true:=by simp [dJ,h1,h2,h3]
   refine qX ?_
   refine qB (fun k1=>?_) fun k1=>?_
   ·rw [hr1 hh k1]
    refine qX ?_
    refine qK (oq e x hs) (qI 0 7) ?_
    exact qF (qI 0 7++qI 10 8)
   refine qX ?_
   refine qB (fun k2=>?_) fun k2=>?_
   ·rw [hr2 hh k2]
    refine qX ?_
    refine qK (pU e x hs) (qI 0 7) ?_
    exact qF (qI 0 7++qI 10 8)
   refine qX ?_
   refine qB (fun k4=>?_) fun k4=>?_
   ·rw [hr4 hh k4]
    refine qX ?_
    refine qK (zX e x hs) (qI 0 7) ?_
    exact qF (qI 0 7++qI 10 8)
   refine qX ?_
   refine qB (fun k5=>?_) fun k5=>?_
   ·rw [hr5 hh k5]
    refine qX ?_
    refine qK (sy e x hs) (qI 0 7) ?_
    exact qF (qI 0 7++qI 10 8)
   refine qX ?_
   refine qB (fun k6=>?_) fun k6=>?_
   ·rw [hr6 hh k6]
    refine qX ?_
    refine qK (sB e x hs) (qI 0 7) ?_
    exact qF (qI 0 7++qI 10 8)
   refine qX ?_
   refine qB (fun k7=>?_) fun k7=>?_
   ·rw [hr7 hh k7]
    refine qX ?_
    refine qK (ui e x hs) (qI 0 7) ?_
    exact qF (qI 0 7++qI 10 8)
   refine qX ?_
   refine qB (fun k8=>?_) fun k8=>?_
   ·rw [hr8 hh k8]
    refine qX ?_
    refine qK (z6 e x hs) (qI 0 7) ?_
    exact qF (qI 0 7++qI 10 8)
   refine qX ?_
   refine qB (fun k9=>?_) fun k9=>?_
   ·rw [hr9 hh k9]
    refine qX ?_
    refine qK (z8 e x hs) (qI 0 7) ?_
    exact qF (qI 0 7++qI 10 8)
   refine qX ?_
   refine qB (fun k10=>?_) fun k10=>?_
   ·rw [hr10 hh k10]
    refine qX ?_
    refine qK (z9 e x hs) (qI 0 7) ?_
    exact qF (qI 0 7++qI 10 8)
   refine qX ?_
   refine qB (fun k11=>?_) fun k11=>?_
   ·rw [hr11 hh k11]
    refine qX ?_
    refine qK (Ad e x hs hsp) (qI 0 7) ?_
    exact qF (qI 0 7++qI 10 8)
   refine qX ?_
   refine qB (fun k12=>?_) fun k12=>?_
   ·rw [hr12 hh k12]
    refine qX ?_
    refine qK (zM e x hs) (qI 0 7) ?_
    exact qF (qI 0 7++qI 10 8)
   refine qX ?_
   refine qB (fun k13=>?_) fun k13=>?_
   ·rw [hr13 hh k13]
    refine qX ?_
    refine qK (xL e x hs) (qI 0 7) ?_
    exact qF (qI 0 7++qI 10 8)
   refine qX ?_
   rw [hno (by intro k hk;omega)]
   refine qX ?_
   refine qK (hC) (qI 0 7) ?_
   exact qF (qI 0 7++qI 10 7++qO 1)
  rw [hf (by simp [dJ,h2])]
  refine qX ?_
  refine qK (hC) (qI 0 7) ?_
  exact qF (qI 0 7++qI 10 7++qO 1)
 rw [hf (by simp [dJ,h1])]
 refine qX ?_
 refine qK (hC) (qI 0 7) ?_
 exact qF (qI 0 7++qI 10 7++qO 1)
theorem Bn (e:EndD) (x:LetterD) (hs:Small e) (hsp:SmallP e.inp):aP 235 [.ag (e.cs 0),.ag x.cs] (e.hp false) (.tu [.ag ((cR e x).1.cs 7),.sc (.sl 14 0 (cR e x).2.length)])
  (e.hp false++((cR e x).1.hpS++[some ⟨(cR e x).2.map LetterD.cs,19,36,true,true⟩])):=by
 have hC:=(qH (aF e))
 have hK:=(qH (bz e))
 have hL:=dq x
 have hO:=jP e x.to (by have:=hs.own;omega)
 have hf:=um (e:=e) (x:=x)
 have hno:=Gd (e:=e) (x:=x)
 have hr1:=yb (e:=e) (x:=x)
 have hr2:=yc (e:=e) (x:=x)
 have hr4:=Cw (e:=e) (x:=x)
 have hr5:=Cx (e:=e) (x:=x)
 have hr6:=Cy (e:=e) (x:=x)
 have hr7:=Cz (e:=e) (x:=x)
 have hr8:=CA (e:=e) (x:=x)
 have hr9:=CB (e:=e) (x:=x)
 have hr10:=sL (e:=e) (x:=x)
 have hr11:=wt (e:=e) (x:=x)
 have hr12:=wu (e:=e) (x:=x)
 have hr13:=sM (e:=e) (x:=x)
 generalize cR e x=R at*
 refine qE func235 ntmps235 results235 fun E hE=>?_
 refine qK (hK) (qI 0 7) ?_
 refine qB (fun h1=>?_) fun h1=>?_
 ·refine qK (hL) [] ?_
  refine qB (fun h2=>?_) fun h2=>?_
  ·refine qK (hO) (qI 0 7) ?_
   refine qB (fun h3=>?_) fun h3=>?_
   ·rw [hf (by simp [dJ,h1,h2,h3])]
    refine qX ?_
    refine qK (hC) (qI 0 7) ?_
    exact qF (qI 0 7++qI 10 8)
   have hh:dJ e x=true:=by simp [dJ,h1,h2,h3]
   refine qX ?_
   refine qB (fun k1=>?_) fun k1=>?_
   ·rw [hr1 hh k1]
    refine qX ?_
    refine qK (ot e x hs) (qI 0 7) ?_
    exact qF (qI 0 7++qI 10 8)
   refine qX ?_
   refine qB (fun k2=>?_) fun k2=>?_
   ·rw [hr2 hh k2]
    refine qX ?_
    refine qK (pV e x hs) (qI 0 7) ?_
    exact qF (qI 0 7++qI 10 8)
   refine qX ?_
   refine qB (fun k4=>?_) fun k4=>?_
   ·rw [hr4 hh k4]
    refine qX ?_
    refine qK (zY e x hs) (qI 0 7) ?_
    exact qF (qI 0 7++qI 10 8)
   refine qX ?_
   refine qB (fun k5=>?_) fun k5=>?_
   ·rw [hr5 hh k5]
    refine qX ?_
    refine qK (sA e x hs) (qI 0 7) ?_
    exact qF (qI 0 7++qI 10 8)
   refine qX ?_
   refine qB (fun k6=>?_) fun k6=>?_
   ·rw [hr6 hh k6]
    refine qX ?_
    refine qK (sC e x hs) (qI 0 7) ?_
    exact qF (qI 0 7++qI 10 8)
   refine qX ?_
   refine qB (fun k7=>?_) fun k7=>?_
   ·rw [hr7 hh k7]
    refine qX ?_
    refine qK (uj e x hs) (qI 0 7) ?_
    exact qF (qI 0 7++qI 10 8)
   refine qX ?_
   refine qB (fun k8=>?_) fun k8=>?_
   ·rw [hr8 hh k8]
    refine qX ?_
    refine qK (z7 e x hs) (qI 0 7) ?_
    exact qF (qI 0 7++qI 10 8)
   refine qX ?_
   refine qB (fun k9=>?_) fun k9=>?_
   ·rw [hr9 hh k9]
    refine qX ?_
    refine qK (z_ e x hs) (qI 0 7) ?_
    exact qF (qI 0 7++qI 10 8)
   refine qX ?_
   refine qB (fun k10=>?_) fun k10=>?_
   ·rw [hr10 hh k10]
    refine qX ?_
    refine qK (Aa e x hs) (qI 0 7) ?_
    exact qF (qI 0 7++qI 10 8)
   refine qX ?_
   refine qB (fun k11=>?_) fun k11=>?_
   ·rw [hr11 hh k11]
    refine qX ?_
    refine qK (Ae e x hs hsp) (qI 0 7) ?_
    exact qF (qI 0 7++qI 10 8)
   refine qX ?_
   refine qB (fun k12=>?_) fun k12=>?_
   ·rw [hr12 hh k12]
    refine qX ?_
    refine qK (zT e x hs) (qI 0 7) ?_
    exact qF (qI 0 7++qI 10 8)
   refine qX ?_
   refine qB (fun k13=>?_) fun k13=>?_
   ·rw [hr13 hh k13]
    refine qX ?_
    refine qK (xM e x hs) (qI 0 7) ?_
    exact qF (qI 0 7++qI 10 8)
   refine qX ?_
   rw [hno (by intro k hk;omega)]
   refine qX ?_
   refine qK (hC) (qI 0 7) ?_
   exact qF (qI 0 7++qI 10 8)
  rw [hf (by simp [dJ,h2])]
  refine qX ?_
  refine qK (hC) (qI 0 7) ?_
  exact qF (qI 0 7++qI 10 8)
 rw [hf (by simp [dJ,h1])]
 refine qX ?_
 refine qK (hC) (qI 0 7) ?_
 exact qF (qI 0 7++qI 10 8)
theorem Hx {w:WorldD} {x:LetterD} (h:bj x.to=0):ik w x=w:=by rw [ik,if_pos h]
theorem Hy {w:WorldD} {x:LetterD} (h:bj x.to=1):ik w x=ay 1 { w with a:=(cR w.a x).1 } (cR w.a x).2:=by rw [ik,h];rfl
theorem Hz {w:WorldD} {x:LetterD} (h:bj x.to=2):ik w x=ay 2 { w with b:=(cR w.b x).1 } (cR w.b x).2:=by rw [ik,h];rfl
structure SmallWP (w:WorldD):Prop where
 s:SmallW w
 pa:SmallP w.a.inp
 pb:SmallP w.b.inp
theorem Gi (w:WorldD) (x:LetterD) (hw:SmallWP w):aP 102 [.ag (w.cs 0),.ag x.cs] (w.hp false) (.ag ((ik w x).cs 21)) (w.hp false++(ik w x).hp true):=by
 have hC:=oC w hw.s
 have hS:=fe x.to
 obtain⟨R,hR⟩:∃ R,R=ik w x:=⟨_,rfl⟩
 rw [<-hR]
 rcases mi x.to with h0|h0|h0
 ·rw [Hx h0] at hR
  subst hR
  rw [h0] at hS
  refine ix func102 ntmps102 results102 fun E hE=>?_
  refine qK (hC) (qI 0 21) ?_
  refine qK (hS) [] ?_
  exact cP (qI 0 21++qI 24 21)
 ·rw [Hy h0] at hR
  rw [h0] at hS
  have hEA:aP 90 [.ag (w.cs 0),.sc (.int .i64 1)] (w.hp false) (.ag (w.a.cs 21)) (w.hp false++w.a.hp true):=q4 hw.s (cf w 1)
  have hH:=Bm w.a x hw.s.a hw.pa
  have hsm:=jE (e:=w.a) (x:=x) hw.s.a
  have hone:=sR (e:=w.a) (x:=x)
  obtain⟨pr,hpr⟩:∃ p,p=cR w.a x:=⟨_,rfl⟩
  rw [<-hpr] at hH hsm hone hR
  obtain⟨e1,l1⟩:=pr
  dsimp only at hH hsm hone hR
  have hends:=aQ (side:=1) (l:=l1) (w:={ w with a:=e1 })
  rw [<-hR] at hends
  have hset:=iN w e1
  have hpost:=gN { w with a:=e1 } l1 ⟨hw.s.bag,hw.s.past,hw.s.keys,hw.s.tags,hw.s.nums,hw.s.ansA,hw.s.ansB⟩ zO
  rw [<-hR] at hpost
  clear hR hpr
  obtain⟨ra,rb,bag,past,wA,wB,rA,rB,known,nums,nsA,nsB⟩:=R
  obtain⟨keys,tags⟩:=known
  dsimp only at hends
  obtain⟨g1,g2,g3,g4,g5,g6⟩:=hends
  replace g1:=g1.symm
  replace g2:=g2.symm
  replace g3:=g3.symm
  replace g4:=g4.symm
  replace g5:=g5.symm
  replace g6:=g6.symm
  subst g1 g2 g3 g4 g5 g6
  refine ix func102 ntmps102 results102 fun E hE=>?_
  refine qK (hC) (qI 0 21) ?_
  refine qK (hS) [] ?_
  refine aR [(2,8),(4,8)] [(2,4)] [(qU [0,2,3,1,2,1,4,7]),[0,1,3,2,8,4,5,6,7,9,10],[0,1,3,8,2,4,5,6,7,9,10]] 21 hE (fun s=>s.at (qU [16,8]) [(7,.sc (.pt 61 0 0)),(8,.sc (.sl 60 0 l1.length))] (s.hp++(w.a.hp true++(e1.hp true++[some ⟨l1.map LetterD.cs,19,36,true,true⟩,some ⟨[e1.cs 53],25,54,true,false⟩])))) zXk (qC) zXk ?_ (ab 400 ?_)
  rotate_left
  rotate_right
  simp only [aM]
  refine⟨aa 400 ?_,aa 400 ?_,aa 400 ?_⟩
  ·simp (disch:=omega) only [go_sem,seval]
   refine aE (hEA) (qI 0 21) ?_
   refine aE (hH) (qI 46 7) ?_
   exact qZ (qI 0 62)
  ·simp (disch:=omega) only [go_sem,seval]
   refine aE (hEA) (qI 0 21) ?_
   refine aE (hH) (qI 46 7) ?_
   exact qZ (qI 0 53++qI 54 8++qI 53 1)
  ·simp (disch:=omega) only [go_sem,seval]
   refine aE (hEA) (qI 0 21) ?_
   refine aE (hH) (qI 47 7) ?_
   exact qZ (qI 0 46++qI 47 15++qI 46 1)
  refine qX ?_
  refine qK (hset) (qI 24 21++qI 53 7++qI 45 1) ?_
  refine qK (hpost) (qI 53 7++qI 31 15++qI 60 1) ?_
  exact cP (qI 0 21++qI 53 7++qI 31 7++qI 62 7)
 rw [Hz h0] at hR
 rw [h0] at hS
 have hEA:aP 90 [.ag (w.cs 0),.sc (.int .i64 2)] (w.hp false) (.ag (w.b.cs 21)) (w.hp false++w.b.hp true):=q4 hw.s (cf w 2)
 have hH:=Bm w.b x hw.s.b hw.pb
 have hsm:=jE (e:=w.b) (x:=x) hw.s.b
 have hone:=sR (e:=w.b) (x:=x)
 obtain⟨pr,hpr⟩:∃ p,p=cR w.b x:=⟨_,rfl⟩
 rw [<-hpr] at hH hsm hone hR
 obtain⟨e1,l1⟩:=pr
 dsimp only at hH hsm hone hR
 have hends:=aQ (side:=2) (l:=l1) (w:={ w with b:=e1 })
 rw [<-hR] at hends
 have hset:=iO w e1
 have hpost:=gO { w with b:=e1 } l1 ⟨hw.s.bag,hw.s.past,hw.s.keys,hw.s.tags,hw.s.nums,hw.s.ansA,hw.s.ansB⟩ zO
 rw [<-hR] at hpost
 clear hR hpr
 obtain⟨ra,rb,bag,past,wA,wB,rA,rB,known,nums,nsA,nsB⟩:=R
 obtain⟨keys,tags⟩:=known
 dsimp only at hends
 obtain⟨g1,g2,g3,g4,g5,g6⟩:=hends
 replace g1:=g1.symm
 replace g2:=g2.symm
 replace g3:=g3.symm
 replace g4:=g4.symm
 replace g5:=g5.symm
 replace g6:=g6.symm
 subst g1 g2 g3 g4 g5 g6
 refine ix func102 ntmps102 results102 fun E hE=>?_
 refine qK (hC) (qI 0 21) ?_
 refine qK (hS) [] ?_
 refine aR [(2,8),(4,8)] [(2,4)] [(qU [0,2,3,1,2,1,4,7]),[0,1,3,2,8,4,5,6,7,9,10],[0,1,3,8,2,4,5,6,7,9,10]] 21 hE (fun s=>s.at (qU [16,8]) [(7,.sc (.pt 61 0 0)),(8,.sc (.sl 60 0 l1.length))] (s.hp++(w.b.hp true++(e1.hp true++[some ⟨l1.map LetterD.cs,19,36,true,true⟩,some ⟨[e1.cs 53],25,54,true,false⟩])))) zXk (qC) zXk ?_ (ab 400 ?_)
 rotate_left
 rotate_right
 simp only [aM]
 refine⟨aa 400 ?_,aa 400 ?_,aa 400 ?_⟩
 ·simp (disch:=omega) only [go_sem,seval]
  refine aE (hEA) (qI 0 21) ?_
  refine aE (hH) (qI 46 7) ?_
  exact qZ (qI 0 62)
 ·simp (disch:=omega) only [go_sem,seval]
  refine aE (hEA) (qI 0 21) ?_
  refine aE (hH) (qI 46 7) ?_
  exact qZ (qI 0 53++qI 54 8++qI 53 1)
 ·simp (disch:=omega) only [go_sem,seval]
  refine aE (hEA) (qI 0 21) ?_
  refine aE (hH) (qI 47 7) ?_
  exact qZ (qI 0 46++qI 47 15++qI 46 1)
 refine qX ?_
 refine qK (hset) (qI 24 21++qI 53 7++qI 45 1) ?_
 refine qK (hpost) (qI 24 7++qI 53 7++qI 38 8++qI 60 1) ?_
 exact cP (qI 0 21++qI 24 7++qI 53 7++qI 62 7)
theorem Gj (w:WorldD) (x:LetterD) (hw:SmallWP w):aP 183 [.ag (w.cs 0),.ag x.cs] (w.hp false) (.ag ((ik w x).cs 21)) (w.hp false++(ik w x).hp true):=by
 have hC:=kB w hw.s
 have hS:=ff x.to
 obtain⟨R,hR⟩:∃ R,R=ik w x:=⟨_,rfl⟩
 rw [<-hR]
 rcases mi x.to with h0|h0|h0
 ·rw [Hx h0] at hR
  subst hR
  rw [h0] at hS
  refine ix func183 ntmps183 results183 fun E hE=>?_
  refine qK (hS) [] ?_
  refine qK (hC) (qI 0 21) ?_
  exact cP (qI 0 21++qI 24 21)
 ·rw [Hy h0] at hR
  rw [h0] at hS
  have hEA:aP 168 [.ag (w.cs 0),.sc (.int .i64 1)] (w.hp false) (.ag (w.a.cs 21)) (w.hp false++w.a.hp true):=q4 hw.s (cg w 1)
  have hH:=Bn w.a x hw.s.a hw.pa
  have hsm:=jE (e:=w.a) (x:=x) hw.s.a
  have hone:=sR (e:=w.a) (x:=x)
  obtain⟨pr,hpr⟩:∃ p,p=cR w.a x:=⟨_,rfl⟩
  rw [<-hpr] at hH hsm hone hR
  obtain⟨e1,l1⟩:=pr
  dsimp only at hH hsm hone hR
  have hends:=aQ (side:=1) (l:=l1) (w:={ w with a:=e1 })
  rw [<-hR] at hends
  have hset:=fj w e1
  have hpost:=fm { w with a:=e1 } l1 ⟨hsm,hw.s.b,hw.s.bag,hw.s.past,hw.s.keys,hw.s.tags,hw.s.nums,hw.s.ansA,hw.s.ansB⟩ zO
  rw [<-hR] at hpost
  clear hR hpr
  obtain⟨ra,rb,bag,past,wA,wB,rA,rB,known,nums,nsA,nsB⟩:=R
  obtain⟨keys,tags⟩:=known
  dsimp only at hends
  obtain⟨g1,g2,g3,g4,g5,g6⟩:=hends
  replace g1:=g1.symm
  replace g2:=g2.symm
  replace g3:=g3.symm
  replace g4:=g4.symm
  replace g5:=g5.symm
  replace g6:=g6.symm
  subst g1 g2 g3 g4 g5 g6
  refine ix func183 ntmps183 results183 fun E hE=>?_
  refine qK (hS) [] ?_
  refine qK (hC) (qI 0 21) ?_
  refine aR [(2,8),(4,8)] [(2,4)] [(qU [0,2,3,1,2,1,4,7]),[0,1,3,2,8,4,5,6,7,9,10],[0,1,3,8,2,4,5,6,7,9,10]] 21 hE (fun s=>s.at (qU [16,8]) [(6,.sc (.pt 60 0 0)),(7,.sc (.sl 59 0 l1.length))] (s.hp++(w.a.hp true++(e1.hpS++[some ⟨l1.map LetterD.cs,19,36,true,true⟩,some ⟨[e1.cs 52],25,54,true,false⟩])))) zXk (qC) zXk ?_ (ab 400 ?_)
  rotate_left
  rotate_right
  simp only [aM]
  refine⟨aa 400 ?_,aa 400 ?_,aa 400 ?_⟩
  ·simp (disch:=omega) only [go_sem,seval]
   refine aE (hEA) (qI 24 21) ?_
   refine aE (hH) (qI 45 7) ?_
   exact qZ (qI 0 61)
  ·simp (disch:=omega) only [go_sem,seval]
   refine aE (hEA) (qI 24 21) ?_
   refine aE (hH) (qI 45 7) ?_
   exact qZ (qI 0 52++qI 53 8++qI 52 1)
  ·simp (disch:=omega) only [go_sem,seval]
   refine aE (hEA) (qI 24 21) ?_
   refine aE (hH) (qI 46 7) ?_
   exact qZ (qI 0 45++qI 46 15++qI 45 1)
  refine qX ?_
  refine qK (hset) (qI 24 21++qI 52 7) ?_
  refine qK (hpost) (qI 52 7++qI 31 14++qI 59 1) ?_
  exact cP (qI 0 21++qI 61 21)
 rw [Hz h0] at hR
 rw [h0] at hS
 have hEA:aP 168 [.ag (w.cs 0),.sc (.int .i64 2)] (w.hp false) (.ag (w.b.cs 21)) (w.hp false++w.b.hp true):=q4 hw.s (cg w 2)
 have hH:=Bn w.b x hw.s.b hw.pb
 have hsm:=jE (e:=w.b) (x:=x) hw.s.b
 have hone:=sR (e:=w.b) (x:=x)
 obtain⟨pr,hpr⟩:∃ p,p=cR w.b x:=⟨_,rfl⟩
 rw [<-hpr] at hH hsm hone hR
 obtain⟨e1,l1⟩:=pr
 dsimp only at hH hsm hone hR
 have hends:=aQ (side:=2) (l:=l1) (w:={ w with b:=e1 })
 rw [<-hR] at hends
 have hset:=fk w e1
 have hpost:=fq { w with b:=e1 } l1 ⟨hw.s.a,hsm,hw.s.bag,hw.s.past,hw.s.keys,hw.s.tags,hw.s.nums,hw.s.ansA,hw.s.ansB⟩ zO
 rw [<-hR] at hpost
 clear hR hpr
 obtain⟨ra,rb,bag,past,wA,wB,rA,rB,known,nums,nsA,nsB⟩:=R
 obtain⟨keys,tags⟩:=known
 dsimp only at hends
 obtain⟨g1,g2,g3,g4,g5,g6⟩:=hends
 replace g1:=g1.symm
 replace g2:=g2.symm
 replace g3:=g3.symm
 replace g4:=g4.symm
 replace g5:=g5.symm
 replace g6:=g6.symm
 subst g1 g2 g3 g4 g5 g6
 refine ix func183 ntmps183 results183 fun E hE=>?_
 refine qK (hS) [] ?_
 refine qK (hC) (qI 0 21) ?_
 refine aR [(2,8),(4,8)] [(2,4)] [(qU [0,2,3,1,2,1,4,7]),[0,1,3,2,8,4,5,6,7,9,10],[0,1,3,8,2,4,5,6,7,9,10]] 21 hE (fun s=>s.at (qU [16,8]) [(6,.sc (.pt 60 0 0)),(7,.sc (.sl 59 0 l1.length))] (s.hp++(w.b.hp true++(e1.hpS++[some ⟨l1.map LetterD.cs,19,36,true,true⟩,some ⟨[e1.cs 52],25,54,true,false⟩])))) zXk (qC) zXk ?_ (ab 400 ?_)
 rotate_left
 rotate_right
 simp only [aM]
 refine⟨aa 400 ?_,aa 400 ?_,aa 400 ?_⟩
 ·simp (disch:=omega) only [go_sem,seval]
  refine aE (hEA) (qI 24 21) ?_
  refine aE (hH) (qI 45 7) ?_
  exact qZ (qI 0 61)
 ·simp (disch:=omega) only [go_sem,seval]
  refine aE (hEA) (qI 24 21) ?_
  refine aE (hH) (qI 45 7) ?_
  exact qZ (qI 0 52++qI 53 8++qI 52 1)
 ·simp (disch:=omega) only [go_sem,seval]
  refine aE (hEA) (qI 24 21) ?_
  refine aE (hH) (qI 46 7) ?_
  exact qZ (qI 0 45++qI 46 15++qI 45 1)
 refine qX ?_
 refine qK (hset) (qI 24 21++qI 52 7) ?_
 refine qK (hpost) (qI 24 7++qI 52 7++qI 38 7++qI 59 1) ?_
 exact cP (qI 0 21++qI 61 21)
def gg:WorldD:=⟨di,di,[],[],[],[],[],[],⟨[],[]⟩,[],[],[]⟩
def f9 (p:PolicyD):WorldD×Bool:=
 if (fW 1 11 p).2 && (fW 2 21 p).2 then
  ({ gg with a:=(ib (fW 1 11 p).1 (fW 2 21 p).1).1,b:=(ib (fW 1 11 p).1 (fW 2 21 p).1).2.1,known:=⟨[5,7],[]⟩},true)
 else (gg,false)
def PY (e:EndD):Prop:=e.subs.length<=100/\e.far.length<=100
end
end Go.Proofs.YtdiiopjaebnmfaaGreatDoor
