/- Lemmas of this claim. -/
import Derived.Test.YtdiiopjaebnmfaaGreatDoorZFnScriptsF
import Derived.Test.YtdiiopjaebnmfaaGreatDoorZFnScriptsG
import Derived.Test.YtdiiopjaebnmfaaGreatDoorZFnScriptsH
import Derived.Test.YtdiiopjaebnmfaaGreatDoorZFnScriptsK
import Derived.Test.YtdiiopjaebnmfaaGreatDoorZFnScriptsL
set_option maxHeartbeats 16000000
set_option maxRecDepth 100000
set_option linter.unusedVariables false
set_option linter.unusedSimpArgs false
namespace Go.Proofs.YtdiiopjaebnmfaaGreatDoor
open _root_.Go.Proofs.Tryz
open _root_.List renaming length_append->Ru,drop_eq_getElem_cons->Rv,length_map->Rw,drop_eq_nil_of_le->Ry,length_take->Rz,map_append->RA,map_set->RB,take_succ_eq_append_getElem->RE,length_cons->RF,append_assoc->RH,append_nil->RI,nil_append->RJ,length_filter_le->RL,all_nil->RM,flatMap_cons->RP,length_nil->RQ,all_cons->RS
open _root_.Bool renaming and_eq_true->Rx,false_and->RC,true_and->RG,and_false->RR
open _root_.Nat renaming zero_le->RD,le_refl->RK,le_trans->RO,add_assoc->RT
section
open Go.RowKit
theorem yO (e:EndD) (x:LetterD) (hs:Small e) (hsp:SmallP e.inp):aP 160 [.ag (e.cs 0),.ag x.cs] (e.hp false) (.tu [.ag ((bO e x).1.cs 7),.sc (.sl 14 0 (bO e x).2.length)])
  (e.hp false++((bO e x).1.hp true++[some ⟨(bO e x).2.map LetterD.cs,19,36,true,true⟩])):=by
 have hC:=(qH (aB e))
 have hK:=(qH (bb e))
 have hL:=bw x
 have hO:=iH e x.to (by have:=hs.own;omega)
 have hf:=oM (e:=e) (x:=x)
 have hno:=Ai (e:=e) (x:=x)
 have hr1:=r_ (e:=e) (x:=x)
 have hr2:=se (e:=e) (x:=x)
 have hr4:=vP (e:=e) (x:=x)
 have hr5:=vQ (e:=e) (x:=x)
 have hr6:=vR (e:=e) (x:=x)
 have hr7:=vS (e:=e) (x:=x)
 have hr8:=vT (e:=e) (x:=x)
 have hr9:=vU (e:=e) (x:=x)
 have hr10:=nq (e:=e) (x:=x)
 have hr11:=qd (e:=e) (x:=x)
 have hr12:=qe (e:=e) (x:=x)
 have hr13:=nr (e:=e) (x:=x)
 generalize bO e x=R at*
 refine qE func160 ntmps160 results160 fun E hE=>?_
 refine qK (hK) (qI 0 7) ?_
 refine qB (fun h1=>?_) fun h1=>?_
 ·refine qK (hL) [] ?_
  refine qB (fun h2=>?_) fun h2=>?_
  ·refine qK (hO) (qI 0 7) ?_
   refine qB (fun h3=>?_) fun h3=>?_
   ·rw [hf (by simp [dD,h1,h2,h3])]
    refine qX ?_
    refine qK (hC) (qI 0 7) ?_
    exact qF (qI 0 7++qI 10 7++qO 1)
   have hh:dD e x=true:=by simp [dD,h1,h2,h3]
   refine qX ?_
   refine qB (fun k1=>?_) fun k1=>?_
   ·rw [hr1 hh k1]
    refine qX ?_
    refine qK (mt e x hs) (qI 0 7) ?_
    exact qF (qI 0 7++qI 10 8)
   refine qX ?_
   refine qB (fun k2=>?_) fun k2=>?_
   ·rw [hr2 hh k2]
    refine qX ?_
    refine qK (oc e x hs) (qI 0 7) ?_
    exact qF (qI 0 7++qI 10 8)
   refine qX ?_
   refine qB (fun k4=>?_) fun k4=>?_
   ·rw [hr4 hh k4]
    refine qX ?_
    refine qK (xL e x hs) (qI 0 7) ?_
    exact qF (qI 0 7++qI 10 8)
   refine qX ?_
   refine qB (fun k5=>?_) fun k5=>?_
   ·rw [hr5 hh k5]
    refine qX ?_
    refine qK (qa e x hs) (qI 0 7) ?_
    exact qF (qI 0 7++qI 10 8)
   refine qX ?_
   refine qB (fun k6=>?_) fun k6=>?_
   ·rw [hr6 hh k6]
    refine qX ?_
    refine qK (qb e x hs) (qI 0 7) ?_
    exact qF (qI 0 7++qI 10 8)
   refine qX ?_
   refine qB (fun k7=>?_) fun k7=>?_
   ·rw [hr7 hh k7]
    refine qX ?_
    refine qK (rQ e x hs) (qI 0 7) ?_
    exact qF (qI 0 7++qI 10 8)
   refine qX ?_
   refine qB (fun k8=>?_) fun k8=>?_
   ·rw [hr8 hh k8]
    refine qX ?_
    refine qK (xM e x hs) (qI 0 7) ?_
    exact qF (qI 0 7++qI 10 8)
   refine qX ?_
   refine qB (fun k9=>?_) fun k9=>?_
   ·rw [hr9 hh k9]
    refine qX ?_
    refine qK (xN e x hs) (qI 0 7) ?_
    exact qF (qI 0 7++qI 10 8)
   refine qX ?_
   refine qB (fun k10=>?_) fun k10=>?_
   ·rw [hr10 hh k10]
    refine qX ?_
    refine qK (xO e x hs) (qI 0 7) ?_
    exact qF (qI 0 7++qI 10 8)
   refine qX ?_
   refine qB (fun k11=>?_) fun k11=>?_
   ·rw [hr11 hh k11]
    refine qX ?_
    refine qK (xR e x hs hsp) (qI 0 7) ?_
    exact qF (qI 0 7++qI 10 8)
   refine qX ?_
   refine qB (fun k12=>?_) fun k12=>?_
   ·rw [hr12 hh k12]
    refine qX ?_
    refine qK (xJ e x hs) (qI 0 7) ?_
    exact qF (qI 0 7++qI 10 8)
   refine qX ?_
   refine qB (fun k13=>?_) fun k13=>?_
   ·rw [hr13 hh k13]
    refine qX ?_
    refine qK (vz e x hs) (qI 0 7) ?_
    exact qF (qI 0 7++qI 10 8)
   refine qX ?_
   rw [hno (by intro k hk;omega)]
   refine qX ?_
   refine qK (hC) (qI 0 7) ?_
   exact qF (qI 0 7++qI 10 7++qO 1)
  rw [hf (by simp [dD,h2])]
  refine qX ?_
  refine qK (hC) (qI 0 7) ?_
  exact qF (qI 0 7++qI 10 7++qO 1)
 rw [hf (by simp [dD,h1])]
 refine qX ?_
 refine qK (hC) (qI 0 7) ?_
 exact qF (qI 0 7++qI 10 7++qO 1)
theorem MJ {w:WorldD} {x:LetterD} (h:sideAt x.to=0):ed w x=w:=by rw [ed,if_pos h]
theorem MK {w:WorldD} {x:LetterD} (h:sideAt x.to=1):ed w x=az 1 { w with a:=(bO w.a x).1 } (bO w.a x).2:=by rw [ed,h];rfl
theorem ML {w:WorldD} {x:LetterD} (h:sideAt x.to=2):ed w x=az 2 { w with b:=(bO w.b x).1 } (bO w.b x).2:=by rw [ed,h];rfl
structure SmallWP (w:WorldD):Prop where
 s:SmallW w
 pa:SmallP w.a.inp
 pb:SmallP w.b.inp
theorem EW (w:WorldD) (x:LetterD) (hw:SmallWP w):aP 102 [.ag (w.cs 0),.ag x.cs] (w.hp false) (.ag ((ed w x).cs 21)) (w.hp false++(ed w x).hp true):=by
 have hC:=mB w hw.s
 have hS:=eA x.to
 obtain⟨R,hR⟩:∃ R,R=ed w x:=⟨_,rfl⟩
 rw [<-hR]
 rcases gr x.to with h0|h0|h0
 ·rw [MJ h0] at hR
  subst hR
  rw [h0] at hS
  refine yu func102 ntmps102 results102 fun E hE=>?_
  refine qK (hC) (qI 0 21) ?_
  refine qK (hS) [] ?_
  exact jh (qI 0 21++qI 24 21)
 ·rw [MK h0] at hR
  rw [h0] at hS
  have hEA:aP 90 [.ag (w.cs 0),.sc (.int .i64 1)] (w.hp false) (.ag (w.a.cs 21)) (w.hp false++w.a.hp true):=bY w 1 hw.s.a.own hw.s.a.far hw.s.a.subs hw.s.a.halfs hw.s.a.list hw.s.a.done hw.s.a.over hw.s.b.own hw.s.b.far hw.s.b.subs hw.s.b.halfs hw.s.b.list hw.s.b.done hw.s.b.over
  have hH:=yO w.a x hw.s.a hw.pa
  have hsm:=lv (e:=w.a) (x:=x) hw.s.a
  have hone:=Cx (e:=w.a) (x:=x)
  obtain⟨pr,hpr⟩:∃ p,p=bO w.a x:=⟨_,rfl⟩
  rw [<-hpr] at hH hsm hone hR
  obtain⟨e1,l1⟩:=pr
  dsimp only at hH hsm hone hR
  have hends:=bH (side:=1) (l:=l1) (w:={ w with a:=e1 })
  rw [<-hR] at hends
  have hset:=gw w e1
  have hpost:=fF { w with a:=e1 } l1 ⟨hw.s.bag,hw.s.past,hw.s.keys,hw.s.tags,hw.s.nums,hw.s.ansA,hw.s.ansB⟩ zO
  rw [<-hR] at hpost
  clear hR hpr
  obtain⟨ra,rb,bag,past,wA,wB,rA,rB,known,nums,nsA,nsB⟩:=R
  obtain⟨keys,tags⟩:=known
  dsimp only at hends
  obtain⟨g1,g2,g3,g4,g5,g6⟩:=hends
  replace g1:=g1.symm
  replace g2:=g2.symm
  replace g3:=g3.symm
  replace g4:=g4.symm
  replace g5:=g5.symm
  replace g6:=g6.symm
  subst g1 g2 g3 g4 g5 g6
  refine yu func102 ntmps102 results102 fun E hE=>?_
  refine qK (hC) (qI 0 21) ?_
  refine qK (hS) [] ?_
  refine bj [(2,8),(4,8)] [(2,4)] [(qU [0,2,3,1,2,1,4,7]),[0,1,3,2,8,4,5,6,7,9,10],[0,1,3,8,2,4,5,6,7,9,10]] 21 hE (fun s=>s.at (qU [16,8]) [(7,.sc (.pt 61 0 0)),(8,.sc (.sl 60 0 l1.length))] (s.hp++(w.a.hp true++(e1.hp true++[some ⟨l1.map LetterD.cs,19,36,true,true⟩,some ⟨[e1.cs 53],25,54,true,false⟩])))) (by kernel_rfl) (qC) (by kernel_rfl) ?_ (aa 400 ?_)
  rotate_left
  rotate_right
  simp only [a_]
  refine⟨ab 400 ?_,ab 400 ?_,ab 400 ?_⟩
  ·simp (disch:=omega) only [go_sem,seval]
   refine b_ (hEA) (qI 0 21) ?_
   refine b_ (hH) (qI 46 7) ?_
   exact qZ (qI 0 62)
  ·simp (disch:=omega) only [go_sem,seval]
   refine b_ (hEA) (qI 0 21) ?_
   refine b_ (hH) (qI 46 7) ?_
   exact qZ (qI 0 53++qI 54 8++qI 53 1)
  ·simp (disch:=omega) only [go_sem,seval]
   refine b_ (hEA) (qI 0 21) ?_
   refine b_ (hH) (qI 47 7) ?_
   exact qZ (qI 0 46++qI 47 15++qI 46 1)
  refine qX ?_
  refine qK (hset) (qI 24 21++qI 53 7++qI 45 1) ?_
  refine qK (hpost) (qI 53 7++qI 31 15++qI 60 1) ?_
  exact jh (qI 0 21++qI 53 7++qI 31 7++qI 62 7)
 rw [ML h0] at hR
 rw [h0] at hS
 have hEA:aP 90 [.ag (w.cs 0),.sc (.int .i64 2)] (w.hp false) (.ag (w.b.cs 21)) (w.hp false++w.b.hp true):=bY w 2 hw.s.a.own hw.s.a.far hw.s.a.subs hw.s.a.halfs hw.s.a.list hw.s.a.done hw.s.a.over hw.s.b.own hw.s.b.far hw.s.b.subs hw.s.b.halfs hw.s.b.list hw.s.b.done hw.s.b.over
 have hH:=yO w.b x hw.s.b hw.pb
 have hsm:=lv (e:=w.b) (x:=x) hw.s.b
 have hone:=Cx (e:=w.b) (x:=x)
 obtain⟨pr,hpr⟩:∃ p,p=bO w.b x:=⟨_,rfl⟩
 rw [<-hpr] at hH hsm hone hR
 obtain⟨e1,l1⟩:=pr
 dsimp only at hH hsm hone hR
 have hends:=bH (side:=2) (l:=l1) (w:={ w with b:=e1 })
 rw [<-hR] at hends
 have hset:=gx w e1
 have hpost:=fG { w with b:=e1 } l1 ⟨hw.s.bag,hw.s.past,hw.s.keys,hw.s.tags,hw.s.nums,hw.s.ansA,hw.s.ansB⟩ zO
 rw [<-hR] at hpost
 clear hR hpr
 obtain⟨ra,rb,bag,past,wA,wB,rA,rB,known,nums,nsA,nsB⟩:=R
 obtain⟨keys,tags⟩:=known
 dsimp only at hends
 obtain⟨g1,g2,g3,g4,g5,g6⟩:=hends
 replace g1:=g1.symm
 replace g2:=g2.symm
 replace g3:=g3.symm
 replace g4:=g4.symm
 replace g5:=g5.symm
 replace g6:=g6.symm
 subst g1 g2 g3 g4 g5 g6
 refine yu func102 ntmps102 results102 fun E hE=>?_
 refine qK (hC) (qI 0 21) ?_
 refine qK (hS) [] ?_
 refine bj [(2,8),(4,8)] [(2,4)] [(qU [0,2,3,1,2,1,4,7]),[0,1,3,2,8,4,5,6,7,9,10],[0,1,3,8,2,4,5,6,7,9,10]] 21 hE (fun s=>s.at (qU [16,8]) [(7,.sc (.pt 61 0 0)),(8,.sc (.sl 60 0 l1.length))] (s.hp++(w.b.hp true++(e1.hp true++[some ⟨l1.map LetterD.cs,19,36,true,true⟩,some ⟨[e1.cs 53],25,54,true,false⟩])))) (by kernel_rfl) (qC) (by kernel_rfl) ?_ (aa 400 ?_)
 rotate_left
 rotate_right
 simp only [a_]
 refine⟨ab 400 ?_,ab 400 ?_,ab 400 ?_⟩
 ·simp (disch:=omega) only [go_sem,seval]
  refine b_ (hEA) (qI 0 21) ?_
  refine b_ (hH) (qI 46 7) ?_
  exact qZ (qI 0 62)
 ·simp (disch:=omega) only [go_sem,seval]
  refine b_ (hEA) (qI 0 21) ?_
  refine b_ (hH) (qI 46 7) ?_
  exact qZ (qI 0 53++qI 54 8++qI 53 1)
 ·simp (disch:=omega) only [go_sem,seval]
  refine b_ (hEA) (qI 0 21) ?_
  refine b_ (hH) (qI 47 7) ?_
  exact qZ (qI 0 46++qI 47 15++qI 46 1)
 refine qX ?_
 refine qK (hset) (qI 24 21++qI 53 7++qI 45 1) ?_
 refine qK (hpost) (qI 24 7++qI 53 7++qI 38 8++qI 60 1) ?_
 exact jh (qI 0 21++qI 24 7++qI 53 7++qI 62 7)
theorem EZ {n:Nat} {e:EndD} (h:n < 3):bZ (3 - n) e=((bZ (3 - (n+1)) (dv e).1).1,(dv e).2++(bZ (3 - (n+1)) (dv e).1).2):=by
 rw [show 3 - n=(3 - (n+1))+1 by omega];rfl
theorem iT:∀ {k:Nat} {e:EndD},Small e->Small (bZ k e).1
 |0,_,h=>h
 |k+1,e,h=>iT (k:=k) (wt h)
theorem nu:∀ {k:Nat} {e:EndD},(bZ k e).1.inp=e.inp
 |0,_=>rfl
 |k+1,e=>by rw [show (bZ (k+1) e).1=(bZ k (dv e).1).1 from rfl,nu,Ks]
theorem lx:∀ {k:Nat} {e:EndD},(bZ k e).1.out.text=e.out.text
 |0,_=>rfl
 |k+1,e=>by rw [show (bZ (k+1) e).1=(bZ k (dv e).1).1 from rfl,lx,yU]
theorem nv:∀ {k:Nat} {e:EndD},(bZ k e).2.length<=k
 |0,_=>RK _
 |k+1,e=>by
  have h1:=CC e
  have h2:=nv (k:=k) (e:=(dv e).1)
  rw [show (bZ (k+1) e).2=(dv e).2++(bZ k (dv e).1).2 from rfl,Ru]
  omega
theorem ol (e:EndD) (hs:Small e) (ht:e.out.text.length<=1048576):aP 140 [.ag (e.cs 0)] (e.hp true) (.tu [.ag ((bZ 3 e).1.cs 7),.sc (.sl 14 0 (bZ 3 e).2.length)])
  ((nH 7)++((bZ 3 e).1.hp true++[some ⟨(bZ 3 e).2.map LetterD.cs,19,36,true,true⟩])):=by
 obtain⟨R,hR⟩:∃ R,R=bZ 3 e:=⟨_,rfl⟩
 rw [<-hR]
 refine yu func140 ntmps140 results140 fun E hE=>?_
 refine Eh 7 hE (fun s (y:Nat×EndD×List LetterD)=>s.at (qU [0,1,6,15]) [(5,.sc (.int .i64 (y.1:Nat))),(4,.sc (.sl 16 0 y.2.2.length))] ((nH 7++[some ⟨[y.2.1.cs 9],25,54,true,false⟩])++(((s.hp.drop 8).take 1)++(y.2.1.hp true++[some ⟨y.2.2.map LetterD.cs,19,36,true,true⟩])))) (fun (y:Nat×EndD×List LetterD)=>y.1<=3/\Small y.2.1/\y.2.1.out.text.length<=1048576/\y.2.2.length<=y.1/\R=((bZ (3 - y.1) y.2.1).1,y.2.2++(bZ (3 - y.1) y.2.1).2)) (fun (y:Nat×EndD×List LetterD)=>3 - y.1) (0,e,[]) (qI 0 9++qI 0 7++qO 1) (⟨zO,hs,ht,RK _,hR⟩) fun y hy N hN=>?_
 obtain⟨n,e1,l⟩:=y
 obtain⟨h1,h2,h3,h4,h5⟩:=hy
 dsimp only at h1 h2 h3 h4 h5
 have hP:=H2 e1 h2 h3
 have hp1:=CC e1
 have hps:=wt h2
 have hpt:(dv e1).1.out.text.length<=1048576:=by rw [yU];exact h3
 refine qR ?_
 refine qB (fun b=>?_) fun b=>?_
 ·rw [EZ zO] at h5
  obtain⟨pr,hpr⟩:∃ p,p=dv e1:=⟨_,rfl⟩
  rw [<-hpr] at hP hp1 hps hpt h5
  obtain⟨e2,l2⟩:=pr
  dsimp only at hP hp1 hps hpt h5
  rw [<-RH] at h5
  refine qX ?_
  refine qK (hP) (qI 9 7) ?_
  refine O2 hN (n+1,e2,l++l2) (qI 0 9++qI 17 7++qI 26 1) (by (try dsimp only);exact⟨zO,hps,hpt,by simp only [Ru];omega,h5⟩) ?_
  first|exact⟨⟩|simp
 have e3:n=3:=zO
 subst e3
 simp only [Nat.sub_self,bZ,RI] at h5
 subst h5
 refine qX ?_
 exact jh (qI 0 7++qI 9 8)
theorem om (e:EndD) (t:List UInt8) (hs:Small e) (ht:t.length<=1048576) (ho:(write e t).1.out.text.length<=1048576):aP 92 [.ag (e.cs 0),.sc (.st t)] (e.hp false) (.tu [.ag ((bh e t).1.cs 7),.sc (.sl 14 0 (bh e t).2.length)])
  (e.hp false++((bh e t).1.hp true++[some ⟨(bh e t).2.map LetterD.cs,19,36,true,true⟩])):=by
 have hW:=oP e t hs ht
 have hsw:Small (write e t).1:=by
  rw [write];split
  ·exact⟨hs.own,hs.far,hs.subs,hs.halfs,hs.list,hs.done,hs.over⟩
  exact hs
 have hP:=ol (write e t).1 hsw ho
 obtain⟨R,hR⟩:∃ R,R=bh e t:=⟨_,rfl⟩
 rw [<-hR]
 rw [bh] at hR
 rw [<-hR] at hP
 clear hR
 generalize write e t=w1 at*
 obtain⟨e1,n1⟩:=w1
 dsimp only at hP hsw ho hW
 refine yu func92 ntmps92 results92 fun E hE=>?_
 refine qK (hW) (qI 0 7) ?_
 refine qK (hP) (qI 9 7) ?_
 exact jh (qI 0 7++qI 17 8)
def fg {α:Type} (f:α->α) (l:List α) (k:Nat):List α:=(l.take k).map f++l.drop k
theorem yV {α:Type} {f:α->α} {l:List α} {k:Nat}:(fg f l k).length=l.length:=by simp [fg];omega
theorem Kx {α:Type} {f:α->α} {l:List α} {k:Nat} (h:k < l.length):(fg f l k)[k]? =some l[k]:=by
 have h1:((l.take k).map f).length=k:=by simp;omega
 rw [fg,List.getElem?_append_right zO,Rv h,h1]
 simp
theorem yW {α:Type} {f:α->α} {l:List α} {k:Nat} (h:k < l.length):∀ p:k < (fg f l k).length,(fg f l k)[k]'p=l[k]:=by
 intro p
 have hq:=Kx (f:=f) h
 rw [List.getElem?_eq_getElem p] at hq
 exact Option.some.inj hq
theorem yX {α:Type} {f:α->α} {l:List α} {k:Nat} (h:k < l.length):(fg f l k).set k (f l[k])=fg f l (k+1):=by
 have h1:((l.take k).map f).length=k:=by simp;omega
 rw [fg,fg,List.set_append_right _ _ zO,RE h,RA,h1]
 simp
 rw [Rv h]
 rfl
theorem wC {α:Type} {f:α->α} {l:List α} {k:Nat} (h:k < l.length) (hs:f l[k]=l[k]):fg f l (k+1)=fg f l k:=by
 rw [fg,fg,RE h,RA,Rv h]
 simp [hs]
theorem wD {α:Type} {f:α->α} {l:List α}:fg f l 0=l:=by simp [fg]
theorem yY {α:Type} {f:α->α} {l:List α}:fg f l l.length=l.map f:=by simp [fg]
theorem Rb {e:EndD} {n:Int} (h:H0 e n=false):bz e n=(e,[]):=if_neg (by simp [h])
theorem Rc {e:EndD} {n:Int} {i:Nat} (h:H0 e n=true) (hi:aT e.own n=(i:Int)) (hl:i < e.own.length):
  bz e n=({ e with own:=(bN e.own n).1,done:=iQ e.done n,subs:=e.subs.map (iS e.own[i].addr) },(mo (e.subs.map (iS e.own[i].addr))).map fun k=>wo n (bD (e.subs.map (iS e.own[i].addr)) k)):=by
 rw [bz,if_pos h,dI,hi,Int.toNat_natCast,fD hl]
theorem E4 {e:EndD} (h:ax e=true):e.done.length<=256:=(sf h).1
theorem ql (e:EndD) (n:Int) (hs:Small e):aP 98 [.ag (e.cs 0),.sc (.int .i64 n)] (e.hp false) (.tu [.ag ((bz e n).1.cs 7),.sc (.sl 14 0 (bz e n).2.length)])
  (e.hp false++((bz e n).1.hp true++[some ⟨(bz e n).2.map LetterD.cs,19,36,true,true⟩])):=by
 have hC:=(qH (aB e))
 have hK:=(qH (bb e))
 have hA:=eP e.own n (by have:=hs.own;omega)
 have hD:=od e.own n (by have:=hs.own;omega)
 have hsb:=hs.subs
 have hso:=hs.own
 have hbd:=jj e.own n
 have hf:=Rb (e:=e) (n:=n)
 have ht:= @Rc e n
 have hok:H0 e n=(ax e && decide (e.state=2) && decide (0<=aT e.own n)):=rfl
 obtain⟨R,hR⟩:∃ R,R=bz e n:=⟨_,rfl⟩
 rw [<-hR] at hf ht
 rw [<-hR]
 clear hR
 refine yu func98 ntmps98 results98 fun E hE=>?_
 refine qK (hC) (qI 0 7) ?_
 refine qK (hA) (qI 0 1) ?_
 rcases hbd with hi0|⟨hi0,hi1⟩
 ·rw [hf (by rw [hok,hi0];simp)]
  rw [hi0]
  refine qX ?_
  refine qK (hK) (qI 0 7) ?_
  refine qB (fun h1=>?_) fun h1=>?_
  ·refine qB (fun h2=>?_) fun h2=>?_
   ·refine qX ?_
    exact jh (qI 0 7++qI 9 7++qO 1)
   refine qX ?_
   exact jh (qI 0 7++qI 9 7++qO 1)
  refine qX ?_
  exact jh (qI 0 7++qI 9 7++qO 1)
 obtain⟨i,hi⟩:=Int.eq_ofNat_of_zero_le hi0
 have hil:i < e.own.length:=zO
 rw [hi]
 refine qX ?_
 refine qK (hK) (qI 0 7) ?_
 refine qB (fun h1=>?_) fun h1=>?_
 ·refine qB (fun h2=>?_) fun h2=>?_
  ·have hR:=ht (by rw [hok,h1,h2,hi];simp) hi hil
   have hdl:(bN e.own n).1.length<=e.own.length:=by rw [oL hi];simp;omega
   have hgo:=bt (enc:=AddrD.cs) hil
   generalize hv:e.own[i].addr=v at hR
   try simp (disch:=omega) only [go_sem,seval,hgo,hv]
   refine qK (hD) (qI 0 1) ?_
   refine qK (Cl e.done n (by have:=E4 h1;omega)) (qI 5 1) ?_
   refine jY 7 hE (fun s (k:Nat)=>s.at (qU [0,1,2,1,7,1,9,1,13,40,55,17]) [(54,.sc (.int .i64 (k:Nat)))] (s.hp.set 11 (some ⟨(fg (iS v) e.subs k).map SubD.cs,10,115,true,true⟩))) (fun (k:Nat)=>k<=e.subs.length) (fun (k:Nat)=>e.subs.length - k) 0 (qI 0 19) (qC) (RD _) (am zF zF ?_) fun k hk N hN=>?_
   ·refine qX ?_
    rw [wD]
   refine aa 400 ?_
   have hgl:(fg (iS v) e.subs k).length=e.subs.length:=yV
   refine qX ?_
   refine qB (fun h=>?_) fun h=>?_
   ·have hg:=yW (f:=iS v) h
    try simp (disch:=omega) only [go_sem,seval,hg]
    refine qB (fun h9=>?_) fun h9=>?_
    ·refine qX ?_
     refine⟨qC,hN _ (k+1) (qI 0 19) (by (try dsimp only);exact by omega) (by (try dsimp only);omega) (am zF zF ?_)⟩
     refine qX ?_
     rw [<-yX h,RB]
     simp [iS,h9,hg,SubD.cs]
    refine qX ?_
    refine⟨qC,hN _ (k+1) (qI 0 19) (by (try dsimp only);exact by omega) (by (try dsimp only);omega) (am zF zF ?_)⟩
    refine qX ?_
    rw [wC h (by rw [iS,if_neg h9])]
   have hkl:k=e.subs.length:=zO
   subst hkl
   rw [yY]
   have hdl2:(e.subs.map (iS v)).length<=1048576:=by rw [Rw];exact hsb
   have hO:=rO { e with own:=(bN e.own n).1,done:=iQ e.done n,subs:=e.subs.map (iS v) } hdl2
   have hlen:(e.subs.map (iS v)).length=e.subs.length:=Rw ..
   generalize hDD:e.subs.map (iS v)=D at*
   clear hDD
   rw [<-hlen]
   refine qX ?_
   refine qK (hO) (qI 17 1++qI 10 4++qI 18 1++qI 15 1) ?_
   have honl:=pP D
   refine Eh 7 hE (fun s (y:Nat×List LetterD)=>s.at (qU [0,1,2,1,7,3,12,61,76,22]) [(75,.sc (.int .i64 (y.1:Nat))),(10,.sc (.sl 20 0 y.2.length))] ((s.hp.take 20)++[some ⟨y.2.map LetterD.cs,19,36,true,true⟩])) (fun (y:Nat×List LetterD)=>y.1<=(mo D).length/\y.2.length<=y.1/\R=({ e with own:=(bN e.own n).1,done:=iQ e.done n,subs:=D },y.2++((mo D).drop y.1).map fun k=>wo n (bD D k))) (fun (y:Nat×List LetterD)=>(mo D).length - y.1) (0,[]) (qI 0 20++qO 1) (⟨RD _,RD _,hR⟩) fun y hy N2 hN2=>?_
   obtain⟨q,l⟩:=y
   obtain⟨g1,g2,g3⟩:=hy
   dsimp only at g1 g2 g3
   refine qR ?_
   refine qB (fun b=>?_) fun b=>?_
   ·have hkq:=Eu b
    rw [Rv b,List.map_cons] at g3
    have hgq:=bt (enc:=tX) b
    generalize hk0:(mo D)[q]=k0 at*
    rw [bX hkq] at g3
    have hgs:=bt (enc:=SubD.cs) hkq
    generalize hss:D[k0]=s0 at*
    have hB:=bc s0.road { ac with kind:=10,sgn:=s0.give,id:=n }
    try simp (disch:=omega) only [go_sem,seval,hgq,hk0,tX]
    refine qD [0,1,2,3,4,5,6,7,8,9,10,11,12,13,14,15,16,17,18] ?_
    try simp (disch:=omega) only [go_sem,seval,hgs,hss]
    refine b_ (hB) [] ?_
    refine qG ?_
    refine⟨qC,hN2 _ (q+1,l++[wo n s0]) (qI 0 20++qI 22 1) (by (try dsimp only);exact⟨zO,by simp;omega,by simpa using g3⟩) (by (try dsimp only);omega) (am zF zF ?_)⟩
    refine qX ?_
    rw [RA]
    rfl
   rw [Ry zO,List.map_nil,RI] at g3
   subst g3
   refine qX ?_
   exact jh (qI 0 7++qI 17 1++qI 10 4++qI 18 1++qI 15 1++qI 20 1)
  rw [hf (by rw [hok];simp [h2])]
  refine qX ?_
  exact jh (qI 0 7++qI 9 7++qO 1)
 rw [hf (by rw [hok];simp [h1])]
 refine qX ?_
 exact jh (qI 0 7++qI 9 7++qO 1)
theorem yZ {α:Type} {p:α->Bool} {l:List α} {k:Nat} (h:k < l.length):(l.drop k).all p=(p l[k] && (l.drop (k+1)).all p):=by
 rw [Rv h,RS]
theorem E5 {α β:Type} {f:α->List β} {l:List α} {k:Nat} (h:k < l.length):(l.drop k).flatMap f=f l[k]++(l.drop (k+1)).flatMap f:=by
 rw [Rv h,RP]
theorem y3 (e:EndD) (s:SubD):(dO e s).length<=1:=by
 rw [dO];split
 ·split
  ·simp
  split
  ·simp
  split<;>simp
 simp
theorem At {α β:Type} {f:α->List β} (hf:∀ a,(f a).length<=1):∀ (l:List α),(l.flatMap f).length<=l.length
 |[]=>by simp
 |a::l=>by
  have h1:=hf a
  have h2:=At hf l
  rw [RP,Ru,RF]
  omega
theorem wE (l:List HalfD) (n:Int):(ff l n).length<=l.length:=RL _ _
theorem qm (e:EndD):(ce e).length<=e.own.length:=by
 rw [ce];split
 ·rw [Rw];exact RL _ _
 simp
theorem y4 {e:EndD} (h:ax e=true) {k:Nat} (hk:k < e.subs.length):1<=e.subs[k].state/\e.subs[k].state<=4/\0<=e.subs[k].tries/\e.subs[k].tries<=1000000000:=by
 have h1:iW (ko e.subs) e.subs.length=true:=by
  simp only [ax,Rx] at h
  simp_all
 have h2:=jf h1 hk
 simp only [ko,bX hk,dJ,eg,RS,RM,Rx,decide_eq_true_eq] at h2
 omega
theorem Oy {e:EndD} (h:GF e=false):tick e=(e,[]):=if_neg (by simp [h])
theorem Ky {e:EndD} (h:GF e=true) (h2:e.state=2):tick e=bA { cP e with subs:=e.subs.map bI } (e.subs.flatMap (dO e)):=by rw [tick,if_pos h,if_pos h2]
theorem Kz {e:EndD} (h:GF e=true) (h2:¬ e.state=2):tick e=bA (cP e) []:=by rw [tick,if_pos h,if_neg h2]
theorem Oz {e:EndD} {tk:SubD->SubD} {tl:SubD->List LetterD} (h:GF e=true) (h1:tk=fun s=>if e.state=2 then bI s else s) (h2:tl=fun s=>if e.state=2 then dO e s else []):
  tick e=bA { e with now:=e.now+1,bucket:=gV e.bucket,halfs:=ff e.halfs (e.now+1),out:=jL e.out,subs:=e.subs.map tk } (e.subs.flatMap tl):=by
 by_cases hs:e.state=2
 ·have a1:tk=bI:=by rw [h1];funext s;exact if_pos hs
  have a2:tl=dO e:=by rw [h2];funext s;exact if_pos hs
  rw [Ky h hs,a1,a2];rfl
 have a1:tk=fun s=>s:=by rw [h1];funext s;exact if_neg hs
 have a2:tl=fun s=>[]:=by rw [h2];funext s;exact if_neg hs
 have e1:e.subs.flatMap (fun s:SubD=>([]:List LetterD))=[]:=by simp
 have e2:e.subs.map (fun s:SubD=>s)=e.subs:=by simp
 rw [Kz h hs,a1,a2,e1,e2];rfl
theorem E6 {s:SubD} (h:¬ (s.state=1\/s.state=2)):bI s=s:=if_neg h
theorem E7 {e:EndD} {s:SubD} (h:¬ (s.state=1\/s.state=2)):dO e s=[]:=if_neg h
theorem E8 {s:SubD} (h:s.state=2) (h2:9<=s.tries+1):bI s={ s with tries:=s.tries+1,state:=4 }:=by rw [bI,if_pos (.inr h),if_pos ⟨h,h2⟩]
theorem E9 {e:EndD} {s:SubD} (h:s.state=2) (h2:9<=s.tries+1):dO e s=[]:=by rw [dO,if_pos (.inr h),if_pos ⟨h,h2⟩]
theorem KA {s:SubD} (h:s.state=1\/s.state=2) (h2:¬ (s.state=2/\9<=s.tries+1)):bI s={ s with tries:=s.tries+1 }:=by rw [bI,if_pos h,if_neg h2]
theorem E_ {e:EndD} {s:SubD} (h:s.state=1\/s.state=2) (h2:¬ (s.state=2/\9<=s.tries+1)) (h3:¬ (s.tries+1).tmod 3=0):dO e s=[]:=by rw [dO,if_pos h,if_neg h2,if_pos h3]
theorem H8 {e:EndD} {s:SubD} (h:s.state=1) (h3:(s.tries+1).tmod 3=0):dO e s=[fU e s]:=by rw [dO,if_pos (.inl h),if_neg zO,if_neg (by simp [h3]),if_pos h]
theorem CM {e:EndD} {s:SubD} (h:s.state=2) (h2:¬ 9<=s.tries+1) (h3:(s.tries+1).tmod 3=0):dO e s=[ci e s]:=by rw [dO,if_pos (.inr h),if_neg zO,if_neg (by simp [h3]),if_neg zO]
theorem qo (e:EndD) (l:List LetterD) (hs:Small e) (ht:e.out.text.length<=1048576) (hl:l.length<=1048576):aP 145 [.ag (e.cs 0),.sc (.sl 7 0 l.length)] (e.hp true++[some ⟨l.map LetterD.cs,19,36,true,true⟩])
  (.tu [.ag ((bA e l).1.cs 8),.sc (.sl 15 0 (bA e l).2.length)]) ((nH 8)++((bA e l).1.hp true++[some ⟨(bA e l).2.map LetterD.cs,19,36,true,true⟩])):=by
 have hT:=wz e hs
 have hTl:=qm e
 have hso:=hs.own
 have hP:=ol e hs ht
 have hPl:=nv (k:=3) (e:=e)
 rw [bA]
 generalize ce e=T at*
 generalize bZ 3 e=Q at*
 obtain⟨e1,l1⟩:=Q
 dsimp only at hP hPl⊢
 refine yu func145 ntmps145 results145 fun E hE=>?_
 refine qK (hT) (qI 0 7) ?_
 refine qK (hP) (qI 0 7) ?_
 refine bj [(0,3)] [] [[1,2,0,3,4,5],[1,2,3,0,4,5]] 8 hE (fun s=>s.at (qU [1,1,7,6,15,6]) [(5,.sc (.sl 21 0 (l.length+T.length+l1.length)))] (((s.hp.set 9 (some ⟨[[.int .i64 e1.side,.int .i64 e1.state,.int .i64 e1.key,.int .i64 e1.peer,.int .i64 e1.policy.kind,.int .i64 e1.policy.many,.sl 12 0 e1.own.length,.sl 13 0 e1.far.length,.sl 14 0 e1.subs.length,.sl 15 0 e1.halfs.length,.int .i64 e1.bucket.rate,.int .i64 e1.bucket.burst,.int .i64 e1.bucket.cur,.st e1.out.text,.int .i64 e1.out.base,.int .i64 e1.out.sent,.int .i64 e1.out.room,.int .i64 e1.inp.read,.st e1.inp.ready,.sl 16 0 e1.inp.list.length,.sl 17 0 e1.done.length,.sl 18 0 e1.over.length,.int .i64 e1.draw,.int .i64 e1.now,.int .i64 e1.pick]],25,54,true,false⟩)).set 11 none)++[some ⟨(l++T++l1).map LetterD.cs,19,36,true,true⟩])) (by kernel_rfl) (qC) (by kernel_rfl) ?_ (aa 400 ?_)
 rotate_left
 rotate_right
 simp only [a_]
 refine⟨ab 400 ?_,ab 400 ?_⟩
 ·simp (disch:=omega) only [go_sem]
  refine⟨qC,(qI 0 22),am zF zF ?_⟩
  try simp (disch:=omega) only [go_sem,seval]
  repeat' first|rfl|constructor|(intro _;rfl)|(simp only [RA,RH,Ru,RT];done)
 ·simp (disch:=omega) only [go_sem]
  refine⟨qC,(qI 0 22),am zF zF ?_⟩
  try simp (disch:=omega) only [go_sem,seval]
  repeat' first|rfl|constructor|(intro _;rfl)|(simp only [RA,RH,Ru,RT];done)
 refine qX ?_
 refine aH (qI 0 8++qI 12 7++qI 21 1) (qC) _ (by simp only [go_sem];rfl) zF zF ?_
 simp (disch:=omega) only [go_sem,seval]
 try simp
 try omega
def wF (x:LetterD):List Int:=[x.key,x.nonce,x.give,x.sgn]
def tA (w:WorldD) (n:Int):Bool:=decide (n < 1000) || oH w.nums n
theorem Au (w:WorldD) (x:LetterD):dQ w x=(cO x && !decide (sideAt x.to=0) && jc w.known x.tag && (wF x).all (tA w)):=rfl
theorem jM (w:WorldD) (x:LetterD) (h0:w.known.keys.length<=1048576) (h1:w.known.tags.length<=1048576) (h2:w.nums.length<=1048576):aP 103 [.ag (w.cs 0),.ag x.cs] (w.hp false) (.sc (.bo (dQ w x))) (w.hp false):=by
 have hL:=bw x
 have hS:=eA x.to
 have hK:=qf w.known x.tag h0 h1
 obtain⟨R,hR⟩:∃ R,R=dQ w x:=⟨_,rfl⟩
 rw [<-hR]
 rw [Au] at hR
 refine qE func103 ntmps103 results103 fun E hE=>?_
 refine qK (hL) [] ?_
 refine qB (fun c1=>?_) fun c1=>?_
 ·refine qK (hS) [] ?_
  refine qB (fun c2=>?_) fun c2=>?_
  ·refine qK (hK) (qI 16 2) ?_
   refine qB (fun c3=>?_) fun c3=>?_
   ·rw [c3] at hR
    simp only [RR,RC] at hR
    subst hR
    refine qX ?_
    exact qF (qI 0 21)
   rw [c1,c3,decide_eq_false c2] at hR
   simp only [Bool.not_false,RG,Bool.and_true] at hR
   refine qX ?_
   refine kw 21 hE (fun s (i:Nat)=>s.at (qU [0,2,3,2,6,26,35,13]) [(34,.sc (.int .i64 (i:Nat)))] (s.hp)) (fun (i:Nat)=>i<=4/\R=((wF x).drop i).all (tA w)) (fun (i:Nat)=>4 - i) 0 (qI 0 24) (⟨zO,hR⟩) fun i hi N hN=>?_
   obtain⟨g1,g2⟩:=hi
   refine qR ?_
   split<;>rename_i b<;>(try simp only [decide_eq_true_eq,decide_eq_false_iff_not,Int.ofNat_lt] at b)
   rotate_left
   ·rw [Ry (by simp only [wF,RF,RQ];omega),RM] at g2
    subst g2
    refine qX ?_
    exact qF (qI 0 21)
   have hi4:i < (wF x).length:=by simp only [wF,RF,RQ];omega
   rw [yZ hi4] at g2
   generalize hv:(wF x)[i]=v at g2
   have hg:([[.int .i64 x.key],[.int .i64 x.nonce],[.int .i64 x.give],[.int .i64 x.sgn]]:List (List Sc))[i]? =some (cB v):=by
    rw [<-hv]
    rw [show ([[.int .i64 x.key],[.int .i64 x.nonce],[.int .i64 x.give],[.int .i64 x.sgn]]:List (List Sc))=(wF x).map cB from rfl]
    exact bt hi4
   simp only [cB] at hg
   have hH:=fB w.nums v h2
   try simp (disch:=omega) only [go_sem,seval,hg]
   refine qB (fun b1=>?_) fun b1=>?_
   ·refine qK (hH) (qI 18 1) ?_
    refine qB (fun b2=>?_) fun b2=>?_
    ·rw [show tA w v=false by rw [tA,b2,decide_eq_false zO];rfl,RC] at g2
     subst g2
     refine qX ?_
     exact qF (qI 0 21)
    rw [show tA w v=true by rw [tA,b2,Bool.or_true],RG] at g2
    refine qX ?_
    exact qN hN (i+1) (qI 0 24) (by (try dsimp only);exact⟨zO,g2⟩)
   rw [show tA w v=true by rw [tA,decide_eq_true zO];rfl,RG] at g2
   refine qX ?_
   exact qN hN (i+1) (qI 0 24) (by (try dsimp only);exact⟨zO,g2⟩)
  rw [decide_eq_true c2] at hR
  simp only [Bool.not_true,RR,RC] at hR
  subst hR
  refine qX ?_
  exact qF (qI 0 21)
 rw [c1] at hR
 simp only [RC] at hR
 subst hR
 refine qX ?_
 exact qF (qI 0 21)
def wroteB (w:WorldD) (side:Int) (t u:List UInt8):WorldD:=if side=1 then { w with wroteA:=w.wroteA++t,readA:=w.readA++u } else { w with wroteB:=w.wroteB++t,readB:=w.readB++u }
structure SmallS (w:WorldD):Prop where
 wa:w.wroteA.length<=1099511627776
 wb:w.wroteB.length<=1099511627776
 ra:w.readA.length<=1099511627776
 rb:w.readB.length<=1099511627776
theorem qp (e:EndD) (t:List UInt8):(bh e t).2.length<=3:=nv
theorem tB {e:EndD} {t:List UInt8} (hs:Small e):Small (write e t).1:=by
 rw [write];split
 ·exact⟨hs.own,hs.far,hs.subs,hs.halfs,hs.list,hs.done,hs.over⟩
 exact hs
theorem mI {e:EndD} {t:List UInt8} (hs:Small e):Small (bh e t).1:=iT (tB hs)
theorem mJ {e:EndD} {m:Int} (hs:Small e):Small (bu e m).1:=by
 rw [bu];split
 ·refine⟨hs.own,hs.far,hs.subs,hs.halfs,?_,hs.done,hs.over⟩
  dsimp only
  rw [bs];split<;>exact hs.list
 exact hs
theorem gX {e:EndD} {a:AddrD} (hs:Small e):Small (aN e a).1:=by
 rw [aN];split
 ·exact⟨vY hs.own,hs.far,hs.subs,hs.halfs,hs.list,hs.done,hs.over⟩
 exact hs
theorem ly {e:EndD} {k:Int} (hs:Small e):Small (cp e k).1:=by
 rw [cp];split
 ·exact⟨hs.own,hs.far,by simpa only [bB,List.length_set] using hs.subs,hs.halfs,hs.list,hs.done,hs.over⟩
 exact hs
theorem wH (e:EndD) (k:Int):(cp e k).2.length<=1:=by rw [cp];split<;>simp
theorem ks {e:EndD} {n:Int} (hs:Small e):Small (bz e n).1:=by
 rw [bz];split
 ·rename_i h
  simp only [H0,Rx] at h
  have:=(sf h.1.1).1
  exact⟨ts hs.own,hs.far,by simpa only [dI,Rw] using hs.subs,hs.halfs,hs.list,by have:=vB e.done n;dsimp only;omega,hs.over⟩
 exact hs
theorem tC (e:EndD) (n:Int) (hs:Small e):(bz e n).2.length<=1048576:=by
 rw [bz];split
 ·rw [Rw]
  have:=pP (dI e n)
  have h2:(dI e n).length=e.subs.length:=by rw [dI,Rw]
  have:=hs.subs
  omega
 simp
theorem tD {far:List AddrD}:∀ {l:List RoadD} {e:EndD},Small e->Small (dm far e l).1
 |[],_,h=>h
 |r::l,e,h=>tD (l:=l) (wy h)
theorem y6 {far:List AddrD}:∀ {l:List RoadD} {e:EndD},(dm far e l).2.length<=l.length
 |[],_=>RK _
 |r::l,e=>by
  have h1:=CK e r (aZ far r.far)
  have h2:=y6 (far:=far) (l:=l) (e:=(dE e r (aZ far r.far)).1)
  rw [show (dm far e (r::l)).2=(dE e r (aZ far r.far)).2++(dm far (dE e r (aZ far r.far)).1 l).2 from rfl,Ru,RF]
  omega
theorem lz {e:EndD} (hs:Small e):Small (manage e).1:=by
 rw [manage];split
 ·exact tD hs
 exact hs
theorem wI (e:EndD):(manage e).2.length<=64:=by
 rw [manage];split
 ·exact RO y6 (qk _ _)
 simp
theorem oQ {e:EndD} (hs:Small e):Small (tick e).1:=by
 have hy:=wE e.halfs (e.now+1)
 have:=hs.halfs
 rw [tick];split
 ·split
  ·rw [bA];exact iT ⟨hs.own,hs.far,by dsimp only;rw [Rw];exact hs.subs,by dsimp only [cP];omega,hs.list,hs.done,hs.over⟩
  rw [bA];exact iT ⟨hs.own,hs.far,hs.subs,by dsimp only [cP];omega,hs.list,hs.done,hs.over⟩
 exact hs
theorem tE (e:EndD) (l:List LetterD):(bA e l).2.length<=l.length+e.own.length+3:=by
 have h1:=qm e
 have h2:=nv (k:=3) (e:=e)
 rw [bA]
 simp only [Ru]
 omega
theorem CN (e:EndD):(tick e).2.length<=64:=by
 rw [tick];split
 ·rename_i h
  simp only [GF,Rx] at h
  have h8:=lj h.1.1
  have h6:=y5 h.1.1
  have hfl:(e.subs.flatMap (dO e)).length<=e.subs.length:=At (y3 e) _
  split
  ·refine RO (tE _ _) ?_
   show (e.subs.flatMap (dO e)).length+e.own.length+3<=64
   omega
  refine RO (tE _ _) ?_
  show 0+e.own.length+3<=64
  omega
 simp
structure SmallD (w:WorldD):Prop where
 p:SmallWP w
 s:SmallS w
 oa:w.a.out.text.length<=1048576
 ob:w.b.out.text.length<=1048576
theorem oR {e:EndD} {t:List UInt8} (h:e.out.text.length<=1048576):(write e t).1.out.text.length<=1048576:=by
 rw [write];split
 ·dsimp only
  rw [dh];split
  ·rename_i ho
   simp only [wm,Rx] at ho
   have F:=dp ho.1
   have:=yS (t:=t) F
   have:=F.room
   dsimp only
   rw [Ru,Rz]
   omega
  exact h
 exact h
theorem sn {e:EndD} {m:Int} (h:SmallP e.inp):(bu e m).2.length<=1048576:=by
 have:=h.ready
 rw [bu];split
 ·dsimp only
  rw [bs];split
  ·dsimp only;rw [Rz];omega
  simp
 simp
theorem Av (w:WorldD) (pos many:Int) (text:List UInt8) (ad:AddrD) (le:LetterD) (hw:SmallD w) (htx:text.length<=1048576):
  aP 57 [.sc (.pt 21 0 0),.ag (ActD.cs ⟨1,1,pos,many,text,ad,le⟩)] (w.hp true++[some ⟨[w.cs 0],61,60,true,false⟩]) (.sc (.int .i64 0))
  ((nH 21++[some ⟨[WorldD.cs (az 1 { w with wroteA:=w.wroteA++text.take (write w.a text).2,a:=(bh w.a text).1 } (bh w.a text).2) 22],61,60,true,false⟩])++WorldD.hp (az 1 { w with wroteA:=w.wroteA++text.take (write w.a text).2,a:=(bh w.a text).1 } (bh w.a text).2) true):=by
 have q1:=hw.s.wa
 have q2:=hw.s.wb
 have q3:=hw.s.ra
 have q4:=hw.s.rb
 have hX:=om w.a text hw.p.s.a htx (oR hw.oa)
 have hsm:=mI (t:=text) hw.p.s.a
 have hlen:=qp w.a text
 have hEA:aP 90 [.ag (w.cs 0),.sc (.int .i64 1)] (w.hp false) (.ag (w.a.cs 21)) (w.hp false++w.a.hp true):=bY w 1 hw.p.s.a.own hw.p.s.a.far hw.p.s.a.subs hw.p.s.a.halfs hw.p.s.a.list hw.p.s.a.done hw.p.s.a.over hw.p.s.b.own hw.p.s.b.far hw.p.s.b.subs hw.p.s.b.halfs hw.p.s.b.list hw.p.s.b.done hw.p.s.b.over
 have hX2:=oP w.a text hw.p.s.a htx
 have hwl:=Cy w.a text
 obtain⟨wr,hwr⟩:∃ p,p=write w.a text:=⟨_,rfl⟩
 rw [<-hwr] at hX2 hwl⊢
 obtain⟨e0,n0⟩:=wr
 dsimp only at hX2 hwl⊢
 obtain⟨pr,hpr⟩:∃ p,p=bh w.a text:=⟨_,rfl⟩
 rw [<-hpr] at hX hsm hlen⊢
 obtain⟨e1,l1⟩:=pr
 dsimp only at hX hsm hlen⊢
 have hset:=gw { w with wroteA:=w.wroteA++text.take n0 } e1
 have hpost:=fF { w with wroteA:=w.wroteA++text.take n0,a:=e1 } l1 ⟨hw.p.s.bag,hw.p.s.past,hw.p.s.keys,hw.p.s.tags,hw.p.s.nums,hw.p.s.ansA,hw.p.s.ansB⟩ (by first|omega|simp)
 have hends:=bH (side:=1) (l:=l1) (w:={ w with wroteA:=w.wroteA++text.take n0,a:=e1 })
 obtain⟨R,hR⟩:∃ R,R=az 1 { w with wroteA:=w.wroteA++text.take n0,a:=e1 } l1:=⟨_,rfl⟩
 rw [<-hR] at hpost hends⊢
 clear hR
 obtain⟨ra,rb,bag,past,wA,wB,rA,rB,known,nums,nsA,nsB⟩:=R
 obtain⟨keys,tags⟩:=known
 dsimp only at hends
 obtain⟨g1,g2,g3,g4,g5,g6⟩:=hends
 replace g1:=g1.symm
 replace g2:=g2.symm
 replace g3:=g3.symm
 replace g4:=g4.symm
 replace g5:=g5.symm
 replace g6:=g6.symm
 subst g1 g2 g3 g4 g5 g6
 have htk:(text.take n0).length=n0:=by rw [Rz];omega
 refine aL func57 (by kernel_rfl) rfl fun E hE=>aa 400 ?_
 simp (disch:=omega) only [ntmps57,results57,go_sem,seval]
 refine bj [(5,6)] [] [(qU [0,8]),[0,1,2,3,4,6,5,7]] 22 hE (fun s=>s.at (qU [13,6]) [(5,.sc (.pt 30 0 0))] (s.hp++(w.a.hp true++[some ⟨[w.a.cs 23],25,54,true,false⟩]))) (by kernel_rfl) (qC) (by kernel_rfl) ?_ (aa 400 ?_)
 rotate_left
 rotate_right
 simp only [a_]
 refine⟨ab 400 ?_,ab 400 ?_⟩
 ·simp (disch:=omega) only [go_sem]
  refine aj (qC) (hEA) (qI 0 21) qM zF zF (ab 400 ?_)
  simp (disch:=omega) only [go_sem,seval]
  exact qZ (qI 0 31)
 ·simp (disch:=omega) only [go_sem]
  refine aj (qC) (hEA) (qI 0 21) qM zF zF (ab 400 ?_)
  simp (disch:=omega) only [go_sem,seval]
  exact qZ (qI 0 23++qI 24 7++qI 23 1)
 try simp (disch:=omega) only [go_sem,seval]
 refine ah (qC) (hX2) (qI 23 7) qM zF (aa 400 ?_)
 simp (disch:=omega) only [go_sem,seval]
 refine ah (qC) (hX) (qI 23 7) qM zF (aa 400 ?_)
 simp (disch:=omega) only [go_sem,seval]
 refine ak (qU [0,12]) (by kernel_rfl) (qC) (by kernel_rfl) (ab 400 ?_)
 simp (disch:=omega) only [go_sem,seval]
 refine⟨qC,aa 400 ?_⟩
 try simp (disch:=omega) only [go_sem,seval]
 refine ah (qC) (hset) (qI 0 21++qI 39 7++qI 21 1) qM zF (aa 400 ?_)
 simp (disch:=omega) only [go_sem,seval]
 refine ah (qC) (hpost) (qI 39 7++qI 7 15++qI 46 1) qM zF (aa 400 ?_)
 simp (disch:=omega) only [go_sem,seval]
 refine aH (qI 0 22++qI 39 7++qI 7 7++qI 47 7) (qC) _ (by simp only [go_sem];rfl) zF zF ?_
 simp (disch:=omega) only [go_sem,seval]
theorem Aw (w:WorldD) (pos many:Int) (text:List UInt8) (ad:AddrD) (le:LetterD) (hw:SmallD w) (htx:text.length<=1048576):
  aP 57 [.sc (.pt 21 0 0),.ag (ActD.cs ⟨2,1,pos,many,text,ad,le⟩)] (w.hp true++[some ⟨[w.cs 0],61,60,true,false⟩]) (.sc (.int .i64 0))
  ((nH 21++[some ⟨[WorldD.cs (az 1 { w with readA:=w.readA++(bu w.a many).2,a:=((bu w.a many).1,([]:List LetterD)).1 } ((bu w.a many).1,([]:List LetterD)).2) 22],61,60,true,false⟩])++WorldD.hp (az 1 { w with readA:=w.readA++(bu w.a many).2,a:=((bu w.a many).1,([]:List LetterD)).1 } ((bu w.a many).1,([]:List LetterD)).2) true):=by
 have q1:=hw.s.wa
 have q2:=hw.s.wb
 have q3:=hw.s.ra
 have q4:=hw.s.rb
 have hX:=yT w.a many hw.p.s.a hw.p.pa
 have hsm:=mJ (m:=many) hw.p.s.a
 have hEA:aP 90 [.ag (w.cs 0),.sc (.int .i64 1)] (w.hp false) (.ag (w.a.cs 21)) (w.hp false++w.a.hp true):=bY w 1 hw.p.s.a.own hw.p.s.a.far hw.p.s.a.subs hw.p.s.a.halfs hw.p.s.a.list hw.p.s.a.done hw.p.s.a.over hw.p.s.b.own hw.p.s.b.far hw.p.s.b.subs hw.p.s.b.halfs hw.p.s.b.list hw.p.s.b.done hw.p.s.b.over
 obtain⟨pr,hpr⟩:∃ p,p=bu w.a many:=⟨_,rfl⟩
 have hrl:(bu w.a many).2.length<=1048576:=sn hw.p.pa
 rw [<-hpr] at hX hsm hrl⊢
 obtain⟨e1,t1⟩:=pr
 dsimp only at hX hsm hrl⊢
 obtain⟨l1,hl1⟩:∃ l:List LetterD,l=[]:=⟨_,rfl⟩
 have hlen:l1.length<=1:=by rw [hl1];simp
 have hset:=gw { w with readA:=w.readA++t1 } e1
 have hpost:=fF { w with readA:=w.readA++t1,a:=e1 } [] ⟨hw.p.s.bag,hw.p.s.past,hw.p.s.keys,hw.p.s.tags,hw.p.s.nums,hw.p.s.ansA,hw.p.s.ansB⟩ (by first|omega|simp)
 have hends:=bH (side:=1) (l:=[]) (w:={ w with readA:=w.readA++t1,a:=e1 })
 obtain⟨R,hR⟩:∃ R,R=az 1 { w with readA:=w.readA++t1,a:=e1 } []:=⟨_,rfl⟩
 rw [<-hR] at hpost hends⊢
 clear hR
 obtain⟨ra,rb,bag,past,wA,wB,rA,rB,known,nums,nsA,nsB⟩:=R
 obtain⟨keys,tags⟩:=known
 dsimp only at hends
 obtain⟨g1,g2,g3,g4,g5,g6⟩:=hends
 replace g1:=g1.symm
 replace g2:=g2.symm
 replace g3:=g3.symm
 replace g4:=g4.symm
 replace g5:=g5.symm
 replace g6:=g6.symm
 subst g1 g2 g3 g4 g5 g6
 refine aL func57 (by kernel_rfl) rfl fun E hE=>aa 400 ?_
 simp (disch:=omega) only [ntmps57,results57,go_sem,seval]
 refine bj [(5,6)] [] [(qU [0,8]),[0,1,2,3,4,6,5,7]] 22 hE (fun s=>s.at (qU [13,6]) [(5,.sc (.pt 30 0 0))] (s.hp++(w.a.hp true++[some ⟨[w.a.cs 23],25,54,true,false⟩]))) (by kernel_rfl) (qC) (by kernel_rfl) ?_ (aa 400 ?_)
 rotate_left
 rotate_right
 simp only [a_]
 refine⟨ab 400 ?_,ab 400 ?_⟩
 ·simp (disch:=omega) only [go_sem]
  refine aj (qC) (hEA) (qI 0 21) qM zF zF (ab 400 ?_)
  simp (disch:=omega) only [go_sem,seval]
  exact qZ (qI 0 31)
 ·simp (disch:=omega) only [go_sem]
  refine aj (qC) (hEA) (qI 0 21) qM zF zF (ab 400 ?_)
  simp (disch:=omega) only [go_sem,seval]
  exact qZ (qI 0 23++qI 24 7++qI 23 1)
 try simp (disch:=omega) only [go_sem,seval]
 refine ah (qC) (hX) (qI 23 7) qM zF (aa 400 ?_)
 simp (disch:=omega) only [go_sem,seval]
 refine ah (qC) (hset) (qI 0 21++qI 31 7++qI 21 1) qM zF (aa 400 ?_)
 simp (disch:=omega) only [go_sem,seval]
 refine ah (qC) (hpost) (qI 31 7++qI 7 15++qO 1) qM zF (aa 400 ?_)
 simp (disch:=omega) only [go_sem,seval]
 refine aH (qI 0 22++qI 31 7++qI 7 7++qI 39 7) (qC) _ (by simp only [go_sem];rfl) zF zF ?_
 simp (disch:=omega) only [go_sem,seval]
theorem Ax (w:WorldD) (pos many:Int) (text:List UInt8) (ad:AddrD) (le:LetterD) (hw:SmallD w) (htx:text.length<=1048576):
  aP 57 [.sc (.pt 21 0 0),.ag (ActD.cs ⟨4,1,pos,many,text,ad,le⟩)] (w.hp true++[some ⟨[w.cs 0],61,60,true,false⟩]) (.sc (.int .i64 0))
  ((nH 21++[some ⟨[WorldD.cs (az 1 { w with a:=(manage w.a).1 } (manage w.a).2) 22],61,60,true,false⟩])++WorldD.hp (az 1 { w with a:=(manage w.a).1 } (manage w.a).2) true):=by
 have q1:=hw.s.wa
 have q2:=hw.s.wb
 have q3:=hw.s.ra
 have q4:=hw.s.rb
 have hX:=tw w.a hw.p.s.a
 have hsm:=lz hw.p.s.a
 have hlen:=wI w.a
 have hEA:aP 90 [.ag (w.cs 0),.sc (.int .i64 1)] (w.hp false) (.ag (w.a.cs 21)) (w.hp false++w.a.hp true):=bY w 1 hw.p.s.a.own hw.p.s.a.far hw.p.s.a.subs hw.p.s.a.halfs hw.p.s.a.list hw.p.s.a.done hw.p.s.a.over hw.p.s.b.own hw.p.s.b.far hw.p.s.b.subs hw.p.s.b.halfs hw.p.s.b.list hw.p.s.b.done hw.p.s.b.over
 obtain⟨pr,hpr⟩:∃ p,p=manage w.a:=⟨_,rfl⟩
 rw [<-hpr] at hX hsm hlen⊢
 obtain⟨e1,l1⟩:=pr
 dsimp only at hX hsm hlen⊢
 have hset:=gw w e1
 have hpost:=fF { w with a:=e1 } l1 ⟨hw.p.s.bag,hw.p.s.past,hw.p.s.keys,hw.p.s.tags,hw.p.s.nums,hw.p.s.ansA,hw.p.s.ansB⟩ (by first|omega|simp)
 have hends:=bH (side:=1) (l:=l1) (w:={ w with a:=e1 })
 obtain⟨R,hR⟩:∃ R,R=az 1 { w with a:=e1 } l1:=⟨_,rfl⟩
 rw [<-hR] at hpost hends⊢
 clear hR
 obtain⟨ra,rb,bag,past,wA,wB,rA,rB,known,nums,nsA,nsB⟩:=R
 obtain⟨keys,tags⟩:=known
 dsimp only at hends
 obtain⟨g1,g2,g3,g4,g5,g6⟩:=hends
 replace g1:=g1.symm
 replace g2:=g2.symm
 replace g3:=g3.symm
 replace g4:=g4.symm
 replace g5:=g5.symm
 replace g6:=g6.symm
 subst g1 g2 g3 g4 g5 g6
 refine aL func57 (by kernel_rfl) rfl fun E hE=>aa 400 ?_
 simp (disch:=omega) only [ntmps57,results57,go_sem,seval]
 refine bj [(5,6)] [] [(qU [0,8]),[0,1,2,3,4,6,5,7]] 22 hE (fun s=>s.at (qU [13,6]) [(5,.sc (.pt 30 0 0))] (s.hp++(w.a.hp true++[some ⟨[w.a.cs 23],25,54,true,false⟩]))) (by kernel_rfl) (qC) (by kernel_rfl) ?_ (aa 400 ?_)
 rotate_left
 rotate_right
 simp only [a_]
 refine⟨ab 400 ?_,ab 400 ?_⟩
 ·simp (disch:=omega) only [go_sem]
  refine aj (qC) (hEA) (qI 0 21) qM zF zF (ab 400 ?_)
  simp (disch:=omega) only [go_sem,seval]
  exact qZ (qI 0 31)
 ·simp (disch:=omega) only [go_sem]
  refine aj (qC) (hEA) (qI 0 21) qM zF zF (ab 400 ?_)
  simp (disch:=omega) only [go_sem,seval]
  exact qZ (qI 0 23++qI 24 7++qI 23 1)
 try simp (disch:=omega) only [go_sem,seval]
 refine ah (qC) (hX) (qI 23 7) qM zF (aa 400 ?_)
 simp (disch:=omega) only [go_sem,seval]
 refine ah (qC) (hset) (qI 0 21++qI 31 7++qI 21 1) qM zF (aa 400 ?_)
 simp (disch:=omega) only [go_sem,seval]
 refine ah (qC) (hpost) (qI 31 7++qI 7 15++qI 38 1) qM zF (aa 400 ?_)
 simp (disch:=omega) only [go_sem,seval]
 refine aH (qI 0 22++qI 31 7++qI 7 7++qI 39 7) (qC) _ (by simp only [go_sem];rfl) zF zF ?_
 simp (disch:=omega) only [go_sem,seval]
theorem Ay (w:WorldD) (pos many:Int) (text:List UInt8) (ad:AddrD) (le:LetterD) (hw:SmallD w) (htx:text.length<=1048576) (hsd:sideAt ad.addr=1) (hgood:(aN w.a ad).2=true):
  aP 57 [.sc (.pt 21 0 0),.ag (ActD.cs ⟨5,1,pos,many,text,ad,le⟩)] (w.hp true++[some ⟨[w.cs 0],61,60,true,false⟩]) (.sc (.int .i64 0))
  ((nH 21++[some ⟨[WorldD.cs (az 1 { w with a:=((aN w.a ad).1,([]:List LetterD)).1 } ((aN w.a ad).1,([]:List LetterD)).2) 22],61,60,true,false⟩])++WorldD.hp (az 1 { w with a:=((aN w.a ad).1,([]:List LetterD)).1 } ((aN w.a ad).1,([]:List LetterD)).2) true):=by
 have q1:=hw.s.wa
 have q2:=hw.s.wb
 have q3:=hw.s.ra
 have q4:=hw.s.rb
 have hX:=j8 w.a ad hw.p.s.a
 have hsm:=gX (a:=ad) hw.p.s.a
 have hEA:aP 90 [.ag (w.cs 0),.sc (.int .i64 1)] (w.hp false) (.ag (w.a.cs 21)) (w.hp false++w.a.hp true):=bY w 1 hw.p.s.a.own hw.p.s.a.far hw.p.s.a.subs hw.p.s.a.halfs hw.p.s.a.list hw.p.s.a.done hw.p.s.a.over hw.p.s.b.own hw.p.s.b.far hw.p.s.b.subs hw.p.s.b.halfs hw.p.s.b.list hw.p.s.b.done hw.p.s.b.over
 obtain⟨pr,hpr⟩:∃ p,p=aN w.a ad:=⟨_,rfl⟩
 rw [<-hpr] at hX hsm hgood⊢
 obtain⟨e1,ok1⟩:=pr
 dsimp only at hX hsm hgood⊢
 subst hgood
 obtain⟨l1,hl1⟩:∃ l:List LetterD,l=[]:=⟨_,rfl⟩
 have hlen:l1.length<=1:=by rw [hl1];simp
 have hset:=gw w e1
 have hpost:=fF { w with a:=e1 } [] ⟨hw.p.s.bag,hw.p.s.past,hw.p.s.keys,hw.p.s.tags,hw.p.s.nums,hw.p.s.ansA,hw.p.s.ansB⟩ (by first|omega|simp)
 have hends:=bH (side:=1) (l:=[]) (w:={ w with a:=e1 })
 obtain⟨R,hR⟩:∃ R,R=az 1 { w with a:=e1 } []:=⟨_,rfl⟩
 rw [<-hR] at hpost hends⊢
 clear hR
 obtain⟨ra,rb,bag,past,wA,wB,rA,rB,known,nums,nsA,nsB⟩:=R
 obtain⟨keys,tags⟩:=known
 dsimp only at hends
 obtain⟨g1,g2,g3,g4,g5,g6⟩:=hends
 replace g1:=g1.symm
 replace g2:=g2.symm
 replace g3:=g3.symm
 replace g4:=g4.symm
 replace g5:=g5.symm
 replace g6:=g6.symm
 subst g1 g2 g3 g4 g5 g6
 have hSd:=eA ad.addr
 rw [hsd] at hSd
 refine aL func57 (by kernel_rfl) rfl fun E hE=>aa 400 ?_
 simp (disch:=omega) only [ntmps57,results57,go_sem,seval]
 refine bj [(5,6)] [] [(qU [0,8]),[0,1,2,3,4,6,5,7]] 22 hE (fun s=>s.at (qU [13,6]) [(5,.sc (.pt 30 0 0))] (s.hp++(w.a.hp true++[some ⟨[w.a.cs 23],25,54,true,false⟩]))) (by kernel_rfl) (qC) (by kernel_rfl) ?_ (aa 400 ?_)
 rotate_left
 rotate_right
 simp only [a_]
 refine⟨ab 400 ?_,ab 400 ?_⟩
 ·simp (disch:=omega) only [go_sem]
  refine aj (qC) (hEA) (qI 0 21) qM zF zF (ab 400 ?_)
  simp (disch:=omega) only [go_sem,seval]
  exact qZ (qI 0 31)
 ·simp (disch:=omega) only [go_sem]
  refine aj (qC) (hEA) (qI 0 21) qM zF zF (ab 400 ?_)
  simp (disch:=omega) only [go_sem,seval]
  exact qZ (qI 0 23++qI 24 7++qI 23 1)
 try simp (disch:=omega) only [go_sem,seval]
 refine ah (qC) (hX) (qI 23 7) qM zF (aa 400 ?_)
 simp (disch:=omega) only [go_sem,seval]
 refine ak (qU [0,3,4,2,3,1,6,5]) (by kernel_rfl) (qC) (by kernel_rfl) (ab 400 ?_)
 simp (disch:=omega) only [go_sem,seval]
 refine aj (qC) (hSd) [] qM zF zF (ab 400 ?_)
 simp (disch:=omega) only [go_sem,seval]
 refine⟨qC,aa 400 ?_⟩
 try simp (disch:=omega) only [go_sem,seval]
 refine ah (qC) (hset) (qI 0 21++qI 31 7++qI 21 1) qM zF (aa 400 ?_)
 simp (disch:=omega) only [go_sem,seval]
 refine ah (qC) (hpost) (qI 31 7++qI 7 15++qO 1) qM zF (aa 400 ?_)
 simp (disch:=omega) only [go_sem,seval]
 refine aH (qI 0 22++qI 31 7++qI 7 7++qI 39 7) (qC) _ (by simp only [go_sem];rfl) zF zF ?_
 simp (disch:=omega) only [go_sem,seval]
theorem Az (w:WorldD) (pos many:Int) (text:List UInt8) (ad:AddrD) (le:LetterD) (hw:SmallD w) (htx:text.length<=1048576):
  aP 57 [.sc (.pt 21 0 0),.ag (ActD.cs ⟨6,1,pos,many,text,ad,le⟩)] (w.hp true++[some ⟨[w.cs 0],61,60,true,false⟩]) (.sc (.int .i64 0))
  ((nH 21++[some ⟨[WorldD.cs (az 1 { w with a:=(bz w.a pos).1 } (bz w.a pos).2) 22],61,60,true,false⟩])++WorldD.hp (az 1 { w with a:=(bz w.a pos).1 } (bz w.a pos).2) true):=by
 have q1:=hw.s.wa
 have q2:=hw.s.wb
 have q3:=hw.s.ra
 have q4:=hw.s.rb
 have hX:=ql w.a pos hw.p.s.a
 have hsm:=ks (n:=pos) hw.p.s.a
 have hlen:=tC w.a pos hw.p.s.a
 have hEA:aP 90 [.ag (w.cs 0),.sc (.int .i64 1)] (w.hp false) (.ag (w.a.cs 21)) (w.hp false++w.a.hp true):=bY w 1 hw.p.s.a.own hw.p.s.a.far hw.p.s.a.subs hw.p.s.a.halfs hw.p.s.a.list hw.p.s.a.done hw.p.s.a.over hw.p.s.b.own hw.p.s.b.far hw.p.s.b.subs hw.p.s.b.halfs hw.p.s.b.list hw.p.s.b.done hw.p.s.b.over
 obtain⟨pr,hpr⟩:∃ p,p=bz w.a pos:=⟨_,rfl⟩
 rw [<-hpr] at hX hsm hlen⊢
 obtain⟨e1,l1⟩:=pr
 dsimp only at hX hsm hlen⊢
 have hset:=gw w e1
 have hpost:=fF { w with a:=e1 } l1 ⟨hw.p.s.bag,hw.p.s.past,hw.p.s.keys,hw.p.s.tags,hw.p.s.nums,hw.p.s.ansA,hw.p.s.ansB⟩ (by first|omega|simp)
 have hends:=bH (side:=1) (l:=l1) (w:={ w with a:=e1 })
 obtain⟨R,hR⟩:∃ R,R=az 1 { w with a:=e1 } l1:=⟨_,rfl⟩
 rw [<-hR] at hpost hends⊢
 clear hR
 obtain⟨ra,rb,bag,past,wA,wB,rA,rB,known,nums,nsA,nsB⟩:=R
 obtain⟨keys,tags⟩:=known
 dsimp only at hends
 obtain⟨g1,g2,g3,g4,g5,g6⟩:=hends
 replace g1:=g1.symm
 replace g2:=g2.symm
 replace g3:=g3.symm
 replace g4:=g4.symm
 replace g5:=g5.symm
 replace g6:=g6.symm
 subst g1 g2 g3 g4 g5 g6
 refine aL func57 (by kernel_rfl) rfl fun E hE=>aa 400 ?_
 simp (disch:=omega) only [ntmps57,results57,go_sem,seval]
 refine bj [(5,6)] [] [(qU [0,8]),[0,1,2,3,4,6,5,7]] 22 hE (fun s=>s.at (qU [13,6]) [(5,.sc (.pt 30 0 0))] (s.hp++(w.a.hp true++[some ⟨[w.a.cs 23],25,54,true,false⟩]))) (by kernel_rfl) (qC) (by kernel_rfl) ?_ (aa 400 ?_)
 rotate_left
 rotate_right
 simp only [a_]
 refine⟨ab 400 ?_,ab 400 ?_⟩
 ·simp (disch:=omega) only [go_sem]
  refine aj (qC) (hEA) (qI 0 21) qM zF zF (ab 400 ?_)
  simp (disch:=omega) only [go_sem,seval]
  exact qZ (qI 0 31)
 ·simp (disch:=omega) only [go_sem]
  refine aj (qC) (hEA) (qI 0 21) qM zF zF (ab 400 ?_)
  simp (disch:=omega) only [go_sem,seval]
  exact qZ (qI 0 23++qI 24 7++qI 23 1)
 try simp (disch:=omega) only [go_sem,seval]
 refine ah (qC) (hX) (qI 23 7) qM zF (aa 400 ?_)
 simp (disch:=omega) only [go_sem,seval]
 refine ah (qC) (hset) (qI 0 21++qI 31 7++qI 21 1) qM zF (aa 400 ?_)
 simp (disch:=omega) only [go_sem,seval]
 refine ah (qC) (hpost) (qI 31 7++qI 7 15++qI 38 1) qM zF (aa 400 ?_)
 simp (disch:=omega) only [go_sem,seval]
 refine aH (qI 0 22++qI 31 7++qI 7 7++qI 39 7) (qC) _ (by simp only [go_sem];rfl) zF zF ?_
 simp (disch:=omega) only [go_sem,seval]
theorem AA (w:WorldD) (pos many:Int) (text:List UInt8) (ad:AddrD) (le:LetterD) (hw:SmallD w) (htx:text.length<=1048576):
  aP 57 [.sc (.pt 21 0 0),.ag (ActD.cs ⟨7,1,pos,many,text,ad,le⟩)] (w.hp true++[some ⟨[w.cs 0],61,60,true,false⟩]) (.sc (.int .i64 0))
  ((nH 21++[some ⟨[WorldD.cs (az 1 { w with a:=(cp w.a pos).1 } (cp w.a pos).2) 22],61,60,true,false⟩])++WorldD.hp (az 1 { w with a:=(cp w.a pos).1 } (cp w.a pos).2) true):=by
 have q1:=hw.s.wa
 have q2:=hw.s.wb
 have q3:=hw.s.ra
 have q4:=hw.s.rb
 have hX:=wG w.a pos hw.p.s.a
 have hsm:=ly (k:=pos) hw.p.s.a
 have hlen:=wH w.a pos
 have hEA:aP 90 [.ag (w.cs 0),.sc (.int .i64 1)] (w.hp false) (.ag (w.a.cs 21)) (w.hp false++w.a.hp true):=bY w 1 hw.p.s.a.own hw.p.s.a.far hw.p.s.a.subs hw.p.s.a.halfs hw.p.s.a.list hw.p.s.a.done hw.p.s.a.over hw.p.s.b.own hw.p.s.b.far hw.p.s.b.subs hw.p.s.b.halfs hw.p.s.b.list hw.p.s.b.done hw.p.s.b.over
 obtain⟨pr,hpr⟩:∃ p,p=cp w.a pos:=⟨_,rfl⟩
 rw [<-hpr] at hX hsm hlen⊢
 obtain⟨e1,l1⟩:=pr
 dsimp only at hX hsm hlen⊢
 have hset:=gw w e1
 have hpost:=fF { w with a:=e1 } l1 ⟨hw.p.s.bag,hw.p.s.past,hw.p.s.keys,hw.p.s.tags,hw.p.s.nums,hw.p.s.ansA,hw.p.s.ansB⟩ (by first|omega|simp)
 have hends:=bH (side:=1) (l:=l1) (w:={ w with a:=e1 })
 obtain⟨R,hR⟩:∃ R,R=az 1 { w with a:=e1 } l1:=⟨_,rfl⟩
 rw [<-hR] at hpost hends⊢
 clear hR
 obtain⟨ra,rb,bag,past,wA,wB,rA,rB,known,nums,nsA,nsB⟩:=R
 obtain⟨keys,tags⟩:=known
 dsimp only at hends
 obtain⟨g1,g2,g3,g4,g5,g6⟩:=hends
 replace g1:=g1.symm
 replace g2:=g2.symm
 replace g3:=g3.symm
 replace g4:=g4.symm
 replace g5:=g5.symm
 replace g6:=g6.symm
 subst g1 g2 g3 g4 g5 g6
 refine aL func57 (by kernel_rfl) rfl fun E hE=>aa 400 ?_
 simp (disch:=omega) only [ntmps57,results57,go_sem,seval]
 refine bj [(5,6)] [] [(qU [0,8]),[0,1,2,3,4,6,5,7]] 22 hE (fun s=>s.at (qU [13,6]) [(5,.sc (.pt 30 0 0))] (s.hp++(w.a.hp true++[some ⟨[w.a.cs 23],25,54,true,false⟩]))) (by kernel_rfl) (qC) (by kernel_rfl) ?_ (aa 400 ?_)
 rotate_left
 rotate_right
 simp only [a_]
 refine⟨ab 400 ?_,ab 400 ?_⟩
 ·simp (disch:=omega) only [go_sem]
  refine aj (qC) (hEA) (qI 0 21) qM zF zF (ab 400 ?_)
  simp (disch:=omega) only [go_sem,seval]
  exact qZ (qI 0 31)
 ·simp (disch:=omega) only [go_sem]
  refine aj (qC) (hEA) (qI 0 21) qM zF zF (ab 400 ?_)
  simp (disch:=omega) only [go_sem,seval]
  exact qZ (qI 0 23++qI 24 7++qI 23 1)
 try simp (disch:=omega) only [go_sem,seval]
 refine ah (qC) (hX) (qI 23 7) qM zF (aa 400 ?_)
 simp (disch:=omega) only [go_sem,seval]
 refine ah (qC) (hset) (qI 0 21++qI 31 7++qI 21 1) qM zF (aa 400 ?_)
 simp (disch:=omega) only [go_sem,seval]
 refine ah (qC) (hpost) (qI 31 7++qI 7 15++qI 38 1) qM zF (aa 400 ?_)
 simp (disch:=omega) only [go_sem,seval]
 refine aH (qI 0 22++qI 31 7++qI 7 7++qI 39 7) (qC) _ (by simp only [go_sem];rfl) zF zF ?_
 simp (disch:=omega) only [go_sem,seval]
theorem AB (w:WorldD) (pos many:Int) (text:List UInt8) (ad:AddrD) (le:LetterD) (hw:SmallD w) (htx:text.length<=1048576):
  aP 57 [.sc (.pt 21 0 0),.ag (ActD.cs ⟨1,2,pos,many,text,ad,le⟩)] (w.hp true++[some ⟨[w.cs 0],61,60,true,false⟩]) (.sc (.int .i64 0))
  ((nH 21++[some ⟨[WorldD.cs (az 2 { w with wroteB:=w.wroteB++text.take (write w.b text).2,b:=(bh w.b text).1 } (bh w.b text).2) 22],61,60,true,false⟩])++WorldD.hp (az 2 { w with wroteB:=w.wroteB++text.take (write w.b text).2,b:=(bh w.b text).1 } (bh w.b text).2) true):=by
 have q1:=hw.s.wa
 have q2:=hw.s.wb
 have q3:=hw.s.ra
 have q4:=hw.s.rb
 have hX:=om w.b text hw.p.s.b htx (oR hw.ob)
 have hsm:=mI (t:=text) hw.p.s.b
 have hlen:=qp w.b text
 have hEA:aP 90 [.ag (w.cs 0),.sc (.int .i64 2)] (w.hp false) (.ag (w.b.cs 21)) (w.hp false++w.b.hp true):=bY w 2 hw.p.s.a.own hw.p.s.a.far hw.p.s.a.subs hw.p.s.a.halfs hw.p.s.a.list hw.p.s.a.done hw.p.s.a.over hw.p.s.b.own hw.p.s.b.far hw.p.s.b.subs hw.p.s.b.halfs hw.p.s.b.list hw.p.s.b.done hw.p.s.b.over
 have hX2:=oP w.b text hw.p.s.b htx
 have hwl:=Cy w.b text
 obtain⟨wr,hwr⟩:∃ p,p=write w.b text:=⟨_,rfl⟩
 rw [<-hwr] at hX2 hwl⊢
 obtain⟨e0,n0⟩:=wr
 dsimp only at hX2 hwl⊢
 obtain⟨pr,hpr⟩:∃ p,p=bh w.b text:=⟨_,rfl⟩
 rw [<-hpr] at hX hsm hlen⊢
 obtain⟨e1,l1⟩:=pr
 dsimp only at hX hsm hlen⊢
 have hset:=gx { w with wroteB:=w.wroteB++text.take n0 } e1
 have hpost:=fG { w with wroteB:=w.wroteB++text.take n0,b:=e1 } l1 ⟨hw.p.s.bag,hw.p.s.past,hw.p.s.keys,hw.p.s.tags,hw.p.s.nums,hw.p.s.ansA,hw.p.s.ansB⟩ (by first|omega|simp)
 have hends:=bH (side:=2) (l:=l1) (w:={ w with wroteB:=w.wroteB++text.take n0,b:=e1 })
 obtain⟨R,hR⟩:∃ R,R=az 2 { w with wroteB:=w.wroteB++text.take n0,b:=e1 } l1:=⟨_,rfl⟩
 rw [<-hR] at hpost hends⊢
 clear hR
 obtain⟨ra,rb,bag,past,wA,wB,rA,rB,known,nums,nsA,nsB⟩:=R
 obtain⟨keys,tags⟩:=known
 dsimp only at hends
 obtain⟨g1,g2,g3,g4,g5,g6⟩:=hends
 replace g1:=g1.symm
 replace g2:=g2.symm
 replace g3:=g3.symm
 replace g4:=g4.symm
 replace g5:=g5.symm
 replace g6:=g6.symm
 subst g1 g2 g3 g4 g5 g6
 have htk:(text.take n0).length=n0:=by rw [Rz];omega
 refine aL func57 (by kernel_rfl) rfl fun E hE=>aa 400 ?_
 simp (disch:=omega) only [ntmps57,results57,go_sem,seval]
 refine bj [(5,6)] [] [(qU [0,8]),[0,1,2,3,4,6,5,7]] 22 hE (fun s=>s.at (qU [13,6]) [(5,.sc (.pt 30 0 0))] (s.hp++(w.b.hp true++[some ⟨[w.b.cs 23],25,54,true,false⟩]))) (by kernel_rfl) (qC) (by kernel_rfl) ?_ (aa 400 ?_)
 rotate_left
 rotate_right
 simp only [a_]
 refine⟨ab 400 ?_,ab 400 ?_⟩
 ·simp (disch:=omega) only [go_sem]
  refine aj (qC) (hEA) (qI 0 21) qM zF zF (ab 400 ?_)
  simp (disch:=omega) only [go_sem,seval]
  exact qZ (qI 0 31)
 ·simp (disch:=omega) only [go_sem]
  refine aj (qC) (hEA) (qI 0 21) qM zF zF (ab 400 ?_)
  simp (disch:=omega) only [go_sem,seval]
  exact qZ (qI 0 23++qI 24 7++qI 23 1)
 try simp (disch:=omega) only [go_sem,seval]
 refine ah (qC) (hX2) (qI 23 7) qM zF (aa 400 ?_)
 simp (disch:=omega) only [go_sem,seval]
 refine ah (qC) (hX) (qI 23 7) qM zF (aa 400 ?_)
 simp (disch:=omega) only [go_sem,seval]
 refine ak (qU [0,12]) (by kernel_rfl) (qC) (by kernel_rfl) (ab 400 ?_)
 simp (disch:=omega) only [go_sem,seval]
 refine⟨qC,aa 400 ?_⟩
 try simp (disch:=omega) only [go_sem,seval]
 refine ah (qC) (hset) (qI 0 21++qI 39 7++qI 21 1) qM zF (aa 400 ?_)
 simp (disch:=omega) only [go_sem,seval]
 refine ah (qC) (hpost) (qI 0 7++qI 39 7++qI 14 8++qI 46 1) qM zF (aa 400 ?_)
 simp (disch:=omega) only [go_sem,seval]
 refine aH (qI 0 22++qI 0 7++qI 39 7++qI 47 7) (qC) _ (by simp only [go_sem];rfl) zF zF ?_
 simp (disch:=omega) only [go_sem,seval]
theorem AC (w:WorldD) (pos many:Int) (text:List UInt8) (ad:AddrD) (le:LetterD) (hw:SmallD w) (htx:text.length<=1048576):
  aP 57 [.sc (.pt 21 0 0),.ag (ActD.cs ⟨2,2,pos,many,text,ad,le⟩)] (w.hp true++[some ⟨[w.cs 0],61,60,true,false⟩]) (.sc (.int .i64 0))
  ((nH 21++[some ⟨[WorldD.cs (az 2 { w with readB:=w.readB++(bu w.b many).2,b:=((bu w.b many).1,([]:List LetterD)).1 } ((bu w.b many).1,([]:List LetterD)).2) 22],61,60,true,false⟩])++WorldD.hp (az 2 { w with readB:=w.readB++(bu w.b many).2,b:=((bu w.b many).1,([]:List LetterD)).1 } ((bu w.b many).1,([]:List LetterD)).2) true):=by
 have q1:=hw.s.wa
 have q2:=hw.s.wb
 have q3:=hw.s.ra
 have q4:=hw.s.rb
 have hX:=yT w.b many hw.p.s.b hw.p.pb
 have hsm:=mJ (m:=many) hw.p.s.b
 have hEA:aP 90 [.ag (w.cs 0),.sc (.int .i64 2)] (w.hp false) (.ag (w.b.cs 21)) (w.hp false++w.b.hp true):=bY w 2 hw.p.s.a.own hw.p.s.a.far hw.p.s.a.subs hw.p.s.a.halfs hw.p.s.a.list hw.p.s.a.done hw.p.s.a.over hw.p.s.b.own hw.p.s.b.far hw.p.s.b.subs hw.p.s.b.halfs hw.p.s.b.list hw.p.s.b.done hw.p.s.b.over
 obtain⟨pr,hpr⟩:∃ p,p=bu w.b many:=⟨_,rfl⟩
 have hrl:(bu w.b many).2.length<=1048576:=sn hw.p.pb
 rw [<-hpr] at hX hsm hrl⊢
 obtain⟨e1,t1⟩:=pr
 dsimp only at hX hsm hrl⊢
 obtain⟨l1,hl1⟩:∃ l:List LetterD,l=[]:=⟨_,rfl⟩
 have hlen:l1.length<=1:=by rw [hl1];simp
 have hset:=gx { w with readB:=w.readB++t1 } e1
 have hpost:=fG { w with readB:=w.readB++t1,b:=e1 } [] ⟨hw.p.s.bag,hw.p.s.past,hw.p.s.keys,hw.p.s.tags,hw.p.s.nums,hw.p.s.ansA,hw.p.s.ansB⟩ (by first|omega|simp)
 have hends:=bH (side:=2) (l:=[]) (w:={ w with readB:=w.readB++t1,b:=e1 })
 obtain⟨R,hR⟩:∃ R,R=az 2 { w with readB:=w.readB++t1,b:=e1 } []:=⟨_,rfl⟩
 rw [<-hR] at hpost hends⊢
 clear hR
 obtain⟨ra,rb,bag,past,wA,wB,rA,rB,known,nums,nsA,nsB⟩:=R
 obtain⟨keys,tags⟩:=known
 dsimp only at hends
 obtain⟨g1,g2,g3,g4,g5,g6⟩:=hends
 replace g1:=g1.symm
 replace g2:=g2.symm
 replace g3:=g3.symm
 replace g4:=g4.symm
 replace g5:=g5.symm
 replace g6:=g6.symm
 subst g1 g2 g3 g4 g5 g6
 refine aL func57 (by kernel_rfl) rfl fun E hE=>aa 400 ?_
 simp (disch:=omega) only [ntmps57,results57,go_sem,seval]
 refine bj [(5,6)] [] [(qU [0,8]),[0,1,2,3,4,6,5,7]] 22 hE (fun s=>s.at (qU [13,6]) [(5,.sc (.pt 30 0 0))] (s.hp++(w.b.hp true++[some ⟨[w.b.cs 23],25,54,true,false⟩]))) (by kernel_rfl) (qC) (by kernel_rfl) ?_ (aa 400 ?_)
 rotate_left
 rotate_right
 simp only [a_]
 refine⟨ab 400 ?_,ab 400 ?_⟩
 ·simp (disch:=omega) only [go_sem]
  refine aj (qC) (hEA) (qI 0 21) qM zF zF (ab 400 ?_)
  simp (disch:=omega) only [go_sem,seval]
  exact qZ (qI 0 31)
 ·simp (disch:=omega) only [go_sem]
  refine aj (qC) (hEA) (qI 0 21) qM zF zF (ab 400 ?_)
  simp (disch:=omega) only [go_sem,seval]
  exact qZ (qI 0 23++qI 24 7++qI 23 1)
 try simp (disch:=omega) only [go_sem,seval]
 refine ah (qC) (hX) (qI 23 7) qM zF (aa 400 ?_)
 simp (disch:=omega) only [go_sem,seval]
 refine ah (qC) (hset) (qI 0 21++qI 31 7++qI 21 1) qM zF (aa 400 ?_)
 simp (disch:=omega) only [go_sem,seval]
 refine ah (qC) (hpost) (qI 0 7++qI 31 7++qI 14 8++qO 1) qM zF (aa 400 ?_)
 simp (disch:=omega) only [go_sem,seval]
 refine aH (qI 0 22++qI 0 7++qI 31 7++qI 39 7) (qC) _ (by simp only [go_sem];rfl) zF zF ?_
 simp (disch:=omega) only [go_sem,seval]
theorem AD (w:WorldD) (pos many:Int) (text:List UInt8) (ad:AddrD) (le:LetterD) (hw:SmallD w) (htx:text.length<=1048576):
  aP 57 [.sc (.pt 21 0 0),.ag (ActD.cs ⟨4,2,pos,many,text,ad,le⟩)] (w.hp true++[some ⟨[w.cs 0],61,60,true,false⟩]) (.sc (.int .i64 0))
  ((nH 21++[some ⟨[WorldD.cs (az 2 { w with b:=(manage w.b).1 } (manage w.b).2) 22],61,60,true,false⟩])++WorldD.hp (az 2 { w with b:=(manage w.b).1 } (manage w.b).2) true):=by
 have q1:=hw.s.wa
 have q2:=hw.s.wb
 have q3:=hw.s.ra
 have q4:=hw.s.rb
 have hX:=tw w.b hw.p.s.b
 have hsm:=lz hw.p.s.b
 have hlen:=wI w.b
 have hEA:aP 90 [.ag (w.cs 0),.sc (.int .i64 2)] (w.hp false) (.ag (w.b.cs 21)) (w.hp false++w.b.hp true):=bY w 2 hw.p.s.a.own hw.p.s.a.far hw.p.s.a.subs hw.p.s.a.halfs hw.p.s.a.list hw.p.s.a.done hw.p.s.a.over hw.p.s.b.own hw.p.s.b.far hw.p.s.b.subs hw.p.s.b.halfs hw.p.s.b.list hw.p.s.b.done hw.p.s.b.over
 obtain⟨pr,hpr⟩:∃ p,p=manage w.b:=⟨_,rfl⟩
 rw [<-hpr] at hX hsm hlen⊢
 obtain⟨e1,l1⟩:=pr
 dsimp only at hX hsm hlen⊢
 have hset:=gx w e1
 have hpost:=fG { w with b:=e1 } l1 ⟨hw.p.s.bag,hw.p.s.past,hw.p.s.keys,hw.p.s.tags,hw.p.s.nums,hw.p.s.ansA,hw.p.s.ansB⟩ (by first|omega|simp)
 have hends:=bH (side:=2) (l:=l1) (w:={ w with b:=e1 })
 obtain⟨R,hR⟩:∃ R,R=az 2 { w with b:=e1 } l1:=⟨_,rfl⟩
 rw [<-hR] at hpost hends⊢
 clear hR
 obtain⟨ra,rb,bag,past,wA,wB,rA,rB,known,nums,nsA,nsB⟩:=R
 obtain⟨keys,tags⟩:=known
 dsimp only at hends
 obtain⟨g1,g2,g3,g4,g5,g6⟩:=hends
 replace g1:=g1.symm
 replace g2:=g2.symm
 replace g3:=g3.symm
 replace g4:=g4.symm
 replace g5:=g5.symm
 replace g6:=g6.symm
 subst g1 g2 g3 g4 g5 g6
 refine aL func57 (by kernel_rfl) rfl fun E hE=>aa 400 ?_
 simp (disch:=omega) only [ntmps57,results57,go_sem,seval]
 refine bj [(5,6)] [] [(qU [0,8]),[0,1,2,3,4,6,5,7]] 22 hE (fun s=>s.at (qU [13,6]) [(5,.sc (.pt 30 0 0))] (s.hp++(w.b.hp true++[some ⟨[w.b.cs 23],25,54,true,false⟩]))) (by kernel_rfl) (qC) (by kernel_rfl) ?_ (aa 400 ?_)
 rotate_left
 rotate_right
 simp only [a_]
 refine⟨ab 400 ?_,ab 400 ?_⟩
 ·simp (disch:=omega) only [go_sem]
  refine aj (qC) (hEA) (qI 0 21) qM zF zF (ab 400 ?_)
  simp (disch:=omega) only [go_sem,seval]
  exact qZ (qI 0 31)
 ·simp (disch:=omega) only [go_sem]
  refine aj (qC) (hEA) (qI 0 21) qM zF zF (ab 400 ?_)
  simp (disch:=omega) only [go_sem,seval]
  exact qZ (qI 0 23++qI 24 7++qI 23 1)
 try simp (disch:=omega) only [go_sem,seval]
 refine ah (qC) (hX) (qI 23 7) qM zF (aa 400 ?_)
 simp (disch:=omega) only [go_sem,seval]
 refine ah (qC) (hset) (qI 0 21++qI 31 7++qI 21 1) qM zF (aa 400 ?_)
 simp (disch:=omega) only [go_sem,seval]
 refine ah (qC) (hpost) (qI 0 7++qI 31 7++qI 14 8++qI 38 1) qM zF (aa 400 ?_)
 simp (disch:=omega) only [go_sem,seval]
 refine aH (qI 0 22++qI 0 7++qI 31 7++qI 39 7) (qC) _ (by simp only [go_sem];rfl) zF zF ?_
 simp (disch:=omega) only [go_sem,seval]
theorem AF (w:WorldD) (pos many:Int) (text:List UInt8) (ad:AddrD) (le:LetterD) (hw:SmallD w) (htx:text.length<=1048576) (hsd:sideAt ad.addr=2) (hgood:(aN w.b ad).2=true):
  aP 57 [.sc (.pt 21 0 0),.ag (ActD.cs ⟨5,2,pos,many,text,ad,le⟩)] (w.hp true++[some ⟨[w.cs 0],61,60,true,false⟩]) (.sc (.int .i64 0))
  ((nH 21++[some ⟨[WorldD.cs (az 2 { w with b:=((aN w.b ad).1,([]:List LetterD)).1 } ((aN w.b ad).1,([]:List LetterD)).2) 22],61,60,true,false⟩])++WorldD.hp (az 2 { w with b:=((aN w.b ad).1,([]:List LetterD)).1 } ((aN w.b ad).1,([]:List LetterD)).2) true):=by
 have q1:=hw.s.wa
 have q2:=hw.s.wb
 have q3:=hw.s.ra
 have q4:=hw.s.rb
 have hX:=j8 w.b ad hw.p.s.b
 have hsm:=gX (a:=ad) hw.p.s.b
 have hEA:aP 90 [.ag (w.cs 0),.sc (.int .i64 2)] (w.hp false) (.ag (w.b.cs 21)) (w.hp false++w.b.hp true):=bY w 2 hw.p.s.a.own hw.p.s.a.far hw.p.s.a.subs hw.p.s.a.halfs hw.p.s.a.list hw.p.s.a.done hw.p.s.a.over hw.p.s.b.own hw.p.s.b.far hw.p.s.b.subs hw.p.s.b.halfs hw.p.s.b.list hw.p.s.b.done hw.p.s.b.over
 obtain⟨pr,hpr⟩:∃ p,p=aN w.b ad:=⟨_,rfl⟩
 rw [<-hpr] at hX hsm hgood⊢
 obtain⟨e1,ok1⟩:=pr
 dsimp only at hX hsm hgood⊢
 subst hgood
 obtain⟨l1,hl1⟩:∃ l:List LetterD,l=[]:=⟨_,rfl⟩
 have hlen:l1.length<=1:=by rw [hl1];simp
 have hset:=gx w e1
 have hpost:=fG { w with b:=e1 } [] ⟨hw.p.s.bag,hw.p.s.past,hw.p.s.keys,hw.p.s.tags,hw.p.s.nums,hw.p.s.ansA,hw.p.s.ansB⟩ (by first|omega|simp)
 have hends:=bH (side:=2) (l:=[]) (w:={ w with b:=e1 })
 obtain⟨R,hR⟩:∃ R,R=az 2 { w with b:=e1 } []:=⟨_,rfl⟩
 rw [<-hR] at hpost hends⊢
 clear hR
 obtain⟨ra,rb,bag,past,wA,wB,rA,rB,known,nums,nsA,nsB⟩:=R
 obtain⟨keys,tags⟩:=known
 dsimp only at hends
 obtain⟨g1,g2,g3,g4,g5,g6⟩:=hends
 replace g1:=g1.symm
 replace g2:=g2.symm
 replace g3:=g3.symm
 replace g4:=g4.symm
 replace g5:=g5.symm
 replace g6:=g6.symm
 subst g1 g2 g3 g4 g5 g6
 have hSd:=eA ad.addr
 rw [hsd] at hSd
 refine aL func57 (by kernel_rfl) rfl fun E hE=>aa 400 ?_
 simp (disch:=omega) only [ntmps57,results57,go_sem,seval]
 refine bj [(5,6)] [] [(qU [0,8]),[0,1,2,3,4,6,5,7]] 22 hE (fun s=>s.at (qU [13,6]) [(5,.sc (.pt 30 0 0))] (s.hp++(w.b.hp true++[some ⟨[w.b.cs 23],25,54,true,false⟩]))) (by kernel_rfl) (qC) (by kernel_rfl) ?_ (aa 400 ?_)
 rotate_left
 rotate_right
 simp only [a_]
 refine⟨ab 400 ?_,ab 400 ?_⟩
 ·simp (disch:=omega) only [go_sem]
  refine aj (qC) (hEA) (qI 0 21) qM zF zF (ab 400 ?_)
  simp (disch:=omega) only [go_sem,seval]
  exact qZ (qI 0 31)
 ·simp (disch:=omega) only [go_sem]
  refine aj (qC) (hEA) (qI 0 21) qM zF zF (ab 400 ?_)
  simp (disch:=omega) only [go_sem,seval]
  exact qZ (qI 0 23++qI 24 7++qI 23 1)
 try simp (disch:=omega) only [go_sem,seval]
 refine ah (qC) (hX) (qI 23 7) qM zF (aa 400 ?_)
 simp (disch:=omega) only [go_sem,seval]
 refine ak (qU [0,3,4,2,3,1,6,5]) (by kernel_rfl) (qC) (by kernel_rfl) (ab 400 ?_)
 simp (disch:=omega) only [go_sem,seval]
 refine aj (qC) (hSd) [] qM zF zF (ab 400 ?_)
 simp (disch:=omega) only [go_sem,seval]
 refine⟨qC,aa 400 ?_⟩
 try simp (disch:=omega) only [go_sem,seval]
 refine ah (qC) (hset) (qI 0 21++qI 31 7++qI 21 1) qM zF (aa 400 ?_)
 simp (disch:=omega) only [go_sem,seval]
 refine ah (qC) (hpost) (qI 0 7++qI 31 7++qI 14 8++qO 1) qM zF (aa 400 ?_)
 simp (disch:=omega) only [go_sem,seval]
 refine aH (qI 0 22++qI 0 7++qI 31 7++qI 39 7) (qC) _ (by simp only [go_sem];rfl) zF zF ?_
 simp (disch:=omega) only [go_sem,seval]
theorem AG (w:WorldD) (pos many:Int) (text:List UInt8) (ad:AddrD) (le:LetterD) (hw:SmallD w) (htx:text.length<=1048576):
  aP 57 [.sc (.pt 21 0 0),.ag (ActD.cs ⟨6,2,pos,many,text,ad,le⟩)] (w.hp true++[some ⟨[w.cs 0],61,60,true,false⟩]) (.sc (.int .i64 0))
  ((nH 21++[some ⟨[WorldD.cs (az 2 { w with b:=(bz w.b pos).1 } (bz w.b pos).2) 22],61,60,true,false⟩])++WorldD.hp (az 2 { w with b:=(bz w.b pos).1 } (bz w.b pos).2) true):=by
 have q1:=hw.s.wa
 have q2:=hw.s.wb
 have q3:=hw.s.ra
 have q4:=hw.s.rb
 have hX:=ql w.b pos hw.p.s.b
 have hsm:=ks (n:=pos) hw.p.s.b
 have hlen:=tC w.b pos hw.p.s.b
 have hEA:aP 90 [.ag (w.cs 0),.sc (.int .i64 2)] (w.hp false) (.ag (w.b.cs 21)) (w.hp false++w.b.hp true):=bY w 2 hw.p.s.a.own hw.p.s.a.far hw.p.s.a.subs hw.p.s.a.halfs hw.p.s.a.list hw.p.s.a.done hw.p.s.a.over hw.p.s.b.own hw.p.s.b.far hw.p.s.b.subs hw.p.s.b.halfs hw.p.s.b.list hw.p.s.b.done hw.p.s.b.over
 obtain⟨pr,hpr⟩:∃ p,p=bz w.b pos:=⟨_,rfl⟩
 rw [<-hpr] at hX hsm hlen⊢
 obtain⟨e1,l1⟩:=pr
 dsimp only at hX hsm hlen⊢
 have hset:=gx w e1
 have hpost:=fG { w with b:=e1 } l1 ⟨hw.p.s.bag,hw.p.s.past,hw.p.s.keys,hw.p.s.tags,hw.p.s.nums,hw.p.s.ansA,hw.p.s.ansB⟩ (by first|omega|simp)
 have hends:=bH (side:=2) (l:=l1) (w:={ w with b:=e1 })
 obtain⟨R,hR⟩:∃ R,R=az 2 { w with b:=e1 } l1:=⟨_,rfl⟩
 rw [<-hR] at hpost hends⊢
 clear hR
 obtain⟨ra,rb,bag,past,wA,wB,rA,rB,known,nums,nsA,nsB⟩:=R
 obtain⟨keys,tags⟩:=known
 dsimp only at hends
 obtain⟨g1,g2,g3,g4,g5,g6⟩:=hends
 replace g1:=g1.symm
 replace g2:=g2.symm
 replace g3:=g3.symm
 replace g4:=g4.symm
 replace g5:=g5.symm
 replace g6:=g6.symm
 subst g1 g2 g3 g4 g5 g6
 refine aL func57 (by kernel_rfl) rfl fun E hE=>aa 400 ?_
 simp (disch:=omega) only [ntmps57,results57,go_sem,seval]
 refine bj [(5,6)] [] [(qU [0,8]),[0,1,2,3,4,6,5,7]] 22 hE (fun s=>s.at (qU [13,6]) [(5,.sc (.pt 30 0 0))] (s.hp++(w.b.hp true++[some ⟨[w.b.cs 23],25,54,true,false⟩]))) (by kernel_rfl) (qC) (by kernel_rfl) ?_ (aa 400 ?_)
 rotate_left
 rotate_right
 simp only [a_]
 refine⟨ab 400 ?_,ab 400 ?_⟩
 ·simp (disch:=omega) only [go_sem]
  refine aj (qC) (hEA) (qI 0 21) qM zF zF (ab 400 ?_)
  simp (disch:=omega) only [go_sem,seval]
  exact qZ (qI 0 31)
 ·simp (disch:=omega) only [go_sem]
  refine aj (qC) (hEA) (qI 0 21) qM zF zF (ab 400 ?_)
  simp (disch:=omega) only [go_sem,seval]
  exact qZ (qI 0 23++qI 24 7++qI 23 1)
 try simp (disch:=omega) only [go_sem,seval]
 refine ah (qC) (hX) (qI 23 7) qM zF (aa 400 ?_)
 simp (disch:=omega) only [go_sem,seval]
 refine ah (qC) (hset) (qI 0 21++qI 31 7++qI 21 1) qM zF (aa 400 ?_)
 simp (disch:=omega) only [go_sem,seval]
 refine ah (qC) (hpost) (qI 0 7++qI 31 7++qI 14 8++qI 38 1) qM zF (aa 400 ?_)
 simp (disch:=omega) only [go_sem,seval]
 refine aH (qI 0 22++qI 0 7++qI 31 7++qI 39 7) (qC) _ (by simp only [go_sem];rfl) zF zF ?_
 simp (disch:=omega) only [go_sem,seval]
theorem AH (w:WorldD) (pos many:Int) (text:List UInt8) (ad:AddrD) (le:LetterD) (hw:SmallD w) (htx:text.length<=1048576):
  aP 57 [.sc (.pt 21 0 0),.ag (ActD.cs ⟨7,2,pos,many,text,ad,le⟩)] (w.hp true++[some ⟨[w.cs 0],61,60,true,false⟩]) (.sc (.int .i64 0))
  ((nH 21++[some ⟨[WorldD.cs (az 2 { w with b:=(cp w.b pos).1 } (cp w.b pos).2) 22],61,60,true,false⟩])++WorldD.hp (az 2 { w with b:=(cp w.b pos).1 } (cp w.b pos).2) true):=by
 have q1:=hw.s.wa
 have q2:=hw.s.wb
 have q3:=hw.s.ra
 have q4:=hw.s.rb
 have hX:=wG w.b pos hw.p.s.b
 have hsm:=ly (k:=pos) hw.p.s.b
 have hlen:=wH w.b pos
 have hEA:aP 90 [.ag (w.cs 0),.sc (.int .i64 2)] (w.hp false) (.ag (w.b.cs 21)) (w.hp false++w.b.hp true):=bY w 2 hw.p.s.a.own hw.p.s.a.far hw.p.s.a.subs hw.p.s.a.halfs hw.p.s.a.list hw.p.s.a.done hw.p.s.a.over hw.p.s.b.own hw.p.s.b.far hw.p.s.b.subs hw.p.s.b.halfs hw.p.s.b.list hw.p.s.b.done hw.p.s.b.over
 obtain⟨pr,hpr⟩:∃ p,p=cp w.b pos:=⟨_,rfl⟩
 rw [<-hpr] at hX hsm hlen⊢
 obtain⟨e1,l1⟩:=pr
 dsimp only at hX hsm hlen⊢
 have hset:=gx w e1
 have hpost:=fG { w with b:=e1 } l1 ⟨hw.p.s.bag,hw.p.s.past,hw.p.s.keys,hw.p.s.tags,hw.p.s.nums,hw.p.s.ansA,hw.p.s.ansB⟩ (by first|omega|simp)
 have hends:=bH (side:=2) (l:=l1) (w:={ w with b:=e1 })
 obtain⟨R,hR⟩:∃ R,R=az 2 { w with b:=e1 } l1:=⟨_,rfl⟩
 rw [<-hR] at hpost hends⊢
 clear hR
 obtain⟨ra,rb,bag,past,wA,wB,rA,rB,known,nums,nsA,nsB⟩:=R
 obtain⟨keys,tags⟩:=known
 dsimp only at hends
 obtain⟨g1,g2,g3,g4,g5,g6⟩:=hends
 replace g1:=g1.symm
 replace g2:=g2.symm
 replace g3:=g3.symm
 replace g4:=g4.symm
 replace g5:=g5.symm
 replace g6:=g6.symm
 subst g1 g2 g3 g4 g5 g6
 refine aL func57 (by kernel_rfl) rfl fun E hE=>aa 400 ?_
 simp (disch:=omega) only [ntmps57,results57,go_sem,seval]
 refine bj [(5,6)] [] [(qU [0,8]),[0,1,2,3,4,6,5,7]] 22 hE (fun s=>s.at (qU [13,6]) [(5,.sc (.pt 30 0 0))] (s.hp++(w.b.hp true++[some ⟨[w.b.cs 23],25,54,true,false⟩]))) (by kernel_rfl) (qC) (by kernel_rfl) ?_ (aa 400 ?_)
 rotate_left
 rotate_right
 simp only [a_]
 refine⟨ab 400 ?_,ab 400 ?_⟩
 ·simp (disch:=omega) only [go_sem]
  refine aj (qC) (hEA) (qI 0 21) qM zF zF (ab 400 ?_)
  simp (disch:=omega) only [go_sem,seval]
  exact qZ (qI 0 31)
 ·simp (disch:=omega) only [go_sem]
  refine aj (qC) (hEA) (qI 0 21) qM zF zF (ab 400 ?_)
  simp (disch:=omega) only [go_sem,seval]
  exact qZ (qI 0 23++qI 24 7++qI 23 1)
 try simp (disch:=omega) only [go_sem,seval]
 refine ah (qC) (hX) (qI 23 7) qM zF (aa 400 ?_)
 simp (disch:=omega) only [go_sem,seval]
 refine ah (qC) (hset) (qI 0 21++qI 31 7++qI 21 1) qM zF (aa 400 ?_)
 simp (disch:=omega) only [go_sem,seval]
 refine ah (qC) (hpost) (qI 0 7++qI 31 7++qI 14 8++qI 38 1) qM zF (aa 400 ?_)
 simp (disch:=omega) only [go_sem,seval]
 refine aH (qI 0 22++qI 0 7++qI 31 7++qI 39 7) (qC) _ (by simp only [go_sem];rfl) zF zF ?_
 simp (disch:=omega) only [go_sem,seval]
theorem qq {l:List LetterD} {p:Nat} (h:p < l.length):lV l (Int.toNat (p:Int))=l[p]:=by simp [lV,h]
theorem H9 (l:List LetterD) (p:Nat):iz l (p:Int)=l.take p++l.drop (p+1):=rfl
theorem wJ {l:List LetterD} {p:Nat} (h:p < l.length):(iz l (p:Int)).length=l.length - 1:=by
 rw [H9,Ru,Rz,List.length_drop];omega
theorem P9 {w:WorldD} {s m:Int} {p:Nat} {t:List UInt8} {ad:AddrD} {le:LetterD} (h:¬ p < w.bag.length):bq w ⟨8,s,(p:Nat),m,t,ad,le⟩=(w,1):=by
 unfold bq;dsimp only;rw [if_pos (.inl rfl),if_pos zO]
theorem P_ {w:WorldD} {s m:Int} {p:Nat} {t:List UInt8} {ad:AddrD} {le:LetterD} (h:p < w.bag.length):bq w ⟨8,s,(p:Nat),m,t,ad,le⟩=(ed { w with bag:=iz w.bag (p:Nat) } w.bag[p],0):=by
 unfold bq;dsimp only;rw [if_pos (.inl rfl),if_neg zO,if_pos rfl,qq h]
theorem Qa {w:WorldD} {s m:Int} {p:Nat} {t:List UInt8} {ad:AddrD} {le:LetterD} (h:¬ p < w.bag.length):bq w ⟨9,s,(p:Nat),m,t,ad,le⟩=(w,1):=by
 unfold bq;dsimp only;rw [if_pos (.inr rfl),if_pos zO]
theorem Qb {w:WorldD} {s m:Int} {p:Nat} {t:List UInt8} {ad:AddrD} {le:LetterD} (h:p < w.bag.length):bq w ⟨9,s,(p:Nat),m,t,ad,le⟩=({ w with bag:=iz w.bag (p:Nat) },0):=by
 unfold bq;dsimp only;rw [if_pos (.inr rfl),if_neg zO,if_neg zO]
theorem OB {w:WorldD} {s m:Int} {p:Nat} {t:List UInt8} {ad:AddrD} {le:LetterD} (h:¬ p < w.bag.length\/40<=w.bag.length):bq w ⟨10,s,(p:Nat),m,t,ad,le⟩=(w,1):=by
 unfold bq;dsimp only;rw [if_neg zO,if_pos rfl,if_pos zO]
theorem OC {w:WorldD} {s m:Int} {p:Nat} {t:List UInt8} {ad:AddrD} {le:LetterD} (h:p < w.bag.length) (h2:¬ 40<=w.bag.length):bq w ⟨10,s,(p:Nat),m,t,ad,le⟩=({ w with bag:=w.bag++[w.bag[p]] },0):=by
 unfold bq;dsimp only;rw [if_neg zO,if_pos rfl,if_neg zO,qq h]
theorem OD {w:WorldD} {s m p:Int} {t:List UInt8} {ad:AddrD} {le:LetterD} (h:dQ w le=false):bq w ⟨11,s,p,m,t,ad,le⟩=(w,2):=by
 unfold bq;dsimp only;rw [if_neg zO,if_neg zO,if_pos rfl,if_pos h]
theorem OE {w:WorldD} {s m p:Int} {t:List UInt8} {ad:AddrD} {le:LetterD} (h:dQ w le=true) (h2:40<=w.bag.length):bq w ⟨11,s,p,m,t,ad,le⟩=(w,1):=by
 unfold bq;dsimp only;rw [if_neg zO,if_neg zO,if_pos rfl,if_neg (by simp [h]),if_pos h2]
theorem OF {w:WorldD} {s m p:Int} {t:List UInt8} {ad:AddrD} {le:LetterD} (h:dQ w le=true) (h2:¬ 40<=w.bag.length):bq w ⟨11,s,p,m,t,ad,le⟩=({ w with bag:=w.bag++[le] },0):=by
 unfold bq;dsimp only;rw [if_neg zO,if_neg zO,if_pos rfl,if_neg (by simp [h]),if_neg h2]
theorem OG {w:WorldD} {s m:Int} {p:Nat} {t:List UInt8} {ad:AddrD} {le:LetterD} (h:¬ p < w.past.length):bq w ⟨12,s,(p:Nat),m,t,ad,le⟩=(w,1):=by
 unfold bq;dsimp only;rw [if_neg zO,if_neg zO,if_neg zO,if_pos (.inl zO)]
theorem OH {w:WorldD} {s m:Int} {p:Nat} {t:List UInt8} {ad:AddrD} {le:LetterD} (h:p < w.past.length) (h2:sideAt w.past[p].to=0\/40<=w.bag.length):bq w ⟨12,s,(p:Nat),m,t,ad,le⟩=(w,1):=by
 unfold bq;dsimp only;rw [if_neg zO,if_neg zO,if_neg zO,qq h,if_pos (.inr h2)]
theorem OI {w:WorldD} {s m:Int} {p:Nat} {t:List UInt8} {ad:AddrD} {le:LetterD} (h:p < w.past.length) (h1:¬ sideAt w.past[p].to=0) (h2:¬ 40<=w.bag.length):bq w ⟨12,s,(p:Nat),m,t,ad,le⟩=({ w with bag:=w.bag++[w.past[p]] },0):=by
 unfold bq;dsimp only;rw [if_neg zO,if_neg zO,if_neg zO,qq h,if_neg zO]
theorem CO (w:WorldD) (side many:Int) (p:Nat) (text:List UInt8) (ad:AddrD) (le:LetterD) (hw:SmallD w):
  aP 58 [.sc (.pt 21 0 0),.ag (ActD.cs ⟨8,side,(p:Nat),many,text,ad,le⟩)] (w.hp true++[some ⟨[w.cs 0],61,60,true,false⟩]) (.sc (.int .i64 (bq w ⟨8,side,(p:Nat),many,text,ad,le⟩).2))
  ((nH 21++[some ⟨[WorldD.cs (bq w ⟨8,side,(p:Nat),many,text,ad,le⟩).1 22],61,60,true,false⟩])++WorldD.hp (bq w ⟨8,side,(p:Nat),many,text,ad,le⟩).1 true):=by
 have hbag:=hw.p.s.bag
 have hpast:=hw.p.s.past
 obtain⟨R,hR⟩:∃ R,R=bq w ⟨8,side,(p:Nat),many,text,ad,le⟩:=⟨_,rfl⟩
 rw [<-hR]
 by_cases hp:p < w.bag.length
 ·rw [P_ hp] at hR
  obtain⟨B,hBe⟩:∃ B,B=iz w.bag (p:Nat):=⟨_,rfl⟩
  have e2:p+(w.bag.length - (p+1))=B.length:=by rw [hBe,wJ hp];omega
  have e1:(w.bag.take p).map LetterD.cs++((w.bag.map LetterD.cs).drop (p+1)).take (w.bag.length - (p+1))=B.map LetterD.cs:=by rw [hBe];exact (rX hp).2
  have hB:B.length<=1048576:=zO
  have hlt:(w.bag.take p).length=p:=by simp;omega
  have hlt2:(List.take p (List.map LetterD.cs w.bag)).length=p:=by simp;omega
  have hC:=fO (w.bag.take p) zO
  rw [hlt] at hC
  have hx:=bt (enc:=LetterD.cs) hp
  rw [<-hBe] at hR
  clear hBe
  generalize hxx:w.bag[p]=x at*
  have hL:=EW { w with bag:=B } x ⟨⟨hw.p.s.a,hw.p.s.b,hB,hw.p.s.past,hw.p.s.keys,hw.p.s.tags,hw.p.s.nums,hw.p.s.ansA,hw.p.s.ansB⟩,hw.p.pa,hw.p.pb⟩
  obtain⟨L,hLe⟩:∃ L,L=ed { w with bag:=B } x:=⟨_,rfl⟩
  rw [<-hLe] at hL hR
  clear hLe
  subst hR
  dsimp only
  refine aL func58 (by kernel_rfl) rfl fun E hE=>aa 400 ?_
  simp (disch:=omega) only [ntmps58,results58,go_sem,seval]
  refine ak (qU [0,9]) (by kernel_rfl) (qC) (by kernel_rfl) (ab 400 ?_)
  simp (disch:=omega) only [go_sem,seval]
  refine⟨qC,aa 400 ?_⟩
  try simp (disch:=omega) only [go_sem,seval]
  refine ak (qU [0,10]) (by kernel_rfl) (qC) (by kernel_rfl) (ab 400 ?_)
  simp (disch:=omega) only [go_sem,seval]
  refine⟨qC,aa 400 ?_⟩
  try simp (disch:=omega) only [go_sem,seval,hx,hxx]
  refine ak (qU [0,8,9,8,8,1,17,4]) (by kernel_rfl) (qC) (by kernel_rfl) (ab 400 ?_)
  simp (disch:=omega) only [go_sem,seval]
  refine aj (qC) (hC) [some (14,some 0)] qM zF zF (ab 400 ?_)
  simp (disch:=omega) only [go_sem,seval]
  refine⟨qC,aa 400 ?_⟩
  try simp (disch:=omega) only [go_sem,seval,e1,e2]
  refine ak (qU [0,8]) (by kernel_rfl) (qC) (by kernel_rfl) (ab 400 ?_)
  simp (disch:=omega) only [go_sem,seval]
  refine aj (qC) (hL) (qI 0 14++qI 25 1++qI 15 6) qM zF zF (ab 400 ?_)
  simp (disch:=omega) only [go_sem,seval]
  refine⟨qC,aa 400 ?_⟩
  try simp (disch:=omega) only [go_sem,seval]
  refine aH (qI 0 22++qI 26 21) (qC) _ (by simp only [go_sem];rfl) zF zF ?_
  simp (disch:=omega) only [go_sem,seval]
 rw [P9 hp] at hR
 subst hR
 dsimp only
 refine aL func58 (by kernel_rfl) rfl fun E hE=>aa 400 ?_
 simp (disch:=omega) only [ntmps58,results58,go_sem,seval]
 refine ak (qU [0,9]) (by kernel_rfl) (qC) (by kernel_rfl) (ab 400 ?_)
 simp (disch:=omega) only [go_sem,seval]
 refine⟨qC,aa 400 ?_⟩
 try simp (disch:=omega) only [go_sem,seval]
 refine aH (qI 0 22++qI 0 21) (qC) _ (by simp only [go_sem];rfl) zF zF ?_
 simp (disch:=omega) only [go_sem,seval]
theorem CP (w:WorldD) (side many:Int) (p:Nat) (text:List UInt8) (ad:AddrD) (le:LetterD) (hw:SmallD w):
  aP 58 [.sc (.pt 21 0 0),.ag (ActD.cs ⟨9,side,(p:Nat),many,text,ad,le⟩)] (w.hp true++[some ⟨[w.cs 0],61,60,true,false⟩]) (.sc (.int .i64 (bq w ⟨9,side,(p:Nat),many,text,ad,le⟩).2))
  ((nH 21++[some ⟨[WorldD.cs (bq w ⟨9,side,(p:Nat),many,text,ad,le⟩).1 22],61,60,true,false⟩])++WorldD.hp (bq w ⟨9,side,(p:Nat),many,text,ad,le⟩).1 true):=by
 have hbag:=hw.p.s.bag
 have hpast:=hw.p.s.past
 obtain⟨R,hR⟩:∃ R,R=bq w ⟨9,side,(p:Nat),many,text,ad,le⟩:=⟨_,rfl⟩
 rw [<-hR]
 by_cases hp:p < w.bag.length
 ·rw [Qb hp] at hR
  obtain⟨B,hBe⟩:∃ B,B=iz w.bag (p:Nat):=⟨_,rfl⟩
  have e2:p+(w.bag.length - (p+1))=B.length:=by rw [hBe,wJ hp];omega
  have e1:(w.bag.take p).map LetterD.cs++((w.bag.map LetterD.cs).drop (p+1)).take (w.bag.length - (p+1))=B.map LetterD.cs:=by rw [hBe];exact (rX hp).2
  have hB:B.length<=1048576:=zO
  have hlt:(w.bag.take p).length=p:=by simp;omega
  have hlt2:(List.take p (List.map LetterD.cs w.bag)).length=p:=by simp;omega
  have hC:=fO (w.bag.take p) zO
  rw [hlt] at hC
  have hx:=bt (enc:=LetterD.cs) hp
  rw [<-hBe] at hR
  clear hBe
  generalize hxx:w.bag[p]=x at*
  subst hR
  dsimp only
  refine aL func58 (by kernel_rfl) rfl fun E hE=>aa 400 ?_
  simp (disch:=omega) only [ntmps58,results58,go_sem,seval]
  refine ak (qU [0,9]) (by kernel_rfl) (qC) (by kernel_rfl) (ab 400 ?_)
  simp (disch:=omega) only [go_sem,seval]
  refine⟨qC,aa 400 ?_⟩
  try simp (disch:=omega) only [go_sem,seval]
  refine ak (qU [0,10]) (by kernel_rfl) (qC) (by kernel_rfl) (ab 400 ?_)
  simp (disch:=omega) only [go_sem,seval]
  refine⟨qC,aa 400 ?_⟩
  try simp (disch:=omega) only [go_sem,seval,hx,hxx]
  refine ak (qU [0,8,9,8,8,1,17,4]) (by kernel_rfl) (qC) (by kernel_rfl) (ab 400 ?_)
  simp (disch:=omega) only [go_sem,seval]
  refine aj (qC) (hC) [some (14,some 0)] qM zF zF (ab 400 ?_)
  simp (disch:=omega) only [go_sem,seval]
  refine⟨qC,aa 400 ?_⟩
  try simp (disch:=omega) only [go_sem,seval,e1,e2]
  refine aH (qI 0 22++qI 0 14++qI 25 1++qI 15 6) (qC) _ (by simp only [go_sem];rfl) zF zF ?_
  simp (disch:=omega) only [go_sem,seval]
 rw [Qa hp] at hR
 subst hR
 dsimp only
 refine aL func58 (by kernel_rfl) rfl fun E hE=>aa 400 ?_
 simp (disch:=omega) only [ntmps58,results58,go_sem,seval]
 refine ak (qU [0,9]) (by kernel_rfl) (qC) (by kernel_rfl) (ab 400 ?_)
 simp (disch:=omega) only [go_sem,seval]
 refine⟨qC,aa 400 ?_⟩
 try simp (disch:=omega) only [go_sem,seval]
 refine aH (qI 0 22++qI 0 21) (qC) _ (by simp only [go_sem];rfl) zF zF ?_
 simp (disch:=omega) only [go_sem,seval]
theorem AI (w:WorldD) (side many:Int) (p:Nat) (text:List UInt8) (ad:AddrD) (le:LetterD) (hw:SmallD w):
  aP 58 [.sc (.pt 21 0 0),.ag (ActD.cs ⟨10,side,(p:Nat),many,text,ad,le⟩)] (w.hp true++[some ⟨[w.cs 0],61,60,true,false⟩]) (.sc (.int .i64 (bq w ⟨10,side,(p:Nat),many,text,ad,le⟩).2))
  ((nH 21++[some ⟨[WorldD.cs (bq w ⟨10,side,(p:Nat),many,text,ad,le⟩).1 22],61,60,true,false⟩])++WorldD.hp (bq w ⟨10,side,(p:Nat),many,text,ad,le⟩).1 true):=by
 have hbag:=hw.p.s.bag
 have hpast:=hw.p.s.past
 obtain⟨R,hR⟩:∃ R,R=bq w ⟨10,side,(p:Nat),many,text,ad,le⟩:=⟨_,rfl⟩
 rw [<-hR]
 by_cases hp:p < w.bag.length/\¬ 40<=w.bag.length
 ·obtain⟨hp,h4⟩:=hp
  rw [OC hp h4] at hR
  have hx:=bt (enc:=LetterD.cs) hp
  generalize hxx:w.bag[p]=x at*
  subst hR
  dsimp only
  refine aL func58 (by kernel_rfl) rfl fun E hE=>aa 400 ?_
  simp (disch:=omega) only [ntmps58,results58,go_sem,seval]
  refine ak (qU [0,9]) (by kernel_rfl) (qC) (by kernel_rfl) (ab 400 ?_)
  simp (disch:=omega) only [go_sem,seval]
  refine⟨qC,aa 400 ?_⟩
  try simp (disch:=omega) only [go_sem,seval]
  refine ak (qU [0,18]) (by kernel_rfl) (qC) (by kernel_rfl) (ab 400 ?_)
  simp (disch:=omega) only [go_sem,seval]
  refine⟨qC,aa 400 ?_⟩
  try simp (disch:=omega) only [go_sem,seval,hx,hxx]
  refine aH (qI 0 22++qI 0 14++qI 24 1++qI 15 6) (qC) _ (by simp only [go_sem];rfl) zF zF ?_
  simp (disch:=omega) only [go_sem,seval]
  simp [LetterD.cs]
 rw [OB zO] at hR
 subst hR
 dsimp only
 by_cases hq:p < w.bag.length
 ·have h4:40<=w.bag.length:=zO
  refine aL func58 (by kernel_rfl) rfl fun E hE=>aa 400 ?_
  simp (disch:=omega) only [ntmps58,results58,go_sem,seval]
  refine ak (qU [0,9]) (by kernel_rfl) (qC) (by kernel_rfl) (ab 400 ?_)
  simp (disch:=omega) only [go_sem,seval]
  refine⟨qC,aa 400 ?_⟩
  try simp (disch:=omega) only [go_sem,seval]
  refine aH (qI 0 22++qI 0 21) (qC) _ (by simp only [go_sem];rfl) zF zF ?_
  simp (disch:=omega) only [go_sem,seval]
 refine aL func58 (by kernel_rfl) rfl fun E hE=>aa 400 ?_
 simp (disch:=omega) only [ntmps58,results58,go_sem,seval]
 refine ak (qU [0,9]) (by kernel_rfl) (qC) (by kernel_rfl) (ab 400 ?_)
 simp (disch:=omega) only [go_sem,seval]
 refine⟨qC,aa 400 ?_⟩
 try simp (disch:=omega) only [go_sem,seval]
 refine aH (qI 0 22++qI 0 21) (qC) _ (by simp only [go_sem];rfl) zF zF ?_
 simp (disch:=omega) only [go_sem,seval]
theorem AJ (w:WorldD) (side many:Int) (p:Int) (text:List UInt8) (ad:AddrD) (le:LetterD) (hw:SmallD w):
  aP 58 [.sc (.pt 21 0 0),.ag (ActD.cs ⟨11,side,p,many,text,ad,le⟩)] (w.hp true++[some ⟨[w.cs 0],61,60,true,false⟩]) (.sc (.int .i64 (bq w ⟨11,side,p,many,text,ad,le⟩).2))
  ((nH 21++[some ⟨[WorldD.cs (bq w ⟨11,side,p,many,text,ad,le⟩).1 22],61,60,true,false⟩])++WorldD.hp (bq w ⟨11,side,p,many,text,ad,le⟩).1 true):=by
 have hbag:=hw.p.s.bag
 have hpast:=hw.p.s.past
 obtain⟨R,hR⟩:∃ R,R=bq w ⟨11,side,p,many,text,ad,le⟩:=⟨_,rfl⟩
 rw [<-hR]
 cases hm:dQ w le with
 |false=>
  rw [OD hm] at hR
  subst hR
  dsimp only
  have hM:=jM w le hw.p.s.keys hw.p.s.tags hw.p.s.nums
  rw [hm] at hM
  refine aL func58 (by kernel_rfl) rfl fun E hE=>aa 400 ?_
  simp (disch:=omega) only [ntmps58,results58,go_sem,seval]
  refine ak (qU [0,9]) (by kernel_rfl) (qC) (by kernel_rfl) (ab 400 ?_)
  simp (disch:=omega) only [go_sem,seval]
  refine⟨qC,aa 400 ?_⟩
  try simp (disch:=omega) only [go_sem,seval]
  refine ak (qU [0,7]) (by kernel_rfl) (qC) (by kernel_rfl) (ab 400 ?_)
  simp (disch:=omega) only [go_sem,seval]
  refine aj (qC) (hM) (qI 0 21) qM zF zF (ab 400 ?_)
  simp (disch:=omega) only [go_sem,seval]
  refine⟨qC,aa 400 ?_⟩
  try simp (disch:=omega) only [go_sem,seval]
  refine aH (qI 0 22++qI 0 21) (qC) _ (by simp only [go_sem];rfl) zF zF ?_
  simp (disch:=omega) only [go_sem,seval]
 |true=>
  by_cases h4:40<=w.bag.length
  ·rw [OE hm h4] at hR
   subst hR
   dsimp only
   have hM:=jM w le hw.p.s.keys hw.p.s.tags hw.p.s.nums
   rw [hm] at hM
   refine aL func58 (by kernel_rfl) rfl fun E hE=>aa 400 ?_
   simp (disch:=omega) only [ntmps58,results58,go_sem,seval]
   refine ak (qU [0,9]) (by kernel_rfl) (qC) (by kernel_rfl) (ab 400 ?_)
   simp (disch:=omega) only [go_sem,seval]
   refine⟨qC,aa 400 ?_⟩
   try simp (disch:=omega) only [go_sem,seval]
   refine ak (qU [0,7]) (by kernel_rfl) (qC) (by kernel_rfl) (ab 400 ?_)
   simp (disch:=omega) only [go_sem,seval]
   refine aj (qC) (hM) (qI 0 21) qM zF zF (ab 400 ?_)
   simp (disch:=omega) only [go_sem,seval]
   refine⟨qC,aa 400 ?_⟩
   try simp (disch:=omega) only [go_sem,seval]
   refine aH (qI 0 22++qI 0 21) (qC) _ (by simp only [go_sem];rfl) zF zF ?_
   simp (disch:=omega) only [go_sem,seval]
  rw [OF hm h4] at hR
  subst hR
  dsimp only
  have hM:=jM w le hw.p.s.keys hw.p.s.tags hw.p.s.nums
  rw [hm] at hM
  refine aL func58 (by kernel_rfl) rfl fun E hE=>aa 400 ?_
  simp (disch:=omega) only [ntmps58,results58,go_sem,seval]
  refine ak (qU [0,9]) (by kernel_rfl) (qC) (by kernel_rfl) (ab 400 ?_)
  simp (disch:=omega) only [go_sem,seval]
  refine⟨qC,aa 400 ?_⟩
  try simp (disch:=omega) only [go_sem,seval]
  refine ak (qU [0,7]) (by kernel_rfl) (qC) (by kernel_rfl) (ab 400 ?_)
  simp (disch:=omega) only [go_sem,seval]
  refine aj (qC) (hM) (qI 0 21) qM zF zF (ab 400 ?_)
  simp (disch:=omega) only [go_sem,seval]
  refine⟨qC,aa 400 ?_⟩
  try simp (disch:=omega) only [go_sem,seval]
  refine ak (qU [0,12]) (by kernel_rfl) (qC) (by kernel_rfl) (ab 400 ?_)
  simp (disch:=omega) only [go_sem,seval]
  refine⟨qC,aa 400 ?_⟩
  try simp (disch:=omega) only [go_sem,seval]
  refine aH (qI 0 22++qI 0 14++qI 24 1++qI 15 6) (qC) _ (by simp only [go_sem];rfl) zF zF ?_
  simp (disch:=omega) only [go_sem,seval]
  simp [LetterD.cs]
theorem AK (w:WorldD) (side many:Int) (p:Nat) (text:List UInt8) (ad:AddrD) (le:LetterD) (hw:SmallD w):
  aP 58 [.sc (.pt 21 0 0),.ag (ActD.cs ⟨12,side,(p:Nat),many,text,ad,le⟩)] (w.hp true++[some ⟨[w.cs 0],61,60,true,false⟩]) (.sc (.int .i64 (bq w ⟨12,side,(p:Nat),many,text,ad,le⟩).2))
  ((nH 21++[some ⟨[WorldD.cs (bq w ⟨12,side,(p:Nat),many,text,ad,le⟩).1 22],61,60,true,false⟩])++WorldD.hp (bq w ⟨12,side,(p:Nat),many,text,ad,le⟩).1 true):=by
 have hbag:=hw.p.s.bag
 have hpast:=hw.p.s.past
 obtain⟨R,hR⟩:∃ R,R=bq w ⟨12,side,(p:Nat),many,text,ad,le⟩:=⟨_,rfl⟩
 rw [<-hR]
 by_cases hp:p < w.past.length
 ·have hx:=bt (enc:=LetterD.cs) hp
  have hq1:= @OH w side many p text ad le hp
  have hq2:= @OI w side many p text ad le hp
  rw [<-hR] at hq1 hq2
  generalize hxx:w.past[p]=x at*
  have hS:=eA x.to
  have hSb:=gr x.to
  generalize sideAt x.to=sd at*
  by_cases h0:sd=0
  ·rw [hq1 (.inl h0)]
   dsimp only
   refine aL func58 (by kernel_rfl) rfl fun E hE=>aa 400 ?_
   simp (disch:=omega) only [ntmps58,results58,go_sem,seval]
   refine ak (qU [0,9]) (by kernel_rfl) (qC) (by kernel_rfl) (ab 400 ?_)
   simp (disch:=omega) only [go_sem,seval]
   refine⟨qC,aa 400 ?_⟩
   try simp (disch:=omega) only [go_sem,seval]
   refine ak (qU [0,24]) (by kernel_rfl) (qC) (by kernel_rfl) (ab 400 ?_)
   simp (disch:=omega) only [go_sem,seval]
   try simp (disch:=omega) only [go_sem,hx,hxx]
   refine aj (qC) (hS) [] qM zF zF (ab 400 ?_)
   simp (disch:=omega) only [go_sem,seval]
   refine⟨qC,aa 400 ?_⟩
   try simp (disch:=omega) only [go_sem,seval,hx,hxx]
   refine aH (qI 0 22++qI 0 21) (qC) _ (by simp only [go_sem];rfl) zF zF ?_
   simp (disch:=omega) only [go_sem,seval]
  by_cases h4:40<=w.bag.length
  ·rw [hq1 (.inr h4)]
   dsimp only
   refine aL func58 (by kernel_rfl) rfl fun E hE=>aa 400 ?_
   simp (disch:=omega) only [ntmps58,results58,go_sem,seval]
   refine ak (qU [0,9]) (by kernel_rfl) (qC) (by kernel_rfl) (ab 400 ?_)
   simp (disch:=omega) only [go_sem,seval]
   refine⟨qC,aa 400 ?_⟩
   try simp (disch:=omega) only [go_sem,seval]
   refine ak (qU [0,24]) (by kernel_rfl) (qC) (by kernel_rfl) (ab 400 ?_)
   simp (disch:=omega) only [go_sem,seval]
   try simp (disch:=omega) only [go_sem,hx,hxx]
   refine aj (qC) (hS) [] qM zF zF (ab 400 ?_)
   simp (disch:=omega) only [go_sem,seval]
   refine⟨qC,aa 400 ?_⟩
   try simp (disch:=omega) only [go_sem,seval,hx,hxx]
   refine aH (qI 0 22++qI 0 21) (qC) _ (by simp only [go_sem];rfl) zF zF ?_
   simp (disch:=omega) only [go_sem,seval]
  rw [hq2 h0 h4]
  dsimp only
  refine aL func58 (by kernel_rfl) rfl fun E hE=>aa 400 ?_
  simp (disch:=omega) only [ntmps58,results58,go_sem,seval]
  refine ak (qU [0,9]) (by kernel_rfl) (qC) (by kernel_rfl) (ab 400 ?_)
  simp (disch:=omega) only [go_sem,seval]
  refine⟨qC,aa 400 ?_⟩
  try simp (disch:=omega) only [go_sem,seval]
  refine ak (qU [0,24]) (by kernel_rfl) (qC) (by kernel_rfl) (ab 400 ?_)
  simp (disch:=omega) only [go_sem,seval]
  try simp (disch:=omega) only [go_sem,hx,hxx]
  refine aj (qC) (hS) [] qM zF zF (ab 400 ?_)
  simp (disch:=omega) only [go_sem,seval]
  refine⟨qC,aa 400 ?_⟩
  try simp (disch:=omega) only [go_sem,seval,hx,hxx]
  refine ak (qU [0,18]) (by kernel_rfl) (qC) (by kernel_rfl) (ab 400 ?_)
  simp (disch:=omega) only [go_sem,seval]
  refine⟨qC,aa 400 ?_⟩
  try simp (disch:=omega) only [go_sem,seval,hx,hxx]
  refine aH (qI 0 22++qI 0 14++qI 24 1++qI 15 6) (qC) _ (by simp only [go_sem];rfl) zF zF ?_
  simp (disch:=omega) only [go_sem,seval]
  simp [LetterD.cs]
 rw [OG hp] at hR
 subst hR
 dsimp only
 refine aL func58 (by kernel_rfl) rfl fun E hE=>aa 400 ?_
 simp (disch:=omega) only [ntmps58,results58,go_sem,seval]
 refine ak (qU [0,9]) (by kernel_rfl) (qC) (by kernel_rfl) (ab 400 ?_)
 simp (disch:=omega) only [go_sem,seval]
 refine⟨qC,aa 400 ?_⟩
 try simp (disch:=omega) only [go_sem,seval]
 refine ak (qU [0,24]) (by kernel_rfl) (qC) (by kernel_rfl) (ab 400 ?_)
 simp (disch:=omega) only [go_sem,seval]
 refine⟨qC,aa 400 ?_⟩
 try simp (disch:=omega) only [go_sem,seval]
 refine aH (qI 0 22++qI 0 21) (qC) _ (by simp only [go_sem];rfl) zF zF ?_
 simp (disch:=omega) only [go_sem,seval]
theorem y7 (e:EndD) (hs:Small e) (ht:e.out.text.length<=1048576):aP 94 [.ag (e.cs 0)] (e.hp false) (.tu [.ag ((tick e).1.cs 7),.sc (.sl 14 0 (tick e).2.length)])
  (e.hp false++((tick e).1.hp true++[some ⟨(tick e).2.map LetterD.cs,19,36,true,true⟩])):=by
 have hC:=(qH (aB e))
 have hK:=(qH (bb e))
 have hsb:=hs.subs
 have hso:=hs.own
 have hsh:=hs.halfs
 have hF:=CD e.bucket
 have hY:=Aq e.halfs (e.now+1) hs.halfs
 have hAn:=H1 e.out
 have hyl:=wE e.halfs (e.now+1)
 have hat:(jL e.out).text.length<=1048576:=by rw [jL];split<;>exact ht
 have hf:=Oy (e:=e)
 have hto:=Ky (e:=e)
 have hti:=Kz (e:=e)
 have htu:= @Oz e
 have hok:GF e=(ax e && decide (e.now < 1000000000) && e.subs.all fun s=>decide (s.tries < 1000000000)):=rfl
 have hsm0:Small { e with now:=e.now+1,bucket:=gV e.bucket,halfs:=ff e.halfs (e.now+1),out:=jL e.out }:=⟨hs.own,hs.far,hs.subs,by dsimp only;omega,hs.list,hs.done,hs.over⟩
 have hsm1:Small { e with now:=e.now+1,bucket:=gV e.bucket,halfs:=ff e.halfs (e.now+1),out:=jL e.out,subs:=e.subs.map bI }:=⟨hs.own,hs.far,by dsimp only;rw [Rw];exact hs.subs,by dsimp only;omega,hs.list,hs.done,hs.over⟩
 have hfl:(e.subs.flatMap (dO e)).length<=e.subs.length:=At (y3 e) _
 obtain⟨R,hR⟩:∃ R,R=tick e:=⟨_,rfl⟩
 rw [<-hR] at hf hto hti
 simp only [<-hR] at htu
 rw [<-hR]
 clear hR
 refine yu func94 ntmps94 results94 fun E hE=>?_
 refine qK (hC) (qI 0 7) ?_
 refine qK (hK) (qI 0 7) ?_
 refine qB (fun h1=>?_) fun h1=>?_
 ·have hnow:=rS h1
  by_cases h2:e.now < 1000000000
  ·refine qX ?_
   refine Eh 7 hE (fun s (i:Nat)=>s.at (qU [0,1,3,1,6,1,10,12,25,8]) [(24,.sc (.int .i64 (i:Nat)))] (s.hp)) (fun (i:Nat)=>i<=e.subs.length/\(e.subs.drop i).all (fun s=>decide (s.tries < 1000000000))=e.subs.all (fun s=>decide (s.tries < 1000000000))) (fun (i:Nat)=>e.subs.length - i) 0 (qI 0 17) (⟨RD _,rfl⟩) fun i hi N hN=>?_
   obtain⟨g1,g2⟩:=hi
   refine qR ?_
   refine qB (fun b=>?_) fun b=>?_
   ·rw [yZ b] at g2
    have hg:=bt (enc:=SubD.cs) b
    have hsub:=y4 h1 b
    try simp (disch:=omega) only [go_sem,seval,hg]
    refine qB (fun b2=>?_) fun b2=>?_
    ·rw [decide_eq_false zO,RC] at g2
     rw [hf (by rw [hok,<-g2];simp)]
     refine qX ?_
     exact jh (qI 0 7++qI 9 7++qO 1)
    rw [decide_eq_true zO,RG] at g2
    refine qX ?_
    exact Qy hN (i+1) (qI 0 17) (by (try dsimp only);exact⟨zO,g2⟩)
   rw [Ry zO,RM] at g2
   have hall:=g2.symm
   have hall2:∀ (k:Nat) (hk:k < e.subs.length),e.subs[k].tries < 1000000000:=fun k hk=>by
    have:=List.all_eq_true.1 hall e.subs[k] (List.getElem_mem hk)
    simpa using this
   have htk:GF e=true:=by rw [hok,h1,decide_eq_true h2,hall];rfl
   refine qX ?_
   refine qK (hF) [] ?_
   refine qK (hY) (qI 3 1) ?_
   refine qK (hAn) [] ?_
   by_cases h2s:e.state=2
   ·have hR:=hto htk h2s
    rw [cP] at hR
    obtain⟨LL,hLL⟩:∃ L,L=e.subs.flatMap (dO e):=⟨_,rfl⟩
    rw [<-hLL] at hR hfl
    refine qX ?_
    refine jY 7 hE (fun s (y:Nat×List LetterD)=>s.at (qU [0,1,6,1,8,52,62,71]) [(61,.sc (.int .i64 (y.1:Nat))),(7,.sc (.sl 18 0 y.2.length))] ((s.hp.set 11 (some ⟨(fg bI e.subs y.1).map SubD.cs,10,115,true,true⟩))++[some ⟨y.2.map LetterD.cs,19,36,true,true⟩])) (fun (y:Nat×List LetterD)=>y.1<=e.subs.length/\y.2.length<=y.1/\LL=y.2++(e.subs.drop y.1).flatMap (dO e)) (fun (y:Nat×List LetterD)=>e.subs.length - y.1) (0,[]) (qI 0 18++qO 1) (qC) (⟨RD _,RD _,hLL⟩) (am zF zF ?_) fun y hy N2 hN2=>?_
    ·try simp (disch:=omega) only [go_sem,seval]
     try rw [wD]
    obtain⟨k,l⟩:=y
    obtain⟨f1,f2,f3⟩:=hy
    dsimp only at f1 f2 f3
    refine aa 400 ?_
    have hgl:(fg bI e.subs k).length=e.subs.length:=yV
    refine qX ?_
    refine qB (fun b=>?_) fun b=>?_
    ·have hg:=yW (f:=bI) b
     have hsub:=y4 h1 b
     have htr:=hall2 k b
     rw [E5 b] at f3
     have hset:=yX (f:=bI) b
     have hsame:=wC (f:=bI) b
     obtain⟨s0,hs0⟩:∃ s,s=e.subs[k]:=⟨_,rfl⟩
     rw [<-hs0] at hsub htr f3 hset hsame
     have hg':∀ p:k < (fg bI e.subs k).length,(fg bI e.subs k)[k]'p=s0:=fun p=>by rw [hg p,hs0]
     clear hg
     by_cases c1:s0.state=1\/s0.state=2
     ·by_cases c2:s0.state=2/\9<=s0.tries+1
      ·have tS:=E8 c2.1 c2.2
       rw [E9 c2.1 c2.2,RJ] at f3
       obtain⟨c3,c4⟩:=c2
       try simp (disch:=omega) only [go_sem,seval,hg',c3]
       refine⟨qC,hN2 _ (k+1,l) (qI 0 19) (by (try dsimp only);exact⟨zO,zO,f3⟩) (by (try dsimp only);omega) (am zF zF ?_)⟩
       refine qX ?_
       rw [<-hset,tS,RB]
       try simp [SubD.cs,c3]
      have tS:=KA c1 c2
      by_cases c5:(s0.tries+1).tmod 3=0
      ·rcases c1 with c1|c1
       ·rw [H8 c1 c5] at f3
        have hL:aP 146 [.ag (EndD.cs e 0),.ag (SubD.cs { s0 with tries:=s0.tries+1,state:=1 })] (EndD.hp e false) (.ag (fU e s0).cs) (EndD.hp e false):=lW _ _ (show dJ e.side 1 2=true from ww h1)
        try simp (disch:=omega) only [go_sem,seval,hg',c1,c5]
        refine qD [0,1,2,3,4,5,6,7,8] ?_
        refine b_ (hL) (qI 0 7) ?_
        refine qG ?_
        refine⟨qC,hN2 _ (k+1,l++[fU e s0]) (qI 0 18++qI 20 1) (by (try dsimp only);exact⟨zO,by simp;omega,by simpa using f3⟩) (by (try dsimp only);omega) (am zF zF ?_)⟩
        refine qX ?_
        rw [<-hset,tS,RB]
        try simp [SubD.cs,c1,LetterD.cs]
       rw [CM c1 zO c5] at f3
       have hL:aP 147 [.ag (EndD.cs e 0),.ag (SubD.cs { s0 with tries:=s0.tries+1,state:=2 })] (EndD.hp e false) (.ag (ci e s0).cs) (EndD.hp e false):=lR _ _
       try simp (disch:=omega) only [go_sem,seval,hg',c1,c5]
       refine qD [0,1,2,3,4,5,6,7,8] ?_
       refine b_ (hL) (qI 0 7) ?_
       refine qG ?_
       refine⟨qC,hN2 _ (k+1,l++[ci e s0]) (qI 0 18++qI 20 1) (by (try dsimp only);exact⟨zO,by simp;omega,by simpa using f3⟩) (by (try dsimp only);omega) (am zF zF ?_)⟩
       refine qX ?_
       rw [<-hset,tS,RB]
       try simp [SubD.cs,c1,LetterD.cs]
      rw [E_ c1 c2 c5,RJ] at f3
      have c6:0 < (s0.tries+1).tmod 3:=by have:=Int.tmod_nonneg 3 (show 0<=s0.tries+1 by omega);omega
      rcases c1 with c1|c1
      ·try simp (disch:=omega) only [go_sem,seval,hg',c1]
       refine⟨qC,hN2 _ (k+1,l) (qI 0 19) (by (try dsimp only);exact⟨zO,zO,f3⟩) (by (try dsimp only);omega) (am zF zF ?_)⟩
       refine qX ?_
       rw [<-hset,tS,RB]
       try simp [SubD.cs,c1]
      try simp (disch:=omega) only [go_sem,seval,hg',c1]
      refine⟨qC,hN2 _ (k+1,l) (qI 0 19) (by (try dsimp only);exact⟨zO,zO,f3⟩) (by (try dsimp only);omega) (am zF zF ?_)⟩
      refine qX ?_
      rw [<-hset,tS,RB]
      try simp [SubD.cs,c1]
     rw [E7 c1,RJ] at f3
     try simp (disch:=omega) only [go_sem,seval,hg']
     refine⟨qC,hN2 _ (k+1,l) (qI 0 19) (by (try dsimp only);exact⟨zO,zO,f3⟩) (by (try dsimp only);omega) (am zF zF ?_)⟩
     refine qX ?_
     rw [hsame (E6 c1)]
    have hkl:k=e.subs.length:=zO
    subst hkl
    rw [Ry (RK _),List.flatMap_nil,RI] at f3
    subst f3
    rw [yY]
    have hTE:=qo { e with now:=e.now+1,bucket:=gV e.bucket,halfs:=ff e.halfs (e.now+1),out:=jL e.out,subs:=e.subs.map bI } LL hsm1 hat zO
    rw [<-hR] at hTE
    have hml:(e.subs.map bI).length=e.subs.length:=Rw ..
    refine qX ?_
    refine qK (hTE) (qI 9 3++qI 17 1++qI 13 3++qI 18 1) ?_
    exact jh (qI 0 7++qI 19 8)
   have hR:=hti htk h2s
   rw [cP] at hR
   have hTE:=qo { e with now:=e.now+1,bucket:=gV e.bucket,halfs:=ff e.halfs (e.now+1),out:=jL e.out } [] hsm0 hat zP
   rw [<-hR] at hTE
   refine qX ?_
   refine qK (hTE) (qI 9 3++qI 17 1++qI 13 3++qO 1) ?_
   exact jh (qI 0 7++qI 18 8)
  rw [hf (by rw [hok];simp [h2])]
  refine qX ?_
  exact jh (qI 0 7++qI 9 7++qO 1)
 rw [hf (by rw [hok];simp [h1])]
 refine qX ?_
 exact jh (qI 0 7++qI 9 7++qO 1)
theorem AL (w:WorldD) (pos many:Int) (text:List UInt8) (ad:AddrD) (le:LetterD) (hw:SmallD w) (htx:text.length<=1048576):
  aP 57 [.sc (.pt 21 0 0),.ag (ActD.cs ⟨3,1,pos,many,text,ad,le⟩)] (w.hp true++[some ⟨[w.cs 0],61,60,true,false⟩]) (.sc (.int .i64 0))
  ((nH 21++[some ⟨[WorldD.cs (az 1 { w with a:=(tick w.a).1 } (tick w.a).2) 22],61,60,true,false⟩])++WorldD.hp (az 1 { w with a:=(tick w.a).1 } (tick w.a).2) true):=by
 have q1:=hw.s.wa
 have q2:=hw.s.wb
 have q3:=hw.s.ra
 have q4:=hw.s.rb
 have hX:=y7 w.a hw.p.s.a hw.oa
 have hsm:=oQ hw.p.s.a
 have hlen:=CN w.a
 have hEA:aP 90 [.ag (w.cs 0),.sc (.int .i64 1)] (w.hp false) (.ag (w.a.cs 21)) (w.hp false++w.a.hp true):=bY w 1 hw.p.s.a.own hw.p.s.a.far hw.p.s.a.subs hw.p.s.a.halfs hw.p.s.a.list hw.p.s.a.done hw.p.s.a.over hw.p.s.b.own hw.p.s.b.far hw.p.s.b.subs hw.p.s.b.halfs hw.p.s.b.list hw.p.s.b.done hw.p.s.b.over
 obtain⟨pr,hpr⟩:∃ p,p=tick w.a:=⟨_,rfl⟩
 rw [<-hpr] at hX hsm hlen⊢
 obtain⟨e1,l1⟩:=pr
 dsimp only at hX hsm hlen⊢
 have hset:=gw w e1
 have hpost:=fF { w with a:=e1 } l1 ⟨hw.p.s.bag,hw.p.s.past,hw.p.s.keys,hw.p.s.tags,hw.p.s.nums,hw.p.s.ansA,hw.p.s.ansB⟩ (by first|omega|simp)
 have hends:=bH (side:=1) (l:=l1) (w:={ w with a:=e1 })
 obtain⟨R,hR⟩:∃ R,R=az 1 { w with a:=e1 } l1:=⟨_,rfl⟩
 rw [<-hR] at hpost hends⊢
 clear hR
 obtain⟨ra,rb,bag,past,wA,wB,rA,rB,known,nums,nsA,nsB⟩:=R
 obtain⟨keys,tags⟩:=known
 dsimp only at hends
 obtain⟨g1,g2,g3,g4,g5,g6⟩:=hends
 replace g1:=g1.symm
 replace g2:=g2.symm
 replace g3:=g3.symm
 replace g4:=g4.symm
 replace g5:=g5.symm
 replace g6:=g6.symm
 subst g1 g2 g3 g4 g5 g6
 refine aL func57 (by kernel_rfl) rfl fun E hE=>aa 400 ?_
 simp (disch:=omega) only [ntmps57,results57,go_sem,seval]
 refine bj [(5,6)] [] [(qU [0,8]),[0,1,2,3,4,6,5,7]] 22 hE (fun s=>s.at (qU [13,6]) [(5,.sc (.pt 30 0 0))] (s.hp++(w.a.hp true++[some ⟨[w.a.cs 23],25,54,true,false⟩]))) (by kernel_rfl) (qC) (by kernel_rfl) ?_ (aa 400 ?_)
 rotate_left
 rotate_right
 simp only [a_]
 refine⟨ab 400 ?_,ab 400 ?_⟩
 ·simp (disch:=omega) only [go_sem]
  refine aj (qC) (hEA) (qI 0 21) qM zF zF (ab 400 ?_)
  simp (disch:=omega) only [go_sem,seval]
  exact qZ (qI 0 31)
 ·simp (disch:=omega) only [go_sem]
  refine aj (qC) (hEA) (qI 0 21) qM zF zF (ab 400 ?_)
  simp (disch:=omega) only [go_sem,seval]
  exact qZ (qI 0 23++qI 24 7++qI 23 1)
 try simp (disch:=omega) only [go_sem,seval]
 refine ah (qC) (hX) (qI 23 7) qM zF (aa 400 ?_)
 simp (disch:=omega) only [go_sem,seval]
 refine ah (qC) (hset) (qI 0 21++qI 31 7++qI 21 1) qM zF (aa 400 ?_)
 simp (disch:=omega) only [go_sem,seval]
 refine ah (qC) (hpost) (qI 31 7++qI 7 15++qI 38 1) qM zF (aa 400 ?_)
 simp (disch:=omega) only [go_sem,seval]
 refine aH (qI 0 22++qI 31 7++qI 7 7++qI 39 7) (qC) _ (by simp only [go_sem];rfl) zF zF ?_
 simp (disch:=omega) only [go_sem,seval]
theorem AM (w:WorldD) (pos many:Int) (text:List UInt8) (ad:AddrD) (le:LetterD) (hw:SmallD w) (htx:text.length<=1048576):
  aP 57 [.sc (.pt 21 0 0),.ag (ActD.cs ⟨3,2,pos,many,text,ad,le⟩)] (w.hp true++[some ⟨[w.cs 0],61,60,true,false⟩]) (.sc (.int .i64 0))
  ((nH 21++[some ⟨[WorldD.cs (az 2 { w with b:=(tick w.b).1 } (tick w.b).2) 22],61,60,true,false⟩])++WorldD.hp (az 2 { w with b:=(tick w.b).1 } (tick w.b).2) true):=by
 have q1:=hw.s.wa
 have q2:=hw.s.wb
 have q3:=hw.s.ra
 have q4:=hw.s.rb
 have hX:=y7 w.b hw.p.s.b hw.ob
 have hsm:=oQ hw.p.s.b
 have hlen:=CN w.b
 have hEA:aP 90 [.ag (w.cs 0),.sc (.int .i64 2)] (w.hp false) (.ag (w.b.cs 21)) (w.hp false++w.b.hp true):=bY w 2 hw.p.s.a.own hw.p.s.a.far hw.p.s.a.subs hw.p.s.a.halfs hw.p.s.a.list hw.p.s.a.done hw.p.s.a.over hw.p.s.b.own hw.p.s.b.far hw.p.s.b.subs hw.p.s.b.halfs hw.p.s.b.list hw.p.s.b.done hw.p.s.b.over
 obtain⟨pr,hpr⟩:∃ p,p=tick w.b:=⟨_,rfl⟩
 rw [<-hpr] at hX hsm hlen⊢
 obtain⟨e1,l1⟩:=pr
 dsimp only at hX hsm hlen⊢
 have hset:=gx w e1
 have hpost:=fG { w with b:=e1 } l1 ⟨hw.p.s.bag,hw.p.s.past,hw.p.s.keys,hw.p.s.tags,hw.p.s.nums,hw.p.s.ansA,hw.p.s.ansB⟩ (by first|omega|simp)
 have hends:=bH (side:=2) (l:=l1) (w:={ w with b:=e1 })
 obtain⟨R,hR⟩:∃ R,R=az 2 { w with b:=e1 } l1:=⟨_,rfl⟩
 rw [<-hR] at hpost hends⊢
 clear hR
 obtain⟨ra,rb,bag,past,wA,wB,rA,rB,known,nums,nsA,nsB⟩:=R
 obtain⟨keys,tags⟩:=known
 dsimp only at hends
 obtain⟨g1,g2,g3,g4,g5,g6⟩:=hends
 replace g1:=g1.symm
 replace g2:=g2.symm
 replace g3:=g3.symm
 replace g4:=g4.symm
 replace g5:=g5.symm
 replace g6:=g6.symm
 subst g1 g2 g3 g4 g5 g6
 refine aL func57 (by kernel_rfl) rfl fun E hE=>aa 400 ?_
 simp (disch:=omega) only [ntmps57,results57,go_sem,seval]
 refine bj [(5,6)] [] [(qU [0,8]),[0,1,2,3,4,6,5,7]] 22 hE (fun s=>s.at (qU [13,6]) [(5,.sc (.pt 30 0 0))] (s.hp++(w.b.hp true++[some ⟨[w.b.cs 23],25,54,true,false⟩]))) (by kernel_rfl) (qC) (by kernel_rfl) ?_ (aa 400 ?_)
 rotate_left
 rotate_right
 simp only [a_]
 refine⟨ab 400 ?_,ab 400 ?_⟩
 ·simp (disch:=omega) only [go_sem]
  refine aj (qC) (hEA) (qI 0 21) qM zF zF (ab 400 ?_)
  simp (disch:=omega) only [go_sem,seval]
  exact qZ (qI 0 31)
 ·simp (disch:=omega) only [go_sem]
  refine aj (qC) (hEA) (qI 0 21) qM zF zF (ab 400 ?_)
  simp (disch:=omega) only [go_sem,seval]
  exact qZ (qI 0 23++qI 24 7++qI 23 1)
 try simp (disch:=omega) only [go_sem,seval]
 refine ah (qC) (hX) (qI 23 7) qM zF (aa 400 ?_)
 simp (disch:=omega) only [go_sem,seval]
 refine ah (qC) (hset) (qI 0 21++qI 31 7++qI 21 1) qM zF (aa 400 ?_)
 simp (disch:=omega) only [go_sem,seval]
 refine ah (qC) (hpost) (qI 0 7++qI 31 7++qI 14 8++qI 38 1) qM zF (aa 400 ?_)
 simp (disch:=omega) only [go_sem,seval]
 refine aH (qI 0 22++qI 0 7++qI 31 7++qI 39 7) (qC) _ (by simp only [go_sem];rfl) zF zF ?_
 simp (disch:=omega) only [go_sem,seval]
theorem xX (w:WorldD) (pos many:Int) (text:List UInt8) (ad:AddrD) (le:LetterD) (hw:SmallD w) (hbad:¬ sideAt ad.addr=1\/(aN w.a ad).2=false):
  aP 57 [.sc (.pt 21 0 0),.ag (ActD.cs ⟨5,1,pos,many,text,ad,le⟩)] (w.hp true++[some ⟨[w.cs 0],61,60,true,false⟩]) (.sc (.int .i64 1))
  ((nH 21++[some ⟨[WorldD.cs w 22],61,60,true,false⟩])++WorldD.hp w true):=by
 have hX:=j8 w.a ad hw.p.s.a
 have hsm:=gX (a:=ad) hw.p.s.a
 have hEA:aP 90 [.ag (w.cs 0),.sc (.int .i64 1)] (w.hp false) (.ag (w.a.cs 21)) (w.hp false++w.a.hp true):=bY w 1 hw.p.s.a.own hw.p.s.a.far hw.p.s.a.subs hw.p.s.a.halfs hw.p.s.a.list hw.p.s.a.done hw.p.s.a.over hw.p.s.b.own hw.p.s.b.far hw.p.s.b.subs hw.p.s.b.halfs hw.p.s.b.list hw.p.s.b.done hw.p.s.b.over
 obtain⟨pr,hpr⟩:∃ p,p=aN w.a ad:=⟨_,rfl⟩
 rw [<-hpr] at hX hsm hbad
 obtain⟨e1,ok1⟩:=pr
 dsimp only at hX hsm hbad
 have hSd:=eA ad.addr
 generalize sideAt ad.addr=sd at*
 refine aL func57 (by kernel_rfl) rfl fun E hE=>aa 400 ?_
 simp (disch:=omega) only [ntmps57,results57,go_sem,seval]
 refine bj [(5,6)] [] [(qU [0,8]),[0,1,2,3,4,6,5,7]] 22 hE (fun s=>s.at (qU [13,6]) [(5,.sc (.pt 30 0 0))] (s.hp++(w.a.hp true++[some ⟨[w.a.cs 23],25,54,true,false⟩]))) (by kernel_rfl) (qC) (by kernel_rfl) ?_ (aa 400 ?_)
 rotate_left
 rotate_right
 simp only [a_]
 refine⟨ab 400 ?_,ab 400 ?_⟩
 ·simp (disch:=omega) only [go_sem]
  refine aj (qC) (hEA) (qI 0 21) qM zF zF (ab 400 ?_)
  simp (disch:=omega) only [go_sem,seval]
  exact qZ (qI 0 31)
 ·simp (disch:=omega) only [go_sem]
  refine aj (qC) (hEA) (qI 0 21) qM zF zF (ab 400 ?_)
  simp (disch:=omega) only [go_sem,seval]
  exact qZ (qI 0 23++qI 24 7++qI 23 1)
 try simp (disch:=omega) only [go_sem,seval]
 refine ah (qC) (hX) (qI 23 7) qM zF (aa 400 ?_)
 simp (disch:=omega) only [go_sem,seval]
 by_cases h0:sd=1
 ·subst h0
  have hb:ok1=false:=by rcases hbad with h|h;exact absurd rfl h;exact h
  subst hb
  refine ak (qU [0,3,4,2,3,1,6,5]) (by kernel_rfl) (qC) (by kernel_rfl) (ab 400 ?_)
  simp (disch:=omega) only [go_sem,seval]
  refine aj (qC) (hSd) [] qM zF zF (ab 400 ?_)
  simp (disch:=omega) only [go_sem,seval]
  refine⟨qC,aa 400 ?_⟩
  try simp (disch:=omega) only [go_sem,seval]
  refine aH (qI 0 22++qI 0 21) (qC) _ (by simp only [go_sem];rfl) zF zF ?_
  simp (disch:=omega) only [go_sem,seval]
 refine ak (qU [0,3,4,2,3,1,6,5]) (by kernel_rfl) (qC) (by kernel_rfl) (ab 400 ?_)
 simp (disch:=omega) only [go_sem,seval]
 refine aj (qC) (hSd) [] qM zF zF (ab 400 ?_)
 simp (disch:=omega) only [go_sem,seval]
 refine⟨qC,aa 400 ?_⟩
 try simp (disch:=omega) only [go_sem,seval]
 refine aH (qI 0 22++qI 0 21) (qC) _ (by simp only [go_sem];rfl) zF zF ?_
 simp (disch:=omega) only [go_sem,seval]
theorem xY (w:WorldD) (pos many:Int) (text:List UInt8) (ad:AddrD) (le:LetterD) (hw:SmallD w) (hbad:¬ sideAt ad.addr=2\/(aN w.b ad).2=false):
  aP 57 [.sc (.pt 21 0 0),.ag (ActD.cs ⟨5,2,pos,many,text,ad,le⟩)] (w.hp true++[some ⟨[w.cs 0],61,60,true,false⟩]) (.sc (.int .i64 1))
  ((nH 21++[some ⟨[WorldD.cs w 22],61,60,true,false⟩])++WorldD.hp w true):=by
 have hX:=j8 w.b ad hw.p.s.b
 have hsm:=gX (a:=ad) hw.p.s.b
 have hEA:aP 90 [.ag (w.cs 0),.sc (.int .i64 2)] (w.hp false) (.ag (w.b.cs 21)) (w.hp false++w.b.hp true):=bY w 2 hw.p.s.a.own hw.p.s.a.far hw.p.s.a.subs hw.p.s.a.halfs hw.p.s.a.list hw.p.s.a.done hw.p.s.a.over hw.p.s.b.own hw.p.s.b.far hw.p.s.b.subs hw.p.s.b.halfs hw.p.s.b.list hw.p.s.b.done hw.p.s.b.over
 obtain⟨pr,hpr⟩:∃ p,p=aN w.b ad:=⟨_,rfl⟩
 rw [<-hpr] at hX hsm hbad
 obtain⟨e1,ok1⟩:=pr
 dsimp only at hX hsm hbad
 have hSd:=eA ad.addr
 generalize sideAt ad.addr=sd at*
 refine aL func57 (by kernel_rfl) rfl fun E hE=>aa 400 ?_
 simp (disch:=omega) only [ntmps57,results57,go_sem,seval]
 refine bj [(5,6)] [] [(qU [0,8]),[0,1,2,3,4,6,5,7]] 22 hE (fun s=>s.at (qU [13,6]) [(5,.sc (.pt 30 0 0))] (s.hp++(w.b.hp true++[some ⟨[w.b.cs 23],25,54,true,false⟩]))) (by kernel_rfl) (qC) (by kernel_rfl) ?_ (aa 400 ?_)
 rotate_left
 rotate_right
 simp only [a_]
 refine⟨ab 400 ?_,ab 400 ?_⟩
 ·simp (disch:=omega) only [go_sem]
  refine aj (qC) (hEA) (qI 0 21) qM zF zF (ab 400 ?_)
  simp (disch:=omega) only [go_sem,seval]
  exact qZ (qI 0 31)
 ·simp (disch:=omega) only [go_sem]
  refine aj (qC) (hEA) (qI 0 21) qM zF zF (ab 400 ?_)
  simp (disch:=omega) only [go_sem,seval]
  exact qZ (qI 0 23++qI 24 7++qI 23 1)
 try simp (disch:=omega) only [go_sem,seval]
 refine ah (qC) (hX) (qI 23 7) qM zF (aa 400 ?_)
 simp (disch:=omega) only [go_sem,seval]
 by_cases h0:sd=2
 ·subst h0
  have hb:ok1=false:=by rcases hbad with h|h;exact absurd rfl h;exact h
  subst hb
  refine ak (qU [0,3,4,2,3,1,6,5]) (by kernel_rfl) (qC) (by kernel_rfl) (ab 400 ?_)
  simp (disch:=omega) only [go_sem,seval]
  refine aj (qC) (hSd) [] qM zF zF (ab 400 ?_)
  simp (disch:=omega) only [go_sem,seval]
  refine⟨qC,aa 400 ?_⟩
  try simp (disch:=omega) only [go_sem,seval]
  refine aH (qI 0 22++qI 0 21) (qC) _ (by simp only [go_sem];rfl) zF zF ?_
  simp (disch:=omega) only [go_sem,seval]
 refine ak (qU [0,3,4,2,3,1,6,5]) (by kernel_rfl) (qC) (by kernel_rfl) (ab 400 ?_)
 simp (disch:=omega) only [go_sem,seval]
 refine aj (qC) (hSd) [] qM zF zF (ab 400 ?_)
 simp (disch:=omega) only [go_sem,seval]
 refine⟨qC,aa 400 ?_⟩
 try simp (disch:=omega) only [go_sem,seval]
 refine aH (qI 0 22++qI 0 21) (qC) _ (by simp only [go_sem];rfl) zF zF ?_
 simp (disch:=omega) only [go_sem,seval]
theorem MN {w:WorldD} {pos many:Int} {text:List UInt8} {ad:AddrD} {le:LetterD}:aU w ⟨1,1,pos,many,text,ad,le⟩=(az 1 { w with wroteA:=w.wroteA++text.take (write w.a text).2,a:=(bh w.a text).1 } (bh w.a text).2,0):=by
 simp [aU,dx,eB,dq,bJ,aJ,e7,cL]
theorem MO {w:WorldD} {pos many:Int} {text:List UInt8} {ad:AddrD} {le:LetterD}:aU w ⟨2,1,pos,many,text,ad,le⟩=(az 1 { w with readA:=w.readA++(bu w.a many).2,a:=((bu w.a many).1,([]:List LetterD)).1 } ((bu w.a many).1,([]:List LetterD)).2,0):=by
 simp [aU,dx,eB,dq,bJ,aJ,e7,cL]
theorem MP {w:WorldD} {pos many:Int} {text:List UInt8} {ad:AddrD} {le:LetterD}:aU w ⟨3,1,pos,many,text,ad,le⟩=(az 1 { w with a:=(tick w.a).1 } (tick w.a).2,0):=by
 simp [aU,dx,eB,dq,bJ,aJ,e7,cL]
theorem MQ {w:WorldD} {pos many:Int} {text:List UInt8} {ad:AddrD} {le:LetterD}:aU w ⟨4,1,pos,many,text,ad,le⟩=(az 1 { w with a:=(manage w.a).1 } (manage w.a).2,0):=by
 simp [aU,dx,eB,dq,bJ,aJ,e7,cL]
theorem MR {w:WorldD} {pos many:Int} {text:List UInt8} {ad:AddrD} {le:LetterD} (hsd:sideAt ad.addr=1) (hgood:(aN w.a ad).2=true):aU w ⟨5,1,pos,many,text,ad,le⟩=(az 1 { w with a:=((aN w.a ad).1,([]:List LetterD)).1 } ((aN w.a ad).1,([]:List LetterD)).2,0):=by
 simp [aU,dx,eB,dq,bJ,aJ,e7,cL,hsd,hgood]
theorem MS {w:WorldD} {pos many:Int} {text:List UInt8} {ad:AddrD} {le:LetterD}:aU w ⟨6,1,pos,many,text,ad,le⟩=(az 1 { w with a:=(bz w.a pos).1 } (bz w.a pos).2,0):=by
 simp [aU,dx,eB,dq,bJ,aJ,e7,cL]
theorem MT {w:WorldD} {pos many:Int} {text:List UInt8} {ad:AddrD} {le:LetterD}:aU w ⟨7,1,pos,many,text,ad,le⟩=(az 1 { w with a:=(cp w.a pos).1 } (cp w.a pos).2,0):=by
 simp [aU,dx,eB,dq,bJ,aJ,e7,cL]
theorem KB {w:WorldD} {pos many:Int} {text:List UInt8} {ad:AddrD} {le:LetterD} (hbad:¬ sideAt ad.addr=1\/(aN w.a ad).2=false):aU w ⟨5,1,pos,many,text,ad,le⟩=(w,1):=by
 rcases hbad with h|h<;>simp [aU,dx,bJ,h]
theorem MU {w:WorldD} {pos many:Int} {text:List UInt8} {ad:AddrD} {le:LetterD}:aU w ⟨1,2,pos,many,text,ad,le⟩=(az 2 { w with wroteB:=w.wroteB++text.take (write w.b text).2,b:=(bh w.b text).1 } (bh w.b text).2,0):=by
 simp [aU,dx,eB,dq,bJ,aJ,e7,cL]
theorem MV {w:WorldD} {pos many:Int} {text:List UInt8} {ad:AddrD} {le:LetterD}:aU w ⟨2,2,pos,many,text,ad,le⟩=(az 2 { w with readB:=w.readB++(bu w.b many).2,b:=((bu w.b many).1,([]:List LetterD)).1 } ((bu w.b many).1,([]:List LetterD)).2,0):=by
 simp [aU,dx,eB,dq,bJ,aJ,e7,cL]
theorem MW {w:WorldD} {pos many:Int} {text:List UInt8} {ad:AddrD} {le:LetterD}:aU w ⟨3,2,pos,many,text,ad,le⟩=(az 2 { w with b:=(tick w.b).1 } (tick w.b).2,0):=by
 simp [aU,dx,eB,dq,bJ,aJ,e7,cL]
theorem MX {w:WorldD} {pos many:Int} {text:List UInt8} {ad:AddrD} {le:LetterD}:aU w ⟨4,2,pos,many,text,ad,le⟩=(az 2 { w with b:=(manage w.b).1 } (manage w.b).2,0):=by
 simp [aU,dx,eB,dq,bJ,aJ,e7,cL]
theorem MY {w:WorldD} {pos many:Int} {text:List UInt8} {ad:AddrD} {le:LetterD} (hsd:sideAt ad.addr=2) (hgood:(aN w.b ad).2=true):aU w ⟨5,2,pos,many,text,ad,le⟩=(az 2 { w with b:=((aN w.b ad).1,([]:List LetterD)).1 } ((aN w.b ad).1,([]:List LetterD)).2,0):=by
 simp [aU,dx,eB,dq,bJ,aJ,e7,cL,hsd,hgood]
theorem MZ {w:WorldD} {pos many:Int} {text:List UInt8} {ad:AddrD} {le:LetterD}:aU w ⟨6,2,pos,many,text,ad,le⟩=(az 2 { w with b:=(bz w.b pos).1 } (bz w.b pos).2,0):=by
 simp [aU,dx,eB,dq,bJ,aJ,e7,cL]
theorem M1 {w:WorldD} {pos many:Int} {text:List UInt8} {ad:AddrD} {le:LetterD}:aU w ⟨7,2,pos,many,text,ad,le⟩=(az 2 { w with b:=(cp w.b pos).1 } (cp w.b pos).2,0):=by
 simp [aU,dx,eB,dq,bJ,aJ,e7,cL]
theorem KC {w:WorldD} {pos many:Int} {text:List UInt8} {ad:AddrD} {le:LetterD} (hbad:¬ sideAt ad.addr=2\/(aN w.b ad).2=false):aU w ⟨5,2,pos,many,text,ad,le⟩=(w,1):=by
 rcases hbad with h|h<;>simp [aU,dx,bJ,h]
theorem KD {w:WorldD} {a:ActD} (h:dx w a=true):aU w a=(w,1):=if_pos h
theorem H_ {w:WorldD} {a:ActD} (h:¬ dx w a=true):(aU w a).2=0:=by rw [aU,if_neg h]
theorem Fa (w:WorldD) (a:ActD):(bq w a).2=0\/(bq w a).1=w:=by
 unfold bq;repeat' split
 all_goals first|exact .inl rfl|exact .inr rfl
theorem Ia (w:WorldD) (a:ActD):(aU w a).2=0\/(aU w a).1=w:=by
 by_cases h:dx w a=true
 ·rw [KD h];exact .inr rfl
 exact .inl (H_ h)
theorem mK {a:ActD} (h:bG a=true):1<=a.kind/\a.kind<=12/\1<=a.side/\a.side<=2/\0<=a.pos/\a.text.length<=1048576:=by
 simp only [bG,dJ,eg,Rx,decide_eq_true_eq] at h
 omega
theorem Ib (w:WorldD) (a:ActD) (hw:SmallD w) (ha:bG a=true) (h7:a.kind<=7):
  aP 57 [.sc (.pt 21 0 0),.ag a.cs] (w.hp true++[some ⟨[w.cs 0],61,60,true,false⟩]) (.sc (.int .i64 (aU w a).2))
  ((nH 21++[some ⟨[WorldD.cs (aU w a).1 22],61,60,true,false⟩])++WorldD.hp (aU w a).1 true):=by
 obtain⟨k1,k2,k3,k4,k5,k6⟩:=mK ha
 obtain⟨kind,side,pos,many,text,ad,le⟩:=a
 dsimp only at*
 have hs:side=1\/side=2:=zO
 have hk:kind=1\/kind=2\/kind=3\/kind=4\/kind=5\/kind=6\/kind=7:=zO
 clear ha k1 k2 k3 k4 h7
 rcases hs with rfl|rfl<;>rcases hk with rfl|rfl|rfl|rfl|rfl|rfl|rfl
 ·rw [MN];exact Av w pos many text ad le hw k6
 ·rw [MO];exact Aw w pos many text ad le hw k6
 ·rw [MP];exact AL w pos many text ad le hw k6
 ·rw [MQ];exact Ax w pos many text ad le hw k6
 ·by_cases hb:sideAt ad.addr=1/\(aN w.a ad).2=true
  ·rw [MR hb.1 hb.2];exact Ay w pos many text ad le hw k6 hb.1 hb.2
  have hb:¬ sideAt ad.addr=1\/(aN w.a ad).2=false:=by
   by_cases h0:sideAt ad.addr=1
   ·exact .inr (by cases h1:(aN w.a ad).2;rfl;exact absurd ⟨h0,h1⟩ hb)
   exact .inl h0
  rw [KB hb];exact xX w pos many text ad le hw hb
 ·rw [MS];exact Az w pos many text ad le hw k6
 ·rw [MT];exact AA w pos many text ad le hw k6
 ·rw [MU];exact AB w pos many text ad le hw k6
 ·rw [MV];exact AC w pos many text ad le hw k6
 ·rw [MW];exact AM w pos many text ad le hw k6
 ·rw [MX];exact AD w pos many text ad le hw k6
 ·by_cases hb:sideAt ad.addr=2/\(aN w.b ad).2=true
  ·rw [MY hb.1 hb.2];exact AF w pos many text ad le hw k6 hb.1 hb.2
  have hb:¬ sideAt ad.addr=2\/(aN w.b ad).2=false:=by
   by_cases h0:sideAt ad.addr=2
   ·exact .inr (by cases h1:(aN w.b ad).2;rfl;exact absurd ⟨h0,h1⟩ hb)
   exact .inl h0
  rw [KC hb];exact xY w pos many text ad le hw hb
 ·rw [MZ];exact AG w pos many text ad le hw k6
 rw [M1];exact AH w pos many text ad le hw k6
theorem Fb (w:WorldD) (a:ActD) (hw:SmallD w) (ha:bG a=true) (h7:¬ a.kind<=7):
  aP 58 [.sc (.pt 21 0 0),.ag a.cs] (w.hp true++[some ⟨[w.cs 0],61,60,true,false⟩]) (.sc (.int .i64 (bq w a).2))
  ((nH 21++[some ⟨[WorldD.cs (bq w a).1 22],61,60,true,false⟩])++WorldD.hp (bq w a).1 true):=by
 obtain⟨k1,k2,k3,k4,k5,k6⟩:=mK ha
 obtain⟨kind,side,pos,many,text,ad,le⟩:=a
 dsimp only at*
 have hk:kind=8\/kind=9\/kind=10\/kind=11\/kind=12:=zO
 obtain⟨p,rfl⟩:=Int.eq_ofNat_of_zero_le k5
 rcases hk with rfl|rfl|rfl|rfl|rfl
 ·exact CO w side many p text ad le hw
 ·exact CP w side many p text ad le hw
 ·exact AI w side many p text ad le hw
 ·exact AJ w side many p text ad le hw
 exact AK w side many p text ad le hw
theorem Ic (w:WorldD) (a:ActD) (hw:SmallD w):aP 35 [.ag (w.cs 0),.ag a.cs] (w.hp false) (.tu [.ag ((dy w a).1.cs 21),.sc (.int .i64 (dy w a).2)]) (w.hp false++(dy w a).1.hp true):=by
 have hC:=mB w hw.p.s
 have hA:=oS a
 cases hok:bG a with
 |false=>
  rw [show dy w a=(w,3) from by rw [dy,if_neg (by simp [hok])]]
  rw [hok] at hA
  dsimp only
  refine ao func35 (by kernel_rfl) rfl fun E hE=>aa 400 ?_
  simp (disch:=omega) only [ntmps35,results35,go_sem,seval]
  refine ah (qC) (hA) [] qM zF (aa 400 ?_)
  simp (disch:=omega) only [go_sem,seval]
  refine ah (qC) (hC) (qI 0 21) qM zF (aa 400 ?_)
  simp (disch:=omega) only [go_sem,seval]
  refine ai (qI 0 21++qI 24 21) (qC) _ (by simp only [go_sem];rfl) zF zF ?_
  simp (disch:=omega) only [go_sem,seval]
 |true=>
  rw [hok] at hA
  by_cases h7:a.kind<=7
  ·have hM:=Ib w a hw hok h7
   have hcode:=Ia w a
   rw [show dy w a=aU w a from by rw [dy,if_pos hok,if_pos h7]]
   obtain⟨R,hR⟩:∃ R,R=aU w a:=⟨_,rfl⟩
   rw [<-hR] at hM hcode⊢
   clear hR
   obtain⟨r,c⟩:=R
   dsimp only at hM hcode⊢
   refine ao func35 (by kernel_rfl) rfl fun E hE=>aa 400 ?_
   simp (disch:=omega) only [ntmps35,results35,go_sem,seval]
   refine ah (qC) (hA) [] qM zF (aa 400 ?_)
   simp (disch:=omega) only [go_sem,seval]
   refine ah (qC) (hC) (qI 0 21) qM zF (aa 400 ?_)
   simp (disch:=omega) only [go_sem,seval]
   refine ah (qC) (hM) (qI 24 22) qM zF (aa 400 ?_)
   simp (disch:=omega) only [go_sem,seval]
   by_cases hz:c=0
   ·subst hz
    try simp (disch:=omega) only [go_sem,seval]
    refine ai (qI 0 21++qI 46 21) (qC) _ (by simp only [go_sem];rfl) zF zF ?_
    simp (disch:=omega) only [go_sem,seval]
   have hr:r=w:=by rcases hcode with h|h;exact absurd h hz;exact h
   subst hr
   try simp (disch:=omega) only [go_sem,seval]
   refine ah (qC) (hC) (qI 0 21) qM zF (aa 400 ?_)
   simp (disch:=omega) only [go_sem,seval]
   refine ai (qI 0 21++qI 67 21) (qC) _ (by simp only [go_sem];rfl) zF zF ?_
   simp (disch:=omega) only [go_sem,seval]
  have hM:=Fb w a hw hok h7
  have hcode:=Fa w a
  rw [show dy w a=bq w a from by rw [dy,if_pos hok,if_neg h7]]
  obtain⟨R,hR⟩:∃ R,R=bq w a:=⟨_,rfl⟩
  rw [<-hR] at hM hcode⊢
  clear hR
  obtain⟨r,c⟩:=R
  dsimp only at hM hcode⊢
  refine ao func35 (by kernel_rfl) rfl fun E hE=>aa 400 ?_
  simp (disch:=omega) only [ntmps35,results35,go_sem,seval]
  refine ah (qC) (hA) [] qM zF (aa 400 ?_)
  simp (disch:=omega) only [go_sem,seval]
  refine ah (qC) (hC) (qI 0 21) qM zF (aa 400 ?_)
  simp (disch:=omega) only [go_sem,seval]
  refine ah (qC) (hM) (qI 24 22) qM zF (aa 400 ?_)
  simp (disch:=omega) only [go_sem,seval]
  by_cases hz:c=0
  ·subst hz
   try simp (disch:=omega) only [go_sem,seval]
   refine ai (qI 0 21++qI 46 21) (qC) _ (by simp only [go_sem];rfl) zF zF ?_
   simp (disch:=omega) only [go_sem,seval]
  have hr:r=w:=by rcases hcode with h|h;exact absurd h hz;exact h
  subst hr
  try simp (disch:=omega) only [go_sem,seval]
  refine ah (qC) (hC) (qI 0 21) qM zF (aa 400 ?_)
  simp (disch:=omega) only [go_sem,seval]
  refine ai (qI 0 21++qI 67 21) (qC) _ (by simp only [go_sem];rfl) zF zF ?_
  simp (disch:=omega) only [go_sem,seval]
end
end Go.Proofs.YtdiiopjaebnmfaaGreatDoor
