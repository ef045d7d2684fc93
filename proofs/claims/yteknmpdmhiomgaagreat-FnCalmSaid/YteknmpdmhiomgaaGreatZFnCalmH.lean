/- Lemmas of this claim. -/
import Derived.Test.YteknmpdmhiomgaaGreatZFnCalmF
import Derived.Test.YteknmpdmhiomgaaGreatZFnCalmG
set_option maxHeartbeats 16000000
set_option maxRecDepth 100000
set_option linter.unusedVariables false
set_option linter.unusedSimpArgs false
namespace Go.Proofs.YteknmpdmhiomgaaGreat
open _root_.Go.Proofs.Tryz
open _root_.List renaming length_append->RP,length_cons->RQ,length_drop->RS,length_take->RT,length_map->RU
open _root_.Bool renaming and_eq_true->RR
section
open Go.RowKit
theorem Ar (e:EndD) (x:LetterD) (hs:Small e) (hsp:SmallP e.inp):aP 139 [.ag (e.cs 0),.ag x.cs] (e.hp false) (.tu [.ag ((aG e x).1.cs 7),.sc (.sl 14 0 (aG e x).2.length)])
  (e.hp false++((aG e x).1.hp true++[some ⟨(aG e x).2.map LetterD.cs,19,73,true,true⟩])):=by
 have hC:=(qH (aV e))
 have hK:=(qH (cd e))
 have hL:=cu x
 have hO:=jf e x.to (by have:=hs.own;omega)
 have hf:=qm (e:=e) (x:=x)
 have hno:=xc (e:=e) (x:=x)
 have hr1:=tM (e:=e) (x:=x)
 have hr2:=tN (e:=e) (x:=x)
 have hr4:=qo (e:=e) (x:=x)
 have hr5:=qp (e:=e) (x:=x)
 have hr6:=qq (e:=e) (x:=x)
 have hr7:=qr (e:=e) (x:=x)
 have hr8:=qs (e:=e) (x:=x)
 have hr9:=tO (e:=e) (x:=x)
 have hr10:=oM (e:=e) (x:=x)
 have hr11:=mw (e:=e) (x:=x)
 have hr12:=my (e:=e) (x:=x)
 have hr13:=oN (e:=e) (x:=x)
 generalize aG e x=R at*
 refine qE func139 ntmps139 results139 fun E hE=>?_
 refine qK (hK) (qI 0 7) ?_
 refine qB (fun h1=>?_) fun h1=>?_
 ·refine qK (hL) [] ?_
  refine qB (fun h2=>?_) fun h2=>?_
  ·refine qK (hO) (qI 0 7) ?_
   refine qB (fun h3=>?_) fun h3=>?_
   ·rw [hf (by simp [bJ,h1,h2,h3])]
    refine qX ?_
    refine qK (hC) (qI 0 7) ?_
    exact qF (qI 0 7++qI 10 7++qO 1)
   have hh:bJ e x=true:=by simp [bJ,h1,h2,h3]
   refine qX ?_
   refine qB (fun k1=>?_) fun k1=>?_
   ·rw [hr1 hh k1]
    refine qX ?_
    refine qK (wI e x hs) (qI 0 7) ?_
    exact qF (qI 0 7++qI 10 8)
   refine qX ?_
   refine qB (fun k2=>?_) fun k2=>?_
   ·rw [hr2 hh k2]
    refine qX ?_
    refine qK (y4 e x hs) (qI 0 7) ?_
    exact qF (qI 0 7++qI 10 8)
   refine qX ?_
   refine qB (fun k4=>?_) fun k4=>?_
   ·rw [hr4 hh k4]
    refine qX ?_
    refine qK (y_ e x hs) (qI 0 7) ?_
    exact qF (qI 0 7++qI 10 8)
   refine qX ?_
   refine qB (fun k5=>?_) fun k5=>?_
   ·rw [hr5 hh k5]
    refine qX ?_
    refine qK (rV e x hs) (qI 0 7) ?_
    exact qF (qI 0 7++qI 10 8)
   refine qX ?_
   refine qB (fun k6=>?_) fun k6=>?_
   ·rw [hr6 hh k6]
    refine qX ?_
    refine qK (rX e x hs) (qI 0 7) ?_
    exact qF (qI 0 7++qI 10 8)
   refine qX ?_
   refine qB (fun k7=>?_) fun k7=>?_
   ·rw [hr7 hh k7]
    refine qX ?_
    refine qK (tH e x hs) (qI 0 7) ?_
    exact qF (qI 0 7++qI 10 8)
   refine qX ?_
   refine qB (fun k8=>?_) fun k8=>?_
   ·rw [hr8 hh k8]
    refine qX ?_
    refine qK (zb e x hs) (qI 0 7) ?_
    exact qF (qI 0 7++qI 10 8)
   refine qX ?_
   refine qB (fun k9=>?_) fun k9=>?_
   ·rw [hr9 hh k9]
    refine qX ?_
    refine qK (zd e x hs) (qI 0 7) ?_
    exact qF (qI 0 7++qI 10 8)
   refine qX ?_
   refine qB (fun k10=>?_) fun k10=>?_
   ·rw [hr10 hh k10]
    refine qX ?_
    refine qK (ze e x hs) (qI 0 7) ?_
    exact qF (qI 0 7++qI 10 8)
   refine qX ?_
   refine qB (fun k11=>?_) fun k11=>?_
   ·rw [hr11 hh k11]
    refine qX ?_
    refine qK (zj e x hs hsp) (qI 0 7) ?_
    exact qF (qI 0 7++qI 10 8)
   refine qX ?_
   refine qB (fun k12=>?_) fun k12=>?_
   ·rw [hr12 hh k12]
    refine qX ?_
    refine qK (yZ e x hs) (qI 0 7) ?_
    exact qF (qI 0 7++qI 10 8)
   refine qX ?_
   refine qB (fun k13=>?_) fun k13=>?_
   ·rw [hr13 hh k13]
    refine qX ?_
    refine qK (wK e x hs) (qI 0 7) ?_
    exact qF (qI 0 7++qI 10 8)
   refine qX ?_
   rw [hno (by intro k hk;omega)]
   refine qX ?_
   refine qK (hC) (qI 0 7) ?_
   exact qF (qI 0 7++qI 10 7++qO 1)
  rw [hf (by simp [bJ,h2])]
  refine qX ?_
  refine qK (hC) (qI 0 7) ?_
  exact qF (qI 0 7++qI 10 7++qO 1)
 rw [hf (by simp [bJ,h1])]
 refine qX ?_
 refine qK (hC) (qI 0 7) ?_
 exact qF (qI 0 7++qI 10 7++qO 1)
theorem At (e:EndD) (x:LetterD) (hs:Small e) (hsp:SmallP e.inp):aP 166 [.ag (e.cs 0),.ag x.cs] (e.hp false) (.tu [.ag ((aG e x).1.cs 7),.sc (.sl 14 0 (aG e x).2.length)])
  (e.hp false++((aG e x).1.hpS++[some ⟨(aG e x).2.map LetterD.cs,19,73,true,true⟩])):=by
 have hC:=(qH (aA e))
 have hK:=(qH (a_ e))
 have hL:=dU x
 have hO:=gv e x.to (by have:=hs.own;omega)
 have hf:=qm (e:=e) (x:=x)
 have hno:=xc (e:=e) (x:=x)
 have hr1:=tM (e:=e) (x:=x)
 have hr2:=tN (e:=e) (x:=x)
 have hr4:=qo (e:=e) (x:=x)
 have hr5:=qp (e:=e) (x:=x)
 have hr6:=qq (e:=e) (x:=x)
 have hr7:=qr (e:=e) (x:=x)
 have hr8:=qs (e:=e) (x:=x)
 have hr9:=tO (e:=e) (x:=x)
 have hr10:=oM (e:=e) (x:=x)
 have hr11:=mw (e:=e) (x:=x)
 have hr12:=my (e:=e) (x:=x)
 have hr13:=oN (e:=e) (x:=x)
 generalize aG e x=R at*
 refine qE func166 ntmps166 results166 fun E hE=>?_
 refine qK (hK) (qI 0 7) ?_
 refine qB (fun h1=>?_) fun h1=>?_
 ·refine qK (hL) [] ?_
  refine qB (fun h2=>?_) fun h2=>?_
  ·refine qK (hO) (qI 0 7) ?_
   refine qB (fun h3=>?_) fun h3=>?_
   ·rw [hf (by simp [bJ,h1,h2,h3])]
    refine qX ?_
    refine qK (hC) (qI 0 7) ?_
    exact qF (qI 0 7++qI 10 8)
   have hh:bJ e x=true:=by simp [bJ,h1,h2,h3]
   refine qX ?_
   refine qB (fun k1=>?_) fun k1=>?_
   ·rw [hr1 hh k1]
    refine qX ?_
    refine qK (nD e x hs) (qI 0 7) ?_
    exact qF (qI 0 7++qI 10 8)
   refine qX ?_
   refine qB (fun k2=>?_) fun k2=>?_
   ·rw [hr2 hh k2]
    refine qX ?_
    refine qK (pK e x hs) (qI 0 7) ?_
    exact qF (qI 0 7++qI 10 8)
   refine qX ?_
   refine qB (fun k4=>?_) fun k4=>?_
   ·rw [hr4 hh k4]
    refine qX ?_
    refine qK (za e x hs) (qI 0 7) ?_
    exact qF (qI 0 7++qI 10 8)
   refine qX ?_
   refine qB (fun k5=>?_) fun k5=>?_
   ·rw [hr5 hh k5]
    refine qX ?_
    refine qK (rW e x hs) (qI 0 7) ?_
    exact qF (qI 0 7++qI 10 8)
   refine qX ?_
   refine qB (fun k6=>?_) fun k6=>?_
   ·rw [hr6 hh k6]
    refine qX ?_
    refine qK (rY e x hs) (qI 0 7) ?_
    exact qF (qI 0 7++qI 10 8)
   refine qX ?_
   refine qB (fun k7=>?_) fun k7=>?_
   ·rw [hr7 hh k7]
    refine qX ?_
    refine qK (tI e x hs) (qI 0 7) ?_
    exact qF (qI 0 7++qI 10 8)
   refine qX ?_
   refine qB (fun k8=>?_) fun k8=>?_
   ·rw [hr8 hh k8]
    refine qX ?_
    refine qK (zc e x hs) (qI 0 7) ?_
    exact qF (qI 0 7++qI 10 8)
   refine qX ?_
   refine qB (fun k9=>?_) fun k9=>?_
   ·rw [hr9 hh k9]
    refine qX ?_
    refine qK (zf e x hs) (qI 0 7) ?_
    exact qF (qI 0 7++qI 10 8)
   refine qX ?_
   refine qB (fun k10=>?_) fun k10=>?_
   ·rw [hr10 hh k10]
    refine qX ?_
    refine qK (zg e x hs) (qI 0 7) ?_
    exact qF (qI 0 7++qI 10 8)
   refine qX ?_
   refine qB (fun k11=>?_) fun k11=>?_
   ·rw [hr11 hh k11]
    refine qX ?_
    refine qK (zk e x hs hsp) (qI 0 7) ?_
    exact qF (qI 0 7++qI 10 8)
   refine qX ?_
   refine qB (fun k12=>?_) fun k12=>?_
   ·rw [hr12 hh k12]
    refine qX ?_
    refine qK (y0 e x hs) (qI 0 7) ?_
    exact qF (qI 0 7++qI 10 8)
   refine qX ?_
   refine qB (fun k13=>?_) fun k13=>?_
   ·rw [hr13 hh k13]
    refine qX ?_
    refine qK (wL e x hs) (qI 0 7) ?_
    exact qF (qI 0 7++qI 10 8)
   refine qX ?_
   rw [hno (by intro k hk;omega)]
   refine qX ?_
   refine qK (hC) (qI 0 7) ?_
   exact qF (qI 0 7++qI 10 8)
  rw [hf (by simp [bJ,h2])]
  refine qX ?_
  refine qK (hC) (qI 0 7) ?_
  exact qF (qI 0 7++qI 10 8)
 rw [hf (by simp [bJ,h1])]
 refine qX ?_
 refine qK (hC) (qI 0 7) ?_
 exact qF (qI 0 7++qI 10 8)
theorem Ln {k:Nat} {g:PpS} {x:PieceD} (h:PpI k g) (hk:k<=20) (hx:x.text.length<=200/\0<=x.pos/\x.pos<=2000000000):PpI (k+1) (fQ g x):=by
 rw [fQ];split
 ·exact Aq h hx.1
 split
 ·cases hl:g.laid with
  |true=>simp only [if_true];exact xa h hl hx.1
  |false=>simp only [Bool.false_eq_true,if_false];exact xb h hk hl hx.1
 exact DQ h hx.1 hx.2.1 hx.2.2
theorem Lo:∀ {l:List PieceD} {k:Nat} {g:PpS},PpI k g->k+l.length<=20->(∀ x∈l,x.text.length<=200/\0<=x.pos/\x.pos<=2000000000)->PpI (k+l.length) (jH g l)
 |[],k,g,h,_,_=>h
 |x::r,k,g,h,hk,hx=>by
  simp only [RQ] at hk⊢
  have:=Lo (l:=r) (Ln h zO (hx x zP)) zO (fun y hy=>hx y (by simp [hy]))
  rw [show k+(r.length+1)=k+1+r.length by omega]
  exact this
theorem NE {k:Nat} {g:PpS} (h:PpI k g) (hk:k<=20):(∀ z∈jM g,z.text.length<=5000)/\(jM g).length<=100:=by
 have ho:=h.own
 have ha:=h.acc
 rw [jM];split
 ·refine⟨h.texts,?_⟩
  split at ha<;>omega
 refine⟨fun z hz=>?_,?_⟩
 ·rcases List.mem_append.1 hz with hz|hz
  ·exact h.texts z hz
  simp only [List.mem_singleton] at hz;subst hz;omega
 simp only [RP,List.length_singleton]
 split at ha<;>omega
theorem uT {p:PiecesD} {n:Int} {t:List UInt8} (hs:SmallP p) (hp:piecesOk p=true) (h0:0<=n) (h1:n<=2000000000) (ht:t.length<=200):SmallP (lM p n t):=by
 have F:=ax hp hs
 have hI:=Lo (l:=p.list) (nL h0 h1 ht) (by have:=F.list;omega) F.texts
 obtain⟨h2,h3⟩:=NE hI (by have:=F.list;omega)
 rw [lM]
 generalize jM (jH ⟨⟨n,t⟩,false,[]⟩ p.list)=l at h2 h3
 rw [mY];split
 ·have hr:=F.ready
  rw [mX]
  cases l with
  |nil=>split<;>exact⟨zP,by simp [List.headD];first|omega|exact hs.ready,zP⟩
  |cons y r=>
   have hy:=h2 y zP
   simp only [RQ] at h3
   split
   ·exact⟨by simp only [List.tail_cons];omega,by simp only [List.headD_cons,RP];omega,fun z hz=>by have:=h2 z (List.mem_cons_of_mem _ hz);omega⟩
   exact⟨by simp only [RQ];omega,by dsimp only;omega,fun z hz=>by have:=h2 z hz;omega⟩
 exact hs
theorem kp {p:PiecesD} {n:Int} {t:List UInt8} (hs:SmallP p):SmallP (putPiece p n t):=by
 rw [putPiece];split
 ·rename_i h
  simp only [sh,gp,cv,RR,decide_eq_true_eq] at h
  obtain⟨⟨hp,hn⟩,ht⟩:=h
  split
  ·exact hs
  split
  ·have F:=ax hp hs
   have hr:=F.ready
   have:=F.next
   have:=F.r0
   have:=F.r1
   exact uT hs hp zO zO (by rw [RS];omega)
  exact uT hs hp zO zO zO
 exact hs
structure GoodE (e:EndD):Prop where
 s:Small e
 p:SmallP e.inp
 o:e.out.text.length<=1048576
theorem Lp (o:OutD) (n:Int):(came o n).text.length<=o.text.length:=by
 rw [came];split
 ·simp only [RS];omega
 exact Nat.le_refl _
theorem Ji {e:EndD} {x:LetterD} (h:GoodE e):GoodE (aG e x).1:=by
 have io:(aG e x).1.inp=e.inp/\(aG e x).1.out=e.out\/SmallP (aG e x).1.inp/\(aG e x).1.out.text.length<=1048576:=by
  refine nQ (Q:=fun r=>r.1.inp=e.inp/\r.1.out=e.out\/SmallP r.1.inp/\r.1.out.text.length<=1048576) (.inl ⟨rfl,rfl⟩) ?_ ?_ ?_ ?_ ?_ ?_ ?_ ?_ ?_ ?_ ?_ ?_
  ·unfold aI;repeat' split
   all_goals exact .inl ⟨rfl,rfl⟩
  ·unfold br;repeat' split
   all_goals exact .inl ⟨rfl,rfl⟩
  ·unfold bK;repeat' split
   all_goals exact .inl ⟨rfl,rfl⟩
  ·unfold aF;repeat' split
   all_goals exact .inl ⟨rfl,rfl⟩
  ·unfold aq;repeat' split
   all_goals exact .inl ⟨rfl,rfl⟩
  ·unfold aM;dsimp only;split
   all_goals exact .inl ⟨rfl,rfl⟩
  ·unfold bW;repeat' split
   all_goals exact .inl ⟨rfl,rfl⟩
  ·unfold bY;dsimp only;split
   all_goals exact .inl ⟨rfl,rfl⟩
  ·unfold bZ;dsimp only;split
   all_goals exact .inl ⟨rfl,rfl⟩
  ·unfold b_;split
   ·exact .inr ⟨kp h.p,h.o⟩
   exact .inl ⟨rfl,rfl⟩
  ·unfold bR;dsimp only;split
   ·exact .inr ⟨h.p,Nat.le_trans (Lp _ _) h.o⟩
   exact .inl ⟨rfl,rfl⟩
  unfold bG;dsimp only;split
  all_goals exact .inl ⟨rfl,rfl⟩
 rcases io with⟨h1,h2⟩|⟨h1,h2⟩
 ·exact⟨i_ h.s,by rw [h1];exact h.p,by rw [h2];exact h.o⟩
 exact⟨i_ h.s,h1,h2⟩
theorem HT {w:WorldD} {x:LetterD} (h:sideAt x.to=0):cU w x=w:=by rw [cU,if_pos h]
theorem HU {w:WorldD} {x:LetterD} (h:sideAt x.to=1):cU w x=al 1 { w with a:=(aG w.a x).1 } (aG w.a x).2:=by rw [cU,h];rfl
theorem HV {w:WorldD} {x:LetterD} (h:sideAt x.to=2):cU w x=al 2 { w with b:=(aG w.b x).1 } (aG w.b x).2:=by rw [cU,h];rfl
structure SmallWP (w:WorldD):Prop where
 s:SmallW w
 pa:SmallP w.a.inp
 pb:SmallP w.b.inp
theorem F5 (w:WorldD) (x:LetterD) (hw:SmallWP w):aP 95 [.ag (w.cs 0),.ag x.cs] (w.hp false) (.ag ((cU w x).cs 21)) (w.hp false++(cU w x).hp true):=by
 have hC:=iH w hw.s
 have hS:=nB x.to
 obtain⟨R,hR⟩:∃ R,R=cU w x:=⟨_,rfl⟩
 rw [<-hR]
 rcases e6 x.to with h0|h0|h0
 ·rw [HT h0] at hR
  subst hR
  rw [h0] at hS
  refine jG func95 ntmps95 results95 fun E hE=>?_
  refine qK (hC) (qI 0 21) ?_
  refine qK (hS) [] ?_
  exact dH (qI 0 21++qI 24 21)
 ·rw [HU h0] at hR
  rw [h0] at hS
  have hEA:aP 83 [.ag (w.cs 0),.sc (.int .i64 1)] (w.hp false) (.ag (w.a.cs 21)) (w.hp false++w.a.hp true):=gK w 1 hw.s.a.own hw.s.a.far hw.s.a.subs hw.s.a.halfs hw.s.a.list hw.s.a.done hw.s.a.over hw.s.b.own hw.s.b.far hw.s.b.subs hw.s.b.halfs hw.s.b.list hw.s.b.done hw.s.b.over
  have hH:=Ar w.a x hw.s.a hw.pa
  have hsm:=i_ (e:=w.a) (x:=x) hw.s.a
  have hone:=jz (e:=w.a) (x:=x)
  obtain⟨pr,hpr⟩:∃ p,p=aG w.a x:=⟨_,rfl⟩
  rw [<-hpr] at hH hsm hone hR
  obtain⟨e1,l1⟩:=pr
  dsimp only at hH hsm hone hR
  have hends:=bx (side:=1) (l:=l1) (w:={ w with a:=e1 })
  rw [<-hR] at hends
  have hset:=oQ w e1
  have hpost:=mD { w with a:=e1 } l1 ⟨hw.s.bag,hw.s.past,hw.s.keys,hw.s.tags,hw.s.nums,hw.s.ansA,hw.s.ansB⟩ zO
  rw [<-hR] at hpost
  clear hR hpr
  obtain⟨ra,rb,bag,past,wA,wB,rA,rB,known,nums,nsA,nsB⟩:=R
  obtain⟨keys,tags⟩:=known
  dsimp only at hends
  obtain⟨g1,g2,g3,g4,g5,g6⟩:=hends
  replace g1:=g1.symm
  replace g2:=g2.symm
  replace g3:=g3.symm
  replace g4:=g4.symm
  replace g5:=g5.symm
  replace g6:=g6.symm
  subst g1 g2 g3 g4 g5 g6
  refine jG func95 ntmps95 results95 fun E hE=>?_
  refine qK (hC) (qI 0 21) ?_
  refine qK (hS) [] ?_
  refine bO [(2,8),(4,8)] [(2,4)] [(qU [0,2,3,1,2,1,4,7]),[0,1,3,2,8,4,5,6,7,9,10],[0,1,3,8,2,4,5,6,7,9,10]] 21 hE (fun s=>s.at (qU [16,8]) [(7,.sc (.pt 61 0 0)),(8,.sc (.sl 60 0 l1.length))] (s.hp++(w.a.hp true++(e1.hp true++[some ⟨l1.map LetterD.cs,19,73,true,true⟩,some ⟨[e1.cs 53],25,38,true,false⟩])))) (by kernel_rfl) (qC) (by kernel_rfl) ?_ (ae 400 ?_)
  rotate_left
  rotate_right
  simp only [bf]
  refine⟨aa 400 ?_,aa 400 ?_,aa 400 ?_⟩
  ·simp (disch:=omega) only [go_sem,seval]
   refine aE (hEA) (qI 0 21) ?_
   refine aE (hH) (qI 46 7) ?_
   exact qZ (qI 0 62)
  ·simp (disch:=omega) only [go_sem,seval]
   refine aE (hEA) (qI 0 21) ?_
   refine aE (hH) (qI 46 7) ?_
   exact qZ (qI 0 53++qI 54 8++qI 53 1)
  ·simp (disch:=omega) only [go_sem,seval]
   refine aE (hEA) (qI 0 21) ?_
   refine aE (hH) (qI 47 7) ?_
   exact qZ (qI 0 46++qI 47 15++qI 46 1)
  refine qX ?_
  refine qK (hset) (qI 24 21++qI 53 7++qI 45 1) ?_
  refine qK (hpost) (qI 53 7++qI 31 15++qI 60 1) ?_
  exact dH (qI 0 21++qI 53 7++qI 31 7++qI 62 7)
 rw [HV h0] at hR
 rw [h0] at hS
 have hEA:aP 83 [.ag (w.cs 0),.sc (.int .i64 2)] (w.hp false) (.ag (w.b.cs 21)) (w.hp false++w.b.hp true):=gK w 2 hw.s.a.own hw.s.a.far hw.s.a.subs hw.s.a.halfs hw.s.a.list hw.s.a.done hw.s.a.over hw.s.b.own hw.s.b.far hw.s.b.subs hw.s.b.halfs hw.s.b.list hw.s.b.done hw.s.b.over
 have hH:=Ar w.b x hw.s.b hw.pb
 have hsm:=i_ (e:=w.b) (x:=x) hw.s.b
 have hone:=jz (e:=w.b) (x:=x)
 obtain⟨pr,hpr⟩:∃ p,p=aG w.b x:=⟨_,rfl⟩
 rw [<-hpr] at hH hsm hone hR
 obtain⟨e1,l1⟩:=pr
 dsimp only at hH hsm hone hR
 have hends:=bx (side:=2) (l:=l1) (w:={ w with b:=e1 })
 rw [<-hR] at hends
 have hset:=tT w e1
 have hpost:=qx { w with b:=e1 } l1 ⟨hw.s.bag,hw.s.past,hw.s.keys,hw.s.tags,hw.s.nums,hw.s.ansA,hw.s.ansB⟩ zO
 rw [<-hR] at hpost
 clear hR hpr
 obtain⟨ra,rb,bag,past,wA,wB,rA,rB,known,nums,nsA,nsB⟩:=R
 obtain⟨keys,tags⟩:=known
 dsimp only at hends
 obtain⟨g1,g2,g3,g4,g5,g6⟩:=hends
 replace g1:=g1.symm
 replace g2:=g2.symm
 replace g3:=g3.symm
 replace g4:=g4.symm
 replace g5:=g5.symm
 replace g6:=g6.symm
 subst g1 g2 g3 g4 g5 g6
 refine jG func95 ntmps95 results95 fun E hE=>?_
 refine qK (hC) (qI 0 21) ?_
 refine qK (hS) [] ?_
 refine bO [(2,8),(4,8)] [(2,4)] [(qU [0,2,3,1,2,1,4,7]),[0,1,3,2,8,4,5,6,7,9,10],[0,1,3,8,2,4,5,6,7,9,10]] 21 hE (fun s=>s.at (qU [16,8]) [(7,.sc (.pt 61 0 0)),(8,.sc (.sl 60 0 l1.length))] (s.hp++(w.b.hp true++(e1.hp true++[some ⟨l1.map LetterD.cs,19,73,true,true⟩,some ⟨[e1.cs 53],25,38,true,false⟩])))) (by kernel_rfl) (qC) (by kernel_rfl) ?_ (ae 400 ?_)
 rotate_left
 rotate_right
 simp only [bf]
 refine⟨aa 400 ?_,aa 400 ?_,aa 400 ?_⟩
 ·simp (disch:=omega) only [go_sem,seval]
  refine aE (hEA) (qI 0 21) ?_
  refine aE (hH) (qI 46 7) ?_
  exact qZ (qI 0 62)
 ·simp (disch:=omega) only [go_sem,seval]
  refine aE (hEA) (qI 0 21) ?_
  refine aE (hH) (qI 46 7) ?_
  exact qZ (qI 0 53++qI 54 8++qI 53 1)
 ·simp (disch:=omega) only [go_sem,seval]
  refine aE (hEA) (qI 0 21) ?_
  refine aE (hH) (qI 47 7) ?_
  exact qZ (qI 0 46++qI 47 15++qI 46 1)
 refine qX ?_
 refine qK (hset) (qI 24 21++qI 53 7++qI 45 1) ?_
 refine qK (hpost) (qI 24 7++qI 53 7++qI 38 8++qI 60 1) ?_
 exact dH (qI 0 21++qI 24 7++qI 53 7++qI 62 7)
theorem F6 (w:WorldD) (x:LetterD) (hw:SmallWP w):aP 118 [.ag (w.cs 0),.ag x.cs] (w.hp false) (.ag ((cU w x).cs 21)) (w.hp false++(cU w x).hp true):=by
 have hC:=jU w hw.s
 have hS:=eI x.to
 obtain⟨R,hR⟩:∃ R,R=cU w x:=⟨_,rfl⟩
 rw [<-hR]
 rcases e6 x.to with h0|h0|h0
 ·rw [HT h0] at hR
  subst hR
  rw [h0] at hS
  refine jG func118 ntmps118 results118 fun E hE=>?_
  refine qK (hS) [] ?_
  refine qK (hC) (qI 0 21) ?_
  exact dH (qI 0 21++qI 24 21)
 ·rw [HU h0] at hR
  rw [h0] at hS
  have hEA:aP 103 [.ag (w.cs 0),.sc (.int .i64 1)] (w.hp false) (.ag (w.a.cs 21)) (w.hp false++w.a.hp true):=dh w 1 hw.s.a.own hw.s.a.far hw.s.a.subs hw.s.a.halfs hw.s.a.list hw.s.a.done hw.s.a.over hw.s.b.own hw.s.b.far hw.s.b.subs hw.s.b.halfs hw.s.b.list hw.s.b.done hw.s.b.over
  have hH:=At w.a x hw.s.a hw.pa
  have hsm:=i_ (e:=w.a) (x:=x) hw.s.a
  have hone:=jz (e:=w.a) (x:=x)
  obtain⟨pr,hpr⟩:∃ p,p=aG w.a x:=⟨_,rfl⟩
  rw [<-hpr] at hH hsm hone hR
  obtain⟨e1,l1⟩:=pr
  dsimp only at hH hsm hone hR
  have hends:=bx (side:=1) (l:=l1) (w:={ w with a:=e1 })
  rw [<-hR] at hends
  have hset:=f6 w e1
  have hpost:=f8 { w with a:=e1 } l1 ⟨hsm,hw.s.b,hw.s.bag,hw.s.past,hw.s.keys,hw.s.tags,hw.s.nums,hw.s.ansA,hw.s.ansB⟩ zO
  rw [<-hR] at hpost
  clear hR hpr
  obtain⟨ra,rb,bag,past,wA,wB,rA,rB,known,nums,nsA,nsB⟩:=R
  obtain⟨keys,tags⟩:=known
  dsimp only at hends
  obtain⟨g1,g2,g3,g4,g5,g6⟩:=hends
  replace g1:=g1.symm
  replace g2:=g2.symm
  replace g3:=g3.symm
  replace g4:=g4.symm
  replace g5:=g5.symm
  replace g6:=g6.symm
  subst g1 g2 g3 g4 g5 g6
  refine jG func118 ntmps118 results118 fun E hE=>?_
  refine qK (hS) [] ?_
  refine qK (hC) (qI 0 21) ?_
  refine bO [(2,8),(4,8)] [(2,4)] [(qU [0,2,3,1,2,1,4,7]),[0,1,3,2,8,4,5,6,7,9,10],[0,1,3,8,2,4,5,6,7,9,10]] 21 hE (fun s=>s.at (qU [16,8]) [(6,.sc (.pt 60 0 0)),(7,.sc (.sl 59 0 l1.length))] (s.hp++(w.a.hp true++(e1.hpS++[some ⟨l1.map LetterD.cs,19,73,true,true⟩,some ⟨[e1.cs 52],25,38,true,false⟩])))) (by kernel_rfl) (qC) (by kernel_rfl) ?_ (ae 400 ?_)
  rotate_left
  rotate_right
  simp only [bf]
  refine⟨aa 400 ?_,aa 400 ?_,aa 400 ?_⟩
  ·simp (disch:=omega) only [go_sem,seval]
   refine aE (hEA) (qI 24 21) ?_
   refine aE (hH) (qI 45 7) ?_
   exact qZ (qI 0 61)
  ·simp (disch:=omega) only [go_sem,seval]
   refine aE (hEA) (qI 24 21) ?_
   refine aE (hH) (qI 45 7) ?_
   exact qZ (qI 0 52++qI 53 8++qI 52 1)
  ·simp (disch:=omega) only [go_sem,seval]
   refine aE (hEA) (qI 24 21) ?_
   refine aE (hH) (qI 46 7) ?_
   exact qZ (qI 0 45++qI 46 15++qI 45 1)
  refine qX ?_
  refine qK (hset) (qI 24 21++qI 52 7) ?_
  refine qK (hpost) (qI 52 7++qI 31 14++qI 59 1) ?_
  exact dH (qI 0 21++qI 61 21)
 rw [HV h0] at hR
 rw [h0] at hS
 have hEA:aP 103 [.ag (w.cs 0),.sc (.int .i64 2)] (w.hp false) (.ag (w.b.cs 21)) (w.hp false++w.b.hp true):=dh w 2 hw.s.a.own hw.s.a.far hw.s.a.subs hw.s.a.halfs hw.s.a.list hw.s.a.done hw.s.a.over hw.s.b.own hw.s.b.far hw.s.b.subs hw.s.b.halfs hw.s.b.list hw.s.b.done hw.s.b.over
 have hH:=At w.b x hw.s.b hw.pb
 have hsm:=i_ (e:=w.b) (x:=x) hw.s.b
 have hone:=jz (e:=w.b) (x:=x)
 obtain⟨pr,hpr⟩:∃ p,p=aG w.b x:=⟨_,rfl⟩
 rw [<-hpr] at hH hsm hone hR
 obtain⟨e1,l1⟩:=pr
 dsimp only at hH hsm hone hR
 have hends:=bx (side:=2) (l:=l1) (w:={ w with b:=e1 })
 rw [<-hR] at hends
 have hset:=f7 w e1
 have hpost:=f9 { w with b:=e1 } l1 ⟨hw.s.a,hsm,hw.s.bag,hw.s.past,hw.s.keys,hw.s.tags,hw.s.nums,hw.s.ansA,hw.s.ansB⟩ zO
 rw [<-hR] at hpost
 clear hR hpr
 obtain⟨ra,rb,bag,past,wA,wB,rA,rB,known,nums,nsA,nsB⟩:=R
 obtain⟨keys,tags⟩:=known
 dsimp only at hends
 obtain⟨g1,g2,g3,g4,g5,g6⟩:=hends
 replace g1:=g1.symm
 replace g2:=g2.symm
 replace g3:=g3.symm
 replace g4:=g4.symm
 replace g5:=g5.symm
 replace g6:=g6.symm
 subst g1 g2 g3 g4 g5 g6
 refine jG func118 ntmps118 results118 fun E hE=>?_
 refine qK (hS) [] ?_
 refine qK (hC) (qI 0 21) ?_
 refine bO [(2,8),(4,8)] [(2,4)] [(qU [0,2,3,1,2,1,4,7]),[0,1,3,2,8,4,5,6,7,9,10],[0,1,3,8,2,4,5,6,7,9,10]] 21 hE (fun s=>s.at (qU [16,8]) [(6,.sc (.pt 60 0 0)),(7,.sc (.sl 59 0 l1.length))] (s.hp++(w.b.hp true++(e1.hpS++[some ⟨l1.map LetterD.cs,19,73,true,true⟩,some ⟨[e1.cs 52],25,38,true,false⟩])))) (by kernel_rfl) (qC) (by kernel_rfl) ?_ (ae 400 ?_)
 rotate_left
 rotate_right
 simp only [bf]
 refine⟨aa 400 ?_,aa 400 ?_,aa 400 ?_⟩
 ·simp (disch:=omega) only [go_sem,seval]
  refine aE (hEA) (qI 24 21) ?_
  refine aE (hH) (qI 45 7) ?_
  exact qZ (qI 0 61)
 ·simp (disch:=omega) only [go_sem,seval]
  refine aE (hEA) (qI 24 21) ?_
  refine aE (hH) (qI 45 7) ?_
  exact qZ (qI 0 52++qI 53 8++qI 52 1)
 ·simp (disch:=omega) only [go_sem,seval]
  refine aE (hEA) (qI 24 21) ?_
  refine aE (hH) (qI 46 7) ?_
  exact qZ (qI 0 45++qI 46 15++qI 45 1)
 refine qX ?_
 refine qK (hset) (qI 24 21++qI 52 7) ?_
 refine qK (hpost) (qI 24 7++qI 52 7++qI 38 7++qI 59 1) ?_
 exact dH (qI 0 21++qI 61 21)
theorem sH (e:EndD) (t:List UInt8):(bs e t).2.length<=3:=oU
theorem uZ {e:EndD} {t:List UInt8} (hs:Small e):Small (cO e t).1:=by
 rw [cO];split
 ·exact⟨hs.own,hs.far,hs.subs,hs.halfs,hs.list,hs.done,hs.over⟩
 exact hs
theorem nY {e:EndD} {t:List UInt8} (hs:Small e):Small (bs e t).1:=jB (uZ hs)
theorem jC {e:EndD} {m:Int} (hs:Small e):Small (az e m).1:=by
 rw [az];split
 ·refine⟨hs.own,hs.far,hs.subs,hs.halfs,?_,hs.done,hs.over⟩
  dsimp only
  rw [aZ];split<;>exact hs.list
 exact hs
theorem iJ {e:EndD} {a:AddrD} (hs:Small e):Small (aR e a).1:=by
 rw [aR];split
 ·exact⟨xi hs.own,hs.far,hs.subs,hs.halfs,hs.list,hs.done,hs.over⟩
 exact hs
theorem Cc {e:EndD} {k:Int} (hs:Small e):Small (mC e k).1:=by
 rw [mC];split
 ·exact⟨hs.own,hs.far,by simpa only [cq,List.length_set] using hs.subs,hs.halfs,hs.list,hs.done,hs.over⟩
 exact hs
theorem zr {e:EndD} {n:Int} (hs:Small e):Small (jV e n).1:=by
 rw [jV];split
 ·rename_i h
  simp only [O5,RR] at h
  have:=(Au h.1.1).1
  exact⟨uS hs.own,hs.far,by simpa only [jA,RU] using hs.subs,hs.halfs,hs.list,by have:=nI e.done n;dsimp only;omega,hs.over⟩
 exact hs
theorem u7 {far:List AddrD}:∀ {l:List RoadD} {e:EndD},Small e->Small (cF far e l).1
 |[],_,h=>h
 |r::l,e,h=>u7 (l:=l) (q7 h)
theorem AL {far:List AddrD}:∀ {l:List RoadD} {e:EndD},(cF far e l).2.length<=l.length
 |[],_=>Nat.le_refl _
 |r::l,e=>by
  have h1:=xA e r (aC far r.far)
  have h2:=AL (far:=far) (l:=l) (e:=(join e r (aC far r.far)).1)
  rw [show (cF far e (r::l)).2=(join e r (aC far r.far)).2++(cF far (join e r (aC far r.far)).1 l).2 from rfl,RP,RQ]
  omega
theorem jW {e:EndD} (hs:Small e):Small (manage e).1:=by
 rw [manage];split
 ·exact u7 hs
 exact hs
theorem q9 (e:EndD):(manage e).2.length<=64:=by
 rw [manage];split
 ·exact Nat.le_trans AL (mH _ _)
 simp
theorem kt {e:EndD} (hs:Small e):Small (tick e).1:=by
 have hy:=q8 e.halfs (e.now+1)
 have:=hs.halfs
 rw [tick];split
 ·split
  ·rw [bu];exact jB ⟨hs.own,hs.far,by dsimp only;rw [RU];exact hs.subs,by dsimp only [tick0];omega,hs.list,hs.done,hs.over⟩
  rw [bu];exact jB ⟨hs.own,hs.far,hs.subs,by dsimp only [tick0];omega,hs.list,hs.done,hs.over⟩
 exact hs
theorem u9 (e:EndD) (l:List LetterD):(bu e l).2.length<=l.length+e.own.length+3:=by
 have h1:=mJ e
 have h2:=oU (k:=3) (e:=e)
 rw [bu]
 simp only [RP]
 omega
theorem sI (e:EndD):(tick e).2.length<=64:=by
 rw [tick];split
 ·rename_i h
  simp only [yQ,RR] at h
  have h8:=dw h.1.1
  have h6:=Jq h.1.1
  have hfl:(e.subs.flatMap (tickL e)).length<=e.subs.length:=sF (oV e) _
  split
  ·refine Nat.le_trans (u9 _ _) ?_
   show (e.subs.flatMap (tickL e)).length+e.own.length+3<=64
   omega
  refine Nat.le_trans (u9 _ _) ?_
  show 0+e.own.length+3<=64
  omega
 simp
structure SmallD (w:WorldD):Prop where
 p:SmallWP w
 s:SmallS w
 oa:w.a.out.text.length<=1048576
 ob:w.b.out.text.length<=1048576
theorem q_ {e:EndD} {t:List UInt8} (h:e.out.text.length<=1048576):(cO e t).1.out.text.length<=1048576:=by
 rw [cO];split
 ·dsimp only
  rw [dp];split
  ·rename_i ho
   simp only [nS,RR] at ho
   have F:=cg ho.1
   have:=Aw (t:=t) F
   have:=F.room
   dsimp only
   rw [RP,RT]
   omega
  exact h
 exact h
theorem lP {e:EndD} {m:Int} (h:SmallP e.inp):(az e m).2.length<=1048576:=by
 have:=h.ready
 rw [az];split
 ·dsimp only
  rw [aZ];split
  ·dsimp only;rw [RT];omega
  simp
 simp
theorem Cd (w:WorldD) (pos many:Int) (text:List UInt8) (ad:AddrD) (le:LetterD) (hw:SmallD w) (htx:text.length<=1048576):
  aP 65 [.sc (.pt 21 0 0),.ag (ActD.cs ⟨2,1,pos,many,text,ad,le⟩)] (w.hp true++[some ⟨[w.cs 0],61,44,true,false⟩]) (.sc (.int .i64 0))
  ((nH 21++[some ⟨[WorldD.cs (al 1 { w with readA:=w.readA++(az w.a many).2,a:=((az w.a many).1,([]:List LetterD)).1 } ((az w.a many).1,([]:List LetterD)).2) 22],61,44,true,false⟩])++WorldD.hp (al 1 { w with readA:=w.readA++(az w.a many).2,a:=((az w.a many).1,([]:List LetterD)).1 } ((az w.a many).1,([]:List LetterD)).2) true):=by
 have q1:=hw.s.wa
 have q2:=hw.s.wb
 have q3:=hw.s.ra
 have q4:=hw.s.rb
 have hX:=Ax w.a many hw.p.s.a hw.p.pa
 have hsm:=jC (m:=many) hw.p.s.a
 have hEA:aP 83 [.ag (w.cs 0),.sc (.int .i64 1)] (w.hp false) (.ag (w.a.cs 21)) (w.hp false++w.a.hp true):=gK w 1 hw.p.s.a.own hw.p.s.a.far hw.p.s.a.subs hw.p.s.a.halfs hw.p.s.a.list hw.p.s.a.done hw.p.s.a.over hw.p.s.b.own hw.p.s.b.far hw.p.s.b.subs hw.p.s.b.halfs hw.p.s.b.list hw.p.s.b.done hw.p.s.b.over
 obtain⟨pr,hpr⟩:∃ p,p=az w.a many:=⟨_,rfl⟩
 have hrl:(az w.a many).2.length<=1048576:=lP hw.p.pa
 rw [<-hpr] at hX hsm hrl⊢
 obtain⟨e1,t1⟩:=pr
 dsimp only at hX hsm hrl⊢
 obtain⟨l1,hl1⟩:∃ l:List LetterD,l=[]:=⟨_,rfl⟩
 have hlen:l1.length<=1:=by rw [hl1];simp
 have hset:=oQ { w with readA:=w.readA++t1 } e1
 have hpost:=mD { w with readA:=w.readA++t1,a:=e1 } [] ⟨hw.p.s.bag,hw.p.s.past,hw.p.s.keys,hw.p.s.tags,hw.p.s.nums,hw.p.s.ansA,hw.p.s.ansB⟩ (by first|omega|simp)
 have hends:=bx (side:=1) (l:=[]) (w:={ w with readA:=w.readA++t1,a:=e1 })
 obtain⟨R,hR⟩:∃ R,R=al 1 { w with readA:=w.readA++t1,a:=e1 } []:=⟨_,rfl⟩
 rw [<-hR] at hpost hends⊢
 clear hR
 obtain⟨ra,rb,bag,past,wA,wB,rA,rB,known,nums,nsA,nsB⟩:=R
 obtain⟨keys,tags⟩:=known
 dsimp only at hends
 obtain⟨g1,g2,g3,g4,g5,g6⟩:=hends
 replace g1:=g1.symm
 replace g2:=g2.symm
 replace g3:=g3.symm
 replace g4:=g4.symm
 replace g5:=g5.symm
 replace g6:=g6.symm
 subst g1 g2 g3 g4 g5 g6
 refine dX func65 (by kernel_rfl) rfl fun E hE=>ae 400 ?_
 simp (disch:=omega) only [ntmps65,results65,go_sem,seval]
 refine bO [(5,6)] [] [(qU [0,8]),[0,1,2,3,4,6,5,7]] 22 hE (fun s=>s.at (qU [13,6]) [(5,.sc (.pt 30 0 0))] (s.hp++(w.a.hp true++[some ⟨[w.a.cs 23],25,38,true,false⟩]))) (by kernel_rfl) (qC) (by kernel_rfl) ?_ (ae 400 ?_)
 rotate_left
 rotate_right
 simp only [bf]
 refine⟨aa 400 ?_,aa 400 ?_⟩
 ·simp (disch:=omega) only [go_sem]
  refine bD (qC) (hEA) (qI 0 21) qM zF zF (aa 400 ?_)
  simp (disch:=omega) only [go_sem,seval]
  exact qZ (qI 0 31)
 ·simp (disch:=omega) only [go_sem]
  refine bD (qC) (hEA) (qI 0 21) qM zF zF (aa 400 ?_)
  simp (disch:=omega) only [go_sem,seval]
  exact qZ (qI 0 23++qI 24 7++qI 23 1)
 try simp (disch:=omega) only [go_sem,seval]
 refine aD (qC) (hX) (qI 23 7) qM zF (ae 400 ?_)
 simp (disch:=omega) only [go_sem,seval]
 refine aD (qC) (hset) (qI 0 21++qI 31 7++qI 21 1) qM zF (ae 400 ?_)
 simp (disch:=omega) only [go_sem,seval]
 refine aD (qC) (hpost) (qI 31 7++qI 7 15++qO 1) qM zF (ae 400 ?_)
 simp (disch:=omega) only [go_sem,seval]
 refine cY (qI 0 22++qI 31 7++qI 7 7++qI 39 7) (qC) _ (by simp only [go_sem];rfl) zF zF ?_
 simp (disch:=omega) only [go_sem,seval]
theorem Ce (w:WorldD) (pos many:Int) (text:List UInt8) (ad:AddrD) (le:LetterD) (hw:SmallD w) (htx:text.length<=1048576):
  aP 65 [.sc (.pt 21 0 0),.ag (ActD.cs ⟨4,1,pos,many,text,ad,le⟩)] (w.hp true++[some ⟨[w.cs 0],61,44,true,false⟩]) (.sc (.int .i64 0))
  ((nH 21++[some ⟨[WorldD.cs (al 1 { w with a:=(manage w.a).1 } (manage w.a).2) 22],61,44,true,false⟩])++WorldD.hp (al 1 { w with a:=(manage w.a).1 } (manage w.a).2) true):=by
 have q1:=hw.s.wa
 have q2:=hw.s.wb
 have q3:=hw.s.ra
 have q4:=hw.s.rb
 have hX:=D9 w.a hw.p.s.a
 have hsm:=jW hw.p.s.a
 have hlen:=q9 w.a
 have hEA:aP 83 [.ag (w.cs 0),.sc (.int .i64 1)] (w.hp false) (.ag (w.a.cs 21)) (w.hp false++w.a.hp true):=gK w 1 hw.p.s.a.own hw.p.s.a.far hw.p.s.a.subs hw.p.s.a.halfs hw.p.s.a.list hw.p.s.a.done hw.p.s.a.over hw.p.s.b.own hw.p.s.b.far hw.p.s.b.subs hw.p.s.b.halfs hw.p.s.b.list hw.p.s.b.done hw.p.s.b.over
 obtain⟨pr,hpr⟩:∃ p,p=manage w.a:=⟨_,rfl⟩
 rw [<-hpr] at hX hsm hlen⊢
 obtain⟨e1,l1⟩:=pr
 dsimp only at hX hsm hlen⊢
 have hset:=oQ w e1
 have hpost:=mD { w with a:=e1 } l1 ⟨hw.p.s.bag,hw.p.s.past,hw.p.s.keys,hw.p.s.tags,hw.p.s.nums,hw.p.s.ansA,hw.p.s.ansB⟩ (by first|omega|simp)
 have hends:=bx (side:=1) (l:=l1) (w:={ w with a:=e1 })
 obtain⟨R,hR⟩:∃ R,R=al 1 { w with a:=e1 } l1:=⟨_,rfl⟩
 rw [<-hR] at hpost hends⊢
 clear hR
 obtain⟨ra,rb,bag,past,wA,wB,rA,rB,known,nums,nsA,nsB⟩:=R
 obtain⟨keys,tags⟩:=known
 dsimp only at hends
 obtain⟨g1,g2,g3,g4,g5,g6⟩:=hends
 replace g1:=g1.symm
 replace g2:=g2.symm
 replace g3:=g3.symm
 replace g4:=g4.symm
 replace g5:=g5.symm
 replace g6:=g6.symm
 subst g1 g2 g3 g4 g5 g6
 refine dX func65 (by kernel_rfl) rfl fun E hE=>ae 400 ?_
 simp (disch:=omega) only [ntmps65,results65,go_sem,seval]
 refine bO [(5,6)] [] [(qU [0,8]),[0,1,2,3,4,6,5,7]] 22 hE (fun s=>s.at (qU [13,6]) [(5,.sc (.pt 30 0 0))] (s.hp++(w.a.hp true++[some ⟨[w.a.cs 23],25,38,true,false⟩]))) (by kernel_rfl) (qC) (by kernel_rfl) ?_ (ae 400 ?_)
 rotate_left
 rotate_right
 simp only [bf]
 refine⟨aa 400 ?_,aa 400 ?_⟩
 ·simp (disch:=omega) only [go_sem]
  refine bD (qC) (hEA) (qI 0 21) qM zF zF (aa 400 ?_)
  simp (disch:=omega) only [go_sem,seval]
  exact qZ (qI 0 31)
 ·simp (disch:=omega) only [go_sem]
  refine bD (qC) (hEA) (qI 0 21) qM zF zF (aa 400 ?_)
  simp (disch:=omega) only [go_sem,seval]
  exact qZ (qI 0 23++qI 24 7++qI 23 1)
 try simp (disch:=omega) only [go_sem,seval]
 refine aD (qC) (hX) (qI 23 7) qM zF (ae 400 ?_)
 simp (disch:=omega) only [go_sem,seval]
 refine aD (qC) (hset) (qI 0 21++qI 31 7++qI 21 1) qM zF (ae 400 ?_)
 simp (disch:=omega) only [go_sem,seval]
 refine aD (qC) (hpost) (qI 31 7++qI 7 15++qI 38 1) qM zF (ae 400 ?_)
 simp (disch:=omega) only [go_sem,seval]
 refine cY (qI 0 22++qI 31 7++qI 7 7++qI 39 7) (qC) _ (by simp only [go_sem];rfl) zF zF ?_
 simp (disch:=omega) only [go_sem,seval]
theorem Cf (w:WorldD) (pos many:Int) (text:List UInt8) (ad:AddrD) (le:LetterD) (hw:SmallD w) (htx:text.length<=1048576):
  aP 65 [.sc (.pt 21 0 0),.ag (ActD.cs ⟨2,2,pos,many,text,ad,le⟩)] (w.hp true++[some ⟨[w.cs 0],61,44,true,false⟩]) (.sc (.int .i64 0))
  ((nH 21++[some ⟨[WorldD.cs (al 2 { w with readB:=w.readB++(az w.b many).2,b:=((az w.b many).1,([]:List LetterD)).1 } ((az w.b many).1,([]:List LetterD)).2) 22],61,44,true,false⟩])++WorldD.hp (al 2 { w with readB:=w.readB++(az w.b many).2,b:=((az w.b many).1,([]:List LetterD)).1 } ((az w.b many).1,([]:List LetterD)).2) true):=by
 have q1:=hw.s.wa
 have q2:=hw.s.wb
 have q3:=hw.s.ra
 have q4:=hw.s.rb
 have hX:=Ax w.b many hw.p.s.b hw.p.pb
 have hsm:=jC (m:=many) hw.p.s.b
 have hEA:aP 83 [.ag (w.cs 0),.sc (.int .i64 2)] (w.hp false) (.ag (w.b.cs 21)) (w.hp false++w.b.hp true):=gK w 2 hw.p.s.a.own hw.p.s.a.far hw.p.s.a.subs hw.p.s.a.halfs hw.p.s.a.list hw.p.s.a.done hw.p.s.a.over hw.p.s.b.own hw.p.s.b.far hw.p.s.b.subs hw.p.s.b.halfs hw.p.s.b.list hw.p.s.b.done hw.p.s.b.over
 obtain⟨pr,hpr⟩:∃ p,p=az w.b many:=⟨_,rfl⟩
 have hrl:(az w.b many).2.length<=1048576:=lP hw.p.pb
 rw [<-hpr] at hX hsm hrl⊢
 obtain⟨e1,t1⟩:=pr
 dsimp only at hX hsm hrl⊢
 obtain⟨l1,hl1⟩:∃ l:List LetterD,l=[]:=⟨_,rfl⟩
 have hlen:l1.length<=1:=by rw [hl1];simp
 have hset:=tT { w with readB:=w.readB++t1 } e1
 have hpost:=qx { w with readB:=w.readB++t1,b:=e1 } [] ⟨hw.p.s.bag,hw.p.s.past,hw.p.s.keys,hw.p.s.tags,hw.p.s.nums,hw.p.s.ansA,hw.p.s.ansB⟩ (by first|omega|simp)
 have hends:=bx (side:=2) (l:=[]) (w:={ w with readB:=w.readB++t1,b:=e1 })
 obtain⟨R,hR⟩:∃ R,R=al 2 { w with readB:=w.readB++t1,b:=e1 } []:=⟨_,rfl⟩
 rw [<-hR] at hpost hends⊢
 clear hR
 obtain⟨ra,rb,bag,past,wA,wB,rA,rB,known,nums,nsA,nsB⟩:=R
 obtain⟨keys,tags⟩:=known
 dsimp only at hends
 obtain⟨g1,g2,g3,g4,g5,g6⟩:=hends
 replace g1:=g1.symm
 replace g2:=g2.symm
 replace g3:=g3.symm
 replace g4:=g4.symm
 replace g5:=g5.symm
 replace g6:=g6.symm
 subst g1 g2 g3 g4 g5 g6
 refine dX func65 (by kernel_rfl) rfl fun E hE=>ae 400 ?_
 simp (disch:=omega) only [ntmps65,results65,go_sem,seval]
 refine bO [(5,6)] [] [(qU [0,8]),[0,1,2,3,4,6,5,7]] 22 hE (fun s=>s.at (qU [13,6]) [(5,.sc (.pt 30 0 0))] (s.hp++(w.b.hp true++[some ⟨[w.b.cs 23],25,38,true,false⟩]))) (by kernel_rfl) (qC) (by kernel_rfl) ?_ (ae 400 ?_)
 rotate_left
 rotate_right
 simp only [bf]
 refine⟨aa 400 ?_,aa 400 ?_⟩
 ·simp (disch:=omega) only [go_sem]
  refine bD (qC) (hEA) (qI 0 21) qM zF zF (aa 400 ?_)
  simp (disch:=omega) only [go_sem,seval]
  exact qZ (qI 0 31)
 ·simp (disch:=omega) only [go_sem]
  refine bD (qC) (hEA) (qI 0 21) qM zF zF (aa 400 ?_)
  simp (disch:=omega) only [go_sem,seval]
  exact qZ (qI 0 23++qI 24 7++qI 23 1)
 try simp (disch:=omega) only [go_sem,seval]
 refine aD (qC) (hX) (qI 23 7) qM zF (ae 400 ?_)
 simp (disch:=omega) only [go_sem,seval]
 refine aD (qC) (hset) (qI 0 21++qI 31 7++qI 21 1) qM zF (ae 400 ?_)
 simp (disch:=omega) only [go_sem,seval]
 refine aD (qC) (hpost) (qI 0 7++qI 31 7++qI 14 8++qO 1) qM zF (ae 400 ?_)
 simp (disch:=omega) only [go_sem,seval]
 refine cY (qI 0 22++qI 0 7++qI 31 7++qI 39 7) (qC) _ (by simp only [go_sem];rfl) zF zF ?_
 simp (disch:=omega) only [go_sem,seval]
theorem Ej {l:List LetterD} {p:Nat} (h:p < l.length):pN l (Int.toNat (p:Int))=l[p]:=by simp [pN,h]
theorem tU (l:List LetterD) (p:Nat):gO l (p:Int)=l.take p++l.drop (p+1):=rfl
theorem kv {l:List LetterD} {p:Nat} (h:p < l.length):(gO l (p:Int)).length=l.length - 1:=by
 rw [tU,RP,RT,RS];omega
theorem Ov {w:WorldD} {s m:Int} {p:Nat} {t:List UInt8} {ad:AddrD} {le:LetterD} (h:¬ p < w.bag.length):cc w ⟨8,s,(p:Nat),m,t,ad,le⟩=(w,1):=by
 unfold cc;dsimp only;rw [if_pos (.inl rfl),if_pos zO]
theorem Ow {w:WorldD} {s m:Int} {p:Nat} {t:List UInt8} {ad:AddrD} {le:LetterD} (h:p < w.bag.length):cc w ⟨8,s,(p:Nat),m,t,ad,le⟩=(cU { w with bag:=gO w.bag (p:Nat) } w.bag[p],0):=by
 unfold cc;dsimp only;rw [if_pos (.inl rfl),if_neg zO,if_pos rfl,Ej h]
theorem QH {w:WorldD} {s m:Int} {p:Nat} {t:List UInt8} {ad:AddrD} {le:LetterD} (h:¬ p < w.bag.length):cc w ⟨9,s,(p:Nat),m,t,ad,le⟩=(w,1):=by
 unfold cc;dsimp only;rw [if_pos (.inr rfl),if_pos zO]
theorem QI {w:WorldD} {s m:Int} {p:Nat} {t:List UInt8} {ad:AddrD} {le:LetterD} (h:p < w.bag.length):cc w ⟨9,s,(p:Nat),m,t,ad,le⟩=({ w with bag:=gO w.bag (p:Nat) },0):=by
 unfold cc;dsimp only;rw [if_pos (.inr rfl),if_neg zO,if_neg zO]
theorem O_ {w:WorldD} {s m:Int} {p:Nat} {t:List UInt8} {ad:AddrD} {le:LetterD} (h:¬ p < w.bag.length\/40<=w.bag.length):cc w ⟨10,s,(p:Nat),m,t,ad,le⟩=(w,1):=by
 unfold cc;dsimp only;rw [if_neg zO,if_pos rfl,if_pos zO]
theorem Pa {w:WorldD} {s m:Int} {p:Nat} {t:List UInt8} {ad:AddrD} {le:LetterD} (h:p < w.bag.length) (h2:¬ 40<=w.bag.length):cc w ⟨10,s,(p:Nat),m,t,ad,le⟩=({ w with bag:=w.bag++[w.bag[p]] },0):=by
 unfold cc;dsimp only;rw [if_neg zO,if_pos rfl,if_neg zO,Ej h]
theorem Ek (w:WorldD) (side many:Int) (p:Nat) (text:List UInt8) (ad:AddrD) (le:LetterD) (hw:SmallD w):
  aP 66 [.sc (.pt 21 0 0),.ag (ActD.cs ⟨8,side,(p:Nat),many,text,ad,le⟩)] (w.hp true++[some ⟨[w.cs 0],61,44,true,false⟩]) (.sc (.int .i64 (cc w ⟨8,side,(p:Nat),many,text,ad,le⟩).2))
  ((nH 21++[some ⟨[WorldD.cs (cc w ⟨8,side,(p:Nat),many,text,ad,le⟩).1 22],61,44,true,false⟩])++WorldD.hp (cc w ⟨8,side,(p:Nat),many,text,ad,le⟩).1 true):=by
 have hbag:=hw.p.s.bag
 have hpast:=hw.p.s.past
 obtain⟨R,hR⟩:∃ R,R=cc w ⟨8,side,(p:Nat),many,text,ad,le⟩:=⟨_,rfl⟩
 rw [<-hR]
 by_cases hp:p < w.bag.length
 ·rw [Ow hp] at hR
  obtain⟨B,hBe⟩:∃ B,B=gO w.bag (p:Nat):=⟨_,rfl⟩
  have e2:p+(w.bag.length - (p+1))=B.length:=by rw [hBe,kv hp];omega
  have e1:(w.bag.take p).map LetterD.cs++((w.bag.map LetterD.cs).drop (p+1)).take (w.bag.length - (p+1))=B.map LetterD.cs:=by rw [hBe];exact (oJ hp).2
  have hB:B.length<=1048576:=zO
  have hlt:(w.bag.take p).length=p:=by simp;omega
  have hlt2:(List.take p (List.map LetterD.cs w.bag)).length=p:=by simp;omega
  have hC:=i7 (w.bag.take p) zO
  rw [hlt] at hC
  have hx:=aQ (enc:=LetterD.cs) hp
  rw [<-hBe] at hR
  clear hBe
  generalize hxx:w.bag[p]=x at*
  have hL:=F5 { w with bag:=B } x ⟨⟨hw.p.s.a,hw.p.s.b,hB,hw.p.s.past,hw.p.s.keys,hw.p.s.tags,hw.p.s.nums,hw.p.s.ansA,hw.p.s.ansB⟩,hw.p.pa,hw.p.pb⟩
  obtain⟨L,hLe⟩:∃ L,L=cU { w with bag:=B } x:=⟨_,rfl⟩
  rw [<-hLe] at hL hR
  clear hLe
  subst hR
  dsimp only
  refine dX func66 (by kernel_rfl) rfl fun E hE=>ae 400 ?_
  simp (disch:=omega) only [ntmps66,results66,go_sem,seval]
  refine cD (qU [0,9]) (by kernel_rfl) (qC) (by kernel_rfl) (aa 400 ?_)
  simp (disch:=omega) only [go_sem,seval]
  refine⟨qC,ae 400 ?_⟩
  try simp (disch:=omega) only [go_sem,seval]
  refine cD (qU [0,10]) (by kernel_rfl) (qC) (by kernel_rfl) (aa 400 ?_)
  simp (disch:=omega) only [go_sem,seval]
  refine⟨qC,ae 400 ?_⟩
  try simp (disch:=omega) only [go_sem,seval,hx,hxx]
  refine cD (qU [0,8,9,8,8,1,17,4]) (by kernel_rfl) (qC) (by kernel_rfl) (aa 400 ?_)
  simp (disch:=omega) only [go_sem,seval]
  refine bD (qC) (hC) [some (14,some 0)] qM zF zF (aa 400 ?_)
  simp (disch:=omega) only [go_sem,seval]
  refine⟨qC,ae 400 ?_⟩
  try simp (disch:=omega) only [go_sem,seval,e1,e2]
  refine cD (qU [0,8]) (by kernel_rfl) (qC) (by kernel_rfl) (aa 400 ?_)
  simp (disch:=omega) only [go_sem,seval]
  refine bD (qC) (hL) (qI 0 14++qI 25 1++qI 15 6) qM zF zF (aa 400 ?_)
  simp (disch:=omega) only [go_sem,seval]
  refine⟨qC,ae 400 ?_⟩
  try simp (disch:=omega) only [go_sem,seval]
  refine cY (qI 0 22++qI 26 21) (qC) _ (by simp only [go_sem];rfl) zF zF ?_
  simp (disch:=omega) only [go_sem,seval]
 rw [Ov hp] at hR
 subst hR
 dsimp only
 refine dX func66 (by kernel_rfl) rfl fun E hE=>ae 400 ?_
 simp (disch:=omega) only [ntmps66,results66,go_sem,seval]
 refine cD (qU [0,9]) (by kernel_rfl) (qC) (by kernel_rfl) (aa 400 ?_)
 simp (disch:=omega) only [go_sem,seval]
 refine⟨qC,ae 400 ?_⟩
 try simp (disch:=omega) only [go_sem,seval]
 refine cY (qI 0 22++qI 0 21) (qC) _ (by simp only [go_sem];rfl) zF zF ?_
 simp (disch:=omega) only [go_sem,seval]
theorem Ci (w:WorldD) (side many:Int) (p:Nat) (text:List UInt8) (ad:AddrD) (le:LetterD) (hw:SmallD w):
  aP 81 [.ag (w.cs 0),.ag (ActD.cs ⟨8,side,(p:Nat),many,text,ad,le⟩)] (w.hp true) (.tu [.ag (WorldD.cs (cc w ⟨8,side,(p:Nat),many,text,ad,le⟩).1 21),.sc (.int .i64 (cc w ⟨8,side,(p:Nat),many,text,ad,le⟩).2)])
  ((nH 21)++WorldD.hp (cc w ⟨8,side,(p:Nat),many,text,ad,le⟩).1 true):=by
 have hbag:=hw.p.s.bag
 obtain⟨R,hR⟩:∃ R,R=cc w ⟨8,side,(p:Nat),many,text,ad,le⟩:=⟨_,rfl⟩
 rw [<-hR]
 by_cases hp:p < w.bag.length
 ·rw [Ow hp] at hR
  have hO:=uY w.bag p hbag hp
  rw [<-kv hp,<-tU] at hO
  obtain⟨B,hBe⟩:∃ B,B=gO w.bag (p:Nat):=⟨_,rfl⟩
  have hB:B.length<=1048576:=by rw [hBe,kv hp];omega
  have hx:=aQ (enc:=LetterD.cs) hp
  rw [<-hBe] at hR hO
  clear hBe
  generalize hxx:w.bag[p]=x at*
  have hL:=F6 { w with bag:=B } x ⟨⟨hw.p.s.a,hw.p.s.b,hB,hw.p.s.past,hw.p.s.keys,hw.p.s.tags,hw.p.s.nums,hw.p.s.ansA,hw.p.s.ansB⟩,hw.p.pa,hw.p.pb⟩
  obtain⟨L,hLe⟩:∃ L,L=cU { w with bag:=B } x:=⟨_,rfl⟩
  rw [<-hLe] at hL hR
  clear hLe
  subst hR
  dsimp only
  refine jG func81 ntmps81 results81 fun E hE=>?_
  try simp (disch:=omega) only [go_sem,seval,hx,hxx]
  refine qK (hO) (qI 14 1) ?_
  refine qK (hL) (qI 0 14++qI 25 1++qI 15 6) ?_
  exact dH (qI 0 21++qI 26 21)
 rw [Ov hp] at hR
 subst hR
 dsimp only
 refine jG func81 ntmps81 results81 fun E hE=>?_
 exact dH (qI 0 21++qI 0 21)
theorem Cj (w:WorldD) (side many:Int) (p:Nat) (text:List UInt8) (ad:AddrD) (le:LetterD) (hw:SmallD w):
  aP 81 [.ag (w.cs 0),.ag (ActD.cs ⟨9,side,(p:Nat),many,text,ad,le⟩)] (w.hp true) (.tu [.ag (WorldD.cs (cc w ⟨9,side,(p:Nat),many,text,ad,le⟩).1 21),.sc (.int .i64 (cc w ⟨9,side,(p:Nat),many,text,ad,le⟩).2)])
  ((nH 21)++WorldD.hp (cc w ⟨9,side,(p:Nat),many,text,ad,le⟩).1 true):=by
 have hbag:=hw.p.s.bag
 obtain⟨R,hR⟩:∃ R,R=cc w ⟨9,side,(p:Nat),many,text,ad,le⟩:=⟨_,rfl⟩
 rw [<-hR]
 by_cases hp:p < w.bag.length
 ·rw [QI hp] at hR
  have hO:=uY w.bag p hbag hp
  rw [<-kv hp,<-tU] at hO
  obtain⟨B,hBe⟩:∃ B,B=gO w.bag (p:Nat):=⟨_,rfl⟩
  have hB:B.length<=1048576:=by rw [hBe,kv hp];omega
  have hx:=aQ (enc:=LetterD.cs) hp
  rw [<-hBe] at hR hO
  clear hBe
  generalize hxx:w.bag[p]=x at*
  subst hR
  dsimp only
  refine jG func81 ntmps81 results81 fun E hE=>?_
  try simp (disch:=omega) only [go_sem,seval,hx,hxx]
  refine qK (hO) (qI 14 1) ?_
  exact dH (qI 0 21++qI 0 14++qI 25 1++qI 15 6)
 rw [QH hp] at hR
 subst hR
 dsimp only
 refine jG func81 ntmps81 results81 fun E hE=>?_
 exact dH (qI 0 21++qI 0 21)
theorem zu (w:WorldD) (side many:Int) (p:Nat) (text:List UInt8) (ad:AddrD) (le:LetterD) (hw:SmallD w):
  aP 81 [.ag (w.cs 0),.ag (ActD.cs ⟨10,side,(p:Nat),many,text,ad,le⟩)] (w.hp true) (.tu [.ag (WorldD.cs (cc w ⟨10,side,(p:Nat),many,text,ad,le⟩).1 21),.sc (.int .i64 (cc w ⟨10,side,(p:Nat),many,text,ad,le⟩).2)])
  ((nH 21)++WorldD.hp (cc w ⟨10,side,(p:Nat),many,text,ad,le⟩).1 true):=by
 have hbag:=hw.p.s.bag
 obtain⟨R,hR⟩:∃ R,R=cc w ⟨10,side,(p:Nat),many,text,ad,le⟩:=⟨_,rfl⟩
 rw [<-hR]
 by_cases hp:p < w.bag.length/\¬ 40<=w.bag.length
 ·obtain⟨hp,h4⟩:=hp
  rw [Pa hp h4] at hR
  have hx:=aQ (enc:=LetterD.cs) hp
  generalize hxx:w.bag[p]=x at*
  subst hR
  dsimp only
  refine jG func81 ntmps81 results81 fun E hE=>?_
  try simp (disch:=omega) only [go_sem,seval,hx,hxx]
  refine cY (qI 0 21++qI 0 14++qI 26 1++qI 15 6) (qC) _ (by simp only [go_sem];rfl) zF zF ?_
  simp (disch:=omega) only [go_sem,seval]
  simp [LetterD.cs]
 rw [O_ zO] at hR
 subst hR
 dsimp only
 by_cases hq:p < w.bag.length
 ·have h4:40<=w.bag.length:=zO
  have hx:=aQ (enc:=LetterD.cs) hq
  generalize hxx:w.bag[p]=x at*
  refine jG func81 ntmps81 results81 fun E hE=>?_
  try simp (disch:=omega) only [go_sem,seval,hx,hxx]
  exact dH (qI 0 21++qI 0 21)
 refine jG func81 ntmps81 results81 fun E hE=>?_
 exact dH (qI 0 21++qI 0 21)
end
end Go.Proofs.YteknmpdmhiomgaaGreat
