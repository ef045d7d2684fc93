/- Lemmas of this claim. -/
import Derived.Test.YtdiiopjaebnmfaaGreatDoorZFnExactRunScriptM
import Derived.Test.YtdiiopjaebnmfaaGreatDoorZFnExactRunScriptN
import Derived.Test.YtdiiopjaebnmfaaGreatDoorZFnExactRunScriptO
set_option maxHeartbeats 16000000
set_option maxRecDepth 100000
set_option linter.unusedVariables false
set_option linter.unusedSimpArgs false
namespace Go.Proofs.YtdiiopjaebnmfaaGreatDoor
open _root_.Go.Proofs.YtdiiopjaebnmfaaGreatDoor renaming q4->qHW
open _root_.Go.Proofs.Tryz
open _root_.Bool renaming and_eq_true->zk,or_eq_true->Qh,not_eq_true'->Qk
open _root_.List renaming pairwise_iff_getElem->zG,length_append->P6,getElem_mem->P7,length_drop->P9,length_take->P_,getElem_of_mem->Qa,mem_singleton->Qb,length_set->Qc,length_map->Qd,mem_append->Qe,length_cons->Qf,length_singleton->Qg,mem_take_iff_getElem->Qi,all_eq_true->Ql,getElem_set->Qm,pairwise_append->Qn,takeWhile_cons->Qo,mem_cons->Qp,getD_eq_getElem?_getD->Qq,all_cons->Qr,drop_sublist->Qs,getElem?_eq_getElem->Qt,all_nil->Qu,pairwise_singleton->Qv,getElem_cons_zero->Qw,mem_cons_of_mem->Qx,mem_of_mem_take->Qy,mem_of_mem_drop->Qz,dropWhile_cons->QA,pairwise_cons->QC
open _root_.Int renaming toNat_natCast->P8
open _root_.Nat renaming le_trans->Qj,eq_zero_or_pos->QB,le_refl->QD
section
open Go.RowKit
theorem kD (e:EndD) (t:List UInt8):(aY e t).2.length<=3:=pc
theorem vz {e:EndD} {t:List UInt8} (hs:Small e):Small (write e t).1:=by
 rw [write];split
 ·exact⟨hs.own,hs.far,hs.subs,hs.halfs,hs.list,hs.done,hs.over⟩
 exact hs
theorem je {e:EndD} {t:List UInt8} (hs:Small e):Small (aY e t).1:=j_ (vz hs)
theorem kc {e:EndD} {m:Int} (hs:Small e):Small (bJ e m).1:=by
 rw [bJ];split
 ·refine⟨hs.own,hs.far,hs.subs,hs.halfs,?_,hs.done,hs.over⟩
  dsimp only
  rw [cr];split<;>exact hs.list
 exact hs
theorem eA {e:EndD} {a:AddrD} (hs:Small e):Small (aK e a).1:=by
 rw [aK];split
 ·exact⟨yi hs.own,hs.far,hs.subs,hs.halfs,hs.list,hs.done,hs.over⟩
 exact hs
theorem jf {e:EndD} {k:Int} (hs:Small e):Small (bI e k).1:=by
 rw [bI];split
 ·exact⟨hs.own,hs.far,by simpa only [cE,Qc] using hs.subs,hs.halfs,hs.list,hs.done,hs.over⟩
 exact hs
theorem ng (e:EndD) (k:Int):(bI e k).2.length<=1:=by rw [bI];split<;>simp
theorem im {e:EndD} {n:Int} (hs:Small e):Small (bf e n).1:=by
 rw [bf];split
 ·rename_i h
  simp only [Gg,zk] at h
  have:=(uo h.1.1).1
  exact⟨vt hs.own,hs.far,by simpa only [fI,Qd] using hs.subs,hs.halfs,hs.list,by have:=ow e.done n;dsimp only;omega,hs.over⟩
 exact hs
theorem lK (e:EndD) (n:Int) (hs:Small e):(bf e n).2.length<=1048576:=by
 rw [bf];split
 ·rw [Qd]
  have:=mL (fI e n)
  have h2:(fI e n).length=e.subs.length:=by rw [fI,Qd]
  have:=hs.subs
  omega
 simp
theorem vA {far:List AddrD}:∀ {l:List RoadD} {e:EndD},Small e->Small (il far e l).1
 |[],_,h=>h
 |r::l,e,h=>vA (l:=l) (ri h)
theorem Bz {far:List AddrD}:∀ {l:List RoadD} {e:EndD},(il far e l).2.length<=l.length
 |[],_=>QD _
 |r::l,e=>by
  have h1:=yA e r (bW far r.far)
  have h2:=Bz (far:=far) (l:=l) (e:=(gM e r (bW far r.far)).1)
  rw [show (il far e (r::l)).2=(gM e r (bW far r.far)).2++(il far (gM e r (bW far r.far)).1 l).2 from rfl,P6,Qf]
  omega
theorem jg {e:EndD} (hs:Small e):Small (manage e).1:=by
 rw [manage];split
 ·exact vA hs
 exact hs
theorem nh (e:EndD):(manage e).2.length<=64:=by
 rw [manage];split
 ·exact Qj Bz (m8 _ _)
 simp
theorem lh {e:EndD} (hs:Small e):Small (tick e).1:=by
 have hy:=rj e.halfs (e.now+1)
 have:=hs.halfs
 rw [tick];split
 ·split
  ·rw [dM];exact j_ ⟨hs.own,hs.far,by dsimp only;rw [Qd];exact hs.subs,by dsimp only [nD];omega,hs.list,hs.done,hs.over⟩
  rw [dM];exact j_ ⟨hs.own,hs.far,hs.subs,by dsimp only [nD];omega,hs.list,hs.done,hs.over⟩
 exact hs
theorem vB (e:EndD) (l:List LetterD):(dM e l).2.length<=l.length+e.own.length+3:=by
 have h1:=nf e
 have h2:=pc (k:=3) (e:=e)
 rw [dM]
 simp only [P6]
 omega
theorem tf (e:EndD):(tick e).2.length<=64:=by
 rw [tick];split
 ·rename_i h
  simp only [IV,zk] at h
  have h8:=dB h.1.1
  have h6:=By h.1.1
  have hfl:(e.subs.flatMap (f8 e)).length<=e.subs.length:=s9 (pm e) _
  split
  ·refine Qj (vB _ _) ?_
   show (e.subs.flatMap (f8 e)).length+e.own.length+3<=64
   omega
  refine Qj (vB _ _) ?_
  show 0+e.own.length+3<=64
  omega
 simp
structure SmallD (w:WorldD):Prop where
 p:SmallWP w
 s:SmallS w
 oa:w.a.out.text.length<=1048576
 ob:w.b.out.text.length<=1048576
theorem li {e:EndD} {t:List UInt8} (h:e.out.text.length<=1048576):(write e t).1.out.text.length<=1048576:=by
 rw [write];split
 ·dsimp only
  rw [gJ];split
  ·rename_i ho
   simp only [lG,zk] at ho
   have F:=dC ho.1
   have:=ur (t:=t) F
   have:=F.room
   dsimp only
   rw [P6,P_]
   omega
  exact h
 exact h
theorem mn {e:EndD} {m:Int} (h:SmallP e.inp):(bJ e m).2.length<=1048576:=by
 have:=h.ready
 rw [bJ];split
 ·dsimp only
  rw [cr];split
  ·dsimp only;rw [P_];omega
  simp
 simp
theorem CX (w:WorldD) (pos many:Int) (text:List UInt8) (ad:AddrD) (le:LetterD) (hw:SmallD w) (htx:text.length<=1048576):
  aP 57 [.sc (.pt 21 0 0),.ag (ActD.cs ⟨1,1,pos,many,text,ad,le⟩)] (w.hp true++[some ⟨[w.cs 0],61,60,true,false⟩]) (.sc (.int .i64 0))
  ((nH 21++[some ⟨[WorldD.cs (ay 1 { w with wroteA:=w.wroteA++text.take (write w.a text).2,a:=(aY w.a text).1 } (aY w.a text).2) 22],61,60,true,false⟩])++WorldD.hp (ay 1 { w with wroteA:=w.wroteA++text.take (write w.a text).2,a:=(aY w.a text).1 } (aY w.a text).2) true):=by
 have q1:=hw.s.wa
 have q2:=hw.s.wb
 have q3:=hw.s.ra
 have q4:=hw.s.rb
 have hX:=qb w.a text hw.p.s.a htx (li hw.oa)
 have hsm:=je (t:=text) hw.p.s.a
 have hlen:=kD w.a text
 have hEA:aP 90 [.ag (w.cs 0),.sc (.int .i64 1)] (w.hp false) (.ag (w.a.cs 21)) (w.hp false++w.a.hp true):=qHW hw.p.s (cf w 1)
 have hX2:=re w.a text hw.p.s.a htx
 have hwl:=sS w.a text
 obtain⟨wr,hwr⟩:∃ p,p=write w.a text:=⟨_,rfl⟩
 rw [<-hwr] at hX2 hwl⊢
 obtain⟨e0,n0⟩:=wr
 dsimp only at hX2 hwl⊢
 obtain⟨pr,hpr⟩:∃ p,p=aY w.a text:=⟨_,rfl⟩
 rw [<-hpr] at hX hsm hlen⊢
 obtain⟨e1,l1⟩:=pr
 dsimp only at hX hsm hlen⊢
 have hset:=iN { w with wroteA:=w.wroteA++text.take n0 } e1
 have hpost:=gN { w with wroteA:=w.wroteA++text.take n0,a:=e1 } l1 ⟨hw.p.s.bag,hw.p.s.past,hw.p.s.keys,hw.p.s.tags,hw.p.s.nums,hw.p.s.ansA,hw.p.s.ansB⟩ (by first|omega|simp)
 have hends:=aQ (side:=1) (l:=l1) (w:={ w with wroteA:=w.wroteA++text.take n0,a:=e1 })
 obtain⟨R,hR⟩:∃ R,R=ay 1 { w with wroteA:=w.wroteA++text.take n0,a:=e1 } l1:=⟨_,rfl⟩
 rw [<-hR] at hpost hends⊢
 clear hR
 obtain⟨ra,rb,bag,past,wA,wB,rA,rB,known,nums,nsA,nsB⟩:=R
 obtain⟨keys,tags⟩:=known
 dsimp only at hends
 obtain⟨g1,g2,g3,g4,g5,g6⟩:=hends
 replace g1:=g1.symm
 replace g2:=g2.symm
 replace g3:=g3.symm
 replace g4:=g4.symm
 replace g5:=g5.symm
 replace g6:=g6.symm
 subst g1 g2 g3 g4 g5 g6
 have htk:(text.take n0).length=n0:=by rw [P_];omega
 refine aV func57 zXk rfl fun E hE=>ab 400 ?_
 simp (disch:=omega) only [ntmps57,results57,go_sem,seval]
 refine aR [(5,6)] [] [(qU [0,8]),[0,1,2,3,4,6,5,7]] 22 hE (fun s=>s.at (qU [13,6]) [(5,.sc (.pt 30 0 0))] (s.hp++(w.a.hp true++[some ⟨[w.a.cs 23],25,54,true,false⟩]))) zXk (qC) zXk ?_ (ab 400 ?_)
 rotate_left
 rotate_right
 simp only [aM]
 refine⟨aa 400 ?_,aa 400 ?_⟩
 ·simp (disch:=omega) only [go_sem]
  refine ak (qC) (hEA) (qI 0 21) qM zF zF (aa 400 ?_)
  simp (disch:=omega) only [go_sem,seval]
  exact qZ (qI 0 31)
 ·simp (disch:=omega) only [go_sem]
  refine ak (qC) (hEA) (qI 0 21) qM zF zF (aa 400 ?_)
  simp (disch:=omega) only [go_sem,seval]
  exact qZ (qI 0 23++qI 24 7++qI 23 1)
 try simp (disch:=omega) only [go_sem,seval]
 refine ai (qC) (hX2) (qI 23 7) qM zF (ab 400 ?_)
 simp (disch:=omega) only [go_sem,seval]
 refine ai (qC) (hX) (qI 23 7) qM zF (ab 400 ?_)
 simp (disch:=omega) only [go_sem,seval]
 refine ao (qU [0,12]) zXk (qC) zXk (aa 400 ?_)
 simp (disch:=omega) only [go_sem,seval]
 refine⟨qC,ab 400 ?_⟩
 try simp (disch:=omega) only [go_sem,seval]
 refine ai (qC) (hset) (qI 0 21++qI 39 7++qI 21 1) qM zF (ab 400 ?_)
 simp (disch:=omega) only [go_sem,seval]
 refine ai (qC) (hpost) (qI 39 7++qI 7 15++qI 46 1) qM zF (ab 400 ?_)
 simp (disch:=omega) only [go_sem,seval]
 refine aO (qI 0 22++qI 39 7++qI 7 7++qI 47 7) (qC) _ zXg zF zF ?_
 simp (disch:=omega) only [go_sem,seval]
theorem CY (w:WorldD) (pos many:Int) (text:List UInt8) (ad:AddrD) (le:LetterD) (hw:SmallD w) (htx:text.length<=1048576):
  aP 57 [.sc (.pt 21 0 0),.ag (ActD.cs ⟨2,1,pos,many,text,ad,le⟩)] (w.hp true++[some ⟨[w.cs 0],61,60,true,false⟩]) (.sc (.int .i64 0))
  ((nH 21++[some ⟨[WorldD.cs (ay 1 { w with readA:=w.readA++(bJ w.a many).2,a:=((bJ w.a many).1,([]:List LetterD)).1 } ((bJ w.a many).1,([]:List LetterD)).2) 22],61,60,true,false⟩])++WorldD.hp (ay 1 { w with readA:=w.readA++(bJ w.a many).2,a:=((bJ w.a many).1,([]:List LetterD)).1 } ((bJ w.a many).1,([]:List LetterD)).2) true):=by
 have q1:=hw.s.wa
 have q2:=hw.s.wb
 have q3:=hw.s.ra
 have q4:=hw.s.rb
 have hX:=Bq w.a many hw.p.s.a hw.p.pa
 have hsm:=kc (m:=many) hw.p.s.a
 have hEA:aP 90 [.ag (w.cs 0),.sc (.int .i64 1)] (w.hp false) (.ag (w.a.cs 21)) (w.hp false++w.a.hp true):=qHW hw.p.s (cf w 1)
 obtain⟨pr,hpr⟩:∃ p,p=bJ w.a many:=⟨_,rfl⟩
 have hrl:(bJ w.a many).2.length<=1048576:=mn hw.p.pa
 rw [<-hpr] at hX hsm hrl⊢
 obtain⟨e1,t1⟩:=pr
 dsimp only at hX hsm hrl⊢
 obtain⟨l1,hl1⟩:∃ l:List LetterD,l=[]:=⟨_,rfl⟩
 have hlen:l1.length<=1:=by rw [hl1];simp
 have hset:=iN { w with readA:=w.readA++t1 } e1
 have hpost:=gN { w with readA:=w.readA++t1,a:=e1 } [] ⟨hw.p.s.bag,hw.p.s.past,hw.p.s.keys,hw.p.s.tags,hw.p.s.nums,hw.p.s.ansA,hw.p.s.ansB⟩ (by first|omega|simp)
 have hends:=aQ (side:=1) (l:=[]) (w:={ w with readA:=w.readA++t1,a:=e1 })
 obtain⟨R,hR⟩:∃ R,R=ay 1 { w with readA:=w.readA++t1,a:=e1 } []:=⟨_,rfl⟩
 rw [<-hR] at hpost hends⊢
 clear hR
 obtain⟨ra,rb,bag,past,wA,wB,rA,rB,known,nums,nsA,nsB⟩:=R
 obtain⟨keys,tags⟩:=known
 dsimp only at hends
 obtain⟨g1,g2,g3,g4,g5,g6⟩:=hends
 replace g1:=g1.symm
 replace g2:=g2.symm
 replace g3:=g3.symm
 replace g4:=g4.symm
 replace g5:=g5.symm
 replace g6:=g6.symm
 subst g1 g2 g3 g4 g5 g6
 refine aV func57 zXk rfl fun E hE=>ab 400 ?_
 simp (disch:=omega) only [ntmps57,results57,go_sem,seval]
 refine aR [(5,6)] [] [(qU [0,8]),[0,1,2,3,4,6,5,7]] 22 hE (fun s=>s.at (qU [13,6]) [(5,.sc (.pt 30 0 0))] (s.hp++(w.a.hp true++[some ⟨[w.a.cs 23],25,54,true,false⟩]))) zXk (qC) zXk ?_ (ab 400 ?_)
 rotate_left
 rotate_right
 simp only [aM]
 refine⟨aa 400 ?_,aa 400 ?_⟩
 ·simp (disch:=omega) only [go_sem]
  refine ak (qC) (hEA) (qI 0 21) qM zF zF (aa 400 ?_)
  simp (disch:=omega) only [go_sem,seval]
  exact qZ (qI 0 31)
 ·simp (disch:=omega) only [go_sem]
  refine ak (qC) (hEA) (qI 0 21) qM zF zF (aa 400 ?_)
  simp (disch:=omega) only [go_sem,seval]
  exact qZ (qI 0 23++qI 24 7++qI 23 1)
 try simp (disch:=omega) only [go_sem,seval]
 refine ai (qC) (hX) (qI 23 7) qM zF (ab 400 ?_)
 simp (disch:=omega) only [go_sem,seval]
 refine ai (qC) (hset) (qI 0 21++qI 31 7++qI 21 1) qM zF (ab 400 ?_)
 simp (disch:=omega) only [go_sem,seval]
 refine ai (qC) (hpost) (qI 31 7++qI 7 15++qO 1) qM zF (ab 400 ?_)
 simp (disch:=omega) only [go_sem,seval]
 refine aO (qI 0 22++qI 31 7++qI 7 7++qI 39 7) (qC) _ zXg zF zF ?_
 simp (disch:=omega) only [go_sem,seval]
theorem CZ (w:WorldD) (pos many:Int) (text:List UInt8) (ad:AddrD) (le:LetterD) (hw:SmallD w) (htx:text.length<=1048576):
  aP 57 [.sc (.pt 21 0 0),.ag (ActD.cs ⟨4,1,pos,many,text,ad,le⟩)] (w.hp true++[some ⟨[w.cs 0],61,60,true,false⟩]) (.sc (.int .i64 0))
  ((nH 21++[some ⟨[WorldD.cs (ay 1 { w with a:=(manage w.a).1 } (manage w.a).2) 22],61,60,true,false⟩])++WorldD.hp (ay 1 { w with a:=(manage w.a).1 } (manage w.a).2) true):=by
 have q1:=hw.s.wa
 have q2:=hw.s.wb
 have q3:=hw.s.ra
 have q4:=hw.s.rb
 have hX:=vv w.a hw.p.s.a
 have hsm:=jg hw.p.s.a
 have hlen:=nh w.a
 have hEA:aP 90 [.ag (w.cs 0),.sc (.int .i64 1)] (w.hp false) (.ag (w.a.cs 21)) (w.hp false++w.a.hp true):=qHW hw.p.s (cf w 1)
 obtain⟨pr,hpr⟩:∃ p,p=manage w.a:=⟨_,rfl⟩
 rw [<-hpr] at hX hsm hlen⊢
 obtain⟨e1,l1⟩:=pr
 dsimp only at hX hsm hlen⊢
 have hset:=iN w e1
 have hpost:=gN { w with a:=e1 } l1 ⟨hw.p.s.bag,hw.p.s.past,hw.p.s.keys,hw.p.s.tags,hw.p.s.nums,hw.p.s.ansA,hw.p.s.ansB⟩ (by first|omega|simp)
 have hends:=aQ (side:=1) (l:=l1) (w:={ w with a:=e1 })
 obtain⟨R,hR⟩:∃ R,R=ay 1 { w with a:=e1 } l1:=⟨_,rfl⟩
 rw [<-hR] at hpost hends⊢
 clear hR
 obtain⟨ra,rb,bag,past,wA,wB,rA,rB,known,nums,nsA,nsB⟩:=R
 obtain⟨keys,tags⟩:=known
 dsimp only at hends
 obtain⟨g1,g2,g3,g4,g5,g6⟩:=hends
 replace g1:=g1.symm
 replace g2:=g2.symm
 replace g3:=g3.symm
 replace g4:=g4.symm
 replace g5:=g5.symm
 replace g6:=g6.symm
 subst g1 g2 g3 g4 g5 g6
 refine aV func57 zXk rfl fun E hE=>ab 400 ?_
 simp (disch:=omega) only [ntmps57,results57,go_sem,seval]
 refine aR [(5,6)] [] [(qU [0,8]),[0,1,2,3,4,6,5,7]] 22 hE (fun s=>s.at (qU [13,6]) [(5,.sc (.pt 30 0 0))] (s.hp++(w.a.hp true++[some ⟨[w.a.cs 23],25,54,true,false⟩]))) zXk (qC) zXk ?_ (ab 400 ?_)
 rotate_left
 rotate_right
 simp only [aM]
 refine⟨aa 400 ?_,aa 400 ?_⟩
 ·simp (disch:=omega) only [go_sem]
  refine ak (qC) (hEA) (qI 0 21) qM zF zF (aa 400 ?_)
  simp (disch:=omega) only [go_sem,seval]
  exact qZ (qI 0 31)
 ·simp (disch:=omega) only [go_sem]
  refine ak (qC) (hEA) (qI 0 21) qM zF zF (aa 400 ?_)
  simp (disch:=omega) only [go_sem,seval]
  exact qZ (qI 0 23++qI 24 7++qI 23 1)
 try simp (disch:=omega) only [go_sem,seval]
 refine ai (qC) (hX) (qI 23 7) qM zF (ab 400 ?_)
 simp (disch:=omega) only [go_sem,seval]
 refine ai (qC) (hset) (qI 0 21++qI 31 7++qI 21 1) qM zF (ab 400 ?_)
 simp (disch:=omega) only [go_sem,seval]
 refine ai (qC) (hpost) (qI 31 7++qI 7 15++qI 38 1) qM zF (ab 400 ?_)
 simp (disch:=omega) only [go_sem,seval]
 refine aO (qI 0 22++qI 31 7++qI 7 7++qI 39 7) (qC) _ zXg zF zF ?_
 simp (disch:=omega) only [go_sem,seval]
theorem C0 (w:WorldD) (pos many:Int) (text:List UInt8) (ad:AddrD) (le:LetterD) (hw:SmallD w) (htx:text.length<=1048576) (hsd:bj ad.addr=1) (hgood:(aK w.a ad).2=true):
  aP 57 [.sc (.pt 21 0 0),.ag (ActD.cs ⟨5,1,pos,many,text,ad,le⟩)] (w.hp true++[some ⟨[w.cs 0],61,60,true,false⟩]) (.sc (.int .i64 0))
  ((nH 21++[some ⟨[WorldD.cs (ay 1 { w with a:=((aK w.a ad).1,([]:List LetterD)).1 } ((aK w.a ad).1,([]:List LetterD)).2) 22],61,60,true,false⟩])++WorldD.hp (ay 1 { w with a:=((aK w.a ad).1,([]:List LetterD)).1 } ((aK w.a ad).1,([]:List LetterD)).2) true):=by
 have q1:=hw.s.wa
 have q2:=hw.s.wb
 have q3:=hw.s.ra
 have q4:=hw.s.rb
 have hX:=lI w.a ad hw.p.s.a
 have hsm:=eA (a:=ad) hw.p.s.a
 have hEA:aP 90 [.ag (w.cs 0),.sc (.int .i64 1)] (w.hp false) (.ag (w.a.cs 21)) (w.hp false++w.a.hp true):=qHW hw.p.s (cf w 1)
 obtain⟨pr,hpr⟩:∃ p,p=aK w.a ad:=⟨_,rfl⟩
 rw [<-hpr] at hX hsm hgood⊢
 obtain⟨e1,ok1⟩:=pr
 dsimp only at hX hsm hgood⊢
 subst hgood
 obtain⟨l1,hl1⟩:∃ l:List LetterD,l=[]:=⟨_,rfl⟩
 have hlen:l1.length<=1:=by rw [hl1];simp
 have hset:=iN w e1
 have hpost:=gN { w with a:=e1 } [] ⟨hw.p.s.bag,hw.p.s.past,hw.p.s.keys,hw.p.s.tags,hw.p.s.nums,hw.p.s.ansA,hw.p.s.ansB⟩ (by first|omega|simp)
 have hends:=aQ (side:=1) (l:=[]) (w:={ w with a:=e1 })
 obtain⟨R,hR⟩:∃ R,R=ay 1 { w with a:=e1 } []:=⟨_,rfl⟩
 rw [<-hR] at hpost hends⊢
 clear hR
 obtain⟨ra,rb,bag,past,wA,wB,rA,rB,known,nums,nsA,nsB⟩:=R
 obtain⟨keys,tags⟩:=known
 dsimp only at hends
 obtain⟨g1,g2,g3,g4,g5,g6⟩:=hends
 replace g1:=g1.symm
 replace g2:=g2.symm
 replace g3:=g3.symm
 replace g4:=g4.symm
 replace g5:=g5.symm
 replace g6:=g6.symm
 subst g1 g2 g3 g4 g5 g6
 have hSd:=fe ad.addr
 rw [hsd] at hSd
 refine aV func57 zXk rfl fun E hE=>ab 400 ?_
 simp (disch:=omega) only [ntmps57,results57,go_sem,seval]
 refine aR [(5,6)] [] [(qU [0,8]),[0,1,2,3,4,6,5,7]] 22 hE (fun s=>s.at (qU [13,6]) [(5,.sc (.pt 30 0 0))] (s.hp++(w.a.hp true++[some ⟨[w.a.cs 23],25,54,true,false⟩]))) zXk (qC) zXk ?_ (ab 400 ?_)
 rotate_left
 rotate_right
 simp only [aM]
 refine⟨aa 400 ?_,aa 400 ?_⟩
 ·simp (disch:=omega) only [go_sem]
  refine ak (qC) (hEA) (qI 0 21) qM zF zF (aa 400 ?_)
  simp (disch:=omega) only [go_sem,seval]
  exact qZ (qI 0 31)
 ·simp (disch:=omega) only [go_sem]
  refine ak (qC) (hEA) (qI 0 21) qM zF zF (aa 400 ?_)
  simp (disch:=omega) only [go_sem,seval]
  exact qZ (qI 0 23++qI 24 7++qI 23 1)
 try simp (disch:=omega) only [go_sem,seval]
 refine ai (qC) (hX) (qI 23 7) qM zF (ab 400 ?_)
 simp (disch:=omega) only [go_sem,seval]
 refine ao (qU [0,3,4,2,3,1,6,5]) zXk (qC) zXk (aa 400 ?_)
 simp (disch:=omega) only [go_sem,seval]
 refine ak (qC) (hSd) [] qM zF zF (aa 400 ?_)
 simp (disch:=omega) only [go_sem,seval]
 refine⟨qC,ab 400 ?_⟩
 try simp (disch:=omega) only [go_sem,seval]
 refine ai (qC) (hset) (qI 0 21++qI 31 7++qI 21 1) qM zF (ab 400 ?_)
 simp (disch:=omega) only [go_sem,seval]
 refine ai (qC) (hpost) (qI 31 7++qI 7 15++qO 1) qM zF (ab 400 ?_)
 simp (disch:=omega) only [go_sem,seval]
 refine aO (qI 0 22++qI 31 7++qI 7 7++qI 39 7) (qC) _ zXg zF zF ?_
 simp (disch:=omega) only [go_sem,seval]
theorem C2 (w:WorldD) (pos many:Int) (text:List UInt8) (ad:AddrD) (le:LetterD) (hw:SmallD w) (htx:text.length<=1048576):
  aP 57 [.sc (.pt 21 0 0),.ag (ActD.cs ⟨6,1,pos,many,text,ad,le⟩)] (w.hp true++[some ⟨[w.cs 0],61,60,true,false⟩]) (.sc (.int .i64 0))
  ((nH 21++[some ⟨[WorldD.cs (ay 1 { w with a:=(bf w.a pos).1 } (bf w.a pos).2) 22],61,60,true,false⟩])++WorldD.hp (ay 1 { w with a:=(bf w.a pos).1 } (bf w.a pos).2) true):=by
 have q1:=hw.s.wa
 have q2:=hw.s.wb
 have q3:=hw.s.ra
 have q4:=hw.s.rb
 have hX:=sZ w.a pos hw.p.s.a
 have hsm:=im (n:=pos) hw.p.s.a
 have hlen:=lK w.a pos hw.p.s.a
 have hEA:aP 90 [.ag (w.cs 0),.sc (.int .i64 1)] (w.hp false) (.ag (w.a.cs 21)) (w.hp false++w.a.hp true):=qHW hw.p.s (cf w 1)
 obtain⟨pr,hpr⟩:∃ p,p=bf w.a pos:=⟨_,rfl⟩
 rw [<-hpr] at hX hsm hlen⊢
 obtain⟨e1,l1⟩:=pr
 dsimp only at hX hsm hlen⊢
 have hset:=iN w e1
 have hpost:=gN { w with a:=e1 } l1 ⟨hw.p.s.bag,hw.p.s.past,hw.p.s.keys,hw.p.s.tags,hw.p.s.nums,hw.p.s.ansA,hw.p.s.ansB⟩ (by first|omega|simp)
 have hends:=aQ (side:=1) (l:=l1) (w:={ w with a:=e1 })
 obtain⟨R,hR⟩:∃ R,R=ay 1 { w with a:=e1 } l1:=⟨_,rfl⟩
 rw [<-hR] at hpost hends⊢
 clear hR
 obtain⟨ra,rb,bag,past,wA,wB,rA,rB,known,nums,nsA,nsB⟩:=R
 obtain⟨keys,tags⟩:=known
 dsimp only at hends
 obtain⟨g1,g2,g3,g4,g5,g6⟩:=hends
 replace g1:=g1.symm
 replace g2:=g2.symm
 replace g3:=g3.symm
 replace g4:=g4.symm
 replace g5:=g5.symm
 replace g6:=g6.symm
 subst g1 g2 g3 g4 g5 g6
 refine aV func57 zXk rfl fun E hE=>ab 400 ?_
 simp (disch:=omega) only [ntmps57,results57,go_sem,seval]
 refine aR [(5,6)] [] [(qU [0,8]),[0,1,2,3,4,6,5,7]] 22 hE (fun s=>s.at (qU [13,6]) [(5,.sc (.pt 30 0 0))] (s.hp++(w.a.hp true++[some ⟨[w.a.cs 23],25,54,true,false⟩]))) zXk (qC) zXk ?_ (ab 400 ?_)
 rotate_left
 rotate_right
 simp only [aM]
 refine⟨aa 400 ?_,aa 400 ?_⟩
 ·simp (disch:=omega) only [go_sem]
  refine ak (qC) (hEA) (qI 0 21) qM zF zF (aa 400 ?_)
  simp (disch:=omega) only [go_sem,seval]
  exact qZ (qI 0 31)
 ·simp (disch:=omega) only [go_sem]
  refine ak (qC) (hEA) (qI 0 21) qM zF zF (aa 400 ?_)
  simp (disch:=omega) only [go_sem,seval]
  exact qZ (qI 0 23++qI 24 7++qI 23 1)
 try simp (disch:=omega) only [go_sem,seval]
 refine ai (qC) (hX) (qI 23 7) qM zF (ab 400 ?_)
 simp (disch:=omega) only [go_sem,seval]
 refine ai (qC) (hset) (qI 0 21++qI 31 7++qI 21 1) qM zF (ab 400 ?_)
 simp (disch:=omega) only [go_sem,seval]
 refine ai (qC) (hpost) (qI 31 7++qI 7 15++qI 38 1) qM zF (ab 400 ?_)
 simp (disch:=omega) only [go_sem,seval]
 refine aO (qI 0 22++qI 31 7++qI 7 7++qI 39 7) (qC) _ zXg zF zF ?_
 simp (disch:=omega) only [go_sem,seval]
theorem C3 (w:WorldD) (pos many:Int) (text:List UInt8) (ad:AddrD) (le:LetterD) (hw:SmallD w) (htx:text.length<=1048576):
  aP 57 [.sc (.pt 21 0 0),.ag (ActD.cs ⟨7,1,pos,many,text,ad,le⟩)] (w.hp true++[some ⟨[w.cs 0],61,60,true,false⟩]) (.sc (.int .i64 0))
  ((nH 21++[some ⟨[WorldD.cs (ay 1 { w with a:=(bI w.a pos).1 } (bI w.a pos).2) 22],61,60,true,false⟩])++WorldD.hp (ay 1 { w with a:=(bI w.a pos).1 } (bI w.a pos).2) true):=by
 have q1:=hw.s.wa
 have q2:=hw.s.wb
 have q3:=hw.s.ra
 have q4:=hw.s.rb
 have hX:=yM w.a pos hw.p.s.a
 have hsm:=jf (k:=pos) hw.p.s.a
 have hlen:=ng w.a pos
 have hEA:aP 90 [.ag (w.cs 0),.sc (.int .i64 1)] (w.hp false) (.ag (w.a.cs 21)) (w.hp false++w.a.hp true):=qHW hw.p.s (cf w 1)
 obtain⟨pr,hpr⟩:∃ p,p=bI w.a pos:=⟨_,rfl⟩
 rw [<-hpr] at hX hsm hlen⊢
 obtain⟨e1,l1⟩:=pr
 dsimp only at hX hsm hlen⊢
 have hset:=iN w e1
 have hpost:=gN { w with a:=e1 } l1 ⟨hw.p.s.bag,hw.p.s.past,hw.p.s.keys,hw.p.s.tags,hw.p.s.nums,hw.p.s.ansA,hw.p.s.ansB⟩ (by first|omega|simp)
 have hends:=aQ (side:=1) (l:=l1) (w:={ w with a:=e1 })
 obtain⟨R,hR⟩:∃ R,R=ay 1 { w with a:=e1 } l1:=⟨_,rfl⟩
 rw [<-hR] at hpost hends⊢
 clear hR
 obtain⟨ra,rb,bag,past,wA,wB,rA,rB,known,nums,nsA,nsB⟩:=R
 obtain⟨keys,tags⟩:=known
 dsimp only at hends
 obtain⟨g1,g2,g3,g4,g5,g6⟩:=hends
 replace g1:=g1.symm
 replace g2:=g2.symm
 replace g3:=g3.symm
 replace g4:=g4.symm
 replace g5:=g5.symm
 replace g6:=g6.symm
 subst g1 g2 g3 g4 g5 g6
 refine aV func57 zXk rfl fun E hE=>ab 400 ?_
 simp (disch:=omega) only [ntmps57,results57,go_sem,seval]
 refine aR [(5,6)] [] [(qU [0,8]),[0,1,2,3,4,6,5,7]] 22 hE (fun s=>s.at (qU [13,6]) [(5,.sc (.pt 30 0 0))] (s.hp++(w.a.hp true++[some ⟨[w.a.cs 23],25,54,true,false⟩]))) zXk (qC) zXk ?_ (ab 400 ?_)
 rotate_left
 rotate_right
 simp only [aM]
 refine⟨aa 400 ?_,aa 400 ?_⟩
 ·simp (disch:=omega) only [go_sem]
  refine ak (qC) (hEA) (qI 0 21) qM zF zF (aa 400 ?_)
  simp (disch:=omega) only [go_sem,seval]
  exact qZ (qI 0 31)
 ·simp (disch:=omega) only [go_sem]
  refine ak (qC) (hEA) (qI 0 21) qM zF zF (aa 400 ?_)
  simp (disch:=omega) only [go_sem,seval]
  exact qZ (qI 0 23++qI 24 7++qI 23 1)
 try simp (disch:=omega) only [go_sem,seval]
 refine ai (qC) (hX) (qI 23 7) qM zF (ab 400 ?_)
 simp (disch:=omega) only [go_sem,seval]
 refine ai (qC) (hset) (qI 0 21++qI 31 7++qI 21 1) qM zF (ab 400 ?_)
 simp (disch:=omega) only [go_sem,seval]
 refine ai (qC) (hpost) (qI 31 7++qI 7 15++qI 38 1) qM zF (ab 400 ?_)
 simp (disch:=omega) only [go_sem,seval]
 refine aO (qI 0 22++qI 31 7++qI 7 7++qI 39 7) (qC) _ zXg zF zF ?_
 simp (disch:=omega) only [go_sem,seval]
theorem C4 (w:WorldD) (pos many:Int) (text:List UInt8) (ad:AddrD) (le:LetterD) (hw:SmallD w) (htx:text.length<=1048576):
  aP 57 [.sc (.pt 21 0 0),.ag (ActD.cs ⟨1,2,pos,many,text,ad,le⟩)] (w.hp true++[some ⟨[w.cs 0],61,60,true,false⟩]) (.sc (.int .i64 0))
  ((nH 21++[some ⟨[WorldD.cs (ay 2 { w with wroteB:=w.wroteB++text.take (write w.b text).2,b:=(aY w.b text).1 } (aY w.b text).2) 22],61,60,true,false⟩])++WorldD.hp (ay 2 { w with wroteB:=w.wroteB++text.take (write w.b text).2,b:=(aY w.b text).1 } (aY w.b text).2) true):=by
 have q1:=hw.s.wa
 have q2:=hw.s.wb
 have q3:=hw.s.ra
 have q4:=hw.s.rb
 have hX:=qb w.b text hw.p.s.b htx (li hw.ob)
 have hsm:=je (t:=text) hw.p.s.b
 have hlen:=kD w.b text
 have hEA:aP 90 [.ag (w.cs 0),.sc (.int .i64 2)] (w.hp false) (.ag (w.b.cs 21)) (w.hp false++w.b.hp true):=qHW hw.p.s (cf w 2)
 have hX2:=re w.b text hw.p.s.b htx
 have hwl:=sS w.b text
 obtain⟨wr,hwr⟩:∃ p,p=write w.b text:=⟨_,rfl⟩
 rw [<-hwr] at hX2 hwl⊢
 obtain⟨e0,n0⟩:=wr
 dsimp only at hX2 hwl⊢
 obtain⟨pr,hpr⟩:∃ p,p=aY w.b text:=⟨_,rfl⟩
 rw [<-hpr] at hX hsm hlen⊢
 obtain⟨e1,l1⟩:=pr
 dsimp only at hX hsm hlen⊢
 have hset:=iO { w with wroteB:=w.wroteB++text.take n0 } e1
 have hpost:=gO { w with wroteB:=w.wroteB++text.take n0,b:=e1 } l1 ⟨hw.p.s.bag,hw.p.s.past,hw.p.s.keys,hw.p.s.tags,hw.p.s.nums,hw.p.s.ansA,hw.p.s.ansB⟩ (by first|omega|simp)
 have hends:=aQ (side:=2) (l:=l1) (w:={ w with wroteB:=w.wroteB++text.take n0,b:=e1 })
 obtain⟨R,hR⟩:∃ R,R=ay 2 { w with wroteB:=w.wroteB++text.take n0,b:=e1 } l1:=⟨_,rfl⟩
 rw [<-hR] at hpost hends⊢
 clear hR
 obtain⟨ra,rb,bag,past,wA,wB,rA,rB,known,nums,nsA,nsB⟩:=R
 obtain⟨keys,tags⟩:=known
 dsimp only at hends
 obtain⟨g1,g2,g3,g4,g5,g6⟩:=hends
 replace g1:=g1.symm
 replace g2:=g2.symm
 replace g3:=g3.symm
 replace g4:=g4.symm
 replace g5:=g5.symm
 replace g6:=g6.symm
 subst g1 g2 g3 g4 g5 g6
 have htk:(text.take n0).length=n0:=by rw [P_];omega
 refine aV func57 zXk rfl fun E hE=>ab 400 ?_
 simp (disch:=omega) only [ntmps57,results57,go_sem,seval]
 refine aR [(5,6)] [] [(qU [0,8]),[0,1,2,3,4,6,5,7]] 22 hE (fun s=>s.at (qU [13,6]) [(5,.sc (.pt 30 0 0))] (s.hp++(w.b.hp true++[some ⟨[w.b.cs 23],25,54,true,false⟩]))) zXk (qC) zXk ?_ (ab 400 ?_)
 rotate_left
 rotate_right
 simp only [aM]
 refine⟨aa 400 ?_,aa 400 ?_⟩
 ·simp (disch:=omega) only [go_sem]
  refine ak (qC) (hEA) (qI 0 21) qM zF zF (aa 400 ?_)
  simp (disch:=omega) only [go_sem,seval]
  exact qZ (qI 0 31)
 ·simp (disch:=omega) only [go_sem]
  refine ak (qC) (hEA) (qI 0 21) qM zF zF (aa 400 ?_)
  simp (disch:=omega) only [go_sem,seval]
  exact qZ (qI 0 23++qI 24 7++qI 23 1)
 try simp (disch:=omega) only [go_sem,seval]
 refine ai (qC) (hX2) (qI 23 7) qM zF (ab 400 ?_)
 simp (disch:=omega) only [go_sem,seval]
 refine ai (qC) (hX) (qI 23 7) qM zF (ab 400 ?_)
 simp (disch:=omega) only [go_sem,seval]
 refine ao (qU [0,12]) zXk (qC) zXk (aa 400 ?_)
 simp (disch:=omega) only [go_sem,seval]
 refine⟨qC,ab 400 ?_⟩
 try simp (disch:=omega) only [go_sem,seval]
 refine ai (qC) (hset) (qI 0 21++qI 39 7++qI 21 1) qM zF (ab 400 ?_)
 simp (disch:=omega) only [go_sem,seval]
 refine ai (qC) (hpost) (qI 0 7++qI 39 7++qI 14 8++qI 46 1) qM zF (ab 400 ?_)
 simp (disch:=omega) only [go_sem,seval]
 refine aO (qI 0 22++qI 0 7++qI 39 7++qI 47 7) (qC) _ zXg zF zF ?_
 simp (disch:=omega) only [go_sem,seval]
theorem C5 (w:WorldD) (pos many:Int) (text:List UInt8) (ad:AddrD) (le:LetterD) (hw:SmallD w) (htx:text.length<=1048576):
  aP 57 [.sc (.pt 21 0 0),.ag (ActD.cs ⟨2,2,pos,many,text,ad,le⟩)] (w.hp true++[some ⟨[w.cs 0],61,60,true,false⟩]) (.sc (.int .i64 0))
  ((nH 21++[some ⟨[WorldD.cs (ay 2 { w with readB:=w.readB++(bJ w.b many).2,b:=((bJ w.b many).1,([]:List LetterD)).1 } ((bJ w.b many).1,([]:List LetterD)).2) 22],61,60,true,false⟩])++WorldD.hp (ay 2 { w with readB:=w.readB++(bJ w.b many).2,b:=((bJ w.b many).1,([]:List LetterD)).1 } ((bJ w.b many).1,([]:List LetterD)).2) true):=by
 have q1:=hw.s.wa
 have q2:=hw.s.wb
 have q3:=hw.s.ra
 have q4:=hw.s.rb
 have hX:=Bq w.b many hw.p.s.b hw.p.pb
 have hsm:=kc (m:=many) hw.p.s.b
 have hEA:aP 90 [.ag (w.cs 0),.sc (.int .i64 2)] (w.hp false) (.ag (w.b.cs 21)) (w.hp false++w.b.hp true):=qHW hw.p.s (cf w 2)
 obtain⟨pr,hpr⟩:∃ p,p=bJ w.b many:=⟨_,rfl⟩
 have hrl:(bJ w.b many).2.length<=1048576:=mn hw.p.pb
 rw [<-hpr] at hX hsm hrl⊢
 obtain⟨e1,t1⟩:=pr
 dsimp only at hX hsm hrl⊢
 obtain⟨l1,hl1⟩:∃ l:List LetterD,l=[]:=⟨_,rfl⟩
 have hlen:l1.length<=1:=by rw [hl1];simp
 have hset:=iO { w with readB:=w.readB++t1 } e1
 have hpost:=gO { w with readB:=w.readB++t1,b:=e1 } [] ⟨hw.p.s.bag,hw.p.s.past,hw.p.s.keys,hw.p.s.tags,hw.p.s.nums,hw.p.s.ansA,hw.p.s.ansB⟩ (by first|omega|simp)
 have hends:=aQ (side:=2) (l:=[]) (w:={ w with readB:=w.readB++t1,b:=e1 })
 obtain⟨R,hR⟩:∃ R,R=ay 2 { w with readB:=w.readB++t1,b:=e1 } []:=⟨_,rfl⟩
 rw [<-hR] at hpost hends⊢
 clear hR
 obtain⟨ra,rb,bag,past,wA,wB,rA,rB,known,nums,nsA,nsB⟩:=R
 obtain⟨keys,tags⟩:=known
 dsimp only at hends
 obtain⟨g1,g2,g3,g4,g5,g6⟩:=hends
 replace g1:=g1.symm
 replace g2:=g2.symm
 replace g3:=g3.symm
 replace g4:=g4.symm
 replace g5:=g5.symm
 replace g6:=g6.symm
 subst g1 g2 g3 g4 g5 g6
 refine aV func57 zXk rfl fun E hE=>ab 400 ?_
 simp (disch:=omega) only [ntmps57,results57,go_sem,seval]
 refine aR [(5,6)] [] [(qU [0,8]),[0,1,2,3,4,6,5,7]] 22 hE (fun s=>s.at (qU [13,6]) [(5,.sc (.pt 30 0 0))] (s.hp++(w.b.hp true++[some ⟨[w.b.cs 23],25,54,true,false⟩]))) zXk (qC) zXk ?_ (ab 400 ?_)
 rotate_left
 rotate_right
 simp only [aM]
 refine⟨aa 400 ?_,aa 400 ?_⟩
 ·simp (disch:=omega) only [go_sem]
  refine ak (qC) (hEA) (qI 0 21) qM zF zF (aa 400 ?_)
  simp (disch:=omega) only [go_sem,seval]
  exact qZ (qI 0 31)
 ·simp (disch:=omega) only [go_sem]
  refine ak (qC) (hEA) (qI 0 21) qM zF zF (aa 400 ?_)
  simp (disch:=omega) only [go_sem,seval]
  exact qZ (qI 0 23++qI 24 7++qI 23 1)
 try simp (disch:=omega) only [go_sem,seval]
 refine ai (qC) (hX) (qI 23 7) qM zF (ab 400 ?_)
 simp (disch:=omega) only [go_sem,seval]
 refine ai (qC) (hset) (qI 0 21++qI 31 7++qI 21 1) qM zF (ab 400 ?_)
 simp (disch:=omega) only [go_sem,seval]
 refine ai (qC) (hpost) (qI 0 7++qI 31 7++qI 14 8++qO 1) qM zF (ab 400 ?_)
 simp (disch:=omega) only [go_sem,seval]
 refine aO (qI 0 22++qI 0 7++qI 31 7++qI 39 7) (qC) _ zXg zF zF ?_
 simp (disch:=omega) only [go_sem,seval]
theorem C6 (w:WorldD) (pos many:Int) (text:List UInt8) (ad:AddrD) (le:LetterD) (hw:SmallD w) (htx:text.length<=1048576):
  aP 57 [.sc (.pt 21 0 0),.ag (ActD.cs ⟨4,2,pos,many,text,ad,le⟩)] (w.hp true++[some ⟨[w.cs 0],61,60,true,false⟩]) (.sc (.int .i64 0))
  ((nH 21++[some ⟨[WorldD.cs (ay 2 { w with b:=(manage w.b).1 } (manage w.b).2) 22],61,60,true,false⟩])++WorldD.hp (ay 2 { w with b:=(manage w.b).1 } (manage w.b).2) true):=by
 have q1:=hw.s.wa
 have q2:=hw.s.wb
 have q3:=hw.s.ra
 have q4:=hw.s.rb
 have hX:=vv w.b hw.p.s.b
 have hsm:=jg hw.p.s.b
 have hlen:=nh w.b
 have hEA:aP 90 [.ag (w.cs 0),.sc (.int .i64 2)] (w.hp false) (.ag (w.b.cs 21)) (w.hp false++w.b.hp true):=qHW hw.p.s (cf w 2)
 obtain⟨pr,hpr⟩:∃ p,p=manage w.b:=⟨_,rfl⟩
 rw [<-hpr] at hX hsm hlen⊢
 obtain⟨e1,l1⟩:=pr
 dsimp only at hX hsm hlen⊢
 have hset:=iO w e1
 have hpost:=gO { w with b:=e1 } l1 ⟨hw.p.s.bag,hw.p.s.past,hw.p.s.keys,hw.p.s.tags,hw.p.s.nums,hw.p.s.ansA,hw.p.s.ansB⟩ (by first|omega|simp)
 have hends:=aQ (side:=2) (l:=l1) (w:={ w with b:=e1 })
 obtain⟨R,hR⟩:∃ R,R=ay 2 { w with b:=e1 } l1:=⟨_,rfl⟩
 rw [<-hR] at hpost hends⊢
 clear hR
 obtain⟨ra,rb,bag,past,wA,wB,rA,rB,known,nums,nsA,nsB⟩:=R
 obtain⟨keys,tags⟩:=known
 dsimp only at hends
 obtain⟨g1,g2,g3,g4,g5,g6⟩:=hends
 replace g1:=g1.symm
 replace g2:=g2.symm
 replace g3:=g3.symm
 replace g4:=g4.symm
 replace g5:=g5.symm
 replace g6:=g6.symm
 subst g1 g2 g3 g4 g5 g6
 refine aV func57 zXk rfl fun E hE=>ab 400 ?_
 simp (disch:=omega) only [ntmps57,results57,go_sem,seval]
 refine aR [(5,6)] [] [(qU [0,8]),[0,1,2,3,4,6,5,7]] 22 hE (fun s=>s.at (qU [13,6]) [(5,.sc (.pt 30 0 0))] (s.hp++(w.b.hp true++[some ⟨[w.b.cs 23],25,54,true,false⟩]))) zXk (qC) zXk ?_ (ab 400 ?_)
 rotate_left
 rotate_right
 simp only [aM]
 refine⟨aa 400 ?_,aa 400 ?_⟩
 ·simp (disch:=omega) only [go_sem]
  refine ak (qC) (hEA) (qI 0 21) qM zF zF (aa 400 ?_)
  simp (disch:=omega) only [go_sem,seval]
  exact qZ (qI 0 31)
 ·simp (disch:=omega) only [go_sem]
  refine ak (qC) (hEA) (qI 0 21) qM zF zF (aa 400 ?_)
  simp (disch:=omega) only [go_sem,seval]
  exact qZ (qI 0 23++qI 24 7++qI 23 1)
 try simp (disch:=omega) only [go_sem,seval]
 refine ai (qC) (hX) (qI 23 7) qM zF (ab 400 ?_)
 simp (disch:=omega) only [go_sem,seval]
 refine ai (qC) (hset) (qI 0 21++qI 31 7++qI 21 1) qM zF (ab 400 ?_)
 simp (disch:=omega) only [go_sem,seval]
 refine ai (qC) (hpost) (qI 0 7++qI 31 7++qI 14 8++qI 38 1) qM zF (ab 400 ?_)
 simp (disch:=omega) only [go_sem,seval]
 refine aO (qI 0 22++qI 0 7++qI 31 7++qI 39 7) (qC) _ zXg zF zF ?_
 simp (disch:=omega) only [go_sem,seval]
theorem C7 (w:WorldD) (pos many:Int) (text:List UInt8) (ad:AddrD) (le:LetterD) (hw:SmallD w) (htx:text.length<=1048576) (hsd:bj ad.addr=2) (hgood:(aK w.b ad).2=true):
  aP 57 [.sc (.pt 21 0 0),.ag (ActD.cs ⟨5,2,pos,many,text,ad,le⟩)] (w.hp true++[some ⟨[w.cs 0],61,60,true,false⟩]) (.sc (.int .i64 0))
  ((nH 21++[some ⟨[WorldD.cs (ay 2 { w with b:=((aK w.b ad).1,([]:List LetterD)).1 } ((aK w.b ad).1,([]:List LetterD)).2) 22],61,60,true,false⟩])++WorldD.hp (ay 2 { w with b:=((aK w.b ad).1,([]:List LetterD)).1 } ((aK w.b ad).1,([]:List LetterD)).2) true):=by
 have q1:=hw.s.wa
 have q2:=hw.s.wb
 have q3:=hw.s.ra
 have q4:=hw.s.rb
 have hX:=lI w.b ad hw.p.s.b
 have hsm:=eA (a:=ad) hw.p.s.b
 have hEA:aP 90 [.ag (w.cs 0),.sc (.int .i64 2)] (w.hp false) (.ag (w.b.cs 21)) (w.hp false++w.b.hp true):=qHW hw.p.s (cf w 2)
 obtain⟨pr,hpr⟩:∃ p,p=aK w.b ad:=⟨_,rfl⟩
 rw [<-hpr] at hX hsm hgood⊢
 obtain⟨e1,ok1⟩:=pr
 dsimp only at hX hsm hgood⊢
 subst hgood
 obtain⟨l1,hl1⟩:∃ l:List LetterD,l=[]:=⟨_,rfl⟩
 have hlen:l1.length<=1:=by rw [hl1];simp
 have hset:=iO w e1
 have hpost:=gO { w with b:=e1 } [] ⟨hw.p.s.bag,hw.p.s.past,hw.p.s.keys,hw.p.s.tags,hw.p.s.nums,hw.p.s.ansA,hw.p.s.ansB⟩ (by first|omega|simp)
 have hends:=aQ (side:=2) (l:=[]) (w:={ w with b:=e1 })
 obtain⟨R,hR⟩:∃ R,R=ay 2 { w with b:=e1 } []:=⟨_,rfl⟩
 rw [<-hR] at hpost hends⊢
 clear hR
 obtain⟨ra,rb,bag,past,wA,wB,rA,rB,known,nums,nsA,nsB⟩:=R
 obtain⟨keys,tags⟩:=known
 dsimp only at hends
 obtain⟨g1,g2,g3,g4,g5,g6⟩:=hends
 replace g1:=g1.symm
 replace g2:=g2.symm
 replace g3:=g3.symm
 replace g4:=g4.symm
 replace g5:=g5.symm
 replace g6:=g6.symm
 subst g1 g2 g3 g4 g5 g6
 have hSd:=fe ad.addr
 rw [hsd] at hSd
 refine aV func57 zXk rfl fun E hE=>ab 400 ?_
 simp (disch:=omega) only [ntmps57,results57,go_sem,seval]
 refine aR [(5,6)] [] [(qU [0,8]),[0,1,2,3,4,6,5,7]] 22 hE (fun s=>s.at (qU [13,6]) [(5,.sc (.pt 30 0 0))] (s.hp++(w.b.hp true++[some ⟨[w.b.cs 23],25,54,true,false⟩]))) zXk (qC) zXk ?_ (ab 400 ?_)
 rotate_left
 rotate_right
 simp only [aM]
 refine⟨aa 400 ?_,aa 400 ?_⟩
 ·simp (disch:=omega) only [go_sem]
  refine ak (qC) (hEA) (qI 0 21) qM zF zF (aa 400 ?_)
  simp (disch:=omega) only [go_sem,seval]
  exact qZ (qI 0 31)
 ·simp (disch:=omega) only [go_sem]
  refine ak (qC) (hEA) (qI 0 21) qM zF zF (aa 400 ?_)
  simp (disch:=omega) only [go_sem,seval]
  exact qZ (qI 0 23++qI 24 7++qI 23 1)
 try simp (disch:=omega) only [go_sem,seval]
 refine ai (qC) (hX) (qI 23 7) qM zF (ab 400 ?_)
 simp (disch:=omega) only [go_sem,seval]
 refine ao (qU [0,3,4,2,3,1,6,5]) zXk (qC) zXk (aa 400 ?_)
 simp (disch:=omega) only [go_sem,seval]
 refine ak (qC) (hSd) [] qM zF zF (aa 400 ?_)
 simp (disch:=omega) only [go_sem,seval]
 refine⟨qC,ab 400 ?_⟩
 try simp (disch:=omega) only [go_sem,seval]
 refine ai (qC) (hset) (qI 0 21++qI 31 7++qI 21 1) qM zF (ab 400 ?_)
 simp (disch:=omega) only [go_sem,seval]
 refine ai (qC) (hpost) (qI 0 7++qI 31 7++qI 14 8++qO 1) qM zF (ab 400 ?_)
 simp (disch:=omega) only [go_sem,seval]
 refine aO (qI 0 22++qI 0 7++qI 31 7++qI 39 7) (qC) _ zXg zF zF ?_
 simp (disch:=omega) only [go_sem,seval]
theorem C8 (w:WorldD) (pos many:Int) (text:List UInt8) (ad:AddrD) (le:LetterD) (hw:SmallD w) (htx:text.length<=1048576):
  aP 57 [.sc (.pt 21 0 0),.ag (ActD.cs ⟨6,2,pos,many,text,ad,le⟩)] (w.hp true++[some ⟨[w.cs 0],61,60,true,false⟩]) (.sc (.int .i64 0))
  ((nH 21++[some ⟨[WorldD.cs (ay 2 { w with b:=(bf w.b pos).1 } (bf w.b pos).2) 22],61,60,true,false⟩])++WorldD.hp (ay 2 { w with b:=(bf w.b pos).1 } (bf w.b pos).2) true):=by
 have q1:=hw.s.wa
 have q2:=hw.s.wb
 have q3:=hw.s.ra
 have q4:=hw.s.rb
 have hX:=sZ w.b pos hw.p.s.b
 have hsm:=im (n:=pos) hw.p.s.b
 have hlen:=lK w.b pos hw.p.s.b
 have hEA:aP 90 [.ag (w.cs 0),.sc (.int .i64 2)] (w.hp false) (.ag (w.b.cs 21)) (w.hp false++w.b.hp true):=qHW hw.p.s (cf w 2)
 obtain⟨pr,hpr⟩:∃ p,p=bf w.b pos:=⟨_,rfl⟩
 rw [<-hpr] at hX hsm hlen⊢
 obtain⟨e1,l1⟩:=pr
 dsimp only at hX hsm hlen⊢
 have hset:=iO w e1
 have hpost:=gO { w with b:=e1 } l1 ⟨hw.p.s.bag,hw.p.s.past,hw.p.s.keys,hw.p.s.tags,hw.p.s.nums,hw.p.s.ansA,hw.p.s.ansB⟩ (by first|omega|simp)
 have hends:=aQ (side:=2) (l:=l1) (w:={ w with b:=e1 })
 obtain⟨R,hR⟩:∃ R,R=ay 2 { w with b:=e1 } l1:=⟨_,rfl⟩
 rw [<-hR] at hpost hends⊢
 clear hR
 obtain⟨ra,rb,bag,past,wA,wB,rA,rB,known,nums,nsA,nsB⟩:=R
 obtain⟨keys,tags⟩:=known
 dsimp only at hends
 obtain⟨g1,g2,g3,g4,g5,g6⟩:=hends
 replace g1:=g1.symm
 replace g2:=g2.symm
 replace g3:=g3.symm
 replace g4:=g4.symm
 replace g5:=g5.symm
 replace g6:=g6.symm
 subst g1 g2 g3 g4 g5 g6
 refine aV func57 zXk rfl fun E hE=>ab 400 ?_
 simp (disch:=omega) only [ntmps57,results57,go_sem,seval]
 refine aR [(5,6)] [] [(qU [0,8]),[0,1,2,3,4,6,5,7]] 22 hE (fun s=>s.at (qU [13,6]) [(5,.sc (.pt 30 0 0))] (s.hp++(w.b.hp true++[some ⟨[w.b.cs 23],25,54,true,false⟩]))) zXk (qC) zXk ?_ (ab 400 ?_)
 rotate_left
 rotate_right
 simp only [aM]
 refine⟨aa 400 ?_,aa 400 ?_⟩
 ·simp (disch:=omega) only [go_sem]
  refine ak (qC) (hEA) (qI 0 21) qM zF zF (aa 400 ?_)
  simp (disch:=omega) only [go_sem,seval]
  exact qZ (qI 0 31)
 ·simp (disch:=omega) only [go_sem]
  refine ak (qC) (hEA) (qI 0 21) qM zF zF (aa 400 ?_)
  simp (disch:=omega) only [go_sem,seval]
  exact qZ (qI 0 23++qI 24 7++qI 23 1)
 try simp (disch:=omega) only [go_sem,seval]
 refine ai (qC) (hX) (qI 23 7) qM zF (ab 400 ?_)
 simp (disch:=omega) only [go_sem,seval]
 refine ai (qC) (hset) (qI 0 21++qI 31 7++qI 21 1) qM zF (ab 400 ?_)
 simp (disch:=omega) only [go_sem,seval]
 refine ai (qC) (hpost) (qI 0 7++qI 31 7++qI 14 8++qI 38 1) qM zF (ab 400 ?_)
 simp (disch:=omega) only [go_sem,seval]
 refine aO (qI 0 22++qI 0 7++qI 31 7++qI 39 7) (qC) _ zXg zF zF ?_
 simp (disch:=omega) only [go_sem,seval]
theorem C9 (w:WorldD) (pos many:Int) (text:List UInt8) (ad:AddrD) (le:LetterD) (hw:SmallD w) (htx:text.length<=1048576):
  aP 57 [.sc (.pt 21 0 0),.ag (ActD.cs ⟨7,2,pos,many,text,ad,le⟩)] (w.hp true++[some ⟨[w.cs 0],61,60,true,false⟩]) (.sc (.int .i64 0))
  ((nH 21++[some ⟨[WorldD.cs (ay 2 { w with b:=(bI w.b pos).1 } (bI w.b pos).2) 22],61,60,true,false⟩])++WorldD.hp (ay 2 { w with b:=(bI w.b pos).1 } (bI w.b pos).2) true):=by
 have q1:=hw.s.wa
 have q2:=hw.s.wb
 have q3:=hw.s.ra
 have q4:=hw.s.rb
 have hX:=yM w.b pos hw.p.s.b
 have hsm:=jf (k:=pos) hw.p.s.b
 have hlen:=ng w.b pos
 have hEA:aP 90 [.ag (w.cs 0),.sc (.int .i64 2)] (w.hp false) (.ag (w.b.cs 21)) (w.hp false++w.b.hp true):=qHW hw.p.s (cf w 2)
 obtain⟨pr,hpr⟩:∃ p,p=bI w.b pos:=⟨_,rfl⟩
 rw [<-hpr] at hX hsm hlen⊢
 obtain⟨e1,l1⟩:=pr
 dsimp only at hX hsm hlen⊢
 have hset:=iO w e1
 have hpost:=gO { w with b:=e1 } l1 ⟨hw.p.s.bag,hw.p.s.past,hw.p.s.keys,hw.p.s.tags,hw.p.s.nums,hw.p.s.ansA,hw.p.s.ansB⟩ (by first|omega|simp)
 have hends:=aQ (side:=2) (l:=l1) (w:={ w with b:=e1 })
 obtain⟨R,hR⟩:∃ R,R=ay 2 { w with b:=e1 } l1:=⟨_,rfl⟩
 rw [<-hR] at hpost hends⊢
 clear hR
 obtain⟨ra,rb,bag,past,wA,wB,rA,rB,known,nums,nsA,nsB⟩:=R
 obtain⟨keys,tags⟩:=known
 dsimp only at hends
 obtain⟨g1,g2,g3,g4,g5,g6⟩:=hends
 replace g1:=g1.symm
 replace g2:=g2.symm
 replace g3:=g3.symm
 replace g4:=g4.symm
 replace g5:=g5.symm
 replace g6:=g6.symm
 subst g1 g2 g3 g4 g5 g6
 refine aV func57 zXk rfl fun E hE=>ab 400 ?_
 simp (disch:=omega) only [ntmps57,results57,go_sem,seval]
 refine aR [(5,6)] [] [(qU [0,8]),[0,1,2,3,4,6,5,7]] 22 hE (fun s=>s.at (qU [13,6]) [(5,.sc (.pt 30 0 0))] (s.hp++(w.b.hp true++[some ⟨[w.b.cs 23],25,54,true,false⟩]))) zXk (qC) zXk ?_ (ab 400 ?_)
 rotate_left
 rotate_right
 simp only [aM]
 refine⟨aa 400 ?_,aa 400 ?_⟩
 ·simp (disch:=omega) only [go_sem]
  refine ak (qC) (hEA) (qI 0 21) qM zF zF (aa 400 ?_)
  simp (disch:=omega) only [go_sem,seval]
  exact qZ (qI 0 31)
 ·simp (disch:=omega) only [go_sem]
  refine ak (qC) (hEA) (qI 0 21) qM zF zF (aa 400 ?_)
  simp (disch:=omega) only [go_sem,seval]
  exact qZ (qI 0 23++qI 24 7++qI 23 1)
 try simp (disch:=omega) only [go_sem,seval]
 refine ai (qC) (hX) (qI 23 7) qM zF (ab 400 ?_)
 simp (disch:=omega) only [go_sem,seval]
 refine ai (qC) (hset) (qI 0 21++qI 31 7++qI 21 1) qM zF (ab 400 ?_)
 simp (disch:=omega) only [go_sem,seval]
 refine ai (qC) (hpost) (qI 0 7++qI 31 7++qI 14 8++qI 38 1) qM zF (ab 400 ?_)
 simp (disch:=omega) only [go_sem,seval]
 refine aO (qI 0 22++qI 0 7++qI 31 7++qI 39 7) (qC) _ zXg zF zF ?_
 simp (disch:=omega) only [go_sem,seval]
theorem ti {l:List LetterD} {p:Nat} (h:p < l.length):p_ l (Int.toNat (p:Int))=l[p]:=by simp [p_,h]
theorem ut (l:List LetterD) (p:Nat):jd l (p:Int)=l.take p++l.drop (p+1):=rfl
theorem jI {l:List LetterD} {p:Nat} (h:p < l.length):(jd l (p:Int)).length=l.length - 1:=by
 rw [ut,P6,P_,P9];omega
theorem Ng {w:WorldD} {s m:Int} {p:Nat} {t:List UInt8} {ad:AddrD} {le:LetterD} (h:¬ p < w.bag.length):bg w ⟨8,s,(p:Nat),m,t,ad,le⟩=(w,1):=by
 unfold bg;dsimp only;rw [if_pos (.inl rfl),if_pos zO]
theorem Nh {w:WorldD} {s m:Int} {p:Nat} {t:List UInt8} {ad:AddrD} {le:LetterD} (h:p < w.bag.length):bg w ⟨8,s,(p:Nat),m,t,ad,le⟩=(ik { w with bag:=jd w.bag (p:Nat) } w.bag[p],0):=by
 unfold bg;dsimp only;rw [if_pos (.inl rfl),if_neg zO,if_pos rfl,ti h]
theorem Ni {w:WorldD} {s m:Int} {p:Nat} {t:List UInt8} {ad:AddrD} {le:LetterD} (h:¬ p < w.bag.length):bg w ⟨9,s,(p:Nat),m,t,ad,le⟩=(w,1):=by
 unfold bg;dsimp only;rw [if_pos (.inr rfl),if_pos zO]
theorem Nj {w:WorldD} {s m:Int} {p:Nat} {t:List UInt8} {ad:AddrD} {le:LetterD} (h:p < w.bag.length):bg w ⟨9,s,(p:Nat),m,t,ad,le⟩=({ w with bag:=jd w.bag (p:Nat) },0):=by
 unfold bg;dsimp only;rw [if_pos (.inr rfl),if_neg zO,if_neg zO]
theorem KX {w:WorldD} {s m:Int} {p:Nat} {t:List UInt8} {ad:AddrD} {le:LetterD} (h:¬ p < w.bag.length\/40<=w.bag.length):bg w ⟨10,s,(p:Nat),m,t,ad,le⟩=(w,1):=by
 unfold bg;dsimp only;rw [if_neg zO,if_pos rfl,if_pos zO]
theorem KY {w:WorldD} {s m:Int} {p:Nat} {t:List UInt8} {ad:AddrD} {le:LetterD} (h:p < w.bag.length) (h2:¬ 40<=w.bag.length):bg w ⟨10,s,(p:Nat),m,t,ad,le⟩=({ w with bag:=w.bag++[w.bag[p]] },0):=by
 unfold bg;dsimp only;rw [if_neg zO,if_pos rfl,if_neg zO,ti h]
theorem KZ {w:WorldD} {s m p:Int} {t:List UInt8} {ad:AddrD} {le:LetterD} (h:eK w le=false):bg w ⟨11,s,p,m,t,ad,le⟩=(w,2):=by
 unfold bg;dsimp only;rw [if_neg zO,if_neg zO,if_pos rfl,if_pos h]
theorem K0 {w:WorldD} {s m p:Int} {t:List UInt8} {ad:AddrD} {le:LetterD} (h:eK w le=true) (h2:40<=w.bag.length):bg w ⟨11,s,p,m,t,ad,le⟩=(w,1):=by
 unfold bg;dsimp only;rw [if_neg zO,if_neg zO,if_pos rfl,if_neg (by simp [h]),if_pos h2]
theorem K1 {w:WorldD} {s m p:Int} {t:List UInt8} {ad:AddrD} {le:LetterD} (h:eK w le=true) (h2:¬ 40<=w.bag.length):bg w ⟨11,s,p,m,t,ad,le⟩=({ w with bag:=w.bag++[le] },0):=by
 unfold bg;dsimp only;rw [if_neg zO,if_neg zO,if_pos rfl,if_neg (by simp [h]),if_neg h2]
theorem K2 {w:WorldD} {s m:Int} {p:Nat} {t:List UInt8} {ad:AddrD} {le:LetterD} (h:¬ p < w.past.length):bg w ⟨12,s,(p:Nat),m,t,ad,le⟩=(w,1):=by
 unfold bg;dsimp only;rw [if_neg zO,if_neg zO,if_neg zO,if_pos (.inl zO)]
theorem K3 {w:WorldD} {s m:Int} {p:Nat} {t:List UInt8} {ad:AddrD} {le:LetterD} (h:p < w.past.length) (h2:bj w.past[p].to=0\/40<=w.bag.length):bg w ⟨12,s,(p:Nat),m,t,ad,le⟩=(w,1):=by
 unfold bg;dsimp only;rw [if_neg zO,if_neg zO,if_neg zO,ti h,if_pos (.inr h2)]
theorem K4 {w:WorldD} {s m:Int} {p:Nat} {t:List UInt8} {ad:AddrD} {le:LetterD} (h:p < w.past.length) (h1:¬ bj w.past[p].to=0) (h2:¬ 40<=w.bag.length):bg w ⟨12,s,(p:Nat),m,t,ad,le⟩=({ w with bag:=w.bag++[w.past[p]] },0):=by
 unfold bg;dsimp only;rw [if_neg zO,if_neg zO,if_neg zO,ti h,if_neg zO]
theorem E4 (w:WorldD) (side many:Int) (p:Nat) (text:List UInt8) (ad:AddrD) (le:LetterD) (hw:SmallD w):
  aP 58 [.sc (.pt 21 0 0),.ag (ActD.cs ⟨8,side,(p:Nat),many,text,ad,le⟩)] (w.hp true++[some ⟨[w.cs 0],61,60,true,false⟩]) (.sc (.int .i64 (bg w ⟨8,side,(p:Nat),many,text,ad,le⟩).2))
  ((nH 21++[some ⟨[WorldD.cs (bg w ⟨8,side,(p:Nat),many,text,ad,le⟩).1 22],61,60,true,false⟩])++WorldD.hp (bg w ⟨8,side,(p:Nat),many,text,ad,le⟩).1 true):=by
 have hbag:=hw.p.s.bag
 have hpast:=hw.p.s.past
 obtain⟨R,hR⟩:∃ R,R=bg w ⟨8,side,(p:Nat),many,text,ad,le⟩:=⟨_,rfl⟩
 rw [<-hR]
 by_cases hp:p < w.bag.length
 ·rw [Nh hp] at hR
  obtain⟨B,hBe⟩:∃ B,B=jd w.bag (p:Nat):=⟨_,rfl⟩
  have e2:p+(w.bag.length - (p+1))=B.length:=by rw [hBe,jI hp];omega
  have e1:(w.bag.take p).map LetterD.cs++((w.bag.map LetterD.cs).drop (p+1)).take (w.bag.length - (p+1))=B.map LetterD.cs:=by rw [hBe];exact (mh hp).2
  have hB:B.length<=1048576:=zO
  have hlt:(w.bag.take p).length=p:=by simp;omega
  have hlt2:(List.take p (List.map LetterD.cs w.bag)).length=p:=by simp;omega
  have hC:=gZ (w.bag.take p) zO
  rw [hlt] at hC
  have hx:=aC (enc:=LetterD.cs) hp
  rw [<-hBe] at hR
  clear hBe
  generalize hxx:w.bag[p]=x at*
  have hL:=Gi { w with bag:=B } x ⟨⟨hw.p.s.a,hw.p.s.b,hB,hw.p.s.past,hw.p.s.keys,hw.p.s.tags,hw.p.s.nums,hw.p.s.ansA,hw.p.s.ansB⟩,hw.p.pa,hw.p.pb⟩
  obtain⟨L,hLe⟩:∃ L,L=ik { w with bag:=B } x:=⟨_,rfl⟩
  rw [<-hLe] at hL hR
  clear hLe
  subst hR
  dsimp only
  refine aV func58 zXk rfl fun E hE=>ab 400 ?_
  simp (disch:=omega) only [ntmps58,results58,go_sem,seval]
  refine ao (qU [0,9]) zXk (qC) zXk (aa 400 ?_)
  simp (disch:=omega) only [go_sem,seval]
  refine⟨qC,ab 400 ?_⟩
  try simp (disch:=omega) only [go_sem,seval]
  refine ao (qU [0,10]) zXk (qC) zXk (aa 400 ?_)
  simp (disch:=omega) only [go_sem,seval]
  refine⟨qC,ab 400 ?_⟩
  try simp (disch:=omega) only [go_sem,seval,hx,hxx]
  refine ao (qU [0,8,9,8,8,1,17,4]) zXk (qC) zXk (aa 400 ?_)
  simp (disch:=omega) only [go_sem,seval]
  refine ak (qC) (hC) [some (14,some 0)] qM zF zF (aa 400 ?_)
  simp (disch:=omega) only [go_sem,seval]
  refine⟨qC,ab 400 ?_⟩
  try simp (disch:=omega) only [go_sem,seval,e1,e2]
  refine ao (qU [0,8]) zXk (qC) zXk (aa 400 ?_)
  simp (disch:=omega) only [go_sem,seval]
  refine ak (qC) (hL) (qI 0 14++qI 25 1++qI 15 6) qM zF zF (aa 400 ?_)
  simp (disch:=omega) only [go_sem,seval]
  refine⟨qC,ab 400 ?_⟩
  try simp (disch:=omega) only [go_sem,seval]
  refine aO (qI 0 22++qI 26 21) (qC) _ zXg zF zF ?_
  simp (disch:=omega) only [go_sem,seval]
 rw [Ng hp] at hR
 subst hR
 dsimp only
 refine aV func58 zXk rfl fun E hE=>ab 400 ?_
 simp (disch:=omega) only [ntmps58,results58,go_sem,seval]
 refine ao (qU [0,9]) zXk (qC) zXk (aa 400 ?_)
 simp (disch:=omega) only [go_sem,seval]
 refine⟨qC,ab 400 ?_⟩
 try simp (disch:=omega) only [go_sem,seval]
 refine aO (qI 0 22++qI 0 21) (qC) _ zXg zF zF ?_
 simp (disch:=omega) only [go_sem,seval]
theorem E5 (w:WorldD) (side many:Int) (p:Nat) (text:List UInt8) (ad:AddrD) (le:LetterD) (hw:SmallD w):
  aP 58 [.sc (.pt 21 0 0),.ag (ActD.cs ⟨9,side,(p:Nat),many,text,ad,le⟩)] (w.hp true++[some ⟨[w.cs 0],61,60,true,false⟩]) (.sc (.int .i64 (bg w ⟨9,side,(p:Nat),many,text,ad,le⟩).2))
  ((nH 21++[some ⟨[WorldD.cs (bg w ⟨9,side,(p:Nat),many,text,ad,le⟩).1 22],61,60,true,false⟩])++WorldD.hp (bg w ⟨9,side,(p:Nat),many,text,ad,le⟩).1 true):=by
 have hbag:=hw.p.s.bag
 have hpast:=hw.p.s.past
 obtain⟨R,hR⟩:∃ R,R=bg w ⟨9,side,(p:Nat),many,text,ad,le⟩:=⟨_,rfl⟩
 rw [<-hR]
 by_cases hp:p < w.bag.length
 ·rw [Nj hp] at hR
  obtain⟨B,hBe⟩:∃ B,B=jd w.bag (p:Nat):=⟨_,rfl⟩
  have e2:p+(w.bag.length - (p+1))=B.length:=by rw [hBe,jI hp];omega
  have e1:(w.bag.take p).map LetterD.cs++((w.bag.map LetterD.cs).drop (p+1)).take (w.bag.length - (p+1))=B.map LetterD.cs:=by rw [hBe];exact (mh hp).2
  have hB:B.length<=1048576:=zO
  have hlt:(w.bag.take p).length=p:=by simp;omega
  have hlt2:(List.take p (List.map LetterD.cs w.bag)).length=p:=by simp;omega
  have hC:=gZ (w.bag.take p) zO
  rw [hlt] at hC
  have hx:=aC (enc:=LetterD.cs) hp
  rw [<-hBe] at hR
  clear hBe
  generalize hxx:w.bag[p]=x at*
  subst hR
  dsimp only
  refine aV func58 zXk rfl fun E hE=>ab 400 ?_
  simp (disch:=omega) only [ntmps58,results58,go_sem,seval]
  refine ao (qU [0,9]) zXk (qC) zXk (aa 400 ?_)
  simp (disch:=omega) only [go_sem,seval]
  refine⟨qC,ab 400 ?_⟩
  try simp (disch:=omega) only [go_sem,seval]
  refine ao (qU [0,10]) zXk (qC) zXk (aa 400 ?_)
  simp (disch:=omega) only [go_sem,seval]
  refine⟨qC,ab 400 ?_⟩
  try simp (disch:=omega) only [go_sem,seval,hx,hxx]
  refine ao (qU [0,8,9,8,8,1,17,4]) zXk (qC) zXk (aa 400 ?_)
  simp (disch:=omega) only [go_sem,seval]
  refine ak (qC) (hC) [some (14,some 0)] qM zF zF (aa 400 ?_)
  simp (disch:=omega) only [go_sem,seval]
  refine⟨qC,ab 400 ?_⟩
  try simp (disch:=omega) only [go_sem,seval,e1,e2]
  refine aO (qI 0 22++qI 0 14++qI 25 1++qI 15 6) (qC) _ zXg zF zF ?_
  simp (disch:=omega) only [go_sem,seval]
 rw [Ni hp] at hR
 subst hR
 dsimp only
 refine aV func58 zXk rfl fun E hE=>ab 400 ?_
 simp (disch:=omega) only [ntmps58,results58,go_sem,seval]
 refine ao (qU [0,9]) zXk (qC) zXk (aa 400 ?_)
 simp (disch:=omega) only [go_sem,seval]
 refine⟨qC,ab 400 ?_⟩
 try simp (disch:=omega) only [go_sem,seval]
 refine aO (qI 0 22++qI 0 21) (qC) _ zXg zF zF ?_
 simp (disch:=omega) only [go_sem,seval]
theorem C_ (w:WorldD) (side many:Int) (p:Nat) (text:List UInt8) (ad:AddrD) (le:LetterD) (hw:SmallD w):
  aP 58 [.sc (.pt 21 0 0),.ag (ActD.cs ⟨10,side,(p:Nat),many,text,ad,le⟩)] (w.hp true++[some ⟨[w.cs 0],61,60,true,false⟩]) (.sc (.int .i64 (bg w ⟨10,side,(p:Nat),many,text,ad,le⟩).2))
  ((nH 21++[some ⟨[WorldD.cs (bg w ⟨10,side,(p:Nat),many,text,ad,le⟩).1 22],61,60,true,false⟩])++WorldD.hp (bg w ⟨10,side,(p:Nat),many,text,ad,le⟩).1 true):=by
 have hbag:=hw.p.s.bag
 have hpast:=hw.p.s.past
 obtain⟨R,hR⟩:∃ R,R=bg w ⟨10,side,(p:Nat),many,text,ad,le⟩:=⟨_,rfl⟩
 rw [<-hR]
 by_cases hp:p < w.bag.length/\¬ 40<=w.bag.length
 ·obtain⟨hp,h4⟩:=hp
  rw [KY hp h4] at hR
  have hx:=aC (enc:=LetterD.cs) hp
  generalize hxx:w.bag[p]=x at*
  subst hR
  dsimp only
  refine aV func58 zXk rfl fun E hE=>ab 400 ?_
  simp (disch:=omega) only [ntmps58,results58,go_sem,seval]
  refine ao (qU [0,9]) zXk (qC) zXk (aa 400 ?_)
  simp (disch:=omega) only [go_sem,seval]
  refine⟨qC,ab 400 ?_⟩
  try simp (disch:=omega) only [go_sem,seval]
  refine ao (qU [0,18]) zXk (qC) zXk (aa 400 ?_)
  simp (disch:=omega) only [go_sem,seval]
  refine⟨qC,ab 400 ?_⟩
  try simp (disch:=omega) only [go_sem,seval,hx,hxx]
  refine aO (qI 0 22++qI 0 14++qI 24 1++qI 15 6) (qC) _ zXg zF zF ?_
  simp (disch:=omega) only [go_sem,seval]
  simp [LetterD.cs]
 rw [KX zO] at hR
 subst hR
 dsimp only
 by_cases hq:p < w.bag.length
 ·have h4:40<=w.bag.length:=zO
  refine aV func58 zXk rfl fun E hE=>ab 400 ?_
  simp (disch:=omega) only [ntmps58,results58,go_sem,seval]
  refine ao (qU [0,9]) zXk (qC) zXk (aa 400 ?_)
  simp (disch:=omega) only [go_sem,seval]
  refine⟨qC,ab 400 ?_⟩
  try simp (disch:=omega) only [go_sem,seval]
  refine aO (qI 0 22++qI 0 21) (qC) _ zXg zF zF ?_
  simp (disch:=omega) only [go_sem,seval]
 refine aV func58 zXk rfl fun E hE=>ab 400 ?_
 simp (disch:=omega) only [ntmps58,results58,go_sem,seval]
 refine ao (qU [0,9]) zXk (qC) zXk (aa 400 ?_)
 simp (disch:=omega) only [go_sem,seval]
 refine⟨qC,ab 400 ?_⟩
 try simp (disch:=omega) only [go_sem,seval]
 refine aO (qI 0 22++qI 0 21) (qC) _ zXg zF zF ?_
 simp (disch:=omega) only [go_sem,seval]
theorem Da (w:WorldD) (side many:Int) (p:Int) (text:List UInt8) (ad:AddrD) (le:LetterD) (hw:SmallD w):
  aP 58 [.sc (.pt 21 0 0),.ag (ActD.cs ⟨11,side,p,many,text,ad,le⟩)] (w.hp true++[some ⟨[w.cs 0],61,60,true,false⟩]) (.sc (.int .i64 (bg w ⟨11,side,p,many,text,ad,le⟩).2))
  ((nH 21++[some ⟨[WorldD.cs (bg w ⟨11,side,p,many,text,ad,le⟩).1 22],61,60,true,false⟩])++WorldD.hp (bg w ⟨11,side,p,many,text,ad,le⟩).1 true):=by
 have hbag:=hw.p.s.bag
 have hpast:=hw.p.s.past
 obtain⟨R,hR⟩:∃ R,R=bg w ⟨11,side,p,many,text,ad,le⟩:=⟨_,rfl⟩
 rw [<-hR]
 cases hm:eK w le with
 |false=>
  rw [KZ hm] at hR
  subst hR
  dsimp only
  have hM:=lg w le hw.p.s.keys hw.p.s.tags hw.p.s.nums
  rw [hm] at hM
  refine aV func58 zXk rfl fun E hE=>ab 400 ?_
  simp (disch:=omega) only [ntmps58,results58,go_sem,seval]
  refine ao (qU [0,9]) zXk (qC) zXk (aa 400 ?_)
  simp (disch:=omega) only [go_sem,seval]
  refine⟨qC,ab 400 ?_⟩
  try simp (disch:=omega) only [go_sem,seval]
  refine ao (qU [0,7]) zXk (qC) zXk (aa 400 ?_)
  simp (disch:=omega) only [go_sem,seval]
  refine ak (qC) (hM) (qI 0 21) qM zF zF (aa 400 ?_)
  simp (disch:=omega) only [go_sem,seval]
  refine⟨qC,ab 400 ?_⟩
  try simp (disch:=omega) only [go_sem,seval]
  refine aO (qI 0 22++qI 0 21) (qC) _ zXg zF zF ?_
  simp (disch:=omega) only [go_sem,seval]
 |true=>
  by_cases h4:40<=w.bag.length
  ·rw [K0 hm h4] at hR
   subst hR
   dsimp only
   have hM:=lg w le hw.p.s.keys hw.p.s.tags hw.p.s.nums
   rw [hm] at hM
   refine aV func58 zXk rfl fun E hE=>ab 400 ?_
   simp (disch:=omega) only [ntmps58,results58,go_sem,seval]
   refine ao (qU [0,9]) zXk (qC) zXk (aa 400 ?_)
   simp (disch:=omega) only [go_sem,seval]
   refine⟨qC,ab 400 ?_⟩
   try simp (disch:=omega) only [go_sem,seval]
   refine ao (qU [0,7]) zXk (qC) zXk (aa 400 ?_)
   simp (disch:=omega) only [go_sem,seval]
   refine ak (qC) (hM) (qI 0 21) qM zF zF (aa 400 ?_)
   simp (disch:=omega) only [go_sem,seval]
   refine⟨qC,ab 400 ?_⟩
   try simp (disch:=omega) only [go_sem,seval]
   refine aO (qI 0 22++qI 0 21) (qC) _ zXg zF zF ?_
   simp (disch:=omega) only [go_sem,seval]
  rw [K1 hm h4] at hR
  subst hR
  dsimp only
  have hM:=lg w le hw.p.s.keys hw.p.s.tags hw.p.s.nums
  rw [hm] at hM
  refine aV func58 zXk rfl fun E hE=>ab 400 ?_
  simp (disch:=omega) only [ntmps58,results58,go_sem,seval]
  refine ao (qU [0,9]) zXk (qC) zXk (aa 400 ?_)
  simp (disch:=omega) only [go_sem,seval]
  refine⟨qC,ab 400 ?_⟩
  try simp (disch:=omega) only [go_sem,seval]
  refine ao (qU [0,7]) zXk (qC) zXk (aa 400 ?_)
  simp (disch:=omega) only [go_sem,seval]
  refine ak (qC) (hM) (qI 0 21) qM zF zF (aa 400 ?_)
  simp (disch:=omega) only [go_sem,seval]
  refine⟨qC,ab 400 ?_⟩
  try simp (disch:=omega) only [go_sem,seval]
  refine ao (qU [0,12]) zXk (qC) zXk (aa 400 ?_)
  simp (disch:=omega) only [go_sem,seval]
  refine⟨qC,ab 400 ?_⟩
  try simp (disch:=omega) only [go_sem,seval]
  refine aO (qI 0 22++qI 0 14++qI 24 1++qI 15 6) (qC) _ zXg zF zF ?_
  simp (disch:=omega) only [go_sem,seval]
  simp [LetterD.cs]
theorem Db (w:WorldD) (side many:Int) (p:Nat) (text:List UInt8) (ad:AddrD) (le:LetterD) (hw:SmallD w):
  aP 58 [.sc (.pt 21 0 0),.ag (ActD.cs ⟨12,side,(p:Nat),many,text,ad,le⟩)] (w.hp true++[some ⟨[w.cs 0],61,60,true,false⟩]) (.sc (.int .i64 (bg w ⟨12,side,(p:Nat),many,text,ad,le⟩).2))
  ((nH 21++[some ⟨[WorldD.cs (bg w ⟨12,side,(p:Nat),many,text,ad,le⟩).1 22],61,60,true,false⟩])++WorldD.hp (bg w ⟨12,side,(p:Nat),many,text,ad,le⟩).1 true):=by
 have hbag:=hw.p.s.bag
 have hpast:=hw.p.s.past
 obtain⟨R,hR⟩:∃ R,R=bg w ⟨12,side,(p:Nat),many,text,ad,le⟩:=⟨_,rfl⟩
 rw [<-hR]
 by_cases hp:p < w.past.length
 ·have hx:=aC (enc:=LetterD.cs) hp
  have hq1:= @K3 w side many p text ad le hp
  have hq2:= @K4 w side many p text ad le hp
  rw [<-hR] at hq1 hq2
  generalize hxx:w.past[p]=x at*
  have hS:=fe x.to
  have hSb:=mi x.to
  generalize bj x.to=sd at*
  by_cases h0:sd=0
  ·rw [hq1 (.inl h0)]
   dsimp only
   refine aV func58 zXk rfl fun E hE=>ab 400 ?_
   simp (disch:=omega) only [ntmps58,results58,go_sem,seval]
   refine ao (qU [0,9]) zXk (qC) zXk (aa 400 ?_)
   simp (disch:=omega) only [go_sem,seval]
   refine⟨qC,ab 400 ?_⟩
   try simp (disch:=omega) only [go_sem,seval]
   refine ao (qU [0,24]) zXk (qC) zXk (aa 400 ?_)
   simp (disch:=omega) only [go_sem,seval]
   try simp (disch:=omega) only [go_sem,hx,hxx]
   refine ak (qC) (hS) [] qM zF zF (aa 400 ?_)
   simp (disch:=omega) only [go_sem,seval]
   refine⟨qC,ab 400 ?_⟩
   try simp (disch:=omega) only [go_sem,seval,hx,hxx]
   refine aO (qI 0 22++qI 0 21) (qC) _ zXg zF zF ?_
   simp (disch:=omega) only [go_sem,seval]
  by_cases h4:40<=w.bag.length
  ·rw [hq1 (.inr h4)]
   dsimp only
   refine aV func58 zXk rfl fun E hE=>ab 400 ?_
   simp (disch:=omega) only [ntmps58,results58,go_sem,seval]
   refine ao (qU [0,9]) zXk (qC) zXk (aa 400 ?_)
   simp (disch:=omega) only [go_sem,seval]
   refine⟨qC,ab 400 ?_⟩
   try simp (disch:=omega) only [go_sem,seval]
   refine ao (qU [0,24]) zXk (qC) zXk (aa 400 ?_)
   simp (disch:=omega) only [go_sem,seval]
   try simp (disch:=omega) only [go_sem,hx,hxx]
   refine ak (qC) (hS) [] qM zF zF (aa 400 ?_)
   simp (disch:=omega) only [go_sem,seval]
   refine⟨qC,ab 400 ?_⟩
   try simp (disch:=omega) only [go_sem,seval,hx,hxx]
   refine aO (qI 0 22++qI 0 21) (qC) _ zXg zF zF ?_
   simp (disch:=omega) only [go_sem,seval]
  rw [hq2 h0 h4]
  dsimp only
  refine aV func58 zXk rfl fun E hE=>ab 400 ?_
  simp (disch:=omega) only [ntmps58,results58,go_sem,seval]
  refine ao (qU [0,9]) zXk (qC) zXk (aa 400 ?_)
  simp (disch:=omega) only [go_sem,seval]
  refine⟨qC,ab 400 ?_⟩
  try simp (disch:=omega) only [go_sem,seval]
  refine ao (qU [0,24]) zXk (qC) zXk (aa 400 ?_)
  simp (disch:=omega) only [go_sem,seval]
  try simp (disch:=omega) only [go_sem,hx,hxx]
  refine ak (qC) (hS) [] qM zF zF (aa 400 ?_)
  simp (disch:=omega) only [go_sem,seval]
  refine⟨qC,ab 400 ?_⟩
  try simp (disch:=omega) only [go_sem,seval,hx,hxx]
  refine ao (qU [0,18]) zXk (qC) zXk (aa 400 ?_)
  simp (disch:=omega) only [go_sem,seval]
  refine⟨qC,ab 400 ?_⟩
  try simp (disch:=omega) only [go_sem,seval,hx,hxx]
  refine aO (qI 0 22++qI 0 14++qI 24 1++qI 15 6) (qC) _ zXg zF zF ?_
  simp (disch:=omega) only [go_sem,seval]
  simp [LetterD.cs]
 rw [K2 hp] at hR
 subst hR
 dsimp only
 refine aV func58 zXk rfl fun E hE=>ab 400 ?_
 simp (disch:=omega) only [ntmps58,results58,go_sem,seval]
 refine ao (qU [0,9]) zXk (qC) zXk (aa 400 ?_)
 simp (disch:=omega) only [go_sem,seval]
 refine⟨qC,ab 400 ?_⟩
 try simp (disch:=omega) only [go_sem,seval]
 refine ao (qU [0,24]) zXk (qC) zXk (aa 400 ?_)
 simp (disch:=omega) only [go_sem,seval]
 refine⟨qC,ab 400 ?_⟩
 try simp (disch:=omega) only [go_sem,seval]
 refine aO (qI 0 22++qI 0 21) (qC) _ zXg zF zF ?_
 simp (disch:=omega) only [go_sem,seval]
theorem K7 {k:Nat} {g:PpS} {x:PieceD} (h:PpI k g) (hk:k<=20) (hx:x.text.length<=200/\0<=x.pos/\x.pos<=2000000000):PpI (k+1) (mV g x):=by
 rw [mV];split
 ·exact Bl h hx.1
 split
 ·cases hl:g.laid with
  |true=>simp only [if_true];exact x_ h hl hx.1
  |false=>simp only [Bool.false_eq_true,if_false];exact ya h hk hl hx.1
 exact EA h hx.1 hx.2.1 hx.2.2
theorem K8:∀ {l:List PieceD} {k:Nat} {g:PpS},PpI k g->k+l.length<=20->(∀ x∈l,x.text.length<=200/\0<=x.pos/\x.pos<=2000000000)->PpI (k+l.length) (qz g l)
 |[],k,g,h,_,_=>h
 |x::r,k,g,h,hk,hx=>by
  simp only [Qf] at hk⊢
  have:=K8 (l:=r) (K7 h zO (hx x zP)) zO (fun y hy=>hx y (by simp [hy]))
  rw [show k+(r.length+1)=k+1+r.length by omega]
  exact this
theorem MH {k:Nat} {g:PpS} (h:PpI k g) (hk:k<=20):(∀ z∈nC g,z.text.length<=5000)/\(nC g).length<=100:=by
 have ho:=h.own
 have ha:=h.acc
 rw [nC];split
 ·refine⟨h.texts,?_⟩
  split at ha<;>omega
 refine⟨fun z hz=>?_,?_⟩
 ·rcases Qe.1 hz with hz|hz
  ·exact h.texts z hz
  simp only [Qb] at hz;subst hz;omega
 simp only [P6,Qg]
 split at ha<;>omega
theorem vC {p:PiecesD} {n:Int} {t:List UInt8} (hs:SmallP p) (hp:piecesOk p=true) (h0:0<=n) (h1:n<=2000000000) (ht:t.length<=200):SmallP (vn p n t):=by
 have F:=dX hp hs
 have hI:=K8 (l:=p.list) (oz h0 h1 ht) (by have:=F.list;omega) F.texts
 obtain⟨h2,h3⟩:=MH hI (by have:=F.list;omega)
 rw [vn]
 generalize nC (qz ⟨⟨n,t⟩,false,[]⟩ p.list)=l at h2 h3
 rw [pY];split
 ·have hr:=F.ready
  rw [vm]
  cases l with
  |nil=>split<;>exact⟨zP,by simp [List.headD];first|omega|exact hs.ready,zP⟩
  |cons y r=>
   have hy:=h2 y zP
   simp only [Qf] at h3
   split
   ·exact⟨by simp only [List.tail_cons];omega,by simp only [List.headD_cons,P6];omega,fun z hz=>by have:=h2 z (Qx _ hz);omega⟩
   exact⟨by simp only [Qf];omega,by dsimp only;omega,fun z hz=>by have:=h2 z hz;omega⟩
 exact hs
theorem y8 {p:PiecesD} {n:Int} {t:List UInt8} (hs:SmallP p):SmallP (cz p n t):=by
 rw [cz];split
 ·rename_i h
  simp only [x9,fv,bU,zk,decide_eq_true_eq] at h
  obtain⟨⟨hp,hn⟩,ht⟩:=h
  split
  ·exact hs
  split
  ·have F:=dX hp hs
   have hr:=F.ready
   have:=F.next
   have:=F.r0
   have:=F.r1
   exact vC hs hp zO zO (by rw [P9];omega)
  exact vC hs hp zO zO zO
 exact hs
structure GoodE (e:EndD):Prop where
 s:Small e
 p:SmallP e.inp
 o:e.out.text.length<=1048576
theorem K9 (o:OutD) (n:Int):(came o n).text.length<=o.text.length:=by
 rw [came];split
 ·simp only [P9];omega
 exact QD _
theorem I6 {e:EndD} {x:LetterD} (h:GoodE e):GoodE (cR e x).1:=by
 have io:(cR e x).1.inp=e.inp/\(cR e x).1.out=e.out\/SmallP (cR e x).1.inp/\(cR e x).1.out.text.length<=1048576:=by
  refine sQ (Q:=fun r=>r.1.inp=e.inp/\r.1.out=e.out\/SmallP r.1.inp/\r.1.out.text.length<=1048576) (.inl ⟨rfl,rfl⟩) ?_ ?_ ?_ ?_ ?_ ?_ ?_ ?_ ?_ ?_ ?_ ?_
  ·unfold aW;repeat' split
   all_goals exact .inl ⟨rfl,rfl⟩
  ·unfold bE;repeat' split
   all_goals exact .inl ⟨rfl,rfl⟩
  ·unfold cc;repeat' split
   all_goals exact .inl ⟨rfl,rfl⟩
  ·unfold ba;repeat' split
   all_goals exact .inl ⟨rfl,rfl⟩
  ·unfold aH;repeat' split
   all_goals exact .inl ⟨rfl,rfl⟩
  ·unfold bl;dsimp only;split
   all_goals exact .inl ⟨rfl,rfl⟩
  ·unfold cv;repeat' split
   all_goals exact .inl ⟨rfl,rfl⟩
  ·unfold cx;dsimp only;split
   all_goals exact .inl ⟨rfl,rfl⟩
  ·unfold cy;dsimp only;split
   all_goals exact .inl ⟨rfl,rfl⟩
  ·unfold cA;split
   ·exact .inr ⟨y8 h.p,h.o⟩
   exact .inl ⟨rfl,rfl⟩
  ·unfold cm;dsimp only;split
   ·exact .inr ⟨h.p,Qj (K9 _ _) h.o⟩
   exact .inl ⟨rfl,rfl⟩
  unfold bP;dsimp only;split
  all_goals exact .inl ⟨rfl,rfl⟩
 rcases io with⟨h1,h2⟩|⟨h1,h2⟩
 ·exact⟨jE h.s,by rw [h1];exact h.p,by rw [h2];exact h.o⟩
 exact⟨jE h.s,h1,h2⟩
theorem GoodE.io {e e':EndD} (h:GoodE e) (hs:Small e') (hi:e'.inp=e.inp) (ho:e'.out.text=e.out.text):GoodE e':=⟨hs,by rw [hi];exact h.p,by rw [ho];exact h.o⟩
theorem Gq {k:Nat} {e:EndD} (h:GoodE e):GoodE (dP k e).1:=h.io (j_ h.s) o_ m5
theorem I7 (e:EndD) (t:List UInt8):(write e t).1.inp=e.inp:=by rw [write];split<;>rfl
theorem Ap {e:EndD} {t:List UInt8} (h:GoodE e):GoodE (aY e t).1:=by
 rw [aY]
 exact Gq ⟨vz h.s,by rw [I7];exact h.p,li h.o⟩
theorem Gr {p:PiecesD} {m:Int} (h:SmallP p):SmallP (cr p m).1:=by
 rw [cr];split
 ·exact⟨h.list,by have:=h.ready;simp only [P9];omega,h.texts⟩
 exact h
theorem Gs {e:EndD} {m:Int} (h:GoodE e):GoodE (bJ e m).1:=by
 have hs:=kc (m:=m) h.s
 rw [bJ] at hs⊢;split at hs
 ·rename_i hk;rw [if_pos hk];exact⟨hs,Gr h.p,h.o⟩
 rename_i hk;rw [if_neg hk];exact h
theorem BC (o:OutD):(gK o).text=o.text:=by rw [gK];split<;>rfl
theorem I8 {e:EndD} (h:GoodE e):GoodE (tick e).1:=by
 have hs:=lh h.s
 refine h.io hs ?_ ?_
 ·rw [tick];split
  ·split
   ·rw [dM];exact o_
   rw [dM];exact o_
  rfl
 rw [tick];split
 ·split
  ·rw [dM];exact m5.trans (BC _)
  rw [dM];exact m5.trans (BC _)
 rfl
theorem MI (e:EndD) (r:RoadD) (b:Bool):(gM e r b).1.inp=e.inp/\(gM e r b).1.out=e.out:=by rw [gM];split<;>exact⟨rfl,rfl⟩
theorem E9 {far:List AddrD}:∀ {l:List RoadD} {e:EndD},(il far e l).1.inp=e.inp/\(il far e l).1.out=e.out
 |[],e=>⟨rfl,rfl⟩
 |r::l,e=>by
  have h1:=MI e r (bW far r.far)
  have h2:=E9 (far:=far) (l:=l) (e:=(gM e r (bW far r.far)).1)
  exact⟨h2.1.trans h1.1,h2.2.trans h1.2⟩
theorem E_ {e:EndD} (h:GoodE e):GoodE (manage e).1:=by
 have hs:=jg h.s
 have hio:(manage e).1.inp=e.inp/\(manage e).1.out=e.out:=by
  rw [manage];split
  ·exact E9
  exact⟨rfl,rfl⟩
 exact h.io hs hio.1 (by rw [hio.2])
theorem Fa {e:EndD} {a:AddrD} (h:GoodE e):GoodE (aK e a).1:=by
 refine h.io (eA h.s) ?_ ?_<;>(rw [aK];split<;>rfl)
theorem Fb {e:EndD} {k:Int} (h:GoodE e):GoodE (bI e k).1:=by
 refine h.io (jf h.s) ?_ ?_<;>(rw [bI];split<;>rfl)
theorem Dh {e:EndD} {n:Int} (h:GoodE e):GoodE (bf e n).1:=by
 refine h.io (im h.s) ?_ ?_<;>(rw [bf];split<;>rfl)
theorem I9 {e:EndD} {a:ActD} (h:GoodE e):GoodE (kC e a).1:=by
 rw [kC]
 split
 ·exact Ap h
 split
 ·exact Gs h
 split
 ·exact I8 h
 split
 ·exact E_ h
 split
 ·exact Fa h
 split
 ·exact Dh h
 exact Fb h
structure GoodW (w:WorldD) (k:Nat):Prop where
 a:GoodE w.a
 b:GoodE w.b
 r:SmallP2 w
 wa:w.wroteA.length<=2000000*k
 wb:w.wroteB.length<=2000000*k
 ra:w.readA.length<=2000000*k
 rb:w.readB.length<=2000000*k
theorem GoodW.s {w:WorldD} {k:Nat} (h:GoodW w k):SmallW w:=⟨h.a.s,h.b.s,h.r.bag,h.r.past,h.r.keys,h.r.tags,h.r.nums,h.r.ansA,h.r.ansB⟩
theorem GoodW.d {w:WorldD} {k:Nat} (h:GoodW w k) (hk:k<=1000):SmallD w:=
 ⟨⟨h.s,h.a.p,h.b.p⟩,⟨by have:=h.wa;omega,by have:=h.wb;omega,by have:=h.ra;omega,by have:=h.rb;omega⟩,h.a.o,h.b.o⟩
theorem GoodW.up {w:WorldD} {k:Nat} (h:GoodW w k):GoodW w (k+1):=⟨h.a,h.b,h.r,by have:=h.wa;omega,by have:=h.wb;omega,by have:=h.ra;omega,by have:=h.rb;omega⟩
theorem vD {side:Int}:∀ {l:List LetterD} {w:WorldD},(ay side w l).a=w.a/\(ay side w l).b=w.b/\(ay side w l).wroteA=w.wroteA/\(ay side w l).wroteB=w.wroteB/\(ay side w l).readA=w.readA/\(ay side w l).readB=w.readB
 |[],w=>⟨rfl,rfl,rfl,rfl,rfl,rfl⟩
 |x::l,w=>by
  obtain⟨h1,h2,h3,h4,h5,h6⟩:=vD (side:=side) (l:=l) (w:=dS side w x)
  obtain⟨g1,g2,g3,g4,g5,g6⟩:=yh (side:=side) (w:=w) (x:=x)
  exact⟨h1.trans g1,h2.trans g2,h3.trans g3,h4.trans g4,h5.trans g5,h6.trans g6⟩
theorem y9 {side:Int} {l:List LetterD} {w:WorldD} {k:Nat} (h:GoodW w k):GoodW (ay side w l) k:=by
 obtain⟨h1,h2,h3,h4,h5,h6⟩:=vD (side:=side) (l:=l) (w:=w)
 exact⟨by rw [h1];exact h.a,by rw [h2];exact h.b,vr h.r,by rw [h3];exact h.wa,by rw [h4];exact h.wb,by rw [h5];exact h.ra,by rw [h6];exact h.rb⟩
theorem vE {w:WorldD} {s:Int} {e:EndD} {k:Nat} (h:GoodW w k) (he:GoodE e):GoodW (cN w s e) k:=by
 unfold cN;split
 ·exact⟨he,h.b,⟨h.r.bag,h.r.past,h.r.keys,h.r.tags,h.r.nums,h.r.ansA,h.r.ansB⟩,h.wa,h.wb,h.ra,h.rb⟩
 exact⟨h.a,he,⟨h.r.bag,h.r.past,h.r.keys,h.r.tags,h.r.nums,h.r.ansA,h.r.ansB⟩,h.wa,h.wb,h.ra,h.rb⟩
theorem Di:GoodE di:=⟨⟨by decide,by decide,by decide,by decide,by decide,by decide,by decide⟩,⟨by decide,by decide,fun x hx=>by simp [di] at hx⟩,by decide⟩
theorem rk {w:WorldD} {s:Int} {k:Nat} (h:GoodW w k):GoodE (cV w s):=by
 unfold cV;repeat' split
 ·exact h.a
 ·exact h.b
 exact Di
theorem Fc {side:Int} {l:List LetterD} {w:WorldD} {k:Nat} (h:GoodW w k):GoodW (yg w side l) k:=by
 rw [yg];split
 ·exact y9 h
 exact h
theorem Gt {w:WorldD} {x:LetterD} {k:Nat} (h:GoodW w k):GoodW (ik w x) k:=by
 rw [ik];split
 ·exact h
 exact Fc (vE h (I6 (rk h)))
theorem y_ {w:WorldD} {b:List LetterD} {k:Nat} (h:GoodW w k) (hb:b.length<=1048576):GoodW { w with bag:=b } k:=
 ⟨h.a,h.b,⟨hb,h.r.past,h.r.keys,h.r.tags,h.r.nums,h.r.ansA,h.r.ansB⟩,h.wa,h.wb,h.ra,h.rb⟩
theorem Gu (l:List LetterD) (n:Int) (h:l.length<=1048576):(jd l n).length<=1048576:=by
 simp only [jd,P6,P_,P9];omega
theorem I_ {w:WorldD} {a:ActD} {k:Nat} (h:GoodW w k) (ha:a.text.length<=1048576):GoodW (ld w a) (k+1):=by
 have hr:=mn (m:=a.many) (rk (s:=a.side) h).p
 have h1:=h.wa
 have h2:=h.wb
 have h3:=h.ra
 have h4:=h.rb
 have hu:=h.up
 unfold ld gr dj;repeat' split
 ·exact⟨h.a,h.b,⟨h.r.bag,h.r.past,h.r.keys,h.r.tags,h.r.nums,h.r.ansA,h.r.ansB⟩,by simp only [P6,P_];omega,hu.wb,hu.ra,hu.rb⟩
 ·exact⟨h.a,h.b,⟨h.r.bag,h.r.past,h.r.keys,h.r.tags,h.r.nums,h.r.ansA,h.r.ansB⟩,hu.wa,by simp only [P6,P_];omega,hu.ra,hu.rb⟩
 ·exact⟨h.a,h.b,⟨h.r.bag,h.r.past,h.r.keys,h.r.tags,h.r.nums,h.r.ansA,h.r.ansB⟩,hu.wa,hu.wb,by simp only [P6];omega,hu.rb⟩
 ·exact⟨h.a,h.b,⟨h.r.bag,h.r.past,h.r.keys,h.r.tags,h.r.nums,h.r.ansA,h.r.ansB⟩,hu.wa,hu.wb,hu.ra,by simp only [P6];omega⟩
 exact hu
theorem ni {w:WorldD} {a:ActD} {k:Nat} (h:GoodW w k) (ha:a.text.length<=1048576):GoodW (d_ w a).1 (k+1):=by
 have hb:=Gu w.bag a.pos h.r.bag
 have hl:=h.r.bag
 unfold d_;split
 ·split
  ·unfold bb;split
   ·exact h.up
   exact y9 (vE (I_ h ha) (I9 (rk h)))
  unfold bg;repeat' split
  all_goals first
   |exact h.up
   |exact (Gt (y_ h hb)).up
   |exact (y_ h hb).up
   |exact (y_ h (by simp only [P6,Qg];omega)).up
 exact h.up
def N9 (n:Int):Prop:=0<=n/\n<=1000000000
theorem Ld {n:Int}:fv n=true↔N9 n:=by simp [fv,N9]
theorem fC {n a b:Int}:bU n a b=true↔a<=n/\n<=b:=by simp [bU]
def RN (r:RoadD):Prop:=N9 r.own/\N9 r.far/\N9 r.port
theorem uy {r:RoadD}:oh r=true↔RN r:=by simp [oh,RN,Ld,and_assoc]
theorem fX {a b:RoadD}:ew a b=true↔a=b:=⟨uk,fun h=>by subst h;simp [ew]⟩
theorem BI {α:Type} {p:α->Bool}:∀ {l:List α} {k j:Nat},eD p k l=((k+j:Nat):Int)↔∃ h:j < l.length,p l[j]=true/\∀ (i:Nat) (hi:i < j),p (l[i]' zO)=false
 |[],k,j=>by
  rw [eD]
  constructor
  ·intro h;omega
  rintro⟨h,_⟩;simp at h
 |a::r,k,j=>by
  rw [eD]
  by_cases hp:p a=true
  ·rw [if_pos hp]
   constructor
   ·intro h
    obtain rfl:j=0:=zO
    exact⟨zP,hp,fun i hi=>by omega⟩
   rintro⟨h,h1,h2⟩
   rcases j with _|j
   ·simp
   have:=h2 0 zO
   simp only [Qw] at this
   rw [hp] at this
   cases this
  rw [if_neg hp]
  have hp':p a=false:=by simpa using hp
  rcases j with _|j
  ·constructor
   ·intro h
    rcases sf (p:=p) (l:=r) (k:=k+1) with h'|h'<;>omega
   rintro⟨h,h1,_⟩
   simp only [Qw] at h1
   exact absurd h1 hp
  rw [show k+(j+1)=(k+1)+j by omega,BI (l:=r)]
  constructor
  ·rintro⟨h,h1,h2⟩
   refine⟨by simp;omega,by simpa using h1,fun i hi=>?_⟩
   rcases i with _|i
   ·simpa using hp'
   simpa using h2 i zO
  rintro⟨h,h1,h2⟩
  refine⟨by simpa using h,by simpa using h1,fun i hi=>?_⟩
  have:=h2 (i+1) zO
  simpa using this
theorem mq {α:Type} {p:α->Bool} {l:List α} {j:Nat}:km p l=(j:Int)↔∃ h:j < l.length,p l[j]=true/\∀ (i:Nat) (hi:i < j),p (l[i]' zO)=false:=by
 have:=BI (p:=p) (l:=l) (k:=0) (j:=j)
 rw [Nat.zero_add] at this
 exact this
theorem BJ {α:Type} {p:α->Bool}:∀ {l:List α} {k:Nat},eD p k l < 0↔∀ x∈l,p x=false
 |[],k=>by simp [eD]
 |a::r,k=>by
  rw [eD]
  by_cases hp:p a=true
  ·rw [if_pos hp]
   constructor
   ·intro h;omega
   intro h;rw [h a zP] at hp;cases hp
  rw [if_neg hp,BJ (l:=r)]
  constructor
  ·intro h x hx
   rcases Qp.1 hx with rfl|hx
   ·simpa using hp
   exact h x hx
  intro h x hx;exact h x (Qx _ hx)
theorem BK {α:Type} {p:α->Bool} {l:List α}:km p l < 0↔∀ x∈l,p x=false:=BJ
theorem pv {α:Type} {p:α->Bool} {l:List α} (h:0<=km p l):∃ n:Nat,km p l=(n:Int):=⟨(km p l).toNat,zO⟩
theorem wy {α:Type} (l:List α) (n:Nat):(l.take n++l.drop (n+1)).Sublist l:=by
 rw [<-List.eraseIdx_eq_take_drop_succ]
 exact List.eraseIdx_sublist ..
def AdR (a b:AddrD):Prop:=a.id < b.id/\¬ a.addr=b.addr
def AdE (a:AddrD):Prop:=(0<=a.id/\a.id<=255)/\1<=a.addr/\a.addr<=65535
structure AdOk (l:List AddrD):Prop where
 len:l.length<=6
 el:∀ a∈l,AdE a
 pw:l.Pairwise AdR
theorem oL {l:List AddrD}:cd l=true↔AdOk l:=by
 simp only [cd,zk,decide_eq_true_eq]
 constructor
 ·rintro⟨h1,h2⟩
  have he:∀ (j:Nat) (hj:j < l.length),AdE l[j]/\(∀ i,i+1=j->(LH l i).id < l[j].id)/\∀ b∈l.take j,¬ l[j].addr=b.addr:=by
   intro j hj
   have:=jS h2 hj
   simp only [ig,lU hj,zk,fC,Qh,beq_iff_eq,decide_eq_true_eq,Ql,Qk,beq_eq_false_iff_ne] at this
   obtain⟨⟨⟨a1,a2⟩,a3⟩,a4⟩:=this
   refine⟨⟨a1,a2⟩,fun i hi=>?_,a4⟩
   rcases a3 with a3|a3
   ·omega
   subst hi;simpa using a3
  have hid:∀ (j i:Nat) (hj:j < l.length) (hi:i < j),l[i].id < l[j].id:=by
   intro j
   induction j with
   |zero=>intro i hj hi;omega
   |succ j ih=>
    intro i hj hi
    have h3:=(he (j+1) hj).2.1 j rfl
    rw [lU zO] at h3
    by_cases hij:i=j
    ·subst hij;exact h3
    have:=ih i zO zO;omega
  refine⟨zO,fun a ha=>?_,?_⟩
  ·obtain⟨j,hj,rfl⟩:=Qa ha
   exact (he j hj).1
  rw [zG]
  intro i j hi hj hij
  refine⟨hid j i hj hij,fun hc=>?_⟩
  refine (he j hj).2.2 l[i] ?_ hc.symm
  rw [Qi]
  exact⟨i,zO,rfl⟩
 rintro⟨h1,h2,h3⟩
 rw [zG] at h3
 refine⟨zO,dG fun j hj=>?_⟩
 have hm:=h2 l[j] (P7 hj)
 simp only [ig,lU hj,zk,fC,Qh,beq_iff_eq,decide_eq_true_eq,Ql,Qk,beq_eq_false_iff_ne]
 refine⟨⟨⟨hm.1,hm.2⟩,?_⟩,fun b hb=>?_⟩
 ·rcases QB j with h0|h0
  ·exact .inl h0
  refine .inr ?_
  rw [lU zO]
  exact (h3 (j - 1) j zO hj zO).1
 rw [Qi] at hb
 obtain⟨i,hi,rfl⟩:=hb
 exact fun hc=>(h3 i j zO hj zO).2 hc.symm
theorem AdOk.sub {l m:List AddrD} (h:AdOk l) (s:m.Sublist l):AdOk m:=⟨Qj s.length_le h.len,fun a ha=>h.el a (s.subset ha),h.pw.sublist s⟩
theorem AdOk.drop {l:List AddrD} {n:Int} (h:AdOk l):AdOk (bC l n).1:=by
 rw [bC];split
 ·exact h
 exact h.sub (wy l _)
theorem AdOk.put {l:List AddrD} {a:AddrD} (h:AdOk l):AdOk (bu l a).1:=by
 rw [bu];split
 ·rename_i hk;exact oL.1 hk
 exact h
theorem AdOk.pt {l m:List AddrD} (h:AdOk l) (hl:m.length=l.length) (hp:∀ (i:Nat) (h1:i < m.length) (h2:i < l.length),m[i].id=l[i].id/\m[i].addr=l[i].addr):AdOk m:=by
 refine⟨by rw [hl];exact h.len,fun a ha=>?_,?_⟩
 ·obtain⟨j,hj,rfl⟩:=Qa ha
  obtain⟨e1,e2⟩:=hp j hj zO
  have:=h.el l[j] (P7 _)
  rw [AdE,e1,e2];exact this
 have hq:=h.pw
 rw [zG] at hq⊢
 intro i j hi hj hij
 obtain⟨e1,e2⟩:=hp i hi zO
 obtain⟨f1,f2⟩:=hp j hj zO
 have:=hq i j zO zO hij
 rw [AdR,e1,e2,f1,f2];exact this
theorem Dk {l:List AddrD} {n:Int} {a:AddrD} (h:a∈(bC l n).1):a∈l:=by
 rw [bC] at h;split at h
 ·exact h
 exact (wy l _).subset h
theorem Fh {l:List AddrD} {a b:AddrD} (h:b∈(bu l a).1):b=a\/b∈l:=by
 rw [bu] at h;split at h
 ·dsimp only at h
  rw [dA] at h;split at h
  ·rcases List.mem_or_eq_of_mem_set h with h|h
   ·exact .inr h
   exact .inl h
  rcases Qe.1 h with h|h
  ·rcases Qe.1 h with h|h
   ·exact .inr (Qy h)
   exact .inl (Qb.1 h)
  exact .inr (Qz h)
 exact .inr h
structure IdOk (l:List Int) (t:List AddrD):Prop where
 pw:l.Pairwise fun a b=>a < b
 el:∀ n∈l,(0<=n/\n<=255)/\∀ a∈t,¬ a.id=n
theorem nk {l:List Int} {n:Nat} (h:n < l.length):l.getD n 0=l[n]:=by rw [Qq,Qt h];rfl
theorem rl {l:List AddrD} {n:Int}:bs l n < 0↔∀ a∈l,¬ a.id=n:=by
 rw [bs,BK]
 simp
theorem Jf {l:List Int} {t:List AddrD}:pO l t=true↔IdOk l t:=by
 simp only [pO,zk]
 constructor
 ·rintro⟨h1,h2⟩
  have hc:∀ (j:Nat) (hj:j+1 < l.length),l[j] < l[j+1]:=by
   intro j hj
   have:=jS h1 hj
   simp only [dQ,Qh,beq_iff_eq,decide_eq_true_eq,Nat.add_sub_cancel,nk hj,nk (show j < l.length by omega)] at this
   rcases this with h|h
   ·omega
   exact h
  have hid:∀ (j i:Nat) (hj:j < l.length) (hi:i < j),l[i] < l[j]:=by
   intro j
   induction j with
   |zero=>intro i hj hi;omega
   |succ j ih=>
    intro i hj hi
    have h3:=hc j hj
    by_cases hij:i=j
    ·subst hij;exact h3
    have:=ih i zO zO;omega
  refine⟨?_,fun n hn=>?_⟩
  ·rw [zG]
   intro i j hi hj hij
   exact hid j i hj hij
  obtain⟨j,hj,rfl⟩:=Qa hn
  have:=jS h2 hj
  simp only [iP,zk,fC,decide_eq_true_eq,nk hj] at this
  exact⟨this.1,rl.1 this.2⟩
 rintro⟨h1,h2⟩
 rw [zG] at h1
 refine⟨dG fun j hj=>?_,dG fun j hj=>?_⟩
 ·simp only [dQ,Qh,beq_iff_eq,decide_eq_true_eq]
  rcases QB j with h0|h0
  ·exact .inl h0
  refine .inr ?_
  rw [nk hj,nk (show j - 1 < l.length by omega)]
  exact h1 (j - 1) j zO hj zO
 have:=h2 l[j] (P7 hj)
 simp only [iP,zk,fC,decide_eq_true_eq,nk hj]
 exact⟨this.1,rl.2 this.2⟩
theorem HU {α:Type} {p:α->Bool}:∀ (l:List α),l.take (l.takeWhile p).length=l.takeWhile p
 |[]=>rfl
 |a::r=>by
  rw [Qo];split
  ·rw [Qf,List.take_succ_cons,HU r]
  rfl
theorem HV {α:Type} {p:α->Bool}:∀ (l:List α),l.drop (l.takeWhile p).length=l.dropWhile p
 |[]=>rfl
 |a::r=>by
  rw [Qo,QA];split
  ·rename_i h
   rw [Qf,List.drop_succ_cons,HV r]
  rfl
theorem Lf {α:Type} {p:α->Bool}:∀ (l:List α),∀ x∈l.takeWhile p,p x=true
 |[],x,h=>by simp at h
 |a::r,x,h=>by
  rw [Qo] at h;split at h
  ·rename_i hp
   rcases Qp.1 h with rfl|h
   ·exact hp
   exact Lf r x h
  simp at h
theorem HW {α:Type} {p:α->Bool}:∀ {l r:List α} {y:α},l.dropWhile p=y::r->p y=false
 |[],r,y,h=>by simp at h
 |a::l,r,y,h=>by
  rw [QA] at h;split at h
  ·exact HW h
  rename_i hp
  injection h with h1 _
  rw [<-h1];simpa using hp
theorem Pg {l:List Int} {n:Int}:∀ x∈l.take (lV l n),x < n:=by
 intro x hx
 rw [lV,HU] at hx
 simpa using Lf l x hx
theorem Ph {l:List Int} {n:Int} (hp:l.Pairwise fun a b=>a < b):∀ x∈l.drop (lV l n),n<=x:=by
 have e:l.drop (lV l n)=l.dropWhile fun a=>decide (a < n):=by rw [lV,HV]
 have hq:(l.drop (lV l n)).Pairwise fun a b=>a < b:=hp.sublist (Qs _ _)
 rw [e] at hq⊢
 cases hd:l.dropWhile fun a=>decide (a < n) with
 |nil=>simp
 |cons y r=>
  rw [hd] at hq
  have hy:¬ y < n:=by simpa using HW hd
  intro x hx
  rcases Qp.1 hx with rfl|hx
  ·omega
  have:=(QC.1 hq).1 x hx;omega
theorem Lg {l:List Int} {n x:Int} (h:x∈jC l n):x=n\/x∈l:=by
 rw [jC] at h;split at h
 ·exact .inr h
 rcases Qe.1 h with h|h
 ·rcases Qe.1 h with h|h
  ·exact .inr (Qy h)
  exact .inl (Qb.1 h)
 exact .inr (Qz h)
theorem MK {l:List Int} {n:Int} (hp:l.Pairwise fun a b=>a < b):(jC l n).Pairwise fun a b=>a < b:=by
 rw [jC];split
 ·exact hp
 rename_i hn
 have h1:=Pg (l:=l) (n:=n)
 have h2:=Ph (n:=n) hp
 have h3:∀ x∈l.drop (lV l n),n < x:=by
  intro x hx
  have hx':=h2 x hx
  by_cases he:x=n
  ·exfalso
   have hq:(l.drop (lV l n)).Pairwise fun a b=>a < b:=hp.sublist (Qs _ _)
   by_cases hl:lV l n < l.length
   ·rw [List.drop_eq_getElem_cons hl] at hx hq h2
    rcases Qp.1 hx with hx|hx
    ·exact hn ⟨hl,by rw [nk hl,<-hx,he]⟩
    have:=(QC.1 hq).1 x hx
    have:=h2 l[lV l n] (List.mem_cons_self ..)
    omega
   rw [List.drop_eq_nil_of_le zO] at hx;simp at hx
  omega
 rw [Qn,Qn]
 refine⟨⟨hp.sublist (List.take_sublist _ _),Qv ..,fun a ha b hb=>?_⟩,hp.sublist (Qs _ _),fun a ha b hb=>?_⟩
 ·rw [Qb.1 hb];exact h1 a ha
 rcases Qe.1 ha with ha|ha
 ·have:=h1 a ha;have:=h3 b hb;omega
 rw [Qb.1 ha];exact h3 b hb
theorem IdOk.drop {l:List Int} {t:List AddrD} {n:Int} (h:IdOk l t) (ht:AdOk t) (hn:∃ a∈t,a.id=n):IdOk (jC l n) (bC t n).1:=by
 obtain⟨q,hq,hqn⟩:=hn
 refine⟨MK h.pw,fun x hx=>?_⟩
 rcases Lg hx with rfl|hx
 ·refine⟨by have:=(ht.el q hq).1;omega,fun a ha=>?_⟩
  have h0:¬ bs t x < 0:=fun hc=>rl.1 hc q hq hqn
  rw [bC,if_neg h0] at ha
  obtain⟨k,hk⟩:=pv (show 0<=km (fun a=>a.id == x) t by rw [bs] at h0;omega)
  obtain⟨hkl,hk1,_⟩:=mq.1 hk
  rw [bs,hk] at ha
  dsimp only at ha
  rw [P8] at ha
  have hpw:=ht.pw
  rw [zG] at hpw
  simp only [beq_iff_eq] at hk1
  rcases Qe.1 ha with ha|ha
  ·rw [Qi] at ha
   obtain⟨i,hi,rfl⟩:=ha
   have:=(hpw i k zO hkl zO).1
   omega
  rw [List.mem_drop_iff_getElem] at ha
  obtain⟨i,hi,rfl⟩:=ha
  have:=(hpw k (k+1+i) hkl zO zO).1
  omega
 have:=h.el x hx
 exact⟨this.1,fun a ha=>this.2 a (Dk ha)⟩
theorem IdOk.put {l:List Int} {t:List AddrD} {a:AddrD} (h:IdOk l t) (hn:¬ a.id∈l):IdOk l (bu t a).1:=by
 refine⟨h.pw,fun x hx=>?_⟩
 have:=h.el x hx
 refine⟨this.1,fun b hb=>?_⟩
 rcases Fh hb with rfl|hb
 ·exact fun hc=>hn (hc▸hx)
 exact this.2 b hb
def HaE (h:HalfD):Prop:=RN h.road/\N9 h.theirs/\N9 h.mine/\N9 h.give/\N9 h.take/\N9 h.till
structure HaOk (l:List HalfD):Prop where
 len:l.length<=4
 el:∀ h∈l,HaE h
 pw:l.Pairwise fun a b=>¬ a.road=b.road
theorem vL {l:List HalfD}:dx l=true↔HaOk l:=by
 simp only [dx,zk,decide_eq_true_eq]
 have hat:∀ (j:Nat) (hj:j < l.length),bV l l[j].road=(j:Int)↔∀ (i:Nat) (hi:i < j),¬ l[i].road=l[j].road:=by
  intro j hj
  rw [bV,mq]
  constructor
  ·rintro⟨_,_,h⟩ i hi
   have:=h i hi
   intro hc
   rw [hc,fX.2 rfl] at this
   cases this
  intro h
  exact⟨hj,fX.2 rfl,fun i hi=>by
   cases hq:ew l[i].road l[j].road with
   |false=>rfl
   |true=>exact absurd (fX.1 hq) (h i hi)⟩
 have hel:∀ (j:Nat) (hj:j < l.length),ii l j=true↔HaE l[j]/\bV l l[j].road=(j:Int):=by
  intro j hj
  simp only [ii,xE hj,zk,uy,Qr,Qu,Ld,beq_iff_eq,and_true,HaE]
 constructor
 ·rintro⟨h1,h2⟩
  have hu:=fun (j:Nat) (hj:j < l.length)=>(hel j hj).1 (jS h2 hj)
  refine⟨zO,fun h hh=>?_,?_⟩
  ·obtain⟨j,hj,rfl⟩:=Qa hh
   exact (hu j hj).1
  rw [zG]
  intro i j hi hj hij
  exact (hat j hj).1 (hu j hj).2 i hij
 rintro⟨h1,h2,h3⟩
 rw [zG] at h3
 exact⟨zO,dG fun j hj=>(hel j hj).2 ⟨h2 _ (P7 hj),(hat j hj).2 fun i hi=>h3 i j zO hj hi⟩⟩
theorem HaOk.sub {l m:List HalfD} (h:HaOk l) (s:m.Sublist l):HaOk m:=⟨Qj s.length_le h.len,fun a ha=>h.el a (s.subset ha),h.pw.sublist s⟩
theorem HaOk.drop {l:List HalfD} {r:RoadD} (h:HaOk l):HaOk (dO l r):=by
 rw [dO];split
 ·exact h
 exact h.sub (wy l _)
theorem HaOk.young {l:List HalfD} {n:Int} (h:HaOk l):HaOk (co l n):=h.sub List.filter_sublist
def SuE (s:SubD):Prop:=(1<=s.state/\s.state<=4)/\RN s.road/\N9 s.mine/\N9 s.theirs/\N9 s.give/\N9 s.take/\N9 s.tries
structure SuOk (l:List SubD):Prop where
 el:∀ s∈l,SuE s
 pw:l.Pairwise fun a b=>a.state=4\/b.state=4\/¬ a.road=b.road
theorem BL {l:List SubD} {r:RoadD}:bK l r < 0↔∀ s∈l,s.state=4\/¬ s.road=r:=by
 rw [bK,BK]
 refine forall_congr' fun s=>forall_congr' fun hs=>?_
 by_cases h1:s.state=4
 ·simp [h1]
 by_cases h2:s.road=r
 ·subst h2;simp [h1,fX]
 have:ew s.road r=false:=by
  cases hq:ew s.road r with
  |false=>rfl
  |true=>exact absurd (fX.1 hq) h2
 simp [this,h2]
theorem uz {l:List SubD} {r:RoadD} {n:Nat}:bK l r=(n:Int)↔∃ h:n < l.length,¬ l[n].state=4/\l[n].road=r/\∀ (i:Nat) (hi:i < n),l[i].state=4\/¬ l[i].road=r:=by
 rw [bK,mq]
 refine exists_congr fun h=>?_
 have hp:∀ s:SubD,(s.state != 4 && ew s.road r)=false↔s.state=4\/¬ s.road=r:=by
  intro s
  by_cases h1:s.state=4
  ·simp [h1]
  cases hq:ew s.road r with
  |false=>simp [h1,show ¬ s.road=r from fun hc=>by rw [fX.2 hc] at hq;cases hq]
  |true=>simp [h1,fX.1 hq]
 simp only [hp]
 rw [<-and_assoc]
 refine and_congr_left fun _=>?_
 simp [fX]
theorem Gz {l:List SubD}:gw (dH l) l.length=true↔SuOk l:=by
 have hel:∀ (j:Nat) (hj:j < l.length),dH l j=true↔SuE l[j]/\(l[j].state=4\/bK l l[j].road=(j:Int)):=by
  intro j hj
  simp only [dH,eI hj,zk,fC,uy,Qr,Qu,Ld,beq_iff_eq,and_true,Qh,SuE]
  constructor
  ·rintro⟨⟨⟨a,b⟩,c⟩,d⟩;exact⟨⟨a,b,c⟩,d⟩
  rintro⟨⟨a,b,c⟩,d⟩;exact⟨⟨⟨a,b⟩,c⟩,d⟩
 constructor
 ·intro h2
  have hu:=fun (j:Nat) (hj:j < l.length)=>(hel j hj).1 (jS h2 hj)
  refine⟨fun s hs=>?_,?_⟩
  ·obtain⟨j,hj,rfl⟩:=Qa hs
   exact (hu j hj).1
  rw [zG]
  intro i j hi hj hij
  rcases (hu j hj).2 with h|h
  ·exact .inr (.inl h)
  obtain⟨_,_,_,h⟩:=uz.1 h
  rcases h i hij with h|h
  ·exact .inl h
  exact .inr (.inr h)
 rintro⟨h2,h3⟩
 rw [zG] at h3
 refine dG fun j hj=>(hel j hj).2 ⟨h2 _ (P7 hj),?_⟩
 by_cases h4:l[j].state=4
 ·exact .inl h4
 refine .inr (uz.2 ⟨hj,h4,rfl,fun i hi=>?_⟩)
 rcases h3 i j zO hj hi with h|h|h
 ·exact .inl h
 ·exact absurd h h4
 exact .inr h
theorem SuOk.pt {l m:List SubD} (h:SuOk l) (hl:m.length=l.length) (hp:∀ (i:Nat) (h1:i < m.length) (h2:i < l.length),SuE m[i]/\m[i].road=l[i].road/\(l[i].state=4->m[i].state=4)):SuOk m:=by
 refine⟨fun s hs=>?_,?_⟩
 ·obtain⟨j,hj,rfl⟩:=Qa hs
  exact (hp j hj zO).1
 have hq:=h.pw
 rw [zG] at hq⊢
 intro i j hi hj hij
 obtain⟨_,e1,e2⟩:=hp i hi zO
 obtain⟨_,f1,f2⟩:=hp j hj zO
 rcases hq i j zO zO hij with h|h|h
 ·exact .inl (e2 h)
 ·exact .inr (.inl (f2 h))
 rw [e1,f1];exact .inr (.inr h)
theorem SuOk.set {l:List SubD} {n:Nat} {s:SubD} (h:SuOk l) (hn:n < l.length) (hs:SuE s) (hr:s.road=l[n].road) (h4:l[n].state=4->s.state=4):SuOk (l.set n s):=by
 refine h.pt zP fun i h1 h2=>?_
 rw [Qm]
 split
 ·rename_i e;subst e;exact⟨hs,hr,h4⟩
 exact⟨h.el _ (P7 h2),rfl,fun h=>h⟩
theorem SuOk.map {l:List SubD} {f:SubD->SubD} (h:SuOk l) (hf:∀ s∈l,SuE (f s)/\(f s).road=s.road/\(s.state=4->(f s).state=4)):SuOk (l.map f):=
 h.pt zP fun i h1 h2=>by rw [List.getElem_map];exact hf _ (P7 h2)
theorem SuOk.app {l:List SubD} {s:SubD} (h:SuOk l) (hs:SuE s) (hr:∀ x∈l,x.state=4\/¬ x.road=s.road):SuOk (l++[s]):=by
 refine⟨fun x hx=>?_,?_⟩
 ·rcases Qe.1 hx with hx|hx
  ·exact h.el x hx
  rw [Qb.1 hx];exact hs
 rw [Qn]
 refine⟨h.pw,Qv ..,fun a ha b hb=>?_⟩
 rw [Qb.1 hb]
 rcases hr a ha with h|h
 ·exact .inl h
 exact .inr (.inr h)
theorem SuE.st {s:SubD} {n:Int} (h:SuE s) (hn:1<=n/\n<=4):SuE { s with state:=n }:=⟨hn,h.2⟩
theorem SuOk.st4 {l:List SubD} {n:Nat} (h:SuOk l) (hn:n < l.length):SuOk (cE l n 4):=by
 rw [fd hn]
 exact h.set hn ((h.el _ (P7 hn)).st zO) rfl fun _=>rfl
structure OkE (e:EndD):Prop where
 side:1<=e.side/\e.side<=2
 state:0<=e.state/\e.state<=2
 pol:polOk e.policy=true
 own:AdOk e.own
 far:AdOk e.far
 halfs:HaOk e.halfs
 bucket:bucketOk e.bucket=true
 out:outOk e.out=true
 inp:piecesOk e.inp=true
 done:IdOk e.done e.own
 over:IdOk e.over e.far
 subs8:e.subs.length<=8
 nums:N9 e.key/\N9 e.peer/\N9 e.draw/\N9 e.now/\N9 e.pick
 subs:SuOk e.subs
theorem BM {e:EndD}:aq e=true↔OkE e:=by
 simp only [aq,zk,fC,oL,vL,Jf,Gz,Qr,Qu,Ld,decide_eq_true_eq,and_true]
 constructor
 ·rintro⟨⟨⟨⟨⟨⟨⟨⟨⟨⟨⟨⟨⟨a1,a2⟩,a3⟩,a4⟩,a5⟩,a6⟩,a7⟩,a8⟩,a9⟩,a10⟩,a11⟩,a12⟩,a13⟩,a14⟩
  exact⟨a1,a2,a3,a4,a5,a6,a7,a8,a9,a10,a11,zO,a13,a14⟩
 rintro⟨a1,a2,a3,a4,a5,a6,a7,a8,a9,a10,a11,a12,a13,a14⟩
 exact⟨⟨⟨⟨⟨⟨⟨⟨⟨⟨⟨⟨⟨a1,a2⟩,a3⟩,a4⟩,a5⟩,a6⟩,a7⟩,a8⟩,a9⟩,a10⟩,a11⟩,zO⟩,a13⟩,a14⟩
theorem nl {x:LetterD} (h:cU x=true):N9 x.frm/\N9 x.to/\N9 x.port/\N9 x.nonce/\N9 x.give/\N9 x.sgn/\N9 x.id/\N9 x.addr/\N9 x.pos:=by
 simp only [cU,bU,jL,Qr,Qu,fv,zk,decide_eq_true_eq,Bool.and_true] at h
 simp only [N9]
 omega
theorem HaOk.pt {l m:List HalfD} (h:HaOk l) (hl:m.length=l.length) (hp:∀ (i:Nat) (h1:i < m.length) (h2:i < l.length),HaE m[i]/\m[i].road=l[i].road):HaOk m:=by
 refine⟨by rw [hl];exact h.len,fun a ha=>?_,?_⟩
 ·obtain⟨j,hj,rfl⟩:=Qa ha
  exact (hp j hj zO).1
 have hq:=h.pw
 rw [zG] at hq⊢
 intro i j hi hj hij
 rw [(hp i hi zO).2,(hp j hj zO).2]
 exact hq i j zO zO hij
theorem IdOk.pt {l:List Int} {t u:List AddrD} (h:IdOk l t) (hu:∀ a∈u,∃ b∈t,b.id=a.id):IdOk l u:=⟨h.pw,fun n hn=>⟨(h.el n hn).1,fun a ha=>by
 obtain⟨b,hb,e⟩:=hu a ha
 rw [<-e];exact (h.el n hn).2 b hb⟩⟩
theorem zj {b:BucketD} (h:bucketOk b=true):bucketOk (ce b).1=true:=by
 rw [ce];split
 ·rename_i hc
  simp only [bucketOk,zk,fC] at h⊢
  have:=hc.2
  omega
 exact h
theorem BN {b:BucketD} (h:bucketOk b=true):bucketOk (dR b)=true:=by
 rw [dR,if_pos h]
 simp only [bucketOk,zk,fC] at h⊢
 omega
theorem px {o:OutD}:outOk o=true↔FineO o:=by
 refine⟨dC,fun h=>?_⟩
 obtain⟨h1,h2,h3,h4,h5⟩:=h
 simp only [outOk,fv,bU,zk,decide_eq_true_eq]
 rw [He zO]
 omega
theorem ML {o:OutD} {n:Int} (h:outOk o=true) (hn:N9 n):outOk (came o n)=true:=by
 have F:=dC h
 obtain⟨h1,h2,h3,h4,h5⟩:=F
 rw [came];split
 ·rename_i hc
  obtain⟨_,c1,c2⟩:=hc
  rw [He zO] at c2
  rw [px]
  refine⟨hn,h2,?_,?_⟩
  ·simp only [P9];omega
  simp only [P9];split<;>omega
 exact h
theorem Lh {l:List Int} {n:Int}:nF l n=true↔n∈l:=by simp [nF]
theorem Li {l:List Int} {n:Int}:nF l n=false↔¬ n∈l:=by rw [<-Lh];simp
theorem vM {l:List SubD} {r:RoadD} (h:0<=bK l r):∃ n:Nat,bK l r=(n:Int)/\∃ hn:n < l.length,¬ l[n].state=4/\l[n].road=r/\∀ (i:Nat) (hi:i < n),l[i].state=4\/¬ l[i].road=r:=by
 obtain⟨n,hn⟩:=pv h
 exact⟨n,hn,uz.1 hn⟩
theorem Dl {l:List HalfD} {r:RoadD} (h:0<=bV l r):∃ n:Nat,bV l r=(n:Int)/\∃ hn:n < l.length,l[n].road=r:=by
 obtain⟨n,hn⟩:=pv h
 obtain⟨h1,h2,_⟩:=mq.1 hn
 exact⟨n,hn,h1,fX.1 h2⟩
theorem zl {l:List AddrD} {k:Int} (h:0<=bs l k):∃ n:Nat,bs l k=(n:Int)/\∃ hn:n < l.length,l[n].id=k:=by
 obtain⟨n,hn⟩:=pv h
 obtain⟨h1,h2,_⟩:=mq.1 hn
 exact⟨n,hn,h1,by simpa using h2⟩
theorem Lj {e:EndD} {x:LetterD} (h:0<=jj e x):∃ n:Nat,jj e x=(n:Int)/\dy e x=(n:Int)/\∃ hn:n < e.subs.length,e.subs[n].state=3/\e.subs[n].take=x.sgn/\e.subs[n].road=am x/\cU x=true:=by
 rcases iz e x with h0|⟨n,h1,h2,h3,_,h5⟩
 ·omega
 refine⟨n,h1,h2,h3,?_⟩
 rw [dy] at h2
 split at h2
 ·omega
 rename_i h6
 split at h2
 ·rename_i h7
  obtain⟨m,hm,hmn,_,hr,_⟩:=vM (show 0<=bK e.subs (am x) by omega)
  have:m=n:=zO
  subst this
  rw [hm,P8,eI hmn] at h7
  exact⟨h7.1,h7.2,hr,h5⟩
 omega
theorem uA {x:LetterD} (h:cU x=true):RN (am x):=by
 obtain⟨h1,h2,h3,_⟩:=nl h
 exact⟨h2,h1,h3⟩
theorem tq {e:EndD} {x:LetterD} (h:OkE e) (hst:e.state=2):OkE (cR e x).1/\(cR e x).1.state=2:=by
 refine sQ (Q:=fun r=>OkE r.1/\r.1.state=2) ⟨h,hst⟩ ?_ ?_ ?_ ?_ ?_ ?_ ?_ ?_ ?_ ?_ ?_ ?_
 ·unfold aW;split
  ·rename_i hk
   simp only [ku,zk,decide_eq_true_eq] at hk
   omega
  exact⟨h,hst⟩
 ·unfold bE;split
  ·rename_i hk
   simp only [mO,zk,decide_eq_true_eq] at hk
   omega
  exact⟨h,hst⟩
 ·unfold cc;split
  ·rename_i hk
   simp only [qt,zk,decide_eq_true_eq,fC] at hk
   obtain⟨⟨⟨⟨⟨⟨⟨⟨⟨k1,k2⟩,k3⟩,k4⟩,k5⟩,k6⟩,k7⟩,k8⟩,k9⟩,k10⟩:=hk
   have hd:N9 (e.draw+4):=⟨zO,zO⟩
   split
   ·rename_i hs
    simp only [fH,zk,decide_eq_true_eq] at hs
    obtain⟨n,e1,hn,_⟩:=Dl hs.1.1
    refine⟨⟨h.side,h.state,h.pol,h.own,h.far,?_,zj h.bucket,h.out,h.inp,h.done,h.over,h.subs8,h.nums,h.subs⟩,hst⟩
    dsimp only
    rw [Bf,e1,P8,i_ hn]
    refine h.halfs.pt zP fun i h1 h2=>?_
    rw [Qm]
    have hel:=h.halfs.el _ (P7 h2)
    split
    ·rename_i e;subst e
     exact⟨⟨hel.1,hel.2.1,hel.2.2.1,hel.2.2.2.1,hel.2.2.2.2.1,by have:=h.nums.2.2.2.1;simp only [N9] at this⊢;omega⟩,rfl⟩
    exact⟨hel,rfl⟩
   refine⟨⟨h.side,h.state,h.pol,h.own,h.far,?_,zj h.bucket,h.out,h.inp,h.done,h.over,h.subs8,⟨h.nums.1,h.nums.2.1,hd,h.nums.2.2.2⟩,h.subs⟩,hst⟩
   dsimp only
   rw [ck];split
   ·rename_i hh;exact vL.1 hh
   exact h.halfs
  exact⟨h,hst⟩
 ·unfold ba;split
  ·rename_i hk
   simp only [zU,zk,decide_eq_true_eq] at hk
   obtain⟨⟨⟨⟨⟨k1,k2⟩,k3⟩,k4⟩,k5⟩,k6⟩:=hk
   obtain⟨n,e1,hn,_,_,_⟩:=vM k4
   rw [e1,P8,eI hn] at k5
   obtain⟨_,_,_,x1,x2,_⟩:=nl k2
   have hel:=h.subs.el _ (P7 hn)
   refine⟨⟨h.side,h.state,h.pol,h.own,h.far,h.halfs,h.bucket,h.out,h.inp,h.done,h.over,by dsimp only;rw [Qc];exact h.subs8,h.nums,?_⟩,hst⟩
   dsimp only
   rw [e1,P8,eI hn]
   exact h.subs.set hn ⟨by simp [mf],hel.2.1,hel.2.2.1,x1,x2,hel.2.2.2.2.2.1,by simp [mf,N9]⟩ rfl fun h4=>by omega
  exact⟨h,hst⟩
 ·unfold aH;split
  ·rename_i hk
   simp only [nG,zk,decide_eq_true_eq] at hk
   split
   ·rename_i ha
    simp only [vi,zk,decide_eq_true_eq] at ha
    obtain⟨i,e2,hi,_⟩:=Dl ha.1.1
    have hel:=h.halfs.el _ (P7 hi)
    have hsu:SuE (kY (am x) (Bf e x)):=by
     rw [Bf,e2,P8,i_ hi]
     exact⟨by simp [kY],uA hk.1.2,hel.2.2.1,hel.2.1,hel.2.2.2.1,hel.2.2.2.2.1,by simp [kY,N9]⟩
    refine⟨⟨h.side,h.state,h.pol,h.own,h.far,h.halfs.drop,h.bucket,h.out,h.inp,h.done,h.over,?_,h.nums,?_⟩,hst⟩
    ·dsimp only
     split<;>simp only [cE,P6,Qc,Qg]<;>omega
    dsimp only
    split
    ·rename_i h0
     obtain⟨n,e1,hn,k1,k2,k3⟩:=vM h0
     rw [e1,P8]
     refine (h.subs.st4 hn).app hsu fun y hy=>?_
     rw [fd hn] at hy
     obtain⟨j,hj,rfl⟩:=Qa hy
     rw [Qm]
     split
     ·exact .inl rfl
     rename_i hnj
     rw [Qc] at hj
     have hq:=h.subs.pw
     rw [zG] at hq
     have:e.subs[j].state=4\/¬ e.subs[j].road=e.subs[n].road:=by
      rcases Nat.lt_or_gt_of_ne hnj with hl|hl
      ·rcases hq n j hn hj hl with q|q|q
       ·exact absurd q k1
       ·exact .inl q
       exact .inr fun hc=>q hc.symm
      rcases hq j n hj hn hl with q|q|q
      ·exact .inl q
      ·exact absurd q k1
      exact .inr q
     rw [k2] at this
     exact this
    rename_i h0
    refine h.subs.app hsu fun y hy=>?_
    exact BL.1 (show bK e.subs (am x) < 0 by omega) y hy
   split<;>exact⟨h,hst⟩
  exact⟨h,hst⟩
 ·unfold bl;dsimp only;split
  ·rename_i hk
   simp only [sj,zk,decide_eq_true_eq] at hk
   obtain⟨⟨⟨⟨k1,k2⟩,k3⟩,k4⟩,k5⟩:=hk
   obtain⟨n,e1,hn,_,_,_⟩:=vM k3
   rw [e1,P8,eI hn] at k4
   refine⟨⟨h.side,h.state,h.pol,h.own,h.far,h.halfs,h.bucket,h.out,h.inp,h.done,h.over,by dsimp only;rw [cE,Qc];exact h.subs8,h.nums,?_⟩,hst⟩
   dsimp only
   rw [e1,P8,fd hn]
   exact h.subs.set hn ((h.subs.el _ (P7 hn)).st zO) rfl fun h4=>by omega
  exact⟨h,hst⟩
 ·unfold cv;split
  ·rename_i hk
   simp only [lC,zk,Qk,Li] at hk
   exact⟨⟨h.side,h.state,h.pol,h.own,h.far.put,h.halfs,h.bucket,h.out,h.inp,h.done,h.over.put hk.1.1.2,h.subs8,h.nums,h.subs⟩,hst⟩
  exact⟨h,hst⟩
 ·unfold cx;dsimp only;split
  ·rename_i hk
   simp only [ki,zk,decide_eq_true_eq] at hk
   obtain⟨n,e1,hn,_⟩:=zl hk.1.2
   have hp:∀ (i:Nat) (h1:i < (e.own.set (bs e.own x.id).toNat { ox e.own (bs e.own x.id).toNat with told:=true }).length) (h2:i < e.own.length),
     (e.own.set (bs e.own x.id).toNat { ox e.own (bs e.own x.id).toNat with told:=true })[i].id=e.own[i].id/\(e.own.set (bs e.own x.id).toNat { ox e.own (bs e.own x.id).toNat with told:=true })[i].addr=e.own[i].addr:=by
    intro i h1 h2
    rw [Qm]
    split
    ·rename_i he
     rw [e1,P8] at he
     subst he
     rw [e1,P8,ja hn]
     exact⟨rfl,rfl⟩
    exact⟨rfl,rfl⟩
   refine⟨⟨h.side,h.state,h.pol,h.own.pt zP hp,h.far,h.halfs,h.bucket,h.out,h.inp,h.done.pt fun a ha=>?_,h.over,h.subs8,h.nums,h.subs⟩,hst⟩
   obtain⟨j,hj,rfl⟩:=Qa ha
   have hj':=hj
   rw [Qc] at hj'
   exact⟨e.own[j],P7 hj',(hp j hj hj').1.symm⟩
  exact⟨h,hst⟩
 ·unfold cy;dsimp only;split
  ·rename_i hk
   simp only [qy,zk,decide_eq_true_eq] at hk
   obtain⟨n,e1,hn,e2⟩:=zl hk.2
   refine⟨⟨h.side,h.state,h.pol,h.own,h.far.drop,h.halfs,h.bucket,h.out,h.inp,h.done,h.over.drop h.far ⟨_,P7 hn,e2⟩,by dsimp only;rw [Qd];exact h.subs8,h.nums,h.subs.map fun s hs=>?_⟩,hst⟩
   rw [oy];split
   ·exact⟨(h.subs.el s hs).st zO,rfl,fun _=>rfl⟩
   exact⟨h.subs.el s hs,rfl,fun h=>h⟩
  exact⟨h,hst⟩
 ·unfold cA;split
  ·refine⟨⟨h.side,h.state,h.pol,h.own,h.far,h.halfs,h.bucket,h.out,?_,h.done,h.over,h.subs8,h.nums,h.subs⟩,hst⟩
   dsimp only
   rw [sK]
   rcases vp e.inp x.pos x.text with hp|hp
   ·rw [hp];exact h.inp
   exact hp
  exact⟨h,hst⟩
 ·unfold cm;dsimp only;split
  ·rename_i hk
   obtain⟨n,_,_,hn,_,_,_,hl⟩:=Lj hk
   obtain⟨_,_,_,_,_,_,_,_,hp⟩:=nl hl
   exact⟨⟨h.side,h.state,h.pol,h.own,h.far,h.halfs,h.bucket,ML h.out hp,h.inp,h.done,h.over,h.subs8,h.nums,h.subs⟩,hst⟩
  exact⟨h,hst⟩
 unfold bP;dsimp only;split
 ·rename_i hk
  obtain⟨n,_,e1,hn,_⟩:=Lj hk
  refine⟨⟨h.side,h.state,h.pol,h.own,h.far,h.halfs,h.bucket,h.out,h.inp,h.done,h.over,by dsimp only;rw [cE,Qc];exact h.subs8,h.nums,?_⟩,hst⟩
  dsimp only
  rw [e1,P8]
  exact h.subs.st4 hn
 exact⟨h,hst⟩
theorem Fi {o:OutD} (F:FineO o):((cX o).length:Int)<=o.base+(o.text.length:Int) - o.sent:=by
 have:=F.sent
 simp only [cX,P_,P9]
 omega
theorem GB {o:OutD} (h:outOk o=true):outOk (sT o)=true:=by
 rw [sT];split
 ·have F:=dC h
  have hl:=Fi F
  obtain⟨h1,h2,h3,h4,h5⟩:=F
  rw [px]
  exact⟨h1,h2,h3,by dsimp only;omega⟩
 exact h
theorem Lk {n:Int} (h:N9 n):N9 (jF n):=by
 simp only [N9] at h⊢
 rw [jF];split<;>omega
theorem HX {e:EndD} (h:OkE e):OkE (fi e).1:=by
 unfold fi;split
 ·exact⟨h.side,h.state,h.pol,h.own,h.far,h.halfs,h.bucket,GB h.out,h.inp,h.done,h.over,h.subs8,⟨h.nums.1,h.nums.2.1,h.nums.2.2.1,h.nums.2.2.2.1,Lk h.nums.2.2.2.2⟩,h.subs⟩
 exact h
theorem GC {e:EndD}:(fi e).1.state=e.state:=by unfold fi;split<;>rfl
theorem zm:∀ {k:Nat} {e:EndD},OkE e->OkE (dP k e).1/\(dP k e).1.state=e.state
 |0,e,h=>⟨h,rfl⟩
 |k+1,e,h=>by
  obtain⟨h1,h2⟩:=zm (k:=k) (HX h)
  exact⟨h1,h2.trans GC⟩
theorem Jg {o:OutD} {t:List UInt8} (h:outOk o=true):outOk (gJ o t).1=true:=by
 rw [gJ];split
 ·obtain⟨h1,h2,h3,h4,h5⟩:=dC h
  rw [px]
  refine⟨h1,h2,?_,?_⟩
  ·simp only [P6,P_,lW];omega
  simp only [P6,P_,lW];omega
 exact h
theorem Fj {e:EndD} {t:List UInt8} (h:OkE e):OkE (write e t).1/\(write e t).1.state=e.state:=by
 unfold write;split
 ·exact⟨⟨h.side,h.state,h.pol,h.own,h.far,h.halfs,h.bucket,Jg h.out,h.inp,h.done,h.over,h.subs8,h.nums,h.subs⟩,rfl⟩
 exact⟨h,rfl⟩
theorem MM {p:PiecesD} {m:Int} (h:piecesOk p=true) (hs:SmallP p):piecesOk (cr p m).1=true:=by
 rw [cr];split
 ·rename_i hk
  simp only [uq,zk,decide_eq_true_eq] at hk
  have F:=dX h hs
  have hr:=F.ready
  have hr0:=F.r0
  have hn:=F.next
  have hN:Ah p m<=p.ready.length:=Nat.min_le_right _ _
  simp only [piecesOk,fv,zk,decide_eq_true_eq] at h⊢
  obtain⟨⟨⟨⟨a1,a2⟩,a3⟩,a4⟩,a5⟩:=h
  have hle:=Cu (M:=200) fun x hx=>(F.texts x hx).1
  have hm:p.list.length*200<=20*200:=Nat.mul_le_mul_right _ F.list
  refine⟨⟨⟨⟨zO,zO⟩,a3⟩,?_⟩,?_⟩
  ·rw [mM,mU zO zO] at a4
   show jy ((p.ready.drop (Ah p m)).length:Int) p.list<=200
   rw [mU zO (by rw [P9];omega),P9]
   omega
  have e:nextOf ⟨p.read+(Ah p m:Int),p.ready.drop (Ah p m),p.list⟩=nextOf p:=by
   rw [hn,nextOf,He (by simp only [P9];omega)]
   simp only [P9]
   omega
  rw [e];exact a5
 exact h
theorem Ll {e:EndD} {m:Int} (h:OkE e) (hs:SmallP e.inp):OkE (bJ e m).1/\(bJ e m).1.state=e.state:=by
 unfold bJ;split
 ·exact⟨⟨h.side,h.state,h.pol,h.own,h.far,h.halfs,h.bucket,h.out,MM h.inp hs,h.done,h.over,h.subs8,h.nums,h.subs⟩,rfl⟩
 exact⟨h,rfl⟩
theorem HY {o:OutD} (h:outOk o=true):outOk (gK o)=true:=by
 rw [gK,if_pos h]
 obtain⟨h1,h2,h3,h4,h5⟩:=dC h
 rw [px]
 exact⟨h1,h2,h3,by dsimp only;omega⟩
theorem zn {e:EndD} {l:List LetterD} (h:OkE e):OkE (dM e l).1/\(dM e l).1.state=e.state:=zm h
theorem MN {e:EndD} (h:OkE e):OkE (tick e).1/\(tick e).1.state=e.state:=by
 unfold tick;split
 ·rename_i hk
  simp only [IV,zk,decide_eq_true_eq,Ql] at hk
  have h0:∀ s:List SubD,s.length<=8->SuOk s->OkE { nD e with subs:=s }:=fun s h8 hs=>
   ⟨h.side,h.state,h.pol,h.own,h.far,h.halfs.young,BN h.bucket,HY h.out,h.inp,h.done,h.over,h8,⟨h.nums.1,h.nums.2.1,h.nums.2.2.1,by have:=h.nums.2.2.2.1;simp only [N9,nD] at this⊢;omega,h.nums.2.2.2.2⟩,hs⟩
  split
  ·refine zn (h0 _ (by rw [Qd];exact h.subs8) (h.subs.map fun s hs=>?_))
   have hel:=h.subs.el s hs
   have ht:=hk.2 s hs
   have hN:N9 (s.tries+1):=by have:=hel.2.2.2.2.2.2;simp only [N9] at this⊢;omega
   rw [dT];split
   ·rename_i hc
    split
    ·exact⟨⟨zP,hel.2.1,hel.2.2.1,hel.2.2.2.1,hel.2.2.2.2.1,hel.2.2.2.2.2.1,hN⟩,rfl,fun _=>rfl⟩
    exact⟨⟨hel.1,hel.2.1,hel.2.2.1,hel.2.2.2.1,hel.2.2.2.2.1,hel.2.2.2.2.2.1,hN⟩,rfl,fun h=>h⟩
   exact⟨hel,rfl,fun h=>h⟩
  exact zn (h0 e.subs h.subs8 h.subs)
 exact⟨h,rfl⟩
theorem Dm {e:EndD} {r:RoadD} {b:Bool} (h:OkE e):OkE (gM e r b).1/\(gM e r b).1.state=e.state:=by
 unfold gM;split
 ·rename_i hk
  simp only [Gh,zk,decide_eq_true_eq,fC,uy] at hk
  obtain⟨⟨⟨⟨⟨⟨⟨k1,k2⟩,k3⟩,k4⟩,k5⟩,k6⟩,k7⟩,k8⟩:=hk
  refine⟨⟨h.side,h.state,h.pol,h.own,h.far,h.halfs,h.bucket,h.out,h.inp,h.done,h.over,by simp only [P6,Qg];omega,⟨h.nums.1,h.nums.2.1,⟨by dsimp only;omega,by dsimp only;omega⟩,h.nums.2.2.2⟩,?_⟩,rfl⟩
  refine h.subs.app ⟨by simp [gL],k3,?_,?_,?_,?_,?_⟩ fun x hx=>BL.1 k4 x hx
  all_goals simp only [gL,N9];omega
 exact⟨h,rfl⟩
theorem Fk {far:List AddrD}:∀ {l:List RoadD} {e:EndD},OkE e->OkE (il far e l).1/\(il far e l).1.state=e.state
 |[],e,h=>⟨h,rfl⟩
 |r::l,e,h=>by
  obtain⟨h1,h2⟩:=Dm (r:=r) (b:=bW far r.far) h
  obtain⟨h3,h4⟩:=Fk (far:=far) (l:=l) h1
  exact⟨h3,h4.trans h2⟩
theorem wz {e:EndD} {a:ActD} (h:OkE e) (hs:SmallP e.inp):OkE (kC e a).1/\(kC e a).1.state=e.state:=by
 unfold kC
 split
 ·obtain⟨h1,h2⟩:=Fj (t:=a.text) h
  obtain⟨h3,h4⟩:=zm (k:=3) h1
  exact⟨h3,h4.trans h2⟩
 split
 ·exact Ll h hs
 split
 ·exact MN h
 split
 ·unfold manage;split
  ·exact Fk h
  exact⟨h,rfl⟩
 split
 ·unfold aK;split
  ·rename_i hk
   simp only [IT,zk,Qk,Li] at hk
   exact⟨⟨h.side,h.state,h.pol,h.own.put,h.far,h.halfs,h.bucket,h.out,h.inp,h.done.put hk.2,h.over,h.subs8,h.nums,h.subs⟩,rfl⟩
  exact⟨h,rfl⟩
 split
 ·unfold bf;split
  ·rename_i hk
   simp only [Gg,zk,decide_eq_true_eq] at hk
   obtain⟨n,e1,hn,e2⟩:=zl hk.2
   refine⟨⟨h.side,h.state,h.pol,h.own.drop,h.far,h.halfs,h.bucket,h.out,h.inp,h.done.drop h.own ⟨_,P7 hn,e2⟩,h.over,by dsimp only;rw [fI,Qd];exact h.subs8,h.nums,h.subs.map fun s hs=>?_⟩,rfl⟩
   rw [gq];split
   ·exact⟨(h.subs.el s hs).st zO,rfl,fun _=>rfl⟩
   exact⟨h.subs.el s hs,rfl,fun h=>h⟩
  exact⟨h,rfl⟩
 unfold bI;split
 ·rename_i hk
  simp only [yr,zk,decide_eq_true_eq,fC] at hk
  obtain⟨n,hn⟩:=Int.eq_ofNat_of_zero_le hk.1.2.1
  refine⟨⟨h.side,h.state,h.pol,h.own,h.far,h.halfs,h.bucket,h.out,h.inp,h.done,h.over,by dsimp only;rw [cE,Qc];exact h.subs8,h.nums,?_⟩,rfl⟩
  dsimp only
  rw [hn,P8]
  exact h.subs.st4 zO
 exact⟨h,rfl⟩
theorem Lm {l:List SubD} {k:Nat} (h:k∈jm l):bH l k∈l:=by
 obtain⟨h1,_⟩:=rX h
 rw [eI h1];exact P7 h1
theorem Jh {l:List Nat} (h:¬ l.length=0):l.headD 0∈l:=by
 cases l with
 |nil=>simp at h
 |cons a r=>simp
theorem Ln {e:EndD} (h:OkE e) (hk:IV e=true):OkE { nD e with subs:=e.subs.map dT }:=by
 simp only [IV,zk,decide_eq_true_eq,Ql] at hk
 refine⟨h.side,h.state,h.pol,h.own,h.far,h.halfs.young,BN h.bucket,HY h.out,h.inp,h.done,h.over,by dsimp only;rw [Qd];exact h.subs8,⟨h.nums.1,h.nums.2.1,h.nums.2.2.1,by have:=h.nums.2.2.2.1;simp only [N9,nD] at this⊢;omega,h.nums.2.2.2.2⟩,h.subs.map fun s hs=>?_⟩
 have hel:=h.subs.el s hs
 have ht:=hk.2 s hs
 have hN:N9 (s.tries+1):=by have:=hel.2.2.2.2.2.2;simp only [N9] at this⊢;omega
 rw [dT];split
 ·split
  ·exact⟨⟨zP,hel.2.1,hel.2.2.1,hel.2.2.2.1,hel.2.2.2.2.1,hel.2.2.2.2.2.1,hN⟩,rfl,fun _=>rfl⟩
  exact⟨⟨hel.1,hel.2.1,hel.2.2.1,hel.2.2.2.1,hel.2.2.2.2.1,hel.2.2.2.2.2.1,hN⟩,rfl,fun h=>h⟩
 exact⟨hel,rfl,fun h=>h⟩
theorem Ji (w:WorldD) (a:ActD) (s:Int) (e:EndD):(cN (ld w a) s e).bag=w.bag/\(cN (ld w a) s e).past=w.past:=by
 unfold cN ld gr dj
 repeat' split
 all_goals exact⟨rfl,rfl⟩
theorem zo {l:List LetterD} {n:Nat} (h:n < l.length):p_ l n∈l:=by
 rw [p_,Qq,Qt h];exact P7 h
theorem GD {l:List LetterD} {n:Int} {x:LetterD} (h:x∈jd l n):x∈l:=(wy l n.toNat).subset h
def Pi (k s m:Int):ActD:=⟨k,s,0,m,[],⟨0,0,false,false⟩,ac⟩
attribute [go_sem] Pi ac
end
end Go.Proofs.YtdiiopjaebnmfaaGreatDoor
