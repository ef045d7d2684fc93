/- Lemmas of this claim. -/
import Derived.Test.YteknmpdmhiomgaaGreatZFnCalmH
import Derived.Test.YteknmpdmhiomgaaGreatZFnCalmI
set_option maxHeartbeats 16000000
set_option maxRecDepth 100000
set_option linter.unusedVariables false
set_option linter.unusedSimpArgs false
namespace Go.Proofs.YteknmpdmhiomgaaGreat
open _root_.Go.Proofs.Tryz
open _root_.Bool renaming and_eq_true->RP,false_and->R1,true_and->R2
open _root_.List renaming length_append->RQ,length_singleton->RR,length_set->RS,length_take->RT,mem_append->RU,mem_singleton->RV,all_eq_true->RW,filter_congr->RX,length_drop->RY,length_map->RZ,getElem_mem->R0
section
open Go.RowKit
theorem NB:∀ p∈pols,polOk p=true:=by decide
theorem DJ {s:Int} {p:PolicyD} (hs:1<=s/\s<=2) (hp:p∈pols):nE s (10*s+1) p=(fj s p,true):=by
 have h1:cv s 1 2=true:=by simp only [cv,RP,decide_eq_true_eq];omega
 have h2:bN (gj (10*s+1))=true:=by
  have:s=1\/s=2:=zO
  rcases this with rfl|rfl<;>decide
 rw [DG (by rw [h1,NB p hp,h2];rfl)];rfl
theorem GoodE.io {e e':EndD} (h:GoodE e) (hs:Small e') (hi:e'.inp=e.inp) (ho:e'.out.text=e.out.text):GoodE e':=⟨hs,by rw [hi];exact h.p,by rw [ho];exact h.o⟩
theorem F_ {k:Nat} {e:EndD} (h:GoodE e):GoodE (pushN k e).1:=h.io (jB h.s) oS mF
theorem Jr (e:EndD) (t:List UInt8):(cO e t).1.inp=e.inp:=by rw [cO];split<;>rfl
theorem zt {e:EndD} {t:List UInt8} (h:GoodE e):GoodE (bs e t).1:=by
 rw [bs]
 exact F_ ⟨uZ h.s,by rw [Jr];exact h.p,q_ h.o⟩
theorem xM {p:PiecesD} {m:Int} (h:SmallP p):SmallP (aZ p m).1:=by
 rw [aZ];split
 ·exact⟨h.list,by have:=h.ready;simp only [RY];omega,h.texts⟩
 exact h
theorem Ga {e:EndD} {m:Int} (h:GoodE e):GoodE (az e m).1:=by
 have hs:=jC (m:=m) h.s
 rw [az] at hs⊢;split at hs
 ·rename_i hk;rw [if_pos hk];exact⟨hs,xM h.p,h.o⟩
 rename_i hk;rw [if_neg hk];exact h
theorem AM (o:OutD):(dQ o).text=o.text:=by rw [dQ];split<;>rfl
theorem Js {e:EndD} (h:GoodE e):GoodE (tick e).1:=by
 have hs:=kt h.s
 refine h.io hs ?_ ?_
 ·rw [tick];split
  ·split
   ·rw [bu];exact oS
   rw [bu];exact oS
  rfl
 rw [tick];split
 ·split
  ·rw [bu];exact mF.trans (AM _)
  rw [bu];exact mF.trans (AM _)
 rfl
theorem NK (e:EndD) (r:RoadD) (b:Bool):(join e r b).1.inp=e.inp/\(join e r b).1.out=e.out:=by rw [join];split<;>exact⟨rfl,rfl⟩
theorem Ee {far:List AddrD}:∀ {l:List RoadD} {e:EndD},(cF far e l).1.inp=e.inp/\(cF far e l).1.out=e.out
 |[],e=>⟨rfl,rfl⟩
 |r::l,e=>by
  have h1:=NK e r (aC far r.far)
  have h2:=Ee (far:=far) (l:=l) (e:=(join e r (aC far r.far)).1)
  exact⟨h2.1.trans h1.1,h2.2.trans h1.2⟩
theorem Ef {e:EndD} (h:GoodE e):GoodE (manage e).1:=by
 have hs:=jW h.s
 have hio:(manage e).1.inp=e.inp/\(manage e).1.out=e.out:=by
  rw [manage];split
  ·exact Ee
  exact⟨rfl,rfl⟩
 exact h.io hs hio.1 (by rw [hio.2])
theorem Eg {e:EndD} {a:AddrD} (h:GoodE e):GoodE (aR e a).1:=by
 refine h.io (iJ h.s) ?_ ?_<;>(rw [aR];split<;>rfl)
theorem Eh {e:EndD} {k:Int} (h:GoodE e):GoodE (mC e k).1:=by
 refine h.io (Cc h.s) ?_ ?_<;>(rw [mC];split<;>rfl)
theorem Cg {e:EndD} {n:Int} (h:GoodE e):GoodE (jV e n).1:=by
 refine h.io (zr h.s) ?_ ?_<;>(rw [jV];split<;>rfl)
theorem AN {e:EndD} {a:ActD} (h:GoodE e):GoodE (dl e a).1:=by
 rw [dl]
 split
 ·exact zt h
 split
 ·exact Ga h
 split
 ·exact Js h
 split
 ·exact Ef h
 split
 ·exact Eg h
 split
 ·exact Cg h
 exact Eh h
structure GoodW (w:WorldD) (k:Nat):Prop where
 a:GoodE w.a
 b:GoodE w.b
 r:SmallP2 w
 wa:w.wroteA.length<=2000000*k
 wb:w.wroteB.length<=2000000*k
 ra:w.readA.length<=2000000*k
 rb:w.readB.length<=2000000*k
theorem GoodW.s {w:WorldD} {k:Nat} (h:GoodW w k):SmallW w:=⟨h.a.s,h.b.s,h.r.bag,h.r.past,h.r.keys,h.r.tags,h.r.nums,h.r.ansA,h.r.ansB⟩
theorem GoodW.d {w:WorldD} {k:Nat} (h:GoodW w k) (hk:k<=1000):SmallD w:=
 ⟨⟨h.s,h.a.p,h.b.p⟩,⟨by have:=h.wa;omega,by have:=h.wb;omega,by have:=h.ra;omega,by have:=h.rb;omega⟩,h.a.o,h.b.o⟩
theorem GoodW.up {w:WorldD} {k:Nat} (h:GoodW w k):GoodW w (k+1):=⟨h.a,h.b,h.r,by have:=h.wa;omega,by have:=h.wb;omega,by have:=h.ra;omega,by have:=h.rb;omega⟩
theorem dm {side:Int}:∀ {l:List LetterD} {w:WorldD},(al side w l).a=w.a/\(al side w l).b=w.b/\(al side w l).wroteA=w.wroteA/\(al side w l).wroteB=w.wroteB/\(al side w l).readA=w.readA/\(al side w l).readB=w.readB
 |[],w=>⟨rfl,rfl,rfl,rfl,rfl,rfl⟩
 |x::l,w=>by
  obtain⟨h1,h2,h3,h4,h5,h6⟩:=dm (side:=side) (l:=l) (w:=aU side w x)
  obtain⟨g1,g2,g3,g4,g5,g6⟩:=i9 (side:=side) (w:=w) (x:=x)
  exact⟨h1.trans g1,h2.trans g2,h3.trans g3,h4.trans g4,h5.trans g5,h6.trans g6⟩
theorem rc {side:Int} {l:List LetterD} {w:WorldD} {k:Nat} (h:GoodW w k):GoodW (al side w l) k:=by
 obtain⟨h1,h2,h3,h4,h5,h6⟩:=dm (side:=side) (l:=l) (w:=w)
 exact⟨by rw [h1];exact h.a,by rw [h2];exact h.b,uR h.r,by rw [h3];exact h.wa,by rw [h4];exact h.wb,by rw [h5];exact h.ra,by rw [h6];exact h.rb⟩
theorem nZ {w:WorldD} {s:Int} {e:EndD} {k:Nat} (h:GoodW w k) (he:GoodE e):GoodW (aL w s e) k:=by
 unfold aL;split
 ·exact⟨he,h.b,⟨h.r.bag,h.r.past,h.r.keys,h.r.tags,h.r.nums,h.r.ansA,h.r.ansB⟩,h.wa,h.wb,h.ra,h.rb⟩
 exact⟨h.a,he,⟨h.r.bag,h.r.past,h.r.keys,h.r.tags,h.r.nums,h.r.ansA,h.r.ansB⟩,h.wa,h.wb,h.ra,h.rb⟩
theorem Ch:GoodE gE:=⟨⟨by decide,by decide,by decide,by decide,by decide,by decide,by decide⟩,⟨by decide,by decide,fun x hx=>by simp [gE] at hx⟩,by decide⟩
theorem mK {w:WorldD} {s:Int} {k:Nat} (h:GoodW w k):GoodE (bS w s):=by
 unfold bS;repeat' split
 ·exact h.a
 ·exact h.b
 exact Ch
theorem Ei {side:Int} {l:List LetterD} {w:WorldD} {k:Nat} (h:GoodW w k):GoodW (gL w side l) k:=by
 rw [gL];split
 ·exact rc h
 exact h
theorem xN {w:WorldD} {x:LetterD} {k:Nat} (h:GoodW w k):GoodW (cU w x) k:=by
 rw [cU];split
 ·exact h
 exact Ei (nZ h (Ji (mK h)))
theorem lQ {w:WorldD} {b:List LetterD} {k:Nat} (h:GoodW w k) (hb:b.length<=1048576):GoodW { w with bag:=b } k:=
 ⟨h.a,h.b,⟨hb,h.r.past,h.r.keys,h.r.tags,h.r.nums,h.r.ansA,h.r.ansB⟩,h.wa,h.wb,h.ra,h.rb⟩
theorem xO (l:List LetterD) (n:Int) (h:l.length<=1048576):(gO l n).length<=1048576:=by
 simp only [gO,RQ,RT,RY];omega
theorem Jt {w:WorldD} {a:ActD} {k:Nat} (h:GoodW w k) (ha:a.text.length<=1048576):GoodW (dE w a) (k+1):=by
 have hr:=lP (m:=a.many) (mK (s:=a.side) h).p
 have h1:=h.wa
 have h2:=h.wb
 have h3:=h.ra
 have h4:=h.rb
 have hu:=h.up
 unfold dE eT cj;repeat' split
 ·exact⟨h.a,h.b,⟨h.r.bag,h.r.past,h.r.keys,h.r.tags,h.r.nums,h.r.ansA,h.r.ansB⟩,by simp only [RQ,RT];omega,hu.wb,hu.ra,hu.rb⟩
 ·exact⟨h.a,h.b,⟨h.r.bag,h.r.past,h.r.keys,h.r.tags,h.r.nums,h.r.ansA,h.r.ansB⟩,hu.wa,by simp only [RQ,RT];omega,hu.ra,hu.rb⟩
 ·exact⟨h.a,h.b,⟨h.r.bag,h.r.past,h.r.keys,h.r.tags,h.r.nums,h.r.ansA,h.r.ansB⟩,hu.wa,hu.wb,by simp only [RQ];omega,hu.rb⟩
 ·exact⟨h.a,h.b,⟨h.r.bag,h.r.past,h.r.keys,h.r.tags,h.r.nums,h.r.ansA,h.r.ansB⟩,hu.wa,hu.wb,hu.ra,by simp only [RQ];omega⟩
 exact hu
theorem ku {w:WorldD} {a:ActD} {k:Nat} (h:GoodW w k) (ha:a.text.length<=1048576):GoodW (aJ w a).1 (k+1):=by
 have hb:=xO w.bag a.pos h.r.bag
 have hl:=h.r.bag
 unfold aJ;split
 ·split
  ·unfold dR;split
   ·exact h.up
   exact rc (nZ (Jt h ha) (AN (mK h)))
  unfold cc;repeat' split
  all_goals first
   |exact h.up
   |exact (xN (lQ h hb)).up
   |exact (lQ h hb).up
   |exact (lQ h (by simp only [RQ,RR];omega)).up
 exact h.up
def O9 (e:EndD):Prop:=e.subs.length<=100/\e.far.length<=100
def FewW (w:WorldD):Prop:=O9 w.a/\O9 w.b
theorem Ck (w:WorldD) (pos many:Int) (text:List UInt8) (ad:AddrD) (le:LetterD) (hw:SmallD w) (htx:text.length<=1048576):
  aP 65 [.sc (.pt 21 0 0),.ag (ActD.cs ⟨3,1,pos,many,text,ad,le⟩)] (w.hp true++[some ⟨[w.cs 0],61,44,true,false⟩]) (.sc (.int .i64 0))
  ((nH 21++[some ⟨[WorldD.cs (al 1 { w with a:=(tick w.a).1 } (tick w.a).2) 22],61,44,true,false⟩])++WorldD.hp (al 1 { w with a:=(tick w.a).1 } (tick w.a).2) true):=by
 have q1:=hw.s.wa
 have q2:=hw.s.wb
 have q3:=hw.s.ra
 have q4:=hw.s.rb
 have hX:=AO w.a hw.p.s.a hw.oa
 have hsm:=kt hw.p.s.a
 have hlen:=sI w.a
 have hEA:aP 83 [.ag (w.cs 0),.sc (.int .i64 1)] (w.hp false) (.ag (w.a.cs 21)) (w.hp false++w.a.hp true):=gK w 1 hw.p.s.a.own hw.p.s.a.far hw.p.s.a.subs hw.p.s.a.halfs hw.p.s.a.list hw.p.s.a.done hw.p.s.a.over hw.p.s.b.own hw.p.s.b.far hw.p.s.b.subs hw.p.s.b.halfs hw.p.s.b.list hw.p.s.b.done hw.p.s.b.over
 obtain⟨pr,hpr⟩:∃ p,p=tick w.a:=⟨_,rfl⟩
 rw [<-hpr] at hX hsm hlen⊢
 obtain⟨e1,l1⟩:=pr
 dsimp only at hX hsm hlen⊢
 have hset:=oQ w e1
 have hpost:=mD { w with a:=e1 } l1 ⟨hw.p.s.bag,hw.p.s.past,hw.p.s.keys,hw.p.s.tags,hw.p.s.nums,hw.p.s.ansA,hw.p.s.ansB⟩ (by first|omega|simp)
 have hends:=bx (side:=1) (l:=l1) (w:={ w with a:=e1 })
 obtain⟨R,hR⟩:∃ R,R=al 1 { w with a:=e1 } l1:=⟨_,rfl⟩
 rw [<-hR] at hpost hends⊢
 clear hR
 obtain⟨ra,rb,bag,past,wA,wB,rA,rB,known,nums,nsA,nsB⟩:=R
 obtain⟨keys,tags⟩:=known
 dsimp only at hends
 obtain⟨g1,g2,g3,g4,g5,g6⟩:=hends
 replace g1:=g1.symm
 replace g2:=g2.symm
 replace g3:=g3.symm
 replace g4:=g4.symm
 replace g5:=g5.symm
 replace g6:=g6.symm
 subst g1 g2 g3 g4 g5 g6
 refine dX func65 (by kernel_rfl) rfl fun E hE=>ae 400 ?_
 simp (disch:=omega) only [ntmps65,results65,go_sem,seval]
 refine bO [(5,6)] [] [(qU [0,8]),[0,1,2,3,4,6,5,7]] 22 hE (fun s=>s.at (qU [13,6]) [(5,.sc (.pt 30 0 0))] (s.hp++(w.a.hp true++[some ⟨[w.a.cs 23],25,38,true,false⟩]))) (by kernel_rfl) (qC) (by kernel_rfl) ?_ (ae 400 ?_)
 rotate_left
 rotate_right
 simp only [bf]
 refine⟨aa 400 ?_,aa 400 ?_⟩
 ·simp (disch:=omega) only [go_sem]
  refine bD (qC) (hEA) (qI 0 21) qM zF zF (aa 400 ?_)
  simp (disch:=omega) only [go_sem,seval]
  exact qZ (qI 0 31)
 ·simp (disch:=omega) only [go_sem]
  refine bD (qC) (hEA) (qI 0 21) qM zF zF (aa 400 ?_)
  simp (disch:=omega) only [go_sem,seval]
  exact qZ (qI 0 23++qI 24 7++qI 23 1)
 try simp (disch:=omega) only [go_sem,seval]
 refine aD (qC) (hX) (qI 23 7) qM zF (ae 400 ?_)
 simp (disch:=omega) only [go_sem,seval]
 refine aD (qC) (hset) (qI 0 21++qI 31 7++qI 21 1) qM zF (ae 400 ?_)
 simp (disch:=omega) only [go_sem,seval]
 refine aD (qC) (hpost) (qI 31 7++qI 7 15++qI 38 1) qM zF (ae 400 ?_)
 simp (disch:=omega) only [go_sem,seval]
 refine cY (qI 0 22++qI 31 7++qI 7 7++qI 39 7) (qC) _ (by simp only [go_sem];rfl) zF zF ?_
 simp (disch:=omega) only [go_sem,seval]
theorem Cl (w:WorldD) (pos many:Int) (text:List UInt8) (ad:AddrD) (le:LetterD) (hw:SmallD w) (htx:text.length<=1048576):
  aP 65 [.sc (.pt 21 0 0),.ag (ActD.cs ⟨3,2,pos,many,text,ad,le⟩)] (w.hp true++[some ⟨[w.cs 0],61,44,true,false⟩]) (.sc (.int .i64 0))
  ((nH 21++[some ⟨[WorldD.cs (al 2 { w with b:=(tick w.b).1 } (tick w.b).2) 22],61,44,true,false⟩])++WorldD.hp (al 2 { w with b:=(tick w.b).1 } (tick w.b).2) true):=by
 have q1:=hw.s.wa
 have q2:=hw.s.wb
 have q3:=hw.s.ra
 have q4:=hw.s.rb
 have hX:=AO w.b hw.p.s.b hw.ob
 have hsm:=kt hw.p.s.b
 have hlen:=sI w.b
 have hEA:aP 83 [.ag (w.cs 0),.sc (.int .i64 2)] (w.hp false) (.ag (w.b.cs 21)) (w.hp false++w.b.hp true):=gK w 2 hw.p.s.a.own hw.p.s.a.far hw.p.s.a.subs hw.p.s.a.halfs hw.p.s.a.list hw.p.s.a.done hw.p.s.a.over hw.p.s.b.own hw.p.s.b.far hw.p.s.b.subs hw.p.s.b.halfs hw.p.s.b.list hw.p.s.b.done hw.p.s.b.over
 obtain⟨pr,hpr⟩:∃ p,p=tick w.b:=⟨_,rfl⟩
 rw [<-hpr] at hX hsm hlen⊢
 obtain⟨e1,l1⟩:=pr
 dsimp only at hX hsm hlen⊢
 have hset:=tT w e1
 have hpost:=qx { w with b:=e1 } l1 ⟨hw.p.s.bag,hw.p.s.past,hw.p.s.keys,hw.p.s.tags,hw.p.s.nums,hw.p.s.ansA,hw.p.s.ansB⟩ (by first|omega|simp)
 have hends:=bx (side:=2) (l:=l1) (w:={ w with b:=e1 })
 obtain⟨R,hR⟩:∃ R,R=al 2 { w with b:=e1 } l1:=⟨_,rfl⟩
 rw [<-hR] at hpost hends⊢
 clear hR
 obtain⟨ra,rb,bag,past,wA,wB,rA,rB,known,nums,nsA,nsB⟩:=R
 obtain⟨keys,tags⟩:=known
 dsimp only at hends
 obtain⟨g1,g2,g3,g4,g5,g6⟩:=hends
 replace g1:=g1.symm
 replace g2:=g2.symm
 replace g3:=g3.symm
 replace g4:=g4.symm
 replace g5:=g5.symm
 replace g6:=g6.symm
 subst g1 g2 g3 g4 g5 g6
 refine dX func65 (by kernel_rfl) rfl fun E hE=>ae 400 ?_
 simp (disch:=omega) only [ntmps65,results65,go_sem,seval]
 refine bO [(5,6)] [] [(qU [0,8]),[0,1,2,3,4,6,5,7]] 22 hE (fun s=>s.at (qU [13,6]) [(5,.sc (.pt 30 0 0))] (s.hp++(w.b.hp true++[some ⟨[w.b.cs 23],25,38,true,false⟩]))) (by kernel_rfl) (qC) (by kernel_rfl) ?_ (ae 400 ?_)
 rotate_left
 rotate_right
 simp only [bf]
 refine⟨aa 400 ?_,aa 400 ?_⟩
 ·simp (disch:=omega) only [go_sem]
  refine bD (qC) (hEA) (qI 0 21) qM zF zF (aa 400 ?_)
  simp (disch:=omega) only [go_sem,seval]
  exact qZ (qI 0 31)
 ·simp (disch:=omega) only [go_sem]
  refine bD (qC) (hEA) (qI 0 21) qM zF zF (aa 400 ?_)
  simp (disch:=omega) only [go_sem,seval]
  exact qZ (qI 0 23++qI 24 7++qI 23 1)
 try simp (disch:=omega) only [go_sem,seval]
 refine aD (qC) (hX) (qI 23 7) qM zF (ae 400 ?_)
 simp (disch:=omega) only [go_sem,seval]
 refine aD (qC) (hset) (qI 0 21++qI 31 7++qI 21 1) qM zF (ae 400 ?_)
 simp (disch:=omega) only [go_sem,seval]
 refine aD (qC) (hpost) (qI 0 7++qI 31 7++qI 14 8++qI 38 1) qM zF (ae 400 ?_)
 simp (disch:=omega) only [go_sem,seval]
 refine cY (qI 0 22++qI 0 7++qI 31 7++qI 39 7) (qC) _ (by simp only [go_sem];rfl) zF zF ?_
 simp (disch:=omega) only [go_sem,seval]
theorem xP (w:WorldD) (pos many:Int) (text:List UInt8) (ad:AddrD) (le:LetterD) (hw:SmallD w) (htx:text.length<=1048576):
  aP 79 [.ag (w.cs 0),.ag (ActD.cs ⟨1,1,pos,many,text,ad,le⟩)] (w.hp false) (.tu [.ag (WorldD.cs (al 1 { w with wroteA:=w.wroteA++text.take (cO w.a text).2,a:=(bs w.a text).1 } (bs w.a text).2) 21),.sc (.int .i64 0)]) (w.hp false++WorldD.hp (al 1 { w with wroteA:=w.wroteA++text.take (cO w.a text).2,a:=(bs w.a text).1 } (bs w.a text).2) true):=by
 have hX:=pO w.a text hw.p.s.a htx (q_ hw.oa)
 have hsm:=nY (t:=text) hw.p.s.a
 have hlen:=sH w.a text
 have hEA:aP 103 [.ag (w.cs 0),.sc (.int .i64 1)] (w.hp false) (.ag (w.a.cs 21)) (w.hp false++w.a.hp true):=dh w 1 hw.p.s.a.own hw.p.s.a.far hw.p.s.a.subs hw.p.s.a.halfs hw.p.s.a.list hw.p.s.a.done hw.p.s.a.over hw.p.s.b.own hw.p.s.b.far hw.p.s.b.subs hw.p.s.b.halfs hw.p.s.b.list hw.p.s.b.done hw.p.s.b.over
 have hX2:=qy w.a text hw.p.s.a htx
 have hwl:=DW w.a text
 obtain⟨wr,hwr⟩:∃ p,p=cO w.a text:=⟨_,rfl⟩
 rw [<-hwr] at hX2 hwl⊢
 obtain⟨e0,n0⟩:=wr
 dsimp only at hX2 hwl⊢
 obtain⟨pr,hpr⟩:∃ p,p=bs w.a text:=⟨_,rfl⟩
 rw [<-hpr] at hX hsm hlen⊢
 obtain⟨e1,l1⟩:=pr
 dsimp only at hX hsm hlen⊢
 have hset:=f6 { w with wroteA:=w.wroteA++text.take n0 } e1
 have hpost:=f8 { w with wroteA:=w.wroteA++text.take n0,a:=e1 } l1 ⟨hsm,hw.p.s.b,hw.p.s.bag,hw.p.s.past,hw.p.s.keys,hw.p.s.tags,hw.p.s.nums,hw.p.s.ansA,hw.p.s.ansB⟩ (by first|omega|simp)
 have hends:=bx (side:=1) (l:=l1) (w:={ w with wroteA:=w.wroteA++text.take n0,a:=e1 })
 obtain⟨R,hR⟩:∃ R,R=al 1 { w with wroteA:=w.wroteA++text.take n0,a:=e1 } l1:=⟨_,rfl⟩
 rw [<-hR] at hpost hends⊢
 clear hR
 obtain⟨ra,rb,bag,past,wA,wB,rA,rB,known,nums,nsA,nsB⟩:=R
 obtain⟨keys,tags⟩:=known
 dsimp only at hends
 obtain⟨g1,g2,g3,g4,g5,g6⟩:=hends
 replace g1:=g1.symm
 replace g2:=g2.symm
 replace g3:=g3.symm
 replace g4:=g4.symm
 replace g5:=g5.symm
 replace g6:=g6.symm
 subst g1 g2 g3 g4 g5 g6
 have htk:(text.take n0).length<=1048576:=by rw [RT];omega
 have hWr:=jk w 1 (text.take n0) [] hw.s htk zP
 rw [Ec] at hWr
 refine jG func79 ntmps79 results79 fun E hE=>?_
 refine qK (hEA) (qI 0 21) ?_
 refine qK (hX2) (qI 24 7) ?_
 refine qD [0,1,2,3,4,5,6,7,8] ?_
 refine aE (hWr) (qI 0 21) ?_
 refine⟨qC,ae 400 ?_⟩
 try simp (disch:=omega) only [go_sem,seval,eT,cj]
 refine qK (hX) (qI 24 7) ?_
 refine qD [0,1,2,3,5,6,7,4,8,9,10] ?_
 refine aE (hset) (qI 0 21++qI 41 7) ?_
 refine aE (hpost) (qI 41 7++qI 7 14++qI 48 1) ?_
 refine qG ?_
 exact dH (qI 0 21++qI 49 21)
theorem xQ (w:WorldD) (pos many:Int) (text:List UInt8) (ad:AddrD) (le:LetterD) (hw:SmallD w) (htx:text.length<=1048576):
  aP 79 [.ag (w.cs 0),.ag (ActD.cs ⟨2,1,pos,many,text,ad,le⟩)] (w.hp false) (.tu [.ag (WorldD.cs (al 1 { w with readA:=w.readA++(az w.a many).2,a:=((az w.a many).1,([]:List LetterD)).1 } ((az w.a many).1,([]:List LetterD)).2) 21),.sc (.int .i64 0)]) (w.hp false++WorldD.hp (al 1 { w with readA:=w.readA++(az w.a many).2,a:=((az w.a many).1,([]:List LetterD)).1 } ((az w.a many).1,([]:List LetterD)).2) true):=by
 have hX:=Ay w.a many hw.p.s.a hw.p.pa
 have hsm:=jC (m:=many) hw.p.s.a
 have hEA:aP 103 [.ag (w.cs 0),.sc (.int .i64 1)] (w.hp false) (.ag (w.a.cs 21)) (w.hp false++w.a.hp true):=dh w 1 hw.p.s.a.own hw.p.s.a.far hw.p.s.a.subs hw.p.s.a.halfs hw.p.s.a.list hw.p.s.a.done hw.p.s.a.over hw.p.s.b.own hw.p.s.b.far hw.p.s.b.subs hw.p.s.b.halfs hw.p.s.b.list hw.p.s.b.done hw.p.s.b.over
 obtain⟨pr,hpr⟩:∃ p,p=az w.a many:=⟨_,rfl⟩
 have hrl:(az w.a many).2.length<=1048576:=lP hw.p.pa
 rw [<-hpr] at hX hsm hrl⊢
 obtain⟨e1,t1⟩:=pr
 dsimp only at hX hsm hrl⊢
 obtain⟨l1,hl1⟩:∃ l:List LetterD,l=[]:=⟨_,rfl⟩
 have hlen:l1.length<=1:=by rw [hl1];simp
 have hset:=f6 { w with readA:=w.readA++t1 } e1
 have hpost:=f8 { w with readA:=w.readA++t1,a:=e1 } [] ⟨hsm,hw.p.s.b,hw.p.s.bag,hw.p.s.past,hw.p.s.keys,hw.p.s.tags,hw.p.s.nums,hw.p.s.ansA,hw.p.s.ansB⟩ (by first|omega|simp)
 have hends:=bx (side:=1) (l:=[]) (w:={ w with readA:=w.readA++t1,a:=e1 })
 obtain⟨R,hR⟩:∃ R,R=al 1 { w with readA:=w.readA++t1,a:=e1 } []:=⟨_,rfl⟩
 rw [<-hR] at hpost hends⊢
 clear hR
 obtain⟨ra,rb,bag,past,wA,wB,rA,rB,known,nums,nsA,nsB⟩:=R
 obtain⟨keys,tags⟩:=known
 dsimp only at hends
 obtain⟨g1,g2,g3,g4,g5,g6⟩:=hends
 replace g1:=g1.symm
 replace g2:=g2.symm
 replace g3:=g3.symm
 replace g4:=g4.symm
 replace g5:=g5.symm
 replace g6:=g6.symm
 subst g1 g2 g3 g4 g5 g6
 have hWr:=jk w 1 [] t1 hw.s zP hrl
 rw [Ed] at hWr
 refine jG func79 ntmps79 results79 fun E hE=>?_
 refine qK (hEA) (qI 0 21) ?_
 refine qK (hX) (qI 24 7) ?_
 refine qK (hWr) (qI 0 21) ?_
 try simp (disch:=omega) only [go_sem,seval,eT,cj]
 refine qD [0,1,2,3,5,6,7,4,8,9,10] ?_
 refine aE (hset) (qI 0 21++qI 33 7) ?_
 refine aE (hpost) (qI 33 7++qI 7 14++qI 32 1) ?_
 refine qG ?_
 exact dH (qI 0 21++qI 40 21)
theorem xR (w:WorldD) (pos many:Int) (text:List UInt8) (ad:AddrD) (le:LetterD) (hw:SmallD w) (htx:text.length<=1048576):
  aP 79 [.ag (w.cs 0),.ag (ActD.cs ⟨4,1,pos,many,text,ad,le⟩)] (w.hp false) (.tu [.ag (WorldD.cs (al 1 { w with a:=(manage w.a).1 } (manage w.a).2) 21),.sc (.int .i64 0)]) (w.hp false++WorldD.hp (al 1 { w with a:=(manage w.a).1 } (manage w.a).2) true):=by
 have hX:=uW w.a hw.p.s.a
 have hsm:=jW hw.p.s.a
 have hlen:=q9 w.a
 have hEA:aP 103 [.ag (w.cs 0),.sc (.int .i64 1)] (w.hp false) (.ag (w.a.cs 21)) (w.hp false++w.a.hp true):=dh w 1 hw.p.s.a.own hw.p.s.a.far hw.p.s.a.subs hw.p.s.a.halfs hw.p.s.a.list hw.p.s.a.done hw.p.s.a.over hw.p.s.b.own hw.p.s.b.far hw.p.s.b.subs hw.p.s.b.halfs hw.p.s.b.list hw.p.s.b.done hw.p.s.b.over
 obtain⟨pr,hpr⟩:∃ p,p=manage w.a:=⟨_,rfl⟩
 rw [<-hpr] at hX hsm hlen⊢
 obtain⟨e1,l1⟩:=pr
 dsimp only at hX hsm hlen⊢
 have hset:=f6 w e1
 have hpost:=f8 { w with a:=e1 } l1 ⟨hsm,hw.p.s.b,hw.p.s.bag,hw.p.s.past,hw.p.s.keys,hw.p.s.tags,hw.p.s.nums,hw.p.s.ansA,hw.p.s.ansB⟩ (by first|omega|simp)
 have hends:=bx (side:=1) (l:=l1) (w:={ w with a:=e1 })
 obtain⟨R,hR⟩:∃ R,R=al 1 { w with a:=e1 } l1:=⟨_,rfl⟩
 rw [<-hR] at hpost hends⊢
 clear hR
 obtain⟨ra,rb,bag,past,wA,wB,rA,rB,known,nums,nsA,nsB⟩:=R
 obtain⟨keys,tags⟩:=known
 dsimp only at hends
 obtain⟨g1,g2,g3,g4,g5,g6⟩:=hends
 replace g1:=g1.symm
 replace g2:=g2.symm
 replace g3:=g3.symm
 replace g4:=g4.symm
 replace g5:=g5.symm
 replace g6:=g6.symm
 subst g1 g2 g3 g4 g5 g6
 refine jG func79 ntmps79 results79 fun E hE=>?_
 refine qK (hEA) (qI 0 21) ?_
 refine qK (hX) (qI 24 7) ?_
 refine qD [0,1,2,3,5,6,7,4,8,9,10] ?_
 refine aE (hset) (qI 0 21++qI 33 7) ?_
 refine aE (hpost) (qI 33 7++qI 7 14++qI 40 1) ?_
 refine qG ?_
 exact dH (qI 0 21++qI 41 21)
theorem xS (w:WorldD) (pos many:Int) (text:List UInt8) (ad:AddrD) (le:LetterD) (hw:SmallD w) (htx:text.length<=1048576) (hsd:sideAt ad.addr=1) (hgood:(aR w.a ad).2=true):
  aP 79 [.ag (w.cs 0),.ag (ActD.cs ⟨5,1,pos,many,text,ad,le⟩)] (w.hp false) (.tu [.ag (WorldD.cs (al 1 { w with a:=((aR w.a ad).1,([]:List LetterD)).1 } ((aR w.a ad).1,([]:List LetterD)).2) 21),.sc (.int .i64 0)]) (w.hp false++WorldD.hp (al 1 { w with a:=((aR w.a ad).1,([]:List LetterD)).1 } ((aR w.a ad).1,([]:List LetterD)).2) true):=by
 have hX:=kU w.a ad hw.p.s.a
 have hsm:=iJ (a:=ad) hw.p.s.a
 have hEA:aP 103 [.ag (w.cs 0),.sc (.int .i64 1)] (w.hp false) (.ag (w.a.cs 21)) (w.hp false++w.a.hp true):=dh w 1 hw.p.s.a.own hw.p.s.a.far hw.p.s.a.subs hw.p.s.a.halfs hw.p.s.a.list hw.p.s.a.done hw.p.s.a.over hw.p.s.b.own hw.p.s.b.far hw.p.s.b.subs hw.p.s.b.halfs hw.p.s.b.list hw.p.s.b.done hw.p.s.b.over
 obtain⟨pr,hpr⟩:∃ p,p=aR w.a ad:=⟨_,rfl⟩
 rw [<-hpr] at hX hsm hgood⊢
 obtain⟨e1,ok1⟩:=pr
 dsimp only at hX hsm hgood⊢
 subst hgood
 obtain⟨l1,hl1⟩:∃ l:List LetterD,l=[]:=⟨_,rfl⟩
 have hlen:l1.length<=1:=by rw [hl1];simp
 have hset:=f6 w e1
 have hpost:=f8 { w with a:=e1 } [] ⟨hsm,hw.p.s.b,hw.p.s.bag,hw.p.s.past,hw.p.s.keys,hw.p.s.tags,hw.p.s.nums,hw.p.s.ansA,hw.p.s.ansB⟩ (by first|omega|simp)
 have hends:=bx (side:=1) (l:=[]) (w:={ w with a:=e1 })
 obtain⟨R,hR⟩:∃ R,R=al 1 { w with a:=e1 } []:=⟨_,rfl⟩
 rw [<-hR] at hpost hends⊢
 clear hR
 obtain⟨ra,rb,bag,past,wA,wB,rA,rB,known,nums,nsA,nsB⟩:=R
 obtain⟨keys,tags⟩:=known
 dsimp only at hends
 obtain⟨g1,g2,g3,g4,g5,g6⟩:=hends
 replace g1:=g1.symm
 replace g2:=g2.symm
 replace g3:=g3.symm
 replace g4:=g4.symm
 replace g5:=g5.symm
 replace g6:=g6.symm
 subst g1 g2 g3 g4 g5 g6
 have hSd:=eI ad.addr
 rw [hsd] at hSd
 refine jG func79 ntmps79 results79 fun E hE=>?_
 refine qK (hEA) (qI 0 21) ?_
 refine qK (hX) (qI 24 7) ?_
 refine qD [0,1,2,3,4,5,7,8,6,9,10] ?_
 refine aE (hSd) [] ?_
 refine qG ?_
 refine qD [0,1,2,3,5,6,7,4,8,9,10] ?_
 refine aE (hset) (qI 0 21++qI 33 7) ?_
 refine aE (hpost) (qI 33 7++qI 7 14++qI 32 1) ?_
 refine qG ?_
 exact dH (qI 0 21++qI 40 21)
theorem xT (w:WorldD) (pos many:Int) (text:List UInt8) (ad:AddrD) (le:LetterD) (hw:SmallD w) (htx:text.length<=1048576):
  aP 79 [.ag (w.cs 0),.ag (ActD.cs ⟨1,2,pos,many,text,ad,le⟩)] (w.hp false) (.tu [.ag (WorldD.cs (al 2 { w with wroteB:=w.wroteB++text.take (cO w.b text).2,b:=(bs w.b text).1 } (bs w.b text).2) 21),.sc (.int .i64 0)]) (w.hp false++WorldD.hp (al 2 { w with wroteB:=w.wroteB++text.take (cO w.b text).2,b:=(bs w.b text).1 } (bs w.b text).2) true):=by
 have hX:=pO w.b text hw.p.s.b htx (q_ hw.ob)
 have hsm:=nY (t:=text) hw.p.s.b
 have hlen:=sH w.b text
 have hEA:aP 103 [.ag (w.cs 0),.sc (.int .i64 2)] (w.hp false) (.ag (w.b.cs 21)) (w.hp false++w.b.hp true):=dh w 2 hw.p.s.a.own hw.p.s.a.far hw.p.s.a.subs hw.p.s.a.halfs hw.p.s.a.list hw.p.s.a.done hw.p.s.a.over hw.p.s.b.own hw.p.s.b.far hw.p.s.b.subs hw.p.s.b.halfs hw.p.s.b.list hw.p.s.b.done hw.p.s.b.over
 have hX2:=qy w.b text hw.p.s.b htx
 have hwl:=DW w.b text
 obtain⟨wr,hwr⟩:∃ p,p=cO w.b text:=⟨_,rfl⟩
 rw [<-hwr] at hX2 hwl⊢
 obtain⟨e0,n0⟩:=wr
 dsimp only at hX2 hwl⊢
 obtain⟨pr,hpr⟩:∃ p,p=bs w.b text:=⟨_,rfl⟩
 rw [<-hpr] at hX hsm hlen⊢
 obtain⟨e1,l1⟩:=pr
 dsimp only at hX hsm hlen⊢
 have hset:=f7 { w with wroteB:=w.wroteB++text.take n0 } e1
 have hpost:=f9 { w with wroteB:=w.wroteB++text.take n0,b:=e1 } l1 ⟨hw.p.s.a,hsm,hw.p.s.bag,hw.p.s.past,hw.p.s.keys,hw.p.s.tags,hw.p.s.nums,hw.p.s.ansA,hw.p.s.ansB⟩ (by first|omega|simp)
 have hends:=bx (side:=2) (l:=l1) (w:={ w with wroteB:=w.wroteB++text.take n0,b:=e1 })
 obtain⟨R,hR⟩:∃ R,R=al 2 { w with wroteB:=w.wroteB++text.take n0,b:=e1 } l1:=⟨_,rfl⟩
 rw [<-hR] at hpost hends⊢
 clear hR
 obtain⟨ra,rb,bag,past,wA,wB,rA,rB,known,nums,nsA,nsB⟩:=R
 obtain⟨keys,tags⟩:=known
 dsimp only at hends
 obtain⟨g1,g2,g3,g4,g5,g6⟩:=hends
 replace g1:=g1.symm
 replace g2:=g2.symm
 replace g3:=g3.symm
 replace g4:=g4.symm
 replace g5:=g5.symm
 replace g6:=g6.symm
 subst g1 g2 g3 g4 g5 g6
 have htk:(text.take n0).length<=1048576:=by rw [RT];omega
 have hWr:=jk w 2 (text.take n0) [] hw.s htk zP
 rw [Ec] at hWr
 refine jG func79 ntmps79 results79 fun E hE=>?_
 refine qK (hEA) (qI 0 21) ?_
 refine qK (hX2) (qI 24 7) ?_
 refine qD [0,1,2,3,4,5,6,7,8] ?_
 refine aE (hWr) (qI 0 21) ?_
 refine⟨qC,ae 400 ?_⟩
 try simp (disch:=omega) only [go_sem,seval,eT,cj]
 refine qK (hX) (qI 24 7) ?_
 refine qD [0,1,2,3,5,6,7,4,8,9,10] ?_
 refine aE (hset) (qI 0 21++qI 41 7) ?_
 refine aE (hpost) (qI 0 7++qI 41 7++qI 14 7++qI 48 1) ?_
 refine qG ?_
 exact dH (qI 0 21++qI 49 21)
theorem xU (w:WorldD) (pos many:Int) (text:List UInt8) (ad:AddrD) (le:LetterD) (hw:SmallD w) (htx:text.length<=1048576):
  aP 79 [.ag (w.cs 0),.ag (ActD.cs ⟨2,2,pos,many,text,ad,le⟩)] (w.hp false) (.tu [.ag (WorldD.cs (al 2 { w with readB:=w.readB++(az w.b many).2,b:=((az w.b many).1,([]:List LetterD)).1 } ((az w.b many).1,([]:List LetterD)).2) 21),.sc (.int .i64 0)]) (w.hp false++WorldD.hp (al 2 { w with readB:=w.readB++(az w.b many).2,b:=((az w.b many).1,([]:List LetterD)).1 } ((az w.b many).1,([]:List LetterD)).2) true):=by
 have hX:=Ay w.b many hw.p.s.b hw.p.pb
 have hsm:=jC (m:=many) hw.p.s.b
 have hEA:aP 103 [.ag (w.cs 0),.sc (.int .i64 2)] (w.hp false) (.ag (w.b.cs 21)) (w.hp false++w.b.hp true):=dh w 2 hw.p.s.a.own hw.p.s.a.far hw.p.s.a.subs hw.p.s.a.halfs hw.p.s.a.list hw.p.s.a.done hw.p.s.a.over hw.p.s.b.own hw.p.s.b.far hw.p.s.b.subs hw.p.s.b.halfs hw.p.s.b.list hw.p.s.b.done hw.p.s.b.over
 obtain⟨pr,hpr⟩:∃ p,p=az w.b many:=⟨_,rfl⟩
 have hrl:(az w.b many).2.length<=1048576:=lP hw.p.pb
 rw [<-hpr] at hX hsm hrl⊢
 obtain⟨e1,t1⟩:=pr
 dsimp only at hX hsm hrl⊢
 obtain⟨l1,hl1⟩:∃ l:List LetterD,l=[]:=⟨_,rfl⟩
 have hlen:l1.length<=1:=by rw [hl1];simp
 have hset:=f7 { w with readB:=w.readB++t1 } e1
 have hpost:=f9 { w with readB:=w.readB++t1,b:=e1 } [] ⟨hw.p.s.a,hsm,hw.p.s.bag,hw.p.s.past,hw.p.s.keys,hw.p.s.tags,hw.p.s.nums,hw.p.s.ansA,hw.p.s.ansB⟩ (by first|omega|simp)
 have hends:=bx (side:=2) (l:=[]) (w:={ w with readB:=w.readB++t1,b:=e1 })
 obtain⟨R,hR⟩:∃ R,R=al 2 { w with readB:=w.readB++t1,b:=e1 } []:=⟨_,rfl⟩
 rw [<-hR] at hpost hends⊢
 clear hR
 obtain⟨ra,rb,bag,past,wA,wB,rA,rB,known,nums,nsA,nsB⟩:=R
 obtain⟨keys,tags⟩:=known
 dsimp only at hends
 obtain⟨g1,g2,g3,g4,g5,g6⟩:=hends
 replace g1:=g1.symm
 replace g2:=g2.symm
 replace g3:=g3.symm
 replace g4:=g4.symm
 replace g5:=g5.symm
 replace g6:=g6.symm
 subst g1 g2 g3 g4 g5 g6
 have hWr:=jk w 2 [] t1 hw.s zP hrl
 rw [Ed] at hWr
 refine jG func79 ntmps79 results79 fun E hE=>?_
 refine qK (hEA) (qI 0 21) ?_
 refine qK (hX) (qI 24 7) ?_
 refine qK (hWr) (qI 0 21) ?_
 try simp (disch:=omega) only [go_sem,seval,eT,cj]
 refine qD [0,1,2,3,5,6,7,4,8,9,10] ?_
 refine aE (hset) (qI 0 21++qI 33 7) ?_
 refine aE (hpost) (qI 0 7++qI 33 7++qI 14 7++qI 32 1) ?_
 refine qG ?_
 exact dH (qI 0 21++qI 40 21)
theorem xV (w:WorldD) (pos many:Int) (text:List UInt8) (ad:AddrD) (le:LetterD) (hw:SmallD w) (htx:text.length<=1048576):
  aP 79 [.ag (w.cs 0),.ag (ActD.cs ⟨4,2,pos,many,text,ad,le⟩)] (w.hp false) (.tu [.ag (WorldD.cs (al 2 { w with b:=(manage w.b).1 } (manage w.b).2) 21),.sc (.int .i64 0)]) (w.hp false++WorldD.hp (al 2 { w with b:=(manage w.b).1 } (manage w.b).2) true):=by
 have hX:=uW w.b hw.p.s.b
 have hsm:=jW hw.p.s.b
 have hlen:=q9 w.b
 have hEA:aP 103 [.ag (w.cs 0),.sc (.int .i64 2)] (w.hp false) (.ag (w.b.cs 21)) (w.hp false++w.b.hp true):=dh w 2 hw.p.s.a.own hw.p.s.a.far hw.p.s.a.subs hw.p.s.a.halfs hw.p.s.a.list hw.p.s.a.done hw.p.s.a.over hw.p.s.b.own hw.p.s.b.far hw.p.s.b.subs hw.p.s.b.halfs hw.p.s.b.list hw.p.s.b.done hw.p.s.b.over
 obtain⟨pr,hpr⟩:∃ p,p=manage w.b:=⟨_,rfl⟩
 rw [<-hpr] at hX hsm hlen⊢
 obtain⟨e1,l1⟩:=pr
 dsimp only at hX hsm hlen⊢
 have hset:=f7 w e1
 have hpost:=f9 { w with b:=e1 } l1 ⟨hw.p.s.a,hsm,hw.p.s.bag,hw.p.s.past,hw.p.s.keys,hw.p.s.tags,hw.p.s.nums,hw.p.s.ansA,hw.p.s.ansB⟩ (by first|omega|simp)
 have hends:=bx (side:=2) (l:=l1) (w:={ w with b:=e1 })
 obtain⟨R,hR⟩:∃ R,R=al 2 { w with b:=e1 } l1:=⟨_,rfl⟩
 rw [<-hR] at hpost hends⊢
 clear hR
 obtain⟨ra,rb,bag,past,wA,wB,rA,rB,known,nums,nsA,nsB⟩:=R
 obtain⟨keys,tags⟩:=known
 dsimp only at hends
 obtain⟨g1,g2,g3,g4,g5,g6⟩:=hends
 replace g1:=g1.symm
 replace g2:=g2.symm
 replace g3:=g3.symm
 replace g4:=g4.symm
 replace g5:=g5.symm
 replace g6:=g6.symm
 subst g1 g2 g3 g4 g5 g6
 refine jG func79 ntmps79 results79 fun E hE=>?_
 refine qK (hEA) (qI 0 21) ?_
 refine qK (hX) (qI 24 7) ?_
 refine qD [0,1,2,3,5,6,7,4,8,9,10] ?_
 refine aE (hset) (qI 0 21++qI 33 7) ?_
 refine aE (hpost) (qI 0 7++qI 33 7++qI 14 7++qI 40 1) ?_
 refine qG ?_
 exact dH (qI 0 21++qI 41 21)
theorem xW (w:WorldD) (pos many:Int) (text:List UInt8) (ad:AddrD) (le:LetterD) (hw:SmallD w) (htx:text.length<=1048576) (hsd:sideAt ad.addr=2) (hgood:(aR w.b ad).2=true):
  aP 79 [.ag (w.cs 0),.ag (ActD.cs ⟨5,2,pos,many,text,ad,le⟩)] (w.hp false) (.tu [.ag (WorldD.cs (al 2 { w with b:=((aR w.b ad).1,([]:List LetterD)).1 } ((aR w.b ad).1,([]:List LetterD)).2) 21),.sc (.int .i64 0)]) (w.hp false++WorldD.hp (al 2 { w with b:=((aR w.b ad).1,([]:List LetterD)).1 } ((aR w.b ad).1,([]:List LetterD)).2) true):=by
 have hX:=kU w.b ad hw.p.s.b
 have hsm:=iJ (a:=ad) hw.p.s.b
 have hEA:aP 103 [.ag (w.cs 0),.sc (.int .i64 2)] (w.hp false) (.ag (w.b.cs 21)) (w.hp false++w.b.hp true):=dh w 2 hw.p.s.a.own hw.p.s.a.far hw.p.s.a.subs hw.p.s.a.halfs hw.p.s.a.list hw.p.s.a.done hw.p.s.a.over hw.p.s.b.own hw.p.s.b.far hw.p.s.b.subs hw.p.s.b.halfs hw.p.s.b.list hw.p.s.b.done hw.p.s.b.over
 obtain⟨pr,hpr⟩:∃ p,p=aR w.b ad:=⟨_,rfl⟩
 rw [<-hpr] at hX hsm hgood⊢
 obtain⟨e1,ok1⟩:=pr
 dsimp only at hX hsm hgood⊢
 subst hgood
 obtain⟨l1,hl1⟩:∃ l:List LetterD,l=[]:=⟨_,rfl⟩
 have hlen:l1.length<=1:=by rw [hl1];simp
 have hset:=f7 w e1
 have hpost:=f9 { w with b:=e1 } [] ⟨hw.p.s.a,hsm,hw.p.s.bag,hw.p.s.past,hw.p.s.keys,hw.p.s.tags,hw.p.s.nums,hw.p.s.ansA,hw.p.s.ansB⟩ (by first|omega|simp)
 have hends:=bx (side:=2) (l:=[]) (w:={ w with b:=e1 })
 obtain⟨R,hR⟩:∃ R,R=al 2 { w with b:=e1 } []:=⟨_,rfl⟩
 rw [<-hR] at hpost hends⊢
 clear hR
 obtain⟨ra,rb,bag,past,wA,wB,rA,rB,known,nums,nsA,nsB⟩:=R
 obtain⟨keys,tags⟩:=known
 dsimp only at hends
 obtain⟨g1,g2,g3,g4,g5,g6⟩:=hends
 replace g1:=g1.symm
 replace g2:=g2.symm
 replace g3:=g3.symm
 replace g4:=g4.symm
 replace g5:=g5.symm
 replace g6:=g6.symm
 subst g1 g2 g3 g4 g5 g6
 have hSd:=eI ad.addr
 rw [hsd] at hSd
 refine jG func79 ntmps79 results79 fun E hE=>?_
 refine qK (hEA) (qI 0 21) ?_
 refine qK (hX) (qI 24 7) ?_
 refine qD [0,1,2,3,4,5,7,8,6,9,10] ?_
 refine aE (hSd) [] ?_
 refine qG ?_
 refine qD [0,1,2,3,5,6,7,4,8,9,10] ?_
 refine aE (hset) (qI 0 21++qI 33 7) ?_
 refine aE (hpost) (qI 0 7++qI 33 7++qI 14 7++qI 32 1) ?_
 refine qG ?_
 exact dH (qI 0 21++qI 40 21)
theorem xX (w:WorldD) (pos many:Int) (text:List UInt8) (ad:AddrD) (le:LetterD) (hw:SmallD w) (htx:text.length<=1048576):
  aP 79 [.ag (w.cs 0),.ag (ActD.cs ⟨3,1,pos,many,text,ad,le⟩)] (w.hp false) (.tu [.ag (WorldD.cs (al 1 { w with a:=(tick w.a).1 } (tick w.a).2) 21),.sc (.int .i64 0)]) (w.hp false++WorldD.hp (al 1 { w with a:=(tick w.a).1 } (tick w.a).2) true):=by
 have hX:=AP w.a hw.p.s.a hw.oa
 have hsm:=kt hw.p.s.a
 have hlen:=sI w.a
 have hEA:aP 103 [.ag (w.cs 0),.sc (.int .i64 1)] (w.hp false) (.ag (w.a.cs 21)) (w.hp false++w.a.hp true):=dh w 1 hw.p.s.a.own hw.p.s.a.far hw.p.s.a.subs hw.p.s.a.halfs hw.p.s.a.list hw.p.s.a.done hw.p.s.a.over hw.p.s.b.own hw.p.s.b.far hw.p.s.b.subs hw.p.s.b.halfs hw.p.s.b.list hw.p.s.b.done hw.p.s.b.over
 obtain⟨pr,hpr⟩:∃ p,p=tick w.a:=⟨_,rfl⟩
 rw [<-hpr] at hX hsm hlen⊢
 obtain⟨e1,l1⟩:=pr
 dsimp only at hX hsm hlen⊢
 have hset:=f6 w e1
 have hpost:=f8 { w with a:=e1 } l1 ⟨hsm,hw.p.s.b,hw.p.s.bag,hw.p.s.past,hw.p.s.keys,hw.p.s.tags,hw.p.s.nums,hw.p.s.ansA,hw.p.s.ansB⟩ (by first|omega|simp)
 have hends:=bx (side:=1) (l:=l1) (w:={ w with a:=e1 })
 obtain⟨R,hR⟩:∃ R,R=al 1 { w with a:=e1 } l1:=⟨_,rfl⟩
 rw [<-hR] at hpost hends⊢
 clear hR
 obtain⟨ra,rb,bag,past,wA,wB,rA,rB,known,nums,nsA,nsB⟩:=R
 obtain⟨keys,tags⟩:=known
 dsimp only at hends
 obtain⟨g1,g2,g3,g4,g5,g6⟩:=hends
 replace g1:=g1.symm
 replace g2:=g2.symm
 replace g3:=g3.symm
 replace g4:=g4.symm
 replace g5:=g5.symm
 replace g6:=g6.symm
 subst g1 g2 g3 g4 g5 g6
 refine jG func79 ntmps79 results79 fun E hE=>?_
 refine qK (hEA) (qI 0 21) ?_
 refine qK (hX) (qI 24 7) ?_
 refine qD [0,1,2,3,5,6,7,4,8,9,10] ?_
 refine aE (hset) (qI 0 21++qI 33 7) ?_
 refine aE (hpost) (qI 33 7++qI 7 14++qI 40 1) ?_
 refine qG ?_
 exact dH (qI 0 21++qI 41 21)
theorem xY (w:WorldD) (pos many:Int) (text:List UInt8) (ad:AddrD) (le:LetterD) (hw:SmallD w) (htx:text.length<=1048576):
  aP 79 [.ag (w.cs 0),.ag (ActD.cs ⟨3,2,pos,many,text,ad,le⟩)] (w.hp false) (.tu [.ag (WorldD.cs (al 2 { w with b:=(tick w.b).1 } (tick w.b).2) 21),.sc (.int .i64 0)]) (w.hp false++WorldD.hp (al 2 { w with b:=(tick w.b).1 } (tick w.b).2) true):=by
 have hX:=AP w.b hw.p.s.b hw.ob
 have hsm:=kt hw.p.s.b
 have hlen:=sI w.b
 have hEA:aP 103 [.ag (w.cs 0),.sc (.int .i64 2)] (w.hp false) (.ag (w.b.cs 21)) (w.hp false++w.b.hp true):=dh w 2 hw.p.s.a.own hw.p.s.a.far hw.p.s.a.subs hw.p.s.a.halfs hw.p.s.a.list hw.p.s.a.done hw.p.s.a.over hw.p.s.b.own hw.p.s.b.far hw.p.s.b.subs hw.p.s.b.halfs hw.p.s.b.list hw.p.s.b.done hw.p.s.b.over
 obtain⟨pr,hpr⟩:∃ p,p=tick w.b:=⟨_,rfl⟩
 rw [<-hpr] at hX hsm hlen⊢
 obtain⟨e1,l1⟩:=pr
 dsimp only at hX hsm hlen⊢
 have hset:=f7 w e1
 have hpost:=f9 { w with b:=e1 } l1 ⟨hw.p.s.a,hsm,hw.p.s.bag,hw.p.s.past,hw.p.s.keys,hw.p.s.tags,hw.p.s.nums,hw.p.s.ansA,hw.p.s.ansB⟩ (by first|omega|simp)
 have hends:=bx (side:=2) (l:=l1) (w:={ w with b:=e1 })
 obtain⟨R,hR⟩:∃ R,R=al 2 { w with b:=e1 } l1:=⟨_,rfl⟩
 rw [<-hR] at hpost hends⊢
 clear hR
 obtain⟨ra,rb,bag,past,wA,wB,rA,rB,known,nums,nsA,nsB⟩:=R
 obtain⟨keys,tags⟩:=known
 dsimp only at hends
 obtain⟨g1,g2,g3,g4,g5,g6⟩:=hends
 replace g1:=g1.symm
 replace g2:=g2.symm
 replace g3:=g3.symm
 replace g4:=g4.symm
 replace g5:=g5.symm
 replace g6:=g6.symm
 subst g1 g2 g3 g4 g5 g6
 refine jG func79 ntmps79 results79 fun E hE=>?_
 refine qK (hEA) (qI 0 21) ?_
 refine qK (hX) (qI 24 7) ?_
 refine qD [0,1,2,3,5,6,7,4,8,9,10] ?_
 refine aE (hset) (qI 0 21++qI 33 7) ?_
 refine aE (hpost) (qI 0 7++qI 33 7++qI 14 7++qI 40 1) ?_
 refine qG ?_
 exact dH (qI 0 21++qI 41 21)
theorem vp (w:WorldD) (pos many:Int) (text:List UInt8) (ad:AddrD) (le:LetterD) (hw:SmallD w) (hbad:¬ sideAt ad.addr=1\/(aR w.a ad).2=false):
  aP 79 [.ag (w.cs 0),.ag (ActD.cs ⟨5,1,pos,many,text,ad,le⟩)] (w.hp true) (.tu [.ag (WorldD.cs w 21),.sc (.int .i64 1)]) ((nH 21)++WorldD.hp w true):=by
 have hX:=kU w.a ad hw.p.s.a
 have hsm:=iJ (a:=ad) hw.p.s.a
 have hEA:aP 103 [.ag (w.cs 0),.sc (.int .i64 1)] (w.hp false) (.ag (w.a.cs 21)) (w.hp false++w.a.hp true):=dh w 1 hw.p.s.a.own hw.p.s.a.far hw.p.s.a.subs hw.p.s.a.halfs hw.p.s.a.list hw.p.s.a.done hw.p.s.a.over hw.p.s.b.own hw.p.s.b.far hw.p.s.b.subs hw.p.s.b.halfs hw.p.s.b.list hw.p.s.b.done hw.p.s.b.over
 obtain⟨pr,hpr⟩:∃ p,p=aR w.a ad:=⟨_,rfl⟩
 rw [<-hpr] at hX hsm hbad
 obtain⟨e1,ok1⟩:=pr
 dsimp only at hX hsm hbad
 have hSd:=eI ad.addr
 generalize sideAt ad.addr=sd at*
 refine jG func79 ntmps79 results79 fun E hE=>?_
 refine qK (hEA) (qI 0 21) ?_
 refine qK (hX) (qI 24 7) ?_
 cases ok1 with
 |false=>
  refine qD [0,1,2,3,4,5,7,8,6,9,10] ?_
  refine qG ?_
  exact dH (qI 0 21++qI 0 21)
 |true=>
  have h0:¬ sd=1:=by rcases hbad with h|h;exact h;exact absurd h zP
  refine qD [0,1,2,3,4,5,7,8,6,9,10] ?_
  refine aE (hSd) [] ?_
  refine qG ?_
  exact dH (qI 0 21++qI 0 21)
theorem vq (w:WorldD) (pos many:Int) (text:List UInt8) (ad:AddrD) (le:LetterD) (hw:SmallD w) (hbad:¬ sideAt ad.addr=2\/(aR w.b ad).2=false):
  aP 79 [.ag (w.cs 0),.ag (ActD.cs ⟨5,2,pos,many,text,ad,le⟩)] (w.hp true) (.tu [.ag (WorldD.cs w 21),.sc (.int .i64 1)]) ((nH 21)++WorldD.hp w true):=by
 have hX:=kU w.b ad hw.p.s.b
 have hsm:=iJ (a:=ad) hw.p.s.b
 have hEA:aP 103 [.ag (w.cs 0),.sc (.int .i64 2)] (w.hp false) (.ag (w.b.cs 21)) (w.hp false++w.b.hp true):=dh w 2 hw.p.s.a.own hw.p.s.a.far hw.p.s.a.subs hw.p.s.a.halfs hw.p.s.a.list hw.p.s.a.done hw.p.s.a.over hw.p.s.b.own hw.p.s.b.far hw.p.s.b.subs hw.p.s.b.halfs hw.p.s.b.list hw.p.s.b.done hw.p.s.b.over
 obtain⟨pr,hpr⟩:∃ p,p=aR w.b ad:=⟨_,rfl⟩
 rw [<-hpr] at hX hsm hbad
 obtain⟨e1,ok1⟩:=pr
 dsimp only at hX hsm hbad
 have hSd:=eI ad.addr
 generalize sideAt ad.addr=sd at*
 refine jG func79 ntmps79 results79 fun E hE=>?_
 refine qK (hEA) (qI 0 21) ?_
 refine qK (hX) (qI 24 7) ?_
 cases ok1 with
 |false=>
  refine qD [0,1,2,3,4,5,7,8,6,9,10] ?_
  refine qG ?_
  exact dH (qI 0 21++qI 0 21)
 |true=>
  have h0:¬ sd=2:=by rcases hbad with h|h;exact h;exact absurd h zP
  refine qD [0,1,2,3,4,5,7,8,6,9,10] ?_
  refine aE (hSd) [] ?_
  refine qG ?_
  exact dH (qI 0 21++qI 0 21)
theorem NL {w:WorldD} {pos many:Int} {text:List UInt8} {ad:AddrD} {le:LetterD}:dR w ⟨1,1,pos,many,text,ad,le⟩=(al 1 { w with wroteA:=w.wroteA++text.take (cO w.a text).2,a:=(bs w.a text).1 } (bs w.a text).2,0):=by
 simp [dR,cx,dE,dl,bS,aL,eT,cj]
theorem HX {w:WorldD} {pos many:Int} {text:List UInt8} {ad:AddrD} {le:LetterD}:dR w ⟨2,1,pos,many,text,ad,le⟩=(al 1 { w with readA:=w.readA++(az w.a many).2,a:=((az w.a many).1,([]:List LetterD)).1 } ((az w.a many).1,([]:List LetterD)).2,0):=by
 simp [dR,cx,dE,dl,bS,aL,eT,cj]
theorem HY {w:WorldD} {pos many:Int} {text:List UInt8} {ad:AddrD} {le:LetterD}:dR w ⟨3,1,pos,many,text,ad,le⟩=(al 1 { w with a:=(tick w.a).1 } (tick w.a).2,0):=by
 simp [dR,cx,dE,dl,bS,aL,eT,cj]
theorem HZ {w:WorldD} {pos many:Int} {text:List UInt8} {ad:AddrD} {le:LetterD}:dR w ⟨4,1,pos,many,text,ad,le⟩=(al 1 { w with a:=(manage w.a).1 } (manage w.a).2,0):=by
 simp [dR,cx,dE,dl,bS,aL,eT,cj]
theorem NM {w:WorldD} {pos many:Int} {text:List UInt8} {ad:AddrD} {le:LetterD} (hsd:sideAt ad.addr=1) (hgood:(aR w.a ad).2=true):dR w ⟨5,1,pos,many,text,ad,le⟩=(al 1 { w with a:=((aR w.a ad).1,([]:List LetterD)).1 } ((aR w.a ad).1,([]:List LetterD)).2,0):=by
 simp [dR,cx,dE,dl,bS,aL,eT,cj,hsd,hgood]
theorem NN {w:WorldD} {pos many:Int} {text:List UInt8} {ad:AddrD} {le:LetterD}:dR w ⟨1,2,pos,many,text,ad,le⟩=(al 2 { w with wroteB:=w.wroteB++text.take (cO w.b text).2,b:=(bs w.b text).1 } (bs w.b text).2,0):=by
 simp [dR,cx,dE,dl,bS,aL,eT,cj]
theorem H0 {w:WorldD} {pos many:Int} {text:List UInt8} {ad:AddrD} {le:LetterD}:dR w ⟨2,2,pos,many,text,ad,le⟩=(al 2 { w with readB:=w.readB++(az w.b many).2,b:=((az w.b many).1,([]:List LetterD)).1 } ((az w.b many).1,([]:List LetterD)).2,0):=by
 simp [dR,cx,dE,dl,bS,aL,eT,cj]
theorem H1 {w:WorldD} {pos many:Int} {text:List UInt8} {ad:AddrD} {le:LetterD}:dR w ⟨3,2,pos,many,text,ad,le⟩=(al 2 { w with b:=(tick w.b).1 } (tick w.b).2,0):=by
 simp [dR,cx,dE,dl,bS,aL,eT,cj]
theorem NO {w:WorldD} {pos many:Int} {text:List UInt8} {ad:AddrD} {le:LetterD}:dR w ⟨4,2,pos,many,text,ad,le⟩=(al 2 { w with b:=(manage w.b).1 } (manage w.b).2,0):=by
 simp [dR,cx,dE,dl,bS,aL,eT,cj]
theorem NP {w:WorldD} {pos many:Int} {text:List UInt8} {ad:AddrD} {le:LetterD} (hsd:sideAt ad.addr=2) (hgood:(aR w.b ad).2=true):dR w ⟨5,2,pos,many,text,ad,le⟩=(al 2 { w with b:=((aR w.b ad).1,([]:List LetterD)).1 } ((aR w.b ad).1,([]:List LetterD)).2,0):=by
 simp [dR,cx,dE,dl,bS,aL,eT,cj,hsd,hgood]
theorem El {w:WorldD} {a:ActD} (h:cx w a=true):dR w a=(w,1):=if_pos h
theorem Ju {w:WorldD} {a:ActD} (h:¬ cx w a=true):(dR w a).2=0:=by rw [dR,if_neg h]
theorem Gb (w:WorldD) (a:ActD):(cc w a).2=0\/(cc w a).1=w:=by
 unfold cc;repeat' split
 all_goals first|exact .inl rfl|exact .inr rfl
theorem Jv (w:WorldD) (a:ActD):(dR w a).2=0\/(dR w a).1=w:=by
 by_cases h:cx w a=true
 ·rw [El h];exact .inr rfl
 exact .inl (Ju h)
theorem hZ {a:ActD} (h:cN a=true):1<=a.kind/\a.kind<=12/\1<=a.side/\a.side<=2/\0<=a.pos/\a.text.length<=1048576:=by
 simp only [cN,cv,gp,RP,decide_eq_true_eq] at h
 omega
theorem Cm (w:WorldD) (a:ActD) (hw:SmallD w) (ha:cN a=true) (hb:cx w a=true):
  aP 79 [.ag (w.cs 0),.ag a.cs] (w.hp true) (.tu [.ag (w.cs 21),.sc (.int .i64 1)]) ((nH 21)++w.hp true):=by
 obtain⟨k1,k2,k3,k4,k5,k6⟩:=hZ ha
 obtain⟨kind,side,pos,many,text,ad,le⟩:=a
 dsimp only at*
 have hs:side=1\/side=2:=zO
 have hk:kind=5:=by simp only [cx,RP,decide_eq_true_eq] at hb;exact hb.1
 subst hk
 rcases hs with rfl|rfl
 ·refine vp w pos many text ad le hw ?_
  by_cases h0:sideAt ad.addr=1
  ·exact .inr (by cases h1:(aR w.a ad).2;rfl;simp [cx,bS,h0,h1] at hb)
  exact .inl h0
 refine vq w pos many text ad le hw ?_
 by_cases h0:sideAt ad.addr=2
 ·exact .inr (by cases h1:(aR w.b ad).2;rfl;simp [cx,bS,h0,h1] at hb)
 exact .inl h0
theorem Em (w:WorldD) (a:ActD) (hw:SmallD w) (ha:cN a=true) (h7:¬ a.kind<=7) (h10:a.kind<=10):
  aP 81 [.ag (w.cs 0),.ag a.cs] (w.hp true) (.tu [.ag ((cc w a).1.cs 21),.sc (.int .i64 (cc w a).2)]) ((nH 21)++(cc w a).1.hp true):=by
 obtain⟨k1,k2,k3,k4,k5,k6⟩:=hZ ha
 obtain⟨kind,side,pos,many,text,ad,le⟩:=a
 dsimp only at*
 have hk:kind=8\/kind=9\/kind=10:=zO
 obtain⟨p,rfl⟩:=Int.eq_ofNat_of_zero_le k5
 rcases hk with rfl|rfl|rfl
 ·exact Ci w side many p text ad le hw
 ·exact Cj w side many p text ad le hw
 exact zu w side many p text ad le hw
def Cn (e:EndD):Bool:=wU e && decide (e.inp.list=[]) && decide (e.inp.ready.length=0) && decide (e.out.text.length=0) && decide (e.subs.length<=100) && decide (e.far.length<=100)
theorem u_ {e:EndD} (h:Cn e=true):GoodE e/\O9 e:=by
 simp only [Cn,RP,decide_eq_true_eq] at h
 obtain⟨⟨⟨⟨⟨h1,h2⟩,h3⟩,h4⟩,h5⟩,h6⟩:=h
 exact⟨⟨qd h1,⟨by rw [h2];decide,zO,fun x hx=>by rw [h2] at hx;simp at hx⟩,zO⟩,h5,h6⟩
theorem Ge:(pols.all fun p=>wU (fj 1 p) && wU (fj 2 p) && Cn (mq (fj 1 p) (fj 2 p)).1 && Cn (mq (fj 1 p) (fj 2 p)).2.1)=true:=by decide+kernel
def jb (x y:EndD):WorldD:=⟨x,y,[],[],[],[],[],[],⟨[5,7],[]⟩,[],[],[]⟩
def startE (x y:EndD):Bool:=ai x && ai y && decide (x.state=2/\y.state=2/\x.side=1/\y.side=2/\x.key=1001/\y.key=1002/\x.peer=1002/\y.peer=1001/\x.draw=1005/\y.draw=1006/\x.now=0/\y.now=0) &&
 decide (x.halfs=[]/\y.halfs=[]/\x.own=gj 11/\y.own=gj 21/\x.far=e_ 21/\y.far=e_ 11/\x.bucket=⟨1,3,3⟩/\y.bucket=⟨1,3,3⟩) &&
 decide (x.out=⟨[],0,0,120⟩/\y.out=⟨[],0,0,120⟩) && decide (x.inp.read=0/\x.inp.ready=[]/\x.inp.list=[]/\y.inp.read=0/\y.inp.ready=[]/\y.inp.list=[]) &&
 decide (x.subs=[⟨⟨11,21,0⟩,3,false,0,0,1004,1003,0⟩]/\y.subs=[⟨⟨21,11,0⟩,3,false,0,0,1003,1004,0⟩])
structure Start (w:WorldD):Prop where
 e:startE w.a w.b=true
 bag:w.bag=[]
 past:w.past=[]
 keys:w.known.keys=[5,7]
 tags:w.known.tags=[]
 nums:w.nums=[]
 wa:w.wroteA=[]
 wb:w.wroteB=[]
 ra:w.readA=[]
 rb:w.readB=[]
 na:w.answersA=[]
 nb:w.answersB=[]
theorem Gf:(pols.all fun p=>startE (mq (fj 1 p) (fj 2 p)).1 (mq (fj 1 p) (fj 2 p)).2.1)=true:=by decide+kernel
structure Start2 (w:WorldD):Prop where
 pol:w.a.policy∈pols
 done:w.a.done=[]/\w.b.done=[]
 over:w.a.over=[]/\w.b.over=[]
theorem En:(pols.all fun p=>decide ((mq (fj 1 p) (fj 2 p)).1.policy=p) && decide ((mq (fj 1 p) (fj 2 p)).1.done=[]/\(mq (fj 1 p) (fj 2 p)).2.1.done=[]) && decide ((mq (fj 1 p) (fj 2 p)).1.over=[]/\(mq (fj 1 p) (fj 2 p)).2.1.over=[]))=true:=by decide+kernel
structure CalmA (a:ActD):Prop where
 k:a.kind=1\/a.kind=2\/a.kind=3\/a.kind=4\/a.kind=5\/a.kind=8\/a.kind=9\/a.kind=10
 ad:a.kind=5->a.addr.id=1/\a.addr.addr=10*a.side+2
structure Fine0 (w:WorldD):Prop where
 g:GoodW w 0
 f:FewW w
 bag:w.bag=[]
 past:w.past=[]
 tags:w.known.tags=[]
 st:Start w
 s2:Start2 w
theorem xZ (p:PolicyD) (hp:p∈pols):∃ w:WorldD,Fine0 w/\aP 59 [.ag p.cs] [] (.tu [.ag (w.cs 0),.sc (.bo true)]) (w.hp true):=by
 have h1:=uP 1 11 p
 have h2:=uP 2 21 p
 have i1:=DJ (s:=1) zO hp
 have i2:=DJ (s:=2) zO hp
 rw [show (10*1+1:Int)=11 from rfl] at i1
 rw [show (10*2+1:Int)=21 from rfl] at i2
 rw [i1] at h1
 rw [i2] at h2
 have hm:=RW.1 Ge p hp
 simp only [RP] at hm
 obtain⟨⟨⟨m1,m2⟩,m3⟩,m4⟩:=hm
 have hM:=Jf (fj 1 p) (fj 2 p) (qd m1) (qd m2)
 have hst:=RW.1 Gf p hp
 have hs2:=RW.1 En p hp
 obtain⟨g1,f1⟩:=u_ m3
 obtain⟨g2,f2⟩:=u_ m4
 clear i1 i2 m1 m2 m3 m4
 generalize fj 1 p=a at*
 generalize fj 2 p=c at*
 obtain⟨M,hMM⟩:∃ M,M=mq a c:=⟨_,rfl⟩
 rw [<-hMM] at hM g1 f1 g2 f2 hst hs2
 clear hMM
 obtain⟨X,Y,ok⟩:=M
 dsimp only at hM g1 f1 g2 f2 hst hs2
 simp only [RP,decide_eq_true_eq] at hs2
 obtain⟨⟨e1,e2⟩,e3⟩:=hs2
 refine⟨jb X Y,⟨⟨g1,g2,⟨by simp [jb],by simp [jb],by simp [jb],by simp [jb],by simp [jb],by simp [jb],by simp [jb]⟩,by simp [jb],by simp [jb],by simp [jb],by simp [jb]⟩,⟨f1,f2⟩,rfl,rfl,rfl,⟨hst,rfl,rfl,rfl,rfl,rfl,rfl,rfl,rfl,rfl,rfl,rfl⟩,⟨by show X.policy∈pols;rw [e1];exact hp,e2,e3⟩⟩,?_⟩
 refine qE func59 ntmps59 results59 fun E hE=>?_
 refine qK (h1) [] ?_
 refine qK (h2) [] ?_
 refine qK (hM) (qI 2 7++qI 10 7) ?_
 refine qP (qI 20 14++qO 2++qI 18 1++qO 4) ?_
 first|exact⟨⟩|simp [jb,bh]
def x5 (a:ActD):Prop:=a.wf/\a.text.length<=200/\cN a=true
theorem GoodW.mono {w:WorldD} {k j:Nat} (h:GoodW w k) (hk:k<=j):GoodW w j:=⟨h.a,h.b,h.r,by have:=h.wa;omega,by have:=h.wb;omega,by have:=h.ra;omega,by have:=h.rb;omega⟩
def KI (a:ActD):Prop:=(a.kind=4/\a.side=1)\/a.kind=3\/a.kind=2\/a.kind=8
def KS (a:ActD):Prop:=¬ a.kind=6/\¬ a.kind=7/\¬ a.kind=11/\¬ a.kind=12
theorem CalmA.ks {a:ActD} (h:CalmA a):KS a:=by have:=h.k;simp only [KS];omega
theorem Gh (w:WorldD) (a:ActD) (hw:SmallD w) (ha:cN a=true) (h7:a.kind<=7) (hq:KI a):
  aP 65 [.sc (.pt 21 0 0),.ag a.cs] (w.hp true++[some ⟨[w.cs 0],61,44,true,false⟩]) (.sc (.int .i64 (dR w a).2))
  ((nH 21++[some ⟨[WorldD.cs (dR w a).1 22],61,44,true,false⟩])++WorldD.hp (dR w a).1 true):=by
 obtain⟨k1,k2,k3,k4,k5,k6⟩:=hZ ha
 obtain⟨kind,side,pos,many,text,ad,le⟩:=a
 simp only [KI] at hq
 dsimp only at*
 have hs:side=1\/side=2:=zO
 have hk:(kind=4/\side=1)\/kind=3\/kind=2:=zO
 clear ha k1 k2 k3 k4 h7 hq
 rcases hk with⟨rfl,rfl⟩|rfl|rfl
 ·rw [HZ];exact Ce w pos many text ad le hw k6
 ·rcases hs with rfl|rfl
  ·rw [HY];exact Ck w pos many text ad le hw k6
  rw [H1];exact Cl w pos many text ad le hw k6
 rcases hs with rfl|rfl
 ·rw [HX];exact Cd w pos many text ad le hw k6
 rw [H0];exact Cf w pos many text ad le hw k6
theorem Cp (w:WorldD) (a:ActD) (hw:SmallD w) (ha:cN a=true) (h7:a.kind<=7) (hb:¬ cx w a=true) (hq:KS a):
  aP 79 [.ag (w.cs 0),.ag a.cs] (w.hp false) (.tu [.ag ((dR w a).1.cs 21),.sc (.int .i64 (dR w a).2)]) (w.hp false++(dR w a).1.hp true):=by
 obtain⟨k1,k2,k3,k4,k5,k6⟩:=hZ ha
 obtain⟨kind,side,pos,many,text,ad,le⟩:=a
 simp only [KS] at hq
 dsimp only at*
 have hs:side=1\/side=2:=zO
 have hk:kind=1\/kind=2\/kind=3\/kind=4\/kind=5:=zO
 clear ha k1 k2 k3 k4 h7 hq
 rcases hs with rfl|rfl<;>rcases hk with rfl|rfl|rfl|rfl|rfl
 ·rw [NL];exact xP w pos many text ad le hw k6
 ·rw [HX];exact xQ w pos many text ad le hw k6
 ·rw [HY];exact xX w pos many text ad le hw k6
 ·rw [HZ];exact xR w pos many text ad le hw k6
 ·have hb:sideAt ad.addr=1/\(aR w.a ad).2=true:=by
   by_cases h0:sideAt ad.addr=1<;>cases h1:(aR w.a ad).2<;>simp [cx,bS,h0,h1] at hb<;>exact⟨h0,rfl⟩
  rw [NM hb.1 hb.2];exact xS w pos many text ad le hw k6 hb.1 hb.2
 ·rw [NN];exact xT w pos many text ad le hw k6
 ·rw [H0];exact xU w pos many text ad le hw k6
 ·rw [H1];exact xY w pos many text ad le hw k6
 ·rw [NO];exact xV w pos many text ad le hw k6
 have hb:sideAt ad.addr=2/\(aR w.b ad).2=true:=by
  by_cases h0:sideAt ad.addr=2<;>cases h1:(aR w.b ad).2<;>simp [cx,bS,h0,h1] at hb<;>exact⟨h0,rfl⟩
 rw [NP hb.1 hb.2];exact xW w pos many text ad le hw k6 hb.1 hb.2
theorem Ep (w:WorldD) (a:ActD) (hw:SmallD w) (ha:cN a=true) (h7:¬ a.kind<=7) (hq:KI a):
  aP 66 [.sc (.pt 21 0 0),.ag a.cs] (w.hp true++[some ⟨[w.cs 0],61,44,true,false⟩]) (.sc (.int .i64 (cc w a).2))
  ((nH 21++[some ⟨[WorldD.cs (cc w a).1 22],61,44,true,false⟩])++WorldD.hp (cc w a).1 true):=by
 obtain⟨k1,k2,k3,k4,k5,k6⟩:=hZ ha
 obtain⟨kind,side,pos,many,text,ad,le⟩:=a
 simp only [KI] at hq
 dsimp only at*
 obtain rfl:kind=8:=zO
 obtain⟨p,rfl⟩:=Int.eq_ofNat_of_zero_le k5
 exact Ek w side many p text ad le hw
theorem Gi (w:WorldD) (a:ActD) (hw:SmallD w) (hq:KI a):aP 36 [.ag (w.cs 0),.ag a.cs] (w.hp false) (.tu [.ag ((aJ w a).1.cs 21),.sc (.int .i64 (aJ w a).2)]) (w.hp false++(aJ w a).1.hp true):=by
 have hC:=iH w hw.p.s
 have hA:=Gc a
 cases hok:cN a with
 |false=>
  rw [show aJ w a=(w,3) from by rw [aJ,if_neg (by simp [hok])]]
  rw [hok] at hA
  dsimp only
  refine qE func36 ntmps36 results36 fun E hE=>?_
  refine qK (hA) [] ?_
  refine qK (hC) (qI 0 21) ?_
  exact qF (qI 0 21++qI 24 21)
 |true=>
  rw [hok] at hA
  by_cases h7:a.kind<=7
  ·have hM:=Gh w a hw hok h7 hq
   have hcode:=Jv w a
   rw [show aJ w a=dR w a from by rw [aJ,if_pos hok,if_pos h7]]
   obtain⟨R,hR⟩:∃ R,R=dR w a:=⟨_,rfl⟩
   rw [<-hR] at hM hcode⊢
   clear hR
   obtain⟨r,c⟩:=R
   dsimp only at hM hcode⊢
   refine qE func36 ntmps36 results36 fun E hE=>?_
   refine qK (hA) [] ?_
   refine qK (hC) (qI 0 21) ?_
   refine qK (hM) (qI 24 22) ?_
   by_cases hz:c=0
   ·subst hz
    refine qX ?_
    exact qF (qI 0 21++qI 46 21)
   have hr:r=w:=by rcases hcode with h|h;exact absurd h hz;exact h
   subst hr
   refine qX ?_
   refine qK (hC) (qI 0 21) ?_
   exact qF (qI 0 21++qI 67 21)
  have hM:=Ep w a hw hok h7 hq
  have hcode:=Gb w a
  rw [show aJ w a=cc w a from by rw [aJ,if_pos hok,if_neg h7]]
  obtain⟨R,hR⟩:∃ R,R=cc w a:=⟨_,rfl⟩
  rw [<-hR] at hM hcode⊢
  clear hR
  obtain⟨r,c⟩:=R
  dsimp only at hM hcode⊢
  refine qE func36 ntmps36 results36 fun E hE=>?_
  refine qK (hA) [] ?_
  refine qK (hC) (qI 0 21) ?_
  refine qK (hM) (qI 24 22) ?_
  by_cases hz:c=0
  ·subst hz
   refine qX ?_
   exact qF (qI 0 21++qI 46 21)
  have hr:r=w:=by rcases hcode with h|h;exact absurd h hz;exact h
  subst hr
  refine qX ?_
  refine qK (hC) (qI 0 21) ?_
  exact qF (qI 0 21++qI 67 21)
theorem Gj (w:WorldD) (a:ActD) (hw:SmallD w) (hq:KS a):aP 60 [.ag (w.cs 0),.ag a.cs] (w.hp false) (.tu [.ag ((aJ w a).1.cs 21),.sc (.int .i64 (aJ w a).2)]) (w.hp false++(aJ w a).1.hp true):=by
 have hC:=jU w hw.p.s
 have hA:=Gd a
 have hI:=aB a.kind 1 7
 cases hok:cN a with
 |false=>
  rw [show aJ w a=(w,3) from by rw [aJ,if_neg (by simp [hok])]]
  rw [hok] at hA
  dsimp only
  refine qE func60 ntmps60 results60 fun E hE=>?_
  refine qK (hC) (qI 0 21) ?_
  refine qK (hA) [] ?_
  exact qF (qI 0 21++qI 24 21)
 |true=>
  rw [hok] at hA
  obtain⟨k1,k2,k3,k4,k5,k6⟩:=hZ hok
  by_cases h7:a.kind<=7
  ·rw [show aJ w a=dR w a from by rw [aJ,if_pos hok,if_pos h7]]
   have hin:cv a.kind 1 7=true:=by simp only [cv,RP,decide_eq_true_eq];omega
   rw [hin] at hI
   by_cases hb:cx w a=true
   ·have hQ:=Cm w a hw hok hb
    rw [El hb]
    dsimp only
    refine qE func60 ntmps60 results60 fun E hE=>?_
    refine qK (hC) (qI 0 21) ?_
    refine qK (hA) [] ?_
    refine qK (hI) [] ?_
    refine qK (hQ) (qI 24 21) ?_
    exact qF (qI 0 21++qI 45 21)
   have hQ:=Cp w a hw hok h7 hb hq
   obtain⟨R,hR⟩:∃ R,R=dR w a:=⟨_,rfl⟩
   rw [<-hR] at hQ⊢
   clear hR
   obtain⟨r,c⟩:=R
   dsimp only at hQ⊢
   refine qE func60 ntmps60 results60 fun E hE=>?_
   refine qK (hC) (qI 0 21) ?_
   refine qK (hA) [] ?_
   refine qK (hI) [] ?_
   refine qK (hQ) (qI 24 21) ?_
   exact qF (qI 0 21++qI 45 21)
  rw [show aJ w a=cc w a from by rw [aJ,if_pos hok,if_neg h7]]
  have hin:cv a.kind 1 7=false:=by simp only [cv,Bool.and_eq_false_iff,decide_eq_false_iff_not];omega
  rw [hin] at hI
  by_cases h10:a.kind<=10
  ·have hQ:=Em w a hw hok h7 h10
   obtain⟨R,hR⟩:∃ R,R=cc w a:=⟨_,rfl⟩
   rw [<-hR] at hQ⊢
   clear hR
   obtain⟨r,c⟩:=R
   dsimp only at hQ⊢
   refine qE func60 ntmps60 results60 fun E hE=>?_
   refine qK (hC) (qI 0 21) ?_
   refine qK (hA) [] ?_
   refine qK (hI) [] ?_
   refine qK (hQ) (qI 24 21) ?_
   exact qF (qI 0 21++qI 46 21)
  simp only [KS] at hq
  omega
theorem Eq (p:PolicyD) (hp:p∈pols) (l:List ActD) (hl:l.length<=120) (ha:∀ a∈l,x5 a/\CalmA a):∃ (w0:WorldD),Fine0 w0/\aP 30 [.ag p.cs,.sc (.sl 0 0 l.length)] [some ⟨l.map ActD.cs,28,75,false,true⟩]
  (.tu [.ag ((fB l w0 []).1.cs 1),.sc (.sl 22 0 (fB l w0 []).2.length)]) ([some ⟨l.map ActD.cs,28,75,false,true⟩]++((fB l w0 []).1.hp true++[some ⟨(fB l w0 []).2.map bh,1,3,true,true⟩])):=by
 obtain⟨w0,h0,hW⟩:=xZ p hp
 refine⟨w0,h0,?_⟩
 obtain⟨R,hR⟩:∃ R,R=fB l w0 []:=⟨_,rfl⟩
 rw [<-hR]
 refine jG func30 ntmps30 results30 fun E hE=>?_
 refine qK (hW) [] ?_
 refine tx 1 hE (fun s (y:Nat×WorldD×List Int)=>s.at (qU [0,1,2,1,7,1,10,35]) [(9,.sc (.int .i64 (y.1:Nat))),(8,.sc (.sl 25 0 y.2.2.length))] ((s.hp.take 3)++(y.2.1.hp true++[some ⟨[WorldD.cs y.2.1 3],61,44,true,false⟩,some ⟨y.2.2.map bh,1,3,true,true⟩]))) (fun (y:Nat×WorldD×List Int)=>y.1<=l.length/\GoodW y.2.1 y.1/\y.2.2.length=y.1/\fB (l.drop y.1) y.2.1 y.2.2=R) (fun (y:Nat×WorldD×List Int)=>l.length - y.1) (0,w0,[]) (qI 0 26) (⟨Nat.zero_le _,h0.g,rfl,hR.symm⟩) fun y hy N hN=>?_
 obtain⟨k,w,cs⟩:=y
 obtain⟨f1,f2,f3,f4⟩:=hy
 dsimp only at f1 f2 f3 f4
 refine qR ?_
 refine qB (fun h=>?_) fun h=>?_
 ·rw [Eo h] at f4
  have hkk:=(ha l[k] (R0 h)).2.ks
  have hak:=(ha l[k] (R0 h)).1
  have hD:=Gj w l[k] (f2.d zO) hkk
  have hG:=ku f2 (a:=l[k]) (by have:=hak.2.1;omega)
  generalize hx:l[k]=x at*
  obtain⟨Q,hQ⟩:∃ Q,Q=aJ w x:=⟨_,rfl⟩
  rw [<-hQ] at hD hG f4
  try simp (disch:=omega) only [go_sem,seval,hx]
  refine qD [0,1,2,3,4,5,6,7,8,9,10] ?_
  try simp (disch:=omega) only [go_sem,seval,hx]
  refine aE (hD) (qI 3 21) ?_
  refine qG ?_
  refine KA hN (k+1,Q.1,cs++[Q.2]) (qI 0 3++qI 26 21++qI 24 1++qI 48 1) (by (try dsimp only);exact⟨zO,hG,by simp [f3],f4⟩) ?_
  first|exact⟨⟩|simp [bh]
 rw [Gg zO] at f4
 subst f4
 refine qX ?_
 exact dH (qI 0 1++qI 3 21++qI 25 1)
def zw (a:ActD):ActD:=
 let x:ActD:=if a.kind=6\/a.kind=7\/a.kind=11\/a.kind=12 then⟨8,1,0,0,[],bw,af⟩ else a
 if x.kind=5 then { x with addr:=⟨1,10*x.side+2,x.addr.spare,x.addr.told⟩} else x
theorem tV {a:ActD} (h:a.kind=6\/a.kind=7\/a.kind=11\/a.kind=12):zw a=⟨8,1,0,0,[],bw,af⟩:=by simp [zw,h]
theorem Gl {a:ActD} (h:a.kind=5):zw a={ a with addr:=⟨1,10*a.side+2,a.addr.spare,a.addr.told⟩}:=by simp [zw,h]
theorem tW {a:ActD} (h:¬ (a.kind=6\/a.kind=7\/a.kind=11\/a.kind=12)) (h5:¬ a.kind=5):zw a=a:=by simp only [zw,if_neg h,if_neg h5]
theorem Jw {a:ActD} (h:x5 a):x5 (zw a):=by
 obtain⟨h1,h2,h3⟩:=h
 simp only [cN,cv,gp,RP,decide_eq_true_eq] at h3
 by_cases hk:a.kind=6\/a.kind=7\/a.kind=11\/a.kind=12
 ·rw [tV hk]
  exact⟨by simp [ActD.wf,AddrD.wf,LetterD.wf,TagD.wf,ck,maxLen,af,bw],zP,by decide⟩
 by_cases h5:a.kind=5
 ·rw [Gl h5]
  refine⟨?_,h2,?_⟩
  ·simp only [ActD.wf,ck] at h1⊢
   omega
  simp only [cN,cv,gp,RP,decide_eq_true_eq]
  exact h3
 rw [tW hk h5]
 exact⟨h1,h2,by simp only [cN,cv,gp,RP,decide_eq_true_eq];exact h3⟩
theorem Gm {a:ActD} (h:x5 a):CalmA (zw a):=by
 obtain⟨h1,h2,h3⟩:=h
 simp only [cN,cv,gp,RP,decide_eq_true_eq] at h3
 by_cases hk:a.kind=6\/a.kind=7\/a.kind=11\/a.kind=12
 ·rw [tV hk];exact⟨by decide,fun h=>by cases h⟩
 by_cases h5:a.kind=5
 ·rw [Gl h5]
  exact⟨by dsimp only;omega,fun _=>⟨rfl,rfl⟩⟩
 rw [tW hk h5]
 exact⟨zO,fun h=>absurd h h5⟩
def LB (w:WorldD):Prop:=∃ w0 l,Fine0 w0/\l.length<=40/\(∀ a∈l,x5 a/\CalmA a)/\w=(fB l w0 []).1
theorem zx (b:List UInt8) (c:CurD) (hc:c.ok b):AQ Tryz.prog 13 [.sc (.pt 1 0 0)] (c.hp b) (fun x:WorldD×CurD=>x.2.ok b/\LB x.1) (fun x=>.ag (x.1.cs 2)) (fun x=>x.2.hp b++x.1.hp true):=by
 obtain⟨p,c1,o1,hp,h1⟩:=wC b c hc
 refine Es func13 (by kernel_rfl) rfl fun E hE=>ae 400 ?_
 simp (disch:=omega) only [ntmps13,results13,go_sem,seval]
 refine qK (h1) (qI 0 2) ?_
 refine gI 2 hE (fun s (y:List ActD×CurD)=>s.at (qU [6,1,9,45]) [(4,.sc (.sl 4 0 y.1.length)),(5,.sc (.int .i64 (y.1.length:Nat)))] (y.2.hp b++((s.hp.drop 2).take 2++[some ⟨y.1.map ActD.cs,28,75,true,true⟩]))) (fun (y:List ActD×CurD)=>y.1.length<=40/\y.2.ok b/\∀ a∈y.1,x5 a/\CalmA a) (fun (y:List ActD×CurD)=>41 - y.1.length) ([],c1) (qI 0 5) (⟨Nat.zero_le _,o1,fun a ha=>by simp at ha⟩) fun y hy N hN=>?_
 obtain⟨acc,c2⟩:=y
 obtain⟨f1,f2,f3⟩:=hy
 dsimp only at f1 f2 f3
 have h40:=au b c2 f2 40
 have o40:=CurD.below_ok f2 40
 have b40:=c2.below_lt b (n:=40) zO
 generalize c2.below b 40=r40 at h40 o40 b40
 obtain⟨m,c3⟩:=r40
 dsimp only at h40 o40 b40
 obtain⟨a,c4,k1,k2,k3⟩:=DM b c3 o40
 obtain⟨w0,f0,hL⟩:=Eq p hp acc zO f3
 refine qR ?_
 refine qK (h40) (qI 0 2) ?_
 refine qB (fun h=>?_) fun h=>?_
 ·have fa:=Jw k2
  have fc:=Gm k2
  have hall:∀ q∈acc++[zw a],x5 q/\CalmA q:=fun q hq=>by
   rcases RU.1 hq with hq|hq
   ·exact f3 q hq
   rw [RV.1 hq];exact⟨fa,fc⟩
  have hsd:1<=a.side/\a.side<=2:=by
   have:=k2.2.2
   simp only [cN,cv,gp,RP,decide_eq_true_eq] at this
   omega
  have hlen:(acc++[zw a]).length<=40:=by rw [RQ,RR];omega
  refine qK (k3) (qI 0 2) ?_
  by_cases hk:a.kind=6\/a.kind=7\/a.kind=11\/a.kind=12
  ·rw [tV hk] at hall hlen
   rcases hk with hk|hk|hk|hk
   all_goals
    try simp (disch:=omega) only [go_sem,seval,hk]
    refine⟨qC,hN _ (acc++[⟨8,1,0,0,[],bw,af⟩],c4) (qI 0 4++qI 7 1) (by (try dsimp only);exact⟨hlen,k1,hall⟩) zS (aO zF zF ?_)⟩
    try simp (disch:=omega) only [go_sem,seval]
    try simp [ActD.cs,bw,af]
  by_cases h5:a.kind=5
  ·rw [Gl h5] at hall hlen
   try simp (disch:=omega) only [go_sem,seval,h5]
   refine⟨qC,hN _ (acc++[{ a with addr:=⟨1,10*a.side+2,a.addr.spare,a.addr.told⟩}],c4) (qI 0 4++qI 7 1) (by (try dsimp only);exact⟨hlen,k1,hall⟩) zS (aO zF zF ?_)⟩
   try simp (disch:=omega) only [go_sem,seval]
   try simp [ActD.cs]
   try exact h5.symm
  rw [tW hk h5] at hall hlen
  refine qX ?_
  refine⟨qC,hN _ (acc++[a],c4) (qI 0 4++qI 7 1) (by (try dsimp only);exact⟨hlen,k1,hall⟩) zS (aO zF zF ?_)⟩
  try simp (disch:=omega) only [go_sem,seval]
  try simp [ActD.cs]
 obtain⟨Q,hQ⟩:∃ Q,Q=fB acc w0 []:=⟨_,rfl⟩
 have hcd:LB Q.1:=⟨w0,acc,f0,f1,f3,by rw [hQ]⟩
 rw [<-hQ] at hL
 clear hQ
 obtain⟨w,cs⟩:=Q
 dsimp only at hL hcd
 refine qK (hL) (qI 4 1) ?_
 refine Er (w,c3) (⟨o40,hcd⟩) (qI 0 2++qI 5 21) (qC) _ (by simp only [go_sem];rfl) zF zF ?_
 simp (disch:=omega) only [go_sem,seval]
theorem zy (b:List UInt8) (hb:b.length<=1048576):AQ Tryz.prog 5 [.sc (.sl 0 0 b.length)] [some ⟨b.map gf,1,5,false,true⟩] LB (fun w=>.ag (w.cs 1)) (fun w=>[some ⟨b.map gf,1,5,false,true⟩]++w.hp true):=by
 refine Es func5 (by kernel_rfl) rfl fun E hE=>ae 400 ?_
 simp (disch:=omega) only [ntmps5,results5,go_sem,seval]
 refine qK (Dj b hb) (qI 0 1) ?_
 refine AR (qC) (zx b (wz b) (I0 hb)) (qI 0 1++qI 2 1) qM zF fun x hx=>ae 400 ?_
 simp (disch:=omega) only [go_sem,seval]
 refine Er x.1 (hx.2) (qI 0 1++qI 3 21) (qC) _ (by simp only [go_sem];rfl) zF zF ?_
 simp (disch:=omega) only [go_sem,seval]
def Cr (l:List LetterD):Prop:=∀ y∈l,¬ y.kind=5
theorem bT:Cr []:=fun y hy=>by simp at hy
theorem iK {x:LetterD} (h:¬ x.kind=5):Cr [x]:=fun y hy=>by rw [RV] at hy;rw [hy];exact h
theorem vG {l m:List LetterD} (h:Cr l) (g:Cr m):Cr (l++m):=fun y hy=>(RU.1 hy).elim (h y) (g y)
theorem H2 {α:Type} {l:List α} {f:α->LetterD} (h:∀ a,¬ (f a).kind=5):Cr (l.map f):=fun y hy=>by
 obtain⟨a,_,rfl⟩:=List.mem_map.1 hy
 exact h a
theorem LD {e:EndD}:Cr (cB e).2:=by
 unfold cB;split
 ·exact iK (by simp [uU,ah])
 exact bT
theorem tZ:∀ {k:Nat} {e:EndD},Cr (pushN k e).2
 |0,e=>bT
 |k+1,e=>vG LD (tZ (k:=k))
theorem LE {e:EndD}:Cr (tellAddrs e):=by
 unfold tellAddrs;split
 ·exact H2 fun a=>by simp [lN,ah]
 exact bT
theorem Jx {e:EndD} {s:SubD}:Cr (tickL e s):=by
 unfold tickL;repeat' split
 all_goals first|exact bT|exact iK (by simp [dB,bq,ah])
theorem LF {e:EndD} {r:RoadD} {s:Bool}:Cr (join e r s).2:=by
 unfold join;split
 ·exact iK (by simp [dB,ah])
 exact bT
theorem AS {far:List AddrD}:∀ {l:List RoadD} {e:EndD},Cr (cF far e l).2
 |[],e=>bT
 |r::l,e=>vG LF (AS (l:=l))
structure Keep (e e':EndD):Prop where
 now:e'.now=e.now
 bucket:e'.bucket=e.bucket
 halfs:e'.halfs=e.halfs
theorem Keep.refl (e:EndD):Keep e e:=⟨rfl,rfl,rfl⟩
theorem Keep.trans {a b c:EndD} (h:Keep a b) (g:Keep b c):Keep a c:=⟨g.now.trans h.now,g.bucket.trans h.bucket,g.halfs.trans h.halfs⟩
theorem Jy {e:EndD}:Keep e (cB e).1:=by unfold cB;split<;>exact⟨rfl,rfl,rfl⟩
theorem mL:∀ {k:Nat} {e:EndD},Keep e (pushN k e).1
 |0,e=>Keep.refl e
 |k+1,e=>Jy.trans (mL (k:=k))
theorem Jz {e:EndD} {r:RoadD} {s:Bool}:Keep e (join e r s).1:=by unfold join;split<;>exact⟨rfl,rfl,rfl⟩
theorem mM {far:List AddrD}:∀ {l:List RoadD} {e:EndD},Keep e (cF far e l).1
 |[],e=>Keep.refl e
 |r::l,e=>Jz.trans (mM (l:=l))
theorem Gr {e:EndD} {t:List UInt8}:Keep e (cO e t).1:=by unfold cO;split<;>exact⟨rfl,rfl,rfl⟩
structure YoungE (e:EndD):Prop where
 now:0<=e.now/\e.now<=1000000000
 rate:e.bucket.rate=1
 burst:e.bucket.burst=3
 cur:0<=e.bucket.cur/\e.bucket.cur<=3
 halfs:∀ h∈e.halfs,e.now < h.till/\h.till<=e.now+6
 few:e.halfs.length<=4
 subs:e.subs.length<=8
theorem YoungE.keep {e e':EndD} (h:YoungE e) (k:Keep e e') (hs:e'.subs.length<=8):YoungE e':=by
 obtain⟨k1,k2,k3⟩:=k
 exact⟨by rw [k1];exact h.now,by rw [k2];exact h.rate,by rw [k2];exact h.burst,by rw [k2];exact h.cur,by rw [k1,k3];exact h.halfs,by rw [k3];exact h.few,hs⟩
theorem AT {e:EndD}:(cB e).1.subs=e.subs:=by unfold cB;split<;>rfl
theorem fS:∀ {k:Nat} {e:EndD},(pushN k e).1.subs=e.subs
 |0,e=>rfl
 |k+1,e=>(fS (k:=k)).trans AT
theorem JA {e:EndD} {r:RoadD} {s:Bool} (h:e.subs.length<=8):(join e r s).1.subs.length<=8:=by
 unfold join;split
 ·rename_i hk
  simp only [tR,RP,decide_eq_true_eq] at hk
  simp only [RQ,RR]
  omega
 exact h
theorem x7 {far:List AddrD}:∀ {l:List RoadD} {e:EndD},e.subs.length<=8->(cF far e l).1.subs.length<=8
 |[],e,h=>h
 |r::l,e,h=>x7 (l:=l) (JA h)
theorem kw {e:EndD} (h:YoungE e):bucketOk e.bucket=true:=by
 have h1:=h.rate;have h2:=h.burst;have h3:=h.cur
 simp only [bucketOk,cv,RP,decide_eq_true_eq]
 omega
def Eu (e:EndD) (r:EndD×List LetterD):Prop:=
 (r.1.now=e.now/\r.1.bucket=e.bucket/\Cr r.2)\/(r.1.now=e.now/\0 < e.bucket.cur/\r.1.bucket={ e.bucket with cur:=e.bucket.cur - 1 }/\∃ y,r.2=[y])\/(r.1.now=e.now+1/\r.1.bucket={ e.bucket with cur:=min 3 (e.bucket.cur+1) }/\Cr r.2)
theorem zz {e:EndD} (h:YoungE e) (ht:(bl e.bucket).2=true):0 < e.bucket.cur/\(bl e.bucket).1={ e.bucket with cur:=e.bucket.cur - 1 }:=by
 rw [bl] at ht⊢
 have h3:=h.cur
 split at ht
 ·rename_i hc
  rw [if_pos hc]
  exact⟨by have:=hc.2;omega,rfl⟩
 simp at ht
theorem sJ {l:List HalfD} {n:Nat} {t now:Int} (ht:now < t/\t<=now+6) (h:∀ h∈l,now < h.till/\h.till<=now+6) {q:HalfD} (hq:q.till=t):∀ h∈l.set n q,now < h.till/\h.till<=now+6:=fun y hy=>by
 rcases List.mem_or_eq_of_mem_set hy with hy|hy
 ·exact h y hy
 rw [hy,hq];exact ht
theorem zA {l:List HalfD} {now:Int} {q:HalfD} (hq:now < q.till/\q.till<=now+6) (h:∀ h∈l,now < h.till/\h.till<=now+6) (hl:l.length<=4):(∀ h∈(aX l q).1,now < h.till/\h.till<=now+6)/\(aX l q).1.length<=4:=by
 rw [aX];split
 ·rename_i hk
  refine⟨?_,cf hk⟩
  dsimp only
  rw [bP];split
  ·exact sJ hq h rfl
  intro y hy
  rcases RU.1 hy with hy|hy
  ·exact h y hy
  rw [RV.1 hy];exact hq
 exact⟨h,hl⟩
theorem n_ {l:List HalfD} {r:RoadD}:(∀ h∈bH l r,h∈l)/\(bH l r).length<=l.length:=by
 rw [bH];split
 ·exact⟨fun _ h=>h,Nat.le_refl _⟩
 exact⟨fun y hy=>(RU.1 hy).elim List.mem_of_mem_take List.mem_of_mem_drop,by simp only [RQ,RT,RY];omega⟩
theorem JB {e:EndD} {x:LetterD} (h:YoungE e):Eu e (aG e x)/\YoungE (aG e x).1:=by
 have same:∀ {s:List SubD} {o f:List AddrD} {q:Int} {st k p:Int} {i:PiecesD} {u:OutD} {dn ov:List Int},s.length<=8->YoungE { e with subs:=s,own:=o,far:=f,draw:=q,state:=st,key:=k,peer:=p,inp:=i,out:=u,done:=dn,over:=ov }:=fun hs=>⟨h.now,h.rate,h.burst,h.cur,h.halfs,h.few,hs⟩
 have hsub:=h.subs
 have t0:∀ {e':EndD} {l:List LetterD},e'.now=e.now->e'.bucket=e.bucket->Cr l->Eu e (e',l):=fun h1 h2 h3=>.inl ⟨h1,h2,h3⟩
 refine nQ (Q:=fun r=>Eu e r/\YoungE r.1) ⟨t0 rfl rfl bT,h⟩ ?_ ?_ ?_ ?_ ?_ ?_ ?_ ?_ ?_ ?_ ?_ ?_
 ·unfold aI;split
  ·rename_i hk
   simp only [iy,RP,decide_eq_true_eq] at hk
   exact⟨t0 rfl rfl (iK (by simp [ah])),same (by simp only [RQ,RR];omega)⟩
  exact⟨t0 rfl rfl bT,h⟩
 ·unfold br;split
  ·exact⟨t0 rfl rfl (iK (by simp [ah])),same (by rw [RS];exact hsub)⟩
  exact⟨t0 rfl rfl bT,h⟩
 ·unfold bK;split
  ·rename_i hk
   simp only [ll,RP,decide_eq_true_eq] at hk
   obtain⟨hc,hb⟩:=zz h hk.2
   have ht:e.now < e.now+6/\e.now+6<=e.now+6:=zO
   split
   ·refine⟨.inr (.inl ⟨rfl,hc,hb,_,rfl⟩),⟨h.now,by rw [hb];exact h.rate,by rw [hb];exact h.burst,by rw [hb];have:=h.cur;dsimp only;omega,sJ ht h.halfs rfl,by dsimp only;rw [RS];exact h.few,hsub⟩⟩
   obtain⟨p1,p2⟩:=zA (q:=aj e x) ht h.halfs h.few
   exact⟨.inr (.inl ⟨rfl,hc,hb,_,rfl⟩),⟨h.now,by rw [hb];exact h.rate,by rw [hb];exact h.burst,by rw [hb];have:=h.cur;dsimp only;omega,p1,p2,hsub⟩⟩
  exact⟨t0 rfl rfl bT,h⟩
 ·unfold aF;split
  ·exact⟨t0 rfl rfl (iK (by simp [bq,ah])),same (by rw [RS];exact hsub)⟩
  exact⟨t0 rfl rfl bT,h⟩
 ·unfold aq;split
  ·split
   ·rename_i hk
    simp only [pL,RP,decide_eq_true_eq] at hk
    have hd:=n_ (l:=e.halfs) (r:=roadOf x)
    refine⟨t0 rfl rfl (iK (by simp [fH,ah])),⟨h.now,h.rate,h.burst,h.cur,fun y hy=>h.halfs y (hd.1 y hy),Nat.le_trans hd.2 h.few,?_⟩⟩
    dsimp only
    split<;>simp only [cq,RQ,RS,RR]<;>omega
   split
   ·exact⟨t0 rfl rfl (iK (by simp [fH,ah])),h⟩
   exact⟨t0 rfl rfl bT,h⟩
  exact⟨t0 rfl rfl bT,h⟩
 ·unfold aM;dsimp only;split
  ·exact⟨t0 rfl rfl bT,same (by rw [cq,RS];exact hsub)⟩
  exact⟨t0 rfl rfl bT,h⟩
 ·unfold bW;split
  ·exact⟨t0 rfl rfl (iK (by simp [pM,ah])),same hsub⟩
  exact⟨t0 rfl rfl bT,h⟩
 ·unfold bY;dsimp only;split
  ·exact⟨t0 rfl rfl bT,same hsub⟩
  exact⟨t0 rfl rfl bT,h⟩
 ·unfold bZ;dsimp only;split
  ·exact⟨t0 rfl rfl bT,same (by rw [RZ];exact hsub)⟩
  exact⟨t0 rfl rfl bT,h⟩
 ·unfold b_;split
  ·exact⟨t0 rfl rfl (iK (by simp [sr,ah])),same hsub⟩
  exact⟨t0 rfl rfl bT,h⟩
 ·unfold bR;dsimp only;split
  ·exact⟨t0 rfl rfl bT,same hsub⟩
  exact⟨t0 rfl rfl bT,h⟩
 unfold bG;dsimp only;split
 ·exact⟨t0 rfl rfl bT,same (by rw [cq,RS];exact hsub)⟩
 exact⟨t0 rfl rfl bT,h⟩
theorem Cs {e:EndD} {l:List LetterD} (hl:Cr l):Keep e (bu e l).1/\Cr (bu e l).2/\(bu e l).1.subs=e.subs:=⟨mL,vG (vG hl LE) tZ,fS⟩
theorem JC {e:EndD} (h:YoungE e):Eu e (tick e)/\YoungE (tick e).1:=by
 unfold tick;split
 ·rename_i hk
  simp only [yQ,RP,decide_eq_true_eq] at hk
  have hb:cW e.bucket={ e.bucket with cur:=min 3 (e.bucket.cur+1) }:=by
   rw [cW,if_pos (kw h),h.rate,h.burst]
   have h1:=h.rate
   have h2:=h.burst
   cases hb:e.bucket
   rw [hb] at h1 h2
   dsimp only at h1 h2⊢
   rw [h1,h2]
  have hn:=hk.1.2
  have hy:∀ s:List SubD,s.length<=8->YoungE { tick0 e with subs:=s }:=fun s hs=>by
   refine⟨by have:=h.now;simp only [tick0];omega,by simp only [tick0];rw [hb];exact h.rate,by simp only [tick0];rw [hb];exact h.burst,by simp only [tick0];rw [hb];have:=h.cur;dsimp only;omega,?_,?_,hs⟩
   ·intro y hy
    simp only [tick0,ci,List.mem_filter,decide_eq_true_eq] at hy⊢
    have:=h.halfs y hy.1
    omega
   simp only [tick0,ci]
   exact Nat.le_trans (List.length_filter_le _ _) h.few
  have fin:∀ (s:List SubD) (l:List LetterD),s.length<=8->Cr l->Eu e (bu { tick0 e with subs:=s } l)/\YoungE (bu { tick0 e with subs:=s } l).1:=fun s l hs hl=>by
   obtain⟨k1,k2,k3⟩:=Cs (e:={ tick0 e with subs:=s }) hl
   refine⟨.inr (.inr ⟨k1.now,by rw [k1.bucket];exact hb,k2⟩),(hy s hs).keep k1 (by rw [k3];exact hs)⟩
  split
  ·exact fin _ _ (by rw [RZ];exact h.subs) fun y hy=>by
    obtain⟨s,_,hs⟩:=List.mem_flatMap.1 hy
    exact Jx y hs
  exact fin e.subs [] h.subs bT
 exact⟨.inl ⟨rfl,rfl,bT⟩,h⟩
theorem JD {e:EndD} {a:ActD} (h:YoungE e):Eu e (dl e a)/\YoungE (dl e a).1:=by
 unfold dl
 split
 ·have hk:Keep e (bs e a.text).1:=Gr.trans mL
  have hs:(bs e a.text).1.subs=e.subs:=by rw [bs,fS];unfold cO;split<;>rfl
  exact⟨.inl ⟨hk.now,hk.bucket,tZ⟩,h.keep hk (by rw [hs];exact h.subs)⟩
 split
 ·have hk:Keep e (az e a.many).1:=by unfold az;split<;>exact⟨rfl,rfl,rfl⟩
  have hs:(az e a.many).1.subs=e.subs:=by unfold az;split<;>rfl
  exact⟨.inl ⟨hk.now,hk.bucket,bT⟩,h.keep hk (by rw [hs];exact h.subs)⟩
 split
 ·exact JC h
 split
 ·unfold manage;split
  ·exact⟨.inl ⟨mM.now,mM.bucket,AS⟩,h.keep mM (x7 h.subs)⟩
  exact⟨.inl ⟨rfl,rfl,bT⟩,h⟩
 split
 ·have hk:Keep e (aR e a.addr).1:=by unfold aR;split<;>exact⟨rfl,rfl,rfl⟩
  have hs:(aR e a.addr).1.subs=e.subs:=by unfold aR;split<;>rfl
  exact⟨.inl ⟨hk.now,hk.bucket,bT⟩,h.keep hk (by rw [hs];exact h.subs)⟩
 split
 ·unfold jV;split
  ·exact⟨.inl ⟨rfl,rfl,H2 fun k=>by simp [HS,ah]⟩,⟨h.now,h.rate,h.burst,h.cur,h.halfs,h.few,by dsimp only;rw [jA,RZ];exact h.subs⟩⟩
  exact⟨.inl ⟨rfl,rfl,bT⟩,h⟩
 unfold mC;split
 ·exact⟨.inl ⟨rfl,rfl,iK (by simp [ah])⟩,⟨h.now,h.rate,h.burst,h.cur,h.halfs,h.few,by dsimp only;rw [cq,RS];exact h.subs⟩⟩
 exact⟨.inl ⟨rfl,rfl,bT⟩,h⟩
def cntF (l:List Int) (f g:Int):Nat:=(l.filter fun x=>decide (f<=x) && decide (x<=g)).length
theorem Ev (l:List Int) (n f g:Int):cntF (l++[n]) f g=cntF l f g+(if f<=n/\n<=g then 1 else 0):=by
 rw [cntF,cntF,List.filter_append,RQ]
 congr 1
 by_cases h:f<=n/\n<=g
 ·rw [if_pos h];simp [h.1,h.2]
 rw [if_neg h]
 by_cases h1:f<=n
 ·simp [h1,show ¬ n<=g by omega]
 simp [h1]
structure AnsI (l:List Int) (e:EndD):Prop where
 y:YoungE e
 t:∀ x∈l,0<=x/\x<=e.now
 i:∀ f:Int,f<=e.now->(cntF l f e.now:Int)+e.bucket.cur<=3+(e.now - f)
 j:∀ f g:Int,f<=g->g<=e.now->(cntF l f g:Int)<=3+(g - f)
theorem H3 {l:List Int} {f g k:Int} (ht:∀ x∈l,x<=g) (h:g<=k):cntF l f k=cntF l f g:=by
 rw [cntF,cntF]
 congr 1
 refine RX fun x hx=>?_
 have:=ht x hx
 simp only [decide_eq_true (show x<=g from this),decide_eq_true (show x<=k by omega)]
theorem AU {l:List Int} {f g:Int} (ht:∀ x∈l,x < f):cntF l f g=0:=by
 rw [cntF,List.length_eq_zero_iff,List.filter_eq_nil_iff]
 intro x hx
 have:=ht x hx
 simp only [RP,decide_eq_true_eq]
 omega
def Ew (side:Int) (now:Int) (ns:List Int):List LetterD->List Int
 |[]=>ns
 |x::l=>Ew side now (ln ns (lq side side x) now) l
theorem x8 {side now:Int}:∀ {l:List LetterD} {ns:List Int},Cr l->Ew side now ns l=ns
 |[],ns,h=>rfl
 |x::l,ns,h=>by
  rw [Ew,xh (h x zP),iI]
  exact x8 fun y hy=>h y (by simp [hy])
theorem Ex {ns:List Int} {e:EndD} {r:EndD×List LetterD} {side:Int} (h:AnsI ns e) (ht:Eu e r) (hy:YoungE r.1):AnsI (Ew side r.1.now ns r.2) r.1:=by
 have hcur:=h.y.cur
 rcases ht with⟨h1,h2,h3⟩|⟨h1,h2,h3,y,h4⟩|⟨h1,h2,h3⟩
 ·rw [x8 h3]
  exact⟨hy,by rw [h1];exact h.t,by rw [h1,h2];exact h.i,by rw [h1];exact h.j⟩
 ·rw [h4,Ew,Ew,h1]
  have hc:∀ {l:List Int},AnsI l e->(∀ x∈ns,x∈l)->(l=ns\/l=ns++[e.now])->AnsI l r.1\/True:=fun _ _ _=>.inr trivial
  rcases (show ln ns (lq side side y) e.now=ns\/ln ns (lq side side y) e.now=ns++[e.now] by rw [ln];split;exact .inr rfl;exact .inl rfl) with e1|e1
  ·rw [e1]
   refine⟨hy,by rw [h1];exact h.t,fun f hf=>?_,by rw [h1];exact h.j⟩
   rw [h1] at hf⊢
   have:=h.i f hf
   rw [h3]
   dsimp only
   omega
  rw [e1]
  refine⟨hy,fun x hx=>?_,fun f hf=>?_,fun f g hf hg=>?_⟩
  ·rw [h1]
   rcases RU.1 hx with hx|hx
   ·exact h.t x hx
   rw [RV.1 hx];have:=h.y.now;omega
  ·rw [h1] at hf⊢
   have:=h.i f hf
   rw [Ev,if_pos zO,h3]
   dsimp only
   omega
  rw [h1] at hg
  rw [Ev]
  by_cases hgn:g=e.now
  ·subst hgn
   have:=h.i f hf
   rw [if_pos zO]
   omega
  have:=h.j f g hf hg
  rw [if_neg zO]
  omega
 rw [x8 h3]
 refine⟨hy,fun x hx=>by have:=h.t x hx;rw [h1];omega,fun f hf=>?_,fun f g hf hg=>?_⟩
 ·rw [h1] at hf⊢
  rw [h2]
  dsimp only
  by_cases hfn:f<=e.now
  ·have:=h.i f hfn
   rw [H3 (g:=e.now) (fun x hx=>(h.t x hx).2) zO]
   omega
  rw [AU fun x hx=>by have:=h.t x hx;omega]
  omega
 rw [h1] at hg
 by_cases hfn:f<=e.now
 ·by_cases hgn:g<=e.now
  ·exact h.j f g hf hgn
  have:=h.i f hfn
  rw [H3 (g:=e.now) (fun x hx=>(h.t x hx).2) zO]
  omega
 rw [AU fun x hx=>by have:=h.t x hx;omega]
 omega
structure AnsW (w:WorldD):Prop where
 a:AnsI w.answersA w.a
 b:AnsI w.answersB w.b
theorem AW {side:Int} {w:WorldD} {x:LetterD}:(aU side w x).answersA=ln w.answersA (lq side 1 x) w.a.now/\(aU side w x).answersB=ln w.answersB (lq side 2 x) w.b.now:=by
 rw [aU];split<;>exact⟨rfl,rfl⟩
theorem x9:∀ {l:List LetterD} {w:WorldD},(al 1 w l).answersA=Ew 1 w.a.now w.answersA l/\(al 1 w l).answersB=w.answersB
 |[],w=>⟨rfl,rfl⟩
 |x::l,w=>by
  obtain⟨h1,h2⟩:=x9 (l:=l) (w:=aU 1 w x)
  obtain⟨g1,g2⟩:=AW (side:=1) (w:=w) (x:=x)
  have ge:=(i9 (side:=1) (w:=w) (x:=x)).1
  rw [show al 1 w (x::l)=al 1 (aU 1 w x) l from rfl,h1,h2,g1,g2,ge,tP (side:=1) (k:=2) zO,iI]
  exact⟨rfl,rfl⟩
theorem x_:∀ {l:List LetterD} {w:WorldD},(al 2 w l).answersB=Ew 2 w.b.now w.answersB l/\(al 2 w l).answersA=w.answersA
 |[],w=>⟨rfl,rfl⟩
 |x::l,w=>by
  obtain⟨h1,h2⟩:=x_ (l:=l) (w:=aU 2 w x)
  obtain⟨g1,g2⟩:=AW (side:=2) (w:=w) (x:=x)
  have ge:=(i9 (side:=2) (w:=w) (x:=x)).2.1
  rw [show al 2 w (x::l)=al 2 (aU 2 w x) l from rfl,h1,h2,g1,g2,ge,tP (side:=2) (k:=1) zO,iI]
  exact⟨rfl,rfl⟩
theorem AX {w w':WorldD} {s:Int} {r:EndD×List LetterD} (hs:s=1\/s=2) (h:AnsW w) (ht:Eu (bS w s) r) (hy:YoungE r.1) (ea:w'.a=w.a) (eb:w'.b=w.b) (e1:w'.answersA=w.answersA) (e2:w'.answersB=w.answersB):
  AnsW (al s (aL w' s r.1) r.2):=by
 rcases hs with rfl|rfl
 ·rw [bS,if_pos rfl] at ht
  obtain⟨p1,p2⟩:=x9 (l:=r.2) (w:=aL w' 1 r.1)
  obtain⟨q1,q2,_⟩:=bx (side:=1) (l:=r.2) (w:=aL w' 1 r.1)
  rw [aL,if_pos rfl] at*
  refine⟨?_,?_⟩
  ·rw [p1,q1];dsimp only;rw [e1];exact Ex h.a ht hy
  rw [p2,q2];dsimp only;rw [e2,eb];exact h.b
 rw [bS,if_neg zO,if_pos rfl] at ht
 obtain⟨p1,p2⟩:=x_ (l:=r.2) (w:=aL w' 2 r.1)
 obtain⟨q1,q2,_⟩:=bx (side:=2) (l:=r.2) (w:=aL w' 2 r.1)
 rw [aL,if_neg zO] at*
 refine⟨?_,?_⟩
 ·rw [p2,q1];dsimp only;rw [e1,ea];exact h.a
 rw [p1,q2];dsimp only;rw [e2];exact Ex h.b ht hy
theorem vd {w:WorldD} {s:Int} (hs:s=1\/s=2) (h:AnsW w):YoungE (bS w s):=by
 rcases hs with rfl|rfl
 ·rw [bS,if_pos rfl];exact h.a.y
 rw [bS,if_neg zO,if_pos rfl];exact h.b.y
theorem Gs {w:WorldD} {x:LetterD} (h:AnsW w):AnsW (cU w x):=by
 rcases e6 x.to with h0|h0
 ·rw [cU,if_pos h0];exact h
 obtain⟨t1,t2⟩:=JB (x:=x) (vd h0 h)
 rw [cU,if_neg zO,gL,if_pos h0]
 exact AX h0 h t1 t2 rfl rfl rfl rfl
theorem mN {a:ActD} (h:cN a=true):a.side=1\/a.side=2:=by
 simp only [cN,cv,RP,decide_eq_true_eq] at h
 omega
theorem t6 (w:WorldD) (a:ActD):(dE w a).a=w.a/\(dE w a).b=w.b/\(dE w a).answersA=w.answersA/\(dE w a).answersB=w.answersB:=by
 unfold dE eT cj;repeat' split
 all_goals exact⟨rfl,rfl,rfl,rfl⟩
theorem ya {w:WorldD} {a:ActD} (h:AnsW w):AnsW (aJ w a).1:=by
 have ha:∀ b:List LetterD,AnsW { w with bag:=b }:=fun b=>⟨h.a,h.b⟩
 unfold aJ;split
 ·rename_i hok
  have hs:=mN hok
  split
  ·unfold dR;split
   ·exact h
   obtain⟨t1,t2⟩:=JD (a:=a) (vd hs h)
   obtain⟨s1,s2,s3,s4⟩:=t6 w a
   exact AX hs h t1 t2 s1 s2 s3 s4
  unfold cc;repeat' split
  all_goals first|exact h|exact Gs (ha _)|exact ha _
 exact h
theorem JE {x f t:Int} (hx:0<=x/\x<=1000000000) (hf:0<=f/\f<=1000000000) (ht:1<=t/\t<=1000):KW x f t=(decide (f<=x) && decide (x<=f+t - 1)):=by
 rw [KW]
 by_cases h:f<=x
 ·rw [decide_eq_true h,R2,R2]
  simp only [IntKind.wrap_u64]
  congr 1
  apply propext
  constructor<;>intro _<;>omega
 rw [decide_eq_false h,R1,R1]
theorem H4 {l:List Int} {f t:Int} (hl:∀ x∈l,0<=x/\x<=1000000000) (hf:0<=f/\f<=1000000000) (ht:1<=t/\t<=1000):KX l f t=cntF l f (f+t - 1):=by
 rw [KX,cntF]
 congr 1
 exact RX fun x hx=>JE (hl x hx) hf ht
theorem ve {l:List Int} {t s:Int}:∀ {m:List Int} {j k:Nat},j<=k->(∀ f∈m,KX l f s<=KX l f t)->tC l s j m<=tC l t k m
 |[],j,k,h,_=>h
 |f::r,j,k,h,hm=>by
  rw [tC,tC]
  exact ve (by have:=hm f zP;omega) fun g hg=>hm g (by simp [hg])
theorem JF {l:List Int} {f g k:Int} (h:g<=k):cntF l f g<=cntF l f k:=by
 rw [cntF,cntF]
 refine List.Sublist.length_le ?_
 rw [show (l.filter fun x=>decide (f<=x) && decide (x<=g))=(l.filter fun x=>decide (f<=x) && decide (x<=k)).filter fun x=>decide (x<=g) by
  rw [List.filter_filter]
  refine RX fun x _=>?_
  by_cases h1:x<=g
  ·simp [h1,show x<=k by omega]
  simp [h1]]
 exact List.filter_sublist
theorem AnsI.big {l:List Int} {e:EndD} (h:AnsI l e):∀ x∈l,0<=x/\x<=1000000000:=fun x hx=>by have:=h.t x hx;have:=h.y.now;omega
theorem AnsI.one {l:List Int} {e:EndD} (h:AnsI l e) {t:Int} (ht:1<=t/\t<=1000):HC l 1<=HC l t:=by
 rw [HC,HC]
 by_cases hl:l.length<=300
 ·rw [if_pos ⟨by decide,hl⟩,if_pos ⟨by simp only [cv,RP,decide_eq_true_eq];exact ht,hl⟩]
  refine ve (Nat.le_refl _) fun f hf=>?_
  rw [H4 h.big (h.big f hf) zO,H4 h.big (h.big f hf) ht]
  exact JF zO
 rw [if_neg (fun hc=>hl hc.2)];exact Nat.zero_le _
theorem YoungE.fresh {e:EndD} (h:YoungE e):fresh e=true:=by
 rw [Go.Proofs.YteknmpdmhiomgaaGreat.fresh,RW]
 intro y hy
 have h1:=h.halfs y hy
 have h2:=h.now
 rw [Oq,decide_eq_false zO,Bool.false_or,Bool.not_eq_true',decide_eq_false_iff_not]
 simp only [IntKind.wrap_u64]
 omega
end
end Go.Proofs.YteknmpdmhiomgaaGreat
