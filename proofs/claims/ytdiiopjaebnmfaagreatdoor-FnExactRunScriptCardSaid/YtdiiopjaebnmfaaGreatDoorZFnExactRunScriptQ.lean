/- Lemmas of this claim. -/
import Derived.Test.YtdiiopjaebnmfaaGreatDoorZFnExactRunScriptP
set_option maxHeartbeats 16000000
set_option maxRecDepth 100000
set_option linter.unusedVariables false
set_option linter.unusedSimpArgs false
namespace Go.Proofs.YtdiiopjaebnmfaaGreatDoor
open _root_.Go.Proofs.YtdiiopjaebnmfaaGreatDoor renaming q4->qHW
open _root_.Go.Proofs.Tryz
open _root_.Array renaming getD_eq_getD_getElem?->zk
open _root_.List renaming drop_eq_nil_of_le->zG,getElem_mem->P6,map_set->P7,length_map->P9,nil_append->P_,length_append->Qa,all_eq_true->Qb,append_nil->Qc
open _root_.Nat renaming zero_le->P8
section
open Go.RowKit
theorem Dc (w:WorldD) (side many:Int) (p:Nat) (text:List UInt8) (ad:AddrD) (le:LetterD) (hw:SmallD w):
  aP 112 [.ag (w.cs 0),.ag (ActD.cs ⟨8,side,(p:Nat),many,text,ad,le⟩)] (w.hp true) (.tu [.ag (WorldD.cs (bg w ⟨8,side,(p:Nat),many,text,ad,le⟩).1 21),.sc (.int .i64 (bg w ⟨8,side,(p:Nat),many,text,ad,le⟩).2)])
  ((nH 21)++WorldD.hp (bg w ⟨8,side,(p:Nat),many,text,ad,le⟩).1 true):=by
 have hbag:=hw.p.s.bag
 obtain⟨R,hR⟩:∃ R,R=bg w ⟨8,side,(p:Nat),many,text,ad,le⟩:=⟨_,rfl⟩
 rw [<-hR]
 by_cases hp:p < w.bag.length
 ·rw [Nh hp] at hR
  have hO:=vy w.bag p hbag hp
  rw [<-jI hp,<-ut] at hO
  obtain⟨B,hBe⟩:∃ B,B=jd w.bag (p:Nat):=⟨_,rfl⟩
  have hB:B.length<=1048576:=by rw [hBe,jI hp];omega
  have hx:=aC (enc:=LetterD.cs) hp
  rw [<-hBe] at hR hO
  clear hBe
  generalize hxx:w.bag[p]=x at*
  have hL:=Gj { w with bag:=B } x ⟨⟨hw.p.s.a,hw.p.s.b,hB,hw.p.s.past,hw.p.s.keys,hw.p.s.tags,hw.p.s.nums,hw.p.s.ansA,hw.p.s.ansB⟩,hw.p.pa,hw.p.pb⟩
  obtain⟨L,hLe⟩:∃ L,L=ik { w with bag:=B } x:=⟨_,rfl⟩
  rw [<-hLe] at hL hR
  clear hLe
  subst hR
  dsimp only
  refine ix func112 ntmps112 results112 fun E hE=>?_
  try simp (disch:=omega) only [go_sem,seval,hx,hxx]
  refine qK (hO) (qI 14 1) ?_
  refine qK (hL) (qI 0 14++qI 25 1++qI 15 6) ?_
  exact cP (qI 0 21++qI 26 21)
 rw [Ng hp] at hR
 subst hR
 dsimp only
 refine ix func112 ntmps112 results112 fun E hE=>?_
 exact cP (qI 0 21++qI 0 21)
theorem Dd (w:WorldD) (side many:Int) (p:Nat) (text:List UInt8) (ad:AddrD) (le:LetterD) (hw:SmallD w):
  aP 112 [.ag (w.cs 0),.ag (ActD.cs ⟨9,side,(p:Nat),many,text,ad,le⟩)] (w.hp true) (.tu [.ag (WorldD.cs (bg w ⟨9,side,(p:Nat),many,text,ad,le⟩).1 21),.sc (.int .i64 (bg w ⟨9,side,(p:Nat),many,text,ad,le⟩).2)])
  ((nH 21)++WorldD.hp (bg w ⟨9,side,(p:Nat),many,text,ad,le⟩).1 true):=by
 have hbag:=hw.p.s.bag
 obtain⟨R,hR⟩:∃ R,R=bg w ⟨9,side,(p:Nat),many,text,ad,le⟩:=⟨_,rfl⟩
 rw [<-hR]
 by_cases hp:p < w.bag.length
 ·rw [Nj hp] at hR
  have hO:=vy w.bag p hbag hp
  rw [<-jI hp,<-ut] at hO
  obtain⟨B,hBe⟩:∃ B,B=jd w.bag (p:Nat):=⟨_,rfl⟩
  have hB:B.length<=1048576:=by rw [hBe,jI hp];omega
  have hx:=aC (enc:=LetterD.cs) hp
  rw [<-hBe] at hR hO
  clear hBe
  generalize hxx:w.bag[p]=x at*
  subst hR
  dsimp only
  refine ix func112 ntmps112 results112 fun E hE=>?_
  try simp (disch:=omega) only [go_sem,seval,hx,hxx]
  refine qK (hO) (qI 14 1) ?_
  exact cP (qI 0 21++qI 0 14++qI 25 1++qI 15 6)
 rw [Ni hp] at hR
 subst hR
 dsimp only
 refine ix func112 ntmps112 results112 fun E hE=>?_
 exact cP (qI 0 21++qI 0 21)
theorem Al (w:WorldD) (side many:Int) (p:Nat) (text:List UInt8) (ad:AddrD) (le:LetterD) (hw:SmallD w):
  aP 112 [.ag (w.cs 0),.ag (ActD.cs ⟨10,side,(p:Nat),many,text,ad,le⟩)] (w.hp true) (.tu [.ag (WorldD.cs (bg w ⟨10,side,(p:Nat),many,text,ad,le⟩).1 21),.sc (.int .i64 (bg w ⟨10,side,(p:Nat),many,text,ad,le⟩).2)])
  ((nH 21)++WorldD.hp (bg w ⟨10,side,(p:Nat),many,text,ad,le⟩).1 true):=by
 have hbag:=hw.p.s.bag
 obtain⟨R,hR⟩:∃ R,R=bg w ⟨10,side,(p:Nat),many,text,ad,le⟩:=⟨_,rfl⟩
 rw [<-hR]
 by_cases hp:p < w.bag.length/\¬ 40<=w.bag.length
 ·obtain⟨hp,h4⟩:=hp
  rw [KY hp h4] at hR
  have hx:=aC (enc:=LetterD.cs) hp
  generalize hxx:w.bag[p]=x at*
  subst hR
  dsimp only
  refine ix func112 ntmps112 results112 fun E hE=>?_
  try simp (disch:=omega) only [go_sem,seval,hx,hxx]
  refine aO (qI 0 21++qI 0 14++qI 26 1++qI 15 6) (qC) _ zXg zF zF ?_
  simp (disch:=omega) only [go_sem,seval]
  simp [LetterD.cs]
 rw [KX zO] at hR
 subst hR
 dsimp only
 by_cases hq:p < w.bag.length
 ·have h4:40<=w.bag.length:=zO
  have hx:=aC (enc:=LetterD.cs) hq
  generalize hxx:w.bag[p]=x at*
  refine ix func112 ntmps112 results112 fun E hE=>?_
  try simp (disch:=omega) only [go_sem,seval,hx,hxx]
  exact cP (qI 0 21++qI 0 21)
 refine ix func112 ntmps112 results112 fun E hE=>?_
 exact cP (qI 0 21++qI 0 21)
theorem BB (e:EndD) (hs:Small e) (ht:e.out.text.length<=1048576):aP 173 [.ag (e.cs 0)] (e.hp false) (.tu [.ag ((tick e).1.cs 7),.sc (.sl 14 0 (tick e).2.length)])
  (e.hp false++((tick e).1.hp true++[some ⟨(tick e).2.map LetterD.cs,19,36,true,true⟩])):=by
 have hC:=(qH (aF e))
 have hK:=(qH (bz e))
 have hsb:=hs.subs
 have hso:=hs.own
 have hsh:=hs.halfs
 have hF:=EP e.bucket
 have hY:=CV e.halfs (e.now+1) hs.halfs
 have hAn:=IX e.out
 have hyl:=rj e.halfs (e.now+1)
 have hat:(gK e.out).text.length<=1048576:=by rw [gK];split<;>exact ht
 have hf:=KT (e:=e)
 have hto:=Gl (e:=e)
 have hti:=Gm (e:=e)
 have htu:= @KU e
 have hok:IV e=(aq e && decide (e.now < 1000000000) && e.subs.all fun s=>decide (s.tries < 1000000000)):=rfl
 have hsm0:Small { e with now:=e.now+1,bucket:=dR e.bucket,halfs:=co e.halfs (e.now+1),out:=gK e.out }:=⟨hs.own,hs.far,hs.subs,by dsimp only;omega,hs.list,hs.done,hs.over⟩
 have hsm1:Small { e with now:=e.now+1,bucket:=dR e.bucket,halfs:=co e.halfs (e.now+1),out:=gK e.out,subs:=e.subs.map dT }:=⟨hs.own,hs.far,by dsimp only;rw [P9];exact hs.subs,by dsimp only;omega,hs.list,hs.done,hs.over⟩
 have hfl:(e.subs.flatMap (f8 e)).length<=e.subs.length:=s9 (pm e) _
 obtain⟨R,hR⟩:∃ R,R=tick e:=⟨_,rfl⟩
 rw [<-hR] at hf hto hti
 simp only [<-hR] at htu
 rw [<-hR]
 clear hR
 refine ix func173 ntmps173 results173 fun E hE=>?_
 refine qK (hC) (qI 0 7) ?_
 refine qK (hK) (qI 0 7) ?_
 refine qB (fun h1=>?_) fun h1=>?_
 ·have hnow:=kG h1
  by_cases h2:e.now < 1000000000
  ·refine qX ?_
   refine pB 7 hE (fun s (i:Nat)=>s.at (qU [0,1,3,1,11,29]) [(6,.sc (.int .i64 (i:Nat)))] (s.hp)) (fun (i:Nat)=>i<=e.subs.length/\(e.subs.drop i).all (fun s=>decide (s.tries < 1000000000))=e.subs.all (fun s=>decide (s.tries < 1000000000))) (fun (i:Nat)=>e.subs.length - i) 0 (qI 0 18) (⟨P8 _,rfl⟩) fun i hi N hN=>?_
   obtain⟨g1,g2⟩:=hi
   refine qR ?_
   refine qB (fun b=>?_) fun b=>?_
   ·rw [pj b] at g2
    have hg:=aC (enc:=SubD.cs) b
    have hsub:=pn h1 b
    try simp (disch:=omega) only [go_sem,seval,hg]
    refine qB (fun b2=>?_) fun b2=>?_
    ·rw [decide_eq_false zO,Bool.false_and] at g2
     rw [hf (by rw [hok,<-g2];simp)]
     refine qX ?_
     exact cP (qI 0 7++qI 9 7++qI 17 1)
    rw [decide_eq_true zO,Bool.true_and] at g2
    refine qX ?_
    exact Mc hN (i+1) (qI 0 18) (by (try dsimp only);exact⟨zO,g2⟩)
   rw [zG zO,List.all_nil] at g2
   have hall:=g2.symm
   have hall2:∀ (k:Nat) (hk:k < e.subs.length),e.subs[k].tries < 1000000000:=fun k hk=>by
    have:=Qb.1 hall e.subs[k] (P6 hk)
    simpa using this
   have htk:IV e=true:=by rw [hok,h1,decide_eq_true h2,hall];rfl
   refine qX ?_
   refine qK (hF) [] ?_
   refine qK (hY) (qI 3 1) ?_
   refine qK (hAn) [] ?_
   obtain⟨tk,htk1⟩:∃ f:SubD->SubD,f=fun s=>if e.state=2 then dT s else s:=⟨_,rfl⟩
   obtain⟨tl,htl1⟩:∃ f:SubD->List LetterD,f=fun s=>if e.state=2 then f8 e s else []:=⟨_,rfl⟩
   have hR:=htu htk htk1 htl1
   have hsmu:Small { e with now:=e.now+1,bucket:=dR e.bucket,halfs:=co e.halfs (e.now+1),out:=gK e.out,subs:=e.subs.map tk }:=⟨hs.own,hs.far,by dsimp only;rw [P9];exact hs.subs,by dsimp only;omega,hs.list,hs.done,hs.over⟩
   have hflu:(e.subs.flatMap tl).length<=e.subs.length:=s9 (fun s=>by rw [htl1];dsimp only;split;exact pm e s;simp) _
   obtain⟨LL,hLL⟩:∃ L,L=e.subs.flatMap tl:=⟨_,rfl⟩
   rw [<-hLL] at hR hflu
   clear htu hto hti hf
   refine qX ?_
   refine gV 7 hE (fun s (y:Nat×List LetterD)=>s.at (qU [0,1,6,1,8,1,11,120]) [(7,.sc (.int .i64 (y.1:Nat))),(5,.sc (.sl 17 0 y.2.length))] ((s.hp.set 11 (some ⟨(dD tk e.subs y.1).map SubD.cs,10,115,true,true⟩)).set 17 (some ⟨y.2.map LetterD.cs,19,36,true,true⟩))) (fun (y:Nat×List LetterD)=>y.1<=e.subs.length/\y.2.length<=y.1/\LL=y.2++(e.subs.drop y.1).flatMap tl) (fun (y:Nat×List LetterD)=>e.subs.length - y.1) (0,[]) (qI 0 19) (qC) (⟨P8 _,P8 _,hLL⟩) (ae zF zF ?_) fun y hy N2 hN2=>?_
   ·try simp (disch:=omega) only [go_sem,seval]
    try rw [nc]
   obtain⟨k,l⟩:=y
   obtain⟨f1,f2,f3⟩:=hy
   dsimp only at f1 f2 f3
   refine ab 400 ?_
   have hgl:(dD tk e.subs k).length=e.subs.length:=pf
   refine qX ?_
   by_cases hopen:k < e.subs.length/\e.state=2
   ·obtain⟨b,h2s⟩:=hopen
    have etk:tk=dT:=by rw [htk1];funext s;exact if_pos h2s
    have etl:tl=f8 e:=by rw [htl1];funext s;exact if_pos h2s
    clear htk1 htl1
    subst etk etl
    refine qX ?_
    have hg:=pg (f:=dT) b
    have hsub:=pn h1 b
    have htr:=hall2 k b
    rw [yF b] at f3
    have hset:=ph (f:=dT) b
    have hsame:=m_ (f:=dT) b
    obtain⟨s0,hs0⟩:∃ s,s=e.subs[k]:=⟨_,rfl⟩
    rw [<-hs0] at hsub htr f3 hset hsame
    have hg':∀ p:k < (dD dT e.subs k).length,(dD dT e.subs k)[k]'p=s0:=fun p=>by rw [hg p,hs0]
    clear hg
    by_cases c1:s0.state=1\/s0.state=2
    ·by_cases c2:s0.state=2/\9<=s0.tries+1
     ·have tS:=yI c2.1 c2.2
      rw [yJ c2.1 c2.2,P_] at f3
      obtain⟨c3,c4⟩:=c2
      try simp (disch:=omega) only [go_sem,seval,hg',c3]
      refine⟨qC,hN2 _ (k+1,l) (qI 0 19) (by (try dsimp only);exact⟨zO,zO,f3⟩) (by (try dsimp only);omega) (ae zF zF ?_)⟩
      refine qX ?_
      rw [<-hset,tS,P7]
      try simp [SubD.cs,c3]
     have tS:=E0 c1 c2
     by_cases c5:(s0.tries+1).tmod 3=0
     ·rcases c1 with c1|c1
      ·rw [Bx c1 c5] at f3
       have hL:aP 223 [.ag (EndD.cs { e with now:=e.now+1,bucket:=dR e.bucket,halfs:=co e.halfs (e.now+1),out:=gK e.out,subs:=(dD dT e.subs k).set k { s0 with tries:=s0.tries+1,state:=1 } } 0),.ag (SubD.cs { s0 with state:=1 })] (EndD.hp { e with now:=e.now+1,bucket:=dR e.bucket,halfs:=co e.halfs (e.now+1),out:=gK e.out,subs:=(dD dT e.subs k).set k { s0 with tries:=s0.tries+1,state:=1 } } false) (.ag (ia e s0).cs) (EndD.hp { e with now:=e.now+1,bucket:=dR e.bucket,halfs:=co e.halfs (e.now+1),out:=gK e.out,subs:=(dD dT e.subs k).set k { s0 with tries:=s0.tries+1,state:=1 } } false):=sV _ _ (show bU e.side 1 2=true from m7 h1)
       try simp (disch:=omega) only [go_sem,seval,hg',c1,c5]
       refine qK (hL) (qI 9 3++qI 18 1++qI 13 3) ?_
       refine⟨qC,hN2 _ (k+1,l++[ia e s0]) (qI 0 17++qI 21 1++qI 18 1) (by (try dsimp only);exact⟨zO,by simp;omega,by simpa using f3⟩) (by (try dsimp only);omega) (ae zF zF ?_)⟩
       refine qX ?_
       rw [<-hset,tS,P7]
       try simp [SubD.cs,c1,LetterD.cs]
      rw [vx c1 zO c5] at f3
      have hL:aP 224 [.ag (EndD.cs { e with now:=e.now+1,bucket:=dR e.bucket,halfs:=co e.halfs (e.now+1),out:=gK e.out,subs:=(dD dT e.subs k).set k { s0 with tries:=s0.tries+1,state:=2 } } 0),.ag (SubD.cs { s0 with state:=2 })] (EndD.hp { e with now:=e.now+1,bucket:=dR e.bucket,halfs:=co e.halfs (e.now+1),out:=gK e.out,subs:=(dD dT e.subs k).set k { s0 with tries:=s0.tries+1,state:=2 } } false) (.ag (cF e s0).cs) (EndD.hp { e with now:=e.now+1,bucket:=dR e.bucket,halfs:=co e.halfs (e.now+1),out:=gK e.out,subs:=(dD dT e.subs k).set k { s0 with tries:=s0.tries+1,state:=2 } } false):=ou _ _
      try simp (disch:=omega) only [go_sem,seval,hg',c1,c5]
      refine qK (hL) (qI 9 3++qI 18 1++qI 13 3) ?_
      refine⟨qC,hN2 _ (k+1,l++[cF e s0]) (qI 0 17++qI 21 1++qI 18 1) (by (try dsimp only);exact⟨zO,by simp;omega,by simpa using f3⟩) (by (try dsimp only);omega) (ae zF zF ?_)⟩
      refine qX ?_
      rw [<-hset,tS,P7]
      try simp [SubD.cs,c1,LetterD.cs]
     rw [yK c1 c2 c5,P_] at f3
     have c6:0 < (s0.tries+1).tmod 3:=by have:=Int.tmod_nonneg 3 (show 0<=s0.tries+1 by omega);omega
     rcases c1 with c1|c1
     ·try simp (disch:=omega) only [go_sem,seval,hg',c1]
      refine⟨qC,hN2 _ (k+1,l) (qI 0 19) (by (try dsimp only);exact⟨zO,zO,f3⟩) (by (try dsimp only);omega) (ae zF zF ?_)⟩
      refine qX ?_
      rw [<-hset,tS,P7]
      try simp [SubD.cs,c1]
     try simp (disch:=omega) only [go_sem,seval,hg',c1]
     refine⟨qC,hN2 _ (k+1,l) (qI 0 19) (by (try dsimp only);exact⟨zO,zO,f3⟩) (by (try dsimp only);omega) (ae zF zF ?_)⟩
     refine qX ?_
     rw [<-hset,tS,P7]
     try simp [SubD.cs,c1]
    rw [yH c1,P_] at f3
    try simp (disch:=omega) only [go_sem,seval,hg']
    refine⟨qC,hN2 _ (k+1,l) (qI 0 19) (by (try dsimp only);exact⟨zO,zO,f3⟩) (by (try dsimp only);omega) (ae zF zF ?_)⟩
    refine qX ?_
    rw [hsame (yG c1)]
   have hst:dD tk e.subs k=e.subs.map tk:=by
    by_cases h2s:e.state=2
    ·rw [show k=e.subs.length by omega,pi]
    have hid:∀ s,tk s=s:=fun s=>by rw [htk1];exact if_neg h2s
    have hf2:tk=fun s=>s:=funext hid
    rw [KV hid,hf2];simp
   have hlf:LL=l:=by
    by_cases h2s:e.state=2
    ·rw [f3,zG zO,List.flatMap_nil,Qc]
    have hf2:tl=fun s=>[]:=by rw [htl1];funext s;exact if_neg h2s
    rw [f3,hf2];simp
   rw [hst]
   subst hlf
   by_cases b:k < e.subs.length
   all_goals
    have hT:=yD { e with now:=e.now+1,bucket:=dR e.bucket,halfs:=co e.halfs (e.now+1),out:=gK e.out,subs:=e.subs.map tk } hsmu
    have hTl:=nf { e with now:=e.now+1,bucket:=dR e.bucket,halfs:=co e.halfs (e.now+1),out:=gK e.out,subs:=e.subs.map tk }
    have hml:(e.subs.map tk).length=e.subs.length:=P9 ..
    rw [dM] at hR
    obtain⟨EX,hEX⟩:∃ E,E={ e with now:=e.now+1,bucket:=dR e.bucket,halfs:=co e.halfs (e.now+1),out:=gK e.out,subs:=e.subs.map tk }:=⟨_,rfl⟩
    rw [<-hEX] at hR
    have hsx:Small EX:=by rw [hEX];exact hsmu
    have hatx:EX.out.text.length<=1048576:=by rw [hEX];exact hat
    obtain⟨TT,hTT⟩:∃ T,T=df EX:=⟨_,rfl⟩
    rw [<-hTT] at hR
    rw [<-hEX,<-hTT] at hTl
    rw [show df { e with now:=e.now+1,bucket:=dR e.bucket,halfs:=co e.halfs (e.now+1),out:=gK e.out,subs:=e.subs.map tk }=TT by rw [hTT,hEX]] at hT
    have hxo:EX.own.length<=1048576:=hsx.own
    refine qX ?_
    refine qK (hT) (qI 9 3++qI 18 1++qI 13 3) ?_
    refine gV 7 hE (fun s (y:Nat×EndD×List LetterD)=>s.at (qU [0,2,6,3,10,138]) [(9,.sc (.int .i64 (y.1:Nat))),(5,.sc (.sl 17 0 y.2.2.length))] ((s.hp.take 9)++(y.2.1.hp true++[some ⟨[y.2.1.cs 9],25,54,true,false⟩,some ⟨y.2.2.map LetterD.cs,19,36,true,true⟩]))) (fun (y:Nat×EndD×List LetterD)=>y.1<=3/\Small y.2.1/\y.2.1.out.text.length<=1048576/\y.2.2.length<=2097152+y.1/\R=((dP (3 - y.1) y.2.1).1,y.2.2++(dP (3 - y.1) y.2.1).2)) (fun (y:Nat×EndD×List LetterD)=>3 - y.1) (0,EX,LL++TT) (qI 0 12++qI 18 1++qI 13 4++qI 20 1) (qC) (⟨zO,hsx,hatx,by simp only [Qa];omega,hR⟩) (ae zF zF ?_) fun y hy N2 hN2=>?_
    ·rw [hEX]
     try simp (disch:=omega) only [go_sem,seval]
     try simp
    obtain⟨n,e1,l⟩:=y
    obtain⟨h1',h2',h3',h4',h5'⟩:=hy
    dsimp only at h1' h2' h3' h4' h5'
    have hP:=Bs e1 h2' h3'
    have hp1:=sU e1
    have hps:=mZ h2'
    have hpt:(fi e1).1.out.text.length<=1048576:=by rw [oZ];exact h3'
    refine qR ?_
    refine qB (fun b3=>?_) fun b3=>?_
    ·rw [rg zO] at h5'
     obtain⟨pr,hpr⟩:∃ p,p=fi e1:=⟨_,rfl⟩
     rw [<-hpr] at hP hp1 hps hpt h5'
     obtain⟨e2,l2⟩:=pr
     dsimp only at hP hp1 hps hpt h5'
     rw [<-List.append_assoc] at h5'
     refine qX ?_
     refine qK (hP) (qI 9 7) ?_
     refine Iu hN2 (n+1,e2,l++l2) (qI 0 9++qI 19 7++qI 16 1++qI 27 1) (by (try dsimp only);exact⟨zO,hps,hpt,by simp only [Qa];omega,h5'⟩) ?_
     first|exact⟨⟩|simp
    have e3:n=3:=zO
    subst e3
    simp only [Nat.sub_self,dP,Qc] at h5'
    subst h5'
    refine qX ?_
    exact cP (qI 0 7++qI 9 7++qI 17 1)
  rw [hf (by rw [hok];simp [h2])]
  refine qX ?_
  exact cP (qI 0 7++qI 9 7++qI 17 1)
 rw [hf (by rw [hok];simp [h1])]
 refine qX ?_
 exact cP (qI 0 7++qI 9 7++qI 17 1)
theorem y3 (w:WorldD) (pos many:Int) (text:List UInt8) (ad:AddrD) (le:LetterD) (hw:SmallD w) (htx:text.length<=1048576):
  aP 109 [.ag (w.cs 0),.ag (ActD.cs ⟨3,1,pos,many,text,ad,le⟩)] (w.hp false) (.tu [.ag (WorldD.cs (ay 1 { w with a:=(tick w.a).1 } (tick w.a).2) 21),.sc (.int .i64 0)]) (w.hp false++WorldD.hp (ay 1 { w with a:=(tick w.a).1 } (tick w.a).2) true):=by
 have hX:=BB w.a hw.p.s.a hw.oa
 have hsm:=lh hw.p.s.a
 have hlen:=tf w.a
 have hEA:aP 168 [.ag (w.cs 0),.sc (.int .i64 1)] (w.hp false) (.ag (w.a.cs 21)) (w.hp false++w.a.hp true):=qHW hw.p.s (cg w 1)
 obtain⟨pr,hpr⟩:∃ p,p=tick w.a:=⟨_,rfl⟩
 rw [<-hpr] at hX hsm hlen⊢
 obtain⟨e1,l1⟩:=pr
 dsimp only at hX hsm hlen⊢
 have hset:=fj w e1
 have hpost:=fm { w with a:=e1 } l1 ⟨hsm,hw.p.s.b,hw.p.s.bag,hw.p.s.past,hw.p.s.keys,hw.p.s.tags,hw.p.s.nums,hw.p.s.ansA,hw.p.s.ansB⟩ (by first|omega|simp)
 have hends:=aQ (side:=1) (l:=l1) (w:={ w with a:=e1 })
 obtain⟨R,hR⟩:∃ R,R=ay 1 { w with a:=e1 } l1:=⟨_,rfl⟩
 rw [<-hR] at hpost hends⊢
 clear hR
 obtain⟨ra,rb,bag,past,wA,wB,rA,rB,known,nums,nsA,nsB⟩:=R
 obtain⟨keys,tags⟩:=known
 dsimp only at hends
 obtain⟨g1,g2,g3,g4,g5,g6⟩:=hends
 replace g1:=g1.symm
 replace g2:=g2.symm
 replace g3:=g3.symm
 replace g4:=g4.symm
 replace g5:=g5.symm
 replace g6:=g6.symm
 subst g1 g2 g3 g4 g5 g6
 refine ix func109 ntmps109 results109 fun E hE=>?_
 refine qK (hEA) (qI 0 21) ?_
 refine qK (hX) (qI 24 7) ?_
 refine qD [0,1,2,3,5,6,7,4,8,9,10] ?_
 refine aE (hset) (qI 0 21++qI 33 7) ?_
 refine aE (hpost) (qI 33 7++qI 7 14++qI 40 1) ?_
 refine qG ?_
 exact cP (qI 0 21++qI 41 21)
theorem y4 (w:WorldD) (pos many:Int) (text:List UInt8) (ad:AddrD) (le:LetterD) (hw:SmallD w) (htx:text.length<=1048576):
  aP 109 [.ag (w.cs 0),.ag (ActD.cs ⟨3,2,pos,many,text,ad,le⟩)] (w.hp false) (.tu [.ag (WorldD.cs (ay 2 { w with b:=(tick w.b).1 } (tick w.b).2) 21),.sc (.int .i64 0)]) (w.hp false++WorldD.hp (ay 2 { w with b:=(tick w.b).1 } (tick w.b).2) true):=by
 have hX:=BB w.b hw.p.s.b hw.ob
 have hsm:=lh hw.p.s.b
 have hlen:=tf w.b
 have hEA:aP 168 [.ag (w.cs 0),.sc (.int .i64 2)] (w.hp false) (.ag (w.b.cs 21)) (w.hp false++w.b.hp true):=qHW hw.p.s (cg w 2)
 obtain⟨pr,hpr⟩:∃ p,p=tick w.b:=⟨_,rfl⟩
 rw [<-hpr] at hX hsm hlen⊢
 obtain⟨e1,l1⟩:=pr
 dsimp only at hX hsm hlen⊢
 have hset:=fk w e1
 have hpost:=fq { w with b:=e1 } l1 ⟨hw.p.s.a,hsm,hw.p.s.bag,hw.p.s.past,hw.p.s.keys,hw.p.s.tags,hw.p.s.nums,hw.p.s.ansA,hw.p.s.ansB⟩ (by first|omega|simp)
 have hends:=aQ (side:=2) (l:=l1) (w:={ w with b:=e1 })
 obtain⟨R,hR⟩:∃ R,R=ay 2 { w with b:=e1 } l1:=⟨_,rfl⟩
 rw [<-hR] at hpost hends⊢
 clear hR
 obtain⟨ra,rb,bag,past,wA,wB,rA,rB,known,nums,nsA,nsB⟩:=R
 obtain⟨keys,tags⟩:=known
 dsimp only at hends
 obtain⟨g1,g2,g3,g4,g5,g6⟩:=hends
 replace g1:=g1.symm
 replace g2:=g2.symm
 replace g3:=g3.symm
 replace g4:=g4.symm
 replace g5:=g5.symm
 replace g6:=g6.symm
 subst g1 g2 g3 g4 g5 g6
 refine ix func109 ntmps109 results109 fun E hE=>?_
 refine qK (hEA) (qI 0 21) ?_
 refine qK (hX) (qI 24 7) ?_
 refine qD [0,1,2,3,5,6,7,4,8,9,10] ?_
 refine aE (hset) (qI 0 21++qI 33 7) ?_
 refine aE (hpost) (qI 0 7++qI 33 7++qI 14 7++qI 40 1) ?_
 refine qG ?_
 exact cP (qI 0 21++qI 41 21)
def tp (acc:lz):List LetterD->lz
 |[]=>acc
 |x::r=>tp (acc++[32]++dp x.kind) r
def NV (l:List LetterD):lz:=tp [98,97,103] l
def dF (w:WorldD):List lz:=f5 w.a++f5 w.b++[NV w.bag]
theorem zg {l:List LetterD} {acc:lz} {k:Nat} (h:k < l.length):tp acc (l.drop k)=tp (acc++[32]++dp l[k].kind) (l.drop (k+1)):=by
 rw [List.drop_eq_getElem_cons h,tp]
theorem lk (w:WorldD):(dF w).length=(f5 w.a).length+(f5 w.b).length+1:=by
 simp [dF]
 omega
theorem LetterD.wf_kind {x:LetterD} (h:x.wf):bN x.kind:=h.1
theorem uw (w:WorldD) (ha:w.a.wf) (hb:w.b.wf) (hlet:∀ y∈w.bag,LetterD.wf y) (hbag:w.bag.length<=1048576) (ha0:w.a.subs.length<=1048576) (ha1:w.a.own.length<=1048576) (ha2:w.a.far.length<=1048576) (hb0:w.b.subs.length<=1048576) (hb1:w.b.own.length<=1048576) (hb2:w.b.far.length<=1048576):aP 11 [.ag (w.cs 0)] (w.hp false) (.sc (.sl 21 0 (dF w).length)) (w.hp false++[some ⟨(dF w).map aD,1,9,true,true⟩]):=by
 have la:=dV w.a
 have lb:=dV w.b
 refine qE func11 ntmps11 results11 fun E hE=>?_
 refine fJ 21 hE (fun s (x:Nat×lz)=>s.at (qU [0,1,5,2,10,10]) [(9,.sc (.int .i64 (x.1:Nat))),(3,.sc (.st x.2))] (s.hp)) (fun (x:Nat×lz)=>x.1<=w.bag.length/\x.2.length<=3+22*x.1/\tp x.2 (w.bag.drop x.1)=NV w.bag) (fun (x:Nat×lz)=>w.bag.length - x.1) (0,[98,97,103]) (qI 0 22) (⟨P8 _,by decide,rfl⟩) fun x hx N hN=>?_
 obtain⟨k,acc⟩:=x
 obtain⟨hk1,hk2,hk3⟩:=hx
 dsimp only at hk1 hk2 hk3
 refine qR ?_
 refine qB (fun h=>?_) fun h=>?_
 ·rw [zg h] at hk3
  have hs:=LetterD.wf_kind (hlet _ (P6 h))
  have dk:=bi hs
  refine qX ?_
  refine qK (aZ _ hs) [] ?_
  refine lr hN (k+1,acc++[32]++dp w.bag[k].kind) (qI 0 22) (by (try dsimp only);exact⟨zO,by simp;omega,hk3⟩) ?_
  first|exact⟨⟩|simp
 rw [zG zO,tp] at hk3
 subst hk3
 refine qX ?_
 refine aB [(2,8),(5,8),(6,8)] [[0,1,3,4,7,2,5,6,8,9,10],[0,1,3,4,7,2,5,8,6,9,10],[0,1,3,4,7,2,8,5,6,9,10],[0,1,3,4,7,8,2,5,6,9,10]] zXk (qC) zXk ?_
 simp only [aM]
 refine⟨?_,?_,?_,?_⟩
 ·refine aa 400 ?_
  refine qX ?_
  refine aE (eE w.a ha ha0 ha1 ha2) (qI 0 7) ?_
  refine aE (eE w.b hb hb0 hb1 hb2) (qI 7 7) ?_
  refine qG ?_
  refine aj (qI 0 21++qI 26 1) (qC) _ zXg zF zF ?_
  simp (disch:=omega) only [go_sem,seval]
  try simp [dF,aD]
  try omega
 ·refine aa 400 ?_
  refine qX ?_
  refine aE (eE w.a ha ha0 ha1 ha2) (qI 0 7) ?_
  refine aE (eE w.b hb hb0 hb1 hb2) (qI 7 7) ?_
  refine qG ?_
  refine aj (qI 0 21++qI 26 1) (qC) _ zXg zF zF ?_
  simp (disch:=omega) only [go_sem,seval]
  try simp [dF,aD]
  try omega
 ·refine aa 400 ?_
  refine qX ?_
  refine aE (eE w.a ha ha0 ha1 ha2) (qI 0 7) ?_
  refine aE (eE w.b hb hb0 hb1 hb2) (qI 7 7) ?_
  refine qG ?_
  refine aj (qI 0 21++qI 26 1) (qC) _ zXg zF zF ?_
  simp (disch:=omega) only [go_sem,seval]
  try simp [dF,aD]
  try omega
 refine aa 400 ?_
 refine qX ?_
 refine aE (eE w.a ha ha0 ha1 ha2) (qI 0 7) ?_
 refine aE (eE w.b hb hb0 hb1 hb2) (qI 7 7) ?_
 refine qG ?_
 refine aj (qI 0 21++qI 26 1) (qC) _ zXg zF zF ?_
 simp (disch:=omega) only [go_sem,seval]
 try simp [dF,aD]
 try omega
theorem ux (w:WorldD) (ha:w.a.wf) (hb:w.b.wf) (hlet:∀ y∈w.bag,LetterD.wf y) (hbag:w.bag.length<=1048576) (ha0:w.a.subs.length<=1048576) (ha1:w.a.own.length<=1048576) (ha2:w.a.far.length<=1048576) (hb0:w.b.subs.length<=1048576) (hb1:w.b.own.length<=1048576) (hb2:w.b.far.length<=1048576):aP 42 [.ag (w.cs 0)] (w.hp false) (.sc (.sl 21 0 (dF w).length)) (w.hp false++[some ⟨(dF w).map aD,1,9,true,true⟩]):=by
 have la:=dV w.a
 have lb:=dV w.b
 refine qE func42 ntmps42 results42 fun E hE=>?_
 refine qK (pP w.a ha ha0 ha1 ha2) (qI 0 7) ?_
 refine qK (pP w.b hb hb0 hb1 hb2) (qI 7 7) ?_
 refine fJ 21 hE (fun s (x:Nat×lz)=>s.at (qU [0,1,6,25]) [(5,.sc (.int .i64 (x.1:Nat))),(4,.sc (.st x.2))] (s.hp)) (fun (x:Nat×lz)=>x.1<=w.bag.length/\x.2.length<=3+22*x.1/\tp x.2 (w.bag.drop x.1)=NV w.bag) (fun (x:Nat×lz)=>w.bag.length - x.1) (0,[98,97,103]) (qI 0 22++qO 1++qI 23 2) (⟨P8 _,by decide,rfl⟩) fun x hx N hN=>?_
 obtain⟨k,acc⟩:=x
 obtain⟨hk1,hk2,hk3⟩:=hx
 dsimp only at hk1 hk2 hk3
 refine qR ?_
 refine qB (fun h=>?_) fun h=>?_
 ·rw [zg h] at hk3
  have hs:=LetterD.wf_kind (hlet _ (P6 h))
  have dk:=bi hs
  refine qX ?_
  refine qK (az _ hs) [] ?_
  refine lr hN (k+1,acc++[32]++dp w.bag[k].kind) (qI 0 25) (by (try dsimp only);exact⟨zO,by simp;omega,hk3⟩) ?_
  first|exact⟨⟩|simp
 rw [zG zO,tp] at hk3
 subst hk3
 refine qX ?_
 refine aj (qI 0 21++qI 26 1) (qC) _ zXg zF zF ?_
 simp (disch:=omega) only [go_sem,seval]
 try simp [dF,aD]
 try omega
theorem dL {n:Int} (h: -4611686018427387904<=n/\n<=4611686018427387904):bN n:=⟨zO,zO⟩
theorem N9.i {n:Int} (h:N9 n):bN n:=by obtain⟨h1,h2⟩:=h;exact dL zO
theorem Dn:1048576<=maxLen:=by decide
theorem OkE.wf {e:EndD} (h:OkE e) (g:GoodE e):e.wf:=by
 have n:=h.nums
 have fo:=dC h.out
 have fp:=dX h.inp g.p
 have o1:=fo.base;have o2:=fo.room;have o3:=fo.len;have o4:=fo.sent
 have m:=Dn
 have s:=g.s
 have hb:=h.bucket
 simp only [bucketOk,Bool.and_eq_true,fC] at hb
 have p0:=fp.r0;have p1:=fp.r1;have p2:=fp.ready
 have s1:=h.side;have s2:=h.state
 have pk:bN e.policy.kind/\bN e.policy.many:=by
  have hc:=xk h.pol
  have:=Hh _ hc
  exact this
 have t1:=g.o
 refine⟨dL zO,dL zO,n.1.i,n.2.1.i,pk.1,pk.2,dL zO,dL zO,dL zO,zO,dL zO,dL zO,dL zO,dL zO,zO,n.2.2.1.i,n.2.2.2.1.i,n.2.2.2.2.i,fun y hy=>?_,fun y hy=>?_,fun y hy=>?_,fun y hy=>?_,fun y hy=>?_,fun y hy=>?_,fun y hy=>?_,?_,?_,?_,?_,?_,?_,?_⟩
 ·have:=h.own.el y hy;simp only [AdE] at this;exact⟨dL zO,dL zO⟩
 ·have:=h.far.el y hy;simp only [AdE] at this;exact⟨dL zO,dL zO⟩
 ·obtain⟨q1,⟨r1,r2,r3⟩,q2,q3,q4,q5,q6⟩:=h.subs.el y hy
  exact⟨r1.i,r2.i,r3.i,dL zO,q2.i,q3.i,q4.i,q5.i,q6.i⟩
 ·obtain⟨⟨r1,r2,r3⟩,q2,q3,q4,q5,q6⟩:=h.halfs.el y hy
  exact⟨r1.i,r2.i,r3.i,q2.i,q3.i,q4.i,q5.i,q6.i⟩
 ·obtain⟨q1,q2,q3⟩:=fp.texts y hy
  exact⟨dL zO,zO⟩
 ·have:=(h.done.el y hy).1;exact dL zO
 ·have:=(h.over.el y hy).1;exact dL zO
 ·have:=s.own;omega
 ·have:=s.far;omega
 ·have:=s.subs;omega
 ·have:=s.halfs;omega
 ·have:=s.list;omega
 ·have:=s.done;omega
 have:=s.over;omega
theorem Fl {x:LetterD} (h:cU x=true):x.wf:=by
 have m:=Dn
 simp only [cU,Bool.and_eq_true,fC,Qb,decide_eq_true_eq,Ld] at h
 obtain⟨⟨h1,h2⟩,h3⟩:=h
 simp only [jL,List.forall_mem_cons] at h2
 obtain⟨a1,a2,a3,a4,a5,a6,a7,a8,a9,a10,a11,a12,a13,a14,a15,a16,_⟩:=h2
 exact⟨dL zO,a1.i,a2.i,a3.i,a4.i,a5.i,a6.i,a7.i,a8.i,a12.i,a13.i,a14.i,a15.i,a16.i,a9.i,a10.i,a11.i,zO⟩
theorem eL:bN 0:=⟨by decide,by decide⟩
theorem lX {r:RoadD} {kk k tk nn gv sg tk' to tt ta tb id ad ps:Int} {sp:Bool} {tx:List UInt8} (hr:RN r) (h:bN k/\bN tk/\bN nn/\bN gv/\bN sg/\bN tk'/\bN to/\bN tt/\bN ta/\bN tb/\bN id/\bN ad/\bN ps) (hk:bN kk) (ht:tx.length<=maxLen):
  LetterD.wf (bc r ⟨k,0,0,0,kk,tk,nn,gv,sg,⟨tk',to,tt,ta,tb⟩,id,ad,sp,ps,tx⟩):=by
 obtain⟨r1,r2,r3⟩:=hr
 obtain⟨h1,h2,h3,h4,h5,h6,h7,h8,h9,h10,h11,h12,h13⟩:=h
 exact⟨h1,r1.i,r2.i,r3.i,hk,h2,h3,h4,h5,h6,h7,h8,h9,h10,h11,h12,h13,ht⟩
theorem Lo {l:List SubD} {n:Nat} (h:n∈fF l):n∈jm l:=by
 rw [fF] at h;split at h
 ·exact h
 exact (List.mem_filter.1 h).1
theorem GF {e:EndD} (h:0<=bD e):∃ s∈e.subs,s.state=3/\bH e.subs (bD e).toNat=s:=by
 rw [bD] at h⊢;split at h
 ·rename_i hc
  have hz:e.pick.toNat % (fF e.subs).length < (fF e.subs).length:=Nat.mod_lt _ zO
  rw [if_pos hc,Int.toNat_natCast,List.getD_eq_getElem?_getD,List.getElem?_eq_getElem hz,Option.getD_some]
  obtain⟨hn,h3⟩:=rX (Lo (P6 hz))
  exact⟨_,P6 hn,h3,eI hn⟩
 omega
end
section
open Go.RowKit
theorem oQ (a:Act) (d:Option Tmp) (v:Value):(a.put d v).tmps.size=a.tmps.size:=by
 cases d with
 |none=>rfl
 |some d=>simp [Act.put]
theorem lN {a:Act} {d:Nat} {v:Value} (h:d < a.tmps.size):(a.put (some d) v).eval (.tmp d)=v:=by
 show (a.tmps.setIfInBounds d v).getD d undef=v
 simp [zk,h]
theorem uF {a:Act} {d x:Nat} {v:Value} (h:x≠d):(a.put (some d) v).eval (.tmp x)=a.eval (.tmp x):=by
 show (a.tmps.setIfInBounds d v).getD x undef=a.tmps.getD x undef
 rw [zk,zk,Array.getElem?_setIfInBounds_ne (Ne.symm h)]
theorem kK {P:Program} {ops:Array Oper} {w:World} {Q:Act->Prop} {a:Act} {o:Oper} {rest:List Oper} {v:Value} {d:Nat} (hg:o.guard=none) (hd:o.dst=some d) (hr:(execOp a.eval o).run P w=.ok (.value v) w)
  (h:wpStill P ops w Q rest (a.put (some d) v)):wpStill P ops w Q (o::rest) a:=by
 unfold wpStill
 rw [if_pos (by unfold Region.wanted;rw [hg])]
 unfold Oper.still
 rw [hr]
 simp only [Oper.stillUpon]
 rw [hd]
 exact⟨trivial,h⟩
section
variable {P:Program} {g:Nat} {tab:List (List UInt8)}
theorem Fr {E:Entry} {F:S->Prop} {id:Nat} {o0 o1 o2 o3 o4 o5 o6:Oper} {k:List gz} {s:S} {c:Prop} {T T' t x y n e d0 d1 d2 d3 d4 d5 d6 ob ty:Nat} {m:Int} {l0 z:List UInt8} {l:List (List UInt8)} {own fl:Bool} (hG:GE g tab E)
  (hm:P.follows .mixedOrders=true) (hB:Region.lexTailB .any [o0,o1,o2,o3,o4,o5,o6].toArray 6=true)
  (p0:o0.op=.move (.tmp x)/\o0.dst=some d0/\o0.guard=none)
  (p1:o1.op=.indexAddr T (.tmp d0) (.const (.int .i64 0))/\o1.dst=some d1/\o1.guard=none)
  (p2:o2.op=.load t (.tmp d1)/\o2.dst=some d2/\o2.guard=none)
  (p3:o3.op=.move (.tmp y)/\o3.dst=some d3/\o3.guard=none)
  (p4:o4.op=.indexAddr T' (.global g) (.tmp d3)/\o4.dst=some d4/\o4.guard=none)
  (p5:o5.op=.load t (.tmp d4)/\o5.dst=some d5/\o5.guard=none)
  (p6:o6.op=.binOp .neq t (.tmp d2) (.tmp d5) t/\o6.dst=some d6/\o6.guard=none)
  (hne:y≠d0/\y≠d1/\y≠d2/\d2≠d3/\d2≠d4/\d2≠d5)
  (hT:wD P T=some (e,1)) (hT':P.underlying T'=some (.array n e)) (ht:dm P t=false) (hk:fO P t=true) (hst:P.underlying t=some .string)
  (hx:s.sl.get x=some (.sc (.sl ob 0 l.length))) (hob:s.obj ob=some ⟨l.map fun q=>[.st q],1,ty,own,fl⟩) (hl0:l[0]? =some l0)
  (hy:s.sl.get y=some (.sc (.int .i64 m))) (h0:0<=m) (h1:m < n) (hz:tab[m.toNat]? =some z)
  (hhas:s.sl.has d0/\s.sl.has d1/\s.sl.has d2/\s.sl.has d3/\s.sl.has d4/\s.sl.has d5) (hc:c)
  (h:iA P E F (.go k (((((((s.put (some d0) none s.hp).put (some d1) none s.hp).put (some d2) (some (.sc (.st l0))) s.hp).put (some d3) none s.hp).put (some d4) none s.hp).put (some d5) (some (.sc (.st z))) s.hp).put (some d6) (some (.sc (.bo (!(l0 == z))))) s.hp) True)):
  iA P E F (.draw id [o0,o1,o2,o3,o4,o5,o6].toArray k s c):=by
 refine⟨hc,?_⟩
 intro β a w hs Q hQ
 refine wp_region_still_tail 6 hm hB ?_
 simp only [List.take_succ_cons,List.take_zero,List.drop_succ_cons,List.drop_zero]
 obtain⟨w2,hw2⟩:∃ w2,w2={ w with drawn:=w.drawn+1 }:=⟨_,rfl⟩
 have hs2:Sim E β s a w2:=by
  rw [hw2]
  exact⟨hs.dfr,hs.sl,⟨hs.hp.len,hs.hp.ob,hs.hp.flat,hs.hp.apart⟩,hs.ent,⟨hs.st.le,hs.st.os,hs.st.tape,hs.st.output,hs.st.size,hs.st.block,hs.st.len,hs.st.old,hs.st.fresh⟩⟩
 rw [<-hw2]
 clear hw2 hs
 have hgo:=hG.sim hs2
 obtain⟨hTs,hke,he1⟩:=iE hT
 have hvx:eB β (.sl ob 0 l.length) (a.eval (.tmp x)):=by
  obtain⟨u,hu,hr⟩:=hs2.sl.2 x _ hx
  have:a.eval (.tmp x)=u:=by show a.tmps.getD x undef=u;simp [zk,hu]
  rw [this];exact hr
 have hvy:a.eval (.tmp y)=.int .i64 m:=by
  obtain⟨u,hu,hr⟩:=hs2.sl.2 y _ hy
  have:a.eval (.tmp y)=u:=by show a.tmps.getD y undef=u;simp [zk,hu]
  rw [this];exact hr
 have hlen:0 < l.length:=(List.getElem?_eq_some_iff.1 hl0).1
 obtain⟨ad,cap,hxe,hlc,hcm,hor⟩:=hvx
 rcases hor with rfl|⟨p,hp,rfl,hav⟩
 ·omega
 obtain⟨he,arr,Tb,fz,hh,hcs,_⟩:=jp hs2.hp (du hob) hp
 have hcell:w2.cell? ⟨p.blk,p.base,none⟩=some (.string ⟨l0.toArray⟩):=by
  obtain⟨v,hv,hr⟩:=(hcs 0 [.st l0] (by simp [hl0])).2 0 (.st l0) rfl
  rw [mu hh]
  have hr':v=.string ⟨l0.toArray⟩:=hr
  rw [<-hr']
  simpa using hv
 have hcell2:=hgo.2.1 _ _ hz
 have hf:StepR β β s.hp s.hp w2 w2:=StepR.refl β s.hp w2 hs2.hp.len
 have b0:=hs2.sl.1 d0 hhas.1
 have b1:=hs2.sl.1 d1 hhas.2.1
 have b2:=hs2.sl.1 d2 hhas.2.2.1
 have b3:=hs2.sl.1 d3 hhas.2.2.2.1
 have b4:=hs2.sl.1 d4 hhas.2.2.2.2.1
 have b5:=hs2.sl.1 d5 hhas.2.2.2.2.2
 obtain⟨p0a,p0b,p0c⟩:=p0
 obtain⟨p1a,p1b,p1c⟩:=p1
 obtain⟨p2a,p2b,p2c⟩:=p2
 obtain⟨p3a,p3b,p3c⟩:=p3
 obtain⟨p4a,p4b,p4c⟩:=p4
 obtain⟨p5a,p5b,p5c⟩:=p5
 obtain⟨p6a,p6b,p6c⟩:=p6
 obtain⟨y0,y1,y2,n23,n24,n25⟩:=hne
 obtain⟨dd,hdd⟩:=qh hk
 have S0:=fK hs2 hf hs2.hp (some d0) (.slice (some ⟨p.blk,p.base+0*p.esz,none⟩) l.length cap)
 refine kK p0c p0b (v:=.slice (some ⟨p.blk,p.base+0*p.esz,none⟩) l.length cap) (by unfold execOp;rw [p0a];simp [hxe]) ?_
 have e0:=lN (a:=a) (v:=.slice (some ⟨p.blk,p.base+0*p.esz,none⟩) l.length cap) b0
 have f0:=(uF (a:=a) (v:=.slice (some ⟨p.blk,p.base+0*p.esz,none⟩) l.length cap) y0).trans hvy
 have z0:=oQ a (some d0) (.slice (some ⟨p.blk,p.base+0*p.esz,none⟩) l.length cap)
 generalize a.put (some d0) (.slice (some ⟨p.blk,p.base+0*p.esz,none⟩) l.length cap)=A0 at*
 have S1:=fK S0 hf hs2.hp (some d1) (.pointer (some ⟨p.blk,p.base,none⟩))
 refine kK p1c p1b (v:=.pointer (some ⟨p.blk,p.base,none⟩)) (by
  have e1:A0.eval (.const (.int .i64 0))=.int .i64 0:=rfl
  unfold execOp
  rw [p1a]
  simp [e0,e1,Instr.indexAt,asIntOf,run_underlying (ir hTs),hlen,dY w2 (jV hke),Addr.add_lit]) ?_
 have e1:=lN (a:=A0) (d:=d1) (v:=.pointer (some ⟨p.blk,p.base,none⟩)) zO
 have f1:=(uF (a:=A0) (v:=.pointer (some ⟨p.blk,p.base,none⟩)) y1).trans f0
 have z1:=oQ A0 (some d1) (.pointer (some ⟨p.blk,p.base,none⟩))
 generalize A0.put (some d1) (.pointer (some ⟨p.blk,p.base,none⟩))=A1 at*
 have S2:=iw S1 hf hs2.hp (some d2) (av:=.sc (.st l0)) (v:=.string ⟨l0.toArray⟩) rfl
 refine kK p2c p2b (v:=.string ⟨l0.toArray⟩) (by
  unfold execOp
  rw [p2a]
  simp [e1,Instr.loadAt,Instr.sureAddr,loadVar,gy w2 hdd,ht,hcell]) ?_
 have f2:=(uF (a:=A1) (v:=.string ⟨l0.toArray⟩) y2).trans f1
 have z2:=oQ A1 (some d2) (.string ⟨l0.toArray⟩)
 generalize A1.put (some d2) (.string ⟨l0.toArray⟩)=A2 at*
 have S3:=fK S2 hf hs2.hp (some d3) (.int .i64 m)
 refine kK p3c p3b (v:=.int .i64 m) (by
  unfold execOp
  rw [p3a]
  simp [f2]) ?_
 have e3:=lN (a:=A2) (d:=d3) (v:=.int .i64 m) zO
 have z3:=oQ A2 (some d3) (.int .i64 m)
 generalize A2.put (some d3) (.int .i64 m)=A3 at*
 have S4:=fK S3 hf hs2.hp (some d4) (.pointer (some ⟨g,m.toNat,none⟩))
 refine kK p4c p4b (v:=.pointer (some ⟨g,m.toNat,none⟩)) (by
  have e1:A3.eval (.global g)=.pointer (some ⟨g,0,none⟩):=rfl
  unfold execOp
  rw [p4a]
  simp [e3,e1,Instr.indexAt,Instr.sureAddr,asIntOf,run_underlying hT',h0,h1,dY w2 (jV hke),<-he1,Addr.add_lit]) ?_
 have e4:=lN (a:=A3) (d:=d4) (v:=.pointer (some ⟨g,m.toNat,none⟩)) zO
 have z4:=oQ A3 (some d4) (.pointer (some ⟨g,m.toNat,none⟩))
 generalize A3.put (some d4) (.pointer (some ⟨g,m.toNat,none⟩))=A4 at*
 have S5:=iw S4 hf hs2.hp (some d5) (av:=.sc (.st z)) (v:=.string ⟨z.toArray⟩) rfl
 refine kK p5c p5b (v:=.string ⟨z.toArray⟩) (by
  unfold execOp
  rw [p5a]
  simp [e4,Instr.loadAt,Instr.sureAddr,loadVar,gy w2 hdd,ht,hcell2]) ?_
 refine wpStill_nil ?_
 have hk2:=h.2
 rw [<-p6b] at hk2
 have hd:wJ P E [o0,o1,o2,o3,o4,o5,o6].toArray [o6] ((((((s.put (some d0) none s.hp).put (some d1) none s.hp).put (some d2) (some (.sc (.st l0))) s.hp).put (some d3) none s.hp).put (some d4) none s.hp).put (some d5) (some (.sc (.st z))) s.hp) (KK P E (DO F) k .normal):=by
  refine G0 (x:=⟨some (.sc (.bo (!(l0 == z)))),s.hp,True⟩) (by unfold fP;rw [p6c]) ?_ trivial (DL hk2)
  rw [p6a]
  have k2:(((((((s.put (some d0) none s.hp).put (some d1) none s.hp).put (some d2) (some (.sc (.st l0))) s.hp).put (some d3) none s.hp).put (some d4) none s.hp).put (some d5) (some (.sc (.st z))) s.hp)).sl.get d2=some (.sc (.st l0)):=by
   show (((((((s.sl.put d0 none).put d1 none).put d2 (some (.sc (.st l0)))).put d3 none).put d4 none).put d5 (some (.sc (.st z)))).get d2)=_
   have hh2:((s.sl.put d0 none).put d1 none).has d2:=by rw [Slots.put_has,Slots.put_has];exact hhas.2.2.1
   rw [Slots.get_put,if_neg n25,Slots.get_put,if_neg n24,Slots.get_put,if_neg n23,Slots.get_put,if_pos rfl]
   exact if_pos hh2
  have k5:(((((((s.put (some d0) none s.hp).put (some d1) none s.hp).put (some d2) (some (.sc (.st l0))) s.hp).put (some d3) none s.hp).put (some d4) none s.hp).put (some d5) (some (.sc (.st z))) s.hp)).sl.get d5=some (.sc (.st z)):=by
   show (((((((s.sl.put d0 none).put d1 none).put d2 (some (.sc (.st l0)))).put d3 none).put d4 none).put d5 (some (.sc (.st z)))).get d5)=_
   have hh5:(((((s.sl.put d0 none).put d1 none).put d2 (some (.sc (.st l0)))).put d3 none).put d4 none).has d5:=by simp only [Slots.put_has];exact hhas.2.2.2.2.2
   rw [Slots.get_put,if_pos rfl]
   exact if_pos hh5
  simp only [bX,S.ev,k2,k5,kM,S.valc]
  rfl
 exact hd β _ w2 S5 Q fun s' β' a' w' hK hS=>hQ .normal s' β' a' w' hK hS
end
end
end Go.Proofs.YtdiiopjaebnmfaaGreatDoor
