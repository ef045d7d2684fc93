/- Lemmas of this claim. -/
import Derived.Test.YteknmpdmhiomgaaGreatZFnCalmK
set_option maxHeartbeats 16000000
set_option maxRecDepth 100000
set_option linter.unusedVariables false
set_option linter.unusedSimpArgs false
namespace Go.Proofs.YteknmpdmhiomgaaGreat
open _root_.Go.Proofs.Tryz
open _root_.List renaming length_append->RP,mem_cons_of_mem->RQ,mem_append_left->RR,mem_cons_self->RS,length_cons->RT,getElem_mem->RV,mem_append->RW,append_nil->RY,any_eq_true->RZ,mem_append_right->R1,mem_singleton->R2,getElem?_eq_getElem->R3,mem_cons->R5,mem_map->R6,mem_filter->R7,getElem_of_mem->R9,length_map->R_,prefix_rfl->Sa,filter_eq_nil_iff->Sb,length_filter_le->Sd,filter_cons->Sf,length_nil->Sg,forall_mem_cons->Sh,eq_nil_of_length_eq_zero->Si,filter_append->Sj,append_assoc->Sk,cons_append->Sm,all_eq_true->Sn,getElem_append_left->So,length_drop->Sp,length_eq_zero_iff->Sq,pairwise_singleton->Sr,filter_cons_of_pos->Ss,filter_cons_of_neg->Su,nil_append->Sv,filterMap_append->Sx,take_succ_cons->Sy,drop_succ_cons->Sz,length_pos_iff->SC,pairwise_cons->SF,prefix_append->SG,flatMap_cons->SH,nodup_append->SI,mem_flatMap->SK,length_take->SL,take_zero->SN,drop_nil->SQ,any_cons->SR
open _root_.Bool renaming and_eq_true->RU,not_eq_true->R4,not_eq_true'->R8,eq_iff_iff->SM
open _root_.Nat renaming le_refl->RX,le_trans->R0,lt_of_le_of_lt->SD,zero_le->SJ,add_assoc->SP
open _root_.Int renaming tmod_eq_emod_of_nonneg->Se,toNat_natCast->Sl,le_refl->Sw
section
open Go.RowKit
theorem f_ (w:WorldD) (a:ActD) (hw:SmallD w) (hq:KI a):aP 35 [.ag a.cs,.sc (.pt 21 0 0)] (w.hp true++[some ⟨[WorldD.cs w 0],61,44,true,false⟩]) (.sc (.int .i64 (aJ w a).2)) ((nH 21++[some ⟨[WorldD.cs (aJ w a).1 22],61,44,true,false⟩])++(aJ w a).1.hp true):=by
 have hD:=Gi w a hw hq
 obtain⟨Q,hQ⟩:∃ Q,Q=aJ w a:=⟨_,rfl⟩
 rw [<-hQ] at hD⊢
 clear hQ
 obtain⟨W,C⟩:=Q
 dsimp only at hD⊢
 refine jG func35 ntmps35 results35 fun E hE=>?_
 refine qK (hD) (qI 0 21) ?_
 exact dH (qI 0 22++qI 23 21)
theorem vr (w:WorldD) (k0:Nat) (hg:GoodW w k0) (hk0:k0<=900):aP 18 [.ag (w.cs 0)] (w.hp false) (.ag ((calmRound w).cs 21)) (w.hp false++(calmRound w).hp true):=by
 obtain⟨R,hR⟩:∃ R,R=calmRound w:=⟨_,rfl⟩
 rw [<-hR]
 have g1:=eO (a:=ar 4 1 0) hg (by simp [ar]) (by simp [ar])
 have g2:=eO (a:=ar 3 1 0) g1 (by simp [ar]) (by simp [ar])
 have g3:=eO (a:=ar 3 2 0) g2 (by simp [ar]) (by simp [ar])
 have c1:=f_ w (ar 4 1 0) (hg.d zO) (by simp [KI,ar])
 have c2:=f_ _ (ar 3 1 0) (g1.d zO) (by simp [KI,ar])
 have c3:=f_ _ (ar 3 2 0) (g2.d zO) (by simp [KI,ar])
 rw [calmRound,calm3] at hR
 obtain⟨w1,h1⟩:∃ w1,w1=aJ w (ar 4 1 0):=⟨_,rfl⟩
 rw [<-h1] at hR g1 g2 g3 c1 c2 c3
 obtain⟨w2,h2⟩:∃ w2,w2=aJ w1.1 (ar 3 1 0):=⟨_,rfl⟩
 rw [<-h2] at hR g2 g3 c2 c3
 obtain⟨w3,h3⟩:∃ w3,w3=aJ w2.1 (ar 3 2 0):=⟨_,rfl⟩
 rw [<-h3] at hR g3 c3
 clear h1 h2 h3
 obtain⟨w1,n1⟩:=w1
 obtain⟨w2,n2⟩:=w2
 obtain⟨w3,n3⟩:=w3
 dsimp only at hR g1 g2 g3 c1 c2 c3
 refine jG func18 ntmps18 results18 fun E hE=>?_
 refine qK (iH w hg.s) (qI 0 21) ?_
 refine qK (c1) (qI 23 22) ?_
 refine qK (c2) (qI 45 21++qI 44 1) ?_
 refine qK (c3) (qI 66 21++qI 44 1) ?_
 refine tx 21 hE (fun s (y:Nat×WorldD)=>s.at (qU [0,2,6,25]) [(5,.sc (.int .i64 (y.1:Nat))),(3,.sc (.pt 23 0 0)),(4,.cl 35 [.pt 23 0 0])] ((s.hp.take 23)++([some ⟨[WorldD.cs y.2 24],61,44,true,false⟩]++y.2.hp true))) (fun (y:Nat×WorldD)=>y.1<=400/\GoodW y.2 k0/\cH (aY (400 - y.1) y.2)=R) (fun (y:Nat×WorldD)=>400 - y.1) (0,w3) (qI 0 23++qI 44 1++qI 87 21) (⟨SJ _,g3,hR.symm⟩) fun y hy N hN=>?_
 obtain⟨k,u⟩:=y
 obtain⟨f1,f2,f3⟩:=hy
 dsimp only at f1 f2 f3
 have hbl:=f2.r.bag
 by_cases hgo:k < 400/\¬ u.bag.length=0
 ·obtain⟨hk,hb⟩:=hgo
  rw [Et hk hb] at f3
  have c4:=f_ u (ar 8 1 0) (f2.d zO) (by simp [KI,ar])
  have g4:=eO (a:=ar 8 1 0) f2 (by simp [ar]) (by simp [ar])
  obtain⟨Q,hQ⟩:∃ Q,Q=aJ u (ar 8 1 0):=⟨_,rfl⟩
  rw [<-hQ] at c4 g4 f3
  clear hQ
  obtain⟨u2,n⟩:=Q
  dsimp only at c4 g4 f3
  refine qR ?_
  refine qK (c4) (qI 24 21++qI 23 1) ?_
  exact M7 hN (k+1,u2) (qI 0 24++qI 45 21) (by (try dsimp only);exact⟨zO,g4,f3⟩)
 rw [Gq zO] at f3
 have c4:=f_ u (ar 2 1 200) (f2.d zO) (by simp [KI,ar])
 have g4:=ku (a:=ar 2 1 200) f2 (by simp [ar])
 have c5:=f_ _ (ar 2 2 200) (g4.d zO) (by simp [KI,ar])
 rw [cH] at f3
 obtain⟨Q,hQ⟩:∃ Q,Q=aJ u (ar 2 1 200):=⟨_,rfl⟩
 rw [<-hQ] at c4 c5 g4 f3
 clear hQ
 obtain⟨u2,n⟩:=Q
 dsimp only at c4 c5 g4 f3
 obtain⟨Q,hQ⟩:∃ Q,Q=aJ u2 (ar 2 2 200):=⟨_,rfl⟩
 rw [<-hQ] at c5 f3
 clear hQ
 obtain⟨u3,m⟩:=Q
 dsimp only at c5 f3
 subst f3
 by_cases hk:k < 400
 ·have hb:u.bag.length=0:=zO
  refine qR ?_
  refine qK (c4) (qI 24 21++qI 23 1) ?_
  refine qK (c5) (qI 45 21++qI 23 1) ?_
  exact dH (qI 0 21++qI 66 21)
 refine qR ?_
 refine qK (c4) (qI 24 21++qI 23 1) ?_
 refine qK (c5) (qI 45 21++qI 23 1) ?_
 exact dH (qI 0 21++qI 66 21)
theorem tX (w:WorldD) (n:Int) (k0:Nat) (hg:GoodW w k0) (hk0:k0<=700):aP 7 [.ag (w.cs 0),.sc (.int .i64 n)] (w.hp false) (.ag ((eR w n).cs 21)) (w.hp false++(eR w n).hp true):=by
 obtain⟨R,hR⟩:∃ R,R=eR w n:=⟨_,rfl⟩
 rw [<-hR]
 rw [eR] at hR
 obtain⟨M,hM⟩:∃ M,M=(min n 60).toNat:=⟨_,rfl⟩
 rw [<-hM] at hR
 refine jG func7 ntmps7 results7 fun E hE=>?_
 refine qK (iH w hg.s) (qI 0 21) ?_
 refine tx 21 hE (fun s (y:Nat×WorldD)=>s.at (qU [0,1,2,1,7,10]) [(6,.sc (.int .i64 (y.1:Nat)))] ((s.hp.take 23)++(y.2.hp true++[some ⟨[WorldD.cs y.2 23],61,44,true,false⟩]))) (fun (y:Nat×WorldD)=>y.1<=M/\GoodW y.2 (k0+2*y.1)/\bI (M - y.1) y.2=R) (fun (y:Nat×WorldD)=>M - y.1) (0,w) (qI 0 45) (⟨SJ _,hg,hR.symm⟩) fun y hy N hN=>?_
 obtain⟨k,u⟩:=y
 obtain⟨f1,f2,f3⟩:=hy
 dsimp only at f1 f2 f3
 by_cases hk:k < M
 ·have hn:(k:Int) < n:=zO
  have h60:k < 60:=zO
  have hmn:(k:Int) < min n 60:=zO
  rw [show M - k=(M - (k+1))+1 by omega,bI] at f3
  have c:=vr u _ f2 zO
  have g:=n7 f2
  obtain⟨Q,hQ⟩:∃ Q,Q=calmRound u:=⟨_,rfl⟩
  rw [<-hQ] at c g f3
  clear hQ
  refine qR ?_
  refine qK (c) (qI 23 21) ?_
  exact M7 hN (k+1,Q) (qI 0 23++qI 45 21++qI 44 1) (by (try dsimp only);exact⟨zO,by rw [show k0+2*(k+1)=k0+2*k+2 by omega];exact g,f3⟩)
 have hmn:¬ (k:Int) < min n 60:=zO
 rw [show M - k=0 by omega,bI] at f3
 subst f3
 by_cases hn:(k:Int) < n
 ·have h60:¬ k < 60:=zO
  refine qR ?_
  exact dH (qI 0 21++qI 23 21)
 refine qR ?_
 exact dH (qI 0 21++qI 23 21)
def lk (k:Int):Nat:=if k=4 then 4 else if k=5 then 3 else if k=6\/k=8\/k=11 then 2 else 1
def lw (x:LetterD):Nat:=lk x.kind
theorem GT (x:LetterD):0 < lw x:=by unfold lw lk;(repeat' split)<;>omega
def wt:List LetterD->Nat
 |[]=>0
 |x::l=>lw x+wt l
theorem GU:∀ {l m:List LetterD},wt (l++m)=wt l+wt m
 |[],m=>by simp [wt]
 |x::l,m=>by rw [Sm,wt,wt,GU,SP]
theorem QT (x:LetterD):lw x<=4:=by unfold lw lk;(repeat' split)<;>omega
theorem ES:∀ {l:List LetterD},wt l<=4*l.length
 |[]=>RX _
 |x::l=>by have:=ES (l:=l);have:=QT x;rw [wt,RT];omega
theorem Iq {e:EndD} {x:LetterD} (K:4<=x.kind/\x.kind<=12/\¬ x.kind=10):wt (aG e x).2 < lw x:=by
 have F:=eD e x
 generalize aG e x=r at F
 have pos:=GT x
 have w1:∀ y,wt [y]=lw y:=fun y=>by simp [wt]
 cases F with
 |stay=>exact pos
 |other r k=>omega
 |join1 k=>rw [w1];show lk 5 < lk x.kind;rw [k];decide
 |join2 k=>rw [w1];show lk 5 < lk x.kind;rw [k];decide
 |back k=>rw [w1];show lk 6 < lk x.kind;rw [k];decide
 |done1 k=>rw [w1];show lk 7 < lk x.kind;rw [k];decide
 |done2 k=>rw [w1];show lk 7 < lk x.kind;rw [k];decide
 |ack k=>exact pos
 |addr k=>rw [w1];show lk 9 < lk x.kind;rw [k];decide
 |echo k=>exact pos
 |data k=>rw [w1];show lk 12 < lk x.kind;rw [k];decide
 |came k=>exact pos
structure DlvI (w:WorldD):Prop where
 wt:wt (dlv w).bag < wt w.bag
 len:(dlv w).bag.length<=w.bag.length
 lb:w.b.subs.length<=(dlv w).b.subs.length
theorem Md {p:PolicyD} {w:WorldD} {k:Nat} (hp:p∈pols) (L:LV p w k) (hl:w.bag.length<=40) (hne:¬ w.bag=[]):DlvI w:=by
 obtain⟨x,l,hb⟩:=ot hne
 have X:=L.cw.x hb
 have K:4<=x.kind/\x.kind<=12/\¬ x.kind=10:=X.kind
 rcases e6 x.to with h0|h0|h0
 ·exact absurd h0 X.to
 ·obtain⟨ea,eb,eg,_⟩:=EO hp L hb hl h0
  have h1:=Iq (e:=w.a) K
  have h2:=jz (e:=w.a) (x:=x)
  refine⟨?_,?_,by rw [eb];exact RX _⟩
  ·rw [eg,hb,GU,Go.Proofs.YteknmpdmhiomgaaGreat.wt];omega
  rw [eg,hb,RP,RT];omega
 obtain⟨eb,ea,eg,_⟩:=EP hp L hb hl h0
 have h1:=Iq (e:=w.b) K
 have h2:=jz (e:=w.b) (x:=x)
 refine⟨?_,?_,by rw [eb];exact (lY K).2.2.2.1⟩
 ·rw [eg,hb,GU,Go.Proofs.YteknmpdmhiomgaaGreat.wt];omega
 rw [eg,hb,RP,RT];omega
theorem LV.up {p:PolicyD} {w:WorldD} {k j:Nat} (h:LV p w k) (hj:k<=j):LV p w j:=
 ⟨h.life,h.cw,⟨by have:=h.cnt.na;omega,by have:=h.cnt.nb;omega,by have:=h.cnt.da;omega,by have:=h.cnt.db;omega,fun s hs=>by have:=h.cnt.tr s hs;omega,fun s hs=>by have:=h.cnt.trb s hs;omega⟩⟩
theorem rg {n:Nat} {w:WorldD} (h:w.bag=[]):aY n w=w:=by
 cases n with
 |zero=>rfl
 |succ n=>rw [aY,if_pos (by rw [h];rfl)]
theorem rh {n:Nat} {w:WorldD} (h:¬ w.bag=[]):aY (n+1) w=aY n (dlv w):=by
 rw [aY,if_neg (by rw [Sq];exact h)];rfl
theorem ri {p:PolicyD} (hp:p∈pols):∀ {n:Nat} {w:WorldD} {k:Nat},LV p w k->w.bag.length<=40->w.b.subs.length<=(aY n w).b.subs.length
 |0,w,k,L,hl=>RX _
 |n+1,w,k,L,hl=>by
  by_cases h:w.bag=[]
  ·rw [rg h];exact RX _
  have I:=Md hp L hl h
  rw [rh h]
  exact R0 I.lb (ri hp (L.dlv hp) (R0 I.len hl))
theorem jd {p:PolicyD} (hp:p∈pols) {Q:WorldD->Prop} {K:Nat} (step:∀ (w:WorldD) (k:Nat),LV p w k->k<=K->w.bag.length<=40->w.b.subs.length < 8->¬ w.bag=[]->Q w->Q (dlv w)):
  ∀ {n:Nat} {w:WorldD} {k:Nat},LV p w k->k+n<=K->w.bag.length<=40->wt w.bag<=n->(aY n w).b.subs.length < 8->Q w->Q (aY n w)/\LV p (aY n w) (k+n)/\(aY n w).bag=[]
 |0,w,k,L,hk,hl,hw,h8,h=>by
  have:w.bag=[]:=by
   cases e:w.bag with
   |nil=>rfl
   |cons x l=>rw [e,wt] at hw;have:=GT x;omega
  exact⟨h,L,this⟩
 |n+1,w,k,L,hk,hl,hw,h8,h=>by
  by_cases hb:w.bag=[]
  ·rw [rg hb] at h8⊢;exact⟨h,L.up zO,hb⟩
  have I:=Md hp L hl hb
  have hl':=R0 I.len hl
  have m:=ri hp (n:=n) (L.dlv hp) hl'
  rw [rh hb] at h8⊢
  have:=I.wt
  have r:=jd hp step (n:=n) (L.dlv hp) zO hl' zO h8 (step w k L zO hl (SD (R0 I.lb m) h8) hb h)
  rw [show k+(n+1)=k+1+n by omega]
  exact r
theorem QU {w:WorldD} {a:ActD} (ok:cN a=true) (k:a.kind=3\/a.kind=4) (hs:a.side=1):(aJ w a).1=al 1 (ic w (dl w.a a).1) (dl w.a a).2:=by
 unfold aJ
 rw [if_pos ok,if_pos zO]
 unfold dR
 have nb:cx w a=false:=by
  have:¬ a.kind=5:=zO
  simp [cx,this]
 rw [nb]
 have e:bS w a.side=w.a:=by rw [hs];rfl
 have f:dE w a=w:=by unfold dE;rw [if_neg zO,if_neg zO]
 rw [e,f,hs]
 rfl
theorem RG {w:WorldD} {a:ActD} (ok:cN a=true) (k:a.kind=3\/a.kind=4) (hs:a.side=2):(aJ w a).1=al 2 (inB w (dl w.b a).1) (dl w.b a).2:=by
 unfold aJ
 rw [if_pos ok,if_pos zO]
 unfold dR
 have nb:cx w a=false:=by
  have:¬ a.kind=5:=zO
  simp [cx,this]
 rw [nb]
 have e:bS w a.side=w.b:=by rw [hs];rfl
 have f:dE w a=w:=by unfold dE;rw [if_neg zO,if_neg zO]
 rw [e,f,hs]
 rfl
theorem QV (e:EndD) (s:Int):dl e (ar 4 s 0)=manage e:=by simp [dl,ar]
theorem QW (e:EndD) (s:Int):dl e (ar 3 s 0)=tick e:=by simp [dl,ar]
theorem OF:CalmA (ar 4 1 0):=⟨by decide,by decide⟩
theorem Me:CalmA (ar 3 1 0):=⟨by decide,by decide⟩
theorem Mf:CalmA (ar 3 2 0):=⟨by decide,by decide⟩
theorem Pe:CalmA (ar 2 1 200):=⟨by decide,by decide⟩
theorem Pf:CalmA (ar 2 2 200):=⟨by decide,by decide⟩
theorem ET {far:List AddrD}:∀ {l:List RoadD} {e:EndD},(cF far e l).2.length<=l.length
 |[],e=>RX _
 |r::l,e=>by
  have:=ET (far:=far) (l:=l) (e:=(join e r (aC far r.far)).1)
  have j:(join e r (aC far r.far)).2.length<=1:=by unfold join;split<;>simp
  rw [cF,RP,RT];omega
theorem yA:∀ {k:Nat} {e:EndD},(pushN k e).2.length<=k
 |0,e=>RX _
 |k+1,e=>by
  have:=yA (k:=k) (e:=(cB e).1)
  have j:(cB e).2.length<=1:=by unfold cB;split<;>simp
  rw [pushN,RP];omega
theorem EU {e:EndD}:(tellAddrs e).length<=e.own.length:=by
 unfold tellAddrs;split
 ·rw [R_];exact Sd _ _
 exact SJ _
theorem Bc {e:EndD}:∀ {l:List SubD},(l.flatMap (tickL e)).length<=l.length
 |[]=>RX _
 |s::l=>by
  have:=Bc (e:=e) (l:=l)
  have j:(tickL e s).length<=1:=by unfold tickL;(repeat' split)<;>simp
  rw [SH,RP,RT];omega
structure Begun (p:PolicyD) (w v:WorldD) (k:Nat) (news:List SubD) (la lb:List LetterD):Prop where
 lv:LV p v (k+3)
 ask:∀ s∈news,s.state=1/\s.tries=0
 frm:(manage w.a).1.subs=w.a.subs++news/\(manage w.a).2=news.map askL
 man:(manage w.a).1={ w.a with subs:=w.a.subs++news,draw:=(manage w.a).1.draw }
 subs:v.a.subs=(w.a.subs++news).map tickS
 bag:v.bag=news.map askL++(w.a.subs++news).flatMap (tickL w.a)++la++lb
 oth:∀ y∈la++lb,y.kind=8\/y.kind=11
 fewer:v.bag.length<=40
 ok:SuOk (w.a.subs++news)
 cur:1<=v.b.bucket.cur
 ta:SameE { tick0 (manage w.a).1 with subs:=(w.a.subs++news).map tickS } v.a
 la_:la=tellAddrs { tick0 (manage w.a).1 with subs:=(w.a.subs++news).map tickS }++(pushN 3 { tick0 (manage w.a).1 with subs:=(w.a.subs++news).map tickS }).2
 ea:v.a=(pushN 3 { tick0 (manage w.a).1 with subs:=(w.a.subs++news).map tickS }).1
 lb_:lb=tellAddrs { tick0 w.b with subs:=w.b.subs }++(pushN 3 { tick0 w.b with subs:=w.b.subs }).2
 eb:v.b=(pushN 3 { tick0 w.b with subs:=w.b.subs }).1
 oka:OkE { tick0 (manage w.a).1 with subs:=(w.a.subs++news).map tickS }
 okb:OkE { tick0 w.b with subs:=w.b.subs }
 wr:v.wroteA=w.wroteA/\v.wroteB=w.wroteB/\v.readA=w.readA/\v.readB=w.readB
theorem uf {e:EndD} (h:e.side=1) (s:SubD):dB e s=askL s:=by unfold dB askL;rw [h];rfl
theorem ug {e:EndD}:∀ y∈tellAddrs e,y.kind=8:=by
 unfold tellAddrs;split
 ·intro y hy
  obtain⟨q,_,rfl⟩:=R6.1 hy
  rfl
 intro y hy;simp at hy
theorem GV {e e':EndD} (h1:e'.side=e.side) (h2:e'.key=e.key) (h3:e'.peer=e.peer) (s:SubD):tickL e' s=tickL e s:=by
 unfold tickL dB bq;rw [h1,h2,h3]
theorem OG {p:PolicyD} {w:WorldD} {k:Nat} (hp:p∈pols) (L:LV p w k) (hk:k<=900000) (hb:w.bag=[]):∃ news la lb,Begun p w (calm3 w) k news la lb:=by
 have C:=L.c
 have E:=L.cw.e
 have g1:=L.done hp OF (by simp [ar])
 have g2:=g1.done hp Me (by simp [ar])
 have g3:=g2.done hp Mf (by simp [ar])
 have x1:=QU (w:=w) (a:=ar 4 1 0) zD (.inr rfl) rfl
 rw [QV] at x1
 have F:∃ news:List SubD,(manage w.a).1={ w.a with subs:=w.a.subs++news,draw:=(manage w.a).1.draw }/\(manage w.a).2=news.map (dB w.a)/\(∀ s∈news,s.state=1/\s.tries=0)/\(manage w.a).2.length<=4:=by
  unfold manage;split
  ·obtain⟨news,h1,h2,h3,_⟩:=kB (far:=w.a.far) (l:=cQ (wanted w.a.policy w.a.own w.a.far) (cE w.a.subs)) (e:=w.a)
   exact⟨news,h1,h2,h3,R0 ET (vj hp C E _)⟩
  exact⟨[],zP,rfl,fun s hs=>by simp at hs,zP⟩
 obtain⟨news,f1,f2,f3,f4⟩:=F
 have f2':(manage w.a).2=news.map askL:=by rw [f2];exact List.map_congr_left fun s _=>uf C.sia s
 have nl:news.length<=4:=by rw [f2,R_] at f4;exact f4
 have ends1:=dm (side:=1) (l:=(manage w.a).2) (w:=ic w (manage w.a).1)
 rw [<-x1] at ends1
 obtain⟨ea1,eb1,ew1,ew2,er1,er2⟩:=ends1
 have bag1:(aJ w (ar 4 1 0)).1.bag=news.map askL:=by
  have to1:∀ y∈(manage w.a).2,¬ sideAt y.to=0:=by
   have:=(Pc (a:=ar 4 1 0) C L.ga rfl (by simp [cx,ar])).s
   rw [QV] at this
   exact fun y hy=>(this y hy).1
  rw [x1,j7 to1 (by show w.bag.length+_<=40;rw [hb];simp;omega),f2']
  show w.bag++_=_
  rw [hb];rfl
 obtain⟨w1,hw1⟩:∃ w1,w1=(aJ w (ar 4 1 0)).1:=⟨_,rfl⟩
 rw [<-hw1] at g1 g2 g3 ea1 eb1 ew1 ew2 er1 er2 bag1
 have ea1:w1.a=(manage w.a).1:=ea1
 have eb1:w1.b=w.b:=eb1
 have C1:=g1.c
 have x2:=QU (w:=w1) (a:=ar 3 1 0) zD (.inl rfl) rfl
 rw [QW] at x2
 have tk:yQ w1.a=true:=by
  have q:=g1.cnt
  simp only [yQ,RU,decide_eq_true_eq,Sn]
  exact⟨⟨bg.2 C1.oka,by have:=q.na;omega⟩,fun s hs=>by have:=q.tr s hs;omega⟩
 have e2:tick w1.a=bu { tick0 w1.a with subs:=w1.a.subs.map tickS } (w1.a.subs.flatMap (tickL w1.a)):=by
  unfold tick;rw [if_pos tk,if_pos C1.sta]
 have to2:∀ y∈(tick w1.a).2,¬ sideAt y.to=0:=fun y hy=>((LU C1).s y hy).1
 have len2:(tick w1.a).2.length<=17:=by
  have e:(tick w1.a).2=w1.a.subs.flatMap (tickL w1.a)++tellAddrs { tick0 w1.a with subs:=w1.a.subs.map tickS }++(pushN 3 { tick0 w1.a with subs:=w1.a.subs.map tickS }).2:=by rw [e2];rfl
  rw [e,RP,RP]
  have h1:=Bc (e:=w1.a) (l:=w1.a.subs)
  have h2:=EU (e:={ tick0 w1.a with subs:=w1.a.subs.map tickS })
  have h3:=yA (k:=3) (e:={ tick0 w1.a with subs:=w1.a.subs.map tickS })
  have h4:=C1.oka.subs8
  have h5:=C1.oka.own.len
  have h2:(tellAddrs { tick0 w1.a with subs:=w1.a.subs.map tickS }).length<=w1.a.own.length:=h2
  omega
 have bag2:=j7 (side:=1) (w:=ic w1 (tick w1.a).1) to2 (by show w1.bag.length+_<=40;rw [bag1,R_];omega)
 have ends2:=dm (side:=1) (l:=(tick w1.a).2) (w:=ic w1 (tick w1.a).1)
 rw [<-x2] at bag2 ends2
 obtain⟨ea2,eb2,ev1,ev2,es1,es2⟩:=ends2
 obtain⟨w2,hw2⟩:∃ w2,w2=(aJ w1 (ar 3 1 0)).1:=⟨_,rfl⟩
 rw [<-hw2] at g2 g3 ea2 eb2 ev1 ev2 es1 es2 bag2
 have ea2:w2.a=(tick w1.a).1:=ea2
 have eb2:w2.b=w.b:=(show w2.b=w1.b from eb2).trans eb1
 have bag2:w2.bag=w1.bag++(tick w1.a).2:=bag2
 have C2:=g2.c
 have x3:=RG (w:=w2) (a:=ar 3 2 0) zD (.inl rfl) rfl
 rw [QW] at x3
 have stb:∀ t∈w2.b.subs,t.state=3\/t.state=4:=fun t ht=>(C2.sb t ht).st
 have tkb:yQ w2.b=true:=by
  have q:=g2.cnt
  simp only [yQ,RU,decide_eq_true_eq,Sn]
  exact⟨⟨bg.2 C2.okb,by have:=q.nb;omega⟩,fun s hs=>by have:=q.trb s hs;omega⟩
 have e3:tick w2.b=bu { tick0 w2.b with subs:=w2.b.subs } []:=by
  unfold tick;rw [if_pos tkb,if_pos C2.stb,yu stb,CF stb]
 have to3:∀ y∈(tick w2.b).2,¬ sideAt y.to=0:=fun y hy=>((OB C2).s y hy).1
 have len3:(tick w2.b).2.length<=9:=by
  have e:(tick w2.b).2=[]++tellAddrs { tick0 w2.b with subs:=w2.b.subs }++(pushN 3 { tick0 w2.b with subs:=w2.b.subs }).2:=by rw [e3];rfl
  rw [e,RP,RP]
  have h2:=EU (e:={ tick0 w2.b with subs:=w2.b.subs })
  have h3:=yA (k:=3) (e:={ tick0 w2.b with subs:=w2.b.subs })
  have h5:=C2.okb.own.len
  have h2:(tellAddrs { tick0 w2.b with subs:=w2.b.subs }).length<=w2.b.own.length:=h2
  rw [Sg];omega
 have lb2:w2.bag.length<=21:=by rw [bag2,bag1,RP,R_];omega
 have bag3:=j7 (side:=2) (w:=inB w2 (tick w2.b).1) to3 (by show w2.bag.length+_<=40;omega)
 have ends3:=dm (side:=2) (l:=(tick w2.b).2) (w:=inB w2 (tick w2.b).1)
 rw [<-x3] at bag3 ends3
 obtain⟨ea3,eb3,eu1,eu2,et1,et2⟩:=ends3
 have hc:calm3 w=(aJ w2 (ar 3 2 0)).1:=by rw [hw2,hw1];rfl
 rw [<-hc] at g3 ea3 eb3 eu1 eu2 et1 et2 bag3
 generalize calm3 w=v at*
 have ea3:v.a=w2.a:=ea3
 have eb3:v.b=(tick w2.b).1:=eb3
 have bag3:v.bag=w2.bag++(tick w2.b).2:=bag3
 have s1:(manage w.a).1.subs=w.a.subs++news:=by rw [f1]
 have T:tick w1.a=bu { tick0 (manage w.a).1 with subs:=(w.a.subs++news).map tickS } ((w.a.subs++news).flatMap (tickL w.a)):=by
  rw [e2,ea1,s1]
  have:tickL (manage w.a).1=tickL w.a:=funext fun s=>GV (by rw [f1]) (by rw [f1]) (by rw [f1]) s
  rw [this]
 have eA:v.a=(pushN 3 { tick0 (manage w.a).1 with subs:=(w.a.subs++news).map tickS }).1:=by rw [ea3,ea2,T];rfl
 have eB:v.b=(pushN 3 { tick0 w.b with subs:=w.b.subs }).1:=by rw [eb3,e3,eb2];rfl
 refine⟨news,_,_,g3,f3,⟨s1,f2'⟩,f1,?_,?_,?_,?_,?_,?_,?_,rfl,eA,rfl,eB,?_,?_,⟨?_,?_,?_,?_⟩⟩
 ·rw [eA,fS]
 ·rw [bag3,bag2,bag1,T,e3,eb2]
  unfold bu
  dsimp only
  simp only [Sk,Sv]
 ·intro y hy
  rcases RW.1 hy with hy|hy
  ·rcases RW.1 hy with hy|hy
   ·exact .inl (ug y hy)
   exact .inr (sS y hy).1
  rcases RW.1 hy with hy|hy
  ·exact .inl (ug y hy)
  exact .inr (sS y hy).1
 ·rw [bag3,RP];omega
 ·rw [<-s1,<-ea1];exact C1.oka.subs
 ·rw [eB,(mL (k:=3)).bucket]
  have Y:=L.y.2
  show 1<=(cW w.b.bucket).cur
  rw [cW,if_pos (kw Y)]
  have:=Y.cur;have:=Y.rate;have:=Y.burst
  dsimp only
  omega
 ·rw [eA];exact ff
 ·have:=oh C1.oka tk
  rw [ea1,s1] at this
  exact this
 ·have:=oh C2.okb tkb
  rw [yu stb,eb2] at this
  exact this
 ·rw [eu1];show w2.wroteA=_;rw [ev1];show w1.wroteA=_;rw [ew1];rfl
 ·rw [eu2];show w2.wroteB=_;rw [ev2];show w1.wroteB=_;rw [ew2];rfl
 ·rw [et1];show w2.readA=_;rw [es1];show w1.readA=_;rw [er1];rfl
 rw [et2];show w2.readB=_;rw [es2];show w1.readB=_;rw [er2];rfl
theorem Ir:∀ {l:List SubD},(l.map askL).filterMap jr=l.map SubD.road
 |[]=>rfl
 |s::l=>by rw [List.map_cons,List.filterMap_cons_some (CG s),Ir];rfl
theorem yB {e:EndD} (he:e.side=1) {s:SubD}:∀ y∈tickL e s,(y.kind=4/\s.state=1/\(s.tries+1).tmod 3=0/\y=askL s)\/(y.kind=6/\s.state=2/\jr y=some s.road):=by
 intro y hy
 rw [tickL] at hy
 split at hy
 ·rename_i h12
  split at hy
  ·simp at hy
  split at hy
  ·simp at hy
  rename_i hm
  have hm:(s.tries+1).tmod 3=0:=zO
  split at hy
  ·rename_i h1
   rw [R2.1 hy]
   exact .inl ⟨rfl,h1,hm,uf he s⟩
  rename_i h1
  rw [R2.1 hy]
  exact .inr ⟨rfl,zO,CH _ _ s⟩
 simp at hy
theorem GW {e:EndD} (he:e.side=1) {s:SubD} (h1:s.state=1) (hm:(s.tries+1).tmod 3=0):askL s∈tickL e s:=by
 rw [tickL,if_pos (.inl h1),if_neg zO,if_neg zO,if_pos h1,uf he]
 exact R2.2 rfl
theorem EV {e:EndD} (he:e.side=1):∀ {l:List SubD},(l.Pairwise fun a b=>a.state=4\/b.state=4\/¬ a.road=b.road)->((l.flatMap (tickL e)).filterMap jr).Nodup/\∀ r∈(l.flatMap (tickL e)).filterMap jr,∃ s∈l,s.road=r/\¬ s.state=4
 |[],_=>⟨List.Pairwise.nil,fun r hr=>by simp at hr⟩
 |s::l,h=>by
  rw [SF] at h
  obtain⟨h1,h2⟩:=EV he h.2
  have k:=yB he (s:=s)
  have one:(tickL e s).length<=1:=by unfold tickL;(repeat' split)<;>simp
  rw [SH,Sx]
  have mem:∀ r∈(tickL e s).filterMap jr,r=s.road/\¬ s.state=4:=fun r hr=>by
   obtain⟨y,y1,y2⟩:=List.mem_filterMap.1 hr
   rcases k y y1 with⟨_,g1,_,g2⟩|⟨_,g1,g2⟩
   ·rw [g2,CG] at y2
    exact⟨(Option.some.inj y2).symm,zO⟩
   rw [g2] at y2
   exact⟨(Option.some.inj y2).symm,zO⟩
  constructor
  ·rw [SI]
   refine⟨?_,h1,fun a ha b hb e=>?_⟩
   ·have:((tickL e s).filterMap jr).length<=1:=R0 (List.length_filterMap_le _ _) one
    cases hq:(tickL e s).filterMap jr with
    |nil=>exact List.Pairwise.nil
    |cons a r=>
     rw [hq,RT] at this
     cases r with
     |nil=>exact Sr ..
     |cons b r=>rw [RT] at this;omega
   obtain⟨q1,q2⟩:=mem a ha
   obtain⟨t,t1,t2,t3⟩:=h2 b hb
   rcases h.1 t t1 with g|g|g
   ·exact q2 g
   ·exact t3 g
   exact g (by rw [<-q1,t2];exact e)
  intro r hr
  rcases RW.1 hr with hr|hr
  ·obtain⟨q1,q2⟩:=mem r hr
   exact⟨s,RS ..,q1.symm,q2⟩
  obtain⟨t,t1,t2⟩:=h2 r hr
  exact⟨t,RQ _ t1,t2⟩
theorem JX {e:EndD} {l:List SubD} (h:∀ s∈l,s.state=1/\s.tries=0):l.flatMap (tickL e)=[]:=by
 rw [List.flatMap_eq_nil_iff]
 intro s hs
 obtain⟨h1,h2⟩:=h s hs
 rw [tickL,if_pos (.inl h1),if_neg zO,if_pos (by rw [h2];decide)]
theorem Bd {s:SubD} (h:s.state=1):askL (tickS s)=askL s:=by
 rw [tickS,if_pos (.inl h),if_neg zO];rfl
theorem Begun.drw {p:PolicyD} {w v:WorldD} {k:Nat} {news:List SubD} {la lb:List LetterD} (C:Core w) (B:Begun p w v k news la lb):MG v.a.subs v:=by
 have no:∀ y∈la++lb,jr y=none:=fun y hy=>Il (by have:=B.oth y hy;omega)
 have e0:(w.a.subs++news).flatMap (tickL w.a)=w.a.subs.flatMap (tickL w.a):=by
  rw [List.flatMap_append,JX B.ask,RY]
 have bag:v.bag=news.map askL++w.a.subs.flatMap (tickL w.a)++(la++lb):=by rw [B.bag,e0,Sk _ la lb]
 have pw:=B.ok.pw
 rw [List.pairwise_append] at pw
 obtain⟨p1,p2,p3⟩:=pw
 obtain⟨t1,t2⟩:=EV C.sia p1
 have mem:∀ y∈v.bag,y.kind=4\/y.kind=5->(∃ s∈news,y=askL s)\/∃ s∈w.a.subs,s.state=1/\y=askL s:=fun y hy k=>by
  rw [bag] at hy
  rcases RW.1 hy with hy|hy
  ·rcases RW.1 hy with hy|hy
   ·obtain⟨s,s1,s2⟩:=R6.1 hy
    exact .inl ⟨s,s1,s2.symm⟩
   obtain⟨s,s1,s2⟩:=SK.1 hy
   rcases yB C.sia y s2 with⟨_,g1,_,g2⟩|⟨g,_⟩
   ·exact .inr ⟨s,s1,g1,g2⟩
   omega
  have:=B.oth y hy;omega
 refine⟨rfl,?_,fun y hy k=>?_,fun y hy k=>?_,fun n hn hs=>.inl rfl⟩
 ·rw [bag]
  refine Im ?_ no
  rw [Sx,Ir,SI]
  refine⟨?_,t1,fun a ha b hb e=>?_⟩
  ·rw [List.nodup_iff_pairwise_ne,List.pairwise_map]
   refine (List.Pairwise.and_mem.1 p2).imp fun {s t} h e=>?_
   obtain⟨h1,h2,h3⟩:=h
   have:=(B.ask s h1).1
   have:=(B.ask t h2).1
   rcases h3 with g|g|g
   ·omega
   ·omega
   exact g e
  obtain⟨s,s1,s2⟩:=R6.1 ha
  obtain⟨t,g1,g2,g3⟩:=t2 b hb
  have:=(B.ask s s1).1
  rcases p3 t g1 s s1 with g|g|g
  ·exact g3 g
  ·omega
  exact g (by rw [g2,s2];exact e.symm)
 ·rcases mem y hy (.inl k) with⟨s,s1,s2⟩|⟨s,s1,h1,s2⟩
  ·have h1:=(B.ask s s1).1
   exact⟨tickS s,by rw [B.subs];exact R6.2 ⟨s,R1 _ s1,rfl⟩,sQ h1,by rw [s2,Bd h1]⟩
  exact⟨tickS s,by rw [B.subs];exact R6.2 ⟨s,RR _ s1,rfl⟩,sQ h1,by rw [s2,Bd h1]⟩
 rcases mem y hy (.inr k) with⟨s,s1,s2⟩|⟨s,s1,h1,s2⟩
 ·rw [s2] at k;cases k
 rw [s2] at k;cases k
theorem Begun.pr {p:PolicyD} {w v:WorldD} {k:Nat} {news:List SubD} {la lb:List LetterD} (C:Core w) (B:Begun p w v k news la lb) (h:∃ s∈w.a.subs++news,s∈news\/s.state=1/\(s.tries+1).tmod 3=0):Pz v.a.subs v:=by
 obtain⟨s,s1,s2⟩:=h
 refine .inr ⟨⟨askL s,?_,rfl⟩,B.cur⟩
 rw [B.bag]
 rcases s2 with s2|⟨s2,s3⟩
 ·exact RR _ (RR _ (RR _ (R6.2 ⟨s,s2,rfl⟩)))
 exact RR _ (RR _ (R1 _ (SK.2 ⟨s,s1,GW C.sia s2 s3⟩)))
theorem Pg (v:WorldD):(aJ v (ar 2 1 200)).1={ v with a:=(az v.a 200).1,readA:=v.readA++(az v.a 200).2 }:=by
 unfold aJ
 rw [if_pos zD,if_pos zD]
 unfold dR
 have nb:cx v (ar 2 1 200)=false:=by simp [cx,ar]
 rw [nb]
 simp [dl,dE,ar,bS,aL,cj,al]
theorem Ph (v:WorldD):(aJ v (ar 2 2 200)).1={ v with b:=(az v.b 200).1,readB:=v.readB++(az v.b 200).2 }:=by
 unfold aJ
 rw [if_pos zD,if_pos zD]
 unfold dR
 have nb:cx v (ar 2 2 200)=false:=by simp [cx,ar]
 rw [nb]
 simp [dl,dE,ar,bS,aL,cj,al]
theorem gP {e:EndD} {m:Int}:(az e m).1={ e with inp:=(az e m).1.inp }:=by unfold az;split<;>rfl
theorem mS (v:WorldD):cH v={ v with a:=(az v.a 200).1,b:=(az v.b 200).1,readA:=v.readA++(az v.a 200).2,readB:=v.readB++(az v.b 200).2 }:=by
 unfold cH;rw [Pg,Ph]
structure Rnd (p:PolicyD) (w w':WorldD) (k:Nat) (news:List SubD):Prop where
 lv:LV p w' (k+405)
 bag:w'.bag=[]
 ask:∀ s∈news,s.state=1/\s.tries=0
 frm:(manage w.a).1.subs=w.a.subs++news
 ok:SuOk (w.a.subs++news)
 len:w'.a.subs.length=(w.a.subs++news).length
 st:∀ (n:Nat) (hn:n < w'.a.subs.length) (hs:n < (w.a.subs++news).length),w'.a.subs[n]=tickS (w.a.subs++news)[n]\/(((w.a.subs++news)[n].state=1\/(w.a.subs++news)[n].state=2)/\w'.a.subs[n].road=(w.a.subs++news)[n].road/\w'.a.subs[n].state=3)
 pr:(∃ s∈w.a.subs++news,s∈news\/s.state=1/\(s.tries+1).tmod 3=0)->∃ (n:Nat) (hn:n < w'.a.subs.length) (hs:n < (w.a.subs++news).length),(w.a.subs++news)[n].state=1/\w'.a.subs[n].road=(w.a.subs++news)[n].road/\w'.a.subs[n].state=3
theorem yC {s:SubD} (h:(tickS s).state=1\/(tickS s).state=2):s.state=(tickS s).state:=by
 unfold tickS at h⊢
 split
 ·rename_i hc
  rw [if_pos hc] at h
  split
  ·rename_i h9
   rw [if_pos h9] at h
   rcases h with h|h<;>cases h
  rfl
 rfl
theorem fv (v:WorldD):(cH v).a.subs=v.a.subs/\(cH v).b.subs=v.b.subs/\(cH v).bag=v.bag:=by
 rw [mS]
 exact⟨by show (az v.a 200).1.subs=_;rw [gP],by show (az v.b 200).1.subs=_;rw [gP],rfl⟩
theorem LV.end_ {p:PolicyD} {v:WorldD} {k:Nat} (hp:p∈pols) (L:LV p v k):LV p (cH v) (k+2):=
 (L.done hp Pe (by simp [ar])).done hp Pf (by simp [ar])
theorem rnd {p:PolicyD} {w:WorldD} {k:Nat} (hp:p∈pols) (L:LV p w k) (hk:k<=900000) (hb:w.bag=[]) (h8:(calmRound w).b.subs.length < 8):∃ news la lb,Begun p w (calm3 w) k news la lb/\Rnd p w (calmRound w) k news:=by
 obtain⟨news,la,lb,B⟩:=OG hp L hk hb
 refine⟨news,la,lb,B,?_⟩
 have C:=L.c
 obtain⟨S,hS⟩:∃ S,S=(calm3 w).a.subs:=⟨_,rfl⟩
 have D:=B.drw C
 have h8':(aY 400 (calm3 w)).b.subs.length < 8:=by rw [<-(fv _).2.1];exact h8
 have hw:wt (calm3 w).bag<=400:=by have:=ES (l:=(calm3 w).bag);have:=B.fewer;omega
 have st:=fun (w:WorldD) (k:Nat) (L:LV p w k) (hk:k<=1000000) (hl:w.bag.length<=40) (h8:w.b.subs.length < 8) (hne:¬ w.bag=[]) (Q:MG S w)=>(MG.step hp L hk hl h8 hne Q).1
 have st2:=fun (w:WorldD) (k:Nat) (L:LV p w k) (hk:k<=1000000) (hl:w.bag.length<=40) (h8:w.b.subs.length < 8) (hne:¬ w.bag=[]) (Q:MG S w/\Pz S w)=>And.intro (MG.step hp L hk hl h8 hne Q.1).1 ((MG.step hp L hk hl h8 hne Q.1).2 Q.2)
 rw [<-hS] at D
 obtain⟨q1,q2,q3⟩:=jd hp (K:=1000000) st (n:=400) B.lv zO B.fewer hw h8' D
 have hS2:S=(w.a.subs++news).map tickS:=by rw [hS,B.subs]
 have roads:=fv (aY 400 (calm3 w))
 have len:(aY 400 (calm3 w)).a.subs.length=S.length:=q1.len
 have fin:∀ (n:Nat) (hn:n < (aY 400 (calm3 w)).a.subs.length) (hs:n < S.length),(aY 400 (calm3 w)).a.subs[n]=S[n]\/((S[n].state=1\/S[n].state=2)/\(aY 400 (calm3 w)).a.subs[n].road=S[n].road/\(aY 400 (calm3 w)).a.subs[n].state=3):=fun n hn hs=>by
  rcases q1.st n hn hs with h|⟨h1,h2,h3⟩
  ·exact .inl h
  refine .inr ⟨h1,h2,?_⟩
  rcases h3 with h|⟨_,⟨h,_⟩|h⟩
  ·exact h
  ·rw [q3] at h;simp at h
  unfold T3 at h;rw [q3] at h;simp at h
 have pr:Pz S (calm3 w)->∃ (n:Nat) (hn:n < (aY 400 (calm3 w)).a.subs.length) (hs:n < S.length),S[n].state=1/\(aY 400 (calm3 w)).a.subs[n].road=S[n].road/\(aY 400 (calm3 w)).a.subs[n].state=3:=fun P=>by
  obtain⟨⟨_,r1⟩,_,_⟩:=jd hp (K:=1000000) st2 (n:=400) B.lv zO B.fewer hw h8' ⟨D,P⟩
  rcases r1 with⟨n,hn,hs,g1,g2⟩|⟨⟨y,y1,_⟩,_⟩
  ·refine⟨n,hn,hs,g1,?_⟩
   rcases fin n hn hs with h|h
   ·rcases g2 with g2|⟨y,y1,_⟩
    ·rw [h] at g2;exact absurd g1 g2
    rw [q3] at y1;simp at y1
   exact h.2
  rw [q3] at y1;simp at y1
 have e:calmRound w=cH (aY 400 (calm3 w)):=rfl
 rw [e]
 have lv:=q2.end_ hp
 generalize cH (aY 400 (calm3 w))=u at*
 generalize aY 400 (calm3 w)=v at*
 obtain⟨r1,r2,r3⟩:=roads
 have lm:S.length=(w.a.subs++news).length:=by rw [hS2,R_]
 have at_:∀ (n:Nat) (h1:n < S.length) (h2:n < (w.a.subs++news).length),S[n]=tickS (w.a.subs++news)[n]:=fun n h1 h2=>by
  have:S[n]? =some (tickS (w.a.subs++news)[n]):=by rw [hS2,List.getElem?_map,R3 h2];rfl
  rw [R3 h1] at this
  exact Option.some.inj this
 refine⟨lv.up zO,r3.trans q3,B.ask,B.frm.1,B.ok,by rw [r1,len,lm],fun n hn hs=>?_,fun h=>?_⟩
 ·have hv:n < v.a.subs.length:=by rw [r1] at hn;exact hn
  have hS':n < S.length:=by rw [lm];exact hs
  have eu:u.a.subs[n]=v.a.subs[n]:=by
   have:u.a.subs[n]? =v.a.subs[n]? :=by rw [r1]
   rw [R3 hn,R3 hv] at this
   exact Option.some.inj this
  have a1:=at_ n hS' hs
  rw [eu]
  rcases fin n hv hS' with h|⟨h1,h2,h3⟩
  ·exact .inl (h.trans a1)
  rw [a1] at h1 h2
  have:=yC h1
  exact .inr ⟨zO,h2.trans (dx _).road,h3⟩
 have P:=B.pr C h
 rw [<-hS] at P
 obtain⟨n,hn,hs,g1,g2,g3⟩:=pr P
 have hs':n < (w.a.subs++news).length:=by rw [<-lm];exact hs
 have hu:n < u.a.subs.length:=by rw [r1];exact hn
 have eu:u.a.subs[n]=v.a.subs[n]:=by
  have:u.a.subs[n]? =v.a.subs[n]? :=by rw [r1]
  rw [R3 hu,R3 hn] at this
  exact Option.some.inj this
 rw [at_ n hs hs'] at g1 g2
 refine⟨n,hu,hs',?_,by rw [eu,g2,(dx _).road],by rw [eu];exact g3⟩
 have:=yC (.inl g1)
 omega
theorem JY {e:EndD} {r:RoadD} {b:Bool}:e.subs.length<=(join e r b).1.subs.length:=by
  unfold join;split
  · dsimp only;rw [RP];omega
  · exact RX _
theorem yD {far:List AddrD}:∀ {l:List RoadD} {e:EndD},e.subs.length<=(cF far e l).1.subs.length
  |[],e=>RX _
  |r::l,e=>R0 (JY (b:=aC far r.far)) (yD (l:=l))
theorem Bf {far:List AddrD}:∀ {l:List RoadD} {e:EndD},OkE e->e.state=2->l.Nodup->(∀ r∈l,RN r/\ownsAddr e.own r.own=true/\fR e.far r.far=true/\bF e.subs r < 0)->1<=e.draw->e.draw+4*(l.length:Int)<=999999990->(cF far e l).1.subs.length < 8->∀ r∈l,∃ s∈(cF far e l).1.subs,s.road=r/\s.state=1
  |[],e,_,_,_,_,_,_,_,r,hr=>by simp at hr
  |q::l,e,ok,st,nd,h,d1,d2,h8,r,hr=>by
    rw [List.nodup_cons] at nd
    rw [RT] at d2
    obtain⟨q1,q2,q3,q4⟩:=h q (RS ..)
    have hlt:e.subs.length < 8:=SD (yD (far:=far) (l:=q::l)) h8
    have hk:tR e q=true:=by
      simp only [tR,RU,decide_eq_true_eq,dt]
      exact⟨⟨⟨⟨⟨⟨⟨bg.2 ok,st⟩,lR.2 q1⟩,q4⟩,q2⟩,q3⟩,hlt⟩,d1,zO⟩
    have hj:join e q (aC far q.far)=({ e with subs:=e.subs++[bL e q (aC far q.far)],draw:=e.draw+4 },[dB e (bL e q (aC far q.far))]):=if_pos hk
    have ok1:=(Cu (r:=q) (b:=aC far q.far) ok).1
    rw [cF] at h8⊢
    rw [hj] at h8 ok1⊢
    dsimp only at h8 ok1⊢
    have sub1:∀ z∈l,bF (e.subs++[bL e q (aC far q.far)]) z < 0:=fun z hz=>by
      rw [j6]
      intro s hs
      rcases RW.1 hs with hs|hs
      · exact j6.1 (h z (RQ _ hz)).2.2.2 s hs
      · rw [R2.1 hs]
        exact .inr fun e=>nd.1 (by rw [show q=z from e];exact hz)
    rcases R5.1 hr with rfl|hr
    · obtain⟨news,f1,_⟩:=kB (far:=far) (l:=l) (e:={ e with subs:=e.subs++[bL e r (aC far r.far)],draw:=e.draw+4 })
      refine⟨bL e r (aC far r.far),?_,rfl,rfl⟩
      rw [f1]
      simp
    · exact Bf (far:=far) (l:=l) ok1 st nd.2 (fun z hz=>by
        obtain⟨a1,a2,a3,_⟩:=h z (RQ _ hz)
        exact⟨a1,a2,a3,sub1 z hz⟩) (by dsimp only;omega) (by dsimp only;omega) h8 r hr
def W (p:PolicyD) (w:WorldD):List RoadD:=wants p (hasTwo w.a.own) (hasTwo w.a.far)
theorem N0 {p:PolicyD} {w:WorldD} (hp:p∈pols) (C:Core w) (E:CE p w) {r:RoadD} (hr:r∈W p w):RN r:=by
  have h:=(lu hp _ _).el r hr
  obtain⟨a,a1,a2⟩:=yy E.ownA C.oka.own h.1
  obtain⟨f,f1,f2⟩:=yy E.farA C.oka.far h.2.1
  have k1:=(C.oka.own.el a a1).2
  have k2:=(C.oka.far.el f f1).2
  exact⟨⟨zO,zO⟩,⟨zO,zO⟩,⟨zO,zO⟩⟩
theorem Mg {p:PolicyD} {w:WorldD} {k:Nat} (hp:p∈pols) (L:LV p w k) (hk:k<=900000) {news:List SubD} (F:(manage w.a).1.subs=w.a.subs++news) (h8:(w.a.subs++news).length < 8) {r:RoadD} (hr:r∈W p w) (hno:∀ s∈w.a.subs,s.state=4\/¬ s.road=r):∃ s∈news,s.road=r:=by
  have C:=L.c
  have E:=L.cw.e
  have q:=L.cnt.da
  have d:=C.da
  have hw:wanted w.a.policy w.a.own w.a.far=W p w:=by rw [pg E.ownA C.oka.own E.farA C.oka.far,E.pol];rfl
  have WF:=lu hp (hasTwo w.a.own) (hasTwo w.a.far)
  have hh:(cE w.a.subs).length<=8:=by
    rw [cE,R_];exact R0 (Sd _ _) C.oka.subs8
  have no_have:∀ z,dy (cE w.a.subs) z=false->∀ s∈w.a.subs,s.state=4\/¬ s.road=z:=fun z hz s hs=>by
    by_cases h4:s.state=4
    · exact .inl h4
    · refine .inr fun e=>?_
      rw [<-R4] at hz
      refine hz ?_
      rw [dy,RZ]
      refine⟨s.road,?_,by rw [cy];exact e⟩
      rw [cE,R6]
      exact⟨s,R7.2 ⟨hs,by simpa using h4⟩,rfl⟩
  have hm:cQ (wanted w.a.policy w.a.own w.a.far) (cE w.a.subs)=(W p w).filter fun r=> !dy (cE w.a.subs) r:=by
    rw [hw,cQ,if_pos ⟨by have:=WF.len;unfold W;omega,zO⟩]
  have hman:manage w.a=cF w.a.far w.a ((W p w).filter fun r=> !dy (cE w.a.subs) r):=by
    rw [manage,if_pos ⟨bg.2 C.oka,C.sia⟩,hm]
  have fl:((W p w).filter fun r=> !dy (cE w.a.subs) r).length<=4:=R0 (Sd _ _) WF.len
  have all:=Bf (far:=w.a.far) (l:=(W p w).filter fun r=> !dy (cE w.a.subs) r) C.oka C.sta (WF.nd.filter _) (fun z hz=>by
    obtain⟨z1,z2⟩:=R7.1 hz
    have z2:dy (cE w.a.subs) z=false:=by simpa using z2
    obtain⟨a,a1,a2⟩:=yy E.ownA C.oka.own (WF.el z z1).1
    obtain⟨⟨f,f1,f2⟩,_⟩:=Ip hp C E z1
    refine⟨N0 hp C E z1,?_,?_,?_⟩
    · simp only [ownsAddr,RZ,beq_iff_eq];exact⟨a,a1,a2⟩
    · simp only [fR,RZ,beq_iff_eq];exact⟨f,f1,f2⟩
    · rw [j6];exact no_have z z2) zO zO (by rw [<-hman,F];exact h8)
  have hin:r∈(W p w).filter fun r=> !dy (cE w.a.subs) r:=by
    refine R7.2 ⟨hr,?_⟩
    rw [R8,<-R4,dy,RZ]
    rintro⟨z,z1,z2⟩
    rw [cE,R6] at z1
    obtain⟨s,s1,s2⟩:=z1
    obtain⟨s3,s4⟩:=R7.1 s1
    have s4:¬ s.state=4:=by simpa using s4
    rw [cy] at z2
    rcases hno s s3 with g|g
    · exact s4 g
    · exact g (s2.trans z2)
  obtain⟨s,s1,s2,s3⟩:=all r hin
  rw [<-hman,F] at s1
  rcases RW.1 s1 with s1|s1
  · rcases hno s s1 with g|g
    · omega
    · exact absurd s2 g
  · exact⟨s,s1,s2⟩
def isOn (w:WorldD) (r:RoadD):Bool:=w.a.subs.any fun s=>s.state == 3 && dL s.road r
theorem iN {w:WorldD} {r:RoadD}:isOn w r=true↔∃ s∈w.a.subs,s.state=3/\s.road=r:=by
  rw [isOn,RZ]
  constructor
  · rintro⟨s,s1,s2⟩
    rw [RU,beq_iff_eq,cy] at s2
    exact⟨s,s1,s2⟩
  · rintro⟨s,s1,s2,s3⟩
    exact⟨s,s1,by rw [RU,beq_iff_eq,cy];exact⟨s2,s3⟩⟩
def fI (p:PolicyD) (w:WorldD):Nat:=((W p w).filter fun r=> !isOn w r).length
theorem uh {α:Type} {p q:α->Bool}:∀ {l:List α},(∀ x∈l,q x=true->p x=true)->(l.filter q).length<=(l.filter p).length
  |[],_=>RX _
  |x::l,h=>by
    have:=uh (l:=l) fun y hy=>h y (RQ _ hy)
    rw [Sf,Sf]
    have hx:=h x (RS ..)
    split
    · rename_i hq
      rw [if_pos (hx hq)];simpa using this
    · split
      · rw [RT];omega
      · exact this
theorem ui {α:Type} {p q:α->Bool}:∀ {l:List α} {x:α},(∀ x∈l,q x=true->p x=true)->x∈l->p x=true->q x=false->(l.filter q).length < (l.filter p).length
  |[],x,_,hx,_,_=>by simp at hx
  |y::l,x,h,hx,hp,hq=>by
    have hle:=uh (p:=p) (q:=q) (l:=l) fun y hy=>h y (RQ _ hy)
    rw [Sf,Sf]
    rcases R5.1 hx with rfl|hx
    · rw [if_pos hp,if_neg (by rw [hq];decide),RT];omega
    · have:=ui (l:=l) (fun y hy=>h y (RQ _ hy)) hx hp hq
      split
      · rename_i g
        rw [if_pos (h y (RS ..) g),RT,RT];omega
      · split
        · rw [RT];omega
        · exact this
theorem Rnd.on {p:PolicyD} {w w':WorldD} {k:Nat} {news:List SubD} (R:Rnd p w w' k news) {s:SubD} (hs:s∈w.a.subs) (h3:s.state=3):s∈w'.a.subs:=by
  obtain⟨n,hn,rfl⟩:=R9 hs
  have hs':n < (w.a.subs++news).length:=by rw [RP];omega
  have hn':n < w'.a.subs.length:=by rw [R.len];exact hs'
  have e:(w.a.subs++news)[n]=w.a.subs[n]:=So hn
  rcases R.st n hn' hs' with h|⟨h,_⟩
  · rw [e,CD h3] at h
    rw [<-h];exact RV hn'
  · rw [e] at h;omega
theorem Rnd.isOn {p:PolicyD} {w w':WorldD} {k:Nat} {news:List SubD} (R:Rnd p w w' k news) {r:RoadD} (h:isOn w r=true):Go.Proofs.YteknmpdmhiomgaaGreat.isOn w' r=true:=by
  rw [iN] at h⊢
  obtain⟨s,s1,s2,s3⟩:=h
  exact⟨s,R.on s1 s2,s2,s3⟩
theorem Rnd.off_le {p:PolicyD} {w w':WorldD} {k:Nat} {news:List SubD} (R:Rnd p w w' k news) (hW:W p w'=W p w):fI p w'<=fI p w:=by
  unfold fI
  rw [hW]
  refine uh fun r _ h=>?_
  rw [R8,<-R4] at h⊢
  exact fun hc=>h (R.isOn hc)
theorem Rnd.gain {p:PolicyD} {w w':WorldD} {k:Nat} {news:List SubD} (R:Rnd p w w' k news) (hW:W p w'=W p w) (h:∃ s∈w.a.subs++news,s∈news\/s.state=1/\(s.tries+1).tmod 3=0):fI p w' < fI p w:=by
  obtain⟨n,hn,hs,h1,h2,h3⟩:=R.pr h
  have on':Go.Proofs.YteknmpdmhiomgaaGreat.isOn w' w'.a.subs[n].road=true:=iN.2 ⟨_,RV hn,h3,rfl⟩
  have off:¬ Go.Proofs.YteknmpdmhiomgaaGreat.isOn w w'.a.subs[n].road=true:=fun hc=>by
    obtain⟨s,s1,s2,s3⟩:=iN.1 hc
    have:=oq R.ok (RR _ s1) (RV hs) zO zO (s3.trans h2)
    rw [this] at s2;omega
  unfold fI
  rw [hW]
  refine ui (x:=w'.a.subs[n].road) (fun r _ h=>?_) ?_ (by simpa using off) (by simpa using on')
  · rw [R8,<-R4] at h⊢
    exact fun hc=>h (R.isOn hc)
  · have:=R.lv.cw.e.want _ (RV hn)
    rw [<-hW];exact this
def HP (j:Nat) (w:WorldD):Prop:=∀ s∈w.a.subs,s.state=2->(j:Int)<=s.tries
theorem N1 {s:SubD} (h:(tickS s).state=2):s.state=2/\(tickS s).tries=s.tries+1:=by
  have h2:=yC (.inr h)
  have h2':s.state=2:=zO
  refine⟨h2',?_⟩
  unfold tickS at h⊢
  rw [if_pos (.inr h2')] at h⊢
  split<;>rfl
theorem Rnd.hp {p:PolicyD} {w w':WorldD} {k j:Nat} {news:List SubD} (R:Rnd p w w' k news) (H:HP j w):HP (j+1) w':=by
  intro s hs h2
  obtain⟨n,hn,rfl⟩:=R9 hs
  have hs':n < (w.a.subs++news).length:=by rw [<-R.len];exact hn
  rcases R.st n hn hs' with h|⟨_,_,h⟩
  · rw [h] at h2⊢
    obtain⟨g1,g2⟩:=N1 h2
    rcases RW.1 (RV hs') with g|g
    · have:=H _ g g1;rw [g2];omega
    · have:=(R.ask _ g).1;omega
  · omega
theorem HP.none {p:PolicyD} {w:WorldD} {k j:Nat} (L:LV p w k) (H:HP j w) (hj:9<=j):∀ s∈w.a.subs,¬ s.state=2:=fun s hs h2=>by
  have:=H s hs h2
  have:=L.cw.e.cs.tr s hs h2
  omega
def N3 (d:Nat) (w:WorldD):Prop:=∃ s∈w.a.subs,s.state=1/\(s.tries+1+(d:Int)).tmod 3=0
theorem Mh {p:PolicyD} {w:WorldD} {k:Nat} {news:List SubD} (hp:p∈pols) (L:LV p w k) (hk:k<=900000) (F:(manage w.a).1.subs=w.a.subs++news) (h8:(w.a.subs++news).length < 8) (h2:∀ s∈w.a.subs,¬ s.state=2) (ho:¬ fI p w=0):(∃ s∈news,True)\/∃ d,d<=2/\N3 d w:=by
  have:∃ r∈W p w,isOn w r=false:=by
    cases e:(W p w).filter fun r=> !isOn w r with
    |nil=>exact absurd (by rw [fI,e];rfl) ho
    |cons r l=>
      have:r∈(W p w).filter fun r=> !isOn w r:=by rw [e];exact RS ..
      obtain⟨r1,r2⟩:=R7.1 this
      exact⟨r,r1,by simpa using r2⟩
  obtain⟨r,r1,r2⟩:=this
  by_cases hn:∀ s∈w.a.subs,s.state=4\/¬ s.road=r
  · obtain⟨s,s1,_⟩:=Mg hp L hk F h8 r1 hn
    exact .inl ⟨s,s1,trivial⟩
  · simp only [Classical.not_forall] at hn
    obtain⟨s,s1,s2⟩:=hn
    rw [not_or,Decidable.not_not] at s2
    have S:=(L.c.oka.subs.el s s1).1
    have t:=(L.c.oka.subs.el s s1).2.2.2.2.2.2
    have h3:¬ s.state=3:=fun hc=>by
      rw [<-R4,iN] at r2
      exact r2 ⟨s,s1,hc,s2.2⟩
    have:=h2 s s1
    have h1:s.state=1:=by have:=s2.1;omega
    have t0:0<=s.tries:=t.1
    refine .inr ?_
    rcases (by omega:s.tries % 3=0\/s.tries % 3=1\/s.tries % 3=2) with g|g|g
    · exact⟨2,zO,s,s1,h1,by rw [Se zO];omega⟩
    · exact⟨1,zO,s,s1,h1,by rw [Se zO];omega⟩
    · exact⟨0,zO,s,s1,h1,by rw [Se zO];omega⟩
theorem CJ {s:SubD} (h:s.state=1):(tickS s).tries=s.tries+1:=by
  unfold tickS;rw [if_pos (.inl h),if_neg zO]
theorem Rnd.asks {p:PolicyD} {w w':WorldD} {k d:Nat} {news:List SubD} (R:Rnd p w w' k news) (hW:W p w'=W p w) (h:N3 d w):fI p w' < fI p w\/∃ e,d=e+1/\N3 e w':=by
  obtain⟨s,s1,s2,s3⟩:=h
  cases d with
  |zero=>exact .inl (R.gain hW ⟨s,RR _ s1,.inr ⟨s2,by simpa using s3⟩⟩)
  |succ e=>
    by_cases hg:fI p w' < fI p w
    · exact .inl hg
    · refine .inr ⟨e,rfl,?_⟩
      obtain⟨n,hn,rfl⟩:=R9 s1
      have hs':n < (w.a.subs++news).length:=by rw [RP];omega
      have hn':n < w'.a.subs.length:=by rw [R.len];exact hs'
      have ea:(w.a.subs++news)[n]=w.a.subs[n]:=So hn
      rcases R.st n hn' hs' with h|⟨_,h2,h3⟩
      · rw [ea] at h
        refine⟨_,RV hn',by rw [h];exact sQ s2,?_⟩
        rw [h,CJ s2]
        rw [show w.a.subs[n].tries+1+1+(e:Int)=w.a.subs[n].tries+1+((e+1:Nat):Int) by omega]
        exact s3
      ·
        rw [ea] at h2
        exfalso
        refine hg ?_
        unfold fI
        rw [hW]
        have on':Go.Proofs.YteknmpdmhiomgaaGreat.isOn w' w.a.subs[n].road=true:=iN.2 ⟨_,RV hn',h3,h2⟩
        have off:¬ Go.Proofs.YteknmpdmhiomgaaGreat.isOn w w.a.subs[n].road=true:=fun hc=>by
          obtain⟨t,t1,t2,t3⟩:=iN.1 hc
          have:=oq R.ok (RR _ t1) (RR _ (RV hn)) zO zO t3
          rw [this] at t2;omega
        refine ui (x:=w.a.subs[n].road) (fun r _ h=>?_) ?_ (by simpa using off) (by simpa using on')
        · rw [R8,<-R4] at h⊢
          exact fun hc=>h (R.isOn hc)
        · have:=R.lv.cw.e.want _ (RV hn')
          rw [h2] at this
          rw [<-hW];exact this
structure Seq (p:PolicyD) (f:Nat->WorldD) (N K:Nat):Prop where
  lv:∀ i,i<=N->LV p (f i) (K+405*i)
  bag:∀ i,i<=N->(f i).bag=[]
  rnd:∀ i,i < N->∃ news la lb,Begun p (f i) (calm3 (f i)) (K+405*i) news la lb/\Rnd p (f i) (f (i+1)) (K+405*i) news
  nxt:∀ i,i < N->f (i+1)=calmRound (f i)
  a8:∀ i,i<=N->(f i).a.subs.length < 8
  b8:∀ i,i<=N->(f i).b.subs.length < 8
  few:K+405*N<=900000
theorem Mi {p:PolicyD} {f:Nat->WorldD} {N K:Nat} (S:Seq p f N K) {i:Nat}:∀ {j:Nat},i+j<=N->HP j (f (i+j))
  |0,h=>fun s hs h2=>((S.lv i zO).c.oka.subs.el s hs).2.2.2.2.2.2.1
  |j+1,h=>by
    obtain⟨news,la,lb,_,R⟩:=S.rnd (i+j) zO
    exact R.hp (Mi S (i:=i) (j:=j) zO)
theorem ou {p:PolicyD} {f:Nat->WorldD} {N K i:Nat} (S:Seq p f N K) (hW:∀ j,i<=j->j<=N->W p (f j)=W p (f i)):∀ {m:Nat},i+m<=N->fI p (f (i+m))<=fI p (f i)
  |0,_=>RX _
  |m+1,h=>by
    obtain⟨news,la,lb,_,R⟩:=S.rnd (i+m) zO
    exact R0 (R.off_le ((hW (i+m+1) zO zO).trans (hW (i+m) zO zO).symm)) (ou S hW (m:=m) zO)
theorem EW {p:PolicyD} {f:Nat->WorldD} {N K i:Nat} (S:Seq p f N K) (hW:∀ j,i<=j->j<=N->W p (f j)=W p (f i)):∀ {d m:Nat},i+m+d+1<=N->N3 d (f (i+m))->fI p (f (i+m+d+1)) < fI p (f (i+m))
  |0,m,h,A=>by
    obtain⟨news,la,lb,_,R⟩:=S.rnd (i+m) zO
    rcases R.asks ((hW (i+m+1) zO zO).trans (hW (i+m) zO zO).symm) A with g|⟨e,g,_⟩
    · exact g
    · omega
  |d+1,m,h,A=>by
    obtain⟨news,la,lb,_,R⟩:=S.rnd (i+m) zO
    have w1:=(hW (i+m+1) zO zO).trans (hW (i+m) zO zO).symm
    rcases R.asks w1 A with g|⟨e,g,A'⟩
    · have hW':∀ j,i+m+1<=j->j<=N->W p (f j)=W p (f (i+m+1)):=fun j h1 h2=>(hW j zO h2).trans (hW (i+m+1) zO zO).symm
      have:=ou S hW' (m:=d+1) zO
      rw [show i+m+1+(d+1)=i+m+(d+1)+1 by omega] at this
      omega
    · obtain rfl:d=e:=zO
      have:=EW S hW (d:=d) (m:=m+1) zO A'
      rw [show i+(m+1)+d+1=i+m+(d+1)+1 by omega] at this
      have le:=R.off_le w1
      rw [show i+(m+1)=i+m+1 by omega] at this
      omega
theorem sV {p:PolicyD} {f:Nat->WorldD} {N K i:Nat} (hp:p∈pols) (S:Seq p f N K) (hW:∀ j,i<=j->j<=N->W p (f j)=W p (f i)) (h2:∀ j,i<=j->j<=N->∀ s∈(f j).a.subs,¬ s.state=2) {m:Nat} (hm:i+m+3<=N):fI p (f (i+m+3))=0\/fI p (f (i+m+3)) < fI p (f (i+m)):=by
  by_cases ho:fI p (f (i+m))=0
  · have hW':∀ j,i+m<=j->j<=N->W p (f j)=W p (f (i+m)):=fun j h1 h2=>(hW j zO h2).trans (hW (i+m) zO zO).symm
    have:=ou S hW' (m:=3) zO
    exact .inl zO
  · obtain⟨news,la,lb,B,R⟩:=S.rnd (i+m) zO
    have fw:=S.few
    have h8:((f (i+m)).a.subs++news).length < 8:=by rw [<-R.len];exact S.a8 _ zO
    have w1:=(hW (i+m+1) zO zO).trans (hW (i+m) zO zO).symm
    have tail:∀ q,q<=3->fI p (f (i+m+q)) < fI p (f (i+m))->fI p (f (i+m+3)) < fI p (f (i+m)):=fun q hq h=>by
      have hW':∀ j,i+m+q<=j->j<=N->W p (f j)=W p (f (i+m+q)):=fun j h1 h2=>(hW j zO h2).trans (hW (i+m+q) zO zO).symm
      have:=ou S hW' (m:=3 - q) zO
      rw [show i+m+q+(3 - q)=i+m+3 by omega] at this
      omega
    rcases Mh hp (S.lv (i+m) zO) (by have:405*(i+m)<=405*N:=zO;omega) R.frm h8 (h2 (i+m) zO zO) ho with⟨s,s1,_⟩|⟨d,d1,A⟩
    · exact .inr (tail 1 zO (R.gain w1 ⟨s,R1 _ s1,.inl s1⟩))
    · have:=EW S hW (d:=d) (m:=m) zO A
      exact .inr (tail (d+1) zO (by rw [show i+m+(d+1)=i+m+d+1 by omega];exact this))
theorem N4 {p:PolicyD} {f:Nat->WorldD} {N K i:Nat} (hp:p∈pols) (S:Seq p f N K) (hW:∀ j,i<=j->j<=N->W p (f j)=W p (f i)) (h2:∀ j,i<=j->j<=N->∀ s∈(f j).a.subs,¬ s.state=2):∀ j,i+12<=j->j<=N->fI p (f j)=0:=by
  intro j h1 hN
  have l0:fI p (f i)<=4:=R0 (Sd _ _) (lu hp _ _).len
  have s1:=sV hp S hW h2 (m:=0) zO
  have s2:=sV hp S hW h2 (m:=3) zO
  have s3:=sV hp S hW h2 (m:=6) zO
  have s4:=sV hp S hW h2 (m:=9) zO
  simp only [Nat.add_zero,SP,Nat.reduceAdd] at s1 s2 s3 s4
  have z:fI p (f (i+12))=0:=zO
  have hW':∀ j,i+12<=j->j<=N->W p (f j)=W p (f (i+12)):=fun j h1 h2=>(hW j zO h2).trans (hW (i+12) zO zO).symm
  have:=ou S hW' (m:=j - (i+12)) zO
  rw [show i+12+(j - (i+12))=j by omega] at this
  omega
theorem gQ {l:List AddrD}:hasTwo l=true↔∃ q∈l,q.id=1:=by simp only [hasTwo,RZ,beq_iff_eq]
theorem GX {l:List AddrD} {i:Nat} (hi:i < l.length) {a:AddrD} (h:a.id=l[i].id):hasTwo (l.set i a)=hasTwo l:=by
  rw [SM]
  constructor
  · rw [gQ,gQ]
    rintro⟨q,q1,q2⟩
    rcases List.mem_or_eq_of_mem_set q1 with g|rfl
    · exact⟨q,g,q2⟩
    · exact⟨_,RV hi,by rw [<-h];exact q2⟩
  · exact jD (Ii hi h)
theorem EY {e:EndD} {x:LetterD} (K:4<=x.kind/\x.kind<=12/\¬ x.kind=10):hasTwo (aG e x).1.own=hasTwo e.own:=by
  have F:=eD e x
  generalize aG e x=r at F
  cases F with
  |stay=>rfl
  |other r k=>omega
  |join1=>rfl
  |join2=>rfl
  |back=>rfl
  |done1=>rfl
  |done2=>rfl
  |ack=>rfl
  |addr=>rfl
  |echo k i hi h1 h2=>exact GX hi rfl
  |data=>rfl
  |came=>rfl
def lZ (ka kb:Int) (sp:Bool):LetterD:=ah (bk rdA) { af with kind:=8,tag:=⟨3,kb,ka,1,22⟩,sgn:=1003,id:=1,addr:=22,spare:=sp }
theorem QX {l:List AddrD} {a:AddrD} (h:Shape 20 l) (ok:AdOk l) (h1:a.id=1) (h2:a.addr=22):bN (cp l a)=true:=by
  rw [oc]
  have h':=h
  obtain⟨s,t,r,rfl,hr⟩:=h
  by_cases hat:0<=aW (⟨0,20+1,s,t⟩::r) a.id
  · rw [cp,if_pos hat]
    obtain⟨n,e,hn,hid⟩:=lr hat
    rw [e,Sl]
    refine ok.pt (by rw [List.length_set]) fun i g1 g2=>?_
    rw [List.getElem_set]
    split
    · rename_i q;subst q
      have:=h'.fits (RV hn)
      simp only [zB] at this
      omega
    · exact⟨rfl,rfl⟩
  · have hr0:r=[]:=by
      cases r with
      |nil=>rfl
      |cons q r=>
        have:=mO.1 (by omega:aW (⟨0,20+1,s,t⟩::q::r) a.id < 0) q zP
        exact absurd ((hr q (RS ..)).1.trans h1.symm) this
    subst hr0
    rw [cp,if_neg hat]
    have hl:tD [⟨0,20+1,s,t⟩] a.id=1:=by
      rw [tD,List.takeWhile_cons,if_pos (by simp [h1])];rfl
    rw [hl]
    refine⟨zP,fun q hq=>?_,?_⟩
    · simp only [Sy,SN,Sz,SQ,RY,Sm,Sv,R5,List.not_mem_nil,or_false] at hq
      rcases hq with rfl|rfl
      · exact⟨⟨by show (0:Int)<=0;decide,by show (0:Int)<=255;decide⟩,by show (1:Int)<=20+1;decide,by show (20+1:Int)<=65535;decide⟩
      · exact⟨⟨zO,zO⟩,zO,zO⟩
    · simp only [Sy,SN,Sz,SQ,RY,Sm,Sv]
      rw [SF]
      refine⟨fun q hq=>?_,Sr ..⟩
      rw [R2.1 hq]
      exact⟨by show (0:Int) < a.id;omega,by show ¬ (20+1:Int)=a.addr;omega⟩
theorem N5 {ka kb:Int} {sp:Bool} (ha:N9 ka) (hb:N9 kb):du (lZ ka kb sp)=true:=by
  refine kD ⟨by show (1:Int)<=8;decide,by show (8:Int)<=13;decide⟩ (by simp [lZ,ah,af]) ?_
  simp only [eU,lZ,bk,rdA,ah,af,Sh]
  have n1:N9 21:=⟨by decide,by decide⟩
  have n2:N9 11:=⟨by decide,by decide⟩
  have n3:N9 1003:=⟨by decide,by decide⟩
  have n4:N9 1:=⟨by decide,by decide⟩
  have n5:N9 22:=⟨by decide,by decide⟩
  have n6:N9 3:=⟨by decide,by decide⟩
  exact⟨n1,n2,cS,cS,cS,cS,cS,n3,n4,n5,cS,n6,hb,ha,n4,n5,fun _ h=>by simp at h⟩
theorem Mj {p:PolicyD} {w:WorldD} (hp:p∈pols) (C:Core w) (E:CE p w) {sp:Bool}:hasTwo (aG w.a (lZ w.a.key w.b.key sp)).1.far=true:=by
  obtain⟨r,hr⟩:=E.cs.a0
  have h0:0 < w.a.subs.length:=by rw [hr];simp
  have e0:w.a.subs[0]=subA0:=by simp [hr]
  have lo:=N5 (sp:=sp) C.oka.nums.1 C.okb.nums.1
  have ro:roadOf (lZ w.a.key w.b.key sp)=w.a.subs[0].road:=by rw [lZ,bz,fF,e0];rfl
  have ow:ownsAddr w.a.own (lZ w.a.key w.b.key sp).to=true:=by
    have:=CI hp C E (RV h0)
    rw [e0] at this
    exact this
  have ho:bJ w.a (lZ w.a.key w.b.key sp)=true:=by rw [bJ,bg.2 C.oka,lo,ow];rfl
  have ix:=sU C.oka.subs h0 (by rw [e0];decide)
  have sg:cA w.a (lZ w.a.key w.b.key sp)=((0:Nat):Int):=by
    rw [cA,ro,ix]
    rw [if_neg zO,Sl,cI h0,if_pos (by rw [e0];exact⟨rfl,rfl⟩)]
  have on:=kj (bg.2 C.oka) lo sg
  have fits:∀ f∈w.a.far,f.id=1->f.addr=22:=fun f hf h=>by
    have:=E.farA.fits hf
    simp only [zB] at this
    omega
  have pk:=QX (a:=fD (lZ w.a.key w.b.key sp)) E.farA C.oka.far rfl rfl
  have hh:gG w.a (lZ w.a.key w.b.key sp)=true:=by
    have g1:(lZ w.a.key w.b.key sp).tag=⟨3,w.a.peer,w.a.key,(lZ w.a.key w.b.key sp).id,(lZ w.a.key w.b.key sp).addr⟩:=by rw [C.pa];rfl
    have g2:m8 w.a.over (lZ w.a.key w.b.key sp).id=false:=by rw [E.over.1];rfl
    have g3:oK w.a (lZ w.a.key w.b.key sp)=false:=by
      rcases eY w.a.far (lZ w.a.key w.b.key sp).id with g|g
      · exact qe g
      · obtain⟨i,e,hi,hid⟩:=lr g.1
        rw [qf e hi,fits _ (RV hi) hid]
        rfl
    rw [gG,on,g2,g3,lF pk,decide_eq_true g1]
    rfl
  rw [qs ho rfl,mt hh on h0]
  obtain⟨_,p2,_⟩:=E.farA.put (a:=fD (lZ w.a.key w.b.key sp)) (.inr ⟨rfl,rfl⟩)
  exact gQ.2 ⟨_,p2 (by rw [lF pk]),rfl⟩
def OH (w:WorldD):Prop:=hasTwo w.a.far=true\/∃ sp,lZ w.a.key w.b.key sp∈w.bag
theorem OH.step {p:PolicyD} {w:WorldD} {k:Nat} (hp:p∈pols) (L:LV p w k) (hl:w.bag.length<=40) (hne:¬ w.bag=[]) (A:OH w):OH (dlv w):=by
  obtain⟨x,l,hb⟩:=ot hne
  have X:=L.cw.x hb
  have K:4<=x.kind/\x.kind<=12/\¬ x.kind=10:=X.kind
  have C:=L.c
  have E:=L.cw.e
  rcases e6 x.to with h0|h0|h0
  · exact absurd h0 X.to
  · obtain⟨ea,eb,eg,_⟩:=EO hp L hb hl h0
    have S:=LZ hp C L.ga (L.i.bag x (by rw [hb];exact RS ..)) E X h0
    have y1:=(lY (e:=w.a) K).1
    unfold OH
    rw [ea,eb,eg,y1]
    rcases A with A|⟨sp,A⟩
    · exact .inl (jD S.fa A)
    · rw [hb] at A
      rcases R5.1 A with e|A
      · rw [<-e];exact .inl (Mj hp C E)
      · exact .inr ⟨sp,RR _ A⟩
  · obtain⟨eb,ea,eg,_⟩:=EP hp L hb hl h0
    have y1:=(lY (e:=w.b) K).1
    unfold OH
    rw [ea,eb,eg,y1]
    rcases A with A|⟨sp,A⟩
    · exact .inl A
    · rw [hb] at A
      rcases R5.1 A with e|A
      · rw [<-e] at h0
        exact absurd h0 (by show ¬ sideAt 11=2;decide)
      · exact .inr ⟨sp,RR _ A⟩
def GY (ca cb:Bool) (w:WorldD):Prop:=hasTwo w.a.own=ca/\hasTwo w.b.own=cb
theorem GY.step {p:PolicyD} {w:WorldD} {k:Nat} {ca cb:Bool} (hp:p∈pols) (L:LV p w k) (hl:w.bag.length<=40) (hne:¬ w.bag=[]) (A:GY ca cb w):GY ca cb (dlv w):=by
  obtain⟨x,l,hb⟩:=ot hne
  have X:=L.cw.x hb
  have K:4<=x.kind/\x.kind<=12/\¬ x.kind=10:=X.kind
  rcases e6 x.to with h0|h0|h0
  · exact absurd h0 X.to
  · obtain⟨ea,eb,_⟩:=EO hp L hb hl h0
    unfold GY
    rw [ea,eb,EY K];exact A
  · obtain⟨eb,ea,_⟩:=EP hp L hb hl h0
    unfold GY
    rw [ea,eb,EY K];exact A
theorem Begun.own {p:PolicyD} {w v:WorldD} {k:Nat} {news:List SubD} {la lb:List LetterD} (B:Begun p w v k news la lb):v.a.own=w.a.own/\v.a.far=w.a.far/\v.b.own=w.b.own/\v.b.far=w.b.far/\v.a.key=w.a.key/\v.b.key=w.b.key:=by
  have m:=B.man
  have k1:∀ {k:Nat} {e:EndD},(pushN k e).1.key=e.key:=fun {k}=>by
    induction k with
    |zero=>intro e;rfl
    |succ k ih=>
      intro e
      have:(cB e).1.key=e.key:=by unfold cB;split<;>rfl
      exact (ih (e:=(cB e).1)).trans this
  have s1:=B.ta.own
  have s2:=B.ta.far
  have sb:=ff (k:=3) (e:={ tick0 w.b with subs:=w.b.subs })
  refine⟨s1.trans ?_,s2.trans ?_,?_,?_,?_,?_⟩
  · show (manage w.a).1.own=w.a.own;rw [m]
  · show (manage w.a).1.far=w.a.far;rw [m]
  · rw [B.eb,sb.own];rfl
  · rw [B.eb,sb.far];rfl
  · rw [B.ea,k1];show (manage w.a).1.key=w.a.key;rw [m]
  · rw [B.eb,k1];rfl
theorem Begun.adr {p:PolicyD} {w v:WorldD} {k:Nat} {news:List SubD} {la lb:List LetterD} (L:LV p w k) (hk:k<=900000) (B:Begun p w v k news la lb) (h:hasTwo w.b.own=true):OH v:=by
  have C:=L.c
  have E:=L.cw.e
  have o:=B.own
  obtain⟨q,q1,q2⟩:=gQ.1 h
  by_cases ht:q.told=true
  · exact .inl (by rw [o.2.1];exact gQ.2 (E.told q q1 q2 ht))
  · refine .inr ⟨q.spare,?_⟩
    rw [B.bag]
    refine R1 _ ?_
    rw [B.lb_]
    refine RR _ ?_
    have st:∀ t∈w.b.subs,t.state=3\/t.state=4:=fun t ht=>(C.sb t ht).st
    have tk:yQ w.b=true:=by
      have c:=L.cnt
      simp only [yQ,RU,decide_eq_true_eq,Sn]
      exact⟨⟨bg.2 C.okb,by have:=c.nb;omega⟩,fun s hs=>by have:=c.trb s hs;omega⟩
    have ok:=oh C.okb tk
    rw [yu st] at ok
    obtain⟨r,hr⟩:=E.cs.b0
    have on:gV w.b.subs=0::k_ 1 r:=by rw [hr];rfl
    have s0:bt w.b.subs 0=subB0:=by rw [hr];rfl
    have ta:zn { tick0 w.b with subs:=w.b.subs }=true:=by
      rw [zn,bg.2 ok]
      have:(tick0 w.b).state=2:=C.stb
      show (true && decide ((tick0 w.b).state=2) && !decide ((gV w.b.subs).length=0))=true
      rw [on,this];simp
    rw [tellAddrs,if_pos ta]
    refine R6.2 ⟨q,R7.2 ⟨q1,by simpa using ht⟩,?_⟩
    show lN { tick0 w.b with subs:=w.b.subs } (bt w.b.subs ((gV w.b.subs).headD 0)) q=_
    rw [on,List.headD_cons,s0]
    have f:=E.ownB.fits q1
    simp only [zB] at f
    have qa:q.addr=22:=zO
    unfold lN lZ
    rw [q2,qa,o.2.2.2.2.1,o.2.2.2.2.2]
    have:(({ tick0 w.b with subs:=w.b.subs }:EndD).peer)=w.a.key:=C.pb
    rw [this]
    rfl
theorem N6 (v:WorldD):(cH v).a.own=v.a.own/\(cH v).b.own=v.b.own/\(cH v).a.far=v.a.far:=by
  rw [mS]
  exact⟨by show (az v.a 200).1.own=_;rw [gP],by show (az v.b 200).1.own=_;rw [gP],by show (az v.a 200).1.far=_;rw [gP]⟩
theorem It {p:PolicyD} {w:WorldD} {k:Nat} {news:List SubD} {la lb:List LetterD} (hp:p∈pols) (L:LV p w k) (hk:k<=900000) (h8:(calmRound w).b.subs.length < 8) (B:Begun p w (calm3 w) k news la lb):
    hasTwo (calmRound w).a.own=hasTwo w.a.own/\hasTwo (calmRound w).b.own=hasTwo w.b.own/\(hasTwo w.b.own=true->hasTwo (calmRound w).a.far=true):=by
  have h8':(aY 400 (calm3 w)).b.subs.length < 8:=by rw [<-(fv _).2.1];exact h8
  have hw:wt (calm3 w).bag<=400:=by have:=ES (l:=(calm3 w).bag);have:=B.fewer;omega
  have o:=B.own
  have st:=fun (u:WorldD) (k:Nat) (L:LV p u k) (hk:k<=1000000) (hl:u.bag.length<=40) (h8:u.b.subs.length < 8) (hne:¬ u.bag=[]) (Q:GY (hasTwo w.a.own) (hasTwo w.b.own) u)=>GY.step hp L hl hne Q
  obtain⟨q1,_,_⟩:=jd hp (K:=1000000) st (n:=400) B.lv zO B.fewer hw h8' ⟨by rw [o.1],by rw [o.2.2.1]⟩
  have e:=N6 (aY 400 (calm3 w))
  have ec:calmRound w=cH (aY 400 (calm3 w)):=rfl
  rw [ec,e.1,e.2.1,e.2.2]
  refine⟨q1.1,q1.2,fun h=>?_⟩
  have st:=fun (u:WorldD) (k:Nat) (L:LV p u k) (hk:k<=1000000) (hl:u.bag.length<=40) (h8:u.b.subs.length < 8) (hne:¬ u.bag=[]) (Q:OH u)=>OH.step hp L hl hne Q
  obtain⟨q2,_,q3⟩:=jd hp (K:=1000000) st (n:=400) B.lv zO B.fewer hw h8' (B.adr L hk h)
  rcases q2 with q2|⟨sp,q2⟩
  · exact q2
  · rw [q3] at q2;simp at q2
theorem N7 {p:PolicyD} {w:WorldD} (C:Core w) (E:CE p w) (h:hasTwo w.a.far=true):hasTwo w.b.own=true:=by
  obtain⟨f,f1,f2⟩:=gQ.1 h
  rcases (C.fa f f1).2 with⟨q,q1,q2,_⟩|q
  · exact gQ.2 ⟨q,q1,q2.trans f2⟩
  · rw [E.done.2] at q;simp at q
theorem Mk {p:PolicyD} {f:Nat->WorldD} {N K:Nat} (hp:p∈pols) (S:Seq p f N K):∀ j,1<=j->j<=N->W p (f j)=W p (f 1):=by
  have own:∀ j,j<=N->hasTwo (f j).a.own=hasTwo (f 0).a.own/\hasTwo (f j).b.own=hasTwo (f 0).b.own:=by
    intro j
    induction j with
    |zero=>exact fun _=>⟨rfl,rfl⟩
    |succ j ih=>
      intro h
      obtain⟨i1,i2⟩:=ih zO
      obtain⟨news,la,lb,B,_⟩:=S.rnd j zO
      have fw:=S.few
      have r:=It hp (S.lv j zO) (by have:405*j<=405*N:=zO;omega) (by rw [<-S.nxt j zO];exact S.b8 _ h) B
      rw [<-S.nxt j zO] at r
      exact⟨r.1.trans i1,r.2.1.trans i2⟩
  have far:∀ j,1<=j->j<=N->hasTwo (f j).a.far=hasTwo (f 0).b.own:=by
    intro j h1 h
    obtain⟨i,rfl⟩:∃ i,j=i+1:=⟨j - 1,zO⟩
    obtain⟨news,la,lb,B,_⟩:=S.rnd i zO
    have fw:=S.few
    have r:=It hp (S.lv i zO) (by have:405*i<=405*N:=zO;omega) (by rw [<-S.nxt i zO];exact S.b8 _ h) B
    rw [<-S.nxt i zO] at r
    rw [SM]
    constructor
    · intro g
      have:=N7 (S.lv (i+1) h).c (S.lv (i+1) h).cw.e g
      rw [(own (i+1) h).2] at this
      exact this
    · intro g
      rw [<-(own i zO).2] at g
      exact r.2.2 g
  intro j h1 h
  unfold W
  rw [(own j h).1,(own 1 zO).1,far j h1 h,far 1 zO zO]
def Ml (en:Int):List PieceD->Prop
 |[]=>True
 |x::r=>1<=x.text.length/\en < x.pos/\Ml (x.pos+(x.text.length:Int)) r
theorem GZ:∀ {l:List PieceD} {en:Int},(∀ x∈l,0<=x.pos/\x.pos+(x.text.length:Int)<=1000000000)->(ig en l=true↔Ml en l)
 |[],_,_=>by simp [ig,Ml]
 |x::r,en,h=>by
  have hx:=h x (RS ..)
  rw [ig,Ml,yV zO]
  simp only [RU,decide_eq_true_eq,R8,beq_eq_false_iff_ne,ne_eq]
  rw [GZ fun y hy=>h y (RQ _ hy)]
  constructor
  ·rintro⟨⟨⟨g1,g2⟩,g3⟩,g4⟩
   exact⟨by have:=SC.2 g1;omega,g3,g4⟩
  rintro⟨g1,g3,g4⟩
  exact⟨⟨⟨fun hc=>by rw [hc] at g1;simp at g1,zO⟩,g3⟩,g4⟩
theorem Mm {l:List PieceD} {a b:Int} (h:Ml a l) (hb:b<=a):Ml b l:=by
 cases l with
 |nil=>trivial
 |cons x r=>exact⟨h.1,by have:=h.2.1;omega,h.2.2⟩
theorem Mn:∀ {l:List PieceD} {en:Int},Ml en l->∀ x∈l,en < x.pos/\1<=x.text.length
 |[],_,_,x,hx=>by simp at hx
 |y::r,en,h,x,hx=>by
  obtain⟨h1,h2,h3⟩:=h
  rcases R5.1 hx with rfl|hx
  ·exact⟨h2,h1⟩
  have:=Mn h3 x hx
  exact⟨zO,this.2⟩
theorem Iu {M:Int}:∀ {l:List PieceD} {en:Int},Ml en l->(∀ x∈l,x.pos+(x.text.length:Int)<=M)->en<=M->en+(rZ l:Int)<=M
 |[],_,_,_,h=>by simpa [rZ] using h
 |x::r,en,h,hm,he=>by
  obtain⟨h1,h2,h3⟩:=h
  have:=Iu h3 (fun y hy=>hm y (RQ _ hy)) (hm x (RS ..))
  simp only [rZ,Int.natCast_add]
  omega
theorem Bg {own:PieceD}:∀ {l acc:List PieceD},(∀ z∈l,own.pos+(own.text.length:Int) < z.pos)->jH ⟨own,true,acc⟩ l=⟨own,true,acc++l⟩
 |[],acc,_=>by rw [RY];rfl
 |y::l,acc,h=>by
  have hy:=h y (RS ..)
  have e:fQ ⟨own,true,acc⟩ y=⟨own,true,acc++[y]⟩:=by
   rw [lL (by dsimp only;omega) hy]
   rfl
  show jH (fQ ⟨own,true,acc⟩ y) l=_
  rw [e,Bg fun z hz=>h z (RQ _ hz),Sk,List.singleton_append]
theorem yE {P:Int}:∀ {l:List PieceD} {own:PieceD},own.pos=P->Ml P l->∃ X rest,jM (jH ⟨own,false,[]⟩ l)=X::rest/\X.pos=P/\own.text.length<=X.text.length/\rest.length<=l.length/\Ml (X.pos+(X.text.length:Int)) rest
 |[],own,hP,_=>⟨own,[],rfl,hP,RX _,RX _,trivial⟩
 |y::l,own,hP,h=>by
  obtain⟨h1,h2,h3⟩:=h
  have na:¬ y.pos+(y.text.length:Int) < own.pos:=zO
  by_cases hb:own.pos+(own.text.length:Int) < y.pos
  ·have e:fQ ⟨own,false,[]⟩ y=⟨own,true,[own,y]⟩:=by
    rw [lL na hb];rfl
   have g:jH ⟨own,false,[]⟩ (y::l)=⟨own,true,[own,y]++l⟩:=by
    show jH (fQ ⟨own,false,[]⟩ y) l=_
    rw [e,Bg fun z hz=>by have:=(Mn h3 z hz).1;omega]
   rw [g]
   exact⟨own,y::l,rfl,hP,RX _,RX _,h1,hb,h3⟩
  have e:fQ ⟨own,false,[]⟩ y=⟨fk y own,false,[]⟩:=nK na hb
  have g:jH ⟨own,false,[]⟩ (y::l)=jH ⟨fk y own,false,[]⟩ l:=by
   show jH (fQ ⟨own,false,[]⟩ y) l=_
   rw [e]
  obtain⟨n,hn⟩:∃ n:Nat,y.pos - own.pos=(n:Int):=⟨(y.pos - own.pos).toNat,zO⟩
  have j:=w_ hn zO
  have jl:own.text.length<=(fk y own).text.length:=by
   rw [j]
   simp only [RP,SL,Sp]
   omega
  obtain⟨X,rest,r1,r2,r3,r4,r5⟩:=yE (P:=P) (l:=l) (own:=fk y own) (by rw [j];exact hP) (Mm h3 zO)
  rw [g]
  exact⟨X,rest,r1,r2,R0 jl r3,by rw [RT];omega,r5⟩
theorem Mo {V R:List UInt8} {p:PiecesD} {n:Int} {t:List UInt8} (I:InI V R p) (ok:piecesOk p=true) (S:SmallP p) (sl:Slice V n t) (h1:n<=nextOf p) (ht:1<=t.length/\t.length<=200) (hW:(V.length:Int)<=1000000000) (room:(V.length:Int) - p.read<=200):
  n+(t.length:Int)<=nextOf (putPiece p n t):=by
 have F:=ax ok S
 have nx:=F.next
 have s0:=sl.1
 have s1:=sl.2.1
 have r0:=F.r0
 have pk:sh p n t=true:=by
  simp only [sh,RU,Gt,dt]
  exact⟨⟨ok,zO,zO⟩,zO,zO⟩
 by_cases old:(t.length:Int)<=nextOf p - n
 ·rw [FY pk old];omega
 obtain⟨k,hk⟩:∃ k:Nat,nextOf p - n=(k:Int):=⟨(nextOf p - n).toNat,zO⟩
 have run:putPiece p n t=lM p (nextOf p) (t.drop k):=by
  by_cases h0:0 < k
  ·exact FZ pk hk zO h0
  obtain rfl:k=0:=zO
  have:nextOf p=n:=zO
  rw [F0 pk zO,this];rfl
 have slt:Slice V (nextOf p) (t.drop k):=by
  have:=sl.drop (d:=k) zO
  rw [show n+(k:Int)=nextOf p by omega] at this
  exact this
 have lt:(t.drop k).length=t.length - k:=Sp
 have ch:Ml (nextOf p) p.list:=by
  have h:=ok
  simp only [piecesOk,RU] at h
  refine (GZ fun x hx=>?_).1 h.2
  obtain⟨g1,g2,_⟩:=I.list x hx
  exact⟨g1,zO⟩
 obtain⟨X,rest,e,x1,x2,x3,x4⟩:=yE (P:=nextOf p) (own:=⟨nextOf p,t.drop k⟩) rfl ch
 have x2:(t.drop k).length<=X.text.length:=x2
 have sw:=Ib (Gy (W:=V) (l:=p.list) (g:=⟨⟨nextOf p,t.drop k⟩,false,[]⟩) ⟨slt,fun z hz=>by simp at hz⟩ I.list)
 rw [e] at sw
 have sX:=sw X (RS ..)
 have bX:=sX.2.1
 have hr:∀ x∈rest,0<=x.pos/\x.pos+(x.text.length:Int)<=1000000000:=fun x hx=>by
  obtain⟨g1,g2,_⟩:=sw x (RQ _ hx)
  exact⟨g1,zO⟩
 have sum:=Iu (M:=(V.length:Int)) x4 (fun x hx=>(sw x (RQ _ hx)).2.1) bX
 have out:mX p (X::rest)=⟨p.read,p.ready++X.text,rest⟩:=jT x1
 have nx':nextOf ⟨p.read,p.ready++X.text,rest⟩=X.pos+(X.text.length:Int):=by
  rw [nextOf]
  dsimp only
  rw [RP,yV zO]
  omega
 have pk':piecesOk (mX p (X::rest))=true:=by
  rw [out]
  simp only [piecesOk,RU,Gt,decide_eq_true_eq]
  refine⟨⟨⟨⟨F.r0,F.r1⟩,by have:=F.list;omega⟩,?_⟩,?_⟩
  ·rw [lc]
   dsimp only
   rw [RP,km zO zO]
   omega
  rw [nx']
  exact (GZ hr).2 x4
 rw [run,lM,e,eL pk',out,nx']
 omega
def datL (s:SubD) (n:Int) (t:List UInt8):LetterD:=ah s.road { af with kind:=11,sgn:=s.give,pos:=n,text:=t }
def camS (s:SubD) (n:Int):LetterD:=ah (bk s.road) { af with kind:=12,sgn:=s.take,pos:=n }
theorem N8 {s:SubD} {n:Int} {t:List UInt8} (S:SuE s) (hn:N9 n) (ht:t.length<=20):du (datL s n t)=true:=by
 obtain⟨_,⟨r1,r2,r3⟩,s1,s2,s3,s4,s5⟩:=S
 refine kD ⟨by show (1:Int)<=11;decide,by show (11:Int)<=13;decide⟩ ht ?_
 simp only [eU,datL,ah,af,Sh]
 exact⟨r1,r2,r3,cS,cS,cS,cS,s3,cS,cS,hn,cS,cS,cS,cS,cS,fun _ h=>by simp at h⟩
theorem N_ {s:SubD} {n:Int} (S:SuE s) (hn:N9 n):du (camS s n)=true:=by
 obtain⟨_,⟨r1,r2,r3⟩,s1,s2,s3,s4,s5⟩:=S
 refine kD ⟨by show (1:Int)<=12;decide,by show (12:Int)<=13;decide⟩ (by simp [camS,ah,af]) ?_
 simp only [eU,camS,bk,ah,af,Sh]
 exact⟨r2,r1,r3,cS,cS,cS,cS,s4,cS,cS,hn,cS,cS,cS,cS,cS,fun _ h=>by simp at h⟩
theorem Bh {e:EndD} {x:LetterD} {n:Nat} (ok:OkE e) (hn:n < e.subs.length) (h3:e.subs[n].state=3) (hr:e.subs[n].road=roadOf x) (ht:e.subs[n].take=x.sgn):cA e x=(n:Int):=by
 have ix:=sU ok.subs hn zO
 rw [hr] at ix
 rw [cA,ix]
 rw [if_neg zO,Sl,cI hn,if_pos ⟨h3,ht⟩]
theorem Mp {e:EndD} (ok:OkE e) {s t:SubD} (ht:t∈e.subs) (h3:t.state=3) (hr:t.road=bk s.road) (hk:t.take=s.give) (hg:t.give=s.take) (S:SuE s) {n:Int} {u:List UInt8} (hn:N9 n) (hl:u.length<=20) (ow:ownsAddr e.own s.road.far=true) (hd:nextOf (putPiece e.inp n u)<=1000000000):
  aG e (datL s n u)=({ e with inp:=putPiece e.inp n u },[camS s (nextOf (putPiece e.inp n u))]):=by
 obtain⟨i,hi,rfl⟩:=R9 ht
 have lo:=N8 S hn hl
 have ro:roadOf (datL s n u)=bk s.road:=by rw [datL,bz]
 have ho:bJ e (datL s n u)=true:=by
  rw [bJ,bg.2 ok,lo]
  exact ow
 have sg:=Bh (x:=datL s n u) ok hi h3 (by rw [ro];exact hr) hk
 have on:=kj (bg.2 ok) lo sg
 have dk:ko e (datL s n u)=true:=by
  have:nextOf (qk e (datL s n u))<=1000000000:=hd
  rw [ko,on,decide_eq_true this]
  simp
 rw [mw ho rfl,mv dk on hi,hg]
 unfold sr camS
 rw [ro]
 rfl
theorem Mq {e:EndD} (ok:OkE e) {s:SubD} (hs:s∈e.subs) (h3:s.state=3) (S:SuE s) {n:Int} (hn:N9 n) (ow:ownsAddr e.own s.road.own=true):aG e (camS s n)=({ e with out:=came e.out n },[]):=by
 obtain⟨i,hi,rfl⟩:=R9 hs
 have lo:=N_ S hn
 have ro:roadOf (camS e.subs[i] n)=e.subs[i].road:=by rw [camS,bz,fF]
 have ho:bJ e (camS e.subs[i] n)=true:=by
  rw [bJ,bg.2 ok,lo]
  exact ow
 have sg:=Bh (x:=camS e.subs[i] n) ok hi h3 (by rw [ro]) rfl
 have on:=kj (bg.2 ok) lo sg
 rw [my ho rfl,p_ (by rw [on];omega)]
 rfl
def Chain (c:Int):List LetterD->Int->Prop
 |[],s=>c=s
 |x::l,s=>x.pos=c/\1<=x.text.length/\Chain (c+(x.text.length:Int)) l s
def toD (d:Int) (x:LetterD):Bool:=decide (x.kind=11) && decide (sideAt x.to=d)
theorem kW {d:Int} {x:LetterD}:toD d x=true↔x.kind=11/\sideAt x.to=d:=by simp [toD]
theorem sW {d:Int} {x:LetterD} (h:¬ x.kind=11):toD d x=false:=by simp [toD,h]
structure Tr (SS:List SubD) (V:List UInt8) (d snt base next:Int) (bag:List LetterD):Prop where
 ch:∃ c,c<=next/\Chain c (bag.filter (toD d)) snt
 gd:∀ x∈bag,toD d x=true->∃ s∈SS,s.state=3/\x=datL s x.pos x.text/\Slice V x.pos x.text/\x.text.length<=20
 ct:base=next\/(∃ s∈SS,s.state=3/\camS s next∈bag)\/∃ x∈bag,toD d x=true
 le:base<=next
theorem Bi {d:Int} {l m:List LetterD} (h:∀ y∈m,¬ y.kind=11):(l++m).filter (toD d)=l.filter (toD d):=by
 rw [Sj]
 have:m.filter (toD d)=[]:=Sb.2 fun y hy=>by rw [sW (h y hy)];decide
 rw [this,RY]
theorem Tr.data {SS:List SubD} {V:List UInt8} {d snt base next next':Int} {x:LetterD} {l:List LetterD} (T:Tr SS V d snt base next (x::l)) (hx:toD d x=true) {s:SubD} (hs:s∈SS) (h3:s.state=3) (hn:next<=next') (hp:x.pos<=next->x.pos+(x.text.length:Int)<=next'):Tr SS V d snt base next' (l++[camS s next']):=by
 have no:∀ y∈[camS s next'],¬ y.kind=11:=fun y hy=>by rw [R2.1 hy];show ¬ (12:Int)=11;decide
 obtain⟨c,c1,c2⟩:=T.ch
 rw [Ss hx] at c2
 obtain⟨c3,c4,c5⟩:=c2
 refine⟨⟨c+(x.text.length:Int),by have:=hp zO;omega,by rw [Bi no];exact c5⟩,fun y hy ht=>?_,.inr (.inl ⟨s,hs,h3,zP⟩),by have:=T.le;omega⟩
 rcases RW.1 hy with hy|hy
 ·exact T.gd y (RQ _ hy) ht
 exact absurd (kW.1 ht).1 (no y hy)
theorem Tr.keep {SS:List SubD} {V:List UInt8} {d snt base next:Int} {x:LetterD} {l m:List LetterD} (T:Tr SS V d snt base next (x::l)) (hx:toD d x=false) (hc:∀ s∈SS,s.state=3->¬ x=camS s next) (hm:∀ y∈m,¬ y.kind=11):Tr SS V d snt base next (l++m):=by
 obtain⟨c,c1,c2⟩:=T.ch
 rw [Su (by rw [hx];decide)] at c2
 refine⟨⟨c,c1,by rw [Bi hm];exact c2⟩,fun y hy ht=>?_,?_,T.le⟩
 ·rcases RW.1 hy with hy|hy
  ·exact T.gd y (RQ _ hy) ht
  exact absurd (kW.1 ht).1 (hm y hy)
 rcases T.ct with h|⟨s,s1,s2,s3⟩|⟨y,y1,y2⟩
 ·exact .inl h
 ·rcases R5.1 s3 with e|s3
  ·exact absurd e.symm (hc s s1 s2)
  exact .inr (.inl ⟨s,s1,s2,RR _ s3⟩)
 rcases R5.1 y1 with e|y1
 ·rw [e,hx] at y2;cases y2
 exact .inr (.inr ⟨y,RR _ y1,y2⟩)
theorem Tr.came {SS:List SubD} {V:List UInt8} {d snt base base' next:Int} {x:LetterD} {l:List LetterD} (T:Tr SS V d snt base next (x::l)) (hx:¬ x.kind=11) (h1:base<=base') (h2:base'<=next) (hc:∀ s∈SS,s.state=3->x=camS s next->base'=next):Tr SS V d snt base' next (l++[]):=by
 rw [RY]
 obtain⟨c,c1,c2⟩:=T.ch
 rw [Su (by rw [sW hx];decide)] at c2
 refine⟨⟨c,c1,c2⟩,fun y hy ht=>T.gd y (RQ _ hy) ht,?_,h2⟩
 rcases T.ct with h|⟨s,s1,s2,s3⟩|⟨y,y1,y2⟩
 ·exact .inl zO
 ·rcases R5.1 s3 with e|s3
  ·exact .inl (hc s s1 s2 e.symm)
  exact .inr (.inl ⟨s,s1,s2,s3⟩)
 rcases R5.1 y1 with e|y1
 ·rw [e,sW hx] at y2;cases y2
 exact .inr (.inr ⟨y,y1,y2⟩)
structure FE (e:EndD) (SE SO:List SubD) (VE VO:List UInt8) (d:Int):Prop where
 ok:OkE e
 sm:SmallP e.inp
 subs:e.subs=SE
 ii:∃ R,InI VO R e.inp
 oi:OutI VE e.out
 len:(VO.length:Int)<=1000000000/\(VE.length:Int)<=1000000000
 room:(VO.length:Int) - e.inp.read<=200
 pr:∀ s∈SO,s.state=3->SuE s/\¬ sideAt s.road.own=d/\ownsAddr e.own s.road.far=true/\∃ t∈SE,t.state=3/\t.road=bk s.road/\t.take=s.give/\t.give=s.take
 me:∀ s∈SE,s.state=3->SuE s/\ownsAddr e.own s.road.own=true
theorem Iv {e:EndD} {x:LetterD} (k:x.kind=8\/x.kind=9):(aG e x).1.inp=e.inp/\(aG e x).1.out=e.out:=by
 have F:=eD e x
 generalize aG e x=r at F
 cases F with
 |stay=>exact⟨rfl,rfl⟩
 |other r k=>omega
 |join1 k=>omega
 |join2 k=>omega
 |back k=>omega
 |done1 k=>omega
 |done2 k=>omega
 |ack k=>omega
 |addr=>exact⟨rfl,rfl⟩
 |echo=>exact⟨rfl,rfl⟩
 |data k=>omega
 |came k=>omega
theorem EZ {o:OutD} {n:Int}:o.base<=(came o n).base:=by
 unfold came;split
 ·rename_i h;have:=h.2.1;dsimp only;omega
 exact Sw _
theorem InI.next_le {V R:List UInt8} {p:PiecesD} (I:InI V R p) (F:FineP p):nextOf p<=V.length:=by
 obtain⟨T,hT⟩:=I.pre
 rw [F.next,I.read,hT]
 simp only [RP];omega
theorem E0 {e:EndD} {SE SO:List SubD} {VE VO:List UInt8} {d d' sO baseO sE nextO:Int} {x:LetterD} {l:List LetterD} (F:FE e SE SO VE VO d) (k:x.kind=8\/x.kind=9\/x.kind=11\/x.kind=12) (hx:sideAt x.to=d) (hd:¬ d=d')
  (TI:Tr SO VO d sO baseO (nextOf e.inp) (x::l)) (TO:Tr SE VE d' sE e.out.base nextO (x::l)) (n12:x.kind=12->x.pos<=nextO) (nO:nextO<=VE.length):
  (aG e x).1.inp.read=e.inp.read/\Tr SO VO d sO baseO (nextOf (aG e x).1.inp) (l++(aG e x).2)/\Tr SE VE d' sE (aG e x).1.out.base nextO (l++(aG e x).2):=by
 have M:=lX (e:=e) k
 have no:∀ y∈(aG e x).2,¬ y.kind=11:=fun y hy=>by have:=M.lt y hy;omega
 have xd':toD d' x=false:=by
  rw [<-R4,kW];rintro⟨_,h⟩;omega
 have notO:∀ n,∀ s∈SO,s.state=3->¬ x=camS s n:=fun n s hs h3 hc=>by
  have:sideAt x.to=sideAt s.road.own:=by rw [hc];rfl
  exact (F.pr s hs h3).2.1 (this.symm.trans hx)
 have fp:=ax F.ok.inp F.sm
 rcases k with k|k|k|k
 ·obtain⟨i1,i2⟩:=Iv (e:=e) (x:=x) (.inl k)
  rw [i1,i2]
  exact⟨rfl,TI.keep (sW zO) (notO _) no,TO.keep xd' (fun s _ _ hc=>by rw [hc] at k;cases k) no⟩
 ·obtain⟨i1,i2⟩:=Iv (e:=e) (x:=x) (.inr k)
  rw [i1,i2]
  exact⟨rfl,TI.keep (sW zO) (notO _) no,TO.keep xd' (fun s _ _ hc=>by rw [hc] at k;cases k) no⟩
 ·have xd:toD d x=true:=kW.2 ⟨k,hx⟩
  obtain⟨s,s1,s2,s3,s4,s5⟩:=TI.gd x (RS ..) xd
  obtain⟨p1,p2,p3,t,t1,t2,t3,t4,t5⟩:=F.pr s s1 s2
  obtain⟨R,I⟩:=F.ii
  have I':=rf I F.sm s4
  have ok':piecesOk (putPiece e.inp x.pos x.text)=true:=by
   rcases kS e.inp x.pos x.text with h|h
   ·rw [h];exact F.ok.inp
   exact h
  have fp':=ax ok' (kp F.sm)
  have nl:=I'.next_le fp'
  have q:=s4.2.1
  have q0:=s4.1
  have hh:=Mp (n:=x.pos) (u:=x.text) F.ok (by rw [F.subs];exact t1) t2 t3 t4 t5 p1 ⟨q0,by have:=F.len.1;omega⟩ s5 p3 (by have:=F.len.1;omega)
  rw [<-s3] at hh
  rw [hh]
  dsimp only
  have nx:=yp (n:=x.pos) (t:=x.text) F.sm F.ok.inp
  refine⟨(vi _ _ _).1,TI.data xd s1 s2 nx fun hle=>?_,?_⟩
  ·obtain⟨c,c1,c2⟩:=TI.ch
   rw [Ss xd] at c2
   exact Mo I F.ok.inp F.sm s4 hle ⟨c2.2.1,zO⟩ F.len.1 F.room
  rw [hh] at no
  exact TO.keep xd' (fun s _ _ hc=>by rw [hc] at k;cases k) no
 have ndx:¬ x.kind=11:=zO
 have pos:=n12 k
 by_cases hc:∃ s∈SE,s.state=3/\x=camS s nextO
 ·obtain⟨s,s1,s2,s3⟩:=hc
  obtain⟨m1,m2⟩:=F.me s s1 s2
  have b0:=F.oi.base
  have le:=TO.le
  have hh:=Mq (n:=nextO) F.ok (by rw [F.subs];exact s1) s2 m1 ⟨zO,by have:=F.len.2;omega⟩ m2
  rw [<-s3] at hh
  rw [hh] at no⊢
  dsimp only
  have cb:(Go.Proofs.YteknmpdmhiomgaaGreat.came e.out nextO).base=nextO:=by
   unfold Go.Proofs.YteknmpdmhiomgaaGreat.came
   have fo:=cg F.ok.out
   by_cases hlt:e.out.base < nextO
   ·have r1:=fo.room;have r2:=fo.len;have r3:=fo.base
    rw [if_pos ⟨F.ok.out,hlt,by rw [yV zO];omega⟩]
   rw [if_neg (fun h=>hlt h.2.1)];omega
  refine⟨rfl,TI.keep (sW ndx) (notO _) no,TO.came ndx EZ zO fun _ _ _ _=>cb⟩
 have cond:∀ b',∀ s∈SE,s.state=3->x=camS s nextO->b'=nextO:=fun b' s s1 s2 s3=>absurd ⟨s,s1,s2,s3⟩ hc
 have G:=eD e x
 generalize aG e x=r at G no
 cases G with
 |stay=>exact⟨rfl,TI.keep (sW ndx) (notO _) no,TO.came ndx (Sw _) TO.le (cond _)⟩
 |other r k=>omega
 |join1 k=>omega
 |join2 k=>omega
 |back k=>omega
 |done1 k=>omega
 |done2 k=>omega
 |ack k=>omega
 |addr k=>omega
 |echo k=>omega
 |data k=>omega
 |came k n hn h3 hr hs=>exact⟨rfl,TI.keep (sW ndx) (notO _) no,TO.came ndx EZ (ud TO.le pos) (cond _)⟩
structure Stl (SA SB:List SubD):Prop where
 ab:∀ s∈SA,s.state=3->∃ t∈SB,t.state=3/\t.road=bk s.road/\t.take=s.give/\t.give=s.take
 ba:∀ t∈SB,t.state=3->∃ s∈SA,s.state=3/\s.road=bk t.road/\s.take=t.give/\s.give=t.take
theorem G2 {p:PolicyD} {w:WorldD} (h:fI p w=0):∀ r∈W p w,isOn w r=true:=fun r hr=>by
 have e:=Si (show ((W p w).filter fun r=> !isOn w r).length=0 from h)
 have:=Sb.1 e r hr
 simpa using this
theorem Ms {p:PolicyD} {w:WorldD} {k:Nat} (L:LV p w k) (h:fI p w=0):∀ s∈w.a.subs,s.state=3\/s.state=4:=fun s hs=>by
 obtain⟨t,t1,t2,t3⟩:=iN.1 (G2 h _ (L.cw.e.want s hs))
 by_cases h4:s.state=4
 ·exact .inr h4
 have:=oq L.c.oka.subs hs t1 h4 zO t3.symm
 rw [this];exact .inl t2
theorem Oa {p:PolicyD} {w:WorldD} {k:Nat} (L:LV p w k) (h:fI p w=0):Stl w.a.subs w.b.subs:=by
 have C:=L.c
 have E:=L.cw.e
 have ab:∀ s∈w.a.subs,s.state=3->∃ t∈w.b.subs,t.state=3/\t.road=bk s.road/\t.take=s.give/\t.give=s.take:=fun s hs h3=>by
  obtain⟨t,t1,t2,t3,t4⟩:=(C.sa s hs).on h3
  exact⟨t,t1,E.cs.on s hs zO t t1 t4,t2,t3,t4⟩
 refine⟨ab,fun t ht h3=>?_⟩
 obtain⟨s,s1,s2,s3,s4,s5⟩:=(C.sb t ht).like
 rcases Ms L h s s1 with g|g
 ·exact⟨s,s1,g,s3,s4,s5⟩
 exfalso
 obtain⟨s',r1,r2,r3⟩:=iN.1 (G2 h _ (E.want s s1))
 obtain⟨t',q1,q2,q3,q4,q5⟩:=ab s' r1 r2
 have:t'=t:=oq C.okb.subs q1 ht zO zO (by rw [q3,r3,s3,fF])
 rw [this] at q5
 have:s'=s:=kz C.sad r1 s1 (by rw [s4,q5])
 rw [this] at r2;omega
structure Fl (SA SB:List SubD) (VA VB:List UInt8) (sa sb ra rb:Int) (u:WorldD):Prop where
 a:u.a.subs=SA
 b:u.b.subs=SB
 wa:u.wroteA=VA
 wb:u.wroteB=VB
 k:∀ x∈u.bag,x.kind=8\/x.kind=9\/x.kind=11\/x.kind=12
 ra:u.a.inp.read=ra
 rb:u.b.inp.read=rb
 ta:Tr SA VA 2 sa u.a.out.base (nextOf u.b.inp) u.bag
 tb:Tr SB VB 1 sb u.b.out.base (nextOf u.a.inp) u.bag
theorem Fl.step {p:PolicyD} {u:WorldD} {k:Nat} {SA SB:List SubD} {VA VB:List UInt8} {sa sb ra rb:Int} (hp:p∈pols) (L:LV p u k) (hl:u.bag.length<=40) (hne:¬ u.bag=[]) (St:Stl SA SB)
  (lA:(VA.length:Int)<=1000000000) (lB:(VB.length:Int)<=1000000000) (roA:(VB.length:Int) - ra<=200) (roB:(VA.length:Int) - rb<=200) (Q:Fl SA SB VA VB sa sb ra rb u):Fl SA SB VA VB sa sb ra rb (dlv u):=by
 obtain⟨x,l,hb⟩:=ot hne
 have C:=L.c
 have E:=L.cw.e
 have X:=L.cw.x hb
 have kx:=Q.k x (by rw [hb];exact RS ..)
 have ta:=Q.ta
 have tb:=Q.tb
 rw [hb] at ta tb
 have fa:=ax C.oka.inp L.ga
 have fb:=ax C.okb.inp L.gb
 have na:=C.iia.next_le fa
 have nb:=C.iib.next_le fb
 have owb:∀ s∈SA,ownsAddr u.b.own s.road.far=true:=fun s hs=>GO hp C E (by rw [Q.a];exact hs)
 have owa:∀ s∈SA,ownsAddr u.a.own s.road.own=true:=fun s hs=>CI hp C E (by rw [Q.a];exact hs)
 rcases e6 x.to with h0|h0|h0
 ·exact absurd h0 X.to
 ·obtain⟨ea,eb,eg,w1,w2,_,_⟩:=EO hp L hb hl h0
  have M:=lX (e:=u.a) kx
  have F:FE u.a SA SB VA VB 1:=by
   refine⟨C.oka,L.ga,Q.a,⟨u.readA,by rw [<-Q.wb];exact C.iia⟩,by rw [<-Q.wa];exact C.oia,⟨lB,lA⟩,by rw [Q.ra];exact roA,fun t ht h3=>?_,fun s hs h3=>⟨C.oka.subs.el s (by rw [Q.a];exact hs),owa s hs⟩⟩
   have ht':t∈u.b.subs:=by rw [Q.b];exact ht
   obtain⟨s,s1,s2,s3,s4,s5⟩:=St.ba t ht h3
   have:=(farB C ht').2
   refine⟨C.okb.subs.el t ht',zO,?_,s,s1,s2,s3,s4,s5⟩
   have:=owa s s1
   rw [s3] at this
   exact this
  obtain⟨r1,r2,r3⟩:=E0 F kx h0 zD tb ta (fun k=>X.k12a k h0) (by rw [<-Q.wa];exact nb)
  refine⟨by rw [ea,M.subs];exact Q.a,by rw [eb];exact Q.b,w1.trans Q.wa,w2.trans Q.wb,fun y hy=>?_,by rw [ea,r1];exact Q.ra,by rw [eb];exact Q.rb,by rw [ea,eb,eg];exact r3,by rw [ea,eb,eg];exact r2⟩
  rw [eg] at hy
  rcases RW.1 hy with hy|hy
  ·exact Q.k y (by rw [hb];exact RQ _ hy)
  have:=M.lt y hy;omega
 obtain⟨eb,ea,eg,w1,w2,_,_⟩:=EP hp L hb hl h0
 have M:=lX (e:=u.b) kx
 have F:FE u.b SB SA VB VA 2:=by
  refine⟨C.okb,L.gb,Q.b,⟨u.readB,by rw [<-Q.wa];exact C.iib⟩,by rw [<-Q.wb];exact C.oib,⟨lA,lB⟩,by rw [Q.rb];exact roB,fun s hs h3=>?_,fun t ht h3=>⟨C.okb.subs.el t (by rw [Q.b];exact ht),?_⟩⟩
  ·have hs':s∈u.a.subs:=by rw [Q.a];exact hs
   have:=(C.sa s hs').own
   exact⟨C.oka.subs.el s hs',zO,owb s hs,St.ab s hs h3⟩
  obtain⟨s,s1,s2,s3,s4,s5⟩:=St.ba t ht h3
  have:=owb s s1
  rw [s3] at this
  exact this
 obtain⟨r1,r2,r3⟩:=E0 F kx h0 zD ta tb (fun k=>X.k12b k h0) (by rw [<-Q.wb];exact na)
 refine⟨by rw [ea];exact Q.a,by rw [eb,M.subs];exact Q.b,w1.trans Q.wa,w2.trans Q.wb,fun y hy=>?_,by rw [ea];exact Q.ra,by rw [eb,r1];exact Q.rb,by rw [ea,eb,eg];exact r2,by rw [ea,eb,eg];exact r3⟩
 rw [eg] at hy
 rcases RW.1 hy with hy|hy
 ·exact Q.k y (by rw [hb];exact RQ _ hy)
 have:=M.lt y hy;omega
theorem E2 (o:OutD):(bU o).length=min 20 (o.text.length - (o.sent - o.base).toNat):=by
 unfold bU
 rw [SL,Sp]
theorem sY {V:List UInt8}:∀ {k:Nat} {e:EndD},OkE e->OutI V e.out->(∃ s∈e.subs,s.state=3)->∃ snt,Chain e.out.sent (pushN k e).2 snt/\(e.out.sent+20*(k:Int)<=snt\/e.out.base+(e.out.text.length:Int)<=snt)/\∀ y∈(pushN k e).2,y.kind=11/\∃ s∈e.subs,s.state=3/\y=datL s y.pos y.text/\Slice V y.pos y.text/\y.text.length<=20
 |0,e,ok,O,on=>⟨e.out.sent,rfl,.inl zO,fun y hy=>by simp [pushN] at hy⟩
 |k+1,e,ok,O,on=>by
  have fo:=cg ok.out
  have r1:=fo.base;have r2:=fo.room;have r3:=fo.len;have r4:=fo.sent
  by_cases hn:fZ e.out=true
  ·have hc:(eH e.subs).length≠0:=by
    obtain⟨s,s1,s2⟩:=on
    have:gV e.subs≠[]:=fun hc=>by
     have:=(BG (l:=e.subs) (p:=fun _=>true))
     rw [hc] at this
     have h:(e.subs.any fun s=>s.state == 3 && true)=true:=RZ.2 ⟨s,s1,by simp [s2]⟩
     rw [h] at this
     simp at this
    have l0:=SC.2 this
    unfold eH
    split
    ·omega
    rename_i h;exact h
   have ns:0<=bc e:=by
    rw [bc,if_pos ⟨bg.2 ok,hc⟩]
    exact Int.natCast_nonneg _
   have pk:gN e=true:=by rw [gN,hn,decide_eq_true ns];rfl
   obtain⟨s,s1,s2,s3⟩:=ys ns
   have pe:cB e=({ e with out:=eN e.out,pick:=gM e.pick },[uU s e.out]):=by rw [cB,if_pos pk,s3]
   have wt:eN e.out={ e.out with sent:=e.out.sent+((bU e.out).length:Int) }:=QB hn
   have len:=E2 e.out
   have lt:e.out.sent < e.out.base+(e.out.text.length:Int):=by
    have h:=hn
    simp only [fZ,RU,R8,decide_eq_false_iff_not] at h
    omega
   have ok1:=vH ok
   rw [pe] at ok1
   have O1:OutI V (eN e.out):=t_ O
   obtain⟨snt,c1,c2,c3⟩:=sY (k:=k) (e:={ e with out:=eN e.out,pick:=gM e.pick }) ok1 O1 on
   rw [pushN,pe]
   dsimp only at c1 c2 c3⊢
   have e1:(eN e.out).sent=e.out.sent+((bU e.out).length:Int):=by rw [wt]
   have e2:(eN e.out).base=e.out.base:=by rw [wt]
   have e3:(eN e.out).text=e.out.text:=by rw [wt]
   rw [e1] at c1
   rw [e1,e2,e3] at c2
   refine⟨snt,⟨rfl,?_,?_⟩,?_,fun y hy=>?_⟩
   ·show 1<=(bU e.out).length;omega
   ·exact c1
   ·rcases c2 with c2|c2
    ·by_cases h20:(bU e.out).length=20
     ·exact .inl zO
     exact .inr zO
    exact .inr c2
   rcases R5.1 hy with rfl|hy
   ·refine⟨rfl,s,s1,s2,rfl,mQ O ok.out,?_⟩
    show (bU e.out).length<=20;omega
   exact c3 y hy
  have pk:gN e=false:=by rw [gN];simp [hn]
  have pe:cB e=(e,[]):=F3 pk
  have en:e.out.sent=e.out.base+(e.out.text.length:Int):=by
   have h:=hn
   simp only [fZ,RU,R8,decide_eq_false_iff_not,not_and,Decidable.not_not] at h
   exact h ok.out
  obtain⟨snt,c1,c2,c3⟩:=sY (k:=k) ok O on
  rw [pushN,pe]
  exact⟨snt,c1,.inr zO,c3⟩
theorem G3 {c:Int} {l:List LetterD} {snt:Int} (h:Chain c l snt) (he:l=[]):c=snt:=by rw [he] at h;exact h
theorem E3 {SS:List SubD} {V:List UInt8} {d snt base next E:Int} {P bag:List LetterD} (hf:bag.filter (toD d)=P) (hb:∀ y∈P,y∈bag) (ch:Chain base P snt) (c2:base+60<=snt\/E<=snt) (le:base<=next) (ne:next<=E)
  (gd:∀ y∈P,∃ s∈SS,s.state=3/\y=datL s y.pos y.text/\Slice V y.pos y.text/\y.text.length<=20):Tr SS V d snt base next bag:=by
 refine⟨⟨base,le,by rw [hf];exact ch⟩,fun x hx ht=>gd x (by rw [<-hf];exact R7.2 ⟨hx,ht⟩),?_,le⟩
 cases hP:P with
 |nil=>
  have:=G3 ch hP
  exact .inl zO
 |cons y r=>
  have hy:y∈bag.filter (toD d):=by rw [hf,hP];exact RS ..
  obtain⟨h1,h2⟩:=R7.1 hy
  exact .inr (.inr ⟨y,h1,h2⟩)
theorem yG {d:Int} {l:List LetterD} (h:∀ y∈l,toD d y=true):l.filter (toD d)=l:=List.filter_eq_self.2 h
theorem ie {d:Int} {l:List LetterD} (h:∀ y∈l,toD d y=false):l.filter (toD d)=[]:=Sb.2 fun y hy=>by rw [h y hy];decide
theorem Begun.fl {p:PolicyD} {w v:WorldD} {k:Nat} {la lb:List LetterD} (hp:p∈pols) (L:LV p w k) (B:Begun p w v k [] la lb) (ho:fI p w=0):
  ∃ sa sb,Fl w.a.subs w.b.subs w.wroteA w.wroteB sa sb w.a.inp.read w.b.inp.read v/\(w.a.out.base+60<=sa\/(w.wroteA.length:Int)<=sa)/\(w.b.out.base+60<=sb\/(w.wroteB.length:Int)<=sb):=by
 have C:=L.c
 have E:=L.cw.e
 have stA:=Ms L ho
 have stB:∀ t∈w.b.subs,t.state=3\/t.state=4:=fun t ht=>(C.sb t ht).st
 have m:=B.man
 rw [RY] at m
 have subsA:(w.a.subs++[]).map tickS=w.a.subs:=by rw [RY,yu stA]
 have oka:=B.oka
 have okb:=B.okb
 rw [subsA] at oka
 obtain⟨ra,hra⟩:=E.cs.a0
 obtain⟨rb,hrb⟩:=E.cs.b0
 have onA:∃ s∈w.a.subs,s.state=3:=⟨subA0,by rw [hra];exact RS ..,rfl⟩
 have onB:∃ s∈w.b.subs,s.state=3:=⟨subB0,by rw [hrb];exact RS ..,rfl⟩
 obtain⟨A,hA⟩:∃ A:EndD,A={ tick0 (manage w.a).1 with subs:=w.a.subs }:=⟨_,rfl⟩
 obtain⟨D,hD⟩:∃ D:EndD,D={ tick0 w.b with subs:=w.b.subs }:=⟨_,rfl⟩
 have eA:=B.ea
 have eB:=B.eb
 have lA:=B.la_
 have lB:=B.lb_
 rw [subsA,<-hA] at eA lA
 rw [<-hD] at eB lB okb
 rw [<-hA] at oka
 have sA:A.subs=w.a.subs:=by rw [hA]
 have sD:D.subs=w.b.subs:=by rw [hD]
 have oA:A.out=dQ w.a.out:=by rw [hA];show dQ (manage w.a).1.out=_;rw [m]
 have oD:D.out=dQ w.b.out:=by rw [hD];rfl
 have iA:A.inp=w.a.inp:=by rw [hA];show (manage w.a).1.inp=_;rw [m]
 have iD:D.inp=w.b.inp:=by rw [hD];rfl
 have anA:dQ w.a.out={ w.a.out with sent:=w.a.out.base }:=by rw [dQ,if_pos C.oka.out]
 have anB:dQ w.b.out={ w.b.out with sent:=w.b.out.base }:=by rw [dQ,if_pos C.okb.out]
 obtain⟨sa,ca1,ca2,ca3⟩:=sY (V:=w.wroteA) (k:=3) oka (by rw [oA];exact Cy C.oia) (by rw [sA];exact onA)
 obtain⟨sb,cb1,cb2,cb3⟩:=sY (V:=w.wroteB) (k:=3) okb (by rw [oD];exact Cy C.oib) (by rw [sD];exact onB)
 rw [oA,anA] at ca1 ca2
 rw [oD,anB] at cb1 cb2
 dsimp only at ca1 ca2 cb1 cb2
 have WA:=C.oia.base.2
 have WB:=C.oib.base.2
 have fa:=ax C.oka.inp L.ga
 have fb:=ax C.okb.inp L.gb
 have na:=C.iia.next_le fa
 have nb:=C.iib.next_le fb
 have bag:v.bag=la++lb:=by
  rw [B.bag,RY,CF stA]
  rfl
 have pA:∀ y∈(pushN 3 A).2,toD 2 y=true/\toD 1 y=false:=fun y hy=>by
  obtain⟨k1,s,s1,s2,s3,_⟩:=ca3 y hy
  rw [sA] at s1
  have:=(C.sa s s1).far
  have e:sideAt y.to=2:=by rw [s3];exact this
  refine⟨kW.2 ⟨k1,e⟩,?_⟩
  rw [<-R4,kW];omega
 have pB:∀ y∈(pushN 3 D).2,toD 1 y=true/\toD 2 y=false:=fun y hy=>by
  obtain⟨k1,s,s1,s2,s3,_⟩:=cb3 y hy
  rw [sD] at s1
  have:=(farB C s1).1
  have e:sideAt y.to=1:=by rw [s3];exact this
  refine⟨kW.2 ⟨k1,e⟩,?_⟩
  rw [<-R4,kW];omega
 have tk:∀ {d:Int} {e:EndD},∀ y∈tellAddrs e,toD d y=false:=fun y hy=>sW (by rw [ug y hy];decide)
 have f2:v.bag.filter (toD 2)=(pushN 3 A).2:=by
  rw [bag,lA,lB]
  simp only [Sj]
  rw [ie tk,ie tk,yG fun y hy=>(pA y hy).1,ie fun y hy=>(pB y hy).2]
  simp
 have f1:v.bag.filter (toD 1)=(pushN 3 D).2:=by
  rw [bag,lA,lB]
  simp only [Sj]
  rw [ie tk,ie tk,ie fun y hy=>(pA y hy).2,yG fun y hy=>(pB y hy).1]
  simp
 have mA:=ff (k:=3) (e:=A)
 have mB:=ff (k:=3) (e:=D)
 rw [<-eA] at mA
 rw [<-eB] at mB
 have bA:v.a.out.base=w.a.out.base:=by rw [mA.base,oA,anA]
 have bB:v.b.out.base=w.b.out.base:=by rw [mB.base,oD,anB]
 have ia:v.a.inp=w.a.inp:=mA.inp.trans iA
 have ib:v.b.inp=w.b.inp:=mB.inp.trans iD
 refine⟨sa,sb,⟨mA.subs.trans sA,mB.subs.trans sD,B.wr.1,B.wr.2.1,fun x hx=>?_,by rw [ia],by rw [ib],?_,?_⟩,?_,?_⟩
 ·rw [bag] at hx;have:=B.oth x hx;omega
 ·rw [bA,ib]
  exact E3 (E:=(w.wroteA.length:Int)) f2 (fun y hy=>by rw [bag,lA];exact RR _ (R1 _ hy)) ca1 zO E.baseA nb (fun y hy=>by obtain⟨_,s,s1,s2⟩:=ca3 y hy;exact⟨s,by rw [<-sA];exact s1,s2⟩)
 ·rw [bB,ia]
  exact E3 (E:=(w.wroteB.length:Int)) f1 (fun y hy=>by rw [bag,lB];exact R1 _ (R1 _ hy)) cb1 zO E.baseB na (fun y hy=>by obtain⟨_,s,s1,s2⟩:=cb3 y hy;exact⟨s,by rw [<-sD];exact s1,s2⟩)
 ·omega
 omega
theorem E4 {e:EndD} (ok:OkE e) (S:SmallP e.inp) (h:nextOf e.inp<=1000000000):(az e 200).1.inp.ready=[]:=by
 have F:=ax ok.inp S
 have nx:=F.next
 have rd:=F.ready
 have tn:tQ e.inp 200=e.inp.ready.length:=by
  unfold tQ
  have:(200:Int).toNat=200:=rfl
  omega
 have tk:qw e.inp 200=true:=by
  simp only [qw,RU,decide_eq_true_eq]
  exact⟨⟨ok.inp,by decide⟩,by rw [tn];omega⟩
 rw [su (bg.2 ok)]
 dsimp only
 rw [O4 tk]
 dsimp only
 rw [tn,List.drop_length]
structure Dry (w:WorldD):Prop where
 a:w.a.inp.ready=[]
 b:w.b.inp.ready=[]
theorem E5 (v:WorldD):(cH v).a.out=v.a.out/\(cH v).b.out=v.b.out/\(cH v).wroteA=v.wroteA/\(cH v).wroteB=v.wroteB:=by
 rw [mS]
 exact⟨by show (az v.a 200).1.out=_;rw [gP],by show (az v.b 200).1.out=_;rw [gP],rfl,rfl⟩
theorem Ob {p:PolicyD} {v:WorldD} {k:Nat} (L:LV p v k) (lA:(v.wroteA.length:Int)<=1000000000) (lB:(v.wroteB.length:Int)<=1000000000):Dry (cH v)/\nextOf (cH v).a.inp=nextOf v.a.inp/\nextOf (cH v).b.inp=nextOf v.b.inp:=by
 have C:=L.c
 have fa:=ax C.oka.inp L.ga
 have fb:=ax C.okb.inp L.gb
 have na:=C.iia.next_le fa
 have nb:=C.iib.next_le fb
 rw [mS]
 exact⟨⟨E4 C.oka L.ga zO,E4 C.okb L.gb zO⟩,ph L.ga C.oka,ph L.gb C.okb⟩
theorem Mu {p:PolicyD} {w:WorldD} {k:Nat} {news:List SubD} {la lb:List LetterD} (hp:p∈pols) (L:LV p w k) (hk:k<=900000) (hn:news=[]) (B:Begun p w (calm3 w) k news la lb) (ho:fI p w=0) (D:Dry w) (h8:(calmRound w).b.subs.length < 8) (lA:(w.wroteA.length:Int)<=1000000000) (lB:(w.wroteB.length:Int)<=1000000000):
  (w.a.out.base+60<=(calmRound w).a.out.base\/(w.wroteA.length:Int)<=(calmRound w).a.out.base)/\(w.b.out.base+60<=(calmRound w).b.out.base\/(w.wroteB.length:Int)<=(calmRound w).b.out.base):=by
 subst hn
 have h8':(aY 400 (calm3 w)).b.subs.length < 8:=by rw [<-(fv _).2.1];exact h8
 have hw:wt (calm3 w).bag<=400:=by have:=ES (l:=(calm3 w).bag);have:=B.fewer;omega
 obtain⟨sa,sb,F,g1,g2⟩:=B.fl hp L ho
 have C:=L.c
 have E:=L.cw.e
 have S:=Oa L ho
 have oA:=C.oia.base.2
 have oB:=C.oib.base.2
 have foA:=cg C.oka.out
 have foB:=cg C.okb.out
 have l1:=foA.len;have l2:=foB.len
 have r1:=E.room.1;have r2:=E.room.2
 have fa:=ax C.oka.inp L.ga
 have fb:=ax C.okb.inp L.gb
 have na:=fa.next;have nb:=fb.next
 rw [D.a,Sg] at na
 rw [D.b,Sg] at nb
 have b1:=E.baseA;have b2:=E.baseB
 have st:=fun (u:WorldD) (k:Nat) (L:LV p u k) (hk:k<=1000000) (hl:u.bag.length<=40) (h8:u.b.subs.length < 8) (hne:¬ u.bag=[]) (Q:Fl w.a.subs w.b.subs w.wroteA w.wroteB sa sb w.a.inp.read w.b.inp.read u)=>Q.step hp L hl hne S lA lB zO zO
 obtain⟨q1,q2,q3⟩:=jd hp (K:=1000000) st (n:=400) B.lv zO B.fewer hw h8' F
 have e:=E5 (aY 400 (calm3 w))
 have ec:calmRound w=cH (aY 400 (calm3 w)):=rfl
 rw [ec,e.1,e.2.1]
 have fin:∀ {SS:List SubD} {V:List UInt8} {d snt base next:Int},Tr SS V d snt base next []->snt<=base:=fun T=>by
  obtain⟨c,c1,c2⟩:=T.ch
  have c2:c=_:=c2
  rcases T.ct with h|⟨s,_,_,h⟩|⟨x,h,_⟩
  ·omega
  ·simp at h
  simp at h
 have ta:=q1.ta
 have tb:=q1.tb
 rw [q3] at ta tb
 have h1:=fin ta
 have h2:=fin tb
 exact⟨zO,zO⟩
structure RdLe (w w':WorldD):Prop where
 a:w.readA <+:w'.readA
 b:w.readB <+:w'.readB
theorem RdLe.refl (w:WorldD):RdLe w w:=⟨Sa,Sa⟩
theorem RdLe.of_eq {w w':WorldD} (ha:w'.readA=w.readA) (hb:w'.readB=w.readB):RdLe w w':=⟨by rw [ha];exact Sa,by rw [hb];exact Sa⟩
theorem RdLe.trans {u v w:WorldD} (h:RdLe u v) (k:RdLe v w):RdLe u w:=⟨h.a.trans k.a,h.b.trans k.b⟩
theorem sZ {side:Int} {l:List LetterD} {w:WorldD}:(al side w l).readA=w.readA/\(al side w l).readB=w.readB:=by
 have:=bx (side:=side) (w:=w) (l:=l)
 exact⟨this.2.2.2.2.1,this.2.2.2.2.2⟩
theorem l5 {s:Int} {w:WorldD} {e:EndD}:(aL w s e).readA=w.readA/\(aL w s e).readB=w.readB:=by
 unfold aL;split<;>exact⟨rfl,rfl⟩
theorem E6 {w:WorldD} {x:LetterD}:(cU w x).readA=w.readA/\(cU w x).readB=w.readB:=by
 unfold cU gL
 repeat' split
 all_goals first
  |exact⟨rfl,rfl⟩
  |exact⟨(sZ).1.trans (l5).1,(sZ).2.trans (l5).2⟩
  |exact l5
theorem Oc {w:WorldD} {a:ActD}:RdLe w (dE w a):=by
 unfold dE;split
 ·unfold eT;split<;>exact .of_eq rfl rfl
 split
 ·unfold cj;split
  ·exact⟨SG ..,Sa⟩
  exact⟨Sa,SG ..⟩
 exact RdLe.refl _
theorem l6 {w:WorldD} {a:ActD}:RdLe w (aJ w a).1:=by
 unfold aJ;split
 ·split
  ·unfold dR;split
   ·exact RdLe.refl _
   exact Oc.trans (.of_eq ((sZ).1.trans (l5).1) ((sZ).2.trans (l5).2))
  unfold cc;repeat' split
  all_goals first
   |exact .of_eq rfl rfl
   |exact .of_eq (E6).1 (E6).2
 exact RdLe.refl _
theorem Bk:∀ {n:Nat} {w:WorldD},RdLe w (aY n w)
 |0,w=>RdLe.refl w
 |n+1,w=>by
  rw [aY];split
  ·exact RdLe.refl w
  exact l6.trans Bk
theorem CK {w:WorldD}:RdLe w (calmRound w):=
 ((l6.trans (l6.trans l6)).trans Bk).trans (l6.trans l6)
theorem E7:∀ {n:Nat} {w:WorldD},RdLe w (bI n w)
 |0,w=>RdLe.refl w
 |n+1,w=>CK.trans E7
theorem zC {w:WorldD} {n:Int}:RdLe w (eR w n):=E7
theorem pi {w:WorldD} {a:ActD} {k:Nat} (h:Life w k) (h1:¬ a.kind=1) (h2:¬ a.kind=2):Life (aJ w a).1 k:=
 ⟨eO h.g h1 h2,A5 h.i h.g.a.p h.g.b.p,ya h.n⟩
theorem vk:∀ {n:Nat} {w:WorldD} {k:Nat},Life w k->Life (aY n w) k
 |0,w,k,h=>h
 |n+1,w,k,h=>by
  rw [aY];split
  ·exact h
  exact vk (pi h (by simp [ar]) (by simp [ar]))
theorem yH {w:WorldD} {k:Nat} (h:Life w k):Life (calmRound w) (k+2):=
 ((vk (pi (pi (pi h (by simp [ar]) (by simp [ar])) (by simp [ar]) (by simp [ar])) (by simp [ar]) (by simp [ar]))).step (by simp [ar])).step (by simp [ar])
theorem rj:∀ {n:Nat} {w:WorldD} {k:Nat},Life w k->Life (bI n w) (k+2*n)
 |0,w,k,h=>h
 |n+1,w,k,h=>by
  have:=rj (n:=n) (yH h)
  rw [show k+2*(n+1)=k+2+2*n by omega];exact this
theorem yI {t h:List UInt8} (p:h <+:t):begins t h=true:=by
 obtain⟨r,rfl⟩:=p
 simp [begins]
theorem Bl {p:PolicyD} (hp:p∈pols):∀ {n:Nat} {w:WorldD} {k:Nat},LV p w k->w.bag.length<=40->wt w.bag<=n->LV p (aY n w) (k+n)/\(aY n w).bag=[]
 |0,w,k,L,hl,hw=>by
  refine⟨L,?_⟩
  show w.bag=[]
  cases e:w.bag with
  |nil=>rfl
  |cons x l=>
   rw [e,wt] at hw
   have:=GT x;omega
 |n+1,w,k,L,hl,hw=>by
  by_cases hb:w.bag=[]
  ·rw [rg hb];exact⟨L.up zO,hb⟩
  have I:=Md hp L hl hb
  rw [rh hb]
  have:=I.wt
  have r:=Bl hp (n:=n) (L.dlv hp) (R0 I.len hl) zO
  rw [show k+(n+1)=k+1+n by omega]
  exact r
theorem s8 {w:WorldD} {a:ActD} (h1:¬ a.kind=1):(aJ w a).1.wroteA=w.wroteA/\(aJ w a).1.wroteB=w.wroteB:=by
 have pl:∀ {side:Int} {l:List LetterD} {w:WorldD},(al side w l).wroteA=w.wroteA/\(al side w l).wroteB=w.wroteB:=fun {side l w}=>by
  have:=dm (side:=side) (l:=l) (w:=w);exact⟨this.2.2.1,this.2.2.2.1⟩
 have se:∀ {s:Int} {w:WorldD} {e:EndD},(aL w s e).wroteA=w.wroteA/\(aL w s e).wroteB=w.wroteB:=fun {s w e}=>by unfold aL;split<;>exact⟨rfl,rfl⟩
 have ld:∀ {w:WorldD} {x:LetterD},(cU w x).wroteA=w.wroteA/\(cU w x).wroteB=w.wroteB:=fun {w x}=>by
  unfold cU gL
  repeat' split
  all_goals first
   |exact⟨rfl,rfl⟩
   |exact⟨pl.1.trans se.1,pl.2.trans se.2⟩
   |exact se
 unfold aJ;split
 ·split
  ·unfold dR;split
   ·exact⟨rfl,rfl⟩
   have aw:(dE w a).wroteA=w.wroteA/\(dE w a).wroteB=w.wroteB:=by
    unfold dE;rw [if_neg h1];split
    ·unfold cj;split<;>exact⟨rfl,rfl⟩
    exact⟨rfl,rfl⟩
   exact⟨(pl.1.trans se.1).trans aw.1,(pl.2.trans se.2).trans aw.2⟩
  unfold cc
  repeat' split
  all_goals first
   |exact⟨rfl,rfl⟩
   |exact⟨ld.1,ld.2⟩
 exact⟨rfl,rfl⟩
theorem E8 {w:WorldD}:(calm3 w).wroteA=w.wroteA/\(calm3 w).wroteB=w.wroteB:=by
 have h1:=s8 (w:=w) (a:=ar 4 1 0) zD
 have h2:=s8 (w:=(aJ w (ar 4 1 0)).1) (a:=ar 3 1 0) zD
 have h3:=s8 (w:=(aJ (aJ w (ar 4 1 0)).1 (ar 3 1 0)).1) (a:=ar 3 2 0) zD
 exact⟨(h3.1.trans h2.1).trans h1.1,(h3.2.trans h2.2).trans h1.2⟩
theorem uj:∀ {n:Nat} {w:WorldD},(aY n w).wroteA=w.wroteA/\(aY n w).wroteB=w.wroteB
 |0,w=>⟨rfl,rfl⟩
 |n+1,w=>by
  rw [aY];split
  ·exact⟨rfl,rfl⟩
  have h1:=s8 (w:=w) (a:=ar 8 1 0) zD
  have h2:=uj (n:=n) (w:=(aJ w (ar 8 1 0)).1)
  exact⟨h2.1.trans h1.1,h2.2.trans h1.2⟩
theorem CM {w:WorldD}:(calmRound w).wroteA=w.wroteA/\(calmRound w).wroteB=w.wroteB:=by
 have h1:=E8 (w:=w)
 have h2:=uj (n:=400) (w:=calm3 w)
 have h3:=E5 (aY 400 (calm3 w))
 exact⟨(h3.2.2.1.trans h2.1).trans h1.1,(h3.2.2.2.trans h2.2).trans h1.2⟩
theorem yJ:∀ {n:Nat} {w:WorldD},(bI n w).wroteA=w.wroteA/\(bI n w).wroteB=w.wroteB
 |0,w=>⟨rfl,rfl⟩
 |n+1,w=>by
  have h1:=CM (w:=w)
  have h2:=yJ (n:=n) (w:=calmRound w)
  exact⟨h2.1.trans h1.1,h2.2.trans h1.2⟩
theorem fT:∀ {n:Nat} {w:WorldD},bI (n+1) w=calmRound (bI n w)
 |0,w=>rfl
 |n+1,w=>by
  show bI (n+1) (calmRound w)=_
  rw [fT (n:=n)];rfl
structure After (p:PolicyD) (w:WorldD) (k:Nat):Prop where
 lv:LV p w k
 bag:w.bag=[]
 dry:Dry w
theorem E9 {p:PolicyD} {v:WorldD} {k:Nat} (hp:p∈pols) (L:LV p v k) (hl:v.bag.length<=40) (lA:(v.wroteA.length:Int)<=1000000000) (lB:(v.wroteB.length:Int)<=1000000000):After p (cH (aY 400 v)) (k+402):=by
 obtain⟨q1,q2⟩:=Bl hp (n:=400) L hl (by have:=ES (l:=v.bag);omega)
 have wr:=uj (n:=400) (w:=v)
 have d:=(Ob q1 (by rw [wr.1];exact lA) (by rw [wr.2];exact lB)).1
 exact⟨(q1.end_ hp).up zO,(fv _).2.2.trans q2,d⟩
theorem E_ {p:PolicyD} {w:WorldD} {k:Nat} (hp:p∈pols) (L:LV p w k) (hB:BagW w) (lA:(w.wroteA.length:Int)<=1000000000) (lB:(w.wroteB.length:Int)<=1000000000):After p (calmRound w) (k+405):=by
 have L3:LV p (calm3 w) (k+3):=((L.done hp OF (by simp [ar])).done hp Me (by simp [ar])).done hp Mf (by simp [ar])
 have B3:BagW (calm3 w):=mT (mT (mT hB))
 have wr:=E8 (w:=w)
 exact E9 hp L3 B3.1 (by rw [wr.1];exact lA) (by rw [wr.2];exact lB)
theorem yK {p:PolicyD} {w:WorldD} {k:Nat} (hp:p∈pols) (A:After p w k) (hk:k<=900000) (lA:(w.wroteA.length:Int)<=1000000000) (lB:(w.wroteB.length:Int)<=1000000000):After p (calmRound w) (k+405)/\w.b.subs.length<=(calmRound w).b.subs.length:=by
 obtain⟨news,la,lb,B⟩:=OG hp A.lv hk A.bag
 have wr:=B.wr
 refine⟨E9 hp B.lv B.fewer (by rw [wr.1];exact lA) (by rw [wr.2.1];exact lB),?_⟩
 have e:(calm3 w).b.subs=w.b.subs:=by rw [B.eb,fS]
 have h:=ri hp (n:=400) B.lv B.fewer
 have r:=(fv (aY 400 (calm3 w))).2.1
 show w.b.subs.length<=(cH (aY 400 (calm3 w))).b.subs.length
 rw [r,<-e];exact h
theorem Pi {p:PolicyD} {w:WorldD} {k:Nat} (hp:p∈pols) (L:LV p w k) (hB:BagW w) (hk:k<=1000) (lA:(w.wroteA.length:Int)<=1000000000) (lB:(w.wroteB.length:Int)<=1000000000) (ha:(bI 40 w).a.subs.length < 8) (hb:(bI 40 w).b.subs.length < 8):
  Seq p (fun i=>bI (i+1) w) 39 (k+405)/\∀ i,i<=39->Dry (bI (i+1) w):=by
 have wr:∀ i,(((bI i w).wroteA.length:Nat):Int)<=1000000000/\(((bI i w).wroteB.length:Nat):Int)<=1000000000:=fun i=>by
  have:=yJ (n:=i) (w:=w);rw [this.1,this.2];exact⟨lA,lB⟩
 have aft:∀ i,i<=39->After p (bI (i+1) w) (k+405+405*i):=by
  intro i
  induction i with
  |zero=>exact fun _=>E_ hp L hB lA lB
  |succ i ih=>
   intro h
   have:=(yK hp (ih zO) zO (wr (i+1)).1 (wr (i+1)).2).1
   rw [<-fT] at this
   rw [show k+405+405*(i+1)=k+405+405*i+405 by omega]
   exact this
 have bm:∀ i,i < 39->(bI (i+1) w).b.subs.length<=(bI (i+2) w).b.subs.length:=fun i h=>by
  have:=(yK hp (aft i zO) zO (wr (i+1)).1 (wr (i+1)).2).2
  rw [<-fT] at this
  exact this
 have b8:∀ j,j<=39->(bI (39 - j+1) w).b.subs.length < 8:=by
  intro j
  induction j with
  |zero=>exact fun _=>hb
  |succ j ih=>
   intro h
   have h1:=ih zO
   have h2:=bm (39 - (j+1)) zO
   rw [show 39 - (j+1)+2=39 - j+1 by omega] at h2
   omega
 have b8':∀ i,i<=39->(bI (i+1) w).b.subs.length < 8:=fun i h=>by
  have:=b8 (39 - i) zO
  rw [show 39 - (39 - i)=i by omega] at this
  exact this
 have rd:∀ i,i < 39->∃ news la lb,Begun p (bI (i+1) w) (calm3 (bI (i+1) w)) (k+405+405*i) news la lb/\Rnd p (bI (i+1) w) (bI (i+1+1) w) (k+405+405*i) news:=fun i h=>by
  have:=rnd hp (aft i zO).lv zO (aft i zO).bag (by rw [<-fT];exact b8' (i+1) zO)
  rw [<-fT] at this
  exact this
 have am:∀ i,i < 39->(bI (i+1) w).a.subs.length<=(bI (i+2) w).a.subs.length:=fun i h=>by
  obtain⟨news,la,lb,_,R⟩:=rd i h
  rw [R.len,RP];omega
 have a8:∀ j,j<=39->(bI (39 - j+1) w).a.subs.length < 8:=by
  intro j
  induction j with
  |zero=>exact fun _=>ha
  |succ j ih=>
   intro h
   have h1:=ih zO
   have h2:=am (39 - (j+1)) zO
   rw [show 39 - (j+1)+2=39 - j+1 by omega] at h2
   omega
 refine⟨⟨fun i h=>(aft i h).lv,fun i h=>(aft i h).bag,rd,fun i h=>fT,fun i h=>?_,b8',zO⟩,fun i h=>(aft i h).dry⟩
 have:=a8 (39 - i) zO
 rw [show 39 - (39 - i)=i by omega] at this
 exact this
theorem Iw {l:List SubD} {s:SubD} (hs:s∈l) (h3:s.state=3):s.road∈roadsOn l:=by
 have h:=BG (l:=l) (p:=fun t=>decide (t=s))
 have:(l.any fun t=>t.state == 3 && decide (t=s))=true:=RZ.2 ⟨s,hs,by simp [h3]⟩
 rw [this,RZ] at h
 obtain⟨n,n1,n2⟩:=h
 have n2:bt l n=s:=by simpa using n2
 rw [roadsOn,R6]
 exact⟨n,n1,by rw [n2]⟩
theorem Od {p:PolicyD} {w:WorldD} {k:Nat} (L:LV p w k) (h:fI p w=0):allWanted w=true:=by
 have E:=L.cw.e
 have C:=L.c
 rw [allWanted,beq_iff_eq,cQ]
 split
 ·rw [pg E.ownA C.oka.own E.farA C.oka.far,E.pol,Sq,Sb]
  intro r hr hc
  obtain⟨s,s1,s2,s3⟩:=iN.1 (G2 h r hr)
  have:dy (roadsOn w.a.subs) r=true:=by
   rw [dy,RZ]
   exact⟨r,by rw [<-s3];exact Iw s1 s2,by rw [cy]⟩
  rw [this] at hc
  cases hc
 rfl
theorem yL {V R:List UInt8} {q:PiecesD} (I:InI V R q) (F:FineP q) (hr:q.ready=[]) (h:(V.length:Int)<=nextOf q):R=V:=by
 obtain⟨T,hT⟩:=I.pre
 have nx:=F.next
 have rd:=I.read
 rw [hr] at nx hT
 rw [RY] at hT
 have hl:V.length=R.length+T.length:=by rw [hT,RP]
 rw [Sg] at nx
 have:T=[]:=Si zO
 rw [hT,this,RY]
theorem Mv {p:PolicyD} {w:WorldD} {k:Nat} (hp:p∈pols) (L:LV p w k) (hB:BagW w) (hk:k<=1000) (lA:(w.wroteA.length:Int)<=1000000000) (lB:(w.wroteB.length:Int)<=1000000000) (ha:(bI 40 w).a.subs.length < 8) (hb:(bI 40 w).b.subs.length < 8):
  (bI 40 w).readB=w.wroteA/\(bI 40 w).readA=w.wroteB/\allRead (bI 40 w)=true/\allWanted (bI 40 w)=true/\0 < (roadsOn (bI 40 w).a.subs).length:=by
 obtain⟨S,dry⟩:=Pi hp L hB hk lA lB ha hb
 have want:=Mk hp S
 have hW:∀ j,9<=j->j<=39->W p (bI (j+1) w)=W p (bI (9+1) w):=fun j h1 h2=>(want j zO h2).trans (want 9 zO zO).symm
 have h2:∀ j,9<=j->j<=39->∀ s∈(bI (j+1) w).a.subs,¬ s.state=2:=fun j h1 hj=>by
  have H:=Mi S (i:=0) (j:=j) zO
  rw [Nat.zero_add] at H
  exact HP.none (S.lv j hj) H h1
 have off:=N4 hp S (i:=9) hW h2
 have wr:∀ i,(bI i w).wroteA=w.wroteA/\(bI i w).wroteB=w.wroteB:=fun i=>yJ
 have data:∀ j,21<=j->j < 39->((bI (j+1) w).a.out.base+60<=(bI (j+2) w).a.out.base\/(w.wroteA.length:Int)<=(bI (j+2) w).a.out.base)/\((bI (j+1) w).b.out.base+60<=(bI (j+2) w).b.out.base\/(w.wroteB.length:Int)<=(bI (j+2) w).b.out.base):=fun j h1 hj=>by
  obtain⟨news,la,lb,B,R⟩:=S.rnd j hj
  have ho:fI p (bI (j+1) w)=0:=off j zO zO
  have hn:news=[]:=by
   cases e:news with
   |nil=>rfl
   |cons s r=>
    have:=R.gain ((want (j+1) zO zO).trans (want j zO zO).symm) ⟨s,by rw [e];simp,.inl (by rw [e];simp)⟩
    have ho:fI p ((fun i=>bI (i+1) w) j)=0:=ho
    omega
  have d:=Mu hp (S.lv j zO) zO hn B ho (dry j zO) (by rw [<-fT];exact S.b8 (j+1) zO) (by rw [(wr (j+1)).1];exact lA) (by rw [(wr (j+1)).2];exact lB)
  rw [<-fT,(wr (j+1)).1,(wr (j+1)).2] at d
  exact d
 have gapA:∀ j,j<=39->(w.wroteA.length:Int)<=(bI (j+1) w).a.out.base+120/\(w.wroteB.length:Int)<=(bI (j+1) w).b.out.base+120:=fun j hj=>by
  have L:=S.lv j hj
  have C:=L.c
  have E:=L.cw.e
  have o1:=C.oia.base.2;have o2:=C.oib.base.2
  have f1:=(cg C.oka.out).len;have f2:=(cg C.okb.out).len
  have r1:=E.room.1;have r2:=E.room.2
  have w1:=wr (j+1)
  rw [w1.1] at o1
  rw [w1.2] at o2
  omega
 have d1:=data 21 zO zO
 have d2:=data 22 zO zO
 have g1:=gapA 21 zO
 simp only [Nat.reduceAdd] at d1 d2 g1
 have base:∀ j,23<=j->j<=39->(w.wroteA.length:Int)<=(bI (j+1) w).a.out.base/\(w.wroteB.length:Int)<=(bI (j+1) w).b.out.base:=by
  intro j
  induction j with
  |zero=>intro h _;omega
  |succ j ih=>
   intro h1 hj
   by_cases e:j=22
   ·subst e
    simp only [Nat.reduceAdd]
    omega
   have:=ih zO zO
   have:=data j zO zO
   rw [show j+1+1=j+2 by omega]
   omega
 have fin:=base 39 zO zO
 have L39:=S.lv 39 zO
 have D39:=dry 39 zO
 have o39:=off 39 zO zO
 simp only [Nat.reduceAdd] at fin L39 D39 o39
 have C:=L39.c
 have E:=L39.cw.e
 have w40:=wr 40
 have rB:(bI 40 w).readB=w.wroteA:=by
  have I:=C.iib
  rw [w40.1] at I
  exact yL I (ax C.okb.inp L39.gb) D39.b (by have:=E.baseA;omega)
 have rA:(bI 40 w).readA=w.wroteB:=by
  have I:=C.iia
  rw [w40.2] at I
  exact yL I (ax C.oka.inp L39.ga) D39.a (by have:=E.baseB;omega)
 refine⟨rB,rA,?_,Od L39 o39,?_⟩
 ·rw [allRead,rB,rA,w40.1,w40.2];simp
 obtain⟨r,hr⟩:=E.cs.a0
 have:=Iw (l:=(bI 40 w).a.subs) (s:=subA0) (by rw [hr];exact RS ..) rfl
 exact List.length_pos_of_mem this
structure CalmL (p:PolicyD) (w:WorldD) (k:Nat):Prop where
 life:Life w k
 cw:CW p w
 cnt:Cnt w k
 bag:BagW w
theorem CalmL.step {p:PolicyD} {w:WorldD} {k:Nat} {a:ActD} (hp:p∈pols) (h:CalmL p w k) (A:CalmA a) (ht:a.text.length<=1048576):CalmL p (aJ w a).1 (k+1):=
 ⟨h.life.step ht,yv hp h.life.i h.life.g.a.p h.life.g.b.p h.cw A,Ba hp h.life.i.c h.cw h.cnt A,mT h.bag⟩
theorem G4 {w:WorldD} (g:GoodW w 0) (S:Start w) (T:Start2 w):CalmL w.a.policy w 0:=by
 have h:=S.e
 simp only [startE,RU,decide_eq_true_eq] at h
 obtain⟨⟨⟨⟨⟨⟨okx,oky⟩,h1,h2,h3,h4,h5,h6,h7,h8,h9,h10,h11,h12⟩,g1,g2,g3,g4,g5,g6,g7,g8⟩,o1,o2⟩,i1,i2,i3,i4,i5,i6⟩,s1,s2⟩:=h
 refine⟨⟨g,S.inv,S.ans⟩,S.cw T,⟨zO,zO,zO,zO,fun s hs=>?_,fun s hs=>?_⟩,⟨by rw [S.bag];simp,by rw [S.past];simp⟩⟩
 ·rw [s1] at hs;rw [R2.1 hs];exact Sw _
 rw [s2] at hs;rw [R2.1 hs];exact Sw _
theorem G5 {w:WorldD} {l:List ActD} (g:GoodW w 0) (S:Start w) (T:Start2 w) (ha:∀ a∈l,CalmA a/\a.text.length<=1048576):CalmL w.a.policy (fB l w []).1 (0+l.length):=
 (va (Q:=CalmL w.a.policy) (P:=fun a=>CalmA a/\a.text.length<=1048576) (fun v k a h ha=>h.step T.pol ha.1 ha.2) (l:=l) (w:=w) (cs:=[]) (k:=0) (G4 g S T) ha).1
structure CalmRes (w x:WorldD):Prop where
 join:joinable w=true
 safe:safeWorld x=true
 bb:begins x.readB w.readB=true
 ba:begins x.readA w.readA=true
 fin:x.a.subs.length < 8->x.b.subs.length < 8->x.readB=w.wroteA/\x.readA=w.wroteB/\allRead x=true/\allWanted x=true/\0 < (roadsOn x.a.subs).length
theorem Mw {p:PolicyD} {w:WorldD} {k:Nat} (hp:p∈pols) (h:CalmL p w k) (hk:k<=120):CalmRes w (eR w 40):=by
 have e:eR w 40=bI 40 w:=rfl
 have E:=h.cw.e
 have rd:=zC (w:=w) (n:=40)
 have lf:=rj (n:=40) h.life
 have wa:=h.life.g.wa
 have wb:=h.life.g.wb
 refine⟨?_,by rw [e];exact lf.i.c.safe,yI rd.b,yI rd.a,fun ha hb=>?_⟩
 ·obtain⟨ra,hra⟩:=E.cs.a0
  obtain⟨rb,hrb⟩:=E.cs.b0
  rw [joinable,hra,SR,Bool.or_eq_true]
  left
  rw [je,hrb,SR]
  have:jK subA0 true subB0=true:=by decide
  rw [this]
  rfl
 rw [e] at ha hb⊢
 exact Mv hp ⟨⟨k,h.life⟩,h.cw,h.cnt⟩ h.bag zO zO zO ha hb
theorem Mx (b:List UInt8) (hl:b.length<=maxLen):aP 4 [.sc (.sl 0 0 b.length)] [some ⟨b.map gf,1,5,false,true⟩] (.sc (.bo (decide (1048576 < b.length)))) [some ⟨b.map gf,1,5,false,true⟩]:=by
 refine qE func4 ntmps4 results4 fun E hE=>?_
 refine qJ (qI 0 1) ?_
 simp
 omega
theorem My (b:List UInt8) (hb:b.length<=maxLen) (_:∀ x∈b,True):aP 3 [.sc (.sl 0 0 b.length)] [some ⟨b.map gf,1,5,false,true⟩] (.sc (.bo true)) [some ⟨b.map gf,1,5,false,true⟩]:=by
 refine qE func3 ntmps3 results3 fun E hE=>?_
 refine qK (Mx b hb) (qI 0 1) ?_
 refine qB (fun h=>?_) fun h=>?_
 ·exact qF (qI 0 1)
 refine AR (qC) (zy b zO) (qI 0 1) qM zF fun w hw=>ae 400 ?_
 simp (disch:=omega) only [go_sem,seval]
 obtain⟨p,k,hp,hk,hc⟩:∃ p k,p∈pols/\k<=120/\CalmL p w k:=by
  obtain⟨w0,l,f0,hl,hla,rfl⟩:=hw
  exact⟨_,_,f0.s2.pol,zO,G5 (l:=l) f0.g f0.st f0.s2 fun a ha=>⟨(hla a ha).2,by have:=(hla a ha).1.2.1;omega⟩⟩
 have R:=Mw hp hc hk
 have hg:=hc.life.g
 have hs:=hg.s
 have gx:GoodW (eR w 40) (k+2*40):=x6 (n:=40) hg
 have hx:=gx.s
 have x1:=gx.ra
 have x2:=gx.rb
 have x3:=gx.a.p.ready
 have x4:=gx.b.p.ready
 have pw:=(rj (n:=40) hc.life).i.c.oka.pol
 have c0:=yX w hs.a.subs hs.b.subs
 rw [R.join] at c0
 have c1:=tX w 40 k hg zO
 have px:(eR w 40).a.policy.wf:=Np _ (FN pw)
 obtain⟨x,hX⟩:∃ x,x=eR w 40:=⟨_,rfl⟩
 rw [<-hX] at R hx x1 x2 x3 x4 c1 px
 clear hX gx pw hc hg
 have s1:=yl x hx.a.own hx.a.far hx.a.subs hx.a.halfs hx.a.list hx.a.done hx.a.over hx.b.own hx.b.far hx.b.subs hx.b.halfs hx.b.list hx.b.done hx.b.over zO zO
 rw [R.safe] at s1
 have s2:=m5 x.readB w.readB
 have s3:=m5 x.readA w.readA
 rw [R.bb] at s2
 rw [R.ba] at s3
 have s4:=CC x
 have s5:=xz x px hx.a.own hx.a.far hx.a.subs
 have s6:=rM x.a hx.a.subs
 have fin:=R.fin
 have la:=hx.a.subs
 have lb:=hx.b.subs
 clear R
 refine qK (c0) (qI 1 21) ?_
 refine qK (c1) (qI 1 21) ?_
 by_cases ha:x.a.subs.length < 8
 ·by_cases hb8:x.b.subs.length < 8
  ·obtain⟨f1,f2,f3,f4,f5⟩:=fin ha hb8
   rw [f3] at s4
   rw [f4] at s5
   refine qX ?_
   refine qK (s4) (qI 23 21) ?_
   refine qK (s5) (qI 23 21) ?_
   have g1:(x.readB == w.wroteA)=true:=by rw [f1];exact beq_self_eq_true _
   have g2:(x.readA == w.wroteB)=true:=by rw [f2];exact beq_self_eq_true _
   try simp (disch:=omega) only [go_sem,seval,eq_true f1,eq_true f2,g1,g2]
   refine qK (s1) (qI 23 21) ?_
   refine qK (s6) (qI 23 7) ?_
   exact qF (qI 0 1)
  refine qX ?_
  refine qK (s1) (qI 23 21) ?_
  refine qK (s2) [] ?_
  refine qK (s3) [] ?_
  exact qF (qI 0 1)
 refine qX ?_
 refine qK (s1) (qI 23 21) ?_
 refine qK (s2) [] ?_
 refine qK (s3) [] ?_
 exact qF (qI 0 1)
end
end Go.Proofs.YteknmpdmhiomgaaGreat
