/- Lemmas of this claim. -/
import Derived.Test.YtdiiopjaebnmfaaGreatDoorZFnExactRunScriptS
import Derived.Test.YtdiiopjaebnmfaaGreatDoorZFnExactRunScriptU
set_option maxHeartbeats 16000000
set_option maxRecDepth 100000
set_option linter.unusedVariables false
set_option linter.unusedSimpArgs false
namespace Go.Proofs.YtdiiopjaebnmfaaGreatDoor
open _root_.Go.Proofs.Tryz
open _root_.Bool renaming and_eq_true->zk,false_and->Qf,not_eq_true'->Qn,and_self->Qq,true_and->Qr,true_or->Qu
open _root_.Int renaming toNat_natCast->zG
open _root_.List renaming getElem_mem->P6,length_singleton->P7,mem_cons_self->P9,length_map->P_,length_cons->Qa,length_append->Qb,drop_eq_nil_of_le->Qc,mem_cons_of_mem->Qd,length_nil->Qe,mem_singleton->Qg,drop_eq_getElem_cons->Qh,all_eq_true->Qi,getElem?_eq_getElem->Qj,mem_append->Qk,length_set->Ql,mem_map->Qm,length_take->Qo,take_length->Qp,mem_set->Qs
open _root_.Nat renaming zero_le->P8,zero_add->Qt
section
open Go.RowKit
def jJ:List ActD->WorldD->List Int->WorldD×List Int
 |[],w,cs=>(w,cs)
 |a::l,w,cs=>jJ l (d_ w a).1 (cs++[(d_ w a).2])
theorem vG {l:List ActD} {k:Nat} {w:WorldD} {cs:List Int} (h:k < l.length):jJ (l.drop k) w cs=jJ (l.drop (k+1)) (d_ w l[k]).1 (cs++[(d_ w l[k]).2]):=by
 rw [Qh h,jJ]
theorem za {l:List ActD} {k:Nat} {w:WorldD} {cs:List Int} (h:l.length<=k):jJ (l.drop k) w cs=(w,cs):=by
 rw [Qc h,jJ]
theorem oK {Q:WorldD->Nat->Prop} {P:ActD->Prop} (hQ:∀ w k a,Q w k->P a->Q (d_ w a).1 (k+1)):∀ {l:List ActD} {w:WorldD} {cs:List Int} {k:Nat},Q w k->(∀ a∈l,P a)->Q (jJ l w cs).1 (k+l.length)/\(jJ l w cs).2.length=cs.length+l.length
 |[],w,cs,k,h,_=>⟨h,rfl⟩
 |a::l,w,cs,k,h,hl=>by
  have h1:=oK hQ (l:=l) (cs:=cs++[(d_ w a).2]) (hQ w k a h (hl a zP)) (fun x hx=>hl x (by simp [hx]))
  rw [jJ,Qa]
  refine⟨by rw [show k+(l.length+1)=k+1+l.length by omega];exact h1.1,by rw [h1.2,Qb,P7];omega⟩
def Nl:List PolicyD:=[⟨1,0⟩,⟨3,0⟩,⟨2,1⟩,⟨2,2⟩,⟨2,3⟩,⟨2,4⟩,⟨2,5⟩,⟨2,6⟩,⟨2,7⟩,⟨2,8⟩]
theorem uv {p:PolicyD} (h:polOk p=true):p∈Nl:=by
 obtain⟨k,m⟩:=p
 rw [polOk] at h
 dsimp only at h
 split at h
 ·rename_i hk
  subst hk
  simp only [bU,zk,decide_eq_true_eq] at h
  have:m=1\/m=2\/m=3\/m=4\/m=5\/m=6\/m=7\/m=8:=zO
  rcases this with rfl|rfl|rfl|rfl|rfl|rfl|rfl|rfl<;>decide
 simp only [zk,Bool.or_eq_true,beq_iff_eq] at h
 obtain⟨h1,rfl⟩:=h
 rcases h1 with rfl|rfl<;>decide
theorem Lc:(Nl.all fun p=>startE (ib (dE 1 p) (dE 2 p)).1 (ib (dE 1 p) (dE 2 p)).2.1 && y7 (dE 1 p) && y7 (dE 2 p) && Dj (ib (dE 1 p) (dE 2 p)).1 && Dj (ib (dE 1 p) (dE 2 p)).2.1)=true:=by decide+kernel
theorem kJ {s:Int} {p:PolicyD} (hs:s=1\/s=2) (hp:polOk p=true):fW s (10*s+1) p=(dE s p,true):=by
 rcases hs with rfl|rfl
 ·exact tj (by rw [hp];decide)
 exact tj (by rw [hp];decide)
theorem pq {s n:Int} {p:PolicyD} (hp:polOk p=false):fW s n p=(di,false):=zc (by rw [hp];simp)
theorem iC {p:PolicyD} (hp:polOk p=true):f9 p=(gm (ib (dE 1 p) (dE 2 p)).1 (ib (dE 1 p) (dE 2 p)).2.1,true):=by
 have h1:=kJ (s:=1) (.inl rfl) hp
 have h2:=kJ (s:=2) (.inr rfl) hp
 rw [show (10*1+1:Int)=11 from rfl] at h1
 rw [show (10*2+1:Int)=21 from rfl] at h2
 rw [f9,h1,h2]
 rfl
theorem nj {p:PolicyD} (hp:polOk p=false):f9 p=(gg,false):=by
 rw [f9,pq hp,pq hp]
 rfl
structure World0 (w:WorldD):Prop where
 g:GoodW w 0
 s:Start w
theorem pu {p:PolicyD} (hp:polOk p=true):World0 (f9 p).1:=by
 have hm:=Qi.1 Lc p (uv hp)
 simp only [zk] at hm
 obtain⟨⟨⟨⟨m0,m1⟩,m2⟩,m3⟩,m4⟩:=hm
 obtain⟨g1,f1⟩:=vF m3
 obtain⟨g2,f2⟩:=vF m4
 rw [iC hp]
 exact⟨⟨g1,g2,⟨by simp [gm],by simp [gm],by simp [gm],by simp [gm],by simp [gm],by simp [gm],by simp [gm]⟩,by simp [gm],by simp [gm],by simp [gm],by simp [gm]⟩,⟨m0,rfl,rfl,rfl,rfl,rfl,rfl,rfl,rfl,rfl,rfl,rfl⟩⟩
def cp (p:PolicyD) (l:List ActD):WorldD×List Int:=if polOk p=true/\l.length<=120 then jJ l (f9 p).1 [] else (gg,[])
theorem Aq (p:PolicyD):aP 34 [.ag p.cs] [] (.tu [.ag ((f9 p).1.cs 0),.sc (.bo (f9 p).2)]) ((f9 p).1.hp true):=by
 have h1:=vK 1 11 p
 have h2:=vK 2 21 p
 cases hp:polOk p with
 |false=>
  rw [nj hp]
  rw [pq hp] at h1 h2
  dsimp only at h1 h2⊢
  refine qE func34 ntmps34 results34 fun E hE=>?_
  refine qK (h1) [] ?_
  refine qK (h2) [] ?_
  refine qJ (qO 21) ?_
  simp [gg,di]
 |true=>
  have i1:=kJ (s:=1) (.inl rfl) hp
  have i2:=kJ (s:=2) (.inr rfl) hp
  rw [show (10*1+1:Int)=11 from rfl] at i1
  rw [show (10*2+1:Int)=21 from rfl] at i2
  rw [i1] at h1
  rw [i2] at h2
  have hm:=Qi.1 Lc p (uv hp)
  simp only [zk] at hm
  obtain⟨⟨⟨⟨_,m1⟩,m2⟩,_⟩,_⟩:=hm
  have hM:=Jc (dE 1 p) (dE 2 p) (lj m1) (lj m2)
  rw [iC hp]
  clear i1 i2 m1 m2
  generalize dE 1 p=a at*
  generalize dE 2 p=c at*
  obtain⟨M,hMM⟩:∃ M,M=ib a c:=⟨_,rfl⟩
  rw [<-hMM] at hM⊢
  clear hMM
  obtain⟨X,Y,ok⟩:=M
  dsimp only at hM⊢
  refine qE func34 ntmps34 results34 fun E hE=>?_
  refine qK (h1) [] ?_
  refine qK (h2) [] ?_
  refine qK (hM) (qI 2 7++qI 10 7) ?_
  refine qP (qI 20 14++qO 2++qI 18 1++qO 4) ?_
  first|exact⟨⟩|simp [gm,bh]
theorem Ar (p:PolicyD):aP 66 [.ag p.cs] [] (.tu [.ag ((f9 p).1.cs 0),.sc (.bo (f9 p).2)]) ((f9 p).1.hp true):=by
 have h1:=vH 1 11 p
 have h2:=vH 2 21 p
 cases hp:polOk p with
 |false=>
  rw [nj hp]
  rw [pq hp] at h1 h2
  dsimp only at h1 h2⊢
  refine qE func66 ntmps66 results66 fun E hE=>?_
  refine qK (h1) [] ?_
  refine qK (h2) [] ?_
  refine qJ (qO 21) ?_
  simp [gg,di]
 |true=>
  have i1:=kJ (s:=1) (.inl rfl) hp
  have i2:=kJ (s:=2) (.inr rfl) hp
  rw [show (10*1+1:Int)=11 from rfl] at i1
  rw [show (10*2+1:Int)=21 from rfl] at i2
  rw [i1] at h1
  rw [i2] at h2
  have hm:=Qi.1 Lc p (uv hp)
  simp only [zk] at hm
  obtain⟨⟨⟨⟨_,m1⟩,m2⟩,_⟩,_⟩:=hm
  have hM:=Jd (dE 1 p) (dE 2 p) (lj m1) (lj m2)
  rw [iC hp]
  clear i1 i2 m1 m2
  generalize dE 1 p=a at*
  generalize dE 2 p=c at*
  obtain⟨M,hMM⟩:∃ M,M=ib a c:=⟨_,rfl⟩
  rw [<-hMM] at hM⊢
  clear hMM
  obtain⟨X,Y,ok⟩:=M
  dsimp only at hM⊢
  refine qE func66 ntmps66 results66 fun E hE=>?_
  refine qK (h1) [] ?_
  refine qK (h2) [] ?_
  refine qK (hM) (qI 2 7++qI 10 7) ?_
  refine qP (qI 20 14++qO 2++qI 18 1++qO 4) ?_
  first|exact⟨⟩|simp [gm,bh]
theorem Gx (p:PolicyD) (l:List ActD) (hl:l.length<=1048576) (ha:∀ a∈l,a.text.length<=1048576):aP 10 [.ag p.cs,.sc (.sl 0 0 l.length)] [some ⟨l.map ActD.cs,28,38,false,true⟩]
  (.tu [.ag ((cp p l).1.cs 1),.sc (.sl 22 0 (cp p l).2.length)]) ([some ⟨l.map ActD.cs,28,38,false,true⟩]++((cp p l).1.hp true++[some ⟨(cp p l).2.map bh,1,3,true,true⟩])):=by
 have hW:=Aq p
 by_cases hp:polOk p=true
 ·have h0:=(pu hp).g
  rw [iC hp] at hW h0
  dsimp only at hW h0
  by_cases h120:l.length<=120
  ·obtain⟨R,hR⟩:∃ R,R=cp p l:=⟨_,rfl⟩
   rw [<-hR]
   rw [cp,if_pos ⟨hp,h120⟩,iC hp] at hR
   dsimp only at hR
   generalize gm (ib (dE 1 p) (dE 2 p)).1 (ib (dE 1 p) (dE 2 p)).2.1=w0 at hW h0 hR
   refine ix func10 ntmps10 results10 fun E hE=>?_
   refine qK (hW) [] ?_
   refine pB 1 hE (fun s (y:Nat×WorldD×List Int)=>s.at (qU [0,3,7,1,10,16,29,15]) [(28,.sc (.int .i64 (y.1:Nat))),(8,.sc (.sl 25 0 y.2.2.length))] ((s.hp.take 3)++(y.2.1.hp true++[some ⟨[WorldD.cs y.2.1 3],61,60,true,false⟩,some ⟨y.2.2.map bh,1,3,true,true⟩]))) (fun (y:Nat×WorldD×List Int)=>y.1<=l.length/\GoodW y.2.1 y.1/\y.2.2.length=y.1/\jJ (l.drop y.1) y.2.1 y.2.2=R) (fun (y:Nat×WorldD×List Int)=>l.length - y.1) (0,w0,[]) (qI 0 25++qO 1) (⟨P8 _,h0,rfl,hR.symm⟩) fun y hy N hN=>?_
   obtain⟨k,w,cs⟩:=y
   obtain⟨f1,f2,f3,f4⟩:=hy
   dsimp only at f1 f2 f3 f4
   refine qR ?_
   refine qB (fun h=>?_) fun h=>?_
   ·rw [vG h] at f4
    have hak:=ha l[k] (P6 h)
    have hD:=I4 w l[k] (f2.d zO)
    have hG:=ni f2 (a:=l[k]) hak
    generalize hx:l[k]=x at*
    obtain⟨Q,hQ⟩:∃ Q,Q=d_ w x:=⟨_,rfl⟩
    rw [<-hQ] at hD hG f4
    try simp (disch:=omega) only [go_sem,seval,hx]
    refine qK (hD) (qI 3 21) ?_
    refine Iu hN (k+1,Q.1,cs++[Q.2]) (qI 0 3++qI 27 21++qI 24 1++qI 50 1) (by (try dsimp only);exact⟨zO,hG,by simp [f3],f4⟩) ?_
    first|exact⟨⟩|simp [bh]
   rw [za zO] at f4
   subst f4
   refine qX ?_
   exact cP (qI 0 1++qI 3 21++qI 25 1)
  rw [cp,if_neg (fun hc=>h120 hc.2)]
  dsimp only
  generalize gm (ib (dE 1 p) (dE 2 p)).1 (ib (dE 1 p) (dE 2 p)).2.1=w0 at hW h0
  refine ix func10 ntmps10 results10 fun E hE=>?_
  refine qK (hW) [] ?_
  refine N5 (qI 0 1++qO 22) ?_
  first|exact⟨⟩|simp [gg,di]
 have hp:polOk p=false:=by simpa using hp
 rw [nj hp] at hW
 dsimp only at hW
 rw [cp,if_neg (fun hc=>by rw [hp] at hc;cases hc.1)]
 dsimp only
 refine ix func10 ntmps10 results10 fun E hE=>?_
 refine qK (hW) [] ?_
 refine N5 (qI 0 1++qO 22) ?_
 first|exact⟨⟩|simp [gg,di]
theorem Gy (p:PolicyD) (l:List ActD) (hl:l.length<=1048576) (ha:∀ a∈l,a.text.length<=1048576):aP 41 [.ag p.cs,.sc (.sl 0 0 l.length)] [some ⟨l.map ActD.cs,28,38,false,true⟩]
  (.tu [.ag ((cp p l).1.cs 1),.sc (.sl 22 0 (cp p l).2.length)]) ([some ⟨l.map ActD.cs,28,38,false,true⟩]++((cp p l).1.hp true++[some ⟨(cp p l).2.map bh,1,3,true,true⟩])):=by
 have hW:=Ar p
 by_cases hp:polOk p=true
 ·have h0:=(pu hp).g
  rw [iC hp] at hW h0
  dsimp only at hW h0
  by_cases h120:l.length<=120
  ·obtain⟨R,hR⟩:∃ R,R=cp p l:=⟨_,rfl⟩
   rw [<-hR]
   rw [cp,if_pos ⟨hp,h120⟩,iC hp] at hR
   dsimp only at hR
   generalize gm (ib (dE 1 p) (dE 2 p)).1 (ib (dE 1 p) (dE 2 p)).2.1=w0 at hW h0 hR
   refine ix func41 ntmps41 results41 fun E hE=>?_
   refine qK (hW) [] ?_
   refine pB 1 hE (fun s (y:Nat×WorldD×List Int)=>s.at (qU [0,1,2,1,7,1,10,35]) [(9,.sc (.int .i64 (y.1:Nat))),(8,.sc (.sl 25 0 y.2.2.length))] ((s.hp.take 3)++(y.2.1.hp true++[some ⟨[WorldD.cs y.2.1 3],61,60,true,false⟩,some ⟨y.2.2.map bh,1,3,true,true⟩]))) (fun (y:Nat×WorldD×List Int)=>y.1<=l.length/\GoodW y.2.1 y.1/\y.2.2.length=y.1/\jJ (l.drop y.1) y.2.1 y.2.2=R) (fun (y:Nat×WorldD×List Int)=>l.length - y.1) (0,w0,[]) (qI 0 26) (⟨P8 _,h0,rfl,hR.symm⟩) fun y hy N hN=>?_
   obtain⟨k,w,cs⟩:=y
   obtain⟨f1,f2,f3,f4⟩:=hy
   dsimp only at f1 f2 f3 f4
   refine qR ?_
   refine qB (fun h=>?_) fun h=>?_
   ·rw [vG h] at f4
    have hak:=ha l[k] (P6 h)
    have hD:=I5 w l[k] (f2.d zO)
    have hG:=ni f2 (a:=l[k]) hak
    generalize hx:l[k]=x at*
    obtain⟨Q,hQ⟩:∃ Q,Q=d_ w x:=⟨_,rfl⟩
    rw [<-hQ] at hD hG f4
    try simp (disch:=omega) only [go_sem,seval,hx]
    refine qD [0,1,2,3,4,5,6,7,8,9,10] ?_
    try simp (disch:=omega) only [go_sem,seval,hx]
    refine aE (hD) (qI 3 21) ?_
    refine qG ?_
    refine Iu hN (k+1,Q.1,cs++[Q.2]) (qI 0 3++qI 26 21++qI 24 1++qI 48 1) (by (try dsimp only);exact⟨zO,hG,by simp [f3],f4⟩) ?_
    first|exact⟨⟩|simp [bh]
   rw [za zO] at f4
   subst f4
   refine qX ?_
   exact cP (qI 0 1++qI 3 21++qI 25 1)
  rw [cp,if_neg (fun hc=>h120 hc.2)]
  dsimp only
  generalize gm (ib (dE 1 p) (dE 2 p)).1 (ib (dE 1 p) (dE 2 p)).2.1=w0 at hW h0
  refine ix func41 ntmps41 results41 fun E hE=>?_
  refine qK (hW) [] ?_
  refine N5 (qI 0 1++qO 21++qI 25 1) ?_
  first|exact⟨⟩|simp [gg,di]
 have hp:polOk p=false:=by simpa using hp
 rw [nj hp] at hW
 dsimp only at hW
 rw [cp,if_neg (fun hc=>by rw [hp] at hc;cases hc.1)]
 dsimp only
 refine ix func41 ntmps41 results41 fun E hE=>?_
 refine qK (hW) [] ?_
 refine N5 (qI 0 1++qO 21++qI 25 1) ?_
 first|exact⟨⟩|simp [gg,di]
def BG (p:List (List UInt8)):Bool:=decide ((p.headD []).headD 0=35)
def Fg (l:List UInt8):Bool:=(bm l).2 && ((bm l).1.length == 0 || BG (bm l).1)
def eV (n:Nat):List (List UInt8)->PolicyD->Bool->List ActD->Int×PolicyD×List ActD
 |[],p,b,bb=>(if b then 0 else (n:Int)+1,p,bb)
 |l::r,p,b,bb=>
  if Fg l then eV (n+1) r p b bb
  else if b=false then (if (h_ l).2 then eV (n+1) r (h_ l).1 true bb else ((n:Int)+1,p,bb))
  else if (gn l).2=true/\bb.length < 120 then eV (n+1) r p true (bb++[(gn l).1]) else ((n:Int)+1,p,bb)
theorem zh {l:List (List UInt8)} {k:Nat} {p:PolicyD} {b:Bool} {bb:List ActD} (h:k < l.length):eV k (l.drop k) p b bb=
  if Fg l[k] then eV (k+1) (l.drop (k+1)) p b bb
  else if b=false then (if (h_ l[k]).2 then eV (k+1) (l.drop (k+1)) (h_ l[k]).1 true bb else ((k:Int)+1,p,bb))
  else if (gn l[k]).2=true/\bb.length < 120 then eV (k+1) (l.drop (k+1)) p true (bb++[(gn l[k]).1]) else ((k:Int)+1,p,bb):=by
 rw [Qh h,eV]
theorem BH {l:List (List UInt8)} {k:Nat} {p:PolicyD} {b:Bool} {bb:List ActD} (h:l.length<=k):eV k (l.drop k) p b bb=(if b then 0 else (k:Int)+1,p,bb):=by
 rw [Qc h,eV]
def gS (t:List UInt8):List (List UInt8)×Int:=
 if 6000 < t.length then ([],-1)
 else if (eV 0 (d9 10 t) ⟨0,0⟩ false []).1≠0 then ([],(eV 0 (d9 10 t) ⟨0,0⟩ false []).1)
 else (bF [32] ((cp (eV 0 (d9 10 t) ⟨0,0⟩ false []).2.1 (eV 0 (d9 10 t) ⟨0,0⟩ false []).2.2).2.map dp)::dF (cp (eV 0 (d9 10 t) ⟨0,0⟩ false []).2.1 (eV 0 (d9 10 t) ⟨0,0⟩ false []).2.2).1,0)
inductive HF (e:EndD) (x:LetterD):EndD×List LetterD->Prop
 |stay:HF e x (e,[])
 |other (r:EndD×List LetterD) (k:x.kind=1\/x.kind=2\/x.kind=10\/x.kind=13):HF e x r
 |join1 (k:x.kind=4) (ok:qt e x=true) (n:Nat) (hn:n < e.halfs.length) (hr:e.halfs[n].road=am x) (h1:e.halfs[n].theirs=x.nonce) (h2:e.halfs[n].give=x.give):
   HF e x ({ e with bucket:=(ce e.bucket).1,halfs:=e.halfs.set n { e.halfs[n] with till:=e.now+6 } },[kZ e (am x) e.halfs[n]])
 |join2 (k:x.kind=4) (ok:qt e x=true) (no:fH e x=false):
   HF e x ({ e with bucket:=(ce e.bucket).1,draw:=e.draw+4,halfs:=(ck e.halfs (aL e x)).1 },[kZ e (am x) (aL e x)])
 |back (k:x.kind=5) (n:Nat) (hn:n < e.subs.length) (h1:e.subs[n].state=1) (hr:e.subs[n].road=am x) (ht:x.tag=⟨1,e.peer,e.key,x.nonce,e.subs[n].mine⟩):
   HF e x ({ e with subs:=e.subs.set n (mf e.subs[n] x) },[cF e (mf e.subs[n] x)])
 |done1 (k:x.kind=6) (i:Nat) (hi:i < e.halfs.length) (hr:e.halfs[i].road=am x) (h8:e.subs.length < 8) (ht:x.tag=⟨2,e.peer,e.key,e.halfs[i].theirs,e.halfs[i].mine⟩) (m:List SubD)
   (hm:m=e.subs\/∃ (n:Nat) (hn:n < e.subs.length),e.subs[n].road=am x/\¬ e.subs[n].state=4/\m=e.subs.set n { e.subs[n] with state:=4 }):
   HF e x ({ e with subs:=m++[kY (am x) e.halfs[i]],halfs:=dO e.halfs (am x) },[vT (am x) e.halfs[i].give])
 |done2 (k:x.kind=6) (n:Nat) (hn:n < e.subs.length) (h3:e.subs[n].state=3) (hr:e.subs[n].road=am x) (ht:x.tag=⟨2,e.peer,e.key,e.subs[n].theirs,e.subs[n].mine⟩):
   HF e x (e,[vT (am x) e.subs[n].give])
 |ack (k:x.kind=7) (n:Nat) (hn:n < e.subs.length) (h2:e.subs[n].state=2) (hr:e.subs[n].road=am x) (ht:e.subs[n].take=x.sgn):
   HF e x ({ e with subs:=e.subs.set n { e.subs[n] with state:=3 } },[])
 |addr (k:x.kind=8) (n:Nat) (hn:n < e.subs.length) (h3:e.subs[n].state=3) (hr:e.subs[n].road=am x) (hs:e.subs[n].take=x.sgn) (ht:x.tag=⟨3,e.peer,e.key,x.id,x.addr⟩) (hp:(bu e.far (jb x)).2=true):
   HF e x ({ e with far:=(bu e.far (jb x)).1 },[xX x e.subs[n].give])
 |echo (k:x.kind=9) (i:Nat) (hi:i < e.own.length) (h1:e.own[i].id=x.id) (h2:e.own[i].addr=x.addr):
   HF e x ({ e with own:=e.own.set i { e.own[i] with told:=true } },[])
 |data (k:x.kind=11) (n:Nat) (hn:n < e.subs.length) (h3:e.subs[n].state=3) (hr:e.subs[n].road=am x) (hs:e.subs[n].take=x.sgn):
   HF e x ({ e with inp:=sK e x },[EC x e.subs[n].give (nextOf (sK e x))])
 |came (k:x.kind=12) (n:Nat) (hn:n < e.subs.length) (h3:e.subs[n].state=3) (hr:e.subs[n].road=am x) (hs:e.subs[n].take=x.sgn):
   HF e x ({ e with out:=came e.out x.pos },[])
theorem Jk (e:EndD) (x:LetterD):HF e x (cR e x):=by
 refine Jj .stay (fun k=>.other _ zO) (fun k=>.other _ zO) (fun k=>?_) (fun k=>?_) (fun k=>?_) (fun k=>?_) (fun k=>?_) (fun k=>?_) (fun k=>.other _ zO) (fun k=>?_) (fun k=>?_) (fun k=>.other _ zO)
 ·by_cases h:qt e x=true
  ·by_cases hs:fH e x=true
   ·have hs':=hs
    simp only [fH,zk,decide_eq_true_eq] at hs'
    obtain⟨n,e1,hn,hr⟩:=Dl hs'.1.1
    have hj:Bf e x=e.halfs[n]:=by rw [Bf,e1,zG,i_ hn]
    rw [hj] at hs'
    rw [NQ h hs e1 hn]
    exact .join1 k h n hn hr hs'.1.2 hs'.2
   have hs':fH e x=false:=by simpa using hs
   rw [NR h hs']
   exact .join2 k h hs'
  rw [NP (by simpa using h)];exact .stay
 ·by_cases h:zU e x=true
  ·have h':=h
   simp only [zU,zk,decide_eq_true_eq] at h'
   obtain⟨⟨⟨_,q4⟩,q5⟩,q6⟩:=h'
   obtain⟨n,e1,hn,_,hr,_⟩:=vM q4
   rw [e1,zG,bQ hn] at q5 q6
   rw [NM h e1 hn]
   exact .back k n hn q5 hr q6
  rw [NL (by simpa using h)];exact .stay
 ·by_cases h:nG e x=true
  ·by_cases ha:vi e x=true
   ·have ha':=ha
    simp only [vi,zk,decide_eq_true_eq] at ha'
    obtain⟨i,e1,hi,hr⟩:=Dl ha'.1.1
    have hj:Bf e x=e.halfs[i]:=by rw [Bf,e1,zG,i_ hi]
    rw [hj] at ha'
    rcases f6 e.subs (am x) with g|g
    ·rw [KE h ha e1 hi g]
     exact .done1 k i hi hr ha'.1.2 ha'.2 _ (.inl rfl)
    obtain⟨n,e2,hn,n4,hrn,_⟩:=vM g.1
    rw [KD h ha e1 hi e2 hn]
    exact .done1 k i hi hr ha'.1.2 ha'.2 _ (.inr ⟨n,hn,hrn,n4,rfl⟩)
   have ha':vi e x=false:=by simpa using ha
   by_cases hb:Mz e x=true
   ·have hb':=hb
    simp only [Mz,zk,decide_eq_true_eq] at hb'
    obtain⟨n,e2,hn,n4,hrn,_⟩:=vM hb'.1.1
    have hj:Na e x=e.subs[n]:=by rw [Na,e2,zG,bQ hn]
    rw [hj] at hb'
    rw [NO h ha' hb e2 hn]
    exact .done2 k n hn hb'.1.2 hrn hb'.2
   rw [KC h ha' (by simpa using hb)];exact .stay
  rw [NN (by simpa using h)];exact .stay
 ·rw [bl];(try dsimp only);split
  ·rename_i hk
   simp only [sj,zk,decide_eq_true_eq] at hk
   obtain⟨⟨⟨_,q3⟩,q4⟩,q5⟩:=hk
   obtain⟨n,e1,hn,_,hr,_⟩:=vM q3
   rw [e1,zG] at q4 q5⊢
   rw [bQ hn] at q4 q5
   rw [fd hn]
   exact .ack k n hn q4 hr q5
  exact .stay
 ·by_cases h:lC e x=true
  ·have h':=h
   simp only [lC,zk,decide_eq_true_eq] at h'
   obtain⟨⟨⟨⟨q1,q2⟩,q3⟩,q4⟩,q5⟩:=h'
   obtain⟨n,e1,_,hn,h3,hs,hr,_⟩:=Lj q1
   rw [qv h e1 hn]
   exact .addr k n hn h3 hr hs q2 q5
  rw [qu (by simpa using h)];exact .stay
 ·by_cases h:ki e x=true
  ·have h':=h
   simp only [ki,zk,decide_eq_true_eq] at h'
   obtain⟨i,e1,hi,h1⟩:=zl h'.1.2
   rw [qx h e1 hi]
   have h2:=h'.2
   rw [e1,zG,ja hi] at h2
   exact .echo k i hi h1 h2
  rw [qw (by simpa using h)];exact .stay
 ·by_cases h:qQ e x=true
  ·have h':=h
   simp only [qQ,zk,decide_eq_true_eq] at h'
   obtain⟨n,e1,_,hn,h3,hs,hr,_⟩:=Lj h'.1
   rw [q7 h e1 hn]
   exact .data k n hn h3 hr hs
  rw [qT (by simpa using h)];exact .stay
 rw [cm];(try dsimp only);split
 ·rename_i hk
  obtain⟨n,_,_,hn,h3,hs,hr,_⟩:=Lj hk
  exact .came k n hn h3 hr hs
 exact .stay
def AllWf (l:List LetterD):Prop:=∀ y∈l,LetterD.wf y
theorem cD:AllWf []:=fun y hy=>by simp at hy
theorem dg {y:LetterD} (h:y.wf):AllWf [y]:=fun z hz=>by rw [Qg.1 hz];exact h
theorem g0 {l m:List LetterD} (h:AllWf l) (g:AllWf m):AllWf (l++m):=fun y hy=>by
 rcases Qk.1 hy with hy|hy
 ·exact h y hy
 exact g y hy
theorem Do:(0:Nat)<=maxLen:=P8 _
theorem At {n:Int} (h:0<=n/\n<=4611686018427387904):bN n:=dL zO
theorem HZ {e:EndD} (ok:OkE e) {r:RoadD} {h:HalfD} (H:HaE h) (hr:RN r):(kZ e r h).wf:=by
 obtain⟨_,q2,q3,q4,q5,q6⟩:=H
 have n:=ok.nums
 exact lX hr ⟨At zD,eL,q3.i,q5.i,eL,At zD,n.1.i,n.2.1.i,q3.i,q2.i,eL,eL,eL⟩ eL Do
theorem H0 {e:EndD} (ok:OkE e) {s:SubD} (S:SuE s):(cF e s).wf:=by
 obtain⟨_,hr,q2,q3,q4,q5,q6⟩:=S
 have n:=ok.nums
 exact lX hr ⟨At zD,eL,eL,eL,eL,At zD,n.1.i,n.2.1.i,q2.i,q3.i,eL,eL,eL⟩ eL Do
theorem H1 {r:RoadD} {g:Int} (hr:RN r) (hg:N9 g):(vT r g).wf:=
 lX hr ⟨At zD,eL,eL,eL,hg.i,eL,eL,eL,eL,eL,eL,eL,eL⟩ eL Do
theorem H2 {e:EndD} {s:SubD} (S:SuE s):(ia e s).wf:=by
 obtain⟨_,hr,q2,q3,q4,q5,q6⟩:=S
 have ht:bN (eu (3 - e.side)):=by
  unfold eu;split
  ·rename_i h;rw [fC] at h;exact At zO
  exact eL
 exact lX hr ⟨At zD,ht,q2.i,q5.i,eL,eL,eL,eL,eL,eL,eL,eL,eL⟩ eL Do
theorem MO {o:OutD} {s:SubD} (S:SuE s) (F:FineO o):(EJ s o).wf:=by
 obtain⟨_,hr,q2,q3,q4,q5,q6⟩:=S
 have h1:=F.base;have h2:=F.room;have h3:=F.len;have h4:=F.sent
 refine lX hr ⟨At zD,eL,eL,eL,q4.i,eL,eL,eL,eL,eL,eL,eL,At zO⟩ eL ?_
 have m:=Dn
 unfold cX
 rw [Qo];omega
theorem Lp {e:EndD} (ok:OkE e) {s:SubD} {a:AddrD} (S:SuE s) (A:AdE a):(ys e s a).wf:=by
 obtain⟨_,hr,q2,q3,q4,q5,q6⟩:=S
 obtain⟨a1,a2⟩:=A
 have n:=ok.nums
 exact lX hr ⟨At zD,eL,eL,eL,q4.i,At zD,n.1.i,n.2.1.i,At zO,At zO,At zO,At zO,eL⟩ eL Do
theorem Lq (p:PiecesD):bN (nextOf p):=kt _
theorem MP {e:EndD} {x:LetterD} (st:e.state=2) (k:x.kind=1\/x.kind=2\/x.kind=10\/x.kind=13):(cR e x).2=[]:=by
 by_cases hc:dJ e x=true
 ·rcases k with k|k|k|k
  ·rw [yb hc k,aW,if_neg]
   simp only [ku,zk,decide_eq_true_eq];omega
  ·rw [yc hc k,bE,if_neg]
   simp only [mO,zk,decide_eq_true_eq];omega
  ·rw [sL hc k];rfl
  rw [sM hc k];rfl
 rw [um (by simpa using hc)]
theorem Fm {e:EndD} {x:LetterD} (ok:OkE e) (st:e.state=2):AllWf (cR e x).2:=by
 by_cases k:x.kind=1\/x.kind=2\/x.kind=10\/x.kind=13
 ·rw [MP st k];exact cD
 have F:=Jk e x
 have okr:=(tq (x:=x) ok st).1
 generalize cR e x=r at F okr
 have sub:∀ {n:Nat} (hn:n < e.subs.length),SuE e.subs[n]:=fun hn=>ok.subs.el _ (P6 hn)
 have hal:∀ {n:Nat} (hn:n < e.halfs.length),HaE e.halfs[n]:=fun hn=>ok.halfs.el _ (P6 hn)
 cases F with
 |stay=>exact cD
 |other r h=>exact absurd h k
 |join1 k ok1 n hn hr h1 h2=>exact dg (HZ ok (hal hn) (by rw [<-hr];exact (hal hn).1))
 |join2 k ok1 no=>
  have hk:=ok1
  simp only [qt,zk,decide_eq_true_eq,fC,Qn] at hk
  obtain⟨⟨⟨⟨⟨⟨⟨⟨⟨hk1,hk2⟩,_⟩,_⟩,_⟩,_⟩,hk6⟩,hk7⟩,hk8⟩,_⟩:=hk
  obtain⟨_,_,_,n4,n5,_⟩:=nl hk2
  have n9:=ok.nums
  have n1:=n9.2.2.2.1
  refine dg (HZ ok ⟨uA hk2,n4,n9.2.2.1,n5,?_,?_⟩ (uA hk2))
  ·simp only [aL,N9];omega
  simp only [aL,N9] at n1⊢;omega
 |back k n hn h1 hr ht=>
  exact dg (H0 ok (okr.subs.el _ (Qs hn _)))
 |done1 k i hi hr h8 ht m hm=>exact dg (H1 (by rw [<-hr];exact (hal hi).1) (hal hi).2.2.2.1)
 |done2 k n hn h3 hr ht=>exact dg (H1 (by rw [<-hr];exact (sub hn).2.1) (sub hn).2.2.2.2.1)
 |ack=>exact cD
 |addr k n hn h3 hr hs ht hp=>
  have A:AdE (jb x):=by
   rw [bu] at hp
   split at hp
   ·rename_i h
    refine (oL.1 h).el _ ?_
    rw [dA];split
    ·rename_i h0
     obtain⟨i,e1,hi,_⟩:=zl h0
     rw [e1,zG];exact Qs hi _
    simp
   cases hp
  have r:=(sub hn).2.1
  rw [hr] at r
  simp only [AdE,jb] at A
  exact dg (lX r ⟨At zD,eL,eL,eL,(sub hn).2.2.2.2.1.i,eL,eL,eL,eL,eL,At zO,At zO,eL⟩ eL Do)
 |echo=>exact cD
 |data k n hn h3 hr hs=>
  have r:=(sub hn).2.1
  rw [hr] at r
  exact dg (lX r ⟨At zD,eL,eL,eL,(sub hn).2.2.2.2.1.i,eL,eL,eL,eL,eL,eL,eL,Lq _⟩ eL Do)
 |came=>exact cD
theorem Lr {e:EndD} (ok:OkE e):AllWf (fi e).2:=by
 unfold fi;split
 ·rename_i hk
  simp only [mY,zk,decide_eq_true_eq] at hk
  obtain⟨s,s1,s2,s3⟩:=GF hk.2
  rw [s3]
  exact dg (MO (ok.subs.el s s1) (dC ok.out))
 exact cD
theorem uB:∀ {k:Nat} {e:EndD},OkE e->AllWf (dP k e).2
 |0,e,_=>cD
 |k+1,e,ok=>g0 (Lr ok) (uB (HX ok))
theorem Lt {e:EndD} (ok:OkE e):AllWf (df e):=by
 unfold df;split
 ·rename_i hk
  simp only [IU,zk,Qn,decide_eq_false_iff_not] at hk
  intro y hy
  obtain⟨q,q1,rfl⟩:=Qm.1 hy
  exact Lp ok (ok.subs.el _ (Lm (Jh hk.2))) (ok.own.el q (List.mem_filter.1 q1).1)
 exact cD
theorem Jl {e:EndD} (ok:OkE e) {s:SubD} (S:SuE s):AllWf (f8 e s):=by
 unfold f8
 repeat' split
 all_goals first
  |exact cD
  |exact dg (H2 S)
  |exact dg (H0 ok S)
theorem BO {far:List AddrD}:∀ {l:List RoadD} {e:EndD},OkE e->AllWf (il far e l).2
 |[],e,_=>cD
 |r::l,e,ok=>by
  refine g0 ?_ (BO (Dm ok).1)
  have ok1:=(Dm (r:=r) (b:=bW far r.far) ok).1
  unfold gM at ok1⊢
  split at ok1
  ·rename_i h
   rw [if_pos h]
   exact dg (H2 (ok1.subs.el _ zP))
  rename_i h
  rw [if_neg h];exact cD
theorem Fn {e:EndD} {a:ActD} (ok:OkE e) (st:e.state=2) (ha:bN a.pos) (h7:a.kind<=7):AllWf (kC e a).2:=by
 unfold kC
 split
 ·exact uB (Fj ok).1
 split
 ·exact cD
 split
 ·unfold tick;split
  ·rename_i hk
   unfold dM
   have ok1:=Ln ok hk
   refine g0 (g0 (fun y hy=>?_) (Lt ok1)) (uB ok1)
   obtain⟨s,s1,s2⟩:=List.mem_flatMap.1 hy
   exact Jl ok (ok.subs.el s s1) y s2
  exact cD
 split
 ·unfold manage;split
  ·exact BO ok
  exact cD
 split
 ·exact cD
 split
 ·unfold bf;split
  ·intro y hy
   obtain⟨k,k1,rfl⟩:=Qm.1 hy
   have hm:=Lm k1
   rw [fI] at hm
   obtain⟨q,q1,q2⟩:=Qm.1 hm
   have S:=ok.subs.el q q1
   have r:RN (bH (fI e a.pos) k).road/\N9 (bH (fI e a.pos) k).give:=by
    rw [fI,<-q2];unfold gq;split<;>exact⟨S.2.1,S.2.2.2.2.1⟩
   exact lX r.1 ⟨At zD,eL,eL,eL,r.2.i,eL,eL,eL,eL,eL,ha,eL,eL⟩ eL Do
  exact cD
 unfold bI;split
 ·rename_i hk
  simp only [yr,zk,decide_eq_true_eq,fC] at hk
  have hn:a.pos.toNat < e.subs.length:=zO
  rw [bQ hn]
  have S:=ok.subs.el _ (P6 hn)
  exact dg (lX S.2.1 ⟨At zD,eL,eL,eL,S.2.2.2.2.1.i,eL,eL,eL,eL,eL,eL,eL,eL⟩ eL Do)
 exact cD
structure LWf (w:WorldD):Prop where
 bag:AllWf w.bag
 past:AllWf w.past
theorem Jm {side:Int} {w:WorldD} {y:LetterD} (h:LWf w) (hy:y.wf):LWf (dS side w y):=by
 have hp:AllWf (oD w.past y):=by
  unfold oD;split
  ·exact g0 h.past (dg hy)
  exact h.past
 unfold dS;split
 ·exact⟨h.bag,hp⟩
 refine⟨?_,hp⟩
 show AllWf (yf w.bag y)
 unfold yf;split
 ·exact g0 h.bag (dg hy)
 exact h.bag
theorem pz {side:Int}:∀ {l:List LetterD} {w:WorldD},LWf w->AllWf l->LWf (ay side w l)
 |[],w,h,_=>h
 |y::l,w,h,hl=>pz (l:=l) (Jm h (hl y (P9 ..))) fun z hz=>hl z (Qd _ hz)
structure Lite (w:WorldD):Prop where
 oka:OkE w.a
 okb:OkE w.b
 sta:w.a.state=2
 stb:w.b.state=2
theorem Lite.of {w v:WorldD} (h:Lite w) (ha:v.a=w.a) (hb:v.b=w.b):Lite v:=⟨ha▸h.oka,hb▸h.okb,ha▸h.sta,hb▸h.stb⟩
theorem Lite.set {w v:WorldD} {s:Int} {e:EndD} {l:List LetterD} (h:Lite w) (ha:v.a=w.a) (hb:v.b=w.b) (ho:OkE e) (hs:e.state=2):Lite (ay s (cN v s e) l):=by
 obtain⟨e1,e2,_⟩:=aQ (side:=s) (l:=l) (w:=cN v s e)
 unfold cN at e1 e2
 split at e1
 ·rename_i h1
  rw [if_pos h1] at e2
  exact⟨by unfold cN;rw [if_pos h1,e1];exact ho,by unfold cN;rw [if_pos h1,e2];exact hb▸h.okb,by unfold cN;rw [if_pos h1,e1];exact hs,by unfold cN;rw [if_pos h1,e2];exact hb▸h.stb⟩
 rename_i h1
 rw [if_neg h1] at e2
 exact⟨by unfold cN;rw [if_neg h1,e1];exact ha▸h.oka,by unfold cN;rw [if_neg h1,e2];exact ho,by unfold cN;rw [if_neg h1,e1];exact ha▸h.sta,by unfold cN;rw [if_neg h1,e2];exact hs⟩
theorem MQ (w:WorldD) (a:ActD):(ld w a).a=w.a/\(ld w a).b=w.b:=by
 unfold ld;split
 ·unfold gr;split<;>exact⟨rfl,rfl⟩
 split
 ·unfold dj;split<;>exact⟨rfl,rfl⟩
 exact⟨rfl,rfl⟩
theorem GG {w:WorldD} {x:LetterD} (h:Lite w):Lite (ik w x):=by
 unfold ik;split
 ·exact h
 unfold yg
 rcases mi x.to with h0|h0|h0
 ·contradiction
 ·rw [if_pos (.inl h0),h0]
  exact h.set rfl rfl (tq h.oka h.sta).1 (tq h.oka h.sta).2
 rw [if_pos (.inr h0),h0]
 exact h.set rfl rfl (tq h.okb h.stb).1 (tq h.okb h.stb).2
theorem GH {w:WorldD} {a:ActD} (h:Lite w) (ga:SmallP w.a.inp) (gb:SmallP w.b.inp):Lite (d_ w a).1:=by
 unfold d_;split
 case isFalse=>exact h
 rename_i hok
 have hs:=zi hok
 obtain⟨wa,wb⟩:=MQ w a
 split
 ·unfold bb;split
  ·exact h
  rcases hs with hs|hs
  ·have hE:cV w a.side=w.a:=by rw [hs];rfl
   rw [hE]
   exact h.set wa wb (wz h.oka ga).1 ((wz h.oka ga).2.trans h.sta)
  have hE:cV w a.side=w.b:=by rw [hs];rfl
  rw [hE]
  exact h.set wa wb (wz h.okb gb).1 ((wz h.okb gb).2.trans h.stb)
 unfold bg;repeat' split
 all_goals first
  |exact h
  |exact h.of rfl rfl
  |exact GG (h.of rfl rfl)
theorem Jn {w:WorldD} {a:ActD} (C:Lite w) (h:LWf w) (ha:a.wf):LWf (d_ w a).1:=by
 have hpos:bN a.pos:=ha.2.2.1
 unfold d_;split
 case isFalse=>exact h
 rename_i hok
 have hs:=zi hok
 have hp0:=Je hok
 split
 ·rename_i h7
  unfold bb;split
  ·exact h
  obtain⟨k1,k2⟩:=Ji w a a.side (kC (cV w a.side) a).1
  refine pz ⟨by rw [k1];exact h.bag,by rw [k2];exact h.past⟩ ?_
  rcases hs with hs|hs
  ·have hE:cV w a.side=w.a:=by rw [hs];rfl
   rw [hE];exact Fn C.oka C.sta hpos h7
  have hE:cV w a.side=w.b:=by rw [hs];rfl
  rw [hE];exact Fn C.okb C.stb hpos h7
 have hout:AllWf (jd w.bag a.pos):=fun x hx=>h.bag x (GD hx)
 unfold bg
 split
 ·split
  ·exact h
  rename_i hl
  split
  ·have hx:p_ w.bag a.pos.toNat∈w.bag:=zo zO
   generalize p_ w.bag a.pos.toNat=x at hx
   unfold ik;split
   ·exact⟨hout,h.past⟩
   rename_i hz
   unfold yg
   rcases mi x.to with h0|h0|h0
   ·exact absurd h0 hz
   ·rw [if_pos (.inl h0),h0]
    exact pz ⟨hout,h.past⟩ (Fm C.oka C.sta)
   rw [if_pos (.inr h0),h0]
   exact pz ⟨hout,h.past⟩ (Fm C.okb C.stb)
  exact⟨hout,h.past⟩
 split
 ·split
  ·exact h
  rename_i hl
  rw [not_or] at hl
  exact⟨g0 h.bag (dg (h.bag _ (zo zO))),h.past⟩
 split
 ·split
  ·exact h
  rename_i hm
  split
  ·exact h
  refine⟨g0 h.bag (dg (Fl ?_)),h.past⟩
  have hm:eK w a.letter=true:=by simpa using hm
  simp only [eK,zk] at hm
  exact hm.1.1.1
 split
 ·exact h
 rename_i hl
 rw [not_or] at hl
 exact⟨g0 h.bag (dg (h.past _ (zo zO))),h.past⟩
theorem Start.lite {w:WorldD} (S:Start w):Lite w:=by
 have h:=S.e
 simp only [startE,zk,decide_eq_true_eq] at h
 obtain⟨⟨⟨⟨⟨⟨oa,ob⟩,a1,a2,_⟩,_⟩,_⟩,_⟩,_⟩:=h
 exact⟨BM.1 oa,BM.1 ob,a1,a2⟩
theorem uC {p:PolicyD} {l:List ActD} (hp:polOk p=true) (hl:l.length<=120) (ha:∀ a∈l,a.wf/\a.text.length<=1048576):GoodW (cp p l).1 (0+l.length)/\LWf (cp p l).1/\(cp p l).1.a.wf/\(cp p l).1.b.wf:=by
 rw [cp,if_pos ⟨hp,hl⟩]
 have h0:=pu hp
 have h:=(oK (Q:=fun w k=>(GoodW w k/\Lite w)/\LWf w) (P:=fun a=>a.wf/\a.text.length<=1048576) (fun w k a h ha=>⟨⟨ni h.1.1 ha.2,GH h.1.2 h.1.1.a.p h.1.1.b.p⟩,Jn h.1.2 h.2 ha.1⟩) (l:=l) (cs:=[]) (k:=0) ⟨⟨h0.g,h0.s.lite⟩,⟨by rw [h0.s.bag];exact cD,by rw [h0.s.past];exact cD⟩⟩ ha).1
 exact⟨h.1.1,h.2,h.1.2.oka.wf h.1.1.a,h.1.2.okb.wf h.1.1.b⟩
theorem GI {a:ActD} (h:actGood a=true):a.wf:=by
 cases ks h with
 |inject x hx=>
  have h1:=Fl hx
  simp only [LetterD.wf] at h1
  simp only [ActD.wf,ah]
  exact⟨dL zO,dL zO,dL zO,dL zO,by simp [maxLen],dL zO,dL zO,h1⟩
 |_=>simp [ActD.wf,AddrD.wf,LetterD.wf,TagD.wf,bN,maxLen,ah,ac]<;>omega
theorem fY {a:ActD} (h:actGood a=true):a.wf/\a.text.length<=1048576:=by
 refine⟨GI h,?_⟩
 simp only [actGood,zk] at h
 exact (gP h.1.1).2.2.2.2.2
theorem zp {parts:List (List UInt8)}:∀ {l:List PolicyD},(gD parts l).2=true->(gD parts l).1∈l
 |[],h=>by simp [gD] at h
 |c::r,h=>by
  rw [gD] at h⊢
  split at h
  ·rename_i hs;rw [if_pos hs];exact P9 ..
  rename_i hs;rw [if_neg hs];exact Qd _ (zp h)
theorem Lu:∀ p∈eU,polOk p=true:=by decide
theorem Jo {l:List UInt8} (h:(h_ l).2=true):polOk (h_ l).1=true:=by
 rw [h_] at h⊢
 split at h
 ·rename_i hs;rw [if_pos hs];exact Lu _ (zp h)
 cases h
theorem Dp {l:List UInt8} (h:(gn l).2=true):actGood (gn l).1=true:=by
 rw [xw,xu] at h⊢
 split at h
 ·rename_i hs
  rw [if_pos hs]
  rw [wq] at h⊢
  split at h
  ·rename_i hg;rw [if_pos hg];exact hg.1
  cases h
 cases h
structure ScrOk (R:Int×PolicyD×List ActD):Prop where
 p:polOk R.2.1=true
 n:R.2.2.length<=120
 a:∀ a∈R.2.2,actGood a=true
theorem pA:∀ {l:List (List UInt8)} {n:Nat} {p:PolicyD} {b:Bool} {bb:List ActD},(b=true->polOk p=true)->bb.length<=120->(∀ a∈bb,actGood a=true)->(eV n l p b bb).1=0->ScrOk (eV n l p b bb)
 |[],n,p,b,bb,hp,hn,ha,h=>by
  rw [eV] at h⊢
  cases b with
  |true=>exact⟨hp rfl,hn,ha⟩
  |false=>dsimp only at h;simp at h;omega
 |l::r,n,p,b,bb,hp,hn,ha,h=>by
  rw [eV] at h⊢
  split at h
  ·rename_i hs;rw [if_pos hs];exact pA hp hn ha h
  rename_i hs
  rw [if_neg hs]
  split at h
  ·rename_i hb
   rw [if_pos hb]
   split at h
   ·rename_i hq;rw [if_pos hq];exact pA (fun _=>Jo hq) hn ha h
   dsimp only at h;omega
  rename_i hb
  rw [if_neg hb]
  split at h
  ·rename_i hq
   rw [if_pos hq]
   refine pA (fun _=>hp (by cases b;exact absurd rfl hb;rfl)) (by rw [Qb,P7];omega) (fun a hm=>?_) h
   rcases Qk.1 hm with hm|hm
   ·exact ha a hm
   rw [Qg.1 hm];exact Dp hq.1
  dsimp only at h;omega
theorem oM:∀ {l:List (List UInt8)} {n:Nat} {p:PolicyD} {b:Bool} {bb:List ActD},0<=(eV n l p b bb).1/\(eV n l p b bb).1<=n+l.length+1
 |[],n,p,b,bb=>by
  rw [eV]
  cases b<;>simp<;>omega
 |l::r,n,p,b,bb=>by
  have e:((l::r).length:Int)=r.length+1:=by simp
  rw [eV]
  split
  ·have:= @oM r (n+1) p b bb;omega
  split
  ·split
   ·have:= @oM r (n+1) (h_ l).1 true bb;omega
   dsimp only;omega
  split
  ·have:= @oM r (n+1) p true (bb++[(gn l).1]);omega
  dsimp only;omega
theorem Dq {y:UInt8}:∀ {l:List UInt8} {acc:List (List UInt8)} {cur:List UInt8},(eQ y acc cur l).length<=acc.length+l.length+1
 |[],acc,cur=>by rw [eQ];simp
 |b::l,acc,cur=>by
  rw [eQ];split
  ·have:=Dq (y:=y) (l:=l) (acc:=acc++[cur]) (cur:=[])
   rw [Qb,P7] at this
   rw [Qa];omega
  have:=Dq (y:=y) (l:=l) (acc:=acc) (cur:=cur++[b])
  rw [Qa];omega
theorem Dr (t:List UInt8):(d9 10 t).length<=t.length+1:=by
 have:=Dq (y:=10) (l:=t) (acc:=[]) (cur:=[])
 rw [Qe,Qt] at this
 exact this
theorem Ds {t:List UInt8} (h:(eV 0 (d9 10 t) ⟨0,0⟩ false []).1=0):ScrOk (eV 0 (d9 10 t) ⟨0,0⟩ false []):=pA zP zP zP h
theorem GJ (w:WorldD) (a:ActD):0<=(d_ w a).2/\(d_ w a).2<=3:=by
 unfold d_;split
 ·split
  ·unfold bb;split<;>exact⟨zP,zP⟩
  unfold bg;repeat' split
  all_goals exact⟨zP,zP⟩
 exact⟨zP,zP⟩
theorem ts:∀ {l:List ActD} {w:WorldD} {cs:List Int},(∀ c∈cs,0<=c/\c<=3)->∀ c∈(jJ l w cs).2,0<=c/\c<=3
 |[],w,cs,h=>h
 |a::l,w,cs,h=>ts (l:=l) fun c hc=>by
  rcases Qk.1 hc with hc|hc
  ·exact h c hc
  rw [Qg.1 hc];exact GJ w a
theorem tv {p:PolicyD} {l:List ActD}:∀ c∈(cp p l).2,0<=c/\c<=3:=by
 rw [cp];split
 ·exact ts zP
 intro c hc;simp at hc
def told (l:List ActD):List ActD:=l.filter actGood
theorem BP {cs:List Int} (h:∀ c∈cs,0<=c/\c<=3) (hn:cs.length<=120):(bF [32] (cs.map dp)).length<=600:=by
 have hl:=oW (y:=[32]) (l:=cs.map dp)
 have ht:∀ l:List Int,(∀ c∈l,0<=c/\c<=3)->tot (l.map dp)<=2*l.length:=by
  intro l
  induction l with
  |nil=>intro _;simp [tot]
  |cons c r ih=>
   intro h
   have h1:=ih fun c hc=>h c (Qd _ hc)
   have h2:=h c (P9 ..)
   obtain⟨n,rfl⟩:=Int.eq_ofNat_of_zero_le h2.1
   have h3:(dp (n:Int)).length=1:=by rw [f_ zO];rfl
   simp only [tot,List.map_cons,List.sum_cons,Qa] at h1⊢
   omega
 have:=ht cs h
 simp only [P7,Nat.mul_one,P_] at hl
 omega
theorem BQ (p:PolicyD) (l:List ActD) (ha:∀ a∈l,a.text.length<=1048576):SmallW (cp p l).1/\(cp p l).2.length<=120:=by
 rw [cp];split
 ·rename_i h
  have:=oK (Q:=GoodW) (P:=fun a=>a.text.length<=1048576) (fun w k a h ha=>ni h ha) (l:=l) (cs:=[]) (pu h.1).g ha
  refine⟨this.1.s,?_⟩
  rw [this.2,Qe,Qt]
  exact h.2
 exact⟨⟨⟨by decide,by decide,by decide,by decide,by decide,by decide,by decide⟩,⟨by decide,by decide,by decide,by decide,by decide,by decide,by decide⟩,by decide,by decide,by decide,by decide,by decide,by decide,by decide⟩,by decide⟩
theorem H3 {l:List UInt8}:Fg l=((bm l).2 && ((bm l).1.length == 0 || BG (bm l).1)):=rfl
theorem zw (t:List UInt8) (ht:t.length<=1048576):aP 13 [.sc (.st t)] [] (.tu [.sc (.sl 0 0 (gS t).1.length),.sc (.int .i64 (gS t).2)]) [some ⟨(gS t).1.map aD,1,9,true,true⟩]:=by
 obtain⟨R,hR⟩:∃ R,R=eV 0 (d9 10 t) ⟨0,0⟩ false []:=⟨_,rfl⟩
 have hres:R.1=0->ScrOk R:=fun h=>by rw [hR] at h⊢;exact Ds h
 have hbd:0<=R.1/\R.1<=6003\/6000 < t.length:=by
  by_cases h:6000 < t.length
  ·exact .inr h
  have:=Dr t
  have:= @oM (d9 10 t) 0 ⟨0,0⟩ false []
  rw [<-hR] at this
  exact .inl zO
 obtain⟨U,hU⟩:∃ U,U=gS t:=⟨_,rfl⟩
 have u1:6000 < t.length->U=([],-1):=fun h=>by rw [hU,gS,if_pos h]
 have u2:¬ 6000 < t.length->¬ R.1=0->U=([],R.1):=fun h h2=>by rw [hU,gS,if_neg h,<-hR,if_pos h2]
 have u3:¬ 6000 < t.length->R.1=0->U=(bF [32] ((cp R.2.1 R.2.2).2.map dp)::dF (cp R.2.1 R.2.2).1,0):=fun h h2=>by rw [hU,gS,if_neg h,<-hR,if_neg (by simp [h2])]
 rw [<-hU]
 clear hU
 have hcl:=Dr t
 have hC:=zC t zO
 refine qE func13 ntmps13 results13 fun E hE=>?_
 by_cases h6:6000 < t.length
 ·rw [u1 h6]
  refine qX ?_
  exact qF (qI 0 1)
 generalize d9 10 t=Ls at hC hR hcl
 refine qX ?_
 refine qK (hC) [] ?_
 refine fJ 0 hE (fun s (y:Nat×PolicyD×Bool×List ActD)=>s.at (qU [0,1,2,2,10,6,20,74]) [(7,.sc (.bo y.2.2.1)),(8,.sc (.sl 3 0 y.2.2.2.length)),(9,.sc (.int .i64 (y.1:Nat)))] ([some ⟨[],1,9,true,true⟩,some ⟨Ls.map aD,1,9,true,true⟩,some ⟨[PolicyD.cs y.2.1],2,25,true,false⟩,some ⟨y.2.2.2.map ActD.cs,28,38,true,true⟩])) (fun (y:Nat×PolicyD×Bool×List ActD)=>y.1<=Ls.length/\y.2.2.2.length<=120/\eV y.1 (Ls.drop y.1) y.2.1 y.2.2.1 y.2.2.2=R) (fun (y:Nat×PolicyD×Bool×List ActD)=>Ls.length - y.1) (0,⟨0,0⟩,false,[]) (qI 0 4) (⟨P8 _,P8 _,hR.symm⟩) fun y hy N hN=>?_
 obtain⟨k,p,b,bb⟩:=y
 obtain⟨f1,f2,f4⟩:=hy
 dsimp only at f1 f2 f4
 refine qR ?_
 refine qB (fun h=>?_) fun h=>?_
 ·rw [zh h] at f4
  have hg:=dZ h
  generalize hl:Ls[k]=l at*
  have hP:=mJ l
  have hcl:=iV l
  have htot:=gC l
  have hsk:=H3 (l:=l)
  have hQ:=vR l
  have hA:=DC l
  rw [xw] at f4
  generalize h_ l=pr at hQ f4
  generalize lx l=ar at hA f4
  generalize Fg l=sk at hsk f4
  generalize bm l=pp at hP hcl htot hsk
  obtain⟨ps,ok⟩:=pp
  obtain⟨q,qr⟩:=pr
  obtain⟨a,af⟩:=ar
  dsimp only at hP hcl htot hsk hQ hA f4
  try simp (disch:=omega) only [go_sem,seval,hl]
  refine qK (hP) [] ?_
  cases ok with
  |false=>
   simp only [Qf] at hsk
   subst hsk
   refine qX ?_
   rw [if_neg zP] at f4
   cases b with
   |false=>
    rw [if_pos rfl] at f4
    try simp (disch:=omega) only [go_sem,seval,hl]
    refine qK (hQ) [] ?_
    cases qr with
    |true=>
     rw [if_pos rfl] at f4
     refine qX ?_
     exact qN hN (k+1,q,true,bb) (qI 0 4) (by (try dsimp only);exact⟨zO,f2,f4⟩)
    |false=>
     rw [if_neg zP] at f4
     have hz:R.1=(k:Int)+1:=by rw [<-f4]
     rw [u2 h6 zO,hz]
     refine qX ?_
     exact qF (qI 0 1)
   |true=>
    rw [if_neg zP] at f4
    try simp (disch:=omega) only [go_sem,seval,hl]
    refine qK (hA) [] ?_
    cases af with
    |true=>
     by_cases h120:bb.length < 120
     ·rw [if_pos ⟨rfl,h120⟩] at f4
      refine qX ?_
      refine lr hN (k+1,p,true,bb++[a]) (qI 0 3++qI 7 1) (by (try dsimp only);exact⟨zO,by simp;omega,f4⟩) ?_
      first|exact⟨⟩|simp [ActD.cs]
     rw [if_neg (by simp [h120])] at f4
     have hz:R.1=(k:Int)+1:=by rw [<-f4]
     rw [u2 h6 zO,hz]
     refine qX ?_
     exact qF (qI 0 1)
    |false=>
     rw [if_neg zP] at f4
     have hz:R.1=(k:Int)+1:=by rw [<-f4]
     rw [u2 h6 zO,hz]
     refine qX ?_
     exact qF (qI 0 1)
  |true=>
   cases ps with
   |nil=>
    simp only [Qe,beq_self_eq_true,Qu,Qq] at hsk
    subst hsk
    rw [if_pos rfl] at f4
    refine qX ?_
    exact qN hN (k+1,p,b,bb) (qI 0 4) (by (try dsimp only);exact⟨zO,f2,f4⟩)
   |cons s r=>
    obtain⟨c,s,rfl⟩:∃ c s',s=c::s':=by
     cases s with
     |nil=>exact absurd rfl (hcl [] (P9 ..)).1
     |cons c s'=>exact⟨c,s',rfl⟩
    by_cases h35:c=35
    ·subst h35
     have hsk:sk=true:=by rw [hsk];simp [BG]
     subst hsk
     rw [if_pos rfl] at f4
     refine qX ?_
     exact qN hN (k+1,p,b,bb) (qI 0 4) (by (try dsimp only);exact⟨zO,f2,f4⟩)
    have hc35:¬ ((c.toNat:Nat):Int)=35:=fun e=>h35 (UInt8.toNat_inj.1 (by show c.toNat=35;omega))
    have hsk:sk=false:=by rw [hsk];simp [BG,h35]
    subst hsk
    refine qX ?_
    rw [if_neg zP] at f4
    cases b with
    |false=>
     rw [if_pos rfl] at f4
     try simp (disch:=omega) only [go_sem,seval,hl]
     refine qK (hQ) [] ?_
     cases qr with
     |true=>
      rw [if_pos rfl] at f4
      refine qX ?_
      exact qN hN (k+1,q,true,bb) (qI 0 4) (by (try dsimp only);exact⟨zO,f2,f4⟩)
     |false=>
      rw [if_neg zP] at f4
      have hz:R.1=(k:Int)+1:=by rw [<-f4]
      rw [u2 h6 zO,hz]
      refine qX ?_
      exact qF (qI 0 1)
    |true=>
     rw [if_neg zP] at f4
     try simp (disch:=omega) only [go_sem,seval,hl]
     refine qK (hA) [] ?_
     cases af with
     |true=>
      by_cases h120:bb.length < 120
      ·rw [if_pos ⟨rfl,h120⟩] at f4
       refine qX ?_
       refine lr hN (k+1,p,true,bb++[a]) (qI 0 3++qI 7 1) (by (try dsimp only);exact⟨zO,by simp;omega,f4⟩) ?_
       first|exact⟨⟩|simp [ActD.cs]
      rw [if_neg (by simp [h120])] at f4
      have hz:R.1=(k:Int)+1:=by rw [<-f4]
      rw [u2 h6 zO,hz]
      refine qX ?_
      exact qF (qI 0 1)
     |false=>
      rw [if_neg zP] at f4
      have hz:R.1=(k:Int)+1:=by rw [<-f4]
      rw [u2 h6 zO,hz]
      refine qX ?_
      exact qF (qI 0 1)
 rw [BH zO] at f4
 cases b with
 |false=>
  have hz:R.1=(k:Int)+1:=by rw [<-f4];rfl
  have hk:k=Ls.length:=zO
  subst hk
  rw [u2 h6 zO,hz]
  refine qX ?_
  exact qF (qI 0 1)
 |true=>
  have hz:R.1=0:=by rw [<-f4];rfl
  have ho:=hres hz
  have e1:R.2=(p,bb):=by rw [<-f4]
  rw [u3 h6 hz]
  rw [e1]
  dsimp only
  have oa:=ho.a
  have op:=ho.p
  rw [e1] at oa op
  dsimp only at oa op
  clear ho u1 u2 u3 hres hbd
  have hL:=Gy p bb zO fun a ha=>(fY (oa a ha)).2
  obtain⟨g,hlw,hwa,hwb⟩:=uC op f2 fun a ha=>fY (oa a ha)
  have hcodes:(cp p bb).2.length<=120:=(BQ p bb fun a ha=>(fY (oa a ha)).2).2
  have hcb:=tv (p:=p) (l:=bb)
  obtain⟨V,hV⟩:∃ V,V=cp p bb:=⟨_,rfl⟩
  rw [<-hV] at hL g hlw hwa hwb hcodes hcb⊢
  clear hV
  obtain⟨w,cs⟩:=V
  dsimp only at hL g hlw hwa hwb hcodes hcb⊢
  have hs:=g.s
  have hW:=ux w hwa hwb hlw.bag hs.bag hs.a.subs hs.a.own hs.a.far hs.b.subs hs.b.own hs.b.far
  refine qX ?_
  refine qK (hL) (qI 3 1) ?_
  have jl:=BP hcb hcodes
  refine fJ 0 hE (fun s (x:Nat×List UInt8)=>s.at (qU [0,1,4,12,20,103]) [(18,.sc (.st x.2)),(19,.sc (.int .i64 (x.1:Nat)))] (s.hp)) (fun (x:Nat×List UInt8)=>x.1<=cs.length/\b_ [32] x.1 x.2 ((cs.map dp).drop x.1)=bF [32] (cs.map dp)) (fun (x:Nat×List UInt8)=>cs.length - x.1) (0,[]) (qI 0 27) (⟨P8 _,rfl⟩) fun x hx N2 hN2=>?_
  obtain⟨j,acc⟩:=x
  obtain⟨x1,x2⟩:=hx
  dsimp only at x1 x2
  refine qR ?_
  by_cases h8:j < cs.length
  ·have h9:j < (cs.map dp).length:=by rw [P_];exact h8
   have hle:=kU h9 x2
   rw [lu h9] at x2
   rw [List.getElem_map] at hle x2
   have hcj:=hcb cs[j] (P6 h8)
   have hd:=az cs[j] (dL zO)
   have hdl:(dp cs[j]).length<=600:=by have:=hle;omega
   generalize hv:cs[j]=v at*
   by_cases h0:0 < j
   ·rw [if_pos h0] at hle x2
    rw [Qb,P7] at hle
    try simp (disch:=omega) only [go_sem,seval,hv,aC h8]
    refine ai (by (try simp (disch:=omega) only [go_sem,Ql,seval,hv])<;>omega) (hd) [] qM zF (ab 400 ?_)
    simp (disch:=omega) only [go_sem,seval]
    exact qN hN2 (j+1,(acc++[32])++dp v) (qI 0 27) (by (try dsimp only);exact⟨zO,x2⟩)
   rw [if_neg h0] at hle x2
   try simp (disch:=omega) only [go_sem,seval,hv,aC h8]
   refine ai (by (try simp (disch:=omega) only [go_sem,Ql,seval,hv])<;>omega) (hd) [] qM zF (ab 400 ?_)
   simp (disch:=omega) only [go_sem,seval]
   exact qN hN2 (j+1,acc++dp v) (qI 0 27) (by (try dsimp only);exact⟨zO,x2⟩)
  rw [Qc (by rw [P_];omega),b_] at x2
  subst x2
  have wl:=lk w
  have wa:=dV w.a
  have wb:=dV w.b
  have k1:=hs.a.subs
  have k2:=hs.a.own
  have k3:=hs.a.far
  have k4:=hs.b.subs
  have k5:=hs.b.own
  have k6:=hs.b.far
  refine qX ?_
  refine qK (hW) (qI 4 21) ?_
  refine qP (qI 29 1) ?_
  first|exact⟨⟩|omega
def tK (p:List (List UInt8)):Nat->Nat->ActD×Bool
 |0,_=>(bw,false)
 |f+1,k=>if Ce p (k:Nat) then ((rdF (k:Nat) (p.drop 1)).1,true) else tK p f (k+1)
theorem Fs (p:List (List UInt8)):tK p 12 1=qs p Cf:=rfl
theorem Jr (p:List (List UInt8)):tot (p.drop 1)<=tot p:=by
 cases p<;>simp [tot]
theorem LA {k:Int} {a:ActD} {l:List Int} (h:a.wf) (hl:∀ x∈l,bN x):(vP k a l).1.wf:=by
 obtain⟨k',s,p,m,t,⟨i,d,b1,b2⟩,x⟩:=a
 obtain⟨h1,h2,h3,h4,h5,h6,h7,hx⟩:=h
 have w:=fun n=>dw hl n
 rw [vP]
 (repeat' split)<;>first|exact iD h1 h2 h3 h4 h5 h6 h7 hx|exact iD h1 h2 h3 h4 h5 (w _) (w _) hx|exact iD h1 h2 h3 (w _) h5 h6 h7 hx|exact iD h1 h2 (w _) h4 h5 h6 h7 hx
theorem LB {k:Int} {a:ActD} {r:Option (List Int)} (h:a.wf) (hl:∀ l,r=some l->∀ x∈l,bN x):(mK k a r).1.wf:=by
 cases r with
 |none=>exact h
 |some l=>
  have hl':=hl l rfl
  rw [mK]
  split
  ·split
   ·exact h
   refine LA ?_ (fun x hx=>hl' x (List.mem_of_mem_drop hx))
   obtain⟨k',s,p,m,t,⟨i,d,b1,b2⟩,x⟩:=a
   obtain⟨h1,h2,h3,h4,h5,h6,h7,hx⟩:=h
   exact iD h1 (dw hl' _) h3 h4 h5 h6 h7 hx
  exact LA h hl'
theorem MY {k s:Int} (hk:bN k) (hs:bN s):(bx k s).wf:=
 iD hk hs ⟨by decide,by decide⟩ ⟨by decide,by decide⟩ zP ⟨by decide,by decide⟩ ⟨by decide,by decide⟩ eS
theorem NW {k:Int} {p:List (List UInt8)} (hk:1<=k/\k<=12) (ht:tot p<=600):(rdF k p).1.wf:=by
 have z:bN 0:=⟨by decide,by decide⟩
 have o:bN 1:=⟨by decide,by decide⟩
 have hk':bN k:=⟨zO,zO⟩
 have ha:=MY hk' o
 have hm:(600:Nat)<=maxLen:=by decide
 have hu:(jw (p.getD 1 [])).1.length<=maxLen:=by
  have h1:=oN (p.getD 1 [])
  have h2:=oP p 1
  rw [jw]
  split
  ·simp
  omega
 have hx:(wo (p.getD 0 [])).1.wf:=Lz (by have:=oP p 0;omega)
 have hw:ActD.wf { bx k 1 with text:=(jw (p.getD 1 [])).1 }:=iD hk' o z z hu z z eS
 rw [rdF]
 split
 ·split
  ·exact ha
  exact iD hk' o z z (by simp [bx]) z z hx
 split
 ·split
  ·exact ha
  split
  ·exact hw
  exact LB hw (fun l h=>mb h)
 exact LB ha (fun l h=>mb h)
theorem P5 {α:Type} {f:α->List Sc} (l:List α) (d:Nat):List.take (l.drop d).length (List.drop d (l.map f))=(l.drop d).map f:=by
 rw [<-List.map_drop,<-P_ (f:=f),Qp]
theorem DD (l:List UInt8):oO Tryz.prog 0 actTab 32 [.sc (.st l)] [] (.tu [.ag (gn l).1.cs,.sc (.bo (gn l).2)]) []:=by
 obtain⟨R,hR⟩:∃ R,R=gn l:=⟨_,rfl⟩
 rw [<-hR]
 have hP:=kq l
 obtain⟨ht1,ht2⟩:=gC l
 have ht3:=jZ l
 rw [gn] at hR
 generalize bm l=q at*
 obtain⟨p,ok⟩:=q
 dsimp only at hR hP ht1 ht2 ht3
 refine tw func32 zXk rfl fun E hG hE=>ab 400 ?_
 simp (disch:=omega) only [ntmps32,results32,go_sem]
 refine ai (qC) (hP) [] qM zF (ab 400 ?_)
 simp (disch:=omega) only [go_sem,Nat.reduceEqDiff,Nat.reduceAdd,Nat.reduceSub,Int.reduceAdd,Int.reduceSub,Int.reduceToNat]
 cases ok with
 |false=>
  rw [if_pos (.inl rfl)] at hR
  subst hR
  try simp (disch:=omega) only [go_sem,Nat.reduceEqDiff,Nat.reduceAdd,Nat.reduceSub,Int.reduceAdd,Int.reduceSub,Int.reduceToNat]
  refine aj [] (qC) _ zXg zF zF ?_
  simp (disch:=omega) only [go_sem,Nat.reduceEqDiff,Nat.reduceAdd,Nat.reduceSub,Int.reduceAdd,Int.reduceSub,Int.reduceToNat]
  simp [bw,ah,ac]
 |true=>
  try simp (disch:=omega) only [go_sem,Nat.reduceEqDiff,Nat.reduceAdd,Nat.reduceSub,Int.reduceAdd,Int.reduceSub,Int.reduceToNat]
  split<;>rename_i h2<;>(try simp only [zR] at h2)<;>simp (disch:=omega) only [go_sem,Nat.reduceEqDiff,Nat.reduceAdd,Nat.reduceSub,Int.reduceAdd,Int.reduceSub,Int.reduceToNat,h2]<;>(try simp only [zQ] at h2)<;>try simp (disch:=omega) only [go_sem,Nat.reduceEqDiff,Nat.reduceAdd,Nat.reduceSub,Int.reduceAdd,Int.reduceSub,Int.reduceToNat]
  ·rw [if_pos (.inr zO)] at hR
   subst hR
   refine aj [] (qC) _ zXg zF zF ?_
   simp (disch:=omega) only [go_sem,Nat.reduceEqDiff,Nat.reduceAdd,Nat.reduceSub,Int.reduceAdd,Int.reduceSub,Int.reduceToNat]
   simp [bw,ah,ac]
  have h0p:0 < p.length:=zO
  rw [if_neg (by rintro (h|h);exact absurd h zP;omega),<-Fs] at hR
  obtain⟨w,hw⟩:∃ w,w=p[0]:=⟨_,rfl⟩
  have hw0:p.getD 0 []=w:=by rw [hw,List.getD_eq_getElem?_getD,Qj h0p];rfl
  have hd:tot (p.drop 1)<=600:=Nat.le_trans (Jr p) ht1
  refine dI 0 hE (fun s (k:Nat)=>s.at (qU [0,1,3,1,5,1,7,41]) [(6,.sc (.int .i64 (k:Nat)))] (s.hp)) (fun (k:Nat)=>1<=k/\k<=13/\tK p (13 - k) k=R) (fun (k:Nat)=>13 - k) 1 (qI 0 2) (qC) (⟨zO,zO,hR.symm⟩) (aw zF zF ?_) fun k hk N hN=>?_
  ·try simp (disch:=omega) only [go_sem,Nat.reduceEqDiff,Nat.reduceAdd,Nat.reduceSub,Int.reduceAdd,Int.reduceSub,Int.reduceToNat]
  obtain⟨hk1,hk2,hkR⟩:=hk
  refine ab 400 ?_
  try simp (disch:=omega) only [go_sem,Nat.reduceEqDiff,Nat.reduceAdd,Nat.reduceSub,Int.reduceAdd,Int.reduceSub,Int.reduceToNat]
  split<;>rename_i h3<;>(try simp only [zR] at h3)<;>simp (disch:=omega) only [go_sem,Nat.reduceEqDiff,Nat.reduceAdd,Nat.reduceSub,Int.reduceAdd,Int.reduceSub,Int.reduceToNat,h3]<;>(try simp only [zQ] at h3)<;>try simp (disch:=omega) only [go_sem,Nat.reduceEqDiff,Nat.reduceAdd,Nat.reduceSub,Int.reduceAdd,Int.reduceSub,Int.reduceToNat]
  ·have htab:=Ly (k:=(k:Int)) zO
   refine Fr (g:=0) (tab:=actTab) (l:=p) hG zXk zXk ⟨rfl,rfl,rfl⟩ ⟨rfl,rfl,rfl⟩ ⟨rfl,rfl,rfl⟩ ⟨rfl,rfl,rfl⟩ ⟨rfl,rfl,rfl⟩ ⟨rfl,rfl,rfl⟩ ⟨rfl,rfl,rfl⟩ zD zXk underlying104 zXk zXk underlying9 rfl rfl (Qj h0p) rfl zO zO htab (by refine⟨?_,?_,?_,?_,?_,?_⟩<;>(unfold Slots.has;simp)) (qC) (ab 400 ?_)
   try simp (disch:=omega) only [go_sem,Nat.reduceEqDiff,Nat.reduceAdd,Nat.reduceSub,Int.reduceAdd,Int.reduceSub,Int.reduceToNat]
   rw [show 13 - k=(12 - k)+1 from by omega,tK] at hkR
   have e0:(k:Int).toNat=k:=zO
   simp only [Ce,hw0,e0] at hkR
   split<;>rename_i h4<;>(try simp only [zR] at h4)<;>simp (disch:=omega) only [go_sem,Nat.reduceEqDiff,Nat.reduceAdd,Nat.reduceSub,Int.reduceAdd,Int.reduceSub,Int.reduceToNat,h4]<;>(try simp only [zQ] at h4)<;>try simp (disch:=omega) only [go_sem,Nat.reduceEqDiff,Nat.reduceAdd,Nat.reduceSub,Int.reduceAdd,Int.reduceSub,Int.reduceToNat]
   ·have h4':¬ w=actTab.getD k []:=by rw [hw];exact h4
    rw [decide_eq_false h4',Qf,if_neg zP] at hkR
    refine⟨qC,hN _ (k+1) (qI 0 2) (by (try dsimp only);exact⟨zO,zO,by rw [show 13 - (k+1)=12 - k from by omega];exact hkR⟩) (by (try dsimp only);omega) (aw zF zF ?_)⟩
    try simp (disch:=omega) only [go_sem,Nat.reduceEqDiff,Nat.reduceAdd,Nat.reduceSub,Int.reduceAdd,Int.reduceSub,Int.reduceToNat]
   have h4':w=actTab.getD k []:=by rw [hw];exact h4
   rw [decide_eq_true h4',Qr] at hkR
   have hF:=vZ k zO (p.drop 1) zS hd
   have hwf:=NW (k:=k) (p:=p.drop 1) zO hd
   rw [List.length_drop] at hF
   generalize rdF (k:Int) (p.drop 1)=u at hF hwf hkR
   obtain⟨u,fine⟩:=u
   dsimp only at hF hwf hkR
   have hAL:=DB u hwf
   have hSP:=oc (bM u) p zO zO
   refine ai (qC) hF [some (1,some 1)] (by simp only [go_sem,P5];repeat' first|rfl|constructor) zF (ab 400 ?_)
   cases fine with
   |false=>
    rw [Qf,if_neg zP] at hkR
    try simp (disch:=omega) only [go_sem,Nat.reduceEqDiff,Nat.reduceAdd,Nat.reduceSub,Int.reduceAdd,Int.reduceSub,Int.reduceToNat]
    refine⟨qC,hN _ (k+1) (qI 0 2) (by (try dsimp only);exact⟨zO,zO,by rw [show 13 - (k+1)=12 - k from by omega];exact hkR⟩) (by (try dsimp only);omega) (aw zF zF ?_)⟩
    try simp (disch:=omega) only [go_sem,Nat.reduceEqDiff,Nat.reduceAdd,Nat.reduceSub,Int.reduceAdd,Int.reduceSub,Int.reduceToNat]
   |true=>
    rw [Qr] at hkR
    try simp (disch:=omega) only [go_sem,Nat.reduceEqDiff,Nat.reduceAdd,Nat.reduceSub,Int.reduceAdd,Int.reduceSub,Int.reduceToNat]
    refine ms hG (qC) hAL (by simp only [go_sem];repeat' first|rfl|constructor) (ab 400 ?_)
    try simp (disch:=omega) only [go_sem,Nat.reduceEqDiff,Nat.reduceAdd,Nat.reduceSub,Int.reduceAdd,Int.reduceSub,Int.reduceToNat]
    refine ai (qC) (hSP) (qI 1 1) qM zF (ab 400 ?_)
    simp (disch:=omega) only [go_sem,Nat.reduceEqDiff,Nat.reduceAdd,Nat.reduceSub,Int.reduceAdd,Int.reduceSub,Int.reduceToNat]
    split<;>rename_i h6<;>(try simp only [zR] at h6)<;>simp (disch:=omega) only [go_sem,Nat.reduceEqDiff,Nat.reduceAdd,Nat.reduceSub,Int.reduceAdd,Int.reduceSub,Int.reduceToNat,h6]<;>(try simp only [zQ] at h6)<;>try simp (disch:=omega) only [go_sem,Nat.reduceEqDiff,Nat.reduceAdd,Nat.reduceSub,Int.reduceAdd,Int.reduceSub,Int.reduceToNat]
    ·rw [if_pos h6] at hkR
     subst hkR
     refine aj [] (qC) _ zXg zF zF ?_
     simp (disch:=omega) only [go_sem,Nat.reduceEqDiff,Nat.reduceAdd,Nat.reduceSub,Int.reduceAdd,Int.reduceSub,Int.reduceToNat]
    rw [if_neg (by simp [h6])] at hkR
    refine⟨qC,hN _ (k+1) (qI 0 2) (by (try dsimp only);exact⟨zO,zO,by rw [show 13 - (k+1)=12 - k from by omega];exact hkR⟩) (by (try dsimp only);omega) (aw zF zF ?_)⟩
    try simp (disch:=omega) only [go_sem,Nat.reduceEqDiff,Nat.reduceAdd,Nat.reduceSub,Int.reduceAdd,Int.reduceSub,Int.reduceToNat]
  obtain rfl:k=13:=zO
  have e:R=(bw,false):=hkR.symm
  subst e
  refine aj [] (qC) _ zXg zF zF ?_
  simp (disch:=omega) only [go_sem,Nat.reduceEqDiff,Nat.reduceAdd,Nat.reduceSub,Int.reduceAdd,Int.reduceSub,Int.reduceToNat]
  simp [bw,ah,ac]
theorem zx (t:List UInt8) (ht:t.length<=1048576):oO Tryz.prog 0 actTab 9 [.sc (.st t)] [] (.tu [.sc (.sl 0 0 (gS t).1.length),.sc (.int .i64 (gS t).2)]) [some ⟨(gS t).1.map aD,1,9,true,true⟩]:=by
 obtain⟨R,hR⟩:∃ R,R=eV 0 (d9 10 t) ⟨0,0⟩ false []:=⟨_,rfl⟩
 have hres:R.1=0->ScrOk R:=fun h=>by rw [hR] at h⊢;exact Ds h
 have hbd:0<=R.1/\R.1<=6003\/6000 < t.length:=by
  by_cases h:6000 < t.length
  ·exact .inr h
  have:=Dr t
  have:= @oM (d9 10 t) 0 ⟨0,0⟩ false []
  rw [<-hR] at this
  exact .inl zO
 obtain⟨U,hU⟩:∃ U,U=gS t:=⟨_,rfl⟩
 have u1:6000 < t.length->U=([],-1):=fun h=>by rw [hU,gS,if_pos h]
 have u2:¬ 6000 < t.length->¬ R.1=0->U=([],R.1):=fun h h2=>by rw [hU,gS,if_neg h,<-hR,if_pos h2]
 have u3:¬ 6000 < t.length->R.1=0->U=(bF [32] ((cp R.2.1 R.2.2).2.map dp)::dF (cp R.2.1 R.2.2).1,0):=fun h h2=>by rw [hU,gS,if_neg h,<-hR,if_neg (by simp [h2])]
 rw [<-hU]
 clear hU
 have hcl:=Dr t
 have hC:=vO t zO
 refine tw func9 zXk rfl fun E hG hE=>ab 400 ?_
 simp (disch:=omega) only [ntmps9,results9,go_sem]
 by_cases h6:6000 < t.length
 ·rw [u1 h6]
  refine qX ?_
  exact qF [none]
 generalize d9 10 t=Ls at hC hR hcl
 refine qX ?_
 refine qK (hC) [] ?_
 refine fJ 0 hE (fun s (y:Nat×PolicyD×Bool×List ActD)=>s.at (qU [0,1,2,2,8,6,19,5,27,52]) [(6,.sc (.bo y.2.2.1)),(7,.sc (.sl 2 0 y.2.2.2.length)),(26,.sc (.int .i64 (y.1:Nat)))] ([some ⟨Ls.map aD,1,9,true,true⟩,some ⟨[PolicyD.cs y.2.1],2,25,true,false⟩,some ⟨y.2.2.2.map ActD.cs,28,38,true,true⟩])) (fun (y:Nat×PolicyD×Bool×List ActD)=>y.1<=Ls.length/\y.2.2.2.length<=120/\eV y.1 (Ls.drop y.1) y.2.1 y.2.2.1 y.2.2.2=R) (fun (y:Nat×PolicyD×Bool×List ActD)=>Ls.length - y.1) (0,⟨0,0⟩,false,[]) (qI 0 2++qO 1) (⟨P8 _,P8 _,hR.symm⟩) fun y hy N hN=>?_
 obtain⟨k,p,b,bb⟩:=y
 obtain⟨f1,f2,f4⟩:=hy
 dsimp only at f1 f2 f4
 refine qR ?_
 refine qB (fun h=>?_) fun h=>?_
 ·rw [zh h] at f4
  have hg:=dZ h
  generalize hl:Ls[k]=l at*
  have hP:=kq l
  have hcl:=iV l
  have htot:=gC l
  have hsk:=H3 (l:=l)
  have hQ:=vS l
  have hA:=DD l
  skip
  generalize h_ l=pr at hQ f4
  generalize gn l=ar at hA f4
  generalize Fg l=sk at hsk f4
  generalize bm l=pp at hP hcl htot hsk
  obtain⟨ps,ok⟩:=pp
  obtain⟨q,qr⟩:=pr
  obtain⟨a,af⟩:=ar
  dsimp only at hP hcl htot hsk hQ hA f4
  try simp (disch:=omega) only [go_sem,seval,hl]
  refine qK (hP) [] ?_
  cases ok with
  |false=>
   simp only [Qf] at hsk
   subst hsk
   refine qX ?_
   rw [if_neg zP] at f4
   cases b with
   |false=>
    rw [if_pos rfl] at f4
    try simp (disch:=omega) only [go_sem,seval,hl]
    refine qK (hQ) [] ?_
    cases qr with
    |true=>
     rw [if_pos rfl] at f4
     refine qX ?_
     exact qN hN (k+1,q,true,bb) (qI 0 3) (by (try dsimp only);exact⟨zO,f2,f4⟩)
    |false=>
     rw [if_neg zP] at f4
     have hz:R.1=(k:Int)+1:=by rw [<-f4]
     rw [u2 h6 zO,hz]
     refine qX ?_
     exact qF [none]
   |true=>
    rw [if_neg zP] at f4
    try simp (disch:=omega) only [go_sem,seval,hl]
    refine ms hG (qC) hA (by simp only [go_sem];repeat' first|rfl|constructor) (ab 400 ?_)
    refine qX ?_
    cases af with
    |true=>
     by_cases h120:bb.length < 120
     ·rw [if_pos ⟨rfl,h120⟩] at f4
      refine qX ?_
      refine lr hN (k+1,p,true,bb++[a]) (qI 0 2++qI 6 1) (by (try dsimp only);exact⟨zO,by simp;omega,f4⟩) ?_
      first|exact⟨⟩|simp [ActD.cs]
     rw [if_neg (by simp [h120])] at f4
     have hz:R.1=(k:Int)+1:=by rw [<-f4]
     rw [u2 h6 zO,hz]
     refine qX ?_
     exact qF [none]
    |false=>
     rw [if_neg zP] at f4
     have hz:R.1=(k:Int)+1:=by rw [<-f4]
     rw [u2 h6 zO,hz]
     refine qX ?_
     exact qF [none]
  |true=>
   cases ps with
   |nil=>
    simp only [Qe,beq_self_eq_true,Qu,Qq] at hsk
    subst hsk
    rw [if_pos rfl] at f4
    refine qX ?_
    exact qN hN (k+1,p,b,bb) (qI 0 3) (by (try dsimp only);exact⟨zO,f2,f4⟩)
   |cons s r=>
    obtain⟨c,s,rfl⟩:∃ c s',s=c::s':=by
     cases s with
     |nil=>exact absurd rfl (hcl [] (P9 ..)).1
     |cons c s'=>exact⟨c,s',rfl⟩
    by_cases h35:c=35
    ·subst h35
     have hsk:sk=true:=by rw [hsk];simp [BG]
     subst hsk
     rw [if_pos rfl] at f4
     refine qX ?_
     exact qN hN (k+1,p,b,bb) (qI 0 3) (by (try dsimp only);exact⟨zO,f2,f4⟩)
    have hc35:¬ ((c.toNat:Nat):Int)=35:=fun e=>h35 (UInt8.toNat_inj.1 (by show c.toNat=35;omega))
    have hsk:sk=false:=by rw [hsk];simp [BG,h35]
    subst hsk
    refine qX ?_
    rw [if_neg zP] at f4
    cases b with
    |false=>
     rw [if_pos rfl] at f4
     try simp (disch:=omega) only [go_sem,seval,hl]
     refine qK (hQ) [] ?_
     cases qr with
     |true=>
      rw [if_pos rfl] at f4
      refine qX ?_
      exact qN hN (k+1,q,true,bb) (qI 0 3) (by (try dsimp only);exact⟨zO,f2,f4⟩)
     |false=>
      rw [if_neg zP] at f4
      have hz:R.1=(k:Int)+1:=by rw [<-f4]
      rw [u2 h6 zO,hz]
      refine qX ?_
      exact qF [none]
    |true=>
     rw [if_neg zP] at f4
     try simp (disch:=omega) only [go_sem,seval,hl]
     refine ms hG (qC) hA (by simp only [go_sem];repeat' first|rfl|constructor) (ab 400 ?_)
     refine qX ?_
     cases af with
     |true=>
      by_cases h120:bb.length < 120
      ·rw [if_pos ⟨rfl,h120⟩] at f4
       refine qX ?_
       refine lr hN (k+1,p,true,bb++[a]) (qI 0 2++qI 6 1) (by (try dsimp only);exact⟨zO,by simp;omega,f4⟩) ?_
       first|exact⟨⟩|simp [ActD.cs]
      rw [if_neg (by simp [h120])] at f4
      have hz:R.1=(k:Int)+1:=by rw [<-f4]
      rw [u2 h6 zO,hz]
      refine qX ?_
      exact qF [none]
     |false=>
      rw [if_neg zP] at f4
      have hz:R.1=(k:Int)+1:=by rw [<-f4]
      rw [u2 h6 zO,hz]
      refine qX ?_
      exact qF [none]
 rw [BH zO] at f4
 cases b with
 |false=>
  have hz:R.1=(k:Int)+1:=by rw [<-f4];rfl
  have hk:k=Ls.length:=zO
  subst hk
  rw [u2 h6 zO,hz]
  refine qX ?_
  exact qF [none]
 |true=>
  have hz:R.1=0:=by rw [<-f4];rfl
  have ho:=hres hz
  have e1:R.2=(p,bb):=by rw [<-f4]
  rw [u3 h6 hz]
  rw [e1]
  dsimp only
  have oa:=ho.a
  have op:=ho.p
  rw [e1] at oa op
  dsimp only at oa op
  clear ho u1 u2 u3 hres hbd
  have hL:=Gx p bb zO fun a ha=>(fY (oa a ha)).2
  obtain⟨g,hlw,hwa,hwb⟩:=uC op f2 fun a ha=>fY (oa a ha)
  have hcodes:(cp p bb).2.length<=120:=(BQ p bb fun a ha=>(fY (oa a ha)).2).2
  have hcb:=tv (p:=p) (l:=bb)
  obtain⟨V,hV⟩:∃ V,V=cp p bb:=⟨_,rfl⟩
  rw [<-hV] at hL g hlw hwa hwb hcodes hcb⊢
  clear hV
  obtain⟨w,cs⟩:=V
  dsimp only at hL g hlw hwa hwb hcodes hcb⊢
  have hs:=g.s
  have hW:=uw w hwa hwb hlw.bag hs.bag hs.a.subs hs.a.own hs.a.far hs.b.subs hs.b.own hs.b.far
  refine qX ?_
  refine qK (hL) (qI 2 1) ?_
  have jl:=BP hcb hcodes
  have hJ:=lv [32] (cs.map dp) (by rw [P_];omega) zO
  refine fJ 0 hE (fun s (x:Nat)=>s.at (qU [0,1,4,10,15,1,18,72,93,9]) [(16,.sc (.sl 26 0 x)),(92,.sc (.int .i64 (x:Nat)))] (s.hp++[some ⟨((cs.take x).map dp).map aD,1,9,true,true⟩])) (fun (x:Nat)=>x<=cs.length) (fun (x:Nat)=>cs.length - x) 0 (qI 0 26++qO 1) (P8 _) fun x hx N2 hN2=>?_
  have hx:=hx
  refine qR ?_
  by_cases h8:x < cs.length
  ·have hcj:=hcb cs[x] (P6 h8)
   have hd:=aZ cs[x] (dL zO)
   have ht:=List.take_succ_eq_append_getElem h8
   have hlt:(List.take x cs).length=x:=by rw [Qo];omega
   generalize hv:cs[x]=v at*
   try simp (disch:=omega) only [go_sem,seval,hv,aC h8]
   refine ai (by (try simp (disch:=omega) only [go_sem,Ql,seval,hv])<;>omega) (hd) [] qM zF (ab 400 ?_)
   simp (disch:=omega) only [go_sem,seval]
   refine⟨qC,hN2 _ (x+1) (qI 0 26++qI 28 1) (by (try dsimp only);exact h8) (by (try dsimp only);omega) (aw zF zF ?_)⟩
   try simp (disch:=omega) only [go_sem,seval,ht]
   try simp [aD,ht]
  obtain rfl:x=cs.length:=zO
  rw [Qp]
  have wl:=lk w
  have wa:=dV w.a
  have wb:=dV w.b
  have k1:=hs.a.subs
  have k2:=hs.a.own
  have k3:=hs.a.far
  have k4:=hs.b.subs
  have k5:=hs.b.own
  have k6:=hs.b.far
  rw [P_] at hJ
  refine qX ?_
  refine aB [(2,4)] [[0,3,1,2,4,5,6,7],[0,3,1,4,2,5,6,7]] zXk (qC) zXk ?_
  simp only [aM]
  refine⟨aa 400 ?_,aa 400 ?_⟩
  all_goals simp (disch:=omega) only [go_sem,seval]
  all_goals
   refine aE (hJ) (qI 26 1) ?_
   refine aE (hW) (qI 3 21) ?_
   refine qG ?_
   refine qP (qI 29 1) ?_
   first|exact⟨⟩|omega
theorem LF (t:List UInt8):(gS t).1.length<=16777216:=by
 rw [gS]
 split
 ·simp
 split
 ·simp
 rename_i h1 h2
 have ho:=Ds (t:=t) (Decidable.not_not.1 h2)
 obtain⟨g,hlw,hwa,hwb⟩:=uC ho.p ho.n fun a ha=>fY (ho.a a ha)
 have hs:=g.s
 dsimp only
 rw [Qa,lk,dV,dV]
 have k1:=hs.a.subs
 have k2:=hs.a.own
 have k3:=hs.a.far
 have k4:=hs.b.subs
 have k5:=hs.b.own
 have k6:=hs.b.far
 omega
theorem rp (l:List UInt8) (hl:l.length<=9223372036854775807):oO Tryz.prog 0 actTab 4 [.sc (.st l)] [] (.sc (.bo true)) []:=by
 have hn:=LF l
 refine tw func4 zXk rfl fun E hG hE=>ab 400 ?_
 simp (disch:=omega) only [ntmps4,results4,go_sem]
 refine qB (fun h=>?_) fun h=>?_
 ·exact qF []
 have h1:=zw l zO
 have h2:=zx l zO
 generalize gS l=R at h1 h2 hn
 obtain⟨L,z⟩:=R
 dsimp only at h1 h2 hn
 refine qK (h1) [] ?_
 refine ms hG (qC) h2 (by simp only [go_sem];repeat' first|rfl|constructor) (ab 400 ?_)
 refine qX ?_
 refine qK (om L zO) (qI 1 1++qI 0 1) ?_
 refine qK (ug L 1 hn zO zO) (qI 1 1) ?_
 refine qK (me 1 L.length hn zO zO) (qI 1 1) ?_
 refine ms hG (qC) h2 (by simp only [go_sem];repeat' first|rfl|constructor) (ab 400 ?_)
 refine qX ?_
 refine qK (om L zO) (qI 2 1++qI 0 1) ?_
 refine qK (me 1 L.length hn zO zO) (qI 1 1) ?_
 exact qF []
end
end Go.Proofs.YtdiiopjaebnmfaaGreatDoor
