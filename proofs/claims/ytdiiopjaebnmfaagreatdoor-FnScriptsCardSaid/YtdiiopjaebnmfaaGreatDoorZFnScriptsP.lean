/- Lemmas of this claim. -/
import Derived.Test.YtdiiopjaebnmfaaGreatDoorZFnScriptsJ
import Derived.Test.YtdiiopjaebnmfaaGreatDoorZFnScriptsO
set_option maxHeartbeats 16000000
set_option maxRecDepth 100000
set_option linter.unusedVariables false
set_option linter.unusedSimpArgs false
namespace Go.Proofs.YtdiiopjaebnmfaaGreatDoor
open _root_.Go.Proofs.Tryz
open _root_.List renaming length_cons->Ru,map_cons->Rv,sum_cons->Rw,mem_cons_self->Rx,map_nil->Ry,sum_nil->Rz,mem_cons_of_mem->RB,getElem_mem->RD,take_succ_eq_append_getElem->RE,length_append->RF,length_nil->RG,mem_singleton->RH,mem_append->RI,length_singleton->RK,getD_eq_getElem?_getD->RL,length_map->RM,getElem?_eq_getElem->RO,length_take->RP,nil_append->RQ,append_nil->RR,length_set->RS,flatMap_cons->RT,append_assoc->RU,flatMap_nil->RV,mem_map->RW,take_length->RX,singleton_append->RY,length_filter_le->RZ,filter_append->R1,map_singleton->R2,mem_flatMap->R4,mem_filter->R5,mem_set->R8
open _root_.Bool renaming and_eq_true->RA,false_and->R0,not_eq_true'->R3,true_and->R6
open _root_.Array renaming getD_eq_getD_getElem?->RC
open _root_.Nat renaming zero_le->RJ,le_trans->R7,zero_add->R9,mul_one->R_
section
open Go.RowKit
def wY (p:List (List UInt8)):Bool:=decide ((p.headD []).headD 0=35)
def kJ (l:List UInt8):Bool:=(bm l).2 && ((bm l).1.length == 0 || wY (bm l).1)
def cU (n:Nat):List (List UInt8)->PolicyD->Bool->List ActD->Int×PolicyD×List ActD
 |[],p,b,aU=>(if b then 0 else (n:Int)+1,p,aU)
 |l::r,p,b,aU=>
  if kJ l then cU (n+1) r p b aU
  else if b=false then (if (gK l).2 then cU (n+1) r (gK l).1 true aU else ((n:Int)+1,p,aU))
  else if (eE l).2=true/\aU.length < 120 then cU (n+1) r p true (aU++[(eE l).1]) else ((n:Int)+1,p,aU)
theorem Fn {l:List (List UInt8)} {k:Nat} {p:PolicyD} {b:Bool} {aU:List ActD} (h:k < l.length):cU k (l.drop k) p b aU=
  if kJ l[k] then cU (k+1) (l.drop (k+1)) p b aU
  else if b=false then (if (gK l[k]).2 then cU (k+1) (l.drop (k+1)) (gK l[k]).1 true aU else ((k:Int)+1,p,aU))
  else if (eE l[k]).2=true/\aU.length < 120 then cU (k+1) (l.drop (k+1)) p true (aU++[(eE l[k]).1]) else ((k:Int)+1,p,aU):=by
 rw [List.drop_eq_getElem_cons h,cU]
theorem Iq {l:List (List UInt8)} {k:Nat} {p:PolicyD} {b:Bool} {aU:List ActD} (h:l.length<=k):cU k (l.drop k) p b aU=(if b then 0 else (k:Int)+1,p,aU):=by
 rw [List.drop_eq_nil_of_le h,cU]
def jO (t:List UInt8):List (List UInt8)×Int:=
 if 6000 < t.length then ([],-1)
 else if (cU 0 (eU 10 t) ⟨0,0⟩ false []).1≠0 then ([],(cU 0 (eU 10 t) ⟨0,0⟩ false []).1)
 else (aX [32] ((di (cU 0 (eU 10 t) ⟨0,0⟩ false []).2.1 (cU 0 (eU 10 t) ⟨0,0⟩ false []).2.2).2.map cr)::dt (di (cU 0 (eU 10 t) ⟨0,0⟩ false []).2.1 (cU 0 (eU 10 t) ⟨0,0⟩ false []).2.2).1,0)
def lX (p:PolicyD) (l:List ActD):List UInt8:=[35,32,115,97,105,100,10]++bQ p++[10]++l.flatMap fun a=>aO a++[10,32,10]
def KL (p:PolicyD) (l:List ActD):List (List UInt8):=[35,32,115,97,105,100]::bQ p::l.flatMap fun a=>[aO a,[32]]
theorem y_ {P:UInt8->Prop} (h32:P 32):∀ {l:List (List UInt8)},(∀ s∈l,∀ b∈s,P b)->∀ b∈aX [32] l,P b:=by
 intro l h b hb
 cases l with
 |nil=>simp [aX,cg] at hb
 |cons s r=>
  rw [f_] at hb
  rcases RI.1 hb with hb|hb
  ·exact h s (Rx ..) b hb
  obtain⟨u,u1,u2⟩:=R4.1 hb
  rcases RI.1 u2 with u2|u2
  ·rw [RH.1 u2];exact h32
  exact h u (RB _ u1) b u2
theorem KM {a:ActD} (h:actGood a=true):∀ b∈aO a,b≠10:=by
 rw [ey h]
 refine y_ zD fun s hs b hb e=>?_
 have:=((eq (fK h)).clean s hs).2 b hb
 rw [e] at this
 exact absurd this.1 zD
theorem KN {p:PolicyD} (h:polOk p=true):∀ b∈bQ p,b≠10:=by
 obtain⟨h1,_,_,_,_,h6,_⟩:=il p (jA h)
 rw [h1]
 refine y_ zD fun s hs b hb e=>?_
 have:=(h6 s hs).2 b hb
 rw [e] at this
 exact absurd this.1 zD
theorem qt {s r:List UInt8} {acc:List (List UInt8)} (h:∀ b∈s,b≠10):dU 10 acc [] (s++10::r)=dU 10 (acc++[s]) [] r:=by
 rw [jC h,RQ,dU,if_pos rfl]
theorem KO {s:List UInt8} {acc:List (List UInt8)} (h:∀ b∈s,b≠10):dU 10 acc [] s=acc++[s]:=by
 have:=jC (r:=[]) (cur:=[]) (acc:=acc) h
 rw [RR,RQ] at this
 rw [this,dU]
theorem C4 {t:List UInt8} (ht:∀ b∈t,b≠10):∀ {l:List ActD} {acc:List (List UInt8)},(∀ a∈l,actGood a=true)->dU 10 acc [] ((l.flatMap fun a=>aO a++[10,32,10])++t)=acc++(l.flatMap fun a=>[aO a,[32]])++[t]
 |[],acc,_=>by
  rw [RV,RQ,RV,RR]
  exact KO ht
 |a::l,acc,h=>by
  have ha:=KM (h a (Rx ..))
  rw [RT,RT]
  have e:(aO a++[10,32,10]++l.flatMap fun a=>aO a++[10,32,10])++t=aO a++10::([32]++10::((l.flatMap fun a=>aO a++[10,32,10])++t)):=by simp
  rw [e,qt ha,qt zD,C4 ht fun a ha=>h a (RB _ ha)]
  simp
theorem GH {p:PolicyD} {l:List ActD} {t:List UInt8} (hp:polOk p=true) (hl:∀ a∈l,actGood a=true) (ht:∀ b∈t,b≠10):eU 10 (lX p l++t)=KL p l++[t]:=by
 have e:lX p l++t=[35,32,115,97,105,100]++10::(bQ p++10::((l.flatMap fun a=>aO a++[10,32,10])++t)):=by simp [lX]
 rw [eU,e,qt zD,qt (KN hp),C4 ht hl]
 simp [KL]
theorem Ir:kJ [35,32,115,97,105,100]=true:=by decide
theorem Fo:kJ [32]=true:=by decide
theorem It:kJ []=true:=by decide
theorem AR {p:PolicyD} (h:polOk p=true):gK (bQ p)=(p,true)/\kJ (bQ p)=false:=by
 have hc:=jA h
 have e:=vg hc
 obtain⟨h1,h2,h3,h4,h5,h6,_⟩:=il p hc
 constructor
 ·rw [gK,e,if_pos rfl]
  exact sY h6 rfl hc (fun _ h=>h) hc
 have hk:∀ c∈eH,((gc c).length == 0 || wY (gc c))=false:=by decide
 rw [kJ,e,hk p hc]
 rfl
theorem KP:∀ k:Fin 12,¬ (actTab.getD (k.1+1) []).headD 0=35:=by decide
theorem C5 {a:ActD} (h:actGood a=true):∃ k:Fin 12,a.kind=(k.1:Int)+1:=by
 have:=rH h
 exact⟨⟨(a.kind - 1).toNat,zO⟩,by dsimp only;omega⟩
theorem x4 {a:ActD} (h:actGood a=true):eE (aO a)=(a,true)/\kJ (aO a)=false:=by
 have hp:=eq (fK h)
 have e:=vo h
 constructor
 ·rw [oG,lg,e,if_pos rfl,ni,hp.sel,if_pos ⟨h,rfl⟩]
 have l2:=hp.len.2
 have hh:wY (actParts a)=false:=by
  have hd:(actParts a).headD []=actTab.getD a.kind.toNat []:=by
   have:=hp.word
   cases hq:actParts a with
   |nil=>rw [hq] at l2;simp at l2
   |cons s r=>rw [hq] at this;simpa using this
  obtain⟨k,hk⟩:=C5 h
  rw [wY,hd,hk,decide_eq_false_iff_not]
  have:((k.1:Int)+1).toNat=k.1+1:=zO
  rw [this]
  exact KP k
 have hz:((actParts a).length == 0)=false:=by rw [beq_eq_false_iff_ne];omega
 rw [kJ,e,hh,hz]
 rfl
theorem C6 {p:PolicyD} {t:List UInt8}:∀ {l aU:List ActD} {n:Nat},(∀ a∈l,actGood a=true)->aU.length+l.length<=120->cU n ((l.flatMap fun a=>[aO a,[32]])++[t]) p true aU=cU (n+2*l.length) [t] p true (aU++l)
 |[],aU,n,_,_=>by simp
 |a::l,aU,n,h,hl=>by
  rw [Ru] at hl
  obtain⟨h1,h2⟩:=x4 (h a (Rx ..))
  have e:((a::l).flatMap fun a=>[aO a,[32]])++[t]=aO a::[32]::((l.flatMap fun a=>[aO a,[32]])++[t]):=by simp
  rw [e,cU,h2,h1,if_neg zD,if_neg zD,if_pos ⟨rfl,zO⟩,cU,Fo,if_pos rfl,C6 (fun a ha=>h a (RB _ ha)) zS]
  simp only [RU,RY,Ru]
  rw [show n+1+1+2*l.length=n+2*(l.length+1) by omega]
theorem KQ {p:PolicyD} {l:List ActD} {t:List UInt8} (hp:polOk p=true) (hl:∀ a∈l,actGood a=true) (h12:l.length<=12):cU 0 (KL p l++[t]) ⟨0,0⟩ false []=cU (2+2*l.length) [t] p true l:=by
 obtain⟨h1,h2⟩:=AR hp
 have e:KL p l++[t]=[35,32,115,97,105,100]::bQ p::((l.flatMap fun a=>[aO a,[32]])++[t]):=by simp [KL]
 rw [e,cU,Ir,if_pos rfl,cU,h2,h1,if_neg zD,if_pos rfl,if_pos rfl,C6 hl zS,RQ]
theorem AS {a:ActD} (h:actGood a=true):(aO a).length<=420:=by
 rw [ey h]
 have hl:=ji (y:=[32]) (l:=actParts a)
 simp only [RK,R_] at hl
 have T:=yB
 have t:∀ k:Fin 12,(actTab.getD (k.1+1) []).length<=7:=fun k=>(T k).2.1
 have dl:∀ {n:Int},(0<=n/\n<=1000000000)->(cr n).length<=10:=fun h=>d_ h
 have g:=fK h
 have W:∀ {s:Int},(1<=s/\s<=2)->0<=s/\s<=1000000000:=fun h=>by omega
 have n7:=(eq g).len.1
 have tt:tot (actParts a)<=415:=by
  cases g with
  |write s u hs hu=>
   have e:actParts ⟨1,s,0,0,u,ae,ac⟩=[actTab.getD 1 [],cr s,mj u]:=rfl
   have q1:=t 0;have q2:=dl (W hs);have q3:=B1 hu
   have q1:(actTab.getD 1 []).length<=7:=q1
   rw [e];simp only [tot,Rv,Ry,Rw,Rz];omega
  |read s m hs hm=>
   have e:actParts ⟨2,s,0,m,[],ae,ac⟩=[actTab.getD 2 [],cr s,cr m]:=rfl
   have q1:(actTab.getD 2 []).length<=7:=t 1
   have q2:=dl (W hs);have q3:=dl hm
   rw [e];simp only [tot,Rv,Ry,Rw,Rz];omega
  |tick s hs=>
   have e:actParts ⟨3,s,0,0,[],ae,ac⟩=[actTab.getD 3 [],cr s]:=rfl
   have q1:(actTab.getD 3 []).length<=7:=t 2
   have q2:=dl (W hs)
   rw [e];simp only [tot,Rv,Ry,Rw,Rz];omega
  |manage s hs=>
   have e:actParts ⟨4,s,0,0,[],ae,ac⟩=[actTab.getD 4 [],cr s]:=rfl
   have q1:(actTab.getD 4 []).length<=7:=t 3
   have q2:=dl (W hs)
   rw [e];simp only [tot,Rv,Ry,Rw,Rz];omega
  |addr s i d b hs hi hd=>
   have e:actParts ⟨5,s,0,0,[],⟨i,d,b,false⟩,ac⟩=[actTab.getD 5 [],cr s,cr i,cr d,cr (cond b 1 0)]:=rfl
   have q1:(actTab.getD 5 []).length<=7:=t 4
   have q2:=dl (W hs);have q3:=dl hi;have q4:=dl hd;have q5:=dl (B2 b)
   rw [e];simp only [tot,Rv,Ry,Rw,Rz];omega
  |drop s n hs hn=>
   have e:actParts ⟨6,s,n,0,[],ae,ac⟩=[actTab.getD 6 [],cr s,cr n]:=rfl
   have q1:(actTab.getD 6 []).length<=7:=t 5
   have q2:=dl (W hs);have q3:=dl hn
   rw [e];simp only [tot,Rv,Ry,Rw,Rz];omega
  |reset s n hs hn=>
   have e:actParts ⟨7,s,n,0,[],ae,ac⟩=[actTab.getD 7 [],cr s,cr n]:=rfl
   have q1:(actTab.getD 7 []).length<=7:=t 6
   have q2:=dl (W hs);have q3:=dl hn
   rw [e];simp only [tot,Rv,Ry,Rw,Rz];omega
  |deliver n hn=>
   have e:actParts ⟨8,1,n,0,[],ae,ac⟩=[actTab.getD 8 [],cr n]:=rfl
   have q1:(actTab.getD 8 []).length<=7:=t 7
   have q3:=dl hn
   rw [e];simp only [tot,Rv,Ry,Rw,Rz];omega
  |lose n hn=>
   have e:actParts ⟨9,1,n,0,[],ae,ac⟩=[actTab.getD 9 [],cr n]:=rfl
   have q1:(actTab.getD 9 []).length<=7:=t 8
   have q3:=dl hn
   rw [e];simp only [tot,Rv,Ry,Rw,Rz];omega
  |copy n hn=>
   have e:actParts ⟨10,1,n,0,[],ae,ac⟩=[actTab.getD 10 [],cr n]:=rfl
   have q1:(actTab.getD 10 []).length<=7:=t 9
   have q3:=dl hn
   rw [e];simp only [tot,Rv,Ry,Rw,Rz];omega
  |inject x hx=>
   have e:actParts ⟨11,1,0,0,[],ae,x⟩=[actTab.getD 11 [],du x]:=rfl
   have q1:(actTab.getD 11 []).length<=7:=t 10
   have q3:=mh x
   rw [e];simp only [tot,Rv,Ry,Rw,Rz];omega
  |again n hn=>
   have e:actParts ⟨12,1,n,0,[],ae,ac⟩=[actTab.getD 12 [],cr n]:=rfl
   have q1:(actTab.getD 12 []).length<=7:=t 11
   have q3:=dl hn
   rw [e];simp only [tot,Rv,Ry,Rw,Rz];omega
 omega
theorem C7:∀ {l:List ActD},(∀ a∈l,actGood a=true)->(l.flatMap fun a=>aO a++[10,32,10]).length<=423*l.length
 |[],_=>by simp
 |a::l,h=>by
  have h1:=AS (h a (Rx ..))
  have h2:=C7 (l:=l) fun a ha=>h a (RB _ ha)
  rw [RT,RF,RF,Ru]
  simp only [Ru,RG]
  omega
theorem AT {p:PolicyD} (h:polOk p=true):(bQ p).length<=100:=by
 have hc:=jA h
 rw [(il p hc).1]
 have hk:∀ c∈eH,(aX [32] (gc c)).length<=100:=by decide
 exact hk p hc
theorem wZ {p:PolicyD} {l:List ActD} (hp:polOk p=true) (hl:∀ a∈l,actGood a=true) (h12:l.length<=12):(lX p l).length<=5500:=by
 have h1:=AT hp
 have h2:=C7 hl
 have h3:423*l.length<=423*12:=Nat.mul_le_mul_left _ h12
 simp only [lX,RF,Ru,RG]
 omega
theorem OL {p:PolicyD} {l:List ActD} (hp:polOk p=true) (hl:∀ a∈l,actGood a=true) (h12:l.length<=12):jO (lX p l)=(aX [32] ((di p l).2.map cr)::dt (di p l).1,0):=by
 have len:=wZ hp hl h12
 have c:=GH (t:=[]) hp hl (fun b hb=>by simp at hb)
 rw [RR] at c
 have g:=KQ (t:=[]) hp hl h12
 have e:cU 0 (eU 10 (lX p l)) ⟨0,0⟩ false []=(0,p,l):=by
  rw [c,g,cU,It,if_pos rfl,cU,if_pos rfl]
 rw [jO,if_neg zO,e,if_neg (by dsimp only;omega)]
def mP:List UInt8:=[116,105,99,107,32,51]
theorem Ri:cr 3=[51]:=by rw [show (3:Int)=((3:Nat):Int) from rfl,e8 zD];rfl
theorem Iu:kJ mP=false/\(eE mP).2=false:=by
 have e:bm mP=([[116,105,99,107],[51]],true):=by decide
 refine⟨by rw [kJ,e];rfl,?_⟩
 have n3:nX [[116,105,99,107],[51]] 1=3:=by
  have:=cA (l:=[[116,105,99,107],[51]]) (n:=3) (k:=1) (by rw [Ri];rfl) zD
  exact this
 have k3:kindOf [116,105,99,107]=3:=by decide
 have s3:selA [[116,105,99,107],[51]]=⟨3,3,0,0,[],ae,ac⟩:=by
  simp only [selA,List.getD_cons_zero,k3,n3]
  simp
 rw [oG,lg,e,if_pos rfl,ni,s3,if_neg (fun h=>absurd h.1 zD)]
theorem M7 {p:PolicyD} {l:List ActD} (hp:polOk p=true) (hl:∀ a∈l,actGood a=true) (h12:l.length<=12):jO (lX p l++mP)=([],2*(l.length:Int)+3):=by
 have len:=wZ hp hl h12
 have c:=GH (t:=mP) hp hl zD
 have g:=KQ (t:=mP) hp hl h12
 obtain⟨b1,b2⟩:=Iu
 have e:cU 0 (eU 10 (lX p l++mP)) ⟨0,0⟩ false []=(2*(l.length:Int)+3,p,l):=by
  rw [c,g,cU,b1,b2,if_neg zD,if_neg zD,if_neg (by rintro⟨h,_⟩;cases h)]
  rw [show ((2+2*l.length:Nat):Int)+1=2*(l.length:Int)+3 by omega]
 rw [jO,if_neg (by rw [RF];simp only [mP,Ru,RG];omega),e,if_pos (by dsimp only;omega)]
structure CntE (e e':EndD):Prop where
 now:e'.now<=e.now+1
 draw:e'.draw<=e.draw+40
 tr:∀ s∈e'.subs,s.tries<=0\/∃ q∈e.subs,s.tries<=q.tries+1
theorem CntE.same {e e':EndD} (h1:e'.now<=e.now+1) (h2:e'.draw<=e.draw+40) (h3:e'.subs=e.subs):CntE e e':=⟨h1,h2,fun s hs=>.inr ⟨s,h3▸hs,zO⟩⟩
theorem CntE.refl (e:EndD):CntE e e:=CntE.same zO zO rfl
theorem FI {l:List SubD} {n:Nat} {q:SubD} (hn:n < l.length) (hq:q.tries<=0\/q.tries<=l[n].tries+1):∀ s∈l.set n q,s.tries<=0\/∃ r∈l,s.tries<=r.tries+1:=by
 intro s hs
 rcases List.mem_or_eq_of_mem_set hs with hs|rfl
 ·exact .inr ⟨s,hs,zO⟩
 rcases hq with h|h
 ·exact .inl h
 exact .inr ⟨_,RD hn,h⟩
theorem Dt {e:EndD} {x:LetterD} (kk:4<=x.kind/\x.kind<=12/\¬ x.kind=10):CntE e (bO e x).1:=by
 have F:=nL e x
 generalize bO e x=r at F⊢
 cases F with
 |stay=>exact CntE.refl e
 |other r k=>omega
 |join1 k ok n hn hr h1 h2=>exact CntE.same (by dsimp only;omega) (by dsimp only;omega) rfl
 |join2 k ok no=>exact CntE.same (by dsimp only;omega) (by dsimp only;omega) rfl
 |back k n hn h1 hr ht=>exact⟨by dsimp only;omega,by dsimp only;omega,FI hn (.inl (Int.le_refl _))⟩
 |done1 k i hi hr h8 ht m hm=>
  refine⟨by dsimp only;omega,by dsimp only;omega,fun s hs=>?_⟩
  rcases RI.1 hs with hs|hs
  ·rcases hm with rfl|⟨n,hn,_,_,rfl⟩
   ·exact .inr ⟨s,hs,zO⟩
   exact FI hn (.inr (by dsimp only;omega)) s hs
  rw [RH.1 hs];exact .inl (Int.le_refl _)
 |done2=>exact CntE.refl e
 |ack k n hn h2 hr ht=>exact⟨by dsimp only;omega,by dsimp only;omega,FI hn (.inr (by dsimp only;omega))⟩
 |addr=>exact CntE.same (by dsimp only;omega) (by dsimp only;omega) rfl
 |echo=>exact CntE.same (by dsimp only;omega) (by dsimp only;omega) rfl
 |data=>exact CntE.same (by dsimp only;omega) (by dsimp only;omega) rfl
 |came=>exact CntE.same (by dsimp only;omega) (by dsimp only;omega) rfl
theorem GX {e:EndD}:(dv e).1.now=e.now/\(dv e).1.draw=e.draw:=by unfold dv;split<;>exact⟨rfl,rfl⟩
theorem kN:∀ {k:Nat} {e:EndD},(bZ k e).1.now=e.now/\(bZ k e).1.draw=e.draw
 |0,e=>⟨rfl,rfl⟩
 |k+1,e=>⟨(kN (k:=k)).1.trans GX.1,(kN (k:=k)).2.trans GX.2⟩
theorem Du {e:EndD} {t:List UInt8}:(write e t).1.now=e.now/\(write e t).1.draw=e.draw:=by unfold write;split<;>exact⟨rfl,rfl⟩
theorem o_ {far:List AddrD}:∀ {l:List RoadD} {e:EndD},∃ news:List SubD,(dm far e l).1={ e with subs:=e.subs++news,draw:=(dm far e l).1.draw }/\(dm far e l).2=news.map (fU e)/\(∀ s∈news,s.state=1/\s.tries=0)/\(dm far e l).1.draw<=e.draw+4*(l.length:Int)/\e.draw<=(dm far e l).1.draw
 |[],e=>⟨[],by simp [dm],rfl,fun s hs=>by simp at hs,by simp [dm],by simp [dm]⟩
 |r::l,e=>by
  by_cases hk:xU e r=true
  ·have hj:dE e r (aZ far r.far)=({ e with subs:=e.subs++[de e r (aZ far r.far)],draw:=e.draw+4 },[fU e (de e r (aZ far r.far))]):=if_pos hk
   obtain⟨news,h1,h2,h3,h4,h5⟩:=o_ (far:=far) (l:=l) (e:=(dE e r (aZ far r.far)).1)
   rw [dm]
   rw [hj] at h1 h2 h4 h5⊢
   dsimp only at h1 h2 h4 h5⊢
   refine⟨de e r (aZ far r.far)::news,?_,?_,fun s hs=>?_,by rw [Ru];omega,zO⟩
   ·rw [h1,RU,RY]
   ·rw [h2,Rv];rfl
   rcases List.mem_cons.1 hs with rfl|hs
   ·exact⟨rfl,rfl⟩
   exact h3 s hs
  have hj:dE e r (aZ far r.far)=(e,[]):=if_neg hk
  obtain⟨news,h1,h2,h3,h4,h5⟩:=o_ (far:=far) (l:=l) (e:=e)
  rw [dm,hj]
  refine⟨news,h1,by rw [h2];rfl,h3,?_,h5⟩
  show (dm far e l).1.draw<=_
  rw [Ru];omega
theorem Lh (s:SubD):(bI s).tries<=s.tries+1:=by
 unfold bI
 repeat' split
 all_goals first
  |omega
  |(dsimp only;omega)
theorem GY {e:EndD} {a:ActD} (A:CalmA a) (h7:a.kind<=7) (hm:a.kind=4->(fe (wanted e.policy e.own e.far) (gW e.subs)).length<=10):CntE e (dq e a).1:=by
 have kk:=A.k
 unfold dq
 split
 ·exact CntE.same (by have:=kN (k:=3) (e:=(write e a.text).1);have:=Du (e:=e) (t:=a.text);unfold bh;omega) (by have:=kN (k:=3) (e:=(write e a.text).1);have:=Du (e:=e) (t:=a.text);unfold bh;omega) (iD.trans jS.subs)
 split
 ·unfold bu;split
  ·exact CntE.same (by dsimp only;omega) (by dsimp only;omega) rfl
  exact CntE.refl e
 split
 ·unfold tick;split
  ·split
   ·unfold bA
    have h:=kN (k:=3) (e:={ cP e with subs:=e.subs.map bI })
    refine⟨by dsimp only;rw [h.1];exact Int.le_refl _,by dsimp only;rw [h.2];show e.draw<=e.draw+40;omega,fun s hs=>?_⟩
    have hs:s∈(bZ 3 { cP e with subs:=e.subs.map bI }).1.subs:=hs
    rw [iD] at hs
    obtain⟨q,q1,rfl⟩:=RW.1 hs
    exact .inr ⟨q,q1,Lh q⟩
   unfold bA
   have h:=kN (k:=3) (e:=cP e)
   exact CntE.same (by dsimp only;rw [h.1];exact Int.le_refl _) (by dsimp only;rw [h.2];show e.draw<=e.draw+40;omega) iD
  exact CntE.refl e
 split
 ·rename_i k4
  have hm:=hm k4
  unfold manage;split
  ·obtain⟨news,h1,h2,h3,h4,h5⟩:=o_ (far:=e.far) (l:=fe (wanted e.policy e.own e.far) (gW e.subs)) (e:=e)
   refine⟨?_,zO,fun s hs=>?_⟩
   ·rw [h1];dsimp only;omega
   rw [h1] at hs
   rcases RI.1 hs with hs|hs
   ·exact .inr ⟨s,hs,zO⟩
   exact .inl (by have:=(h3 s hs).2;omega)
  exact CntE.refl e
 split
 ·unfold aN;split
  ·exact CntE.same (by dsimp only;omega) (by dsimp only;omega) rfl
  exact CntE.refl e
 omega
structure Cnt (w:WorldD) (k:Nat):Prop where
 na:w.a.now<=(k:Int)
 nb:w.b.now<=(k:Int)
 da:w.a.draw<=2000+40*(k:Int)
 db:w.b.draw<=2000+40*(k:Int)
 tr:∀ s∈w.a.subs,s.tries<=(k:Int)
 trb:∀ s∈w.b.subs,s.tries<=(k:Int)
theorem Cnt.up {w:WorldD} {k:Nat} (h:Cnt w k):Cnt w (k+1):=⟨by have:=h.na;omega,by have:=h.nb;omega,by have:=h.da;omega,by have:=h.db;omega,fun s hs=>by have:=h.tr s hs;omega,fun s hs=>by have:=h.trb s hs;omega⟩
theorem Cnt.stepA {w w':WorldD} {k:Nat} (h:Cnt w k) (S:CntE w.a w'.a) (hb:w'.b=w.b):Cnt w' (k+1):=by
 have h1:=S.now;have h2:=S.draw
 have g1:=h.na;have g2:=h.nb;have g3:=h.da;have g4:=h.db
 refine⟨zO,by rw [hb];omega,zO,by rw [hb];omega,fun s hs=>?_,fun s hs=>?_⟩
 ·rcases S.tr s hs with q|⟨r,r1,r2⟩
  ·omega
  have:=h.tr r r1;omega
 have:=h.trb s (hb▸hs);omega
theorem Cnt.stepB {w w':WorldD} {k:Nat} (h:Cnt w k) (S:CntE w.b w'.b) (ha:w'.a=w.a):Cnt w' (k+1):=by
 have h1:=S.now;have h2:=S.draw
 have g1:=h.na;have g2:=h.nb;have g3:=h.da;have g4:=h.db
 refine⟨by rw [ha];omega,zO,by rw [ha];omega,zO,fun s hs=>?_,fun s hs=>?_⟩
 ·have:=h.tr s (ha▸hs);omega
 rcases S.tr s hs with q|⟨r,r1,r2⟩
 ·omega
 have:=h.trb r r1;omega
theorem Cnt.same {w w':WorldD} {k:Nat} (h:Cnt w k) (ha:w'.a=w.a) (hb:w'.b=w.b):Cnt w' k:=⟨by rw [ha];exact h.na,by rw [hb];exact h.nb,by rw [ha];exact h.da,by rw [hb];exact h.db,by rw [ha];exact h.tr,by rw [hb];exact h.trb⟩
theorem Dv {p:PolicyD} {w:WorldD} (hp:p∈pols) (C:Core w) (E:CE p w) (l:List RoadD):(fe (wanted w.a.policy w.a.own w.a.far) l).length<=4:=by
 rw [fe];split
 ·rw [zl E.ownA C.oka.own E.farA C.oka.far,E.pol]
  exact R7 (RZ _ _) (A9 hp _ _).len
 simp
theorem IT {p:PolicyD} {w:WorldD} {x:LetterD} {k:Nat} (h:Cnt w k) (X:CL w x):Cnt (ed w x) (k+1):=by
 rcases gr x.to with h0|h0|h0
 ·exact absurd h0 X.to
 ·rw [ed,if_neg zO,iZ,if_pos (.inl h0),h0]
  have e:=gy (side:=1) (l:=(bO w.a x).2) (w:=aJ w 1 (bO w.a x).1)
  refine h.stepA ?_ (e.2.1.trans rfl)
  show CntE w.a (az 1 (aJ w 1 (bO w.a x).1) (bO w.a x).2).a
  rw [e.1]
  exact Dt X.kind
 rw [ed,if_neg zO,iZ,if_pos (.inr h0),h0]
 have e:=gy (side:=2) (l:=(bO w.b x).2) (w:=aJ w 2 (bO w.b x).1)
 refine h.stepB ?_ (e.1.trans rfl)
 show CntE w.b (az 2 (aJ w 2 (bO w.b x).1) (bO w.b x).2).b
 rw [e.2.1]
 exact Dt X.kind
theorem Li (w:WorldD) (a:ActD) (e:EndD):(aJ (eB w a) 1 e).a=e/\(aJ (eB w a) 1 e).b=w.b:=⟨rfl,(sv w a).2.1⟩
theorem Lj (w:WorldD) (a:ActD) (e:EndD):(aJ (eB w a) 2 e).b=e/\(aJ (eB w a) 2 e).a=w.a:=⟨rfl,(sv w a).1⟩
theorem Lk {e:EndD} (h:¬ e.side=1):manage e=(e,[]):=by rw [manage,if_neg (fun h2=>h h2.2)]
theorem IU {p:PolicyD} {w:WorldD} {a:ActD} {k:Nat} (hp:p∈pols) (C:Core w) (W:CW p w) (h:Cnt w k) (A:CalmA a):Cnt (dy w a).1 (k+1):=by
 unfold dy;split
 case isFalse=>exact h.up
 rename_i hok
 have hs:=iE hok
 split
 ·rename_i h7
  unfold aU;split
  ·exact h.up
  rcases hs with hs|hs
  ·have hE:bJ w a.side=w.a:=by rw [hs];rfl
   rw [hE,hs]
   have e:=gy (side:=1) (l:=(dq w.a a).2) (w:=aJ (eB w a) 1 (dq w.a a).1)
   have q:=Li w a (dq w.a a).1
   refine h.stepA ?_ (e.2.1.trans q.2)
   show CntE w.a (az 1 (aJ (eB w a) 1 (dq w.a a).1) (dq w.a a).2).a
   rw [e.1,q.1]
   exact GY A h7 fun _=>by have:=Dv hp C W.e (gW w.a.subs);omega
  have hE:bJ w a.side=w.b:=by rw [hs];rfl
  rw [hE,hs]
  have e:=gy (side:=2) (l:=(dq w.b a).2) (w:=aJ (eB w a) 2 (dq w.b a).1)
  have q:=Lj w a (dq w.b a).1
  refine h.stepB ?_ (e.1.trans q.2)
  show CntE w.b (az 2 (aJ (eB w a) 2 (dq w.b a).1) (dq w.b a).2).b
  rw [e.2.1,q.1]
  by_cases k4:a.kind=4
  ·have hm:dq w.b a=manage w.b:=by simp [dq,k4]
   rw [hm,Lk (by have:=C.sib;omega)]
   exact CntE.refl _
  exact GY A h7 fun k=>absurd k k4
 rename_i h7
 have kk:=A.k
 unfold bq
 split
 ·split
  ·exact h.up
  rename_i hl
  split
  ·have hx:lV w.bag a.pos.toNat∈w.bag:=g_ (by have:=nz hok;omega)
   exact IT (p:=p) (h.same rfl rfl) ((W.l _ hx).same rfl rfl)
  exact h.up.same rfl rfl
 split
 ·split
  ·exact h.up
  exact h.up.same rfl rfl
 omega
structure LV (p:PolicyD) (w:WorldD) (k:Nat):Prop where
 life:∃ j,Life w j
 cw:CW p w
 cnt:Cnt w k
theorem LV.i {p:PolicyD} {w:WorldD} {k:Nat} (h:LV p w k):Inv w:=by obtain⟨j,h⟩:=h.life;exact h.i
theorem LV.c {p:PolicyD} {w:WorldD} {k:Nat} (h:LV p w k):Core w:=h.i.c
theorem LV.ga {p:PolicyD} {w:WorldD} {k:Nat} (h:LV p w k):SmallP w.a.inp:=by obtain⟨j,h⟩:=h.life;exact h.g.a.p
theorem LV.gb {p:PolicyD} {w:WorldD} {k:Nat} (h:LV p w k):SmallP w.b.inp:=by obtain⟨j,h⟩:=h.life;exact h.g.b.p
theorem LV.y {p:PolicyD} {w:WorldD} {k:Nat} (h:LV p w k):YoungE w.a/\YoungE w.b:=by obtain⟨j,h⟩:=h.life;exact⟨h.n.a.y,h.n.b.y⟩
theorem LV.done {p:PolicyD} {w:WorldD} {a:ActD} {k:Nat} (hp:p∈pols) (h:LV p w k) (A:CalmA a) (ht:a.text.length<=1048576):LV p (dy w a).1 (k+1):=by
 obtain⟨j,hj⟩:=h.life
 exact⟨⟨j+1,hj.step ht⟩,FH hp h.i h.ga h.gb h.cw A,IU hp h.c h.cw h.cnt A⟩
def AllWf (l:List LetterD):Prop:=∀ y∈l,LetterD.wf y
theorem cq:AllWf []:=fun y hy=>by simp at hy
theorem cV {y:LetterD} (h:y.wf):AllWf [y]:=fun z hz=>by rw [RH.1 hz];exact h
theorem fQ {l m:List LetterD} (h:AllWf l) (g:AllWf m):AllWf (l++m):=fun y hy=>by
 rcases RI.1 hy with hy|hy
 ·exact h y hy
 exact g y hy
theorem Ba:(0:Nat)<=maxLen:=RJ _
theorem x7 {n:Int} (h:0<=n/\n<=4611686018427387904):aR n:=dj zO
theorem GZ {e:EndD} (ok:OkE e) {r:RoadD} {h:HalfD} (H:HaE h) (hr:RN r):(dg e r h).wf:=by
 obtain⟨_,q2,q3,q4,q5,q6⟩:=H
 have n:=ok.nums
 exact kt hr ⟨x7 zD,dR,q3.i,q5.i,dR,x7 zD,n.1.i,n.2.1.i,q3.i,q2.i,dR,dR,dR⟩ dR Ba
theorem G0 {e:EndD} (ok:OkE e) {s:SubD} (S:SuE s):(ci e s).wf:=by
 obtain⟨_,hr,q2,q3,q4,q5,q6⟩:=S
 have n:=ok.nums
 exact kt hr ⟨x7 zD,dR,dR,dR,dR,x7 zD,n.1.i,n.2.1.i,q2.i,q3.i,dR,dR,dR⟩ dR Ba
theorem G1 {r:RoadD} {g:Int} (hr:RN r) (hg:N9 g):(pY r g).wf:=
 kt hr ⟨x7 zD,dR,dR,dR,hg.i,dR,dR,dR,dR,dR,dR,dR,dR⟩ dR Ba
theorem G2 {e:EndD} {s:SubD} (S:SuE s):(fU e s).wf:=by
 obtain⟨_,hr,q2,q3,q4,q5,q6⟩:=S
 have ht:aR (fY (3 - e.side)):=by
  unfold fY;split
  ·rename_i h;rw [df] at h;exact x7 zO
  exact dR
 exact kt hr ⟨x7 zD,ht,q2.i,q5.i,dR,dR,dR,dR,dR,dR,dR,dR,dR⟩ dR Ba
theorem Nh {o:OutD} {s:SubD} (S:SuE s) (F:FineO o):(wn s o).wf:=by
 obtain⟨_,hr,q2,q3,q4,q5,q6⟩:=S
 have h1:=F.base;have h2:=F.room;have h3:=F.len;have h4:=F.sent
 refine kt hr ⟨x7 zD,dR,dR,dR,q4.i,dR,dR,dR,dR,dR,dR,dR,x7 zO⟩ dR ?_
 have m:=A8
 unfold dV
 rw [RP];omega
theorem Ll {e:EndD} (ok:OkE e) {s:SubD} {a:AddrD} (S:SuE s) (A:AdE a):(oh e s a).wf:=by
 obtain⟨_,hr,q2,q3,q4,q5,q6⟩:=S
 obtain⟨a1,a2⟩:=A
 have n:=ok.nums
 exact kt hr ⟨x7 zD,dR,dR,dR,q4.i,x7 zD,n.1.i,n.2.1.i,x7 zO,x7 zO,x7 zO,x7 zO,dR⟩ dR Ba
theorem Lm (p:PiecesD):aR (nextOf p):=pS _
theorem Ni {e:EndD} {x:LetterD} (st:e.state=2) (k:x.kind=1\/x.kind=2\/x.kind=10\/x.kind=13):(bO e x).2=[]:=by
 by_cases hc:dD e x=true
 ·rcases k with k|k|k|k
  ·rw [r_ hc k,aV,if_neg]
   simp only [gO,RA,decide_eq_true_eq];omega
  ·rw [se hc k,bC,if_neg]
   simp only [jI,RA,decide_eq_true_eq];omega
  ·rw [nq hc k];rfl
  rw [nr hc k];rfl
 rw [oM (by simpa using hc)]
theorem Dw {e:EndD} {x:LetterD} (ok:OkE e) (st:e.state=2):AllWf (bO e x).2:=by
 by_cases k:x.kind=1\/x.kind=2\/x.kind=10\/x.kind=13
 ·rw [Ni st k];exact cq
 have F:=nL e x
 have okr:=(lG (x:=x) ok st).1
 generalize bO e x=r at F okr
 have sub:∀ {n:Nat} (hn:n < e.subs.length),SuE e.subs[n]:=fun hn=>ok.subs.el _ (RD hn)
 have hal:∀ {n:Nat} (hn:n < e.halfs.length),HaE e.halfs[n]:=fun hn=>ok.halfs.el _ (RD hn)
 cases F with
 |stay=>exact cq
 |other r h=>exact absurd h k
 |join1 k ok1 n hn hr h1 h2=>exact cV (GZ ok (hal hn) (by rw [<-hr];exact (hal hn).1))
 |join2 k ok1 no=>
  have hk:=ok1
  simp only [mu,RA,decide_eq_true_eq,df,R3] at hk
  obtain⟨⟨⟨⟨⟨⟨⟨⟨⟨hk1,hk2⟩,_⟩,_⟩,_⟩,_⟩,hk6⟩,hk7⟩,hk8⟩,_⟩:=hk
  obtain⟨_,_,_,n4,n5,_⟩:=jP hk2
  have n9:=ok.nums
  have n1:=n9.2.2.2.1
  refine cV (GZ ok ⟨nE hk2,n4,n9.2.2.1,n5,?_,?_⟩ (nE hk2))
  ·simp only [aw,N9];omega
  simp only [aw,N9] at n1⊢;omega
 |back k n hn h1 hr ht=>
  exact cV (G0 ok (okr.subs.el _ (R8 hn _)))
 |done1 k i hi hr h8 ht m hm=>exact cV (G1 (by rw [<-hr];exact (hal hi).1) (hal hi).2.2.2.1)
 |done2 k n hn h3 hr ht=>exact cV (G1 (by rw [<-hr];exact (sub hn).2.1) (sub hn).2.2.2.2.1)
 |ack=>exact cq
 |addr k n hn h3 hr hs ht hp=>
  have A:AdE (ic x):=by
   rw [bi] at hp
   split at hp
   ·rename_i h
    refine (mR.1 h).el _ ?_
    rw [cC];split
    ·rename_i h0
     obtain⟨i,e1,hi,_⟩:=lF h0
     rw [e1,Int.toNat_natCast];exact R8 hi _
    simp
   cases hp
  have r:=(sub hn).2.1
  rw [hr] at r
  simp only [AdE,ic] at A
  exact cV (kt r ⟨x7 zD,dR,dR,dR,(sub hn).2.2.2.2.1.i,dR,dR,dR,dR,dR,x7 zO,x7 zO,dR⟩ dR Ba)
 |echo=>exact cq
 |data k n hn h3 hr hs=>
  have r:=(sub hn).2.1
  rw [hr] at r
  exact cV (kt r ⟨x7 zD,dR,dR,dR,(sub hn).2.2.2.2.1.i,dR,dR,dR,dR,dR,dR,dR,Lm _⟩ dR Ba)
 |came=>exact cq
theorem Ln {e:EndD} (ok:OkE e):AllWf (dv e).2:=by
 unfold dv;split
 ·rename_i hk
  simp only [kq,RA,decide_eq_true_eq] at hk
  obtain⟨s,s1,s2,s3⟩:=xt hk.2
  rw [s3]
  exact cV (Nh (ok.subs.el s s1) (dp ok.out))
 exact cq
theorem sD:∀ {k:Nat} {e:EndD},OkE e->AllWf (bZ k e).2
 |0,e,_=>cq
 |k+1,e,ok=>fQ (Ln ok) (sD (uq ok))
theorem Lo {e:EndD} (ok:OkE e):AllWf (ce e):=by
 unfold ce;split
 ·rename_i hk
  simp only [CA,RA,R3,decide_eq_false_iff_not] at hk
  intro y hy
  obtain⟨q,q1,rfl⟩:=RW.1 hy
  exact Ll ok (ok.subs.el _ (oZ (nK hk.2))) (ok.own.el q (R5.1 q1).1)
 exact cq
theorem IV {e:EndD} (ok:OkE e) {s:SubD} (S:SuE s):AllWf (dO e s):=by
 unfold dO
 repeat' split
 all_goals first
  |exact cq
  |exact cV (G2 S)
  |exact cV (G0 ok S)
theorem zr {far:List AddrD}:∀ {l:List RoadD} {e:EndD},OkE e->AllWf (dm far e l).2
 |[],e,_=>cq
 |r::l,e,ok=>by
  refine fQ ?_ (zr (ur ok).1)
  have ok1:=(ur (r:=r) (b:=aZ far r.far) ok).1
  unfold dE at ok1⊢
  split at ok1
  ·rename_i h
   rw [if_pos h]
   exact cV (G2 (ok1.subs.el _ zP))
  rename_i h
  rw [if_neg h];exact cq
theorem Dx {e:EndD} {a:ActD} (ok:OkE e) (st:e.state=2) (ha:aR a.pos) (h7:a.kind<=7):AllWf (dq e a).2:=by
 unfold dq
 split
 ·exact sD (qv ok).1
 split
 ·exact cq
 split
 ·unfold tick;split
  ·rename_i hk
   unfold bA
   have ok1:=xm ok hk
   refine fQ (fQ (fun y hy=>?_) (Lo ok1)) (sD ok1)
   obtain⟨s,s1,s2⟩:=R4.1 hy
   exact IV ok (ok.subs.el s s1) y s2
  exact cq
 split
 ·unfold manage;split
  ·exact zr ok
  exact cq
 split
 ·exact cq
 split
 ·unfold bz;split
  ·intro y hy
   obtain⟨k,k1,rfl⟩:=RW.1 hy
   have hm:=oZ k1
   rw [dI] at hm
   obtain⟨q,q1,q2⟩:=RW.1 hm
   have S:=ok.subs.el q q1
   have r:RN (bD (dI e a.pos) k).road/\N9 (bD (dI e a.pos) k).give:=by
    rw [dI,<-q2];unfold iS;split<;>exact⟨S.2.1,S.2.2.2.2.1⟩
   exact kt r.1 ⟨x7 zD,dR,dR,dR,r.2.i,dR,dR,dR,dR,dR,ha,dR,dR⟩ dR Ba
  exact cq
 unfold cp;split
 ·rename_i hk
  simp only [t8,RA,decide_eq_true_eq,df] at hk
  have hn:a.pos.toNat < e.subs.length:=zO
  rw [bX hn]
  have S:=ok.subs.el _ (RD hn)
  exact cV (kt S.2.1 ⟨x7 zD,dR,dR,dR,S.2.2.2.2.1.i,dR,dR,dR,dR,dR,dR,dR,dR⟩ dR Ba)
 exact cq
structure LWf (w:WorldD):Prop where
 bag:AllWf w.bag
 past:AllWf w.past
theorem IW {side:Int} {w:WorldD} {y:LetterD} (h:LWf w) (hy:y.wf):LWf (br side w y):=by
 have hp:AllWf (fE w.past y):=by
  unfold fE;split
  ·exact fQ h.past (cV hy)
  exact h.past
 unfold br;split
 ·exact⟨h.bag,hp⟩
 refine⟨?_,hp⟩
 show AllWf (qg w.bag y)
 unfold qg;split
 ·exact fQ h.bag (cV hy)
 exact h.bag
theorem nM {side:Int}:∀ {l:List LetterD} {w:WorldD},LWf w->AllWf l->LWf (az side w l)
 |[],w,h,_=>h
 |y::l,w,h,hl=>nM (l:=l) (IW h (hl y (Rx ..))) fun z hz=>hl z (RB _ hz)
structure Lite (w:WorldD):Prop where
 oka:OkE w.a
 okb:OkE w.b
 sta:w.a.state=2
 stb:w.b.state=2
theorem Lite.of {w v:WorldD} (h:Lite w) (ha:v.a=w.a) (hb:v.b=w.b):Lite v:=⟨ha▸h.oka,hb▸h.okb,ha▸h.sta,hb▸h.stb⟩
theorem Lite.set {w v:WorldD} {s:Int} {e:EndD} {l:List LetterD} (h:Lite w) (ha:v.a=w.a) (hb:v.b=w.b) (ho:OkE e) (hs:e.state=2):Lite (az s (aJ v s e) l):=by
 obtain⟨e1,e2,_⟩:=bH (side:=s) (l:=l) (w:=aJ v s e)
 unfold aJ at e1 e2
 split at e1
 ·rename_i h1
  rw [if_pos h1] at e2
  exact⟨by unfold aJ;rw [if_pos h1,e1];exact ho,by unfold aJ;rw [if_pos h1,e2];exact hb▸h.okb,by unfold aJ;rw [if_pos h1,e1];exact hs,by unfold aJ;rw [if_pos h1,e2];exact hb▸h.stb⟩
 rename_i h1
 rw [if_neg h1] at e2
 exact⟨by unfold aJ;rw [if_neg h1,e1];exact ha▸h.oka,by unfold aJ;rw [if_neg h1,e2];exact ho,by unfold aJ;rw [if_neg h1,e1];exact ha▸h.sta,by unfold aJ;rw [if_neg h1,e2];exact hs⟩
theorem Nj (w:WorldD) (a:ActD):(eB w a).a=w.a/\(eB w a).b=w.b:=by
 unfold eB;split
 ·unfold e7;split<;>exact⟨rfl,rfl⟩
 split
 ·unfold cL;split<;>exact⟨rfl,rfl⟩
 exact⟨rfl,rfl⟩
theorem FJ {w:WorldD} {x:LetterD} (h:Lite w):Lite (ed w x):=by
 unfold ed;split
 ·exact h
 unfold iZ
 rcases gr x.to with h0|h0|h0
 ·contradiction
 ·rw [if_pos (.inl h0),h0]
  exact h.set rfl rfl (lG h.oka h.sta).1 (lG h.oka h.sta).2
 rw [if_pos (.inr h0),h0]
 exact h.set rfl rfl (lG h.okb h.stb).1 (lG h.okb h.stb).2
theorem FK {w:WorldD} {a:ActD} (h:Lite w) (ga:SmallP w.a.inp) (gb:SmallP w.b.inp):Lite (dy w a).1:=by
 unfold dy;split
 case isFalse=>exact h
 rename_i hok
 have hs:=iE hok
 obtain⟨wa,wb⟩:=Nj w a
 split
 ·unfold aU;split
  ·exact h
  rcases hs with hs|hs
  ·have hE:bJ w a.side=w.a:=by rw [hs];rfl
   rw [hE]
   exact h.set wa wb (nF h.oka ga).1 ((nF h.oka ga).2.trans h.sta)
  have hE:bJ w a.side=w.b:=by rw [hs];rfl
  rw [hE]
  exact h.set wa wb (nF h.okb gb).1 ((nF h.okb gb).2.trans h.stb)
 unfold bq;repeat' split
 all_goals first
  |exact h
  |exact h.of rfl rfl
  |exact FJ (h.of rfl rfl)
theorem IX {w:WorldD} {a:ActD} (C:Lite w) (h:LWf w) (ha:a.wf):LWf (dy w a).1:=by
 have hpos:aR a.pos:=ha.2.2.1
 unfold dy;split
 case isFalse=>exact h
 rename_i hok
 have hs:=iE hok
 have hp0:=nz hok
 split
 ·rename_i h7
  unfold aU;split
  ·exact h
  obtain⟨k1,k2⟩:=sC w a a.side (dq (bJ w a.side) a).1
  refine nM ⟨by rw [k1];exact h.bag,by rw [k2];exact h.past⟩ ?_
  rcases hs with hs|hs
  ·have hE:bJ w a.side=w.a:=by rw [hs];rfl
   rw [hE];exact Dx C.oka C.sta hpos h7
  have hE:bJ w a.side=w.b:=by rw [hs];rfl
  rw [hE];exact Dx C.okb C.stb hpos h7
 have hout:AllWf (iz w.bag a.pos):=fun x hx=>h.bag x (jQ hx)
 unfold bq
 split
 ·split
  ·exact h
  rename_i hl
  split
  ·have hx:lV w.bag a.pos.toNat∈w.bag:=g_ zO
   generalize lV w.bag a.pos.toNat=x at hx
   unfold ed;split
   ·exact⟨hout,h.past⟩
   rename_i hz
   unfold iZ
   rcases gr x.to with h0|h0|h0
   ·exact absurd h0 hz
   ·rw [if_pos (.inl h0),h0]
    exact nM ⟨hout,h.past⟩ (Dw C.oka C.sta)
   rw [if_pos (.inr h0),h0]
   exact nM ⟨hout,h.past⟩ (Dw C.okb C.stb)
  exact⟨hout,h.past⟩
 split
 ·split
  ·exact h
  rename_i hl
  rw [not_or] at hl
  exact⟨fQ h.bag (cV (h.bag _ (g_ zO))),h.past⟩
 split
 ·split
  ·exact h
  rename_i hm
  split
  ·exact h
  refine⟨fQ h.bag (cV (Dk ?_)),h.past⟩
  have hm:dQ w a.letter=true:=by simpa using hm
  simp only [dQ,RA] at hm
  exact hm.1.1.1
 split
 ·exact h
 rename_i hl
 rw [not_or] at hl
 exact⟨fQ h.bag (cV (h.past _ (g_ zO))),h.past⟩
theorem Start.lite {w:WorldD} (S:Start w):Lite w:=by
 have h:=S.e
 simp only [startE,RA,decide_eq_true_eq] at h
 obtain⟨⟨⟨⟨⟨⟨oa,ob⟩,a1,a2,_⟩,_⟩,_⟩,_⟩,_⟩:=h
 exact⟨jn.1 oa,jn.1 ob,a1,a2⟩
theorem zt {p:PolicyD} {l:List ActD} (hp:polOk p=true) (hl:l.length<=120) (ha:∀ a∈l,a.wf/\a.text.length<=1048576):GoodW (di p l).1 (0+l.length)/\LWf (di p l).1/\(di p l).1.a.wf/\(di p l).1.b.wf:=by
 rw [di,if_pos ⟨hp,hl⟩]
 have h0:=ss hp
 have h:=(mN (Q:=fun w k=>(GoodW w k/\Lite w)/\LWf w) (P:=fun a=>a.wf/\a.text.length<=1048576) (fun w k a h ha=>⟨⟨lB h.1.1 ha.2,FK h.1.2 h.1.1.a.p h.1.1.b.p⟩,IX h.1.2 h.2 ha.1⟩) (l:=l) (cs:=[]) (k:=0) ⟨⟨h0.g,h0.s.lite⟩,⟨by rw [h0.s.bag];exact cq,by rw [h0.s.past];exact cq⟩⟩ ha).1
 exact⟨h.1.1,h.2,h.1.2.oka.wf h.1.1.a,h.1.2.okb.wf h.1.1.b⟩
theorem FL {a:ActD} (h:actGood a=true):a.wf:=by
 cases fK h with
 |inject x hx=>
  have h1:=Dk hx
  simp only [LetterD.wf] at h1
  simp only [ActD.wf,ae]
  exact⟨dj zO,dj zO,dj zO,dj zO,by simp [maxLen],dj zO,dj zO,h1⟩
 |_=>simp [ActD.wf,AddrD.wf,LetterD.wf,TagD.wf,aR,maxLen,ae,ac]<;>omega
theorem fR {a:ActD} (h:actGood a=true):a.wf/\a.text.length<=1048576:=by
 refine⟨FL h,?_⟩
 simp only [actGood,RA] at h
 exact (mK h.1.1).2.2.2.2.2
theorem xv {parts:List (List UInt8)}:∀ {l:List PolicyD},(gI parts l).2=true->(gI parts l).1∈l
 |[],h=>by simp [gI] at h
 |c::r,h=>by
  rw [gI] at h⊢
  split at h
  ·rename_i hs;rw [if_pos hs];exact Rx ..
  rename_i hs;rw [if_neg hs];exact RB _ (xv h)
theorem Lp:∀ p∈eH,polOk p=true:=by decide
theorem IY {l:List UInt8} (h:(gK l).2=true):polOk (gK l).1=true:=by
 rw [gK] at h⊢
 split at h
 ·rename_i hs;rw [if_pos hs];exact Lp _ (xv h)
 cases h
theorem Bb {l:List UInt8} (h:(eE l).2=true):actGood (eE l).1=true:=by
 rw [oG,lg] at h⊢
 split at h
 ·rename_i hs
  rw [if_pos hs]
  rw [ni] at h⊢
  split at h
  ·rename_i hg;rw [if_pos hg];exact hg.1
  cases h
 cases h
structure ScrOk (R:Int×PolicyD×List ActD):Prop where
 p:polOk R.2.1=true
 n:R.2.2.length<=120
 a:∀ a∈R.2.2,actGood a=true
theorem nN:∀ {l:List (List UInt8)} {n:Nat} {p:PolicyD} {b:Bool} {aU:List ActD},(b=true->polOk p=true)->aU.length<=120->(∀ a∈aU,actGood a=true)->(cU n l p b aU).1=0->ScrOk (cU n l p b aU)
 |[],n,p,b,aU,hp,hn,ha,h=>by
  rw [cU] at h⊢
  cases b with
  |true=>exact⟨hp rfl,hn,ha⟩
  |false=>dsimp only at h;simp at h;omega
 |l::r,n,p,b,aU,hp,hn,ha,h=>by
  rw [cU] at h⊢
  split at h
  ·rename_i hs;rw [if_pos hs];exact nN hp hn ha h
  rename_i hs
  rw [if_neg hs]
  split at h
  ·rename_i hb
   rw [if_pos hb]
   split at h
   ·rename_i hq;rw [if_pos hq];exact nN (fun _=>IY hq) hn ha h
   dsimp only at h;omega
  rename_i hb
  rw [if_neg hb]
  split at h
  ·rename_i hq
   rw [if_pos hq]
   refine nN (fun _=>hp (by cases b;exact absurd rfl hb;rfl)) (by rw [RF,RK];omega) (fun a hm=>?_) h
   rcases RI.1 hm with hm|hm
   ·exact ha a hm
   rw [RH.1 hm];exact Bb hq.1
  dsimp only at h;omega
theorem q7:∀ {l:List (List UInt8)} {n:Nat} {p:PolicyD} {b:Bool} {aU:List ActD},0<=(cU n l p b aU).1/\(cU n l p b aU).1<=n+l.length+1
 |[],n,p,b,aU=>by
  rw [cU]
  cases b<;>simp<;>omega
 |l::r,n,p,b,aU=>by
  have e:((l::r).length:Int)=r.length+1:=by simp
  rw [cU]
  split
  ·have:= @q7 r (n+1) p b aU;omega
  split
  ·split
   ·have:= @q7 r (n+1) (gK l).1 true aU;omega
   dsimp only;omega
  split
  ·have:= @q7 r (n+1) p true (aU++[(eE l).1]);omega
  dsimp only;omega
theorem Bc {y:UInt8}:∀ {l:List UInt8} {acc:List (List UInt8)} {cur:List UInt8},(dU y acc cur l).length<=acc.length+l.length+1
 |[],acc,cur=>by rw [dU];simp
 |b::l,acc,cur=>by
  rw [dU];split
  ·have:=Bc (y:=y) (l:=l) (acc:=acc++[cur]) (cur:=[])
   rw [RF,RK] at this
   rw [Ru];omega
  have:=Bc (y:=y) (l:=l) (acc:=acc) (cur:=cur++[b])
  rw [Ru];omega
theorem Lq (t:List UInt8):(eU 10 t).length<=t.length+1:=by
 have:=Bc (y:=10) (l:=t) (acc:=[]) (cur:=[])
 rw [RG,R9] at this
 exact this
theorem Nk {t:List UInt8} (h:(cU 0 (eU 10 t) ⟨0,0⟩ false []).1=0):ScrOk (cU 0 (eU 10 t) ⟨0,0⟩ false []):=nN zP zP zP h
theorem FM (w:WorldD) (a:ActD):0<=(dy w a).2/\(dy w a).2<=3:=by
 unfold dy;split
 ·split
  ·unfold aU;split<;>exact⟨zP,zP⟩
  unfold bq;repeat' split
  all_goals exact⟨zP,zP⟩
 exact⟨zP,zP⟩
theorem q8:∀ {l:List ActD} {w:WorldD} {cs:List Int},(∀ c∈cs,0<=c/\c<=3)->∀ c∈(i8 l w cs).2,0<=c/\c<=3
 |[],w,cs,h=>h
 |a::l,w,cs,h=>q8 (l:=l) fun c hc=>by
  rcases RI.1 hc with hc|hc
  ·exact h c hc
  rw [RH.1 hc];exact FM w a
theorem q9 {p:PolicyD} {l:List ActD}:∀ c∈(di p l).2,0<=c/\c<=3:=by
 rw [di];split
 ·exact q8 zP
 intro c hc;simp at hc
def told (l:List ActD):List ActD:=l.filter actGood
theorem OO {l:List ActD} {k:Nat} (h:k < l.length) (g:actGood l[k]=true):told (l.take (k+1))=told (l.take k)++[l[k]]:=by
 rw [told,RE h,R1];simp [told,g]
theorem OP {l:List ActD} {k:Nat} (h:k < l.length) (g:actGood l[k]=false):told (l.take (k+1))=told (l.take k):=by
 rw [told,RE h,R1];simp [told,g]
theorem Lr (l:List ActD) (k:Nat):(told (l.take k)).length<=k:=by
 have h1:(told (l.take k)).length<=(l.take k).length:=RZ ..
 have h2:=List.length_take_le k l
 omega
theorem IZ {l:List ActD}:∀ a∈told l,actGood a=true:=fun a h=>(R5.1 h).2
theorem I0 {p:PolicyD} {l:List ActD} {a:ActD}:lX p (l++[a])=(lX p l++aO a)++[10,32,10]:=by simp [lX]
theorem Lt {p:PolicyD}:lX p []=([35,32,115,97,105,100,10]++bQ p)++[10]:=by simp [lX]
theorem Dy {a:ActD}:(aO a=[])↔actGood a=false:=by
 cases h:actGood a with
 |true=>exact⟨fun e=>absurd e (oF h),fun e=>by cases e⟩
 |false=>exact⟨fun _=>rfl,fun _=>by rw [aO,if_neg (by simp [h])]⟩
theorem nO {cs:List Int} (h:∀ c∈cs,0<=c/\c<=3) (hn:cs.length<=120):(aX [32] (cs.map cr)).length<=600:=by
 have hl:=ji (y:=[32]) (l:=cs.map cr)
 have ht:∀ l:List Int,(∀ c∈l,0<=c/\c<=3)->tot (l.map cr)<=2*l.length:=by
  intro l
  induction l with
  |nil=>intro _;simp [tot]
  |cons c r ih=>
   intro h
   have h1:=ih fun c hc=>h c (RB _ hc)
   have h2:=h c (Rx ..)
   obtain⟨n,rfl⟩:=Int.eq_ofNat_of_zero_le h2.1
   have h3:(cr (n:Int)).length=1:=by rw [e8 zO];rfl
   simp only [tot,Rv,Rw,Ru] at h1⊢
   omega
 have:=ht cs h
 simp only [RK,R_,RM] at hl
 omega
theorem zu (p:PolicyD) (l:List ActD) (ha:∀ a∈l,a.text.length<=1048576):SmallW (di p l).1/\(di p l).2.length<=120:=by
 rw [di];split
 ·rename_i h
  have:=mN (Q:=GoodW) (P:=fun a=>a.text.length<=1048576) (fun w k a h ha=>lB h ha) (l:=l) (cs:=[]) (ss h.1).g ha
  refine⟨this.1.s,?_⟩
  rw [this.2,RG,R9]
  exact h.2
 exact⟨⟨⟨by decide,by decide,by decide,by decide,by decide,by decide,by decide⟩,⟨by decide,by decide,by decide,by decide,by decide,by decide,by decide⟩,by decide,by decide,by decide,by decide,by decide,by decide,by decide⟩,by decide⟩
theorem Nl {l:List UInt8}:kJ l=((bm l).2 && ((bm l).1.length == 0 || wY (bm l).1)):=rfl
theorem G5 {s:List UInt8}:∀ {l:List (List UInt8)},s∈l->s.length<=tot l
 |[],h=>by simp at h
 |x::r,h=>by
  have e:tot (x::r)=x.length+tot r:=by simp [tot]
  rw [e]
  rcases List.mem_cons.1 h with rfl|h
  ·omega
  have:=G5 h
  omega
theorem DE (l:List (List UInt8)) (k:Nat):(l.getD k []).length<=tot l:=by
 rw [RL]
 cases h:l[k]? with
 |none=>simp
 |some s=>exact G5 (List.mem_of_getElem? h)
theorem jT:ac.wf:=by
 refine⟨?_,?_,?_,?_,?_,?_,?_,?_,?_,?_,?_,?_,?_,?_,?_,?_,?_,?_⟩<;>first|exact⟨by decide,by decide⟩|decide
theorem OR {s:List UInt8} (h:s.length<=1048576):(DQ s).1.wf:=by
 have hm:(1048576:Nat)<=maxLen:=by decide
 rw [DQ]
 split
 ·rename_i hc
  cases hr:aY ((eU 44 s).take 18) with
  |none=>exact jT
  |some n=>
   rw [Hz]
   split
   ·refine BZ (mi hr) _ ?_
    have h18:18 < (eU 44 s).length:=zO
    have h1:=xw ((eU 44 s).getD 18 [])
    have h2:((eU 44 s).getD 18 []).length<=s.length:=by
     rw [RL,RO h18]
     exact Dz s _ (RD h18)
    try dsimp only
    omega
   exact jT
 exact jT
theorem mZ {k s p m i d:Int} {t:List UInt8} {b1 b2:Bool} {x:LetterD} (h1:aR k) (h2:aR s) (h3:aR p) (h4:aR m) (h5:t.length<=maxLen) (h6:aR i) (h7:aR d) (hx:x.wf):ActD.wf ⟨k,s,p,m,t,⟨i,d,b1,b2⟩,x⟩:=⟨h1,h2,h3,h4,h5,h6,h7,hx⟩
end
section
open Go.RowKit
theorem m5 (a:Act) (d:Option Tmp) (v:Value):(a.put d v).tmps.size=a.tmps.size:=by
 cases d with
 |none=>rfl
 |some d=>simp [Act.put]
theorem kd {a:Act} {d:Nat} {v:Value} (h:d < a.tmps.size):(a.put (some d) v).eval (.tmp d)=v:=by
 show (a.tmps.setIfInBounds d v).getD d undef=v
 simp [RC,h]
theorem sF {a:Act} {d x:Nat} {v:Value} (h:x≠d):(a.put (some d) v).eval (.tmp x)=a.eval (.tmp x):=by
 show (a.tmps.setIfInBounds d v).getD x undef=a.tmps.getD x undef
 rw [RC,RC,Array.getElem?_setIfInBounds_ne (Ne.symm h)]
theorem jo {P:Program} {ops:Array Oper} {w:World} {Q:Act->Prop} {a:Act} {o:Oper} {rest:List Oper} {v:Value} {d:Nat} (hg:o.guard=none) (hd:o.dst=some d) (hr:(execOp a.eval o).run P w=.ok (.value v) w)
  (h:wpStill P ops w Q rest (a.put (some d) v)):wpStill P ops w Q (o::rest) a:=by
 unfold wpStill
 rw [if_pos (by unfold Region.wanted;rw [hg])]
 unfold Oper.still
 rw [hr]
 simp only [Oper.stillUpon]
 rw [hd]
 exact⟨trivial,h⟩
section
variable {P:Program} {g:Nat} {tab:List (List UInt8)}
theorem DF {E:Entry} {F:S->Prop} {id:Nat} {o0 o1 o2 o3 o4 o5 o6:Oper} {k:List fI} {s:S} {c:Prop} {T T' t x y n e d0 d1 d2 d3 d4 d5 d6 ob ty:Nat} {m:Int} {l0 z:List UInt8} {l:List (List UInt8)} {own fl:Bool} (hG:GE g tab E)
  (hm:P.follows .mixedOrders=true) (hB:Region.lexTailB .any [o0,o1,o2,o3,o4,o5,o6].toArray 6=true)
  (p0:o0.op=.move (.tmp x)/\o0.dst=some d0/\o0.guard=none)
  (p1:o1.op=.indexAddr T (.tmp d0) (.const (.int .i64 0))/\o1.dst=some d1/\o1.guard=none)
  (p2:o2.op=.load t (.tmp d1)/\o2.dst=some d2/\o2.guard=none)
  (p3:o3.op=.move (.tmp y)/\o3.dst=some d3/\o3.guard=none)
  (p4:o4.op=.indexAddr T' (.global g) (.tmp d3)/\o4.dst=some d4/\o4.guard=none)
  (p5:o5.op=.load t (.tmp d4)/\o5.dst=some d5/\o5.guard=none)
  (p6:o6.op=.binOp .neq t (.tmp d2) (.tmp d5) t/\o6.dst=some d6/\o6.guard=none)
  (hne:y≠d0/\y≠d1/\y≠d2/\d2≠d3/\d2≠d4/\d2≠d5)
  (hT:uw P T=some (e,1)) (hT':P.underlying T'=some (.array n e)) (ht:cX P t=false) (hk:eR P t=true) (hst:P.underlying t=some .string)
  (hx:s.sl.get x=some (.sc (.sl ob 0 l.length))) (hob:s.obj ob=some ⟨l.map fun q=>[.st q],1,ty,own,fl⟩) (hl0:l[0]? =some l0)
  (hy:s.sl.get y=some (.sc (.int .i64 m))) (h0:0<=m) (h1:m < n) (hz:tab[m.toNat]? =some z)
  (hhas:s.sl.has d0/\s.sl.has d1/\s.sl.has d2/\s.sl.has d3/\s.sl.has d4/\s.sl.has d5) (hc:c)
  (h:gD P E F (.go k (((((((s.put (some d0) none s.hp).put (some d1) none s.hp).put (some d2) (some (.sc (.st l0))) s.hp).put (some d3) none s.hp).put (some d4) none s.hp).put (some d5) (some (.sc (.st z))) s.hp).put (some d6) (some (.sc (.bo (!(l0 == z))))) s.hp) True)):
  gD P E F (.draw id [o0,o1,o2,o3,o4,o5,o6].toArray k s c):=by
 refine⟨hc,?_⟩
 intro β a w hs Q hQ
 refine wp_region_still_tail 6 hm hB ?_
 simp only [List.take_succ_cons,List.take_zero,List.drop_succ_cons,List.drop_zero]
 obtain⟨w2,hw2⟩:∃ w2,w2={ w with drawn:=w.drawn+1 }:=⟨_,rfl⟩
 have hs2:Sim E β s a w2:=by
  rw [hw2]
  exact⟨hs.dfr,hs.sl,⟨hs.hp.len,hs.hp.ob,hs.hp.flat,hs.hp.apart⟩,hs.ent,⟨hs.st.le,hs.st.os,hs.st.tape,hs.st.output,hs.st.size,hs.st.block,hs.st.len,hs.st.old,hs.st.fresh⟩⟩
 rw [<-hw2]
 clear hw2 hs
 have hgo:=hG.sim hs2
 obtain⟨hTs,hke,he1⟩:=gj hT
 have hvx:ScR β (.sl ob 0 l.length) (a.eval (.tmp x)):=by
  obtain⟨u,hu,hr⟩:=hs2.sl.2 x _ hx
  have:a.eval (.tmp x)=u:=by show a.tmps.getD x undef=u;simp [RC,hu]
  rw [this];exact hr
 have hvy:a.eval (.tmp y)=.int .i64 m:=by
  obtain⟨u,hu,hr⟩:=hs2.sl.2 y _ hy
  have:a.eval (.tmp y)=u:=by show a.tmps.getD y undef=u;simp [RC,hu]
  rw [this];exact hr
 have hlen:0 < l.length:=(List.getElem?_eq_some_iff.1 hl0).1
 obtain⟨ad,cap,hxe,hlc,hcm,hor⟩:=hvx
 rcases hor with rfl|⟨p,hp,rfl,hav⟩
 ·omega
 obtain⟨he,arr,Tb,fz,hh,hcs,_⟩:=ig hs2.hp (cZ hob) hp
 have hcell:w2.cell? ⟨p.blk,p.base,none⟩=some (.string ⟨l0.toArray⟩):=by
  obtain⟨v,hv,hr⟩:=(hcs 0 [.st l0] (by simp [hl0])).2 0 (.st l0) rfl
  rw [kS hh]
  have hr':v=.string ⟨l0.toArray⟩:=hr
  rw [<-hr']
  simpa using hv
 have hcell2:=hgo.2.1 _ _ hz
 have hf:StepR β β s.hp s.hp w2 w2:=StepR.refl β s.hp w2 hs2.hp.len
 have b0:=hs2.sl.1 d0 hhas.1
 have b1:=hs2.sl.1 d1 hhas.2.1
 have b2:=hs2.sl.1 d2 hhas.2.2.1
 have b3:=hs2.sl.1 d3 hhas.2.2.2.1
 have b4:=hs2.sl.1 d4 hhas.2.2.2.2.1
 have b5:=hs2.sl.1 d5 hhas.2.2.2.2.2
 obtain⟨p0a,p0b,p0c⟩:=p0
 obtain⟨p1a,p1b,p1c⟩:=p1
 obtain⟨p2a,p2b,p2c⟩:=p2
 obtain⟨p3a,p3b,p3c⟩:=p3
 obtain⟨p4a,p4b,p4c⟩:=p4
 obtain⟨p5a,p5b,p5c⟩:=p5
 obtain⟨p6a,p6b,p6c⟩:=p6
 obtain⟨y0,y1,y2,n23,n24,n25⟩:=hne
 obtain⟨dd,hdd⟩:=ox hk
 have S0:=eM hs2 hf hs2.hp (some d0) (.slice (some ⟨p.blk,p.base+0*p.esz,none⟩) l.length cap)
 refine jo p0c p0b (v:=.slice (some ⟨p.blk,p.base+0*p.esz,none⟩) l.length cap) (by unfold execOp;rw [p0a];simp [hxe]) ?_
 have e0:=kd (a:=a) (v:=.slice (some ⟨p.blk,p.base+0*p.esz,none⟩) l.length cap) b0
 have f0:=(sF (a:=a) (v:=.slice (some ⟨p.blk,p.base+0*p.esz,none⟩) l.length cap) y0).trans hvy
 have z0:=m5 a (some d0) (.slice (some ⟨p.blk,p.base+0*p.esz,none⟩) l.length cap)
 generalize a.put (some d0) (.slice (some ⟨p.blk,p.base+0*p.esz,none⟩) l.length cap)=A0 at*
 have S1:=eM S0 hf hs2.hp (some d1) (.pointer (some ⟨p.blk,p.base,none⟩))
 refine jo p1c p1b (v:=.pointer (some ⟨p.blk,p.base,none⟩)) (by
  have e1:A0.eval (.const (.int .i64 0))=.int .i64 0:=rfl
  unfold execOp
  rw [p1a]
  simp [e0,e1,Instr.indexAt,asIntOf,run_underlying (f5 hTs),hlen,dw w2 (iL hke),Addr.add_lit]) ?_
 have e1:=kd (a:=A0) (d:=d1) (v:=.pointer (some ⟨p.blk,p.base,none⟩)) zO
 have f1:=(sF (a:=A0) (v:=.pointer (some ⟨p.blk,p.base,none⟩)) y1).trans f0
 have z1:=m5 A0 (some d1) (.pointer (some ⟨p.blk,p.base,none⟩))
 generalize A0.put (some d1) (.pointer (some ⟨p.blk,p.base,none⟩))=A1 at*
 have S2:=f8 S1 hf hs2.hp (some d2) (av:=.sc (.st l0)) (v:=.string ⟨l0.toArray⟩) rfl
 refine jo p2c p2b (v:=.string ⟨l0.toArray⟩) (by
  unfold execOp
  rw [p2a]
  simp [e1,Instr.loadAt,Instr.sureAddr,loadVar,fj w2 hdd,ht,hcell]) ?_
 have f2:=(sF (a:=A1) (v:=.string ⟨l0.toArray⟩) y2).trans f1
 have z2:=m5 A1 (some d2) (.string ⟨l0.toArray⟩)
 generalize A1.put (some d2) (.string ⟨l0.toArray⟩)=A2 at*
 have S3:=eM S2 hf hs2.hp (some d3) (.int .i64 m)
 refine jo p3c p3b (v:=.int .i64 m) (by
  unfold execOp
  rw [p3a]
  simp [f2]) ?_
 have e3:=kd (a:=A2) (d:=d3) (v:=.int .i64 m) zO
 have z3:=m5 A2 (some d3) (.int .i64 m)
 generalize A2.put (some d3) (.int .i64 m)=A3 at*
 have S4:=eM S3 hf hs2.hp (some d4) (.pointer (some ⟨g,m.toNat,none⟩))
 refine jo p4c p4b (v:=.pointer (some ⟨g,m.toNat,none⟩)) (by
  have e1:A3.eval (.global g)=.pointer (some ⟨g,0,none⟩):=rfl
  unfold execOp
  rw [p4a]
  simp [e3,e1,Instr.indexAt,Instr.sureAddr,asIntOf,run_underlying hT',h0,h1,dw w2 (iL hke),<-he1,Addr.add_lit]) ?_
 have e4:=kd (a:=A3) (d:=d4) (v:=.pointer (some ⟨g,m.toNat,none⟩)) zO
 have z4:=m5 A3 (some d4) (.pointer (some ⟨g,m.toNat,none⟩))
 generalize A3.put (some d4) (.pointer (some ⟨g,m.toNat,none⟩))=A4 at*
 have S5:=f8 S4 hf hs2.hp (some d5) (av:=.sc (.st z)) (v:=.string ⟨z.toArray⟩) rfl
 refine jo p5c p5b (v:=.string ⟨z.toArray⟩) (by
  unfold execOp
  rw [p5a]
  simp [e4,Instr.loadAt,Instr.sureAddr,loadVar,fj w2 hdd,ht,hcell2]) ?_
 refine wpStill_nil ?_
 have hk2:=h.2
 rw [<-p6b] at hk2
 have hd:uD P E [o0,o1,o2,o3,o4,o5,o6].toArray [o6] ((((((s.put (some d0) none s.hp).put (some d1) none s.hp).put (some d2) (some (.sc (.st l0))) s.hp).put (some d3) none s.hp).put (some d4) none s.hp).put (some d5) (some (.sc (.st z))) s.hp) (KK P E (BA F) k .normal):=by
  refine F3 (x:=⟨some (.sc (.bo (!(l0 == z)))),s.hp,True⟩) (by unfold eS;rw [p6c]) ?_ trivial (Bx hk2)
  rw [p6a]
  have k2:(((((((s.put (some d0) none s.hp).put (some d1) none s.hp).put (some d2) (some (.sc (.st l0))) s.hp).put (some d3) none s.hp).put (some d4) none s.hp).put (some d5) (some (.sc (.st z))) s.hp)).sl.get d2=some (.sc (.st l0)):=by
   show (((((((s.sl.put d0 none).put d1 none).put d2 (some (.sc (.st l0)))).put d3 none).put d4 none).put d5 (some (.sc (.st z)))).get d2)=_
   have hh2:((s.sl.put d0 none).put d1 none).has d2:=by rw [Slots.put_has,Slots.put_has];exact hhas.2.2.1
   rw [Slots.get_put,if_neg n25,Slots.get_put,if_neg n24,Slots.get_put,if_neg n23,Slots.get_put,if_pos rfl]
   exact if_pos hh2
  have k5:(((((((s.put (some d0) none s.hp).put (some d1) none s.hp).put (some d2) (some (.sc (.st l0))) s.hp).put (some d3) none s.hp).put (some d4) none s.hp).put (some d5) (some (.sc (.st z))) s.hp)).sl.get d5=some (.sc (.st z)):=by
   show (((((((s.sl.put d0 none).put d1 none).put d2 (some (.sc (.st l0)))).put d3 none).put d4 none).put d5 (some (.sc (.st z)))).get d5)=_
   have hh5:(((((s.sl.put d0 none).put d1 none).put d2 (some (.sc (.st l0)))).put d3 none).put d4 none).has d5:=by simp only [Slots.put_has];exact hhas.2.2.2.2.2
   rw [Slots.get_put,if_pos rfl]
   exact if_pos hh5
  simp only [bR,S.ev,k2,k5,jq,S.valc]
  rfl
 exact hd β _ w2 S5 Q fun s' β' a' w' hK hS=>hQ .normal s' β' a' w' hK hS
end
end
section
open Go.RowKit
def rm (p:List (List UInt8)):Nat->Nat->ActD×Bool
 |0,_=>(gJ,false)
 |f+1,k=>if z8 p (k:Nat) then ((rdF (k:Nat) (p.drop 1)).1,true) else rm p f (k+1)
theorem DG (p:List (List UInt8)):rm p 12 1=oE p z9:=rfl
theorem I3 (p:List (List UInt8)):tot (p.drop 1)<=tot p:=by
 cases p<;>simp [tot]
theorem Ly {k:Int} {a:ActD} {l:List Int} (h:a.wf) (hl:∀ x∈l,aR x):(tR k a l).1.wf:=by
 obtain⟨k',s,p,m,t,⟨i,d,b1,b2⟩,x⟩:=a
 obtain⟨h1,h2,h3,h4,h5,h6,h7,hx⟩:=h
 have w:=fun n=>c_ hl n
 rw [tR]
 (repeat' split)<;>first|exact mZ h1 h2 h3 h4 h5 h6 h7 hx|exact mZ h1 h2 h3 h4 h5 (w _) (w _) hx|exact mZ h1 h2 h3 (w _) h5 h6 h7 hx|exact mZ h1 h2 (w _) h4 h5 h6 h7 hx
theorem Lz {k:Int} {a:ActD} {r:Option (List Int)} (h:a.wf) (hl:∀ l,r=some l->∀ x∈l,aR x):(lf k a r).1.wf:=by
 cases r with
 |none=>exact h
 |some l=>
  have hl':=hl l rfl
  rw [lf]
  split
  ·split
   ·exact h
   refine Ly ?_ (fun x hx=>hl' x (List.mem_of_mem_drop hx))
   obtain⟨k',s,p,m,t,⟨i,d,b1,b2⟩,x⟩:=a
   obtain⟨h1,h2,h3,h4,h5,h6,h7,hx⟩:=h
   exact mZ h1 (c_ hl' _) h3 h4 h5 h6 h7 hx
  exact Ly h hl'
theorem Nt {k s:Int} (hk:aR k) (hs:aR s):(bf k s).wf:=
 mZ hk hs ⟨by decide,by decide⟩ ⟨by decide,by decide⟩ zP ⟨by decide,by decide⟩ ⟨by decide,by decide⟩ jT
theorem OS {k:Int} {p:List (List UInt8)} (hk:1<=k/\k<=12) (ht:tot p<=600):(rdF k p).1.wf:=by
 have z:aR 0:=⟨by decide,by decide⟩
 have o:aR 1:=⟨by decide,by decide⟩
 have hk':aR k:=⟨zO,zO⟩
 have ha:=Nt hk' o
 have hm:(600:Nat)<=maxLen:=by decide
 have hu:(iq (p.getD 1 [])).1.length<=maxLen:=by
  have h1:=xw (p.getD 1 [])
  have h2:=DE p 1
  rw [iq]
  split
  ·simp
  omega
 have hx:(DQ (p.getD 0 [])).1.wf:=OR (by have:=DE p 0;omega)
 have hw:ActD.wf { bf k 1 with text:=(iq (p.getD 1 [])).1 }:=mZ hk' o z z hu z z jT
 rw [rdF]
 split
 ·split
  ·exact ha
  exact mZ hk' o z z (by simp [bf]) z z hx
 split
 ·split
  ·exact ha
  split
  ·exact hw
  exact Lz hw (fun l h=>mi h)
 exact Lz ha (fun l h=>mi h)
theorem Rt {α:Type} {f:α->List Sc} (l:List α) (d:Nat):List.take (l.drop d).length (List.drop d (l.map f))=(l.drop d).map f:=by
 rw [<-List.map_drop,<-RM (f:=f),RX]
theorem Bl (l:List UInt8):mY Tryz.prog 0 actTab 32 [.sc (.st l)] [] (.tu [.ag (eE l).1.cs,.sc (.bo (eE l).2)]) []:=by
 obtain⟨R,hR⟩:∃ R,R=eE l:=⟨_,rfl⟩
 rw [<-hR]
 have hP:=jb l
 obtain⟨ht1,ht2⟩:=jy l
 have ht3:=mf l
 rw [eE] at hR
 generalize bm l=q at*
 obtain⟨p,ok⟩:=q
 dsimp only at hR hP ht1 ht2 ht3
 refine q_ func32 (by kernel_rfl) rfl fun E hG hE=>aa 400 ?_
 simp (disch:=omega) only [ntmps32,results32,go_sem]
 refine ah (qC) (hP) [] qM zF (aa 400 ?_)
 simp (disch:=omega) only [go_sem,Nat.reduceEqDiff,Nat.reduceAdd,Nat.reduceSub,Int.reduceAdd,Int.reduceSub,Int.reduceToNat]
 cases ok with
 |false=>
  rw [if_pos (.inl rfl)] at hR
  subst hR
  try simp (disch:=omega) only [go_sem,Nat.reduceEqDiff,Nat.reduceAdd,Nat.reduceSub,Int.reduceAdd,Int.reduceSub,Int.reduceToNat]
  refine ai [] (qC) _ (by simp only [go_sem];rfl) zF zF ?_
  simp (disch:=omega) only [go_sem,Nat.reduceEqDiff,Nat.reduceAdd,Nat.reduceSub,Int.reduceAdd,Int.reduceSub,Int.reduceToNat]
  simp [gJ,ae,ac]
 |true=>
  try simp (disch:=omega) only [go_sem,Nat.reduceEqDiff,Nat.reduceAdd,Nat.reduceSub,Int.reduceAdd,Int.reduceSub,Int.reduceToNat]
  split<;>rename_i h2<;>(try simp only [zR] at h2)<;>simp (disch:=omega) only [go_sem,Nat.reduceEqDiff,Nat.reduceAdd,Nat.reduceSub,Int.reduceAdd,Int.reduceSub,Int.reduceToNat,h2]<;>(try simp only [zQ] at h2)<;>try simp (disch:=omega) only [go_sem,Nat.reduceEqDiff,Nat.reduceAdd,Nat.reduceSub,Int.reduceAdd,Int.reduceSub,Int.reduceToNat]
  ·rw [if_pos (.inr zO)] at hR
   subst hR
   refine ai [] (qC) _ (by simp only [go_sem];rfl) zF zF ?_
   simp (disch:=omega) only [go_sem,Nat.reduceEqDiff,Nat.reduceAdd,Nat.reduceSub,Int.reduceAdd,Int.reduceSub,Int.reduceToNat]
   simp [gJ,ae,ac]
  have h0p:0 < p.length:=zO
  rw [if_neg (by rintro (h|h);exact absurd h zP;omega),<-DG] at hR
  obtain⟨w,hw⟩:∃ w,w=p[0]:=⟨_,rfl⟩
  have hw0:p.getD 0 []=w:=by rw [hw,RL,RO h0p];rfl
  have hd:tot (p.drop 1)<=600:=R7 (I3 p) ht1
  refine ee 0 hE (fun s (k:Nat)=>s.at (qU [0,1,3,1,5,1,7,41]) [(6,.sc (.int .i64 (k:Nat)))] (s.hp)) (fun (k:Nat)=>1<=k/\k<=13/\rm p (13 - k) k=R) (fun (k:Nat)=>13 - k) 1 (qI 0 2) (qC) (⟨zO,zO,hR.symm⟩) (ay zF zF ?_) fun k hk N hN=>?_
  ·try simp (disch:=omega) only [go_sem,Nat.reduceEqDiff,Nat.reduceAdd,Nat.reduceSub,Int.reduceAdd,Int.reduceSub,Int.reduceToNat]
  obtain⟨hk1,hk2,hkR⟩:=hk
  refine aa 400 ?_
  try simp (disch:=omega) only [go_sem,Nat.reduceEqDiff,Nat.reduceAdd,Nat.reduceSub,Int.reduceAdd,Int.reduceSub,Int.reduceToNat]
  split<;>rename_i h3<;>(try simp only [zR] at h3)<;>simp (disch:=omega) only [go_sem,Nat.reduceEqDiff,Nat.reduceAdd,Nat.reduceSub,Int.reduceAdd,Int.reduceSub,Int.reduceToNat,h3]<;>(try simp only [zQ] at h3)<;>try simp (disch:=omega) only [go_sem,Nat.reduceEqDiff,Nat.reduceAdd,Nat.reduceSub,Int.reduceAdd,Int.reduceSub,Int.reduceToNat]
  ·have htab:=Lx (k:=(k:Int)) zO
   refine DF (g:=0) (tab:=actTab) (l:=p) hG (by kernel_rfl) (by kernel_rfl) ⟨rfl,rfl,rfl⟩ ⟨rfl,rfl,rfl⟩ ⟨rfl,rfl,rfl⟩ ⟨rfl,rfl,rfl⟩ ⟨rfl,rfl,rfl⟩ ⟨rfl,rfl,rfl⟩ ⟨rfl,rfl,rfl⟩ zD (by kernel_rfl) underlying104 (by kernel_rfl) (by kernel_rfl) underlying9 rfl rfl (RO h0p) rfl zO zO htab (by refine⟨?_,?_,?_,?_,?_,?_⟩<;>(unfold Slots.has;simp)) (qC) (aa 400 ?_)
   try simp (disch:=omega) only [go_sem,Nat.reduceEqDiff,Nat.reduceAdd,Nat.reduceSub,Int.reduceAdd,Int.reduceSub,Int.reduceToNat]
   rw [show 13 - k=(12 - k)+1 from by omega,rm] at hkR
   have e0:(k:Int).toNat=k:=zO
   simp only [z8,hw0,e0] at hkR
   split<;>rename_i h4<;>(try simp only [zR] at h4)<;>simp (disch:=omega) only [go_sem,Nat.reduceEqDiff,Nat.reduceAdd,Nat.reduceSub,Int.reduceAdd,Int.reduceSub,Int.reduceToNat,h4]<;>(try simp only [zQ] at h4)<;>try simp (disch:=omega) only [go_sem,Nat.reduceEqDiff,Nat.reduceAdd,Nat.reduceSub,Int.reduceAdd,Int.reduceSub,Int.reduceToNat]
   ·have h4':¬ w=actTab.getD k []:=by rw [hw];exact h4
    rw [decide_eq_false h4',R0,if_neg zP] at hkR
    refine⟨qC,hN _ (k+1) (qI 0 2) (by (try dsimp only);exact⟨zO,zO,by rw [show 13 - (k+1)=12 - k from by omega];exact hkR⟩) (by (try dsimp only);omega) (ay zF zF ?_)⟩
    try simp (disch:=omega) only [go_sem,Nat.reduceEqDiff,Nat.reduceAdd,Nat.reduceSub,Int.reduceAdd,Int.reduceSub,Int.reduceToNat]
   have h4':w=actTab.getD k []:=by rw [hw];exact h4
   rw [decide_eq_true h4',R6] at hkR
   have hF:=uc k zO (p.drop 1) zS hd
   have hwf:=OS (k:=k) (p:=p.drop 1) zO hd
   rw [List.length_drop] at hF
   generalize rdF (k:Int) (p.drop 1)=u at hF hwf hkR
   obtain⟨u,fine⟩:=u
   dsimp only at hF hwf hkR
   have hAL:=Bk u hwf
   have hSP:=mm (aO u) p zO zO
   refine ah (qC) hF [some (1,some 1)] (by simp only [go_sem,Rt];repeat' first|rfl|constructor) zF (aa 400 ?_)
   cases fine with
   |false=>
    rw [R0,if_neg zP] at hkR
    try simp (disch:=omega) only [go_sem,Nat.reduceEqDiff,Nat.reduceAdd,Nat.reduceSub,Int.reduceAdd,Int.reduceSub,Int.reduceToNat]
    refine⟨qC,hN _ (k+1) (qI 0 2) (by (try dsimp only);exact⟨zO,zO,by rw [show 13 - (k+1)=12 - k from by omega];exact hkR⟩) (by (try dsimp only);omega) (ay zF zF ?_)⟩
    try simp (disch:=omega) only [go_sem,Nat.reduceEqDiff,Nat.reduceAdd,Nat.reduceSub,Int.reduceAdd,Int.reduceSub,Int.reduceToNat]
   |true=>
    rw [R6] at hkR
    try simp (disch:=omega) only [go_sem,Nat.reduceEqDiff,Nat.reduceAdd,Nat.reduceSub,Int.reduceAdd,Int.reduceSub,Int.reduceToNat]
    refine kP hG (qC) hAL (by simp only [go_sem];repeat' first|rfl|constructor) (aa 400 ?_)
    try simp (disch:=omega) only [go_sem,Nat.reduceEqDiff,Nat.reduceAdd,Nat.reduceSub,Int.reduceAdd,Int.reduceSub,Int.reduceToNat]
    refine ah (qC) (hSP) (qI 1 1) qM zF (aa 400 ?_)
    simp (disch:=omega) only [go_sem,Nat.reduceEqDiff,Nat.reduceAdd,Nat.reduceSub,Int.reduceAdd,Int.reduceSub,Int.reduceToNat]
    split<;>rename_i h6<;>(try simp only [zR] at h6)<;>simp (disch:=omega) only [go_sem,Nat.reduceEqDiff,Nat.reduceAdd,Nat.reduceSub,Int.reduceAdd,Int.reduceSub,Int.reduceToNat,h6]<;>(try simp only [zQ] at h6)<;>try simp (disch:=omega) only [go_sem,Nat.reduceEqDiff,Nat.reduceAdd,Nat.reduceSub,Int.reduceAdd,Int.reduceSub,Int.reduceToNat]
    ·rw [if_pos h6] at hkR
     subst hkR
     refine ai [] (qC) _ (by simp only [go_sem];rfl) zF zF ?_
     simp (disch:=omega) only [go_sem,Nat.reduceEqDiff,Nat.reduceAdd,Nat.reduceSub,Int.reduceAdd,Int.reduceSub,Int.reduceToNat]
    rw [if_neg (by simp [h6])] at hkR
    refine⟨qC,hN _ (k+1) (qI 0 2) (by (try dsimp only);exact⟨zO,zO,by rw [show 13 - (k+1)=12 - k from by omega];exact hkR⟩) (by (try dsimp only);omega) (ay zF zF ?_)⟩
    try simp (disch:=omega) only [go_sem,Nat.reduceEqDiff,Nat.reduceAdd,Nat.reduceSub,Int.reduceAdd,Int.reduceSub,Int.reduceToNat]
  obtain rfl:k=13:=zO
  have e:R=(gJ,false):=hkR.symm
  subst e
  refine ai [] (qC) _ (by simp only [go_sem];rfl) zF zF ?_
  simp (disch:=omega) only [go_sem,Nat.reduceEqDiff,Nat.reduceAdd,Nat.reduceSub,Int.reduceAdd,Int.reduceSub,Int.reduceToNat]
  simp [gJ,ae,ac]
theorem m7 (t:List UInt8) (ht:t.length<=1048576):mY Tryz.prog 0 actTab 9 [.sc (.st t)] [] (.tu [.sc (.sl 0 0 (jO t).1.length),.sc (.int .i64 (jO t).2)]) [some ⟨(jO t).1.map aM,1,9,true,true⟩]:=by
 obtain⟨R,hR⟩:∃ R,R=cU 0 (eU 10 t) ⟨0,0⟩ false []:=⟨_,rfl⟩
 have hres:R.1=0->ScrOk R:=fun h=>by rw [hR] at h⊢;exact Nk h
 have hbd:0<=R.1/\R.1<=6003\/6000 < t.length:=by
  by_cases h:6000 < t.length
  ·exact .inr h
  have:=Lq t
  have:= @q7 (eU 10 t) 0 ⟨0,0⟩ false []
  rw [<-hR] at this
  exact .inl zO
 obtain⟨U,hU⟩:∃ U,U=jO t:=⟨_,rfl⟩
 have u1:6000 < t.length->U=([],-1):=fun h=>by rw [hU,jO,if_pos h]
 have u2:¬ 6000 < t.length->¬ R.1=0->U=([],R.1):=fun h h2=>by rw [hU,jO,if_neg h,<-hR,if_pos h2]
 have u3:¬ 6000 < t.length->R.1=0->U=(aX [32] ((di R.2.1 R.2.2).2.map cr)::dt (di R.2.1 R.2.2).1,0):=fun h h2=>by rw [hU,jO,if_neg h,<-hR,if_neg (by simp [h2])]
 rw [<-hU]
 clear hU
 have hcl:=Lq t
 have hC:=tQ t zO
 refine q_ func9 (by kernel_rfl) rfl fun E hG hE=>aa 400 ?_
 simp (disch:=omega) only [ntmps9,results9,go_sem]
 by_cases h6:6000 < t.length
 ·rw [u1 h6]
  refine qX ?_
  exact qF [none]
 generalize eU 10 t=Ls at hC hR hcl
 refine qX ?_
 refine qK (hC) [] ?_
 refine kw 0 hE (fun s (y:Nat×PolicyD×Bool×List ActD)=>s.at (qU [0,1,2,2,8,6,19,5,27,52]) [(6,.sc (.bo y.2.2.1)),(7,.sc (.sl 2 0 y.2.2.2.length)),(26,.sc (.int .i64 (y.1:Nat)))] ([some ⟨Ls.map aM,1,9,true,true⟩,some ⟨[PolicyD.cs y.2.1],2,25,true,false⟩,some ⟨y.2.2.2.map ActD.cs,28,38,true,true⟩])) (fun (y:Nat×PolicyD×Bool×List ActD)=>y.1<=Ls.length/\y.2.2.2.length<=120/\cU y.1 (Ls.drop y.1) y.2.1 y.2.2.1 y.2.2.2=R) (fun (y:Nat×PolicyD×Bool×List ActD)=>Ls.length - y.1) (0,⟨0,0⟩,false,[]) (qI 0 2++qO 1) (⟨RJ _,RJ _,hR.symm⟩) fun y hy N hN=>?_
 obtain⟨k,p,b,aU⟩:=y
 obtain⟨f1,f2,f4⟩:=hy
 dsimp only at f1 f2 f4
 refine qR ?_
 refine qB (fun h=>?_) fun h=>?_
 ·rw [Fn h] at f4
  have hg:=gG h
  generalize hl:Ls[k]=l at*
  have hP:=jb l
  have hcl:=k_ l
  have htot:=jy l
  have hsk:=Nl (l:=l)
  have hQ:=tW l
  have hA:=Bl l
  skip
  generalize gK l=pr at hQ f4
  generalize eE l=ar at hA f4
  generalize kJ l=sk at hsk f4
  generalize bm l=pp at hP hcl htot hsk
  obtain⟨ps,ok⟩:=pp
  obtain⟨q,qr⟩:=pr
  obtain⟨a,af⟩:=ar
  dsimp only at hP hcl htot hsk hQ hA f4
  try simp (disch:=omega) only [go_sem,seval,hl]
  refine qK (hP) [] ?_
  cases ok with
  |false=>
   simp only [R0] at hsk
   subst hsk
   refine qX ?_
   rw [if_neg zP] at f4
   cases b with
   |false=>
    rw [if_pos rfl] at f4
    try simp (disch:=omega) only [go_sem,seval,hl]
    refine qK (hQ) [] ?_
    cases qr with
    |true=>
     rw [if_pos rfl] at f4
     refine qX ?_
     exact qN hN (k+1,q,true,aU) (qI 0 3) (by (try dsimp only);exact⟨zO,f2,f4⟩)
    |false=>
     rw [if_neg zP] at f4
     have hz:R.1=(k:Int)+1:=by rw [<-f4]
     rw [u2 h6 zO,hz]
     refine qX ?_
     exact qF [none]
   |true=>
    rw [if_neg zP] at f4
    try simp (disch:=omega) only [go_sem,seval,hl]
    refine kP hG (qC) hA (by simp only [go_sem];repeat' first|rfl|constructor) (aa 400 ?_)
    refine qX ?_
    cases af with
    |true=>
     by_cases h120:aU.length < 120
     ·rw [if_pos ⟨rfl,h120⟩] at f4
      refine qX ?_
      refine Bo hN (k+1,p,true,aU++[a]) (qI 0 2++qI 6 1) (by (try dsimp only);exact⟨zO,by simp;omega,f4⟩) ?_
      first|exact⟨⟩|simp [ActD.cs]
     rw [if_neg (by simp [h120])] at f4
     have hz:R.1=(k:Int)+1:=by rw [<-f4]
     rw [u2 h6 zO,hz]
     refine qX ?_
     exact qF [none]
    |false=>
     rw [if_neg zP] at f4
     have hz:R.1=(k:Int)+1:=by rw [<-f4]
     rw [u2 h6 zO,hz]
     refine qX ?_
     exact qF [none]
  |true=>
   cases ps with
   |nil=>
    simp only [RG,beq_self_eq_true,Bool.true_or,Bool.and_self] at hsk
    subst hsk
    rw [if_pos rfl] at f4
    refine qX ?_
    exact qN hN (k+1,p,b,aU) (qI 0 3) (by (try dsimp only);exact⟨zO,f2,f4⟩)
   |cons s r=>
    obtain⟨c,s,rfl⟩:∃ c s',s=c::s':=by
     cases s with
     |nil=>exact absurd rfl (hcl [] (Rx ..)).1
     |cons c s'=>exact⟨c,s',rfl⟩
    by_cases h35:c=35
    ·subst h35
     have hsk:sk=true:=by rw [hsk];simp [wY]
     subst hsk
     rw [if_pos rfl] at f4
     refine qX ?_
     exact qN hN (k+1,p,b,aU) (qI 0 3) (by (try dsimp only);exact⟨zO,f2,f4⟩)
    have hc35:¬ ((c.toNat:Nat):Int)=35:=fun e=>h35 (UInt8.toNat_inj.1 (by show c.toNat=35;omega))
    have hsk:sk=false:=by rw [hsk];simp [wY,h35]
    subst hsk
    refine qX ?_
    rw [if_neg zP] at f4
    cases b with
    |false=>
     rw [if_pos rfl] at f4
     try simp (disch:=omega) only [go_sem,seval,hl]
     refine qK (hQ) [] ?_
     cases qr with
     |true=>
      rw [if_pos rfl] at f4
      refine qX ?_
      exact qN hN (k+1,q,true,aU) (qI 0 3) (by (try dsimp only);exact⟨zO,f2,f4⟩)
     |false=>
      rw [if_neg zP] at f4
      have hz:R.1=(k:Int)+1:=by rw [<-f4]
      rw [u2 h6 zO,hz]
      refine qX ?_
      exact qF [none]
    |true=>
     rw [if_neg zP] at f4
     try simp (disch:=omega) only [go_sem,seval,hl]
     refine kP hG (qC) hA (by simp only [go_sem];repeat' first|rfl|constructor) (aa 400 ?_)
     refine qX ?_
     cases af with
     |true=>
      by_cases h120:aU.length < 120
      ·rw [if_pos ⟨rfl,h120⟩] at f4
       refine qX ?_
       refine Bo hN (k+1,p,true,aU++[a]) (qI 0 2++qI 6 1) (by (try dsimp only);exact⟨zO,by simp;omega,f4⟩) ?_
       first|exact⟨⟩|simp [ActD.cs]
      rw [if_neg (by simp [h120])] at f4
      have hz:R.1=(k:Int)+1:=by rw [<-f4]
      rw [u2 h6 zO,hz]
      refine qX ?_
      exact qF [none]
     |false=>
      rw [if_neg zP] at f4
      have hz:R.1=(k:Int)+1:=by rw [<-f4]
      rw [u2 h6 zO,hz]
      refine qX ?_
      exact qF [none]
 rw [Iq zO] at f4
 cases b with
 |false=>
  have hz:R.1=(k:Int)+1:=by rw [<-f4];rfl
  have hk:k=Ls.length:=zO
  subst hk
  rw [u2 h6 zO,hz]
  refine qX ?_
  exact qF [none]
 |true=>
  have hz:R.1=0:=by rw [<-f4];rfl
  have ho:=hres hz
  have e1:R.2=(p,aU):=by rw [<-f4]
  rw [u3 h6 hz]
  rw [e1]
  dsimp only
  have oa:=ho.a
  have op:=ho.p
  rw [e1] at oa op
  dsimp only at oa op
  clear ho u1 u2 u3 hres hbd
  have hL:=wW p aU zO fun a ha=>(fR (oa a ha)).2
  obtain⟨g,hlw,hwa,hwb⟩:=zt op f2 fun a ha=>fR (oa a ha)
  have hcodes:(di p aU).2.length<=120:=(zu p aU fun a ha=>(fR (oa a ha)).2).2
  have hcb:=q9 (p:=p) (l:=aU)
  obtain⟨V,hV⟩:∃ V,V=di p aU:=⟨_,rfl⟩
  rw [<-hV] at hL g hlw hwa hwb hcodes hcb⊢
  clear hV
  obtain⟨w,cs⟩:=V
  dsimp only at hL g hlw hwa hwb hcodes hcb⊢
  have hs:=g.s
  have hW:=kI w hwa hwb hlw.bag hs.bag hs.a.subs hs.a.own hs.a.far hs.b.subs hs.b.own hs.b.far
  refine qX ?_
  refine qK (hL) (qI 2 1) ?_
  have jl:=nO hcb hcodes
  have hJ:=jZ [32] (cs.map cr) (by rw [RM];omega) zO
  refine kw 0 hE (fun s (x:Nat)=>s.at (qU [0,1,4,10,15,1,18,72,93,9]) [(16,.sc (.sl 26 0 x)),(92,.sc (.int .i64 (x:Nat)))] (s.hp++[some ⟨((cs.take x).map cr).map aM,1,9,true,true⟩])) (fun (x:Nat)=>x<=cs.length) (fun (x:Nat)=>cs.length - x) 0 (qI 0 26++qO 1) (RJ _) fun x hx N2 hN2=>?_
  have hx:=hx
  refine qR ?_
  by_cases h8:x < cs.length
  ·have hcj:=hcb cs[x] (RD h8)
   have hd:=aK cs[x] (dj zO)
   have ht:=RE h8
   have hlt:(List.take x cs).length=x:=by rw [RP];omega
   generalize hv:cs[x]=v at*
   try simp (disch:=omega) only [go_sem,seval,hv,bt h8]
   refine ah (by (try simp (disch:=omega) only [go_sem,RS,seval,hv])<;>omega) (hd) [] qM zF (aa 400 ?_)
   simp (disch:=omega) only [go_sem,seval]
   refine⟨qC,hN2 _ (x+1) (qI 0 26++qI 28 1) (by (try dsimp only);exact h8) (by (try dsimp only);omega) (ay zF zF ?_)⟩
   try simp (disch:=omega) only [go_sem,seval,ht]
   try simp [aM,ht]
  obtain rfl:x=cs.length:=zO
  rw [RX]
  have wl:=mO w
  have wa:=fL w.a
  have wb:=fL w.b
  have k1:=hs.a.subs
  have k2:=hs.a.own
  have k3:=hs.a.far
  have k4:=hs.b.subs
  have k5:=hs.b.own
  have k6:=hs.b.far
  rw [RM] at hJ
  refine qX ?_
  refine aQ [(2,4)] [[0,3,1,2,4,5,6,7],[0,3,1,4,2,5,6,7]] (by kernel_rfl) (qC) (by kernel_rfl) ?_
  simp only [a_]
  refine⟨ab 400 ?_,ab 400 ?_⟩
  all_goals simp (disch:=omega) only [go_sem,seval]
  all_goals
   refine b_ (hJ) (qI 26 1) ?_
   refine b_ (hW) (qI 3 21) ?_
   refine qG ?_
   refine qP (qI 29 1) ?_
   first|exact⟨⟩|omega
theorem x_ (b:List UInt8) (hb:b.length<=1048576):∃ (p:PolicyD) (l:List ActD),p∈pols/\l.length<=120/\(∀ a∈l,G7 a)/\aP 6 [.sc (.sl 0 0 b.length)] [some ⟨b.map ec,1,5,false,true⟩] (.tu [.ag p.cs,.sc (.sl 1 0 l.length)]) ([some ⟨b.map ec,1,5,false,true⟩]++[some ⟨l.map ActD.cs,28,38,true,true⟩]):=by
 obtain⟨p,c1,o1,hp,h1⟩:=wP b (wO b) (Id hb)
 obtain⟨l,c2,o2,hl,ha,h2⟩:=Bn b c1 o1 70 zO
 refine⟨p,l,hp,hl,ha,?_⟩
 refine qE func6 ntmps6 results6 fun E hE=>?_
 refine qK (CQ b hb) (qI 0 1) ?_
 refine qK (h1) (qI 0 1++qI 2 1) ?_
 refine ys [(0,2)] [[1,0,2,3,4],[1,2,0,3,4]] (by kernel_rfl) (qC) (by kernel_rfl) ?_
 simp only [a_]
 refine⟨fm 400 ?_,fm 400 ?_⟩
 all_goals simp (disch:=omega) only [go_sem,seval]
 all_goals
  refine ng (qC) (h2) (qI 0 1++qI 2 1) qM zF (fm 400 ?_)
  simp (disch:=omega) only [go_sem,seval]
  refine qG ?_
  exact qF (qI 0 1++qI 4 1)
theorem FR {y s:List UInt8} {l:List (List UInt8)} (h:l≠[]):aX y (l++[s])=aX y l++(y++s):=by
 cases l with
 |nil=>exact absurd rfl h
 |cons a r=>rw [List.cons_append,f_,f_,List.flatMap_append];simp
theorem I4 {cs:List Int} (z:Nat) (h:z < cs.length):aX [32] ((cs.take (z+1)).map cr)=if z=0 then cr cs[z] else aX [32] ((cs.take z).map cr)++[32]++cr cs[z]:=by
 rw [RE h,List.map_append]
 split
 ·rename_i h0
  subst h0
  simp [f_]
 rename_i h0
 rw [R2,FR,RU]
 intro e
 have:=congrArg List.length e
 rw [RM,RP,RG] at this
 omega
theorem DN (b:List UInt8) (hb:b.length<=maxLen) (_:∀ x∈b,True):mY Tryz.prog 0 actTab 3 [.sc (.sl 0 0 b.length)] [some ⟨b.map ec,1,5,false,true⟩] (.sc (.bo true)) [some ⟨b.map ec,1,5,false,true⟩]:=by
 refine q_ func3 (by kernel_rfl) rfl fun E hG hE=>aa 400 ?_
 simp (disch:=omega) only [ntmps3,results3,go_sem]
 refine ah (qC) (LD b hb) (qI 0 1) qM zF (aa 400 ?_)
 simp (disch:=omega) only [go_sem,seval]
 split<;>rename_i h<;>(try simp only [zR] at h)<;>simp (disch:=omega) only [go_sem,seval,h]<;>(try simp only [zQ] at h)<;>try simp (disch:=omega) only [go_sem,seval]
 ·refine ai (qI 0 1) (qC) _ (by simp only [go_sem];rfl) zF zF ?_
  simp (disch:=omega) only [go_sem,seval]
 obtain⟨p,l,hp,hl,ha,hD⟩:=x_ b zO
 have hpo:polOk p=true:=List.all_eq_true.1 (show (pols.all polOk)=true by decide) p hp
 have hPL:=tV p (Nu p hp)
 have n0:=Lt (p:=p)
 have n1:=DM p
 refine ah (qC) (hD) (qI 0 1) qM zF (aa 400 ?_)
 simp (disch:=omega) only [go_sem,seval]
 refine ah (qC) (hPL) [] qM zF (aa 400 ?_)
 simp (disch:=omega) only [go_sem,seval]
 refine ee 1 hE (fun s (y:Nat)=>s.at (qU [0,1,8,1,19,40]) [(5,.sc (.st (lX p (told (l.take y))))),(6,.sc (.sl 3 0 (told (l.take y)).length)),(7,.sc (.int .i64 (y:Nat)))] ((s.hp.take 3)++[some ⟨(told (l.take y)).map ActD.cs,28,38,true,true⟩])) (fun (y:Nat)=>y<=l.length/\y<=12) (fun (y:Nat)=>12 - y) 0 (qI 0 4) (qC) (⟨RJ _,RJ _⟩) (ay zF zF ?_) fun y hy N hN=>?_
 ·try simp (disch:=omega) only [go_sem,seval,n0]
  try simp [told,n0]
 obtain⟨f1,f2⟩:=hy
 have tg:=IZ (l:=l.take y)
 have tl:=Lr l y
 have st:=wZ hpo tg zO
 refine aa 400 ?_
 try simp (disch:=omega) only [go_sem,seval]
 by_cases hgo:y < l.length/\y < 12
 ·obtain⟨h9,h12⟩:=hgo
  have hak:=ha l[y] (RD h9)
  have hAL:=Bi l[y] hak.1
  have e1:=OO h9
  have e0:=OP h9
  have al:=DL l[y]
  have an:=Dy (a:=l[y])
  have hst:=I0 (p:=p) (l:=told (l.take y)) (a:=l[y])
  generalize hx:l[y]=x at*
  try simp (disch:=omega) only [go_sem,seval,hx,bt h9]
  refine ah (by (try simp (disch:=omega) only [go_sem,RS,seval,hx])<;>omega) (hAL) [] qM zF (aa 400 ?_)
  simp (disch:=omega) only [go_sem,seval]
  cases hgx:actGood x with
  |true=>
   have e:=e1 hgx
   have hne:(aO x == [])=false:=beq_eq_false_iff_ne.2 fun e=>by rw [an.1 e] at hgx;cases hgx
   try simp (disch:=omega) only [go_sem,seval,hne]
   refine⟨qC,hN _ (y+1) (qI 0 3++qI 5 1) (by (try dsimp only);exact⟨zO,zO⟩) (by (try dsimp only);omega) (ay zF zF ?_)⟩
   try simp (disch:=omega) only [go_sem,seval,e,hst]
   try simp [ActD.cs,hx]
  |false=>
   have e:=e0 hgx
   have hnil:aO x=[]:=an.2 hgx
   try simp (disch:=omega) only [go_sem,seval,hnil]
   refine⟨qC,hN _ (y+1) (qI 0 4) (by (try dsimp only);exact⟨zO,zO⟩) (by (try dsimp only);omega) (ay zF zF ?_)⟩
   try simp (disch:=omega) only [go_sem,seval,e]
 have hr1:=m7 (lX p (told (l.take y))) zO
 have hr2:=m7 (lX p (told (l.take y))++mP) (by rw [RF];simp only [mP,Ru,RG];omega)
 rw [OL hpo tg zO] at hr1
 rw [M7 hpo tg zO] at hr2
 have hL:=wW p (told (l.take y)) zO fun a h=>(fR (tg a h)).2
 obtain⟨g,hlw,hwa,hwb⟩:=zt hpo zO fun a h=>fR (tg a h)
 have hcb:=q9 (p:=p) (l:=told (l.take y))
 have hcn:(di p (told (l.take y))).2.length<=120:=(zu p _ fun a h=>(fR (tg a h)).2).2
 generalize told (l.take y)=T at*
 obtain⟨V,hV⟩:∃ V,V=di p T:=⟨_,rfl⟩
 rw [<-hV] at hL g hlw hwa hwb hcb hcn hr1
 clear hV
 obtain⟨w,cs⟩:=V
 dsimp only at hL g hlw hwa hwb hcb hcn hr1 hr2
 have hs:=g.s
 have hW:=kI w hwa hwb hlw.bag hs.bag hs.a.subs hs.a.own hs.a.far hs.b.subs hs.b.own hs.b.far
 have jl:=nO hcb hcn
 have lb:(dt w).length<=8000000:=by
  have wl:=mO w
  have wa:=fL w.a
  have wb:=fL w.b
  have k1:=hs.a.subs
  have k2:=hs.a.own
  have k3:=hs.a.far
  have k4:=hs.b.subs
  have k5:=hs.b.own
  have k6:=hs.b.far
  omega
 have hjn:= @I4 cs
 generalize hJ:aX [32] (cs.map cr)=J at hr1 jl
 generalize dt w=Ls at hr1 hW lb
 generalize lX p T=X at*
 simp only [mP] at hr2
 have hor:¬ y < l.length\/(y < l.length/\¬ y < 12):=zO
 clear hlw hwa hwb g hs
 rcases hor with h9|⟨h9,h12⟩
 all_goals
  try simp (disch:=omega) only [go_sem,seval]
  refine kP hG (qC) hr1 (by simp only [go_sem];repeat' first|rfl|constructor) (aa 400 ?_)
  try simp (disch:=omega) only [go_sem,seval]
  refine ah (qC) (hL) (qI 3 1) qM zF (aa 400 ?_)
  simp (disch:=omega) only [go_sem,seval]
  refine ah (qC) (hW) (qI 5 21) qM zF (aa 400 ?_)
  simp (disch:=omega) only [go_sem,seval]
  refine kP hG (qC) hr2 (by simp only [go_sem];repeat' first|rfl|constructor) (aa 400 ?_)
  try simp (disch:=omega) only [go_sem,seval]
  refine ee 1 hE (fun s (x:Nat)=>s.at (qU [0,1,2,7,10,2,14,2,19,94]) [(16,.sc (.int .i64 (x:Nat)))] (s.hp)) (fun (x:Nat)=>x<=Ls.length) (fun (x:Nat)=>Ls.length - x) 0 (qI 0 30) (qC) (RJ _) (ay zF zF ?_) fun x hx N2 hN2=>?_
  ·try simp (disch:=omega) only [go_sem,seval]
  have hx:=hx
  refine aa 400 ?_
  try simp (disch:=omega) only [go_sem,seval]
  by_cases h8:x < Ls.length
  ·have hg:=gG h8
   generalize hv:Ls[x]=v at*
   try simp (disch:=omega) only [go_sem,seval,hv,hg]
   refine ak (qU [0,10]) (by kernel_rfl) (qC) (by kernel_rfl) (ab 400 ?_)
   simp (disch:=omega) only [go_sem,seval]
   refine⟨qC,aa 400 ?_⟩
   try simp (disch:=omega) only [go_sem,seval,hv,hg]
   refine⟨qC,hN2 _ (x+1) (qI 0 30) (by (try dsimp only);exact by omega) (by (try dsimp only);omega) (ay zF zF ?_)⟩
   try simp (disch:=omega) only [go_sem,seval]
  obtain rfl:x=Ls.length:=zO
  try simp (disch:=omega) only [go_sem,seval]
  refine ee 1 hE (fun s (z:Nat)=>s.at (qU [0,1,3,6,10,2,13,4,19,111]) [(17,.sc (.st (aX [32] ((cs.take z).map cr)))),(18,.sc (.int .i64 (z:Nat)))] (s.hp)) (fun (z:Nat)=>z<=cs.length) (fun (z:Nat)=>cs.length - z) 0 (qI 0 30) (qC) (RJ _) (ay zF zF ?_) fun z hz N hN=>?_
  ·try simp (disch:=omega) only [go_sem,seval]
   try rfl
  have hz:=hz
  refine aa 400 ?_
  try simp (disch:=omega) only [go_sem,seval]
  by_cases h7:z < cs.length
  ·have hcj:=hcb cs[z] (RD h7)
   have hd:=aK cs[z] (dj zO)
   have hst:=hjn z h7
   have jz:=nO (cs:=cs.take z) (fun c hc=>hcb c (List.mem_of_mem_take hc)) (by rw [RP];omega)
   have dz:=nO (cs:=[cs[z]]) (fun c hc=>by rw [RH.1 hc];exact hcj) zP
   rw [R2,f_,RV,RR] at dz
   generalize hq:cs[z]=q at*
   by_cases h0:z=0
   ·subst h0
    rw [if_pos rfl] at hst
    have j0:(aX [32] ([]:List (List UInt8))).length=0:=rfl
    try simp (disch:=omega) only [go_sem,seval,hq,bt h7]
    refine ah (by (try simp (disch:=omega) only [go_sem,RS,seval,hq])<;>omega) (hd) [] qM zF (aa 400 ?_)
    simp (disch:=omega) only [go_sem,seval]
    refine⟨qC,hN _ (0+1) (qI 0 30) (by (try dsimp only);exact by omega) (by (try dsimp only);omega) (ay zF zF ?_)⟩
    try simp (disch:=omega) only [go_sem,seval,hst]
    try rfl
   rw [if_neg h0] at hst
   try simp (disch:=omega) only [go_sem,seval,hq,bt h7]
   refine ah (by (try simp (disch:=omega) only [go_sem,RS,seval,hq])<;>omega) (hd) [] qM zF (aa 400 ?_)
   simp (disch:=omega) only [go_sem,seval]
   refine⟨qC,hN _ (z+1) (qI 0 30) (by (try dsimp only);exact by omega) (by (try dsimp only);omega) (ay zF zF ?_)⟩
   try simp (disch:=omega) only [go_sem,seval,hst]
  obtain rfl:z=cs.length:=zO
  rw [RX,hJ]
  try simp (disch:=omega) only [go_sem,seval]
  refine ai (qI 0 1) (qC) _ (by simp only [go_sem];rfl) zF zF ?_
  simp (disch:=omega) only [go_sem,seval]
end
end Go.Proofs.YtdiiopjaebnmfaaGreatDoor
