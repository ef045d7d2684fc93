/- Lemmas of this claim. -/
import Derived.Test.YteknmpdmhiomgaaGreatZFnCalmE
set_option maxHeartbeats 16000000
set_option maxRecDepth 100000
set_option linter.unusedVariables false
set_option linter.unusedSimpArgs false
namespace Go.Proofs.YteknmpdmhiomgaaGreat
open _root_.Go.Proofs.Tryz
open _root_.Int renaming eq_ofNat_of_zero_le->RP
open _root_.Bool renaming and_eq_true->RQ,not_true->RY
open _root_.List renaming map_set->RR,getElem?_eq_getElem->RS,mem_cons_of_mem->RT,mem_cons_self->RU,length_singleton->RV,length_append->RW,mem_reverse->RX
section
open Go.RowKit
def Px (a:EndD) (y:LetterD):EndD:=(br a y).1
theorem O2 {a b:EndD} (h:b.own.length=0):mq a b=(a,b,false):=if_pos h
theorem O3 {a b:EndD} {h:AddrD} {x:EndD} {L:List LetterD} (hn:¬ b.own.length=0) (hb:b.own.getD 0 default=h) (ho:ju a h.addr=(x,L)):mq a b=((mo x L b).1,(mo x L b).2,vm (mo x L b).1 (mo x L b).2):=by
 rw [mq,if_neg hn,hb,ho]
theorem Jc (a:EndD) (n:Int):(ju a n).2.length<=1:=by rw [ju];split<;>simp
theorem DH {a:EndD} {n:Int} (hs:Small a):Small (ju a n).1:=by
 rw [ju];split
 ·rename_i h
  simp only [wJ,RQ,decide_eq_true_eq] at h
  exact⟨hs.own,hs.far,by simp only [RW,RV];omega,hs.halfs,hs.list,hs.done,hs.over⟩
 exact hs
theorem DI {e:EndD} {x:LetterD} (hs:Small e):Small (aI e x).1:=by
 rw [aI];split
 ·rename_i h
  simp only [iy,RQ,decide_eq_true_eq] at h
  exact⟨hs.own,by simp [e_],by simp only [RW,RV];omega,hs.halfs,hs.list,hs.done,hs.over⟩
 exact hs
theorem FU {e:EndD} {x:LetterD} (hs:Small e):Small (br e x).1:=by
 rw [br];split
 ·exact⟨hs.own,by simp [e_],by simpa only [List.length_set] using hs.subs,hs.halfs,hs.list,hs.done,hs.over⟩
 exact hs
theorem Jd {e:EndD} {x:LetterD}:(aI e x).2.length<=1:=by rw [aI];split<;>simp
theorem FV {x:EndD} {l:List LetterD} {k:Nat} (h:k < l.length):(l.drop k).foldl Px x=(l.drop (k+1)).foldl Px (br x l[k]).1:=by
 rw [List.drop_eq_getElem_cons h];rfl
theorem Je {x:EndD} {l:List LetterD} {k:Nat} (h:l.length<=k):(l.drop k).foldl Px x=x:=by
 rw [List.drop_eq_nil_of_le h];rfl
theorem FW (x:EndD) (l:LetterD) (b:EndD):mo x [l] b=((aI b l).2.foldl Px x,(aI b l).1):=rfl
theorem Ll {x b y X Y:EndD} {L bk:List LetterD} {k:Nat} (hXY:mo x L b=(X,Y)) (hL:L.length<=1) (hk:L.length<=k) (f1:k<=L.length) (f4:(k=0/\y=b/\bk=[])\/(k=1/\L.length=1/\∀ h:0 < L.length,(y,bk)=aI b L[0])):bk.foldl Px x=X/\y=Y:=by
 refine f4.elim (fun h=>?_) (fun h=>?_)
 ·have:L=[]:=List.eq_nil_of_length_eq_zero (by have:=h.1;omega)
  subst this
  rw [h.2.1,h.2.2]
  exact⟨congrArg Prod.fst hXY,congrArg Prod.snd hXY⟩
 have hl:=List.length_eq_one_iff.1 h.2.1
 refine hl.elim fun l hl=>?_
 subst hl
 have h2:=h.2.2 zP
 simp only [List.getElem_cons_zero] at h2
 rw [FW,<-h2] at hXY
 exact⟨congrArg Prod.fst hXY,congrArg Prod.snd hXY⟩
theorem FX (x y:EndD):(x.state≠2/\vm x y=false)\/(x.state=2/\y.state≠2/\vm x y=false)\/(x.state=2/\y.state=2/\x.peer≠y.key/\vm x y=false)\/(x.state=2/\y.state=2/\x.peer=y.key/\y.peer≠x.key/\vm x y=false)\/(x.state=2/\y.state=2/\x.peer=y.key/\y.peer=x.key/\vm x y=true):=by
 by_cases h1:x.state=2
 ·by_cases h2:y.state=2
  ·by_cases h3:x.peer=y.key
   ·by_cases h4:y.peer=x.key
    ·simp [vm,h1,h2,h3,h4]
    simp [vm,h1,h2,h3,h4]
   simp [vm,h1,h2,h3]
  simp [vm,h1,h2]
 simp [vm,h1]
theorem Jf (a b:EndD) (ha:Small a) (hb:Small b):aP 76 [.ag (a.cs 0),.ag (b.cs 7)] (a.hp false++b.hp false) (.tu [.ag ((mq a b).1.cs 14),.ag ((mq a b).2.1.cs 21),.sc (.bo (mq a b).2.2)])
  (a.hp false++(b.hp false++((mq a b).1.hp true++(mq a b).2.1.hp true))):=by
 have hCa:=aA a (by have:=ha.own;omega) (by have:=ha.far;omega) (by have:=ha.subs;omega) (by have:=ha.halfs;omega) (by have:=ha.list;omega) (by have:=ha.done;omega) (by have:=ha.over;omega)
 have hCb:=aA b (by have:=hb.own;omega) (by have:=hb.far;omega) (by have:=hb.subs;omega) (by have:=hb.halfs;omega) (by have:=hb.list;omega) (by have:=hb.done;omega) (by have:=hb.over;omega)
 have h0:= @O2 a b
 have ht:= @O3 a b
 have hbo:=hb.own
 obtain⟨R,hR⟩:∃ R,R=mq a b:=⟨_,rfl⟩
 rw [<-hR] at h0 ht⊢
 clear hR
 refine jG func76 ntmps76 results76 fun E hE=>?_
 refine qB (fun h1=>?_) fun h1=>?_
 ·rw [h0 zO]
  refine qD [0,2,1,3,4,5,6] ?_
  refine aE (hCa) (qI 0 7) ?_
  refine aE (hCb) (qI 7 7) ?_
  refine qG ?_
  exact dH (qI 0 14++qI 18 14)
 obtain⟨d,hd⟩:∃ d,b.own[0]' zO=d:=⟨_,rfl⟩
 have hd2:b.own.getD 0 default=d:=by rw [<-hd,List.getD_eq_getElem?_getD,RS zO];rfl
 have hO:=Jb a d.addr ha
 have hx1:=Jc a d.addr
 have hxs:=DH (n:=d.addr) ha
 obtain⟨P,hP⟩:∃ P,P=ju a d.addr:=⟨_,rfl⟩
 rw [<-hP] at hO hx1 hxs
 obtain⟨x,L⟩:=P
 dsimp only at hO hx1 hxs
 have ht:=ht zO hd2 hP.symm
 clear hP
 obtain⟨X,Y,hXY⟩:∃ X Y,mo x L b=(X,Y):=⟨_,_,rfl⟩
 rw [hXY] at ht
 dsimp only at ht
 subst ht
 refine qX ?_
 refine bO [(6,10)] [] [(qU [0,13]),(qU [0,6,10,1,6,4,11,2])] 14 hE (fun s=>s.at (qU [21,10]) [(7,.sc (.pt 26 0 0)),(8,.sc (.sl 25 0 L.length))] (s.hp++(x.hp true++[some ⟨L.map LetterD.cs,19,73,true,true⟩,some ⟨[EndD.cs x 18],25,38,true,false⟩]))) (by kernel_rfl) (qC) (by kernel_rfl) ?_ (ae 400 ?_)
 rotate_left
 rotate_right
 simp only [bf]
 refine⟨aa 400 ?_,aa 400 ?_⟩
 ·try simp (disch:=omega) only [go_sem,seval,hd]
  refine aE (hO) (qI 0 7) ?_
  exact qZ (qI 0 27)
 ·try simp (disch:=omega) only [go_sem,seval,hd]
  refine aE (hO) (qI 0 7) ?_
  exact qZ (qI 0 18++qI 19 8++qI 18 1)
 refine qX ?_
 refine qK (hCb) (qI 7 7) ?_
 refine tx 14 hE (fun s (y:Nat×EndD×List LetterD)=>s.at (qU [0,3,13,36]) [(11,.sc (.int .i64 (y.1:Nat))),(10,.sc (.sl 35 0 y.2.2.length))] ((s.hp.take 27)++(y.2.1.hp true++[some ⟨[EndD.cs y.2.1 27],25,38,true,false⟩,some ⟨y.2.2.map LetterD.cs,19,73,true,true⟩]))) (fun (y:Nat×EndD×List LetterD)=>y.1<=L.length/\Small y.2.1/\y.2.2.length<=1/\((y.1=0/\y.2.1=b/\y.2.2=[])\/(y.1=1/\L.length=1/\∀ h:0 < L.length,y.2=aI b L[0]))) (fun (y:Nat×EndD×List LetterD)=>L.length - y.1) (0,b,[]) (qI 0 36) (⟨Nat.zero_le _,hb,zP,.inl ⟨rfl,rfl,rfl⟩⟩) fun y hy N hN=>?_
 obtain⟨k,y,bk⟩:=y
 obtain⟨f1,f2,f3,f4⟩:=hy
 dsimp only at f1 f2 f3 f4
 refine qR ?_
 refine qB (fun b1=>?_) fun b1=>?_
 ·have hgl:=aQ (enc:=LetterD.cs) b1
  obtain rfl:k=0:=zO
  have hH:=nD b L[0] hb
  have hHs:=DI (x:=L[0]) hb
  have hH1:=Jd (e:=b) (x:=L[0])
  generalize hl0:L[0]=l0 at*
  obtain⟨Q,hQ⟩:∃ Q,Q=aI b l0:=⟨_,rfl⟩
  rw [<-hQ] at hH hHs hH1
  try simp (disch:=omega) only [go_sem,seval,hl0]
  refine qD [0,1,2,3,4,5,6,7,8,9,10] ?_
  try simp (disch:=omega) only [go_sem,seval,hl0]
  refine aE (hH) (qI 7 7) ?_
  refine qG ?_
  exact M7 hN (1,Q.1,Q.2) (qI 0 27++qI 36 7++qI 34 1++qI 43 1) (by (try dsimp only);exact⟨zO,hHs,hH1,.inr ⟨rfl,zO,fun h=>by rw [hl0,<-hQ]⟩⟩)
 obtain⟨g1,g2⟩:=Ll hXY hx1 (show L.length<=k by omega) f1 f4
 subst g2
 clear f4 f1
 refine qX ?_
 refine tx 14 hE (fun s (z:Nat×EndD)=>s.at (qU [0,4,8,1,11,1,13,51]) [(12,.sc (.int .i64 (z.1:Nat)))] ((s.hp.take 18)++(z.2.hp true++(((s.hp.drop 25).take 1)++(some ⟨[EndD.cs z.2 18],25,38,true,false⟩::s.hp.drop 27))))) (fun (z:Nat×EndD)=>z.1<=bk.length/\Small z.2/\(bk.drop z.1).foldl Px z.2=X) (fun (z:Nat×EndD)=>bk.length - z.1) (0,x) (qI 0 36) (⟨Nat.zero_le _,hxs,g1⟩) fun z hz N2 hN2=>?_
 obtain⟨j,u⟩:=z
 obtain⟨q1,q2,q3⟩:=hz
 dsimp only at q1 q2 q3
 refine qR ?_
 refine qB (fun b2=>?_) fun b2=>?_
 ·have hgm:=aQ (enc:=LetterD.cs) b2
  rw [FV b2] at q3
  have hB:=pK u bk[j] q2
  have hBs:=FU (x:=bk[j]) q2
  generalize hm0:bk[j]=m at*
  obtain⟨Q,hQ⟩:∃ Q,Q=br u m:=⟨_,rfl⟩
  rw [<-hQ] at hB hBs q3
  try simp (disch:=omega) only [go_sem,seval,hm0]
  refine qD [0,1,2,3,4,5,6,7,8,9] ?_
  try simp (disch:=omega) only [go_sem,seval,hm0]
  refine aE (hB) (qI 18 7) ?_
  refine qG ?_
  exact M7 hN2 (j+1,Q.1) (qI 0 18++qI 36 7++qI 25 11) (by (try dsimp only);exact⟨zO,hBs,q3⟩)
 rw [Je zO] at q3
 subst q3
 rcases FX u y with⟨c1,hm⟩|⟨c1,c2,hm⟩|⟨c1,c2,c3,hm⟩|⟨c1,c2,c3,c4,hm⟩|⟨c1,c2,c3,c4,hm⟩
 all_goals
  rw [hm]
  refine qX ?_
  refine aH [(1,24),(19,24),(19,25),(21,24),(21,25)] [(qU [0,1,2,17,20,1,1,1,19,1,21,6]),(qU [0,1,2,17,20,1,1,1,19,1,24,1,21,3,25,2]),(qU [0,1,2,17,20,1,1,1,19,1,24,2,21,3,26,1]),(qU [0,1,2,17,20,1,1,1,21,1,24,1,19,1,22,2,25,2]),(qU [0,1,2,17,20,1,1,1,24,1,19,1,21,3,25,2]),(qU [0,1,2,17,20,1,1,1,24,1,19,1,25,1,21,3,26,1]),(qU [0,1,2,17,20,1,1,1,21,1,24,2,19,1,22,2,26,1]),(qU [0,1,2,17,20,1,1,1,24,1,21,1,25,1,19,1,22,2,26,1]),(qU [0,1,2,17,20,1,1,1,24,2,19,1,21,3,26,1]),(qU [0,1,2,17,20,1,19,1,21,4,1,1,25,2]),(qU [0,1,2,17,20,1,19,1,24,1,1,1,21,3,25,2]),(qU [0,1,2,17,20,1,19,1,24,1,1,1,25,1,21,3,26,1]),(qU [0,1,2,17,20,2,24,1,1,1,19,1,22,2,25,2]),(qU [0,1,2,17,20,1,24,1,1,1,19,1,21,3,25,2]),(qU [0,1,2,17,20,1,24,1,1,1,19,1,25,1,21,3,26,1]),(qU [0,1,2,17,20,2,24,1,1,1,25,1,19,1,22,2,26,1]),(qU [0,1,2,17,20,1,24,1,1,1,21,1,25,1,19,1,22,2,26,1]),(qU [0,1,2,17,20,1,24,1,1,1,25,1,19,1,21,3,26,1])] (by kernel_rfl) (qC) (by kernel_rfl) ?_
  simp only [bf]
  refine⟨aa 400 ?_,aa 400 ?_,aa 400 ?_,aa 400 ?_,aa 400 ?_,aa 400 ?_,aa 400 ?_,aa 400 ?_,aa 400 ?_,aa 400 ?_,aa 400 ?_,aa 400 ?_,aa 400 ?_,aa 400 ?_,aa 400 ?_,aa 400 ?_,aa 400 ?_,aa 400 ?_⟩
  all_goals simp (disch:=omega) only [go_sem,seval]
  all_goals
   refine qG ?_
   exact dH (qI 0 14++qI 18 7++qI 27 7)
theorem rV (e:EndD) (x:LetterD) (hs:Small e):aP 185 [.ag (e.cs 0),.ag x.cs] (e.hp false) (.tu [.ag ((aF e x).1.cs 7),.sc (.sl 14 0 (aF e x).2.length)])
  (e.hp false++((aF e x).1.hp true++[some ⟨(aF e x).2.map LetterD.cs,19,73,true,true⟩])):=by
 have hC:=(qH (aV e))
 have hK:=(qH (cd e))
 have hS:=fO e (roadOf x) (by have:=hs.subs;omega)
 have hL:=cu x
 have hbd:=fh e.subs (roadOf x)
 have hf:=Ns (e:=e) (x:=x)
 have ht:=fun (n:Nat)=> @Nt e x n
 generalize aF e x=R at*
 refine qE func185 ntmps185 results185 fun E hE=>?_
 refine qK (hC) (qI 0 7) ?_
 refine qD [0,1,2,3,4] ?_
 refine aE (dV x) [] ?_
 refine aE (hS) (qI 0 7) ?_
 refine qG ?_
 rcases hbd with hk|⟨hb0,hb1⟩
 ·rw [hf (Or hk),hk]
  refine qD [0,1,2,3,4,5,6,7,8,9,10,11,12,13,14,15,16,17,18,19,20,21,22,23,24,25,26,27,28,29,30,31,32,33,34,35,36,37,38,39,40,41,42,43] ?_
  refine aE (hK) (qI 0 7) ?_
  refine qB (fun h1=>?_) fun h1=>?_
  ·refine aE (hL) [] ?_
   refine qB (fun h2=>?_) fun h2=>?_
   ·refine qB (fun h3=>?_) fun h3=>?_
    ·refine qG ?_
     exact qF (qI 0 7++qI 10 7++qO 1)
    refine qG ?_
    exact qF (qI 0 7++qI 10 7++qO 1)
   refine qG ?_
   exact qF (qI 0 7++qI 10 7++qO 1)
  refine qG ?_
  exact qF (qI 0 7++qI 10 7++qO 1)
 obtain⟨n,hk⟩:=RP hb0
 have hn:n < e.subs.length:=zO
 have ha:=La hk hn
 have hcmp:=TagD.cmp x.tag ⟨1,e.peer,e.key,x.nonce,e.subs[n].mine⟩
 simp only [TagD.cs,go_sem] at hcmp
 rw [hk]
 refine qD [0,1,2,3,4,5,6,7,8,9,10,11,12,13,14,15,16,17,18,19,20,21,22,23,24,25,26,27,28,29,30,31,32,33,34,35,36,37,38,39,40,41,42,43] ?_
 refine aE (hK) (qI 0 7) ?_
 refine qB (fun h1=>?_) fun h1=>?_
 ·refine aE (hL) [] ?_
  refine qB (fun h2=>?_) fun h2=>?_
  ·refine qB (fun h3=>?_) fun h3=>?_
   ·refine qB (fun h4=>?_) fun h4=>?_
    ·refine aE (iC _ _ _ _) [] ?_
     refine⟨qC,ae 400 ?_⟩
     try simp (disch:=omega) only [go_sem,seval,hcmp]
     refine qB (fun h5=>?_) fun h5=>?_
     ·rw [hf (by rw [ha];simp [h1,h2,h3,h4,h5])]
      refine qX ?_
      exact qF (qI 0 7++qI 10 7++qO 1)
     rw [ht _ (by rw [ha];simp [h1,h2,h3,h4,h5]) hk hn]
     refine qX ?_
     refine aH [(6,7)] [(qU [0,9]),[0,1,2,3,4,5,7,6,8]] (by kernel_rfl) (qC) (by kernel_rfl) ?_
     simp only [bf]
     refine⟨aa 400 ?_,aa 400 ?_⟩
     all_goals simp (disch:=omega) only [go_sem,seval]
     all_goals
      refine aE (mW e (ed e.subs[n] x)) (qI 0 7) ?_
      refine qG ?_
      refine qP (qI 0 7++qI 10 7++qI 18 1) ?_
      first|exact⟨⟩|simp [RR,SubD.cs,ed,bq,ah,LetterD.cs]
    rw [hf (by rw [ha];simp [h1,h2,h3,h4])]
    refine qG ?_
    exact qF (qI 0 7++qI 10 7++qO 1)
   rw [hf (by rw [ha];simp [h1,h2,h3])]
   refine qG ?_
   exact qF (qI 0 7++qI 10 7++qO 1)
  rw [hf (by rw [ha];simp [h1,h2])]
  refine qG ?_
  exact qF (qI 0 7++qI 10 7++qO 1)
 rw [hf (by rw [ha];simp [h1])]
 refine qG ?_
 exact qF (qI 0 7++qI 10 7++qO 1)
theorem rW (e:EndD) (x:LetterD) (hs:Small e):aP 206 [.ag (e.cs 0),.ag x.cs] (e.hp false) (.tu [.ag ((aF e x).1.cs 7),.sc (.sl 14 0 (aF e x).2.length)])
  (e.hp false++((aF e x).1.hp true++[some ⟨(aF e x).2.map LetterD.cs,19,73,true,true⟩])):=by
 have hC:=(qH (aA e))
 have hK:=(qH (a_ e))
 have hS:=fd e (roadOf x) (by have:=hs.subs;omega)
 have hL:=dU x
 have hbd:=fh e.subs (roadOf x)
 have hf:=Ns (e:=e) (x:=x)
 have ht:=fun (n:Nat)=> @Nt e x n
 generalize aF e x=R at*
 refine qE func206 ntmps206 results206 fun E hE=>?_
 refine qK (hC) (qI 0 7) ?_
 refine qD [0,1,2,3,4] ?_
 refine aE (cZ x) [] ?_
 refine aE (hS) (qI 0 7) ?_
 refine qG ?_
 rcases hbd with hk|⟨hb0,hb1⟩
 ·rw [hf (Or hk),hk]
  refine qD [0,1,2,3,4,5,6,7,8,9,10,11,12,13,14,15,16,17,18,19,20,21,22,23,24,25,26,27,28,29,30,31,32,33,34,35,36,37,38,39,40,41,42,43] ?_
  refine aE (hK) (qI 0 7) ?_
  refine qB (fun h1=>?_) fun h1=>?_
  ·refine aE (hL) [] ?_
   refine qB (fun h2=>?_) fun h2=>?_
   ·refine qB (fun h3=>?_) fun h3=>?_
    ·refine qG ?_
     exact qF (qI 0 7++qI 10 7++qI 18 1)
    refine qG ?_
    exact qF (qI 0 7++qI 10 7++qI 18 1)
   refine qG ?_
   exact qF (qI 0 7++qI 10 7++qI 18 1)
  refine qG ?_
  exact qF (qI 0 7++qI 10 7++qI 18 1)
 obtain⟨n,hk⟩:=RP hb0
 have hn:n < e.subs.length:=zO
 have ha:=La hk hn
 have hcmp:=TagD.cmp x.tag ⟨1,e.peer,e.key,x.nonce,e.subs[n].mine⟩
 simp only [TagD.cs,go_sem] at hcmp
 rw [hk]
 refine qD [0,1,2,3,4,5,6,7,8,9,10,11,12,13,14,15,16,17,18,19,20,21,22,23,24,25,26,27,28,29,30,31,32,33,34,35,36,37,38,39,40,41,42,43] ?_
 refine aE (hK) (qI 0 7) ?_
 refine qB (fun h1=>?_) fun h1=>?_
 ·refine aE (hL) [] ?_
  refine qB (fun h2=>?_) fun h2=>?_
  ·refine qB (fun h3=>?_) fun h3=>?_
   ·refine qB (fun h4=>?_) fun h4=>?_
    ·refine aE (iE _ _ _ _) [] ?_
     refine⟨qC,ae 400 ?_⟩
     try simp (disch:=omega) only [go_sem,seval,hcmp]
     refine qB (fun h5=>?_) fun h5=>?_
     ·rw [hf (by rw [ha];simp [h1,h2,h3,h4,h5])]
      refine qX ?_
      exact qF (qI 0 7++qI 10 7++qI 18 1)
     rw [ht _ (by rw [ha];simp [h1,h2,h3,h4,h5]) hk hn]
     refine qX ?_
     refine aH [(0,10),(8,0),(9,0)] [(qU [1,9,0,1,10,3]),(qU [1,8,0,1,9,4]),(qU [1,7,0,1,8,5]),(qU [1,10,0,1,11,2])] (by kernel_rfl) (qC) (by kernel_rfl) ?_
     simp only [bf]
     refine⟨aa 400 ?_,aa 400 ?_,aa 400 ?_,aa 400 ?_⟩
     all_goals simp (disch:=omega) only [go_sem,seval]
     all_goals
      refine aE (nG { e with subs:=e.subs.set n (ed e.subs[n] x) } (ed e.subs[n] x)) (qI 10 7) ?_
      refine qG ?_
      refine qP (qI 0 7++qI 10 7++qI 20 1) ?_
      first|exact⟨⟩|simp [RR,SubD.cs,ed,bq,ah,LetterD.cs]
    rw [hf (by rw [ha];simp [h1,h2,h3,h4])]
    refine qG ?_
    exact qF (qI 0 7++qI 10 7++qI 18 1)
   rw [hf (by rw [ha];simp [h1,h2,h3])]
   refine qG ?_
   exact qF (qI 0 7++qI 10 7++qI 18 1)
  rw [hf (by rw [ha];simp [h1,h2])]
  refine qG ?_
  exact qF (qI 0 7++qI 10 7++qI 18 1)
 rw [hf (by rw [ha];simp [h1])]
 refine qG ?_
 exact qF (qI 0 7++qI 10 7++qI 18 1)
theorem y_ (e:EndD) (x:LetterD) (hs:Small e):aP 184 [.ag (e.cs 0),.ag x.cs] (e.hp false) (.tu [.ag ((bK e x).1.cs 7),.sc (.sl 14 0 (bK e x).2.length)])
  (e.hp false++((bK e x).1.hp true++[some ⟨(bK e x).2.map LetterD.cs,19,73,true,true⟩])):=by
 have hC:=(qH (aV e))
 have hK:=(qH (cd e))
 have hH:=jq e.halfs (roadOf x) (by have:=hs.halfs;omega)
 have hO:=jf e x.to (by have:=hs.own;omega)
 have hT:=BO e.bucket
 have hL:=cu x
 have hTk:=pI e.side
 have hbH:=gW e.halfs (roadOf x)
 have hf:=O0 (e:=e) (x:=x)
 have hns:=fun i=> @Nv e x i
 have hnn:= @Nw e x
 have hok:=ll.eq_1 e x
 generalize bK e x=R at*
 refine qE func184 ntmps184 results184 fun E hE=>?_
 refine qK (hC) (qI 0 7) ?_
 refine qK (dV x) [] ?_
 refine qK (hH) (qI 3 1) ?_
 rcases hbH with hi|⟨hi0,hi1⟩
 ·rw [hi]
  refine qX ?_
  refine qD [0,1,2,3,4,5,6,7,8,9,10,11,12,13,14,15,16,17,18,19,20,21,22,23,24,25,26,27,28,29,30,31,32,33,34,35,36,37,38,39,40,41,42,43,44,45,46,47,48,49,50,51,52,53] ?_
  refine aE (hK) (qI 0 7) ?_
  refine qB (fun h1=>?_) fun h1=>?_
  ·refine aE (hL) [] ?_
   refine qB (fun h2=>?_) fun h2=>?_
   ·refine qB (fun h3=>?_) fun h3=>?_
    ·refine aE (hTk) [] ?_
     refine qB (fun h4=>?_) fun h4=>?_
     ·refine aE (hO) (qI 0 7) ?_
      refine qB (fun h5=>?_) fun h5=>?_
      ·refine qB (fun h6=>?_) fun h6=>?_
       ·refine qB (fun h7=>?_) fun h7=>?_
        ·refine aE (gF e) (qI 0 7) ?_
         refine qB (fun h8=>?_) fun h8=>?_
         ·refine qG ?_
          refine qB (fun h9=>?_) fun h9=>?_
          ·rw [hf (by rw [hok];first|(simp [h1,h2,h3,h4,h5,h6,h8,h9,hi];done)|(simp [h1,h2,h3,h4,h5,h6,h8,h9,hi];intros;omega))]
           exact qF (qI 0 7++qI 10 7++qO 1)
          refine qX ?_
          refine qK (hT) [] ?_
          refine qB (fun h10=>?_) fun h10=>?_
          ·rw [hf (by rw [hok];first|(simp [h1,h2,h3,h4,h5,h6,h8,h9,h10,hi];done)|(simp [h1,h2,h3,h4,h5,h6,h8,h9,h10,hi];intros;omega))]
           exact qF (qI 0 7++qI 10 7++qO 1)
          have hnow:=j0 h1
          have hok':ll e x=true:=by rw [hok];have:=cf (bM h1);have:=dw h1;simp [h1,h2,h3,h4,h5,h6,h8,h9,h10,hi];try omega
          refine qX ?_
          have hsm:dO e x=false:=Ak hi
          refine qD [0,1,2,3,4,5,6,7,8,9,10,11,12,13,14,15,16,17,18,19,20,21,22,23] ?_
          refine qG ?_
          rw [hnn hok' hsm]
          refine qX ?_
          have hP:=mn e.halfs (aj e x) (by have:=cf (bM h1);omega)
          obtain⟨Q,hQ⟩:∃ Q,Q=aX e.halfs (aj e x):=⟨_,rfl⟩
          rw [<-hQ] at hP⊢
          have hQl:Q.1.length<=1048576:=by rw [hQ];have:=cf (bM h1);have:=dz e.halfs (aj e x);unfold aX;split<;>dsimp only<;>omega
          refine qK (iF { e with bucket:=(bl e.bucket).1 } h8) (qI 10 8) ?_
          refine qK (hP) (qI 13 1) ?_
          refine aH [(17,18)] [(qU [0,10,11,4,10,1,15,5]),(qU [0,10,11,4,10,1,15,2,18,1,17,1,19,1])] (by kernel_rfl) (qC) (by kernel_rfl) ?_
          simp only [bf]
          refine⟨aa 400 ?_,aa 400 ?_⟩
          all_goals simp (disch:=omega) only [go_sem,seval]
          all_goals
           refine aE (iC _ _ _ _) [] ?_
           refine aE (ce (roadOf x) { af with kind:=5,tag:=⟨1,e.key,e.peer,(aj e x).mine,(aj e x).theirs⟩,nonce:=(aj e x).mine,give:=(aj e x).take }) [] ?_
           refine qG ?_
           refine aK (qI 0 7++qI 10 3++qI 21 1++qI 14 3++qI 22 1) (qC) _ (by simp only [go_sem];rfl) zF zF ?_
           simp (disch:=omega) only [go_sem,seval]
           try simp [RR,HalfD.cs,cC,aj,ah,LetterD.cs,af]
           try omega
         rw [hf (by rw [hok];first|(simp [h1,h2,h3,h4,h5,h6,h8,hi];done)|(simp [h1,h2,h3,h4,h5,h6,h8,hi];intros;omega))]
         refine qG ?_
         exact qF (qI 0 7++qI 10 7++qO 1)
        rw [hf (by rw [hok];first|(simp [h1,h2,h3,h4,h5,h6,h7,hi];done)|(simp [h1,h2,h3,h4,h5,h6,h7,hi];intros;omega))]
        refine qG ?_
        exact qF (qI 0 7++qI 10 7++qO 1)
       rw [hf (by rw [hok];first|(simp [h1,h2,h3,h4,h5,h6,hi];done)|(simp [h1,h2,h3,h4,h5,h6,hi];intros;omega))]
       refine qG ?_
       exact qF (qI 0 7++qI 10 7++qO 1)
      rw [hf (by rw [hok];first|(simp [h1,h2,h3,h4,h5,hi];done)|(simp [h1,h2,h3,h4,h5,hi];intros;omega))]
      refine qG ?_
      exact qF (qI 0 7++qI 10 7++qO 1)
     rw [hf (by rw [hok];first|(simp [h1,h2,h3,h4,hi];done)|(simp [h1,h2,h3,h4,hi];intros;omega))]
     refine qG ?_
     exact qF (qI 0 7++qI 10 7++qO 1)
    rw [hf (by rw [hok];first|(simp [h1,h2,h3,hi];done)|(simp [h1,h2,h3,hi];intros;omega))]
    refine qG ?_
    exact qF (qI 0 7++qI 10 7++qO 1)
   rw [hf (by rw [hok];first|(simp [h1,h2,hi];done)|(simp [h1,h2,hi];intros;omega))]
   refine qG ?_
   exact qF (qI 0 7++qI 10 7++qO 1)
  rw [hf (by rw [hok];first|(simp [h1,hi];done)|(simp [h1,hi];intros;omega))]
  refine qG ?_
  exact qF (qI 0 7++qI 10 7++qO 1)
 obtain⟨i,hi⟩:=RP hi0
 have hil:i < e.halfs.length:=zO
 rw [hi]
 refine qX ?_
 refine qD [0,1,2,3,4,5,6,7,8,9,10,11,12,13,14,15,16,17,18,19,20,21,22,23,24,25,26,27,28,29,30,31,32,33,34,35,36,37,38,39,40,41,42,43,44,45,46,47,48,49,50,51,52,53] ?_
 refine aE (hK) (qI 0 7) ?_
 refine qB (fun h1=>?_) fun h1=>?_
 ·refine aE (hL) [] ?_
  refine qB (fun h2=>?_) fun h2=>?_
  ·refine qB (fun h3=>?_) fun h3=>?_
   ·refine aE (hTk) [] ?_
    refine qB (fun h4=>?_) fun h4=>?_
    ·refine aE (hO) (qI 0 7) ?_
     refine qB (fun h5=>?_) fun h5=>?_
     ·refine qB (fun h6=>?_) fun h6=>?_
      ·refine aE (gF e) (qI 0 7) ?_
       refine qB (fun h8=>?_) fun h8=>?_
       ·refine qG ?_
        refine qB (fun h9=>?_) fun h9=>?_
        ·rw [hf (by rw [hok];first|(simp [h1,h2,h3,h4,h5,h6,h8,h9,hi];done)|(simp [h1,h2,h3,h4,h5,h6,h8,h9,hi];intros;omega))]
         exact qF (qI 0 7++qI 10 7++qO 1)
        refine qX ?_
        refine qK (hT) [] ?_
        refine qB (fun h10=>?_) fun h10=>?_
        ·rw [hf (by rw [hok];first|(simp [h1,h2,h3,h4,h5,h6,h8,h9,h10,hi];done)|(simp [h1,h2,h3,h4,h5,h6,h8,h9,h10,hi];intros;omega))]
         exact qF (qI 0 7++qI 10 7++qO 1)
        have hnow:=j0 h1
        have hok':ll e x=true:=by rw [hok];have:=cf (bM h1);have:=dw h1;simp [h1,h2,h3,h4,h5,h6,h8,h9,h10,hi];try omega
        refine qX ?_
        refine qD [0,1,2,3,4,5,6,7,8,9,10,11,12,13,14,15,16,17,18,19,20,21,22,23] ?_
        refine qB (fun h11=>?_) fun h11=>?_
        ·refine qG ?_
         refine qB (fun h12=>?_) fun h12=>?_
         ·have hsm:dO e x=true:=by rw [j4 hi hil];simp [h11,h12]
          rw [hns _ hok' hsm hi hil]
          have hrd:=uN hi hil
          refine qX ?_
          refine aH [(17,18)] [(qU [0,10,11,4,10,1,15,5]),(qU [0,10,11,4,10,1,15,2,18,1,17,1,19,1])] (by kernel_rfl) (qC) (by kernel_rfl) ?_
          simp only [bf]
          refine⟨aa 400 ?_,aa 400 ?_⟩
          all_goals simp (disch:=omega) only [go_sem,seval]
          all_goals
           refine aE (iC _ _ _ _) [] ?_
           refine aE (ce (roadOf x) { af with kind:=5,tag:=⟨1,e.key,e.peer,(e.halfs[i]).mine,(e.halfs[i]).theirs⟩,nonce:=(e.halfs[i]).mine,give:=(e.halfs[i]).take }) [] ?_
           refine qG ?_
           refine aK (qI 0 7++qI 10 7++qI 21 1) (qC) _ (by simp only [go_sem];rfl) zF zF ?_
           simp (disch:=omega) only [go_sem,seval]
           try simp [RR,HalfD.cs,cC,aj,ah,LetterD.cs,af]
           try omega
         have hsm:dO e x=false:=by rw [j4 hi hil];simp [h11,h12]
         rw [hnn hok' hsm]
         refine qX ?_
         have hP:=mn e.halfs (aj e x) (by have:=cf (bM h1);omega)
         obtain⟨Q,hQ⟩:∃ Q,Q=aX e.halfs (aj e x):=⟨_,rfl⟩
         rw [<-hQ] at hP⊢
         have hQl:Q.1.length<=1048576:=by rw [hQ];have:=cf (bM h1);have:=dz e.halfs (aj e x);unfold aX;split<;>dsimp only<;>omega
         refine qK (iF { e with bucket:=(bl e.bucket).1 } h8) (qI 10 8) ?_
         refine qK (hP) (qI 13 1) ?_
         refine aH [(17,18)] [(qU [0,10,11,4,10,1,15,5]),(qU [0,10,11,4,10,1,15,2,18,1,17,1,19,1])] (by kernel_rfl) (qC) (by kernel_rfl) ?_
         simp only [bf]
         refine⟨aa 400 ?_,aa 400 ?_⟩
         all_goals simp (disch:=omega) only [go_sem,seval]
         all_goals
          refine aE (iC _ _ _ _) [] ?_
          refine aE (ce (roadOf x) { af with kind:=5,tag:=⟨1,e.key,e.peer,(aj e x).mine,(aj e x).theirs⟩,nonce:=(aj e x).mine,give:=(aj e x).take }) [] ?_
          refine qG ?_
          refine aK (qI 0 7++qI 10 3++qI 21 1++qI 14 3++qI 22 1) (qC) _ (by simp only [go_sem];rfl) zF zF ?_
          simp (disch:=omega) only [go_sem,seval]
          try simp [RR,HalfD.cs,cC,aj,ah,LetterD.cs,af]
          try omega
        have hsm:dO e x=false:=by rw [j4 hi hil];simp [h11]
        refine qG ?_
        rw [hnn hok' hsm]
        refine qX ?_
        have hP:=mn e.halfs (aj e x) (by have:=cf (bM h1);omega)
        obtain⟨Q,hQ⟩:∃ Q,Q=aX e.halfs (aj e x):=⟨_,rfl⟩
        rw [<-hQ] at hP⊢
        have hQl:Q.1.length<=1048576:=by rw [hQ];have:=cf (bM h1);have:=dz e.halfs (aj e x);unfold aX;split<;>dsimp only<;>omega
        refine qK (iF { e with bucket:=(bl e.bucket).1 } h8) (qI 10 8) ?_
        refine qK (hP) (qI 13 1) ?_
        refine aH [(17,18)] [(qU [0,10,11,4,10,1,15,5]),(qU [0,10,11,4,10,1,15,2,18,1,17,1,19,1])] (by kernel_rfl) (qC) (by kernel_rfl) ?_
        simp only [bf]
        refine⟨aa 400 ?_,aa 400 ?_⟩
        all_goals simp (disch:=omega) only [go_sem,seval]
        all_goals
         refine aE (iC _ _ _ _) [] ?_
         refine aE (ce (roadOf x) { af with kind:=5,tag:=⟨1,e.key,e.peer,(aj e x).mine,(aj e x).theirs⟩,nonce:=(aj e x).mine,give:=(aj e x).take }) [] ?_
         refine qG ?_
         refine aK (qI 0 7++qI 10 3++qI 21 1++qI 14 3++qI 22 1) (qC) _ (by simp only [go_sem];rfl) zF zF ?_
         simp (disch:=omega) only [go_sem,seval]
         try simp [RR,HalfD.cs,cC,aj,ah,LetterD.cs,af]
         try omega
       rw [hf (by rw [hok];first|(simp [h1,h2,h3,h4,h5,h6,h8,hi];done)|(simp [h1,h2,h3,h4,h5,h6,h8,hi];intros;omega))]
       refine qG ?_
       exact qF (qI 0 7++qI 10 7++qO 1)
      rw [hf (by rw [hok];first|(simp [h1,h2,h3,h4,h5,h6,hi];done)|(simp [h1,h2,h3,h4,h5,h6,hi];intros;omega))]
      refine qG ?_
      exact qF (qI 0 7++qI 10 7++qO 1)
     rw [hf (by rw [hok];first|(simp [h1,h2,h3,h4,h5,hi];done)|(simp [h1,h2,h3,h4,h5,hi];intros;omega))]
     refine qG ?_
     exact qF (qI 0 7++qI 10 7++qO 1)
    rw [hf (by rw [hok];first|(simp [h1,h2,h3,h4,hi];done)|(simp [h1,h2,h3,h4,hi];intros;omega))]
    refine qG ?_
    exact qF (qI 0 7++qI 10 7++qO 1)
   rw [hf (by rw [hok];first|(simp [h1,h2,h3,hi];done)|(simp [h1,h2,h3,hi];intros;omega))]
   refine qG ?_
   exact qF (qI 0 7++qI 10 7++qO 1)
  rw [hf (by rw [hok];first|(simp [h1,h2,hi];done)|(simp [h1,h2,hi];intros;omega))]
  refine qG ?_
  exact qF (qI 0 7++qI 10 7++qO 1)
 rw [hf (by rw [hok];first|(simp [h1,hi];done)|(simp [h1,hi];intros;omega))]
 refine qG ?_
 exact qF (qI 0 7++qI 10 7++qO 1)
theorem za (e:EndD) (x:LetterD) (hs:Small e):aP 205 [.ag (e.cs 0),.ag x.cs] (e.hp false) (.tu [.ag ((bK e x).1.cs 7),.sc (.sl 14 0 (bK e x).2.length)])
  (e.hp false++((bK e x).1.hp true++[some ⟨(bK e x).2.map LetterD.cs,19,73,true,true⟩])):=by
 have hC:=(qH (aA e))
 have hK:=(qH (a_ e))
 have hH:=js e.halfs (roadOf x) (by have:=hs.halfs;omega)
 have hO:=gv e x.to (by have:=hs.own;omega)
 have hT:=BP e.bucket
 have hL:=dU x
 have hTk:=pJ e.side
 have hbH:=gW e.halfs (roadOf x)
 have hf:=O0 (e:=e) (x:=x)
 have hns:=fun i=> @Nv e x i
 have hnn:= @Nw e x
 have hok:=ll.eq_1 e x
 generalize bK e x=R at*
 refine qE func205 ntmps205 results205 fun E hE=>?_
 refine qK (hC) (qI 0 7) ?_
 refine qK (cZ x) [] ?_
 refine qK (hH) (qI 3 1) ?_
 rcases hbH with hi|⟨hi0,hi1⟩
 ·rw [hi]
  refine qX ?_
  refine qD [0,1,2,3,4,5,6,7,8,9,10,11,12,13,14,15,16,17,18,19,20,21,22,23,24,25,26,27,28,29,30,31,32,33,34,35,36,37,38,39,40,41,42,43,44,45,46,47,48,49,50,51,52,53] ?_
  refine aE (hK) (qI 0 7) ?_
  refine qB (fun h1=>?_) fun h1=>?_
  ·refine aE (hL) [] ?_
   refine qB (fun h2=>?_) fun h2=>?_
   ·refine qB (fun h3=>?_) fun h3=>?_
    ·refine aE (hTk) [] ?_
     refine qB (fun h4=>?_) fun h4=>?_
     ·refine aE (hO) (qI 0 7) ?_
      refine qB (fun h5=>?_) fun h5=>?_
      ·refine qB (fun h6=>?_) fun h6=>?_
       ·refine qB (fun h7=>?_) fun h7=>?_
        ·refine aE (gw e) (qI 0 7) ?_
         refine qB (fun h8=>?_) fun h8=>?_
         ·refine qG ?_
          refine qB (fun h9=>?_) fun h9=>?_
          ·rw [hf (by rw [hok];first|(simp [h1,h2,h3,h4,h5,h6,h8,h9,hi];done)|(simp [h1,h2,h3,h4,h5,h6,h8,h9,hi];intros;omega))]
           exact qF (qI 0 7++qI 10 7++qI 18 1)
          refine qX ?_
          refine qK (hT) [] ?_
          refine qB (fun h10=>?_) fun h10=>?_
          ·rw [hf (by rw [hok];first|(simp [h1,h2,h3,h4,h5,h6,h8,h9,h10,hi];done)|(simp [h1,h2,h3,h4,h5,h6,h8,h9,h10,hi];intros;omega))]
           exact qF (qI 0 7++qI 10 7++qI 18 1)
          have hnow:=j0 h1
          have hok':ll e x=true:=by rw [hok];have:=cf (bM h1);have:=dw h1;simp [h1,h2,h3,h4,h5,h6,h8,h9,h10,hi];try omega
          refine qX ?_
          have hsm:dO e x=false:=Ak hi
          refine qD [0,1,2,3,4,5,6,7,8,9,10,11,12,13,14,15,16,17,18,19,20,21,22,23] ?_
          refine qG ?_
          rw [hnn hok' hsm]
          refine qX ?_
          have hP:=jR e.halfs (aj e x) (by have:=cf (bM h1);omega)
          obtain⟨Q,hQ⟩:∃ Q,Q=aX e.halfs (aj e x):=⟨_,rfl⟩
          rw [<-hQ] at hP⊢
          have hQl:Q.1.length<=1048576:=by rw [hQ];have:=cf (bM h1);have:=dz e.halfs (aj e x);unfold aX;split<;>dsimp only<;>omega
          have h8':=h8
          simp only [cv,RQ,decide_eq_true_eq] at h8'
          have hd1:cv e.draw 1 999999998=true:=by simp only [cv,RQ,decide_eq_true_eq];omega
          have hd2:cv (e.draw+2) 1 999999998=true:=by simp only [cv,RQ,decide_eq_true_eq];omega
          refine qK (cR { e with bucket:=(bl e.bucket).1 } ⟨hs.own,hs.far,hs.subs,hs.halfs,hs.list,hs.done,hs.over⟩ hd1) (qI 10 7) ?_
          refine qK (cR { e with bucket:=(bl e.bucket).1,draw:=e.draw+2 } ⟨hs.own,hs.far,hs.subs,hs.halfs,hs.list,hs.done,hs.over⟩ hd2) (qI 22 7) ?_
          refine qK (hP) (qI 32 1) ?_
          refine aH [(0,19),(11,0),(17,0),(18,0)] [(qU [1,10,12,4,11,1,16,3,0,1,19,3]),(qU [1,10,12,4,11,1,16,2,0,1,18,4]),(qU [1,10,12,4,11,1,16,1,0,1,17,5]),(qU [1,10,12,4,0,1,11,1,16,6]),(qU [1,10,12,4,11,1,16,4,0,1,20,2])] (by kernel_rfl) (qC) (by kernel_rfl) ?_
          simp only [bf]
          refine⟨aa 400 ?_,aa 400 ?_,aa 400 ?_,aa 400 ?_,aa 400 ?_⟩
          all_goals simp (disch:=omega) only [go_sem,seval]
          all_goals
           refine aE (iE _ _ _ _) [] ?_
           refine aE (bC (roadOf x) { af with kind:=5,tag:=⟨1,e.key,e.peer,(aj e x).mine,(aj e x).theirs⟩,nonce:=(aj e x).mine,give:=(aj e x).take }) [] ?_
           refine qG ?_
           refine aK (qI 0 7++qI 29 3++qI 36 1++qI 33 3++qI 38 1) (qC) _ (by simp only [go_sem];rfl) zF zF ?_
           simp (disch:=omega) only [go_sem,seval]
           try simp [RR,HalfD.cs,cC,aj,ah,LetterD.cs,af]
           try omega
         rw [hf (by rw [hok];first|(simp [h1,h2,h3,h4,h5,h6,h8,hi];done)|(simp [h1,h2,h3,h4,h5,h6,h8,hi];intros;omega))]
         refine qG ?_
         exact qF (qI 0 7++qI 10 7++qI 18 1)
        rw [hf (by rw [hok];first|(simp [h1,h2,h3,h4,h5,h6,h7,hi];done)|(simp [h1,h2,h3,h4,h5,h6,h7,hi];intros;omega))]
        refine qG ?_
        exact qF (qI 0 7++qI 10 7++qI 18 1)
       rw [hf (by rw [hok];first|(simp [h1,h2,h3,h4,h5,h6,hi];done)|(simp [h1,h2,h3,h4,h5,h6,hi];intros;omega))]
       refine qG ?_
       exact qF (qI 0 7++qI 10 7++qI 18 1)
      rw [hf (by rw [hok];first|(simp [h1,h2,h3,h4,h5,hi];done)|(simp [h1,h2,h3,h4,h5,hi];intros;omega))]
      refine qG ?_
      exact qF (qI 0 7++qI 10 7++qI 18 1)
     rw [hf (by rw [hok];first|(simp [h1,h2,h3,h4,hi];done)|(simp [h1,h2,h3,h4,hi];intros;omega))]
     refine qG ?_
     exact qF (qI 0 7++qI 10 7++qI 18 1)
    rw [hf (by rw [hok];first|(simp [h1,h2,h3,hi];done)|(simp [h1,h2,h3,hi];intros;omega))]
    refine qG ?_
    exact qF (qI 0 7++qI 10 7++qI 18 1)
   rw [hf (by rw [hok];first|(simp [h1,h2,hi];done)|(simp [h1,h2,hi];intros;omega))]
   refine qG ?_
   exact qF (qI 0 7++qI 10 7++qI 18 1)
  rw [hf (by rw [hok];first|(simp [h1,hi];done)|(simp [h1,hi];intros;omega))]
  refine qG ?_
  exact qF (qI 0 7++qI 10 7++qI 18 1)
 obtain⟨i,hi⟩:=RP hi0
 have hil:i < e.halfs.length:=zO
 rw [hi]
 refine qX ?_
 refine qD [0,1,2,3,4,5,6,7,8,9,10,11,12,13,14,15,16,17,18,19,20,21,22,23,24,25,26,27,28,29,30,31,32,33,34,35,36,37,38,39,40,41,42,43,44,45,46,47,48,49,50,51,52,53] ?_
 refine aE (hK) (qI 0 7) ?_
 refine qB (fun h1=>?_) fun h1=>?_
 ·refine aE (hL) [] ?_
  refine qB (fun h2=>?_) fun h2=>?_
  ·refine qB (fun h3=>?_) fun h3=>?_
   ·refine aE (hTk) [] ?_
    refine qB (fun h4=>?_) fun h4=>?_
    ·refine aE (hO) (qI 0 7) ?_
     refine qB (fun h5=>?_) fun h5=>?_
     ·refine qB (fun h6=>?_) fun h6=>?_
      ·refine aE (gw e) (qI 0 7) ?_
       refine qB (fun h8=>?_) fun h8=>?_
       ·refine qG ?_
        refine qB (fun h9=>?_) fun h9=>?_
        ·rw [hf (by rw [hok];first|(simp [h1,h2,h3,h4,h5,h6,h8,h9,hi];done)|(simp [h1,h2,h3,h4,h5,h6,h8,h9,hi];intros;omega))]
         exact qF (qI 0 7++qI 10 7++qI 18 1)
        refine qX ?_
        refine qK (hT) [] ?_
        refine qB (fun h10=>?_) fun h10=>?_
        ·rw [hf (by rw [hok];first|(simp [h1,h2,h3,h4,h5,h6,h8,h9,h10,hi];done)|(simp [h1,h2,h3,h4,h5,h6,h8,h9,h10,hi];intros;omega))]
         exact qF (qI 0 7++qI 10 7++qI 18 1)
        have hnow:=j0 h1
        have hok':ll e x=true:=by rw [hok];have:=cf (bM h1);have:=dw h1;simp [h1,h2,h3,h4,h5,h6,h8,h9,h10,hi];try omega
        refine qX ?_
        refine qD [0,1,2,3,4,5,6,7,8,9,10,11,12,13,14,15,16,17,18,19,20,21,22,23] ?_
        refine qB (fun h11=>?_) fun h11=>?_
        ·refine qG ?_
         refine qB (fun h12=>?_) fun h12=>?_
         ·have hsm:dO e x=true:=by rw [j4 hi hil];simp [h11,h12]
          rw [hns _ hok' hsm hi hil]
          have hrd:=uN hi hil
          have hP:=jR e.halfs { e.halfs[i] with till:=e.now+6 } (by have:=cf (bM h1);omega)
          rw [BR (bM h1) hil (by simp only [gp,RQ,decide_eq_true_eq];omega) (by rw [hrd];exact hi)] at hP
          refine qX ?_
          refine qK (hP) (qI 13 1) ?_
          refine aH [(0,19),(11,0),(17,0),(18,0)] [(qU [1,10,12,4,11,1,16,3,0,1,19,3]),(qU [1,10,12,4,11,1,16,2,0,1,18,4]),(qU [1,10,12,4,11,1,16,1,0,1,17,5]),(qU [1,10,12,4,0,1,11,1,16,6]),(qU [1,10,12,4,11,1,16,4,0,1,20,2])] (by kernel_rfl) (qC) (by kernel_rfl) ?_
          simp only [bf]
          refine⟨aa 400 ?_,aa 400 ?_,aa 400 ?_,aa 400 ?_,aa 400 ?_⟩
          all_goals simp (disch:=omega) only [go_sem,seval]
          all_goals
           refine aE (iE _ _ _ _) [] ?_
           refine aE (bC (roadOf x) { af with kind:=5,tag:=⟨1,e.key,e.peer,(e.halfs[i]).mine,(e.halfs[i]).theirs⟩,nonce:=(e.halfs[i]).mine,give:=(e.halfs[i]).take }) [] ?_
           refine qG ?_
           refine aK (qI 0 7++qI 10 3++qI 22 1++qI 14 3++qI 24 1) (qC) _ (by simp only [go_sem];rfl) zF zF ?_
           simp (disch:=omega) only [go_sem,seval]
           try simp [RR,HalfD.cs,cC,aj,ah,LetterD.cs,af]
           try omega
         have hsm:dO e x=false:=by rw [j4 hi hil];simp [h11,h12]
         rw [hnn hok' hsm]
         refine qX ?_
         have hP:=jR e.halfs (aj e x) (by have:=cf (bM h1);omega)
         obtain⟨Q,hQ⟩:∃ Q,Q=aX e.halfs (aj e x):=⟨_,rfl⟩
         rw [<-hQ] at hP⊢
         have hQl:Q.1.length<=1048576:=by rw [hQ];have:=cf (bM h1);have:=dz e.halfs (aj e x);unfold aX;split<;>dsimp only<;>omega
         have h8':=h8
         simp only [cv,RQ,decide_eq_true_eq] at h8'
         have hd1:cv e.draw 1 999999998=true:=by simp only [cv,RQ,decide_eq_true_eq];omega
         have hd2:cv (e.draw+2) 1 999999998=true:=by simp only [cv,RQ,decide_eq_true_eq];omega
         refine qK (cR { e with bucket:=(bl e.bucket).1 } ⟨hs.own,hs.far,hs.subs,hs.halfs,hs.list,hs.done,hs.over⟩ hd1) (qI 10 7) ?_
         refine qK (cR { e with bucket:=(bl e.bucket).1,draw:=e.draw+2 } ⟨hs.own,hs.far,hs.subs,hs.halfs,hs.list,hs.done,hs.over⟩ hd2) (qI 22 7) ?_
         refine qK (hP) (qI 32 1) ?_
         refine aH [(0,19),(11,0),(17,0),(18,0)] [(qU [1,10,12,4,11,1,16,3,0,1,19,3]),(qU [1,10,12,4,11,1,16,2,0,1,18,4]),(qU [1,10,12,4,11,1,16,1,0,1,17,5]),(qU [1,10,12,4,0,1,11,1,16,6]),(qU [1,10,12,4,11,1,16,4,0,1,20,2])] (by kernel_rfl) (qC) (by kernel_rfl) ?_
         simp only [bf]
         refine⟨aa 400 ?_,aa 400 ?_,aa 400 ?_,aa 400 ?_,aa 400 ?_⟩
         all_goals simp (disch:=omega) only [go_sem,seval]
         all_goals
          refine aE (iE _ _ _ _) [] ?_
          refine aE (bC (roadOf x) { af with kind:=5,tag:=⟨1,e.key,e.peer,(aj e x).mine,(aj e x).theirs⟩,nonce:=(aj e x).mine,give:=(aj e x).take }) [] ?_
          refine qG ?_
          refine aK (qI 0 7++qI 29 3++qI 36 1++qI 33 3++qI 38 1) (qC) _ (by simp only [go_sem];rfl) zF zF ?_
          simp (disch:=omega) only [go_sem,seval]
          try simp [RR,HalfD.cs,cC,aj,ah,LetterD.cs,af]
          try omega
        have hsm:dO e x=false:=by rw [j4 hi hil];simp [h11]
        refine qG ?_
        rw [hnn hok' hsm]
        refine qX ?_
        have hP:=jR e.halfs (aj e x) (by have:=cf (bM h1);omega)
        obtain⟨Q,hQ⟩:∃ Q,Q=aX e.halfs (aj e x):=⟨_,rfl⟩
        rw [<-hQ] at hP⊢
        have hQl:Q.1.length<=1048576:=by rw [hQ];have:=cf (bM h1);have:=dz e.halfs (aj e x);unfold aX;split<;>dsimp only<;>omega
        have h8':=h8
        simp only [cv,RQ,decide_eq_true_eq] at h8'
        have hd1:cv e.draw 1 999999998=true:=by simp only [cv,RQ,decide_eq_true_eq];omega
        have hd2:cv (e.draw+2) 1 999999998=true:=by simp only [cv,RQ,decide_eq_true_eq];omega
        refine qK (cR { e with bucket:=(bl e.bucket).1 } ⟨hs.own,hs.far,hs.subs,hs.halfs,hs.list,hs.done,hs.over⟩ hd1) (qI 10 7) ?_
        refine qK (cR { e with bucket:=(bl e.bucket).1,draw:=e.draw+2 } ⟨hs.own,hs.far,hs.subs,hs.halfs,hs.list,hs.done,hs.over⟩ hd2) (qI 22 7) ?_
        refine qK (hP) (qI 32 1) ?_
        refine aH [(0,19),(11,0),(17,0),(18,0)] [(qU [1,10,12,4,11,1,16,3,0,1,19,3]),(qU [1,10,12,4,11,1,16,2,0,1,18,4]),(qU [1,10,12,4,11,1,16,1,0,1,17,5]),(qU [1,10,12,4,0,1,11,1,16,6]),(qU [1,10,12,4,11,1,16,4,0,1,20,2])] (by kernel_rfl) (qC) (by kernel_rfl) ?_
        simp only [bf]
        refine⟨aa 400 ?_,aa 400 ?_,aa 400 ?_,aa 400 ?_,aa 400 ?_⟩
        all_goals simp (disch:=omega) only [go_sem,seval]
        all_goals
         refine aE (iE _ _ _ _) [] ?_
         refine aE (bC (roadOf x) { af with kind:=5,tag:=⟨1,e.key,e.peer,(aj e x).mine,(aj e x).theirs⟩,nonce:=(aj e x).mine,give:=(aj e x).take }) [] ?_
         refine qG ?_
         refine aK (qI 0 7++qI 29 3++qI 36 1++qI 33 3++qI 38 1) (qC) _ (by simp only [go_sem];rfl) zF zF ?_
         simp (disch:=omega) only [go_sem,seval]
         try simp [RR,HalfD.cs,cC,aj,ah,LetterD.cs,af]
         try omega
       rw [hf (by rw [hok];first|(simp [h1,h2,h3,h4,h5,h6,h8,hi];done)|(simp [h1,h2,h3,h4,h5,h6,h8,hi];intros;omega))]
       refine qG ?_
       exact qF (qI 0 7++qI 10 7++qI 18 1)
      rw [hf (by rw [hok];first|(simp [h1,h2,h3,h4,h5,h6,hi];done)|(simp [h1,h2,h3,h4,h5,h6,hi];intros;omega))]
      refine qG ?_
      exact qF (qI 0 7++qI 10 7++qI 18 1)
     rw [hf (by rw [hok];first|(simp [h1,h2,h3,h4,h5,hi];done)|(simp [h1,h2,h3,h4,h5,hi];intros;omega))]
     refine qG ?_
     exact qF (qI 0 7++qI 10 7++qI 18 1)
    rw [hf (by rw [hok];first|(simp [h1,h2,h3,h4,hi];done)|(simp [h1,h2,h3,h4,hi];intros;omega))]
    refine qG ?_
    exact qF (qI 0 7++qI 10 7++qI 18 1)
   rw [hf (by rw [hok];first|(simp [h1,h2,h3,hi];done)|(simp [h1,h2,h3,hi];intros;omega))]
   refine qG ?_
   exact qF (qI 0 7++qI 10 7++qI 18 1)
  rw [hf (by rw [hok];first|(simp [h1,h2,hi];done)|(simp [h1,h2,hi];intros;omega))]
  refine qG ?_
  exact qF (qI 0 7++qI 10 7++qI 18 1)
 rw [hf (by rw [hok];first|(simp [h1,hi];done)|(simp [h1,hi];intros;omega))]
 refine qG ?_
 exact qF (qI 0 7++qI 10 7++qI 18 1)
theorem zb (e:EndD) (x:LetterD) (hs:Small e):aP 188 [.ag (e.cs 0),.ag x.cs] (e.hp false) (.tu [.ag ((bW e x).1.cs 7),.sc (.sl 14 0 (bW e x).2.length)])
  (e.hp false++((bW e x).1.hp true++[some ⟨(bW e x).2.map LetterD.cs,19,73,true,true⟩])):=by
 have hC:=(qH (aV e))
 have hK:=(qH (cd e))
 have hA:=gY e.far x.id (by have:=hs.far;omega)
 have hH:=jp e.over x.id (by have:=hs.over;omega)
 have hS:=fq e x (by have:=hs.subs;omega)
 have hL:=cu x
 have hbs:=fN e x
 have hbA:=eY e.far x.id
 have hbd:=gD e x
 have hf:=qg (e:=e) (x:=x)
 have ht:=fun (n:Nat)=> @mt e x n
 have hok:=gG.eq_1 e x
 generalize bW e x=R at*
 refine qE func188 ntmps188 results188 fun E hE=>?_
 refine qK (hC) (qI 0 7) ?_
 refine qK (hS) (qI 0 7) ?_
 have hcmp:=TagD.cmp x.tag ⟨3,e.peer,e.key,x.id,x.addr⟩
 simp only [TagD.cs,go_sem] at hcmp
 rcases hbs with hk|⟨hk0,hk1⟩
 ·rw [hk]
  refine qX ?_
  refine qD [0,1,2,3,4,5,6,7,8,9,10,11,12,13,14,15,16,17,18,19,20,21,22,23,24,25,26,27,28,29,30,31,32] ?_
  refine aE (hK) (qI 0 7) ?_
  refine qB (fun h1=>?_) fun h1=>?_
  ·refine aE (hL) [] ?_
   refine qB (fun h2=>?_) fun h2=>?_
   ·rw [hf (by rw [hok];have:=cV (e:=e) (x:=x) (by rintro⟨_,_,hh⟩;omega);simp;omega)]
    refine qG ?_
    exact qF (qI 0 7++qI 10 7++qO 1)
   rw [hf (by rw [hok];have:=cV (e:=e) (x:=x) (by rintro⟨_,hh,_⟩;rw [h2] at hh;cases hh);simp;omega)]
   refine qG ?_
   exact qF (qI 0 7++qI 10 7++qO 1)
  rw [hf (by rw [hok];have:=cV (e:=e) (x:=x) (by rintro⟨hh,_⟩;rw [h1] at hh;cases hh);simp;omega)]
  refine qG ?_
  exact qF (qI 0 7++qI 10 7++qO 1)
 obtain⟨n,hk⟩:=RP hk0
 have hn:n < e.subs.length:=zO
 rw [hk]
 refine qX ?_
 refine qD [0,1,2,3,4,5,6,7,8,9,10,11,12,13,14,15,16,17,18,19,20,21,22,23,24,25,26,27,28,29,30,31,32] ?_
 refine aE (hK) (qI 0 7) ?_
 refine qB (fun h1=>?_) fun h1=>?_
 ·refine aE (hL) [] ?_
  refine qB (fun h2=>?_) fun h2=>?_
  ·have hon:=kj h1 h2 hk
   have hq1:=h1
   refine aE (rQ _ _ _ _) [] ?_
   try simp (disch:=omega) only [go_sem,seval,hcmp]
   refine qB (fun h4=>?_) fun h4=>?_
   ·refine aE (hH) (qI 6 1) ?_
    refine qG ?_
    refine qB (fun h5=>?_) fun h5=>?_
    ·rw [hf (by rw [hok];simp [h5])]
     refine qX ?_
     exact qF (qI 0 7++qI 10 7++qO 1)
    refine qX ?_
    refine qK (hA) (qI 1 1) ?_
    rcases hbA with hi|⟨hi0,hi1⟩
    ·rw [hi]
     refine qX ?_
     have hoth:=qe hi
     refine qD [0,1,2,3,4,5,6,7,8,9,10,11,12] ?_
     refine qG ?_
     have hP:=rT e.far (fD x) (by have:=gZ hq1;omega)
     obtain⟨Q,hQ⟩:∃ Q,Q=aS e.far (fD x):=⟨_,rfl⟩
     have hQl:Q.1.length<=1048576:=by rw [hQ];have:=gZ hq1;have:=dP e.far (fD x);unfold aS;split<;>dsimp only<;>omega
     rw [<-hQ] at hP
     refine qX ?_
     refine qK (hP) (qI 1 1) ?_
     refine qB (fun h7=>?_) fun h7=>?_
     ·rw [hf (by rw [hok,<-hQ];simp [h7])]
      refine qX ?_
      exact qF (qI 0 7++qI 10 7++qO 1)
     rw [ht _ (by rw [hok,hoth,<-hQ];simp [hon,h4,h5,h7]) hon hn,<-hQ]
     refine qX ?_
     refine aH [(15,16)] [(qU [0,2,3,11,2,1,14,4]),(qU [0,2,3,11,2,1,14,1,16,1,15,1,17,1])] (by kernel_rfl) (qC) (by kernel_rfl) ?_
     simp only [bf]
     refine⟨aa 400 ?_,aa 400 ?_⟩
     all_goals simp (disch:=omega) only [go_sem,seval]
     all_goals
      refine aE (dV x) [] ?_
      refine aE (ce (roadOf x) { af with kind:=9,sgn:=e.subs[n].give,id:=x.id,addr:=x.addr }) [] ?_
      refine qG ?_
      refine qP (qI 0 7++qI 10 1++qI 18 1++qI 12 5++qI 19 1) ?_
      first|exact⟨⟩|simp [pM,ah,LetterD.cs]
    obtain⟨i,hi⟩:=RP hi0
    have hil:i < e.far.length:=zO
    have hoth:=qf hi hil
    rw [hi]
    refine qX ?_
    refine qD [0,1,2,3,4,5,6,7,8,9,10,11,12] ?_
    refine qG ?_
    refine qB (fun h6=>?_) fun h6=>?_
    ·rw [hf (by rw [hok,hoth];simp [h6])]
     refine qX ?_
     exact qF (qI 0 7++qI 10 7++qO 1)
    simp only [h6,decide_true,RY] at hoth
    have hP:=rT e.far (fD x) (by have:=gZ hq1;omega)
    obtain⟨Q,hQ⟩:∃ Q,Q=aS e.far (fD x):=⟨_,rfl⟩
    have hQl:Q.1.length<=1048576:=by rw [hQ];have:=gZ hq1;have:=dP e.far (fD x);unfold aS;split<;>dsimp only<;>omega
    rw [<-hQ] at hP
    refine qX ?_
    refine qK (hP) (qI 1 1) ?_
    refine qB (fun h7=>?_) fun h7=>?_
    ·rw [hf (by rw [hok,<-hQ];simp [h7])]
     refine qX ?_
     exact qF (qI 0 7++qI 10 7++qO 1)
    rw [ht _ (by rw [hok,hoth,<-hQ];simp [hon,h4,h5,h7]) hon hn,<-hQ]
    refine qX ?_
    refine aH [(15,16)] [(qU [0,2,3,11,2,1,14,4]),(qU [0,2,3,11,2,1,14,1,16,1,15,1,17,1])] (by kernel_rfl) (qC) (by kernel_rfl) ?_
    simp only [bf]
    refine⟨aa 400 ?_,aa 400 ?_⟩
    all_goals simp (disch:=omega) only [go_sem,seval]
    all_goals
     refine aE (dV x) [] ?_
     refine aE (ce (roadOf x) { af with kind:=9,sgn:=e.subs[n].give,id:=x.id,addr:=x.addr }) [] ?_
     refine qG ?_
     refine qP (qI 0 7++qI 10 1++qI 18 1++qI 12 5++qI 19 1) ?_
     first|exact⟨⟩|simp [pM,ah,LetterD.cs]
   rw [hf (by rw [hok];simp [h4])]
   refine qG ?_
   exact qF (qI 0 7++qI 10 7++qO 1)
  rw [hf (by rw [hok];have:=cV (e:=e) (x:=x) (by rintro⟨_,hh,_⟩;rw [h2] at hh;cases hh);simp;omega)]
  refine qG ?_
  exact qF (qI 0 7++qI 10 7++qO 1)
 rw [hf (by rw [hok];have:=cV (e:=e) (x:=x) (by rintro⟨hh,_⟩;rw [h1] at hh;cases hh);simp;omega)]
 refine qG ?_
 exact qF (qI 0 7++qI 10 7++qO 1)
theorem zc (e:EndD) (x:LetterD) (hs:Small e):aP 209 [.ag (e.cs 0),.ag x.cs] (e.hp false) (.tu [.ag ((bW e x).1.cs 7),.sc (.sl 14 0 (bW e x).2.length)])
  (e.hp false++((bW e x).1.hp true++[some ⟨(bW e x).2.map LetterD.cs,19,73,true,true⟩])):=by
 have hC:=(qH (aA e))
 have hK:=(qH (a_ e))
 have hA:=eJ e.far x.id (by have:=hs.far;omega)
 have hH:=gX e.over x.id (by have:=hs.over;omega)
 have hS:=iY e x hs
 have hbA:=eY e.far x.id
 have hbd:=gD e x
 have hf:=qg (e:=e) (x:=x)
 have ht:=fun (n:Nat)=> @mt e x n
 have hok:=gG.eq_1 e x
 generalize bW e x=R at*
 refine qE func209 ntmps209 results209 fun E hE=>?_
 refine qK (hC) (qI 0 7) ?_
 refine qK (hS) (qI 0 7) ?_
 have hcmp:=TagD.cmp x.tag ⟨3,e.peer,e.key,x.id,x.addr⟩
 simp only [TagD.cs,go_sem] at hcmp
 rcases hbd with hon|⟨n,hon,hk,hn,hq1,hq2⟩
 ·rw [hf (by rw [hok];simp [hon]),hon]
  refine qX ?_
  refine qD [0,1,2,3,4,5,6,7,8,9,10,11,12,13,14,15,16,17,18,19,20,21,22] ?_
  refine qG ?_
  exact qF (qI 0 7++qI 10 7++qI 18 1)
 rw [hon]
 refine qX ?_
 refine qD [0,1,2,3,4,5,6,7,8,9,10,11,12,13,14,15,16,17,18,19,20,21,22] ?_
 refine aE (rR _ _ _ _) [] ?_
 try simp (disch:=omega) only [go_sem,seval,hcmp]
 refine qB (fun h4=>?_) fun h4=>?_
 ·refine aE (hH) (qI 6 1) ?_
  refine qG ?_
  refine qB (fun h5=>?_) fun h5=>?_
  ·rw [hf (by rw [hok];simp [h5])]
   refine qX ?_
   exact qF (qI 0 7++qI 10 7++qI 18 1)
  refine qX ?_
  refine qK (hA) (qI 1 1) ?_
  rcases hbA with hi|⟨hi0,hi1⟩
  ·rw [hi]
   refine qX ?_
   have hoth:=qe hi
   refine qD [0,1,2,3,4,5,6,7,8,9,10,11,12] ?_
   refine qG ?_
   have hP:=jS e.far (fD x) (by have:=gZ hq1;omega)
   obtain⟨Q,hQ⟩:∃ Q,Q=aS e.far (fD x):=⟨_,rfl⟩
   have hQl:Q.1.length<=1048576:=by rw [hQ];have:=gZ hq1;have:=dP e.far (fD x);unfold aS;split<;>dsimp only<;>omega
   rw [<-hQ] at hP
   refine qX ?_
   refine qK (hP) (qI 1 1) ?_
   refine qB (fun h7=>?_) fun h7=>?_
   ·rw [hf (by rw [hok,<-hQ];simp [h7])]
    refine qX ?_
    exact qF (qI 0 7++qI 10 7++qI 18 1)
   rw [ht _ (by rw [hok,hoth,<-hQ];simp [hon,h4,h5,h7]) hon hn,<-hQ]
   refine qX ?_
   refine aH [(0,17),(3,0),(15,0),(16,0)] [(qU [1,2,4,11,3,1,15,2,0,1,17,3]),(qU [1,2,4,11,3,1,15,1,0,1,16,4]),(qU [1,2,4,11,3,1,0,1,15,5]),(qU [1,2,4,11,0,1,3,1,15,5]),(qU [1,2,4,11,3,1,15,3,0,1,18,2])] (by kernel_rfl) (qC) (by kernel_rfl) ?_
   simp only [bf]
   refine⟨aa 400 ?_,aa 400 ?_,aa 400 ?_,aa 400 ?_,aa 400 ?_⟩
   all_goals simp (disch:=omega) only [go_sem,seval]
   all_goals
    refine aE (cZ x) [] ?_
    refine aE (bC (roadOf x) { af with kind:=9,sgn:=e.subs[n].give,id:=x.id,addr:=x.addr }) [] ?_
    refine qG ?_
    refine qP (qI 0 7++qI 10 1++qI 19 1++qI 12 5++qI 21 1) ?_
    first|exact⟨⟩|simp [pM,ah,LetterD.cs]
  obtain⟨i,hi⟩:=RP hi0
  have hil:i < e.far.length:=zO
  have hoth:=qf hi hil
  rw [hi]
  refine qX ?_
  refine qD [0,1,2,3,4,5,6,7,8,9,10,11,12] ?_
  refine qG ?_
  refine qB (fun h6=>?_) fun h6=>?_
  ·rw [hf (by rw [hok,hoth];simp [h6])]
   refine qX ?_
   exact qF (qI 0 7++qI 10 7++qI 18 1)
  simp only [h6,decide_true,RY] at hoth
  have hP:=jS e.far (fD x) (by have:=gZ hq1;omega)
  obtain⟨Q,hQ⟩:∃ Q,Q=aS e.far (fD x):=⟨_,rfl⟩
  have hQl:Q.1.length<=1048576:=by rw [hQ];have:=gZ hq1;have:=dP e.far (fD x);unfold aS;split<;>dsimp only<;>omega
  rw [<-hQ] at hP
  refine qX ?_
  refine qK (hP) (qI 1 1) ?_
  refine qB (fun h7=>?_) fun h7=>?_
  ·rw [hf (by rw [hok,<-hQ];simp [h7])]
   refine qX ?_
   exact qF (qI 0 7++qI 10 7++qI 18 1)
  rw [ht _ (by rw [hok,hoth,<-hQ];simp [hon,h4,h5,h7]) hon hn,<-hQ]
  refine qX ?_
  refine aH [(0,17),(3,0),(15,0),(16,0)] [(qU [1,2,4,11,3,1,15,2,0,1,17,3]),(qU [1,2,4,11,3,1,15,1,0,1,16,4]),(qU [1,2,4,11,3,1,0,1,15,5]),(qU [1,2,4,11,0,1,3,1,15,5]),(qU [1,2,4,11,3,1,15,3,0,1,18,2])] (by kernel_rfl) (qC) (by kernel_rfl) ?_
  simp only [bf]
  refine⟨aa 400 ?_,aa 400 ?_,aa 400 ?_,aa 400 ?_,aa 400 ?_⟩
  all_goals simp (disch:=omega) only [go_sem,seval]
  all_goals
   refine aE (cZ x) [] ?_
   refine aE (bC (roadOf x) { af with kind:=9,sgn:=e.subs[n].give,id:=x.id,addr:=x.addr }) [] ?_
   refine qG ?_
   refine qP (qI 0 7++qI 10 1++qI 19 1++qI 12 5++qI 21 1) ?_
   first|exact⟨⟩|simp [pM,ah,LetterD.cs]
 rw [hf (by rw [hok];simp [h4])]
 refine qG ?_
 exact qF (qI 0 7++qI 10 7++qI 18 1)
theorem zd (e:EndD) (x:LetterD) (hs:Small e):aP 189 [.ag (e.cs 0),.ag x.cs] (e.hp false) (.tu [.ag ((bY e x).1.cs 7),.sc (.sl 14 0 (bY e x).2.length)])
  (e.hp false++((bY e x).1.hp true++[some ⟨(bY e x).2.map LetterD.cs,19,73,true,true⟩])):=by
 have hC:=(qH (aV e))
 have hK:=(qH (cd e))
 have hA:=gY e.own x.id (by have:=hs.own;omega)
 have hS:=fq e x (by have:=hs.subs;omega)
 have hL:=cu x
 have hbs:=fN e x
 have hbA:=eY e.own x.id
 have hbd:=gD e x
 have hf:=qh (e:=e) (x:=x)
 have ht:=fun (n:Nat)=> @qi e x n
 have hok:=iG.eq_1 e x
 generalize bY e x=R at*
 refine qE func189 ntmps189 results189 fun E hE=>?_
 refine qK (hC) (qI 0 7) ?_
 refine qK (hA) (qI 0 1) ?_
 rcases hbA with hi|⟨hi0,hi1⟩
 ·rw [hi]
  refine qX ?_
  rcases hbs with hk|⟨hk0,hk1⟩
  ·refine qD [0,1,2,3,4,5,6,7,8,9,10,11,12,13,14,15,16,17,18,19,20,21,22,23,24,25,26] ?_
   refine aE (hK) (qI 0 7) ?_
   refine qB (fun h1=>?_) fun h1=>?_
   ·refine aE (hL) [] ?_
    refine qB (fun h2=>?_) fun h2=>?_
    ·refine aE (hS) (qI 0 7) ?_
     rw [hk]
     refine qX ?_
     rw [hf (g_ hi)]
     refine qG ?_
     exact qF (qI 0 7++qI 10 7++qO 1)
    rw [hf (g_ hi)]
    refine qG ?_
    exact qF (qI 0 7++qI 10 7++qO 1)
   rw [hf (g_ hi)]
   refine qG ?_
   exact qF (qI 0 7++qI 10 7++qO 1)
  obtain⟨n,hk⟩:=RP hk0
  have hn:n < e.subs.length:=zO
  refine qD [0,1,2,3,4,5,6,7,8,9,10,11,12,13,14,15,16,17,18,19,20,21,22,23,24,25,26] ?_
  refine aE (hK) (qI 0 7) ?_
  refine qB (fun h1=>?_) fun h1=>?_
  ·refine aE (hL) [] ?_
   refine qB (fun h2=>?_) fun h2=>?_
   ·refine aE (hS) (qI 0 7) ?_
    rw [hk]
    refine qX ?_
    have hon:=kj h1 h2 hk
    rw [hf (g_ hi)]
    refine qG ?_
    exact qF (qI 0 7++qI 10 7++qO 1)
   rw [hf (g_ hi)]
   refine qG ?_
   exact qF (qI 0 7++qI 10 7++qO 1)
  rw [hf (g_ hi)]
  refine qG ?_
  exact qF (qI 0 7++qI 10 7++qO 1)
 obtain⟨i,hi⟩:=RP hi0
 have hil:i < e.own.length:=zO
 rw [hi]
 refine qX ?_
 rcases hbs with hk|⟨hk0,hk1⟩
 ·refine qD [0,1,2,3,4,5,6,7,8,9,10,11,12,13,14,15,16,17,18,19,20,21,22,23,24,25,26] ?_
  refine aE (hK) (qI 0 7) ?_
  refine qB (fun h1=>?_) fun h1=>?_
  ·refine aE (hL) [] ?_
   refine qB (fun h2=>?_) fun h2=>?_
   ·refine aE (hS) (qI 0 7) ?_
    rw [hk]
    refine qX ?_
    rw [hf (by rw [fr hi hil];have:=cV (e:=e) (x:=x) (by rintro⟨_,_,hh⟩;omega);simp;omega)]
    refine qG ?_
    exact qF (qI 0 7++qI 10 7++qO 1)
   rw [hf (by rw [fr hi hil];have:=cV (e:=e) (x:=x) (by rintro⟨_,hh,_⟩;rw [h2] at hh;cases hh);simp;omega)]
   refine qG ?_
   exact qF (qI 0 7++qI 10 7++qO 1)
  rw [hf (by rw [fr hi hil];have:=cV (e:=e) (x:=x) (by rintro⟨hh,_⟩;rw [h1] at hh;cases hh);simp;omega)]
  refine qG ?_
  exact qF (qI 0 7++qI 10 7++qO 1)
 obtain⟨n,hk⟩:=RP hk0
 have hn:n < e.subs.length:=zO
 refine qD [0,1,2,3,4,5,6,7,8,9,10,11,12,13,14,15,16,17,18,19,20,21,22,23,24,25,26] ?_
 refine aE (hK) (qI 0 7) ?_
 refine qB (fun h1=>?_) fun h1=>?_
 ·refine aE (hL) [] ?_
  refine qB (fun h2=>?_) fun h2=>?_
  ·refine aE (hS) (qI 0 7) ?_
   rw [hk]
   refine qX ?_
   have hon:=kj h1 h2 hk
   refine qG ?_
   refine qB (fun h5=>?_) fun h5=>?_
   ·rw [ht _ (by rw [fr hi hil];simp [hon,h5]) hi hil]
    refine qX ?_
    refine qP (qI 0 7++qI 10 7++qO 1) ?_
    first|exact⟨⟩|simp [RR,AddrD.cs]
   rw [hf (by rw [fr hi hil];simp [h5])]
   refine qX ?_
   exact qF (qI 0 7++qI 10 7++qO 1)
  rw [hf (by rw [fr hi hil];have:=cV (e:=e) (x:=x) (by rintro⟨_,hh,_⟩;rw [h2] at hh;cases hh);simp;omega)]
  refine qG ?_
  exact qF (qI 0 7++qI 10 7++qO 1)
 rw [hf (by rw [fr hi hil];have:=cV (e:=e) (x:=x) (by rintro⟨hh,_⟩;rw [h1] at hh;cases hh);simp;omega)]
 refine qG ?_
 exact qF (qI 0 7++qI 10 7++qO 1)
theorem ze (e:EndD) (x:LetterD) (hs:Small e):aP 190 [.ag (e.cs 0),.ag x.cs] (e.hp false) (.tu [.ag ((bZ e x).1.cs 7),.sc (.sl 14 0 (bZ e x).2.length)])
  (e.hp false++((bZ e x).1.hp true++[some ⟨(bZ e x).2.map LetterD.cs,19,73,true,true⟩])):=by
 have hC:=(qH (aV e))
 have hK:=(qH (cd e))
 have hA:=gY e.far x.id (by have:=hs.far;omega)
 have hD:=y8 e.far x.id (by have:=hs.far;omega)
 have hS:=fq e x (by have:=hs.subs;omega)
 have hL:=cu x
 have hbs:=fN e x
 have hbA:=eY e.far x.id
 have hbd:=gD e x
 have hf:=wY (e:=e) (x:=x)
 have ht:=fun (n:Nat)=> @wZ e x n
 have hok:=qj.eq_1 e x
 have hpl:=nI e.over x.id
 generalize bZ e x=R at*
 refine qE func190 ntmps190 results190 fun E hE=>?_
 refine qK (hC) (qI 0 7) ?_
 refine qK (hA) (qI 1 1) ?_
 rcases hbA with hi|⟨hi0,hi1⟩
 ·rw [hi]
  refine qX ?_
  rcases hbs with hk|⟨hk0,hk1⟩
  ·refine qK (hK) (qI 0 7) ?_
   refine qB (fun h1=>?_) fun h1=>?_
   ·refine qK (hL) [] ?_
    refine qB (fun h2=>?_) fun h2=>?_
    ·refine qK (hS) (qI 0 7) ?_
     rw [hk]
     refine qX ?_
     rw [hf (by rw [hok];have:=cV (e:=e) (x:=x) (by rintro⟨_,_,hh⟩;omega);simp;omega)]
     refine qX ?_
     exact qF (qI 0 7++qI 10 7++qO 1)
    rw [hf (by rw [hok];have:=cV (e:=e) (x:=x) (by rintro⟨_,hh,_⟩;rw [h2] at hh;cases hh);simp;omega)]
    refine qX ?_
    exact qF (qI 0 7++qI 10 7++qO 1)
   rw [hf (by rw [hok];have:=cV (e:=e) (x:=x) (by rintro⟨hh,_⟩;rw [h1] at hh;cases hh);simp;omega)]
   refine qX ?_
   exact qF (qI 0 7++qI 10 7++qO 1)
  obtain⟨n,hk⟩:=RP hk0
  have hn:n < e.subs.length:=zO
  refine qK (hK) (qI 0 7) ?_
  refine qB (fun h1=>?_) fun h1=>?_
  ·refine qK (hL) [] ?_
   refine qB (fun h2=>?_) fun h2=>?_
   ·refine qK (hS) (qI 0 7) ?_
    rw [hk]
    refine qX ?_
    have hon:=kj h1 h2 hk
    have hq1:=h1
    rw [hf (by rw [hok];simp [hi])]
    refine qX ?_
    exact qF (qI 0 7++qI 10 7++qO 1)
   rw [hf (by rw [hok];have:=cV (e:=e) (x:=x) (by rintro⟨_,hh,_⟩;rw [h2] at hh;cases hh);simp;omega)]
   refine qX ?_
   exact qF (qI 0 7++qI 10 7++qO 1)
  rw [hf (by rw [hok];have:=cV (e:=e) (x:=x) (by rintro⟨hh,_⟩;rw [h1] at hh;cases hh);simp;omega)]
  refine qX ?_
  exact qF (qI 0 7++qI 10 7++qO 1)
 obtain⟨i,hi⟩:=RP hi0
 have hil:i < e.far.length:=zO
 rw [hi]
 refine qX ?_
 rcases hbs with hk|⟨hk0,hk1⟩
 ·refine qK (hK) (qI 0 7) ?_
  refine qB (fun h1=>?_) fun h1=>?_
  ·refine qK (hL) [] ?_
   refine qB (fun h2=>?_) fun h2=>?_
   ·refine qK (hS) (qI 0 7) ?_
    rw [hk]
    refine qX ?_
    rw [hf (by rw [hok];have:=cV (e:=e) (x:=x) (by rintro⟨_,_,hh⟩;omega);simp;omega)]
    refine qX ?_
    exact qF (qI 0 7++qI 10 7++qO 1)
   rw [hf (by rw [hok];have:=cV (e:=e) (x:=x) (by rintro⟨_,hh,_⟩;rw [h2] at hh;cases hh);simp;omega)]
   refine qX ?_
   exact qF (qI 0 7++qI 10 7++qO 1)
  rw [hf (by rw [hok];have:=cV (e:=e) (x:=x) (by rintro⟨hh,_⟩;rw [h1] at hh;cases hh);simp;omega)]
  refine qX ?_
  exact qF (qI 0 7++qI 10 7++qO 1)
 obtain⟨n,hk⟩:=RP hk0
 have hn:n < e.subs.length:=zO
 refine qK (hK) (qI 0 7) ?_
 refine qB (fun h1=>?_) fun h1=>?_
 ·refine qK (hL) [] ?_
  refine qB (fun h2=>?_) fun h2=>?_
  ·refine qK (hS) (qI 0 7) ?_
   rw [hk]
   refine qX ?_
   have hon:=kj h1 h2 hk
   have hq1:=h1
   rw [ht _ (by rw [hok];simp [hon,hi]) hi hil]
   have hdl:(bQ e.far x.id).1.length<=e.far.length:=by rw [ms hi];simp;omega
   refine qX ?_
   refine qK (hD) (qI 1 1) ?_
   refine qK (Li e.over x.id (by have:=w7 hq1;omega)) (qI 6 1) ?_
   refine ir 7 hE (fun s (k:Nat)=>s.at (qU [0,4,7,1,9,50,61,17]) [(60,.sc (.int .i64 (k:Nat)))] (s.hp.set 12 (some ⟨(fE e.far[i].addr e.subs k).map SubD.cs,10,58,true,true⟩))) (fun (k:Nat)=>k<=e.subs.length) (fun (k:Nat)=>e.subs.length - k) 0 (qI 0 20) (qC) (Nat.zero_le _) (aO zF zF ?_) fun k hk N hN=>?_
   ·refine qX ?_
    rw [wX]
   refine ae 400 ?_
   have hsb:=hs.subs
   have hgl:(fE e.far[i].addr e.subs k).length=e.subs.length:=Am
   refine qX ?_
   refine qB (fun h=>?_) fun h=>?_
   ·have hg:∀ p:k < (fE e.far[i].addr e.subs k).length,(fE e.far[i].addr e.subs k)[k]'p=e.subs[k]:=by
     intro p
     have hq:=DN (a:=e.far[i].addr) h
     rw [RS p] at hq
     exact Option.some.inj hq
    try simp (disch:=omega) only [go_sem,seval,hg]
    refine qB (fun h9=>?_) fun h9=>?_
    ·refine qX ?_
     refine⟨qC,hN _ (k+1) (qI 0 20) (by (try dsimp only);exact by omega) (by (try dsimp only);omega) (aO zF zF ?_)⟩
     refine qX ?_
     rw [<-Ao h,RR]
     simp [lK,h9,hg,SubD.cs]
    refine qX ?_
    refine⟨qC,hN _ (k+1) (qI 0 20) (by (try dsimp only);exact by omega) (by (try dsimp only);omega) (aO zF zF ?_)⟩
    refine qX ?_
    rw [wW h h9]
   have hkl:k=e.subs.length:=zO
   subst hkl
   rw [Ap]
   refine qX ?_
   exact qF (qI 0 7++qI 10 1++qI 18 1++qI 12 4++qI 19 1++qO 1)
  rw [hf (by rw [hok];have:=cV (e:=e) (x:=x) (by rintro⟨_,hh,_⟩;rw [h2] at hh;cases hh);simp;omega)]
  refine qX ?_
  exact qF (qI 0 7++qI 10 7++qO 1)
 rw [hf (by rw [hok];have:=cV (e:=e) (x:=x) (by rintro⟨hh,_⟩;rw [h1] at hh;cases hh);simp;omega)]
 refine qX ?_
 exact qF (qI 0 7++qI 10 7++qO 1)
theorem zf (e:EndD) (x:LetterD) (hs:Small e):aP 210 [.ag (e.cs 0),.ag x.cs] (e.hp false) (.tu [.ag ((bY e x).1.cs 7),.sc (.sl 14 0 (bY e x).2.length)])
  (e.hp false++((bY e x).1.hp true++[some ⟨(bY e x).2.map LetterD.cs,19,73,true,true⟩])):=by
 have hC:=(qH (aA e))
 have hK:=(qH (a_ e))
 have hA:=eJ e.own x.id (by have:=hs.own;omega)
 have hS:=iY e x hs
 have hbA:=eY e.own x.id
 have hbd:=gD e x
 have hf:=qh (e:=e) (x:=x)
 have ht:=fun (n:Nat)=> @qi e x n
 have hok:=iG.eq_1 e x
 generalize bY e x=R at*
 refine qE func210 ntmps210 results210 fun E hE=>?_
 refine qK (hC) (qI 0 7) ?_
 refine qK (hA) (qI 0 1) ?_
 rcases hbA with hi|⟨hi0,hi1⟩
 ·rw [hi]
  refine qX ?_
  refine qD [0,1,2,3,4,5,6,7,8,9,10,11,12,13,14,15,16,17,18] ?_
  refine aE (hS) (qI 0 7) ?_
  rcases hbd with hon|⟨n,hon,hk,hn,hq1,hq2⟩
  ·rw [hon]
   refine qX ?_
   rw [hf (g_ hi)]
   refine qG ?_
   exact qF (qI 0 7++qI 10 7++qI 18 1)
  rw [hon]
  refine qX ?_
  rw [hf (g_ hi)]
  refine qG ?_
  exact qF (qI 0 7++qI 10 7++qI 18 1)
 obtain⟨i,hi⟩:=RP hi0
 have hil:i < e.own.length:=zO
 rw [hi]
 refine qX ?_
 refine qD [0,1,2,3,4,5,6,7,8,9,10,11,12,13,14,15,16,17,18] ?_
 refine aE (hS) (qI 0 7) ?_
 rcases hbd with hon|⟨n,hon,hk,hn,hq1,hq2⟩
 ·rw [hon]
  refine qX ?_
  rw [hf (by rw [fr hi hil];have:=hon;simp;omega)]
  refine qG ?_
  exact qF (qI 0 7++qI 10 7++qI 18 1)
 rw [hon]
 refine qX ?_
 refine qG ?_
 refine qB (fun h5=>?_) fun h5=>?_
 ·rw [ht _ (by rw [fr hi hil];simp [hon,h5]) hi hil]
  refine qX ?_
  refine qP (qI 0 7++qI 10 7++qI 18 1) ?_
  first|exact⟨⟩|simp [RR,AddrD.cs]
 rw [hf (by rw [fr hi hil];simp [h5])]
 refine qX ?_
 exact qF (qI 0 7++qI 10 7++qI 18 1)
theorem zg (e:EndD) (x:LetterD) (hs:Small e):aP 211 [.ag (e.cs 0),.ag x.cs] (e.hp false) (.tu [.ag ((bZ e x).1.cs 7),.sc (.sl 14 0 (bZ e x).2.length)])
  (e.hp false++((bZ e x).1.hp true++[some ⟨(bZ e x).2.map LetterD.cs,19,73,true,true⟩])):=by
 have hC:=(qH (aA e))
 have hK:=(qH (a_ e))
 have hA:=eJ e.far x.id (by have:=hs.far;omega)
 have hD:=y9 e.far x.id (by have:=hs.far;omega)
 have hS:=iY e x hs
 have hbA:=eY e.far x.id
 have hbd:=gD e x
 have hf:=wY (e:=e) (x:=x)
 have ht:=fun (n:Nat)=> @wZ e x n
 have hok:=qj.eq_1 e x
 have hpl:=nI e.over x.id
 generalize bZ e x=R at*
 refine qE func211 ntmps211 results211 fun E hE=>?_
 refine qK (hC) (qI 0 7) ?_
 refine qK (hA) (qI 1 1) ?_
 rcases hbA with hi|⟨hi0,hi1⟩
 ·rw [hi]
  refine qX ?_
  refine qK (hS) (qI 0 7) ?_
  rcases hbd with hon|⟨n,hon,hk,hn,hq1,hq2⟩
  ·rw [hon]
   refine qX ?_
   rw [hf (by rw [hok];have:=hon;simp;omega)]
   refine qX ?_
   exact qF (qI 0 7++qI 10 7++qI 18 1)
  rw [hon]
  refine qX ?_
  rw [hf (by rw [hok];simp [hi])]
  refine qX ?_
  exact qF (qI 0 7++qI 10 7++qI 18 1)
 obtain⟨i,hi⟩:=RP hi0
 have hil:i < e.far.length:=zO
 rw [hi]
 refine qX ?_
 refine qK (hS) (qI 0 7) ?_
 rcases hbd with hon|⟨n,hon,hk,hn,hq1,hq2⟩
 ·rw [hon]
  refine qX ?_
  rw [hf (by rw [hok];have:=hon;simp;omega)]
  refine qX ?_
  exact qF (qI 0 7++qI 10 7++qI 18 1)
 rw [hon]
 refine qX ?_
 rw [ht _ (by rw [hok];simp [hon,hi]) hi hil]
 have hdl:(bQ e.far x.id).1.length<=e.far.length:=by rw [ms hi];simp;omega
 refine qX ?_
 refine qK (DE e.over x.id (by have:=w7 hq1;omega)) (qI 6 1) ?_
 refine qK (hD) (qI 1 1) ?_
 refine ir 7 hE (fun s (k:Nat)=>s.at (qU [0,2,3,1,9,58]) [(8,.sc (.int .i64 (k:Nat)))] (s.hp.set 12 (some ⟨(fE e.far[i].addr e.subs k).map SubD.cs,10,58,true,true⟩))) (fun (k:Nat)=>k<=e.subs.length) (fun (k:Nat)=>e.subs.length - k) 0 (qI 0 20) (qC) (Nat.zero_le _) (aO zF zF ?_) fun k hk N hN=>?_
 ·refine qX ?_
  rw [wX]
 refine ae 400 ?_
 have hsb:=hs.subs
 have hgl:(fE e.far[i].addr e.subs k).length=e.subs.length:=Am
 refine qX ?_
 refine qB (fun h=>?_) fun h=>?_
 ·have hg:∀ p:k < (fE e.far[i].addr e.subs k).length,(fE e.far[i].addr e.subs k)[k]'p=e.subs[k]:=by
   intro p
   have hq:=DN (a:=e.far[i].addr) h
   rw [RS p] at hq
   exact Option.some.inj hq
  try simp (disch:=omega) only [go_sem,seval,hg]
  refine qD [0,1,2,3,4,5,6,7,8,9,10,11,12,13] ?_
  refine⟨qC,ae 400 ?_⟩
  try simp (disch:=omega) only [go_sem,seval,hg]
  refine qB (fun h9=>?_) fun h9=>?_
  ·refine qX ?_
   refine⟨qC,hN _ (k+1) (qI 0 20) (by (try dsimp only);exact by omega) (by (try dsimp only);omega) (aO zF zF ?_)⟩
   refine qX ?_
   rw [<-Ao h,RR]
   simp [lK,h9,hg,SubD.cs]
  refine qX ?_
  refine⟨qC,hN _ (k+1) (qI 0 20) (by (try dsimp only);exact by omega) (by (try dsimp only);omega) (aO zF zF ?_)⟩
  refine qX ?_
  rw [wW h h9]
 have hkl:k=e.subs.length:=zO
 subst hkl
 rw [Ap]
 refine qX ?_
 exact qF (qI 0 7++qI 10 1++qI 19 1++qI 12 4++qI 18 1++qI 20 1)
end
section
open Go
theorem kE {P:Program} {S:FuncId->Prop} (hS:∀ g,S g->∀ h∈(P.funcs[g]?).elim [] P.leadsTo,S h):∀ (n:Nat) (todo seen:List FuncId),(∀ x∈todo,S x)->(∀ x∈seen,S x)->∀ x∈P.closureVia n todo seen,S x
 |0,todo,seen,_,hs,x,hx=>by
  unfold Program.closureVia at hx
  exact hs x (RX.1 hx)
 |n+1,[],seen,_,hs,x,hx=>by
  unfold Program.closureVia at hx
  exact hs x (RX.1 hx)
 |n+1,f::todo,seen,ht,hs,x,hx=>by
  unfold Program.closureVia at hx
  split at hx
  ·exact kE hS n todo seen (fun y hy=>ht y (RT _ hy)) hs x hx
  refine kE hS n _ (f::seen) (fun y hy=>?_) (fun y hy=>?_) x hx
  ·rcases List.mem_append.1 hy with hy|hy
   ·exact hS f (ht f (RU ..)) y hy
   exact ht y (RT _ hy)
  rcases List.mem_cons.1 hy with rfl|hy
  ·exact ht y (RU ..)
  exact hs y hy
theorem Fa {P:Program} {S:FuncId->Prop} (hS:∀ g,S g->∀ h∈(P.funcs[g]?).elim [] P.leadsTo,S h) {f:FuncId} (hf:S f):∀ x∈P.closure f,S x:=
 kE hS _ [f] [] (fun x hx=>by rw [List.mem_singleton.1 hx];exact hf) (fun x hx=>by cases hx)
def zE (l:List Nat):List Char:=l.map Char.ofNat
theorem CN (a b:List Nat):zE (a++b)=zE a++zE b:=by simp [zE]
theorem yN (a:Nat) (b:List Nat):zE (a::b)=Char.ofNat a::zE b:=rfl
theorem vu {c:Char} (h:c≠Char.ofNat 32) (r:List Char):wordsSigns (c::r)=match wordsSigns r with
  |w::ws=>(c::w)::ws
  |[]=>[[c]]:=by
 conv=>lhs;unfold wordsSigns
 split
 ·rename_i e
  simp at e
 ·rename_i r' e
  obtain⟨e1,_⟩:=List.cons.inj e
  exact absurd e1 h
 rename_i c' r' _ e
 obtain⟨e1,e2⟩:=List.cons.inj e
 subst e1;subst e2
 rfl
theorem gH:∀ {w:List Char} (r:List Char),(∀ c∈w,c≠Char.ofNat 32)->wordsSigns (w++Char.ofNat 32::r)=w::wordsSigns r
 |[],r,_=>by
  show wordsSigns (Char.ofNat 32::r)=[]::wordsSigns r
  conv=>lhs;unfold wordsSigns
  rfl
 |c::w,r,h=>by
  rw [List.cons_append,vu (h c (RU ..)),gH r (fun x hx=>h x (RT _ hx))]
def vK (l:List Nat):Bool:=(zE l).all fun c=>c != Char.ofNat 32
theorem oy {l:List Nat} (h:vK l=true):∀ c∈zE l,c≠Char.ofNat 32:=by
 intro c hc
 have:=List.all_eq_true.1 h c hc
 simpa using this
theorem G7 {P:Program} {a b c r:List Nat} (h:P.initOrder=String.ofList (zE (a++32::(b++32::(c++32::r))))) (ha:vK a=true) (hb:vK b=true) (hc:vK c=true)
  (hm:((zE a == "harness".toList || zE a == "ownmain".toList) && isSumSigns (zE b))=true):∃ rest,behindMainWord (wordsSigns P.initOrder.toList)=zE c::rest:=by
 refine⟨wordsSigns (zE r),?_⟩
 rw [h,String.toList_ofList,CN,yN,CN,yN,CN,yN,gH _ (oy ha),gH _ (oy hb),gH _ (oy hc)]
 exact if_pos hm
def Fb:List Nat:=[99,117,116]
theorem MB {P:Program} {rest:List (List Char)} (h:behindMainWord (wordsSigns P.initOrder.toList)=zE Fb::rest):P.make=some .cut:=by
 unfold Program.make
 rw [h]
 rfl
theorem J1 {P:Program} {rest:List (List Char)} (h:behindMainWord (wordsSigns P.initOrder.toList)=zE Fb::rest):P.liftsFinal=false:=by
 unfold Program.liftsFinal Program.headLifts
 rw [h]
 rfl
theorem Oe {P:Program} {rest:List (List Char)} (h:behindMainWord (wordsSigns P.initOrder.toList)=zE Fb::rest) (l1:P.laysLater=false) (l2:P.bearsReflect=false) (l3:P.doorRows=[]):P.mayEnter=true:=by
 have l4:P.doorFits []=true:=by
  unfold Program.doorFits
  rw [l3]
  rfl
 unfold Program.mayEnter
 rw [h]
 show ((_ || _) || _)=true
 have e:stripLifts liftWords (zE Fb::rest)=([],zE Fb::rest):=rfl
 rw [e,l1,l2,l4]
 simp only [List.contains_nil,Bool.and_true,Bool.not_false,Bool.or_true,List.head?_cons]
 rw [show (some (zE Fb) == some "cut".toList)=true from by kernel_rfl]
 simp
def Bm (P:Program) (f:FuncId) (fn:Func) (s:ChangeSpec) (c:OpenClaim):Bool:=
 c.wf (OpenSpec.ofChange s) && laidOutB P && mapsRowed P &&
 fn.params.all (P.readableRec ·) && namedTie P c.named s.vars &&
 (c.stops == []) && (P.stops == []) && (c.knobs == []) && (P.stopKnobs == []) &&
 (c.maps == (fn.params.toList++s.plain.varTypes P).any (P.mapsRec ·)) && (c.ifaces == (fn.params.toList++s.plain.varTypes P).any (P.ifacesRec ·)) && (c.mapsOut == P.mapsAmong fn.resultTypes.toList) &&
 (c.loops == (fn.params.toList++s.plain.varTypes P).any (P.loopsFrom ·)) && (c.wideKeys == (fn.params.toList++s.plain.varTypes P++fn.resultTypes.toList).any (P.wideKeysFrom ·)) &&
 s.vars.all (P.varReadable ·) && fn.resultTypes.all (fun t=>P.readableRec t && decide (t < P.types.size)) && (c.ifacesOut == fn.resultTypes.toList.any (P.ifacesRec ·)) && (c.loopsOut == fn.resultTypes.toList.any (P.loopsFrom ·)) && (c.plainKeys == P.plainKeys) && c.shortTexts.isNone && P.stopsHeard && (c.kinds == (if c.domain.isEmpty then [] else fn.params.toList.map fun t=>match P.underlying t with|some (.int k)=>some k|_=>none)) && (c.pinned == c.pinnedBy) &&
 (c.veiled == (fn.params.toList++s.plain.varTypes P++fn.resultTypes.toList).any (P.veiledRec ·)) && c.veiledFits P fn.params.toList (fn.params.toList++s.plain.varTypes P++fn.resultTypes.toList)
end
end Go.Proofs.YteknmpdmhiomgaaGreat
