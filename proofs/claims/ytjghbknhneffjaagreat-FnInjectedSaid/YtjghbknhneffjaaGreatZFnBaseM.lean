/-
  Texts merged for this claim by shake.py: what its proof needs.
-/
import Derived.Test.YtjghbknhneffjaaGreatZFnBaseA
import Derived.Test.YtjghbknhneffjaaGreatZFnBaseB
import Derived.Test.YtjghbknhneffjaaGreatZFnBaseC
import Derived.Test.YtjghbknhneffjaaGreatZFnBaseD
import Derived.Test.YtjghbknhneffjaaGreatZFnBaseE
set_option maxHeartbeats 16000000
set_option maxRecDepth 100000
set_option linter.unusedVariables false
set_option linter.unusedSimpArgs false
namespace Go.Proofs.YtjghbknhneffjaaGreat
section
open Go.RowKit
def Ch (a:EndD) (y:LetterD):EndD:=(aS a y).1
theorem BR {a b:EndD} (h:b.own.length=0):pX a b=(a,b,false):=if_pos h
theorem BS {a b:EndD} {h:AddrD} {x:EndD} {L:List LetterD} (hn:¬ b.own.length=0) (hb:b.own.getD 0 default=h) (ho:eD a h.addr=(x,L)):pX a b=((gb x L b).1,(gb x L b).2,lr (gb x L b).1 (gb x L b).2):=by
 rw [pX,if_neg hn,hb,ho]
theorem wT (a:EndD) (n:Int):(eD a n).2.length<=1:=by rw [eD];split<;>simp
theorem rK {a:EndD} {n:Int} (hs:Small a):Small (eD a n).1:=by
 rw [eD];split
 ·rename_i h
  simp only [mA,Bool.and_eq_true,decide_eq_true_eq] at h
  exact⟨hs.own,hs.far,by simp only [List.length_append,List.length_singleton];omega,hs.halfs,hs.list,hs.done,hs.over⟩
 exact hs
theorem rL {e:EndD} {x:LetterD} (hs:Small e):Small (ax e x).1:=by
 rw [ax];split
 ·rename_i h
  simp only [f8,Bool.and_eq_true,decide_eq_true_eq] at h
  exact⟨hs.own,by simp [dO],by simp only [List.length_append,List.length_singleton];omega,hs.halfs,hs.list,hs.done,hs.over⟩
 exact hs
theorem tX {e:EndD} {x:LetterD} (hs:Small e):Small (aS e x).1:=by
 rw [aS];split
 ·exact⟨hs.own,by simp [dO],by simpa only [List.length_set] using hs.subs,hs.halfs,hs.list,hs.done,hs.over⟩
 exact hs
theorem wU {e:EndD} {x:LetterD}:(ax e x).2.length<=1:=by rw [ax];split<;>simp
theorem tY {x:EndD} {l:List LetterD} {k:Nat} (h:k < l.length):(l.drop k).foldl Ch x=(l.drop (k+1)).foldl Ch (aS x l[k]).1:=by
 rw [List.drop_eq_getElem_cons h];rfl
theorem wV {x:EndD} {l:List LetterD} {k:Nat} (h:l.length<=k):(l.drop k).foldl Ch x=x:=by
 rw [List.drop_eq_nil_of_le h];rfl
theorem tZ (x:EndD) (l:LetterD) (b:EndD):gb x [l] b=((ax b l).2.foldl Ch x,(ax b l).1):=rfl
theorem yW {x b y X Y:EndD} {L bk:List LetterD} {k:Nat} (hXY:gb x L b=(X,Y)) (hL:L.length<=1) (hk:L.length<=k) (f1:k<=L.length) (f4:(k=0/\y=b/\bk=[])\/(k=1/\L.length=1/\∀ h:0 < L.length,(y,bk)=ax b L[0])):bk.foldl Ch x=X/\y=Y:=by
 refine f4.elim (fun h=>?_) (fun h=>?_)
 ·have:L=[]:=List.eq_nil_of_length_eq_zero (by have:=h.1;omega)
  subst this
  rw [h.2.1,h.2.2]
  exact⟨congrArg Prod.fst hXY,congrArg Prod.snd hXY⟩
 have hl:=List.length_eq_one_iff.1 h.2.1
 refine hl.elim fun l hl=>?_
 subst hl
 have h2:=h.2.2 (by simp)
 simp only [List.getElem_cons_zero] at h2
 rw [tZ,<-h2] at hXY
 exact⟨congrArg Prod.fst hXY,congrArg Prod.snd hXY⟩
theorem t6 (x y:EndD):(x.state≠2/\lr x y=false)\/(x.state=2/\y.state≠2/\lr x y=false)\/(x.state=2/\y.state=2/\x.peer≠y.key/\lr x y=false)\/(x.state=2/\y.state=2/\x.peer=y.key/\y.peer≠x.key/\lr x y=false)\/(x.state=2/\y.state=2/\x.peer=y.key/\y.peer=x.key/\lr x y=true):=by
 by_cases h1:x.state=2
 ·by_cases h2:y.state=2
  ·by_cases h3:x.peer=y.key
   ·by_cases h4:y.peer=x.key
    ·simp [lr,h1,h2,h3,h4]
    simp [lr,h1,h2,h3,h4]
   simp [lr,h1,h2,h3]
  simp [lr,h1,h2]
 simp [lr,h1]
theorem Ci (a b:EndD) (ha:Small a) (hb:Small b):aP 167 [.ag (a.cs 0),.ag (b.cs 7)] (a.hp false++b.hp false) (.tu [.ag ((pX a b).1.cs 14),.ag ((pX a b).2.1.cs 21),.sc (.bo (pX a b).2.2)])
  (a.hp false++(b.hp false++((pX a b).1.hp true++(pX a b).2.1.hp true))):=by
 have hCa:=aj a (by have:=ha.own;omega) (by have:=ha.far;omega) (by have:=ha.subs;omega) (by have:=ha.halfs;omega) (by have:=ha.list;omega) (by have:=ha.done;omega) (by have:=ha.over;omega)
 have hCb:=aj b (by have:=hb.own;omega) (by have:=hb.far;omega) (by have:=hb.subs;omega) (by have:=hb.halfs;omega) (by have:=hb.list;omega) (by have:=hb.done;omega) (by have:=hb.over;omega)
 have h0:= @BR a b
 have ht:= @BS a b
 have hbo:=hb.own
 obtain⟨R,hR⟩:∃ R,R=pX a b:=⟨_,rfl⟩
 rw [<-hR] at h0 ht⊢
 clear hR
 refine gU Tryz.func167 Tryz.ntmps167 Tryz.results167 fun E hE=>?_
 refine qB (fun h1=>?_) fun h1=>?_
 ·rw [h0 (by omega)]
  refine qD [0,2,1,3,4,5,6] ?_
  refine aQ (hCa) (qI 0 7) ?_
  refine aQ (hCb) (qI 7 7) ?_
  refine qG ?_
  exact dk (qI 0 14++qI 18 14)
 obtain⟨d,hd⟩:∃ d,b.own[0]'(by omega)=d:=⟨_,rfl⟩
 have hd2:b.own.getD 0 default=d:=by rw [<-hd,List.getD_eq_getElem?_getD,List.getElem?_eq_getElem (by omega)];rfl
 have hO:=wS a d.addr ha
 have hx1:=wT a d.addr
 have hxs:=rK (n:=d.addr) ha
 obtain⟨P,hP⟩:∃ P,P=eD a d.addr:=⟨_,rfl⟩
 rw [<-hP] at hO hx1 hxs
 obtain⟨x,L⟩:=P
 dsimp only at hO hx1 hxs
 have ht:=ht (by omega) hd2 hP.symm
 clear hP
 obtain⟨X,Y,hXY⟩:∃ X Y,gb x L b=(X,Y):=⟨_,_,rfl⟩
 rw [hXY] at ht
 dsimp only at ht
 subst ht
 refine qX ?_
 refine cG [(6,10)] [] [(qU [0,13]),(qU [0,6,10,1,6,4,11,2])] 14 hE (fun s=>s.at (qU [21,10]) [(7,.sc (.pt 26 0 0)),(8,.sc (.sl 25 0 L.length))] (s.hp++(x.hp true++[some ⟨L.map LetterD.cs,19,48,true,true⟩,some ⟨[EndD.cs x 18],25,38,true,false⟩]))) (by kernel_rfl) (qC) (by kernel_rfl) ?_ (ac 400 ?_)
 rotate_left
 rotate_right
 simp only [bm]
 refine⟨aa 400 ?_,aa 400 ?_⟩
 ·try simp (disch:=omega) only [go_sem,seval,hd]
  refine aQ (hO) (qI 0 7) ?_
  refine⟨qC,(qI 0 27),ab (by rfl) (by rfl) ?_⟩
  try simp (disch:=omega) only [go_sem,seval]
 ·try simp (disch:=omega) only [go_sem,seval,hd]
  refine aQ (hO) (qI 0 7) ?_
  refine⟨qC,(qI 0 18++qI 19 8++qI 18 1),ab (by rfl) (by rfl) ?_⟩
  try simp (disch:=omega) only [go_sem,seval]
 refine qX ?_
 refine qK (hCb) (qI 7 7) ?_
 refine tD 14 hE (fun s (y:Nat×EndD×List LetterD)=>s.at (qU [0,3,13,36]) [(11,.sc (.int .i64 (y.1:Nat))),(10,.sc (.sl 35 0 y.2.2.length))] ((s.hp.take 27)++(y.2.1.hp true++[some ⟨[EndD.cs y.2.1 27],25,38,true,false⟩,some ⟨y.2.2.map LetterD.cs,19,48,true,true⟩]))) (fun (y:Nat×EndD×List LetterD)=>y.1<=L.length/\Small y.2.1/\y.2.2.length<=1/\((y.1=0/\y.2.1=b/\y.2.2=[])\/(y.1=1/\L.length=1/\∀ h:0 < L.length,y.2=ax b L[0]))) (fun (y:Nat×EndD×List LetterD)=>L.length - y.1) (0,b,[]) (qI 0 36) (⟨Nat.zero_le _,hb,by simp,.inl ⟨rfl,rfl,rfl⟩⟩) fun y hy N hN=>?_
 obtain⟨k,y,bk⟩:=y
 obtain⟨f1,f2,f3,f4⟩:=hy
 dsimp only at f1 f2 f3 f4
 refine qR ?_
 refine qB (fun b1=>?_) fun b1=>?_
 ·have hgl:=aT (enc:=LetterD.cs) b1
  obtain rfl:k=0:=by omega
  have hH:=gY b L[0] hb
  have hHs:=rL (x:=L[0]) hb
  have hH1:=wU (e:=b) (x:=L[0])
  generalize hl0:L[0]=l0 at*
  obtain⟨Q,hQ⟩:∃ Q,Q=ax b l0:=⟨_,rfl⟩
  rw [<-hQ] at hH hHs hH1
  try simp (disch:=omega) only [go_sem,seval,hl0]
  refine qD [0,1,2,3,4,5,6,7,8,9,10] ?_
  try simp (disch:=omega) only [go_sem,seval,hl0]
  refine aQ (hH) (qI 7 7) ?_
  refine qG ?_
  exact Cs hN (1,Q.1,Q.2) (qI 0 27++qI 36 7++qI 34 1++qI 43 1) (by (try dsimp only);exact⟨by omega,hHs,hH1,.inr ⟨rfl,by omega,fun h=>by rw [hl0,<-hQ]⟩⟩)
 obtain⟨g1,g2⟩:=yW hXY hx1 (show L.length<=k by omega) f1 f4
 subst g2
 clear f4 f1
 refine qX ?_
 refine tD 14 hE (fun s (z:Nat×EndD)=>s.at (qU [0,4,8,1,11,1,13,51]) [(12,.sc (.int .i64 (z.1:Nat)))] ((s.hp.take 18)++(z.2.hp true++(((s.hp.drop 25).take 1)++(some ⟨[EndD.cs z.2 18],25,38,true,false⟩::s.hp.drop 27))))) (fun (z:Nat×EndD)=>z.1<=bk.length/\Small z.2/\(bk.drop z.1).foldl Ch z.2=X) (fun (z:Nat×EndD)=>bk.length - z.1) (0,x) (qI 0 36) (⟨Nat.zero_le _,hxs,g1⟩) fun z hz N2 hN2=>?_
 obtain⟨j,u⟩:=z
 obtain⟨q1,q2,q3⟩:=hz
 dsimp only at q1 q2 q3
 refine qR ?_
 refine qB (fun b2=>?_) fun b2=>?_
 ·have hgm:=aT (enc:=LetterD.cs) b2
  rw [tY b2] at q3
  have hB:=iM u bk[j] q2
  have hBs:=tX (x:=bk[j]) q2
  generalize hm0:bk[j]=m at*
  obtain⟨Q,hQ⟩:∃ Q,Q=aS u m:=⟨_,rfl⟩
  rw [<-hQ] at hB hBs q3
  try simp (disch:=omega) only [go_sem,seval,hm0]
  refine qD [0,1,2,3,4,5,6,7,8,9] ?_
  try simp (disch:=omega) only [go_sem,seval,hm0]
  refine aQ (hB) (qI 18 7) ?_
  refine qG ?_
  exact Cs hN2 (j+1,Q.1) (qI 0 18++qI 36 7++qI 25 11) (by (try dsimp only);exact⟨by omega,hBs,q3⟩)
 rw [wV (by omega)] at q3
 subst q3
 rcases t6 u y with⟨c1,hm⟩|⟨c1,c2,hm⟩|⟨c1,c2,c3,hm⟩|⟨c1,c2,c3,c4,hm⟩|⟨c1,c2,c3,c4,hm⟩
 all_goals
  rw [hm]
  refine qX ?_
  refine aO [(1,24),(19,24),(19,25),(21,24),(21,25)] [(qU [0,1,2,17,20,1,1,1,19,1,21,6]),(qU [0,1,2,17,20,1,1,1,19,1,24,1,21,3,25,2]),(qU [0,1,2,17,20,1,1,1,19,1,24,2,21,3,26,1]),(qU [0,1,2,17,20,1,1,1,21,1,24,1,19,1,22,2,25,2]),(qU [0,1,2,17,20,1,1,1,24,1,19,1,21,3,25,2]),(qU [0,1,2,17,20,1,1,1,24,1,19,1,25,1,21,3,26,1]),(qU [0,1,2,17,20,1,1,1,21,1,24,2,19,1,22,2,26,1]),(qU [0,1,2,17,20,1,1,1,24,1,21,1,25,1,19,1,22,2,26,1]),(qU [0,1,2,17,20,1,1,1,24,2,19,1,21,3,26,1]),(qU [0,1,2,17,20,1,19,1,21,4,1,1,25,2]),(qU [0,1,2,17,20,1,19,1,24,1,1,1,21,3,25,2]),(qU [0,1,2,17,20,1,19,1,24,1,1,1,25,1,21,3,26,1]),(qU [0,1,2,17,20,2,24,1,1,1,19,1,22,2,25,2]),(qU [0,1,2,17,20,1,24,1,1,1,19,1,21,3,25,2]),(qU [0,1,2,17,20,1,24,1,1,1,19,1,25,1,21,3,26,1]),(qU [0,1,2,17,20,2,24,1,1,1,25,1,19,1,22,2,26,1]),(qU [0,1,2,17,20,1,24,1,1,1,21,1,25,1,19,1,22,2,26,1]),(qU [0,1,2,17,20,1,24,1,1,1,25,1,19,1,21,3,26,1])] (by kernel_rfl) (qC) (by kernel_rfl) ?_
  simp only [bm]
  refine⟨aa 400 ?_,aa 400 ?_,aa 400 ?_,aa 400 ?_,aa 400 ?_,aa 400 ?_,aa 400 ?_,aa 400 ?_,aa 400 ?_,aa 400 ?_,aa 400 ?_,aa 400 ?_,aa 400 ?_,aa 400 ?_,aa 400 ?_,aa 400 ?_,aa 400 ?_,aa 400 ?_⟩
  all_goals simp (disch:=omega) only [go_sem,seval]
  all_goals
   refine qG ?_
   exact dk (qI 0 14++qI 18 7++qI 27 7)
theorem DF (b:List UInt8) (hl:b.length<=maxLen):aP 9 [.sc (.sl 0 0 b.length)] [some ⟨b.map ew,1,5,false,true⟩] (.sc (.bo (decide (1048576 < b.length)))) [some ⟨b.map ew,1,5,false,true⟩]:=by
 refine qE Tryz.func9 Tryz.ntmps9 Tryz.results9 fun E hE=>?_
 refine qJ (qI 0 1) ?_
 simp
 omega
end
end Go.Proofs.YtjghbknhneffjaaGreat
