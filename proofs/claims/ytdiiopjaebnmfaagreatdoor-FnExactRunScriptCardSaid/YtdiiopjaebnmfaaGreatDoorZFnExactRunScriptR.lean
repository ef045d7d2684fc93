/- Lemmas of this claim. -/
import Derived.Test.YtdiiopjaebnmfaaGreatDoorZFnExactRunScriptI
set_option maxHeartbeats 16000000
set_option maxRecDepth 100000
set_option linter.unusedVariables false
set_option linter.unusedSimpArgs false
namespace Go.Proofs.YtdiiopjaebnmfaaGreatDoor
open _root_.Go.Proofs.Tryz
section
open Go.RowKit
def dE (s:Int) (p:PolicyD):EndD:=⟨s,0,0,0,p,gQ (10*s+1),[],[],[],⟨1,3,3⟩,⟨[],0,0,120⟩,⟨0,[],[]⟩,[],[],1000+s,0,0⟩
def y7 (e:EndD):Bool:=decide (e.own.length<=1048576) && decide (e.far.length<=1048576) && decide (e.subs.length<=1048576) && decide (e.halfs.length<=1048576) && decide (e.inp.list.length<=1048576) && decide (e.done.length<=1048576) && decide (e.over.length<=1048576)
theorem lj {e:EndD} (h:y7 e=true):Small e:=by
 simp only [y7,Bool.and_eq_true,decide_eq_true_eq] at h
 exact⟨h.1.1.1.1.1.1,h.1.1.1.1.1.2,h.1.1.1.1.2,h.1.1.1.2,h.1.1.2,h.1.2,h.2⟩
def MJ (a:EndD) (y:LetterD):EndD:=(bE a y).1
theorem K_ {a b:EndD} (h:b.own.length=0):ib a b=(a,b,false):=if_pos h
theorem La {a b:EndD} {h:AddrD} {x:EndD} {L:List LetterD} (hn:¬ b.own.length=0) (hb:b.own.getD 0 default=h) (ho:gR a h.addr=(x,L)):ib a b=((jh x L b).1,(jh x L b).2,vY (jh x L b).1 (jh x L b).2):=by
 rw [ib,if_neg hn,hb,ho]
theorem BD (a:EndD) (n:Int):(gR a n).2.length<=1:=by rw [gR];split<;>simp
theorem vI {a:EndD} {n:Int} (hs:Small a):Small (gR a n).1:=by
 rw [gR];split
 ·rename_i h
  simp only [uu,Bool.and_eq_true,decide_eq_true_eq] at h
  exact⟨hs.own,hs.far,by simp only [List.length_append,List.length_singleton];omega,hs.halfs,hs.list,hs.done,hs.over⟩
 exact hs
theorem vJ {e:EndD} {x:LetterD} (hs:Small e):Small (aW e x).1:=by
 rw [aW];split
 ·rename_i h
  simp only [ku,Bool.and_eq_true,decide_eq_true_eq] at h
  exact⟨hs.own,by simp [gF],by simp only [List.length_append,List.length_singleton];omega,hs.halfs,hs.list,hs.done,hs.over⟩
 exact hs
theorem zd {e:EndD} {x:LetterD} (hs:Small e):Small (bE e x).1:=by
 rw [bE];split
 ·exact⟨hs.own,by simp [gF],by simpa only [List.length_set] using hs.subs,hs.halfs,hs.list,hs.done,hs.over⟩
 exact hs
theorem BE {e:EndD} {x:LetterD}:(aW e x).2.length<=1:=by rw [aW];split<;>simp
theorem Ff {x y:EndD} {l:List LetterD} {k:Nat} (h:k < l.length):jh x (l.drop k) y=jh ((aW y l[k]).2.foldl MJ x) (l.drop (k+1)) (aW y l[k]).1:=by
 rw [List.drop_eq_getElem_cons h];rfl
theorem Gv {x y:EndD} {l:List LetterD} {k:Nat} (h:l.length<=k):jh x (l.drop k) y=(x,y):=by
 rw [List.drop_eq_nil_of_le h];rfl
theorem ze {x:EndD} {l:List LetterD} {k:Nat} (h:k < l.length):(l.drop k).foldl MJ x=(l.drop (k+1)).foldl MJ (bE x l[k]).1:=by
 rw [List.drop_eq_getElem_cons h];rfl
theorem BF {x:EndD} {l:List LetterD} {k:Nat} (h:l.length<=k):(l.drop k).foldl MJ x=x:=by
 rw [List.drop_eq_nil_of_le h];rfl
theorem Gw (x:EndD) (l:LetterD) (b:EndD):jh x [l] b=((aW b l).2.foldl MJ x,(aW b l).1):=rfl
theorem Lb {x b y X Y:EndD} {L bk:List LetterD} {k:Nat} (hXY:jh x L b=(X,Y)) (hL:L.length<=1) (hk:L.length<=k) (f1:k<=L.length) (f4:(k=0/\y=b/\bk=[])\/(k=1/\L.length=1/\∀ h:0 < L.length,(y,bk)=aW b L[0])):bk.foldl MJ x=X/\y=Y:=by
 refine f4.elim (fun h=>?_) (fun h=>?_)
 ·have:L=[]:=List.eq_nil_of_length_eq_zero (by have:=h.1;omega)
  subst this
  rw [h.2.1,h.2.2]
  exact⟨congrArg Prod.fst hXY,congrArg Prod.snd hXY⟩
 have hl:=List.length_eq_one_iff.1 h.2.1
 refine hl.elim fun l hl=>?_
 subst hl
 have h2:=h.2.2 zP
 simp only [List.getElem_cons_zero] at h2
 rw [Gw,<-h2] at hXY
 exact⟨congrArg Prod.fst hXY,congrArg Prod.snd hXY⟩
theorem zf (x y:EndD):(x.state≠2/\vY x y=false)\/(x.state=2/\y.state≠2/\vY x y=false)\/(x.state=2/\y.state=2/\x.peer≠y.key/\vY x y=false)\/(x.state=2/\y.state=2/\x.peer=y.key/\y.peer≠x.key/\vY x y=false)\/(x.state=2/\y.state=2/\x.peer=y.key/\y.peer=x.key/\vY x y=true):=by
 by_cases h1:x.state=2
 ·by_cases h2:y.state=2
  ·by_cases h3:x.peer=y.key
   ·by_cases h4:y.peer=x.key
    ·simp [vY,h1,h2,h3,h4]
    simp [vY,h1,h2,h3,h4]
   simp [vY,h1,h2,h3]
  simp [vY,h1,h2]
 simp [vY,h1]
theorem Jc (a b:EndD) (ha:Small a) (hb:Small b):aP 54 [.ag (a.cs 0),.ag (b.cs 7)] (a.hp false++b.hp false) (.tu [.ag ((ib a b).1.cs 14),.ag ((ib a b).2.1.cs 21),.sc (.bo (ib a b).2.2)])
  (a.hp false++(b.hp false++((ib a b).1.hp true++(ib a b).2.1.hp true))):=by
 have hCa:=aG a (by have:=ha.own;omega) (by have:=ha.far;omega) (by have:=ha.subs;omega) (by have:=ha.halfs;omega) (by have:=ha.list;omega) (by have:=ha.done;omega) (by have:=ha.over;omega)
 have hCb:=aG b (by have:=hb.own;omega) (by have:=hb.far;omega) (by have:=hb.subs;omega) (by have:=hb.halfs;omega) (by have:=hb.list;omega) (by have:=hb.done;omega) (by have:=hb.over;omega)
 have h0:= @K_ a b
 have ht:= @La a b
 have hbo:=hb.own
 obtain⟨R,hR⟩:∃ R,R=ib a b:=⟨_,rfl⟩
 rw [<-hR] at h0 ht⊢
 clear hR
 refine ix func54 ntmps54 results54 fun E hE=>?_
 refine qB (fun h1=>?_) fun h1=>?_
 ·rw [h0 zO]
  refine qD [0,2,1,3,4,5,6] ?_
  refine aE (hCa) (qI 0 7) ?_
  refine aE (hCb) (qI 7 7) ?_
  refine qG ?_
  exact cP (qI 0 14++qI 18 14)
 obtain⟨d,hd⟩:∃ d,b.own[0]' zO=d:=⟨_,rfl⟩
 have hd2:b.own.getD 0 default=d:=by rw [<-hd,List.getD_eq_getElem?_getD,List.getElem?_eq_getElem zO];rfl
 have hO:=Ja a d.addr ha
 have hx1:=BD a d.addr
 have hxs:=vI (n:=d.addr) ha
 obtain⟨P,hP⟩:∃ P,P=gR a d.addr:=⟨_,rfl⟩
 rw [<-hP] at hO hx1 hxs
 obtain⟨x,L⟩:=P
 dsimp only at hO hx1 hxs
 have ht:=ht zO hd2 hP.symm
 clear hP
 obtain⟨X,Y,hXY⟩:∃ X Y,jh x L b=(X,Y):=⟨_,_,rfl⟩
 rw [hXY] at ht
 dsimp only at ht
 subst ht
 refine qX ?_
 refine aR [(6,10)] [] [(qU [0,13]),(qU [0,6,10,1,6,4,11,2])] 14 hE (fun s=>s.at (qU [26,10]) [(7,.sc (.pt 26 0 0)),(8,.sc (.sl 25 0 L.length))] (s.hp++(x.hp true++[some ⟨L.map LetterD.cs,19,36,true,true⟩,some ⟨[EndD.cs x 18],25,54,true,false⟩]))) zXk (qC) zXk ?_ (ab 400 ?_)
 rotate_left
 rotate_right
 simp only [aM]
 refine⟨aa 400 ?_,aa 400 ?_⟩
 ·try simp (disch:=omega) only [go_sem,seval,hd]
  refine aE (hO) (qI 0 7) ?_
  exact qZ (qI 0 27)
 ·try simp (disch:=omega) only [go_sem,seval,hd]
  refine aE (hO) (qI 0 7) ?_
  exact qZ (qI 0 18++qI 19 8++qI 18 1)
 refine qX ?_
 refine qK (hCb) (qI 7 7) ?_
 refine qX ?_
 refine pB 14 hE (fun s (y:Nat×EndD×EndD)=>s.at (qU [0,4,8,1,11,3,15,23,41,25]) [(40,.sc (.int .i64 (y.1:Nat)))] ((s.hp.take 18)++(y.2.1.hp true++(((s.hp.drop 25).take 1)++(some ⟨[EndD.cs y.2.1 18],25,54,true,false⟩::(y.2.2.hp true++[some ⟨[EndD.cs y.2.2 27],25,54,true,false⟩])))))) (fun (y:Nat×EndD×EndD)=>y.1<=L.length/\Small y.2.1/\Small y.2.2/\jh y.2.1 (L.drop y.1) y.2.2=(X,Y)) (fun (y:Nat×EndD×EndD)=>L.length - y.1) (0,x,b) (qI 0 35) (⟨Nat.zero_le _,hxs,hb,hXY⟩) fun y hy N hN=>?_
 obtain⟨k,u,y⟩:=y
 obtain⟨f1,f2,f3,f4⟩:=hy
 dsimp only at f1 f2 f3 f4
 refine qR ?_
 refine qB (fun b1=>?_) fun b1=>?_
 ·have hgl:=aC (enc:=LetterD.cs) b1
  rw [Ff b1] at f4
  have hH:=oq y L[k] f3
  have hHs:=vJ (x:=L[k]) f3
  have hH1:=BE (e:=y) (x:=L[k])
  generalize hl0:L[k]=l0 at*
  obtain⟨Q,hQ⟩:∃ Q,Q=aW y l0:=⟨_,rfl⟩
  rw [<-hQ] at hH hHs hH1 f4
  obtain⟨y1,bk⟩:=Q
  dsimp only at hH hHs hH1 f4
  try simp (disch:=omega) only [go_sem,seval,hl0]
  refine qK (hH) (qI 27 7) ?_
  refine qX ?_
  refine pB 14 hE (fun s (z:Nat×EndD)=>s.at (qU [0,4,8,1,15,23,42,9,54,12]) [(53,.sc (.int .i64 (z.1:Nat)))] ((s.hp.take 18)++(z.2.hp true++(((s.hp.drop 25).take 1)++(some ⟨[EndD.cs z.2 18],25,54,true,false⟩::s.hp.drop 27))))) (fun (z:Nat×EndD)=>z.1<=bk.length/\Small z.2/\(bk.drop z.1).foldl MJ z.2=bk.foldl MJ u) (fun (z:Nat×EndD)=>bk.length - z.1) (0,u) (qI 0 45) (⟨Nat.zero_le _,f2,rfl⟩) fun z hz N2 hN2=>?_
  obtain⟨j,v⟩:=z
  obtain⟨q1,q2,q3⟩:=hz
  dsimp only at q1 q2 q3
  refine qR ?_
  refine qB (fun b2=>?_) fun b2=>?_
  ·have hgm:=aC (enc:=LetterD.cs) b2
   rw [ze b2] at q3
   have hB:=pU v bk[j] q2
   have hBs:=zd (x:=bk[j]) q2
   generalize hm0:bk[j]=m at*
   obtain⟨Q,hQ⟩:∃ Q,Q=bE v m:=⟨_,rfl⟩
   rw [<-hQ] at hB hBs q3
   try simp (disch:=omega) only [go_sem,seval,hm0]
   refine qK (hB) (qI 18 7) ?_
   refine qX ?_
   exact Mc hN2 (j+1,Q.1) (qI 0 18++qI 46 7++qI 25 20) (by (try dsimp only);exact⟨zO,hBs,q3⟩)
  rw [BF zO] at q3
  rw [<-q3] at f4
  refine qX ?_
  exact Mc hN (k+1,v,y1) (qI 0 27++qI 36 7++qI 34 1) (by (try dsimp only);exact⟨zO,q2,hHs,f4⟩)
 rw [Gv zO] at f4
 simp only [Prod.mk.injEq] at f4
 obtain⟨rfl,rfl⟩:=f4
 rcases zf u y with⟨c1,hm⟩|⟨c1,c2,hm⟩|⟨c1,c2,c3,hm⟩|⟨c1,c2,c3,c4,hm⟩|⟨c1,c2,c3,c4,hm⟩
 all_goals
  rw [hm]
  refine qX ?_
  refine aB [(1,24),(19,24),(19,25),(21,24),(21,25)] [(qU [0,1,2,17,20,1,1,1,19,1,21,6]),(qU [0,1,2,17,20,1,1,1,19,1,24,1,21,3,25,2]),(qU [0,1,2,17,20,1,1,1,19,1,24,2,21,3,26,1]),(qU [0,1,2,17,20,1,1,1,21,1,24,1,19,1,22,2,25,2]),(qU [0,1,2,17,20,1,1,1,24,1,19,1,21,3,25,2]),(qU [0,1,2,17,20,1,1,1,24,1,19,1,25,1,21,3,26,1]),(qU [0,1,2,17,20,1,1,1,21,1,24,2,19,1,22,2,26,1]),(qU [0,1,2,17,20,1,1,1,24,1,21,1,25,1,19,1,22,2,26,1]),(qU [0,1,2,17,20,1,1,1,24,2,19,1,21,3,26,1]),(qU [0,1,2,17,20,1,19,1,21,4,1,1,25,2]),(qU [0,1,2,17,20,1,19,1,24,1,1,1,21,3,25,2]),(qU [0,1,2,17,20,1,19,1,24,1,1,1,25,1,21,3,26,1]),(qU [0,1,2,17,20,2,24,1,1,1,19,1,22,2,25,2]),(qU [0,1,2,17,20,1,24,1,1,1,19,1,21,3,25,2]),(qU [0,1,2,17,20,1,24,1,1,1,19,1,25,1,21,3,26,1]),(qU [0,1,2,17,20,2,24,1,1,1,25,1,19,1,22,2,26,1]),(qU [0,1,2,17,20,1,24,1,1,1,21,1,25,1,19,1,22,2,26,1]),(qU [0,1,2,17,20,1,24,1,1,1,25,1,19,1,21,3,26,1])] zXk (qC) zXk ?_
  simp only [aM]
  refine⟨aa 400 ?_,aa 400 ?_,aa 400 ?_,aa 400 ?_,aa 400 ?_,aa 400 ?_,aa 400 ?_,aa 400 ?_,aa 400 ?_,aa 400 ?_,aa 400 ?_,aa 400 ?_,aa 400 ?_,aa 400 ?_,aa 400 ?_,aa 400 ?_,aa 400 ?_,aa 400 ?_⟩
  all_goals simp (disch:=omega) only [go_sem,seval]
  all_goals
   refine qG ?_
   exact cP (qI 0 14++qI 18 7++qI 27 7)
theorem Jd (a b:EndD) (ha:Small a) (hb:Small b):aP 107 [.ag (a.cs 0),.ag (b.cs 7)] (a.hp false++b.hp false) (.tu [.ag ((ib a b).1.cs 14),.ag ((ib a b).2.1.cs 21),.sc (.bo (ib a b).2.2)])
  (a.hp false++(b.hp false++((ib a b).1.hp true++(ib a b).2.1.hp true))):=by
 have hCa:=aF a (by have:=ha.own;omega) (by have:=ha.far;omega) (by have:=ha.subs;omega) (by have:=ha.halfs;omega) (by have:=ha.list;omega) (by have:=ha.done;omega) (by have:=ha.over;omega)
 have hCb:=aF b (by have:=hb.own;omega) (by have:=hb.far;omega) (by have:=hb.subs;omega) (by have:=hb.halfs;omega) (by have:=hb.list;omega) (by have:=hb.done;omega) (by have:=hb.over;omega)
 have h0:= @K_ a b
 have ht:= @La a b
 have hbo:=hb.own
 obtain⟨R,hR⟩:∃ R,R=ib a b:=⟨_,rfl⟩
 rw [<-hR] at h0 ht⊢
 clear hR
 refine ix func107 ntmps107 results107 fun E hE=>?_
 refine qB (fun h1=>?_) fun h1=>?_
 ·rw [h0 zO]
  refine qD [0,2,1,3,4,5,6] ?_
  refine aE (hCa) (qI 0 7) ?_
  refine aE (hCb) (qI 7 7) ?_
  refine qG ?_
  exact cP (qI 0 14++qI 18 14)
 obtain⟨d,hd⟩:∃ d,b.own[0]' zO=d:=⟨_,rfl⟩
 have hd2:b.own.getD 0 default=d:=by rw [<-hd,List.getD_eq_getElem?_getD,List.getElem?_eq_getElem zO];rfl
 have hO:=Jb a d.addr ha
 have hx1:=BD a d.addr
 have hxs:=vI (n:=d.addr) ha
 obtain⟨P,hP⟩:∃ P,P=gR a d.addr:=⟨_,rfl⟩
 rw [<-hP] at hO hx1 hxs
 obtain⟨x,L⟩:=P
 dsimp only at hO hx1 hxs
 have ht:=ht zO hd2 hP.symm
 clear hP
 obtain⟨X,Y,hXY⟩:∃ X Y,jh x L b=(X,Y):=⟨_,_,rfl⟩
 rw [hXY] at ht
 dsimp only at ht
 subst ht
 refine qX ?_
 refine aR [(6,10)] [] [(qU [0,13]),(qU [0,6,10,1,6,4,11,2])] 14 hE (fun s=>s.at (qU [21,10]) [(7,.sc (.pt 26 0 0)),(8,.sc (.sl 25 0 L.length))] (s.hp++(x.hp true++[some ⟨L.map LetterD.cs,19,36,true,true⟩,some ⟨[EndD.cs x 18],25,54,true,false⟩]))) zXk (qC) zXk ?_ (ab 400 ?_)
 rotate_left
 rotate_right
 simp only [aM]
 refine⟨aa 400 ?_,aa 400 ?_⟩
 ·try simp (disch:=omega) only [go_sem,seval,hd]
  refine aE (hO) (qI 0 7) ?_
  exact qZ (qI 0 27)
 ·try simp (disch:=omega) only [go_sem,seval,hd]
  refine aE (hO) (qI 0 7) ?_
  exact qZ (qI 0 18++qI 19 8++qI 18 1)
 refine qX ?_
 refine qK (hCb) (qI 7 7) ?_
 refine pB 14 hE (fun s (y:Nat×EndD×List LetterD)=>s.at (qU [0,3,13,36]) [(11,.sc (.int .i64 (y.1:Nat))),(10,.sc (.sl 35 0 y.2.2.length))] ((s.hp.take 27)++(y.2.1.hp true++[some ⟨[EndD.cs y.2.1 27],25,54,true,false⟩,some ⟨y.2.2.map LetterD.cs,19,36,true,true⟩]))) (fun (y:Nat×EndD×List LetterD)=>y.1<=L.length/\Small y.2.1/\y.2.2.length<=1/\((y.1=0/\y.2.1=b/\y.2.2=[])\/(y.1=1/\L.length=1/\∀ h:0 < L.length,y.2=aW b L[0]))) (fun (y:Nat×EndD×List LetterD)=>L.length - y.1) (0,b,[]) (qI 0 36) (⟨Nat.zero_le _,hb,zP,.inl ⟨rfl,rfl,rfl⟩⟩) fun y hy N hN=>?_
 obtain⟨k,y,bk⟩:=y
 obtain⟨f1,f2,f3,f4⟩:=hy
 dsimp only at f1 f2 f3 f4
 refine qR ?_
 refine qB (fun b1=>?_) fun b1=>?_
 ·have hgl:=aC (enc:=LetterD.cs) b1
  obtain rfl:k=0:=zO
  have hH:=ot b L[0] hb
  have hHs:=vJ (x:=L[0]) hb
  have hH1:=BE (e:=b) (x:=L[0])
  generalize hl0:L[0]=l0 at*
  obtain⟨Q,hQ⟩:∃ Q,Q=aW b l0:=⟨_,rfl⟩
  rw [<-hQ] at hH hHs hH1
  try simp (disch:=omega) only [go_sem,seval,hl0]
  refine qD [0,1,2,3,4,5,6,7,8,9,10] ?_
  try simp (disch:=omega) only [go_sem,seval,hl0]
  refine aE (hH) (qI 7 7) ?_
  refine qG ?_
  exact Mc hN (1,Q.1,Q.2) (qI 0 27++qI 36 7++qI 34 1++qI 43 1) (by (try dsimp only);exact⟨zO,hHs,hH1,.inr ⟨rfl,zO,fun h=>by rw [hl0,<-hQ]⟩⟩)
 obtain⟨g1,g2⟩:=Lb hXY hx1 (show L.length<=k by omega) f1 f4
 subst g2
 clear f4 f1
 refine qX ?_
 refine pB 14 hE (fun s (z:Nat×EndD)=>s.at (qU [0,4,8,1,11,1,13,51]) [(12,.sc (.int .i64 (z.1:Nat)))] ((s.hp.take 18)++(z.2.hp true++(((s.hp.drop 25).take 1)++(some ⟨[EndD.cs z.2 18],25,54,true,false⟩::s.hp.drop 27))))) (fun (z:Nat×EndD)=>z.1<=bk.length/\Small z.2/\(bk.drop z.1).foldl MJ z.2=X) (fun (z:Nat×EndD)=>bk.length - z.1) (0,x) (qI 0 36) (⟨Nat.zero_le _,hxs,g1⟩) fun z hz N2 hN2=>?_
 obtain⟨j,u⟩:=z
 obtain⟨q1,q2,q3⟩:=hz
 dsimp only at q1 q2 q3
 refine qR ?_
 refine qB (fun b2=>?_) fun b2=>?_
 ·have hgm:=aC (enc:=LetterD.cs) b2
  rw [ze b2] at q3
  have hB:=pV u bk[j] q2
  have hBs:=zd (x:=bk[j]) q2
  generalize hm0:bk[j]=m at*
  obtain⟨Q,hQ⟩:∃ Q,Q=bE u m:=⟨_,rfl⟩
  rw [<-hQ] at hB hBs q3
  try simp (disch:=omega) only [go_sem,seval,hm0]
  refine qD [0,1,2,3,4,5,6,7,8,9] ?_
  try simp (disch:=omega) only [go_sem,seval,hm0]
  refine aE (hB) (qI 18 7) ?_
  refine qG ?_
  exact Mc hN2 (j+1,Q.1) (qI 0 18++qI 36 7++qI 25 11) (by (try dsimp only);exact⟨zO,hBs,q3⟩)
 rw [BF zO] at q3
 subst q3
 rcases zf u y with⟨c1,hm⟩|⟨c1,c2,hm⟩|⟨c1,c2,c3,hm⟩|⟨c1,c2,c3,c4,hm⟩|⟨c1,c2,c3,c4,hm⟩
 all_goals
  rw [hm]
  refine qX ?_
  refine aB [(1,24),(19,24),(19,25),(21,24),(21,25)] [(qU [0,1,2,17,20,1,1,1,19,1,21,6]),(qU [0,1,2,17,20,1,1,1,19,1,24,1,21,3,25,2]),(qU [0,1,2,17,20,1,1,1,19,1,24,2,21,3,26,1]),(qU [0,1,2,17,20,1,1,1,21,1,24,1,19,1,22,2,25,2]),(qU [0,1,2,17,20,1,1,1,24,1,19,1,21,3,25,2]),(qU [0,1,2,17,20,1,1,1,24,1,19,1,25,1,21,3,26,1]),(qU [0,1,2,17,20,1,1,1,21,1,24,2,19,1,22,2,26,1]),(qU [0,1,2,17,20,1,1,1,24,1,21,1,25,1,19,1,22,2,26,1]),(qU [0,1,2,17,20,1,1,1,24,2,19,1,21,3,26,1]),(qU [0,1,2,17,20,1,19,1,21,4,1,1,25,2]),(qU [0,1,2,17,20,1,19,1,24,1,1,1,21,3,25,2]),(qU [0,1,2,17,20,1,19,1,24,1,1,1,25,1,21,3,26,1]),(qU [0,1,2,17,20,2,24,1,1,1,19,1,22,2,25,2]),(qU [0,1,2,17,20,1,24,1,1,1,19,1,21,3,25,2]),(qU [0,1,2,17,20,1,24,1,1,1,19,1,25,1,21,3,26,1]),(qU [0,1,2,17,20,2,24,1,1,1,25,1,19,1,22,2,26,1]),(qU [0,1,2,17,20,1,24,1,1,1,21,1,25,1,19,1,22,2,26,1]),(qU [0,1,2,17,20,1,24,1,1,1,25,1,19,1,21,3,26,1])] zXk (qC) zXk ?_
  simp only [aM]
  refine⟨aa 400 ?_,aa 400 ?_,aa 400 ?_,aa 400 ?_,aa 400 ?_,aa 400 ?_,aa 400 ?_,aa 400 ?_,aa 400 ?_,aa 400 ?_,aa 400 ?_,aa 400 ?_,aa 400 ?_,aa 400 ?_,aa 400 ?_,aa 400 ?_,aa 400 ?_,aa 400 ?_⟩
  all_goals simp (disch:=omega) only [go_sem,seval]
  all_goals
   refine qG ?_
   exact cP (qI 0 14++qI 18 7++qI 27 7)
end
end Go.Proofs.YtdiiopjaebnmfaaGreatDoor
