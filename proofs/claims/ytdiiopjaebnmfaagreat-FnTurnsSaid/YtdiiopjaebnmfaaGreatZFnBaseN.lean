/- Lemmas of this claim. -/
import Derived.Test.YtdiiopjaebnmfaaGreatZFnBaseD
set_option maxHeartbeats 16000000
set_option maxRecDepth 100000
set_option linter.unusedVariables false
set_option linter.unusedSimpArgs false
namespace Go.Proofs.YtdiiopjaebnmfaaGreat
open _root_.Go.Proofs.Tryz
open _root_.Bool renaming and_eq_true->KZ
section
open Go.RowKit
theorem sw (r b:Int):aP 100 [.sc (.int .i64 r),.sc (.int .i64 b)] [] (.tu [.ag (BucketD.cs (if bucketOk ⟨r,b,b⟩ then⟨r,b,b⟩ else⟨0,0,0⟩)),.sc (.bo (bucketOk ⟨r,b,b⟩))]) []:=by
 obtain⟨R,hR⟩:∃ R,R=(if bucketOk ⟨r,b,b⟩ then (⟨r,b,b⟩:BucketD) else⟨0,0,0⟩):=⟨_,rfl⟩
 rw [<-hR]
 refine qE func100 ntmps100 results100 fun E hE=>?_
 refine qK (fH ⟨r,b,b⟩) [] ?_
 refine qB (fun h1=>?_) fun h1=>?_
 ·rw [h1,if_neg zP] at hR
  subst hR
  refine qP [] ?_
  first|exact⟨⟩|exact⟨⟨rfl,rfl,rfl⟩,h1⟩
 rw [h1,if_pos rfl] at hR
 subst hR
 refine qP [] ?_
 first|exact⟨⟩|exact⟨⟨rfl,rfl,rfl⟩,h1⟩
theorem yg (n:Int):aA [] ⟨0,n,false,true⟩=if bw (e_ n) then (e_ n,true) else ([],false):=rfl
theorem Fj:bucketOk ⟨1,3,3⟩=true:=by decide
theorem Fk {who n:Int} {p:PolicyD} (h:(co who 1 2 && polOk p && bw (e_ n))=false):jR who n p=(fI,false):=by rw [jR,if_neg (by simp [h])]
theorem yh {who n:Int} {p:PolicyD} (h:(co who 1 2 && polOk p && bw (e_ n))=true):jR who n p=(⟨who,0,0,0,p,e_ n,[],[],[],⟨1,3,3⟩,⟨[],0,0,120⟩,⟨0,[],[]⟩,[],[],1000+who,0,0⟩,true):=if_pos h
theorem oL (who n:Int) (p:PolicyD):aP 82 [.sc (.int .i64 who),.sc (.int .i64 n),.ag p.cs] [] (.tu [.ag ((jR who n p).1.cs 0),.sc (.bo (jR who n p).2)]) ((jR who n p).1.hp true):=by
 have hA:=eW [] ⟨0,n,false,true⟩ zP
 have hB:=sw 1 3
 rw [Fj,if_pos rfl] at hB
 rw [yg] at hA
 have hf:= @Fk who n p
 have ht:= @yh who n p
 generalize jR who n p=R at*
 have hl:(e_ n).length=1:=rfl
 cases hok:bw (e_ n) with
 |false=>
  rw [hok,if_neg zP] at hA
  rw [hf (by simp [hok])]
  refine qE func82 ntmps82 results82 fun E hE=>?_
  refine qK (hA) (qI 2 1) ?_
  refine qK (au _ _ _) [] ?_
  refine qB (fun h1=>?_) fun h1=>?_
  ·refine qK (fE p) [] ?_
   refine qB (fun h2=>?_) fun h2=>?_
   ·refine qJ (qO 7) ?_
    simp [fI]
   refine qJ (qO 7) ?_
   simp [fI]
  refine qJ (qO 7) ?_
  simp [fI]
 |true=>
  rw [hok,if_pos rfl] at hA
  refine qE func82 ntmps82 results82 fun E hE=>?_
  refine qK (hA) (qI 2 1) ?_
  refine qK (au _ _ _) [] ?_
  refine qB (fun h1=>?_) fun h1=>?_
  ·refine qK (fE p) [] ?_
   refine qB (fun h2=>?_) fun h2=>?_
   ·rw [ht (by simp [h1,h2,hok])]
    simp only [co,KZ,decide_eq_true_eq] at h1
    refine qX ?_
    refine qK (hB) [] ?_
    exact qF (qI 3 1++qO 6)
   rw [hf (by simp [h2])]
   refine qX ?_
   refine qJ (qO 7) ?_
   simp [fI]
  rw [hf (by simp [h1])]
  refine qJ (qO 7) ?_
  simp [fI]
theorem GN {e:EndD} {n:Int} (h:rJ e n=false):fX e n=(e,[]):=by rw [fX,if_neg (by simp [h])]
theorem GO {e:EndD} {n:Int} {a:AddrD} (h:rJ e n=true) (ha:e.own.getD 0 default=a):fX e n=({ e with state:=1,key:=e.draw,subs:=e.subs++[⟨⟨a.addr,n,0⟩,1,false,0,0,0,e.draw+2,0⟩],draw:=e.draw+4 },
  [ae ⟨a.addr,n,0⟩ { aj with kind:=1,key:=e.draw,give:=e.draw+2 }]):=by rw [fX,if_pos h,jS,ha]
theorem C7 (e:EndD) (n:Int) (hs:Small e):aP 102 [.ag (e.cs 0),.sc (.int .i64 n)] (e.hp false) (.tu [.ag ((fX e n).1.cs 7),.sc (.sl 14 0 (fX e n).2.length)])
  (e.hp false++((fX e n).1.hp true++[some ⟨(fX e n).2.map LetterD.cs,19,134,true,true⟩])):=by
 have hC:=(qH (ar e))
 have hK:=(qH (aH e))
 have hf:=GN (e:=e) (n:=n)
 have ht:= @GO e n
 have hk:=rJ.eq_1 e n
 have hS:=fun r=>dz e r (by have:=hs.subs;omega)
 rw [jS] at hk
 generalize fX e n=R at*
 refine qE func102 ntmps102 results102 fun E hE=>?_
 refine qK (hC) (qI 0 7) ?_
 refine qD [0,1,2,3,4,5,6,7,8,9,10,11,12,13,14,15,16,17,18,19,20,21,22,23,24,25,26,27,28,29,30,31,32,33,34,35,36,37,38,39,40,41] ?_
 refine cj (hK) (qI 0 7) ?_
 refine qB (fun h1=>?_) fun h1=>?_
 ·refine qB (fun h2=>?_) fun h2=>?_
  ·refine qB (fun h3=>?_) fun h3=>?_
   ·refine cj (au _ _ _) [] ?_
    refine qB (fun h4=>?_) fun h4=>?_
    ·obtain⟨a,ha⟩:∃ a,e.own[0]' zO=a:=⟨_,rfl⟩
     have ha2:e.own.getD 0 default=a:=by rw [<-ha,List.getD_eq_getElem?_getD,List.getElem?_eq_getElem zO];rfl
     rw [ha2] at hk
     try simp (disch:=omega) only [go_sem,seval,ha]
     refine cj (hS ⟨a.addr,n,0⟩) (qI 0 7) ?_
     refine qB (fun h7=>?_) fun h7=>?_
     ·refine qB (fun h5=>?_) fun h5=>?_
      ·refine cj (ec e) (qI 0 7) ?_
       refine qG ?_
       refine qB (fun h6=>?_) fun h6=>?_
       ·rw [hf (by rw [hk];first|(simp [h6];done)|(simp [h6];intros;omega))]
        exact qF (qI 0 7++qI 9 7++qI 17 1)
       rw [ht (a:=a) (by rw [hk,h1,h4,h6,decide_eq_true (by omega:e.state=0),decide_eq_false (by omega:¬ e.own.length=0),decide_eq_true (by have:=cH h1;omega:e.subs.length < 8),decide_eq_true (by omega:aN e.subs ⟨a.addr,n,0⟩< 0)];rfl) ha2]
       have h8':=h6
       simp only [co,KZ,decide_eq_true_eq] at h8'
       have hd1:co e.draw 1 999999998=true:=by simp only [co,KZ,decide_eq_true_eq];omega
       have hd2:co (e.draw+2) 1 999999998=true:=by simp only [co,KZ,decide_eq_true_eq];omega
       refine qK (bO e hs hd1) (qI 9 7) ?_
       refine qK (bO { e with draw:=e.draw+2 } ⟨hs.own,hs.far,hs.subs,hs.halfs,hs.list,hs.done,hs.over⟩ hd2) (qI 18 7) ?_
       try simp (disch:=omega) only [go_sem,seval,ha]
       refine qK (fS { e with state:=1,key:=e.draw,draw:=e.draw+2+2 } ⟨⟨a.addr,n,0⟩,1,false,0,0,0,e.draw+2,0⟩ (by have:=cH h1;dsimp only;omega)) (qI 25 7) ?_
       refine aX [(0,9),(7,0),(8,0)] [(qU [1,8,0,1,9,3]),(qU [1,7,0,1,8,4]),(qU [1,6,0,1,7,5]),(qU [1,9,0,1,10,2])] (by kernel_rfl) (qC) (by kernel_rfl) ?_
       simp only [aR]
       refine⟨aa 400 ?_,aa 400 ?_,aa 400 ?_,aa 400 ?_⟩
       all_goals simp (disch:=omega) only [go_sem,seval]
       all_goals
        refine cj (aI ⟨a.addr,n,0⟩ { aj with kind:=1,key:=e.draw,give:=e.draw+2 }) [] ?_
        refine qG ?_
        refine bN (qI 0 7++qI 25 2++qI 33 1++qI 28 4++qI 35 1) (qC) _ (by simp only [go_sem];rfl) zF zF ?_
        simp (disch:=omega) only [go_sem,seval]
        try simp [SubD.cs,LetterD.cs,ae,aj]
        try omega
      rw [hf (by rw [hk];first|(simp [h5];done)|(simp [h5];intros;omega))]
      refine qG ?_
      exact qF (qI 0 7++qI 9 7++qI 17 1)
     rw [hf (by rw [hk];first|(simp [h7];done)|(simp [h7];intros;omega))]
     refine qG ?_
     exact qF (qI 0 7++qI 9 7++qI 17 1)
    rw [hf (by rw [hk];first|(simp [h4];done)|(simp [h4];intros;omega))]
    refine qG ?_
    exact qF (qI 0 7++qI 9 7++qI 17 1)
   rw [hf (by rw [hk,decide_eq_true (by omega:e.own.length=0)];simp)]
   refine qG ?_
   exact qF (qI 0 7++qI 9 7++qI 17 1)
  rw [hf (by rw [hk];first|(simp [h2];done)|(simp [h2];intros;omega))]
  refine qG ?_
  exact qF (qI 0 7++qI 9 7++qI 17 1)
 rw [hf (by rw [hk];first|(simp [h1];done)|(simp [h1];intros;omega))]
 refine qG ?_
 exact qF (qI 0 7++qI 9 7++qI 17 1)
def IA (a:EndD) (y:LetterD):EndD:=(aT a y).1
theorem Il {a b:EndD} (h:b.own.length=0):jj a b=(a,b,false):=if_pos h
theorem Im {a b:EndD} {h:AddrD} {x:EndD} {L:List LetterD} (hn:¬ b.own.length=0) (hb:b.own.getD 0 default=h) (ho:fX a h.addr=(x,L)):jj a b=((i8 x L b).1,(i8 x L b).2,oQ (i8 x L b).1 (i8 x L b).2):=by
 rw [jj,if_neg hn,hb,ho]
theorem C8 (a:EndD) (n:Int):(fX a n).2.length<=1:=by rw [fX];split<;>simp
theorem yi {a:EndD} {n:Int} (hs:Small a):Small (fX a n).1:=by
 rw [fX];split
 ·rename_i h
  simp only [rJ,KZ,decide_eq_true_eq] at h
  exact⟨hs.own,hs.far,by simp only [List.length_append,List.length_singleton];omega,hs.halfs,hs.list,hs.done,hs.over⟩
 exact hs
theorem yj {e:EndD} {x:LetterD} (hs:Small e):Small (ay e x).1:=by
 rw [ay];split
 ·rename_i h
  simp only [fF,KZ,decide_eq_true_eq] at h
  exact⟨hs.own,by simp [eS],by simp only [List.length_append,List.length_singleton];omega,hs.halfs,hs.list,hs.done,hs.over⟩
 exact hs
theorem Au {e:EndD} {x:LetterD} (hs:Small e):Small (aT e x).1:=by
 rw [aT];split
 ·exact⟨hs.own,by simp [eS],by simpa only [List.length_set] using hs.subs,hs.halfs,hs.list,hs.done,hs.over⟩
 exact hs
theorem C9 {e:EndD} {x:LetterD}:(ay e x).2.length<=1:=by rw [ay];split<;>simp
theorem Av {x:EndD} {l:List LetterD} {k:Nat} (h:k < l.length):(l.drop k).foldl IA x=(l.drop (k+1)).foldl IA (aT x l[k]).1:=by
 rw [List.drop_eq_getElem_cons h];rfl
theorem C_ {x:EndD} {l:List LetterD} {k:Nat} (h:l.length<=k):(l.drop k).foldl IA x=x:=by
 rw [List.drop_eq_nil_of_le h];rfl
theorem Aw (x:EndD) (l:LetterD) (b:EndD):i8 x [l] b=((ay b l).2.foldl IA x,(ay b l).1):=rfl
theorem Fl {x b y X Y:EndD} {L bk:List LetterD} {k:Nat} (hXY:i8 x L b=(X,Y)) (hL:L.length<=1) (hk:L.length<=k) (f1:k<=L.length) (f4:(k=0/\y=b/\bk=[])\/(k=1/\L.length=1/\∀ h:0 < L.length,(y,bk)=ay b L[0])):bk.foldl IA x=X/\y=Y:=by
 refine f4.elim (fun h=>?_) (fun h=>?_)
 ·have:L=[]:=List.eq_nil_of_length_eq_zero (by have:=h.1;omega)
  subst this
  rw [h.2.1,h.2.2]
  exact⟨congrArg Prod.fst hXY,congrArg Prod.snd hXY⟩
 have hl:=List.length_eq_one_iff.1 h.2.1
 refine hl.elim fun l hl=>?_
 subst hl
 have h2:=h.2.2 zP
 simp only [List.getElem_cons_zero] at h2
 rw [Aw,<-h2] at hXY
 exact⟨congrArg Prod.fst hXY,congrArg Prod.snd hXY⟩
theorem Ax (x y:EndD):(x.state≠2/\oQ x y=false)\/(x.state=2/\y.state≠2/\oQ x y=false)\/(x.state=2/\y.state=2/\x.peer≠y.key/\oQ x y=false)\/(x.state=2/\y.state=2/\x.peer=y.key/\y.peer≠x.key/\oQ x y=false)\/(x.state=2/\y.state=2/\x.peer=y.key/\y.peer=x.key/\oQ x y=true):=by
 by_cases h1:x.state=2
 ·by_cases h2:y.state=2
  ·by_cases h3:x.peer=y.key
   ·by_cases h4:y.peer=x.key
    ·simp [oQ,h1,h2,h3,h4]
    simp [oQ,h1,h2,h3,h4]
   simp [oQ,h1,h2,h3]
  simp [oQ,h1,h2]
 simp [oQ,h1]
theorem Da (a b:EndD) (ha:Small a) (hb:Small b):aP 84 [.ag (a.cs 0),.ag (b.cs 7)] (a.hp false++b.hp false) (.tu [.ag ((jj a b).1.cs 14),.ag ((jj a b).2.1.cs 21),.sc (.bo (jj a b).2.2)])
  (a.hp false++(b.hp false++((jj a b).1.hp true++(jj a b).2.1.hp true))):=by
 have hCa:=ar a (by have:=ha.own;omega) (by have:=ha.far;omega) (by have:=ha.subs;omega) (by have:=ha.halfs;omega) (by have:=ha.list;omega) (by have:=ha.done;omega) (by have:=ha.over;omega)
 have hCb:=ar b (by have:=hb.own;omega) (by have:=hb.far;omega) (by have:=hb.subs;omega) (by have:=hb.halfs;omega) (by have:=hb.list;omega) (by have:=hb.done;omega) (by have:=hb.over;omega)
 have h0:= @Il a b
 have ht:= @Im a b
 have hbo:=hb.own
 obtain⟨R,hR⟩:∃ R,R=jj a b:=⟨_,rfl⟩
 rw [<-hR] at h0 ht⊢
 clear hR
 refine FE func84 ntmps84 results84 fun E hE=>?_
 refine qB (fun h1=>?_) fun h1=>?_
 ·rw [h0 zO]
  refine qD [0,2,1,3,4,5,6] ?_
  refine cj (hCa) (qI 0 7) ?_
  refine cj (hCb) (qI 7 7) ?_
  refine qG ?_
  exact iO (qI 0 14++qI 18 14)
 obtain⟨d,hd⟩:∃ d,b.own[0]' zO=d:=⟨_,rfl⟩
 have hd2:b.own.getD 0 default=d:=by rw [<-hd,List.getD_eq_getElem?_getD,List.getElem?_eq_getElem zO];rfl
 have hO:=C7 a d.addr ha
 have hx1:=C8 a d.addr
 have hxs:=yi (n:=d.addr) ha
 obtain⟨P,hP⟩:∃ P,P=fX a d.addr:=⟨_,rfl⟩
 rw [<-hP] at hO hx1 hxs
 obtain⟨x,L⟩:=P
 dsimp only at hO hx1 hxs
 have ht:=ht zO hd2 hP.symm
 clear hP
 obtain⟨X,Y,hXY⟩:∃ X Y,i8 x L b=(X,Y):=⟨_,_,rfl⟩
 rw [hXY] at ht
 dsimp only at ht
 subst ht
 refine qX ?_
 refine gr [(6,10)] [] [(qU [0,13]),(qU [0,6,10,1,6,4,11,2])] 14 hE (fun s=>s.at (qU [21,10]) [(7,.sc (.pt 26 0 0)),(8,.sc (.sl 25 0 L.length))] (s.hp++(x.hp true++[some ⟨L.map LetterD.cs,19,134,true,true⟩,some ⟨[EndD.cs x 18],25,38,true,false⟩]))) (by kernel_rfl) (qC) (by kernel_rfl) ?_ (af 400 ?_)
 rotate_left
 rotate_right
 simp only [aR]
 refine⟨aa 400 ?_,aa 400 ?_⟩
 ·try simp (disch:=omega) only [go_sem,seval,hd]
  refine cj (hO) (qI 0 7) ?_
  exact qZ (qI 0 27)
 ·try simp (disch:=omega) only [go_sem,seval,hd]
  refine cj (hO) (qI 0 7) ?_
  exact qZ (qI 0 18++qI 19 8++qI 18 1)
 refine qX ?_
 refine qK (hCb) (qI 7 7) ?_
 refine uW 14 hE (fun s (y:Nat×EndD×List LetterD)=>s.at (qU [0,3,13,36]) [(11,.sc (.int .i64 (y.1:Nat))),(10,.sc (.sl 35 0 y.2.2.length))] ((s.hp.take 27)++(y.2.1.hp true++[some ⟨[EndD.cs y.2.1 27],25,38,true,false⟩,some ⟨y.2.2.map LetterD.cs,19,134,true,true⟩]))) (fun (y:Nat×EndD×List LetterD)=>y.1<=L.length/\Small y.2.1/\y.2.2.length<=1/\((y.1=0/\y.2.1=b/\y.2.2=[])\/(y.1=1/\L.length=1/\∀ h:0 < L.length,y.2=ay b L[0]))) (fun (y:Nat×EndD×List LetterD)=>L.length - y.1) (0,b,[]) (qI 0 36) (⟨Nat.zero_le _,hb,zP,.inl ⟨rfl,rfl,rfl⟩⟩) fun y hy N hN=>?_
 obtain⟨k,y,bk⟩:=y
 obtain⟨f1,f2,f3,f4⟩:=hy
 dsimp only at f1 f2 f3 f4
 refine qR ?_
 refine qB (fun b1=>?_) fun b1=>?_
 ·have hgl:=bW (enc:=LetterD.cs) b1
  obtain rfl:k=0:=zO
  have hH:=jI b L[0] hb
  have hHs:=yj (x:=L[0]) hb
  have hH1:=C9 (e:=b) (x:=L[0])
  generalize hl0:L[0]=l0 at*
  obtain⟨Q,hQ⟩:∃ Q,Q=ay b l0:=⟨_,rfl⟩
  rw [<-hQ] at hH hHs hH1
  try simp (disch:=omega) only [go_sem,seval,hl0]
  refine qD [0,1,2,3,4,5,6,7,8,9,10] ?_
  try simp (disch:=omega) only [go_sem,seval,hl0]
  refine cj (hH) (qI 7 7) ?_
  refine qG ?_
  exact HM hN (1,Q.1,Q.2) (qI 0 27++qI 36 7++qI 34 1++qI 43 1) (by (try dsimp only);exact⟨zO,hHs,hH1,.inr ⟨rfl,zO,fun h=>by rw [hl0,<-hQ]⟩⟩)
 obtain⟨g1,g2⟩:=Fl hXY hx1 (show L.length<=k by omega) f1 f4
 subst g2
 clear f4 f1
 refine qX ?_
 refine uW 14 hE (fun s (z:Nat×EndD)=>s.at (qU [0,4,8,1,11,1,13,51]) [(12,.sc (.int .i64 (z.1:Nat)))] ((s.hp.take 18)++(z.2.hp true++(((s.hp.drop 25).take 1)++(some ⟨[EndD.cs z.2 18],25,38,true,false⟩::s.hp.drop 27))))) (fun (z:Nat×EndD)=>z.1<=bk.length/\Small z.2/\(bk.drop z.1).foldl IA z.2=X) (fun (z:Nat×EndD)=>bk.length - z.1) (0,x) (qI 0 36) (⟨Nat.zero_le _,hxs,g1⟩) fun z hz N2 hN2=>?_
 obtain⟨j,u⟩:=z
 obtain⟨q1,q2,q3⟩:=hz
 dsimp only at q1 q2 q3
 refine qR ?_
 refine qB (fun b2=>?_) fun b2=>?_
 ·have hgm:=bW (enc:=LetterD.cs) b2
  rw [Av b2] at q3
  have hB:=kM u bk[j] q2
  have hBs:=Au (x:=bk[j]) q2
  generalize hm0:bk[j]=m at*
  obtain⟨Q,hQ⟩:∃ Q,Q=aT u m:=⟨_,rfl⟩
  rw [<-hQ] at hB hBs q3
  try simp (disch:=omega) only [go_sem,seval,hm0]
  refine qD [0,1,2,3,4,5,6,7,8,9] ?_
  try simp (disch:=omega) only [go_sem,seval,hm0]
  refine cj (hB) (qI 18 7) ?_
  refine qG ?_
  exact HM hN2 (j+1,Q.1) (qI 0 18++qI 36 7++qI 25 11) (by (try dsimp only);exact⟨zO,hBs,q3⟩)
 rw [C_ zO] at q3
 subst q3
 rcases Ax u y with⟨c1,hm⟩|⟨c1,c2,hm⟩|⟨c1,c2,c3,hm⟩|⟨c1,c2,c3,c4,hm⟩|⟨c1,c2,c3,c4,hm⟩
 all_goals
  rw [hm]
  refine qX ?_
  refine aX [(1,24),(19,24),(19,25),(21,24),(21,25)] [(qU [0,1,2,17,20,1,1,1,19,1,21,6]),(qU [0,1,2,17,20,1,1,1,19,1,24,1,21,3,25,2]),(qU [0,1,2,17,20,1,1,1,19,1,24,2,21,3,26,1]),(qU [0,1,2,17,20,1,1,1,21,1,24,1,19,1,22,2,25,2]),(qU [0,1,2,17,20,1,1,1,24,1,19,1,21,3,25,2]),(qU [0,1,2,17,20,1,1,1,24,1,19,1,25,1,21,3,26,1]),(qU [0,1,2,17,20,1,1,1,21,1,24,2,19,1,22,2,26,1]),(qU [0,1,2,17,20,1,1,1,24,1,21,1,25,1,19,1,22,2,26,1]),(qU [0,1,2,17,20,1,1,1,24,2,19,1,21,3,26,1]),(qU [0,1,2,17,20,1,19,1,21,4,1,1,25,2]),(qU [0,1,2,17,20,1,19,1,24,1,1,1,21,3,25,2]),(qU [0,1,2,17,20,1,19,1,24,1,1,1,25,1,21,3,26,1]),(qU [0,1,2,17,20,2,24,1,1,1,19,1,22,2,25,2]),(qU [0,1,2,17,20,1,24,1,1,1,19,1,21,3,25,2]),(qU [0,1,2,17,20,1,24,1,1,1,19,1,25,1,21,3,26,1]),(qU [0,1,2,17,20,2,24,1,1,1,25,1,19,1,22,2,26,1]),(qU [0,1,2,17,20,1,24,1,1,1,21,1,25,1,19,1,22,2,26,1]),(qU [0,1,2,17,20,1,24,1,1,1,25,1,19,1,21,3,26,1])] (by kernel_rfl) (qC) (by kernel_rfl) ?_
  simp only [aR]
  refine⟨aa 400 ?_,aa 400 ?_,aa 400 ?_,aa 400 ?_,aa 400 ?_,aa 400 ?_,aa 400 ?_,aa 400 ?_,aa 400 ?_,aa 400 ?_,aa 400 ?_,aa 400 ?_,aa 400 ?_,aa 400 ?_,aa 400 ?_,aa 400 ?_,aa 400 ?_,aa 400 ?_⟩
  all_goals simp (disch:=omega) only [go_sem,seval]
  all_goals
   refine qG ?_
   exact iO (qI 0 14++qI 18 7++qI 27 7)
end
end Go.Proofs.YtdiiopjaebnmfaaGreat
