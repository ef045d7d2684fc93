/- Lemmas of this claim. -/
import Derived.Test.YtdiiopjaebnmfaaGreatZFnBaseD
import Derived.Test.YtdiiopjaebnmfaaGreatZFnBaseF
set_option maxHeartbeats 16000000
set_option maxRecDepth 100000
set_option linter.unusedVariables false
set_option linter.unusedSimpArgs false
namespace Go.Proofs.YtdiiopjaebnmfaaGreat
open _root_.Go.Proofs.Tryz
open _root_.Int renaming eq_ofNat_of_zero_le->KZ
open _root_.Nat renaming zero_le->K0,add_zero->Ld
open _root_.List renaming length_set->K1,drop_of_length_le->K2,drop_eq_nil_of_le->K3,map_cons->K4,getElem_mem->K6,append_nil->K7,map_set->K8,getD_eq_getElem?_getD->K9,getElem?_eq_getElem->K_,length_map->La,nil_append->Lb,length_append->Lc
open _root_.Bool renaming and_eq_true->K5
section
open Go.RowKit
theorem sN (e:EndD) (x:LetterD) (hs:Small e):aP 141 [.ag (e.cs 0),.ag x.cs] (e.hp false) (.tu [.ag ((bH e x).1.cs 7),.sc (.sl 14 0 (bH e x).2.length)])
  (e.hp false++((bH e x).1.hp true++[some ⟨(bH e x).2.map LetterD.cs,19,134,true,true⟩])):=by
 have hC:=(qH (ar e))
 have hK:=(qH (aH e))
 have hA:=c_ e.far x.id (by have:=hs.far;omega)
 have hH:=n8 e.over x.id (by have:=hs.over;omega)
 have hS:=fv e x hs
 have hbA:=ir e.far x.id
 have hbd:=gW e x
 have hf:=qr (e:=e) (x:=x)
 have ht:=fun (n:Nat)=> @qs e x n
 have hok:=gk.eq_1 e x
 generalize bH e x=R at*
 refine qE func141 ntmps141 results141 fun E hE=>?_
 refine qK (hC) (qI 0 7) ?_
 refine qK (hS) (qI 0 7) ?_
 have hcmp:=TagD.cmp x.tag ⟨3,e.peer,e.key,x.id,x.addr⟩
 simp only [TagD.cs,go_sem] at hcmp
 rcases hbd with hon|⟨n,hon,hk,hn,hq1,hq2⟩
 ·rw [hf (by rw [hok];simp [hon]),hon]
  refine qX ?_
  refine qD [0,1,2,3,4,5,6,7,8,9,10,11,12,13,14,15,16,17,18,19,20,21,22] ?_
  refine qG ?_
  exact qF (qI 0 7++qI 10 7++qI 18 1)
 rw [hon]
 refine qX ?_
 refine qD [0,1,2,3,4,5,6,7,8,9,10,11,12,13,14,15,16,17,18,19,20,21,22] ?_
 refine cj (l9 _ _ _ _) [] ?_
 try simp (disch:=omega) only [go_sem,seval,hcmp]
 refine qB (fun h4=>?_) fun h4=>?_
 ·refine cj (hH) (qI 6 1) ?_
  refine qG ?_
  refine qB (fun h5=>?_) fun h5=>?_
  ·rw [hf (by rw [hok];simp [h5])]
   refine qX ?_
   exact qF (qI 0 7++qI 10 7++qI 18 1)
  refine qX ?_
  refine qK (hA) (qI 1 1) ?_
  rcases hbA with hi|⟨hi0,hi1⟩
  ·rw [hi]
   refine qX ?_
   have hoth:=zr hi
   refine qD [0,1,2,3,4,5,6,7,8,9,10,11,12] ?_
   refine qG ?_
   have hP:=eW e.far (gd x) (by have:=ko hq1;omega)
   obtain⟨Q,hQ⟩:∃ Q,Q=aA e.far (gd x):=⟨_,rfl⟩
   have hQl:Q.1.length<=1048576:=by rw [hQ];have:=ko hq1;have:=eV e.far (gd x);unfold aA;split<;>dsimp only<;>omega
   rw [<-hQ] at hP
   refine qX ?_
   refine qK (hP) (qI 1 1) ?_
   refine qB (fun h7=>?_) fun h7=>?_
   ·rw [hf (by rw [hok,<-hQ];simp [h7])]
    refine qX ?_
    exact qF (qI 0 7++qI 10 7++qI 18 1)
   rw [ht _ (by rw [hok,hoth,<-hQ];simp [hon,h4,h5,h7]) hon hn,<-hQ]
   refine qX ?_
   refine aX [(0,17),(3,0),(15,0),(16,0)] [(qU [1,2,4,11,3,1,15,2,0,1,17,3]),(qU [1,2,4,11,3,1,15,1,0,1,16,4]),(qU [1,2,4,11,3,1,0,1,15,5]),(qU [1,2,4,11,0,1,3,1,15,5]),(qU [1,2,4,11,3,1,15,3,0,1,18,2])] (by kernel_rfl) (qC) (by kernel_rfl) ?_
   simp only [aR]
   refine⟨aa 400 ?_,aa 400 ?_,aa 400 ?_,aa 400 ?_,aa 400 ?_⟩
   all_goals simp (disch:=omega) only [go_sem,seval]
   all_goals
    refine cj (bS x) [] ?_
    refine cj (aI (roadOf x) { aj with kind:=9,sgn:=e.subs[n].give,id:=x.id,addr:=x.addr }) [] ?_
    refine qG ?_
    refine qP (qI 0 7++qI 10 1++qI 19 1++qI 12 5++qI 21 1) ?_
    first|exact⟨⟩|simp [og,ae,LetterD.cs]
  obtain⟨i,hi⟩:=KZ hi0
  have hil:i < e.far.length:=zO
  have hoth:=zt hi hil
  rw [hi]
  refine qX ?_
  refine qD [0,1,2,3,4,5,6,7,8,9,10,11,12] ?_
  refine qG ?_
  refine qB (fun h6=>?_) fun h6=>?_
  ·rw [hf (by rw [hok,hoth];simp [h6])]
   refine qX ?_
   exact qF (qI 0 7++qI 10 7++qI 18 1)
  simp only [h6,decide_true,Bool.not_true] at hoth
  have hP:=eW e.far (gd x) (by have:=ko hq1;omega)
  obtain⟨Q,hQ⟩:∃ Q,Q=aA e.far (gd x):=⟨_,rfl⟩
  have hQl:Q.1.length<=1048576:=by rw [hQ];have:=ko hq1;have:=eV e.far (gd x);unfold aA;split<;>dsimp only<;>omega
  rw [<-hQ] at hP
  refine qX ?_
  refine qK (hP) (qI 1 1) ?_
  refine qB (fun h7=>?_) fun h7=>?_
  ·rw [hf (by rw [hok,<-hQ];simp [h7])]
   refine qX ?_
   exact qF (qI 0 7++qI 10 7++qI 18 1)
  rw [ht _ (by rw [hok,hoth,<-hQ];simp [hon,h4,h5,h7]) hon hn,<-hQ]
  refine qX ?_
  refine aX [(0,17),(3,0),(15,0),(16,0)] [(qU [1,2,4,11,3,1,15,2,0,1,17,3]),(qU [1,2,4,11,3,1,15,1,0,1,16,4]),(qU [1,2,4,11,3,1,0,1,15,5]),(qU [1,2,4,11,0,1,3,1,15,5]),(qU [1,2,4,11,3,1,15,3,0,1,18,2])] (by kernel_rfl) (qC) (by kernel_rfl) ?_
  simp only [aR]
  refine⟨aa 400 ?_,aa 400 ?_,aa 400 ?_,aa 400 ?_,aa 400 ?_⟩
  all_goals simp (disch:=omega) only [go_sem,seval]
  all_goals
   refine cj (bS x) [] ?_
   refine cj (aI (roadOf x) { aj with kind:=9,sgn:=e.subs[n].give,id:=x.id,addr:=x.addr }) [] ?_
   refine qG ?_
   refine qP (qI 0 7++qI 10 1++qI 19 1++qI 12 5++qI 21 1) ?_
   first|exact⟨⟩|simp [og,ae,LetterD.cs]
 rw [hf (by rw [hok];simp [h4])]
 refine qG ?_
 exact qF (qI 0 7++qI 10 7++qI 18 1)
theorem mf (a b:PieceD) (ha:0<=a.pos/\a.pos<=4000000000) (hb:0<=b.pos/\b.pos<=4000000000) (la:a.text.length<=1048576) (lb:b.text.length<=1048576)
  (t1:¬ a.pos+(a.text.length:Int) < b.pos) (t2:¬ b.pos+(b.text.length:Int) < a.pos):aP 121 [.ag a.cs,.ag b.cs] [] (.ag (fh a b).cs) []:=by
 by_cases h:b.pos < a.pos
 ·obtain⟨n,hn⟩:=KZ (show 0<=a.pos - b.pos by omega)
  rw [EA hn zO]
  have hp:a.pos=b.pos+(n:Int):=zO
  have hlt:(b.text.take n).length=n:=by simp;omega
  refine qE func121 ntmps121 results121 fun E hE=>?_
  try simp (disch:=omega) only [go_sem,seval,hn]
  refine qB (fun h3=>?_) fun h3=>?_
  ·refine qX ?_
   refine qB (fun h4=>?_) fun h4=>?_
   ·have he:((n:Int)+(a.text.length:Int)).toNat=n+a.text.length:=zO
    have hd:(b.text.drop (n+a.text.length)).length<=b.text.length:=by simp
    try simp (disch:=omega) only [go_sem,seval,he]
    refine bN [] (by (try simp (disch:=omega) only [go_sem,K1,seval,he])<;>omega) _ (by simp only [go_sem];rfl) zF zF ?_
    simp (disch:=omega) only [go_sem,seval]
   refine qX ?_
   refine qJ [] ?_
   rw [K2 zO]
   simp
  have h5:n=b.text.length:=zO
  refine qX ?_
  refine qJ [] ?_
  rw [K2 zO,List.take_of_length_le zO]
  simp
 obtain⟨n,hn⟩:=KZ (show 0<=b.pos - a.pos by omega)
 rw [EB hn]
 have hp:b.pos=a.pos+(n:Int):=zO
 refine qE func121 ntmps121 results121 fun E hE=>?_
 try simp (disch:=omega) only [go_sem,seval,hn]
 refine qB (fun h3=>?_) fun h3=>?_
 ·refine qJ [] ?_
  rw [K2 zO]
  simp
 have he:((b.text.length:Int) - ((n:Int)+(b.text.length:Int) - (a.text.length:Int))).toNat=a.text.length - n:=zO
 have hd:(b.text.drop (a.text.length - n)).length<=b.text.length:=by simp
 refine qD [0,1,2,3,4,5,6,7,8,9,10,11,12,13,14] ?_
 try simp (disch:=omega) only [go_sem,seval,he]
 refine⟨by (try simp (disch:=omega) only [go_sem,K1,seval,he])<;>omega,af 400 ?_⟩
 try simp (disch:=omega) only [go_sem,seval,he]
 exact qF []
theorem kO (p:PiecesD) (n:Int) (t:List UInt8) (hs:SmallP p):aP 99 [.ag (p.cs 0),.sc (.int .i64 n),.sc (.st t)] (p.hp false) (.ag ((putPiece p n t).cs 1))
  (p.hp false++(putPiece p n t).hp true):=by
 have hO:=bG p hs.list
 have hN:=dv p
 have hf:=KG (p:=p) (n:=n) (t:=t)
 have hold:=H2 (p:=p) (n:=n) (t:=t)
 have hcut:=fun k=> @H3 p n t k
 have hnew:=H4 (p:=p) (n:=n) (t:=t)
 have hok:=sQ.eq_1 p n t
 generalize putPiece p n t=R at*
 refine B0 func99 (by kernel_rfl) rfl fun E hE=>af 400 ?_
 simp (disch:=omega) only [ntmps99,results99,go_sem,seval]
 refine qK (iR p hs.list) (qI 0 1) ?_
 refine qK (hO) (qI 0 1) ?_
 refine qB (fun h1=>?_) fun h1=>?_
 ·refine qK (au n 0 1000000000) [] ?_
  rw [vf]
  refine qX ?_
  refine qB (fun h2=>?_) fun h2=>?_
  ·refine qX ?_
   refine qK (au (t.length:Int) 1 200) [] ?_
   refine qB (fun h3=>?_) fun h3=>?_
   ·rw [hf (by rw [hok];simp [h3])]
    refine qX ?_
    refine bR (qI 0 1++qI 3 1) (qC) _ (by simp only [go_sem];rfl) zF zF ?_
    simp (disch:=omega) only [go_sem,seval]
   have hok1:sQ p n t=true:=by rw [hok];simp [h1,h2,h3]
   have hF:=bh h1 hs
   have hn1:=h2
   have hn3:=h3
   simp only [kj,co,K5,decide_eq_true_eq] at hn1 hn3
   have hr0:=hF.r0
   have hr1:=hF.r1
   have hrl:=hF.list
   have hrr:=hF.ready
   have hnx:=hF.next
   refine qX ?_
   refine qK (hN) (qI 0 1) ?_
   refine qB (fun h4=>?_) fun h4=>?_
   ·rw [hold hok1 h4]
    refine qX ?_
    refine bR (qI 0 1++qI 3 1) (qC) _ (by simp only [go_sem];rfl) zF zF ?_
    simp (disch:=omega) only [go_sem,seval]
   refine qX ?_
   refine qB (fun h7=>?_) fun h7=>?_
   ·obtain⟨m,hm⟩:=KZ (show 0<=nextOf p - n by omega)
    rw [hcut m hok1 hm zO zO]
    have hnn:nextOf p=n+(m:Int):=zO
    have hI0:PpI 0 ⟨⟨nextOf p,t.drop m⟩,false,[]⟩:=qy zO zO zS
    have hadd:n+(m:Int)=nextOf p:=zO
    try simp (disch:=omega) only [go_sem,seval,hm,hadd]
    obtain⟨G,hG⟩:∃ G,nm ⟨⟨nextOf p,t.drop m⟩,false,[]⟩ p.list=G:=⟨_,rfl⟩
    refine ki 1 hE (fun s (x:Nat×PpS)=>s.at (qU [0,3,9,1,13,100]) [(12,.sc (.int .i64 (x.1:Nat))),(11,.sc (.bo x.2.laid))] ([some ⟨p.list.map PieceD.cs,2,90,false,true⟩,some ⟨[p.cs 0],3,35,true,false⟩,some ⟨[[.int .i64 0,.st [],.nil]],3,35,true,false⟩,some ⟨p.list.map PieceD.cs,2,90,true,true⟩,some ⟨[p.cs 3],3,35,true,false⟩,some ⟨[x.2.own.cs],2,90,true,false⟩,some ⟨x.2.acc.map PieceD.cs,2,90,true,true⟩,some ⟨[[.int .i64 p.read,.st p.ready,.sl 6 0 x.2.acc.length]],3,35,true,false⟩])) (fun (x:Nat×PpS)=>x.1<=p.list.length/\PpI x.1 x.2/\nm x.2 (p.list.drop x.1)=G) (fun (x:Nat×PpS)=>p.list.length - x.1) (0,⟨⟨nextOf p,t.drop m⟩,false,[]⟩) (qI 0 8) (⟨K0 _,hI0,hG⟩) fun x hx N hN=>?_
    obtain⟨k,g⟩:=x
    obtain⟨hk1,hI,hgo⟩:=hx
    dsimp only at hk1 hI hgo
    have hIo:=hI.own
    have hIp:=hI.pos
    have hIa:=hI.acc
    have hac:g.acc.length<=100:=by split at hIa<;>omega
    refine qR ?_
    refine qB (fun h=>?_) fun h=>?_
    ·have hm:=hF.texts p.list[k] (K6 h)
     obtain⟨hm1,hm2,hm3⟩:=hm
     rw [tP h] at hgo
     refine qX ?_
     refine qB (fun h2=>?_) fun h2=>?_
     ·rw [xl zO] at hgo
      refine qX ?_
      refine wO hN (k+1,⟨g.own,g.laid,g.acc++[p.list[k]]⟩) (qI 0 6++qI 10 1++qI 7 1) (by (try dsimp only);exact⟨zO,Bh hI hm1,hgo⟩) ?_
      first|exact⟨⟩|simp [PieceD.cs]
     refine qX ?_
     refine qB (fun h3=>?_) fun h3=>?_
     ·rw [xm zO zO] at hgo
      cases hgl:g.laid with
      |true=>
       rw [hgl,if_pos rfl] at hgo
       try simp (disch:=omega) only [go_sem,seval,hgl]
       refine wO hN (k+1,⟨g.own,true,g.acc++[p.list[k]]⟩) (qI 0 6++qI 10 1++qI 7 1) (by (try dsimp only);exact⟨zO,zA hI hgl hm1,hgo⟩) ?_
       first|exact⟨⟩|simp [PieceD.cs]
      |false=>
       rw [hgl,if_neg zP] at hgo
       try simp (disch:=omega) only [go_sem,seval,hgl]
       refine wO hN (k+1,⟨g.own,true,g.acc++[g.own]++[p.list[k]]⟩) (qI 0 6++qI 12 1++qI 7 1) (by (try dsimp only);exact⟨zO,zB hI zO hgl hm1,hgo⟩) ?_
       first|exact⟨⟩|simp [PieceD.cs]
     rw [xn zO zO] at hgo
     refine qX ?_
     refine qK (mf p.list[k] g.own zO zO zO zO zO zO) [] ?_
     refine wO hN (k+1,⟨fh p.list[k] g.own,g.laid,g.acc⟩) (qI 0 8) (by (try dsimp only);exact⟨zO,EC hI hm1 hm2 hm3,hgo⟩) ?_
     first|exact⟨⟩|simp [PieceD.cs]
    have hkl:k=p.list.length:=zO
    rw [xo zO] at hgo
    subst hgo
    obtain⟨y,r,hyr,hyt,hyl⟩:=qz hI zO
    rw [xp hG hyr]
    have hyr':=hyr
    rw [iw] at hyr'
    cases hgl:g.laid with
    |true=>
     rw [hgl,if_pos rfl] at hyr'
     rw [hyr']
     try simp (disch:=omega) only [go_sem,seval,hgl,K4]
     refine qD [0,1,2,3,4,5,6,7] ?_
     refine cj (dv ⟨p.read,p.ready,y::r⟩) (qI 6 1) ?_
     refine⟨qC,af 400 ?_⟩
     rw [show nextOf ⟨p.read,p.ready,y::r⟩=nextOf p from rfl]
     refine qX ?_
     refine qB (fun h5=>?_) fun h5=>?_
     ·refine qD [0,1,2,3,4,5,6,7,8,9] ?_
      refine⟨qC,af 400 ?_⟩
      have hE1:= @pg p y r h5
      refine qX ?_
      refine qK (bG ⟨p.read,p.ready++y.text,r⟩ (by simp at hyl⊢;omega)) [some (6,some 1)] ?_
      refine qB (fun h6=>?_) fun h6=>?_
      ·rw [gX (by rw [hE1];exact h6)]
       refine qX ?_
       refine bR (qI 0 1++qI 3 1) (qC) _ (by simp only [go_sem];rfl) zF zF ?_
       simp (disch:=omega) only [go_sem,seval]
      rw [gY (by rw [hE1];exact h6),hE1]
      refine qX ?_
      refine bR [some (0,none),some (6,some 1)] (qC) _ (by simp only [go_sem];rfl) zF zF ?_
      simp (disch:=omega) only [go_sem,seval]
      try simp
     have hE1:= @ph p y r h5
     refine qX ?_
     refine qK (bG ⟨p.read,p.ready,y::r⟩ (by simp at hyl⊢;omega)) (qI 6 1) ?_
     refine qB (fun h6=>?_) fun h6=>?_
     ·rw [gX (by rw [hE1];exact h6)]
      refine qX ?_
      refine bR (qI 0 1++qI 3 1) (qC) _ (by simp only [go_sem];rfl) zF zF ?_
      simp (disch:=omega) only [go_sem,seval]
     rw [gY (by rw [hE1];exact h6),hE1]
     refine qX ?_
     refine bR (qI 0 1++qI 6 1) (qC) _ (by simp only [go_sem];rfl) zF zF ?_
     simp (disch:=omega) only [go_sem,seval]
     try simp
    |false=>
     rw [hgl,if_neg zP] at hyr'
     have e1:g.acc.map PieceD.cs++[g.own.cs]=PieceD.cs y::r.map PieceD.cs:=by rw [<-K4,<-hyr'];simp
     have e2:g.acc.length+1=r.length+1:=by have:=congrArg List.length hyr';simpa using this
     simp only [PieceD.cs] at e1
     try simp (disch:=omega) only [go_sem,seval,hgl,e1,e2]
     refine qD [0,1,2,3,4,5,6,7] ?_
     refine cj (dv ⟨p.read,p.ready,y::r⟩) (qI 9 1) ?_
     refine⟨qC,af 400 ?_⟩
     rw [show nextOf ⟨p.read,p.ready,y::r⟩=nextOf p from rfl]
     refine qX ?_
     refine qB (fun h5=>?_) fun h5=>?_
     ·refine qD [0,1,2,3,4,5,6,7,8,9] ?_
      refine⟨qC,af 400 ?_⟩
      have hE1:= @pg p y r h5
      refine qX ?_
      refine qK (bG ⟨p.read,p.ready++y.text,r⟩ (by simp at hyl⊢;omega)) [some (9,some 1)] ?_
      refine qB (fun h6=>?_) fun h6=>?_
      ·rw [gX (by rw [hE1];exact h6)]
       refine qX ?_
       refine bR (qI 0 1++qI 3 1) (qC) _ (by simp only [go_sem];rfl) zF zF ?_
       simp (disch:=omega) only [go_sem,seval]
      rw [gY (by rw [hE1];exact h6),hE1]
      refine qX ?_
      refine bR [some (0,none),some (9,some 1)] (qC) _ (by simp only [go_sem];rfl) zF zF ?_
      simp (disch:=omega) only [go_sem,seval]
      try simp
     have hE1:= @ph p y r h5
     refine qX ?_
     refine qK (bG ⟨p.read,p.ready,y::r⟩ (by simp at hyl⊢;omega)) (qI 9 1) ?_
     refine qB (fun h6=>?_) fun h6=>?_
     ·rw [gX (by rw [hE1];exact h6)]
      refine qX ?_
      refine bR (qI 0 1++qI 3 1) (qC) _ (by simp only [go_sem];rfl) zF zF ?_
      simp (disch:=omega) only [go_sem,seval]
     rw [gY (by rw [hE1];exact h6),hE1]
     refine qX ?_
     refine bR (qI 0 1++qI 9 1) (qC) _ (by simp only [go_sem];rfl) zF zF ?_
     simp (disch:=omega) only [go_sem,seval]
     try simp
   rw [hnew hok1 zO]
   have hI0:PpI 0 ⟨⟨n,t⟩,false,[]⟩:=qy zO zO zO
   refine qX ?_
   obtain⟨G,hG⟩:∃ G,nm ⟨⟨n,t⟩,false,[]⟩ p.list=G:=⟨_,rfl⟩
   refine ki 1 hE (fun s (x:Nat×PpS)=>s.at (qU [0,3,9,1,13,100]) [(12,.sc (.int .i64 (x.1:Nat))),(11,.sc (.bo x.2.laid))] ([some ⟨p.list.map PieceD.cs,2,90,false,true⟩,some ⟨[p.cs 0],3,35,true,false⟩,some ⟨[[.int .i64 0,.st [],.nil]],3,35,true,false⟩,some ⟨p.list.map PieceD.cs,2,90,true,true⟩,some ⟨[p.cs 3],3,35,true,false⟩,some ⟨[x.2.own.cs],2,90,true,false⟩,some ⟨x.2.acc.map PieceD.cs,2,90,true,true⟩,some ⟨[[.int .i64 p.read,.st p.ready,.sl 6 0 x.2.acc.length]],3,35,true,false⟩])) (fun (x:Nat×PpS)=>x.1<=p.list.length/\PpI x.1 x.2/\nm x.2 (p.list.drop x.1)=G) (fun (x:Nat×PpS)=>p.list.length - x.1) (0,⟨⟨n,t⟩,false,[]⟩) (qI 0 8) (⟨K0 _,hI0,hG⟩) fun x hx N hN=>?_
   obtain⟨k,g⟩:=x
   obtain⟨hk1,hI,hgo⟩:=hx
   dsimp only at hk1 hI hgo
   have hIo:=hI.own
   have hIp:=hI.pos
   have hIa:=hI.acc
   have hac:g.acc.length<=100:=by split at hIa<;>omega
   refine qR ?_
   refine qB (fun h=>?_) fun h=>?_
   ·have hm:=hF.texts p.list[k] (K6 h)
    obtain⟨hm1,hm2,hm3⟩:=hm
    rw [tP h] at hgo
    refine qX ?_
    refine qB (fun h2=>?_) fun h2=>?_
    ·rw [xl zO] at hgo
     refine qX ?_
     refine wO hN (k+1,⟨g.own,g.laid,g.acc++[p.list[k]]⟩) (qI 0 6++qI 10 1++qI 7 1) (by (try dsimp only);exact⟨zO,Bh hI hm1,hgo⟩) ?_
     first|exact⟨⟩|simp [PieceD.cs]
    refine qX ?_
    refine qB (fun h3=>?_) fun h3=>?_
    ·rw [xm zO zO] at hgo
     cases hgl:g.laid with
     |true=>
      rw [hgl,if_pos rfl] at hgo
      try simp (disch:=omega) only [go_sem,seval,hgl]
      refine wO hN (k+1,⟨g.own,true,g.acc++[p.list[k]]⟩) (qI 0 6++qI 10 1++qI 7 1) (by (try dsimp only);exact⟨zO,zA hI hgl hm1,hgo⟩) ?_
      first|exact⟨⟩|simp [PieceD.cs]
     |false=>
      rw [hgl,if_neg zP] at hgo
      try simp (disch:=omega) only [go_sem,seval,hgl]
      refine wO hN (k+1,⟨g.own,true,g.acc++[g.own]++[p.list[k]]⟩) (qI 0 6++qI 12 1++qI 7 1) (by (try dsimp only);exact⟨zO,zB hI zO hgl hm1,hgo⟩) ?_
      first|exact⟨⟩|simp [PieceD.cs]
    rw [xn zO zO] at hgo
    refine qX ?_
    refine qK (mf p.list[k] g.own zO zO zO zO zO zO) [] ?_
    refine wO hN (k+1,⟨fh p.list[k] g.own,g.laid,g.acc⟩) (qI 0 8) (by (try dsimp only);exact⟨zO,EC hI hm1 hm2 hm3,hgo⟩) ?_
    first|exact⟨⟩|simp [PieceD.cs]
   have hkl:k=p.list.length:=zO
   rw [xo zO] at hgo
   subst hgo
   obtain⟨y,r,hyr,hyt,hyl⟩:=qz hI zO
   rw [xp hG hyr]
   have hyr':=hyr
   rw [iw] at hyr'
   cases hgl:g.laid with
   |true=>
    rw [hgl,if_pos rfl] at hyr'
    rw [hyr']
    try simp (disch:=omega) only [go_sem,seval,hgl,K4]
    refine qD [0,1,2,3,4,5,6,7] ?_
    refine cj (dv ⟨p.read,p.ready,y::r⟩) (qI 6 1) ?_
    refine⟨qC,af 400 ?_⟩
    rw [show nextOf ⟨p.read,p.ready,y::r⟩=nextOf p from rfl]
    refine qX ?_
    refine qB (fun h5=>?_) fun h5=>?_
    ·refine qD [0,1,2,3,4,5,6,7,8,9] ?_
     refine⟨qC,af 400 ?_⟩
     have hE1:= @pg p y r h5
     refine qX ?_
     refine qK (bG ⟨p.read,p.ready++y.text,r⟩ (by simp at hyl⊢;omega)) [some (6,some 1)] ?_
     refine qB (fun h6=>?_) fun h6=>?_
     ·rw [gX (by rw [hE1];exact h6)]
      refine qX ?_
      refine bR (qI 0 1++qI 3 1) (qC) _ (by simp only [go_sem];rfl) zF zF ?_
      simp (disch:=omega) only [go_sem,seval]
     rw [gY (by rw [hE1];exact h6),hE1]
     refine qX ?_
     refine bR [some (0,none),some (6,some 1)] (qC) _ (by simp only [go_sem];rfl) zF zF ?_
     simp (disch:=omega) only [go_sem,seval]
     try simp
    have hE1:= @ph p y r h5
    refine qX ?_
    refine qK (bG ⟨p.read,p.ready,y::r⟩ (by simp at hyl⊢;omega)) (qI 6 1) ?_
    refine qB (fun h6=>?_) fun h6=>?_
    ·rw [gX (by rw [hE1];exact h6)]
     refine qX ?_
     refine bR (qI 0 1++qI 3 1) (qC) _ (by simp only [go_sem];rfl) zF zF ?_
     simp (disch:=omega) only [go_sem,seval]
    rw [gY (by rw [hE1];exact h6),hE1]
    refine qX ?_
    refine bR (qI 0 1++qI 6 1) (qC) _ (by simp only [go_sem];rfl) zF zF ?_
    simp (disch:=omega) only [go_sem,seval]
    try simp
   |false=>
    rw [hgl,if_neg zP] at hyr'
    have e1:g.acc.map PieceD.cs++[g.own.cs]=PieceD.cs y::r.map PieceD.cs:=by rw [<-K4,<-hyr'];simp
    have e2:g.acc.length+1=r.length+1:=by have:=congrArg List.length hyr';simpa using this
    simp only [PieceD.cs] at e1
    try simp (disch:=omega) only [go_sem,seval,hgl,e1,e2]
    refine qD [0,1,2,3,4,5,6,7] ?_
    refine cj (dv ⟨p.read,p.ready,y::r⟩) (qI 9 1) ?_
    refine⟨qC,af 400 ?_⟩
    rw [show nextOf ⟨p.read,p.ready,y::r⟩=nextOf p from rfl]
    refine qX ?_
    refine qB (fun h5=>?_) fun h5=>?_
    ·refine qD [0,1,2,3,4,5,6,7,8,9] ?_
     refine⟨qC,af 400 ?_⟩
     have hE1:= @pg p y r h5
     refine qX ?_
     refine qK (bG ⟨p.read,p.ready++y.text,r⟩ (by simp at hyl⊢;omega)) [some (9,some 1)] ?_
     refine qB (fun h6=>?_) fun h6=>?_
     ·rw [gX (by rw [hE1];exact h6)]
      refine qX ?_
      refine bR (qI 0 1++qI 3 1) (qC) _ (by simp only [go_sem];rfl) zF zF ?_
      simp (disch:=omega) only [go_sem,seval]
     rw [gY (by rw [hE1];exact h6),hE1]
     refine qX ?_
     refine bR [some (0,none),some (9,some 1)] (qC) _ (by simp only [go_sem];rfl) zF zF ?_
     simp (disch:=omega) only [go_sem,seval]
     try simp
    have hE1:= @ph p y r h5
    refine qX ?_
    refine qK (bG ⟨p.read,p.ready,y::r⟩ (by simp at hyl⊢;omega)) (qI 9 1) ?_
    refine qB (fun h6=>?_) fun h6=>?_
    ·rw [gX (by rw [hE1];exact h6)]
     refine qX ?_
     refine bR (qI 0 1++qI 3 1) (qC) _ (by simp only [go_sem];rfl) zF zF ?_
     simp (disch:=omega) only [go_sem,seval]
    rw [gY (by rw [hE1];exact h6),hE1]
    refine qX ?_
    refine bR (qI 0 1++qI 9 1) (qC) _ (by simp only [go_sem];rfl) zF zF ?_
    simp (disch:=omega) only [go_sem,seval]
    try simp
  rw [hf (by rw [hok];simp [h2])]
  refine qX ?_
  refine bR (qI 0 1++qI 3 1) (qC) _ (by simp only [go_sem];rfl) zF zF ?_
  simp (disch:=omega) only [go_sem,seval]
 rw [hf (by rw [hok];simp [h1])]
 refine qX ?_
 refine bR (qI 0 1++qI 3 1) (qC) _ (by simp only [go_sem];rfl) zF zF ?_
 simp (disch:=omega) only [go_sem,seval]
theorem sR (e:EndD) (x:LetterD) (hs:Small e) (hsp:SmallP e.inp):aP 144 [.ag (e.cs 0),.ag x.cs] (e.hp false) (.tu [.ag ((bK e x).1.cs 7),.sc (.sl 14 0 (bK e x).2.length)])
  (e.hp false++((bK e x).1.hpS++[some ⟨(bK e x).2.map LetterD.cs,19,134,true,true⟩])):=by
 have hC:=(qH (ar e))
 have hK:=(qH (aH e))
 have hS:=fv e x hs
 have hP:=kO e.inp x.pos x.text hsp
 have hbd:=gW e x
 have hf:=q_ (e:=e) (x:=x)
 have ht:=fun (n:Nat)=> @rc e x n
 have hok:=jM.eq_1 e x
 have hql:(qQ e x).list.length<=1048576:=oh (by have:=hs.list;omega)
 rw [show putPiece e.inp x.pos x.text=qQ e x from rfl] at hP
 generalize qQ e x=Q at*
 generalize bK e x=R at*
 refine qE func144 ntmps144 results144 fun E hE=>?_
 refine qK (hC) (qI 0 7) ?_
 refine qK (hS) (qI 0 7) ?_
 rcases hbd with hon|⟨n,hon,hk,hn,hq1,hq2⟩
 ·rw [hf (by rw [hok];simp [hon]),hon]
  refine qX ?_
  exact qF (qI 0 7++qI 10 7++qI 18 1)
 rw [hon]
 refine qX ?_
 refine qX ?_
 refine qK (hP) (qI 4 1) ?_
 refine qK (dv Q) (qI 19 1) ?_
 refine qB (fun h7=>?_) fun h7=>?_
 ·rw [hf (by rw [hok];simp;omega)]
  refine qX ?_
  exact qF (qI 0 7++qI 10 7++qI 18 1)
 rw [ht _ (by rw [hok];simp [hon];omega) hon hn]
 refine qX ?_
 refine aX [(0,15),(3,0),(11,0),(13,0),(14,0)] [(qU [1,2,4,7,3,1,11,4,0,1,15,3]),(qU [1,2,4,7,3,1,11,3,0,1,14,4]),(qU [1,2,4,7,3,1,11,2,0,1,13,5]),(qU [1,2,4,7,3,1,0,1,11,7]),(qU [1,2,4,7,0,1,3,1,11,7]),(qU [1,2,4,7,3,1,11,5,0,1,16,2])] (by kernel_rfl) (qC) (by kernel_rfl) ?_
 simp only [aR]
 refine⟨aa 400 ?_,aa 400 ?_,aa 400 ?_,aa 400 ?_,aa 400 ?_,aa 400 ?_⟩
 all_goals simp (disch:=omega) only [go_sem,seval]
 all_goals
  refine cj (bS x) [] ?_
  refine cj (dv Q) (qI 19 1) ?_
  refine cj (aI (roadOf x) { aj with kind:=12,sgn:=e.subs[n].give,pos:=nextOf Q }) [] ?_
  refine qG ?_
  refine qP (qI 0 7++qI 10 4++qI 19 1++qI 15 2++qI 22 1) ?_
  first|exact⟨⟩|simp [qT,ae,LetterD.cs]
theorem iZ {l:List AddrD} (h:bw l=true):∀ (d i:Nat) (hj:i+d+1 < l.length),l[i].id < l[i+d+1].id
 |0,i,hj=>by
  simp only [bw,K5] at h
  have:=fK h.2 (show i+1 < l.length by omega)
  simp only [jh,K5,Bool.or_eq_true,beq_iff_eq,decide_eq_true_eq,Nat.add_sub_cancel] at this
  have h1:=this.1.2
  rw [FF,FF,K9,K9,K_ (show i < l.length by omega),K_ (show i+1 < l.length by omega)] at h1
  simp only [Option.getD_some] at h1
  simp only [Ld]
  omega
 |d+1,i,hj=>by
  have h1:=iZ h 0 i zO
  have h2:=iZ h d (i+1) zO
  simp only [Ld] at h1
  have e:i+1+d+1=i+(d+1)+1:=zO
  simp only [e] at h2
  omega
theorem xF {l:List AddrD} (h:bw l=true) {i j:Nat} (hi:i < l.length) (hj:j < l.length) (he:l[i].id=l[j].id):i=j:=by
 rcases Nat.lt_trichotomy i j with hl|hl|hl
 ·have:=iZ h (j - i - 1) i zO
  have e:i+(j - i - 1)+1=j:=zO
  simp only [e] at this
  omega
 ·exact hl
 have:=iZ h (i - j - 1) j zO
 have e:j+(i - j - 1)+1=i:=zO
 simp only [e] at this
 omega
theorem zM {l:List AddrD} (h:bw l=true) {a:AddrD} (ha:a∈l):∃ j:Nat,∃ hj:j < l.length,aB l a.id=(j:Int)/\l[j]=a:=by
 obtain⟨i,hi,rfl⟩:=List.getElem_of_mem ha
 rcases l6 (p:=fun b:AddrD=>b.id == l[i].id) (l:=l) with h1|⟨h1,h2⟩
 ·exfalso
  have hx:∀ (m:List AddrD) (k:Nat) (b:AddrD),b∈m->(b.id == l[i].id)=true->cX (fun b:AddrD=>b.id == l[i].id) k m≠ -1:=by
   intro m
   induction m with
   |nil=>intro k b hb;cases hb
   |cons c m ih=>
    intro k b hb hp
    rw [cX]
    split
    ·omega
    rename_i hc
    rcases List.mem_cons.1 hb with rfl|hb
    ·exact absurd hp hc
    exact ih (k+1) b hb hp
  exact hx l 0 l[i] ha zP h1
 obtain⟨n,hn⟩:=KZ h1
 obtain⟨hl,hp⟩:=qm hn
 have hid:l[n].id=l[i].id:=by simpa using hp
 obtain rfl:=xF h hl hi hid
 exact⟨n,hi,hn,rfl⟩
def jQ (l:List AddrD):List AddrD:=l.filter fun a=> !a.told
theorem KM {e:EndD} (h:zG e=false):bx e=[]:=if_neg (by simp [h])
theorem KN {e:EndD} {k:Nat} (h:zG e=true) (hk:(lA e.subs).headD 0=k) (hl:k < e.subs.length):bx e=(jQ e.own).map (mq e e.subs[k]):=by rw [bx,if_pos h,hk,cd hl];rfl
theorem Cz {l:List Nat} (h:0 < l.length):l.headD 0=l[0]:=by cases l with|nil=>simp at h|cons a r=>rfl
theorem sW (l:List AddrD) (hl:l.length<=1048576):aP 133 [.sc (.sl 0 0 l.length)] [some ⟨l.map AddrD.cs,4,60,false,true⟩] (.sc (.sl 1 0 (jQ l).length)) [some ⟨l.map AddrD.cs,4,60,false,true⟩,some ⟨((jQ l).map AddrD.id).map cv,1,3,true,true⟩]:=by
 obtain⟨R,hR⟩:∃ R,R=jQ l:=⟨_,rfl⟩
 rw [<-hR]
 rw [jQ] at hR
 refine qE func133 ntmps133 results133 fun E hE=>?_
 refine ki 1 hE (fun s (x:Nat×List AddrD)=>s.at (qU [5,21]) [(4,.sc (.int .i64 (x.1:Nat))),(3,.sc (.sl 1 0 x.2.length))] ((s.hp.take 1)++[some ⟨(x.2.map AddrD.id).map cv,1,3,true,true⟩])) (fun (x:Nat×List AddrD)=>x.1<=l.length/\x.2.length<=x.1/\R=x.2++(l.drop x.1).filter (fun a=> !a.told)) (fun (x:Nat×List AddrD)=>l.length - x.1) (0,[]) (qI 0 2) (⟨K0 _,K0 _,hR⟩) fun x hx N hN=>?_
 obtain⟨k,acc⟩:=x
 obtain⟨h1,h2,h3⟩:=hx
 dsimp only at h1 h2 h3
 refine qR ?_
 refine qB (fun h=>?_) fun h=>?_
 ·rw [nB h] at h3
  have hg:=bW (enc:=AddrD.cs) h
  try simp (disch:=omega) only [go_sem,seval,hg]
  cases ht:l[k].told with
  |true=>
   rw [if_neg (by simp [ht])] at h3
   try simp (disch:=omega) only [go_sem,seval,ht]
   exact qN hN (k+1,acc) (qI 0 2) (by (try dsimp only);exact⟨zO,zO,h3⟩)
  |false=>
   rw [if_pos (by simp [ht])] at h3
   try simp (disch:=omega) only [go_sem,seval,ht,hg]
   refine⟨qC,hN _ (k+1,acc++[l[k]]) (qI 0 1++qI 3 1) (by (try dsimp only);exact⟨zO,by simp;omega,by simpa using h3⟩) (by (try dsimp only);omega) (bM zF zF ?_)⟩
   refine qX ?_
   simp [cv]
 rw [rB zO,K7] at h3
 subst h3
 exact qF (qI 0 2)
theorem xG {e:EndD} (h:ah e=true):bw e.own=true:=by
 simp only [ah,K5] at h
 simp_all
theorem rH (e:EndD) (hs:Small e):aP 112 [.ag (e.cs 0)] (e.hp false) (.sc (.sl 7 0 (bx e).length)) (e.hp false++[some ⟨(bx e).map LetterD.cs,19,134,true,true⟩]):=by
 have hN:=tJ e (by have:=hs.subs;omega)
 have hK:=(qH (aH e))
 have hown:=hs.own
 have hf:=KM (e:=e)
 have ht:= @KN e
 have hok:zG e=(ah e && decide (e.state=2) && !decide ((lA e.subs).length=0)):=rfl
 obtain⟨R,hR⟩:∃ R,R=bx e:=⟨_,rfl⟩
 rw [<-hR] at hf ht
 rw [<-hR]
 clear hR
 refine FE func112 ntmps112 results112 fun E hE=>?_
 refine qK (hN) (qI 0 7) ?_
 refine qK (hK) (qI 0 7) ?_
 refine qB (fun h1=>?_) fun h1=>?_
 ·refine qB (fun h2=>?_) fun h2=>?_
  ·by_cases h3:(lA e.subs).length=0
   ·rw [hf (by rw [hok];simp [h3])]
    try simp (disch:=omega) only [go_sem,seval,h3]
    exact iO (qI 0 7++qI 8 1)
   have hpos:0 < (lA e.subs).length:=zO
   have hk:=Ei hpos
   have hR:=ht (by rw [hok];simp [h1,h2,h3]) (Cz hpos) hk
   have hgo:=bW (enc:=u_) hpos
   generalize hk0:(lA e.subs)[0]=k0 at*
   have hgs:=bW (enc:=SubD.cs) hk
   generalize hss:e.subs[k0]=s0 at*
   refine qX ?_
   refine qD [0,1,2,3,4,5,6,7,8] ?_
   try simp (disch:=omega) only [go_sem,seval,hgo,hk0,u_,hgs,hss]
   refine qG ?_
   have hU:=sW e.own hown
   have hul:(jQ e.own).length<=e.own.length:=List.length_filter_le _ _
   have hmem:∀ a∈jQ e.own,a∈e.own:=fun a ha=>(List.mem_filter.1 ha).1
   generalize jQ e.own=U at*
   refine qK (hU) (qI 0 1) ?_
   refine uW 7 hE (fun s (y:Nat×List LetterD)=>s.at (qU [0,1,4,1,8,69]) [(7,.sc (.int .i64 (y.1:Nat))),(5,.sc (.pt 9 0 0)),(6,.sc (.sl 10 0 U.length)),(3,.sc (.sl 11 0 y.2.length))] ((s.hp.take 8)++(((s.hp.drop 9).take 3)++[some ⟨y.2.map LetterD.cs,19,134,true,true⟩]))) (fun (y:Nat×List LetterD)=>y.1<=U.length/\y.2.length<=y.1/\R=y.2++(U.drop y.1).map (mq e s0)) (fun (y:Nat×List LetterD)=>U.length - y.1) (0,[]) (qI 0 8++qI 9 3++qI 8 1) (⟨K0 _,K0 _,hR⟩) fun y hy N hN=>?_
   obtain⟨i,l⟩:=y
   obtain⟨g1,g2,g3⟩:=hy
   dsimp only at g1 g2 g3
   refine qR ?_
   refine qB (fun b=>?_) fun b=>?_
   ·rw [List.drop_eq_getElem_cons b,K4] at g3
    have hbl:i < (U.map AddrD.id).length:=by simpa using b
    have hg:=bW (enc:=cv) hbl
    rw [List.getElem_map] at hg
    obtain⟨j,hj,hat,hja⟩:=zM (xG h1) (hmem U[i] (K6 b))
    have hA:=c_ e.own U[i].id hown
    rw [hat] at hA
    have hgj:=bW (enc:=AddrD.cs) hj
    rw [hja] at hgj
    generalize hae:U[i]=a at*
    simp only [cv] at hg
    have hel:e.own[j]=a:=hja
    refine qX ?_
    refine gr [(8,11),(11,9),(11,10)] [(8,9),(9,10)] [(qU [0,9,11,1,9,2,12,1]),(qU [0,10,11,1,10,1,12,1]),(qU [0,13]),(qU [0,8,11,1,8,3,12,1])] 7 hE (fun s=>s.at (qU [42,11]) [(8,.sc (.pt 12 0 0))] (s.hp++[some ⟨[a.cs],4,60,true,false⟩])) (by kernel_rfl) (qC) (by kernel_rfl) ?_ (af 400 ?_)
    rotate_left
    rotate_right
    simp only [aR]
    refine⟨aa 400 ?_,aa 400 ?_,aa 400 ?_,aa 400 ?_⟩
    ·simp (disch:=omega) only [go_sem,hg,hae]
     refine cj (hA) (qI 0 1) ?_
     simp (disch:=omega) only [go_sem,hgj,hel]
     refine⟨by (try simp (disch:=omega) only [go_sem,K1,seval,hgj,hel])<;>omega,(qI 0 13),az zF zF ?_⟩
     try simp (disch:=omega) only [go_sem,seval]
    ·simp (disch:=omega) only [go_sem,hg,hae]
     refine cj (hA) (qI 0 1) ?_
     simp (disch:=omega) only [go_sem,hgj,hel]
     refine⟨by (try simp (disch:=omega) only [go_sem,K1,seval,hgj,hel])<;>omega,(qI 0 13),az zF zF ?_⟩
     try simp (disch:=omega) only [go_sem,seval]
    ·simp (disch:=omega) only [go_sem,hg,hae]
     refine cj (hA) (qI 0 1) ?_
     simp (disch:=omega) only [go_sem,hgj,hel]
     refine⟨by (try simp (disch:=omega) only [go_sem,K1,seval,hgj,hel])<;>omega,(qI 0 13),az zF zF ?_⟩
     try simp (disch:=omega) only [go_sem,seval]
    ·simp (disch:=omega) only [go_sem,hg,hae]
     refine cj (hA) (qI 0 1) ?_
     simp (disch:=omega) only [go_sem,hgj,hel]
     refine⟨by (try simp (disch:=omega) only [go_sem,K1,seval,hgj,hel])<;>omega,(qI 0 13),az zF zF ?_⟩
     try simp (disch:=omega) only [go_sem,seval]
    refine qX ?_
    refine qD [0,1,2,3,4,5,6,7,8,9,10,11,12,13,14,15,16,17,18,19,20,21,22,23,24] ?_
    refine cj (l9 e.key e.peer a.id a.addr) [] ?_
    refine cj (aI s0.road { aj with kind:=8,tag:=⟨3,e.key,e.peer,a.id,a.addr⟩,sgn:=s0.give,id:=a.id,addr:=a.addr,spare:=a.spare }) [] ?_
    refine qG ?_
    refine⟨qC,hN _ (i+1,l++[mq e s0 a]) (qI 0 11++qI 14 1) (by (try dsimp only);exact⟨zO,by simp;omega,by simpa using g3⟩) (by (try dsimp only);omega) (az zF zF ?_)⟩
    refine qX ?_
    rw [List.map_append]
    rfl
   rw [K3 zO,List.map_nil,K7] at g3
   subst g3
   refine qX ?_
   exact iO (qI 0 7++qI 11 1)
  rw [hf (by rw [hok];simp [h2])]
  refine qX ?_
  exact iO (qI 0 7++qI 8 1)
 rw [hf (by rw [hok];simp [h1])]
 refine qX ?_
 exact iO (qI 0 7++qI 8 1)
theorem uv (e:EndD) (hs:Small e) (ht:e.out.text.length<=1048576):aP 88 [.ag (e.cs 0)] (e.hp false) (.tu [.ag ((tick e).1.cs 7),.sc (.sl 14 0 (tick e).2.length)])
  (e.hp false++((tick e).1.hp true++[some ⟨(tick e).2.map LetterD.cs,19,134,true,true⟩])):=by
 have hC:=(qH (ar e))
 have hK:=(qH (aH e))
 have hsb:=hs.subs
 have hso:=hs.own
 have hsh:=hs.halfs
 have hF:=xw e.bucket
 have hY:=vA e.halfs (e.now+1) hs.halfs
 have hAn:=tY e.out
 have hyl:=rI e.halfs (e.now+1)
 have hat:(dN e.out).text.length<=1048576:=by rw [dN];split<;>exact ht
 have hf:=Ih (e:=e)
 have hto:=ER (e:=e)
 have hti:=ES (e:=e)
 have htu:= @Ii e
 have hok:Bm e=(ah e && decide (e.now < 1000000000) && e.subs.all fun s=>decide (s.tries < 1000000000)):=rfl
 have hsm0:Small { e with now:=e.now+1,bucket:=cJ e.bucket,halfs:=cc e.halfs (e.now+1),out:=dN e.out }:=⟨hs.own,hs.far,hs.subs,by dsimp only;omega,hs.list,hs.done,hs.over⟩
 have hsm1:Small { e with now:=e.now+1,bucket:=cJ e.bucket,halfs:=cc e.halfs (e.now+1),out:=dN e.out,subs:=e.subs.map aL }:=⟨hs.own,hs.far,by dsimp only;rw [La];exact hs.subs,by dsimp only;omega,hs.list,hs.done,hs.over⟩
 have hfl:(e.subs.flatMap (cP e)).length<=e.subs.length:=pj (nC e) _
 obtain⟨R,hR⟩:∃ R,R=tick e:=⟨_,rfl⟩
 rw [<-hR] at hf hto hti
 simp only [<-hR] at htu
 rw [<-hR]
 clear hR
 refine FE func88 ntmps88 results88 fun E hE=>?_
 refine qK (hC) (qI 0 7) ?_
 refine qK (hK) (qI 0 7) ?_
 refine qB (fun h1=>?_) fun h1=>?_
 ·have hnow:=nh h1
  by_cases h2:e.now < 1000000000
  ·refine qX ?_
   refine uW 7 hE (fun s (i:Nat)=>s.at (qU [0,1,3,1,11,29]) [(6,.sc (.int .i64 (i:Nat)))] (s.hp)) (fun (i:Nat)=>i<=e.subs.length/\(e.subs.drop i).all (fun s=>decide (s.tries < 1000000000))=e.subs.all (fun s=>decide (s.tries < 1000000000))) (fun (i:Nat)=>e.subs.length - i) 0 (qI 0 18) (⟨K0 _,rfl⟩) fun i hi N hN=>?_
   obtain⟨g1,g2⟩:=hi
   refine qR ?_
   refine qB (fun b=>?_) fun b=>?_
   ·rw [CF b] at g2
    have hg:=bW (enc:=SubD.cs) b
    have hsub:=t6 h1 b
    try simp (disch:=omega) only [go_sem,seval,hg]
    refine qB (fun b2=>?_) fun b2=>?_
    ·rw [decide_eq_false zO,Bool.false_and] at g2
     rw [hf (by rw [hok,<-g2];simp)]
     refine qX ?_
     exact iO (qI 0 7++qI 9 7++qI 17 1)
    rw [decide_eq_true zO,Bool.true_and] at g2
    refine qX ?_
    exact HM hN (i+1) (qI 0 18) (by (try dsimp only);exact⟨zO,g2⟩)
   rw [K3 zO,List.all_nil] at g2
   have hall:=g2.symm
   have hall2:∀ (k:Nat) (hk:k < e.subs.length),e.subs[k].tries < 1000000000:=fun k hk=>by
    have:=List.all_eq_true.1 hall e.subs[k] (K6 hk)
    simpa using this
   have htk:Bm e=true:=by rw [hok,h1,decide_eq_true h2,hall];rfl
   refine qX ?_
   refine qK (hF) [] ?_
   refine qK (hY) (qI 3 1) ?_
   refine qK (hAn) [] ?_
   obtain⟨tk,htk1⟩:∃ f:SubD->SubD,f=fun s=>if e.state=2 then aL s else s:=⟨_,rfl⟩
   obtain⟨tl,htl1⟩:∃ f:SubD->List LetterD,f=fun s=>if e.state=2 then cP e s else []:=⟨_,rfl⟩
   have hR:=htu htk htk1 htl1
   have hsmu:Small { e with now:=e.now+1,bucket:=cJ e.bucket,halfs:=cc e.halfs (e.now+1),out:=dN e.out,subs:=e.subs.map tk }:=⟨hs.own,hs.far,by dsimp only;rw [La];exact hs.subs,by dsimp only;omega,hs.list,hs.done,hs.over⟩
   have hflu:(e.subs.flatMap tl).length<=e.subs.length:=pj (fun s=>by rw [htl1];dsimp only;split;exact nC e s;simp) _
   obtain⟨LL,hLL⟩:∃ L,L=e.subs.flatMap tl:=⟨_,rfl⟩
   rw [<-hLL] at hR hflu
   clear htu hto hti hf
   refine qX ?_
   refine uV 7 hE (fun s (y:Nat×List LetterD)=>s.at (qU [0,1,6,1,8,1,11,120]) [(7,.sc (.int .i64 (y.1:Nat))),(5,.sc (.sl 17 0 y.2.length))] ((s.hp.set 11 (some ⟨(cK tk e.subs y.1).map SubD.cs,10,58,true,true⟩)).set 17 (some ⟨y.2.map LetterD.cs,19,134,true,true⟩))) (fun (y:Nat×List LetterD)=>y.1<=e.subs.length/\y.2.length<=y.1/\LL=y.2++(e.subs.drop y.1).flatMap tl) (fun (y:Nat×List LetterD)=>e.subs.length - y.1) (0,[]) (qI 0 19) (qC) (⟨K0 _,K0 _,hLL⟩) (az zF zF ?_) fun y hy N2 hN2=>?_
   ·try simp (disch:=omega) only [go_sem,seval]
    try rw [zU]
   obtain⟨k,l⟩:=y
   obtain⟨f1,f2,f3⟩:=hy
   dsimp only at f1 f2 f3
   refine af 400 ?_
   have hgl:(cK tk e.subs k).length=e.subs.length:=CA
   refine qX ?_
   by_cases hopen:k < e.subs.length/\e.state=2
   ·obtain⟨b,h2s⟩:=hopen
    have etk:tk=aL:=by rw [htk1];funext s;exact if_pos h2s
    have etl:tl=cP e:=by rw [htl1];funext s;exact if_pos h2s
    clear htk1 htl1
    subst etk etl
    refine qX ?_
    have hg:=CB (f:=aL) b
    have hsub:=t6 h1 b
    have htr:=hall2 k b
    rw [zV b] at f3
    have hset:=CC (f:=aL) b
    have hsame:=zT (f:=aL) b
    obtain⟨s0,hs0⟩:∃ s,s=e.subs[k]:=⟨_,rfl⟩
    rw [<-hs0] at hsub htr f3 hset hsame
    have hg':∀ p:k < (cK aL e.subs k).length,(cK aL e.subs k)[k]'p=s0:=fun p=>by rw [hg p,hs0]
    clear hg
    by_cases c1:s0.state=1\/s0.state=2
    ·by_cases c2:s0.state=2/\9<=s0.tries+1
     ·have tS:=zY c2.1 c2.2
      rw [zZ c2.1 c2.2,Lb] at f3
      obtain⟨c3,c4⟩:=c2
      try simp (disch:=omega) only [go_sem,seval,hg',c3]
      refine⟨qC,hN2 _ (k+1,l) (qI 0 19) (by (try dsimp only);exact⟨zO,zO,f3⟩) (by (try dsimp only);omega) (az zF zF ?_)⟩
      refine qX ?_
      rw [<-hset,tS,K8]
      try simp [SubD.cs,c3]
     have tS:=EU c1 c2
     by_cases c5:(s0.tries+1).tmod 3=0
     ·rcases c1 with c1|c1
      ·rw [CG c1 c5] at f3
       have hL:aP 110 [.ag (EndD.cs { e with now:=e.now+1,bucket:=cJ e.bucket,halfs:=cc e.halfs (e.now+1),out:=dN e.out,subs:=(cK aL e.subs k).set k { s0 with tries:=s0.tries+1,state:=1 } } 0),.ag (SubD.cs { s0 with state:=1 })] (EndD.hp { e with now:=e.now+1,bucket:=cJ e.bucket,halfs:=cc e.halfs (e.now+1),out:=dN e.out,subs:=(cK aL e.subs k).set k { s0 with tries:=s0.tries+1,state:=1 } } false) (.ag (dX e s0).cs) (EndD.hp { e with now:=e.now+1,bucket:=cJ e.bucket,halfs:=cc e.halfs (e.now+1),out:=dN e.out,subs:=(cK aL e.subs k).set k { s0 with tries:=s0.tries+1,state:=1 } } false):=ms _ _ (show co e.side 1 2=true from rD h1)
       try simp (disch:=omega) only [go_sem,seval,hg',c1,c5]
       refine qK (hL) (qI 9 3++qI 18 1++qI 13 3) ?_
       refine⟨qC,hN2 _ (k+1,l++[dX e s0]) (qI 0 17++qI 21 1++qI 18 1) (by (try dsimp only);exact⟨zO,by simp;omega,by simpa using f3⟩) (by (try dsimp only);omega) (az zF zF ?_)⟩
       refine qX ?_
       rw [<-hset,tS,K8]
       try simp [SubD.cs,c1,LetterD.cs]
      rw [xH c1 zO c5] at f3
      have hL:aP 111 [.ag (EndD.cs { e with now:=e.now+1,bucket:=cJ e.bucket,halfs:=cc e.halfs (e.now+1),out:=dN e.out,subs:=(cK aL e.subs k).set k { s0 with tries:=s0.tries+1,state:=2 } } 0),.ag (SubD.cs { s0 with state:=2 })] (EndD.hp { e with now:=e.now+1,bucket:=cJ e.bucket,halfs:=cc e.halfs (e.now+1),out:=dN e.out,subs:=(cK aL e.subs k).set k { s0 with tries:=s0.tries+1,state:=2 } } false) (.ag (bi e s0).cs) (EndD.hp { e with now:=e.now+1,bucket:=cJ e.bucket,halfs:=cc e.halfs (e.now+1),out:=dN e.out,subs:=(cK aL e.subs k).set k { s0 with tries:=s0.tries+1,state:=2 } } false):=jJ _ _
      try simp (disch:=omega) only [go_sem,seval,hg',c1,c5]
      refine qK (hL) (qI 9 3++qI 18 1++qI 13 3) ?_
      refine⟨qC,hN2 _ (k+1,l++[bi e s0]) (qI 0 17++qI 21 1++qI 18 1) (by (try dsimp only);exact⟨zO,by simp;omega,by simpa using f3⟩) (by (try dsimp only);omega) (az zF zF ?_)⟩
      refine qX ?_
      rw [<-hset,tS,K8]
      try simp [SubD.cs,c1,LetterD.cs]
     rw [z0 c1 c2 c5,Lb] at f3
     have c6:0 < (s0.tries+1).tmod 3:=by have:=Int.tmod_nonneg 3 (show 0<=s0.tries+1 by omega);omega
     rcases c1 with c1|c1
     ·try simp (disch:=omega) only [go_sem,seval,hg',c1]
      refine⟨qC,hN2 _ (k+1,l) (qI 0 19) (by (try dsimp only);exact⟨zO,zO,f3⟩) (by (try dsimp only);omega) (az zF zF ?_)⟩
      refine qX ?_
      rw [<-hset,tS,K8]
      try simp [SubD.cs,c1]
     try simp (disch:=omega) only [go_sem,seval,hg',c1]
     refine⟨qC,hN2 _ (k+1,l) (qI 0 19) (by (try dsimp only);exact⟨zO,zO,f3⟩) (by (try dsimp only);omega) (az zF zF ?_)⟩
     refine qX ?_
     rw [<-hset,tS,K8]
     try simp [SubD.cs,c1]
    rw [zX c1,Lb] at f3
    try simp (disch:=omega) only [go_sem,seval,hg']
    refine⟨qC,hN2 _ (k+1,l) (qI 0 19) (by (try dsimp only);exact⟨zO,zO,f3⟩) (by (try dsimp only);omega) (az zF zF ?_)⟩
    refine qX ?_
    rw [hsame (zW c1)]
   have hst:cK tk e.subs k=e.subs.map tk:=by
    by_cases h2s:e.state=2
    ·rw [show k=e.subs.length by omega,CD]
    have hid:∀ s,tk s=s:=fun s=>by rw [htk1];exact if_neg h2s
    have hf2:tk=fun s=>s:=funext hid
    rw [ET hid,hf2];simp
   have hlf:LL=l:=by
    by_cases h2s:e.state=2
    ·rw [f3,K3 zO,List.flatMap_nil,K7]
    have hf2:tl=fun s=>[]:=by rw [htl1];funext s;exact if_neg h2s
    rw [f3,hf2];simp
   rw [hst]
   subst hlf
   by_cases b:k < e.subs.length
   all_goals
    have hT:=rH { e with now:=e.now+1,bucket:=cJ e.bucket,halfs:=cc e.halfs (e.now+1),out:=dN e.out,subs:=e.subs.map tk } hsmu
    have hTl:=mw { e with now:=e.now+1,bucket:=cJ e.bucket,halfs:=cc e.halfs (e.now+1),out:=dN e.out,subs:=e.subs.map tk }
    have hml:(e.subs.map tk).length=e.subs.length:=La ..
    rw [bm] at hR
    obtain⟨EX,hEX⟩:∃ E,E={ e with now:=e.now+1,bucket:=cJ e.bucket,halfs:=cc e.halfs (e.now+1),out:=dN e.out,subs:=e.subs.map tk }:=⟨_,rfl⟩
    rw [<-hEX] at hR
    have hsx:Small EX:=by rw [hEX];exact hsmu
    have hatx:EX.out.text.length<=1048576:=by rw [hEX];exact hat
    obtain⟨TT,hTT⟩:∃ T,T=bx EX:=⟨_,rfl⟩
    rw [<-hTT] at hR
    rw [<-hEX,<-hTT] at hTl
    rw [show bx { e with now:=e.now+1,bucket:=cJ e.bucket,halfs:=cc e.halfs (e.now+1),out:=dN e.out,subs:=e.subs.map tk }=TT by rw [hTT,hEX]] at hT
    have hxo:EX.own.length<=1048576:=hsx.own
    refine qX ?_
    refine qK (hT) (qI 9 3++qI 18 1++qI 13 3) ?_
    refine uV 7 hE (fun s (y:Nat×EndD×List LetterD)=>s.at (qU [0,2,6,3,10,138]) [(9,.sc (.int .i64 (y.1:Nat))),(5,.sc (.sl 17 0 y.2.2.length))] ((s.hp.take 9)++(y.2.1.hp true++[some ⟨[y.2.1.cs 9],25,38,true,false⟩,some ⟨y.2.2.map LetterD.cs,19,134,true,true⟩]))) (fun (y:Nat×EndD×List LetterD)=>y.1<=3/\Small y.2.1/\y.2.1.out.text.length<=1048576/\y.2.2.length<=2097152+y.1/\R=((bC (3 - y.1) y.2.1).1,y.2.2++(bC (3 - y.1) y.2.1).2)) (fun (y:Nat×EndD×List LetterD)=>3 - y.1) (0,EX,LL++TT) (qI 0 12++qI 18 1++qI 13 4++qI 20 1) (qC) (⟨zO,hsx,hatx,by simp only [Lc];omega,hR⟩) (az zF zF ?_) fun y hy N2 hN2=>?_
    ·rw [hEX]
     try simp (disch:=omega) only [go_sem,seval]
     try simp
    obtain⟨n,e1,l⟩:=y
    obtain⟨h1',h2',h3',h4',h5'⟩:=hy
    dsimp only at h1' h2' h3' h4' h5'
    have hP:=t5 e1 h2' h3'
    have hp1:=rz e1
    have hps:=lm h2'
    have hpt:(ck e1).1.out.text.length<=1048576:=by rw [nA];exact h3'
    refine qR ?_
    refine qB (fun b3=>?_) fun b3=>?_
    ·rw [rA zO] at h5'
     obtain⟨pr,hpr⟩:∃ p,p=ck e1:=⟨_,rfl⟩
     rw [<-hpr] at hP hp1 hps hpt h5'
     obtain⟨e2,l2⟩:=pr
     dsimp only at hP hp1 hps hpt h5'
     rw [<-List.append_assoc] at h5'
     refine qX ?_
     refine qK (hP) (qI 9 7) ?_
     refine DY hN2 (n+1,e2,l++l2) (qI 0 9++qI 19 7++qI 16 1++qI 27 1) (by (try dsimp only);exact⟨zO,hps,hpt,by simp only [Lc];omega,h5'⟩) ?_
     first|exact⟨⟩|simp
    have e3:n=3:=zO
    subst e3
    simp only [Nat.sub_self,bC,K7] at h5'
    subst h5'
    refine qX ?_
    exact iO (qI 0 7++qI 9 7++qI 17 1)
  rw [hf (by rw [hok];simp [h2])]
  refine qX ?_
  exact iO (qI 0 7++qI 9 7++qI 17 1)
 rw [hf (by rw [hok];simp [h1])]
 refine qX ?_
 exact iO (qI 0 7++qI 9 7++qI 17 1)
end
end Go.Proofs.YtdiiopjaebnmfaaGreat
