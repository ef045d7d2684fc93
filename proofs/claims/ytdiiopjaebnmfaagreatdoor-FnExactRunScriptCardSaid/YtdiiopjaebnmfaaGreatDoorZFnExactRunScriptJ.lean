/- Lemmas of this claim. -/
import Derived.Test.YtdiiopjaebnmfaaGreatDoorZFnExactRunScriptH
set_option maxHeartbeats 16000000
set_option maxRecDepth 100000
set_option linter.unusedVariables false
set_option linter.unusedSimpArgs false
namespace Go.Proofs.YtdiiopjaebnmfaaGreatDoor
open _root_.Go.Proofs.Tryz
open _root_.List renaming map_cons->zk,getElem_mem->P6,length_append->P7,append_assoc->P8,append_nil->P_
open _root_.Bool renaming and_eq_true->zG,not_eq_true->P9
section
open Go.RowKit
theorem Ab (p:PiecesD) (n:Int) (t:List UInt8) (hs:SmallP p):aP 250 [.ag (p.cs 0),.sc (.int .i64 n),.sc (.st t)] (p.hp false) (.ag ((cz p n t).cs 1))
  (p.hp false++(cz p n t).hp true):=by
 have hO:=cJ p hs.list
 have hN:=j5 p
 have hf:=O3 (p:=p) (n:=n) (t:=t)
 have hold:=KI (p:=p) (n:=n) (t:=t)
 have hcut:=fun k=> @KJ p n t k
 have hnew:=KL (p:=p) (n:=n) (t:=t)
 have hok:=x9.eq_1 p n t
 generalize cz p n t=R at*
 refine qE func250 ntmps250 results250 fun E hE=>?_
 refine qK (hO) (qI 0 1) ?_
 refine qB (fun h1=>?_) fun h1=>?_
 ·refine qK (cI [n] zP) (qI 3 1) ?_
  simp only [List.all_cons,List.all_nil,Bool.and_true]
  refine qX ?_
  refine qB (fun h2=>?_) fun h2=>?_
  ·refine qX ?_
   refine qK (aS (t.length:Int) 1 200) [] ?_
   refine qB (fun h3=>?_) fun h3=>?_
   ·rw [hf (by rw [hok];simp [h3])]
    refine qX ?_
    refine qK (aI p hs.list) (qI 0 1) ?_
    exact qF (qI 0 1++qI 4 1)
   have hok1:x9 p n t=true:=by rw [hok];simp [h1,h2,h3]
   have hF:=dX h1 hs
   have hn1:=h2
   have hn3:=h3
   simp only [fv,bU,zG,decide_eq_true_eq] at hn1 hn3
   have hr0:=hF.r0
   have hr1:=hF.r1
   have hrl:=hF.list
   have hrr:=hF.ready
   have hnx:=hF.next
   refine qX ?_
   refine qK (hN) (qI 0 1) ?_
   refine qB (fun h4=>?_) fun h4=>?_
   ·obtain⟨m,hm⟩:=Int.eq_ofNat_of_zero_le (show 0<=nextOf p - n by omega)
    by_cases h7:t.length<=m
    ·rw [hold hok1 zO]
     have hmin:(if nextOf p - n < (t.length:Int) then nextOf p - n else (t.length:Int))=(t.length:Int):=by split<;>omega
     have hz:(t.drop t.length == [])=true:=by simp
     try simp (disch:=omega) only [go_sem,seval,hmin,hz]
     refine qX ?_
     refine qK (aI p hs.list) (qI 0 1) ?_
     exact qF (qI 0 1++qI 5 1)
    rw [hcut m hok1 hm zO zO]
    have hmin:(if nextOf p - n < (t.length:Int) then nextOf p - n else (t.length:Int))=(m:Int):=by split<;>omega
    have hz:(t.drop m == [])=false:=by simp;omega
    have hI0:PpI 0 ⟨⟨nextOf p,t.drop m⟩,false,[]⟩:=oz zO zO zS
    try simp (disch:=omega) only [go_sem,seval,hmin,hz]
    obtain⟨G,hG⟩:∃ G,qz ⟨⟨nextOf p,t.drop m⟩,false,[]⟩ p.list=G:=⟨_,rfl⟩
    refine fJ 1 hE (fun s (x:Nat×PpS)=>s.at (qU [0,3,12,45,60,47]) [(59,.sc (.int .i64 (x.1:Nat))),(10,.sc (.bo x.2.laid))] ([some ⟨p.list.map PieceD.cs,2,223,false,true⟩,some ⟨[p.cs 0],3,51,true,false⟩,some ⟨[[.int .i64 0,.st [],.nil]],3,51,true,false⟩,some ⟨[[.int .i64 n]],1,3,true,true⟩,some ⟨[[.int .i64 p.read,.st p.ready,.sl 6 0 x.2.acc.length]],3,51,true,false⟩,some ⟨[x.2.own.cs],2,223,true,false⟩,some ⟨x.2.acc.map PieceD.cs,2,223,true,true⟩])) (fun (x:Nat×PpS)=>x.1<=p.list.length/\PpI x.1 x.2/\qz x.2 (p.list.drop x.1)=G) (fun (x:Nat×PpS)=>p.list.length - x.1) (0,⟨⟨nextOf p,t.drop m⟩,false,[]⟩) (qI 0 6++qO 1) (⟨Nat.zero_le _,hI0,hG⟩) fun x hx N hN=>?_
    obtain⟨k,g⟩:=x
    obtain⟨hk1,hI,hgo⟩:=hx
    dsimp only at hk1 hI hgo
    have hIo:=hI.own
    have hIp:=hI.pos
    have hIa:=hI.acc
    have hac:g.acc.length<=100:=by split at hIa<;>omega
    refine qR ?_
    refine qB (fun h=>?_) fun h=>?_
    ·have hm:=hF.texts p.list[k] (P6 h)
     obtain⟨hm1,hm2,hm3⟩:=hm
     rw [oX h] at hgo
     refine qX ?_
     refine qB (fun h2=>?_) fun h2=>?_
     ·rw [sE zO] at hgo
      refine qX ?_
      refine lr hN (k+1,⟨g.own,g.laid,g.acc++[p.list[k]]⟩) (qI 0 6++qI 9 1) (by (try dsimp only);exact⟨zO,Bl hI hm1,hgo⟩) ?_
      first|exact⟨⟩|simp [PieceD.cs]
     refine qX ?_
     refine qB (fun h3=>?_) fun h3=>?_
     ·rw [sF zO zO] at hgo
      cases hgl:g.laid with
      |true=>
       rw [hgl,if_pos rfl] at hgo
       try simp (disch:=omega) only [go_sem,seval,hgl]
       refine lr hN (k+1,⟨g.own,true,g.acc++[p.list[k]]⟩) (qI 0 6++qI 9 1) (by (try dsimp only);exact⟨zO,x_ hI hgl hm1,hgo⟩) ?_
       first|exact⟨⟩|simp [PieceD.cs]
      |false=>
       rw [hgl,if_neg zP] at hgo
       try simp (disch:=omega) only [go_sem,seval,hgl]
       refine lr hN (k+1,⟨g.own,true,g.acc++[g.own]++[p.list[k]]⟩) (qI 0 6++qI 11 1) (by (try dsimp only);exact⟨zO,ya hI zO hgl hm1,hgo⟩) ?_
       first|exact⟨⟩|simp [PieceD.cs]
     rw [sG zO zO] at hgo
     refine qX ?_
     refine qK (vo p.list[k] g.own zO zO zO zO zO zO) [] ?_
     refine lr hN (k+1,⟨jn p.list[k] g.own,g.laid,g.acc⟩) (qI 0 7) (by (try dsimp only);exact⟨zO,EA hI hm1 hm2 hm3,hgo⟩) ?_
     first|exact⟨⟩|simp [PieceD.cs]
    have hkl:k=p.list.length:=zO
    rw [sH zO] at hgo
    subst hgo
    obtain⟨y,r,hyr,hyt,hyl⟩:=mW hI zO
    rw [sI hG hyr]
    have hyr':=hyr
    rw [nC] at hyr'
    cases hgl:g.laid with
    |true=>
     rw [hgl,if_pos rfl] at hyr'
     rw [hyr']
     try simp (disch:=omega) only [go_sem,seval,hgl,zk]
     refine qX ?_
     refine qB (fun h5=>?_) fun h5=>?_
     ·refine qD [0,1,2,3,4,5,6,7,8,9] ?_
      refine⟨qC,ab 400 ?_⟩
      have hE1:= @lD p y r h5
      refine qX ?_
      refine qK (cJ ⟨p.read,p.ready++y.text,r⟩ (by simp at hyl⊢;omega)) [some (6,some 1)] ?_
      refine qB (fun h6=>?_) fun h6=>?_
      ·rw [fA (by rw [hE1];exact h6)]
       refine qX ?_
       refine qK (aI p hs.list) (qI 0 1) ?_
       exact qF (qI 0 1++qI 7 1)
      rw [fB (by rw [hE1];exact h6),hE1]
      refine qX ?_
      refine qK (aI ⟨p.read,p.ready++y.text,r⟩ (by simp at hyl⊢;omega)) [some (6,some 1)] ?_
      refine qP (qI 0 1++qI 7 1) ?_
      first|exact⟨⟩|simp
     have hE1:= @lE p y r h5
     refine qX ?_
     refine qK (cJ ⟨p.read,p.ready,y::r⟩ (by simp at hyl⊢;omega)) (qI 6 1) ?_
     refine qB (fun h6=>?_) fun h6=>?_
     ·rw [fA (by rw [hE1];exact h6)]
      refine qX ?_
      refine qK (aI p hs.list) (qI 0 1) ?_
      exact qF (qI 0 1++qI 7 1)
     rw [fB (by rw [hE1];exact h6),hE1]
     refine qX ?_
     refine qK (aI ⟨p.read,p.ready,y::r⟩ (by simp at hyl⊢;omega)) (qI 6 1) ?_
     refine qP (qI 0 1++qI 7 1) ?_
     first|exact⟨⟩|simp
    |false=>
     rw [hgl,if_neg zP] at hyr'
     have e1:g.acc.map PieceD.cs++[g.own.cs]=PieceD.cs y::r.map PieceD.cs:=by rw [<-zk,<-hyr'];simp
     have e2:g.acc.length+1=r.length+1:=by have:=congrArg List.length hyr';simpa using this
     simp only [PieceD.cs] at e1
     try simp (disch:=omega) only [go_sem,seval,hgl,e1,e2]
     refine qX ?_
     refine qB (fun h5=>?_) fun h5=>?_
     ·refine qD [0,1,2,3,4,5,6,7,8,9] ?_
      refine⟨qC,ab 400 ?_⟩
      have hE1:= @lD p y r h5
      refine qX ?_
      refine qK (cJ ⟨p.read,p.ready++y.text,r⟩ (by simp at hyl⊢;omega)) [some (8,some 1)] ?_
      refine qB (fun h6=>?_) fun h6=>?_
      ·rw [fA (by rw [hE1];exact h6)]
       refine qX ?_
       refine qK (aI p hs.list) (qI 0 1) ?_
       exact qF (qI 0 1++qI 9 1)
      rw [fB (by rw [hE1];exact h6),hE1]
      refine qX ?_
      refine qK (aI ⟨p.read,p.ready++y.text,r⟩ (by simp at hyl⊢;omega)) [some (8,some 1)] ?_
      refine qP (qI 0 1++qI 9 1) ?_
      first|exact⟨⟩|simp
     have hE1:= @lE p y r h5
     refine qX ?_
     refine qK (cJ ⟨p.read,p.ready,y::r⟩ (by simp at hyl⊢;omega)) (qI 8 1) ?_
     refine qB (fun h6=>?_) fun h6=>?_
     ·rw [fA (by rw [hE1];exact h6)]
      refine qX ?_
      refine qK (aI p hs.list) (qI 0 1) ?_
      exact qF (qI 0 1++qI 9 1)
     rw [fB (by rw [hE1];exact h6),hE1]
     refine qX ?_
     refine qK (aI ⟨p.read,p.ready,y::r⟩ (by simp at hyl⊢;omega)) (qI 8 1) ?_
     refine qP (qI 0 1++qI 9 1) ?_
     first|exact⟨⟩|simp
   rw [hnew hok1 zO]
   have hz:(t == [])=false:=by cases t<;>simp_all
   have hI0:PpI 0 ⟨⟨n,t⟩,false,[]⟩:=oz zO zO zO
   try simp (disch:=omega) only [go_sem,seval,hz]
   obtain⟨G,hG⟩:∃ G,qz ⟨⟨n,t⟩,false,[]⟩ p.list=G:=⟨_,rfl⟩
   refine fJ 1 hE (fun s (x:Nat×PpS)=>s.at (qU [0,3,12,45,60,47]) [(59,.sc (.int .i64 (x.1:Nat))),(10,.sc (.bo x.2.laid))] ([some ⟨p.list.map PieceD.cs,2,223,false,true⟩,some ⟨[p.cs 0],3,51,true,false⟩,some ⟨[[.int .i64 0,.st [],.nil]],3,51,true,false⟩,some ⟨[[.int .i64 n]],1,3,true,true⟩,some ⟨[[.int .i64 p.read,.st p.ready,.sl 6 0 x.2.acc.length]],3,51,true,false⟩,some ⟨[x.2.own.cs],2,223,true,false⟩,some ⟨x.2.acc.map PieceD.cs,2,223,true,true⟩])) (fun (x:Nat×PpS)=>x.1<=p.list.length/\PpI x.1 x.2/\qz x.2 (p.list.drop x.1)=G) (fun (x:Nat×PpS)=>p.list.length - x.1) (0,⟨⟨n,t⟩,false,[]⟩) (qI 0 6++qO 1) (⟨Nat.zero_le _,hI0,hG⟩) fun x hx N hN=>?_
   obtain⟨k,g⟩:=x
   obtain⟨hk1,hI,hgo⟩:=hx
   dsimp only at hk1 hI hgo
   have hIo:=hI.own
   have hIp:=hI.pos
   have hIa:=hI.acc
   have hac:g.acc.length<=100:=by split at hIa<;>omega
   refine qR ?_
   refine qB (fun h=>?_) fun h=>?_
   ·have hm:=hF.texts p.list[k] (P6 h)
    obtain⟨hm1,hm2,hm3⟩:=hm
    rw [oX h] at hgo
    refine qX ?_
    refine qB (fun h2=>?_) fun h2=>?_
    ·rw [sE zO] at hgo
     refine qX ?_
     refine lr hN (k+1,⟨g.own,g.laid,g.acc++[p.list[k]]⟩) (qI 0 6++qI 9 1) (by (try dsimp only);exact⟨zO,Bl hI hm1,hgo⟩) ?_
     first|exact⟨⟩|simp [PieceD.cs]
    refine qX ?_
    refine qB (fun h3=>?_) fun h3=>?_
    ·rw [sF zO zO] at hgo
     cases hgl:g.laid with
     |true=>
      rw [hgl,if_pos rfl] at hgo
      try simp (disch:=omega) only [go_sem,seval,hgl]
      refine lr hN (k+1,⟨g.own,true,g.acc++[p.list[k]]⟩) (qI 0 6++qI 9 1) (by (try dsimp only);exact⟨zO,x_ hI hgl hm1,hgo⟩) ?_
      first|exact⟨⟩|simp [PieceD.cs]
     |false=>
      rw [hgl,if_neg zP] at hgo
      try simp (disch:=omega) only [go_sem,seval,hgl]
      refine lr hN (k+1,⟨g.own,true,g.acc++[g.own]++[p.list[k]]⟩) (qI 0 6++qI 11 1) (by (try dsimp only);exact⟨zO,ya hI zO hgl hm1,hgo⟩) ?_
      first|exact⟨⟩|simp [PieceD.cs]
    rw [sG zO zO] at hgo
    refine qX ?_
    refine qK (vo p.list[k] g.own zO zO zO zO zO zO) [] ?_
    refine lr hN (k+1,⟨jn p.list[k] g.own,g.laid,g.acc⟩) (qI 0 7) (by (try dsimp only);exact⟨zO,EA hI hm1 hm2 hm3,hgo⟩) ?_
    first|exact⟨⟩|simp [PieceD.cs]
   have hkl:k=p.list.length:=zO
   rw [sH zO] at hgo
   subst hgo
   obtain⟨y,r,hyr,hyt,hyl⟩:=mW hI zO
   rw [sI hG hyr]
   have hyr':=hyr
   rw [nC] at hyr'
   cases hgl:g.laid with
   |true=>
    rw [hgl,if_pos rfl] at hyr'
    rw [hyr']
    try simp (disch:=omega) only [go_sem,seval,hgl,zk]
    refine qX ?_
    refine qB (fun h5=>?_) fun h5=>?_
    ·refine qD [0,1,2,3,4,5,6,7,8,9] ?_
     refine⟨qC,ab 400 ?_⟩
     have hE1:= @lD p y r h5
     refine qX ?_
     refine qK (cJ ⟨p.read,p.ready++y.text,r⟩ (by simp at hyl⊢;omega)) [some (6,some 1)] ?_
     refine qB (fun h6=>?_) fun h6=>?_
     ·rw [fA (by rw [hE1];exact h6)]
      refine qX ?_
      refine qK (aI p hs.list) (qI 0 1) ?_
      exact qF (qI 0 1++qI 7 1)
     rw [fB (by rw [hE1];exact h6),hE1]
     refine qX ?_
     refine qK (aI ⟨p.read,p.ready++y.text,r⟩ (by simp at hyl⊢;omega)) [some (6,some 1)] ?_
     refine qP (qI 0 1++qI 7 1) ?_
     first|exact⟨⟩|simp
    have hE1:= @lE p y r h5
    refine qX ?_
    refine qK (cJ ⟨p.read,p.ready,y::r⟩ (by simp at hyl⊢;omega)) (qI 6 1) ?_
    refine qB (fun h6=>?_) fun h6=>?_
    ·rw [fA (by rw [hE1];exact h6)]
     refine qX ?_
     refine qK (aI p hs.list) (qI 0 1) ?_
     exact qF (qI 0 1++qI 7 1)
    rw [fB (by rw [hE1];exact h6),hE1]
    refine qX ?_
    refine qK (aI ⟨p.read,p.ready,y::r⟩ (by simp at hyl⊢;omega)) (qI 6 1) ?_
    refine qP (qI 0 1++qI 7 1) ?_
    first|exact⟨⟩|simp
   |false=>
    rw [hgl,if_neg zP] at hyr'
    have e1:g.acc.map PieceD.cs++[g.own.cs]=PieceD.cs y::r.map PieceD.cs:=by rw [<-zk,<-hyr'];simp
    have e2:g.acc.length+1=r.length+1:=by have:=congrArg List.length hyr';simpa using this
    simp only [PieceD.cs] at e1
    try simp (disch:=omega) only [go_sem,seval,hgl,e1,e2]
    refine qX ?_
    refine qB (fun h5=>?_) fun h5=>?_
    ·refine qD [0,1,2,3,4,5,6,7,8,9] ?_
     refine⟨qC,ab 400 ?_⟩
     have hE1:= @lD p y r h5
     refine qX ?_
     refine qK (cJ ⟨p.read,p.ready++y.text,r⟩ (by simp at hyl⊢;omega)) [some (8,some 1)] ?_
     refine qB (fun h6=>?_) fun h6=>?_
     ·rw [fA (by rw [hE1];exact h6)]
      refine qX ?_
      refine qK (aI p hs.list) (qI 0 1) ?_
      exact qF (qI 0 1++qI 9 1)
     rw [fB (by rw [hE1];exact h6),hE1]
     refine qX ?_
     refine qK (aI ⟨p.read,p.ready++y.text,r⟩ (by simp at hyl⊢;omega)) [some (8,some 1)] ?_
     refine qP (qI 0 1++qI 9 1) ?_
     first|exact⟨⟩|simp
    have hE1:= @lE p y r h5
    refine qX ?_
    refine qK (cJ ⟨p.read,p.ready,y::r⟩ (by simp at hyl⊢;omega)) (qI 8 1) ?_
    refine qB (fun h6=>?_) fun h6=>?_
    ·rw [fA (by rw [hE1];exact h6)]
     refine qX ?_
     refine qK (aI p hs.list) (qI 0 1) ?_
     exact qF (qI 0 1++qI 9 1)
    rw [fB (by rw [hE1];exact h6),hE1]
    refine qX ?_
    refine qK (aI ⟨p.read,p.ready,y::r⟩ (by simp at hyl⊢;omega)) (qI 8 1) ?_
    refine qP (qI 0 1++qI 9 1) ?_
    first|exact⟨⟩|simp
  rw [hf (by rw [hok];simp [h2])]
  refine qX ?_
  refine qK (aI p hs.list) (qI 0 1) ?_
  exact qF (qI 0 1++qI 4 1)
 rw [hf (by rw [hok];simp [h1])]
 refine qX ?_
 refine qK (aI p hs.list) (qI 0 1) ?_
 exact qF (qI 0 1++qI 3 1)
theorem Ac (p:PiecesD) (n:Int) (t:List UInt8) (hs:SmallP p):aP 288 [.ag (p.cs 0),.sc (.int .i64 n),.sc (.st t)] (p.hp false) (.ag ((cz p n t).cs 1))
  (p.hp false++(cz p n t).hp false):=by
 have hO:=cK p hs.list
 have hN:=fg p
 have hf:=O3 (p:=p) (n:=n) (t:=t)
 have hold:=KI (p:=p) (n:=n) (t:=t)
 have hcut:=fun k=> @KJ p n t k
 have hnew:=KL (p:=p) (n:=n) (t:=t)
 have hok:=x9.eq_1 p n t
 generalize cz p n t=R at*
 refine Ip func288 zXk rfl fun E hE=>ab 400 ?_
 simp (disch:=omega) only [ntmps288,results288,go_sem,seval]
 refine qK (mQ p hs.list) (qI 0 1) ?_
 refine qK (hO) (qI 0 1) ?_
 refine qB (fun h1=>?_) fun h1=>?_
 ·refine qK (aJ n 0 1000000000) [] ?_
  rw [Ci]
  refine qX ?_
  refine qB (fun h2=>?_) fun h2=>?_
  ·refine qX ?_
   refine qK (aJ (t.length:Int) 1 200) [] ?_
   refine qB (fun h3=>?_) fun h3=>?_
   ·rw [hf (by rw [hok];simp [h3])]
    refine qX ?_
    refine cY (qI 0 1++qI 3 1) (qC) _ zXg zF zF ?_
    simp (disch:=omega) only [go_sem,seval]
   have hok1:x9 p n t=true:=by rw [hok];simp [h1,h2,h3]
   have hF:=dX h1 hs
   have hn1:=h2
   have hn3:=h3
   simp only [fv,bU,zG,decide_eq_true_eq] at hn1 hn3
   have hr0:=hF.r0
   have hr1:=hF.r1
   have hrl:=hF.list
   have hrr:=hF.ready
   have hnx:=hF.next
   refine qX ?_
   refine qK (hN) (qI 0 1) ?_
   refine qB (fun h4=>?_) fun h4=>?_
   ·rw [hold hok1 h4]
    refine qX ?_
    refine cY (qI 0 1++qI 3 1) (qC) _ zXg zF zF ?_
    simp (disch:=omega) only [go_sem,seval]
   refine qX ?_
   refine qB (fun h7=>?_) fun h7=>?_
   ·obtain⟨m,hm⟩:=Int.eq_ofNat_of_zero_le (show 0<=nextOf p - n by omega)
    rw [hcut m hok1 hm zO zO]
    have hnn:nextOf p=n+(m:Int):=zO
    have hI0:PpI 0 ⟨⟨nextOf p,t.drop m⟩,false,[]⟩:=oz zO zO zS
    have hadd:n+(m:Int)=nextOf p:=zO
    try simp (disch:=omega) only [go_sem,seval,hm,hadd]
    obtain⟨G,hG⟩:∃ G,qz ⟨⟨nextOf p,t.drop m⟩,false,[]⟩ p.list=G:=⟨_,rfl⟩
    refine fJ 1 hE (fun s (x:Nat×PpS)=>s.at (qU [0,3,9,1,13,100]) [(12,.sc (.int .i64 (x.1:Nat))),(11,.sc (.bo x.2.laid))] ([some ⟨p.list.map PieceD.cs,2,223,false,true⟩,some ⟨[p.cs 0],3,51,true,false⟩,some ⟨[[.int .i64 0,.st [],.nil]],3,51,true,false⟩,some ⟨p.list.map PieceD.cs,2,223,true,true⟩,some ⟨[p.cs 3],3,51,true,false⟩,some ⟨[x.2.own.cs],2,223,true,false⟩,some ⟨x.2.acc.map PieceD.cs,2,223,true,true⟩,some ⟨[[.int .i64 p.read,.st p.ready,.sl 6 0 x.2.acc.length]],3,51,true,false⟩])) (fun (x:Nat×PpS)=>x.1<=p.list.length/\PpI x.1 x.2/\qz x.2 (p.list.drop x.1)=G) (fun (x:Nat×PpS)=>p.list.length - x.1) (0,⟨⟨nextOf p,t.drop m⟩,false,[]⟩) (qI 0 8) (⟨Nat.zero_le _,hI0,hG⟩) fun x hx N hN=>?_
    obtain⟨k,g⟩:=x
    obtain⟨hk1,hI,hgo⟩:=hx
    dsimp only at hk1 hI hgo
    have hIo:=hI.own
    have hIp:=hI.pos
    have hIa:=hI.acc
    have hac:g.acc.length<=100:=by split at hIa<;>omega
    refine qR ?_
    refine qB (fun h=>?_) fun h=>?_
    ·have hm:=hF.texts p.list[k] (P6 h)
     obtain⟨hm1,hm2,hm3⟩:=hm
     rw [oX h] at hgo
     refine qX ?_
     refine qB (fun h2=>?_) fun h2=>?_
     ·rw [sE zO] at hgo
      refine qX ?_
      refine lr hN (k+1,⟨g.own,g.laid,g.acc++[p.list[k]]⟩) (qI 0 6++qI 10 1++qI 7 1) (by (try dsimp only);exact⟨zO,Bl hI hm1,hgo⟩) ?_
      first|exact⟨⟩|simp [PieceD.cs]
     refine qX ?_
     refine qB (fun h3=>?_) fun h3=>?_
     ·rw [sF zO zO] at hgo
      cases hgl:g.laid with
      |true=>
       rw [hgl,if_pos rfl] at hgo
       try simp (disch:=omega) only [go_sem,seval,hgl]
       refine lr hN (k+1,⟨g.own,true,g.acc++[p.list[k]]⟩) (qI 0 6++qI 10 1++qI 7 1) (by (try dsimp only);exact⟨zO,x_ hI hgl hm1,hgo⟩) ?_
       first|exact⟨⟩|simp [PieceD.cs]
      |false=>
       rw [hgl,if_neg zP] at hgo
       try simp (disch:=omega) only [go_sem,seval,hgl]
       refine lr hN (k+1,⟨g.own,true,g.acc++[g.own]++[p.list[k]]⟩) (qI 0 6++qI 12 1++qI 7 1) (by (try dsimp only);exact⟨zO,ya hI zO hgl hm1,hgo⟩) ?_
       first|exact⟨⟩|simp [PieceD.cs]
     rw [sG zO zO] at hgo
     refine qX ?_
     refine qK (sJ p.list[k] g.own zO zO zO zO zO zO) [] ?_
     refine lr hN (k+1,⟨jn p.list[k] g.own,g.laid,g.acc⟩) (qI 0 8) (by (try dsimp only);exact⟨zO,EA hI hm1 hm2 hm3,hgo⟩) ?_
     first|exact⟨⟩|simp [PieceD.cs]
    have hkl:k=p.list.length:=zO
    rw [sH zO] at hgo
    subst hgo
    obtain⟨y,r,hyr,hyt,hyl⟩:=mW hI zO
    rw [sI hG hyr]
    have hyr':=hyr
    rw [nC] at hyr'
    cases hgl:g.laid with
    |true=>
     rw [hgl,if_pos rfl] at hyr'
     rw [hyr']
     try simp (disch:=omega) only [go_sem,seval,hgl,zk]
     refine qD [0,1,2,3,4,5,6,7] ?_
     refine aE (fg ⟨p.read,p.ready,y::r⟩) (qI 6 1) ?_
     refine⟨qC,ab 400 ?_⟩
     rw [show nextOf ⟨p.read,p.ready,y::r⟩=nextOf p from rfl]
     refine qX ?_
     refine qB (fun h5=>?_) fun h5=>?_
     ·refine qD [0,1,2,3,4,5,6,7,8,9] ?_
      refine⟨qC,ab 400 ?_⟩
      have hE1:= @lD p y r h5
      refine qX ?_
      refine qK (cK ⟨p.read,p.ready++y.text,r⟩ (by simp at hyl⊢;omega)) [some (6,some 1)] ?_
      refine qB (fun h6=>?_) fun h6=>?_
      ·rw [fA (by rw [hE1];exact h6)]
       refine qX ?_
       refine cY (qI 0 1++qI 3 1) (qC) _ zXg zF zF ?_
       simp (disch:=omega) only [go_sem,seval]
      rw [fB (by rw [hE1];exact h6),hE1]
      refine qX ?_
      refine cY [some (0,none),some (6,some 1)] (qC) _ zXg zF zF ?_
      simp (disch:=omega) only [go_sem,seval]
      try simp
     have hE1:= @lE p y r h5
     refine qX ?_
     refine qK (cK ⟨p.read,p.ready,y::r⟩ (by simp at hyl⊢;omega)) (qI 6 1) ?_
     refine qB (fun h6=>?_) fun h6=>?_
     ·rw [fA (by rw [hE1];exact h6)]
      refine qX ?_
      refine cY (qI 0 1++qI 3 1) (qC) _ zXg zF zF ?_
      simp (disch:=omega) only [go_sem,seval]
     rw [fB (by rw [hE1];exact h6),hE1]
     refine qX ?_
     refine cY (qI 0 1++qI 6 1) (qC) _ zXg zF zF ?_
     simp (disch:=omega) only [go_sem,seval]
     try simp
    |false=>
     rw [hgl,if_neg zP] at hyr'
     have e1:g.acc.map PieceD.cs++[g.own.cs]=PieceD.cs y::r.map PieceD.cs:=by rw [<-zk,<-hyr'];simp
     have e2:g.acc.length+1=r.length+1:=by have:=congrArg List.length hyr';simpa using this
     simp only [PieceD.cs] at e1
     try simp (disch:=omega) only [go_sem,seval,hgl,e1,e2]
     refine qD [0,1,2,3,4,5,6,7] ?_
     refine aE (fg ⟨p.read,p.ready,y::r⟩) (qI 9 1) ?_
     refine⟨qC,ab 400 ?_⟩
     rw [show nextOf ⟨p.read,p.ready,y::r⟩=nextOf p from rfl]
     refine qX ?_
     refine qB (fun h5=>?_) fun h5=>?_
     ·refine qD [0,1,2,3,4,5,6,7,8,9] ?_
      refine⟨qC,ab 400 ?_⟩
      have hE1:= @lD p y r h5
      refine qX ?_
      refine qK (cK ⟨p.read,p.ready++y.text,r⟩ (by simp at hyl⊢;omega)) [some (9,some 1)] ?_
      refine qB (fun h6=>?_) fun h6=>?_
      ·rw [fA (by rw [hE1];exact h6)]
       refine qX ?_
       refine cY (qI 0 1++qI 3 1) (qC) _ zXg zF zF ?_
       simp (disch:=omega) only [go_sem,seval]
      rw [fB (by rw [hE1];exact h6),hE1]
      refine qX ?_
      refine cY [some (0,none),some (9,some 1)] (qC) _ zXg zF zF ?_
      simp (disch:=omega) only [go_sem,seval]
      try simp
     have hE1:= @lE p y r h5
     refine qX ?_
     refine qK (cK ⟨p.read,p.ready,y::r⟩ (by simp at hyl⊢;omega)) (qI 9 1) ?_
     refine qB (fun h6=>?_) fun h6=>?_
     ·rw [fA (by rw [hE1];exact h6)]
      refine qX ?_
      refine cY (qI 0 1++qI 3 1) (qC) _ zXg zF zF ?_
      simp (disch:=omega) only [go_sem,seval]
     rw [fB (by rw [hE1];exact h6),hE1]
     refine qX ?_
     refine cY (qI 0 1++qI 9 1) (qC) _ zXg zF zF ?_
     simp (disch:=omega) only [go_sem,seval]
     try simp
   rw [hnew hok1 zO]
   have hI0:PpI 0 ⟨⟨n,t⟩,false,[]⟩:=oz zO zO zO
   refine qX ?_
   obtain⟨G,hG⟩:∃ G,qz ⟨⟨n,t⟩,false,[]⟩ p.list=G:=⟨_,rfl⟩
   refine fJ 1 hE (fun s (x:Nat×PpS)=>s.at (qU [0,3,9,1,13,100]) [(12,.sc (.int .i64 (x.1:Nat))),(11,.sc (.bo x.2.laid))] ([some ⟨p.list.map PieceD.cs,2,223,false,true⟩,some ⟨[p.cs 0],3,51,true,false⟩,some ⟨[[.int .i64 0,.st [],.nil]],3,51,true,false⟩,some ⟨p.list.map PieceD.cs,2,223,true,true⟩,some ⟨[p.cs 3],3,51,true,false⟩,some ⟨[x.2.own.cs],2,223,true,false⟩,some ⟨x.2.acc.map PieceD.cs,2,223,true,true⟩,some ⟨[[.int .i64 p.read,.st p.ready,.sl 6 0 x.2.acc.length]],3,51,true,false⟩])) (fun (x:Nat×PpS)=>x.1<=p.list.length/\PpI x.1 x.2/\qz x.2 (p.list.drop x.1)=G) (fun (x:Nat×PpS)=>p.list.length - x.1) (0,⟨⟨n,t⟩,false,[]⟩) (qI 0 8) (⟨Nat.zero_le _,hI0,hG⟩) fun x hx N hN=>?_
   obtain⟨k,g⟩:=x
   obtain⟨hk1,hI,hgo⟩:=hx
   dsimp only at hk1 hI hgo
   have hIo:=hI.own
   have hIp:=hI.pos
   have hIa:=hI.acc
   have hac:g.acc.length<=100:=by split at hIa<;>omega
   refine qR ?_
   refine qB (fun h=>?_) fun h=>?_
   ·have hm:=hF.texts p.list[k] (P6 h)
    obtain⟨hm1,hm2,hm3⟩:=hm
    rw [oX h] at hgo
    refine qX ?_
    refine qB (fun h2=>?_) fun h2=>?_
    ·rw [sE zO] at hgo
     refine qX ?_
     refine lr hN (k+1,⟨g.own,g.laid,g.acc++[p.list[k]]⟩) (qI 0 6++qI 10 1++qI 7 1) (by (try dsimp only);exact⟨zO,Bl hI hm1,hgo⟩) ?_
     first|exact⟨⟩|simp [PieceD.cs]
    refine qX ?_
    refine qB (fun h3=>?_) fun h3=>?_
    ·rw [sF zO zO] at hgo
     cases hgl:g.laid with
     |true=>
      rw [hgl,if_pos rfl] at hgo
      try simp (disch:=omega) only [go_sem,seval,hgl]
      refine lr hN (k+1,⟨g.own,true,g.acc++[p.list[k]]⟩) (qI 0 6++qI 10 1++qI 7 1) (by (try dsimp only);exact⟨zO,x_ hI hgl hm1,hgo⟩) ?_
      first|exact⟨⟩|simp [PieceD.cs]
     |false=>
      rw [hgl,if_neg zP] at hgo
      try simp (disch:=omega) only [go_sem,seval,hgl]
      refine lr hN (k+1,⟨g.own,true,g.acc++[g.own]++[p.list[k]]⟩) (qI 0 6++qI 12 1++qI 7 1) (by (try dsimp only);exact⟨zO,ya hI zO hgl hm1,hgo⟩) ?_
      first|exact⟨⟩|simp [PieceD.cs]
    rw [sG zO zO] at hgo
    refine qX ?_
    refine qK (sJ p.list[k] g.own zO zO zO zO zO zO) [] ?_
    refine lr hN (k+1,⟨jn p.list[k] g.own,g.laid,g.acc⟩) (qI 0 8) (by (try dsimp only);exact⟨zO,EA hI hm1 hm2 hm3,hgo⟩) ?_
    first|exact⟨⟩|simp [PieceD.cs]
   have hkl:k=p.list.length:=zO
   rw [sH zO] at hgo
   subst hgo
   obtain⟨y,r,hyr,hyt,hyl⟩:=mW hI zO
   rw [sI hG hyr]
   have hyr':=hyr
   rw [nC] at hyr'
   cases hgl:g.laid with
   |true=>
    rw [hgl,if_pos rfl] at hyr'
    rw [hyr']
    try simp (disch:=omega) only [go_sem,seval,hgl,zk]
    refine qD [0,1,2,3,4,5,6,7] ?_
    refine aE (fg ⟨p.read,p.ready,y::r⟩) (qI 6 1) ?_
    refine⟨qC,ab 400 ?_⟩
    rw [show nextOf ⟨p.read,p.ready,y::r⟩=nextOf p from rfl]
    refine qX ?_
    refine qB (fun h5=>?_) fun h5=>?_
    ·refine qD [0,1,2,3,4,5,6,7,8,9] ?_
     refine⟨qC,ab 400 ?_⟩
     have hE1:= @lD p y r h5
     refine qX ?_
     refine qK (cK ⟨p.read,p.ready++y.text,r⟩ (by simp at hyl⊢;omega)) [some (6,some 1)] ?_
     refine qB (fun h6=>?_) fun h6=>?_
     ·rw [fA (by rw [hE1];exact h6)]
      refine qX ?_
      refine cY (qI 0 1++qI 3 1) (qC) _ zXg zF zF ?_
      simp (disch:=omega) only [go_sem,seval]
     rw [fB (by rw [hE1];exact h6),hE1]
     refine qX ?_
     refine cY [some (0,none),some (6,some 1)] (qC) _ zXg zF zF ?_
     simp (disch:=omega) only [go_sem,seval]
     try simp
    have hE1:= @lE p y r h5
    refine qX ?_
    refine qK (cK ⟨p.read,p.ready,y::r⟩ (by simp at hyl⊢;omega)) (qI 6 1) ?_
    refine qB (fun h6=>?_) fun h6=>?_
    ·rw [fA (by rw [hE1];exact h6)]
     refine qX ?_
     refine cY (qI 0 1++qI 3 1) (qC) _ zXg zF zF ?_
     simp (disch:=omega) only [go_sem,seval]
    rw [fB (by rw [hE1];exact h6),hE1]
    refine qX ?_
    refine cY (qI 0 1++qI 6 1) (qC) _ zXg zF zF ?_
    simp (disch:=omega) only [go_sem,seval]
    try simp
   |false=>
    rw [hgl,if_neg zP] at hyr'
    have e1:g.acc.map PieceD.cs++[g.own.cs]=PieceD.cs y::r.map PieceD.cs:=by rw [<-zk,<-hyr'];simp
    have e2:g.acc.length+1=r.length+1:=by have:=congrArg List.length hyr';simpa using this
    simp only [PieceD.cs] at e1
    try simp (disch:=omega) only [go_sem,seval,hgl,e1,e2]
    refine qD [0,1,2,3,4,5,6,7] ?_
    refine aE (fg ⟨p.read,p.ready,y::r⟩) (qI 9 1) ?_
    refine⟨qC,ab 400 ?_⟩
    rw [show nextOf ⟨p.read,p.ready,y::r⟩=nextOf p from rfl]
    refine qX ?_
    refine qB (fun h5=>?_) fun h5=>?_
    ·refine qD [0,1,2,3,4,5,6,7,8,9] ?_
     refine⟨qC,ab 400 ?_⟩
     have hE1:= @lD p y r h5
     refine qX ?_
     refine qK (cK ⟨p.read,p.ready++y.text,r⟩ (by simp at hyl⊢;omega)) [some (9,some 1)] ?_
     refine qB (fun h6=>?_) fun h6=>?_
     ·rw [fA (by rw [hE1];exact h6)]
      refine qX ?_
      refine cY (qI 0 1++qI 3 1) (qC) _ zXg zF zF ?_
      simp (disch:=omega) only [go_sem,seval]
     rw [fB (by rw [hE1];exact h6),hE1]
     refine qX ?_
     refine cY [some (0,none),some (9,some 1)] (qC) _ zXg zF zF ?_
     simp (disch:=omega) only [go_sem,seval]
     try simp
    have hE1:= @lE p y r h5
    refine qX ?_
    refine qK (cK ⟨p.read,p.ready,y::r⟩ (by simp at hyl⊢;omega)) (qI 9 1) ?_
    refine qB (fun h6=>?_) fun h6=>?_
    ·rw [fA (by rw [hE1];exact h6)]
     refine qX ?_
     refine cY (qI 0 1++qI 3 1) (qC) _ zXg zF zF ?_
     simp (disch:=omega) only [go_sem,seval]
    rw [fB (by rw [hE1];exact h6),hE1]
    refine qX ?_
    refine cY (qI 0 1++qI 9 1) (qC) _ zXg zF zF ?_
    simp (disch:=omega) only [go_sem,seval]
    try simp
  rw [hf (by rw [hok];simp [h2])]
  refine qX ?_
  refine cY (qI 0 1++qI 3 1) (qC) _ zXg zF zF ?_
  simp (disch:=omega) only [go_sem,seval]
 rw [hf (by rw [hok];simp [h1])]
 refine qX ?_
 refine cY (qI 0 1++qI 3 1) (qC) _ zXg zF zF ?_
 simp (disch:=omega) only [go_sem,seval]
theorem mZ {e:EndD} (hs:Small e):Small (fi e).1:=by
 rw [fi];split
 ·exact⟨hs.own,hs.far,hs.subs,hs.halfs,hs.list,hs.done,hs.over⟩
 exact hs
theorem sU (e:EndD):(fi e).2.length<=1:=by
 rw [fi];split<;>simp
theorem KR (e:EndD):(fi e).1.inp=e.inp:=by
 rw [fi];split<;>rfl
theorem oZ (e:EndD):(fi e).1.out.text=e.out.text:=by
 rw [fi];split
 ·dsimp only;rw [sT];split<;>rfl
 rfl
theorem IY (e:EndD) (hs:Small e) (ht:e.out.text.length<=1048576):aP 189 [.ag (e.cs 0)] (e.hp false) (.tu [.ag ((fi e).1.cs 7),.sc (.sl 14 0 (fi e).2.length)])
  (e.hp false++((fi e).1.hp true++[some ⟨(fi e).2.map LetterD.cs,19,36,true,true⟩])):=by
 have hC:=(qH (aG e))
 have hN:=oF e.out ht
 have hX:=(qH (CO e))
 have hf:=KN (e:=e)
 have hpt:= @KO e
 have hpk:jc e.out=true->eh e.out=(⟨e.out.sent,cX e.out⟩,true):=IS
 have hpf:jc e.out=false->eh e.out=(⟨0,[]⟩,false):=ME
 have hW:=fun h=>CR e.out ht h
 have hcase:=pZ e
 have hpo:mY e=(jc e.out && decide (0<=bD e)):=rfl
 have hpick:0<=bD e->0<=e.pick/\e.pick<=1000000000:=fun h=>by
  rw [bD] at h
  split at h
  ·rename_i hh;exact lc hh.1
  omega
 generalize fi e=R at*
 generalize eh e.out=np at*
 obtain⟨⟨npos,ntext⟩,nok⟩:=np
 refine ix func189 ntmps189 results189 fun E hE=>?_
 refine qK (hC) (qI 0 7) ?_
 refine qK (hN) [] ?_
 refine qK (hX) (qI 0 7) ?_
 by_cases h1:jc e.out=true/\0<=bD e
 ·obtain⟨h1,h2⟩:=h1
  have hok:nok=true:=by have:=hpk h1;simp only [Prod.mk.injEq] at this;exact this.2
  have hps:npos=e.out.sent:=by have:=hpk h1;simp only [Prod.mk.injEq,PieceD.mk.injEq] at this;exact this.1.1
  have htx:ntext=cX e.out:=by have:=hpk h1;simp only [Prod.mk.injEq,PieceD.mk.injEq] at this;exact this.1.2
  subst hok hps htx
  have hW:=hW h1
  have hpick:=hpick zO
  obtain⟨n,hn,hk⟩:∃ m:Nat,m < e.subs.length/\bD e=(m:Int):=by rcases hcase with h|h;omega;exact h
  rw [hpt (by rw [hpo,h1,decide_eq_true zO];rfl) hk hn]
  have hg:=aC (enc:=SubD.cs) hn
  generalize bD e=z at*
  subst hk
  refine qX ?_
  refine qK (hW) [] ?_
  refine qK (Ag e.pick (by simp only [bN];omega)) [] ?_
  try simp (disch:=omega) only [go_sem,seval,hg]
  refine aR [(11,12)] [] [(qU [0,14]),(qU [0,11,12,1,11,1,13,1])] 7 hE (fun s=>s.at (qU [39,12]) [(3,.sc (.sl 19 0 1))] ((s.hp.set 8 (some ⟨[[.int .i64 e.side,.int .i64 e.state,.int .i64 e.key,.int .i64 e.peer,.int .i64 e.policy.kind,.int .i64 e.policy.many,.sl 9 0 e.own.length,.sl 10 0 e.far.length,.sl 11 0 e.subs.length,.sl 12 0 e.halfs.length,.int .i64 e.bucket.rate,.int .i64 e.bucket.burst,.int .i64 e.bucket.cur,.st e.out.text,.int .i64 e.out.base,.int .i64 (e.out.sent+((cX e.out).length:Int)),.int .i64 e.out.room,.int .i64 e.inp.read,.st e.inp.ready,.sl 13 0 e.inp.list.length,.sl 14 0 e.done.length,.sl 15 0 e.over.length,.int .i64 e.draw,.int .i64 e.now,.int .i64 (jF e.pick)]],25,54,true,false⟩))++[some ⟨[(EJ e.subs[n] e.out).cs],19,36,true,true⟩])) zXk (qC) zXk ?_ (ab 400 ?_)
  rotate_left
  rotate_right
  simp only [aM]
  refine⟨aa 400 ?_,aa 400 ?_⟩
  ·simp (disch:=omega) only [go_sem]
   refine aE (bB e.subs[n].road { ac with kind:=11,sgn:=e.subs[n].give,pos:=e.out.sent,text:=cX e.out }) [] ?_
   refine⟨qC,(qI 0 20),ae zF zF ?_⟩
   try simp (disch:=omega) only [go_sem,seval]
   try rfl
  ·simp (disch:=omega) only [go_sem]
   refine aE (bB e.subs[n].road { ac with kind:=11,sgn:=e.subs[n].give,pos:=e.out.sent,text:=cX e.out }) [] ?_
   refine⟨qC,(qI 0 20),ae zF zF ?_⟩
   try simp (disch:=omega) only [go_sem,seval]
   try rfl
  refine qX ?_
  exact cP (qI 0 7++qI 9 7++qI 19 1)
 have hpn:mY e=false:=by
  rw [hpo]
  by_cases h3:jc e.out=true
  ·rw [h3,decide_eq_false (fun h=>h1 ⟨h3,h⟩)];rfl
  rw [P9] at h3;rw [h3];rfl
 rw [hf hpn]
 have hno:nok=false\/bD e= -1:=by
  by_cases h3:jc e.out=true
  ·right;rcases hcase with h|⟨m,_,h⟩
   ·exact h
   exact absurd ⟨h3,zO⟩ h1
  left;have:=hpf (by simpa using h3);simp only [Prod.mk.injEq] at this;exact this.2
 rcases hno with hno|hno
 ·subst hno
  refine qX ?_
  exact cP (qI 0 7++qI 9 7++qO 1)
 rw [hno] at*
 cases nok with
 |false=>
  refine qX ?_
  exact cP (qI 0 7++qI 9 7++qO 1)
 |true=>
  refine qX ?_
  exact cP (qI 0 7++qI 9 7++qO 1)
theorem Bs (e:EndD) (hs:Small e) (ht:e.out.text.length<=1048576):aP 218 [.ag (e.cs 0)] (e.hp false) (.tu [.ag ((fi e).1.cs 7),.sc (.sl 14 0 (fi e).2.length)])
  (e.hp false++((fi e).1.hp true++[some ⟨(fi e).2.map LetterD.cs,19,36,true,true⟩])):=by
 have hC:=(qH (aF e))
 have hN:=oG e.out ht
 have hX:=(qH (CP e))
 have hf:=KN (e:=e)
 have hpt:= @KO e
 have hpk:jc e.out=true->eh e.out=(⟨e.out.sent,cX e.out⟩,true):=IS
 have hpf:jc e.out=false->eh e.out=(⟨0,[]⟩,false):=ME
 have hW:=fun h=>CT e.out ht h
 have hcase:=pZ e
 have hpo:mY e=(jc e.out && decide (0<=bD e)):=rfl
 have hpick:0<=bD e->0<=e.pick/\e.pick<=1000000000:=fun h=>by
  rw [bD] at h
  split at h
  ·rename_i hh;exact lc hh.1
  omega
 generalize fi e=R at*
 generalize eh e.out=np at*
 obtain⟨⟨npos,ntext⟩,nok⟩:=np
 refine ix func218 ntmps218 results218 fun E hE=>?_
 refine qK (hC) (qI 0 7) ?_
 refine qK (hX) (qI 0 7) ?_
 refine qK (hN) [] ?_
 by_cases h1:jc e.out=true/\0<=bD e
 ·obtain⟨h1,h2⟩:=h1
  have hok:nok=true:=by have:=hpk h1;simp only [Prod.mk.injEq] at this;exact this.2
  have hps:npos=e.out.sent:=by have:=hpk h1;simp only [Prod.mk.injEq,PieceD.mk.injEq] at this;exact this.1.1
  have htx:ntext=cX e.out:=by have:=hpk h1;simp only [Prod.mk.injEq,PieceD.mk.injEq] at this;exact this.1.2
  subst hok hps htx
  have hW:=hW h1
  have hpick:=hpick zO
  obtain⟨n,hn,hk⟩:∃ m:Nat,m < e.subs.length/\bD e=(m:Int):=by rcases hcase with h|h;omega;exact h
  rw [hpt (by rw [hpo,h1,decide_eq_true zO];rfl) hk hn]
  have hg:=aC (enc:=SubD.cs) hn
  generalize bD e=z at*
  subst hk
  have hpk2:jF e.pick=if 1000000000 < e.pick+1 then 0 else e.pick+1:=by rw [jF];split<;>split<;>omega
  refine qX ?_
  refine P4 39 (hW) [] ?_
  refine fE 7 hE (fun s=>s.at (qU [8,1,10,31]) [] (s.hp.set 16 (some ⟨[[.int .i64 e.side,.int .i64 e.state,.int .i64 e.key,.int .i64 e.peer,.int .i64 e.policy.kind,.int .i64 e.policy.many,.sl 9 0 e.own.length,.sl 10 0 e.far.length,.sl 11 0 e.subs.length,.sl 12 0 e.halfs.length,.int .i64 e.bucket.rate,.int .i64 e.bucket.burst,.int .i64 e.bucket.cur,.st e.out.text,.int .i64 e.out.base,.int .i64 (e.out.sent+((cX e.out).length:Int)),.int .i64 e.out.room,.int .i64 e.inp.read,.st e.inp.ready,.sl 13 0 e.inp.list.length,.sl 14 0 e.done.length,.sl 15 0 e.over.length,.int .i64 e.draw,.int .i64 e.now,.int .i64 (jF e.pick)]],25,54,true,false⟩))) (qC) zF (fun N hN=>ab 401 ?_) (eO 39 400 ?_)
  ·refine qX ?_
   refine qB (fun b9=>?_) fun b9=>?_
   ·rw [if_pos zO] at hpk2
    refine qX ?_
    refine⟨qC,hN _ (qI 0 19) (ae zF zF ?_)⟩
    simp (disch:=omega) only [go_sem,seval]
    exact hpk2.symm
   rw [if_neg zO] at hpk2
   refine qX ?_
   refine⟨qC,hN _ (qI 0 19) (ae zF zF ?_)⟩
   simp (disch:=omega) only [go_sem,seval]
   exact hpk2.symm
  try simp (disch:=omega) only [go_sem,seval,hg]
  refine aR [(0,13),(11,0),(12,0)] [(11,12),(11,13),(12,13)] [(qU [1,12,0,1,13,3]),(qU [1,11,0,1,12,4]),(qU [1,10,0,1,11,5]),(qU [1,13,0,1,14,2])] 7 hE (fun s=>s.at (qU [5,1,46,14]) [(3,.sc (.sl 20 0 1))] (((s.hp.set 8 (some ⟨[[.int .i64 e.side,.int .i64 e.state,.int .i64 e.key,.int .i64 e.peer,.int .i64 e.policy.kind,.int .i64 e.policy.many,.sl 9 0 e.own.length,.sl 10 0 e.far.length,.sl 11 0 e.subs.length,.sl 12 0 e.halfs.length,.int .i64 e.bucket.rate,.int .i64 e.bucket.burst,.int .i64 e.bucket.cur,.st e.out.text,.int .i64 e.out.base,.int .i64 (e.out.sent+((cX e.out).length:Int)),.int .i64 e.out.room,.int .i64 e.inp.read,.st e.inp.ready,.sl 13 0 e.inp.list.length,.sl 14 0 e.done.length,.sl 15 0 e.over.length,.int .i64 e.draw,.int .i64 e.now,.int .i64 (jF e.pick)]],25,54,true,false⟩)).set 17 none)++[some ⟨[(EJ e.subs[n] e.out).cs],19,36,true,true⟩])) zXk (qC) zXk ?_ (ab 400 ?_)
  rotate_left
  rotate_right
  simp only [aM]
  refine⟨aa 400 ?_,aa 400 ?_,aa 400 ?_,aa 400 ?_⟩
  ·simp (disch:=omega) only [go_sem]
   refine aE (a_ e.subs[n].road { ac with kind:=11,sgn:=e.subs[n].give,pos:=e.out.sent,text:=cX e.out }) [] ?_
   refine⟨qC,(qI 0 20++qI 21 1),ae zF zF ?_⟩
   try simp (disch:=omega) only [go_sem,seval]
   try rfl
  ·simp (disch:=omega) only [go_sem]
   refine aE (a_ e.subs[n].road { ac with kind:=11,sgn:=e.subs[n].give,pos:=e.out.sent,text:=cX e.out }) [] ?_
   refine⟨qC,(qI 0 20++qI 21 1),ae zF zF ?_⟩
   try simp (disch:=omega) only [go_sem,seval]
   try rfl
  ·simp (disch:=omega) only [go_sem]
   refine aE (a_ e.subs[n].road { ac with kind:=11,sgn:=e.subs[n].give,pos:=e.out.sent,text:=cX e.out }) [] ?_
   refine⟨qC,(qI 0 20++qI 21 1),ae zF zF ?_⟩
   try simp (disch:=omega) only [go_sem,seval]
   try rfl
  ·simp (disch:=omega) only [go_sem]
   refine aE (a_ e.subs[n].road { ac with kind:=11,sgn:=e.subs[n].give,pos:=e.out.sent,text:=cX e.out }) [] ?_
   refine⟨qC,(qI 0 20++qI 21 1),ae zF zF ?_⟩
   try simp (disch:=omega) only [go_sem,seval]
   try rfl
  refine qX ?_
  exact cP (qI 0 7++qI 9 7++qI 20 1)
 have hpn:mY e=false:=by
  rw [hpo]
  by_cases h3:jc e.out=true
  ·rw [h3,decide_eq_false (fun h=>h1 ⟨h3,h⟩)];rfl
  rw [P9] at h3;rw [h3];rfl
 rw [hf hpn]
 have hno:nok=false\/bD e= -1:=by
  by_cases h3:jc e.out=true
  ·right;rcases hcase with h|⟨m,_,h⟩
   ·exact h
   exact absurd ⟨h3,zO⟩ h1
  left;have:=hpf (by simpa using h3);simp only [Prod.mk.injEq] at this;exact this.2
 rcases hno with hno|hno
 ·subst hno
  refine qX ?_
  rcases hcase with h|⟨m,_,h⟩
  ·try simp (disch:=omega) only [go_sem,seval,h]
   exact cP (qI 0 7++qI 9 7++qI 17 1)
  try simp (disch:=omega) only [go_sem,seval,h]
  exact cP (qI 0 7++qI 9 7++qI 17 1)
 rw [hno] at*
 refine qX ?_
 exact cP (qI 0 7++qI 9 7++qI 17 1)
theorem rg {n:Nat} {e:EndD} (h:n < 3):dP (3 - n) e=((dP (3 - (n+1)) (fi e).1).1,(fi e).2++(dP (3 - (n+1)) (fi e).1).2):=by
 rw [show 3 - n=(3 - (n+1))+1 by omega];rfl
theorem j_:∀ {k:Nat} {e:EndD},Small e->Small (dP k e).1
 |0,_,h=>h
 |k+1,e,h=>j_ (k:=k) (mZ h)
theorem o_:∀ {k:Nat} {e:EndD},(dP k e).1.inp=e.inp
 |0,_=>rfl
 |k+1,e=>by rw [show (dP (k+1) e).1=(dP k (fi e).1).1 from rfl,o_,KR]
theorem m5:∀ {k:Nat} {e:EndD},(dP k e).1.out.text=e.out.text
 |0,_=>rfl
 |k+1,e=>by rw [show (dP (k+1) e).1=(dP k (fi e).1).1 from rfl,m5,oZ]
theorem pc:∀ {k:Nat} {e:EndD},(dP k e).2.length<=k
 |0,_=>Nat.le_refl _
 |k+1,e=>by
  have h1:=sU e
  have h2:=pc (k:=k) (e:=(fi e).1)
  rw [show (dP (k+1) e).2=(fi e).2++(dP k (fi e).1).2 from rfl,P7]
  omega
theorem qa (e:EndD) (hs:Small e) (ht:e.out.text.length<=1048576):aP 140 [.ag (e.cs 0)] (e.hp true) (.tu [.ag ((dP 3 e).1.cs 7),.sc (.sl 14 0 (dP 3 e).2.length)])
  ((nH 7)++((dP 3 e).1.hp true++[some ⟨(dP 3 e).2.map LetterD.cs,19,36,true,true⟩])):=by
 obtain⟨R,hR⟩:∃ R,R=dP 3 e:=⟨_,rfl⟩
 rw [<-hR]
 refine ix func140 ntmps140 results140 fun E hE=>?_
 refine pB 7 hE (fun s (y:Nat×EndD×List LetterD)=>s.at (qU [0,1,6,15]) [(5,.sc (.int .i64 (y.1:Nat))),(4,.sc (.sl 16 0 y.2.2.length))] ((nH 7++[some ⟨[y.2.1.cs 9],25,54,true,false⟩])++(((s.hp.drop 8).take 1)++(y.2.1.hp true++[some ⟨y.2.2.map LetterD.cs,19,36,true,true⟩])))) (fun (y:Nat×EndD×List LetterD)=>y.1<=3/\Small y.2.1/\y.2.1.out.text.length<=1048576/\y.2.2.length<=y.1/\R=((dP (3 - y.1) y.2.1).1,y.2.2++(dP (3 - y.1) y.2.1).2)) (fun (y:Nat×EndD×List LetterD)=>3 - y.1) (0,e,[]) (qI 0 9++qI 0 7++qO 1) (⟨zO,hs,ht,Nat.le_refl _,hR⟩) fun y hy N hN=>?_
 obtain⟨n,e1,l⟩:=y
 obtain⟨h1,h2,h3,h4,h5⟩:=hy
 dsimp only at h1 h2 h3 h4 h5
 have hP:=IY e1 h2 h3
 have hp1:=sU e1
 have hps:=mZ h2
 have hpt:(fi e1).1.out.text.length<=1048576:=by rw [oZ];exact h3
 refine qR ?_
 refine qB (fun b=>?_) fun b=>?_
 ·rw [rg zO] at h5
  obtain⟨pr,hpr⟩:∃ p,p=fi e1:=⟨_,rfl⟩
  rw [<-hpr] at hP hp1 hps hpt h5
  obtain⟨e2,l2⟩:=pr
  dsimp only at hP hp1 hps hpt h5
  rw [<-P8] at h5
  refine qX ?_
  refine qK (hP) (qI 9 7) ?_
  refine Iu hN (n+1,e2,l++l2) (qI 0 9++qI 17 7++qI 26 1) (by (try dsimp only);exact⟨zO,hps,hpt,by simp only [P7];omega,h5⟩) ?_
  first|exact⟨⟩|simp
 have e3:n=3:=zO
 subst e3
 simp only [Nat.sub_self,dP,P_] at h5
 subst h5
 refine qX ?_
 exact cP (qI 0 7++qI 9 8)
theorem qb (e:EndD) (t:List UInt8) (hs:Small e) (ht:t.length<=1048576) (ho:(write e t).1.out.text.length<=1048576):aP 92 [.ag (e.cs 0),.sc (.st t)] (e.hp false) (.tu [.ag ((aY e t).1.cs 7),.sc (.sl 14 0 (aY e t).2.length)])
  (e.hp false++((aY e t).1.hp true++[some ⟨(aY e t).2.map LetterD.cs,19,36,true,true⟩])):=by
 have hW:=re e t hs ht
 have hsw:Small (write e t).1:=by
  rw [write];split
  ·exact⟨hs.own,hs.far,hs.subs,hs.halfs,hs.list,hs.done,hs.over⟩
  exact hs
 have hP:=qa (write e t).1 hsw ho
 obtain⟨R,hR⟩:∃ R,R=aY e t:=⟨_,rfl⟩
 rw [<-hR]
 rw [aY] at hR
 rw [<-hR] at hP
 clear hR
 generalize write e t=w1 at*
 obtain⟨e1,n1⟩:=w1
 dsimp only at hP hsw ho hW
 refine ix func92 ntmps92 results92 fun E hE=>?_
 refine qK (hW) (qI 0 7) ?_
 refine qK (hP) (qI 9 7) ?_
 exact cP (qI 0 7++qI 17 8)
theorem qc (e:EndD) (t:List UInt8) (hs:Small e) (ht:t.length<=1048576) (ho:(write e t).1.out.text.length<=1048576):aP 171 [.ag (e.cs 0),.sc (.st t)] (e.hp false) (.tu [.ag ((aY e t).1.cs 7),.sc (.sl 14 0 (aY e t).2.length)])
  (e.hp false++((aY e t).1.hp true++[some ⟨(aY e t).2.map LetterD.cs,19,36,true,true⟩])):=by
 have hW:=rf e t hs ht
 have hsw:Small (write e t).1:=by
  rw [write];split
  ·exact⟨hs.own,hs.far,hs.subs,hs.halfs,hs.list,hs.done,hs.over⟩
  exact hs
 obtain⟨R,hR⟩:∃ R,R=aY e t:=⟨_,rfl⟩
 rw [<-hR]
 rw [aY] at hR
 generalize write e t=w1 at*
 obtain⟨e0,n1⟩:=w1
 dsimp only at hsw ho hW hR
 refine ix func171 ntmps171 results171 fun E hE=>?_
 refine qK (hW) (qI 0 7) ?_
 refine pB 7 hE (fun s (y:Nat×EndD×List LetterD)=>s.at (qU [0,3,7,1,10,21]) [(9,.sc (.int .i64 (y.1:Nat))),(8,.sc (.sl 17 0 y.2.2.length))] ((s.hp.take 9)++(y.2.1.hp true++[some ⟨[y.2.1.cs 9],25,54,true,false⟩,some ⟨y.2.2.map LetterD.cs,19,36,true,true⟩]))) (fun (y:Nat×EndD×List LetterD)=>y.1<=3/\Small y.2.1/\y.2.1.out.text.length<=1048576/\y.2.2.length<=y.1/\R=((dP (3 - y.1) y.2.1).1,y.2.2++(dP (3 - y.1) y.2.1).2)) (fun (y:Nat×EndD×List LetterD)=>3 - y.1) (0,e0,[]) (qI 0 18) (⟨zO,hsw,ho,Nat.le_refl _,hR⟩) fun y hy N hN=>?_
 obtain⟨n,e1,l⟩:=y
 obtain⟨h1,h2,h3,h4,h5⟩:=hy
 dsimp only at h1 h2 h3 h4 h5
 have hP:=Bs e1 h2 h3
 have hp1:=sU e1
 have hps:=mZ h2
 have hpt:(fi e1).1.out.text.length<=1048576:=by rw [oZ];exact h3
 refine qR ?_
 refine qB (fun b=>?_) fun b=>?_
 ·rw [rg zO] at h5
  obtain⟨pr,hpr⟩:∃ p,p=fi e1:=⟨_,rfl⟩
  rw [<-hpr] at hP hp1 hps hpt h5
  obtain⟨e2,l2⟩:=pr
  dsimp only at hP hp1 hps hpt h5
  rw [<-P8] at h5
  refine qX ?_
  refine qK (hP) (qI 9 7) ?_
  refine Iu hN (n+1,e2,l++l2) (qI 0 9++qI 19 7++qI 16 1++qI 27 1) (by (try dsimp only);exact⟨zO,hps,hpt,by simp only [P7];omega,h5⟩) ?_
  first|exact⟨⟩|simp
 have e3:n=3:=zO
 subst e3
 simp only [Nat.sub_self,dP,P_] at h5
 subst h5
 refine qX ?_
 exact cP (qI 0 7++qI 9 7++qI 17 1)
def GO:Hp->Bool
 |[]=>true
 |some ob::h=> !ob.own && GO h
 |none::h=>GO h
theorem zy:∀ {h:Hp} {o:Nat} {ob:AObj},GO h=true->h[o]? =some (some ob)->ob.own=false
 |some x::h,0,ob,hr,ho=>by
  simp only [GO,zG,Bool.not_eq_true'] at hr
  simp at ho
  subst ho
  exact hr.1
 |some x::h,o+1,ob,hr,ho=>by
  simp only [GO,zG] at hr
  exact zy hr.2 (by simpa using ho)
 |none::h,0,ob,hr,ho=>by simp at ho
 |none::h,o+1,ob,hr,ho=>zy (h:=h) hr (by simpa using ho)
 |[],o,ob,_,ho=>by simp at ho
theorem LD {β:Be} {w:World}:∀ {l:Be} {h:Hp},N8 β w l h->GO h=true
 |[],[],_=>rfl
 |p::l,some ob::h,hr=>by
  have:=LD hr.2
  simp [GO,hr.1.1,this]
 |[],_::_,h=>h.elim
 |_::_,[],h=>h.elim
 |_::_,none::_,h=>h.elim
theorem Pk {s:ByteArray} (h:s.size<=maxLen):s.data.toList.length<=9223372036854775807:=by
 have h':s.size<=9223372036854775807:=h
 simpa using h'
end
end Go.Proofs.YtdiiopjaebnmfaaGreatDoor
