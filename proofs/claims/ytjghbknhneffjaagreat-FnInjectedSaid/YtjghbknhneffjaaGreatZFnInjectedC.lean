/-
  Texts merged for this claim by shake.py: what its proof needs.
-/
import Derived.Test.YtjghbknhneffjaaGreatZFnBaseL
import Derived.Test.YtjghbknhneffjaaGreatZFnBaseM
import Derived.Test.YtjghbknhneffjaaGreatZFnBaseN
import Derived.Test.YtjghbknhneffjaaGreatZFnInjectedA
set_option maxHeartbeats 16000000
set_option maxRecDepth 100000
set_option linter.unusedVariables false
set_option linter.unusedSimpArgs false
namespace Go.Proofs.YtjghbknhneffjaaGreat
section
open Go.RowKit
end
section
open Go.RowKit
section
variable {P:Program} {β:Be} {s:S} {a:Act} {w:World} {o:Oper} {r:OpR} {ty:TypeId}
end
end
section
open Go.RowKit
end
section
end
section
open Go.RowKit
theorem Gk {α:Type} {f:α->List Sc} {l:List α} {k:Nat} {v:α} {w:List Sc} (h:f v=w):(l.map f).set k w=(l.set k v).map f:=by rw [List.map_set,h]
theorem fb (a b:PieceD) (ha:0<=a.pos/\a.pos<=4000000000) (hb:0<=b.pos/\b.pos<=4000000000) (la:a.text.length<=1048576) (lb:b.text.length<=1048576)
  (t1:¬ a.pos+(a.text.length:Int) < b.pos) (t2:¬ b.pos+(b.text.length:Int) < a.pos):aP 260 [.ag a.cs,.ag b.cs] [] (.ag (fh a b).cs) []:=by
 by_cases h:b.pos < a.pos
 ·obtain⟨n,hn⟩:=Int.eq_ofNat_of_zero_le (show 0<=a.pos - b.pos by omega)
  rw [yY hn (by omega)]
  have hp:a.pos=b.pos+(n:Int):=by omega
  refine qE Tryz.func260 Tryz.ntmps260 Tryz.results260 fun E hE=>?_
  have hlt:(b.text.take n).length=n:=by simp;omega
  have hmin:(if a.pos - b.pos < (b.text.length:Int) then a.pos - b.pos else (b.text.length:Int))=(n:Int):=by split<;>omega
  refine qD [0,1,2,3,4,5,6,7,8,9,10,11,12,13,14,15,16,17,18] ?_
  try simp (disch:=omega) only [go_sem,seval,hmin]
  refine⟨qC,ac 400 ?_⟩
  try simp (disch:=omega) only [go_sem,seval,hmin]
  refine qB (fun h3=>?_) fun h3=>?_
  ·have he:(b.pos+(((b.text.take n).length:Int)+(a.text.length:Int)) - b.pos).toNat=n+a.text.length:=by omega
   have hd:(b.text.drop (n+a.text.length)).length<=b.text.length:=by simp
   refine qD [0,1,2,3,4,5,6,7,8,9,10,11] ?_
   try simp (disch:=omega) only [go_sem,seval,he]
   refine⟨by (try simp (disch:=omega) only [go_sem,List.length_set,seval,he])<;>omega,ac 400 ?_⟩
   try simp (disch:=omega) only [go_sem,seval,he]
   exact qF []
  refine qJ [] ?_
  rw [List.drop_of_length_le (by omega)]
  simp
 obtain⟨n,hn⟩:=Int.eq_ofNat_of_zero_le (show 0<=b.pos - a.pos by omega)
 rw [yZ hn]
 have hp:b.pos=a.pos+(n:Int):=by omega
 refine qE Tryz.func260 Tryz.ntmps260 Tryz.results260 fun E hE=>?_
 refine qB (fun h3=>?_) fun h3=>?_
 ·have he:(a.pos+(a.text.length:Int) - b.pos).toNat=a.text.length - n:=by omega
  have hd:(b.text.drop (a.text.length - n)).length<=b.text.length:=by simp
  refine qD [0,1,2,3,4,5,6,7,8,9,10,11] ?_
  try simp (disch:=omega) only [go_sem,seval,he]
  refine⟨by (try simp (disch:=omega) only [go_sem,List.length_set,seval,he])<;>omega,ac 400 ?_⟩
  try simp (disch:=omega) only [go_sem,seval,he]
  exact qF []
 refine qJ [] ?_
 rw [List.drop_of_length_le (by omega)]
 simp
theorem lT (p:PiecesD) (n:Int) (t:List UInt8) (hs:SmallP p):aP 212 [.ag (p.cs 0),.sc (.int .i64 n),.sc (.st t)] (p.hp false) (.ag ((bs p n t).cs 1))
  (p.hp false++(bs p n t).hp true):=by
 have hO:=a2 p hs.list
 have hN:=c0 p
 have hf:=EA (p:=p) (n:=n) (t:=t)
 have hold:=BT (p:=p) (n:=n) (t:=t)
 have hcut:=fun k=> @BU p n t k
 have hnew:=BV (p:=p) (n:=n) (t:=t)
 have hok:=qa.eq_1 p n t
 generalize bs p n t=R at*
 refine qE Tryz.func212 Tryz.ntmps212 Tryz.results212 fun E hE=>?_
 refine qK (hO) (qI 0 1) ?_
 refine qB (fun h1=>?_) fun h1=>?_
 ·refine qK (a4 [n] (by simp)) (qI 3 1) ?_
  simp only [List.all_cons,List.all_nil,Bool.and_true]
  refine qX ?_
  refine qB (fun h2=>?_) fun h2=>?_
  ·refine qX ?_
   refine qK (Bg (t.length:Int) 1 200) [] ?_
   refine qB (fun h3=>?_) fun h3=>?_
   ·rw [hf (by rw [hok];simp [h3])]
    refine qX ?_
    refine qK (lq p hs.list) (qI 0 1) ?_
    exact qF (qI 0 1++qI 4 1)
   have hok1:qa p n t=true:=by rw [hok];simp [h1,h2,h3]
   have hF:=dt h1 hs
   have hn1:=h2
   have hn3:=h3
   simp only [gA,bj,Bool.and_eq_true,decide_eq_true_eq] at hn1 hn3
   have hr0:=hF.r0
   have hr1:=hF.r1
   have hrl:=hF.list
   have hrr:=hF.ready
   have hnx:=hF.next
   refine qX ?_
   refine qK (hN) (qI 0 1) ?_
   refine qB (fun h4=>?_) fun h4=>?_
   ·obtain⟨m,hm⟩:=Int.eq_ofNat_of_zero_le (show 0<=nextOf p - n by omega)
    by_cases h7:t.length<=m
    ·rw [hold hok1 (by omega)]
     have hmin:(if nextOf p - n < (t.length:Int) then nextOf p - n else (t.length:Int))=(t.length:Int):=by split<;>omega
     have hz:(t.drop t.length == [])=true:=by simp
     try simp (disch:=omega) only [go_sem,seval,hmin,hz]
     refine qX ?_
     refine qK (lq p hs.list) (qI 0 1) ?_
     exact qF (qI 0 1++qI 5 1)
    rw [hcut m hok1 hm (by omega) (by omega)]
    have hmin:(if nextOf p - n < (t.length:Int) then nextOf p - n else (t.length:Int))=(m:Int):=by split<;>omega
    have hz:(t.drop m == [])=false:=by simp;omega
    have hI0:PpI 0 ⟨⟨nextOf p,t.drop m⟩,false,[]⟩:=mP (by omega) (by omega) (by simp;omega)
    try simp (disch:=omega) only [go_sem,seval,hmin,hz]
    obtain⟨G,hG⟩:∃ G,mO ⟨⟨nextOf p,t.drop m⟩,false,[]⟩ p.list=G:=⟨_,rfl⟩
    refine jx 1 hE (fun s (x:Nat×PpS)=>s.at (qU [0,3,12,45,60,47]) [(59,.sc (.int .i64 (x.1:Nat))),(10,.sc (.bo x.2.laid))] ([some ⟨p.list.map PieceD.cs,2,150,false,true⟩,some ⟨[p.cs 0],3,35,true,false⟩,some ⟨[[.int .i64 0,.st [],.nil]],3,35,true,false⟩,some ⟨[[.int .i64 n]],1,3,true,true⟩,some ⟨[[.int .i64 p.read,.st p.ready,.sl 6 0 x.2.acc.length]],3,35,true,false⟩,some ⟨[x.2.own.cs],2,150,true,false⟩,some ⟨x.2.acc.map PieceD.cs,2,150,true,true⟩])) (fun (x:Nat×PpS)=>x.1<=p.list.length/\PpI x.1 x.2/\mO x.2 (p.list.drop x.1)=G) (fun (x:Nat×PpS)=>p.list.length - x.1) (0,⟨⟨nextOf p,t.drop m⟩,false,[]⟩) (qI 0 6++qO 1) (⟨Nat.zero_le _,hI0,hG⟩) fun x hx N hN=>?_
    obtain⟨k,g⟩:=x
    obtain⟨hk1,hI,hgo⟩:=hx
    dsimp only at hk1 hI hgo
    have hIo:=hI.own
    have hIp:=hI.pos
    have hIa:=hI.acc
    have hac:g.acc.length<=100:=by split at hIa<;>omega
    refine qR ?_
    refine qB (fun h=>?_) fun h=>?_
    ·have hm:=hF.texts p.list[k] (List.getElem_mem h)
     obtain⟨hm1,hm2,hm3⟩:=hm
     rw [oR h] at hgo
     refine qX ?_
     refine qB (fun h2=>?_) fun h2=>?_
     ·rw [rQ (by omega)] at hgo
      refine qX ?_
      refine sR hN (k+1,⟨g.own,g.laid,g.acc++[p.list[k]]⟩) (qI 0 6++qI 9 1) (by (try dsimp only);exact⟨by omega,vz hI hm1,hgo⟩) ?_
      first|exact⟨⟩|simp [PieceD.cs]
     refine qX ?_
     refine qB (fun h3=>?_) fun h3=>?_
     ·rw [rR (by omega) (by omega)] at hgo
      cases hgl:g.laid with
      |true=>
       rw [hgl,if_pos rfl] at hgo
       try simp (disch:=omega) only [go_sem,seval,hgl]
       refine sR hN (k+1,⟨g.own,true,g.acc++[p.list[k]]⟩) (qI 0 6++qI 9 1) (by (try dsimp only);exact⟨by omega,ul hI hgl hm1,hgo⟩) ?_
       first|exact⟨⟩|simp [PieceD.cs]
      |false=>
       rw [hgl,if_neg (by simp)] at hgo
       try simp (disch:=omega) only [go_sem,seval,hgl]
       refine sR hN (k+1,⟨g.own,true,g.acc++[g.own]++[p.list[k]]⟩) (qI 0 6++qI 11 1) (by (try dsimp only);exact⟨by omega,um hI (by omega) hgl hm1,hgo⟩) ?_
       first|exact⟨⟩|simp [PieceD.cs]
     rw [rS (by omega) (by omega)] at hgo
     refine qX ?_
     refine qK (fb p.list[k] g.own (by omega) (by omega) (by omega) (by omega) (by omega) (by omega)) [] ?_
     refine sR hN (k+1,⟨fh p.list[k] g.own,g.laid,g.acc⟩) (qI 0 7) (by (try dsimp only);exact⟨by omega,y0 hI hm1 hm2 hm3,hgo⟩) ?_
     first|exact⟨⟩|simp [PieceD.cs]
    have hkl:k=p.list.length:=by omega
    rw [rT (by omega)] at hgo
    subst hgo
    obtain⟨y,r,hyr,hyt,hyl⟩:=mQ hI (by omega)
    rw [rU hG hyr]
    have hyr':=hyr
    rw [iN] at hyr'
    cases hgl:g.laid with
    |true=>
     rw [hgl,if_pos rfl] at hyr'
     rw [hyr']
     try simp (disch:=omega) only [go_sem,seval,hgl,List.map_cons]
     refine qX ?_
     refine qB (fun h5=>?_) fun h5=>?_
     ·refine qD [0,1,2,3,4,5,6,7,8,9] ?_
      refine⟨qC,ac 400 ?_⟩
      have hE1:= @lI p y r h5
      refine qX ?_
      refine qK (a2 ⟨p.read,p.ready++y.text,r⟩ (by simp at hyl⊢;omega)) [some (6,some 1)] ?_
      refine qB (fun h6=>?_) fun h6=>?_
      ·rw [fv (by rw [hE1];exact h6)]
       refine qX ?_
       refine qK (lq p hs.list) (qI 0 1) ?_
       exact qF (qI 0 1++qI 7 1)
      rw [fw (by rw [hE1];exact h6),hE1]
      refine qX ?_
      refine qK (lq ⟨p.read,p.ready++y.text,r⟩ (by simp at hyl⊢;omega)) [some (6,some 1)] ?_
      refine qP (qI 0 1++qI 7 1) ?_
      first|exact⟨⟩|simp
     have hE1:= @lJ p y r h5
     refine qX ?_
     refine qK (a2 ⟨p.read,p.ready,y::r⟩ (by simp at hyl⊢;omega)) (qI 6 1) ?_
     refine qB (fun h6=>?_) fun h6=>?_
     ·rw [fv (by rw [hE1];exact h6)]
      refine qX ?_
      refine qK (lq p hs.list) (qI 0 1) ?_
      exact qF (qI 0 1++qI 7 1)
     rw [fw (by rw [hE1];exact h6),hE1]
     refine qX ?_
     refine qK (lq ⟨p.read,p.ready,y::r⟩ (by simp at hyl⊢;omega)) (qI 6 1) ?_
     refine qP (qI 0 1++qI 7 1) ?_
     first|exact⟨⟩|simp
    |false=>
     rw [hgl,if_neg (by simp)] at hyr'
     have e1:g.acc.map PieceD.cs++[g.own.cs]=PieceD.cs y::r.map PieceD.cs:=by rw [<-List.map_cons,<-hyr'];simp
     have e2:g.acc.length+1=r.length+1:=by have:=congrArg List.length hyr';simpa using this
     simp only [PieceD.cs] at e1
     try simp (disch:=omega) only [go_sem,seval,hgl,e1,e2]
     refine qX ?_
     refine qB (fun h5=>?_) fun h5=>?_
     ·refine qD [0,1,2,3,4,5,6,7,8,9] ?_
      refine⟨qC,ac 400 ?_⟩
      have hE1:= @lI p y r h5
      refine qX ?_
      refine qK (a2 ⟨p.read,p.ready++y.text,r⟩ (by simp at hyl⊢;omega)) [some (8,some 1)] ?_
      refine qB (fun h6=>?_) fun h6=>?_
      ·rw [fv (by rw [hE1];exact h6)]
       refine qX ?_
       refine qK (lq p hs.list) (qI 0 1) ?_
       exact qF (qI 0 1++qI 9 1)
      rw [fw (by rw [hE1];exact h6),hE1]
      refine qX ?_
      refine qK (lq ⟨p.read,p.ready++y.text,r⟩ (by simp at hyl⊢;omega)) [some (8,some 1)] ?_
      refine qP (qI 0 1++qI 9 1) ?_
      first|exact⟨⟩|simp
     have hE1:= @lJ p y r h5
     refine qX ?_
     refine qK (a2 ⟨p.read,p.ready,y::r⟩ (by simp at hyl⊢;omega)) (qI 8 1) ?_
     refine qB (fun h6=>?_) fun h6=>?_
     ·rw [fv (by rw [hE1];exact h6)]
      refine qX ?_
      refine qK (lq p hs.list) (qI 0 1) ?_
      exact qF (qI 0 1++qI 9 1)
     rw [fw (by rw [hE1];exact h6),hE1]
     refine qX ?_
     refine qK (lq ⟨p.read,p.ready,y::r⟩ (by simp at hyl⊢;omega)) (qI 8 1) ?_
     refine qP (qI 0 1++qI 9 1) ?_
     first|exact⟨⟩|simp
   rw [hnew hok1 (by omega)]
   have hz:(t == [])=false:=by cases t<;>simp_all
   have hI0:PpI 0 ⟨⟨n,t⟩,false,[]⟩:=mP (by omega) (by omega) (by omega)
   try simp (disch:=omega) only [go_sem,seval,hz]
   obtain⟨G,hG⟩:∃ G,mO ⟨⟨n,t⟩,false,[]⟩ p.list=G:=⟨_,rfl⟩
   refine jx 1 hE (fun s (x:Nat×PpS)=>s.at (qU [0,3,12,45,60,47]) [(59,.sc (.int .i64 (x.1:Nat))),(10,.sc (.bo x.2.laid))] ([some ⟨p.list.map PieceD.cs,2,150,false,true⟩,some ⟨[p.cs 0],3,35,true,false⟩,some ⟨[[.int .i64 0,.st [],.nil]],3,35,true,false⟩,some ⟨[[.int .i64 n]],1,3,true,true⟩,some ⟨[[.int .i64 p.read,.st p.ready,.sl 6 0 x.2.acc.length]],3,35,true,false⟩,some ⟨[x.2.own.cs],2,150,true,false⟩,some ⟨x.2.acc.map PieceD.cs,2,150,true,true⟩])) (fun (x:Nat×PpS)=>x.1<=p.list.length/\PpI x.1 x.2/\mO x.2 (p.list.drop x.1)=G) (fun (x:Nat×PpS)=>p.list.length - x.1) (0,⟨⟨n,t⟩,false,[]⟩) (qI 0 6++qO 1) (⟨Nat.zero_le _,hI0,hG⟩) fun x hx N hN=>?_
   obtain⟨k,g⟩:=x
   obtain⟨hk1,hI,hgo⟩:=hx
   dsimp only at hk1 hI hgo
   have hIo:=hI.own
   have hIp:=hI.pos
   have hIa:=hI.acc
   have hac:g.acc.length<=100:=by split at hIa<;>omega
   refine qR ?_
   refine qB (fun h=>?_) fun h=>?_
   ·have hm:=hF.texts p.list[k] (List.getElem_mem h)
    obtain⟨hm1,hm2,hm3⟩:=hm
    rw [oR h] at hgo
    refine qX ?_
    refine qB (fun h2=>?_) fun h2=>?_
    ·rw [rQ (by omega)] at hgo
     refine qX ?_
     refine sR hN (k+1,⟨g.own,g.laid,g.acc++[p.list[k]]⟩) (qI 0 6++qI 9 1) (by (try dsimp only);exact⟨by omega,vz hI hm1,hgo⟩) ?_
     first|exact⟨⟩|simp [PieceD.cs]
    refine qX ?_
    refine qB (fun h3=>?_) fun h3=>?_
    ·rw [rR (by omega) (by omega)] at hgo
     cases hgl:g.laid with
     |true=>
      rw [hgl,if_pos rfl] at hgo
      try simp (disch:=omega) only [go_sem,seval,hgl]
      refine sR hN (k+1,⟨g.own,true,g.acc++[p.list[k]]⟩) (qI 0 6++qI 9 1) (by (try dsimp only);exact⟨by omega,ul hI hgl hm1,hgo⟩) ?_
      first|exact⟨⟩|simp [PieceD.cs]
     |false=>
      rw [hgl,if_neg (by simp)] at hgo
      try simp (disch:=omega) only [go_sem,seval,hgl]
      refine sR hN (k+1,⟨g.own,true,g.acc++[g.own]++[p.list[k]]⟩) (qI 0 6++qI 11 1) (by (try dsimp only);exact⟨by omega,um hI (by omega) hgl hm1,hgo⟩) ?_
      first|exact⟨⟩|simp [PieceD.cs]
    rw [rS (by omega) (by omega)] at hgo
    refine qX ?_
    refine qK (fb p.list[k] g.own (by omega) (by omega) (by omega) (by omega) (by omega) (by omega)) [] ?_
    refine sR hN (k+1,⟨fh p.list[k] g.own,g.laid,g.acc⟩) (qI 0 7) (by (try dsimp only);exact⟨by omega,y0 hI hm1 hm2 hm3,hgo⟩) ?_
    first|exact⟨⟩|simp [PieceD.cs]
   have hkl:k=p.list.length:=by omega
   rw [rT (by omega)] at hgo
   subst hgo
   obtain⟨y,r,hyr,hyt,hyl⟩:=mQ hI (by omega)
   rw [rU hG hyr]
   have hyr':=hyr
   rw [iN] at hyr'
   cases hgl:g.laid with
   |true=>
    rw [hgl,if_pos rfl] at hyr'
    rw [hyr']
    try simp (disch:=omega) only [go_sem,seval,hgl,List.map_cons]
    refine qX ?_
    refine qB (fun h5=>?_) fun h5=>?_
    ·refine qD [0,1,2,3,4,5,6,7,8,9] ?_
     refine⟨qC,ac 400 ?_⟩
     have hE1:= @lI p y r h5
     refine qX ?_
     refine qK (a2 ⟨p.read,p.ready++y.text,r⟩ (by simp at hyl⊢;omega)) [some (6,some 1)] ?_
     refine qB (fun h6=>?_) fun h6=>?_
     ·rw [fv (by rw [hE1];exact h6)]
      refine qX ?_
      refine qK (lq p hs.list) (qI 0 1) ?_
      exact qF (qI 0 1++qI 7 1)
     rw [fw (by rw [hE1];exact h6),hE1]
     refine qX ?_
     refine qK (lq ⟨p.read,p.ready++y.text,r⟩ (by simp at hyl⊢;omega)) [some (6,some 1)] ?_
     refine qP (qI 0 1++qI 7 1) ?_
     first|exact⟨⟩|simp
    have hE1:= @lJ p y r h5
    refine qX ?_
    refine qK (a2 ⟨p.read,p.ready,y::r⟩ (by simp at hyl⊢;omega)) (qI 6 1) ?_
    refine qB (fun h6=>?_) fun h6=>?_
    ·rw [fv (by rw [hE1];exact h6)]
     refine qX ?_
     refine qK (lq p hs.list) (qI 0 1) ?_
     exact qF (qI 0 1++qI 7 1)
    rw [fw (by rw [hE1];exact h6),hE1]
    refine qX ?_
    refine qK (lq ⟨p.read,p.ready,y::r⟩ (by simp at hyl⊢;omega)) (qI 6 1) ?_
    refine qP (qI 0 1++qI 7 1) ?_
    first|exact⟨⟩|simp
   |false=>
    rw [hgl,if_neg (by simp)] at hyr'
    have e1:g.acc.map PieceD.cs++[g.own.cs]=PieceD.cs y::r.map PieceD.cs:=by rw [<-List.map_cons,<-hyr'];simp
    have e2:g.acc.length+1=r.length+1:=by have:=congrArg List.length hyr';simpa using this
    simp only [PieceD.cs] at e1
    try simp (disch:=omega) only [go_sem,seval,hgl,e1,e2]
    refine qX ?_
    refine qB (fun h5=>?_) fun h5=>?_
    ·refine qD [0,1,2,3,4,5,6,7,8,9] ?_
     refine⟨qC,ac 400 ?_⟩
     have hE1:= @lI p y r h5
     refine qX ?_
     refine qK (a2 ⟨p.read,p.ready++y.text,r⟩ (by simp at hyl⊢;omega)) [some (8,some 1)] ?_
     refine qB (fun h6=>?_) fun h6=>?_
     ·rw [fv (by rw [hE1];exact h6)]
      refine qX ?_
      refine qK (lq p hs.list) (qI 0 1) ?_
      exact qF (qI 0 1++qI 9 1)
     rw [fw (by rw [hE1];exact h6),hE1]
     refine qX ?_
     refine qK (lq ⟨p.read,p.ready++y.text,r⟩ (by simp at hyl⊢;omega)) [some (8,some 1)] ?_
     refine qP (qI 0 1++qI 9 1) ?_
     first|exact⟨⟩|simp
    have hE1:= @lJ p y r h5
    refine qX ?_
    refine qK (a2 ⟨p.read,p.ready,y::r⟩ (by simp at hyl⊢;omega)) (qI 8 1) ?_
    refine qB (fun h6=>?_) fun h6=>?_
    ·rw [fv (by rw [hE1];exact h6)]
     refine qX ?_
     refine qK (lq p hs.list) (qI 0 1) ?_
     exact qF (qI 0 1++qI 9 1)
    rw [fw (by rw [hE1];exact h6),hE1]
    refine qX ?_
    refine qK (lq ⟨p.read,p.ready,y::r⟩ (by simp at hyl⊢;omega)) (qI 8 1) ?_
    refine qP (qI 0 1++qI 9 1) ?_
    first|exact⟨⟩|simp
  rw [hf (by rw [hok];simp [h2])]
  refine qX ?_
  refine qK (lq p hs.list) (qI 0 1) ?_
  exact qF (qI 0 1++qI 4 1)
 rw [hf (by rw [hok];simp [h1])]
 refine qX ?_
 refine qK (lq p hs.list) (qI 0 1) ?_
 exact qF (qI 0 1++qI 3 1)
theorem l0 (e:EndD) (x:LetterD) (hs:Small e) (hsp:SmallP e.inp):aP 134 [.ag (e.cs 0),.ag x.cs] (e.hp false) (.tu [.ag ((bF e x).1.cs 7),.sc (.sl 14 0 (bF e x).2.length)])
  (e.hp false++((bF e x).1.hp true++[some ⟨(bF e x).2.map LetterD.cs,19,48,true,true⟩])):=by
 have hC:=(qH (jF e))
 have hK:=(qH (ap e))
 have hS:=a6 e x (by have:=hs.subs;omega)
 have hL:=a1 x
 have hbs:=rp e x
 have hP:=lT e.inp x.pos x.text hsp
 have hbd:=f9 e x
 have hf:=uo (e:=e) (x:=x)
 have ht:=fun (n:Nat)=> @uq e x n
 have hok:=qb.eq_1 e x
 have hql:(rX e x).list.length<=1048576:=kX (by have:=hs.list;omega)
 rw [show bs e.inp x.pos x.text=rX e x from rfl] at hP
 generalize rX e x=Q at*
 generalize bF e x=R at*
 refine qE Tryz.func134 Tryz.ntmps134 Tryz.results134 fun E hE=>?_
 refine qK (hC) (qI 0 7) ?_
 refine qK (hS) (qI 0 7) ?_
 rcases hbs with hk|⟨hk0,hk1⟩
 ·rw [hk]
  refine qX ?_
  refine qK (hK) (qI 0 7) ?_
  refine qB (fun h1=>?_) fun h1=>?_
  ·refine qK (hL) [] ?_
   refine qB (fun h2=>?_) fun h2=>?_
   ·rw [hf (by rw [hok];have:=a3 (e:=e) (x:=x) (by rintro⟨_,_,hh⟩;omega);simp;omega)]
    refine qX ?_
    exact qF (qI 0 7++qI 10 7++qO 1)
   rw [hf (by rw [hok];have:=a3 (e:=e) (x:=x) (by rintro⟨_,hh,_⟩;rw [h2] at hh;cases hh);simp;omega)]
   refine qX ?_
   exact qF (qI 0 7++qI 10 7++qO 1)
  rw [hf (by rw [hok];have:=a3 (e:=e) (x:=x) (by rintro⟨hh,_⟩;rw [h1] at hh;cases hh);simp;omega)]
  refine qX ?_
  exact qF (qI 0 7++qI 10 7++qO 1)
 obtain⟨n,hk⟩:=Int.eq_ofNat_of_zero_le hk0
 have hn:n < e.subs.length:=by omega
 rw [hk]
 refine qX ?_
 refine qK (hK) (qI 0 7) ?_
 refine qB (fun h1=>?_) fun h1=>?_
 ·refine qK (hL) [] ?_
  refine qB (fun h2=>?_) fun h2=>?_
  ·have hon:=ds h1 h2 hk
   have hq1:=h1
   refine qX ?_
   refine qK (hP) (qI 4 1) ?_
   refine qK (c0 Q) (qI 18 1) ?_
   refine qB (fun h7=>?_) fun h7=>?_
   ·rw [hf (by rw [hok];simp;omega)]
    refine qX ?_
    exact qF (qI 0 7++qI 10 7++qO 1)
   rw [ht _ (by rw [hok];simp [hon];omega) hon hn]
   refine qX ?_
   refine aO [(13,14)] [(qU [0,2,3,7,2,1,10,6]),[0,1,3,4,5,6,7,8,9,2,10,11,12,14,13,15]] (by kernel_rfl) (qC) (by kernel_rfl) ?_
   simp only [bm]
   refine⟨aa 400 ?_,aa 400 ?_⟩
   all_goals simp (disch:=omega) only [go_sem,seval]
   all_goals
    refine aQ (a5 x) [] ?_
    refine aQ (c0 Q) (qI 18 1) ?_
    refine aQ (a0 (roadOf x) { ah with kind:=12,sgn:=e.subs[n].give,pos:=nextOf Q }) [] ?_
    refine qG ?_
    refine qP (qI 0 7++qI 10 4++qI 18 1++qI 15 2++qI 20 1) ?_
    first|exact⟨⟩|simp [vA,aq,LetterD.cs]
  rw [hf (by rw [hok];have:=a3 (e:=e) (x:=x) (by rintro⟨_,hh,_⟩;rw [h2] at hh;cases hh);simp;omega)]
  refine qX ?_
  exact qF (qI 0 7++qI 10 7++qO 1)
 rw [hf (by rw [hok];have:=a3 (e:=e) (x:=x) (by rintro⟨hh,_⟩;rw [h1] at hh;cases hh);simp;omega)]
 refine qX ?_
 exact qF (qI 0 7++qI 10 7++qO 1)
def r7 (x:LetterD):List Int:=[x.key,x.nonce,x.give,x.sgn]
def p8 (w:WorldD) (n:Int):Bool:=decide (n < 1000) || mq w.nums n
theorem v9 (w:WorldD) (x:LetterD):xa w x=(dZ x && !decide (sideAt x.to=0) && f7 w.known x.tag && (r7 x).all (p8 w)):=rfl
theorem p9 (w:WorldD) (x:LetterD) (h0:w.known.keys.length<=1048576) (h1:w.known.tags.length<=1048576) (h2:w.nums.length<=1048576):aP 12 [.ag (w.cs 0),.ag x.cs] (w.hp false) (.sc (.bo (xa w x))) (w.hp false):=by
 have hL:=a1 x
 have hS:=d1 x.to
 have hK:=ns w.known x.tag h0 h1
 obtain⟨R,hR⟩:∃ R,R=xa w x:=⟨_,rfl⟩
 rw [<-hR]
 rw [v9] at hR
 refine qE Tryz.func12 Tryz.ntmps12 Tryz.results12 fun E hE=>?_
 refine qK (hL) [] ?_
 refine qB (fun c1=>?_) fun c1=>?_
 ·refine qK (hS) [] ?_
  refine qB (fun c2=>?_) fun c2=>?_
  ·refine qK (hK) (qI 16 2) ?_
   refine qB (fun c3=>?_) fun c3=>?_
   ·rw [c3] at hR
    simp only [Bool.and_false,Bool.false_and] at hR
    subst hR
    refine qX ?_
    exact qF (qI 0 21)
   rw [c1,c3,decide_eq_false c2] at hR
   simp only [Bool.not_false,Bool.true_and,Bool.and_true] at hR
   refine qX ?_
   refine jx 21 hE (fun s (i:Nat)=>s.at (qU [0,2,3,2,6,26,35,13]) [(34,.sc (.int .i64 (i:Nat)))] (s.hp)) (fun (i:Nat)=>i<=4/\R=((r7 x).drop i).all (p8 w)) (fun (i:Nat)=>4 - i) 0 (qI 0 24) (⟨by omega,hR⟩) fun i hi N hN=>?_
   obtain⟨g1,g2⟩:=hi
   refine qR ?_
   split<;>rename_i b<;>(try simp only [decide_eq_true_eq,decide_eq_false_iff_not,Int.ofNat_lt] at b)
   rotate_left
   ·rw [List.drop_eq_nil_of_le (by simp only [r7,List.length_cons,List.length_nil];omega),List.all_nil] at g2
    subst g2
    refine qX ?_
    exact qF (qI 0 21)
   have hi4:i < (r7 x).length:=by simp only [r7,List.length_cons,List.length_nil];omega
   rw [xl hi4] at g2
   generalize hv:(r7 x)[i]=v at g2
   have hg:([[.int .i64 x.key],[.int .i64 x.nonce],[.int .i64 x.give],[.int .i64 x.sgn]]:List (List Sc))[i]? =some (aM v):=by
    rw [<-hv]
    rw [show ([[.int .i64 x.key],[.int .i64 x.nonce],[.int .i64 x.give],[.int .i64 x.sgn]]:List (List Sc))=(r7 x).map aM from rfl]
    exact aT hi4
   simp only [aM] at hg
   have hH:=ct w.nums v h2
   try simp (disch:=omega) only [go_sem,seval,hg]
   refine qB (fun b1=>?_) fun b1=>?_
   ·refine qK (hH) (qI 18 1) ?_
    refine qB (fun b2=>?_) fun b2=>?_
    ·rw [show p8 w v=false by rw [p8,b2,decide_eq_false (by omega)];rfl,Bool.false_and] at g2
     subst g2
     refine qX ?_
     exact qF (qI 0 21)
    rw [show p8 w v=true by rw [p8,b2,Bool.or_true],Bool.true_and] at g2
    refine qX ?_
    exact qN hN (i+1) (qI 0 24) (by (try dsimp only);exact⟨by omega,g2⟩)
   rw [show p8 w v=true by rw [p8,decide_eq_true (by omega)];rfl,Bool.true_and] at g2
   refine qX ?_
   exact qN hN (i+1) (qI 0 24) (by (try dsimp only);exact⟨by omega,g2⟩)
  rw [decide_eq_true c2] at hR
  simp only [Bool.not_true,Bool.and_false,Bool.false_and] at hR
  subst hR
  refine qX ?_
  exact qF (qI 0 21)
 rw [c1] at hR
 simp only [Bool.false_and] at hR
 subst hR
 refine qX ?_
 exact qF (qI 0 21)
theorem Ff (w:WorldD) (x:LetterD) (h0:w.known.keys.length<=1048576) (h1:w.known.tags.length<=1048576) (h2:w.nums.length<=1048576):aP 13 [.ag (w.cs 0),.ag x.cs] (w.hp false) (.sc (.bo (xa w x))) (w.hp false):=by
 have hL:=bT x
 have hS:=cV x.to
 have hK:=qc w.known x.tag h0 h1
 obtain⟨R,hR⟩:∃ R,R=xa w x:=⟨_,rfl⟩
 rw [<-hR]
 rw [v9] at hR
 refine qE Tryz.func13 Tryz.ntmps13 Tryz.results13 fun E hE=>?_
 refine qK (hL) [] ?_
 refine qB (fun c1=>?_) fun c1=>?_
 ·refine qK (hS) [] ?_
  refine qB (fun c2=>?_) fun c2=>?_
  ·refine qK (hK) (qI 16 2) ?_
   refine qB (fun c3=>?_) fun c3=>?_
   ·rw [c3] at hR
    simp only [Bool.and_false,Bool.false_and] at hR
    subst hR
    refine qX ?_
    exact qF (qI 0 21)
   rw [c1,c3,decide_eq_false c2] at hR
   simp only [Bool.not_false,Bool.true_and,Bool.and_true] at hR
   refine qX ?_
   refine jx 21 hE (fun s (i:Nat)=>s.at (qU [0,2,3,2,7,47]) [(6,.sc (.int .i64 (i:Nat)))] (s.hp)) (fun (i:Nat)=>i<=4/\R=((r7 x).drop i).all (p8 w)) (fun (i:Nat)=>4 - i) 0 (qI 0 24) (⟨by omega,hR⟩) fun i hi N hN=>?_
   obtain⟨g1,g2⟩:=hi
   refine qR ?_
   split<;>rename_i b<;>(try simp only [decide_eq_true_eq,decide_eq_false_iff_not,Int.ofNat_lt] at b)
   rotate_left
   ·rw [List.drop_eq_nil_of_le (by simp only [r7,List.length_cons,List.length_nil];omega),List.all_nil] at g2
    subst g2
    refine qX ?_
    exact qF (qI 0 21)
   have hi4:i < (r7 x).length:=by simp only [r7,List.length_cons,List.length_nil];omega
   rw [xl hi4] at g2
   generalize hv:(r7 x)[i]=v at g2
   have hg:([[.int .i64 x.key],[.int .i64 x.nonce],[.int .i64 x.give],[.int .i64 x.sgn]]:List (List Sc))[i]? =some (aM v):=by
    rw [<-hv]
    rw [show ([[.int .i64 x.key],[.int .i64 x.nonce],[.int .i64 x.give],[.int .i64 x.sgn]]:List (List Sc))=(r7 x).map aM from rfl]
    exact aT hi4
   simp only [aM] at hg
   have hH:=eA w.nums v h2
   refine qX ?_
   refine qD [0,1,2,3,4,5,6,7,8,9,10,11,12,13,14] ?_
   try simp (disch:=omega) only [go_sem,seval,hg]
   refine qB (fun b1=>?_) fun b1=>?_
   ·try simp (disch:=omega) only [go_sem,seval,hg]
    refine aQ (hH) (qI 18 1) ?_
    refine qG ?_
    refine qB (fun b2=>?_) fun b2=>?_
    ·rw [show p8 w v=false by rw [p8,b2,decide_eq_false (by omega)];rfl,Bool.false_and] at g2
     subst g2
     refine qX ?_
     exact qF (qI 0 21)
    rw [show p8 w v=true by rw [p8,b2,Bool.or_true],Bool.true_and] at g2
    refine qX ?_
    exact qN hN (i+1) (qI 0 24) (by (try dsimp only);exact⟨by omega,g2⟩)
   rw [show p8 w v=true by rw [p8,decide_eq_true (by omega)];rfl,Bool.true_and] at g2
   refine qG ?_
   exact qN hN (i+1) (qI 0 24) (by (try dsimp only);exact⟨by omega,g2⟩)
  rw [decide_eq_true c2] at hR
  simp only [Bool.not_true,Bool.and_false,Bool.false_and] at hR
  subst hR
  refine qX ?_
  exact qF (qI 0 21)
 rw [c1] at hR
 simp only [Bool.false_and] at hR
 subst hR
 refine qX ?_
 exact qF (qI 0 21)
theorem Il {e:EndD} {k:Int} {n:Nat} (h:EE e k=true) (hk:k=(n:Int)) (hn:n < e.subs.length):
  ks e k=({ e with subs:=bP e.subs n 4 },[aq e.subs[n].road { ah with kind:=13,sgn:=e.subs[n].give }]):=by
 rw [ks,if_pos h,hk,Int.toNat_natCast,bW hn]
theorem Im {e:EndD} {k:Int} (h:EE e k=false):ks e k=(e,[]):=by rw [ks,if_neg (by simp [h])]
theorem H5 {e:EndD} {n:Nat} (hn:n < e.subs.length):EE e (n:Int)=(af e && decide (e.subs[n].state=3)):=by
 rw [EE,Int.toNat_natCast,bW hn,show bj (n:Int) 0 ((e.subs.length:Int) - 1)=true by simp only [bj,Bool.and_eq_true,decide_eq_true_eq];omega,Bool.and_true]
theorem Hv {e:EndD} {k:Int} (h:bj k 0 ((e.subs.length:Int) - 1)=false):EE e k=false:=by simp [EE,h]
theorem Fh (e:EndD) (k:Int) (hs:Small e):aP 256 [.ag (e.cs 0),.sc (.int .i64 k)] (e.hp false) (.tu [.ag ((ks e k).1.cs 7),.sc (.sl 14 0 (ks e k).2.length)])
  (e.hp false++((ks e k).1.hp true++[some ⟨(ks e k).2.map LetterD.cs,19,48,true,true⟩])):=by
 have hC:=(qH (aj e))
 have hK:=(qH (au e))
 have hsub:=hs.subs
 have hf:=Im (e:=e) (k:=k)
 have ht:= @Il e k
 have hI:=ak k 0 ((e.subs.length:Int) - 1)
 refine gU Tryz.func256 Tryz.ntmps256 Tryz.results256 fun E hE=>?_
 refine qK (hC) (qI 0 7) ?_
 refine qK (hK) (qI 0 7) ?_
 refine qB (fun b1=>?_) fun b1=>?_
 ·refine qK (hI) [] ?_
  cases hin:bj k 0 ((e.subs.length:Int) - 1) with
  |false=>
   rw [hf (Hv hin)]
   refine qX ?_
   exact dk (qI 0 7++qI 9 7++qI 17 1)
  |true=>
   simp only [bj,Bool.and_eq_true,decide_eq_true_eq] at hin
   obtain⟨n,rfl⟩:=Int.eq_ofNat_of_zero_le hin.1
   have hn:n < e.subs.length:=by omega
   have hg:=aT (enc:=SubD.cs) hn
   have hok:=H5 (e:=e) hn
   rw [b1,Bool.true_and] at hok
   try simp (disch:=omega) only [go_sem,seval,hg]
   refine qB (fun b2=>?_) fun b2=>?_
   ·rw [hf (by rw [hok];simp [b2])]
    refine qX ?_
    exact dk (qI 0 7++qI 9 7++qI 17 1)
   rw [ht (by rw [hok];simp [b2]) rfl hn]
   have hset:bP e.subs n 4=e.subs.set n { e.subs[n] with state:=4 }:=by rw [bP,bW hn]
   rw [hset]
   have hms:=Gk (f:=SubD.cs) (l:=e.subs) (k:=n) (v:={ e.subs[n] with state:=4 }) rfl
   simp only [SubD.cs] at hms
   try simp (disch:=omega) only [go_sem,seval,hg]
   refine cG [(0,17),(15,0),(16,0)] [(15,16),(15,17),(16,17)] [(qU [1,16,0,1,17,3]),(qU [1,15,0,1,16,4]),(qU [1,14,0,1,15,5]),(qU [1,17,0,1,18,2])] 7 hE (fun s=>s.at (qU [7,1,39,18]) [(5,.sc (.sl 18 0 1))] (((s.hp.set 8 (some ⟨[[.int .i64 e.side,.int .i64 e.state,.int .i64 e.key,.int .i64 e.peer,.int .i64 e.policy.kind,.int .i64 e.policy.many,.sl 9 0 e.own.length,.sl 10 0 e.far.length,.sl 11 0 e.subs.length,.sl 12 0 e.halfs.length,.int .i64 e.bucket.rate,.int .i64 e.bucket.burst,.int .i64 e.bucket.cur,.st e.out.text,.int .i64 e.out.base,.int .i64 e.out.sent,.int .i64 e.out.room,.int .i64 e.inp.read,.st e.inp.ready,.sl 13 0 e.inp.list.length,.sl 14 0 e.done.length,.sl 15 0 e.over.length,.int .i64 e.draw,.int .i64 e.now,.int .i64 e.pick]],25,38,true,false⟩)).set 17 none)++[some ⟨[(aq e.subs[n].road { ah with kind:=13,sgn:=e.subs[n].give }).cs],19,48,true,true⟩])) (by kernel_rfl) (qC) (by kernel_rfl) ?_ (ac 400 ?_)
   rotate_left
   rotate_right
   simp only [bm]
   refine⟨aa 400 ?_,aa 400 ?_,aa 400 ?_,aa 400 ?_⟩
   ·simp (disch:=omega) only [go_sem,hg]
    refine aQ (aw e.subs[n].road { ah with kind:=13,sgn:=e.subs[n].give }) [] ?_
    refine⟨qC,(qI 0 18++qI 19 1),ab (by rfl) (by rfl) ?_⟩
    try simp (disch:=omega) only [go_sem,seval]
    try rfl
   ·simp (disch:=omega) only [go_sem,hg]
    refine aQ (aw e.subs[n].road { ah with kind:=13,sgn:=e.subs[n].give }) [] ?_
    refine⟨qC,(qI 0 18++qI 19 1),ab (by rfl) (by rfl) ?_⟩
    try simp (disch:=omega) only [go_sem,seval]
    try rfl
   ·simp (disch:=omega) only [go_sem,hg]
    refine aQ (aw e.subs[n].road { ah with kind:=13,sgn:=e.subs[n].give }) [] ?_
    refine⟨qC,(qI 0 18++qI 19 1),ab (by rfl) (by rfl) ?_⟩
    try simp (disch:=omega) only [go_sem,seval]
    try rfl
   ·simp (disch:=omega) only [go_sem,hg]
    refine aQ (aw e.subs[n].road { ah with kind:=13,sgn:=e.subs[n].give }) [] ?_
    refine⟨qC,(qI 0 18++qI 19 1),ab (by rfl) (by rfl) ?_⟩
    try simp (disch:=omega) only [go_sem,seval]
    try rfl
   refine qX ?_
   refine fL (qI 0 7++qI 9 7++qI 18 1) (qC) _ (by simp only [go_sem];rfl) (by rfl) (by rfl) ?_
   simp (disch:=omega) only [go_sem,seval]
   exact⟨by simp,hms⟩
 rw [hf (by simp [EE,b1])]
 refine qX ?_
 exact dk (qI 0 7++qI 9 7++qI 17 1)
theorem s7 (e:EndD) (k:Int):(ks e k).2.length<=1:=by rw [ks];split<;>simp
theorem r6 (e:EndD) (n:Int) (hs:Small e):(iA e n).2.length<=1048576:=by
 rw [iA];split
 ·rw [List.length_map]
  have:=pO (ic e n)
  have h2:(ic e n).length=e.subs.length:=by rw [ic,List.length_map]
  have:=hs.subs
  omega
 simp
theorem Hw {w:WorldD} {s m p:Int} {t:List UInt8} {ad:AddrD} {le:LetterD} (h:xa w le=false):ce w ⟨11,s,p,m,t,ad,le⟩=(w,2):=by
 unfold ce;dsimp only;rw [if_neg (by omega),if_neg (by omega),if_pos rfl,if_pos h]
theorem Hx {w:WorldD} {s m p:Int} {t:List UInt8} {ad:AddrD} {le:LetterD} (h:xa w le=true) (h2:40<=w.bag.length):ce w ⟨11,s,p,m,t,ad,le⟩=(w,1):=by
 unfold ce;dsimp only;rw [if_neg (by omega),if_neg (by omega),if_pos rfl,if_neg (by simp [h]),if_pos h2]
theorem Hy {w:WorldD} {s m p:Int} {t:List UInt8} {ad:AddrD} {le:LetterD} (h:xa w le=true) (h2:¬ 40<=w.bag.length):ce w ⟨11,s,p,m,t,ad,le⟩=({ w with bag:=w.bag++[le] },0):=by
 unfold ce;dsimp only;rw [if_neg (by omega),if_neg (by omega),if_pos rfl,if_neg (by simp [h]),if_neg h2]
theorem Hz {w:WorldD} {s m:Int} {p:Nat} {t:List UInt8} {ad:AddrD} {le:LetterD} (h:¬ p < w.past.length):ce w ⟨12,s,(p:Nat),m,t,ad,le⟩=(w,1):=by
 unfold ce;dsimp only;rw [if_neg (by omega),if_neg (by omega),if_neg (by omega),if_pos (.inl (by omega))]
theorem HA {w:WorldD} {s m:Int} {p:Nat} {t:List UInt8} {ad:AddrD} {le:LetterD} (h:p < w.past.length) (h2:sideAt w.past[p].to=0\/40<=w.bag.length):ce w ⟨12,s,(p:Nat),m,t,ad,le⟩=(w,1):=by
 unfold ce;dsimp only;rw [if_neg (by omega),if_neg (by omega),if_neg (by omega),sG h,if_pos (.inr h2)]
theorem HC {w:WorldD} {s m:Int} {p:Nat} {t:List UInt8} {ad:AddrD} {le:LetterD} (h:p < w.past.length) (h1:¬ sideAt w.past[p].to=0) (h2:¬ 40<=w.bag.length):ce w ⟨12,s,(p:Nat),m,t,ad,le⟩=({ w with bag:=w.bag++[w.past[p]] },0):=by
 unfold ce;dsimp only;rw [if_neg (by omega),if_neg (by omega),if_neg (by omega),sG h,if_neg (by omega)]
theorem Fi (w:WorldD) (pos many:Int) (text:List UInt8) (ad:AddrD) (le:LetterD) (hw:SmallD w) (htx:text.length<=1048576):
  aP 169 [.ag (w.cs 0),.ag (ActD.cs ⟨6,1,pos,many,text,ad,le⟩)] (w.hp false) (.tu [.ag (WorldD.cs (an 1 { w with a:=(iA w.a pos).1 } (iA w.a pos).2) 21),.sc (.int .i64 0)]) (w.hp false++WorldD.hp (an 1 { w with a:=(iA w.a pos).1 } (iA w.a pos).2) true):=by
 have hX:=v8 w.a pos hw.p.s.a
 have hsm:=nY (n:=pos) hw.p.s.a
 have hlen:=r6 w.a pos hw.p.s.a
 have hEA:aP 74 [.ag (w.cs 0),.sc (.int .i64 1)] (w.hp false) (.ag (w.a.cs 21)) (w.hp false++w.a.hp true):=bq w 1 hw.p.s.a.own hw.p.s.a.far hw.p.s.a.subs hw.p.s.a.halfs hw.p.s.a.list hw.p.s.a.done hw.p.s.a.over hw.p.s.b.own hw.p.s.b.far hw.p.s.b.subs hw.p.s.b.halfs hw.p.s.b.list hw.p.s.b.done hw.p.s.b.over
 obtain⟨pr,hpr⟩:∃ p,p=iA w.a pos:=⟨_,rfl⟩
 rw [<-hpr] at hX hsm hlen⊢
 obtain⟨e1,l1⟩:=pr
 dsimp only at hX hsm hlen⊢
 have hset:=dc w e1
 have hpost:=df { w with a:=e1 } l1 ⟨hsm,hw.p.s.b,hw.p.s.bag,hw.p.s.past,hw.p.s.keys,hw.p.s.tags,hw.p.s.nums,hw.p.s.ansA,hw.p.s.ansB⟩ (by first|omega|simp)
 have hends:=ba (side:=1) (l:=l1) (w:={ w with a:=e1 })
 obtain⟨R,hR⟩:∃ R,R=an 1 { w with a:=e1 } l1:=⟨_,rfl⟩
 rw [<-hR] at hpost hends⊢
 clear hR
 obtain⟨ra,rb,bag,past,wA,wB,rA,rB,known,nums,nsA,nsB⟩:=R
 obtain⟨keys,tags⟩:=known
 dsimp only at hends
 obtain⟨g1,g2,g3,g4,g5,g6⟩:=hends
 replace g1:=g1.symm
 replace g2:=g2.symm
 replace g3:=g3.symm
 replace g4:=g4.symm
 replace g5:=g5.symm
 replace g6:=g6.symm
 subst g1 g2 g3 g4 g5 g6
 refine gU Tryz.func169 Tryz.ntmps169 Tryz.results169 fun E hE=>?_
 refine qK (hEA) (qI 0 21) ?_
 refine qK (hX) (qI 24 7) ?_
 refine qD [0,1,2,3,5,6,7,4,8,9,10] ?_
 refine aQ (hset) (qI 0 21++qI 33 7) ?_
 refine aQ (hpost) (qI 33 7++qI 7 14++qI 40 1) ?_
 refine qG ?_
 exact dk (qI 0 21++qI 41 21)
theorem Fj (w:WorldD) (pos many:Int) (text:List UInt8) (ad:AddrD) (le:LetterD) (hw:SmallD w) (htx:text.length<=1048576):
  aP 169 [.ag (w.cs 0),.ag (ActD.cs ⟨7,1,pos,many,text,ad,le⟩)] (w.hp false) (.tu [.ag (WorldD.cs (an 1 { w with a:=(ks w.a pos).1 } (ks w.a pos).2) 21),.sc (.int .i64 0)]) (w.hp false++WorldD.hp (an 1 { w with a:=(ks w.a pos).1 } (ks w.a pos).2) true):=by
 have hX:=Fh w.a pos hw.p.s.a
 have hsm:=qj (k:=pos) hw.p.s.a
 have hlen:=s7 w.a pos
 have hEA:aP 74 [.ag (w.cs 0),.sc (.int .i64 1)] (w.hp false) (.ag (w.a.cs 21)) (w.hp false++w.a.hp true):=bq w 1 hw.p.s.a.own hw.p.s.a.far hw.p.s.a.subs hw.p.s.a.halfs hw.p.s.a.list hw.p.s.a.done hw.p.s.a.over hw.p.s.b.own hw.p.s.b.far hw.p.s.b.subs hw.p.s.b.halfs hw.p.s.b.list hw.p.s.b.done hw.p.s.b.over
 obtain⟨pr,hpr⟩:∃ p,p=ks w.a pos:=⟨_,rfl⟩
 rw [<-hpr] at hX hsm hlen⊢
 obtain⟨e1,l1⟩:=pr
 dsimp only at hX hsm hlen⊢
 have hset:=dc w e1
 have hpost:=df { w with a:=e1 } l1 ⟨hsm,hw.p.s.b,hw.p.s.bag,hw.p.s.past,hw.p.s.keys,hw.p.s.tags,hw.p.s.nums,hw.p.s.ansA,hw.p.s.ansB⟩ (by first|omega|simp)
 have hends:=ba (side:=1) (l:=l1) (w:={ w with a:=e1 })
 obtain⟨R,hR⟩:∃ R,R=an 1 { w with a:=e1 } l1:=⟨_,rfl⟩
 rw [<-hR] at hpost hends⊢
 clear hR
 obtain⟨ra,rb,bag,past,wA,wB,rA,rB,known,nums,nsA,nsB⟩:=R
 obtain⟨keys,tags⟩:=known
 dsimp only at hends
 obtain⟨g1,g2,g3,g4,g5,g6⟩:=hends
 replace g1:=g1.symm
 replace g2:=g2.symm
 replace g3:=g3.symm
 replace g4:=g4.symm
 replace g5:=g5.symm
 replace g6:=g6.symm
 subst g1 g2 g3 g4 g5 g6
 refine gU Tryz.func169 Tryz.ntmps169 Tryz.results169 fun E hE=>?_
 refine qK (hEA) (qI 0 21) ?_
 refine qK (hX) (qI 24 7) ?_
 refine qD [0,1,2,3,5,6,7,4,8,9,10] ?_
 refine aQ (hset) (qI 0 21++qI 33 7) ?_
 refine aQ (hpost) (qI 33 7++qI 7 14++qI 40 1) ?_
 refine qG ?_
 exact dk (qI 0 21++qI 41 21)
theorem Fk (w:WorldD) (pos many:Int) (text:List UInt8) (ad:AddrD) (le:LetterD) (hw:SmallD w) (htx:text.length<=1048576):
  aP 169 [.ag (w.cs 0),.ag (ActD.cs ⟨6,2,pos,many,text,ad,le⟩)] (w.hp false) (.tu [.ag (WorldD.cs (an 2 { w with b:=(iA w.b pos).1 } (iA w.b pos).2) 21),.sc (.int .i64 0)]) (w.hp false++WorldD.hp (an 2 { w with b:=(iA w.b pos).1 } (iA w.b pos).2) true):=by
 have hX:=v8 w.b pos hw.p.s.b
 have hsm:=nY (n:=pos) hw.p.s.b
 have hlen:=r6 w.b pos hw.p.s.b
 have hEA:aP 74 [.ag (w.cs 0),.sc (.int .i64 2)] (w.hp false) (.ag (w.b.cs 21)) (w.hp false++w.b.hp true):=bq w 2 hw.p.s.a.own hw.p.s.a.far hw.p.s.a.subs hw.p.s.a.halfs hw.p.s.a.list hw.p.s.a.done hw.p.s.a.over hw.p.s.b.own hw.p.s.b.far hw.p.s.b.subs hw.p.s.b.halfs hw.p.s.b.list hw.p.s.b.done hw.p.s.b.over
 obtain⟨pr,hpr⟩:∃ p,p=iA w.b pos:=⟨_,rfl⟩
 rw [<-hpr] at hX hsm hlen⊢
 obtain⟨e1,l1⟩:=pr
 dsimp only at hX hsm hlen⊢
 have hset:=de w e1
 have hpost:=dg { w with b:=e1 } l1 ⟨hw.p.s.a,hsm,hw.p.s.bag,hw.p.s.past,hw.p.s.keys,hw.p.s.tags,hw.p.s.nums,hw.p.s.ansA,hw.p.s.ansB⟩ (by first|omega|simp)
 have hends:=ba (side:=2) (l:=l1) (w:={ w with b:=e1 })
 obtain⟨R,hR⟩:∃ R,R=an 2 { w with b:=e1 } l1:=⟨_,rfl⟩
 rw [<-hR] at hpost hends⊢
 clear hR
 obtain⟨ra,rb,bag,past,wA,wB,rA,rB,known,nums,nsA,nsB⟩:=R
 obtain⟨keys,tags⟩:=known
 dsimp only at hends
 obtain⟨g1,g2,g3,g4,g5,g6⟩:=hends
 replace g1:=g1.symm
 replace g2:=g2.symm
 replace g3:=g3.symm
 replace g4:=g4.symm
 replace g5:=g5.symm
 replace g6:=g6.symm
 subst g1 g2 g3 g4 g5 g6
 refine gU Tryz.func169 Tryz.ntmps169 Tryz.results169 fun E hE=>?_
 refine qK (hEA) (qI 0 21) ?_
 refine qK (hX) (qI 24 7) ?_
 refine qD [0,1,2,3,5,6,7,4,8,9,10] ?_
 refine aQ (hset) (qI 0 21++qI 33 7) ?_
 refine aQ (hpost) (qI 0 7++qI 33 7++qI 14 7++qI 40 1) ?_
 refine qG ?_
 exact dk (qI 0 21++qI 41 21)
theorem Fl (w:WorldD) (pos many:Int) (text:List UInt8) (ad:AddrD) (le:LetterD) (hw:SmallD w) (htx:text.length<=1048576):
  aP 169 [.ag (w.cs 0),.ag (ActD.cs ⟨7,2,pos,many,text,ad,le⟩)] (w.hp false) (.tu [.ag (WorldD.cs (an 2 { w with b:=(ks w.b pos).1 } (ks w.b pos).2) 21),.sc (.int .i64 0)]) (w.hp false++WorldD.hp (an 2 { w with b:=(ks w.b pos).1 } (ks w.b pos).2) true):=by
 have hX:=Fh w.b pos hw.p.s.b
 have hsm:=qj (k:=pos) hw.p.s.b
 have hlen:=s7 w.b pos
 have hEA:aP 74 [.ag (w.cs 0),.sc (.int .i64 2)] (w.hp false) (.ag (w.b.cs 21)) (w.hp false++w.b.hp true):=bq w 2 hw.p.s.a.own hw.p.s.a.far hw.p.s.a.subs hw.p.s.a.halfs hw.p.s.a.list hw.p.s.a.done hw.p.s.a.over hw.p.s.b.own hw.p.s.b.far hw.p.s.b.subs hw.p.s.b.halfs hw.p.s.b.list hw.p.s.b.done hw.p.s.b.over
 obtain⟨pr,hpr⟩:∃ p,p=ks w.b pos:=⟨_,rfl⟩
 rw [<-hpr] at hX hsm hlen⊢
 obtain⟨e1,l1⟩:=pr
 dsimp only at hX hsm hlen⊢
 have hset:=de w e1
 have hpost:=dg { w with b:=e1 } l1 ⟨hw.p.s.a,hsm,hw.p.s.bag,hw.p.s.past,hw.p.s.keys,hw.p.s.tags,hw.p.s.nums,hw.p.s.ansA,hw.p.s.ansB⟩ (by first|omega|simp)
 have hends:=ba (side:=2) (l:=l1) (w:={ w with b:=e1 })
 obtain⟨R,hR⟩:∃ R,R=an 2 { w with b:=e1 } l1:=⟨_,rfl⟩
 rw [<-hR] at hpost hends⊢
 clear hR
 obtain⟨ra,rb,bag,past,wA,wB,rA,rB,known,nums,nsA,nsB⟩:=R
 obtain⟨keys,tags⟩:=known
 dsimp only at hends
 obtain⟨g1,g2,g3,g4,g5,g6⟩:=hends
 replace g1:=g1.symm
 replace g2:=g2.symm
 replace g3:=g3.symm
 replace g4:=g4.symm
 replace g5:=g5.symm
 replace g6:=g6.symm
 subst g1 g2 g3 g4 g5 g6
 refine gU Tryz.func169 Tryz.ntmps169 Tryz.results169 fun E hE=>?_
 refine qK (hEA) (qI 0 21) ?_
 refine qK (hX) (qI 24 7) ?_
 refine qD [0,1,2,3,5,6,7,4,8,9,10] ?_
 refine aQ (hset) (qI 0 21++qI 33 7) ?_
 refine aQ (hpost) (qI 0 7++qI 33 7++qI 14 7++qI 40 1) ?_
 refine qG ?_
 exact dk (qI 0 21++qI 41 21)
theorem GU {w:WorldD} {pos many:Int} {text:List UInt8} {ad:AddrD} {le:LetterD}:eX w ⟨6,1,pos,many,text,ad,le⟩=(an 1 { w with a:=(iA w.a pos).1 } (iA w.a pos).2,0):=by
 simp [eX,dl,gD,ie,bB,cq,dT,bR]
theorem GV {w:WorldD} {pos many:Int} {text:List UInt8} {ad:AddrD} {le:LetterD}:eX w ⟨7,1,pos,many,text,ad,le⟩=(an 1 { w with a:=(ks w.a pos).1 } (ks w.a pos).2,0):=by
 simp [eX,dl,gD,ie,bB,cq,dT,bR]
theorem GW {w:WorldD} {pos many:Int} {text:List UInt8} {ad:AddrD} {le:LetterD}:eX w ⟨6,2,pos,many,text,ad,le⟩=(an 2 { w with b:=(iA w.b pos).1 } (iA w.b pos).2,0):=by
 simp [eX,dl,gD,ie,bB,cq,dT,bR]
theorem GX {w:WorldD} {pos many:Int} {text:List UInt8} {ad:AddrD} {le:LetterD}:eX w ⟨7,2,pos,many,text,ad,le⟩=(an 2 { w with b:=(ks w.b pos).1 } (ks w.b pos).2,0):=by
 simp [eX,dl,gD,ie,bB,cq,dT,bR]
theorem Gp (w:WorldD) (a:ActD) (hw:SmallD w) (ha:cO a=true) (h7:a.kind<=7) (hb:¬ dl w a=true):
  aP 169 [.ag (w.cs 0),.ag a.cs] (w.hp false) (.tu [.ag ((eX w a).1.cs 21),.sc (.int .i64 (eX w a).2)]) (w.hp false++(eX w a).1.hp true):=by
 obtain⟨k1,k2,k3,k4,k5,k6⟩:=lk ha
 obtain⟨kind,side,pos,many,text,ad,le⟩:=a
 dsimp only at*
 have hs:side=1\/side=2:=by omega
 have hk:kind=1\/kind=2\/kind=3\/kind=4\/kind=5\/kind=6\/kind=7:=by omega
 clear ha k1 k2 k3 k4 h7
 rcases hs with rfl|rfl<;>rcases hk with rfl|rfl|rfl|rfl|rfl|rfl|rfl
 ·rw [DQ];exact zy w pos many text ad le hw k6
 ·rw [DR];exact zz w pos many text ad le hw k6
 ·rw [DS];exact zG w pos many text ad le hw k6
 ·rw [DT];exact zA w pos many text ad le hw k6
 ·have hb:sideAt ad.addr=1/\(az w.a ad).2=true:=by
   by_cases h0:sideAt ad.addr=1<;>cases h1:(az w.a ad).2<;>simp [dl,bB,h0,h1] at hb<;>exact⟨h0,rfl⟩
  rw [DU hb.1 hb.2];exact zB w pos many text ad le hw k6 hb.1 hb.2
 ·rw [GU];exact Fi w pos many text ad le hw k6
 ·rw [GV];exact Fj w pos many text ad le hw k6
 ·rw [DV];exact zC w pos many text ad le hw k6
 ·rw [DW];exact zD w pos many text ad le hw k6
 ·rw [DX];exact zH w pos many text ad le hw k6
 ·rw [DY];exact zE w pos many text ad le hw k6
 ·have hb:sideAt ad.addr=2/\(az w.b ad).2=true:=by
   by_cases h0:sideAt ad.addr=2<;>cases h1:(az w.b ad).2<;>simp [dl,bB,h0,h1] at hb<;>exact⟨h0,rfl⟩
  rw [DZ hb.1 hb.2];exact zF w pos many text ad le hw k6 hb.1 hb.2
 ·rw [GW];exact Fk w pos many text ad le hw k6
 rw [GX];exact Fl w pos many text ad le hw k6
theorem Hd (w:WorldD) (a:ActD) (hw:SmallD w):aP 88 [.ag (w.cs 0),.ag a.cs] (w.hp false) (.tu [.ag ((iP w a).1.cs 21),.sc (.int .i64 (iP w a).2)]) (w.hp false++(iP w a).1.hp true):=by
 have hC:=gi w hw.p.s
 have hA:=B8 a
 have hI:=ak a.kind 1 7
 cases hok:cO a with
 |false=>
  rw [show iP w a=(w,3) from by rw [iP,if_neg (by simp [hok])]]
  rw [hok] at hA
  dsimp only
  refine qE Tryz.func88 Tryz.ntmps88 Tryz.results88 fun E hE=>?_
  refine qK (hC) (qI 0 21) ?_
  refine qK (hA) [] ?_
  exact qF (qI 0 21++qI 24 21)
 |true=>
  rw [hok] at hA
  obtain⟨k1,k2,k3,k4,k5,k6⟩:=lk hok
  by_cases h7:a.kind<=7
  ·rw [show iP w a=eX w a from by rw [iP,if_pos hok,if_pos h7]]
   have hin:bj a.kind 1 7=true:=by simp only [bj,Bool.and_eq_true,decide_eq_true_eq];omega
   rw [hin] at hI
   by_cases hb:dl w a=true
   ·have hQ:=A0 w a hw hok hb
    rw [DC hb]
    dsimp only
    refine qE Tryz.func88 Tryz.ntmps88 Tryz.results88 fun E hE=>?_
    refine qK (hC) (qI 0 21) ?_
    refine qK (hA) [] ?_
    refine qK (hI) [] ?_
    refine qK (hQ) (qI 24 21) ?_
    exact qF (qI 0 21++qI 45 21)
   have hQ:=Gp w a hw hok h7 hb
   obtain⟨R,hR⟩:∃ R,R=eX w a:=⟨_,rfl⟩
   rw [<-hR] at hQ⊢
   clear hR
   obtain⟨r,c⟩:=R
   dsimp only at hQ⊢
   refine qE Tryz.func88 Tryz.ntmps88 Tryz.results88 fun E hE=>?_
   refine qK (hC) (qI 0 21) ?_
   refine qK (hA) [] ?_
   refine qK (hI) [] ?_
   refine qK (hQ) (qI 24 21) ?_
   exact qF (qI 0 21++qI 45 21)
  rw [show iP w a=ce w a from by rw [iP,if_pos hok,if_neg h7]]
  have hin:bj a.kind 1 7=false:=by simp only [bj,Bool.and_eq_false_iff,decide_eq_false_iff_not];omega
  rw [hin] at hI
  by_cases h10:a.kind<=10
  ·have hQ:=Bl w a hw hok h7 h10
   obtain⟨R,hR⟩:∃ R,R=ce w a:=⟨_,rfl⟩
   rw [<-hR] at hQ⊢
   clear hR
   obtain⟨r,c⟩:=R
   dsimp only at hQ⊢
   refine qE Tryz.func88 Tryz.ntmps88 Tryz.results88 fun E hE=>?_
   refine qK (hC) (qI 0 21) ?_
   refine qK (hA) [] ?_
   refine qK (hI) [] ?_
   refine qK (hQ) (qI 24 21) ?_
   exact qF (qI 0 21++qI 46 21)
  obtain⟨kind,side,pos,many,text,ad,le⟩:=a
  dsimp only at*
  have hbag:=hw.p.s.bag
  have hpast:=hw.p.s.past
  have hk:kind=11\/kind=12:=by omega
  clear h7 h10 k1 k2 hok
  rcases hk with rfl|rfl
  ·have hM:=Ff w le hw.p.s.keys hw.p.s.tags hw.p.s.nums
   cases hm:xa w le with
   |false=>
    rw [Hw hm]
    rw [hm] at hM
    dsimp only
    refine qE Tryz.func88 Tryz.ntmps88 Tryz.results88 fun E hE=>?_
    refine qK (hC) (qI 0 21) ?_
    refine qK (hA) [] ?_
    refine qK (hI) [] ?_
    refine qK (hM) (qI 24 21) ?_
    exact qF (qI 0 21++qI 24 21)
   |true=>
    rw [hm] at hM
    by_cases h4:40<=w.bag.length
    ·rw [Hx hm h4]
     dsimp only
     refine qE Tryz.func88 Tryz.ntmps88 Tryz.results88 fun E hE=>?_
     refine qK (hC) (qI 0 21) ?_
     refine qK (hA) [] ?_
     refine qK (hI) [] ?_
     refine qK (hM) (qI 24 21) ?_
     exact qF (qI 0 21++qI 24 21)
    rw [Hy hm h4]
    dsimp only
    refine qE Tryz.func88 Tryz.ntmps88 Tryz.results88 fun E hE=>?_
    refine qK (hC) (qI 0 21) ?_
    refine qK (hA) [] ?_
    refine qK (hI) [] ?_
    refine qK (hM) (qI 24 21) ?_
    refine qJ (qI 0 21++qI 24 14++qI 47 1++qI 39 6) ?_
    simp [LetterD.cs]
  obtain⟨p,rfl⟩:=Int.eq_ofNat_of_zero_le k5
  by_cases hp:p < w.past.length
  ·have hx:=aT (enc:=LetterD.cs) hp
   have hq1:= @HA w side many p text ad le hp
   have hq2:= @HC w side many p text ad le hp
   obtain⟨R,hR⟩:∃ R,R=ce w ⟨12,side,(p:Nat),many,text,ad,le⟩:=⟨_,rfl⟩
   change _=ce w _ at hR
   rw [<-hR] at hq1 hq2
   try rw [<-hR]
   clear hR
   generalize hxx:w.past[p]=x at*
   have hS:=cV x.to
   generalize sideAt x.to=sd at*
   by_cases h0:sd=0
   ·rw [hq1 (.inl h0)]
    dsimp only
    refine qE Tryz.func88 Tryz.ntmps88 Tryz.results88 fun E hE=>?_
    refine qK (hC) (qI 0 21) ?_
    refine qK (hA) [] ?_
    refine qK (hI) [] ?_
    try simp (disch:=omega) only [go_sem,seval,hx,hxx]
    refine qK (hS) [] ?_
    exact qF (qI 0 21++qI 24 21)
   by_cases h4:40<=w.bag.length
   ·rw [hq1 (.inr h4)]
    dsimp only
    refine qE Tryz.func88 Tryz.ntmps88 Tryz.results88 fun E hE=>?_
    refine qK (hC) (qI 0 21) ?_
    refine qK (hA) [] ?_
    refine qK (hI) [] ?_
    try simp (disch:=omega) only [go_sem,seval,hx,hxx]
    refine qK (hS) [] ?_
    exact qF (qI 0 21++qI 24 21)
   rw [hq2 h0 h4]
   dsimp only
   refine qE Tryz.func88 Tryz.ntmps88 Tryz.results88 fun E hE=>?_
   refine qK (hC) (qI 0 21) ?_
   refine qK (hA) [] ?_
   refine qK (hI) [] ?_
   try simp (disch:=omega) only [go_sem,seval,hx,hxx]
   refine qK (hS) [] ?_
   refine qX ?_
   refine qJ (qI 0 21++qI 24 14++qI 47 1++qI 39 6) ?_
   simp [LetterD.cs]
  rw [Hz hp]
  dsimp only
  refine qE Tryz.func88 Tryz.ntmps88 Tryz.results88 fun E hE=>?_
  refine qK (hC) (qI 0 21) ?_
  refine qK (hA) [] ?_
  refine qK (hI) [] ?_
  exact qF (qI 0 21++qI 24 21)
end
end Go.Proofs.YtjghbknhneffjaaGreat
