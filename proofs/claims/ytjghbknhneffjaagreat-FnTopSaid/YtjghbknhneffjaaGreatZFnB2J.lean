/-
  Texts merged for this claim by shake.py: what its proof needs.
-/
import Derived.Test.YtjghbknhneffjaaGreatZFnBaseL
import Derived.Test.YtjghbknhneffjaaGreatZFnBaseM
import Derived.Test.YtjghbknhneffjaaGreatZFnBaseN
import Derived.Test.YtjghbknhneffjaaGreatZFnB2A
import Derived.Test.YtjghbknhneffjaaGreatZFnB2B
import Derived.Test.YtjghbknhneffjaaGreatZFnB2F
set_option maxHeartbeats 16000000
set_option maxRecDepth 100000
set_option linter.unusedVariables false
set_option linter.unusedSimpArgs false
namespace Go.Proofs.YtjghbknhneffjaaGreat
section
open Go.RowKit
section
variable {P:Program} {β:Be} {s:S} {a:Act} {w:World} {o:Oper} {r:OpR} {ty:TypeId}
end
end
section
open Go.ChangeShapes Go.WideShapes Go.ChangeAt Go.RowKit
end
section
theorem p0 {α:Type} {p:α->Bool} {l:List α} {k:Nat} (h:l.length<=k):(l.drop k).all p=true:=by
 rw [List.drop_eq_nil_of_le h,List.all_nil]
end
section
end
section
open Go.RowKit
end
section
end
section
open Go.RowKit
theorem k3 (e:EndD) (x:LetterD) (hs:Small e):aP 131 [.ag (e.cs 0),.ag x.cs] (e.hp false) (.tu [.ag ((bC e x).1.cs 7),.sc (.sl 14 0 (bC e x).2.length)])
  (e.hp false++((bC e x).1.hp true++[some ⟨(bC e x).2.map LetterD.cs,19,48,true,true⟩])):=by
 have hC:=(qH (jF e))
 have hK:=(qH (ap e))
 have hA:=b6 e.far x.id (by have:=hs.far;omega)
 have hH:=ct e.over x.id (by have:=hs.over;omega)
 have hS:=a6 e x (by have:=hs.subs;omega)
 have hL:=a1 x
 have hbs:=rp e x
 have hbA:=fQ e.far x.id
 have hbd:=f9 e x
 have hf:=uc (e:=e) (x:=x)
 have ht:=fun (n:Nat)=> @ud e x n
 have hok:=lH.eq_1 e x
 generalize bC e x=R at*
 refine qE Tryz.func131 Tryz.ntmps131 Tryz.results131 fun E hE=>?_
 refine qK (hC) (qI 0 7) ?_
 refine qK (hS) (qI 0 7) ?_
 have hcmp:=TagD.cmp x.tag ⟨3,e.peer,e.key,x.id,x.addr⟩
 simp only [TagD.cs,go_sem] at hcmp
 rcases hbs with hk|⟨hk0,hk1⟩
 ·rw [hk]
  refine qX ?_
  refine qD [0,1,2,3,4,5,6,7,8,9,10,11,12,13,14,15,16,17,18,19,20,21,22,23,24,25,26,27,28,29,30,31,32] ?_
  refine aQ (hK) (qI 0 7) ?_
  refine qB (fun h1=>?_) fun h1=>?_
  ·refine aQ (hL) [] ?_
   refine qB (fun h2=>?_) fun h2=>?_
   ·rw [hf (by rw [hok];have:=a3 (e:=e) (x:=x) (by rintro⟨_,_,hh⟩;omega);simp;omega)]
    refine qG ?_
    exact qF (qI 0 7++qI 10 7++qO 1)
   rw [hf (by rw [hok];have:=a3 (e:=e) (x:=x) (by rintro⟨_,hh,_⟩;rw [h2] at hh;cases hh);simp;omega)]
   refine qG ?_
   exact qF (qI 0 7++qI 10 7++qO 1)
  rw [hf (by rw [hok];have:=a3 (e:=e) (x:=x) (by rintro⟨hh,_⟩;rw [h1] at hh;cases hh);simp;omega)]
  refine qG ?_
  exact qF (qI 0 7++qI 10 7++qO 1)
 obtain⟨n,hk⟩:=Int.eq_ofNat_of_zero_le hk0
 have hn:n < e.subs.length:=by omega
 rw [hk]
 refine qX ?_
 refine qD [0,1,2,3,4,5,6,7,8,9,10,11,12,13,14,15,16,17,18,19,20,21,22,23,24,25,26,27,28,29,30,31,32] ?_
 refine aQ (hK) (qI 0 7) ?_
 refine qB (fun h1=>?_) fun h1=>?_
 ·refine aQ (hL) [] ?_
  refine qB (fun h2=>?_) fun h2=>?_
  ·have hon:=ds h1 h2 hk
   have hq1:=h1
   refine aQ (el _ _ _ _) [] ?_
   try simp (disch:=omega) only [go_sem,seval,hcmp]
   refine qB (fun h4=>?_) fun h4=>?_
   ·refine aQ (hH) (qI 6 1) ?_
    refine qG ?_
    refine qB (fun h5=>?_) fun h5=>?_
    ·rw [hf (by rw [hok];simp [h5])]
     refine qX ?_
     exact qF (qI 0 7++qI 10 7++qO 1)
    refine qX ?_
    refine qK (hA) (qI 1 1) ?_
    rcases hbA with hi|⟨hi0,hi1⟩
    ·rw [hi]
     refine qX ?_
     have hoth:=t9 hi
     refine qD [0,1,2,3,4,5,6,7,8,9,10,11,12] ?_
     refine qG ?_
     have hP:=eo e.far (jN x) (by have:=iy hq1;omega)
     obtain⟨Q,hQ⟩:∃ Q,Q=aJ e.far (jN x):=⟨_,rfl⟩
     have hQl:Q.1.length<=1048576:=by rw [hQ];have:=iy hq1;have:=dR e.far (jN x);unfold aJ;split<;>dsimp only<;>omega
     rw [<-hQ] at hP
     refine qX ?_
     refine qK (hP) (qI 1 1) ?_
     refine qB (fun h7=>?_) fun h7=>?_
     ·rw [hf (by rw [hok,<-hQ];simp [h7])]
      refine qX ?_
      exact qF (qI 0 7++qI 10 7++qO 1)
     rw [ht _ (by rw [hok,hoth,<-hQ];simp [hon,h4,h5,h7]) hon hn,<-hQ]
     refine qX ?_
     refine aO [(15,16)] [(qU [0,2,3,11,2,1,14,4]),(qU [0,2,3,11,2,1,14,1,16,1,15,1,17,1])] (by kernel_rfl) (qC) (by kernel_rfl) ?_
     simp only [bm]
     refine⟨aa 400 ?_,aa 400 ?_⟩
     all_goals simp (disch:=omega) only [go_sem,seval]
     all_goals
      refine aQ (a5 x) [] ?_
      refine aQ (a0 (roadOf x) { ah with kind:=9,sgn:=e.subs[n].give,id:=x.id,addr:=x.addr }) [] ?_
      refine qG ?_
      refine qP (qI 0 7++qI 10 1++qI 18 1++qI 12 5++qI 19 1) ?_
      first|exact⟨⟩|simp [rO,aq,LetterD.cs]
    obtain⟨i,hi⟩:=Int.eq_ofNat_of_zero_le hi0
    have hil:i < e.far.length:=by omega
    have hoth:=t_ hi hil
    rw [hi]
    refine qX ?_
    refine qD [0,1,2,3,4,5,6,7,8,9,10,11,12] ?_
    refine qG ?_
    refine qB (fun h6=>?_) fun h6=>?_
    ·rw [hf (by rw [hok,hoth];simp [h6])]
     refine qX ?_
     exact qF (qI 0 7++qI 10 7++qO 1)
    simp only [h6,decide_true,Bool.not_true] at hoth
    have hP:=eo e.far (jN x) (by have:=iy hq1;omega)
    obtain⟨Q,hQ⟩:∃ Q,Q=aJ e.far (jN x):=⟨_,rfl⟩
    have hQl:Q.1.length<=1048576:=by rw [hQ];have:=iy hq1;have:=dR e.far (jN x);unfold aJ;split<;>dsimp only<;>omega
    rw [<-hQ] at hP
    refine qX ?_
    refine qK (hP) (qI 1 1) ?_
    refine qB (fun h7=>?_) fun h7=>?_
    ·rw [hf (by rw [hok,<-hQ];simp [h7])]
     refine qX ?_
     exact qF (qI 0 7++qI 10 7++qO 1)
    rw [ht _ (by rw [hok,hoth,<-hQ];simp [hon,h4,h5,h7]) hon hn,<-hQ]
    refine qX ?_
    refine aO [(15,16)] [(qU [0,2,3,11,2,1,14,4]),(qU [0,2,3,11,2,1,14,1,16,1,15,1,17,1])] (by kernel_rfl) (qC) (by kernel_rfl) ?_
    simp only [bm]
    refine⟨aa 400 ?_,aa 400 ?_⟩
    all_goals simp (disch:=omega) only [go_sem,seval]
    all_goals
     refine aQ (a5 x) [] ?_
     refine aQ (a0 (roadOf x) { ah with kind:=9,sgn:=e.subs[n].give,id:=x.id,addr:=x.addr }) [] ?_
     refine qG ?_
     refine qP (qI 0 7++qI 10 1++qI 18 1++qI 12 5++qI 19 1) ?_
     first|exact⟨⟩|simp [rO,aq,LetterD.cs]
   rw [hf (by rw [hok];simp [h4])]
   refine qG ?_
   exact qF (qI 0 7++qI 10 7++qO 1)
  rw [hf (by rw [hok];have:=a3 (e:=e) (x:=x) (by rintro⟨_,hh,_⟩;rw [h2] at hh;cases hh);simp;omega)]
  refine qG ?_
  exact qF (qI 0 7++qI 10 7++qO 1)
 rw [hf (by rw [hok];have:=a3 (e:=e) (x:=x) (by rintro⟨hh,_⟩;rw [h1] at hh;cases hh);simp;omega)]
 refine qG ?_
 exact qF (qI 0 7++qI 10 7++qO 1)
theorem fb (a b:PieceD) (ha:0<=a.pos/\a.pos<=4000000000) (hb:0<=b.pos/\b.pos<=4000000000) (la:a.text.length<=1048576) (lb:b.text.length<=1048576)
  (t1:¬ a.pos+(a.text.length:Int) < b.pos) (t2:¬ b.pos+(b.text.length:Int) < a.pos):aP 260 [.ag a.cs,.ag b.cs] [] (.ag (fh a b).cs) []:=by
 by_cases h:b.pos < a.pos
 ·obtain⟨n,hn⟩:=Int.eq_ofNat_of_zero_le (show 0<=a.pos - b.pos by omega)
  rw [yY hn (by omega)]
  have hp:a.pos=b.pos+(n:Int):=by omega
  refine qE Tryz.func260 Tryz.ntmps260 Tryz.results260 fun E hE=>?_
  have hlt:(b.text.take n).length=n:=by simp;omega
  have hmin:(if a.pos - b.pos < (b.text.length:Int) then a.pos - b.pos else (b.text.length:Int))=(n:Int):=by split<;>omega
  refine qD [0,1,2,3,4,5,6,7,8,9,10,11,12,13,14,15,16,17,18] ?_
  try simp (disch:=omega) only [go_sem,seval,hmin]
  refine⟨qC,ac 400 ?_⟩
  try simp (disch:=omega) only [go_sem,seval,hmin]
  refine qB (fun h3=>?_) fun h3=>?_
  ·have he:(b.pos+(((b.text.take n).length:Int)+(a.text.length:Int)) - b.pos).toNat=n+a.text.length:=by omega
   have hd:(b.text.drop (n+a.text.length)).length<=b.text.length:=by simp
   refine qD [0,1,2,3,4,5,6,7,8,9,10,11] ?_
   try simp (disch:=omega) only [go_sem,seval,he]
   refine⟨by (try simp (disch:=omega) only [go_sem,List.length_set,seval,he])<;>omega,ac 400 ?_⟩
   try simp (disch:=omega) only [go_sem,seval,he]
   exact qF []
  refine qJ [] ?_
  rw [List.drop_of_length_le (by omega)]
  simp
 obtain⟨n,hn⟩:=Int.eq_ofNat_of_zero_le (show 0<=b.pos - a.pos by omega)
 rw [yZ hn]
 have hp:b.pos=a.pos+(n:Int):=by omega
 refine qE Tryz.func260 Tryz.ntmps260 Tryz.results260 fun E hE=>?_
 refine qB (fun h3=>?_) fun h3=>?_
 ·have he:(a.pos+(a.text.length:Int) - b.pos).toNat=a.text.length - n:=by omega
  have hd:(b.text.drop (a.text.length - n)).length<=b.text.length:=by simp
  refine qD [0,1,2,3,4,5,6,7,8,9,10,11] ?_
  try simp (disch:=omega) only [go_sem,seval,he]
  refine⟨by (try simp (disch:=omega) only [go_sem,List.length_set,seval,he])<;>omega,ac 400 ?_⟩
  try simp (disch:=omega) only [go_sem,seval,he]
  exact qF []
 refine qJ [] ?_
 rw [List.drop_of_length_le (by omega)]
 simp
theorem lT (p:PiecesD) (n:Int) (t:List UInt8) (hs:SmallP p):aP 212 [.ag (p.cs 0),.sc (.int .i64 n),.sc (.st t)] (p.hp false) (.ag ((bs p n t).cs 1))
  (p.hp false++(bs p n t).hp true):=by
 have hO:=a2 p hs.list
 have hN:=c0 p
 have hf:=EA (p:=p) (n:=n) (t:=t)
 have hold:=BT (p:=p) (n:=n) (t:=t)
 have hcut:=fun k=> @BU p n t k
 have hnew:=BV (p:=p) (n:=n) (t:=t)
 have hok:=qa.eq_1 p n t
 generalize bs p n t=R at*
 refine qE Tryz.func212 Tryz.ntmps212 Tryz.results212 fun E hE=>?_
 refine qK (hO) (qI 0 1) ?_
 refine qB (fun h1=>?_) fun h1=>?_
 ·refine qK (a4 [n] (by simp)) (qI 3 1) ?_
  simp only [List.all_cons,List.all_nil,Bool.and_true]
  refine qX ?_
  refine qB (fun h2=>?_) fun h2=>?_
  ·refine qX ?_
   refine qK (Bg (t.length:Int) 1 200) [] ?_
   refine qB (fun h3=>?_) fun h3=>?_
   ·rw [hf (by rw [hok];simp [h3])]
    refine qX ?_
    refine qK (lq p hs.list) (qI 0 1) ?_
    exact qF (qI 0 1++qI 4 1)
   have hok1:qa p n t=true:=by rw [hok];simp [h1,h2,h3]
   have hF:=dt h1 hs
   have hn1:=h2
   have hn3:=h3
   simp only [gA,bj,Bool.and_eq_true,decide_eq_true_eq] at hn1 hn3
   have hr0:=hF.r0
   have hr1:=hF.r1
   have hrl:=hF.list
   have hrr:=hF.ready
   have hnx:=hF.next
   refine qX ?_
   refine qK (hN) (qI 0 1) ?_
   refine qB (fun h4=>?_) fun h4=>?_
   ·obtain⟨m,hm⟩:=Int.eq_ofNat_of_zero_le (show 0<=nextOf p - n by omega)
    by_cases h7:t.length<=m
    ·rw [hold hok1 (by omega)]
     have hmin:(if nextOf p - n < (t.length:Int) then nextOf p - n else (t.length:Int))=(t.length:Int):=by split<;>omega
     have hz:(t.drop t.length == [])=true:=by simp
     try simp (disch:=omega) only [go_sem,seval,hmin,hz]
     refine qX ?_
     refine qK (lq p hs.list) (qI 0 1) ?_
     exact qF (qI 0 1++qI 5 1)
    rw [hcut m hok1 hm (by omega) (by omega)]
    have hmin:(if nextOf p - n < (t.length:Int) then nextOf p - n else (t.length:Int))=(m:Int):=by split<;>omega
    have hz:(t.drop m == [])=false:=by simp;omega
    have hI0:PpI 0 ⟨⟨nextOf p,t.drop m⟩,false,[]⟩:=mP (by omega) (by omega) (by simp;omega)
    try simp (disch:=omega) only [go_sem,seval,hmin,hz]
    obtain⟨G,hG⟩:∃ G,mO ⟨⟨nextOf p,t.drop m⟩,false,[]⟩ p.list=G:=⟨_,rfl⟩
    refine jx 1 hE (fun s (x:Nat×PpS)=>s.at (qU [0,3,12,45,60,47]) [(59,.sc (.int .i64 (x.1:Nat))),(10,.sc (.bo x.2.laid))] ([some ⟨p.list.map PieceD.cs,2,150,false,true⟩,some ⟨[p.cs 0],3,35,true,false⟩,some ⟨[[.int .i64 0,.st [],.nil]],3,35,true,false⟩,some ⟨[[.int .i64 n]],1,3,true,true⟩,some ⟨[[.int .i64 p.read,.st p.ready,.sl 6 0 x.2.acc.length]],3,35,true,false⟩,some ⟨[x.2.own.cs],2,150,true,false⟩,some ⟨x.2.acc.map PieceD.cs,2,150,true,true⟩])) (fun (x:Nat×PpS)=>x.1<=p.list.length/\PpI x.1 x.2/\mO x.2 (p.list.drop x.1)=G) (fun (x:Nat×PpS)=>p.list.length - x.1) (0,⟨⟨nextOf p,t.drop m⟩,false,[]⟩) (qI 0 6++qO 1) (⟨Nat.zero_le _,hI0,hG⟩) fun x hx N hN=>?_
    obtain⟨k,g⟩:=x
    obtain⟨hk1,hI,hgo⟩:=hx
    dsimp only at hk1 hI hgo
    have hIo:=hI.own
    have hIp:=hI.pos
    have hIa:=hI.acc
    have hac:g.acc.length<=100:=by split at hIa<;>omega
    refine qR ?_
    refine qB (fun h=>?_) fun h=>?_
    ·have hm:=hF.texts p.list[k] (List.getElem_mem h)
     obtain⟨hm1,hm2,hm3⟩:=hm
     rw [oR h] at hgo
     refine qX ?_
     refine qB (fun h2=>?_) fun h2=>?_
     ·rw [rQ (by omega)] at hgo
      refine qX ?_
      refine sR hN (k+1,⟨g.own,g.laid,g.acc++[p.list[k]]⟩) (qI 0 6++qI 9 1) (by (try dsimp only);exact⟨by omega,vz hI hm1,hgo⟩) ?_
      first|exact⟨⟩|simp [PieceD.cs]
     refine qX ?_
     refine qB (fun h3=>?_) fun h3=>?_
     ·rw [rR (by omega) (by omega)] at hgo
      cases hgl:g.laid with
      |true=>
       rw [hgl,if_pos rfl] at hgo
       try simp (disch:=omega) only [go_sem,seval,hgl]
       refine sR hN (k+1,⟨g.own,true,g.acc++[p.list[k]]⟩) (qI 0 6++qI 9 1) (by (try dsimp only);exact⟨by omega,ul hI hgl hm1,hgo⟩) ?_
       first|exact⟨⟩|simp [PieceD.cs]
      |false=>
       rw [hgl,if_neg (by simp)] at hgo
       try simp (disch:=omega) only [go_sem,seval,hgl]
       refine sR hN (k+1,⟨g.own,true,g.acc++[g.own]++[p.list[k]]⟩) (qI 0 6++qI 11 1) (by (try dsimp only);exact⟨by omega,um hI (by omega) hgl hm1,hgo⟩) ?_
       first|exact⟨⟩|simp [PieceD.cs]
     rw [rS (by omega) (by omega)] at hgo
     refine qX ?_
     refine qK (fb p.list[k] g.own (by omega) (by omega) (by omega) (by omega) (by omega) (by omega)) [] ?_
     refine sR hN (k+1,⟨fh p.list[k] g.own,g.laid,g.acc⟩) (qI 0 7) (by (try dsimp only);exact⟨by omega,y0 hI hm1 hm2 hm3,hgo⟩) ?_
     first|exact⟨⟩|simp [PieceD.cs]
    have hkl:k=p.list.length:=by omega
    rw [rT (by omega)] at hgo
    subst hgo
    obtain⟨y,r,hyr,hyt,hyl⟩:=mQ hI (by omega)
    rw [rU hG hyr]
    have hyr':=hyr
    rw [iN] at hyr'
    cases hgl:g.laid with
    |true=>
     rw [hgl,if_pos rfl] at hyr'
     rw [hyr']
     try simp (disch:=omega) only [go_sem,seval,hgl,List.map_cons]
     refine qX ?_
     refine qB (fun h5=>?_) fun h5=>?_
     ·refine qD [0,1,2,3,4,5,6,7,8,9] ?_
      refine⟨qC,ac 400 ?_⟩
      have hE1:= @lI p y r h5
      refine qX ?_
      refine qK (a2 ⟨p.read,p.ready++y.text,r⟩ (by simp at hyl⊢;omega)) [some (6,some 1)] ?_
      refine qB (fun h6=>?_) fun h6=>?_
      ·rw [fv (by rw [hE1];exact h6)]
       refine qX ?_
       refine qK (lq p hs.list) (qI 0 1) ?_
       exact qF (qI 0 1++qI 7 1)
      rw [fw (by rw [hE1];exact h6),hE1]
      refine qX ?_
      refine qK (lq ⟨p.read,p.ready++y.text,r⟩ (by simp at hyl⊢;omega)) [some (6,some 1)] ?_
      refine qP (qI 0 1++qI 7 1) ?_
      first|exact⟨⟩|simp
     have hE1:= @lJ p y r h5
     refine qX ?_
     refine qK (a2 ⟨p.read,p.ready,y::r⟩ (by simp at hyl⊢;omega)) (qI 6 1) ?_
     refine qB (fun h6=>?_) fun h6=>?_
     ·rw [fv (by rw [hE1];exact h6)]
      refine qX ?_
      refine qK (lq p hs.list) (qI 0 1) ?_
      exact qF (qI 0 1++qI 7 1)
     rw [fw (by rw [hE1];exact h6),hE1]
     refine qX ?_
     refine qK (lq ⟨p.read,p.ready,y::r⟩ (by simp at hyl⊢;omega)) (qI 6 1) ?_
     refine qP (qI 0 1++qI 7 1) ?_
     first|exact⟨⟩|simp
    |false=>
     rw [hgl,if_neg (by simp)] at hyr'
     have e1:g.acc.map PieceD.cs++[g.own.cs]=PieceD.cs y::r.map PieceD.cs:=by rw [<-List.map_cons,<-hyr'];simp
     have e2:g.acc.length+1=r.length+1:=by have:=congrArg List.length hyr';simpa using this
     simp only [PieceD.cs] at e1
     try simp (disch:=omega) only [go_sem,seval,hgl,e1,e2]
     refine qX ?_
     refine qB (fun h5=>?_) fun h5=>?_
     ·refine qD [0,1,2,3,4,5,6,7,8,9] ?_
      refine⟨qC,ac 400 ?_⟩
      have hE1:= @lI p y r h5
      refine qX ?_
      refine qK (a2 ⟨p.read,p.ready++y.text,r⟩ (by simp at hyl⊢;omega)) [some (8,some 1)] ?_
      refine qB (fun h6=>?_) fun h6=>?_
      ·rw [fv (by rw [hE1];exact h6)]
       refine qX ?_
       refine qK (lq p hs.list) (qI 0 1) ?_
       exact qF (qI 0 1++qI 9 1)
      rw [fw (by rw [hE1];exact h6),hE1]
      refine qX ?_
      refine qK (lq ⟨p.read,p.ready++y.text,r⟩ (by simp at hyl⊢;omega)) [some (8,some 1)] ?_
      refine qP (qI 0 1++qI 9 1) ?_
      first|exact⟨⟩|simp
     have hE1:= @lJ p y r h5
     refine qX ?_
     refine qK (a2 ⟨p.read,p.ready,y::r⟩ (by simp at hyl⊢;omega)) (qI 8 1) ?_
     refine qB (fun h6=>?_) fun h6=>?_
     ·rw [fv (by rw [hE1];exact h6)]
      refine qX ?_
      refine qK (lq p hs.list) (qI 0 1) ?_
      exact qF (qI 0 1++qI 9 1)
     rw [fw (by rw [hE1];exact h6),hE1]
     refine qX ?_
     refine qK (lq ⟨p.read,p.ready,y::r⟩ (by simp at hyl⊢;omega)) (qI 8 1) ?_
     refine qP (qI 0 1++qI 9 1) ?_
     first|exact⟨⟩|simp
   rw [hnew hok1 (by omega)]
   have hz:(t == [])=false:=by cases t<;>simp_all
   have hI0:PpI 0 ⟨⟨n,t⟩,false,[]⟩:=mP (by omega) (by omega) (by omega)
   try simp (disch:=omega) only [go_sem,seval,hz]
   obtain⟨G,hG⟩:∃ G,mO ⟨⟨n,t⟩,false,[]⟩ p.list=G:=⟨_,rfl⟩
   refine jx 1 hE (fun s (x:Nat×PpS)=>s.at (qU [0,3,12,45,60,47]) [(59,.sc (.int .i64 (x.1:Nat))),(10,.sc (.bo x.2.laid))] ([some ⟨p.list.map PieceD.cs,2,150,false,true⟩,some ⟨[p.cs 0],3,35,true,false⟩,some ⟨[[.int .i64 0,.st [],.nil]],3,35,true,false⟩,some ⟨[[.int .i64 n]],1,3,true,true⟩,some ⟨[[.int .i64 p.read,.st p.ready,.sl 6 0 x.2.acc.length]],3,35,true,false⟩,some ⟨[x.2.own.cs],2,150,true,false⟩,some ⟨x.2.acc.map PieceD.cs,2,150,true,true⟩])) (fun (x:Nat×PpS)=>x.1<=p.list.length/\PpI x.1 x.2/\mO x.2 (p.list.drop x.1)=G) (fun (x:Nat×PpS)=>p.list.length - x.1) (0,⟨⟨n,t⟩,false,[]⟩) (qI 0 6++qO 1) (⟨Nat.zero_le _,hI0,hG⟩) fun x hx N hN=>?_
   obtain⟨k,g⟩:=x
   obtain⟨hk1,hI,hgo⟩:=hx
   dsimp only at hk1 hI hgo
   have hIo:=hI.own
   have hIp:=hI.pos
   have hIa:=hI.acc
   have hac:g.acc.length<=100:=by split at hIa<;>omega
   refine qR ?_
   refine qB (fun h=>?_) fun h=>?_
   ·have hm:=hF.texts p.list[k] (List.getElem_mem h)
    obtain⟨hm1,hm2,hm3⟩:=hm
    rw [oR h] at hgo
    refine qX ?_
    refine qB (fun h2=>?_) fun h2=>?_
    ·rw [rQ (by omega)] at hgo
     refine qX ?_
     refine sR hN (k+1,⟨g.own,g.laid,g.acc++[p.list[k]]⟩) (qI 0 6++qI 9 1) (by (try dsimp only);exact⟨by omega,vz hI hm1,hgo⟩) ?_
     first|exact⟨⟩|simp [PieceD.cs]
    refine qX ?_
    refine qB (fun h3=>?_) fun h3=>?_
    ·rw [rR (by omega) (by omega)] at hgo
     cases hgl:g.laid with
     |true=>
      rw [hgl,if_pos rfl] at hgo
      try simp (disch:=omega) only [go_sem,seval,hgl]
      refine sR hN (k+1,⟨g.own,true,g.acc++[p.list[k]]⟩) (qI 0 6++qI 9 1) (by (try dsimp only);exact⟨by omega,ul hI hgl hm1,hgo⟩) ?_
      first|exact⟨⟩|simp [PieceD.cs]
     |false=>
      rw [hgl,if_neg (by simp)] at hgo
      try simp (disch:=omega) only [go_sem,seval,hgl]
      refine sR hN (k+1,⟨g.own,true,g.acc++[g.own]++[p.list[k]]⟩) (qI 0 6++qI 11 1) (by (try dsimp only);exact⟨by omega,um hI (by omega) hgl hm1,hgo⟩) ?_
      first|exact⟨⟩|simp [PieceD.cs]
    rw [rS (by omega) (by omega)] at hgo
    refine qX ?_
    refine qK (fb p.list[k] g.own (by omega) (by omega) (by omega) (by omega) (by omega) (by omega)) [] ?_
    refine sR hN (k+1,⟨fh p.list[k] g.own,g.laid,g.acc⟩) (qI 0 7) (by (try dsimp only);exact⟨by omega,y0 hI hm1 hm2 hm3,hgo⟩) ?_
    first|exact⟨⟩|simp [PieceD.cs]
   have hkl:k=p.list.length:=by omega
   rw [rT (by omega)] at hgo
   subst hgo
   obtain⟨y,r,hyr,hyt,hyl⟩:=mQ hI (by omega)
   rw [rU hG hyr]
   have hyr':=hyr
   rw [iN] at hyr'
   cases hgl:g.laid with
   |true=>
    rw [hgl,if_pos rfl] at hyr'
    rw [hyr']
    try simp (disch:=omega) only [go_sem,seval,hgl,List.map_cons]
    refine qX ?_
    refine qB (fun h5=>?_) fun h5=>?_
    ·refine qD [0,1,2,3,4,5,6,7,8,9] ?_
     refine⟨qC,ac 400 ?_⟩
     have hE1:= @lI p y r h5
     refine qX ?_
     refine qK (a2 ⟨p.read,p.ready++y.text,r⟩ (by simp at hyl⊢;omega)) [some (6,some 1)] ?_
     refine qB (fun h6=>?_) fun h6=>?_
     ·rw [fv (by rw [hE1];exact h6)]
      refine qX ?_
      refine qK (lq p hs.list) (qI 0 1) ?_
      exact qF (qI 0 1++qI 7 1)
     rw [fw (by rw [hE1];exact h6),hE1]
     refine qX ?_
     refine qK (lq ⟨p.read,p.ready++y.text,r⟩ (by simp at hyl⊢;omega)) [some (6,some 1)] ?_
     refine qP (qI 0 1++qI 7 1) ?_
     first|exact⟨⟩|simp
    have hE1:= @lJ p y r h5
    refine qX ?_
    refine qK (a2 ⟨p.read,p.ready,y::r⟩ (by simp at hyl⊢;omega)) (qI 6 1) ?_
    refine qB (fun h6=>?_) fun h6=>?_
    ·rw [fv (by rw [hE1];exact h6)]
     refine qX ?_
     refine qK (lq p hs.list) (qI 0 1) ?_
     exact qF (qI 0 1++qI 7 1)
    rw [fw (by rw [hE1];exact h6),hE1]
    refine qX ?_
    refine qK (lq ⟨p.read,p.ready,y::r⟩ (by simp at hyl⊢;omega)) (qI 6 1) ?_
    refine qP (qI 0 1++qI 7 1) ?_
    first|exact⟨⟩|simp
   |false=>
    rw [hgl,if_neg (by simp)] at hyr'
    have e1:g.acc.map PieceD.cs++[g.own.cs]=PieceD.cs y::r.map PieceD.cs:=by rw [<-List.map_cons,<-hyr'];simp
    have e2:g.acc.length+1=r.length+1:=by have:=congrArg List.length hyr';simpa using this
    simp only [PieceD.cs] at e1
    try simp (disch:=omega) only [go_sem,seval,hgl,e1,e2]
    refine qX ?_
    refine qB (fun h5=>?_) fun h5=>?_
    ·refine qD [0,1,2,3,4,5,6,7,8,9] ?_
     refine⟨qC,ac 400 ?_⟩
     have hE1:= @lI p y r h5
     refine qX ?_
     refine qK (a2 ⟨p.read,p.ready++y.text,r⟩ (by simp at hyl⊢;omega)) [some (8,some 1)] ?_
     refine qB (fun h6=>?_) fun h6=>?_
     ·rw [fv (by rw [hE1];exact h6)]
      refine qX ?_
      refine qK (lq p hs.list) (qI 0 1) ?_
      exact qF (qI 0 1++qI 9 1)
     rw [fw (by rw [hE1];exact h6),hE1]
     refine qX ?_
     refine qK (lq ⟨p.read,p.ready++y.text,r⟩ (by simp at hyl⊢;omega)) [some (8,some 1)] ?_
     refine qP (qI 0 1++qI 9 1) ?_
     first|exact⟨⟩|simp
    have hE1:= @lJ p y r h5
    refine qX ?_
    refine qK (a2 ⟨p.read,p.ready,y::r⟩ (by simp at hyl⊢;omega)) (qI 8 1) ?_
    refine qB (fun h6=>?_) fun h6=>?_
    ·rw [fv (by rw [hE1];exact h6)]
     refine qX ?_
     refine qK (lq p hs.list) (qI 0 1) ?_
     exact qF (qI 0 1++qI 9 1)
    rw [fw (by rw [hE1];exact h6),hE1]
    refine qX ?_
    refine qK (lq ⟨p.read,p.ready,y::r⟩ (by simp at hyl⊢;omega)) (qI 8 1) ?_
    refine qP (qI 0 1++qI 9 1) ?_
    first|exact⟨⟩|simp
  rw [hf (by rw [hok];simp [h2])]
  refine qX ?_
  refine qK (lq p hs.list) (qI 0 1) ?_
  exact qF (qI 0 1++qI 4 1)
 rw [hf (by rw [hok];simp [h1])]
 refine qX ?_
 refine qK (lq p hs.list) (qI 0 1) ?_
 exact qF (qI 0 1++qI 3 1)
theorem l0 (e:EndD) (x:LetterD) (hs:Small e) (hsp:SmallP e.inp):aP 134 [.ag (e.cs 0),.ag x.cs] (e.hp false) (.tu [.ag ((bF e x).1.cs 7),.sc (.sl 14 0 (bF e x).2.length)])
  (e.hp false++((bF e x).1.hp true++[some ⟨(bF e x).2.map LetterD.cs,19,48,true,true⟩])):=by
 have hC:=(qH (jF e))
 have hK:=(qH (ap e))
 have hS:=a6 e x (by have:=hs.subs;omega)
 have hL:=a1 x
 have hbs:=rp e x
 have hP:=lT e.inp x.pos x.text hsp
 have hbd:=f9 e x
 have hf:=uo (e:=e) (x:=x)
 have ht:=fun (n:Nat)=> @uq e x n
 have hok:=qb.eq_1 e x
 have hql:(rX e x).list.length<=1048576:=kX (by have:=hs.list;omega)
 rw [show bs e.inp x.pos x.text=rX e x from rfl] at hP
 generalize rX e x=Q at*
 generalize bF e x=R at*
 refine qE Tryz.func134 Tryz.ntmps134 Tryz.results134 fun E hE=>?_
 refine qK (hC) (qI 0 7) ?_
 refine qK (hS) (qI 0 7) ?_
 rcases hbs with hk|⟨hk0,hk1⟩
 ·rw [hk]
  refine qX ?_
  refine qK (hK) (qI 0 7) ?_
  refine qB (fun h1=>?_) fun h1=>?_
  ·refine qK (hL) [] ?_
   refine qB (fun h2=>?_) fun h2=>?_
   ·rw [hf (by rw [hok];have:=a3 (e:=e) (x:=x) (by rintro⟨_,_,hh⟩;omega);simp;omega)]
    refine qX ?_
    exact qF (qI 0 7++qI 10 7++qO 1)
   rw [hf (by rw [hok];have:=a3 (e:=e) (x:=x) (by rintro⟨_,hh,_⟩;rw [h2] at hh;cases hh);simp;omega)]
   refine qX ?_
   exact qF (qI 0 7++qI 10 7++qO 1)
  rw [hf (by rw [hok];have:=a3 (e:=e) (x:=x) (by rintro⟨hh,_⟩;rw [h1] at hh;cases hh);simp;omega)]
  refine qX ?_
  exact qF (qI 0 7++qI 10 7++qO 1)
 obtain⟨n,hk⟩:=Int.eq_ofNat_of_zero_le hk0
 have hn:n < e.subs.length:=by omega
 rw [hk]
 refine qX ?_
 refine qK (hK) (qI 0 7) ?_
 refine qB (fun h1=>?_) fun h1=>?_
 ·refine qK (hL) [] ?_
  refine qB (fun h2=>?_) fun h2=>?_
  ·have hon:=ds h1 h2 hk
   have hq1:=h1
   refine qX ?_
   refine qK (hP) (qI 4 1) ?_
   refine qK (c0 Q) (qI 18 1) ?_
   refine qB (fun h7=>?_) fun h7=>?_
   ·rw [hf (by rw [hok];simp;omega)]
    refine qX ?_
    exact qF (qI 0 7++qI 10 7++qO 1)
   rw [ht _ (by rw [hok];simp [hon];omega) hon hn]
   refine qX ?_
   refine aO [(13,14)] [(qU [0,2,3,7,2,1,10,6]),[0,1,3,4,5,6,7,8,9,2,10,11,12,14,13,15]] (by kernel_rfl) (qC) (by kernel_rfl) ?_
   simp only [bm]
   refine⟨aa 400 ?_,aa 400 ?_⟩
   all_goals simp (disch:=omega) only [go_sem,seval]
   all_goals
    refine aQ (a5 x) [] ?_
    refine aQ (c0 Q) (qI 18 1) ?_
    refine aQ (a0 (roadOf x) { ah with kind:=12,sgn:=e.subs[n].give,pos:=nextOf Q }) [] ?_
    refine qG ?_
    refine qP (qI 0 7++qI 10 4++qI 18 1++qI 15 2++qI 20 1) ?_
    first|exact⟨⟩|simp [vA,aq,LetterD.cs]
  rw [hf (by rw [hok];have:=a3 (e:=e) (x:=x) (by rintro⟨_,hh,_⟩;rw [h2] at hh;cases hh);simp;omega)]
  refine qX ?_
  exact qF (qI 0 7++qI 10 7++qO 1)
 rw [hf (by rw [hok];have:=a3 (e:=e) (x:=x) (by rintro⟨hh,_⟩;rw [h1] at hh;cases hh);simp;omega)]
 refine qX ?_
 exact qF (qI 0 7++qI 10 7++qO 1)
end
end Go.Proofs.YtjghbknhneffjaaGreat
