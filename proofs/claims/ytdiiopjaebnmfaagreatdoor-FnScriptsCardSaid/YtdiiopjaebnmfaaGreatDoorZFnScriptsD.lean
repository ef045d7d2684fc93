/- Lemmas of this claim. -/
import Derived.Test.YtdiiopjaebnmfaaGreatDoorZFnScriptsC
set_option maxHeartbeats 16000000
set_option maxRecDepth 100000
set_option linter.unusedVariables false
set_option linter.unusedSimpArgs false
namespace Go.Proofs.YtdiiopjaebnmfaaGreatDoor
open _root_.Go.Proofs.Tryz
open _root_.Nat renaming zero_le->Ru,le_refl->RH
open _root_.Bool renaming and_eq_true->Rv,and_true->RB
open _root_.Int renaming eq_ofNat_of_zero_le->Rw
open _root_.List renaming take_of_length_le->Rx,map_cons->Ry,length_take->Rz,all_cons->RA,all_nil->RC,append_assoc->RD,getElem_mem->RE,map_append->RF,map_set->RG
section
open Go.RowKit
theorem tQ (l:List UInt8) (hln:l.length<=1073741000):aP 29 [.sc (.st l)] [] (.sc (.sl 0 0 (eU 10 l).length)) [some ⟨(eU 10 l).map aM,1,9,true,true⟩]:=by
 refine qE func29 ntmps29 results29 fun E hE=>?_
 refine kw 0 hE (fun s (x:Nat×Nat×List (List UInt8))=>s.at (qU [6,25]) [(5,.sc (.int .i64 (x.1:Nat))),(4,.sc (.int .i64 (x.2.1:Nat))),(3,.sc (.sl 0 0 x.2.2.length))] ([some ⟨x.2.2.map aM,1,9,true,true⟩])) (fun (x:Nat×Nat×List (List UInt8))=>x.2.2.length<=x.1/\((x.1<=l.length/\x.2.1<=x.1/\dU 10 x.2.2 ((l.take x.1).drop x.2.1) (l.drop x.1)=eU 10 l)\/(x.1=l.length+1/\x.2.2=eU 10 l))) (fun (x:Nat×Nat×List (List UInt8))=>l.length+1 - x.1) (0,0,[]) [none] (⟨Ru _,.inl ⟨Ru _,RH _,rfl⟩⟩) fun x hx N hN=>?_
 obtain⟨k,fr,acc⟩:=x
 obtain⟨hn,hx⟩:=hx
 dsimp only at hn hx
 refine qR ?_
 refine qB (fun h=>?_) fun h=>?_
 ·obtain⟨hk,hfr,hx⟩:k<=l.length/\fr<=k/\dU 10 acc ((l.take k).drop fr) (l.drop k)=eU 10 l:=by
   rcases hx with hx|hx
   ·exact hx
   omega
  refine qB (fun h2=>?_) fun h2=>?_
  ·have h':k < l.length:=zO
   rw [u_ h'] at hx
   try simp (disch:=omega) only [go_sem,seval,fW _ h']
   refine qB (fun h3=>?_) fun h3=>?_
   ·have h4:l[k]=10:=UInt8.toNat_inj.1 (by show l[k].toNat=10;omega)
    rw [if_pos h4] at hx
    refine qX ?_
    refine⟨qC,hN _ (k+1,k+1,acc++[(l.take k).drop fr]) (qI 2 1) (by (try dsimp only);exact⟨by simp;omega,.inl ⟨zO,RH _,by simpa using hx⟩⟩) (by (try dsimp only);omega) (ay zF zF ?_)⟩
    refine qX ?_
    simp [aM]
   have h4:l[k]≠10:=fun e=>by rw [e] at h3;exact h3 rfl
   rw [if_neg h4,<-gH h' hfr] at hx
   refine qX ?_
   exact qN hN (k+1,fr,acc) (qI 0 1) (by (try dsimp only);exact⟨zO,.inl ⟨zO,zO,hx⟩⟩)
  have h':k=l.length:=zO
  subst h'
  rw [List.drop_length,dU] at hx
  refine qX ?_
  refine⟨qC,hN _ (l.length+1,l.length+1,acc++[(l.take l.length).drop fr]) (qI 2 1) (by (try dsimp only);exact⟨by simp;omega,.inr ⟨rfl,hx⟩⟩) (by (try dsimp only);omega) (ay zF zF ?_)⟩
  refine qX ?_
  simp [aM]
 obtain⟨hk,hx⟩:k=l.length+1/\acc=eU 10 l:=by
  rcases hx with hx|hx
  ·omega
  exact hx
 subst hx
 exact qF (qI 0 1)
theorem qb (e:EndD) (x:LetterD) (hs:Small e):aP 196 [.ag (e.cs 0),.ag x.cs] (e.hp false) (.tu [.ag ((aF e x).1.cs 7),.sc (.sl 14 0 (aF e x).2.length)])
  (e.hp false++((aF e x).1.hp true++[some ⟨(aF e x).2.map LetterD.cs,19,36,true,true⟩])):=by
 have hC:=(qH (aB e))
 have hK:=(qH (bb e))
 have hS:=eX e (roadOf x) (by have:=hs.subs;omega)
 have hH:=iP e.halfs (roadOf x) (by have:=hs.halfs;omega)
 have hD:=xK e.halfs (roadOf x) (by have:=hs.halfs;omega)
 have hL:=bw x
 have hbS:=jH e.subs (roadOf x)
 have hbH:=nj e.halfs (roadOf x)
 have hf:=Ok (e:=e) (x:=x)
 have hf2:=J9 (e:=e) (x:=x)
 have hb:=fun n=> @P0 e x n
 have ha1:=fun i n=> @NH e x i n
 have ha2:=fun i=> @NI e x i
 generalize aF e x=R at*
 refine qE func196 ntmps196 results196 fun E hE=>?_
 refine qK (hC) (qI 0 7) ?_
 refine qK (hK) (qI 0 7) ?_
 refine qB (fun h1=>?_) fun h1=>?_
 ·refine qK (hL) [] ?_
  refine qB (fun h2=>?_) fun h2=>?_
  ·refine qB (fun h3=>?_) fun h3=>?_
   ·rw [hf (by simp [pZ,h1,h2,h3])]
    refine qX ?_
    exact qF (qI 0 7++qI 10 7++qO 1)
   have hin:pZ e x=true:=by simp [pZ,h1,h2,h3]
   refine qX ?_
   refine qK (dN x) [] ?_
   refine qK (hH) (qI 3 1) ?_
   refine qK (hS) (qI 0 7) ?_
   rcases hbS with hk|⟨hk0,hk1⟩
   ·rcases hbH with hi|⟨hi0,hi1⟩
    ·rw [hi]
     rw [hk]
     refine qX ?_
     refine qD [0,1,2,3,4,5,6,7,8,9,10,11,12,13,14,15,16,17,18,19,20,21,22,23,24,25,26,27,28,29] ?_
     refine qG ?_
     rw [hf2 hin (J_ hi) (EE hk)]
     refine qD [0,1,2,3,4,5,6,7,8,9,10,11,12,13,14,15,16,17,18,19,20,21,22,23,24,25,26,27,28,29,30,31,32] ?_
     refine qG ?_
     exact qF (qI 0 7++qI 10 7++qO 1)
    obtain⟨i,hi⟩:=Rw hi0
    have hil:i < e.halfs.length:=zO
    have hcmp:=TagD.cmp x.tag ⟨2,e.peer,e.key,e.halfs[i].theirs,e.halfs[i].mine⟩
    simp only [TagD.cs,go_sem] at hcmp
    rw [hi]
    rw [hk]
    refine qX ?_
    refine qD [0,1,2,3,4,5,6,7,8,9,10,11,12,13,14,15,16,17,18,19,20,21,22,23,24,25,26,27,28,29] ?_
    refine qB (fun h4=>?_) fun h4=>?_
    ·refine b_ (fM _ _ _ _) [] ?_
     refine⟨qC,aa 400 ?_⟩
     try simp (disch:=omega) only [go_sem,seval,hcmp]
     refine qB (fun h5=>?_) fun h5=>?_
     ·have hjA:tZ e x=true:=by rw [rU hi hil];simp [h4,h5];try omega
      rw [ha2 _ hin hjA hi hil hk]
      refine qX ?_
      refine qK (hD) (qI 3 1) ?_
      refine qD [0,1,2,3,4,5,6] ?_
      refine b_ (fC (roadOf x) e.halfs[i].give) [] ?_
      refine qG ?_
      refine qP (qI 0 7++qI 10 2++qI 21 2++qI 14 3++qI 23 1) ?_
      first|exact⟨⟩|simp [RG,SubD.cs,gS]
     have hjA':tZ e x=false:=by rw [rU hi hil];simp [h5]
     refine qX ?_
     rw [hf2 hin (hjA') (EE hk)]
     refine qD [0,1,2,3,4,5,6,7,8,9,10,11,12,13,14,15,16,17,18,19,20,21,22,23,24,25,26,27,28,29,30,31,32] ?_
     refine qG ?_
     exact qF (qI 0 7++qI 10 7++qO 1)
    have hjA':tZ e x=false:=by rw [rU hi hil];simp;omega
    refine qG ?_
    rw [hf2 hin (hjA') (EE hk)]
    refine qD [0,1,2,3,4,5,6,7,8,9,10,11,12,13,14,15,16,17,18,19,20,21,22,23,24,25,26,27,28,29,30,31,32] ?_
    refine qG ?_
    exact qF (qI 0 7++qI 10 7++qO 1)
   obtain⟨n,hk⟩:=Rw hk0
   have hn:n < e.subs.length:=zO
   have hrd:=ED hk hn
   rcases hbH with hi|⟨hi0,hi1⟩
   ·rw [hi]
    rw [hk]
    refine qX ?_
    refine qD [0,1,2,3,4,5,6,7,8,9,10,11,12,13,14,15,16,17,18,19,20,21,22,23,24,25,26,27,28,29] ?_
    refine qG ?_
    have hcmp2:=TagD.cmp x.tag ⟨2,e.peer,e.key,e.subs[n].theirs,e.subs[n].mine⟩
    simp only [TagD.cs,go_sem] at hcmp2
    have hjA:=J_ hi
    refine qD [0,1,2,3,4,5,6,7,8,9,10,11,12,13,14,15,16,17,18,19,20,21,22,23,24,25,26,27,28,29,30,31,32] ?_
    refine qB (fun h6=>?_) fun h6=>?_
    ·refine b_ (fM _ _ _ _) [] ?_
     refine⟨qC,aa 400 ?_⟩
     try simp (disch:=omega) only [go_sem,seval,hcmp2]
     refine qB (fun h7=>?_) fun h7=>?_
     ·rw [hb _ hin hjA (by rw [ll hk hn];simp [h6,h7]) hk hn]
      refine qX ?_
      refine qD [0,1,2,3,4,5,6,7,8,9,10] ?_
      refine b_ (fC (roadOf x) e.subs[n].give) [] ?_
      refine qG ?_
      refine qP (qI 0 7++qI 10 7++qI 19 1) ?_
      first|exact⟨⟩|simp
     rw [hf2 hin hjA (by rw [ll hk hn];simp [h6,h7])]
     refine qX ?_
     exact qF (qI 0 7++qI 10 7++qO 1)
    rw [hf2 hin hjA (by rw [ll hk hn];simp [h6])]
    refine qG ?_
    exact qF (qI 0 7++qI 10 7++qO 1)
   obtain⟨i,hi⟩:=Rw hi0
   have hil:i < e.halfs.length:=zO
   have hcmp:=TagD.cmp x.tag ⟨2,e.peer,e.key,e.halfs[i].theirs,e.halfs[i].mine⟩
   simp only [TagD.cs,go_sem] at hcmp
   rw [hi]
   rw [hk]
   refine qX ?_
   refine qD [0,1,2,3,4,5,6,7,8,9,10,11,12,13,14,15,16,17,18,19,20,21,22,23,24,25,26,27,28,29] ?_
   refine qB (fun h4=>?_) fun h4=>?_
   ·refine b_ (fM _ _ _ _) [] ?_
    refine⟨qC,aa 400 ?_⟩
    try simp (disch:=omega) only [go_sem,seval,hcmp]
    refine qB (fun h5=>?_) fun h5=>?_
    ·have hjA:tZ e x=true:=by rw [rU hi hil];simp [h4,h5];try omega
     rw [ha1 _ _ hin hjA hi hil hk hn]
     refine qX ?_
     refine qK (hD) (qI 3 1) ?_
     refine qD [0,1,2,3,4,5,6] ?_
     refine b_ (fC (roadOf x) e.halfs[i].give) [] ?_
     refine qG ?_
     refine qP (qI 0 7++qI 10 2++qI 21 2++qI 14 3++qI 23 1) ?_
     first|exact⟨⟩|simp [RG,SubD.cs,gS]
    have hjA':tZ e x=false:=by rw [rU hi hil];simp [h5]
    refine qX ?_
    have hcmp2:=TagD.cmp x.tag ⟨2,e.peer,e.key,e.subs[n].theirs,e.subs[n].mine⟩
    simp only [TagD.cs,go_sem] at hcmp2
    have hjA:=hjA'
    refine qD [0,1,2,3,4,5,6,7,8,9,10,11,12,13,14,15,16,17,18,19,20,21,22,23,24,25,26,27,28,29,30,31,32] ?_
    refine qB (fun h6=>?_) fun h6=>?_
    ·refine b_ (fM _ _ _ _) [] ?_
     refine⟨qC,aa 400 ?_⟩
     try simp (disch:=omega) only [go_sem,seval,hcmp2]
     refine qB (fun h7=>?_) fun h7=>?_
     ·rw [hb _ hin hjA (by rw [ll hk hn];simp [h6,h7]) hk hn]
      refine qX ?_
      refine qD [0,1,2,3,4,5,6,7,8,9,10] ?_
      refine b_ (fC (roadOf x) e.subs[n].give) [] ?_
      refine qG ?_
      refine qP (qI 0 7++qI 10 7++qI 19 1) ?_
      first|exact⟨⟩|simp
     rw [hf2 hin hjA (by rw [ll hk hn];simp [h6,h7])]
     refine qX ?_
     exact qF (qI 0 7++qI 10 7++qO 1)
    rw [hf2 hin hjA (by rw [ll hk hn];simp [h6])]
    refine qG ?_
    exact qF (qI 0 7++qI 10 7++qO 1)
   have hjA':tZ e x=false:=by rw [rU hi hil];simp;omega
   refine qG ?_
   have hcmp2:=TagD.cmp x.tag ⟨2,e.peer,e.key,e.subs[n].theirs,e.subs[n].mine⟩
   simp only [TagD.cs,go_sem] at hcmp2
   have hjA:=hjA'
   refine qD [0,1,2,3,4,5,6,7,8,9,10,11,12,13,14,15,16,17,18,19,20,21,22,23,24,25,26,27,28,29,30,31,32] ?_
   refine qB (fun h6=>?_) fun h6=>?_
   ·refine b_ (fM _ _ _ _) [] ?_
    refine⟨qC,aa 400 ?_⟩
    try simp (disch:=omega) only [go_sem,seval,hcmp2]
    refine qB (fun h7=>?_) fun h7=>?_
    ·rw [hb _ hin hjA (by rw [ll hk hn];simp [h6,h7]) hk hn]
     refine qX ?_
     refine qD [0,1,2,3,4,5,6,7,8,9,10] ?_
     refine b_ (fC (roadOf x) e.subs[n].give) [] ?_
     refine qG ?_
     refine qP (qI 0 7++qI 10 7++qI 19 1) ?_
     first|exact⟨⟩|simp
    rw [hf2 hin hjA (by rw [ll hk hn];simp [h6,h7])]
    refine qX ?_
    exact qF (qI 0 7++qI 10 7++qO 1)
   rw [hf2 hin hjA (by rw [ll hk hn];simp [h6])]
   refine qG ?_
   exact qF (qI 0 7++qI 10 7++qO 1)
  rw [hf (by simp [pZ,h2])]
  refine qX ?_
  exact qF (qI 0 7++qI 10 7++qO 1)
 rw [hf (by simp [pZ,h1])]
 refine qX ?_
 exact qF (qI 0 7++qI 10 7++qO 1)
theorem xQ (p:PiecesD) (n:Int) (t:List UInt8) (hs:SmallP p):aP 250 [.ag (p.cs 0),.sc (.int .i64 n),.sc (.st t)] (p.hp false) (.ag ((putPiece p n t).cs 1))
  (p.hp false++(putPiece p n t).hp true):=by
 have hO:=cD p hs.list
 have hN:=iO p
 have hf:=Q4 (p:=p) (n:=n) (t:=t)
 have hold:=Oo (p:=p) (n:=n) (t:=t)
 have hcut:=fun k=> @Oq p n t k
 have hnew:=Or (p:=p) (n:=n) (t:=t)
 have hok:=xP.eq_1 p n t
 generalize putPiece p n t=R at*
 refine qE func250 ntmps250 results250 fun E hE=>?_
 refine qK (hO) (qI 0 1) ?_
 refine qB (fun h1=>?_) fun h1=>?_
 ·refine qK (cm [n] zP) (qI 3 1) ?_
  simp only [RA,RC,RB]
  refine qX ?_
  refine qB (fun h2=>?_) fun h2=>?_
  ·refine qX ?_
   refine qK (aE (t.length:Int) 1 200) [] ?_
   refine qB (fun h3=>?_) fun h3=>?_
   ·rw [hf (by rw [hok];simp [h3])]
    refine qX ?_
    refine qK (aC p hs.list) (qI 0 1) ?_
    exact qF (qI 0 1++qI 4 1)
   have hok1:xP p n t=true:=by rw [hok];simp [h1,h2,h3]
   have hF:=cI h1 hs
   have hn1:=h2
   have hn3:=h3
   simp only [eg,dJ,Rv,decide_eq_true_eq] at hn1 hn3
   have hr0:=hF.r0
   have hr1:=hF.r1
   have hrl:=hF.list
   have hrr:=hF.ready
   have hnx:=hF.next
   refine qX ?_
   refine qK (hN) (qI 0 1) ?_
   refine qB (fun h4=>?_) fun h4=>?_
   ·obtain⟨m,hm⟩:=Rw (show 0<=nextOf p - n by omega)
    by_cases h7:t.length<=m
    ·rw [hold hok1 zO]
     have hmin:(if nextOf p - n < (t.length:Int) then nextOf p - n else (t.length:Int))=(t.length:Int):=by split<;>omega
     have hz:(t.drop t.length == [])=true:=by simp
     try simp (disch:=omega) only [go_sem,seval,hmin,hz]
     refine qX ?_
     refine qK (aC p hs.list) (qI 0 1) ?_
     exact qF (qI 0 1++qI 5 1)
    rw [hcut m hok1 hm zO zO]
    have hmin:(if nextOf p - n < (t.length:Int) then nextOf p - n else (t.length:Int))=(m:Int):=by split<;>omega
    have hz:(t.drop m == [])=false:=by simp;omega
    have hI0:PpI 0 ⟨⟨nextOf p,t.drop m⟩,false,[]⟩:=vJ zO zO zS
    try simp (disch:=omega) only [go_sem,seval,hmin,hz]
    obtain⟨G,hG⟩:∃ G,rZ ⟨⟨nextOf p,t.drop m⟩,false,[]⟩ p.list=G:=⟨_,rfl⟩
    refine kw 1 hE (fun s (x:Nat×PpS)=>s.at (qU [0,3,12,45,60,47]) [(59,.sc (.int .i64 (x.1:Nat))),(10,.sc (.bo x.2.laid))] ([some ⟨p.list.map PieceD.cs,2,223,false,true⟩,some ⟨[p.cs 0],3,51,true,false⟩,some ⟨[[.int .i64 0,.st [],.nil]],3,51,true,false⟩,some ⟨[[.int .i64 n]],1,3,true,true⟩,some ⟨[[.int .i64 p.read,.st p.ready,.sl 6 0 x.2.acc.length]],3,51,true,false⟩,some ⟨[x.2.own.cs],2,223,true,false⟩,some ⟨x.2.acc.map PieceD.cs,2,223,true,true⟩])) (fun (x:Nat×PpS)=>x.1<=p.list.length/\PpI x.1 x.2/\rZ x.2 (p.list.drop x.1)=G) (fun (x:Nat×PpS)=>p.list.length - x.1) (0,⟨⟨nextOf p,t.drop m⟩,false,[]⟩) (qI 0 6++qO 1) (⟨Ru _,hI0,hG⟩) fun x hx N hN=>?_
    obtain⟨k,g⟩:=x
    obtain⟨hk1,hI,hgo⟩:=hx
    dsimp only at hk1 hI hgo
    have hIo:=hI.own
    have hIp:=hI.pos
    have hIa:=hI.acc
    have hac:g.acc.length<=100:=by split at hIa<;>omega
    refine qR ?_
    refine qB (fun h=>?_) fun h=>?_
    ·have hm:=hF.texts p.list[k] (RE h)
     obtain⟨hm1,hm2,hm3⟩:=hm
     rw [yN h] at hgo
     refine qX ?_
     refine qB (fun h2=>?_) fun h2=>?_
     ·rw [Cn zO] at hgo
      refine qX ?_
      refine Bo hN (k+1,⟨g.own,g.laid,g.acc++[p.list[k]]⟩) (qI 0 6++qI 9 1) (by (try dsimp only);exact⟨zO,Gw hI hm1,hgo⟩) ?_
      first|exact⟨⟩|simp [PieceD.cs]
     refine qX ?_
     refine qB (fun h3=>?_) fun h3=>?_
     ·rw [Cp zO zO] at hgo
      cases hgl:g.laid with
      |true=>
       rw [hgl,if_pos rfl] at hgo
       try simp (disch:=omega) only [go_sem,seval,hgl]
       refine Bo hN (k+1,⟨g.own,true,g.acc++[p.list[k]]⟩) (qI 0 6++qI 9 1) (by (try dsimp only);exact⟨zO,EQ hI hgl hm1,hgo⟩) ?_
       first|exact⟨⟩|simp [PieceD.cs]
      |false=>
       rw [hgl,if_neg zP] at hgo
       try simp (disch:=omega) only [go_sem,seval,hgl]
       refine Bo hN (k+1,⟨g.own,true,g.acc++[g.own]++[p.list[k]]⟩) (qI 0 6++qI 11 1) (by (try dsimp only);exact⟨zO,ER hI zO hgl hm1,hgo⟩) ?_
       first|exact⟨⟩|simp [PieceD.cs]
     rw [Cq zO zO] at hgo
     refine qX ?_
     refine qK (tj p.list[k] g.own zO zO zO zO zO zO) [] ?_
     refine Bo hN (k+1,⟨ie p.list[k] g.own,g.laid,g.acc⟩) (qI 0 7) (by (try dsimp only);exact⟨zO,Ke hI hm1 hm2 hm3,hgo⟩) ?_
     first|exact⟨⟩|simp [PieceD.cs]
    have hkl:k=p.list.length:=zO
    rw [Cr zO] at hgo
    subst hgo
    obtain⟨y,r,hyr,hyt,hyl⟩:=vK hI zO
    rw [Cs hG hyr]
    have hyr':=hyr
    rw [kG] at hyr'
    cases hgl:g.laid with
    |true=>
     rw [hgl,if_pos rfl] at hyr'
     rw [hyr']
     try simp (disch:=omega) only [go_sem,seval,hgl,Ry]
     refine qX ?_
     refine qB (fun h5=>?_) fun h5=>?_
     ·refine qD [0,1,2,3,4,5,6,7,8,9] ?_
      refine⟨qC,aa 400 ?_⟩
      have hE1:= @uk p y r h5
      refine qX ?_
      refine qK (cD ⟨p.read,p.ready++y.text,r⟩ (by simp at hyl⊢;omega)) [some (6,some 1)] ?_
      refine qB (fun h6=>?_) fun h6=>?_
      ·rw [j5 (by rw [hE1];exact h6)]
       refine qX ?_
       refine qK (aC p hs.list) (qI 0 1) ?_
       exact qF (qI 0 1++qI 7 1)
      rw [j6 (by rw [hE1];exact h6),hE1]
      refine qX ?_
      refine qK (aC ⟨p.read,p.ready++y.text,r⟩ (by simp at hyl⊢;omega)) [some (6,some 1)] ?_
      refine qP (qI 0 1++qI 7 1) ?_
      first|exact⟨⟩|simp
     have hE1:= @ul p y r h5
     refine qX ?_
     refine qK (cD ⟨p.read,p.ready,y::r⟩ (by simp at hyl⊢;omega)) (qI 6 1) ?_
     refine qB (fun h6=>?_) fun h6=>?_
     ·rw [j5 (by rw [hE1];exact h6)]
      refine qX ?_
      refine qK (aC p hs.list) (qI 0 1) ?_
      exact qF (qI 0 1++qI 7 1)
     rw [j6 (by rw [hE1];exact h6),hE1]
     refine qX ?_
     refine qK (aC ⟨p.read,p.ready,y::r⟩ (by simp at hyl⊢;omega)) (qI 6 1) ?_
     refine qP (qI 0 1++qI 7 1) ?_
     first|exact⟨⟩|simp
    |false=>
     rw [hgl,if_neg zP] at hyr'
     have e1:g.acc.map PieceD.cs++[g.own.cs]=PieceD.cs y::r.map PieceD.cs:=by rw [<-Ry,<-hyr'];simp
     have e2:g.acc.length+1=r.length+1:=by have:=congrArg List.length hyr';simpa using this
     simp only [PieceD.cs] at e1
     try simp (disch:=omega) only [go_sem,seval,hgl,e1,e2]
     refine qX ?_
     refine qB (fun h5=>?_) fun h5=>?_
     ·refine qD [0,1,2,3,4,5,6,7,8,9] ?_
      refine⟨qC,aa 400 ?_⟩
      have hE1:= @uk p y r h5
      refine qX ?_
      refine qK (cD ⟨p.read,p.ready++y.text,r⟩ (by simp at hyl⊢;omega)) [some (8,some 1)] ?_
      refine qB (fun h6=>?_) fun h6=>?_
      ·rw [j5 (by rw [hE1];exact h6)]
       refine qX ?_
       refine qK (aC p hs.list) (qI 0 1) ?_
       exact qF (qI 0 1++qI 9 1)
      rw [j6 (by rw [hE1];exact h6),hE1]
      refine qX ?_
      refine qK (aC ⟨p.read,p.ready++y.text,r⟩ (by simp at hyl⊢;omega)) [some (8,some 1)] ?_
      refine qP (qI 0 1++qI 9 1) ?_
      first|exact⟨⟩|simp
     have hE1:= @ul p y r h5
     refine qX ?_
     refine qK (cD ⟨p.read,p.ready,y::r⟩ (by simp at hyl⊢;omega)) (qI 8 1) ?_
     refine qB (fun h6=>?_) fun h6=>?_
     ·rw [j5 (by rw [hE1];exact h6)]
      refine qX ?_
      refine qK (aC p hs.list) (qI 0 1) ?_
      exact qF (qI 0 1++qI 9 1)
     rw [j6 (by rw [hE1];exact h6),hE1]
     refine qX ?_
     refine qK (aC ⟨p.read,p.ready,y::r⟩ (by simp at hyl⊢;omega)) (qI 8 1) ?_
     refine qP (qI 0 1++qI 9 1) ?_
     first|exact⟨⟩|simp
   rw [hnew hok1 zO]
   have hz:(t == [])=false:=by cases t<;>simp_all
   have hI0:PpI 0 ⟨⟨n,t⟩,false,[]⟩:=vJ zO zO zO
   try simp (disch:=omega) only [go_sem,seval,hz]
   obtain⟨G,hG⟩:∃ G,rZ ⟨⟨n,t⟩,false,[]⟩ p.list=G:=⟨_,rfl⟩
   refine kw 1 hE (fun s (x:Nat×PpS)=>s.at (qU [0,3,12,45,60,47]) [(59,.sc (.int .i64 (x.1:Nat))),(10,.sc (.bo x.2.laid))] ([some ⟨p.list.map PieceD.cs,2,223,false,true⟩,some ⟨[p.cs 0],3,51,true,false⟩,some ⟨[[.int .i64 0,.st [],.nil]],3,51,true,false⟩,some ⟨[[.int .i64 n]],1,3,true,true⟩,some ⟨[[.int .i64 p.read,.st p.ready,.sl 6 0 x.2.acc.length]],3,51,true,false⟩,some ⟨[x.2.own.cs],2,223,true,false⟩,some ⟨x.2.acc.map PieceD.cs,2,223,true,true⟩])) (fun (x:Nat×PpS)=>x.1<=p.list.length/\PpI x.1 x.2/\rZ x.2 (p.list.drop x.1)=G) (fun (x:Nat×PpS)=>p.list.length - x.1) (0,⟨⟨n,t⟩,false,[]⟩) (qI 0 6++qO 1) (⟨Ru _,hI0,hG⟩) fun x hx N hN=>?_
   obtain⟨k,g⟩:=x
   obtain⟨hk1,hI,hgo⟩:=hx
   dsimp only at hk1 hI hgo
   have hIo:=hI.own
   have hIp:=hI.pos
   have hIa:=hI.acc
   have hac:g.acc.length<=100:=by split at hIa<;>omega
   refine qR ?_
   refine qB (fun h=>?_) fun h=>?_
   ·have hm:=hF.texts p.list[k] (RE h)
    obtain⟨hm1,hm2,hm3⟩:=hm
    rw [yN h] at hgo
    refine qX ?_
    refine qB (fun h2=>?_) fun h2=>?_
    ·rw [Cn zO] at hgo
     refine qX ?_
     refine Bo hN (k+1,⟨g.own,g.laid,g.acc++[p.list[k]]⟩) (qI 0 6++qI 9 1) (by (try dsimp only);exact⟨zO,Gw hI hm1,hgo⟩) ?_
     first|exact⟨⟩|simp [PieceD.cs]
    refine qX ?_
    refine qB (fun h3=>?_) fun h3=>?_
    ·rw [Cp zO zO] at hgo
     cases hgl:g.laid with
     |true=>
      rw [hgl,if_pos rfl] at hgo
      try simp (disch:=omega) only [go_sem,seval,hgl]
      refine Bo hN (k+1,⟨g.own,true,g.acc++[p.list[k]]⟩) (qI 0 6++qI 9 1) (by (try dsimp only);exact⟨zO,EQ hI hgl hm1,hgo⟩) ?_
      first|exact⟨⟩|simp [PieceD.cs]
     |false=>
      rw [hgl,if_neg zP] at hgo
      try simp (disch:=omega) only [go_sem,seval,hgl]
      refine Bo hN (k+1,⟨g.own,true,g.acc++[g.own]++[p.list[k]]⟩) (qI 0 6++qI 11 1) (by (try dsimp only);exact⟨zO,ER hI zO hgl hm1,hgo⟩) ?_
      first|exact⟨⟩|simp [PieceD.cs]
    rw [Cq zO zO] at hgo
    refine qX ?_
    refine qK (tj p.list[k] g.own zO zO zO zO zO zO) [] ?_
    refine Bo hN (k+1,⟨ie p.list[k] g.own,g.laid,g.acc⟩) (qI 0 7) (by (try dsimp only);exact⟨zO,Ke hI hm1 hm2 hm3,hgo⟩) ?_
    first|exact⟨⟩|simp [PieceD.cs]
   have hkl:k=p.list.length:=zO
   rw [Cr zO] at hgo
   subst hgo
   obtain⟨y,r,hyr,hyt,hyl⟩:=vK hI zO
   rw [Cs hG hyr]
   have hyr':=hyr
   rw [kG] at hyr'
   cases hgl:g.laid with
   |true=>
    rw [hgl,if_pos rfl] at hyr'
    rw [hyr']
    try simp (disch:=omega) only [go_sem,seval,hgl,Ry]
    refine qX ?_
    refine qB (fun h5=>?_) fun h5=>?_
    ·refine qD [0,1,2,3,4,5,6,7,8,9] ?_
     refine⟨qC,aa 400 ?_⟩
     have hE1:= @uk p y r h5
     refine qX ?_
     refine qK (cD ⟨p.read,p.ready++y.text,r⟩ (by simp at hyl⊢;omega)) [some (6,some 1)] ?_
     refine qB (fun h6=>?_) fun h6=>?_
     ·rw [j5 (by rw [hE1];exact h6)]
      refine qX ?_
      refine qK (aC p hs.list) (qI 0 1) ?_
      exact qF (qI 0 1++qI 7 1)
     rw [j6 (by rw [hE1];exact h6),hE1]
     refine qX ?_
     refine qK (aC ⟨p.read,p.ready++y.text,r⟩ (by simp at hyl⊢;omega)) [some (6,some 1)] ?_
     refine qP (qI 0 1++qI 7 1) ?_
     first|exact⟨⟩|simp
    have hE1:= @ul p y r h5
    refine qX ?_
    refine qK (cD ⟨p.read,p.ready,y::r⟩ (by simp at hyl⊢;omega)) (qI 6 1) ?_
    refine qB (fun h6=>?_) fun h6=>?_
    ·rw [j5 (by rw [hE1];exact h6)]
     refine qX ?_
     refine qK (aC p hs.list) (qI 0 1) ?_
     exact qF (qI 0 1++qI 7 1)
    rw [j6 (by rw [hE1];exact h6),hE1]
    refine qX ?_
    refine qK (aC ⟨p.read,p.ready,y::r⟩ (by simp at hyl⊢;omega)) (qI 6 1) ?_
    refine qP (qI 0 1++qI 7 1) ?_
    first|exact⟨⟩|simp
   |false=>
    rw [hgl,if_neg zP] at hyr'
    have e1:g.acc.map PieceD.cs++[g.own.cs]=PieceD.cs y::r.map PieceD.cs:=by rw [<-Ry,<-hyr'];simp
    have e2:g.acc.length+1=r.length+1:=by have:=congrArg List.length hyr';simpa using this
    simp only [PieceD.cs] at e1
    try simp (disch:=omega) only [go_sem,seval,hgl,e1,e2]
    refine qX ?_
    refine qB (fun h5=>?_) fun h5=>?_
    ·refine qD [0,1,2,3,4,5,6,7,8,9] ?_
     refine⟨qC,aa 400 ?_⟩
     have hE1:= @uk p y r h5
     refine qX ?_
     refine qK (cD ⟨p.read,p.ready++y.text,r⟩ (by simp at hyl⊢;omega)) [some (8,some 1)] ?_
     refine qB (fun h6=>?_) fun h6=>?_
     ·rw [j5 (by rw [hE1];exact h6)]
      refine qX ?_
      refine qK (aC p hs.list) (qI 0 1) ?_
      exact qF (qI 0 1++qI 9 1)
     rw [j6 (by rw [hE1];exact h6),hE1]
     refine qX ?_
     refine qK (aC ⟨p.read,p.ready++y.text,r⟩ (by simp at hyl⊢;omega)) [some (8,some 1)] ?_
     refine qP (qI 0 1++qI 9 1) ?_
     first|exact⟨⟩|simp
    have hE1:= @ul p y r h5
    refine qX ?_
    refine qK (cD ⟨p.read,p.ready,y::r⟩ (by simp at hyl⊢;omega)) (qI 8 1) ?_
    refine qB (fun h6=>?_) fun h6=>?_
    ·rw [j5 (by rw [hE1];exact h6)]
     refine qX ?_
     refine qK (aC p hs.list) (qI 0 1) ?_
     exact qF (qI 0 1++qI 9 1)
    rw [j6 (by rw [hE1];exact h6),hE1]
    refine qX ?_
    refine qK (aC ⟨p.read,p.ready,y::r⟩ (by simp at hyl⊢;omega)) (qI 8 1) ?_
    refine qP (qI 0 1++qI 9 1) ?_
    first|exact⟨⟩|simp
  rw [hf (by rw [hok];simp [h2])]
  refine qX ?_
  refine qK (aC p hs.list) (qI 0 1) ?_
  exact qF (qI 0 1++qI 4 1)
 rw [hf (by rw [hok];simp [h1])]
 refine qX ?_
 refine qK (aC p hs.list) (qI 0 1) ?_
 exact qF (qI 0 1++qI 3 1)
def Qz (a b:AddrD):RoadD:=⟨a.addr,b.addr,0⟩
theorem CI {far l:List AddrD} {acc:List RoadD} {k:Nat} (h:k < l.length):ir far acc (l.drop k)=ir far ((acc++far.map (Qz l[k])).take 8) (l.drop (k+1)):=by
 rw [List.drop_eq_getElem_cons h,ir]
 rfl
theorem Kv {acc:List RoadD} {far:List AddrD} {f:AddrD->RoadD} {j:Nat} {r:List RoadD} (h:j < far.length) (hr:r=(acc++(far.take j).map f).take 8) (hl:r.length < 8):r++[f far[j]]=(acc++(far.take (j+1)).map f).take 8:=by
 have h1:(acc++(far.take j).map f).length < 8:=by
  rw [hr,Rz] at hl
  omega
 rw [Rx zO] at hr
 rw [List.take_succ_eq_append_getElem h,RF,<-RD,<-hr,List.map_singleton,Rx]
 rw [<-hr] at h1
 simp
 omega
theorem Kw {acc:List RoadD} {far:List AddrD} {f:AddrD->RoadD} {j i:Nat} {r:List RoadD} (hji:j<=i) (hi:i<=far.length) (hr:r=(acc++(far.take j).map f).take 8) (hl:¬ r.length < 8):r=(acc++(far.take i).map f).take 8:=by
 have h1:8<=(acc++(far.take j).map f).length:=by
  rw [hr,Rz] at hl
  omega
 have e:far.take i=far.take j++(far.take i).drop j:=by
  conv=>lhs;rw [<-List.take_append_drop j (far.take i)]
  rw [List.take_take,Nat.min_eq_left hji]
 rw [e,RF,<-RD,List.take_append_of_le_length h1,hr]
theorem E0 (o f:Int) (n:Nat):s9 o f (n+1)=s9 o f n++[⟨o,f,(n:Int)⟩]:=by
 simp [s9,List.range_succ]
theorem sj (o f:Int) (n:Nat):(s9 o f n).length=n:=by simp [s9]
theorem wx {far:List AddrD}:∀ {l:List AddrD} {acc:List RoadD},acc.length<=8->(ir far acc l).length<=8
 |[],acc,h=>h
 |a::r,acc,h=>by
  rw [ir]
  exact wx (by rw [Rz];omega)
theorem CJ {l:List AddrD} (h:0 < l.length):yD l=l[0].addr:=by
 cases l with
 |nil=>simp at h
 |cons a r=>rfl
theorem E2 (p:PolicyD) (own far:List AddrD):(wanted p own far).length<=8:=by
 rw [wanted]
 split
 ·rename_i h
  split
  ·exact wx (Ru _)
  rw [sj]
  split
  ·rename_i h2
   have h1:=h.1
   rw [polOk,if_pos h2] at h1
   simp only [dJ,Rv,decide_eq_true_eq] at h1
   omega
  omega
 simp
theorem xW (p:PolicyD) (own far:List AddrD) (hp:p.wf) (h1:own.length<=1048576) (h2:far.length<=1048576):aP 149 [.ag p.cs,.sc (.sl 0 0 own.length),.sc (.sl 1 0 far.length)] [some ⟨own.map AddrD.cs,4,32,false,true⟩,some ⟨far.map AddrD.cs,4,32,false,true⟩] (.sc (.sl 2 0 (wanted p own far).length)) [some ⟨own.map AddrD.cs,4,32,false,true⟩,some ⟨far.map AddrD.cs,4,32,false,true⟩,some ⟨(wanted p own far).map RoadD.cs,3,113,true,true⟩]:=by
 obtain⟨m,hm⟩:∃ m,m=wanted p own far:=⟨_,rfl⟩
 rw [<-hm]
 rw [wanted] at hm
 refine qE func149 ntmps149 results149 fun E hE=>?_
 refine qK (iG p) [] ?_
 refine qB (fun g1=>?_) fun g1=>?_
 ·refine qK (aE _ _ _) [] ?_
  refine qB (fun g2=>?_) fun g2=>?_
  ·refine qK (aE _ _ _) [] ?_
   refine qB (fun g3=>?_) fun g3=>?_
   ·rw [if_neg (by simp [g3])] at hm
    subst hm
    exact qF (qI 0 2++qO 1)
   have g2':=g2
   have g3':=g3
   simp only [dJ,Rv,decide_eq_true_eq] at g2' g3'
   rw [if_pos ⟨g1,g2,g3⟩] at hm
   refine qX ?_
   refine qB (fun g4=>?_) fun g4=>?_
   ·rw [if_pos g4] at hm
    refine qX ?_
    refine kw 2 hE (fun s (x:Nat×List RoadD)=>s.at (qU [0,1,9,1,11,1,13,18,34,22]) [(33,.sc (.int .i64 (x.1:Nat))),(7,.sc (.sl 3 0 x.2.length))] ([some ⟨own.map AddrD.cs,4,32,false,true⟩,some ⟨far.map AddrD.cs,4,32,false,true⟩,some ⟨[p.cs],2,25,true,false⟩,some ⟨x.2.map RoadD.cs,3,113,true,true⟩])) (fun (x:Nat×List RoadD)=>x.1<=own.length/\x.2.length<=8/\ir far x.2 (own.drop x.1)=m) (fun (x:Nat×List RoadD)=>own.length - x.1) (0,[]) (qI 0 3++qO 1) (⟨Ru _,Ru _,hm.symm⟩) fun x hx N hN=>?_
    obtain⟨k,acc⟩:=x
    obtain⟨hk1,hk2,hk3⟩:=hx
    dsimp only at hk1 hk2 hk3
    refine qR ?_
    refine qB (fun h=>?_) fun h=>?_
    ·rw [CI h] at hk3
     refine qX ?_
     refine kw 2 hE (fun s (y:Nat×List RoadD)=>s.at (qU [0,1,11,1,13,18,35,2,40,16]) [(39,.sc (.int .i64 (y.1:Nat))),(7,.sc (.sl 3 0 y.2.length))] ([some ⟨own.map AddrD.cs,4,32,false,true⟩,some ⟨far.map AddrD.cs,4,32,false,true⟩,some ⟨[p.cs],2,25,true,false⟩,some ⟨y.2.map RoadD.cs,3,113,true,true⟩,some ⟨[AddrD.cs own[k]],4,32,true,false⟩])) (fun (y:Nat×List RoadD)=>y.1<=far.length/\y.2.length<=8/\y.2=(acc++(far.take y.1).map (Qz own[k])).take 8) (fun (y:Nat×List RoadD)=>far.length - y.1) (0,acc) (qI 0 5) (⟨Ru _,hk2,by simp;rw [Rx hk2]⟩) fun y hy N2 hN2=>?_
     obtain⟨j,r⟩:=y
     obtain⟨hy1,hy2,hy3⟩:=hy
     dsimp only at hy1 hy2 hy3
     refine qR ?_
     refine qB (fun h5=>?_) fun h5=>?_
     ·refine qX ?_
      refine qB (fun h6=>?_) fun h6=>?_
      ·have hl8:r.length < 8:=zO
       have ht:=Kv h5 hy3 hl8
       refine⟨qC,hN2 _ (j+1,r++[Qz own[k] far[j]]) (qI 0 3++qI 7 1++qI 4 1) (by (try dsimp only);exact⟨zO,by simp;omega,ht⟩) (by (try dsimp only);omega) (ay zF zF ?_)⟩
       refine qX ?_
       simp [Qz,RoadD.cs]
      have ht:=Kw (i:=j+1) zO zO hy3 zO
      exact qN hN2 (j+1,r) (qI 0 5) (by (try dsimp only);exact⟨zO,hy2,ht⟩)
     have e:j=far.length:=zO
     subst e
     rw [List.take_length] at hy3
     rw [<-hy3] at hk3
     exact qN hN (k+1,r) (qI 0 4) (by (try dsimp only);exact⟨zO,hy2,hk3⟩)
    rw [List.drop_eq_nil_of_le zO,ir] at hk3
    subst hk3
    exact qF (qI 0 2++qI 3 1)
   rw [if_neg g4] at hm
   have ho:0 < own.length:=zO
   have hf:0 < far.length:=zO
   rw [CJ ho,CJ hf] at hm
   obtain⟨c,hc,hc0,hc8⟩:∃ c:Nat,m=s9 own[0].addr far[0].addr c/\(if 1 < p.many then p.many else 1)=(c:Int)/\c<=8:=by
    by_cases h2:p.kind=2
    ·have h:=g1
     rw [polOk,if_pos h2] at h
     simp only [dJ,Rv,decide_eq_true_eq] at h
     rw [if_pos h2] at hm
     exact⟨p.many.toNat,hm,by split<;>omega,zO⟩
    rw [if_neg h2] at hm
    have h:=g1
    rw [polOk,if_neg h2] at h
    simp only [Rv,beq_iff_eq] at h
    exact⟨1,hm,by rw [if_neg zO];rfl,zO⟩
   refine qX ?_
   refine ee 2 hE (fun s (x:Nat)=>s.at (qU [0,1,9,1,11,1,13,64]) [(12,.sc (.int .i64 (x:Nat))),(7,.sc (.sl 3 0 x))] ([some ⟨own.map AddrD.cs,4,32,false,true⟩,some ⟨far.map AddrD.cs,4,32,false,true⟩,some ⟨[p.cs],2,25,true,false⟩,some ⟨(s9 own[0].addr far[0].addr x).map RoadD.cs,3,113,true,true⟩])) (fun (x:Nat)=>x<=c) (fun (x:Nat)=>c - x) 0 (qI 0 3++qO 1) (qC) (Ru _) (ay zF zF ?_) fun x hx N hN=>?_
   ·try simp (disch:=omega) only [go_sem,seval]
    try rfl
   refine aa 400 ?_
   have hml:=sj own[0].addr far[0].addr x
   try simp (disch:=omega) only [go_sem,seval,hc0]
   refine qB (fun h=>?_) fun h=>?_
   ·refine qD [0,1,2,3,4,5,6,7,8,9,10,11,12,13] ?_
    refine qG ?_
    refine Bo hN (x+1) (qI 0 3++qI 5 1) (by (try dsimp only);exact zO) ?_
    first|exact⟨⟩|simp [E0,RoadD.cs]
   have e:x=c:=zO
   subst e
   subst hc
   rw [sj]
   exact qF (qI 0 2++qI 3 1)
  rw [if_neg (by simp [g2])] at hm
  subst hm
  exact qF (qI 0 2++qO 1)
 rw [if_neg (by simp [g1])] at hm
 subst hm
 exact qF (qI 0 2++qO 1)
end
end Go.Proofs.YtdiiopjaebnmfaaGreatDoor
