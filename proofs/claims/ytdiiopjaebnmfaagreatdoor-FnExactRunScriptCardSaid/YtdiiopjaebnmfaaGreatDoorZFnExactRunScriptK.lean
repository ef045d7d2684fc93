/- Lemmas of this claim. -/
import Derived.Test.YtdiiopjaebnmfaaGreatDoorZFnExactRunScriptD
set_option maxHeartbeats 16000000
set_option maxRecDepth 100000
set_option linter.unusedVariables false
set_option linter.unusedSimpArgs false
namespace Go.Proofs.YtdiiopjaebnmfaaGreatDoor
open _root_.Go.Proofs.Tryz
open _root_.Int renaming eq_ofNat_of_zero_le->zk
open _root_.List renaming map_set->zG
section
open Go.RowKit
theorem om (l:List (List UInt8)) (hl:l.length<=4611686018427387904):aP 14 [.sc (.sl 0 0 l.length),.sc (.sl 1 0 l.length)] [some ⟨l.map aD,1,9,false,true⟩,some ⟨l.map aD,1,9,false,true⟩] (.sc (.bo true)) [some ⟨l.map aD,1,9,false,true⟩,some ⟨l.map aD,1,9,false,true⟩]:=by
 refine qE func14 ntmps14 results14 fun E hE=>?_
 refine fJ 2 hE (fun s (k:Nat)=>s.at (qU [4,1,6,20]) [(5,.sc (.int .i64 (k:Nat)))] (s.hp)) (fun (k:Nat)=>k<=l.length) (fun (k:Nat)=>l.length - k) 0 (qI 0 2) (Nat.zero_le _) fun k hk N hN=>?_
 refine qR ?_
 refine qB (fun h=>?_) fun h=>?_
 ·refine ao (qU [0,9]) zXk (trivial) zXk (aa 400 ?_)
  simp (disch:=omega) only [go_sem,seval]
  try simp (disch:=omega) only [go_sem,seval,dZ h]
  refine qG ?_
  exact qN hN (k+1) (qI 0 2) (by (try dsimp only);exact h)
 exact qF (qI 0 2)
theorem sy (e:EndD) (x:LetterD) (hs:Small e):aP 195 [.ag (e.cs 0),.ag x.cs] (e.hp false) (.tu [.ag ((ba e x).1.cs 7),.sc (.sl 14 0 (ba e x).2.length)])
  (e.hp false++((ba e x).1.hp true++[some ⟨(ba e x).2.map LetterD.cs,19,36,true,true⟩])):=by
 have hC:=(qH (aG e))
 have hK:=(qH (bA e))
 have hS:=fT e (am x) (by have:=hs.subs;omega)
 have hL:=bL x
 have hbd:=f6 e.subs (am x)
 have hf:=NL (e:=e) (x:=x)
 have ht:=fun (n:Nat)=> @NM e x n
 generalize ba e x=R at*
 refine qE func195 ntmps195 results195 fun E hE=>?_
 refine qK (hC) (qI 0 7) ?_
 refine qD [0,1,2,3,4] ?_
 refine aE (eG x) [] ?_
 refine aE (hS) (qI 0 7) ?_
 refine qG ?_
 rcases hbd with hk|⟨hb0,hb1⟩
 ·rw [hf (M_ hk),hk]
  refine qD [0,1,2,3,4,5,6,7,8,9,10,11,12,13,14,15,16,17,18,19,20,21,22,23,24,25,26,27,28,29,30,31,32,33,34,35,36,37,38,39,40,41,42,43] ?_
  refine aE (hK) (qI 0 7) ?_
  refine qB (fun h1=>?_) fun h1=>?_
  ·refine aE (hL) [] ?_
   refine qB (fun h2=>?_) fun h2=>?_
   ·refine qB (fun h3=>?_) fun h3=>?_
    ·refine qG ?_
     exact qF (qI 0 7++qI 10 7++qO 1)
    refine qG ?_
    exact qF (qI 0 7++qI 10 7++qO 1)
   refine qG ?_
   exact qF (qI 0 7++qI 10 7++qO 1)
  refine qG ?_
  exact qF (qI 0 7++qI 10 7++qO 1)
 obtain⟨n,hk⟩:=zk hb0
 have hn:n < e.subs.length:=zO
 have ha:=M9 hk hn
 have hcmp:=TagD.cmp x.tag ⟨1,e.peer,e.key,x.nonce,e.subs[n].mine⟩
 simp only [TagD.cs,go_sem] at hcmp
 rw [hk]
 refine qD [0,1,2,3,4,5,6,7,8,9,10,11,12,13,14,15,16,17,18,19,20,21,22,23,24,25,26,27,28,29,30,31,32,33,34,35,36,37,38,39,40,41,42,43] ?_
 refine aE (hK) (qI 0 7) ?_
 refine qB (fun h1=>?_) fun h1=>?_
 ·refine aE (hL) [] ?_
  refine qB (fun h2=>?_) fun h2=>?_
  ·refine qB (fun h3=>?_) fun h3=>?_
   ·refine qB (fun h4=>?_) fun h4=>?_
    ·refine aE (i8 _ _ _ _) [] ?_
     refine⟨qC,ab 400 ?_⟩
     try simp (disch:=omega) only [go_sem,seval,hcmp]
     refine qB (fun h5=>?_) fun h5=>?_
     ·rw [hf (by rw [ha];simp [h1,h2,h3,h4,h5])]
      refine qX ?_
      exact qF (qI 0 7++qI 10 7++qO 1)
     rw [ht _ (by rw [ha];simp [h1,h2,h3,h4,h5]) hk hn]
     refine qX ?_
     refine aB [(6,7)] [(qU [0,9]),[0,1,2,3,4,5,7,6,8]] zXk (qC) zXk ?_
     simp only [aM]
     refine⟨aa 400 ?_,aa 400 ?_⟩
     all_goals simp (disch:=omega) only [go_sem,seval]
     all_goals
      refine aE (nB e (mf e.subs[n] x)) (qI 0 7) ?_
      refine qG ?_
      refine qP (qI 0 7++qI 10 7++qI 18 1) ?_
      first|exact⟨⟩|simp [zG,SubD.cs,mf,cF,bc,LetterD.cs]
    rw [hf (by rw [ha];simp [h1,h2,h3,h4])]
    refine qG ?_
    exact qF (qI 0 7++qI 10 7++qO 1)
   rw [hf (by rw [ha];simp [h1,h2,h3])]
   refine qG ?_
   exact qF (qI 0 7++qI 10 7++qO 1)
  rw [hf (by rw [ha];simp [h1,h2])]
  refine qG ?_
  exact qF (qI 0 7++qI 10 7++qO 1)
 rw [hf (by rw [ha];simp [h1])]
 refine qG ?_
 exact qF (qI 0 7++qI 10 7++qO 1)
theorem sA (e:EndD) (x:LetterD) (hs:Small e):aP 269 [.ag (e.cs 0),.ag x.cs] (e.hp false) (.tu [.ag ((ba e x).1.cs 7),.sc (.sl 14 0 (ba e x).2.length)])
  (e.hp false++((ba e x).1.hp true++[some ⟨(ba e x).2.map LetterD.cs,19,36,true,true⟩])):=by
 have hC:=(qH (aF e))
 have hK:=(qH (bz e))
 have hS:=fU e (am x) (by have:=hs.subs;omega)
 have hL:=dq x
 have hbd:=f6 e.subs (am x)
 have hf:=NL (e:=e) (x:=x)
 have ht:=fun (n:Nat)=> @NM e x n
 generalize ba e x=R at*
 refine qE func269 ntmps269 results269 fun E hE=>?_
 refine qK (hC) (qI 0 7) ?_
 refine qD [0,1,2,3,4] ?_
 refine aE (de x) [] ?_
 refine aE (hS) (qI 0 7) ?_
 refine qG ?_
 rcases hbd with hk|⟨hb0,hb1⟩
 ·rw [hf (M_ hk),hk]
  refine qD [0,1,2,3,4,5,6,7,8,9,10,11,12,13,14,15,16,17,18,19,20,21,22,23,24,25,26,27,28,29,30,31,32,33,34,35,36,37,38,39,40,41,42,43] ?_
  refine aE (hK) (qI 0 7) ?_
  refine qB (fun h1=>?_) fun h1=>?_
  ·refine aE (hL) [] ?_
   refine qB (fun h2=>?_) fun h2=>?_
   ·refine qB (fun h3=>?_) fun h3=>?_
    ·refine qG ?_
     exact qF (qI 0 7++qI 10 7++qI 18 1)
    refine qG ?_
    exact qF (qI 0 7++qI 10 7++qI 18 1)
   refine qG ?_
   exact qF (qI 0 7++qI 10 7++qI 18 1)
  refine qG ?_
  exact qF (qI 0 7++qI 10 7++qI 18 1)
 obtain⟨n,hk⟩:=zk hb0
 have hn:n < e.subs.length:=zO
 have ha:=M9 hk hn
 have hcmp:=TagD.cmp x.tag ⟨1,e.peer,e.key,x.nonce,e.subs[n].mine⟩
 simp only [TagD.cs,go_sem] at hcmp
 rw [hk]
 refine qD [0,1,2,3,4,5,6,7,8,9,10,11,12,13,14,15,16,17,18,19,20,21,22,23,24,25,26,27,28,29,30,31,32,33,34,35,36,37,38,39,40,41,42,43] ?_
 refine aE (hK) (qI 0 7) ?_
 refine qB (fun h1=>?_) fun h1=>?_
 ·refine aE (hL) [] ?_
  refine qB (fun h2=>?_) fun h2=>?_
  ·refine qB (fun h3=>?_) fun h3=>?_
   ·refine qB (fun h4=>?_) fun h4=>?_
    ·refine aE (i9 _ _ _ _) [] ?_
     refine⟨qC,ab 400 ?_⟩
     try simp (disch:=omega) only [go_sem,seval,hcmp]
     refine qB (fun h5=>?_) fun h5=>?_
     ·rw [hf (by rw [ha];simp [h1,h2,h3,h4,h5])]
      refine qX ?_
      exact qF (qI 0 7++qI 10 7++qI 18 1)
     rw [ht _ (by rw [ha];simp [h1,h2,h3,h4,h5]) hk hn]
     refine qX ?_
     refine aB [(0,10),(8,0),(9,0)] [(qU [1,9,0,1,10,3]),(qU [1,8,0,1,9,4]),(qU [1,7,0,1,8,5]),(qU [1,10,0,1,11,2])] zXk (qC) zXk ?_
     simp only [aM]
     refine⟨aa 400 ?_,aa 400 ?_,aa 400 ?_,aa 400 ?_⟩
     all_goals simp (disch:=omega) only [go_sem,seval]
     all_goals
      refine aE (ou { e with subs:=e.subs.set n (mf e.subs[n] x) } (mf e.subs[n] x)) (qI 10 7) ?_
      refine qG ?_
      refine qP (qI 0 7++qI 10 7++qI 20 1) ?_
      first|exact⟨⟩|simp [zG,SubD.cs,mf,cF,bc,LetterD.cs]
    rw [hf (by rw [ha];simp [h1,h2,h3,h4])]
    refine qG ?_
    exact qF (qI 0 7++qI 10 7++qI 18 1)
   rw [hf (by rw [ha];simp [h1,h2,h3])]
   refine qG ?_
   exact qF (qI 0 7++qI 10 7++qI 18 1)
  rw [hf (by rw [ha];simp [h1,h2])]
  refine qG ?_
  exact qF (qI 0 7++qI 10 7++qI 18 1)
 rw [hf (by rw [ha];simp [h1])]
 refine qG ?_
 exact qF (qI 0 7++qI 10 7++qI 18 1)
theorem sB (e:EndD) (x:LetterD) (hs:Small e):aP 196 [.ag (e.cs 0),.ag x.cs] (e.hp false) (.tu [.ag ((aH e x).1.cs 7),.sc (.sl 14 0 (aH e x).2.length)])
  (e.hp false++((aH e x).1.hp true++[some ⟨(aH e x).2.map LetterD.cs,19,36,true,true⟩])):=by
 have hC:=(qH (aG e))
 have hK:=(qH (bA e))
 have hS:=fT e (am x) (by have:=hs.subs;omega)
 have hH:=j6 e.halfs (am x) (by have:=hs.halfs;omega)
 have hD:=zV e.halfs (am x) (by have:=hs.halfs;omega)
 have hL:=bL x
 have hbS:=f6 e.subs (am x)
 have hbH:=iJ e.halfs (am x)
 have hf:=NN (e:=e) (x:=x)
 have hf2:=KC (e:=e) (x:=x)
 have hb:=fun n=> @NO e x n
 have ha1:=fun i n=> @KD e x i n
 have ha2:=fun i=> @KE e x i
 generalize aH e x=R at*
 refine qE func196 ntmps196 results196 fun E hE=>?_
 refine qK (hC) (qI 0 7) ?_
 refine qK (hK) (qI 0 7) ?_
 refine qB (fun h1=>?_) fun h1=>?_
 ·refine qK (hL) [] ?_
  refine qB (fun h2=>?_) fun h2=>?_
  ·refine qB (fun h3=>?_) fun h3=>?_
   ·rw [hf (by simp [nG,h1,h2,h3])]
    refine qX ?_
    exact qF (qI 0 7++qI 10 7++qO 1)
   have hin:nG e x=true:=by simp [nG,h1,h2,h3]
   refine qX ?_
   refine qK (eG x) [] ?_
   refine qK (hH) (qI 3 1) ?_
   refine qK (hS) (qI 0 7) ?_
   rcases hbS with hk|⟨hk0,hk1⟩
   ·rcases hbH with hi|⟨hi0,hi1⟩
    ·rw [hi]
     rw [hk]
     refine qX ?_
     refine qD [0,1,2,3,4,5,6,7,8,9,10,11,12,13,14,15,16,17,18,19,20,21,22,23,24,25,26,27,28,29] ?_
     refine qG ?_
     rw [hf2 hin (Cr hi) (ul hk)]
     refine qD [0,1,2,3,4,5,6,7,8,9,10,11,12,13,14,15,16,17,18,19,20,21,22,23,24,25,26,27,28,29,30,31,32] ?_
     refine qG ?_
     exact qF (qI 0 7++qI 10 7++qO 1)
    obtain⟨i,hi⟩:=zk hi0
    have hil:i < e.halfs.length:=zO
    have hcmp:=TagD.cmp x.tag ⟨2,e.peer,e.key,e.halfs[i].theirs,e.halfs[i].mine⟩
    simp only [TagD.cs,go_sem] at hcmp
    rw [hi]
    rw [hk]
    refine qX ?_
    refine qD [0,1,2,3,4,5,6,7,8,9,10,11,12,13,14,15,16,17,18,19,20,21,22,23,24,25,26,27,28,29] ?_
    refine qB (fun h4=>?_) fun h4=>?_
    ·refine aE (gW _ _ _ _) [] ?_
     refine⟨qC,ab 400 ?_⟩
     try simp (disch:=omega) only [go_sem,seval,hcmp]
     refine qB (fun h5=>?_) fun h5=>?_
     ·have hjA:vi e x=true:=by rw [kh hi hil];simp [h4,h5];try omega
      rw [ha2 _ hin hjA hi hil hk]
      refine qX ?_
      refine qK (hD) (qI 3 1) ?_
      refine qD [0,1,2,3,4,5,6] ?_
      refine aE (gI (am x) e.halfs[i].give) [] ?_
      refine qG ?_
      refine qP (qI 0 7++qI 10 2++qI 21 2++qI 14 3++qI 23 1) ?_
      first|exact⟨⟩|simp [zG,SubD.cs,kY]
     have hjA':vi e x=false:=by rw [kh hi hil];simp [h5]
     refine qX ?_
     rw [hf2 hin (hjA') (ul hk)]
     refine qD [0,1,2,3,4,5,6,7,8,9,10,11,12,13,14,15,16,17,18,19,20,21,22,23,24,25,26,27,28,29,30,31,32] ?_
     refine qG ?_
     exact qF (qI 0 7++qI 10 7++qO 1)
    have hjA':vi e x=false:=by rw [kh hi hil];simp;omega
    refine qG ?_
    rw [hf2 hin (hjA') (ul hk)]
    refine qD [0,1,2,3,4,5,6,7,8,9,10,11,12,13,14,15,16,17,18,19,20,21,22,23,24,25,26,27,28,29,30,31,32] ?_
    refine qG ?_
    exact qF (qI 0 7++qI 10 7++qO 1)
   obtain⟨n,hk⟩:=zk hk0
   have hn:n < e.subs.length:=zO
   have hrd:=xO hk hn
   rcases hbH with hi|⟨hi0,hi1⟩
   ·rw [hi]
    rw [hk]
    refine qX ?_
    refine qD [0,1,2,3,4,5,6,7,8,9,10,11,12,13,14,15,16,17,18,19,20,21,22,23,24,25,26,27,28,29] ?_
    refine qG ?_
    have hcmp2:=TagD.cmp x.tag ⟨2,e.peer,e.key,e.subs[n].theirs,e.subs[n].mine⟩
    simp only [TagD.cs,go_sem] at hcmp2
    have hjA:=Cr hi
    refine qD [0,1,2,3,4,5,6,7,8,9,10,11,12,13,14,15,16,17,18,19,20,21,22,23,24,25,26,27,28,29,30,31,32] ?_
    refine qB (fun h6=>?_) fun h6=>?_
    ·refine aE (gW _ _ _ _) [] ?_
     refine⟨qC,ab 400 ?_⟩
     try simp (disch:=omega) only [go_sem,seval,hcmp2]
     refine qB (fun h7=>?_) fun h7=>?_
     ·rw [hb _ hin hjA (by rw [gj hk hn];simp [h6,h7]) hk hn]
      refine qX ?_
      refine qD [0,1,2,3,4,5,6,7,8,9,10] ?_
      refine aE (gI (am x) e.subs[n].give) [] ?_
      refine qG ?_
      refine qP (qI 0 7++qI 10 7++qI 19 1) ?_
      first|exact⟨⟩|simp
     rw [hf2 hin hjA (by rw [gj hk hn];simp [h6,h7])]
     refine qX ?_
     exact qF (qI 0 7++qI 10 7++qO 1)
    rw [hf2 hin hjA (by rw [gj hk hn];simp [h6])]
    refine qG ?_
    exact qF (qI 0 7++qI 10 7++qO 1)
   obtain⟨i,hi⟩:=zk hi0
   have hil:i < e.halfs.length:=zO
   have hcmp:=TagD.cmp x.tag ⟨2,e.peer,e.key,e.halfs[i].theirs,e.halfs[i].mine⟩
   simp only [TagD.cs,go_sem] at hcmp
   rw [hi]
   rw [hk]
   refine qX ?_
   refine qD [0,1,2,3,4,5,6,7,8,9,10,11,12,13,14,15,16,17,18,19,20,21,22,23,24,25,26,27,28,29] ?_
   refine qB (fun h4=>?_) fun h4=>?_
   ·refine aE (gW _ _ _ _) [] ?_
    refine⟨qC,ab 400 ?_⟩
    try simp (disch:=omega) only [go_sem,seval,hcmp]
    refine qB (fun h5=>?_) fun h5=>?_
    ·have hjA:vi e x=true:=by rw [kh hi hil];simp [h4,h5];try omega
     rw [ha1 _ _ hin hjA hi hil hk hn]
     refine qX ?_
     refine qK (hD) (qI 3 1) ?_
     refine qD [0,1,2,3,4,5,6] ?_
     refine aE (gI (am x) e.halfs[i].give) [] ?_
     refine qG ?_
     refine qP (qI 0 7++qI 10 2++qI 21 2++qI 14 3++qI 23 1) ?_
     first|exact⟨⟩|simp [zG,SubD.cs,kY]
    have hjA':vi e x=false:=by rw [kh hi hil];simp [h5]
    refine qX ?_
    have hcmp2:=TagD.cmp x.tag ⟨2,e.peer,e.key,e.subs[n].theirs,e.subs[n].mine⟩
    simp only [TagD.cs,go_sem] at hcmp2
    have hjA:=hjA'
    refine qD [0,1,2,3,4,5,6,7,8,9,10,11,12,13,14,15,16,17,18,19,20,21,22,23,24,25,26,27,28,29,30,31,32] ?_
    refine qB (fun h6=>?_) fun h6=>?_
    ·refine aE (gW _ _ _ _) [] ?_
     refine⟨qC,ab 400 ?_⟩
     try simp (disch:=omega) only [go_sem,seval,hcmp2]
     refine qB (fun h7=>?_) fun h7=>?_
     ·rw [hb _ hin hjA (by rw [gj hk hn];simp [h6,h7]) hk hn]
      refine qX ?_
      refine qD [0,1,2,3,4,5,6,7,8,9,10] ?_
      refine aE (gI (am x) e.subs[n].give) [] ?_
      refine qG ?_
      refine qP (qI 0 7++qI 10 7++qI 19 1) ?_
      first|exact⟨⟩|simp
     rw [hf2 hin hjA (by rw [gj hk hn];simp [h6,h7])]
     refine qX ?_
     exact qF (qI 0 7++qI 10 7++qO 1)
    rw [hf2 hin hjA (by rw [gj hk hn];simp [h6])]
    refine qG ?_
    exact qF (qI 0 7++qI 10 7++qO 1)
   have hjA':vi e x=false:=by rw [kh hi hil];simp;omega
   refine qG ?_
   have hcmp2:=TagD.cmp x.tag ⟨2,e.peer,e.key,e.subs[n].theirs,e.subs[n].mine⟩
   simp only [TagD.cs,go_sem] at hcmp2
   have hjA:=hjA'
   refine qD [0,1,2,3,4,5,6,7,8,9,10,11,12,13,14,15,16,17,18,19,20,21,22,23,24,25,26,27,28,29,30,31,32] ?_
   refine qB (fun h6=>?_) fun h6=>?_
   ·refine aE (gW _ _ _ _) [] ?_
    refine⟨qC,ab 400 ?_⟩
    try simp (disch:=omega) only [go_sem,seval,hcmp2]
    refine qB (fun h7=>?_) fun h7=>?_
    ·rw [hb _ hin hjA (by rw [gj hk hn];simp [h6,h7]) hk hn]
     refine qX ?_
     refine qD [0,1,2,3,4,5,6,7,8,9,10] ?_
     refine aE (gI (am x) e.subs[n].give) [] ?_
     refine qG ?_
     refine qP (qI 0 7++qI 10 7++qI 19 1) ?_
     first|exact⟨⟩|simp
    rw [hf2 hin hjA (by rw [gj hk hn];simp [h6,h7])]
    refine qX ?_
    exact qF (qI 0 7++qI 10 7++qO 1)
   rw [hf2 hin hjA (by rw [gj hk hn];simp [h6])]
   refine qG ?_
   exact qF (qI 0 7++qI 10 7++qO 1)
  rw [hf (by simp [nG,h2])]
  refine qX ?_
  exact qF (qI 0 7++qI 10 7++qO 1)
 rw [hf (by simp [nG,h1])]
 refine qX ?_
 exact qF (qI 0 7++qI 10 7++qO 1)
theorem sC (e:EndD) (x:LetterD) (hs:Small e):aP 270 [.ag (e.cs 0),.ag x.cs] (e.hp false) (.tu [.ag ((aH e x).1.cs 7),.sc (.sl 14 0 (aH e x).2.length)])
  (e.hp false++((aH e x).1.hp true++[some ⟨(aH e x).2.map LetterD.cs,19,36,true,true⟩])):=by
 have hC:=(qH (aF e))
 have hK:=(qH (bz e))
 have hS:=fU e (am x) (by have:=hs.subs;omega)
 have hH:=j7 e.halfs (am x) (by have:=hs.halfs;omega)
 have hD:=zW e.halfs (am x) (by have:=hs.halfs;omega)
 have hL:=dq x
 have hbS:=f6 e.subs (am x)
 have hbH:=iJ e.halfs (am x)
 have hf:=NN (e:=e) (x:=x)
 have hf2:=KC (e:=e) (x:=x)
 have hb:=fun n=> @NO e x n
 have ha1:=fun i n=> @KD e x i n
 have ha2:=fun i=> @KE e x i
 generalize aH e x=R at*
 refine qE func270 ntmps270 results270 fun E hE=>?_
 refine qK (hC) (qI 0 7) ?_
 refine qK (de x) [] ?_
 refine qK (hK) (qI 0 7) ?_
 refine qB (fun h1=>?_) fun h1=>?_
 ·refine qK (hL) [] ?_
  refine qB (fun h2=>?_) fun h2=>?_
  ·refine qB (fun h3=>?_) fun h3=>?_
   ·rw [hf (by simp [nG,h1,h2,h3])]
    refine qX ?_
    exact qF (qI 0 7++qI 10 7++qI 18 1)
   have hin:nG e x=true:=by simp [nG,h1,h2,h3]
   refine qX ?_
   refine qK (hH) (qI 3 1) ?_
   refine qK (hS) (qI 0 7) ?_
   rcases hbS with hk|⟨hk0,hk1⟩
   ·rcases hbH with hi|⟨hi0,hi1⟩
    ·rw [hi]
     rw [hk]
     refine qX ?_
     refine qD [0,1,2,3,4,5,6,7,8,9,10,11,12,13,14,15,16,17,18,19,20,21,22,23,24,25,26,27,28,29] ?_
     refine qG ?_
     rw [hf2 hin (Cr hi) (ul hk)]
     refine qD [0,1,2,3,4,5,6,7,8,9,10,11,12,13,14,15,16,17,18,19,20,21,22,23,24,25,26,27,28,29,30,31,32] ?_
     refine qG ?_
     exact qF (qI 0 7++qI 10 7++qI 18 1)
    obtain⟨i,hi⟩:=zk hi0
    have hil:i < e.halfs.length:=zO
    have hcmp:=TagD.cmp x.tag ⟨2,e.peer,e.key,e.halfs[i].theirs,e.halfs[i].mine⟩
    simp only [TagD.cs,go_sem] at hcmp
    rw [hi]
    rw [hk]
    refine qX ?_
    refine qD [0,1,2,3,4,5,6,7,8,9,10,11,12,13,14,15,16,17,18,19,20,21,22,23,24,25,26,27,28,29] ?_
    refine qB (fun h4=>?_) fun h4=>?_
    ·refine aE (gX _ _ _ _) [] ?_
     refine⟨qC,ab 400 ?_⟩
     try simp (disch:=omega) only [go_sem,seval,hcmp]
     refine qB (fun h5=>?_) fun h5=>?_
     ·have hjA:vi e x=true:=by rw [kh hi hil];simp [h4,h5];try omega
      rw [ha2 _ hin hjA hi hil hk]
      refine qX ?_
      refine qK (j8 { e with subs:=e.subs } (kY (am x) e.halfs[i]) (by have:=dB h1;simp;omega)) (qI 10 7) ?_
      refine qK (hD) (qI 13 1) ?_
      refine aB [(0,5),(3,0),(4,0)] [[1,2,3,4,0,5,6,7],[1,2,3,0,4,5,6,7],[1,2,0,3,4,5,6,7],[1,2,3,4,5,0,6,7]] zXk (qC) zXk ?_
      simp only [aM]
      refine⟨aa 400 ?_,aa 400 ?_,aa 400 ?_,aa 400 ?_⟩
      all_goals simp (disch:=omega) only [go_sem,seval]
      all_goals
       refine aE (j9 (kY (am x) e.halfs[i])) [] ?_
       refine qG ?_
       refine qP (qI 0 7++qI 10 2++qI 22 2++qI 14 3++qI 25 1) ?_
       first|exact⟨⟩|simp [zG,SubD.cs,kY]
     have hjA':vi e x=false:=by rw [kh hi hil];simp [h5]
     refine qX ?_
     rw [hf2 hin (hjA') (ul hk)]
     refine qD [0,1,2,3,4,5,6,7,8,9,10,11,12,13,14,15,16,17,18,19,20,21,22,23,24,25,26,27,28,29,30,31,32] ?_
     refine qG ?_
     exact qF (qI 0 7++qI 10 7++qI 18 1)
    have hjA':vi e x=false:=by rw [kh hi hil];simp;omega
    refine qG ?_
    rw [hf2 hin (hjA') (ul hk)]
    refine qD [0,1,2,3,4,5,6,7,8,9,10,11,12,13,14,15,16,17,18,19,20,21,22,23,24,25,26,27,28,29,30,31,32] ?_
    refine qG ?_
    exact qF (qI 0 7++qI 10 7++qI 18 1)
   obtain⟨n,hk⟩:=zk hk0
   have hn:n < e.subs.length:=zO
   have hrd:=xO hk hn
   rcases hbH with hi|⟨hi0,hi1⟩
   ·rw [hi]
    rw [hk]
    refine qX ?_
    refine qD [0,1,2,3,4,5,6,7,8,9,10,11,12,13,14,15,16,17,18,19,20,21,22,23,24,25,26,27,28,29] ?_
    refine qG ?_
    have hcmp2:=TagD.cmp x.tag ⟨2,e.peer,e.key,e.subs[n].theirs,e.subs[n].mine⟩
    simp only [TagD.cs,go_sem] at hcmp2
    have hjA:=Cr hi
    refine qD [0,1,2,3,4,5,6,7,8,9,10,11,12,13,14,15,16,17,18,19,20,21,22,23,24,25,26,27,28,29,30,31,32] ?_
    refine qB (fun h6=>?_) fun h6=>?_
    ·refine aE (gX _ _ _ _) [] ?_
     refine⟨qC,ab 400 ?_⟩
     try simp (disch:=omega) only [go_sem,seval,hcmp2]
     refine qB (fun h7=>?_) fun h7=>?_
     ·rw [hb _ hin hjA (by rw [gj hk hn];simp [h6,h7]) hk hn]
      refine qX ?_
      refine aB [(0,9),(7,0),(8,0)] [(qU [1,8,0,1,9,3]),(qU [1,7,0,1,8,4]),(qU [1,6,0,1,7,5]),(qU [1,9,0,1,10,2])] zXk (qC) zXk ?_
      simp only [aM]
      refine⟨aa 400 ?_,aa 400 ?_,aa 400 ?_,aa 400 ?_⟩
      all_goals simp (disch:=omega) only [go_sem,seval]
      all_goals
       refine aE (j9 e.subs[n]) [] ?_
       refine qG ?_
       refine qP (qI 0 7++qI 10 7++qI 21 1) ?_
       first|exact⟨⟩|simp [hrd]
     rw [hf2 hin hjA (by rw [gj hk hn];simp [h6,h7])]
     refine qX ?_
     exact qF (qI 0 7++qI 10 7++qI 18 1)
    rw [hf2 hin hjA (by rw [gj hk hn];simp [h6])]
    refine qG ?_
    exact qF (qI 0 7++qI 10 7++qI 18 1)
   obtain⟨i,hi⟩:=zk hi0
   have hil:i < e.halfs.length:=zO
   have hcmp:=TagD.cmp x.tag ⟨2,e.peer,e.key,e.halfs[i].theirs,e.halfs[i].mine⟩
   simp only [TagD.cs,go_sem] at hcmp
   rw [hi]
   rw [hk]
   refine qX ?_
   refine qD [0,1,2,3,4,5,6,7,8,9,10,11,12,13,14,15,16,17,18,19,20,21,22,23,24,25,26,27,28,29] ?_
   refine qB (fun h4=>?_) fun h4=>?_
   ·refine aE (gX _ _ _ _) [] ?_
    refine⟨qC,ab 400 ?_⟩
    try simp (disch:=omega) only [go_sem,seval,hcmp]
    refine qB (fun h5=>?_) fun h5=>?_
    ·have hjA:vi e x=true:=by rw [kh hi hil];simp [h4,h5];try omega
     rw [ha1 _ _ hin hjA hi hil hk hn]
     refine qX ?_
     refine qK (j8 { e with subs:=e.subs.set n { e.subs[n] with state:=4 } } (kY (am x) e.halfs[i]) (by have:=dB h1;simp;omega)) (qI 10 7) ?_
     refine qK (hD) (qI 13 1) ?_
     refine aB [(0,5),(3,0),(4,0)] [[1,2,3,4,0,5,6,7],[1,2,3,0,4,5,6,7],[1,2,0,3,4,5,6,7],[1,2,3,4,5,0,6,7]] zXk (qC) zXk ?_
     simp only [aM]
     refine⟨aa 400 ?_,aa 400 ?_,aa 400 ?_,aa 400 ?_⟩
     all_goals simp (disch:=omega) only [go_sem,seval]
     all_goals
      refine aE (j9 (kY (am x) e.halfs[i])) [] ?_
      refine qG ?_
      refine qP (qI 0 7++qI 10 2++qI 22 2++qI 14 3++qI 25 1) ?_
      first|exact⟨⟩|simp [zG,SubD.cs,kY]
    have hjA':vi e x=false:=by rw [kh hi hil];simp [h5]
    refine qX ?_
    have hcmp2:=TagD.cmp x.tag ⟨2,e.peer,e.key,e.subs[n].theirs,e.subs[n].mine⟩
    simp only [TagD.cs,go_sem] at hcmp2
    have hjA:=hjA'
    refine qD [0,1,2,3,4,5,6,7,8,9,10,11,12,13,14,15,16,17,18,19,20,21,22,23,24,25,26,27,28,29,30,31,32] ?_
    refine qB (fun h6=>?_) fun h6=>?_
    ·refine aE (gX _ _ _ _) [] ?_
     refine⟨qC,ab 400 ?_⟩
     try simp (disch:=omega) only [go_sem,seval,hcmp2]
     refine qB (fun h7=>?_) fun h7=>?_
     ·rw [hb _ hin hjA (by rw [gj hk hn];simp [h6,h7]) hk hn]
      refine qX ?_
      refine aB [(0,9),(7,0),(8,0)] [(qU [1,8,0,1,9,3]),(qU [1,7,0,1,8,4]),(qU [1,6,0,1,7,5]),(qU [1,9,0,1,10,2])] zXk (qC) zXk ?_
      simp only [aM]
      refine⟨aa 400 ?_,aa 400 ?_,aa 400 ?_,aa 400 ?_⟩
      all_goals simp (disch:=omega) only [go_sem,seval]
      all_goals
       refine aE (j9 e.subs[n]) [] ?_
       refine qG ?_
       refine qP (qI 0 7++qI 10 7++qI 21 1) ?_
       first|exact⟨⟩|simp [hrd]
     rw [hf2 hin hjA (by rw [gj hk hn];simp [h6,h7])]
     refine qX ?_
     exact qF (qI 0 7++qI 10 7++qI 18 1)
    rw [hf2 hin hjA (by rw [gj hk hn];simp [h6])]
    refine qG ?_
    exact qF (qI 0 7++qI 10 7++qI 18 1)
   have hjA':vi e x=false:=by rw [kh hi hil];simp;omega
   refine qG ?_
   have hcmp2:=TagD.cmp x.tag ⟨2,e.peer,e.key,e.subs[n].theirs,e.subs[n].mine⟩
   simp only [TagD.cs,go_sem] at hcmp2
   have hjA:=hjA'
   refine qD [0,1,2,3,4,5,6,7,8,9,10,11,12,13,14,15,16,17,18,19,20,21,22,23,24,25,26,27,28,29,30,31,32] ?_
   refine qB (fun h6=>?_) fun h6=>?_
   ·refine aE (gX _ _ _ _) [] ?_
    refine⟨qC,ab 400 ?_⟩
    try simp (disch:=omega) only [go_sem,seval,hcmp2]
    refine qB (fun h7=>?_) fun h7=>?_
    ·rw [hb _ hin hjA (by rw [gj hk hn];simp [h6,h7]) hk hn]
     refine qX ?_
     refine aB [(0,9),(7,0),(8,0)] [(qU [1,8,0,1,9,3]),(qU [1,7,0,1,8,4]),(qU [1,6,0,1,7,5]),(qU [1,9,0,1,10,2])] zXk (qC) zXk ?_
     simp only [aM]
     refine⟨aa 400 ?_,aa 400 ?_,aa 400 ?_,aa 400 ?_⟩
     all_goals simp (disch:=omega) only [go_sem,seval]
     all_goals
      refine aE (j9 e.subs[n]) [] ?_
      refine qG ?_
      refine qP (qI 0 7++qI 10 7++qI 21 1) ?_
      first|exact⟨⟩|simp [hrd]
    rw [hf2 hin hjA (by rw [gj hk hn];simp [h6,h7])]
    refine qX ?_
    exact qF (qI 0 7++qI 10 7++qI 18 1)
   rw [hf2 hin hjA (by rw [gj hk hn];simp [h6])]
   refine qG ?_
   exact qF (qI 0 7++qI 10 7++qI 18 1)
  rw [hf (by simp [nG,h2])]
  refine qX ?_
  exact qF (qI 0 7++qI 10 7++qI 18 1)
 rw [hf (by simp [nG,h1])]
 refine qX ?_
 exact qF (qI 0 7++qI 10 7++qI 18 1)
end
section
open Go.RowKit
def Nm (g:Nat) (tab:List (List UInt8)) (β:Be) (h:Hp) (w:World):Prop:=
 g < w.heap.size/\(∀ (j:Nat) (l:List UInt8),tab[j]? =some l->w.cell? ⟨g,j,none⟩=some (.string ⟨l.toArray⟩))/\¬ Own β h g
def GE (g:Nat) (tab:List (List UInt8)) (E:Entry):Prop:=Nm g tab E.β E.h E.w
section
variable {P:Program} {g:Nat} {tab:List (List UInt8)}
theorem Nm.step {β β':Be} {h h':Hp} {w w':World} (hg:Nm g tab β h w) (hl:β.length=h.length) (hs:StepR β β' h h' w w'):Nm g tab β' h' w':=by
 have e:=hs.block g hg.1 hg.2.2
 refine⟨Nat.lt_of_lt_of_le hg.1 hs.size,fun j l hj=>?_,fun ho=>?_⟩
 ·have:=hg.2.1 j l hj
  simp only [World.cell?] at this⊢
  rw [e]
  exact this
 rcases hs.own hl ho with h|h
 ·exact hg.2.2 h
 exact absurd hg.1 zO
theorem GE.sim {E:Entry} {β:Be} {s:S} {a:Act} {w:World} (hG:GE g tab E) (hs:Sim E β s a w):Nm g tab β s.hp w:=Nm.step hG hs.ent hs.st
def oO (P:Program) (g:Nat) (tab:List (List UInt8)) (f:FuncId) (args:List AV) (h:Hp) (res:AV) (h':Hp):Prop:=
 BX P f/\∀ β w vs,Nm g tab β h w->HSim β h w->L2 (iq β) args vs->Calls P f vs.toArray w fun e w'=>∃ β' v,e=.returned v/\iq β' res v/\HSim β' h' w'/\StepR β β' h h' w w'
theorem tw {f:FuncId} {fn:Func} {c:Code} (hf:P.funcs[f]? =some fn) (hname:(fn.name == "runtime.NumGoroutine")=false) (hb:fn.body=some c) {args:List AV} {h h':Hp} {res:AV}
  (H:∀ E:Entry,GE g tab E->E.h.length=h.length->iA P E (B7 P fn.results.toList h.length res h') (.go [.code c] ⟨nR fn.ntmps args,h⟩ True)):oO P g tab f args h res h':=by
 refine⟨⟨fn,hf,hname,by rw [hb];rfl⟩,fun β w vs hg hs hvs=>?_⟩
 refine calls_of_wp hf hb ?_
 let E:Entry:=⟨β,h,w⟩
 have hd:=(H E hg rfl).2
 refine hd β _ w ⟨rfl,wg hvs,hs,hs.len,StepR.refl β h w hs.len⟩ _ fun e s' β' a' w' hK hs'=>?_
 have key:B7 P fn.results.toList h.length res h' s'->a'.defers=[]/\∃ v,(results fn a'.tmps).run P w'=.ok v w'/\∃ β'' u,Ending.returned v=.returned u/\iq β'' res u/\HSim β'' h' w'/\StepR β β'' h h' w w':=by
  intro⟨v,ρ,hr,hid,hsep,hav,hhp⟩
  obtain⟨u,hrun,hu⟩:=B6 hs'.hp hs'.sl hr
  have hw:nv ρ h.length ⟨[],h'⟩ ⟨[],s'.hp⟩:=⟨hid,hsep,trivial,hhp⟩
  have hsim:=wN (E:=E) rfl hw (β:=β') (a:=a') (w:=w') ⟨hs'.dfr,⟨fun i hi=>by simp [Slots.has] at hi,fun i x hx=>by simp [Slots.get] at hx⟩,hs'.hp,hs'.ent,hs'.st⟩
  exact⟨hs'.dfr,u,hrun,fZ β' ρ,u,rfl,AD hav hu,hsim.hp,hsim.st⟩
 cases e with
 |normal=>exact key hK
 |ret=>exact key hK
 |_=>exact hK.elim
theorem oO.e {E:Entry} (hG:GE g tab E) {f:FuncId} {args0 avs:List AV} {s h0':Hp} {res0:AV} (ct:oO P g tab f args0 [] res0 h0') (hm:rz [] args0 avs):GY P E f avs s (l5 [] s.length res0) (fu [] [] h0' s):=by
 refine⟨ct.1,fun β w vs hl hst hs hvs=>?_⟩
 have hg:=Nm.step hG hl hst
 exact DS [] hm (show lY [] s [] [] from trivial) rfl (fun vs h1 h2=>ct.2 _ w vs ⟨hg.1,hg.2.1,fun⟨o,ob,p,h,_⟩=>by simp at h⟩ h1 h2) hs hvs
theorem ms {E:Entry} {F:S->Prop} {f:FuncId} {avs:List AV} {d:Option Tmp} {k:List gz} {s:S} {c:Prop} {args0:List AV} {h0':Hp} {res0:AV} (hG:GE g tab E) (hc:c) (ct:oO P g tab f args0 [] res0 h0')
  (hm:rz [] args0 avs) (hk:iA P E F (.go k (s.put d (some (l5 [] s.hp.length res0)) (fu [] [] h0' s.hp)) True)):iA P E F (.call f avs d k s c):=
 ⟨hc,(ct.e hG hm).r hk.2⟩
theorem DA {f:FuncId} {args:List AV} {h h':Hp} {res:AV} (ct:ic P f args h res h'):oO P g tab f args h res h':=⟨ct.1,fun β w vs _ hs hv=>ct.2 β w vs hs hv⟩
theorem Lx {E:Entry} {F:S->Prop} {r:Array Oper} {o o2:Oper} {l:List Oper} {k:List gz} {s:S} {c:Prop} {T t n e i d d2:Nat} {m:Int} {x:List UInt8} (hG:GE g tab E)
  (ho:o.op=.indexAddr T (.global g) (.tmp i)) (hd:o.dst=some d) (hg:o.guard=none) (ho2:o2.op=.load t (.tmp d)) (hd2:o2.dst=some d2) (hg2:o2.guard=none)
  (hT:P.underlying T=some (.array n e)) (hz:eM P e=1) (hi:(P.info? e).isSome=true) (ht:dm P t=false) (hk:fO P t=true)
  (hj:s.sl.get i=some (.sc (.int .i64 m))) (h0:0<=m) (h1:m < n) (hx:tab[m.toNat]? =some x) (hc:c)
  (h:iA P E F (.go (.ops r l::k) ((s.put (some d) none s.hp).put (some d2) (some (.sc (.st x))) s.hp) True)) (hhas:s.sl.has d):iA P E F (.gl r o (o2::l) k s c):=by
 refine⟨hc,?_⟩
 intro β a w hs Q hQ
 have hgo:=hG.sim hs
 have hvi:a.eval (.tmp i)=.int .i64 m:=by
  obtain⟨u,hu,hr⟩:=hs.sl.2 i _ hj
  show a.tmps.getD i undef=_
  have:a.tmps.getD i undef=u:=by simp [Array.getD_eq_getD_getElem?,hu]
  rw [this]
  exact hr
 have hdlt:=hs.sl.1 d hhas
 refine my (by unfold Region.wanted;rw [hg]) ?_
 have hrun:(execOp a.eval o).run P w=.ok (.value (.pointer (some ⟨g,m.toNat,none⟩))) w:=by
  unfold execOp
  rw [ho]
  have hvg:a.eval (.global g)=.pointer (some ⟨g,0,none⟩):=rfl
  simp [hvi,hvg,Instr.indexAt,Instr.sureAddr,asIntOf,run_underlying hT,h0,h1,dY w hi,hz,Addr.add_lit]
 unfold Oper.wp
 rw [hrun]
 have hs1:=fK hs (StepR.refl β s.hp w hs.hp.len) hs.hp o.dst (.pointer (some ⟨g,m.toNat,none⟩))
 refine my (by unfold Region.wanted;rw [hg2]) ?_
 have hvd:(a.put o.dst (.pointer (some ⟨g,m.toNat,none⟩))).eval (.tmp d)=.pointer (some ⟨g,m.toNat,none⟩):=by
  rw [hd]
  show (a.tmps.setIfInBounds d _).getD d undef=_
  simp [Array.getD_eq_getD_getElem?,hdlt]
 obtain⟨dd,hdd⟩:=qh hk
 have hcell:=hgo.2.1 _ _ hx
 have hrun2:(execOp (a.put o.dst (.pointer (some ⟨g,m.toNat,none⟩))).eval o2).run P w=.ok (.value (.string ⟨x.toArray⟩)) w:=by
  unfold execOp
  rw [ho2]
  simp [hvd,Instr.loadAt,Instr.sureAddr,loadVar,gy w hdd,ht,hcell]
 unfold Oper.wp
 rw [hrun2]
 have e:(s.put o.dst none s.hp).hp=s.hp:=by cases o.dst<;>rfl
 have hs2:=iw hs1 (h':=s.hp) (by rw [e];exact StepR.refl β s.hp w hs.hp.len) hs.hp o2.dst (av:=.sc (.st x)) (v:=.string ⟨x.toArray⟩) rfl
 have hk2:wJ P E r l ((s.put o.dst none s.hp).put o2.dst (some (.sc (.st x))) s.hp) (KK P E (DO F) k .normal):=by rw [hd,hd2];exact h.2
 exact hk2 β _ w hs2 Q hQ
end
theorem Fq {P:Program} {g:Nat} {tab:List (List UInt8)} {f:FuncId} {args:List AV} {b:Bool} {h h':Hp} (ct:oO P g tab f args h (.sc (.bo b)) h') {β:Be} {w:World} (hno:∀ k,¬ Own β h k) (hs:HSim β h w) {vs:List Value} (hlt:g < w.heap.size)
  (hc:∀ (j:Nat) (l:List UInt8),tab[j]? =some l->w.cell? ⟨g,j,none⟩=some (.string ⟨l.toArray⟩)) (hvs:L2 (iq β) args vs):
  Calls P f vs.toArray w fun e w'=>e=.returned (.bool b)/\Below w.heap.size w w':=
 (ct.2 β w vs ⟨hlt,hc,hno g⟩ hs hvs).mono fun e w' ⟨β',v,he,hv,hh,hst⟩=>by
  have hv':v=.bool b:=hv
  subst hv'
  exact⟨he,⟨hst.os,hst.tape,hst.output,hst.size,fun k hk=>hst.block k hk (hno k)⟩⟩
end
end Go.Proofs.YtdiiopjaebnmfaaGreatDoor
