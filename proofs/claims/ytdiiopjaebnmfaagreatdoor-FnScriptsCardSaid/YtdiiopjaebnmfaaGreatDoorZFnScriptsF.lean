/- Lemmas of this claim. -/
import Derived.Test.YtdiiopjaebnmfaaGreatDoorZFnScriptsE
set_option maxHeartbeats 16000000
set_option maxRecDepth 100000
set_option linter.unusedVariables false
set_option linter.unusedSimpArgs false
namespace Go.Proofs.YtdiiopjaebnmfaaGreatDoor
open _root_.Go.Proofs.Tryz
open _root_.Int renaming eq_ofNat_of_zero_le->Ru
section
open Go.RowKit
theorem xM (e:EndD) (x:LetterD) (hs:Small e):aP 198 [.ag (e.cs 0),.ag x.cs] (e.hp false) (.tu [.ag ((cF e x).1.cs 7),.sc (.sl 14 0 (cF e x).2.length)])
  (e.hp false++((cF e x).1.hp true++[some ⟨(cF e x).2.map LetterD.cs,19,36,true,true⟩])):=by
 have hC:=(qH (aB e))
 have hK:=(qH (bb e))
 have hA:=eP e.far x.id (by have:=hs.far;omega)
 have hH:=fB e.over x.id (by have:=hs.over;omega)
 have hS:=e_ e x (by have:=hs.subs;omega)
 have hL:=bw x
 have hbs:=fA e x
 have hbA:=jj e.far x.id
 have hbd:=nk e x
 have hf:=vC (e:=e) (x:=x)
 have ht:=fun (n:Nat)=> @vD e x n
 have hok:=je.eq_1 e x
 generalize cF e x=R at*
 refine qE func198 ntmps198 results198 fun E hE=>?_
 refine qK (hC) (qI 0 7) ?_
 refine qK (hS) (qI 0 7) ?_
 have hcmp:=TagD.cmp x.tag ⟨3,e.peer,e.key,x.id,x.addr⟩
 simp only [TagD.cs,go_sem] at hcmp
 rcases hbs with hk|⟨hk0,hk1⟩
 ·rw [hk]
  refine qX ?_
  refine qD [0,1,2,3,4,5,6,7,8,9,10,11,12,13,14,15,16,17,18,19,20,21,22,23,24,25,26,27,28,29,30,31,32] ?_
  refine b_ (hK) (qI 0 7) ?_
  refine qB (fun h1=>?_) fun h1=>?_
  ·refine b_ (hL) [] ?_
   refine qB (fun h2=>?_) fun h2=>?_
   ·rw [hf (by rw [hok];have:=cQ (e:=e) (x:=x) (by rintro⟨_,_,hh⟩;omega);simp;omega)]
    refine qG ?_
    exact qF (qI 0 7++qI 10 7++qO 1)
   rw [hf (by rw [hok];have:=cQ (e:=e) (x:=x) (by rintro⟨_,hh,_⟩;rw [h2] at hh;cases hh);simp;omega)]
   refine qG ?_
   exact qF (qI 0 7++qI 10 7++qO 1)
  rw [hf (by rw [hok];have:=cQ (e:=e) (x:=x) (by rintro⟨hh,_⟩;rw [h1] at hh;cases hh);simp;omega)]
  refine qG ?_
  exact qF (qI 0 7++qI 10 7++qO 1)
 obtain⟨n,hk⟩:=Ru hk0
 have hn:n < e.subs.length:=zO
 rw [hk]
 refine qX ?_
 refine qD [0,1,2,3,4,5,6,7,8,9,10,11,12,13,14,15,16,17,18,19,20,21,22,23,24,25,26,27,28,29,30,31,32] ?_
 refine b_ (hK) (qI 0 7) ?_
 refine qB (fun h1=>?_) fun h1=>?_
 ·refine b_ (hL) [] ?_
  refine qB (fun h2=>?_) fun h2=>?_
  ·have hon:=ms h1 h2 hk
   have hq1:=h1
   refine b_ (pX _ _ _ _) [] ?_
   try simp (disch:=omega) only [go_sem,seval,hcmp]
   refine qB (fun h4=>?_) fun h4=>?_
   ·refine b_ (hH) (qI 6 1) ?_
    refine qG ?_
    refine qB (fun h5=>?_) fun h5=>?_
    ·rw [hf (by rw [hok];simp [h5])]
     refine qX ?_
     exact qF (qI 0 7++qI 10 7++qO 1)
    refine qX ?_
    refine qK (hA) (qI 1 1) ?_
    rcases hbA with hi|⟨hi0,hi1⟩
    ·rw [hi]
     refine qX ?_
     have hoth:=EJ hi
     refine qD [0,1,2,3,4,5,6,7,8,9,10,11,12] ?_
     refine qG ?_
     have hP:=ln e.far (ic x) (by have:=nl hq1;omega)
     obtain⟨Q,hQ⟩:∃ Q,Q=bi e.far (ic x):=⟨_,rfl⟩
     have hQl:Q.1.length<=1048576:=by rw [hQ];have:=nl hq1;have:=gT e.far (ic x);unfold bi;split<;>dsimp only<;>omega
     rw [<-hQ] at hP
     refine qX ?_
     refine qK (hP) (qI 1 1) ?_
     refine qB (fun h7=>?_) fun h7=>?_
     ·rw [hf (by rw [hok,<-hQ];simp [h7])]
      refine qX ?_
      exact qF (qI 0 7++qI 10 7++qO 1)
     rw [ht _ (by rw [hok,hoth,<-hQ];simp [hon,h4,h5,h7]) hon hn,<-hQ]
     refine qX ?_
     refine aQ [(15,16)] [(qU [0,2,3,11,2,1,14,4]),(qU [0,2,3,11,2,1,14,1,16,1,15,1,17,1])] (by kernel_rfl) (qC) (by kernel_rfl) ?_
     simp only [a_]
     refine⟨ab 400 ?_,ab 400 ?_⟩
     all_goals simp (disch:=omega) only [go_sem,seval]
     all_goals
      refine b_ (dN x) [] ?_
      refine b_ (bc (roadOf x) { ac with kind:=9,sgn:=e.subs[n].give,id:=x.id,addr:=x.addr }) [] ?_
      refine qG ?_
      refine qP (qI 0 7++qI 10 1++qI 18 1++qI 12 5++qI 19 1) ?_
      first|exact⟨⟩|simp [ti,aq,LetterD.cs]
    obtain⟨i,hi⟩:=Ru hi0
    have hil:i < e.far.length:=zO
    have hoth:=EK hi hil
    rw [hi]
    refine qX ?_
    refine qD [0,1,2,3,4,5,6,7,8,9,10,11,12] ?_
    refine qG ?_
    refine qB (fun h6=>?_) fun h6=>?_
    ·rw [hf (by rw [hok,hoth];simp [h6])]
     refine qX ?_
     exact qF (qI 0 7++qI 10 7++qO 1)
    simp only [h6,decide_true,Bool.not_true] at hoth
    have hP:=ln e.far (ic x) (by have:=nl hq1;omega)
    obtain⟨Q,hQ⟩:∃ Q,Q=bi e.far (ic x):=⟨_,rfl⟩
    have hQl:Q.1.length<=1048576:=by rw [hQ];have:=nl hq1;have:=gT e.far (ic x);unfold bi;split<;>dsimp only<;>omega
    rw [<-hQ] at hP
    refine qX ?_
    refine qK (hP) (qI 1 1) ?_
    refine qB (fun h7=>?_) fun h7=>?_
    ·rw [hf (by rw [hok,<-hQ];simp [h7])]
     refine qX ?_
     exact qF (qI 0 7++qI 10 7++qO 1)
    rw [ht _ (by rw [hok,hoth,<-hQ];simp [hon,h4,h5,h7]) hon hn,<-hQ]
    refine qX ?_
    refine aQ [(15,16)] [(qU [0,2,3,11,2,1,14,4]),(qU [0,2,3,11,2,1,14,1,16,1,15,1,17,1])] (by kernel_rfl) (qC) (by kernel_rfl) ?_
    simp only [a_]
    refine⟨ab 400 ?_,ab 400 ?_⟩
    all_goals simp (disch:=omega) only [go_sem,seval]
    all_goals
     refine b_ (dN x) [] ?_
     refine b_ (bc (roadOf x) { ac with kind:=9,sgn:=e.subs[n].give,id:=x.id,addr:=x.addr }) [] ?_
     refine qG ?_
     refine qP (qI 0 7++qI 10 1++qI 18 1++qI 12 5++qI 19 1) ?_
     first|exact⟨⟩|simp [ti,aq,LetterD.cs]
   rw [hf (by rw [hok];simp [h4])]
   refine qG ?_
   exact qF (qI 0 7++qI 10 7++qO 1)
  rw [hf (by rw [hok];have:=cQ (e:=e) (x:=x) (by rintro⟨_,hh,_⟩;rw [h2] at hh;cases hh);simp;omega)]
  refine qG ?_
  exact qF (qI 0 7++qI 10 7++qO 1)
 rw [hf (by rw [hok];have:=cQ (e:=e) (x:=x) (by rintro⟨hh,_⟩;rw [h1] at hh;cases hh);simp;omega)]
 refine qG ?_
 exact qF (qI 0 7++qI 10 7++qO 1)
theorem xN (e:EndD) (x:LetterD) (hs:Small e):aP 199 [.ag (e.cs 0),.ag x.cs] (e.hp false) (.tu [.ag ((cG e x).1.cs 7),.sc (.sl 14 0 (cG e x).2.length)])
  (e.hp false++((cG e x).1.hp true++[some ⟨(cG e x).2.map LetterD.cs,19,36,true,true⟩])):=by
 have hC:=(qH (aB e))
 have hK:=(qH (bb e))
 have hA:=eP e.own x.id (by have:=hs.own;omega)
 have hS:=e_ e x (by have:=hs.subs;omega)
 have hL:=bw x
 have hbs:=fA e x
 have hbA:=jj e.own x.id
 have hbd:=nk e x
 have hf:=vE (e:=e) (x:=x)
 have ht:=fun (n:Nat)=> @vF e x n
 have hok:=iv.eq_1 e x
 generalize cG e x=R at*
 refine qE func199 ntmps199 results199 fun E hE=>?_
 refine qK (hC) (qI 0 7) ?_
 refine qK (hA) (qI 0 1) ?_
 rcases hbA with hi|⟨hi0,hi1⟩
 ·rw [hi]
  refine qX ?_
  rcases hbs with hk|⟨hk0,hk1⟩
  ·refine qD [0,1,2,3,4,5,6,7,8,9,10,11,12,13,14,15,16,17,18,19,20,21,22,23,24,25,26] ?_
   refine b_ (hK) (qI 0 7) ?_
   refine qB (fun h1=>?_) fun h1=>?_
   ·refine b_ (hL) [] ?_
    refine qB (fun h2=>?_) fun h2=>?_
    ·refine b_ (hS) (qI 0 7) ?_
     rw [hk]
     refine qX ?_
     rw [hf (jk hi)]
     refine qG ?_
     exact qF (qI 0 7++qI 10 7++qO 1)
    rw [hf (jk hi)]
    refine qG ?_
    exact qF (qI 0 7++qI 10 7++qO 1)
   rw [hf (jk hi)]
   refine qG ?_
   exact qF (qI 0 7++qI 10 7++qO 1)
  obtain⟨n,hk⟩:=Ru hk0
  have hn:n < e.subs.length:=zO
  refine qD [0,1,2,3,4,5,6,7,8,9,10,11,12,13,14,15,16,17,18,19,20,21,22,23,24,25,26] ?_
  refine b_ (hK) (qI 0 7) ?_
  refine qB (fun h1=>?_) fun h1=>?_
  ·refine b_ (hL) [] ?_
   refine qB (fun h2=>?_) fun h2=>?_
   ·refine b_ (hS) (qI 0 7) ?_
    rw [hk]
    refine qX ?_
    have hon:=ms h1 h2 hk
    rw [hf (jk hi)]
    refine qG ?_
    exact qF (qI 0 7++qI 10 7++qO 1)
   rw [hf (jk hi)]
   refine qG ?_
   exact qF (qI 0 7++qI 10 7++qO 1)
  rw [hf (jk hi)]
  refine qG ?_
  exact qF (qI 0 7++qI 10 7++qO 1)
 obtain⟨i,hi⟩:=Ru hi0
 have hil:i < e.own.length:=zO
 rw [hi]
 refine qX ?_
 rcases hbs with hk|⟨hk0,hk1⟩
 ·refine qD [0,1,2,3,4,5,6,7,8,9,10,11,12,13,14,15,16,17,18,19,20,21,22,23,24,25,26] ?_
  refine b_ (hK) (qI 0 7) ?_
  refine qB (fun h1=>?_) fun h1=>?_
  ·refine b_ (hL) [] ?_
   refine qB (fun h2=>?_) fun h2=>?_
   ·refine b_ (hS) (qI 0 7) ?_
    rw [hk]
    refine qX ?_
    rw [hf (by rw [iw hi hil];have:=cQ (e:=e) (x:=x) (by rintro⟨_,_,hh⟩;omega);simp;omega)]
    refine qG ?_
    exact qF (qI 0 7++qI 10 7++qO 1)
   rw [hf (by rw [iw hi hil];have:=cQ (e:=e) (x:=x) (by rintro⟨_,hh,_⟩;rw [h2] at hh;cases hh);simp;omega)]
   refine qG ?_
   exact qF (qI 0 7++qI 10 7++qO 1)
  rw [hf (by rw [iw hi hil];have:=cQ (e:=e) (x:=x) (by rintro⟨hh,_⟩;rw [h1] at hh;cases hh);simp;omega)]
  refine qG ?_
  exact qF (qI 0 7++qI 10 7++qO 1)
 obtain⟨n,hk⟩:=Ru hk0
 have hn:n < e.subs.length:=zO
 refine qD [0,1,2,3,4,5,6,7,8,9,10,11,12,13,14,15,16,17,18,19,20,21,22,23,24,25,26] ?_
 refine b_ (hK) (qI 0 7) ?_
 refine qB (fun h1=>?_) fun h1=>?_
 ·refine b_ (hL) [] ?_
  refine qB (fun h2=>?_) fun h2=>?_
  ·refine b_ (hS) (qI 0 7) ?_
   rw [hk]
   refine qX ?_
   have hon:=ms h1 h2 hk
   refine qG ?_
   refine qB (fun h5=>?_) fun h5=>?_
   ·rw [ht _ (by rw [iw hi hil];simp [hon,h5]) hi hil]
    refine qX ?_
    refine qP (qI 0 7++qI 10 7++qO 1) ?_
    first|exact⟨⟩|simp [List.map_set,AddrD.cs]
   rw [hf (by rw [iw hi hil];simp [h5])]
   refine qX ?_
   exact qF (qI 0 7++qI 10 7++qO 1)
  rw [hf (by rw [iw hi hil];have:=cQ (e:=e) (x:=x) (by rintro⟨_,hh,_⟩;rw [h2] at hh;cases hh);simp;omega)]
  refine qG ?_
  exact qF (qI 0 7++qI 10 7++qO 1)
 rw [hf (by rw [iw hi hil];have:=cQ (e:=e) (x:=x) (by rintro⟨hh,_⟩;rw [h1] at hh;cases hh);simp;omega)]
 refine qG ?_
 exact qF (qI 0 7++qI 10 7++qO 1)
theorem xO (e:EndD) (x:LetterD) (hs:Small e):aP 200 [.ag (e.cs 0),.ag x.cs] (e.hp false) (.tu [.ag ((cH e x).1.cs 7),.sc (.sl 14 0 (cH e x).2.length)])
  (e.hp false++((cH e x).1.hp true++[some ⟨(cH e x).2.map LetterD.cs,19,36,true,true⟩])):=by
 have hC:=(qH (aB e))
 have hK:=(qH (bb e))
 have hA:=eP e.far x.id (by have:=hs.far;omega)
 have hD:=od e.far x.id (by have:=hs.far;omega)
 have hS:=e_ e x (by have:=hs.subs;omega)
 have hL:=bw x
 have hbs:=fA e x
 have hbA:=jj e.far x.id
 have hbd:=nk e x
 have hf:=EN (e:=e) (x:=x)
 have ht:=fun (n:Nat)=> @EO e x n
 have hok:=rY.eq_1 e x
 have hpl:=vB e.over x.id
 generalize cH e x=R at*
 refine qE func200 ntmps200 results200 fun E hE=>?_
 refine qK (hC) (qI 0 7) ?_
 refine qK (hA) (qI 1 1) ?_
 rcases hbA with hi|⟨hi0,hi1⟩
 ·rw [hi]
  refine qX ?_
  rcases hbs with hk|⟨hk0,hk1⟩
  ·refine qK (hK) (qI 0 7) ?_
   refine qB (fun h1=>?_) fun h1=>?_
   ·refine qK (hL) [] ?_
    refine qB (fun h2=>?_) fun h2=>?_
    ·refine qK (hS) (qI 0 7) ?_
     rw [hk]
     refine qX ?_
     rw [hf (by rw [hok];have:=cQ (e:=e) (x:=x) (by rintro⟨_,_,hh⟩;omega);simp;omega)]
     refine qX ?_
     exact qF (qI 0 7++qI 10 7++qO 1)
    rw [hf (by rw [hok];have:=cQ (e:=e) (x:=x) (by rintro⟨_,hh,_⟩;rw [h2] at hh;cases hh);simp;omega)]
    refine qX ?_
    exact qF (qI 0 7++qI 10 7++qO 1)
   rw [hf (by rw [hok];have:=cQ (e:=e) (x:=x) (by rintro⟨hh,_⟩;rw [h1] at hh;cases hh);simp;omega)]
   refine qX ?_
   exact qF (qI 0 7++qI 10 7++qO 1)
  obtain⟨n,hk⟩:=Ru hk0
  have hn:n < e.subs.length:=zO
  refine qK (hK) (qI 0 7) ?_
  refine qB (fun h1=>?_) fun h1=>?_
  ·refine qK (hL) [] ?_
   refine qB (fun h2=>?_) fun h2=>?_
   ·refine qK (hS) (qI 0 7) ?_
    rw [hk]
    refine qX ?_
    have hon:=ms h1 h2 hk
    have hq1:=h1
    rw [hf (by rw [hok];simp [hi])]
    refine qX ?_
    exact qF (qI 0 7++qI 10 7++qO 1)
   rw [hf (by rw [hok];have:=cQ (e:=e) (x:=x) (by rintro⟨_,hh,_⟩;rw [h2] at hh;cases hh);simp;omega)]
   refine qX ?_
   exact qF (qI 0 7++qI 10 7++qO 1)
  rw [hf (by rw [hok];have:=cQ (e:=e) (x:=x) (by rintro⟨hh,_⟩;rw [h1] at hh;cases hh);simp;omega)]
  refine qX ?_
  exact qF (qI 0 7++qI 10 7++qO 1)
 obtain⟨i,hi⟩:=Ru hi0
 have hil:i < e.far.length:=zO
 rw [hi]
 refine qX ?_
 rcases hbs with hk|⟨hk0,hk1⟩
 ·refine qK (hK) (qI 0 7) ?_
  refine qB (fun h1=>?_) fun h1=>?_
  ·refine qK (hL) [] ?_
   refine qB (fun h2=>?_) fun h2=>?_
   ·refine qK (hS) (qI 0 7) ?_
    rw [hk]
    refine qX ?_
    rw [hf (by rw [hok];have:=cQ (e:=e) (x:=x) (by rintro⟨_,_,hh⟩;omega);simp;omega)]
    refine qX ?_
    exact qF (qI 0 7++qI 10 7++qO 1)
   rw [hf (by rw [hok];have:=cQ (e:=e) (x:=x) (by rintro⟨_,hh,_⟩;rw [h2] at hh;cases hh);simp;omega)]
   refine qX ?_
   exact qF (qI 0 7++qI 10 7++qO 1)
  rw [hf (by rw [hok];have:=cQ (e:=e) (x:=x) (by rintro⟨hh,_⟩;rw [h1] at hh;cases hh);simp;omega)]
  refine qX ?_
  exact qF (qI 0 7++qI 10 7++qO 1)
 obtain⟨n,hk⟩:=Ru hk0
 have hn:n < e.subs.length:=zO
 refine qK (hK) (qI 0 7) ?_
 refine qB (fun h1=>?_) fun h1=>?_
 ·refine qK (hL) [] ?_
  refine qB (fun h2=>?_) fun h2=>?_
  ·refine qK (hS) (qI 0 7) ?_
   rw [hk]
   refine qX ?_
   have hon:=ms h1 h2 hk
   have hq1:=h1
   rw [ht _ (by rw [hok];simp [hon,hi]) hi hil]
   have hdl:(bN e.far x.id).1.length<=e.far.length:=by rw [oL hi];simp;omega
   refine qX ?_
   refine qK (hD) (qI 1 1) ?_
   refine qK (Cl e.over x.id (by have:=EP hq1;omega)) (qI 6 1) ?_
   refine ee 7 hE (fun s (k:Nat)=>s.at (qU [0,4,7,1,9,50,61,17]) [(60,.sc (.int .i64 (k:Nat)))] (s.hp.set 12 (some ⟨(gq e.far[i].addr e.subs k).map SubD.cs,10,115,true,true⟩))) (fun (k:Nat)=>k<=e.subs.length) (fun (k:Nat)=>e.subs.length - k) 0 (qI 0 20) (qC) (Nat.zero_le _) (ay zF zF ?_) fun k hk N hN=>?_
   ·refine qX ?_
    rw [EM]
   refine aa 400 ?_
   have hsb:=hs.subs
   have hgl:(gq e.far[i].addr e.subs k).length=e.subs.length:=HU
   refine qX ?_
   refine qB (fun h=>?_) fun h=>?_
   ·have hg:∀ p:k < (gq e.far[i].addr e.subs k).length,(gq e.far[i].addr e.subs k)[k]'p=e.subs[k]:=by
     intro p
     have hq:=Kb (a:=e.far[i].addr) h
     rw [List.getElem?_eq_getElem p] at hq
     exact Option.some.inj hq
    try simp (disch:=omega) only [go_sem,seval,hg]
    refine qB (fun h9=>?_) fun h9=>?_
    ·refine qX ?_
     refine⟨qC,hN _ (k+1) (qI 0 20) (by (try dsimp only);exact by omega) (by (try dsimp only);omega) (ay zF zF ?_)⟩
     refine qX ?_
     rw [<-HV h,List.map_set]
     simp [lS,h9,hg,SubD.cs]
    refine qX ?_
    refine⟨qC,hN _ (k+1) (qI 0 20) (by (try dsimp only);exact by omega) (by (try dsimp only);omega) (ay zF zF ?_)⟩
    refine qX ?_
    rw [EL h h9]
   have hkl:k=e.subs.length:=zO
   subst hkl
   rw [HW]
   refine qX ?_
   exact qF (qI 0 7++qI 10 1++qI 18 1++qI 12 4++qI 19 1++qO 1)
  rw [hf (by rw [hok];have:=cQ (e:=e) (x:=x) (by rintro⟨_,hh,_⟩;rw [h2] at hh;cases hh);simp;omega)]
  refine qX ?_
  exact qF (qI 0 7++qI 10 7++qO 1)
 rw [hf (by rw [hok];have:=cQ (e:=e) (x:=x) (by rintro⟨hh,_⟩;rw [h1] at hh;cases hh);simp;omega)]
 refine qX ?_
 exact qF (qI 0 7++qI 10 7++qO 1)
def pols:List PolicyD:=[⟨1,0⟩,⟨2,1⟩,⟨2,2⟩,⟨2,3⟩,⟨2,4⟩,⟨3,0⟩]
theorem wP (b:List UInt8) (c:CurD) (hc:c.ok b):∃ (p:PolicyD) (c':CurD),c'.ok b/\p∈pols/\aP 18 [.sc (.pt 1 0 0)] (c.hp b) (.ag p.cs) (c'.hp b):=by
 have h3:=aA b c hc 3
 have o3:=CurD.below_ok hc 3
 have b3:=c.below_lt b (n:=3) zO
 generalize c.below b 3=r3 at h3 o3 b3
 obtain⟨v,c1⟩:=r3
 dsimp only at h3 o3 b3
 have hv:v=0\/v=1\/v=2:=zO
 rcases hv with rfl|rfl|rfl
 ·refine⟨⟨1,0⟩,c1,o3,by decide,?_⟩
  refine qE func18 ntmps18 results18 fun E hE=>?_
  refine qK (h3) (qI 0 2) ?_
  exact qF (qI 0 2)
 ·have h4:=aA b c1 o3 4
  have o4:=CurD.below_ok o3 4
  have b4:=c1.below_lt b (n:=4) zO
  generalize c1.below b 4=r4 at h4 o4 b4
  obtain⟨u,c2⟩:=r4
  dsimp only at h4 o4 b4
  refine⟨⟨2,1+u⟩,c2,o4,?_,?_⟩
  ·have hu:u=0\/u=1\/u=2\/u=3:=zO
   rcases hu with rfl|rfl|rfl|rfl<;>decide
  refine qE func18 ntmps18 results18 fun E hE=>?_
  refine qK (h3) (qI 0 2) ?_
  refine qK (h4) (qI 0 2) ?_
  exact qF (qI 0 2)
 refine⟨⟨3,0⟩,c1,o3,by decide,?_⟩
 refine qE func18 ntmps18 results18 fun E hE=>?_
 refine qK (h3) (qI 0 2) ?_
 exact qF (qI 0 2)
def wX (acc:nZ):List LetterD->nZ
 |[]=>acc
 |x::r=>wX (acc++[32]++cr x.kind) r
def Qc (l:List LetterD):nZ:=wX [98,97,103] l
def dt (w:WorldD):List nZ:=gL w.a++gL w.b++[Qc w.bag]
theorem Fm {l:List LetterD} {acc:nZ} {k:Nat} (h:k < l.length):wX acc (l.drop k)=wX (acc++[32]++cr l[k].kind) (l.drop (k+1)):=by
 rw [List.drop_eq_getElem_cons h,wX]
theorem mO (w:WorldD):(dt w).length=(gL w.a).length+(gL w.b).length+1:=by
 simp [dt]
 omega
theorem LetterD.wf_kind {x:LetterD} (h:x.wf):aR x.kind:=h.1
theorem kI (w:WorldD) (ha:w.a.wf) (hb:w.b.wf) (hlet:∀ y∈w.bag,LetterD.wf y) (hbag:w.bag.length<=1048576) (ha0:w.a.subs.length<=1048576) (ha1:w.a.own.length<=1048576) (ha2:w.a.far.length<=1048576) (hb0:w.b.subs.length<=1048576) (hb1:w.b.own.length<=1048576) (hb2:w.b.far.length<=1048576):aP 11 [.ag (w.cs 0)] (w.hp false) (.sc (.sl 21 0 (dt w).length)) (w.hp false++[some ⟨(dt w).map aM,1,9,true,true⟩]):=by
 have la:=fL w.a
 have lb:=fL w.b
 refine qE func11 ntmps11 results11 fun E hE=>?_
 refine kw 21 hE (fun s (x:Nat×nZ)=>s.at (qU [0,1,5,2,10,10]) [(9,.sc (.int .i64 (x.1:Nat))),(3,.sc (.st x.2))] (s.hp)) (fun (x:Nat×nZ)=>x.1<=w.bag.length/\x.2.length<=3+22*x.1/\wX x.2 (w.bag.drop x.1)=Qc w.bag) (fun (x:Nat×nZ)=>w.bag.length - x.1) (0,[98,97,103]) (qI 0 22) (⟨Nat.zero_le _,by decide,rfl⟩) fun x hx N hN=>?_
 obtain⟨k,acc⟩:=x
 obtain⟨hk1,hk2,hk3⟩:=hx
 dsimp only at hk1 hk2 hk3
 refine qR ?_
 refine qB (fun h=>?_) fun h=>?_
 ·rw [Fm h] at hk3
  have hs:=LetterD.wf_kind (hlet _ (List.getElem_mem h))
  have dk:=bL hs
  refine qX ?_
  refine qK (aK _ hs) [] ?_
  refine Bo hN (k+1,acc++[32]++cr w.bag[k].kind) (qI 0 22) (by (try dsimp only);exact⟨zO,by simp;omega,hk3⟩) ?_
  first|exact⟨⟩|simp
 rw [List.drop_eq_nil_of_le zO,wX] at hk3
 subst hk3
 refine qX ?_
 refine aQ [(2,8),(5,8),(6,8)] [[0,1,3,4,7,2,5,6,8,9,10],[0,1,3,4,7,2,5,8,6,9,10],[0,1,3,4,7,2,8,5,6,9,10],[0,1,3,4,7,8,2,5,6,9,10]] (by kernel_rfl) (qC) (by kernel_rfl) ?_
 simp only [a_]
 refine⟨?_,?_,?_,?_⟩
 ·refine ab 400 ?_
  refine qX ?_
  refine b_ (dM w.a ha ha0 ha1 ha2) (qI 0 7) ?_
  refine b_ (dM w.b hb hb0 hb1 hb2) (qI 7 7) ?_
  refine qG ?_
  refine ai (qI 0 21++qI 26 1) (qC) _ (by simp only [go_sem];rfl) zF zF ?_
  simp (disch:=omega) only [go_sem,seval]
  try simp [dt,aM]
  try omega
 ·refine ab 400 ?_
  refine qX ?_
  refine b_ (dM w.a ha ha0 ha1 ha2) (qI 0 7) ?_
  refine b_ (dM w.b hb hb0 hb1 hb2) (qI 7 7) ?_
  refine qG ?_
  refine ai (qI 0 21++qI 26 1) (qC) _ (by simp only [go_sem];rfl) zF zF ?_
  simp (disch:=omega) only [go_sem,seval]
  try simp [dt,aM]
  try omega
 ·refine ab 400 ?_
  refine qX ?_
  refine b_ (dM w.a ha ha0 ha1 ha2) (qI 0 7) ?_
  refine b_ (dM w.b hb hb0 hb1 hb2) (qI 7 7) ?_
  refine qG ?_
  refine ai (qI 0 21++qI 26 1) (qC) _ (by simp only [go_sem];rfl) zF zF ?_
  simp (disch:=omega) only [go_sem,seval]
  try simp [dt,aM]
  try omega
 refine ab 400 ?_
 refine qX ?_
 refine b_ (dM w.a ha ha0 ha1 ha2) (qI 0 7) ?_
 refine b_ (dM w.b hb hb0 hb1 hb2) (qI 7 7) ?_
 refine qG ?_
 refine ai (qI 0 21++qI 26 1) (qC) _ (by simp only [go_sem];rfl) zF zF ?_
 simp (disch:=omega) only [go_sem,seval]
 try simp [dt,aM]
 try omega
end
end Go.Proofs.YtdiiopjaebnmfaaGreatDoor
