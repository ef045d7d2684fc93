/-
  Texts merged for this claim by shake.py: what its proof needs.
-/
import Derived.Test.YtjghbknhneffjaaGreatZFnBaseA
import Derived.Test.YtjghbknhneffjaaGreatZFnBaseB
set_option maxHeartbeats 16000000
set_option maxRecDepth 100000
set_option linter.unusedVariables false
set_option linter.unusedSimpArgs false
namespace Go.Proofs.YtjghbknhneffjaaGreat
section
open Go.RowKit
theorem jL (e:EndD) (x:LetterD) (hs:Small e):aP 146 [.ag (e.cs 0),.ag x.cs] (e.hp false) (.tu [.ag ((ay e x).1.cs 7),.sc (.sl 14 0 (ay e x).2.length)])
  (e.hp false++((ay e x).1.hp true++[some ⟨(ay e x).2.map LetterD.cs,19,48,true,true⟩])):=by
 have hC:=(qH (aj e))
 have hK:=(qH (au e))
 have hS:=cE e (roadOf x) (by have:=hs.subs;omega)
 have hL:=bT x
 have hbd:=fP e.subs (roadOf x)
 have hf:=Et (e:=e) (x:=x)
 have ht:=fun (n:Nat)=> @Eu e x n
 generalize ay e x=R at*
 refine qE Tryz.func146 Tryz.ntmps146 Tryz.results146 fun E hE=>?_
 refine qK (hC) (qI 0 7) ?_
 refine qD [0,1,2,3,4] ?_
 refine aQ (bg x) [] ?_
 refine aQ (hS) (qI 0 7) ?_
 refine qG ?_
 rcases hbd with hk|⟨hb0,hb1⟩
 ·rw [hf (Do hk),hk]
  refine qD [0,1,2,3,4,5,6,7,8,9,10,11,12,13,14,15,16,17,18,19,20,21,22,23,24,25,26,27,28,29,30,31,32,33,34,35,36,37,38,39,40,41,42,43] ?_
  refine aQ (hK) (qI 0 7) ?_
  refine qB (fun h1=>?_) fun h1=>?_
  ·refine aQ (hL) [] ?_
   refine qB (fun h2=>?_) fun h2=>?_
   ·refine qB (fun h3=>?_) fun h3=>?_
    ·refine qG ?_
     exact qF (qI 0 7++qI 10 7++qI 18 1)
    refine qG ?_
    exact qF (qI 0 7++qI 10 7++qI 18 1)
   refine qG ?_
   exact qF (qI 0 7++qI 10 7++qI 18 1)
  refine qG ?_
  exact qF (qI 0 7++qI 10 7++qI 18 1)
 obtain⟨n,hk⟩:=Int.eq_ofNat_of_zero_le hb0
 have hn:n < e.subs.length:=by omega
 have ha:=Dn hk hn
 have hcmp:=TagD.cmp x.tag ⟨1,e.peer,e.key,x.nonce,e.subs[n].mine⟩
 simp only [TagD.cs,go_sem] at hcmp
 rw [hk]
 refine qD [0,1,2,3,4,5,6,7,8,9,10,11,12,13,14,15,16,17,18,19,20,21,22,23,24,25,26,27,28,29,30,31,32,33,34,35,36,37,38,39,40,41,42,43] ?_
 refine aQ (hK) (qI 0 7) ?_
 refine qB (fun h1=>?_) fun h1=>?_
 ·refine aQ (hL) [] ?_
  refine qB (fun h2=>?_) fun h2=>?_
  ·refine qB (fun h3=>?_) fun h3=>?_
   ·refine qB (fun h4=>?_) fun h4=>?_
    ·refine aQ (dQ _ _ _ _) [] ?_
     refine⟨qC,ac 400 ?_⟩
     try simp (disch:=omega) only [go_sem,seval,hcmp]
     refine qB (fun h5=>?_) fun h5=>?_
     ·rw [hf (by rw [ha];simp [h1,h2,h3,h4,h5])]
      refine qX ?_
      exact qF (qI 0 7++qI 10 7++qI 18 1)
     rw [ht _ (by rw [ha];simp [h1,h2,h3,h4,h5]) hk hn]
     refine qX ?_
     refine aO [(0,10),(8,0),(9,0)] [(qU [1,9,0,1,10,3]),(qU [1,8,0,1,9,4]),(qU [1,7,0,1,8,5]),(qU [1,10,0,1,11,2])] (by kernel_rfl) (qC) (by kernel_rfl) ?_
     simp only [bm]
     refine⟨aa 400 ?_,aa 400 ?_,aa 400 ?_,aa 400 ?_⟩
     all_goals simp (disch:=omega) only [go_sem,seval]
     all_goals
      refine aQ (g_ { e with subs:=e.subs.set n (mD e.subs[n] x) } (mD e.subs[n] x)) (qI 10 7) ?_
      refine qG ?_
      refine qP (qI 0 7++qI 10 7++qI 20 1) ?_
      first|exact⟨⟩|simp [List.map_set,SubD.cs,mD,cb,aq,LetterD.cs]
    rw [hf (by rw [ha];simp [h1,h2,h3,h4])]
    refine qG ?_
    exact qF (qI 0 7++qI 10 7++qI 18 1)
   rw [hf (by rw [ha];simp [h1,h2,h3])]
   refine qG ?_
   exact qF (qI 0 7++qI 10 7++qI 18 1)
  rw [hf (by rw [ha];simp [h1,h2])]
  refine qG ?_
  exact qF (qI 0 7++qI 10 7++qI 18 1)
 rw [hf (by rw [ha];simp [h1])]
 refine qG ?_
 exact qF (qI 0 7++qI 10 7++qI 18 1)
theorem nO (e:EndD) (x:LetterD) (hs:Small e):aP 145 [.ag (e.cs 0),.ag x.cs] (e.hp false) (.tu [.ag ((br e x).1.cs 7),.sc (.sl 14 0 (br e x).2.length)])
  (e.hp false++((br e x).1.hp true++[some ⟨(br e x).2.map LetterD.cs,19,48,true,true⟩])):=by
 have hC:=(qH (aj e))
 have hK:=(qH (au e))
 have hH:=eB e.halfs (roadOf x) (by have:=hs.halfs;omega)
 have hO:=ej e x.to (by have:=hs.own;omega)
 have hT:=pW e.bucket
 have hL:=bT x
 have hTk:=iL e.side
 have hbH:=ix e.halfs (roadOf x)
 have hf:=Ex (e:=e) (x:=x)
 have hns:=fun i=> @Ey e x i
 have hnn:= @Ez e x
 have hok:=rF.eq_1 e x
 generalize br e x=R at*
 refine qE Tryz.func145 Tryz.ntmps145 Tryz.results145 fun E hE=>?_
 refine qK (hC) (qI 0 7) ?_
 refine qK (bg x) [] ?_
 refine qK (hH) (qI 3 1) ?_
 rcases hbH with hi|⟨hi0,hi1⟩
 ·rw [hi]
  refine qX ?_
  refine qD [0,1,2,3,4,5,6,7,8,9,10,11,12,13,14,15,16,17,18,19,20,21,22,23,24,25,26,27,28,29,30,31,32,33,34,35,36,37,38,39,40,41,42,43,44,45,46,47,48,49,50,51,52,53] ?_
  refine aQ (hK) (qI 0 7) ?_
  refine qB (fun h1=>?_) fun h1=>?_
  ·refine aQ (hL) [] ?_
   refine qB (fun h2=>?_) fun h2=>?_
   ·refine qB (fun h3=>?_) fun h3=>?_
    ·refine aQ (hTk) [] ?_
     refine qB (fun h4=>?_) fun h4=>?_
     ·refine aQ (hO) (qI 0 7) ?_
      refine qB (fun h5=>?_) fun h5=>?_
      ·refine qB (fun h6=>?_) fun h6=>?_
       ·refine qB (fun h7=>?_) fun h7=>?_
        ·refine aQ (dq e) (qI 0 7) ?_
         refine qB (fun h8=>?_) fun h8=>?_
         ·refine qG ?_
          refine qB (fun h9=>?_) fun h9=>?_
          ·rw [hf (by rw [hok];first|(simp [h1,h2,h3,h4,h5,h6,h8,h9,hi];done)|(simp [h1,h2,h3,h4,h5,h6,h8,h9,hi];intros;omega))]
           exact qF (qI 0 7++qI 10 7++qI 18 1)
          refine qX ?_
          refine qK (hT) [] ?_
          refine qB (fun h10=>?_) fun h10=>?_
          ·rw [hf (by rw [hok];first|(simp [h1,h2,h3,h4,h5,h6,h8,h9,h10,hi];done)|(simp [h1,h2,h3,h4,h5,h6,h8,h9,h10,hi];intros;omega))]
           exact qF (qI 0 7++qI 10 7++qI 18 1)
          have hnow:=kl h1
          have hok':rF e x=true:=by rw [hok];have:=ca (bU h1);have:=b_ h1;simp [h1,h2,h3,h4,h5,h6,h8,h9,h10,hi];try omega
          refine qX ?_
          have hsm:fg e x=false:=wQ hi
          refine qD [0,1,2,3,4,5,6,7,8,9,10,11,12,13,14,15,16,17,18,19,20,21,22,23] ?_
          refine qG ?_
          rw [hnn hok' hsm]
          refine qX ?_
          have hP:=eV e.halfs (aK e x) (by have:=ca (bU h1);omega)
          obtain⟨Q,hQ⟩:∃ Q,Q=bJ e.halfs (aK e x):=⟨_,rfl⟩
          rw [<-hQ] at hP⊢
          have hQl:Q.1.length<=1048576:=by rw [hQ];have:=ca (bU h1);have:=dN e.halfs (aK e x);unfold bJ;split<;>dsimp only<;>omega
          have h8':=h8
          simp only [bj,Bool.and_eq_true,decide_eq_true_eq] at h8'
          have hd1:bj e.draw 1 999999998=true:=by simp only [bj,Bool.and_eq_true,decide_eq_true_eq];omega
          have hd2:bj (e.draw+2) 1 999999998=true:=by simp only [bj,Bool.and_eq_true,decide_eq_true_eq];omega
          refine qK (aY { e with bucket:=(bI e.bucket).1 } ⟨hs.own,hs.far,hs.subs,hs.halfs,hs.list,hs.done,hs.over⟩ hd1) (qI 10 7) ?_
          refine qK (aY { e with bucket:=(bI e.bucket).1,draw:=e.draw+2 } ⟨hs.own,hs.far,hs.subs,hs.halfs,hs.list,hs.done,hs.over⟩ hd2) (qI 22 7) ?_
          refine qK (hP) (qI 32 1) ?_
          refine aO [(0,19),(11,0),(17,0),(18,0)] [(qU [1,10,12,4,11,1,16,3,0,1,19,3]),(qU [1,10,12,4,11,1,16,2,0,1,18,4]),(qU [1,10,12,4,11,1,16,1,0,1,17,5]),(qU [1,10,12,4,0,1,11,1,16,6]),(qU [1,10,12,4,11,1,16,4,0,1,20,2])] (by kernel_rfl) (qC) (by kernel_rfl) ?_
          simp only [bm]
          refine⟨aa 400 ?_,aa 400 ?_,aa 400 ?_,aa 400 ?_,aa 400 ?_⟩
          all_goals simp (disch:=omega) only [go_sem,seval]
          all_goals
           refine aQ (dQ _ _ _ _) [] ?_
           refine aQ (aw (roadOf x) { ah with kind:=5,tag:=⟨1,e.key,e.peer,(aK e x).mine,(aK e x).theirs⟩,nonce:=(aK e x).mine,give:=(aK e x).take }) [] ?_
           refine qG ?_
           refine aB (qI 0 7++qI 29 3++qI 36 1++qI 33 3++qI 38 1) (qC) _ (by simp only [go_sem];rfl) (by rfl) (by rfl) ?_
           simp (disch:=omega) only [go_sem,seval]
           try simp [List.map_set,HalfD.cs,kT,aK,aq,LetterD.cs,ah]
           try omega
         rw [hf (by rw [hok];first|(simp [h1,h2,h3,h4,h5,h6,h8,hi];done)|(simp [h1,h2,h3,h4,h5,h6,h8,hi];intros;omega))]
         refine qG ?_
         exact qF (qI 0 7++qI 10 7++qI 18 1)
        rw [hf (by rw [hok];first|(simp [h1,h2,h3,h4,h5,h6,h7,hi];done)|(simp [h1,h2,h3,h4,h5,h6,h7,hi];intros;omega))]
        refine qG ?_
        exact qF (qI 0 7++qI 10 7++qI 18 1)
       rw [hf (by rw [hok];first|(simp [h1,h2,h3,h4,h5,h6,hi];done)|(simp [h1,h2,h3,h4,h5,h6,hi];intros;omega))]
       refine qG ?_
       exact qF (qI 0 7++qI 10 7++qI 18 1)
      rw [hf (by rw [hok];first|(simp [h1,h2,h3,h4,h5,hi];done)|(simp [h1,h2,h3,h4,h5,hi];intros;omega))]
      refine qG ?_
      exact qF (qI 0 7++qI 10 7++qI 18 1)
     rw [hf (by rw [hok];first|(simp [h1,h2,h3,h4,hi];done)|(simp [h1,h2,h3,h4,hi];intros;omega))]
     refine qG ?_
     exact qF (qI 0 7++qI 10 7++qI 18 1)
    rw [hf (by rw [hok];first|(simp [h1,h2,h3,hi];done)|(simp [h1,h2,h3,hi];intros;omega))]
    refine qG ?_
    exact qF (qI 0 7++qI 10 7++qI 18 1)
   rw [hf (by rw [hok];first|(simp [h1,h2,hi];done)|(simp [h1,h2,hi];intros;omega))]
   refine qG ?_
   exact qF (qI 0 7++qI 10 7++qI 18 1)
  rw [hf (by rw [hok];first|(simp [h1,hi];done)|(simp [h1,hi];intros;omega))]
  refine qG ?_
  exact qF (qI 0 7++qI 10 7++qI 18 1)
 obtain⟨i,hi⟩:=Int.eq_ofNat_of_zero_le hi0
 have hil:i < e.halfs.length:=by omega
 rw [hi]
 refine qX ?_
 refine qD [0,1,2,3,4,5,6,7,8,9,10,11,12,13,14,15,16,17,18,19,20,21,22,23,24,25,26,27,28,29,30,31,32,33,34,35,36,37,38,39,40,41,42,43,44,45,46,47,48,49,50,51,52,53] ?_
 refine aQ (hK) (qI 0 7) ?_
 refine qB (fun h1=>?_) fun h1=>?_
 ·refine aQ (hL) [] ?_
  refine qB (fun h2=>?_) fun h2=>?_
  ·refine qB (fun h3=>?_) fun h3=>?_
   ·refine aQ (hTk) [] ?_
    refine qB (fun h4=>?_) fun h4=>?_
    ·refine aQ (hO) (qI 0 7) ?_
     refine qB (fun h5=>?_) fun h5=>?_
     ·refine qB (fun h6=>?_) fun h6=>?_
      ·refine aQ (dq e) (qI 0 7) ?_
       refine qB (fun h8=>?_) fun h8=>?_
       ·refine qG ?_
        refine qB (fun h9=>?_) fun h9=>?_
        ·rw [hf (by rw [hok];first|(simp [h1,h2,h3,h4,h5,h6,h8,h9,hi];done)|(simp [h1,h2,h3,h4,h5,h6,h8,h9,hi];intros;omega))]
         exact qF (qI 0 7++qI 10 7++qI 18 1)
        refine qX ?_
        refine qK (hT) [] ?_
        refine qB (fun h10=>?_) fun h10=>?_
        ·rw [hf (by rw [hok];first|(simp [h1,h2,h3,h4,h5,h6,h8,h9,h10,hi];done)|(simp [h1,h2,h3,h4,h5,h6,h8,h9,h10,hi];intros;omega))]
         exact qF (qI 0 7++qI 10 7++qI 18 1)
        have hnow:=kl h1
        have hok':rF e x=true:=by rw [hok];have:=ca (bU h1);have:=b_ h1;simp [h1,h2,h3,h4,h5,h6,h8,h9,h10,hi];try omega
        refine qX ?_
        refine qD [0,1,2,3,4,5,6,7,8,9,10,11,12,13,14,15,16,17,18,19,20,21,22,23] ?_
        refine qB (fun h11=>?_) fun h11=>?_
        ·refine qG ?_
         refine qB (fun h12=>?_) fun h12=>?_
         ·have hsm:fg e x=true:=by rw [ko hi hil];simp [h11,h12]
          rw [hns _ hok' hsm hi hil]
          have hrd:=rD hi hil
          have hP:=eV e.halfs { e.halfs[i] with till:=e.now+6 } (by have:=ca (bU h1);omega)
          rw [pZ (bU h1) hil (by simp only [gA,Bool.and_eq_true,decide_eq_true_eq];omega) (by rw [hrd];exact hi)] at hP
          refine qX ?_
          refine qK (hP) (qI 13 1) ?_
          refine aO [(0,19),(11,0),(17,0),(18,0)] [(qU [1,10,12,4,11,1,16,3,0,1,19,3]),(qU [1,10,12,4,11,1,16,2,0,1,18,4]),(qU [1,10,12,4,11,1,16,1,0,1,17,5]),(qU [1,10,12,4,0,1,11,1,16,6]),(qU [1,10,12,4,11,1,16,4,0,1,20,2])] (by kernel_rfl) (qC) (by kernel_rfl) ?_
          simp only [bm]
          refine⟨aa 400 ?_,aa 400 ?_,aa 400 ?_,aa 400 ?_,aa 400 ?_⟩
          all_goals simp (disch:=omega) only [go_sem,seval]
          all_goals
           refine aQ (dQ _ _ _ _) [] ?_
           refine aQ (aw (roadOf x) { ah with kind:=5,tag:=⟨1,e.key,e.peer,(e.halfs[i]).mine,(e.halfs[i]).theirs⟩,nonce:=(e.halfs[i]).mine,give:=(e.halfs[i]).take }) [] ?_
           refine qG ?_
           refine aB (qI 0 7++qI 10 3++qI 22 1++qI 14 3++qI 24 1) (qC) _ (by simp only [go_sem];rfl) (by rfl) (by rfl) ?_
           simp (disch:=omega) only [go_sem,seval]
           try simp [List.map_set,HalfD.cs,kT,aK,aq,LetterD.cs,ah]
           try omega
         have hsm:fg e x=false:=by rw [ko hi hil];simp [h11,h12]
         rw [hnn hok' hsm]
         refine qX ?_
         have hP:=eV e.halfs (aK e x) (by have:=ca (bU h1);omega)
         obtain⟨Q,hQ⟩:∃ Q,Q=bJ e.halfs (aK e x):=⟨_,rfl⟩
         rw [<-hQ] at hP⊢
         have hQl:Q.1.length<=1048576:=by rw [hQ];have:=ca (bU h1);have:=dN e.halfs (aK e x);unfold bJ;split<;>dsimp only<;>omega
         have h8':=h8
         simp only [bj,Bool.and_eq_true,decide_eq_true_eq] at h8'
         have hd1:bj e.draw 1 999999998=true:=by simp only [bj,Bool.and_eq_true,decide_eq_true_eq];omega
         have hd2:bj (e.draw+2) 1 999999998=true:=by simp only [bj,Bool.and_eq_true,decide_eq_true_eq];omega
         refine qK (aY { e with bucket:=(bI e.bucket).1 } ⟨hs.own,hs.far,hs.subs,hs.halfs,hs.list,hs.done,hs.over⟩ hd1) (qI 10 7) ?_
         refine qK (aY { e with bucket:=(bI e.bucket).1,draw:=e.draw+2 } ⟨hs.own,hs.far,hs.subs,hs.halfs,hs.list,hs.done,hs.over⟩ hd2) (qI 22 7) ?_
         refine qK (hP) (qI 32 1) ?_
         refine aO [(0,19),(11,0),(17,0),(18,0)] [(qU [1,10,12,4,11,1,16,3,0,1,19,3]),(qU [1,10,12,4,11,1,16,2,0,1,18,4]),(qU [1,10,12,4,11,1,16,1,0,1,17,5]),(qU [1,10,12,4,0,1,11,1,16,6]),(qU [1,10,12,4,11,1,16,4,0,1,20,2])] (by kernel_rfl) (qC) (by kernel_rfl) ?_
         simp only [bm]
         refine⟨aa 400 ?_,aa 400 ?_,aa 400 ?_,aa 400 ?_,aa 400 ?_⟩
         all_goals simp (disch:=omega) only [go_sem,seval]
         all_goals
          refine aQ (dQ _ _ _ _) [] ?_
          refine aQ (aw (roadOf x) { ah with kind:=5,tag:=⟨1,e.key,e.peer,(aK e x).mine,(aK e x).theirs⟩,nonce:=(aK e x).mine,give:=(aK e x).take }) [] ?_
          refine qG ?_
          refine aB (qI 0 7++qI 29 3++qI 36 1++qI 33 3++qI 38 1) (qC) _ (by simp only [go_sem];rfl) (by rfl) (by rfl) ?_
          simp (disch:=omega) only [go_sem,seval]
          try simp [List.map_set,HalfD.cs,kT,aK,aq,LetterD.cs,ah]
          try omega
        have hsm:fg e x=false:=by rw [ko hi hil];simp [h11]
        refine qG ?_
        rw [hnn hok' hsm]
        refine qX ?_
        have hP:=eV e.halfs (aK e x) (by have:=ca (bU h1);omega)
        obtain⟨Q,hQ⟩:∃ Q,Q=bJ e.halfs (aK e x):=⟨_,rfl⟩
        rw [<-hQ] at hP⊢
        have hQl:Q.1.length<=1048576:=by rw [hQ];have:=ca (bU h1);have:=dN e.halfs (aK e x);unfold bJ;split<;>dsimp only<;>omega
        have h8':=h8
        simp only [bj,Bool.and_eq_true,decide_eq_true_eq] at h8'
        have hd1:bj e.draw 1 999999998=true:=by simp only [bj,Bool.and_eq_true,decide_eq_true_eq];omega
        have hd2:bj (e.draw+2) 1 999999998=true:=by simp only [bj,Bool.and_eq_true,decide_eq_true_eq];omega
        refine qK (aY { e with bucket:=(bI e.bucket).1 } ⟨hs.own,hs.far,hs.subs,hs.halfs,hs.list,hs.done,hs.over⟩ hd1) (qI 10 7) ?_
        refine qK (aY { e with bucket:=(bI e.bucket).1,draw:=e.draw+2 } ⟨hs.own,hs.far,hs.subs,hs.halfs,hs.list,hs.done,hs.over⟩ hd2) (qI 22 7) ?_
        refine qK (hP) (qI 32 1) ?_
        refine aO [(0,19),(11,0),(17,0),(18,0)] [(qU [1,10,12,4,11,1,16,3,0,1,19,3]),(qU [1,10,12,4,11,1,16,2,0,1,18,4]),(qU [1,10,12,4,11,1,16,1,0,1,17,5]),(qU [1,10,12,4,0,1,11,1,16,6]),(qU [1,10,12,4,11,1,16,4,0,1,20,2])] (by kernel_rfl) (qC) (by kernel_rfl) ?_
        simp only [bm]
        refine⟨aa 400 ?_,aa 400 ?_,aa 400 ?_,aa 400 ?_,aa 400 ?_⟩
        all_goals simp (disch:=omega) only [go_sem,seval]
        all_goals
         refine aQ (dQ _ _ _ _) [] ?_
         refine aQ (aw (roadOf x) { ah with kind:=5,tag:=⟨1,e.key,e.peer,(aK e x).mine,(aK e x).theirs⟩,nonce:=(aK e x).mine,give:=(aK e x).take }) [] ?_
         refine qG ?_
         refine aB (qI 0 7++qI 29 3++qI 36 1++qI 33 3++qI 38 1) (qC) _ (by simp only [go_sem];rfl) (by rfl) (by rfl) ?_
         simp (disch:=omega) only [go_sem,seval]
         try simp [List.map_set,HalfD.cs,kT,aK,aq,LetterD.cs,ah]
         try omega
       rw [hf (by rw [hok];first|(simp [h1,h2,h3,h4,h5,h6,h8,hi];done)|(simp [h1,h2,h3,h4,h5,h6,h8,hi];intros;omega))]
       refine qG ?_
       exact qF (qI 0 7++qI 10 7++qI 18 1)
      rw [hf (by rw [hok];first|(simp [h1,h2,h3,h4,h5,h6,hi];done)|(simp [h1,h2,h3,h4,h5,h6,hi];intros;omega))]
      refine qG ?_
      exact qF (qI 0 7++qI 10 7++qI 18 1)
     rw [hf (by rw [hok];first|(simp [h1,h2,h3,h4,h5,hi];done)|(simp [h1,h2,h3,h4,h5,hi];intros;omega))]
     refine qG ?_
     exact qF (qI 0 7++qI 10 7++qI 18 1)
    rw [hf (by rw [hok];first|(simp [h1,h2,h3,h4,hi];done)|(simp [h1,h2,h3,h4,hi];intros;omega))]
    refine qG ?_
    exact qF (qI 0 7++qI 10 7++qI 18 1)
   rw [hf (by rw [hok];first|(simp [h1,h2,h3,hi];done)|(simp [h1,h2,h3,hi];intros;omega))]
   refine qG ?_
   exact qF (qI 0 7++qI 10 7++qI 18 1)
  rw [hf (by rw [hok];first|(simp [h1,h2,hi];done)|(simp [h1,h2,hi];intros;omega))]
  refine qG ?_
  exact qF (qI 0 7++qI 10 7++qI 18 1)
 rw [hf (by rw [hok];first|(simp [h1,hi];done)|(simp [h1,hi];intros;omega))]
 refine qG ?_
 exact qF (qI 0 7++qI 10 7++qI 18 1)
end
end Go.Proofs.YtjghbknhneffjaaGreat
