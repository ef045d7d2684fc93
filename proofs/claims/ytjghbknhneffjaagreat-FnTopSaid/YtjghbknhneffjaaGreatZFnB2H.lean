/-
  Texts merged for this claim by shake.py: what its proof needs.
-/
import Derived.Test.YtjghbknhneffjaaGreatZFnBaseL
import Derived.Test.YtjghbknhneffjaaGreatZFnBaseM
import Derived.Test.YtjghbknhneffjaaGreatZFnBaseN
import Derived.Test.YtjghbknhneffjaaGreatZFnB2A
import Derived.Test.YtjghbknhneffjaaGreatZFnB2B
import Derived.Test.YtjghbknhneffjaaGreatZFnB2C
set_option maxHeartbeats 16000000
set_option maxRecDepth 100000
set_option linter.unusedVariables false
set_option linter.unusedSimpArgs false
namespace Go.Proofs.YtjghbknhneffjaaGreat
section
open Go.RowKit
section
variable {P:Program} {β:Be} {s:S} {a:Act} {w:World} {o:Oper} {r:OpR} {ty:TypeId}
end
end
section
open Go.RowKit
theorem ky (e:EndD) (x:LetterD) (hs:Small e):aP 127 [.ag (e.cs 0),.ag x.cs] (e.hp false) (.tu [.ag ((br e x).1.cs 7),.sc (.sl 14 0 (br e x).2.length)])
  (e.hp false++((br e x).1.hp true++[some ⟨(br e x).2.map LetterD.cs,19,48,true,true⟩])):=by
 have hC:=(qH (jF e))
 have hK:=(qH (ap e))
 have hH:=cT e.halfs (roadOf x) (by have:=hs.halfs;omega)
 have hO:=cl e x.to (by have:=hs.own;omega)
 have hT:=nn e.bucket
 have hL:=a1 x
 have hTk:=d6 e.side
 have hbH:=ix e.halfs (roadOf x)
 have hf:=Ex (e:=e) (x:=x)
 have hns:=fun i=> @Ey e x i
 have hnn:= @Ez e x
 have hok:=rF.eq_1 e x
 generalize br e x=R at*
 refine qE Tryz.func127 Tryz.ntmps127 Tryz.results127 fun E hE=>?_
 refine qK (hC) (qI 0 7) ?_
 refine qK (a5 x) [] ?_
 refine qK (hH) (qI 3 1) ?_
 rcases hbH with hi|⟨hi0,hi1⟩
 ·rw [hi]
  refine qX ?_
  refine qD [0,1,2,3,4,5,6,7,8,9,10,11,12,13,14,15,16,17,18,19,20,21,22,23,24,25,26,27,28,29,30,31,32,33,34,35,36,37,38,39,40,41,42,43,44,45,46,47,48,49,50,51,52,53] ?_
  refine aQ (hK) (qI 0 7) ?_
  refine qB (fun h1=>?_) fun h1=>?_
  ·refine aQ (hL) [] ?_
   refine qB (fun h2=>?_) fun h2=>?_
   ·refine qB (fun h3=>?_) fun h3=>?_
    ·refine aQ (hTk) [] ?_
     refine qB (fun h4=>?_) fun h4=>?_
     ·refine aQ (hO) (qI 0 7) ?_
      refine qB (fun h5=>?_) fun h5=>?_
      ·refine qB (fun h6=>?_) fun h6=>?_
       ·refine qB (fun h7=>?_) fun h7=>?_
        ·refine aQ (bp e) (qI 0 7) ?_
         refine qB (fun h8=>?_) fun h8=>?_
         ·refine qG ?_
          refine qB (fun h9=>?_) fun h9=>?_
          ·rw [hf (by rw [hok];first|(simp [h1,h2,h3,h4,h5,h6,h8,h9,hi];done)|(simp [h1,h2,h3,h4,h5,h6,h8,h9,hi];intros;omega))]
           exact qF (qI 0 7++qI 10 7++qO 1)
          refine qX ?_
          refine qK (hT) [] ?_
          refine qB (fun h10=>?_) fun h10=>?_
          ·rw [hf (by rw [hok];first|(simp [h1,h2,h3,h4,h5,h6,h8,h9,h10,hi];done)|(simp [h1,h2,h3,h4,h5,h6,h8,h9,h10,hi];intros;omega))]
           exact qF (qI 0 7++qI 10 7++qO 1)
          have hnow:=kl h1
          have hok':rF e x=true:=by rw [hok];have:=ca (bU h1);have:=b_ h1;simp [h1,h2,h3,h4,h5,h6,h8,h9,h10,hi];try omega
          refine qX ?_
          have hsm:fg e x=false:=wQ hi
          refine qD [0,1,2,3,4,5,6,7,8,9,10,11,12,13,14,15,16,17,18,19,20,21,22,23] ?_
          refine qG ?_
          rw [hnn hok' hsm]
          refine qX ?_
          have hP:=db e.halfs (aK e x) (by have:=ca (bU h1);omega)
          obtain⟨Q,hQ⟩:∃ Q,Q=bJ e.halfs (aK e x):=⟨_,rfl⟩
          rw [<-hQ] at hP⊢
          have hQl:Q.1.length<=1048576:=by rw [hQ];have:=ca (bU h1);have:=dN e.halfs (aK e x);unfold bJ;split<;>dsimp only<;>omega
          refine qK (b9 { e with bucket:=(bI e.bucket).1 } h8) (qI 10 8) ?_
          refine qK (hP) (qI 13 1) ?_
          refine aO [(17,18)] [(qU [0,10,11,4,10,1,15,5]),(qU [0,10,11,4,10,1,15,2,18,1,17,1,19,1])] (by kernel_rfl) (qC) (by kernel_rfl) ?_
          simp only [bm]
          refine⟨aa 400 ?_,aa 400 ?_⟩
          all_goals simp (disch:=omega) only [go_sem,seval]
          all_goals
           refine aQ (b8 _ _ _ _) [] ?_
           refine aQ (a0 (roadOf x) { ah with kind:=5,tag:=⟨1,e.key,e.peer,(aK e x).mine,(aK e x).theirs⟩,nonce:=(aK e x).mine,give:=(aK e x).take }) [] ?_
           refine qG ?_
           refine aB (qI 0 7++qI 10 3++qI 21 1++qI 14 3++qI 22 1) (qC) _ (by simp only [go_sem];rfl) (by rfl) (by rfl) ?_
           simp (disch:=omega) only [go_sem,seval]
           try simp [List.map_set,HalfD.cs,kT,aK,aq,LetterD.cs,ah]
           try omega
         rw [hf (by rw [hok];first|(simp [h1,h2,h3,h4,h5,h6,h8,hi];done)|(simp [h1,h2,h3,h4,h5,h6,h8,hi];intros;omega))]
         refine qG ?_
         exact qF (qI 0 7++qI 10 7++qO 1)
        rw [hf (by rw [hok];first|(simp [h1,h2,h3,h4,h5,h6,h7,hi];done)|(simp [h1,h2,h3,h4,h5,h6,h7,hi];intros;omega))]
        refine qG ?_
        exact qF (qI 0 7++qI 10 7++qO 1)
       rw [hf (by rw [hok];first|(simp [h1,h2,h3,h4,h5,h6,hi];done)|(simp [h1,h2,h3,h4,h5,h6,hi];intros;omega))]
       refine qG ?_
       exact qF (qI 0 7++qI 10 7++qO 1)
      rw [hf (by rw [hok];first|(simp [h1,h2,h3,h4,h5,hi];done)|(simp [h1,h2,h3,h4,h5,hi];intros;omega))]
      refine qG ?_
      exact qF (qI 0 7++qI 10 7++qO 1)
     rw [hf (by rw [hok];first|(simp [h1,h2,h3,h4,hi];done)|(simp [h1,h2,h3,h4,hi];intros;omega))]
     refine qG ?_
     exact qF (qI 0 7++qI 10 7++qO 1)
    rw [hf (by rw [hok];first|(simp [h1,h2,h3,hi];done)|(simp [h1,h2,h3,hi];intros;omega))]
    refine qG ?_
    exact qF (qI 0 7++qI 10 7++qO 1)
   rw [hf (by rw [hok];first|(simp [h1,h2,hi];done)|(simp [h1,h2,hi];intros;omega))]
   refine qG ?_
   exact qF (qI 0 7++qI 10 7++qO 1)
  rw [hf (by rw [hok];first|(simp [h1,hi];done)|(simp [h1,hi];intros;omega))]
  refine qG ?_
  exact qF (qI 0 7++qI 10 7++qO 1)
 obtain⟨i,hi⟩:=Int.eq_ofNat_of_zero_le hi0
 have hil:i < e.halfs.length:=by omega
 rw [hi]
 refine qX ?_
 refine qD [0,1,2,3,4,5,6,7,8,9,10,11,12,13,14,15,16,17,18,19,20,21,22,23,24,25,26,27,28,29,30,31,32,33,34,35,36,37,38,39,40,41,42,43,44,45,46,47,48,49,50,51,52,53] ?_
 refine aQ (hK) (qI 0 7) ?_
 refine qB (fun h1=>?_) fun h1=>?_
 ·refine aQ (hL) [] ?_
  refine qB (fun h2=>?_) fun h2=>?_
  ·refine qB (fun h3=>?_) fun h3=>?_
   ·refine aQ (hTk) [] ?_
    refine qB (fun h4=>?_) fun h4=>?_
    ·refine aQ (hO) (qI 0 7) ?_
     refine qB (fun h5=>?_) fun h5=>?_
     ·refine qB (fun h6=>?_) fun h6=>?_
      ·refine aQ (bp e) (qI 0 7) ?_
       refine qB (fun h8=>?_) fun h8=>?_
       ·refine qG ?_
        refine qB (fun h9=>?_) fun h9=>?_
        ·rw [hf (by rw [hok];first|(simp [h1,h2,h3,h4,h5,h6,h8,h9,hi];done)|(simp [h1,h2,h3,h4,h5,h6,h8,h9,hi];intros;omega))]
         exact qF (qI 0 7++qI 10 7++qO 1)
        refine qX ?_
        refine qK (hT) [] ?_
        refine qB (fun h10=>?_) fun h10=>?_
        ·rw [hf (by rw [hok];first|(simp [h1,h2,h3,h4,h5,h6,h8,h9,h10,hi];done)|(simp [h1,h2,h3,h4,h5,h6,h8,h9,h10,hi];intros;omega))]
         exact qF (qI 0 7++qI 10 7++qO 1)
        have hnow:=kl h1
        have hok':rF e x=true:=by rw [hok];have:=ca (bU h1);have:=b_ h1;simp [h1,h2,h3,h4,h5,h6,h8,h9,h10,hi];try omega
        refine qX ?_
        refine qD [0,1,2,3,4,5,6,7,8,9,10,11,12,13,14,15,16,17,18,19,20,21,22,23] ?_
        refine qB (fun h11=>?_) fun h11=>?_
        ·refine qG ?_
         refine qB (fun h12=>?_) fun h12=>?_
         ·have hsm:fg e x=true:=by rw [ko hi hil];simp [h11,h12]
          rw [hns _ hok' hsm hi hil]
          have hrd:=rD hi hil
          refine qX ?_
          refine aO [(17,18)] [(qU [0,10,11,4,10,1,15,5]),(qU [0,10,11,4,10,1,15,2,18,1,17,1,19,1])] (by kernel_rfl) (qC) (by kernel_rfl) ?_
          simp only [bm]
          refine⟨aa 400 ?_,aa 400 ?_⟩
          all_goals simp (disch:=omega) only [go_sem,seval]
          all_goals
           refine aQ (b8 _ _ _ _) [] ?_
           refine aQ (a0 (roadOf x) { ah with kind:=5,tag:=⟨1,e.key,e.peer,(e.halfs[i]).mine,(e.halfs[i]).theirs⟩,nonce:=(e.halfs[i]).mine,give:=(e.halfs[i]).take }) [] ?_
           refine qG ?_
           refine aB (qI 0 7++qI 10 7++qI 21 1) (qC) _ (by simp only [go_sem];rfl) (by rfl) (by rfl) ?_
           simp (disch:=omega) only [go_sem,seval]
           try simp [List.map_set,HalfD.cs,kT,aK,aq,LetterD.cs,ah]
           try omega
         have hsm:fg e x=false:=by rw [ko hi hil];simp [h11,h12]
         rw [hnn hok' hsm]
         refine qX ?_
         have hP:=db e.halfs (aK e x) (by have:=ca (bU h1);omega)
         obtain⟨Q,hQ⟩:∃ Q,Q=bJ e.halfs (aK e x):=⟨_,rfl⟩
         rw [<-hQ] at hP⊢
         have hQl:Q.1.length<=1048576:=by rw [hQ];have:=ca (bU h1);have:=dN e.halfs (aK e x);unfold bJ;split<;>dsimp only<;>omega
         refine qK (b9 { e with bucket:=(bI e.bucket).1 } h8) (qI 10 8) ?_
         refine qK (hP) (qI 13 1) ?_
         refine aO [(17,18)] [(qU [0,10,11,4,10,1,15,5]),(qU [0,10,11,4,10,1,15,2,18,1,17,1,19,1])] (by kernel_rfl) (qC) (by kernel_rfl) ?_
         simp only [bm]
         refine⟨aa 400 ?_,aa 400 ?_⟩
         all_goals simp (disch:=omega) only [go_sem,seval]
         all_goals
          refine aQ (b8 _ _ _ _) [] ?_
          refine aQ (a0 (roadOf x) { ah with kind:=5,tag:=⟨1,e.key,e.peer,(aK e x).mine,(aK e x).theirs⟩,nonce:=(aK e x).mine,give:=(aK e x).take }) [] ?_
          refine qG ?_
          refine aB (qI 0 7++qI 10 3++qI 21 1++qI 14 3++qI 22 1) (qC) _ (by simp only [go_sem];rfl) (by rfl) (by rfl) ?_
          simp (disch:=omega) only [go_sem,seval]
          try simp [List.map_set,HalfD.cs,kT,aK,aq,LetterD.cs,ah]
          try omega
        have hsm:fg e x=false:=by rw [ko hi hil];simp [h11]
        refine qG ?_
        rw [hnn hok' hsm]
        refine qX ?_
        have hP:=db e.halfs (aK e x) (by have:=ca (bU h1);omega)
        obtain⟨Q,hQ⟩:∃ Q,Q=bJ e.halfs (aK e x):=⟨_,rfl⟩
        rw [<-hQ] at hP⊢
        have hQl:Q.1.length<=1048576:=by rw [hQ];have:=ca (bU h1);have:=dN e.halfs (aK e x);unfold bJ;split<;>dsimp only<;>omega
        refine qK (b9 { e with bucket:=(bI e.bucket).1 } h8) (qI 10 8) ?_
        refine qK (hP) (qI 13 1) ?_
        refine aO [(17,18)] [(qU [0,10,11,4,10,1,15,5]),(qU [0,10,11,4,10,1,15,2,18,1,17,1,19,1])] (by kernel_rfl) (qC) (by kernel_rfl) ?_
        simp only [bm]
        refine⟨aa 400 ?_,aa 400 ?_⟩
        all_goals simp (disch:=omega) only [go_sem,seval]
        all_goals
         refine aQ (b8 _ _ _ _) [] ?_
         refine aQ (a0 (roadOf x) { ah with kind:=5,tag:=⟨1,e.key,e.peer,(aK e x).mine,(aK e x).theirs⟩,nonce:=(aK e x).mine,give:=(aK e x).take }) [] ?_
         refine qG ?_
         refine aB (qI 0 7++qI 10 3++qI 21 1++qI 14 3++qI 22 1) (qC) _ (by simp only [go_sem];rfl) (by rfl) (by rfl) ?_
         simp (disch:=omega) only [go_sem,seval]
         try simp [List.map_set,HalfD.cs,kT,aK,aq,LetterD.cs,ah]
         try omega
       rw [hf (by rw [hok];first|(simp [h1,h2,h3,h4,h5,h6,h8,hi];done)|(simp [h1,h2,h3,h4,h5,h6,h8,hi];intros;omega))]
       refine qG ?_
       exact qF (qI 0 7++qI 10 7++qO 1)
      rw [hf (by rw [hok];first|(simp [h1,h2,h3,h4,h5,h6,hi];done)|(simp [h1,h2,h3,h4,h5,h6,hi];intros;omega))]
      refine qG ?_
      exact qF (qI 0 7++qI 10 7++qO 1)
     rw [hf (by rw [hok];first|(simp [h1,h2,h3,h4,h5,hi];done)|(simp [h1,h2,h3,h4,h5,hi];intros;omega))]
     refine qG ?_
     exact qF (qI 0 7++qI 10 7++qO 1)
    rw [hf (by rw [hok];first|(simp [h1,h2,h3,h4,hi];done)|(simp [h1,h2,h3,h4,hi];intros;omega))]
    refine qG ?_
    exact qF (qI 0 7++qI 10 7++qO 1)
   rw [hf (by rw [hok];first|(simp [h1,h2,h3,hi];done)|(simp [h1,h2,h3,hi];intros;omega))]
   refine qG ?_
   exact qF (qI 0 7++qI 10 7++qO 1)
  rw [hf (by rw [hok];first|(simp [h1,h2,hi];done)|(simp [h1,h2,hi];intros;omega))]
  refine qG ?_
  exact qF (qI 0 7++qI 10 7++qO 1)
 rw [hf (by rw [hok];first|(simp [h1,hi];done)|(simp [h1,hi];intros;omega))]
 refine qG ?_
 exact qF (qI 0 7++qI 10 7++qO 1)
end
section
open Go
end
end Go.Proofs.YtjghbknhneffjaaGreat
