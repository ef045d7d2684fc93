/-
  Texts merged for this claim by shake.py: what its proof needs.
-/
import Derived.Tactics
import Derived.Below
import Derived.Laws.AppendOwn
import Derived.Laws.OwnMore
import Derived.Laws.Slices
import Derived.Laws.Small
import Derived.Laws.Strings
import Derived.KernelRfl
import Derived.Laws.MakeOwn
import Derived.Laws.BytesString
import Derived.Laws.BytesArg
import Derived.Laws.Build
import Derived.Laws.Concat
import Derived.Laws.StructEq
import Derived.Lib.ConvBytes
import Derived.Orders
import Derived.WalkKit
import Derived.ProofKit
import Derived.ShutString
import Derived.OpenShut
import Derived.ChangeOld
import Derived.Carry
import Derived.Test.YtbgakfbnkkfbkaaGreatChecked
import Derived.Laws.BitsLemmas
import Derived.JoinedOf
import Derived.Test.YtbgakfbnkkfbkaaGreatZFnBaseA
import Derived.Test.YtbgakfbnkkfbkaaGreatZFnBaseB
import Derived.Test.YtbgakfbnkkfbkaaGreatZFnBaseC
import Derived.Test.YtbgakfbnkkfbkaaGreatZFnBaseD
set_option maxHeartbeats 16000000
set_option maxRecDepth 100000
set_option linter.unusedVariables false
set_option linter.unusedSimpArgs false
namespace Go.Proofs.YtbgakfbnkkfbkaaGreat
section
open Go.RowKit
theorem te (e:EndD) (x:LetterD) (hs:Small e):ae Tryz.prog 300 [.ag (e.cs 0),.ag x.cs] (e.hp false) (.tu [.ag ((bT e x).1.cs 7),.sc (.sl 14 0 (bT e x).2.length)])
  (e.hp false++((bT e x).1.hp true++[some ⟨(bT e x).2.map LetterD.cs,19,91,true,true⟩])):=by
 have hC:=(qH (aK e))
 have hK:=(qH (bf e))
 have hH:=gK e.halfs (ak x) (by have:=hs.halfs;omega)
 have hO:=gB e x.to (by have:=hs.own;omega)
 have hT:=vy e.bucket
 have hL:=bt x
 have hTk:=lC e.side
 have hbH:=fE e.halfs (ak x)
 have hf:=YJ (e:=e) (x:=x)
 have hns:=fun i=> @YK e x i
 have hnn:= @YL e x
 have hok:=tb.eq_1 e x
 generalize bT e x=R at*
 refine qE Tryz.func300 Tryz.ntmps300 Tryz.results300 fun E hE=>?_
 refine qK (hC) (qI 0 7) ?_
 refine qK (di x) [] ?_
 refine qK (hH) (qI 3 1) ?_
 rcases hbH with hi|⟨hi0,hi1⟩
 ·rw [hi]
  refine qX ?_
  refine qD [0,1,2,3,4,5,6,7,8,9,10,11,12,13,14,15,16,17,18,19,20,21,22,23,24,25,26,27,28,29,30,31,32,33,34,35,36,37,38,39,40,41,42,43,44,45,46,47,48,49,50,51,52,53] ?_
  refine az (hK) (qI 0 7) ?_
  refine qB (fun h1=>?_) fun h1=>?_
  ·refine az (hL) [] ?_
   refine qB (fun h2=>?_) fun h2=>?_
   ·refine qB (fun h3=>?_) fun h3=>?_
    ·refine az (hTk) [] ?_
     refine qB (fun h4=>?_) fun h4=>?_
     ·refine az (hO) (qI 0 7) ?_
      refine qB (fun h5=>?_) fun h5=>?_
      ·refine qB (fun h6=>?_) fun h6=>?_
       ·refine qB (fun h7=>?_) fun h7=>?_
        ·refine az (fk e) (qI 0 7) ?_
         refine qB (fun h8=>?_) fun h8=>?_
         ·refine qG ?_
          refine qB (fun h9=>?_) fun h9=>?_
          ·rw [hf (by rw [hok];first|(simp [h1,h2,h3,h4,h5,h6,h8,h9,hi];done)|(simp [h1,h2,h3,h4,h5,h6,h8,h9,hi];intros;omega))]
           exact qF (qI 0 7++qI 10 7++qO 1)
          refine qX ?_
          refine qK (hT) [] ?_
          refine qB (fun h10=>?_) fun h10=>?_
          ·rw [hf (by rw [hok];first|(simp [h1,h2,h3,h4,h5,h6,h8,h9,h10,hi];done)|(simp [h1,h2,h3,h4,h5,h6,h8,h9,h10,hi];intros;omega))]
           exact qF (qI 0 7++qI 10 7++qO 1)
          have hnow:=ik h1
          have hok':tb e x=true:=by rw [hok];have:=bH (bm h1);have:=dr h1;simp [h1,h2,h3,h4,h5,h6,h8,h9,h10,hi];try omega
          refine qX ?_
          have hsm:fp e x=false:=uq hi
          refine qD [0,1,2,3,4,5,6,7,8,9,10,11,12,13,14,15,16,17,18,19,20,21,22,23] ?_
          refine qG ?_
          rw [hnn hok' hsm]
          refine qX ?_
          have hP:=jE e.halfs (aH e x) (by have:=bH (bm h1);omega)
          obtain⟨Q,hQ⟩:∃ Q,Q=bQ e.halfs (aH e x):=⟨_,rfl⟩
          rw [←hQ] at hP⊢
          have hQl:Q.1.length≤1048576:=by rw [hQ];have:=bH (bm h1);have:=cK e.halfs (aH e x);unfold bQ;split<;>dsimp only<;>omega
          refine qK (f6 { e with bucket:=(bV e.bucket).1 } h8) (qI 10 8) ?_
          refine qK (hP) (qI 13 1) ?_
          refine aT [(17,18)] [(qU [0,10,11,4,10,1,15,5]),(qU [0,10,11,4,10,1,15,2,18,1,17,1,19,1])] (by kernel_rfl) (qC) (by kernel_rfl) ?_
          simp only [aQ]
          refine⟨aa 400 ?_,aa 400 ?_⟩
          all_goals simp (disch:=omega) only [go_sem,seval]
          all_goals
           refine az (fY _ _ _ _) [] ?_
           refine az (bg (ak x) { aw with kind:=5,tag:=⟨1,e.key,e.peer,(aH e x).mine,(aH e x).theirs⟩,nonce:=(aH e x).mine,give:=(aH e x).take }) [] ?_
           refine qG ?_
           refine ah (qI 0 7++qI 10 3++qI 21 1++qI 14 3++qI 22 1) (qC) _ (by simp only [go_sem];rfl) (by rfl) (by rfl) ?_
           simp (disch:=omega) only [go_sem,seval]
           try simp [List.map_set,HalfD.cs,jZ,aH,bc,LetterD.cs,aw]
           try omega
         rw [hf (by rw [hok];first|(simp [h1,h2,h3,h4,h5,h6,h8,hi];done)|(simp [h1,h2,h3,h4,h5,h6,h8,hi];intros;omega))]
         refine qG ?_
         exact qF (qI 0 7++qI 10 7++qO 1)
        rw [hf (by rw [hok];first|(simp [h1,h2,h3,h4,h5,h6,h7,hi];done)|(simp [h1,h2,h3,h4,h5,h6,h7,hi];intros;omega))]
        refine qG ?_
        exact qF (qI 0 7++qI 10 7++qO 1)
       rw [hf (by rw [hok];first|(simp [h1,h2,h3,h4,h5,h6,hi];done)|(simp [h1,h2,h3,h4,h5,h6,hi];intros;omega))]
       refine qG ?_
       exact qF (qI 0 7++qI 10 7++qO 1)
      rw [hf (by rw [hok];first|(simp [h1,h2,h3,h4,h5,hi];done)|(simp [h1,h2,h3,h4,h5,hi];intros;omega))]
      refine qG ?_
      exact qF (qI 0 7++qI 10 7++qO 1)
     rw [hf (by rw [hok];first|(simp [h1,h2,h3,h4,hi];done)|(simp [h1,h2,h3,h4,hi];intros;omega))]
     refine qG ?_
     exact qF (qI 0 7++qI 10 7++qO 1)
    rw [hf (by rw [hok];first|(simp [h1,h2,h3,hi];done)|(simp [h1,h2,h3,hi];intros;omega))]
    refine qG ?_
    exact qF (qI 0 7++qI 10 7++qO 1)
   rw [hf (by rw [hok];first|(simp [h1,h2,hi];done)|(simp [h1,h2,hi];intros;omega))]
   refine qG ?_
   exact qF (qI 0 7++qI 10 7++qO 1)
  rw [hf (by rw [hok];first|(simp [h1,hi];done)|(simp [h1,hi];intros;omega))]
  refine qG ?_
  exact qF (qI 0 7++qI 10 7++qO 1)
 obtain⟨i,hi⟩:=Int.eq_ofNat_of_zero_le hi0
 have hil:i < e.halfs.length:=by omega
 rw [hi]
 refine qX ?_
 refine qD [0,1,2,3,4,5,6,7,8,9,10,11,12,13,14,15,16,17,18,19,20,21,22,23,24,25,26,27,28,29,30,31,32,33,34,35,36,37,38,39,40,41,42,43,44,45,46,47,48,49,50,51,52,53] ?_
 refine az (hK) (qI 0 7) ?_
 refine qB (fun h1=>?_) fun h1=>?_
 ·refine az (hL) [] ?_
  refine qB (fun h2=>?_) fun h2=>?_
  ·refine qB (fun h3=>?_) fun h3=>?_
   ·refine az (hTk) [] ?_
    refine qB (fun h4=>?_) fun h4=>?_
    ·refine az (hO) (qI 0 7) ?_
     refine qB (fun h5=>?_) fun h5=>?_
     ·refine qB (fun h6=>?_) fun h6=>?_
      ·refine az (fk e) (qI 0 7) ?_
       refine qB (fun h8=>?_) fun h8=>?_
       ·refine qG ?_
        refine qB (fun h9=>?_) fun h9=>?_
        ·rw [hf (by rw [hok];first|(simp [h1,h2,h3,h4,h5,h6,h8,h9,hi];done)|(simp [h1,h2,h3,h4,h5,h6,h8,h9,hi];intros;omega))]
         exact qF (qI 0 7++qI 10 7++qO 1)
        refine qX ?_
        refine qK (hT) [] ?_
        refine qB (fun h10=>?_) fun h10=>?_
        ·rw [hf (by rw [hok];first|(simp [h1,h2,h3,h4,h5,h6,h8,h9,h10,hi];done)|(simp [h1,h2,h3,h4,h5,h6,h8,h9,h10,hi];intros;omega))]
         exact qF (qI 0 7++qI 10 7++qO 1)
        have hnow:=ik h1
        have hok':tb e x=true:=by rw [hok];have:=bH (bm h1);have:=dr h1;simp [h1,h2,h3,h4,h5,h6,h8,h9,h10,hi];try omega
        refine qX ?_
        refine qD [0,1,2,3,4,5,6,7,8,9,10,11,12,13,14,15,16,17,18,19,20,21,22,23] ?_
        refine qB (fun h11=>?_) fun h11=>?_
        ·refine qG ?_
         refine qB (fun h12=>?_) fun h12=>?_
         ·have hsm:fp e x=true:=by rw [il hi hil];simp [h11,h12]
          rw [hns _ hok' hsm hi hil]
          have hrd:=oL hi hil
          refine qX ?_
          refine aT [(17,18)] [(qU [0,10,11,4,10,1,15,5]),(qU [0,10,11,4,10,1,15,2,18,1,17,1,19,1])] (by kernel_rfl) (qC) (by kernel_rfl) ?_
          simp only [aQ]
          refine⟨aa 400 ?_,aa 400 ?_⟩
          all_goals simp (disch:=omega) only [go_sem,seval]
          all_goals
           refine az (fY _ _ _ _) [] ?_
           refine az (bg (ak x) { aw with kind:=5,tag:=⟨1,e.key,e.peer,(e.halfs[i]).mine,(e.halfs[i]).theirs⟩,nonce:=(e.halfs[i]).mine,give:=(e.halfs[i]).take }) [] ?_
           refine qG ?_
           refine ah (qI 0 7++qI 10 7++qI 21 1) (qC) _ (by simp only [go_sem];rfl) (by rfl) (by rfl) ?_
           simp (disch:=omega) only [go_sem,seval]
           try simp [List.map_set,HalfD.cs,jZ,aH,bc,LetterD.cs,aw]
           try omega
         have hsm:fp e x=false:=by rw [il hi hil];simp [h11,h12]
         rw [hnn hok' hsm]
         refine qX ?_
         have hP:=jE e.halfs (aH e x) (by have:=bH (bm h1);omega)
         obtain⟨Q,hQ⟩:∃ Q,Q=bQ e.halfs (aH e x):=⟨_,rfl⟩
         rw [←hQ] at hP⊢
         have hQl:Q.1.length≤1048576:=by rw [hQ];have:=bH (bm h1);have:=cK e.halfs (aH e x);unfold bQ;split<;>dsimp only<;>omega
         refine qK (f6 { e with bucket:=(bV e.bucket).1 } h8) (qI 10 8) ?_
         refine qK (hP) (qI 13 1) ?_
         refine aT [(17,18)] [(qU [0,10,11,4,10,1,15,5]),(qU [0,10,11,4,10,1,15,2,18,1,17,1,19,1])] (by kernel_rfl) (qC) (by kernel_rfl) ?_
         simp only [aQ]
         refine⟨aa 400 ?_,aa 400 ?_⟩
         all_goals simp (disch:=omega) only [go_sem,seval]
         all_goals
          refine az (fY _ _ _ _) [] ?_
          refine az (bg (ak x) { aw with kind:=5,tag:=⟨1,e.key,e.peer,(aH e x).mine,(aH e x).theirs⟩,nonce:=(aH e x).mine,give:=(aH e x).take }) [] ?_
          refine qG ?_
          refine ah (qI 0 7++qI 10 3++qI 21 1++qI 14 3++qI 22 1) (qC) _ (by simp only [go_sem];rfl) (by rfl) (by rfl) ?_
          simp (disch:=omega) only [go_sem,seval]
          try simp [List.map_set,HalfD.cs,jZ,aH,bc,LetterD.cs,aw]
          try omega
        have hsm:fp e x=false:=by rw [il hi hil];simp [h11]
        refine qG ?_
        rw [hnn hok' hsm]
        refine qX ?_
        have hP:=jE e.halfs (aH e x) (by have:=bH (bm h1);omega)
        obtain⟨Q,hQ⟩:∃ Q,Q=bQ e.halfs (aH e x):=⟨_,rfl⟩
        rw [←hQ] at hP⊢
        have hQl:Q.1.length≤1048576:=by rw [hQ];have:=bH (bm h1);have:=cK e.halfs (aH e x);unfold bQ;split<;>dsimp only<;>omega
        refine qK (f6 { e with bucket:=(bV e.bucket).1 } h8) (qI 10 8) ?_
        refine qK (hP) (qI 13 1) ?_
        refine aT [(17,18)] [(qU [0,10,11,4,10,1,15,5]),(qU [0,10,11,4,10,1,15,2,18,1,17,1,19,1])] (by kernel_rfl) (qC) (by kernel_rfl) ?_
        simp only [aQ]
        refine⟨aa 400 ?_,aa 400 ?_⟩
        all_goals simp (disch:=omega) only [go_sem,seval]
        all_goals
         refine az (fY _ _ _ _) [] ?_
         refine az (bg (ak x) { aw with kind:=5,tag:=⟨1,e.key,e.peer,(aH e x).mine,(aH e x).theirs⟩,nonce:=(aH e x).mine,give:=(aH e x).take }) [] ?_
         refine qG ?_
         refine ah (qI 0 7++qI 10 3++qI 21 1++qI 14 3++qI 22 1) (qC) _ (by simp only [go_sem];rfl) (by rfl) (by rfl) ?_
         simp (disch:=omega) only [go_sem,seval]
         try simp [List.map_set,HalfD.cs,jZ,aH,bc,LetterD.cs,aw]
         try omega
       rw [hf (by rw [hok];first|(simp [h1,h2,h3,h4,h5,h6,h8,hi];done)|(simp [h1,h2,h3,h4,h5,h6,h8,hi];intros;omega))]
       refine qG ?_
       exact qF (qI 0 7++qI 10 7++qO 1)
      rw [hf (by rw [hok];first|(simp [h1,h2,h3,h4,h5,h6,hi];done)|(simp [h1,h2,h3,h4,h5,h6,hi];intros;omega))]
      refine qG ?_
      exact qF (qI 0 7++qI 10 7++qO 1)
     rw [hf (by rw [hok];first|(simp [h1,h2,h3,h4,h5,hi];done)|(simp [h1,h2,h3,h4,h5,hi];intros;omega))]
     refine qG ?_
     exact qF (qI 0 7++qI 10 7++qO 1)
    rw [hf (by rw [hok];first|(simp [h1,h2,h3,h4,hi];done)|(simp [h1,h2,h3,h4,hi];intros;omega))]
    refine qG ?_
    exact qF (qI 0 7++qI 10 7++qO 1)
   rw [hf (by rw [hok];first|(simp [h1,h2,h3,hi];done)|(simp [h1,h2,h3,hi];intros;omega))]
   refine qG ?_
   exact qF (qI 0 7++qI 10 7++qO 1)
  rw [hf (by rw [hok];first|(simp [h1,h2,hi];done)|(simp [h1,h2,hi];intros;omega))]
  refine qG ?_
  exact qF (qI 0 7++qI 10 7++qO 1)
 rw [hf (by rw [hok];first|(simp [h1,hi];done)|(simp [h1,hi];intros;omega))]
 refine qG ?_
 exact qF (qI 0 7++qI 10 7++qO 1)
theorem tf (e:EndD) (x:LetterD) (hs:Small e):ae Tryz.prog 283 [.ag (e.cs 0),.ag x.cs] (e.hp false) (.tu [.ag ((bT e x).1.cs 7),.sc (.sl 14 0 (bT e x).2.length)])
  (e.hp false++((bT e x).1.hp true++[some ⟨(bT e x).2.map LetterD.cs,19,91,true,true⟩])):=by
 have hC:=(qH (aD e))
 have hK:=(qH (be e))
 have hH:=gL e.halfs (ak x) (by have:=hs.halfs;omega)
 have hO:=gC e x.to (by have:=hs.own;omega)
 have hT:=vz e.bucket
 have hL:=cL x
 have hTk:=lD e.side
 have hbH:=fE e.halfs (ak x)
 have hf:=YJ (e:=e) (x:=x)
 have hns:=fun i=> @YK e x i
 have hnn:= @YL e x
 have hok:=tb.eq_1 e x
 generalize bT e x=R at*
 refine qE Tryz.func283 Tryz.ntmps283 Tryz.results283 fun E hE=>?_
 refine qK (hC) (qI 0 7) ?_
 refine qK (ci x) [] ?_
 refine qK (hH) (qI 3 1) ?_
 rcases hbH with hi|⟨hi0,hi1⟩
 ·rw [hi]
  refine qX ?_
  refine qD [0,1,2,3,4,5,6,7,8,9,10,11,12,13,14,15,16,17,18,19,20,21,22,23,24,25,26,27,28,29,30,31,32,33,34,35,36,37,38,39,40,41,42,43,44,45,46,47,48,49,50,51,52,53] ?_
  refine az (hK) (qI 0 7) ?_
  refine qB (fun h1=>?_) fun h1=>?_
  ·refine az (hL) [] ?_
   refine qB (fun h2=>?_) fun h2=>?_
   ·refine qB (fun h3=>?_) fun h3=>?_
    ·refine az (hTk) [] ?_
     refine qB (fun h4=>?_) fun h4=>?_
     ·refine az (hO) (qI 0 7) ?_
      refine qB (fun h5=>?_) fun h5=>?_
      ·refine qB (fun h6=>?_) fun h6=>?_
       ·refine qB (fun h7=>?_) fun h7=>?_
        ·refine az (gD e) (qI 0 7) ?_
         refine qB (fun h8=>?_) fun h8=>?_
         ·refine qG ?_
          refine qB (fun h9=>?_) fun h9=>?_
          ·rw [hf (by rw [hok];first|(simp [h1,h2,h3,h4,h5,h6,h8,h9,hi];done)|(simp [h1,h2,h3,h4,h5,h6,h8,h9,hi];intros;omega))]
           exact qF (qI 0 7++qI 10 7++qI 18 1)
          refine qX ?_
          refine qK (hT) [] ?_
          refine qB (fun h10=>?_) fun h10=>?_
          ·rw [hf (by rw [hok];first|(simp [h1,h2,h3,h4,h5,h6,h8,h9,h10,hi];done)|(simp [h1,h2,h3,h4,h5,h6,h8,h9,h10,hi];intros;omega))]
           exact qF (qI 0 7++qI 10 7++qI 18 1)
          have hnow:=ik h1
          have hok':tb e x=true:=by rw [hok];have:=bH (bm h1);have:=dr h1;simp [h1,h2,h3,h4,h5,h6,h8,h9,h10,hi];try omega
          refine qX ?_
          have hsm:fp e x=false:=uq hi
          refine qD [0,1,2,3,4,5,6,7,8,9,10,11,12,13,14,15,16,17,18,19,20,21,22,23] ?_
          refine qG ?_
          rw [hnn hok' hsm]
          refine qX ?_
          have hP:=ia e.halfs (aH e x) (by have:=bH (bm h1);omega)
          obtain⟨Q,hQ⟩:∃ Q,Q=bQ e.halfs (aH e x):=⟨_,rfl⟩
          rw [←hQ] at hP⊢
          have hQl:Q.1.length≤1048576:=by rw [hQ];have:=bH (bm h1);have:=cK e.halfs (aH e x);unfold bQ;split<;>dsimp only<;>omega
          have h8':=h8
          simp only [cr,Bool.and_eq_true,decide_eq_true_eq] at h8'
          have hd1:cr e.draw 1 999999998=true:=by simp only [cr,Bool.and_eq_true,decide_eq_true_eq];omega
          have hd2:cr (e.draw+2) 1 999999998=true:=by simp only [cr,Bool.and_eq_true,decide_eq_true_eq];omega
          refine qK (cO { e with bucket:=(bV e.bucket).1 } ⟨hs.own,hs.far,hs.subs,hs.halfs,hs.list,hs.done,hs.over⟩ hd1) (qI 10 7) ?_
          refine qK (cO { e with bucket:=(bV e.bucket).1,draw:=e.draw+2 } ⟨hs.own,hs.far,hs.subs,hs.halfs,hs.list,hs.done,hs.over⟩ hd2) (qI 22 7) ?_
          refine qK (hP) (qI 32 1) ?_
          refine aT [(0,19),(11,0),(17,0),(18,0)] [(qU [1,10,12,4,11,1,16,3,0,1,19,3]),(qU [1,10,12,4,11,1,16,2,0,1,18,4]),(qU [1,10,12,4,11,1,16,1,0,1,17,5]),(qU [1,10,12,4,0,1,11,1,16,6]),(qU [1,10,12,4,11,1,16,4,0,1,20,2])] (by kernel_rfl) (qC) (by kernel_rfl) ?_
          simp only [aQ]
          refine⟨aa 400 ?_,aa 400 ?_,aa 400 ?_,aa 400 ?_,aa 400 ?_⟩
          all_goals simp (disch:=omega) only [go_sem,seval]
          all_goals
           refine az (fZ _ _ _ _) [] ?_
           refine az (aX (ak x) { aw with kind:=5,tag:=⟨1,e.key,e.peer,(aH e x).mine,(aH e x).theirs⟩,nonce:=(aH e x).mine,give:=(aH e x).take }) [] ?_
           refine qG ?_
           refine ah (qI 0 7++qI 29 3++qI 36 1++qI 33 3++qI 38 1) (qC) _ (by simp only [go_sem];rfl) (by rfl) (by rfl) ?_
           simp (disch:=omega) only [go_sem,seval]
           try simp [List.map_set,HalfD.cs,jZ,aH,bc,LetterD.cs,aw]
           try omega
         rw [hf (by rw [hok];first|(simp [h1,h2,h3,h4,h5,h6,h8,hi];done)|(simp [h1,h2,h3,h4,h5,h6,h8,hi];intros;omega))]
         refine qG ?_
         exact qF (qI 0 7++qI 10 7++qI 18 1)
        rw [hf (by rw [hok];first|(simp [h1,h2,h3,h4,h5,h6,h7,hi];done)|(simp [h1,h2,h3,h4,h5,h6,h7,hi];intros;omega))]
        refine qG ?_
        exact qF (qI 0 7++qI 10 7++qI 18 1)
       rw [hf (by rw [hok];first|(simp [h1,h2,h3,h4,h5,h6,hi];done)|(simp [h1,h2,h3,h4,h5,h6,hi];intros;omega))]
       refine qG ?_
       exact qF (qI 0 7++qI 10 7++qI 18 1)
      rw [hf (by rw [hok];first|(simp [h1,h2,h3,h4,h5,hi];done)|(simp [h1,h2,h3,h4,h5,hi];intros;omega))]
      refine qG ?_
      exact qF (qI 0 7++qI 10 7++qI 18 1)
     rw [hf (by rw [hok];first|(simp [h1,h2,h3,h4,hi];done)|(simp [h1,h2,h3,h4,hi];intros;omega))]
     refine qG ?_
     exact qF (qI 0 7++qI 10 7++qI 18 1)
    rw [hf (by rw [hok];first|(simp [h1,h2,h3,hi];done)|(simp [h1,h2,h3,hi];intros;omega))]
    refine qG ?_
    exact qF (qI 0 7++qI 10 7++qI 18 1)
   rw [hf (by rw [hok];first|(simp [h1,h2,hi];done)|(simp [h1,h2,hi];intros;omega))]
   refine qG ?_
   exact qF (qI 0 7++qI 10 7++qI 18 1)
  rw [hf (by rw [hok];first|(simp [h1,hi];done)|(simp [h1,hi];intros;omega))]
  refine qG ?_
  exact qF (qI 0 7++qI 10 7++qI 18 1)
 obtain⟨i,hi⟩:=Int.eq_ofNat_of_zero_le hi0
 have hil:i < e.halfs.length:=by omega
 rw [hi]
 refine qX ?_
 refine qD [0,1,2,3,4,5,6,7,8,9,10,11,12,13,14,15,16,17,18,19,20,21,22,23,24,25,26,27,28,29,30,31,32,33,34,35,36,37,38,39,40,41,42,43,44,45,46,47,48,49,50,51,52,53] ?_
 refine az (hK) (qI 0 7) ?_
 refine qB (fun h1=>?_) fun h1=>?_
 ·refine az (hL) [] ?_
  refine qB (fun h2=>?_) fun h2=>?_
  ·refine qB (fun h3=>?_) fun h3=>?_
   ·refine az (hTk) [] ?_
    refine qB (fun h4=>?_) fun h4=>?_
    ·refine az (hO) (qI 0 7) ?_
     refine qB (fun h5=>?_) fun h5=>?_
     ·refine qB (fun h6=>?_) fun h6=>?_
      ·refine az (gD e) (qI 0 7) ?_
       refine qB (fun h8=>?_) fun h8=>?_
       ·refine qG ?_
        refine qB (fun h9=>?_) fun h9=>?_
        ·rw [hf (by rw [hok];first|(simp [h1,h2,h3,h4,h5,h6,h8,h9,hi];done)|(simp [h1,h2,h3,h4,h5,h6,h8,h9,hi];intros;omega))]
         exact qF (qI 0 7++qI 10 7++qI 18 1)
        refine qX ?_
        refine qK (hT) [] ?_
        refine qB (fun h10=>?_) fun h10=>?_
        ·rw [hf (by rw [hok];first|(simp [h1,h2,h3,h4,h5,h6,h8,h9,h10,hi];done)|(simp [h1,h2,h3,h4,h5,h6,h8,h9,h10,hi];intros;omega))]
         exact qF (qI 0 7++qI 10 7++qI 18 1)
        have hnow:=ik h1
        have hok':tb e x=true:=by rw [hok];have:=bH (bm h1);have:=dr h1;simp [h1,h2,h3,h4,h5,h6,h8,h9,h10,hi];try omega
        refine qX ?_
        refine qD [0,1,2,3,4,5,6,7,8,9,10,11,12,13,14,15,16,17,18,19,20,21,22,23] ?_
        refine qB (fun h11=>?_) fun h11=>?_
        ·refine qG ?_
         refine qB (fun h12=>?_) fun h12=>?_
         ·have hsm:fp e x=true:=by rw [il hi hil];simp [h11,h12]
          rw [hns _ hok' hsm hi hil]
          have hrd:=oL hi hil
          have hP:=ia e.halfs { e.halfs[i] with till:=e.now+6 } (by have:=bH (bm h1);omega)
          rw [vC (bm h1) hil (by simp only [iQ,Bool.and_eq_true,decide_eq_true_eq];omega) (by rw [hrd];exact hi)] at hP
          refine qX ?_
          refine qK (hP) (qI 13 1) ?_
          refine aT [(0,19),(11,0),(17,0),(18,0)] [(qU [1,10,12,4,11,1,16,3,0,1,19,3]),(qU [1,10,12,4,11,1,16,2,0,1,18,4]),(qU [1,10,12,4,11,1,16,1,0,1,17,5]),(qU [1,10,12,4,0,1,11,1,16,6]),(qU [1,10,12,4,11,1,16,4,0,1,20,2])] (by kernel_rfl) (qC) (by kernel_rfl) ?_
          simp only [aQ]
          refine⟨aa 400 ?_,aa 400 ?_,aa 400 ?_,aa 400 ?_,aa 400 ?_⟩
          all_goals simp (disch:=omega) only [go_sem,seval]
          all_goals
           refine az (fZ _ _ _ _) [] ?_
           refine az (aX (ak x) { aw with kind:=5,tag:=⟨1,e.key,e.peer,(e.halfs[i]).mine,(e.halfs[i]).theirs⟩,nonce:=(e.halfs[i]).mine,give:=(e.halfs[i]).take }) [] ?_
           refine qG ?_
           refine ah (qI 0 7++qI 10 3++qI 22 1++qI 14 3++qI 24 1) (qC) _ (by simp only [go_sem];rfl) (by rfl) (by rfl) ?_
           simp (disch:=omega) only [go_sem,seval]
           try simp [List.map_set,HalfD.cs,jZ,aH,bc,LetterD.cs,aw]
           try omega
         have hsm:fp e x=false:=by rw [il hi hil];simp [h11,h12]
         rw [hnn hok' hsm]
         refine qX ?_
         have hP:=ia e.halfs (aH e x) (by have:=bH (bm h1);omega)
         obtain⟨Q,hQ⟩:∃ Q,Q=bQ e.halfs (aH e x):=⟨_,rfl⟩
         rw [←hQ] at hP⊢
         have hQl:Q.1.length≤1048576:=by rw [hQ];have:=bH (bm h1);have:=cK e.halfs (aH e x);unfold bQ;split<;>dsimp only<;>omega
         have h8':=h8
         simp only [cr,Bool.and_eq_true,decide_eq_true_eq] at h8'
         have hd1:cr e.draw 1 999999998=true:=by simp only [cr,Bool.and_eq_true,decide_eq_true_eq];omega
         have hd2:cr (e.draw+2) 1 999999998=true:=by simp only [cr,Bool.and_eq_true,decide_eq_true_eq];omega
         refine qK (cO { e with bucket:=(bV e.bucket).1 } ⟨hs.own,hs.far,hs.subs,hs.halfs,hs.list,hs.done,hs.over⟩ hd1) (qI 10 7) ?_
         refine qK (cO { e with bucket:=(bV e.bucket).1,draw:=e.draw+2 } ⟨hs.own,hs.far,hs.subs,hs.halfs,hs.list,hs.done,hs.over⟩ hd2) (qI 22 7) ?_
         refine qK (hP) (qI 32 1) ?_
         refine aT [(0,19),(11,0),(17,0),(18,0)] [(qU [1,10,12,4,11,1,16,3,0,1,19,3]),(qU [1,10,12,4,11,1,16,2,0,1,18,4]),(qU [1,10,12,4,11,1,16,1,0,1,17,5]),(qU [1,10,12,4,0,1,11,1,16,6]),(qU [1,10,12,4,11,1,16,4,0,1,20,2])] (by kernel_rfl) (qC) (by kernel_rfl) ?_
         simp only [aQ]
         refine⟨aa 400 ?_,aa 400 ?_,aa 400 ?_,aa 400 ?_,aa 400 ?_⟩
         all_goals simp (disch:=omega) only [go_sem,seval]
         all_goals
          refine az (fZ _ _ _ _) [] ?_
          refine az (aX (ak x) { aw with kind:=5,tag:=⟨1,e.key,e.peer,(aH e x).mine,(aH e x).theirs⟩,nonce:=(aH e x).mine,give:=(aH e x).take }) [] ?_
          refine qG ?_
          refine ah (qI 0 7++qI 29 3++qI 36 1++qI 33 3++qI 38 1) (qC) _ (by simp only [go_sem];rfl) (by rfl) (by rfl) ?_
          simp (disch:=omega) only [go_sem,seval]
          try simp [List.map_set,HalfD.cs,jZ,aH,bc,LetterD.cs,aw]
          try omega
        have hsm:fp e x=false:=by rw [il hi hil];simp [h11]
        refine qG ?_
        rw [hnn hok' hsm]
        refine qX ?_
        have hP:=ia e.halfs (aH e x) (by have:=bH (bm h1);omega)
        obtain⟨Q,hQ⟩:∃ Q,Q=bQ e.halfs (aH e x):=⟨_,rfl⟩
        rw [←hQ] at hP⊢
        have hQl:Q.1.length≤1048576:=by rw [hQ];have:=bH (bm h1);have:=cK e.halfs (aH e x);unfold bQ;split<;>dsimp only<;>omega
        have h8':=h8
        simp only [cr,Bool.and_eq_true,decide_eq_true_eq] at h8'
        have hd1:cr e.draw 1 999999998=true:=by simp only [cr,Bool.and_eq_true,decide_eq_true_eq];omega
        have hd2:cr (e.draw+2) 1 999999998=true:=by simp only [cr,Bool.and_eq_true,decide_eq_true_eq];omega
        refine qK (cO { e with bucket:=(bV e.bucket).1 } ⟨hs.own,hs.far,hs.subs,hs.halfs,hs.list,hs.done,hs.over⟩ hd1) (qI 10 7) ?_
        refine qK (cO { e with bucket:=(bV e.bucket).1,draw:=e.draw+2 } ⟨hs.own,hs.far,hs.subs,hs.halfs,hs.list,hs.done,hs.over⟩ hd2) (qI 22 7) ?_
        refine qK (hP) (qI 32 1) ?_
        refine aT [(0,19),(11,0),(17,0),(18,0)] [(qU [1,10,12,4,11,1,16,3,0,1,19,3]),(qU [1,10,12,4,11,1,16,2,0,1,18,4]),(qU [1,10,12,4,11,1,16,1,0,1,17,5]),(qU [1,10,12,4,0,1,11,1,16,6]),(qU [1,10,12,4,11,1,16,4,0,1,20,2])] (by kernel_rfl) (qC) (by kernel_rfl) ?_
        simp only [aQ]
        refine⟨aa 400 ?_,aa 400 ?_,aa 400 ?_,aa 400 ?_,aa 400 ?_⟩
        all_goals simp (disch:=omega) only [go_sem,seval]
        all_goals
         refine az (fZ _ _ _ _) [] ?_
         refine az (aX (ak x) { aw with kind:=5,tag:=⟨1,e.key,e.peer,(aH e x).mine,(aH e x).theirs⟩,nonce:=(aH e x).mine,give:=(aH e x).take }) [] ?_
         refine qG ?_
         refine ah (qI 0 7++qI 29 3++qI 36 1++qI 33 3++qI 38 1) (qC) _ (by simp only [go_sem];rfl) (by rfl) (by rfl) ?_
         simp (disch:=omega) only [go_sem,seval]
         try simp [List.map_set,HalfD.cs,jZ,aH,bc,LetterD.cs,aw]
         try omega
       rw [hf (by rw [hok];first|(simp [h1,h2,h3,h4,h5,h6,h8,hi];done)|(simp [h1,h2,h3,h4,h5,h6,h8,hi];intros;omega))]
       refine qG ?_
       exact qF (qI 0 7++qI 10 7++qI 18 1)
      rw [hf (by rw [hok];first|(simp [h1,h2,h3,h4,h5,h6,hi];done)|(simp [h1,h2,h3,h4,h5,h6,hi];intros;omega))]
      refine qG ?_
      exact qF (qI 0 7++qI 10 7++qI 18 1)
     rw [hf (by rw [hok];first|(simp [h1,h2,h3,h4,h5,hi];done)|(simp [h1,h2,h3,h4,h5,hi];intros;omega))]
     refine qG ?_
     exact qF (qI 0 7++qI 10 7++qI 18 1)
    rw [hf (by rw [hok];first|(simp [h1,h2,h3,h4,hi];done)|(simp [h1,h2,h3,h4,hi];intros;omega))]
    refine qG ?_
    exact qF (qI 0 7++qI 10 7++qI 18 1)
   rw [hf (by rw [hok];first|(simp [h1,h2,h3,hi];done)|(simp [h1,h2,h3,hi];intros;omega))]
   refine qG ?_
   exact qF (qI 0 7++qI 10 7++qI 18 1)
  rw [hf (by rw [hok];first|(simp [h1,h2,hi];done)|(simp [h1,h2,hi];intros;omega))]
  refine qG ?_
  exact qF (qI 0 7++qI 10 7++qI 18 1)
 rw [hf (by rw [hok];first|(simp [h1,hi];done)|(simp [h1,hi];intros;omega))]
 refine qG ?_
 exact qF (qI 0 7++qI 10 7++qI 18 1)
end
section
def fe (a:ActD):Bool:=cr a.kind 1 12 && cr a.side 1 2 && (iQ a.pos && iQ a.many) && decide (a.text.length≤120)
end
section
open Go.RowKit
def iY (x:LetterD):List Int:=[x.nonce,x.give,x.sgn]
theorem rH {l:List Int} {m:List Int} {k:Nat} (h:k < l.length):(l.drop k).foldl dk m=(l.drop (k+1)).foldl dk (dk m l[k]):=by
 rw [List.drop_eq_getElem_cons h];rfl
theorem uA {l:List Int} {m:List Int} {k:Nat} (h:l.length≤k):(l.drop k).foldl dk m=m:=by
 rw [List.drop_eq_nil_of_le h];rfl
theorem eM (w:WorldD) (l:List LetterD) (hw:SmallP2 w) (hl:l.length≤1048576):ae Tryz.prog 155 [.sc (.pt 21 0 0),.sc (.int .i64 1),.sc (.sl 22 0 l.length)]
  (dK w false++(dL w true++[some ⟨[w.cs 0],61,51,true,false⟩,some ⟨l.map LetterD.cs,19,91,false,true⟩])) (.tu [])
  (dK w false++([none,none,none,none,none,none,none,some ⟨[(c7 (aq 1 w l) 0 1 2 3 4 5 6 7 8 9 10 11 12 13 23 24 25 26 27 28 29)],61,51,true,false⟩,some ⟨l.map LetterD.cs,19,91,false,true⟩]++dL (aq 1 w l) true)):=by
 obtain⟨R,hR⟩:∃ R,R=aq 1 w l:=⟨_,rfl⟩
 rw [←hR]
 have hl2:l.length≤9223372036854775807:=by omega
 refine aN Tryz.func155 (by kernel_rfl) rfl fun E hE=>ac 400 ?_
 simp (disch:=omega) only [Tryz.ntmps155,Tryz.results155,go_sem,Nat.reduceEqDiff,Nat.reduceAdd,Nat.reduceSub,Int.reduceAdd,Int.reduceSub,Int.reduceToNat]
 refine cE 23 hE (fun s (y:Nat×WorldD)=>s.at (qU [2,1,7,1,9,1,13,145]) [(12,.sc (.int .i64 (y.1:Nat)))] (dK w false++([none,none,none,none,none,none,none,some ⟨[(c7 y.2 0 1 2 3 4 5 6 7 8 9 10 11 12 13 23 24 25 26 27 28 29)],61,51,true,false⟩,some ⟨l.map LetterD.cs,19,91,false,true⟩]++(dL y.2 true)))) (fun (y:Nat×WorldD)=>y.1≤l.length∧y.2.a=w.a∧y.2.b=w.b∧SmallP2 y.2∧R=aq 1 y.2 (l.drop y.1)) (fun (y:Nat×WorldD)=>l.length - y.1) (0,w) (qI 0 23++qI 14 7) (qC) (⟨Nat.zero_le _,rfl,rfl,hw,hR⟩) (ab (by rfl) (by rfl) ?_) fun y hy N hN=>?_
 ·try simp (disch:=omega) only [go_sem,Nat.reduceEqDiff,Nat.reduceAdd,Nat.reduceSub,Int.reduceAdd,Int.reduceSub,Int.reduceToNat]
 obtain⟨i,u⟩:=y
 obtain⟨hi,ha,hb,hS,hu⟩:=hy
 obtain⟨ua,ub,bag,past,wA,wB,rA,rB,known,nums,nsA,nsB⟩:=u
 obtain⟨keys,tags⟩:=known
 dsimp only at hi ha hb hu
 subst ha hb
 have s1:=hS.bag
 have s2:=hS.past
 have s3:=hS.keys
 have s4:=hS.tags
 have s5:=hS.nums
 have s6:=hS.ansA
 have s7:=hS.ansB
 dsimp only at s1 s2 s3 s4 s5 s6 s7
 refine dm 21 400 ?_
 try simp (disch:=omega) only [go_sem,Nat.reduceEqDiff,Nat.reduceAdd,Nat.reduceSub,Int.reduceAdd,Int.reduceSub,Int.reduceToNat,Nat.reduceBEq]
 split<;>rename_i h<;>(try simp only [decide_eq_true_eq,decide_eq_false_iff_not,Int.ofNat_lt] at h)
 rotate_left
 ·have e:i=l.length:=by omega
  subst e
  rw [kU (Nat.le_refl _)] at hu
  subst hu
  try simp (disch:=omega) only [go_sem,Nat.reduceEqDiff,Nat.reduceAdd,Nat.reduceSub,Int.reduceAdd,Int.reduceSub,Int.reduceToNat,Nat.reduceBEq]
  refine aA (qI 0 30) (qC) _ (by simp only [go_sem];rfl) (by rfl) (by rfl) ?_
  simp (disch:=omega) only [go_sem,Nat.reduceEqDiff,Nat.reduceAdd,Nat.reduceSub,Int.reduceAdd,Int.reduceSub,Int.reduceToNat,Nat.reduceBEq]
 rw [jK h] at hu
 generalize hx:l[i]=x at hu
 have hget:=ao (enc:=LetterD.cs) h
 rw [hx] at hget
 try simp (disch:=omega) only [go_sem,Nat.reduceEqDiff,Nat.reduceAdd,Nat.reduceSub,Int.reduceAdd,Int.reduceSub,Int.reduceToNat,Nat.reduceBEq,hget]
 obtain⟨p1,hp1⟩:∃ p,p=nb past x:=⟨_,rfl⟩
 refine dP 23 hE (fun s=>s.at (qU [13,19]) [] (dK w false++([none,none,none,none,none,none,none,some ⟨[(c7 (⟨w.a,w.b,bag,p1,wA,wB,rA,rB,⟨keys,tags⟩,nums,nsA,nsB⟩:WorldD) 0 1 2 3 4 5 6 7 8 9 10 11 12 13 23 24 25 26 27 28 29)],61,51,true,false⟩,some ⟨l.map LetterD.cs,19,91,false,true⟩]++(dL (⟨w.a,w.b,bag,p1,wA,wB,rA,rB,⟨keys,tags⟩,nums,nsA,nsB⟩:WorldD) true++[some ⟨[x.cs],19,91,true,false⟩])))) (qC) (by rfl) (fun N hN=>ac 401 ?_) (dm 34 400 ?_)
 ·try simp (disch:=omega) only [go_sem,Nat.reduceEqDiff,Nat.reduceAdd,Nat.reduceSub,Int.reduceAdd,Int.reduceSub,Int.reduceToNat,Nat.reduceBEq]
  split<;>rename_i b1<;>(try simp only [beq_true,beq_false,Bool.not_eq_true',Bool.not_eq_false'] at b1)<;>simp (disch:=omega) only [go_sem,Nat.reduceEqDiff,Nat.reduceAdd,Nat.reduceSub,Int.reduceAdd,Int.reduceSub,Int.reduceToNat,Nat.reduceBEq,b1]<;>(try simp only [decide_eq_true_eq,decide_eq_false_iff_not,beq_iff_eq,beq_eq_false_iff_ne,bne_iff_ne,bne_eq_false_iff_eq,ne_eq,Decidable.not_not,Bool.and_eq_true,Bool.and_eq_false_iff,Bool.or_eq_true,Bool.or_eq_false_iff,Int.ofNat_lt,Int.ofNat_le,Bool.not_eq_eq_eq_not,Bool.not_true,Bool.not_false] at b1)<;>try simp (disch:=omega) only [go_sem,Nat.reduceEqDiff,Nat.reduceAdd,Nat.reduceSub,Int.reduceAdd,Int.reduceSub,Int.reduceToNat,Nat.reduceBEq]
  ·rw [pw (by omega)] at hp1
   subst hp1
   refine ar (qU [0,11]) (by kernel_rfl) (qC) (by kernel_rfl) (aa 400 ?_)
   simp (disch:=omega) only [go_sem,Nat.reduceEqDiff,Nat.reduceAdd,Nat.reduceSub,Int.reduceAdd,Int.reduceSub,Int.reduceToNat,Nat.reduceBEq]
   refine⟨qC,dm 34 400 ?_⟩
   try simp (disch:=omega) only [go_sem,Nat.reduceEqDiff,Nat.reduceAdd,Nat.reduceSub,Int.reduceAdd,Int.reduceSub,Int.reduceToNat,Nat.reduceBEq]
   refine⟨qC,hN _ (qI 0 24++qI 32 1++qI 25 6) (ab (by rfl) (by rfl) ?_)⟩
   simp (disch:=omega) only [go_sem,Nat.reduceEqDiff,Nat.reduceAdd,Nat.reduceSub,Int.reduceAdd,Int.reduceSub,Int.reduceToNat,Nat.reduceBEq]
   try simp [LetterD.cs]
  rw [px (by omega)] at hp1
  subst hp1
  try simp (disch:=omega) only [go_sem,Nat.reduceEqDiff,Nat.reduceAdd,Nat.reduceSub,Int.reduceAdd,Int.reduceSub,Int.reduceToNat,Nat.reduceBEq]
  refine⟨qC,hN _ (qI 0 31) (ab (by rfl) (by rfl) ?_)⟩
  simp (disch:=omega) only [go_sem,Nat.reduceEqDiff,Nat.reduceAdd,Nat.reduceSub,Int.reduceAdd,Int.reduceSub,Int.reduceToNat,Nat.reduceBEq]
 try simp (disch:=omega) only [go_sem,Nat.reduceEqDiff,Nat.reduceAdd,Nat.reduceSub,Int.reduceAdd,Int.reduceSub,Int.reduceToNat,Nat.reduceBEq]
 obtain⟨q1,hq1⟩:∃ q,q=ma nsA (lj 1 1 x) w.a.now:=⟨_,rfl⟩
 refine dP 23 hE (fun s=>s.at (qU [13,70]) [] (dK w false++([none,none,none,none,none,none,none,some ⟨[(c7 (⟨w.a,w.b,bag,p1,wA,wB,rA,rB,⟨keys,tags⟩,nums,q1,nsB⟩:WorldD) 0 1 2 3 4 5 6 7 8 9 10 11 12 13 23 24 25 26 27 28 29)],61,51,true,false⟩,some ⟨l.map LetterD.cs,19,91,false,true⟩]++(dL (⟨w.a,w.b,bag,p1,wA,wB,rA,rB,⟨keys,tags⟩,nums,q1,nsB⟩:WorldD) true++[some ⟨[x.cs],19,91,true,false⟩])))) (qC) (by rfl) (fun N hN=>ac 401 ?_) (ac 400 ?_)
 ·try simp (disch:=omega) only [go_sem,Nat.reduceEqDiff,Nat.reduceAdd,Nat.reduceSub,Int.reduceAdd,Int.reduceSub,Int.reduceToNat]
  split<;>rename_i b2<;>(try simp only [beq_true,beq_false,Bool.not_eq_true',Bool.not_eq_false'] at b2)<;>simp (disch:=omega) only [go_sem,Nat.reduceEqDiff,Nat.reduceAdd,Nat.reduceSub,Int.reduceAdd,Int.reduceSub,Int.reduceToNat,b2]<;>(try simp only [decide_eq_true_eq,decide_eq_false_iff_not,beq_iff_eq,beq_eq_false_iff_ne,bne_iff_ne,bne_eq_false_iff_eq,ne_eq,Decidable.not_not,Bool.and_eq_true,Bool.and_eq_false_iff,Bool.or_eq_true,Bool.or_eq_false_iff,Int.ofNat_lt,Int.ofNat_le,Bool.not_eq_eq_eq_not,Bool.not_true,Bool.not_false] at b2)<;>try simp (disch:=omega) only [go_sem,Nat.reduceEqDiff,Nat.reduceAdd,Nat.reduceSub,Int.reduceAdd,Int.reduceSub,Int.reduceToNat]
  ·rw [vV b2] at hq1
   split<;>rename_i b3<;>(try simp only [beq_true,beq_false,Bool.not_eq_true',Bool.not_eq_false'] at b3)<;>simp (disch:=omega) only [go_sem,Nat.reduceEqDiff,Nat.reduceAdd,Nat.reduceSub,Int.reduceAdd,Int.reduceSub,Int.reduceToNat,b3]<;>(try simp only [decide_eq_true_eq,decide_eq_false_iff_not,beq_iff_eq,beq_eq_false_iff_ne,bne_iff_ne,bne_eq_false_iff_eq,ne_eq,Decidable.not_not,Bool.and_eq_true,Bool.and_eq_false_iff,Bool.or_eq_true,Bool.or_eq_false_iff,Int.ofNat_lt,Int.ofNat_le,Bool.not_eq_eq_eq_not,Bool.not_true,Bool.not_false] at b3)<;>try simp (disch:=omega) only [go_sem,Nat.reduceEqDiff,Nat.reduceAdd,Nat.reduceSub,Int.reduceAdd,Int.reduceSub,Int.reduceToNat]
   ·rw [vR (by omega)] at hq1
    subst hq1
    refine ar (qU [0,15]) (by kernel_rfl) (qC) (by kernel_rfl) (aa 400 ?_)
    simp (disch:=omega) only [go_sem,Nat.reduceEqDiff,Nat.reduceAdd,Nat.reduceSub,Int.reduceAdd,Int.reduceSub,Int.reduceToNat]
    refine⟨qC,ac 400 ?_⟩
    try simp (disch:=omega) only [go_sem,Nat.reduceEqDiff,Nat.reduceAdd,Nat.reduceSub,Int.reduceAdd,Int.reduceSub,Int.reduceToNat]
    refine⟨qC,hN _ (qI 0 28++qI 32 1++qI 29 2) (ab (by rfl) (by rfl) ?_)⟩
    simp (disch:=omega) only [go_sem,Nat.reduceEqDiff,Nat.reduceAdd,Nat.reduceSub,Int.reduceAdd,Int.reduceSub,Int.reduceToNat]
    try simp [aC]
   rw [vS (by omega)] at hq1
   subst hq1
   try simp (disch:=omega) only [go_sem,Nat.reduceEqDiff,Nat.reduceAdd,Nat.reduceSub,Int.reduceAdd,Int.reduceSub,Int.reduceToNat]
   refine⟨qC,hN _ (qI 0 31) (ab (by rfl) (by rfl) ?_)⟩
   simp (disch:=omega) only [go_sem,Nat.reduceEqDiff,Nat.reduceAdd,Nat.reduceSub,Int.reduceAdd,Int.reduceSub,Int.reduceToNat]
  rw [vT b2,iX] at hq1
  subst hq1
  try simp (disch:=omega) only [go_sem,Nat.reduceEqDiff,Nat.reduceAdd,Nat.reduceSub,Int.reduceAdd,Int.reduceSub,Int.reduceToNat]
  refine⟨qC,hN _ (qI 0 31) (ab (by rfl) (by rfl) ?_)⟩
  simp (disch:=omega) only [go_sem,Nat.reduceEqDiff,Nat.reduceAdd,Nat.reduceSub,Int.reduceAdd,Int.reduceSub,Int.reduceToNat]
 try simp (disch:=omega) only [go_sem,Nat.reduceEqDiff,Nat.reduceAdd,Nat.reduceSub,Int.reduceAdd,Int.reduceSub,Int.reduceToNat]
 refine al (qC) (dC x.to) [] qM (by rfl) (ac 400 ?_)
 simp (disch:=omega) only [go_sem,Nat.reduceEqDiff,Nat.reduceAdd,Nat.reduceSub,Int.reduceAdd,Int.reduceSub,Int.reduceToNat]
 have hoth:ma nsB (lj 1 2 x) w.b.now=nsB:=by rw [vU (by decide),iX]
 split<;>rename_i b4<;>(try simp only [beq_true,beq_false,Bool.not_eq_true',Bool.not_eq_false'] at b4)<;>simp (disch:=omega) only [go_sem,Nat.reduceEqDiff,Nat.reduceAdd,Nat.reduceSub,Int.reduceAdd,Int.reduceSub,Int.reduceToNat,b4]<;>(try simp only [decide_eq_true_eq,decide_eq_false_iff_not,beq_iff_eq,beq_eq_false_iff_ne,bne_iff_ne,bne_eq_false_iff_eq,ne_eq,Decidable.not_not,Bool.and_eq_true,Bool.and_eq_false_iff,Bool.or_eq_true,Bool.or_eq_false_iff,Int.ofNat_lt,Int.ofNat_le,Bool.not_eq_eq_eq_not,Bool.not_true,Bool.not_false] at b4)<;>try simp (disch:=omega) only [go_sem,Nat.reduceEqDiff,Nat.reduceAdd,Nat.reduceSub,Int.reduceAdd,Int.reduceSub,Int.reduceToNat]
 ·have hK:=ru ⟨keys,tags⟩ x.tag (by dsimp only;omega) (by dsimp only;omega)
  have hky:(dY ⟨keys,tags⟩ x.tag).keys.length≤1048576:=by rw [iB];exact s3
  have hkt:(dY ⟨keys,tags⟩ x.tag).tags.length≤1048576:=kC s4
  obtain⟨kk,hkk⟩:∃ k,k=dY ⟨keys,tags⟩ x.tag:=⟨_,rfl⟩
  rw [←hkk] at hK hky hkt
  obtain⟨k1,t1⟩:=kk
  dsimp only at hky hkt
  refine ar (qU [0,11]) (by kernel_rfl) (qC) (by kernel_rfl) (aa 400 ?_)
  simp (disch:=omega) only [go_sem,Nat.reduceEqDiff,Nat.reduceAdd,Nat.reduceSub,Int.reduceAdd,Int.reduceSub,Int.reduceToNat]
  refine am (qC) (hK) (qI 25 2) qM (by rfl) (by rfl) (aa 400 ?_)
  simp (disch:=omega) only [go_sem,Nat.reduceEqDiff,Nat.reduceAdd,Nat.reduceSub,Int.reduceAdd,Int.reduceSub,Int.reduceToNat]
  refine⟨qC,ac 400 ?_⟩
  try simp (disch:=omega) only [go_sem,Nat.reduceEqDiff,Nat.reduceAdd,Nat.reduceSub,Int.reduceAdd,Int.reduceSub,Int.reduceToNat]
  obtain⟨n1,hn1⟩:∃ n,n=(iY x).foldl dk nums:=⟨_,rfl⟩
  have hn1l:n1.length≤1048576:=by rw [hn1];exact d_ (d_ (d_ s5))
  refine cE 23 hE (fun s (z:Nat×List Int)=>s.at (qU [2,1,9,1,14,7,22,12,35,9,45,23,69,14,84,20,107,33,141,17]) [(106,.sc (.int .i64 (z.1:Nat))),(104,.sc (.sl 31 0 3))] (dK w false++([none,none,none,none,none,none,none,some ⟨[(c7 (⟨w.a,w.b,bag,p1,wA,wB,rA,rB,⟨k1,t1⟩,z.2,q1,nsB⟩:WorldD) 0 1 2 3 4 5 6 7 8 9 10 11 12 13 23 24 25 26 27 28 29)],61,51,true,false⟩,some ⟨l.map LetterD.cs,19,91,false,true⟩]++(dL (⟨w.a,w.b,bag,p1,wA,wB,rA,rB,⟨k1,t1⟩,z.2,q1,nsB⟩:WorldD) true++[some ⟨[x.cs],19,91,true,false⟩]++[some ⟨[[.int .i64 x.nonce],[.int .i64 x.give],[.int .i64 x.sgn]],1,3,true,true⟩])))) (fun (z:Nat×List Int)=>z.1≤3∧z.2.length≤1048576∧n1=((iY x).drop z.1).foldl dk z.2) (fun (z:Nat×List Int)=>3 - z.1) (0,nums) (qI 0 25++qI 31 2++qI 27 4++qI 33 1) (qC) (⟨Nat.zero_le _,s5,hn1⟩) (ab (by rfl) (by rfl) ?_) fun z hz N2 hN2=>?_
  ·try simp (disch:=omega) only [go_sem,Nat.reduceEqDiff,Nat.reduceAdd,Nat.reduceSub,Int.reduceAdd,Int.reduceSub,Int.reduceToNat]
  obtain⟨j,m⟩:=z
  obtain⟨hj,hm,hn⟩:=hz
  dsimp only at hj hm hn
  refine ac 400 ?_
  try simp (disch:=omega) only [go_sem,Nat.reduceEqDiff,Nat.reduceAdd,Nat.reduceSub,Int.reduceAdd,Int.reduceSub,Int.reduceToNat]
  split<;>rename_i h5<;>(try simp only [decide_eq_true_eq,decide_eq_false_iff_not,Int.ofNat_lt] at h5)
  rotate_left
  ·have e:j=3:=by omega
   subst e
   rw [uA (by simp [iY])] at hn
   subst hn
   try simp (disch:=omega) only [go_sem,Nat.reduceEqDiff,Nat.reduceAdd,Nat.reduceSub,Int.reduceAdd,Int.reduceSub,Int.reduceToNat]
   refine⟨qC,hN _ (i+1,(⟨w.a,w.b,bag,p1,wA,wB,rA,rB,⟨k1,t1⟩,n1,q1,nsB⟩:WorldD)) (qI 0 30) (⟨by omega,rfl,rfl,?_,?_⟩) (by (try dsimp only);omega) (ab (by rfl) (by rfl) ?_)⟩
   ·have e:c_ 1 (⟨w.a,w.b,bag,past,wA,wB,rA,rB,⟨keys,tags⟩,nums,nsA,nsB⟩:WorldD) x=(⟨w.a,w.b,bag,p1,wA,wB,rA,rB,⟨k1,t1⟩,n1,q1,nsB⟩:WorldD):=by
     rw [c_,if_pos b4,oR,jm]
     dsimp only
     rw [←hkk,hoth,←hp1,←hq1,hn1]
     rfl
    rw [←e]
    exact dE hS
   ·have e:c_ 1 (⟨w.a,w.b,bag,past,wA,wB,rA,rB,⟨keys,tags⟩,nums,nsA,nsB⟩:WorldD) x=(⟨w.a,w.b,bag,p1,wA,wB,rA,rB,⟨k1,t1⟩,n1,q1,nsB⟩:WorldD):=by
     rw [c_,if_pos b4,oR,jm]
     dsimp only
     rw [←hkk,hoth,←hp1,←hq1,hn1]
     rfl
    rw [←e]
    exact hu
   try simp (disch:=omega) only [go_sem,Nat.reduceEqDiff,Nat.reduceAdd,Nat.reduceSub,Int.reduceAdd,Int.reduceSub,Int.reduceToNat]
  have h6:j < (iY x).length:=by simp only [iY,List.length_cons,List.length_nil];omega
  rw [rH h6] at hn
  generalize hv:(iY x)[j]=v at hn
  have hg3:([[.int .i64 x.nonce],[.int .i64 x.give],[.int .i64 x.sgn]]:List (List Sc))[j]? =some (aC v):=by
   rw [←hv]
   rw [show ([[.int .i64 x.nonce],[.int .i64 x.give],[.int .i64 x.sgn]]:List (List Sc))=(iY x).map aC from rfl]
   exact ao h6
  simp only [aC] at hg3
  have hH:=eH m v hm
  have ht:=zd (l:=m) (n:=v)
  have hf1:=vL (l:=m) (n:=v)
  have hf2:=vM (l:=m) (n:=v)
  have hf3:=vN (l:=m) (n:=v)
  have hvl:(dk m v).length≤1048576:=d_ hm
  generalize dk m v=m1 at*
  try simp (disch:=omega) only [go_sem,Nat.reduceEqDiff,Nat.reduceAdd,Nat.reduceSub,Int.reduceAdd,Int.reduceSub,Int.reduceToNat,hg3]
  split<;>rename_i c1<;>(try simp only [beq_true,beq_false,Bool.not_eq_true',Bool.not_eq_false'] at c1)<;>simp (disch:=omega) only [go_sem,Nat.reduceEqDiff,Nat.reduceAdd,Nat.reduceSub,Int.reduceAdd,Int.reduceSub,Int.reduceToNat,c1]<;>(try simp only [decide_eq_true_eq,decide_eq_false_iff_not,beq_iff_eq,beq_eq_false_iff_ne,bne_iff_ne,bne_eq_false_iff_eq,ne_eq,Decidable.not_not,Bool.and_eq_true,Bool.and_eq_false_iff,Bool.or_eq_true,Bool.or_eq_false_iff,Int.ofNat_lt,Int.ofNat_le,Bool.not_eq_eq_eq_not,Bool.not_true,Bool.not_false] at c1)<;>try simp (disch:=omega) only [go_sem,Nat.reduceEqDiff,Nat.reduceAdd,Nat.reduceSub,Int.reduceAdd,Int.reduceSub,Int.reduceToNat]
  ·refine al (qC) (hH) (qI 27 1) qM (by rfl) (ac 400 ?_)
   simp (disch:=omega) only [go_sem,Nat.reduceEqDiff,Nat.reduceAdd,Nat.reduceSub,Int.reduceAdd,Int.reduceSub,Int.reduceToNat]
   split<;>rename_i c2<;>(try simp only [beq_true,beq_false,Bool.not_eq_true',Bool.not_eq_false'] at c2)<;>simp (disch:=omega) only [go_sem,Nat.reduceEqDiff,Nat.reduceAdd,Nat.reduceSub,Int.reduceAdd,Int.reduceSub,Int.reduceToNat,c2]<;>(try simp only [decide_eq_true_eq,decide_eq_false_iff_not,beq_iff_eq,beq_eq_false_iff_ne,bne_iff_ne,bne_eq_false_iff_eq,ne_eq,Decidable.not_not,Bool.and_eq_true,Bool.and_eq_false_iff,Bool.or_eq_true,Bool.or_eq_false_iff,Int.ofNat_lt,Int.ofNat_le,Bool.not_eq_eq_eq_not,Bool.not_true,Bool.not_false] at c2)<;>try simp (disch:=omega) only [go_sem,Nat.reduceEqDiff,Nat.reduceAdd,Nat.reduceSub,Int.reduceAdd,Int.reduceSub,Int.reduceToNat]
   ·split<;>rename_i c3<;>(try simp only [beq_true,beq_false,Bool.not_eq_true',Bool.not_eq_false'] at c3)<;>simp (disch:=omega) only [go_sem,Nat.reduceEqDiff,Nat.reduceAdd,Nat.reduceSub,Int.reduceAdd,Int.reduceSub,Int.reduceToNat,c3]<;>(try simp only [decide_eq_true_eq,decide_eq_false_iff_not,beq_iff_eq,beq_eq_false_iff_ne,bne_iff_ne,bne_eq_false_iff_eq,ne_eq,Decidable.not_not,Bool.and_eq_true,Bool.and_eq_false_iff,Bool.or_eq_true,Bool.or_eq_false_iff,Int.ofNat_lt,Int.ofNat_le,Bool.not_eq_eq_eq_not,Bool.not_true,Bool.not_false] at c3)<;>try simp (disch:=omega) only [go_sem,Nat.reduceEqDiff,Nat.reduceAdd,Nat.reduceSub,Int.reduceAdd,Int.reduceSub,Int.reduceToNat]
    ·have e:=ht c1 c2 (by omega)
     subst e
     try simp (disch:=omega) only [go_sem,Nat.reduceEqDiff,Nat.reduceAdd,Nat.reduceSub,Int.reduceAdd,Int.reduceSub,Int.reduceToNat]
     refine⟨qC,hN2 _ (j+1,m++[v]) (qI 0 27++qI 33 1++qI 28 4) (by (try dsimp only);exact⟨by omega,hvl,hn⟩) (by (try dsimp only);omega) (ab (by rfl) (by rfl) ?_)⟩
     try simp (disch:=omega) only [go_sem,Nat.reduceEqDiff,Nat.reduceAdd,Nat.reduceSub,Int.reduceAdd,Int.reduceSub,Int.reduceToNat]
     try simp [aC]
    have e:=hf3 (by omega)
    subst e
    try simp (disch:=omega) only [go_sem,Nat.reduceEqDiff,Nat.reduceAdd,Nat.reduceSub,Int.reduceAdd,Int.reduceSub,Int.reduceToNat]
    refine⟨qC,hN2 _ (j+1,m1) (qI 0 32) (by (try dsimp only);exact⟨by omega,hm,hn⟩) (by (try dsimp only);omega) (ab (by rfl) (by rfl) ?_)⟩
    try simp (disch:=omega) only [go_sem,Nat.reduceEqDiff,Nat.reduceAdd,Nat.reduceSub,Int.reduceAdd,Int.reduceSub,Int.reduceToNat]
   have e:=hf2 c2
   subst e
   try simp (disch:=omega) only [go_sem,Nat.reduceEqDiff,Nat.reduceAdd,Nat.reduceSub,Int.reduceAdd,Int.reduceSub,Int.reduceToNat]
   refine⟨qC,hN2 _ (j+1,m1) (qI 0 32) (by (try dsimp only);exact⟨by omega,hm,hn⟩) (by (try dsimp only);omega) (ab (by rfl) (by rfl) ?_)⟩
   try simp (disch:=omega) only [go_sem,Nat.reduceEqDiff,Nat.reduceAdd,Nat.reduceSub,Int.reduceAdd,Int.reduceSub,Int.reduceToNat]
  have e:=hf1 c1
  subst e
  try simp (disch:=omega) only [go_sem,Nat.reduceEqDiff,Nat.reduceAdd,Nat.reduceSub,Int.reduceAdd,Int.reduceSub,Int.reduceToNat]
  refine⟨qC,hN2 _ (j+1,m1) (qI 0 32) (by (try dsimp only);exact⟨by omega,hm,hn⟩) (by (try dsimp only);omega) (ab (by rfl) (by rfl) ?_)⟩
  try simp (disch:=omega) only [go_sem,Nat.reduceEqDiff,Nat.reduceAdd,Nat.reduceSub,Int.reduceAdd,Int.reduceSub,Int.reduceToNat]
 obtain⟨g1,hg1⟩:∃ g,g=vO bag x:=⟨_,rfl⟩
 have e:c_ 1 (⟨w.a,w.b,bag,past,wA,wB,rA,rB,⟨keys,tags⟩,nums,nsA,nsB⟩:WorldD) x=(⟨w.a,w.b,g1,p1,wA,wB,rA,rB,⟨keys,tags⟩,nums,q1,nsB⟩:WorldD):=by
  rw [c_,if_neg b4,jm]
  dsimp only
  rw [hoth,←hp1,←hq1,←hg1]
 rw [e] at hu
 have hS1:=dE (side:=1) (x:=x) hS
 rw [e] at hS1
 split<;>rename_i b5<;>(try simp only [beq_true,beq_false,Bool.not_eq_true',Bool.not_eq_false'] at b5)<;>simp (disch:=omega) only [go_sem,Nat.reduceEqDiff,Nat.reduceAdd,Nat.reduceSub,Int.reduceAdd,Int.reduceSub,Int.reduceToNat,b5]<;>(try simp only [decide_eq_true_eq,decide_eq_false_iff_not,beq_iff_eq,beq_eq_false_iff_ne,bne_iff_ne,bne_eq_false_iff_eq,ne_eq,Decidable.not_not,Bool.and_eq_true,Bool.and_eq_false_iff,Bool.or_eq_true,Bool.or_eq_false_iff,Int.ofNat_lt,Int.ofNat_le,Bool.not_eq_eq_eq_not,Bool.not_true,Bool.not_false] at b5)<;>try simp (disch:=omega) only [go_sem,Nat.reduceEqDiff,Nat.reduceAdd,Nat.reduceSub,Int.reduceAdd,Int.reduceSub,Int.reduceToNat]
 ·rw [vP (by omega)] at hg1
  subst hg1
  refine ar (qU [0,11]) (by kernel_rfl) (qC) (by kernel_rfl) (aa 400 ?_)
  simp (disch:=omega) only [go_sem,Nat.reduceEqDiff,Nat.reduceAdd,Nat.reduceSub,Int.reduceAdd,Int.reduceSub,Int.reduceToNat]
  refine⟨qC,ac 400 ?_⟩
  try simp (disch:=omega) only [go_sem,Nat.reduceEqDiff,Nat.reduceAdd,Nat.reduceSub,Int.reduceAdd,Int.reduceSub,Int.reduceToNat]
  refine⟨qC,hN _ (i+1,(⟨w.a,w.b,(bag++[x]),p1,wA,wB,rA,rB,⟨keys,tags⟩,nums,q1,nsB⟩:WorldD)) (qI 0 23++qI 32 1++qI 24 6) (by (try dsimp only);exact⟨by omega,rfl,rfl,hS1,hu⟩) (by (try dsimp only);omega) (ab (by rfl) (by rfl) ?_)⟩
  try simp (disch:=omega) only [go_sem,Nat.reduceEqDiff,Nat.reduceAdd,Nat.reduceSub,Int.reduceAdd,Int.reduceSub,Int.reduceToNat]
  try simp [LetterD.cs]
 rw [vQ (by omega)] at hg1
 subst hg1
 try simp (disch:=omega) only [go_sem,Nat.reduceEqDiff,Nat.reduceAdd,Nat.reduceSub,Int.reduceAdd,Int.reduceSub,Int.reduceToNat]
 refine⟨qC,hN _ (i+1,(⟨w.a,w.b,g1,p1,wA,wB,rA,rB,⟨keys,tags⟩,nums,q1,nsB⟩:WorldD)) (qI 0 30) (by (try dsimp only);exact⟨by omega,rfl,rfl,hS1,hu⟩) (by (try dsimp only);omega) (ab (by rfl) (by rfl) ?_)⟩
 try simp (disch:=omega) only [go_sem,Nat.reduceEqDiff,Nat.reduceAdd,Nat.reduceSub,Int.reduceAdd,Int.reduceSub,Int.reduceToNat]
theorem eN (w:WorldD) (l:List LetterD) (hw:SmallP2 w) (hl:l.length≤1048576):ae Tryz.prog 155 [.sc (.pt 21 0 0),.sc (.int .i64 2),.sc (.sl 22 0 l.length)]
  (dK w false++(dL w true++[some ⟨[w.cs 0],61,51,true,false⟩,some ⟨l.map LetterD.cs,19,91,false,true⟩])) (.tu [])
  (dK w false++([none,none,none,none,none,none,none,some ⟨[(c7 (aq 2 w l) 0 1 2 3 4 5 6 7 8 9 10 11 12 13 23 24 25 26 27 28 29)],61,51,true,false⟩,some ⟨l.map LetterD.cs,19,91,false,true⟩]++dL (aq 2 w l) true)):=by
 obtain⟨R,hR⟩:∃ R,R=aq 2 w l:=⟨_,rfl⟩
 rw [←hR]
 have hl2:l.length≤9223372036854775807:=by omega
 refine aN Tryz.func155 (by kernel_rfl) rfl fun E hE=>ac 400 ?_
 simp (disch:=omega) only [Tryz.ntmps155,Tryz.results155,go_sem,Nat.reduceEqDiff,Nat.reduceAdd,Nat.reduceSub,Int.reduceAdd,Int.reduceSub,Int.reduceToNat]
 refine cE 23 hE (fun s (y:Nat×WorldD)=>s.at (qU [2,1,7,1,9,1,13,145]) [(12,.sc (.int .i64 (y.1:Nat)))] (dK w false++([none,none,none,none,none,none,none,some ⟨[(c7 y.2 0 1 2 3 4 5 6 7 8 9 10 11 12 13 23 24 25 26 27 28 29)],61,51,true,false⟩,some ⟨l.map LetterD.cs,19,91,false,true⟩]++(dL y.2 true)))) (fun (y:Nat×WorldD)=>y.1≤l.length∧y.2.a=w.a∧y.2.b=w.b∧SmallP2 y.2∧R=aq 2 y.2 (l.drop y.1)) (fun (y:Nat×WorldD)=>l.length - y.1) (0,w) (qI 0 23++qI 14 7) (qC) (⟨Nat.zero_le _,rfl,rfl,hw,hR⟩) (ab (by rfl) (by rfl) ?_) fun y hy N hN=>?_
 ·try simp (disch:=omega) only [go_sem,Nat.reduceEqDiff,Nat.reduceAdd,Nat.reduceSub,Int.reduceAdd,Int.reduceSub,Int.reduceToNat]
 obtain⟨i,u⟩:=y
 obtain⟨hi,ha,hb,hS,hu⟩:=hy
 obtain⟨ua,ub,bag,past,wA,wB,rA,rB,known,nums,nsA,nsB⟩:=u
 obtain⟨keys,tags⟩:=known
 dsimp only at hi ha hb hu
 subst ha hb
 have s1:=hS.bag
 have s2:=hS.past
 have s3:=hS.keys
 have s4:=hS.tags
 have s5:=hS.nums
 have s6:=hS.ansA
 have s7:=hS.ansB
 dsimp only at s1 s2 s3 s4 s5 s6 s7
 refine dm 21 400 ?_
 try simp (disch:=omega) only [go_sem,Nat.reduceEqDiff,Nat.reduceAdd,Nat.reduceSub,Int.reduceAdd,Int.reduceSub,Int.reduceToNat,Nat.reduceBEq]
 split<;>rename_i h<;>(try simp only [decide_eq_true_eq,decide_eq_false_iff_not,Int.ofNat_lt] at h)
 rotate_left
 ·have e:i=l.length:=by omega
  subst e
  rw [kU (Nat.le_refl _)] at hu
  subst hu
  try simp (disch:=omega) only [go_sem,Nat.reduceEqDiff,Nat.reduceAdd,Nat.reduceSub,Int.reduceAdd,Int.reduceSub,Int.reduceToNat,Nat.reduceBEq]
  refine aA (qI 0 30) (qC) _ (by simp only [go_sem];rfl) (by rfl) (by rfl) ?_
  simp (disch:=omega) only [go_sem,Nat.reduceEqDiff,Nat.reduceAdd,Nat.reduceSub,Int.reduceAdd,Int.reduceSub,Int.reduceToNat,Nat.reduceBEq]
 rw [jK h] at hu
 generalize hx:l[i]=x at hu
 have hget:=ao (enc:=LetterD.cs) h
 rw [hx] at hget
 try simp (disch:=omega) only [go_sem,Nat.reduceEqDiff,Nat.reduceAdd,Nat.reduceSub,Int.reduceAdd,Int.reduceSub,Int.reduceToNat,Nat.reduceBEq,hget]
 obtain⟨p1,hp1⟩:∃ p,p=nb past x:=⟨_,rfl⟩
 refine dP 23 hE (fun s=>s.at (qU [13,19]) [] (dK w false++([none,none,none,none,none,none,none,some ⟨[(c7 (⟨w.a,w.b,bag,p1,wA,wB,rA,rB,⟨keys,tags⟩,nums,nsA,nsB⟩:WorldD) 0 1 2 3 4 5 6 7 8 9 10 11 12 13 23 24 25 26 27 28 29)],61,51,true,false⟩,some ⟨l.map LetterD.cs,19,91,false,true⟩]++(dL (⟨w.a,w.b,bag,p1,wA,wB,rA,rB,⟨keys,tags⟩,nums,nsA,nsB⟩:WorldD) true++[some ⟨[x.cs],19,91,true,false⟩])))) (qC) (by rfl) (fun N hN=>ac 401 ?_) (dm 34 400 ?_)
 ·try simp (disch:=omega) only [go_sem,Nat.reduceEqDiff,Nat.reduceAdd,Nat.reduceSub,Int.reduceAdd,Int.reduceSub,Int.reduceToNat,Nat.reduceBEq]
  split<;>rename_i b1<;>(try simp only [beq_true,beq_false,Bool.not_eq_true',Bool.not_eq_false'] at b1)<;>simp (disch:=omega) only [go_sem,Nat.reduceEqDiff,Nat.reduceAdd,Nat.reduceSub,Int.reduceAdd,Int.reduceSub,Int.reduceToNat,Nat.reduceBEq,b1]<;>(try simp only [decide_eq_true_eq,decide_eq_false_iff_not,beq_iff_eq,beq_eq_false_iff_ne,bne_iff_ne,bne_eq_false_iff_eq,ne_eq,Decidable.not_not,Bool.and_eq_true,Bool.and_eq_false_iff,Bool.or_eq_true,Bool.or_eq_false_iff,Int.ofNat_lt,Int.ofNat_le,Bool.not_eq_eq_eq_not,Bool.not_true,Bool.not_false] at b1)<;>try simp (disch:=omega) only [go_sem,Nat.reduceEqDiff,Nat.reduceAdd,Nat.reduceSub,Int.reduceAdd,Int.reduceSub,Int.reduceToNat,Nat.reduceBEq]
  ·rw [pw (by omega)] at hp1
   subst hp1
   refine ar (qU [0,11]) (by kernel_rfl) (qC) (by kernel_rfl) (aa 400 ?_)
   simp (disch:=omega) only [go_sem,Nat.reduceEqDiff,Nat.reduceAdd,Nat.reduceSub,Int.reduceAdd,Int.reduceSub,Int.reduceToNat,Nat.reduceBEq]
   refine⟨qC,dm 34 400 ?_⟩
   try simp (disch:=omega) only [go_sem,Nat.reduceEqDiff,Nat.reduceAdd,Nat.reduceSub,Int.reduceAdd,Int.reduceSub,Int.reduceToNat,Nat.reduceBEq]
   refine⟨qC,hN _ (qI 0 24++qI 32 1++qI 25 6) (ab (by rfl) (by rfl) ?_)⟩
   simp (disch:=omega) only [go_sem,Nat.reduceEqDiff,Nat.reduceAdd,Nat.reduceSub,Int.reduceAdd,Int.reduceSub,Int.reduceToNat,Nat.reduceBEq]
   try simp [LetterD.cs]
  rw [px (by omega)] at hp1
  subst hp1
  try simp (disch:=omega) only [go_sem,Nat.reduceEqDiff,Nat.reduceAdd,Nat.reduceSub,Int.reduceAdd,Int.reduceSub,Int.reduceToNat,Nat.reduceBEq]
  refine⟨qC,hN _ (qI 0 31) (ab (by rfl) (by rfl) ?_)⟩
  simp (disch:=omega) only [go_sem,Nat.reduceEqDiff,Nat.reduceAdd,Nat.reduceSub,Int.reduceAdd,Int.reduceSub,Int.reduceToNat,Nat.reduceBEq]
 try simp (disch:=omega) only [go_sem,Nat.reduceEqDiff,Nat.reduceAdd,Nat.reduceSub,Int.reduceAdd,Int.reduceSub,Int.reduceToNat,Nat.reduceBEq]
 obtain⟨q1,hq1⟩:∃ q,q=ma nsB (lj 2 2 x) w.b.now:=⟨_,rfl⟩
 refine dP 23 hE (fun s=>s.at (qU [13,70]) [] (dK w false++([none,none,none,none,none,none,none,some ⟨[(c7 (⟨w.a,w.b,bag,p1,wA,wB,rA,rB,⟨keys,tags⟩,nums,nsA,q1⟩:WorldD) 0 1 2 3 4 5 6 7 8 9 10 11 12 13 23 24 25 26 27 28 29)],61,51,true,false⟩,some ⟨l.map LetterD.cs,19,91,false,true⟩]++(dL (⟨w.a,w.b,bag,p1,wA,wB,rA,rB,⟨keys,tags⟩,nums,nsA,q1⟩:WorldD) true++[some ⟨[x.cs],19,91,true,false⟩])))) (qC) (by rfl) (fun N hN=>ac 401 ?_) (ac 400 ?_)
 ·try simp (disch:=omega) only [go_sem,Nat.reduceEqDiff,Nat.reduceAdd,Nat.reduceSub,Int.reduceAdd,Int.reduceSub,Int.reduceToNat]
  split<;>rename_i b2<;>(try simp only [beq_true,beq_false,Bool.not_eq_true',Bool.not_eq_false'] at b2)<;>simp (disch:=omega) only [go_sem,Nat.reduceEqDiff,Nat.reduceAdd,Nat.reduceSub,Int.reduceAdd,Int.reduceSub,Int.reduceToNat,b2]<;>(try simp only [decide_eq_true_eq,decide_eq_false_iff_not,beq_iff_eq,beq_eq_false_iff_ne,bne_iff_ne,bne_eq_false_iff_eq,ne_eq,Decidable.not_not,Bool.and_eq_true,Bool.and_eq_false_iff,Bool.or_eq_true,Bool.or_eq_false_iff,Int.ofNat_lt,Int.ofNat_le,Bool.not_eq_eq_eq_not,Bool.not_true,Bool.not_false] at b2)<;>try simp (disch:=omega) only [go_sem,Nat.reduceEqDiff,Nat.reduceAdd,Nat.reduceSub,Int.reduceAdd,Int.reduceSub,Int.reduceToNat]
  ·rw [vV b2] at hq1
   split<;>rename_i b3<;>(try simp only [beq_true,beq_false,Bool.not_eq_true',Bool.not_eq_false'] at b3)<;>simp (disch:=omega) only [go_sem,Nat.reduceEqDiff,Nat.reduceAdd,Nat.reduceSub,Int.reduceAdd,Int.reduceSub,Int.reduceToNat,b3]<;>(try simp only [decide_eq_true_eq,decide_eq_false_iff_not,beq_iff_eq,beq_eq_false_iff_ne,bne_iff_ne,bne_eq_false_iff_eq,ne_eq,Decidable.not_not,Bool.and_eq_true,Bool.and_eq_false_iff,Bool.or_eq_true,Bool.or_eq_false_iff,Int.ofNat_lt,Int.ofNat_le,Bool.not_eq_eq_eq_not,Bool.not_true,Bool.not_false] at b3)<;>try simp (disch:=omega) only [go_sem,Nat.reduceEqDiff,Nat.reduceAdd,Nat.reduceSub,Int.reduceAdd,Int.reduceSub,Int.reduceToNat]
   ·rw [vR (by omega)] at hq1
    subst hq1
    refine ar (qU [0,15]) (by kernel_rfl) (qC) (by kernel_rfl) (aa 400 ?_)
    simp (disch:=omega) only [go_sem,Nat.reduceEqDiff,Nat.reduceAdd,Nat.reduceSub,Int.reduceAdd,Int.reduceSub,Int.reduceToNat]
    refine⟨qC,ac 400 ?_⟩
    try simp (disch:=omega) only [go_sem,Nat.reduceEqDiff,Nat.reduceAdd,Nat.reduceSub,Int.reduceAdd,Int.reduceSub,Int.reduceToNat]
    refine⟨qC,hN _ (qI 0 29++qI 32 1++qI 30 1) (ab (by rfl) (by rfl) ?_)⟩
    simp (disch:=omega) only [go_sem,Nat.reduceEqDiff,Nat.reduceAdd,Nat.reduceSub,Int.reduceAdd,Int.reduceSub,Int.reduceToNat]
    try simp [aC]
   rw [vS (by omega)] at hq1
   subst hq1
   try simp (disch:=omega) only [go_sem,Nat.reduceEqDiff,Nat.reduceAdd,Nat.reduceSub,Int.reduceAdd,Int.reduceSub,Int.reduceToNat]
   refine⟨qC,hN _ (qI 0 31) (ab (by rfl) (by rfl) ?_)⟩
   simp (disch:=omega) only [go_sem,Nat.reduceEqDiff,Nat.reduceAdd,Nat.reduceSub,Int.reduceAdd,Int.reduceSub,Int.reduceToNat]
  rw [vT b2,iX] at hq1
  subst hq1
  try simp (disch:=omega) only [go_sem,Nat.reduceEqDiff,Nat.reduceAdd,Nat.reduceSub,Int.reduceAdd,Int.reduceSub,Int.reduceToNat]
  refine⟨qC,hN _ (qI 0 31) (ab (by rfl) (by rfl) ?_)⟩
  simp (disch:=omega) only [go_sem,Nat.reduceEqDiff,Nat.reduceAdd,Nat.reduceSub,Int.reduceAdd,Int.reduceSub,Int.reduceToNat]
 try simp (disch:=omega) only [go_sem,Nat.reduceEqDiff,Nat.reduceAdd,Nat.reduceSub,Int.reduceAdd,Int.reduceSub,Int.reduceToNat]
 refine al (qC) (dC x.to) [] qM (by rfl) (ac 400 ?_)
 simp (disch:=omega) only [go_sem,Nat.reduceEqDiff,Nat.reduceAdd,Nat.reduceSub,Int.reduceAdd,Int.reduceSub,Int.reduceToNat]
 have hoth:ma nsA (lj 2 1 x) w.a.now=nsA:=by rw [vU (by decide),iX]
 split<;>rename_i b4<;>(try simp only [beq_true,beq_false,Bool.not_eq_true',Bool.not_eq_false'] at b4)<;>simp (disch:=omega) only [go_sem,Nat.reduceEqDiff,Nat.reduceAdd,Nat.reduceSub,Int.reduceAdd,Int.reduceSub,Int.reduceToNat,b4]<;>(try simp only [decide_eq_true_eq,decide_eq_false_iff_not,beq_iff_eq,beq_eq_false_iff_ne,bne_iff_ne,bne_eq_false_iff_eq,ne_eq,Decidable.not_not,Bool.and_eq_true,Bool.and_eq_false_iff,Bool.or_eq_true,Bool.or_eq_false_iff,Int.ofNat_lt,Int.ofNat_le,Bool.not_eq_eq_eq_not,Bool.not_true,Bool.not_false] at b4)<;>try simp (disch:=omega) only [go_sem,Nat.reduceEqDiff,Nat.reduceAdd,Nat.reduceSub,Int.reduceAdd,Int.reduceSub,Int.reduceToNat]
 ·have hK:=ru ⟨keys,tags⟩ x.tag (by dsimp only;omega) (by dsimp only;omega)
  have hky:(dY ⟨keys,tags⟩ x.tag).keys.length≤1048576:=by rw [iB];exact s3
  have hkt:(dY ⟨keys,tags⟩ x.tag).tags.length≤1048576:=kC s4
  obtain⟨kk,hkk⟩:∃ k,k=dY ⟨keys,tags⟩ x.tag:=⟨_,rfl⟩
  rw [←hkk] at hK hky hkt
  obtain⟨k1,t1⟩:=kk
  dsimp only at hky hkt
  refine ar (qU [0,11]) (by kernel_rfl) (qC) (by kernel_rfl) (aa 400 ?_)
  simp (disch:=omega) only [go_sem,Nat.reduceEqDiff,Nat.reduceAdd,Nat.reduceSub,Int.reduceAdd,Int.reduceSub,Int.reduceToNat]
  refine am (qC) (hK) (qI 25 2) qM (by rfl) (by rfl) (aa 400 ?_)
  simp (disch:=omega) only [go_sem,Nat.reduceEqDiff,Nat.reduceAdd,Nat.reduceSub,Int.reduceAdd,Int.reduceSub,Int.reduceToNat]
  refine⟨qC,ac 400 ?_⟩
  try simp (disch:=omega) only [go_sem,Nat.reduceEqDiff,Nat.reduceAdd,Nat.reduceSub,Int.reduceAdd,Int.reduceSub,Int.reduceToNat]
  obtain⟨n1,hn1⟩:∃ n,n=(iY x).foldl dk nums:=⟨_,rfl⟩
  have hn1l:n1.length≤1048576:=by rw [hn1];exact d_ (d_ (d_ s5))
  refine cE 23 hE (fun s (z:Nat×List Int)=>s.at (qU [2,1,9,1,14,7,22,12,35,9,45,23,69,14,84,20,107,33,141,17]) [(106,.sc (.int .i64 (z.1:Nat))),(104,.sc (.sl 31 0 3))] (dK w false++([none,none,none,none,none,none,none,some ⟨[(c7 (⟨w.a,w.b,bag,p1,wA,wB,rA,rB,⟨k1,t1⟩,z.2,nsA,q1⟩:WorldD) 0 1 2 3 4 5 6 7 8 9 10 11 12 13 23 24 25 26 27 28 29)],61,51,true,false⟩,some ⟨l.map LetterD.cs,19,91,false,true⟩]++(dL (⟨w.a,w.b,bag,p1,wA,wB,rA,rB,⟨k1,t1⟩,z.2,nsA,q1⟩:WorldD) true++[some ⟨[x.cs],19,91,true,false⟩]++[some ⟨[[.int .i64 x.nonce],[.int .i64 x.give],[.int .i64 x.sgn]],1,3,true,true⟩])))) (fun (z:Nat×List Int)=>z.1≤3∧z.2.length≤1048576∧n1=((iY x).drop z.1).foldl dk z.2) (fun (z:Nat×List Int)=>3 - z.1) (0,nums) (qI 0 25++qI 31 2++qI 27 4++qI 33 1) (qC) (⟨Nat.zero_le _,s5,hn1⟩) (ab (by rfl) (by rfl) ?_) fun z hz N2 hN2=>?_
  ·try simp (disch:=omega) only [go_sem,Nat.reduceEqDiff,Nat.reduceAdd,Nat.reduceSub,Int.reduceAdd,Int.reduceSub,Int.reduceToNat]
  obtain⟨j,m⟩:=z
  obtain⟨hj,hm,hn⟩:=hz
  dsimp only at hj hm hn
  refine ac 400 ?_
  try simp (disch:=omega) only [go_sem,Nat.reduceEqDiff,Nat.reduceAdd,Nat.reduceSub,Int.reduceAdd,Int.reduceSub,Int.reduceToNat]
  split<;>rename_i h5<;>(try simp only [decide_eq_true_eq,decide_eq_false_iff_not,Int.ofNat_lt] at h5)
  rotate_left
  ·have e:j=3:=by omega
   subst e
   rw [uA (by simp [iY])] at hn
   subst hn
   try simp (disch:=omega) only [go_sem,Nat.reduceEqDiff,Nat.reduceAdd,Nat.reduceSub,Int.reduceAdd,Int.reduceSub,Int.reduceToNat]
   refine⟨qC,hN _ (i+1,(⟨w.a,w.b,bag,p1,wA,wB,rA,rB,⟨k1,t1⟩,n1,nsA,q1⟩:WorldD)) (qI 0 30) (⟨by omega,rfl,rfl,?_,?_⟩) (by (try dsimp only);omega) (ab (by rfl) (by rfl) ?_)⟩
   ·have e:c_ 2 (⟨w.a,w.b,bag,past,wA,wB,rA,rB,⟨keys,tags⟩,nums,nsA,nsB⟩:WorldD) x=(⟨w.a,w.b,bag,p1,wA,wB,rA,rB,⟨k1,t1⟩,n1,nsA,q1⟩:WorldD):=by
     rw [c_,if_pos b4,oR,jm]
     dsimp only
     rw [←hkk,hoth,←hp1,←hq1,hn1]
     rfl
    rw [←e]
    exact dE hS
   ·have e:c_ 2 (⟨w.a,w.b,bag,past,wA,wB,rA,rB,⟨keys,tags⟩,nums,nsA,nsB⟩:WorldD) x=(⟨w.a,w.b,bag,p1,wA,wB,rA,rB,⟨k1,t1⟩,n1,nsA,q1⟩:WorldD):=by
     rw [c_,if_pos b4,oR,jm]
     dsimp only
     rw [←hkk,hoth,←hp1,←hq1,hn1]
     rfl
    rw [←e]
    exact hu
   try simp (disch:=omega) only [go_sem,Nat.reduceEqDiff,Nat.reduceAdd,Nat.reduceSub,Int.reduceAdd,Int.reduceSub,Int.reduceToNat]
  have h6:j < (iY x).length:=by simp only [iY,List.length_cons,List.length_nil];omega
  rw [rH h6] at hn
  generalize hv:(iY x)[j]=v at hn
  have hg3:([[.int .i64 x.nonce],[.int .i64 x.give],[.int .i64 x.sgn]]:List (List Sc))[j]? =some (aC v):=by
   rw [←hv]
   rw [show ([[.int .i64 x.nonce],[.int .i64 x.give],[.int .i64 x.sgn]]:List (List Sc))=(iY x).map aC from rfl]
   exact ao h6
  simp only [aC] at hg3
  have hH:=eH m v hm
  have ht:=zd (l:=m) (n:=v)
  have hf1:=vL (l:=m) (n:=v)
  have hf2:=vM (l:=m) (n:=v)
  have hf3:=vN (l:=m) (n:=v)
  have hvl:(dk m v).length≤1048576:=d_ hm
  generalize dk m v=m1 at*
  try simp (disch:=omega) only [go_sem,Nat.reduceEqDiff,Nat.reduceAdd,Nat.reduceSub,Int.reduceAdd,Int.reduceSub,Int.reduceToNat,hg3]
  split<;>rename_i c1<;>(try simp only [beq_true,beq_false,Bool.not_eq_true',Bool.not_eq_false'] at c1)<;>simp (disch:=omega) only [go_sem,Nat.reduceEqDiff,Nat.reduceAdd,Nat.reduceSub,Int.reduceAdd,Int.reduceSub,Int.reduceToNat,c1]<;>(try simp only [decide_eq_true_eq,decide_eq_false_iff_not,beq_iff_eq,beq_eq_false_iff_ne,bne_iff_ne,bne_eq_false_iff_eq,ne_eq,Decidable.not_not,Bool.and_eq_true,Bool.and_eq_false_iff,Bool.or_eq_true,Bool.or_eq_false_iff,Int.ofNat_lt,Int.ofNat_le,Bool.not_eq_eq_eq_not,Bool.not_true,Bool.not_false] at c1)<;>try simp (disch:=omega) only [go_sem,Nat.reduceEqDiff,Nat.reduceAdd,Nat.reduceSub,Int.reduceAdd,Int.reduceSub,Int.reduceToNat]
  ·refine al (qC) (hH) (qI 27 1) qM (by rfl) (ac 400 ?_)
   simp (disch:=omega) only [go_sem,Nat.reduceEqDiff,Nat.reduceAdd,Nat.reduceSub,Int.reduceAdd,Int.reduceSub,Int.reduceToNat]
   split<;>rename_i c2<;>(try simp only [beq_true,beq_false,Bool.not_eq_true',Bool.not_eq_false'] at c2)<;>simp (disch:=omega) only [go_sem,Nat.reduceEqDiff,Nat.reduceAdd,Nat.reduceSub,Int.reduceAdd,Int.reduceSub,Int.reduceToNat,c2]<;>(try simp only [decide_eq_true_eq,decide_eq_false_iff_not,beq_iff_eq,beq_eq_false_iff_ne,bne_iff_ne,bne_eq_false_iff_eq,ne_eq,Decidable.not_not,Bool.and_eq_true,Bool.and_eq_false_iff,Bool.or_eq_true,Bool.or_eq_false_iff,Int.ofNat_lt,Int.ofNat_le,Bool.not_eq_eq_eq_not,Bool.not_true,Bool.not_false] at c2)<;>try simp (disch:=omega) only [go_sem,Nat.reduceEqDiff,Nat.reduceAdd,Nat.reduceSub,Int.reduceAdd,Int.reduceSub,Int.reduceToNat]
   ·split<;>rename_i c3<;>(try simp only [beq_true,beq_false,Bool.not_eq_true',Bool.not_eq_false'] at c3)<;>simp (disch:=omega) only [go_sem,Nat.reduceEqDiff,Nat.reduceAdd,Nat.reduceSub,Int.reduceAdd,Int.reduceSub,Int.reduceToNat,c3]<;>(try simp only [decide_eq_true_eq,decide_eq_false_iff_not,beq_iff_eq,beq_eq_false_iff_ne,bne_iff_ne,bne_eq_false_iff_eq,ne_eq,Decidable.not_not,Bool.and_eq_true,Bool.and_eq_false_iff,Bool.or_eq_true,Bool.or_eq_false_iff,Int.ofNat_lt,Int.ofNat_le,Bool.not_eq_eq_eq_not,Bool.not_true,Bool.not_false] at c3)<;>try simp (disch:=omega) only [go_sem,Nat.reduceEqDiff,Nat.reduceAdd,Nat.reduceSub,Int.reduceAdd,Int.reduceSub,Int.reduceToNat]
    ·have e:=ht c1 c2 (by omega)
     subst e
     try simp (disch:=omega) only [go_sem,Nat.reduceEqDiff,Nat.reduceAdd,Nat.reduceSub,Int.reduceAdd,Int.reduceSub,Int.reduceToNat]
     refine⟨qC,hN2 _ (j+1,m++[v]) (qI 0 27++qI 33 1++qI 28 4) (by (try dsimp only);exact⟨by omega,hvl,hn⟩) (by (try dsimp only);omega) (ab (by rfl) (by rfl) ?_)⟩
     try simp (disch:=omega) only [go_sem,Nat.reduceEqDiff,Nat.reduceAdd,Nat.reduceSub,Int.reduceAdd,Int.reduceSub,Int.reduceToNat]
     try simp [aC]
    have e:=hf3 (by omega)
    subst e
    try simp (disch:=omega) only [go_sem,Nat.reduceEqDiff,Nat.reduceAdd,Nat.reduceSub,Int.reduceAdd,Int.reduceSub,Int.reduceToNat]
    refine⟨qC,hN2 _ (j+1,m1) (qI 0 32) (by (try dsimp only);exact⟨by omega,hm,hn⟩) (by (try dsimp only);omega) (ab (by rfl) (by rfl) ?_)⟩
    try simp (disch:=omega) only [go_sem,Nat.reduceEqDiff,Nat.reduceAdd,Nat.reduceSub,Int.reduceAdd,Int.reduceSub,Int.reduceToNat]
   have e:=hf2 c2
   subst e
   try simp (disch:=omega) only [go_sem,Nat.reduceEqDiff,Nat.reduceAdd,Nat.reduceSub,Int.reduceAdd,Int.reduceSub,Int.reduceToNat]
   refine⟨qC,hN2 _ (j+1,m1) (qI 0 32) (by (try dsimp only);exact⟨by omega,hm,hn⟩) (by (try dsimp only);omega) (ab (by rfl) (by rfl) ?_)⟩
   try simp (disch:=omega) only [go_sem,Nat.reduceEqDiff,Nat.reduceAdd,Nat.reduceSub,Int.reduceAdd,Int.reduceSub,Int.reduceToNat]
  have e:=hf1 c1
  subst e
  try simp (disch:=omega) only [go_sem,Nat.reduceEqDiff,Nat.reduceAdd,Nat.reduceSub,Int.reduceAdd,Int.reduceSub,Int.reduceToNat]
  refine⟨qC,hN2 _ (j+1,m1) (qI 0 32) (by (try dsimp only);exact⟨by omega,hm,hn⟩) (by (try dsimp only);omega) (ab (by rfl) (by rfl) ?_)⟩
  try simp (disch:=omega) only [go_sem,Nat.reduceEqDiff,Nat.reduceAdd,Nat.reduceSub,Int.reduceAdd,Int.reduceSub,Int.reduceToNat]
 obtain⟨g1,hg1⟩:∃ g,g=vO bag x:=⟨_,rfl⟩
 have e:c_ 2 (⟨w.a,w.b,bag,past,wA,wB,rA,rB,⟨keys,tags⟩,nums,nsA,nsB⟩:WorldD) x=(⟨w.a,w.b,g1,p1,wA,wB,rA,rB,⟨keys,tags⟩,nums,nsA,q1⟩:WorldD):=by
  rw [c_,if_neg b4,jm]
  dsimp only
  rw [hoth,←hp1,←hq1,←hg1]
 rw [e] at hu
 have hS1:=dE (side:=2) (x:=x) hS
 rw [e] at hS1
 split<;>rename_i b5<;>(try simp only [beq_true,beq_false,Bool.not_eq_true',Bool.not_eq_false'] at b5)<;>simp (disch:=omega) only [go_sem,Nat.reduceEqDiff,Nat.reduceAdd,Nat.reduceSub,Int.reduceAdd,Int.reduceSub,Int.reduceToNat,b5]<;>(try simp only [decide_eq_true_eq,decide_eq_false_iff_not,beq_iff_eq,beq_eq_false_iff_ne,bne_iff_ne,bne_eq_false_iff_eq,ne_eq,Decidable.not_not,Bool.and_eq_true,Bool.and_eq_false_iff,Bool.or_eq_true,Bool.or_eq_false_iff,Int.ofNat_lt,Int.ofNat_le,Bool.not_eq_eq_eq_not,Bool.not_true,Bool.not_false] at b5)<;>try simp (disch:=omega) only [go_sem,Nat.reduceEqDiff,Nat.reduceAdd,Nat.reduceSub,Int.reduceAdd,Int.reduceSub,Int.reduceToNat]
 ·rw [vP (by omega)] at hg1
  subst hg1
  refine ar (qU [0,11]) (by kernel_rfl) (qC) (by kernel_rfl) (aa 400 ?_)
  simp (disch:=omega) only [go_sem,Nat.reduceEqDiff,Nat.reduceAdd,Nat.reduceSub,Int.reduceAdd,Int.reduceSub,Int.reduceToNat]
  refine⟨qC,ac 400 ?_⟩
  try simp (disch:=omega) only [go_sem,Nat.reduceEqDiff,Nat.reduceAdd,Nat.reduceSub,Int.reduceAdd,Int.reduceSub,Int.reduceToNat]
  refine⟨qC,hN _ (i+1,(⟨w.a,w.b,(bag++[x]),p1,wA,wB,rA,rB,⟨keys,tags⟩,nums,nsA,q1⟩:WorldD)) (qI 0 23++qI 32 1++qI 24 6) (by (try dsimp only);exact⟨by omega,rfl,rfl,hS1,hu⟩) (by (try dsimp only);omega) (ab (by rfl) (by rfl) ?_)⟩
  try simp (disch:=omega) only [go_sem,Nat.reduceEqDiff,Nat.reduceAdd,Nat.reduceSub,Int.reduceAdd,Int.reduceSub,Int.reduceToNat]
  try simp [LetterD.cs]
 rw [vQ (by omega)] at hg1
 subst hg1
 try simp (disch:=omega) only [go_sem,Nat.reduceEqDiff,Nat.reduceAdd,Nat.reduceSub,Int.reduceAdd,Int.reduceSub,Int.reduceToNat]
 refine⟨qC,hN _ (i+1,(⟨w.a,w.b,g1,p1,wA,wB,rA,rB,⟨keys,tags⟩,nums,nsA,q1⟩:WorldD)) (qI 0 30) (by (try dsimp only);exact⟨by omega,rfl,rfl,hS1,hu⟩) (by (try dsimp only);omega) (ab (by rfl) (by rfl) ?_)⟩
 try simp (disch:=omega) only [go_sem,Nat.reduceEqDiff,Nat.reduceAdd,Nat.reduceSub,Int.reduceAdd,Int.reduceSub,Int.reduceToNat]
end
section
open Go.RowKit
theorem zo (a:ActD):ae Tryz.prog 66 [.ag a.cs] [] (.sc (.bo (fe a))) []:=by
 refine qE Tryz.func66 Tryz.ntmps66 Tryz.results66 fun E hE=>?_
 refine qK (aO _ _ _) [] ?_
 refine qB (fun h1=>?_) fun h1=>?_
 ·refine qK (aO _ _ _) [] ?_
  refine qB (fun h2=>?_) fun h2=>?_
  ·refine qK (cu [a.pos,a.many] (by show 2≤1000000;decide)) (qI 1 1) ?_
   refine qB (fun h3=>?_) fun h3=>?_
   ·refine qJ [] ?_
    simp only [List.all_cons,List.all_nil,Bool.and_true,Bool.and_eq_true] at h3
    simp [fe,h1,h2,h3.1,h3.2]
    omega
   refine qJ [] ?_
   simp only [List.all_cons,List.all_nil,Bool.and_true] at h3
   simp only [fe,h3,Bool.and_false,Bool.false_and]
  refine qJ [] ?_
  simp [fe,h1,h2]
 refine qJ [] ?_
 simp [fe,h1]
theorem zp (a:ActD):ae Tryz.prog 54 [.ag a.cs] [] (.sc (.bo (fe a))) []:=by
 refine qE Tryz.func54 Tryz.ntmps54 Tryz.results54 fun E hE=>?_
 refine qK (aM _ _ _) [] ?_
 refine qB (fun h1=>?_) fun h1=>?_
 ·refine qK (aM _ _ _) [] ?_
  refine qB (fun h2=>?_) fun h2=>?_
  ·refine qK (aP _) [] ?_
   refine qB (fun h3=>?_) fun h3=>?_
   ·refine qK (aP _) [] ?_
    refine qB (fun h4=>?_) fun h4=>?_
    ·refine qJ [] ?_
     simp [fe,h1,h2,h3,h4]
     omega
    refine qJ [] ?_
    simp [fe,h1,h2,h3,h4]
   refine qJ [] ?_
   simp [fe,h1,h2,h3]
  refine qJ [] ?_
  simp [fe,h1,h2]
 refine qJ [] ?_
 simp [fe,h1]
end
end Go.Proofs.YtbgakfbnkkfbkaaGreat
