/-
  Texts merged for this claim by shake.py: what its proof needs.
-/
import Derived.Test.YtjghbknhneffjaaGreatZFnBaseL
import Derived.Test.YtjghbknhneffjaaGreatZFnBaseM
import Derived.Test.YtjghbknhneffjaaGreatZFnBaseN
import Derived.Test.YtjghbknhneffjaaGreatZFnB2A
set_option maxHeartbeats 16000000
set_option maxRecDepth 100000
set_option linter.unusedVariables false
set_option linter.unusedSimpArgs false
namespace Go.Proofs.YtjghbknhneffjaaGreat
section
end
section
open Go.ChangeShapes Go.WideShapes Go.ChangeAt Go.RowKit
end
section
open Go.RowKit
theorem dn (e:EndD) (s:SubD):aP 202 [.ag (e.cs 0),.ag s.cs] (e.hp false) (.ag (cb e s).cs) (e.hp false):=by
 refine qE Tryz.func202 Tryz.ntmps202 Tryz.results202 fun E hE=>?_
 refine qD [0,1,2,3,4,5,6,7,8,9,10,11,12,13] ?_
 refine aQ (a9 _ _ _ _) [] ?_
 refine aQ (a0 s.road { ah with kind:=6,tag:=⟨2,e.key,e.peer,s.mine,s.theirs⟩}) [] ?_
 refine qG ?_
 refine qP (qI 0 7) ?_
 first|exact⟨⟩|simp [cb]
theorem a8 (r:RoadD) (n:Int):aP 205 [.ag r.cs,.sc (.int .i64 n)] [] (.sc (.sl 0 0 1)) [some ⟨[(pY r n).cs],19,48,true,true⟩]:=by
 refine qE Tryz.func205 Tryz.ntmps205 Tryz.results205 fun E hE=>?_
 refine qK (a0 r { ah with kind:=7,sgn:=n }) [] ?_
 refine qP (qI 1 1) ?_
 first|exact⟨⟩|simp [pY]
theorem kb (l:List HalfD) (r:RoadD) (hl:l.length<=1048576):aP 204 [.sc (.sl 0 0 l.length),.ag r.cs] [some ⟨l.map HalfD.cs,8,121,false,true⟩]
  (.sc (.sl 1 0 (bz l r).length)) [some ⟨l.map HalfD.cs,8,121,false,true⟩,some ⟨(bz l r).map HalfD.cs,8,121,true,true⟩]:=by
 have hA:=cT l r hl
 have hbd:=ix l r
 have hf:= @tQ l r
 have ht:=fun n=> @tR l r n
 generalize bz l r=R at*
 refine qE Tryz.func204 Tryz.ntmps204 Tryz.results204 fun E hE=>?_
 refine qK (hA) (qI 0 1) ?_
 rcases hbd with hk|⟨hb0,hb1⟩
 ·rw [hf hk,hk]
  refine qX ?_
  refine qK (mz l hl) (qI 0 1) ?_
  exact qF (qI 0 1++qI 2 1)
 obtain⟨n,hk⟩:=Int.eq_ofNat_of_zero_le hb0
 rw [ht _ hk,hk]
 refine qX ?_
 refine qD [0,1,2,4,5,6,7,3,8,9] ?_
 have hlt:(l.take n).length=n:=by simp;omega
 have hlt2:(List.take n (List.map HalfD.cs l)).length=n:=by simp;omega
 have hC:=mz (l.take n) (by simp;omega)
 rw [List.length_take,show min n l.length=n by omega] at hC
 refine aQ (hC) [some (0,some 0)] ?_
 refine qG ?_
 refine qJ (qI 0 1++qI 3 1) ?_
 refine⟨by simp;omega,?_⟩
 simp only [List.map_append,List.map_take,List.map_drop]
 congr 1
 exact List.take_of_length_le (by simp)
theorem ex (e:EndD) (x:LetterD) (hs:Small e):aP 129 [.ag (e.cs 0),.ag x.cs] (e.hp false) (.tu [.ag ((ao e x).1.cs 7),.sc (.sl 14 0 (ao e x).2.length)])
  (e.hp false++((ao e x).1.hp true++[some ⟨(ao e x).2.map LetterD.cs,19,48,true,true⟩])):=by
 have hC:=(qH (jF e))
 have hK:=(qH (ap e))
 have hS:=a7 e (roadOf x) (by have:=hs.subs;omega)
 have hH:=cT e.halfs (roadOf x) (by have:=hs.halfs;omega)
 have hD:=kb e.halfs (roadOf x) (by have:=hs.halfs;omega)
 have hL:=a1 x
 have hbS:=fP e.subs (roadOf x)
 have hbH:=ix e.halfs (roadOf x)
 have hf:=Ev (e:=e) (x:=x)
 have hf2:=Dp (e:=e) (x:=x)
 have hb:=fun n=> @Ew e x n
 have ha1:=fun i n=> @Dq e x i n
 have ha2:=fun i=> @Dr e x i
 generalize ao e x=R at*
 refine qE Tryz.func129 Tryz.ntmps129 Tryz.results129 fun E hE=>?_
 refine qK (hC) (qI 0 7) ?_
 refine qK (hK) (qI 0 7) ?_
 refine qB (fun h1=>?_) fun h1=>?_
 ·refine qK (hL) [] ?_
  refine qB (fun h2=>?_) fun h2=>?_
  ·refine qB (fun h3=>?_) fun h3=>?_
   ·rw [hf (by simp [mE,h1,h2,h3])]
    refine qX ?_
    exact qF (qI 0 7++qI 10 7++qO 1)
   have hin:mE e x=true:=by simp [mE,h1,h2,h3]
   refine qX ?_
   refine qK (a5 x) [] ?_
   refine qK (hH) (qI 3 1) ?_
   refine qK (hS) (qI 0 7) ?_
   rcases hbS with hk|⟨hk0,hk1⟩
   ·rcases hbH with hi|⟨hi0,hi1⟩
    ·rw [hi]
     rw [hk]
     refine qX ?_
     refine qD [0,1,2,3,4,5,6,7,8,9,10,11,12,13,14,15,16,17,18,19,20,21,22,23,24,25,26,27,28,29] ?_
     refine qG ?_
     rw [hf2 hin (yR hi) (tP hk)]
     refine qD [0,1,2,3,4,5,6,7,8,9,10,11,12,13,14,15,16,17,18,19,20,21,22,23,24,25,26,27,28,29,30,31,32] ?_
     refine qG ?_
     exact qF (qI 0 7++qI 10 7++qO 1)
    obtain⟨i,hi⟩:=Int.eq_ofNat_of_zero_le hi0
    have hil:i < e.halfs.length:=by omega
    have hcmp:=TagD.cmp x.tag ⟨2,e.peer,e.key,e.halfs[i].theirs,e.halfs[i].mine⟩
    simp only [TagD.cs,go_sem] at hcmp
    rw [hi]
    rw [hk]
    refine qX ?_
    refine qD [0,1,2,3,4,5,6,7,8,9,10,11,12,13,14,15,16,17,18,19,20,21,22,23,24,25,26,27,28,29] ?_
    refine qB (fun h4=>?_) fun h4=>?_
    ·refine aQ (a9 _ _ _ _) [] ?_
     refine⟨qC,ac 400 ?_⟩
     try simp (disch:=omega) only [go_sem,seval,hcmp]
     refine qB (fun h5=>?_) fun h5=>?_
     ·have hjA:rE e x=true:=by rw [km hi hil];simp [h4,h5];try omega
      rw [ha2 _ hin hjA hi hil hk]
      refine qX ?_
      refine qK (hD) (qI 3 1) ?_
      refine qD [0,1,2,3,4,5,6] ?_
      refine aQ (a8 (roadOf x) e.halfs[i].give) [] ?_
      refine qG ?_
      refine qP (qI 0 7++qI 10 2++qI 21 2++qI 14 3++qI 23 1) ?_
      first|exact⟨⟩|simp [List.map_set,SubD.cs,jI]
     have hjA':rE e x=false:=by rw [km hi hil];simp [h5]
     refine qX ?_
     rw [hf2 hin (hjA') (tP hk)]
     refine qD [0,1,2,3,4,5,6,7,8,9,10,11,12,13,14,15,16,17,18,19,20,21,22,23,24,25,26,27,28,29,30,31,32] ?_
     refine qG ?_
     exact qF (qI 0 7++qI 10 7++qO 1)
    have hjA':rE e x=false:=by rw [km hi hil];simp;omega
    refine qG ?_
    rw [hf2 hin (hjA') (tP hk)]
    refine qD [0,1,2,3,4,5,6,7,8,9,10,11,12,13,14,15,16,17,18,19,20,21,22,23,24,25,26,27,28,29,30,31,32] ?_
    refine qG ?_
    exact qF (qI 0 7++qI 10 7++qO 1)
   obtain⟨n,hk⟩:=Int.eq_ofNat_of_zero_le hk0
   have hn:n < e.subs.length:=by omega
   have hrd:=tN hk hn
   rcases hbH with hi|⟨hi0,hi1⟩
   ·rw [hi]
    rw [hk]
    refine qX ?_
    refine qD [0,1,2,3,4,5,6,7,8,9,10,11,12,13,14,15,16,17,18,19,20,21,22,23,24,25,26,27,28,29] ?_
    refine qG ?_
    have hcmp2:=TagD.cmp x.tag ⟨2,e.peer,e.key,e.subs[n].theirs,e.subs[n].mine⟩
    simp only [TagD.cs,go_sem] at hcmp2
    have hjA:=yR hi
    refine qD [0,1,2,3,4,5,6,7,8,9,10,11,12,13,14,15,16,17,18,19,20,21,22,23,24,25,26,27,28,29,30,31,32] ?_
    refine qB (fun h6=>?_) fun h6=>?_
    ·refine aQ (a9 _ _ _ _) [] ?_
     refine⟨qC,ac 400 ?_⟩
     try simp (disch:=omega) only [go_sem,seval,hcmp2]
     refine qB (fun h7=>?_) fun h7=>?_
     ·rw [hb _ hin hjA (by rw [gc hk hn];simp [h6,h7]) hk hn]
      refine qX ?_
      refine qD [0,1,2,3,4,5,6,7,8,9,10] ?_
      refine aQ (a8 (roadOf x) e.subs[n].give) [] ?_
      refine qG ?_
      refine qP (qI 0 7++qI 10 7++qI 19 1) ?_
      first|exact⟨⟩|simp
     rw [hf2 hin hjA (by rw [gc hk hn];simp [h6,h7])]
     refine qX ?_
     exact qF (qI 0 7++qI 10 7++qO 1)
    rw [hf2 hin hjA (by rw [gc hk hn];simp [h6])]
    refine qG ?_
    exact qF (qI 0 7++qI 10 7++qO 1)
   obtain⟨i,hi⟩:=Int.eq_ofNat_of_zero_le hi0
   have hil:i < e.halfs.length:=by omega
   have hcmp:=TagD.cmp x.tag ⟨2,e.peer,e.key,e.halfs[i].theirs,e.halfs[i].mine⟩
   simp only [TagD.cs,go_sem] at hcmp
   rw [hi]
   rw [hk]
   refine qX ?_
   refine qD [0,1,2,3,4,5,6,7,8,9,10,11,12,13,14,15,16,17,18,19,20,21,22,23,24,25,26,27,28,29] ?_
   refine qB (fun h4=>?_) fun h4=>?_
   ·refine aQ (a9 _ _ _ _) [] ?_
    refine⟨qC,ac 400 ?_⟩
    try simp (disch:=omega) only [go_sem,seval,hcmp]
    refine qB (fun h5=>?_) fun h5=>?_
    ·have hjA:rE e x=true:=by rw [km hi hil];simp [h4,h5];try omega
     rw [ha1 _ _ hin hjA hi hil hk hn]
     refine qX ?_
     refine qK (hD) (qI 3 1) ?_
     refine qD [0,1,2,3,4,5,6] ?_
     refine aQ (a8 (roadOf x) e.halfs[i].give) [] ?_
     refine qG ?_
     refine qP (qI 0 7++qI 10 2++qI 21 2++qI 14 3++qI 23 1) ?_
     first|exact⟨⟩|simp [List.map_set,SubD.cs,jI]
    have hjA':rE e x=false:=by rw [km hi hil];simp [h5]
    refine qX ?_
    have hcmp2:=TagD.cmp x.tag ⟨2,e.peer,e.key,e.subs[n].theirs,e.subs[n].mine⟩
    simp only [TagD.cs,go_sem] at hcmp2
    have hjA:=hjA'
    refine qD [0,1,2,3,4,5,6,7,8,9,10,11,12,13,14,15,16,17,18,19,20,21,22,23,24,25,26,27,28,29,30,31,32] ?_
    refine qB (fun h6=>?_) fun h6=>?_
    ·refine aQ (a9 _ _ _ _) [] ?_
     refine⟨qC,ac 400 ?_⟩
     try simp (disch:=omega) only [go_sem,seval,hcmp2]
     refine qB (fun h7=>?_) fun h7=>?_
     ·rw [hb _ hin hjA (by rw [gc hk hn];simp [h6,h7]) hk hn]
      refine qX ?_
      refine qD [0,1,2,3,4,5,6,7,8,9,10] ?_
      refine aQ (a8 (roadOf x) e.subs[n].give) [] ?_
      refine qG ?_
      refine qP (qI 0 7++qI 10 7++qI 19 1) ?_
      first|exact⟨⟩|simp
     rw [hf2 hin hjA (by rw [gc hk hn];simp [h6,h7])]
     refine qX ?_
     exact qF (qI 0 7++qI 10 7++qO 1)
    rw [hf2 hin hjA (by rw [gc hk hn];simp [h6])]
    refine qG ?_
    exact qF (qI 0 7++qI 10 7++qO 1)
   have hjA':rE e x=false:=by rw [km hi hil];simp;omega
   refine qG ?_
   have hcmp2:=TagD.cmp x.tag ⟨2,e.peer,e.key,e.subs[n].theirs,e.subs[n].mine⟩
   simp only [TagD.cs,go_sem] at hcmp2
   have hjA:=hjA'
   refine qD [0,1,2,3,4,5,6,7,8,9,10,11,12,13,14,15,16,17,18,19,20,21,22,23,24,25,26,27,28,29,30,31,32] ?_
   refine qB (fun h6=>?_) fun h6=>?_
   ·refine aQ (a9 _ _ _ _) [] ?_
    refine⟨qC,ac 400 ?_⟩
    try simp (disch:=omega) only [go_sem,seval,hcmp2]
    refine qB (fun h7=>?_) fun h7=>?_
    ·rw [hb _ hin hjA (by rw [gc hk hn];simp [h6,h7]) hk hn]
     refine qX ?_
     refine qD [0,1,2,3,4,5,6,7,8,9,10] ?_
     refine aQ (a8 (roadOf x) e.subs[n].give) [] ?_
     refine qG ?_
     refine qP (qI 0 7++qI 10 7++qI 19 1) ?_
     first|exact⟨⟩|simp
    rw [hf2 hin hjA (by rw [gc hk hn];simp [h6,h7])]
    refine qX ?_
    exact qF (qI 0 7++qI 10 7++qO 1)
   rw [hf2 hin hjA (by rw [gc hk hn];simp [h6])]
   refine qG ?_
   exact qF (qI 0 7++qI 10 7++qO 1)
  rw [hf (by simp [mE,h2])]
  refine qX ?_
  exact qF (qI 0 7++qI 10 7++qO 1)
 rw [hf (by simp [mE,h1])]
 refine qX ?_
 exact qF (qI 0 7++qI 10 7++qO 1)
theorem pl (a:ActD):aP 163 [.ag a.cs] [] (.sc (.bo (cO a))) []:=by
 refine qE Tryz.func163 Tryz.ntmps163 Tryz.results163 fun E hE=>?_
 refine qK (Bg _ _ _) [] ?_
 refine qB (fun h1=>?_) fun h1=>?_
 ·refine qK (Bg _ _ _) [] ?_
  refine qB (fun h2=>?_) fun h2=>?_
  ·refine qK (a4 [a.pos,a.many] (by show 2<=1000000;decide)) (qI 1 1) ?_
   refine qB (fun h3=>?_) fun h3=>?_
   ·refine qJ [] ?_
    simp only [List.all_cons,List.all_nil,Bool.and_true,Bool.and_eq_true] at h3
    simp [cO,h1,h2,h3.1,h3.2]
    omega
   refine qJ [] ?_
   simp only [List.all_cons,List.all_nil,Bool.and_true] at h3
   simp only [cO,h3,Bool.and_false,Bool.false_and]
  refine qJ [] ?_
  simp [cO,h1,h2]
 refine qJ [] ?_
 simp [cO,h1]
end
section
open Go
end
end Go.Proofs.YtjghbknhneffjaaGreat
