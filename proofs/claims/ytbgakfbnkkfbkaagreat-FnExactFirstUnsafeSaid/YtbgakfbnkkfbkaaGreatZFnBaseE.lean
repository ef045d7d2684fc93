/-
  Texts merged for this claim by shake.py: what its proof needs.
-/
import Derived.Tactics
import Derived.Below
import Derived.Laws.AppendOwn
import Derived.Laws.OwnMore
import Derived.Laws.Slices
import Derived.Laws.Small
import Derived.Laws.Strings
import Derived.KernelRfl
import Derived.Laws.MakeOwn
import Derived.Laws.BytesString
import Derived.Laws.BytesArg
import Derived.Laws.Build
import Derived.Laws.Concat
import Derived.Laws.StructEq
import Derived.Lib.ConvBytes
import Derived.Orders
import Derived.WalkKit
import Derived.ProofKit
import Derived.ShutString
import Derived.OpenShut
import Derived.ChangeOld
import Derived.Carry
import Derived.Test.YtbgakfbnkkfbkaaGreatChecked
import Derived.Laws.BitsLemmas
import Derived.JoinedOf
import Derived.Test.YtbgakfbnkkfbkaaGreatZFnBaseA
import Derived.Test.YtbgakfbnkkfbkaaGreatZFnBaseB
import Derived.Test.YtbgakfbnkkfbkaaGreatZFnBaseC
import Derived.Test.YtbgakfbnkkfbkaaGreatZFnBaseD
set_option maxHeartbeats 16000000
set_option maxRecDepth 100000
set_option linter.unusedVariables false
set_option linter.unusedSimpArgs false
namespace Go.Proofs.YtbgakfbnkkfbkaaGreat
section
open Go.RowKit
theorem j0 (e:EndD) (s:SubD):ae Tryz.prog 235 [.ag (e.cs 0),.ag s.cs] (e.hp false) (.ag (cx e s).cs) (e.hp false):=by
 refine qE Tryz.func235 Tryz.ntmps235 Tryz.results235 fun E hE=>?_
 refine qD [0,1,2,3,4,5,6,7,8,9,10,11,12,13] ?_
 refine az (eT _ _ _ _) [] ?_
 refine az (bg s.road { aw with kind:=6,tag:=⟨2,e.key,e.peer,s.mine,s.theirs⟩}) [] ?_
 refine qG ?_
 refine ah (qI 0 7) (qC) _ (by simp only [go_sem];rfl) (by rfl) (by rfl) ?_
 simp (disch:=omega) only [go_sem,seval]
 try simp [cx]
theorem kx (e:EndD) (s:SubD):ae Tryz.prog 207 [.ag (e.cs 0),.ag s.cs] (e.hp false) (.ag (cx e s).cs) (e.hp false):=by
 refine qE Tryz.func207 Tryz.ntmps207 Tryz.results207 fun E hE=>?_
 refine qD [0,1,2,3,4,5,6,7,8,9,10,11,12,13] ?_
 refine az (eU _ _ _ _) [] ?_
 refine az (aX s.road { aw with kind:=6,tag:=⟨2,e.key,e.peer,s.mine,s.theirs⟩}) [] ?_
 refine qG ?_
 refine ah (qI 0 7) (qC) _ (by simp only [go_sem];rfl) (by rfl) (by rfl) ?_
 simp (disch:=omega) only [go_sem,seval]
 try simp [cx]
theorem eL (r:RoadD) (n:Int):ae Tryz.prog 328 [.ag r.cs,.sc (.int .i64 n)] [] (.sc (.sl 0 0 1)) [some ⟨[(vA r n).cs],19,91,true,true⟩]:=by
 refine qE Tryz.func328 Tryz.ntmps328 Tryz.results328 fun E hE=>?_
 refine qK (bg r { aw with kind:=7,sgn:=n }) [] ?_
 refine ah (qI 1 1) (qC) _ (by simp only [go_sem];rfl) (by rfl) (by rfl) ?_
 simp (disch:=omega) only [go_sem,seval]
 try simp [vA]
theorem gM (s:SubD):ae Tryz.prog 315 [.ag s.cs] [] (.ag (vA s.road s.give).cs) []:=by
 refine qE Tryz.func315 Tryz.ntmps315 Tryz.results315 fun E hE=>?_
 refine qK (aX s.road { aw with kind:=7,sgn:=s.give }) [] ?_
 refine ah [] (qC) _ (by simp only [go_sem];rfl) (by rfl) (by rfl) ?_
 simp (disch:=omega) only [go_sem,seval]
 try simp [vA]
theorem tc (l:List HalfD) (r:RoadD) (hl:l.length≤1048576):ae Tryz.prog 327 [.sc (.sl 0 0 l.length),.ag r.cs] [some ⟨l.map HalfD.cs,8,213,false,true⟩]
  (.sc (.sl 1 0 (dp l r).length)) [some ⟨l.map HalfD.cs,8,213,false,true⟩,some ⟨(dp l r).map HalfD.cs,8,213,true,true⟩]:=by
 have hA:=gK l r hl
 have hbd:=fE l r
 have hf:= @qy l r
 have ht:=fun n=> @qz l r n
 generalize dp l r=R at*
 refine qE Tryz.func327 Tryz.ntmps327 Tryz.results327 fun E hE=>?_
 refine qK (hA) (qI 0 1) ?_
 rcases hbd with hk|⟨hb0,hb1⟩
 ·rw [hf hk,hk]
  refine qX ?_
  refine qK (dS l hl) (qI 0 1) ?_
  exact qF (qI 0 1++qI 2 1)
 obtain⟨n,hk⟩:=Int.eq_ofNat_of_zero_le hb0
 rw [ht _ hk,hk]
 refine qX ?_
 refine qD [0,1,2,4,5,6,7,3,8,9] ?_
 have hlt:(l.take n).length=n:=by simp;omega
 have hlt2:(List.take n (List.map HalfD.cs l)).length=n:=by simp;omega
 have hC:=dS (l.take n) (by simp;omega)
 rw [List.length_take,show min n l.length=n by omega] at hC
 refine az (hC) [some (0,some 0)] ?_
 refine qG ?_
 refine qJ (qI 0 1++qI 3 1) ?_
 refine⟨by simp;omega,?_⟩
 simp only [List.map_append,List.map_take,List.map_drop]
 congr 1
 exact List.take_of_length_le (by simp)
theorem td (l:List HalfD) (r:RoadD) (hl:l.length≤1048576):ae Tryz.prog 314 [.sc (.sl 0 0 l.length),.ag r.cs] [some ⟨l.map HalfD.cs,8,213,false,true⟩]
  (.sc (.sl 1 0 (dp l r).length)) [some ⟨l.map HalfD.cs,8,213,false,true⟩,some ⟨(dp l r).map HalfD.cs,8,213,true,true⟩]:=by
 have hA:=gL l r hl
 have hbd:=fE l r
 have hf:= @qy l r
 have ht:=fun n=> @qz l r n
 generalize dp l r=R at*
 refine qE Tryz.func314 Tryz.ntmps314 Tryz.results314 fun E hE=>?_
 refine qK (hA) (qI 0 1) ?_
 rcases hbd with hk|⟨hb0,hb1⟩
 ·rw [hf hk,hk]
  refine qX ?_
  exact qF (qI 0 1++qI 3 1)
 obtain⟨n,hk⟩:=Int.eq_ofNat_of_zero_le hb0
 have hlt:(l.take n).length=n:=by simp;omega
 have hlt2:(List.take n (List.map HalfD.cs l)).length=n:=by simp;omega
 rw [ht _ hk,hk]
 refine qX ?_
 refine qJ (qI 0 1++qI 4 1) ?_
 refine⟨by simp;omega,?_⟩
 simp only [List.map_append,List.map_take,List.map_drop]
 congr 1
 exact List.take_of_length_le (by simp)
end
section
open Go.RowKit
theorem mU (e:EndD) (x:LetterD) (hs:Small e):ae Tryz.prog 302 [.ag (e.cs 0),.ag x.cs] (e.hp false) (.tu [.ag ((aL e x).1.cs 7),.sc (.sl 14 0 (aL e x).2.length)])
  (e.hp false++((aL e x).1.hp true++[some ⟨(aL e x).2.map LetterD.cs,19,91,true,true⟩])):=by
 have hC:=(qH (aK e))
 have hK:=(qH (bf e))
 have hS:=eI e (ak x) (by have:=hs.subs;omega)
 have hH:=gK e.halfs (ak x) (by have:=hs.halfs;omega)
 have hD:=tc e.halfs (ak x) (by have:=hs.halfs;omega)
 have hL:=bt x
 have hbS:=eF e.subs (ak x)
 have hbH:=fE e.halfs (ak x)
 have hf:=YH (e:=e) (x:=x)
 have hf2:=NF (e:=e) (x:=x)
 have hb:=fun n=> @YI e x n
 have ha1:=fun i n=> @NG e x i n
 have ha2:=fun i=> @NH e x i
 generalize aL e x=R at*
 refine qE Tryz.func302 Tryz.ntmps302 Tryz.results302 fun E hE=>?_
 refine qK (hC) (qI 0 7) ?_
 refine qK (hK) (qI 0 7) ?_
 refine qB (fun h1=>?_) fun h1=>?_
 ·refine qK (hL) [] ?_
  refine qB (fun h2=>?_) fun h2=>?_
  ·refine qB (fun h3=>?_) fun h3=>?_
   ·rw [hf (by simp [li,h1,h2,h3])]
    refine qX ?_
    exact qF (qI 0 7++qI 10 7++qO 1)
   have hin:li e x=true:=by simp [li,h1,h2,h3]
   refine qX ?_
   refine qK (di x) [] ?_
   refine qK (hH) (qI 3 1) ?_
   refine qK (hS) (qI 0 7) ?_
   rcases hbS with hk|⟨hk0,hk1⟩
   ·rcases hbH with hi|⟨hi0,hi1⟩
    ·rw [hi]
     rw [hk]
     refine qX ?_
     refine qD [0,1,2,3,4,5,6,7,8,9,10,11,12,13,14,15,16,17,18,19,20,21,22,23,24,25,26,27,28,29] ?_
     refine qG ?_
     rw [hf2 hin (vB hi) (nR hk)]
     refine qD [0,1,2,3,4,5,6,7,8,9,10,11,12,13,14,15,16,17,18,19,20,21,22,23,24,25,26,27,28,29,30,31,32] ?_
     refine qG ?_
     exact qF (qI 0 7++qI 10 7++qO 1)
    obtain⟨i,hi⟩:=Int.eq_ofNat_of_zero_le hi0
    have hil:i < e.halfs.length:=by omega
    have hcmp:=TagD.cmp x.tag ⟨2,e.peer,e.key,e.halfs[i].theirs,e.halfs[i].mine⟩
    simp only [TagD.cs,go_sem] at hcmp
    rw [hi]
    rw [hk]
    refine qX ?_
    refine qD [0,1,2,3,4,5,6,7,8,9,10,11,12,13,14,15,16,17,18,19,20,21,22,23,24,25,26,27,28,29] ?_
    refine qB (fun h4=>?_) fun h4=>?_
    ·refine az (eT _ _ _ _) [] ?_
     refine⟨qC,ac 400 ?_⟩
     try simp (disch:=omega) only [go_sem,seval,hcmp]
     refine qB (fun h5=>?_) fun h5=>?_
     ·have hjA:sG e x=true:=by rw [gT hi hil];simp [h4,h5];try omega
      rw [ha2 _ hin hjA hi hil hk]
      refine qX ?_
      refine qK (hD) (qI 3 1) ?_
      refine qD [0,1,2,3,4,5,6] ?_
      refine az (eL (ak x) e.halfs[i].give) [] ?_
      refine qG ?_
      refine ah (qI 0 7++qI 10 2++qI 21 2++qI 14 3++qI 23 1) (qC) _ (by simp only [go_sem];rfl) (by rfl) (by rfl) ?_
      simp (disch:=omega) only [go_sem,seval]
      try simp [List.map_set,SubD.cs,kw]
     have hjA':sG e x=false:=by rw [gT hi hil];simp [h5]
     refine qX ?_
     rw [hf2 hin (hjA') (nR hk)]
     refine qD [0,1,2,3,4,5,6,7,8,9,10,11,12,13,14,15,16,17,18,19,20,21,22,23,24,25,26,27,28,29,30,31,32] ?_
     refine qG ?_
     exact qF (qI 0 7++qI 10 7++qO 1)
    have hjA':sG e x=false:=by rw [gT hi hil];simp;omega
    refine qG ?_
    rw [hf2 hin (hjA') (nR hk)]
    refine qD [0,1,2,3,4,5,6,7,8,9,10,11,12,13,14,15,16,17,18,19,20,21,22,23,24,25,26,27,28,29,30,31,32] ?_
    refine qG ?_
    exact qF (qI 0 7++qI 10 7++qO 1)
   obtain⟨n,hk⟩:=Int.eq_ofNat_of_zero_le hk0
   have hn:n < e.subs.length:=by omega
   have hrd:=qx hk hn
   rcases hbH with hi|⟨hi0,hi1⟩
   ·rw [hi]
    rw [hk]
    refine qX ?_
    refine qD [0,1,2,3,4,5,6,7,8,9,10,11,12,13,14,15,16,17,18,19,20,21,22,23,24,25,26,27,28,29] ?_
    refine qG ?_
    have hcmp2:=TagD.cmp x.tag ⟨2,e.peer,e.key,e.subs[n].theirs,e.subs[n].mine⟩
    simp only [TagD.cs,go_sem] at hcmp2
    have hjA:=vB hi
    refine qD [0,1,2,3,4,5,6,7,8,9,10,11,12,13,14,15,16,17,18,19,20,21,22,23,24,25,26,27,28,29,30,31,32] ?_
    refine qB (fun h6=>?_) fun h6=>?_
    ·refine az (eT _ _ _ _) [] ?_
     refine⟨qC,ac 400 ?_⟩
     try simp (disch:=omega) only [go_sem,seval,hcmp2]
     refine qB (fun h7=>?_) fun h7=>?_
     ·rw [hb _ hin hjA (by rw [ej hk hn];simp [h6,h7]) hk hn]
      refine qX ?_
      refine qD [0,1,2,3,4,5,6,7,8,9,10] ?_
      refine az (eL (ak x) e.subs[n].give) [] ?_
      refine qG ?_
      refine ah (qI 0 7++qI 10 7++qI 19 1) (qC) _ (by simp only [go_sem];rfl) (by rfl) (by rfl) ?_
      simp (disch:=omega) only [go_sem,seval]
      try simp
     rw [hf2 hin hjA (by rw [ej hk hn];simp [h6,h7])]
     refine qX ?_
     exact qF (qI 0 7++qI 10 7++qO 1)
    rw [hf2 hin hjA (by rw [ej hk hn];simp [h6])]
    refine qG ?_
    exact qF (qI 0 7++qI 10 7++qO 1)
   obtain⟨i,hi⟩:=Int.eq_ofNat_of_zero_le hi0
   have hil:i < e.halfs.length:=by omega
   have hcmp:=TagD.cmp x.tag ⟨2,e.peer,e.key,e.halfs[i].theirs,e.halfs[i].mine⟩
   simp only [TagD.cs,go_sem] at hcmp
   rw [hi]
   rw [hk]
   refine qX ?_
   refine qD [0,1,2,3,4,5,6,7,8,9,10,11,12,13,14,15,16,17,18,19,20,21,22,23,24,25,26,27,28,29] ?_
   refine qB (fun h4=>?_) fun h4=>?_
   ·refine az (eT _ _ _ _) [] ?_
    refine⟨qC,ac 400 ?_⟩
    try simp (disch:=omega) only [go_sem,seval,hcmp]
    refine qB (fun h5=>?_) fun h5=>?_
    ·have hjA:sG e x=true:=by rw [gT hi hil];simp [h4,h5];try omega
     rw [ha1 _ _ hin hjA hi hil hk hn]
     refine qX ?_
     refine qK (hD) (qI 3 1) ?_
     refine qD [0,1,2,3,4,5,6] ?_
     refine az (eL (ak x) e.halfs[i].give) [] ?_
     refine qG ?_
     refine ah (qI 0 7++qI 10 2++qI 21 2++qI 14 3++qI 23 1) (qC) _ (by simp only [go_sem];rfl) (by rfl) (by rfl) ?_
     simp (disch:=omega) only [go_sem,seval]
     try simp [List.map_set,SubD.cs,kw]
    have hjA':sG e x=false:=by rw [gT hi hil];simp [h5]
    refine qX ?_
    have hcmp2:=TagD.cmp x.tag ⟨2,e.peer,e.key,e.subs[n].theirs,e.subs[n].mine⟩
    simp only [TagD.cs,go_sem] at hcmp2
    have hjA:=hjA'
    refine qD [0,1,2,3,4,5,6,7,8,9,10,11,12,13,14,15,16,17,18,19,20,21,22,23,24,25,26,27,28,29,30,31,32] ?_
    refine qB (fun h6=>?_) fun h6=>?_
    ·refine az (eT _ _ _ _) [] ?_
     refine⟨qC,ac 400 ?_⟩
     try simp (disch:=omega) only [go_sem,seval,hcmp2]
     refine qB (fun h7=>?_) fun h7=>?_
     ·rw [hb _ hin hjA (by rw [ej hk hn];simp [h6,h7]) hk hn]
      refine qX ?_
      refine qD [0,1,2,3,4,5,6,7,8,9,10] ?_
      refine az (eL (ak x) e.subs[n].give) [] ?_
      refine qG ?_
      refine ah (qI 0 7++qI 10 7++qI 19 1) (qC) _ (by simp only [go_sem];rfl) (by rfl) (by rfl) ?_
      simp (disch:=omega) only [go_sem,seval]
      try simp
     rw [hf2 hin hjA (by rw [ej hk hn];simp [h6,h7])]
     refine qX ?_
     exact qF (qI 0 7++qI 10 7++qO 1)
    rw [hf2 hin hjA (by rw [ej hk hn];simp [h6])]
    refine qG ?_
    exact qF (qI 0 7++qI 10 7++qO 1)
   have hjA':sG e x=false:=by rw [gT hi hil];simp;omega
   refine qG ?_
   have hcmp2:=TagD.cmp x.tag ⟨2,e.peer,e.key,e.subs[n].theirs,e.subs[n].mine⟩
   simp only [TagD.cs,go_sem] at hcmp2
   have hjA:=hjA'
   refine qD [0,1,2,3,4,5,6,7,8,9,10,11,12,13,14,15,16,17,18,19,20,21,22,23,24,25,26,27,28,29,30,31,32] ?_
   refine qB (fun h6=>?_) fun h6=>?_
   ·refine az (eT _ _ _ _) [] ?_
    refine⟨qC,ac 400 ?_⟩
    try simp (disch:=omega) only [go_sem,seval,hcmp2]
    refine qB (fun h7=>?_) fun h7=>?_
    ·rw [hb _ hin hjA (by rw [ej hk hn];simp [h6,h7]) hk hn]
     refine qX ?_
     refine qD [0,1,2,3,4,5,6,7,8,9,10] ?_
     refine az (eL (ak x) e.subs[n].give) [] ?_
     refine qG ?_
     refine ah (qI 0 7++qI 10 7++qI 19 1) (qC) _ (by simp only [go_sem];rfl) (by rfl) (by rfl) ?_
     simp (disch:=omega) only [go_sem,seval]
     try simp
    rw [hf2 hin hjA (by rw [ej hk hn];simp [h6,h7])]
    refine qX ?_
    exact qF (qI 0 7++qI 10 7++qO 1)
   rw [hf2 hin hjA (by rw [ej hk hn];simp [h6])]
   refine qG ?_
   exact qF (qI 0 7++qI 10 7++qO 1)
  rw [hf (by simp [li,h2])]
  refine qX ?_
  exact qF (qI 0 7++qI 10 7++qO 1)
 rw [hf (by simp [li,h1])]
 refine qX ?_
 exact qF (qI 0 7++qI 10 7++qO 1)
theorem mV (e:EndD) (x:LetterD) (hs:Small e):ae Tryz.prog 285 [.ag (e.cs 0),.ag x.cs] (e.hp false) (.tu [.ag ((aL e x).1.cs 7),.sc (.sl 14 0 (aL e x).2.length)])
  (e.hp false++((aL e x).1.hp true++[some ⟨(aL e x).2.map LetterD.cs,19,91,true,true⟩])):=by
 have hC:=(qH (aD e))
 have hK:=(qH (be e))
 have hS:=eJ e (ak x) (by have:=hs.subs;omega)
 have hH:=gL e.halfs (ak x) (by have:=hs.halfs;omega)
 have hD:=td e.halfs (ak x) (by have:=hs.halfs;omega)
 have hL:=cL x
 have hbS:=eF e.subs (ak x)
 have hbH:=fE e.halfs (ak x)
 have hf:=YH (e:=e) (x:=x)
 have hf2:=NF (e:=e) (x:=x)
 have hb:=fun n=> @YI e x n
 have ha1:=fun i n=> @NG e x i n
 have ha2:=fun i=> @NH e x i
 generalize aL e x=R at*
 refine qE Tryz.func285 Tryz.ntmps285 Tryz.results285 fun E hE=>?_
 refine qK (hC) (qI 0 7) ?_
 refine qK (ci x) [] ?_
 refine qK (hK) (qI 0 7) ?_
 refine qB (fun h1=>?_) fun h1=>?_
 ·refine qK (hL) [] ?_
  refine qB (fun h2=>?_) fun h2=>?_
  ·refine qB (fun h3=>?_) fun h3=>?_
   ·rw [hf (by simp [li,h1,h2,h3])]
    refine qX ?_
    exact qF (qI 0 7++qI 10 7++qI 18 1)
   have hin:li e x=true:=by simp [li,h1,h2,h3]
   refine qX ?_
   refine qK (hH) (qI 3 1) ?_
   refine qK (hS) (qI 0 7) ?_
   rcases hbS with hk|⟨hk0,hk1⟩
   ·rcases hbH with hi|⟨hi0,hi1⟩
    ·rw [hi]
     rw [hk]
     refine qX ?_
     refine qD [0,1,2,3,4,5,6,7,8,9,10,11,12,13,14,15,16,17,18,19,20,21,22,23,24,25,26,27,28,29] ?_
     refine qG ?_
     rw [hf2 hin (vB hi) (nR hk)]
     refine qD [0,1,2,3,4,5,6,7,8,9,10,11,12,13,14,15,16,17,18,19,20,21,22,23,24,25,26,27,28,29,30,31,32] ?_
     refine qG ?_
     exact qF (qI 0 7++qI 10 7++qI 18 1)
    obtain⟨i,hi⟩:=Int.eq_ofNat_of_zero_le hi0
    have hil:i < e.halfs.length:=by omega
    have hcmp:=TagD.cmp x.tag ⟨2,e.peer,e.key,e.halfs[i].theirs,e.halfs[i].mine⟩
    simp only [TagD.cs,go_sem] at hcmp
    rw [hi]
    rw [hk]
    refine qX ?_
    refine qD [0,1,2,3,4,5,6,7,8,9,10,11,12,13,14,15,16,17,18,19,20,21,22,23,24,25,26,27,28,29] ?_
    refine qB (fun h4=>?_) fun h4=>?_
    ·refine az (eU _ _ _ _) [] ?_
     refine⟨qC,ac 400 ?_⟩
     try simp (disch:=omega) only [go_sem,seval,hcmp]
     refine qB (fun h5=>?_) fun h5=>?_
     ·have hjA:sG e x=true:=by rw [gT hi hil];simp [h4,h5];try omega
      rw [ha2 _ hin hjA hi hil hk]
      refine qX ?_
      refine qK (iU { e with subs:=e.subs } (kw (ak x) e.halfs[i]) (by have:=dr h1;simp;omega)) (qI 10 7) ?_
      refine qK (hD) (qI 13 1) ?_
      refine aT [(0,5),(3,0),(4,0)] [[1,2,3,4,0,5,6,7],[1,2,3,0,4,5,6,7],[1,2,0,3,4,5,6,7],[1,2,3,4,5,0,6,7]] (by kernel_rfl) (qC) (by kernel_rfl) ?_
      simp only [aQ]
      refine⟨aa 400 ?_,aa 400 ?_,aa 400 ?_,aa 400 ?_⟩
      all_goals simp (disch:=omega) only [go_sem,seval]
      all_goals
       refine az (gM (kw (ak x) e.halfs[i])) [] ?_
       refine qG ?_
       refine ah (qI 0 7++qI 10 2++qI 22 2++qI 14 3++qI 25 1) (qC) _ (by simp only [go_sem];rfl) (by rfl) (by rfl) ?_
       simp (disch:=omega) only [go_sem,seval]
       try simp [List.map_set,SubD.cs,kw]
     have hjA':sG e x=false:=by rw [gT hi hil];simp [h5]
     refine qX ?_
     rw [hf2 hin (hjA') (nR hk)]
     refine qD [0,1,2,3,4,5,6,7,8,9,10,11,12,13,14,15,16,17,18,19,20,21,22,23,24,25,26,27,28,29,30,31,32] ?_
     refine qG ?_
     exact qF (qI 0 7++qI 10 7++qI 18 1)
    have hjA':sG e x=false:=by rw [gT hi hil];simp;omega
    refine qG ?_
    rw [hf2 hin (hjA') (nR hk)]
    refine qD [0,1,2,3,4,5,6,7,8,9,10,11,12,13,14,15,16,17,18,19,20,21,22,23,24,25,26,27,28,29,30,31,32] ?_
    refine qG ?_
    exact qF (qI 0 7++qI 10 7++qI 18 1)
   obtain⟨n,hk⟩:=Int.eq_ofNat_of_zero_le hk0
   have hn:n < e.subs.length:=by omega
   have hrd:=qx hk hn
   rcases hbH with hi|⟨hi0,hi1⟩
   ·rw [hi]
    rw [hk]
    refine qX ?_
    refine qD [0,1,2,3,4,5,6,7,8,9,10,11,12,13,14,15,16,17,18,19,20,21,22,23,24,25,26,27,28,29] ?_
    refine qG ?_
    have hcmp2:=TagD.cmp x.tag ⟨2,e.peer,e.key,e.subs[n].theirs,e.subs[n].mine⟩
    simp only [TagD.cs,go_sem] at hcmp2
    have hjA:=vB hi
    refine qD [0,1,2,3,4,5,6,7,8,9,10,11,12,13,14,15,16,17,18,19,20,21,22,23,24,25,26,27,28,29,30,31,32] ?_
    refine qB (fun h6=>?_) fun h6=>?_
    ·refine az (eU _ _ _ _) [] ?_
     refine⟨qC,ac 400 ?_⟩
     try simp (disch:=omega) only [go_sem,seval,hcmp2]
     refine qB (fun h7=>?_) fun h7=>?_
     ·rw [hb _ hin hjA (by rw [ej hk hn];simp [h6,h7]) hk hn]
      refine qX ?_
      refine aT [(0,9),(7,0),(8,0)] [(qU [1,8,0,1,9,3]),(qU [1,7,0,1,8,4]),(qU [1,6,0,1,7,5]),(qU [1,9,0,1,10,2])] (by kernel_rfl) (qC) (by kernel_rfl) ?_
      simp only [aQ]
      refine⟨aa 400 ?_,aa 400 ?_,aa 400 ?_,aa 400 ?_⟩
      all_goals simp (disch:=omega) only [go_sem,seval]
      all_goals
       refine az (gM e.subs[n]) [] ?_
       refine qG ?_
       refine ah (qI 0 7++qI 10 7++qI 21 1) (qC) _ (by simp only [go_sem];rfl) (by rfl) (by rfl) ?_
       simp (disch:=omega) only [go_sem,seval]
       try simp [hrd]
     rw [hf2 hin hjA (by rw [ej hk hn];simp [h6,h7])]
     refine qX ?_
     exact qF (qI 0 7++qI 10 7++qI 18 1)
    rw [hf2 hin hjA (by rw [ej hk hn];simp [h6])]
    refine qG ?_
    exact qF (qI 0 7++qI 10 7++qI 18 1)
   obtain⟨i,hi⟩:=Int.eq_ofNat_of_zero_le hi0
   have hil:i < e.halfs.length:=by omega
   have hcmp:=TagD.cmp x.tag ⟨2,e.peer,e.key,e.halfs[i].theirs,e.halfs[i].mine⟩
   simp only [TagD.cs,go_sem] at hcmp
   rw [hi]
   rw [hk]
   refine qX ?_
   refine qD [0,1,2,3,4,5,6,7,8,9,10,11,12,13,14,15,16,17,18,19,20,21,22,23,24,25,26,27,28,29] ?_
   refine qB (fun h4=>?_) fun h4=>?_
   ·refine az (eU _ _ _ _) [] ?_
    refine⟨qC,ac 400 ?_⟩
    try simp (disch:=omega) only [go_sem,seval,hcmp]
    refine qB (fun h5=>?_) fun h5=>?_
    ·have hjA:sG e x=true:=by rw [gT hi hil];simp [h4,h5];try omega
     rw [ha1 _ _ hin hjA hi hil hk hn]
     refine qX ?_
     refine qK (iU { e with subs:=e.subs.set n { e.subs[n] with state:=4 } } (kw (ak x) e.halfs[i]) (by have:=dr h1;simp;omega)) (qI 10 7) ?_
     refine qK (hD) (qI 13 1) ?_
     refine aT [(0,5),(3,0),(4,0)] [[1,2,3,4,0,5,6,7],[1,2,3,0,4,5,6,7],[1,2,0,3,4,5,6,7],[1,2,3,4,5,0,6,7]] (by kernel_rfl) (qC) (by kernel_rfl) ?_
     simp only [aQ]
     refine⟨aa 400 ?_,aa 400 ?_,aa 400 ?_,aa 400 ?_⟩
     all_goals simp (disch:=omega) only [go_sem,seval]
     all_goals
      refine az (gM (kw (ak x) e.halfs[i])) [] ?_
      refine qG ?_
      refine ah (qI 0 7++qI 10 2++qI 22 2++qI 14 3++qI 25 1) (qC) _ (by simp only [go_sem];rfl) (by rfl) (by rfl) ?_
      simp (disch:=omega) only [go_sem,seval]
      try simp [List.map_set,SubD.cs,kw]
    have hjA':sG e x=false:=by rw [gT hi hil];simp [h5]
    refine qX ?_
    have hcmp2:=TagD.cmp x.tag ⟨2,e.peer,e.key,e.subs[n].theirs,e.subs[n].mine⟩
    simp only [TagD.cs,go_sem] at hcmp2
    have hjA:=hjA'
    refine qD [0,1,2,3,4,5,6,7,8,9,10,11,12,13,14,15,16,17,18,19,20,21,22,23,24,25,26,27,28,29,30,31,32] ?_
    refine qB (fun h6=>?_) fun h6=>?_
    ·refine az (eU _ _ _ _) [] ?_
     refine⟨qC,ac 400 ?_⟩
     try simp (disch:=omega) only [go_sem,seval,hcmp2]
     refine qB (fun h7=>?_) fun h7=>?_
     ·rw [hb _ hin hjA (by rw [ej hk hn];simp [h6,h7]) hk hn]
      refine qX ?_
      refine aT [(0,9),(7,0),(8,0)] [(qU [1,8,0,1,9,3]),(qU [1,7,0,1,8,4]),(qU [1,6,0,1,7,5]),(qU [1,9,0,1,10,2])] (by kernel_rfl) (qC) (by kernel_rfl) ?_
      simp only [aQ]
      refine⟨aa 400 ?_,aa 400 ?_,aa 400 ?_,aa 400 ?_⟩
      all_goals simp (disch:=omega) only [go_sem,seval]
      all_goals
       refine az (gM e.subs[n]) [] ?_
       refine qG ?_
       refine ah (qI 0 7++qI 10 7++qI 21 1) (qC) _ (by simp only [go_sem];rfl) (by rfl) (by rfl) ?_
       simp (disch:=omega) only [go_sem,seval]
       try simp [hrd]
     rw [hf2 hin hjA (by rw [ej hk hn];simp [h6,h7])]
     refine qX ?_
     exact qF (qI 0 7++qI 10 7++qI 18 1)
    rw [hf2 hin hjA (by rw [ej hk hn];simp [h6])]
    refine qG ?_
    exact qF (qI 0 7++qI 10 7++qI 18 1)
   have hjA':sG e x=false:=by rw [gT hi hil];simp;omega
   refine qG ?_
   have hcmp2:=TagD.cmp x.tag ⟨2,e.peer,e.key,e.subs[n].theirs,e.subs[n].mine⟩
   simp only [TagD.cs,go_sem] at hcmp2
   have hjA:=hjA'
   refine qD [0,1,2,3,4,5,6,7,8,9,10,11,12,13,14,15,16,17,18,19,20,21,22,23,24,25,26,27,28,29,30,31,32] ?_
   refine qB (fun h6=>?_) fun h6=>?_
   ·refine az (eU _ _ _ _) [] ?_
    refine⟨qC,ac 400 ?_⟩
    try simp (disch:=omega) only [go_sem,seval,hcmp2]
    refine qB (fun h7=>?_) fun h7=>?_
    ·rw [hb _ hin hjA (by rw [ej hk hn];simp [h6,h7]) hk hn]
     refine qX ?_
     refine aT [(0,9),(7,0),(8,0)] [(qU [1,8,0,1,9,3]),(qU [1,7,0,1,8,4]),(qU [1,6,0,1,7,5]),(qU [1,9,0,1,10,2])] (by kernel_rfl) (qC) (by kernel_rfl) ?_
     simp only [aQ]
     refine⟨aa 400 ?_,aa 400 ?_,aa 400 ?_,aa 400 ?_⟩
     all_goals simp (disch:=omega) only [go_sem,seval]
     all_goals
      refine az (gM e.subs[n]) [] ?_
      refine qG ?_
      refine ah (qI 0 7++qI 10 7++qI 21 1) (qC) _ (by simp only [go_sem];rfl) (by rfl) (by rfl) ?_
      simp (disch:=omega) only [go_sem,seval]
      try simp [hrd]
    rw [hf2 hin hjA (by rw [ej hk hn];simp [h6,h7])]
    refine qX ?_
    exact qF (qI 0 7++qI 10 7++qI 18 1)
   rw [hf2 hin hjA (by rw [ej hk hn];simp [h6])]
   refine qG ?_
   exact qF (qI 0 7++qI 10 7++qI 18 1)
  rw [hf (by simp [li,h2])]
  refine qX ?_
  exact qF (qI 0 7++qI 10 7++qI 18 1)
 rw [hf (by simp [li,h1])]
 refine qX ?_
 exact qF (qI 0 7++qI 10 7++qI 18 1)
end
section
open Go.RowKit
theorem dH (w:WorldD) (l:List LetterD) (hw:SmallW w) (hl:l.length≤1048576):ae Tryz.prog 123 [.ag (w.cs 0),.sc (.int .i64 1),.sc (.sl 21 0 l.length)]
  (w.hp false++[some ⟨l.map LetterD.cs,19,91,false,true⟩]) (.ag ((aq 1 w l).cs 22)) (w.hp false++([some ⟨l.map LetterD.cs,19,91,false,true⟩]++(aq 1 w l).hp true)):=by
 obtain⟨R,hR⟩:∃ R,R=aq 1 w l:=⟨_,rfl⟩
 rw [←hR]
 have hl2:l.length≤9223372036854775807:=by omega
 have hC:=ib w hw
 refine aN Tryz.func123 (by kernel_rfl) rfl fun E hE=>ac 400 ?_
 simp (disch:=omega) only [Tryz.ntmps123,Tryz.results123,go_sem,Nat.reduceEqDiff,Nat.reduceAdd,Nat.reduceSub,Int.reduceAdd,Int.reduceSub,Int.reduceToNat]
 refine al (qC) (hC) (qI 0 21) qM (by rfl) (ac 400 ?_)
 simp (disch:=omega) only [go_sem,Nat.reduceEqDiff,Nat.reduceAdd,Nat.reduceSub,Int.reduceAdd,Int.reduceSub,Int.reduceToNat]
 refine cE 22 hE (fun s (y:Nat×WorldD)=>s.at (qU [0,1,8,105]) [(7,.sc (.int .i64 (y.1:Nat)))] (((s.hp.take 24).set 22 (some ⟨[(c7 y.2 24 25 26 27 28 29 30 31 32 33 34 35 36 37 38 39 40 41 42 43 44)],61,51,true,false⟩))++(dK w true++(dL y.2 true)))) (fun (y:Nat×WorldD)=>y.1≤l.length∧y.2.a=w.a∧y.2.b=w.b∧SmallP2 y.2∧R=aq 1 y.2 (l.drop y.1)) (fun (y:Nat×WorldD)=>l.length - y.1) (0,w) (qI 0 45) (qC) (⟨Nat.zero_le _,rfl,rfl,hw.rest,hR⟩) (ab (by rfl) (by rfl) ?_) fun y hy N hN=>?_
 ·try simp (disch:=omega) only [go_sem,Nat.reduceEqDiff,Nat.reduceAdd,Nat.reduceSub,Int.reduceAdd,Int.reduceSub,Int.reduceToNat]
 obtain⟨i,u⟩:=y
 obtain⟨hi,ha,hb,hS,hu⟩:=hy
 obtain⟨ua,ub,bag,past,wA,wB,rA,rB,known,nums,nsA,nsB⟩:=u
 obtain⟨keys,tags⟩:=known
 dsimp only at hi ha hb hu
 subst ha hb
 have s1:=hS.bag
 have s2:=hS.past
 have s3:=hS.keys
 have s4:=hS.tags
 have s5:=hS.nums
 have s6:=hS.ansA
 have s7:=hS.ansB
 dsimp only at s1 s2 s3 s4 s5 s6 s7
 refine dm 1006 400 ?_
 try simp (disch:=omega) only [go_sem,Nat.reduceEqDiff,Nat.reduceAdd,Nat.reduceSub,Int.reduceAdd,Int.reduceSub,Int.reduceToNat,Nat.reduceBEq]
 split<;>rename_i h<;>(try simp only [decide_eq_true_eq,decide_eq_false_iff_not,Int.ofNat_lt] at h)
 rotate_left
 ·have e:i=l.length:=by omega
  subst e
  rw [kU (Nat.le_refl _)] at hu
  subst hu
  try simp (disch:=omega) only [go_sem,Nat.reduceEqDiff,Nat.reduceAdd,Nat.reduceSub,Int.reduceAdd,Int.reduceSub,Int.reduceToNat,Nat.reduceBEq]
  refine aA (qI 0 22++qI 24 21) (qC) _ (by simp only [go_sem];rfl) (by rfl) (by rfl) ?_
  simp (disch:=omega) only [go_sem,Nat.reduceEqDiff,Nat.reduceAdd,Nat.reduceSub,Int.reduceAdd,Int.reduceSub,Int.reduceToNat,Nat.reduceBEq]
 rw [jK h] at hu
 generalize hx:l[i]=x at hu
 have hget:=ao (enc:=LetterD.cs) h
 rw [hx] at hget
 try simp (disch:=omega) only [go_sem,Nat.reduceEqDiff,Nat.reduceAdd,Nat.reduceSub,Int.reduceAdd,Int.reduceSub,Int.reduceToNat,Nat.reduceBEq,hget]
 obtain⟨p1,hp1⟩:∃ p,p=nb past x:=⟨_,rfl⟩
 refine dP 22 hE (fun s=>s.at (qU [9,14,25,14]) [] (((s.hp.take 24).set 22 (some ⟨[(c7 (⟨w.a,w.b,bag,p1,wA,wB,rA,rB,⟨keys,tags⟩,nums,nsA,nsB⟩:WorldD) 24 25 26 27 28 29 30 31 32 33 34 35 36 37 38 39 40 41 42 43 44)],61,51,true,false⟩))++(dK w true++(dL (⟨w.a,w.b,bag,p1,wA,wB,rA,rB,⟨keys,tags⟩,nums,nsA,nsB⟩:WorldD) true++[some ⟨[x.cs],19,91,true,false⟩])))) (qC) (by rfl) (fun N hN=>ac 401 ?_) (dm 1008 400 ?_)
 ·try simp (disch:=omega) only [go_sem,Nat.reduceEqDiff,Nat.reduceAdd,Nat.reduceSub,Int.reduceAdd,Int.reduceSub,Int.reduceToNat,Nat.reduceBEq]
  split<;>rename_i b1<;>(try simp only [beq_true,beq_false,Bool.not_eq_true',Bool.not_eq_false'] at b1)<;>simp (disch:=omega) only [go_sem,Nat.reduceEqDiff,Nat.reduceAdd,Nat.reduceSub,Int.reduceAdd,Int.reduceSub,Int.reduceToNat,Nat.reduceBEq,b1]<;>(try simp only [decide_eq_true_eq,decide_eq_false_iff_not,beq_iff_eq,beq_eq_false_iff_ne,bne_iff_ne,bne_eq_false_iff_eq,ne_eq,Decidable.not_not,Bool.and_eq_true,Bool.and_eq_false_iff,Bool.or_eq_true,Bool.or_eq_false_iff,Int.ofNat_lt,Int.ofNat_le,Bool.not_eq_eq_eq_not,Bool.not_true,Bool.not_false] at b1)<;>try simp (disch:=omega) only [go_sem,Nat.reduceEqDiff,Nat.reduceAdd,Nat.reduceSub,Int.reduceAdd,Int.reduceSub,Int.reduceToNat,Nat.reduceBEq]
  ·rw [pw (by omega)] at hp1
   subst hp1
   try simp (disch:=omega) only [go_sem,Nat.reduceEqDiff,Nat.reduceAdd,Nat.reduceSub,Int.reduceAdd,Int.reduceSub,Int.reduceToNat,Nat.reduceBEq]
   refine⟨qC,hN _ (qI 0 39++qI 47 1++qI 40 6) (ab (by rfl) (by rfl) ?_)⟩
   simp (disch:=omega) only [go_sem,Nat.reduceEqDiff,Nat.reduceAdd,Nat.reduceSub,Int.reduceAdd,Int.reduceSub,Int.reduceToNat,Nat.reduceBEq]
   try simp [LetterD.cs]
  rw [px (by omega)] at hp1
  subst hp1
  try simp (disch:=omega) only [go_sem,Nat.reduceEqDiff,Nat.reduceAdd,Nat.reduceSub,Int.reduceAdd,Int.reduceSub,Int.reduceToNat,Nat.reduceBEq]
  refine⟨qC,hN _ (qI 0 46) (ab (by rfl) (by rfl) ?_)⟩
  simp (disch:=omega) only [go_sem,Nat.reduceEqDiff,Nat.reduceAdd,Nat.reduceSub,Int.reduceAdd,Int.reduceSub,Int.reduceToNat,Nat.reduceBEq]
 try simp (disch:=omega) only [go_sem,Nat.reduceEqDiff,Nat.reduceAdd,Nat.reduceSub,Int.reduceAdd,Int.reduceSub,Int.reduceToNat,Nat.reduceBEq]
 obtain⟨q1,hq1⟩:∃ q,q=ma nsA (lj 1 1 x) w.a.now:=⟨_,rfl⟩
 refine dP 22 hE (fun s=>s.at (qU [9,14,25,35]) [] (((s.hp.take 24).set 22 (some ⟨[(c7 (⟨w.a,w.b,bag,p1,wA,wB,rA,rB,⟨keys,tags⟩,nums,q1,nsB⟩:WorldD) 24 25 26 27 28 29 30 31 32 33 34 35 36 37 38 39 40 41 42 43 44)],61,51,true,false⟩))++(dK w true++(dL (⟨w.a,w.b,bag,p1,wA,wB,rA,rB,⟨keys,tags⟩,nums,q1,nsB⟩:WorldD) true++[some ⟨[x.cs],19,91,true,false⟩])))) (qC) (by rfl) (fun N hN=>ac 401 ?_) (dm 1010 400 ?_)
 ·try simp (disch:=omega) only [go_sem,Nat.reduceEqDiff,Nat.reduceAdd,Nat.reduceSub,Int.reduceAdd,Int.reduceSub,Int.reduceToNat,Nat.reduceBEq]
  split<;>rename_i b2<;>(try simp only [beq_true,beq_false,Bool.not_eq_true',Bool.not_eq_false'] at b2)<;>simp (disch:=omega) only [go_sem,Nat.reduceEqDiff,Nat.reduceAdd,Nat.reduceSub,Int.reduceAdd,Int.reduceSub,Int.reduceToNat,Nat.reduceBEq,b2]<;>(try simp only [decide_eq_true_eq,decide_eq_false_iff_not,beq_iff_eq,beq_eq_false_iff_ne,bne_iff_ne,bne_eq_false_iff_eq,ne_eq,Decidable.not_not,Bool.and_eq_true,Bool.and_eq_false_iff,Bool.or_eq_true,Bool.or_eq_false_iff,Int.ofNat_lt,Int.ofNat_le,Bool.not_eq_eq_eq_not,Bool.not_true,Bool.not_false] at b2)<;>try simp (disch:=omega) only [go_sem,Nat.reduceEqDiff,Nat.reduceAdd,Nat.reduceSub,Int.reduceAdd,Int.reduceSub,Int.reduceToNat,Nat.reduceBEq]
  ·rw [vV b2] at hq1
   split<;>rename_i b3<;>(try simp only [beq_true,beq_false,Bool.not_eq_true',Bool.not_eq_false'] at b3)<;>simp (disch:=omega) only [go_sem,Nat.reduceEqDiff,Nat.reduceAdd,Nat.reduceSub,Int.reduceAdd,Int.reduceSub,Int.reduceToNat,Nat.reduceBEq,b3]<;>(try simp only [decide_eq_true_eq,decide_eq_false_iff_not,beq_iff_eq,beq_eq_false_iff_ne,bne_iff_ne,bne_eq_false_iff_eq,ne_eq,Decidable.not_not,Bool.and_eq_true,Bool.and_eq_false_iff,Bool.or_eq_true,Bool.or_eq_false_iff,Int.ofNat_lt,Int.ofNat_le,Bool.not_eq_eq_eq_not,Bool.not_true,Bool.not_false] at b3)<;>try simp (disch:=omega) only [go_sem,Nat.reduceEqDiff,Nat.reduceAdd,Nat.reduceSub,Int.reduceAdd,Int.reduceSub,Int.reduceToNat,Nat.reduceBEq]
   ·rw [vR (by omega)] at hq1
    subst hq1
    try simp (disch:=omega) only [go_sem,Nat.reduceEqDiff,Nat.reduceAdd,Nat.reduceSub,Int.reduceAdd,Int.reduceSub,Int.reduceToNat,Nat.reduceBEq]
    refine⟨qC,hN _ (qI 0 43++qI 47 1++qI 44 2) (ab (by rfl) (by rfl) ?_)⟩
    simp (disch:=omega) only [go_sem,Nat.reduceEqDiff,Nat.reduceAdd,Nat.reduceSub,Int.reduceAdd,Int.reduceSub,Int.reduceToNat,Nat.reduceBEq]
    try simp [aC]
   rw [vS (by omega)] at hq1
   subst hq1
   try simp (disch:=omega) only [go_sem,Nat.reduceEqDiff,Nat.reduceAdd,Nat.reduceSub,Int.reduceAdd,Int.reduceSub,Int.reduceToNat,Nat.reduceBEq]
   refine⟨qC,hN _ (qI 0 46) (ab (by rfl) (by rfl) ?_)⟩
   simp (disch:=omega) only [go_sem,Nat.reduceEqDiff,Nat.reduceAdd,Nat.reduceSub,Int.reduceAdd,Int.reduceSub,Int.reduceToNat,Nat.reduceBEq]
  rw [vT b2,iX] at hq1
  subst hq1
  try simp (disch:=omega) only [go_sem,Nat.reduceEqDiff,Nat.reduceAdd,Nat.reduceSub,Int.reduceAdd,Int.reduceSub,Int.reduceToNat,Nat.reduceBEq]
  refine⟨qC,hN _ (qI 0 46) (ab (by rfl) (by rfl) ?_)⟩
  simp (disch:=omega) only [go_sem,Nat.reduceEqDiff,Nat.reduceAdd,Nat.reduceSub,Int.reduceAdd,Int.reduceSub,Int.reduceToNat,Nat.reduceBEq]
 try simp (disch:=omega) only [go_sem,Nat.reduceEqDiff,Nat.reduceAdd,Nat.reduceSub,Int.reduceAdd,Int.reduceSub,Int.reduceToNat,Nat.reduceBEq]
 refine dP 22 hE (fun s=>s.at (qU [9,14,25,56]) [] (((s.hp.take 24).set 22 (some ⟨[(c7 (⟨w.a,w.b,bag,p1,wA,wB,rA,rB,⟨keys,tags⟩,nums,q1,nsB⟩:WorldD) 24 25 26 27 28 29 30 31 32 33 34 35 36 37 38 39 40 41 42 43 44)],61,51,true,false⟩))++(dK w true++(dL (⟨w.a,w.b,bag,p1,wA,wB,rA,rB,⟨keys,tags⟩,nums,q1,nsB⟩:WorldD) true++[some ⟨[x.cs],19,91,true,false⟩])))) (qC) (by rfl) (fun N hN=>ac 401 ?_) (ac 400 ?_)
 ·try simp (disch:=omega) only [go_sem,Nat.reduceEqDiff,Nat.reduceAdd,Nat.reduceSub,Int.reduceAdd,Int.reduceSub,Int.reduceToNat]
  split<;>rename_i b6<;>(try simp only [beq_true,beq_false,Bool.not_eq_true',Bool.not_eq_false'] at b6)<;>simp (disch:=omega) only [go_sem,Nat.reduceEqDiff,Nat.reduceAdd,Nat.reduceSub,Int.reduceAdd,Int.reduceSub,Int.reduceToNat,b6]<;>(try simp only [decide_eq_true_eq,decide_eq_false_iff_not,beq_iff_eq,beq_eq_false_iff_ne,bne_iff_ne,bne_eq_false_iff_eq,ne_eq,Decidable.not_not,Bool.and_eq_true,Bool.and_eq_false_iff,Bool.or_eq_true,Bool.or_eq_false_iff,Int.ofNat_lt,Int.ofNat_le,Bool.not_eq_eq_eq_not,Bool.not_true,Bool.not_false] at b6)<;>try simp (disch:=omega) only [go_sem,Nat.reduceEqDiff,Nat.reduceAdd,Nat.reduceSub,Int.reduceAdd,Int.reduceSub,Int.reduceToNat]
  ·try simp (disch:=omega) only [go_sem,Nat.reduceEqDiff,Nat.reduceAdd,Nat.reduceSub,Int.reduceAdd,Int.reduceSub,Int.reduceToNat]
   refine⟨qC,hN _ (qI 0 46) (ab (by rfl) (by rfl) ?_)⟩
   simp (disch:=omega) only [go_sem,Nat.reduceEqDiff,Nat.reduceAdd,Nat.reduceSub,Int.reduceAdd,Int.reduceSub,Int.reduceToNat]
  try simp (disch:=omega) only [go_sem,Nat.reduceEqDiff,Nat.reduceAdd,Nat.reduceSub,Int.reduceAdd,Int.reduceSub,Int.reduceToNat]
  refine⟨qC,hN _ (qI 0 46) (ab (by rfl) (by rfl) ?_)⟩
  simp (disch:=omega) only [go_sem,Nat.reduceEqDiff,Nat.reduceAdd,Nat.reduceSub,Int.reduceAdd,Int.reduceSub,Int.reduceToNat]
 try simp (disch:=omega) only [go_sem,Nat.reduceEqDiff,Nat.reduceAdd,Nat.reduceSub,Int.reduceAdd,Int.reduceSub,Int.reduceToNat]
 refine al (qC) (dD x.to) [] qM (by rfl) (ac 400 ?_)
 simp (disch:=omega) only [go_sem,Nat.reduceEqDiff,Nat.reduceAdd,Nat.reduceSub,Int.reduceAdd,Int.reduceSub,Int.reduceToNat]
 have hoth:ma nsB (lj 1 2 x) w.b.now=nsB:=by rw [vU (by decide),iX]
 split<;>rename_i b4<;>(try simp only [beq_true,beq_false,Bool.not_eq_true',Bool.not_eq_false'] at b4)<;>simp (disch:=omega) only [go_sem,Nat.reduceEqDiff,Nat.reduceAdd,Nat.reduceSub,Int.reduceAdd,Int.reduceSub,Int.reduceToNat,b4]<;>(try simp only [decide_eq_true_eq,decide_eq_false_iff_not,beq_iff_eq,beq_eq_false_iff_ne,bne_iff_ne,bne_eq_false_iff_eq,ne_eq,Decidable.not_not,Bool.and_eq_true,Bool.and_eq_false_iff,Bool.or_eq_true,Bool.or_eq_false_iff,Int.ofNat_lt,Int.ofNat_le,Bool.not_eq_eq_eq_not,Bool.not_true,Bool.not_false] at b4)<;>try simp (disch:=omega) only [go_sem,Nat.reduceEqDiff,Nat.reduceAdd,Nat.reduceSub,Int.reduceAdd,Int.reduceSub,Int.reduceToNat]
 ·have hK:=rv ⟨keys,tags⟩ x.tag (by dsimp only;omega) (by dsimp only;omega)
  have hky:(dY ⟨keys,tags⟩ x.tag).keys.length≤1048576:=by rw [iB];exact s3
  have hkt:(dY ⟨keys,tags⟩ x.tag).tags.length≤1048576:=kC s4
  obtain⟨kk,hkk⟩:∃ k,k=dY ⟨keys,tags⟩ x.tag:=⟨_,rfl⟩
  rw [←hkk] at hK hky hkt
  obtain⟨k1,t1⟩:=kk
  dsimp only at hky hkt
  have t5a:(dk nums x.nonce).length≤1048576:=d_ s5
  have t5b:(dk (dk nums x.nonce) x.give).length≤1048576:=d_ t5a
  have hh1:=eh (⟨w.a,w.b,bag,p1,wA,wB,rA,rB,⟨k1,t1⟩,nums,q1,nsB⟩:WorldD) x.nonce (by dsimp only;omega)
  have hh2:=eh (⟨w.a,w.b,bag,p1,wA,wB,rA,rB,⟨k1,t1⟩,(dk nums x.nonce),q1,nsB⟩:WorldD) x.give (by dsimp only;omega)
  have hh3:=eh (⟨w.a,w.b,bag,p1,wA,wB,rA,rB,⟨k1,t1⟩,(dk (dk nums x.nonce) x.give),q1,nsB⟩:WorldD) x.sgn (by dsimp only;omega)
  dsimp only at hh1 hh2 hh3
  have e:c_ 1 (⟨w.a,w.b,bag,past,wA,wB,rA,rB,⟨keys,tags⟩,nums,nsA,nsB⟩:WorldD) x=(⟨w.a,w.b,bag,p1,wA,wB,rA,rB,⟨k1,t1⟩,(dk (dk (dk nums x.nonce) x.give) x.sgn),q1,nsB⟩:WorldD):=by
   rw [c_,if_pos b4,oR,jm]
   dsimp only
   rw [←hkk,hoth,←hp1,←hq1]
  rw [e] at hu
  have hS1:=dE (side:=1) (x:=x) hS
  rw [e] at hS1
  generalize dk nums x.nonce=m1 at*
  generalize dk m1 x.give=m2 at*
  generalize dk m2 x.sgn=m3 at*
  try simp (disch:=omega) only [go_sem,Nat.reduceEqDiff,Nat.reduceAdd,Nat.reduceSub,Int.reduceAdd,Int.reduceSub,Int.reduceToNat]
  refine al (qC) (hK) (qI 40 2) qM (by rfl) (ac 400 ?_)
  simp (disch:=omega) only [go_sem,Nat.reduceEqDiff,Nat.reduceAdd,Nat.reduceSub,Int.reduceAdd,Int.reduceSub,Int.reduceToNat]
  refine al (qC) (hh1) (qI 24 16++qI 46 2++qI 42 3) qM (by rfl) (ac 400 ?_)
  simp (disch:=omega) only [go_sem,Nat.reduceEqDiff,Nat.reduceAdd,Nat.reduceSub,Int.reduceAdd,Int.reduceSub,Int.reduceToNat]
  refine al (qC) (hh2) (qI 24 16++qI 46 3++qI 43 2) qM (by rfl) (ac 400 ?_)
  simp (disch:=omega) only [go_sem,Nat.reduceEqDiff,Nat.reduceAdd,Nat.reduceSub,Int.reduceAdd,Int.reduceSub,Int.reduceToNat]
  refine al (qC) (hh3) (qI 24 16++qI 46 2++qI 49 1++qI 43 2) qM (by rfl) (ac 400 ?_)
  simp (disch:=omega) only [go_sem,Nat.reduceEqDiff,Nat.reduceAdd,Nat.reduceSub,Int.reduceAdd,Int.reduceSub,Int.reduceToNat]
  refine⟨qC,hN _ (i+1,(⟨w.a,w.b,bag,p1,wA,wB,rA,rB,⟨k1,t1⟩,m3,q1,nsB⟩:WorldD)) (qI 0 40++qI 46 2++qI 50 1++qI 43 2) (by (try dsimp only);exact⟨by omega,rfl,rfl,hS1,hu⟩) (by (try dsimp only);omega) (ab (by rfl) (by rfl) ?_)⟩
  try simp (disch:=omega) only [go_sem,Nat.reduceEqDiff,Nat.reduceAdd,Nat.reduceSub,Int.reduceAdd,Int.reduceSub,Int.reduceToNat]
 obtain⟨g1,hg1⟩:∃ g,g=vO bag x:=⟨_,rfl⟩
 have e:c_ 1 (⟨w.a,w.b,bag,past,wA,wB,rA,rB,⟨keys,tags⟩,nums,nsA,nsB⟩:WorldD) x=(⟨w.a,w.b,g1,p1,wA,wB,rA,rB,⟨keys,tags⟩,nums,q1,nsB⟩:WorldD):=by
  rw [c_,if_neg b4,jm]
  dsimp only
  rw [hoth,←hp1,←hq1,←hg1]
 rw [e] at hu
 have hS1:=dE (side:=1) (x:=x) hS
 rw [e] at hS1
 try simp (disch:=omega) only [go_sem,Nat.reduceEqDiff,Nat.reduceAdd,Nat.reduceSub,Int.reduceAdd,Int.reduceSub,Int.reduceToNat]
 split<;>rename_i b5<;>(try simp only [beq_true,beq_false,Bool.not_eq_true',Bool.not_eq_false'] at b5)<;>simp (disch:=omega) only [go_sem,Nat.reduceEqDiff,Nat.reduceAdd,Nat.reduceSub,Int.reduceAdd,Int.reduceSub,Int.reduceToNat,b5]<;>(try simp only [decide_eq_true_eq,decide_eq_false_iff_not,beq_iff_eq,beq_eq_false_iff_ne,bne_iff_ne,bne_eq_false_iff_eq,ne_eq,Decidable.not_not,Bool.and_eq_true,Bool.and_eq_false_iff,Bool.or_eq_true,Bool.or_eq_false_iff,Int.ofNat_lt,Int.ofNat_le,Bool.not_eq_eq_eq_not,Bool.not_true,Bool.not_false] at b5)<;>try simp (disch:=omega) only [go_sem,Nat.reduceEqDiff,Nat.reduceAdd,Nat.reduceSub,Int.reduceAdd,Int.reduceSub,Int.reduceToNat]
 ·rw [vP (by omega)] at hg1
  subst hg1
  try simp (disch:=omega) only [go_sem,Nat.reduceEqDiff,Nat.reduceAdd,Nat.reduceSub,Int.reduceAdd,Int.reduceSub,Int.reduceToNat]
  refine⟨qC,hN _ (i+1,(⟨w.a,w.b,(bag++[x]),p1,wA,wB,rA,rB,⟨keys,tags⟩,nums,q1,nsB⟩:WorldD)) (qI 0 38++qI 47 1++qI 39 6) (by (try dsimp only);exact⟨by omega,rfl,rfl,hS1,hu⟩) (by (try dsimp only);omega) (ab (by rfl) (by rfl) ?_)⟩
  try simp (disch:=omega) only [go_sem,Nat.reduceEqDiff,Nat.reduceAdd,Nat.reduceSub,Int.reduceAdd,Int.reduceSub,Int.reduceToNat]
  try simp [LetterD.cs]
 rw [vQ (by omega)] at hg1
 subst hg1
 try simp (disch:=omega) only [go_sem,Nat.reduceEqDiff,Nat.reduceAdd,Nat.reduceSub,Int.reduceAdd,Int.reduceSub,Int.reduceToNat]
 refine⟨qC,hN _ (i+1,(⟨w.a,w.b,g1,p1,wA,wB,rA,rB,⟨keys,tags⟩,nums,q1,nsB⟩:WorldD)) (qI 0 45) (by (try dsimp only);exact⟨by omega,rfl,rfl,hS1,hu⟩) (by (try dsimp only);omega) (ab (by rfl) (by rfl) ?_)⟩
 try simp (disch:=omega) only [go_sem,Nat.reduceEqDiff,Nat.reduceAdd,Nat.reduceSub,Int.reduceAdd,Int.reduceSub,Int.reduceToNat]
theorem dI (w:WorldD) (l:List LetterD) (hw:SmallW w) (hl:l.length≤1048576):ae Tryz.prog 123 [.ag (w.cs 0),.sc (.int .i64 2),.sc (.sl 21 0 l.length)]
  (w.hp false++[some ⟨l.map LetterD.cs,19,91,false,true⟩]) (.ag ((aq 2 w l).cs 22)) (w.hp false++([some ⟨l.map LetterD.cs,19,91,false,true⟩]++(aq 2 w l).hp true)):=by
 obtain⟨R,hR⟩:∃ R,R=aq 2 w l:=⟨_,rfl⟩
 rw [←hR]
 have hl2:l.length≤9223372036854775807:=by omega
 have hC:=ib w hw
 refine aN Tryz.func123 (by kernel_rfl) rfl fun E hE=>ac 400 ?_
 simp (disch:=omega) only [Tryz.ntmps123,Tryz.results123,go_sem,Nat.reduceEqDiff,Nat.reduceAdd,Nat.reduceSub,Int.reduceAdd,Int.reduceSub,Int.reduceToNat]
 refine al (qC) (hC) (qI 0 21) qM (by rfl) (ac 400 ?_)
 simp (disch:=omega) only [go_sem,Nat.reduceEqDiff,Nat.reduceAdd,Nat.reduceSub,Int.reduceAdd,Int.reduceSub,Int.reduceToNat]
 refine cE 22 hE (fun s (y:Nat×WorldD)=>s.at (qU [0,1,8,105]) [(7,.sc (.int .i64 (y.1:Nat)))] (((s.hp.take 24).set 22 (some ⟨[(c7 y.2 24 25 26 27 28 29 30 31 32 33 34 35 36 37 38 39 40 41 42 43 44)],61,51,true,false⟩))++(dK w true++(dL y.2 true)))) (fun (y:Nat×WorldD)=>y.1≤l.length∧y.2.a=w.a∧y.2.b=w.b∧SmallP2 y.2∧R=aq 2 y.2 (l.drop y.1)) (fun (y:Nat×WorldD)=>l.length - y.1) (0,w) (qI 0 45) (qC) (⟨Nat.zero_le _,rfl,rfl,hw.rest,hR⟩) (ab (by rfl) (by rfl) ?_) fun y hy N hN=>?_
 ·try simp (disch:=omega) only [go_sem,Nat.reduceEqDiff,Nat.reduceAdd,Nat.reduceSub,Int.reduceAdd,Int.reduceSub,Int.reduceToNat]
 obtain⟨i,u⟩:=y
 obtain⟨hi,ha,hb,hS,hu⟩:=hy
 obtain⟨ua,ub,bag,past,wA,wB,rA,rB,known,nums,nsA,nsB⟩:=u
 obtain⟨keys,tags⟩:=known
 dsimp only at hi ha hb hu
 subst ha hb
 have s1:=hS.bag
 have s2:=hS.past
 have s3:=hS.keys
 have s4:=hS.tags
 have s5:=hS.nums
 have s6:=hS.ansA
 have s7:=hS.ansB
 dsimp only at s1 s2 s3 s4 s5 s6 s7
 refine dm 1006 400 ?_
 try simp (disch:=omega) only [go_sem,Nat.reduceEqDiff,Nat.reduceAdd,Nat.reduceSub,Int.reduceAdd,Int.reduceSub,Int.reduceToNat,Nat.reduceBEq]
 split<;>rename_i h<;>(try simp only [decide_eq_true_eq,decide_eq_false_iff_not,Int.ofNat_lt] at h)
 rotate_left
 ·have e:i=l.length:=by omega
  subst e
  rw [kU (Nat.le_refl _)] at hu
  subst hu
  try simp (disch:=omega) only [go_sem,Nat.reduceEqDiff,Nat.reduceAdd,Nat.reduceSub,Int.reduceAdd,Int.reduceSub,Int.reduceToNat,Nat.reduceBEq]
  refine aA (qI 0 22++qI 24 21) (qC) _ (by simp only [go_sem];rfl) (by rfl) (by rfl) ?_
  simp (disch:=omega) only [go_sem,Nat.reduceEqDiff,Nat.reduceAdd,Nat.reduceSub,Int.reduceAdd,Int.reduceSub,Int.reduceToNat,Nat.reduceBEq]
 rw [jK h] at hu
 generalize hx:l[i]=x at hu
 have hget:=ao (enc:=LetterD.cs) h
 rw [hx] at hget
 try simp (disch:=omega) only [go_sem,Nat.reduceEqDiff,Nat.reduceAdd,Nat.reduceSub,Int.reduceAdd,Int.reduceSub,Int.reduceToNat,Nat.reduceBEq,hget]
 obtain⟨p1,hp1⟩:∃ p,p=nb past x:=⟨_,rfl⟩
 refine dP 22 hE (fun s=>s.at (qU [9,14,25,14]) [] (((s.hp.take 24).set 22 (some ⟨[(c7 (⟨w.a,w.b,bag,p1,wA,wB,rA,rB,⟨keys,tags⟩,nums,nsA,nsB⟩:WorldD) 24 25 26 27 28 29 30 31 32 33 34 35 36 37 38 39 40 41 42 43 44)],61,51,true,false⟩))++(dK w true++(dL (⟨w.a,w.b,bag,p1,wA,wB,rA,rB,⟨keys,tags⟩,nums,nsA,nsB⟩:WorldD) true++[some ⟨[x.cs],19,91,true,false⟩])))) (qC) (by rfl) (fun N hN=>ac 401 ?_) (dm 1008 400 ?_)
 ·try simp (disch:=omega) only [go_sem,Nat.reduceEqDiff,Nat.reduceAdd,Nat.reduceSub,Int.reduceAdd,Int.reduceSub,Int.reduceToNat,Nat.reduceBEq]
  split<;>rename_i b1<;>(try simp only [beq_true,beq_false,Bool.not_eq_true',Bool.not_eq_false'] at b1)<;>simp (disch:=omega) only [go_sem,Nat.reduceEqDiff,Nat.reduceAdd,Nat.reduceSub,Int.reduceAdd,Int.reduceSub,Int.reduceToNat,Nat.reduceBEq,b1]<;>(try simp only [decide_eq_true_eq,decide_eq_false_iff_not,beq_iff_eq,beq_eq_false_iff_ne,bne_iff_ne,bne_eq_false_iff_eq,ne_eq,Decidable.not_not,Bool.and_eq_true,Bool.and_eq_false_iff,Bool.or_eq_true,Bool.or_eq_false_iff,Int.ofNat_lt,Int.ofNat_le,Bool.not_eq_eq_eq_not,Bool.not_true,Bool.not_false] at b1)<;>try simp (disch:=omega) only [go_sem,Nat.reduceEqDiff,Nat.reduceAdd,Nat.reduceSub,Int.reduceAdd,Int.reduceSub,Int.reduceToNat,Nat.reduceBEq]
  ·rw [pw (by omega)] at hp1
   subst hp1
   try simp (disch:=omega) only [go_sem,Nat.reduceEqDiff,Nat.reduceAdd,Nat.reduceSub,Int.reduceAdd,Int.reduceSub,Int.reduceToNat,Nat.reduceBEq]
   refine⟨qC,hN _ (qI 0 39++qI 47 1++qI 40 6) (ab (by rfl) (by rfl) ?_)⟩
   simp (disch:=omega) only [go_sem,Nat.reduceEqDiff,Nat.reduceAdd,Nat.reduceSub,Int.reduceAdd,Int.reduceSub,Int.reduceToNat,Nat.reduceBEq]
   try simp [LetterD.cs]
  rw [px (by omega)] at hp1
  subst hp1
  try simp (disch:=omega) only [go_sem,Nat.reduceEqDiff,Nat.reduceAdd,Nat.reduceSub,Int.reduceAdd,Int.reduceSub,Int.reduceToNat,Nat.reduceBEq]
  refine⟨qC,hN _ (qI 0 46) (ab (by rfl) (by rfl) ?_)⟩
  simp (disch:=omega) only [go_sem,Nat.reduceEqDiff,Nat.reduceAdd,Nat.reduceSub,Int.reduceAdd,Int.reduceSub,Int.reduceToNat,Nat.reduceBEq]
 try simp (disch:=omega) only [go_sem,Nat.reduceEqDiff,Nat.reduceAdd,Nat.reduceSub,Int.reduceAdd,Int.reduceSub,Int.reduceToNat,Nat.reduceBEq]
 obtain⟨q1,hq1⟩:∃ q,q=ma nsB (lj 2 2 x) w.b.now:=⟨_,rfl⟩
 refine dP 22 hE (fun s=>s.at (qU [9,14,25,35]) [] (((s.hp.take 24).set 22 (some ⟨[(c7 (⟨w.a,w.b,bag,p1,wA,wB,rA,rB,⟨keys,tags⟩,nums,nsA,nsB⟩:WorldD) 24 25 26 27 28 29 30 31 32 33 34 35 36 37 38 39 40 41 42 43 44)],61,51,true,false⟩))++(dK w true++(dL (⟨w.a,w.b,bag,p1,wA,wB,rA,rB,⟨keys,tags⟩,nums,nsA,nsB⟩:WorldD) true++[some ⟨[x.cs],19,91,true,false⟩])))) (qC) (by rfl) (fun N hN=>ac 401 ?_) (dm 1010 400 ?_)
 ·try simp (disch:=omega) only [go_sem,Nat.reduceEqDiff,Nat.reduceAdd,Nat.reduceSub,Int.reduceAdd,Int.reduceSub,Int.reduceToNat,Nat.reduceBEq]
  split<;>rename_i b6<;>(try simp only [beq_true,beq_false,Bool.not_eq_true',Bool.not_eq_false'] at b6)<;>simp (disch:=omega) only [go_sem,Nat.reduceEqDiff,Nat.reduceAdd,Nat.reduceSub,Int.reduceAdd,Int.reduceSub,Int.reduceToNat,Nat.reduceBEq,b6]<;>(try simp only [decide_eq_true_eq,decide_eq_false_iff_not,beq_iff_eq,beq_eq_false_iff_ne,bne_iff_ne,bne_eq_false_iff_eq,ne_eq,Decidable.not_not,Bool.and_eq_true,Bool.and_eq_false_iff,Bool.or_eq_true,Bool.or_eq_false_iff,Int.ofNat_lt,Int.ofNat_le,Bool.not_eq_eq_eq_not,Bool.not_true,Bool.not_false] at b6)<;>try simp (disch:=omega) only [go_sem,Nat.reduceEqDiff,Nat.reduceAdd,Nat.reduceSub,Int.reduceAdd,Int.reduceSub,Int.reduceToNat,Nat.reduceBEq]
  ·try simp (disch:=omega) only [go_sem,Nat.reduceEqDiff,Nat.reduceAdd,Nat.reduceSub,Int.reduceAdd,Int.reduceSub,Int.reduceToNat,Nat.reduceBEq]
   refine⟨qC,hN _ (qI 0 46) (ab (by rfl) (by rfl) ?_)⟩
   simp (disch:=omega) only [go_sem,Nat.reduceEqDiff,Nat.reduceAdd,Nat.reduceSub,Int.reduceAdd,Int.reduceSub,Int.reduceToNat,Nat.reduceBEq]
  try simp (disch:=omega) only [go_sem,Nat.reduceEqDiff,Nat.reduceAdd,Nat.reduceSub,Int.reduceAdd,Int.reduceSub,Int.reduceToNat,Nat.reduceBEq]
  refine⟨qC,hN _ (qI 0 46) (ab (by rfl) (by rfl) ?_)⟩
  simp (disch:=omega) only [go_sem,Nat.reduceEqDiff,Nat.reduceAdd,Nat.reduceSub,Int.reduceAdd,Int.reduceSub,Int.reduceToNat,Nat.reduceBEq]
 try simp (disch:=omega) only [go_sem,Nat.reduceEqDiff,Nat.reduceAdd,Nat.reduceSub,Int.reduceAdd,Int.reduceSub,Int.reduceToNat,Nat.reduceBEq]
 refine dP 22 hE (fun s=>s.at (qU [9,14,25,56]) [] (((s.hp.take 24).set 22 (some ⟨[(c7 (⟨w.a,w.b,bag,p1,wA,wB,rA,rB,⟨keys,tags⟩,nums,nsA,q1⟩:WorldD) 24 25 26 27 28 29 30 31 32 33 34 35 36 37 38 39 40 41 42 43 44)],61,51,true,false⟩))++(dK w true++(dL (⟨w.a,w.b,bag,p1,wA,wB,rA,rB,⟨keys,tags⟩,nums,nsA,q1⟩:WorldD) true++[some ⟨[x.cs],19,91,true,false⟩])))) (qC) (by rfl) (fun N hN=>ac 401 ?_) (ac 400 ?_)
 ·try simp (disch:=omega) only [go_sem,Nat.reduceEqDiff,Nat.reduceAdd,Nat.reduceSub,Int.reduceAdd,Int.reduceSub,Int.reduceToNat]
  split<;>rename_i b2<;>(try simp only [beq_true,beq_false,Bool.not_eq_true',Bool.not_eq_false'] at b2)<;>simp (disch:=omega) only [go_sem,Nat.reduceEqDiff,Nat.reduceAdd,Nat.reduceSub,Int.reduceAdd,Int.reduceSub,Int.reduceToNat,b2]<;>(try simp only [decide_eq_true_eq,decide_eq_false_iff_not,beq_iff_eq,beq_eq_false_iff_ne,bne_iff_ne,bne_eq_false_iff_eq,ne_eq,Decidable.not_not,Bool.and_eq_true,Bool.and_eq_false_iff,Bool.or_eq_true,Bool.or_eq_false_iff,Int.ofNat_lt,Int.ofNat_le,Bool.not_eq_eq_eq_not,Bool.not_true,Bool.not_false] at b2)<;>try simp (disch:=omega) only [go_sem,Nat.reduceEqDiff,Nat.reduceAdd,Nat.reduceSub,Int.reduceAdd,Int.reduceSub,Int.reduceToNat]
  ·rw [vV b2] at hq1
   split<;>rename_i b3<;>(try simp only [beq_true,beq_false,Bool.not_eq_true',Bool.not_eq_false'] at b3)<;>simp (disch:=omega) only [go_sem,Nat.reduceEqDiff,Nat.reduceAdd,Nat.reduceSub,Int.reduceAdd,Int.reduceSub,Int.reduceToNat,b3]<;>(try simp only [decide_eq_true_eq,decide_eq_false_iff_not,beq_iff_eq,beq_eq_false_iff_ne,bne_iff_ne,bne_eq_false_iff_eq,ne_eq,Decidable.not_not,Bool.and_eq_true,Bool.and_eq_false_iff,Bool.or_eq_true,Bool.or_eq_false_iff,Int.ofNat_lt,Int.ofNat_le,Bool.not_eq_eq_eq_not,Bool.not_true,Bool.not_false] at b3)<;>try simp (disch:=omega) only [go_sem,Nat.reduceEqDiff,Nat.reduceAdd,Nat.reduceSub,Int.reduceAdd,Int.reduceSub,Int.reduceToNat]
   ·rw [vR (by omega)] at hq1
    subst hq1
    try simp (disch:=omega) only [go_sem,Nat.reduceEqDiff,Nat.reduceAdd,Nat.reduceSub,Int.reduceAdd,Int.reduceSub,Int.reduceToNat]
    refine⟨qC,hN _ (qI 0 44++qI 47 1++qI 45 1) (ab (by rfl) (by rfl) ?_)⟩
    simp (disch:=omega) only [go_sem,Nat.reduceEqDiff,Nat.reduceAdd,Nat.reduceSub,Int.reduceAdd,Int.reduceSub,Int.reduceToNat]
    try simp [aC]
   rw [vS (by omega)] at hq1
   subst hq1
   try simp (disch:=omega) only [go_sem,Nat.reduceEqDiff,Nat.reduceAdd,Nat.reduceSub,Int.reduceAdd,Int.reduceSub,Int.reduceToNat]
   refine⟨qC,hN _ (qI 0 46) (ab (by rfl) (by rfl) ?_)⟩
   simp (disch:=omega) only [go_sem,Nat.reduceEqDiff,Nat.reduceAdd,Nat.reduceSub,Int.reduceAdd,Int.reduceSub,Int.reduceToNat]
  rw [vT b2,iX] at hq1
  subst hq1
  try simp (disch:=omega) only [go_sem,Nat.reduceEqDiff,Nat.reduceAdd,Nat.reduceSub,Int.reduceAdd,Int.reduceSub,Int.reduceToNat]
  refine⟨qC,hN _ (qI 0 46) (ab (by rfl) (by rfl) ?_)⟩
  simp (disch:=omega) only [go_sem,Nat.reduceEqDiff,Nat.reduceAdd,Nat.reduceSub,Int.reduceAdd,Int.reduceSub,Int.reduceToNat]
 try simp (disch:=omega) only [go_sem,Nat.reduceEqDiff,Nat.reduceAdd,Nat.reduceSub,Int.reduceAdd,Int.reduceSub,Int.reduceToNat]
 refine al (qC) (dD x.to) [] qM (by rfl) (ac 400 ?_)
 simp (disch:=omega) only [go_sem,Nat.reduceEqDiff,Nat.reduceAdd,Nat.reduceSub,Int.reduceAdd,Int.reduceSub,Int.reduceToNat]
 have hoth:ma nsA (lj 2 1 x) w.a.now=nsA:=by rw [vU (by decide),iX]
 split<;>rename_i b4<;>(try simp only [beq_true,beq_false,Bool.not_eq_true',Bool.not_eq_false'] at b4)<;>simp (disch:=omega) only [go_sem,Nat.reduceEqDiff,Nat.reduceAdd,Nat.reduceSub,Int.reduceAdd,Int.reduceSub,Int.reduceToNat,b4]<;>(try simp only [decide_eq_true_eq,decide_eq_false_iff_not,beq_iff_eq,beq_eq_false_iff_ne,bne_iff_ne,bne_eq_false_iff_eq,ne_eq,Decidable.not_not,Bool.and_eq_true,Bool.and_eq_false_iff,Bool.or_eq_true,Bool.or_eq_false_iff,Int.ofNat_lt,Int.ofNat_le,Bool.not_eq_eq_eq_not,Bool.not_true,Bool.not_false] at b4)<;>try simp (disch:=omega) only [go_sem,Nat.reduceEqDiff,Nat.reduceAdd,Nat.reduceSub,Int.reduceAdd,Int.reduceSub,Int.reduceToNat]
 ·have hK:=rv ⟨keys,tags⟩ x.tag (by dsimp only;omega) (by dsimp only;omega)
  have hky:(dY ⟨keys,tags⟩ x.tag).keys.length≤1048576:=by rw [iB];exact s3
  have hkt:(dY ⟨keys,tags⟩ x.tag).tags.length≤1048576:=kC s4
  obtain⟨kk,hkk⟩:∃ k,k=dY ⟨keys,tags⟩ x.tag:=⟨_,rfl⟩
  rw [←hkk] at hK hky hkt
  obtain⟨k1,t1⟩:=kk
  dsimp only at hky hkt
  have t5a:(dk nums x.nonce).length≤1048576:=d_ s5
  have t5b:(dk (dk nums x.nonce) x.give).length≤1048576:=d_ t5a
  have hh1:=eh (⟨w.a,w.b,bag,p1,wA,wB,rA,rB,⟨k1,t1⟩,nums,nsA,q1⟩:WorldD) x.nonce (by dsimp only;omega)
  have hh2:=eh (⟨w.a,w.b,bag,p1,wA,wB,rA,rB,⟨k1,t1⟩,(dk nums x.nonce),nsA,q1⟩:WorldD) x.give (by dsimp only;omega)
  have hh3:=eh (⟨w.a,w.b,bag,p1,wA,wB,rA,rB,⟨k1,t1⟩,(dk (dk nums x.nonce) x.give),nsA,q1⟩:WorldD) x.sgn (by dsimp only;omega)
  dsimp only at hh1 hh2 hh3
  have e:c_ 2 (⟨w.a,w.b,bag,past,wA,wB,rA,rB,⟨keys,tags⟩,nums,nsA,nsB⟩:WorldD) x=(⟨w.a,w.b,bag,p1,wA,wB,rA,rB,⟨k1,t1⟩,(dk (dk (dk nums x.nonce) x.give) x.sgn),nsA,q1⟩:WorldD):=by
   rw [c_,if_pos b4,oR,jm]
   dsimp only
   rw [←hkk,hoth,←hp1,←hq1]
  rw [e] at hu
  have hS1:=dE (side:=2) (x:=x) hS
  rw [e] at hS1
  generalize dk nums x.nonce=m1 at*
  generalize dk m1 x.give=m2 at*
  generalize dk m2 x.sgn=m3 at*
  try simp (disch:=omega) only [go_sem,Nat.reduceEqDiff,Nat.reduceAdd,Nat.reduceSub,Int.reduceAdd,Int.reduceSub,Int.reduceToNat]
  refine al (qC) (hK) (qI 40 2) qM (by rfl) (ac 400 ?_)
  simp (disch:=omega) only [go_sem,Nat.reduceEqDiff,Nat.reduceAdd,Nat.reduceSub,Int.reduceAdd,Int.reduceSub,Int.reduceToNat]
  refine al (qC) (hh1) (qI 24 16++qI 46 2++qI 42 3) qM (by rfl) (ac 400 ?_)
  simp (disch:=omega) only [go_sem,Nat.reduceEqDiff,Nat.reduceAdd,Nat.reduceSub,Int.reduceAdd,Int.reduceSub,Int.reduceToNat]
  refine al (qC) (hh2) (qI 24 16++qI 46 3++qI 43 2) qM (by rfl) (ac 400 ?_)
  simp (disch:=omega) only [go_sem,Nat.reduceEqDiff,Nat.reduceAdd,Nat.reduceSub,Int.reduceAdd,Int.reduceSub,Int.reduceToNat]
  refine al (qC) (hh3) (qI 24 16++qI 46 2++qI 49 1++qI 43 2) qM (by rfl) (ac 400 ?_)
  simp (disch:=omega) only [go_sem,Nat.reduceEqDiff,Nat.reduceAdd,Nat.reduceSub,Int.reduceAdd,Int.reduceSub,Int.reduceToNat]
  refine⟨qC,hN _ (i+1,(⟨w.a,w.b,bag,p1,wA,wB,rA,rB,⟨k1,t1⟩,m3,nsA,q1⟩:WorldD)) (qI 0 40++qI 46 2++qI 50 1++qI 43 2) (by (try dsimp only);exact⟨by omega,rfl,rfl,hS1,hu⟩) (by (try dsimp only);omega) (ab (by rfl) (by rfl) ?_)⟩
  try simp (disch:=omega) only [go_sem,Nat.reduceEqDiff,Nat.reduceAdd,Nat.reduceSub,Int.reduceAdd,Int.reduceSub,Int.reduceToNat]
 obtain⟨g1,hg1⟩:∃ g,g=vO bag x:=⟨_,rfl⟩
 have e:c_ 2 (⟨w.a,w.b,bag,past,wA,wB,rA,rB,⟨keys,tags⟩,nums,nsA,nsB⟩:WorldD) x=(⟨w.a,w.b,g1,p1,wA,wB,rA,rB,⟨keys,tags⟩,nums,nsA,q1⟩:WorldD):=by
  rw [c_,if_neg b4,jm]
  dsimp only
  rw [hoth,←hp1,←hq1,←hg1]
 rw [e] at hu
 have hS1:=dE (side:=2) (x:=x) hS
 rw [e] at hS1
 try simp (disch:=omega) only [go_sem,Nat.reduceEqDiff,Nat.reduceAdd,Nat.reduceSub,Int.reduceAdd,Int.reduceSub,Int.reduceToNat]
 split<;>rename_i b5<;>(try simp only [beq_true,beq_false,Bool.not_eq_true',Bool.not_eq_false'] at b5)<;>simp (disch:=omega) only [go_sem,Nat.reduceEqDiff,Nat.reduceAdd,Nat.reduceSub,Int.reduceAdd,Int.reduceSub,Int.reduceToNat,b5]<;>(try simp only [decide_eq_true_eq,decide_eq_false_iff_not,beq_iff_eq,beq_eq_false_iff_ne,bne_iff_ne,bne_eq_false_iff_eq,ne_eq,Decidable.not_not,Bool.and_eq_true,Bool.and_eq_false_iff,Bool.or_eq_true,Bool.or_eq_false_iff,Int.ofNat_lt,Int.ofNat_le,Bool.not_eq_eq_eq_not,Bool.not_true,Bool.not_false] at b5)<;>try simp (disch:=omega) only [go_sem,Nat.reduceEqDiff,Nat.reduceAdd,Nat.reduceSub,Int.reduceAdd,Int.reduceSub,Int.reduceToNat]
 ·rw [vP (by omega)] at hg1
  subst hg1
  try simp (disch:=omega) only [go_sem,Nat.reduceEqDiff,Nat.reduceAdd,Nat.reduceSub,Int.reduceAdd,Int.reduceSub,Int.reduceToNat]
  refine⟨qC,hN _ (i+1,(⟨w.a,w.b,(bag++[x]),p1,wA,wB,rA,rB,⟨keys,tags⟩,nums,nsA,q1⟩:WorldD)) (qI 0 38++qI 47 1++qI 39 6) (by (try dsimp only);exact⟨by omega,rfl,rfl,hS1,hu⟩) (by (try dsimp only);omega) (ab (by rfl) (by rfl) ?_)⟩
  try simp (disch:=omega) only [go_sem,Nat.reduceEqDiff,Nat.reduceAdd,Nat.reduceSub,Int.reduceAdd,Int.reduceSub,Int.reduceToNat]
  try simp [LetterD.cs]
 rw [vQ (by omega)] at hg1
 subst hg1
 try simp (disch:=omega) only [go_sem,Nat.reduceEqDiff,Nat.reduceAdd,Nat.reduceSub,Int.reduceAdd,Int.reduceSub,Int.reduceToNat]
 refine⟨qC,hN _ (i+1,(⟨w.a,w.b,g1,p1,wA,wB,rA,rB,⟨keys,tags⟩,nums,nsA,q1⟩:WorldD)) (qI 0 45) (by (try dsimp only);exact⟨by omega,rfl,rfl,hS1,hu⟩) (by (try dsimp only);omega) (ab (by rfl) (by rfl) ?_)⟩
 try simp (disch:=omega) only [go_sem,Nat.reduceEqDiff,Nat.reduceAdd,Nat.reduceSub,Int.reduceAdd,Int.reduceSub,Int.reduceToNat]
end
end Go.Proofs.YtbgakfbnkkfbkaaGreat
