/- Lemmas of this claim. -/
import Derived.Test.YtdiiopjaebnmfaaGreatZFnBaseC
set_option maxHeartbeats 16000000
set_option maxRecDepth 100000
set_option linter.unusedVariables false
set_option linter.unusedSimpArgs false
namespace Go.Proofs.YtdiiopjaebnmfaaGreat
open _root_.Go.Proofs.Tryz
open _root_.Bool renaming and_eq_true->KZ,not_eq_true->K9
open _root_.List renaming all_eq_true->K0,mem_range'_1->K1,map_set->K3,mem_cons_of_mem->K4,mem_cons_self->K5,any_eq_false->K6,filterMap_eq_nil_iff->K7,mem_reverse->K8
open _root_.Int renaming eq_ofNat_of_zero_le->K2
section
open Go.RowKit
theorem md (e:EndD) (x:LetterD) (hs:Small e):aP 139 [.ag (e.cs 0),.ag x.cs] (e.hp false) (.tu [.ag ((ao e x).1.cs 7),.sc (.sl 14 0 (ao e x).2.length)])
  (e.hp false++((ao e x).1.hp true++[some ⟨(ao e x).2.map LetterD.cs,19,134,true,true⟩])):=by
 have hC:=(qH (ar e))
 have hK:=(qH (aH e))
 have hS:=dz e (roadOf x) (by have:=hs.subs;omega)
 have hH:=fR e.halfs (roadOf x) (by have:=hs.halfs;omega)
 have hD:=sK e.halfs (roadOf x) (by have:=hs.halfs;omega)
 have hL:=cD x
 have hbS:=gH e.subs (roadOf x)
 have hbH:=km e.halfs (roadOf x)
 have hf:=HW (e:=e) (x:=x)
 have hf2:=Ew (e:=e) (x:=x)
 have hb:=fun n=> @JA e x n
 have ha1:=fun i n=> @Hi e x i n
 have ha2:=fun i=> @Hj e x i
 generalize ao e x=R at*
 refine qE func139 ntmps139 results139 fun E hE=>?_
 refine qK (hC) (qI 0 7) ?_
 refine qK (bS x) [] ?_
 refine qK (hK) (qI 0 7) ?_
 refine qB (fun h1=>?_) fun h1=>?_
 ·refine qK (hL) [] ?_
  refine qB (fun h2=>?_) fun h2=>?_
  ·refine qB (fun h3=>?_) fun h3=>?_
   ·rw [hf (by simp [kB,h1,h2,h3])]
    refine qX ?_
    exact qF (qI 0 7++qI 10 7++qI 18 1)
   have hin:kB e x=true:=by simp [kB,h1,h2,h3]
   refine qX ?_
   refine qK (hH) (qI 3 1) ?_
   refine qK (hS) (qI 0 7) ?_
   rcases hbS with hk|⟨hk0,hk1⟩
   ·rcases hbH with hi|⟨hi0,hi1⟩
    ·rw [hi]
     rw [hk]
     refine qX ?_
     refine qD [0,1,2,3,4,5,6,7,8,9,10,11,12,13,14,15,16,17,18,19,20,21,22,23,24,25,26,27,28,29] ?_
     refine qG ?_
     rw [hf2 hin (Ex hi) (zl hk)]
     refine qD [0,1,2,3,4,5,6,7,8,9,10,11,12,13,14,15,16,17,18,19,20,21,22,23,24,25,26,27,28,29,30,31,32] ?_
     refine qG ?_
     exact qF (qI 0 7++qI 10 7++qI 18 1)
    obtain⟨i,hi⟩:=K2 hi0
    have hil:i < e.halfs.length:=zO
    have hcmp:=TagD.cmp x.tag ⟨2,e.peer,e.key,e.halfs[i].theirs,e.halfs[i].mine⟩
    simp only [TagD.cs,go_sem] at hcmp
    rw [hi]
    rw [hk]
    refine qX ?_
    refine qD [0,1,2,3,4,5,6,7,8,9,10,11,12,13,14,15,16,17,18,19,20,21,22,23,24,25,26,27,28,29] ?_
    refine qB (fun h4=>?_) fun h4=>?_
    ·refine cj (dT _ _ _ _) [] ?_
     refine⟨qC,af 400 ?_⟩
     try simp (disch:=omega) only [go_sem,seval,hcmp]
     refine qB (fun h5=>?_) fun h5=>?_
     ·have hjA:oe e x=true:=by rw [lf hi hil];simp [h4,h5];try omega
      rw [ha2 _ hin hjA hi hil hk]
      refine qX ?_
      refine qK (fS { e with subs:=e.subs } (dM (roadOf x) e.halfs[i]) (by have:=cH h1;simp;omega)) (qI 10 7) ?_
      refine qK (hD) (qI 13 1) ?_
      refine aX [(0,5),(3,0),(4,0)] [[1,2,3,4,0,5,6,7],[1,2,3,0,4,5,6,7],[1,2,0,3,4,5,6,7],[1,2,3,4,5,0,6,7]] (by kernel_rfl) (qC) (by kernel_rfl) ?_
      simp only [aR]
      refine⟨aa 400 ?_,aa 400 ?_,aa 400 ?_,aa 400 ?_⟩
      all_goals simp (disch:=omega) only [go_sem,seval]
      all_goals
       refine cj (fT (dM (roadOf x) e.halfs[i])) [] ?_
       refine qG ?_
       refine qP (qI 0 7++qI 10 2++qI 22 2++qI 14 3++qI 25 1) ?_
       first|exact⟨⟩|simp [K3,SubD.cs,dM]
     have hjA':oe e x=false:=by rw [lf hi hil];simp [h5]
     refine qX ?_
     rw [hf2 hin (hjA') (zl hk)]
     refine qD [0,1,2,3,4,5,6,7,8,9,10,11,12,13,14,15,16,17,18,19,20,21,22,23,24,25,26,27,28,29,30,31,32] ?_
     refine qG ?_
     exact qF (qI 0 7++qI 10 7++qI 18 1)
    have hjA':oe e x=false:=by rw [lf hi hil];simp;omega
    refine qG ?_
    rw [hf2 hin (hjA') (zl hk)]
    refine qD [0,1,2,3,4,5,6,7,8,9,10,11,12,13,14,15,16,17,18,19,20,21,22,23,24,25,26,27,28,29,30,31,32] ?_
    refine qG ?_
    exact qF (qI 0 7++qI 10 7++qI 18 1)
   obtain⟨n,hk⟩:=K2 hk0
   have hn:n < e.subs.length:=zO
   have hrd:=zk hk hn
   rcases hbH with hi|⟨hi0,hi1⟩
   ·rw [hi]
    rw [hk]
    refine qX ?_
    refine qD [0,1,2,3,4,5,6,7,8,9,10,11,12,13,14,15,16,17,18,19,20,21,22,23,24,25,26,27,28,29] ?_
    refine qG ?_
    have hcmp2:=TagD.cmp x.tag ⟨2,e.peer,e.key,e.subs[n].theirs,e.subs[n].mine⟩
    simp only [TagD.cs,go_sem] at hcmp2
    have hjA:=Ex hi
    refine qD [0,1,2,3,4,5,6,7,8,9,10,11,12,13,14,15,16,17,18,19,20,21,22,23,24,25,26,27,28,29,30,31,32] ?_
    refine qB (fun h6=>?_) fun h6=>?_
    ·refine cj (dT _ _ _ _) [] ?_
     refine⟨qC,af 400 ?_⟩
     try simp (disch:=omega) only [go_sem,seval,hcmp2]
     refine qB (fun h7=>?_) fun h7=>?_
     ·rw [hb _ hin hjA (by rw [iS hk hn];simp [h6,h7]) hk hn]
      refine qX ?_
      refine aX [(0,9),(7,0),(8,0)] [(qU [1,8,0,1,9,3]),(qU [1,7,0,1,8,4]),(qU [1,6,0,1,7,5]),(qU [1,9,0,1,10,2])] (by kernel_rfl) (qC) (by kernel_rfl) ?_
      simp only [aR]
      refine⟨aa 400 ?_,aa 400 ?_,aa 400 ?_,aa 400 ?_⟩
      all_goals simp (disch:=omega) only [go_sem,seval]
      all_goals
       refine cj (fT e.subs[n]) [] ?_
       refine qG ?_
       refine qP (qI 0 7++qI 10 7++qI 21 1) ?_
       first|exact⟨⟩|simp [hrd]
     rw [hf2 hin hjA (by rw [iS hk hn];simp [h6,h7])]
     refine qX ?_
     exact qF (qI 0 7++qI 10 7++qI 18 1)
    rw [hf2 hin hjA (by rw [iS hk hn];simp [h6])]
    refine qG ?_
    exact qF (qI 0 7++qI 10 7++qI 18 1)
   obtain⟨i,hi⟩:=K2 hi0
   have hil:i < e.halfs.length:=zO
   have hcmp:=TagD.cmp x.tag ⟨2,e.peer,e.key,e.halfs[i].theirs,e.halfs[i].mine⟩
   simp only [TagD.cs,go_sem] at hcmp
   rw [hi]
   rw [hk]
   refine qX ?_
   refine qD [0,1,2,3,4,5,6,7,8,9,10,11,12,13,14,15,16,17,18,19,20,21,22,23,24,25,26,27,28,29] ?_
   refine qB (fun h4=>?_) fun h4=>?_
   ·refine cj (dT _ _ _ _) [] ?_
    refine⟨qC,af 400 ?_⟩
    try simp (disch:=omega) only [go_sem,seval,hcmp]
    refine qB (fun h5=>?_) fun h5=>?_
    ·have hjA:oe e x=true:=by rw [lf hi hil];simp [h4,h5];try omega
     rw [ha1 _ _ hin hjA hi hil hk hn]
     refine qX ?_
     refine qK (fS { e with subs:=e.subs.set n { e.subs[n] with state:=4 } } (dM (roadOf x) e.halfs[i]) (by have:=cH h1;simp;omega)) (qI 10 7) ?_
     refine qK (hD) (qI 13 1) ?_
     refine aX [(0,5),(3,0),(4,0)] [[1,2,3,4,0,5,6,7],[1,2,3,0,4,5,6,7],[1,2,0,3,4,5,6,7],[1,2,3,4,5,0,6,7]] (by kernel_rfl) (qC) (by kernel_rfl) ?_
     simp only [aR]
     refine⟨aa 400 ?_,aa 400 ?_,aa 400 ?_,aa 400 ?_⟩
     all_goals simp (disch:=omega) only [go_sem,seval]
     all_goals
      refine cj (fT (dM (roadOf x) e.halfs[i])) [] ?_
      refine qG ?_
      refine qP (qI 0 7++qI 10 2++qI 22 2++qI 14 3++qI 25 1) ?_
      first|exact⟨⟩|simp [K3,SubD.cs,dM]
    have hjA':oe e x=false:=by rw [lf hi hil];simp [h5]
    refine qX ?_
    have hcmp2:=TagD.cmp x.tag ⟨2,e.peer,e.key,e.subs[n].theirs,e.subs[n].mine⟩
    simp only [TagD.cs,go_sem] at hcmp2
    have hjA:=hjA'
    refine qD [0,1,2,3,4,5,6,7,8,9,10,11,12,13,14,15,16,17,18,19,20,21,22,23,24,25,26,27,28,29,30,31,32] ?_
    refine qB (fun h6=>?_) fun h6=>?_
    ·refine cj (dT _ _ _ _) [] ?_
     refine⟨qC,af 400 ?_⟩
     try simp (disch:=omega) only [go_sem,seval,hcmp2]
     refine qB (fun h7=>?_) fun h7=>?_
     ·rw [hb _ hin hjA (by rw [iS hk hn];simp [h6,h7]) hk hn]
      refine qX ?_
      refine aX [(0,9),(7,0),(8,0)] [(qU [1,8,0,1,9,3]),(qU [1,7,0,1,8,4]),(qU [1,6,0,1,7,5]),(qU [1,9,0,1,10,2])] (by kernel_rfl) (qC) (by kernel_rfl) ?_
      simp only [aR]
      refine⟨aa 400 ?_,aa 400 ?_,aa 400 ?_,aa 400 ?_⟩
      all_goals simp (disch:=omega) only [go_sem,seval]
      all_goals
       refine cj (fT e.subs[n]) [] ?_
       refine qG ?_
       refine qP (qI 0 7++qI 10 7++qI 21 1) ?_
       first|exact⟨⟩|simp [hrd]
     rw [hf2 hin hjA (by rw [iS hk hn];simp [h6,h7])]
     refine qX ?_
     exact qF (qI 0 7++qI 10 7++qI 18 1)
    rw [hf2 hin hjA (by rw [iS hk hn];simp [h6])]
    refine qG ?_
    exact qF (qI 0 7++qI 10 7++qI 18 1)
   have hjA':oe e x=false:=by rw [lf hi hil];simp;omega
   refine qG ?_
   have hcmp2:=TagD.cmp x.tag ⟨2,e.peer,e.key,e.subs[n].theirs,e.subs[n].mine⟩
   simp only [TagD.cs,go_sem] at hcmp2
   have hjA:=hjA'
   refine qD [0,1,2,3,4,5,6,7,8,9,10,11,12,13,14,15,16,17,18,19,20,21,22,23,24,25,26,27,28,29,30,31,32] ?_
   refine qB (fun h6=>?_) fun h6=>?_
   ·refine cj (dT _ _ _ _) [] ?_
    refine⟨qC,af 400 ?_⟩
    try simp (disch:=omega) only [go_sem,seval,hcmp2]
    refine qB (fun h7=>?_) fun h7=>?_
    ·rw [hb _ hin hjA (by rw [iS hk hn];simp [h6,h7]) hk hn]
     refine qX ?_
     refine aX [(0,9),(7,0),(8,0)] [(qU [1,8,0,1,9,3]),(qU [1,7,0,1,8,4]),(qU [1,6,0,1,7,5]),(qU [1,9,0,1,10,2])] (by kernel_rfl) (qC) (by kernel_rfl) ?_
     simp only [aR]
     refine⟨aa 400 ?_,aa 400 ?_,aa 400 ?_,aa 400 ?_⟩
     all_goals simp (disch:=omega) only [go_sem,seval]
     all_goals
      refine cj (fT e.subs[n]) [] ?_
      refine qG ?_
      refine qP (qI 0 7++qI 10 7++qI 21 1) ?_
      first|exact⟨⟩|simp [hrd]
    rw [hf2 hin hjA (by rw [iS hk hn];simp [h6,h7])]
    refine qX ?_
    exact qF (qI 0 7++qI 10 7++qI 18 1)
   rw [hf2 hin hjA (by rw [iS hk hn];simp [h6])]
   refine qG ?_
   exact qF (qI 0 7++qI 10 7++qI 18 1)
  rw [hf (by simp [kB,h2])]
  refine qX ?_
  exact qF (qI 0 7++qI 10 7++qI 18 1)
 rw [hf (by simp [kB,h1])]
 refine qX ?_
 exact qF (qI 0 7++qI 10 7++qI 18 1)
theorem sM (e:EndD) (x:LetterD) (hs:Small e):aP 137 [.ag (e.cs 0),.ag x.cs] (e.hp false) (.tu [.ag ((bs e x).1.cs 7),.sc (.sl 14 0 (bs e x).2.length)])
  (e.hp false++((bs e x).1.hp true++[some ⟨(bs e x).2.map LetterD.cs,19,134,true,true⟩])):=by
 have hC:=(qH (ar e))
 have hK:=(qH (aH e))
 have hH:=fR e.halfs (roadOf x) (by have:=hs.halfs;omega)
 have hO:=fG e x.to (by have:=hs.own;omega)
 have hT:=vn e.bucket
 have hL:=cD x
 have hTk:=kL e.side
 have hbH:=km e.halfs (roadOf x)
 have hf:=JB (e:=e) (x:=x)
 have hns:=fun i=> @HX e x i
 have hnn:= @HY e x
 have hok:=ji.eq_1 e x
 generalize bs e x=R at*
 refine qE func137 ntmps137 results137 fun E hE=>?_
 refine qK (hC) (qI 0 7) ?_
 refine qK (bS x) [] ?_
 refine qK (hH) (qI 3 1) ?_
 rcases hbH with hi|⟨hi0,hi1⟩
 ·rw [hi]
  refine qX ?_
  refine qD [0,1,2,3,4,5,6,7,8,9,10,11,12,13,14,15,16,17,18,19,20,21,22,23,24,25,26,27,28,29,30,31,32,33,34,35,36,37,38,39,40,41,42,43,44,45,46,47,48,49,50,51,52,53] ?_
  refine cj (hK) (qI 0 7) ?_
  refine qB (fun h1=>?_) fun h1=>?_
  ·refine cj (hL) [] ?_
   refine qB (fun h2=>?_) fun h2=>?_
   ·refine qB (fun h3=>?_) fun h3=>?_
    ·refine cj (hTk) [] ?_
     refine qB (fun h4=>?_) fun h4=>?_
     ·refine cj (hO) (qI 0 7) ?_
      refine qB (fun h5=>?_) fun h5=>?_
      ·refine qB (fun h6=>?_) fun h6=>?_
       ·refine qB (fun h7=>?_) fun h7=>?_
        ·refine cj (ec e) (qI 0 7) ?_
         refine qB (fun h8=>?_) fun h8=>?_
         ·refine qG ?_
          refine qB (fun h9=>?_) fun h9=>?_
          ·rw [hf (by rw [hok];first|(simp [h1,h2,h3,h4,h5,h6,h8,h9,hi];done)|(simp [h1,h2,h3,h4,h5,h6,h8,h9,hi];intros;omega))]
           exact qF (qI 0 7++qI 10 7++qI 18 1)
          refine qX ?_
          refine qK (hT) [] ?_
          refine qB (fun h10=>?_) fun h10=>?_
          ·rw [hf (by rw [hok];first|(simp [h1,h2,h3,h4,h5,h6,h8,h9,h10,hi];done)|(simp [h1,h2,h3,h4,h5,h6,h8,h9,h10,hi];intros;omega))]
           exact qF (qI 0 7++qI 10 7++qI 18 1)
          have hnow:=nh h1
          have hok':ji e x=true:=by rw [hok];have:=cI (cE h1);have:=cH h1;simp [h1,h2,h3,h4,h5,h6,h8,h9,h10,hi];try omega
          refine qX ?_
          have hsm:dq e x=false:=Ck hi
          refine qD [0,1,2,3,4,5,6,7,8,9,10,11,12,13,14,15,16,17,18,19,20,21,22,23] ?_
          refine qG ?_
          rw [hnn hok' hsm]
          refine qX ?_
          have hP:=eU e.halfs (ai e x) (by have:=cI (cE h1);omega)
          obtain⟨Q,hQ⟩:∃ Q,Q=aF e.halfs (ai e x):=⟨_,rfl⟩
          rw [<-hQ] at hP⊢
          have hQl:Q.1.length<=1048576:=by rw [hQ];have:=cI (cE h1);have:=eR e.halfs (ai e x);unfold aF;split<;>dsimp only<;>omega
          have h8':=h8
          simp only [co,KZ,decide_eq_true_eq] at h8'
          have hd1:co e.draw 1 999999998=true:=by simp only [co,KZ,decide_eq_true_eq];omega
          have hd2:co (e.draw+2) 1 999999998=true:=by simp only [co,KZ,decide_eq_true_eq];omega
          refine qK (bO { e with bucket:=(bf e.bucket).1 } ⟨hs.own,hs.far,hs.subs,hs.halfs,hs.list,hs.done,hs.over⟩ hd1) (qI 10 7) ?_
          refine qK (bO { e with bucket:=(bf e.bucket).1,draw:=e.draw+2 } ⟨hs.own,hs.far,hs.subs,hs.halfs,hs.list,hs.done,hs.over⟩ hd2) (qI 22 7) ?_
          refine qK (hP) (qI 32 1) ?_
          refine aX [(0,19),(11,0),(17,0),(18,0)] [(qU [1,10,12,4,11,1,16,3,0,1,19,3]),(qU [1,10,12,4,11,1,16,2,0,1,18,4]),(qU [1,10,12,4,11,1,16,1,0,1,17,5]),(qU [1,10,12,4,0,1,11,1,16,6]),(qU [1,10,12,4,11,1,16,4,0,1,20,2])] (by kernel_rfl) (qC) (by kernel_rfl) ?_
          simp only [aR]
          refine⟨aa 400 ?_,aa 400 ?_,aa 400 ?_,aa 400 ?_,aa 400 ?_⟩
          all_goals simp (disch:=omega) only [go_sem,seval]
          all_goals
           refine cj (eT _ _ _ _) [] ?_
           refine cj (aI (roadOf x) { aj with kind:=5,tag:=⟨1,e.key,e.peer,(ai e x).mine,(ai e x).theirs⟩,nonce:=(ai e x).mine,give:=(ai e x).take }) [] ?_
           refine qG ?_
           refine bN (qI 0 7++qI 29 3++qI 36 1++qI 33 3++qI 38 1) (qC) _ (by simp only [go_sem];rfl) zF zF ?_
           simp (disch:=omega) only [go_sem,seval]
           try simp [K3,HalfD.cs,bP,ai,ae,LetterD.cs,aj]
           try omega
         rw [hf (by rw [hok];first|(simp [h1,h2,h3,h4,h5,h6,h8,hi];done)|(simp [h1,h2,h3,h4,h5,h6,h8,hi];intros;omega))]
         refine qG ?_
         exact qF (qI 0 7++qI 10 7++qI 18 1)
        rw [hf (by rw [hok];first|(simp [h1,h2,h3,h4,h5,h6,h7,hi];done)|(simp [h1,h2,h3,h4,h5,h6,h7,hi];intros;omega))]
        refine qG ?_
        exact qF (qI 0 7++qI 10 7++qI 18 1)
       rw [hf (by rw [hok];first|(simp [h1,h2,h3,h4,h5,h6,hi];done)|(simp [h1,h2,h3,h4,h5,h6,hi];intros;omega))]
       refine qG ?_
       exact qF (qI 0 7++qI 10 7++qI 18 1)
      rw [hf (by rw [hok];first|(simp [h1,h2,h3,h4,h5,hi];done)|(simp [h1,h2,h3,h4,h5,hi];intros;omega))]
      refine qG ?_
      exact qF (qI 0 7++qI 10 7++qI 18 1)
     rw [hf (by rw [hok];first|(simp [h1,h2,h3,h4,hi];done)|(simp [h1,h2,h3,h4,hi];intros;omega))]
     refine qG ?_
     exact qF (qI 0 7++qI 10 7++qI 18 1)
    rw [hf (by rw [hok];first|(simp [h1,h2,h3,hi];done)|(simp [h1,h2,h3,hi];intros;omega))]
    refine qG ?_
    exact qF (qI 0 7++qI 10 7++qI 18 1)
   rw [hf (by rw [hok];first|(simp [h1,h2,hi];done)|(simp [h1,h2,hi];intros;omega))]
   refine qG ?_
   exact qF (qI 0 7++qI 10 7++qI 18 1)
  rw [hf (by rw [hok];first|(simp [h1,hi];done)|(simp [h1,hi];intros;omega))]
  refine qG ?_
  exact qF (qI 0 7++qI 10 7++qI 18 1)
 obtain⟨i,hi⟩:=K2 hi0
 have hil:i < e.halfs.length:=zO
 rw [hi]
 refine qX ?_
 refine qD [0,1,2,3,4,5,6,7,8,9,10,11,12,13,14,15,16,17,18,19,20,21,22,23,24,25,26,27,28,29,30,31,32,33,34,35,36,37,38,39,40,41,42,43,44,45,46,47,48,49,50,51,52,53] ?_
 refine cj (hK) (qI 0 7) ?_
 refine qB (fun h1=>?_) fun h1=>?_
 ·refine cj (hL) [] ?_
  refine qB (fun h2=>?_) fun h2=>?_
  ·refine qB (fun h3=>?_) fun h3=>?_
   ·refine cj (hTk) [] ?_
    refine qB (fun h4=>?_) fun h4=>?_
    ·refine cj (hO) (qI 0 7) ?_
     refine qB (fun h5=>?_) fun h5=>?_
     ·refine qB (fun h6=>?_) fun h6=>?_
      ·refine cj (ec e) (qI 0 7) ?_
       refine qB (fun h8=>?_) fun h8=>?_
       ·refine qG ?_
        refine qB (fun h9=>?_) fun h9=>?_
        ·rw [hf (by rw [hok];first|(simp [h1,h2,h3,h4,h5,h6,h8,h9,hi];done)|(simp [h1,h2,h3,h4,h5,h6,h8,h9,hi];intros;omega))]
         exact qF (qI 0 7++qI 10 7++qI 18 1)
        refine qX ?_
        refine qK (hT) [] ?_
        refine qB (fun h10=>?_) fun h10=>?_
        ·rw [hf (by rw [hok];first|(simp [h1,h2,h3,h4,h5,h6,h8,h9,h10,hi];done)|(simp [h1,h2,h3,h4,h5,h6,h8,h9,h10,hi];intros;omega))]
         exact qF (qI 0 7++qI 10 7++qI 18 1)
        have hnow:=nh h1
        have hok':ji e x=true:=by rw [hok];have:=cI (cE h1);have:=cH h1;simp [h1,h2,h3,h4,h5,h6,h8,h9,h10,hi];try omega
        refine qX ?_
        refine qD [0,1,2,3,4,5,6,7,8,9,10,11,12,13,14,15,16,17,18,19,20,21,22,23] ?_
        refine qB (fun h11=>?_) fun h11=>?_
        ·refine qG ?_
         refine qB (fun h12=>?_) fun h12=>?_
         ·have hsm:dq e x=true:=by rw [ni hi hil];simp [h11,h12]
          rw [hns _ hok' hsm hi hil]
          have hrd:=xg hi hil
          have hP:=eU e.halfs { e.halfs[i] with till:=e.now+6 } (by have:=cI (cE h1);omega)
          rw [vo (cE h1) hil (by simp only [kj,KZ,decide_eq_true_eq];omega) (by rw [hrd];exact hi)] at hP
          refine qX ?_
          refine qK (hP) (qI 13 1) ?_
          refine aX [(0,19),(11,0),(17,0),(18,0)] [(qU [1,10,12,4,11,1,16,3,0,1,19,3]),(qU [1,10,12,4,11,1,16,2,0,1,18,4]),(qU [1,10,12,4,11,1,16,1,0,1,17,5]),(qU [1,10,12,4,0,1,11,1,16,6]),(qU [1,10,12,4,11,1,16,4,0,1,20,2])] (by kernel_rfl) (qC) (by kernel_rfl) ?_
          simp only [aR]
          refine⟨aa 400 ?_,aa 400 ?_,aa 400 ?_,aa 400 ?_,aa 400 ?_⟩
          all_goals simp (disch:=omega) only [go_sem,seval]
          all_goals
           refine cj (eT _ _ _ _) [] ?_
           refine cj (aI (roadOf x) { aj with kind:=5,tag:=⟨1,e.key,e.peer,(e.halfs[i]).mine,(e.halfs[i]).theirs⟩,nonce:=(e.halfs[i]).mine,give:=(e.halfs[i]).take }) [] ?_
           refine qG ?_
           refine bN (qI 0 7++qI 10 3++qI 22 1++qI 14 3++qI 24 1) (qC) _ (by simp only [go_sem];rfl) zF zF ?_
           simp (disch:=omega) only [go_sem,seval]
           try simp [K3,HalfD.cs,bP,ai,ae,LetterD.cs,aj]
           try omega
         have hsm:dq e x=false:=by rw [ni hi hil];simp [h11,h12]
         rw [hnn hok' hsm]
         refine qX ?_
         have hP:=eU e.halfs (ai e x) (by have:=cI (cE h1);omega)
         obtain⟨Q,hQ⟩:∃ Q,Q=aF e.halfs (ai e x):=⟨_,rfl⟩
         rw [<-hQ] at hP⊢
         have hQl:Q.1.length<=1048576:=by rw [hQ];have:=cI (cE h1);have:=eR e.halfs (ai e x);unfold aF;split<;>dsimp only<;>omega
         have h8':=h8
         simp only [co,KZ,decide_eq_true_eq] at h8'
         have hd1:co e.draw 1 999999998=true:=by simp only [co,KZ,decide_eq_true_eq];omega
         have hd2:co (e.draw+2) 1 999999998=true:=by simp only [co,KZ,decide_eq_true_eq];omega
         refine qK (bO { e with bucket:=(bf e.bucket).1 } ⟨hs.own,hs.far,hs.subs,hs.halfs,hs.list,hs.done,hs.over⟩ hd1) (qI 10 7) ?_
         refine qK (bO { e with bucket:=(bf e.bucket).1,draw:=e.draw+2 } ⟨hs.own,hs.far,hs.subs,hs.halfs,hs.list,hs.done,hs.over⟩ hd2) (qI 22 7) ?_
         refine qK (hP) (qI 32 1) ?_
         refine aX [(0,19),(11,0),(17,0),(18,0)] [(qU [1,10,12,4,11,1,16,3,0,1,19,3]),(qU [1,10,12,4,11,1,16,2,0,1,18,4]),(qU [1,10,12,4,11,1,16,1,0,1,17,5]),(qU [1,10,12,4,0,1,11,1,16,6]),(qU [1,10,12,4,11,1,16,4,0,1,20,2])] (by kernel_rfl) (qC) (by kernel_rfl) ?_
         simp only [aR]
         refine⟨aa 400 ?_,aa 400 ?_,aa 400 ?_,aa 400 ?_,aa 400 ?_⟩
         all_goals simp (disch:=omega) only [go_sem,seval]
         all_goals
          refine cj (eT _ _ _ _) [] ?_
          refine cj (aI (roadOf x) { aj with kind:=5,tag:=⟨1,e.key,e.peer,(ai e x).mine,(ai e x).theirs⟩,nonce:=(ai e x).mine,give:=(ai e x).take }) [] ?_
          refine qG ?_
          refine bN (qI 0 7++qI 29 3++qI 36 1++qI 33 3++qI 38 1) (qC) _ (by simp only [go_sem];rfl) zF zF ?_
          simp (disch:=omega) only [go_sem,seval]
          try simp [K3,HalfD.cs,bP,ai,ae,LetterD.cs,aj]
          try omega
        have hsm:dq e x=false:=by rw [ni hi hil];simp [h11]
        refine qG ?_
        rw [hnn hok' hsm]
        refine qX ?_
        have hP:=eU e.halfs (ai e x) (by have:=cI (cE h1);omega)
        obtain⟨Q,hQ⟩:∃ Q,Q=aF e.halfs (ai e x):=⟨_,rfl⟩
        rw [<-hQ] at hP⊢
        have hQl:Q.1.length<=1048576:=by rw [hQ];have:=cI (cE h1);have:=eR e.halfs (ai e x);unfold aF;split<;>dsimp only<;>omega
        have h8':=h8
        simp only [co,KZ,decide_eq_true_eq] at h8'
        have hd1:co e.draw 1 999999998=true:=by simp only [co,KZ,decide_eq_true_eq];omega
        have hd2:co (e.draw+2) 1 999999998=true:=by simp only [co,KZ,decide_eq_true_eq];omega
        refine qK (bO { e with bucket:=(bf e.bucket).1 } ⟨hs.own,hs.far,hs.subs,hs.halfs,hs.list,hs.done,hs.over⟩ hd1) (qI 10 7) ?_
        refine qK (bO { e with bucket:=(bf e.bucket).1,draw:=e.draw+2 } ⟨hs.own,hs.far,hs.subs,hs.halfs,hs.list,hs.done,hs.over⟩ hd2) (qI 22 7) ?_
        refine qK (hP) (qI 32 1) ?_
        refine aX [(0,19),(11,0),(17,0),(18,0)] [(qU [1,10,12,4,11,1,16,3,0,1,19,3]),(qU [1,10,12,4,11,1,16,2,0,1,18,4]),(qU [1,10,12,4,11,1,16,1,0,1,17,5]),(qU [1,10,12,4,0,1,11,1,16,6]),(qU [1,10,12,4,11,1,16,4,0,1,20,2])] (by kernel_rfl) (qC) (by kernel_rfl) ?_
        simp only [aR]
        refine⟨aa 400 ?_,aa 400 ?_,aa 400 ?_,aa 400 ?_,aa 400 ?_⟩
        all_goals simp (disch:=omega) only [go_sem,seval]
        all_goals
         refine cj (eT _ _ _ _) [] ?_
         refine cj (aI (roadOf x) { aj with kind:=5,tag:=⟨1,e.key,e.peer,(ai e x).mine,(ai e x).theirs⟩,nonce:=(ai e x).mine,give:=(ai e x).take }) [] ?_
         refine qG ?_
         refine bN (qI 0 7++qI 29 3++qI 36 1++qI 33 3++qI 38 1) (qC) _ (by simp only [go_sem];rfl) zF zF ?_
         simp (disch:=omega) only [go_sem,seval]
         try simp [K3,HalfD.cs,bP,ai,ae,LetterD.cs,aj]
         try omega
       rw [hf (by rw [hok];first|(simp [h1,h2,h3,h4,h5,h6,h8,hi];done)|(simp [h1,h2,h3,h4,h5,h6,h8,hi];intros;omega))]
       refine qG ?_
       exact qF (qI 0 7++qI 10 7++qI 18 1)
      rw [hf (by rw [hok];first|(simp [h1,h2,h3,h4,h5,h6,hi];done)|(simp [h1,h2,h3,h4,h5,h6,hi];intros;omega))]
      refine qG ?_
      exact qF (qI 0 7++qI 10 7++qI 18 1)
     rw [hf (by rw [hok];first|(simp [h1,h2,h3,h4,h5,hi];done)|(simp [h1,h2,h3,h4,h5,hi];intros;omega))]
     refine qG ?_
     exact qF (qI 0 7++qI 10 7++qI 18 1)
    rw [hf (by rw [hok];first|(simp [h1,h2,h3,h4,hi];done)|(simp [h1,h2,h3,h4,hi];intros;omega))]
    refine qG ?_
    exact qF (qI 0 7++qI 10 7++qI 18 1)
   rw [hf (by rw [hok];first|(simp [h1,h2,h3,hi];done)|(simp [h1,h2,h3,hi];intros;omega))]
   refine qG ?_
   exact qF (qI 0 7++qI 10 7++qI 18 1)
  rw [hf (by rw [hok];first|(simp [h1,h2,hi];done)|(simp [h1,h2,hi];intros;omega))]
  refine qG ?_
  exact qF (qI 0 7++qI 10 7++qI 18 1)
 rw [hf (by rw [hok];first|(simp [h1,hi];done)|(simp [h1,hi];intros;omega))]
 refine qG ?_
 exact qF (qI 0 7++qI 10 7++qI 18 1)
end
section
open Go
def j7 (R:Nat) (g:Nat):Nat:=(R >>> (10*g)) % 1024
def Ip (P:Program) (R lo hi:Nat) (g:Nat):Bool:=
 match P.funcs[g]? with
 |none=>true
 |some fn=>((P.leadsTo fn).all fun h=>Nat.blt (j7 R h) (j7 R g) && (Nat.ble lo h && Nat.blt h hi)) && (!(fn.ours || fn.body.isNone || fn.name == "runtime.NumGoroutine") && (match fn.body with|some c=> !c.unfollowed && c.globalsNamed.isEmpty|none=>false))
def AL (P:Program) (R lo hi:Nat) (g:Nat):Bool:=Nat.ble 1000 (j7 R g) || Ip P R lo hi g
theorem mL {P:Program} {R lo hi g:Nat} (h:AL P R lo hi g=true) (hr:j7 R g < 1000):Ip P R lo hi g=true:=by
 unfold AL at h
 rw [Bool.or_eq_true,Nat.ble_eq] at h
 exact h.resolve_left (by omega)
theorem gQ {P:Program} {S:FuncId->Prop} (hS:∀ g,S g->∀ h∈(P.funcs[g]?).elim [] P.leadsTo,S h):∀ (n:Nat) (todo seen:List FuncId),(∀ x∈todo,S x)->(∀ x∈seen,S x)->∀ x∈P.closureVia n todo seen,S x
 |0,todo,seen,_,hs,x,hx=>by
  unfold Program.closureVia at hx
  exact hs x (K8.1 hx)
 |n+1,[],seen,_,hs,x,hx=>by
  unfold Program.closureVia at hx
  exact hs x (K8.1 hx)
 |n+1,f::todo,seen,ht,hs,x,hx=>by
  unfold Program.closureVia at hx
  split at hx
  ·exact gQ hS n todo seen (fun y hy=>ht y (K4 _ hy)) hs x hx
  refine gQ hS n _ (f::seen) (fun y hy=>?_) (fun y hy=>?_) x hx
  ·rcases List.mem_append.1 hy with hy|hy
   ·exact hS f (ht f (K5 ..)) y hy
   exact ht y (K4 _ hy)
  rcases List.mem_cons.1 hy with rfl|hy
  ·exact ht y (K5 ..)
  exact hs y hy
theorem oM {P:Program} {S:FuncId->Prop} (hS:∀ g,S g->∀ h∈(P.funcs[g]?).elim [] P.leadsTo,S h) {f:FuncId} (hf:S f):∀ x∈P.closure f,S x:=
 gQ hS _ [f] [] (fun x hx=>by rw [List.mem_singleton.1 hx];exact hf) (fun x hx=>by cases hx)
theorem yx {P:Program} {R lo hi:Nat} (h:∀ g,lo<=g/\g < hi->AL P R lo hi g=true) {g k:FuncId} (hb:lo<=g/\g < hi) (hr:j7 R g < 1000) (hk:k∈(P.funcs[g]?).elim [] P.leadsTo):j7 R k < j7 R g/\lo<=k/\k < hi:=by
 have hg:=mL (h g hb) hr
 unfold Ip at hg
 cases hf:P.funcs[g]? with
 |none=>rw [hf] at hk;simp at hk
 |some fn=>
  rw [hf] at hg hk
  simp only [KZ,K0,Nat.blt_eq,Nat.ble_eq] at hg
  exact hg.1 k hk
theorem yy {P:Program} {R lo hi:Nat} (h:∀ g,lo<=g/\g < hi->AL P R lo hi g=true) (f:FuncId) (hf0:(lo<=f/\f < hi)/\j7 R f < 1000):P.inPlace f=[]/\P.unfollowed f=false/\P.recurses f=false/\P.varsNamed f=[]:=by
 have hin:∀ k,(lo<=k/\k < hi)/\j7 R k < 1000->∀ x∈P.closure k,(lo<=x/\x < hi)/\j7 R x < 1000:=fun k hk=>oM (S:=fun x=>(lo<=x/\x < hi)/\j7 R x < 1000) (fun a ha b hb=>⟨(yx h ha.1 ha.2 hb).2,Nat.lt_trans (yx h ha.1 ha.2 hb).1 ha.2⟩) hk
 have hu:P.unfollowed f=false:=by
  unfold Program.unfollowed
  rw [K6]
  intro g hgc
  have hg:=mL (h g (hin f hf0 g hgc).1) (hin f hf0 g hgc).2
  unfold Ip at hg
  cases hf:P.funcs[g]? with
  |none=>simp
  |some fn=>
   rw [hf] at hg
   simp only [KZ] at hg
   simp only [Option.any_some]
   cases hb:fn.body with
   |none=>rw [hb] at hg;simp at hg
   |some c=>rw [hb] at hg;simp at hg⊢;exact hg.2.2.1
 refine⟨?_,hu,?_,?_⟩
 ·unfold Program.inPlace
  rw [K7]
  intro g hgc
  have hg:=mL (h g (hin f hf0 g hgc).1) (hin f hf0 g hgc).2
  unfold Ip at hg
  cases hf:P.funcs[g]? with
  |none=>rfl
  |some fn=>
   rw [hf] at hg
   simp only [KZ,Bool.not_eq_true'] at hg
   simp only [Option.bind_some]
   rw [hg.2.1]
   rfl
 ·unfold Program.recurses
  rw [hu,Bool.false_or,K6]
  intro g hgc
  rw [K9,K6]
  intro k hk
  rw [K9]
  obtain⟨h1,hkb⟩:=yx h (hin f hf0 g hgc).1 (hin f hf0 g hgc).2 hk
  have hkr:j7 R k < 1000:=Nat.lt_trans h1 (hin f hf0 g hgc).2
  have h2:∀ x∈P.closure k,j7 R x<=j7 R k/\lo<=x/\x < hi:=oM (S:=fun x=>j7 R x<=j7 R k/\lo<=x/\x < hi) (fun a ha b hb=>⟨Nat.le_trans (Nat.le_of_lt (yx h ha.2 (by omega) hb).1) ha.1,(yx h ha.2 (by omega) hb).2⟩) ⟨Nat.le_refl _,hkb⟩
  cases hc:(P.closure k).contains g with
  |false=>rfl
  |true=>
   have:=(h2 g (List.contains_iff_mem.1 hc)).1
   omega
 unfold Program.varsNamed
 have e1:((P.closure f).flatMap fun g=>((P.funcs[g]?).bind (·.body)).elim [] Code.globalsNamed)=[]:=by
  rw [List.flatMap_eq_nil_iff]
  intro g hgc
  have hg:=mL (h g (hin f hf0 g hgc).1) (hin f hf0 g hgc).2
  unfold Ip at hg
  cases hf:P.funcs[g]? with
  |none=>rfl
  |some fn=>
   rw [hf] at hg
   simp only [KZ] at hg
   simp only [Option.bind_some]
   cases hb:fn.body with
   |none=>rfl
   |some c=>rw [hb] at hg;simp at hg⊢;exact hg.2.2.2
 have e2:((P.closure f).filterMap fun g=>(P.funcs[g]?).bind fun fn=>if fn.body.isNone then entryReads.lookup fn.name else none)=[]:=by
  rw [K7]
  intro g hgc
  have hg:=mL (h g (hin f hf0 g hgc).1) (hin f hf0 g hgc).2
  unfold Ip at hg
  cases hf:P.funcs[g]? with
  |none=>rfl
  |some fn=>
   rw [hf] at hg
   simp only [KZ] at hg
   simp only [Option.bind_some]
   cases hb:fn.body with
   |none=>rw [hb] at hg;simp at hg
   |some c=>rfl
 rw [e1,e2]
 rfl
def s8 (l:List Nat):List Char:=l.map Char.ofNat
theorem we (a b:List Nat):s8 (a++b)=s8 a++s8 b:=by simp [s8]
theorem sD (a:Nat) (b:List Nat):s8 (a::b)=Char.ofNat a::s8 b:=rfl
theorem oS {c:Char} (h:c≠Char.ofNat 32) (r:List Char):wordsSigns (c::r)=match wordsSigns r with
  |w::ws=>(c::w)::ws
  |[]=>[[c]]:=by
 conv=>lhs;unfold wordsSigns
 split
 ·rename_i e
  simp at e
 ·rename_i r' e
  obtain⟨e1,_⟩:=List.cons.inj e
  exact absurd e1 h
 rename_i c' r' _ e
 obtain⟨e1,e2⟩:=List.cons.inj e
 subst e1;subst e2
 rfl
theorem ey:∀ {w:List Char} (r:List Char),(∀ c∈w,c≠Char.ofNat 32)->wordsSigns (w++Char.ofNat 32::r)=w::wordsSigns r
 |[],r,_=>by
  show wordsSigns (Char.ofNat 32::r)=[]::wordsSigns r
  conv=>lhs;unfold wordsSigns
  rfl
 |c::w,r,h=>by
  rw [List.cons_append,oS (h c (K5 ..)),ey r (fun x hx=>h x (K4 _ hx))]
def px (l:List Nat):Bool:=(s8 l).all fun c=>c != Char.ofNat 32
theorem j8 {l:List Nat} (h:px l=true):∀ c∈s8 l,c≠Char.ofNat 32:=by
 intro c hc
 have:=K0.1 h c hc
 simpa using this
theorem AM {P:Program} {a b c r:List Nat} (h:P.initOrder=String.ofList (s8 (a++32::(b++32::(c++32::r))))) (ha:px a=true) (hb:px b=true) (hc:px c=true)
  (hm:((s8 a == "harness".toList || s8 a == "ownmain".toList) && isSumSigns (s8 b))=true):∃ rest,behindMainWord (wordsSigns P.initOrder.toList)=s8 c::rest:=by
 refine⟨wordsSigns (s8 r),?_⟩
 rw [h,String.toList_ofList,we,sD,we,sD,we,sD,ey _ (j8 ha),ey _ (j8 hb),ey _ (j8 hc)]
 exact if_pos hm
def yz:List Nat:=[99,117,116]
theorem FD {P:Program} {rest:List (List Char)} (h:behindMainWord (wordsSigns P.initOrder.toList)=s8 yz::rest):P.make=some .cut:=by
 unfold Program.make
 rw [h]
 rfl
theorem Dp {P:Program} {rest:List (List Char)} (h:behindMainWord (wordsSigns P.initOrder.toList)=s8 yz::rest):P.liftsFinal=false:=by
 unfold Program.liftsFinal Program.headLifts
 rw [h]
 rfl
theorem G0 {P:Program} {rest:List (List Char)} (h:behindMainWord (wordsSigns P.initOrder.toList)=s8 yz::rest) (l1:P.laysLater=false) (l2:P.bearsReflect=false) (l3:P.doorRows=[]):P.mayEnter=true:=by
 have l4:P.doorFits []=true:=by
  unfold Program.doorFits
  rw [l3]
  rfl
 unfold Program.mayEnter
 rw [h]
 show ((_ || _) || _)=true
 have e:stripLifts liftWords (s8 yz::rest)=([],s8 yz::rest):=rfl
 rw [e,l1,l2,l4]
 simp only [List.contains_nil,Bool.and_true,Bool.not_false,Bool.or_true,List.head?_cons]
 rw [show (some (s8 yz) == some "cut".toList)=true from by kernel_rfl]
 simp
def uC (P:Program) (f:FuncId) (fn:Func) (s:ChangeSpec) (c:OpenClaim):Bool:=
 c.wf (OpenSpec.ofChange s) && laidOutB P && mapsRowed P &&
 fn.params.all (P.readableRec ·) && namedTie P c.named s.vars &&
 (c.stops == []) && (P.stops == []) && (c.knobs == []) && (P.stopKnobs == []) &&
 (c.maps == (fn.params.toList++s.plain.varTypes P).any (P.mapsRec ·)) && (c.ifaces == (fn.params.toList++s.plain.varTypes P).any (P.ifacesRec ·)) && (c.mapsOut == P.mapsAmong fn.resultTypes.toList) &&
 (c.loops == (fn.params.toList++s.plain.varTypes P).any (P.loopsFrom ·)) && (c.wideKeys == (fn.params.toList++s.plain.varTypes P++fn.resultTypes.toList).any (P.wideKeysFrom ·)) &&
 s.vars.all (P.varReadable ·) && fn.resultTypes.all (fun t=>P.readableRec t && decide (t < P.types.size)) && (c.ifacesOut == fn.resultTypes.toList.any (P.ifacesRec ·)) && (c.loopsOut == fn.resultTypes.toList.any (P.loopsFrom ·)) && (c.plainKeys == P.plainKeys) && c.shortTexts.isNone && P.stopsHeard && (c.kinds == (if c.domain.isEmpty then [] else fn.params.toList.map fun t=>match P.underlying t with|some (.int k)=>some k|_=>none)) && (c.pinned == c.pinnedBy) &&
 (c.veiled == (fn.params.toList++s.plain.varTypes P++fn.resultTypes.toList).any (P.veiledRec ·)) && c.veiledFits P fn.params.toList (fn.params.toList++s.plain.varTypes P++fn.resultTypes.toList)
theorem IB {P:Program} {f:FuncId} {fn:Func} {s:ChangeSpec} {c:OpenClaim} (g:P.inPlace f=[]/\P.unfollowed f=false/\P.recurses f=false/\P.varsNamed f=[]) (c1:c.inPlace=[]) (c2:c.unfollowed=false) (c3:c.recurses=false) (c4:c.named=[])
  (m1:P.mayEnter=true) (m2:P.liftsFinal=false) (m3:P.make=some .cut) (d2:c.lifted=false) (d3:c.make=.cut) (h:uC P f fn s c=true):joinedFacts P f fn s c=true:=by
 obtain⟨g1,g2,g3,g4⟩:=g
 unfold uC at h
 unfold joinedFacts
 simp only [KZ] at h⊢
 obtain⟨⟨⟨⟨⟨⟨⟨⟨⟨⟨⟨⟨⟨⟨⟨⟨⟨⟨⟨⟨⟨⟨⟨⟨k1,k2⟩,k3⟩,k4⟩,k5⟩,k6⟩,k7⟩,k8⟩,k9⟩,k14⟩,k15⟩,k16⟩,k17⟩,k17b⟩,k18⟩,k19⟩,k20⟩,k21⟩,k22⟩,k23⟩,k23b⟩,k25⟩,k26⟩,k27⟩,k28⟩:=h
 refine⟨⟨⟨⟨⟨⟨⟨⟨⟨⟨⟨⟨⟨⟨⟨⟨⟨⟨⟨⟨⟨⟨⟨⟨⟨⟨⟨⟨⟨⟨⟨k1,k2⟩,k3⟩,k4⟩,k5⟩,k6⟩,k7⟩,k8⟩,k9⟩,?_⟩,?_⟩,?_⟩,?_⟩,k14⟩,k15⟩,k16⟩,k17⟩,k17b⟩,k18⟩,k19⟩,k20⟩,k21⟩,k22⟩,k23⟩,k23b⟩,m1⟩,?_⟩,?_⟩,k25⟩,k26⟩,k27⟩,k28⟩
 ·rw [c1,g1];rfl
 ·rw [c2,g2];rfl
 ·rw [c3,g3];rfl
 ·rw [c4,g4];rfl
 ·rw [d2,m2];rfl
 rw [d3,m3];exact beq_self_eq_true _
end
section
open Go
def Dq:Nat:=57771934253765334112645525527512780235416356342505132688938914595365974535287612902206837693984863718891599841498226680821128143391949249215595812205613861102662913792190848496541134883012127277392830410794888459824449574931038156534684140192164157856628572853034364259981909229845668635713221846580222287511818084149090148710176371143744318146935449471758619358777761906780023314715768023760832143446780955093037452885103499457284777648307669827163260267282351341730177341810399594104036183579008774047540352909312
theorem JW:(List.range' 3 16).all (AL Tryz.prog Dq 3 156)=true:=by kernel_rfl
theorem JX:(List.range' 19 16).all (AL Tryz.prog Dq 3 156)=true:=by kernel_rfl
theorem JY:(List.range' 35 16).all (AL Tryz.prog Dq 3 156)=true:=by kernel_rfl
theorem JZ:(List.range' 51 16).all (AL Tryz.prog Dq 3 156)=true:=by kernel_rfl
theorem J0:(List.range' 67 16).all (AL Tryz.prog Dq 3 156)=true:=by kernel_rfl
theorem J1:(List.range' 83 16).all (AL Tryz.prog Dq 3 156)=true:=by kernel_rfl
theorem J2:(List.range' 99 16).all (AL Tryz.prog Dq 3 156)=true:=by kernel_rfl
theorem J3:(List.range' 115 16).all (AL Tryz.prog Dq 3 156)=true:=by kernel_rfl
theorem J4:(List.range' 131 16).all (AL Tryz.prog Dq 3 156)=true:=by kernel_rfl
theorem J5:(List.range' 147 9).all (AL Tryz.prog Dq 3 156)=true:=by kernel_rfl
theorem G1 (g:Nat) (h:3<=g/\g < 156):AL Tryz.prog Dq 3 156 g=true:=by
 rcases (by omega:(3<=g/\g < 19)\/(19<=g/\g < 35)\/(35<=g/\g < 51)\/(51<=g/\g < 67)\/(67<=g/\g < 83)\/(83<=g/\g < 99)\/(99<=g/\g < 115)\/(115<=g/\g < 131)\/(131<=g/\g < 147)\/(147<=g/\g < 156)) with h|h|h|h|h|h|h|h|h|h
 ·exact K0.1 JW g (K1.2 h)
 ·exact K0.1 JX g (K1.2 h)
 ·exact K0.1 JY g (K1.2 h)
 ·exact K0.1 JZ g (K1.2 h)
 ·exact K0.1 J0 g (K1.2 h)
 ·exact K0.1 J1 g (K1.2 h)
 ·exact K0.1 J2 g (K1.2 h)
 ·exact K0.1 J3 g (K1.2 h)
 ·exact K0.1 J4 g (K1.2 h)
 exact K0.1 J5 g (K1.2 h)
theorem nO:∃ rest,behindMainWord (wordsSigns Tryz.prog.initOrder.toList)=s8 yz::rest:=
 AM (a:=[104,97,114,110,101,115,115]) (b:=[99,56,98,98,52,56,56,49,54,53,97,99,52,51,53,100,53,99,100,54,53,99,56,52,53,55,101,53,98,53,100,99,101,98,52,48,54,51,97,49,52,100,99,55,56,50,53,55,102,100,102,55,57,56,57,50,56,52,53,48,56,51,97,50]) (c:=yz) (r:=[97,116,32,108,111,111,112,46,101,120,97,109,112,108,101,47,103,48,48,57,54,55,47,108,97,119,115,46,70,110,82,101,112,111,114,116,115,32,108,111,111,112,46,101,120,97,109,112,108,101,47,103,48,48,57,54,55,47,108,97,119,115,46,70,110,84,117,114,110,115]) (by kernel_rfl) (by kernel_rfl) (by kernel_rfl) (by kernel_rfl) (by kernel_rfl)
theorem Iq:Tryz.prog.laysLater=false:=by kernel_rfl
theorem Ir:Tryz.prog.bearsReflect=false:=by kernel_rfl
theorem It:Tryz.prog.doorRows=[]:=by kernel_rfl
theorem Ke:Tryz.prog.mayEnter=true:=nO.elim fun _ h=>G0 h Iq Ir It
theorem IC:Tryz.prog.liftsFinal=false:=nO.elim fun _ h=>Dp h
theorem J6:Tryz.prog.make=some .cut:=nO.elim fun _ h=>FD h
theorem ID (f:Nat) (h:((Nat.ble 3 f && Nat.blt f 156) && Nat.blt (j7 Dq f) 1000)=true):Tryz.prog.inPlace f=[]/\Tryz.prog.unfollowed f=false/\Tryz.prog.recurses f=false/\Tryz.prog.varsNamed f=[]:=
 yy G1 f (by simpa only [KZ,Nat.ble_eq,Nat.blt_eq] using h)
end
end Go.Proofs.YtdiiopjaebnmfaaGreat
