/- Lemmas of this claim. -/
import Derived.Test.YtdiiopjaebnmfaaGreatDoorZFnScriptsC
set_option maxHeartbeats 16000000
set_option maxRecDepth 100000
set_option linter.unusedVariables false
set_option linter.unusedSimpArgs false
namespace Go.Proofs.YtdiiopjaebnmfaaGreatDoor
open _root_.Go.Proofs.Tryz
open _root_.List renaming map_set->Ru
section
open Go.RowKit
theorem qa (e:EndD) (x:LetterD) (hs:Small e):aP 195 [.ag (e.cs 0),.ag x.cs] (e.hp false) (.tu [.ag ((aW e x).1.cs 7),.sc (.sl 14 0 (aW e x).2.length)])
  (e.hp false++((aW e x).1.hp true++[some ⟨(aW e x).2.map LetterD.cs,19,36,true,true⟩])):=by
 have hC:=(qH (aB e))
 have hK:=(qH (bb e))
 have hS:=eX e (roadOf x) (by have:=hs.subs;omega)
 have hL:=bw x
 have hbd:=jH e.subs (roadOf x)
 have hf:=Oj (e:=e) (x:=x)
 have ht:=fun (n:Nat)=> @PX e x n
 generalize aW e x=R at*
 refine qE func195 ntmps195 results195 fun E hE=>?_
 refine qK (hC) (qI 0 7) ?_
 refine qD [0,1,2,3,4] ?_
 refine b_ (dN x) [] ?_
 refine b_ (hS) (qI 0 7) ?_
 refine qG ?_
 rcases hbd with hk|⟨hb0,hb1⟩
 ·rw [hf (PZ hk),hk]
  refine qD [0,1,2,3,4,5,6,7,8,9,10,11,12,13,14,15,16,17,18,19,20,21,22,23,24,25,26,27,28,29,30,31,32,33,34,35,36,37,38,39,40,41,42,43] ?_
  refine b_ (hK) (qI 0 7) ?_
  refine qB (fun h1=>?_) fun h1=>?_
  ·refine b_ (hL) [] ?_
   refine qB (fun h2=>?_) fun h2=>?_
   ·refine qB (fun h3=>?_) fun h3=>?_
    ·refine qG ?_
     exact qF (qI 0 7++qI 10 7++qO 1)
    refine qG ?_
    exact qF (qI 0 7++qI 10 7++qO 1)
   refine qG ?_
   exact qF (qI 0 7++qI 10 7++qO 1)
  refine qG ?_
  exact qF (qI 0 7++qI 10 7++qO 1)
 obtain⟨n,hk⟩:=Int.eq_ofNat_of_zero_le hb0
 have hn:n < e.subs.length:=zO
 have ha:=PY hk hn
 have hcmp:=TagD.cmp x.tag ⟨1,e.peer,e.key,x.nonce,e.subs[n].mine⟩
 simp only [TagD.cs,go_sem] at hcmp
 rw [hk]
 refine qD [0,1,2,3,4,5,6,7,8,9,10,11,12,13,14,15,16,17,18,19,20,21,22,23,24,25,26,27,28,29,30,31,32,33,34,35,36,37,38,39,40,41,42,43] ?_
 refine b_ (hK) (qI 0 7) ?_
 refine qB (fun h1=>?_) fun h1=>?_
 ·refine b_ (hL) [] ?_
  refine qB (fun h2=>?_) fun h2=>?_
  ·refine qB (fun h3=>?_) fun h3=>?_
   ·refine qB (fun h4=>?_) fun h4=>?_
    ·refine b_ (gR _ _ _ _) [] ?_
     refine⟨qC,aa 400 ?_⟩
     try simp (disch:=omega) only [go_sem,seval,hcmp]
     refine qB (fun h5=>?_) fun h5=>?_
     ·rw [hf (by rw [ha];simp [h1,h2,h3,h4,h5])]
      refine qX ?_
      exact qF (qI 0 7++qI 10 7++qO 1)
     rw [ht _ (by rw [ha];simp [h1,h2,h3,h4,h5]) hk hn]
     refine qX ?_
     refine aQ [(6,7)] [(qU [0,9]),[0,1,2,3,4,5,7,6,8]] (by kernel_rfl) (qC) (by kernel_rfl) ?_
     simp only [a_]
     refine⟨ab 400 ?_,ab 400 ?_⟩
     all_goals simp (disch:=omega) only [go_sem,seval]
     all_goals
      refine b_ (lR e (eD e.subs[n] x)) (qI 0 7) ?_
      refine qG ?_
      refine qP (qI 0 7++qI 10 7++qI 18 1) ?_
      first|exact⟨⟩|simp [Ru,SubD.cs,eD,ci,aq,LetterD.cs]
    rw [hf (by rw [ha];simp [h1,h2,h3,h4])]
    refine qG ?_
    exact qF (qI 0 7++qI 10 7++qO 1)
   rw [hf (by rw [ha];simp [h1,h2,h3])]
   refine qG ?_
   exact qF (qI 0 7++qI 10 7++qO 1)
  rw [hf (by rw [ha];simp [h1,h2])]
  refine qG ?_
  exact qF (qI 0 7++qI 10 7++qO 1)
 rw [hf (by rw [ha];simp [h1])]
 refine qG ?_
 exact qF (qI 0 7++qI 10 7++qO 1)
theorem xL (e:EndD) (x:LetterD) (hs:Small e):aP 194 [.ag (e.cs 0),.ag x.cs] (e.hp false) (.tu [.ag ((cj e x).1.cs 7),.sc (.sl 14 0 (cj e x).2.length)])
  (e.hp false++((cj e x).1.hp true++[some ⟨(cj e x).2.map LetterD.cs,19,36,true,true⟩])):=by
 have hC:=(qH (aB e))
 have hK:=(qH (bb e))
 have hH:=iP e.halfs (roadOf x) (by have:=hs.halfs;omega)
 have hO:=iH e x.to (by have:=hs.own;omega)
 have hT:=Ag e.bucket
 have hL:=bw x
 have hTk:=n_ e.side
 have hbH:=nj e.halfs (roadOf x)
 have hf:=P1 (e:=e) (x:=x)
 have hns:=fun i=> @P2 e x i
 have hnn:= @P3 e x
 have hok:=mu.eq_1 e x
 generalize cj e x=R at*
 refine qE func194 ntmps194 results194 fun E hE=>?_
 refine qK (hC) (qI 0 7) ?_
 refine qK (dN x) [] ?_
 refine qK (hH) (qI 3 1) ?_
 rcases hbH with hi|⟨hi0,hi1⟩
 ·rw [hi]
  refine qX ?_
  refine qD [0,1,2,3,4,5,6,7,8,9,10,11,12,13,14,15,16,17,18,19,20,21,22,23,24,25,26,27,28,29,30,31,32,33,34,35,36,37,38,39,40,41,42,43,44,45,46,47,48,49,50,51,52,53] ?_
  refine b_ (hK) (qI 0 7) ?_
  refine qB (fun h1=>?_) fun h1=>?_
  ·refine b_ (hL) [] ?_
   refine qB (fun h2=>?_) fun h2=>?_
   ·refine qB (fun h3=>?_) fun h3=>?_
    ·refine b_ (hTk) [] ?_
     refine qB (fun h4=>?_) fun h4=>?_
     ·refine b_ (hO) (qI 0 7) ?_
      refine qB (fun h5=>?_) fun h5=>?_
      ·refine qB (fun h6=>?_) fun h6=>?_
       ·refine qB (fun h7=>?_) fun h7=>?_
        ·refine b_ (eZ e) (qI 0 7) ?_
         refine qB (fun h8=>?_) fun h8=>?_
         ·refine qG ?_
          refine qB (fun h9=>?_) fun h9=>?_
          ·rw [hf (by rw [hok];first|(simp [h1,h2,h3,h4,h5,h6,h8,h9,hi];done)|(simp [h1,h2,h3,h4,h5,h6,h8,h9,hi];intros;omega))]
           exact qF (qI 0 7++qI 10 7++qO 1)
          refine qX ?_
          refine qK (hT) [] ?_
          refine qB (fun h10=>?_) fun h10=>?_
          ·rw [hf (by rw [hok];first|(simp [h1,h2,h3,h4,h5,h6,h8,h9,h10,hi];done)|(simp [h1,h2,h3,h4,h5,h6,h8,h9,h10,hi];intros;omega))]
           exact qF (qI 0 7++qI 10 7++qO 1)
          have hnow:=rS h1
          have hok':mu e x=true:=by rw [hok];have:=eC (eQ h1);have:=lj h1;simp [h1,h2,h3,h4,h5,h6,h8,h9,h10,hi];try omega
          refine qX ?_
          have hsm:fd e x=false:=HT hi
          refine qD [0,1,2,3,4,5,6,7,8,9,10,11,12,13,14,15,16,17,18,19,20,21,22,23] ?_
          refine qG ?_
          rw [hnn hok' hsm]
          refine qX ?_
          have hP:=lk e.halfs (aw e x) (by have:=eC (eQ h1);omega)
          obtain⟨Q,hQ⟩:∃ Q,Q=bF e.halfs (aw e x):=⟨_,rfl⟩
          rw [<-hQ] at hP⊢
          have hQl:Q.1.length<=1048576:=by rw [hQ];have:=eC (eQ h1);have:=gN e.halfs (aw e x);unfold bF;split<;>dsimp only<;>omega
          refine qK (fN { e with bucket:=(cK e.bucket).1 } h8) (qI 10 8) ?_
          refine qK (hP) (qI 13 1) ?_
          refine aQ [(17,18)] [(qU [0,10,11,4,10,1,15,5]),(qU [0,10,11,4,10,1,15,2,18,1,17,1,19,1])] (by kernel_rfl) (qC) (by kernel_rfl) ?_
          simp only [a_]
          refine⟨ab 400 ?_,ab 400 ?_⟩
          all_goals simp (disch:=omega) only [go_sem,seval]
          all_goals
           refine b_ (gR _ _ _ _) [] ?_
           refine b_ (bc (roadOf x) { ac with kind:=5,tag:=⟨1,e.key,e.peer,(aw e x).mine,(aw e x).theirs⟩,nonce:=(aw e x).mine,give:=(aw e x).take }) [] ?_
           refine qG ?_
           refine ai (qI 0 7++qI 10 3++qI 21 1++qI 14 3++qI 22 1) (qC) _ (by simp only [go_sem];rfl) zF zF ?_
           simp (disch:=omega) only [go_sem,seval]
           try simp [Ru,HalfD.cs,dg,aw,aq,LetterD.cs,ac]
           try omega
         rw [hf (by rw [hok];first|(simp [h1,h2,h3,h4,h5,h6,h8,hi];done)|(simp [h1,h2,h3,h4,h5,h6,h8,hi];intros;omega))]
         refine qG ?_
         exact qF (qI 0 7++qI 10 7++qO 1)
        rw [hf (by rw [hok];first|(simp [h1,h2,h3,h4,h5,h6,h7,hi];done)|(simp [h1,h2,h3,h4,h5,h6,h7,hi];intros;omega))]
        refine qG ?_
        exact qF (qI 0 7++qI 10 7++qO 1)
       rw [hf (by rw [hok];first|(simp [h1,h2,h3,h4,h5,h6,hi];done)|(simp [h1,h2,h3,h4,h5,h6,hi];intros;omega))]
       refine qG ?_
       exact qF (qI 0 7++qI 10 7++qO 1)
      rw [hf (by rw [hok];first|(simp [h1,h2,h3,h4,h5,hi];done)|(simp [h1,h2,h3,h4,h5,hi];intros;omega))]
      refine qG ?_
      exact qF (qI 0 7++qI 10 7++qO 1)
     rw [hf (by rw [hok];first|(simp [h1,h2,h3,h4,hi];done)|(simp [h1,h2,h3,h4,hi];intros;omega))]
     refine qG ?_
     exact qF (qI 0 7++qI 10 7++qO 1)
    rw [hf (by rw [hok];first|(simp [h1,h2,h3,hi];done)|(simp [h1,h2,h3,hi];intros;omega))]
    refine qG ?_
    exact qF (qI 0 7++qI 10 7++qO 1)
   rw [hf (by rw [hok];first|(simp [h1,h2,hi];done)|(simp [h1,h2,hi];intros;omega))]
   refine qG ?_
   exact qF (qI 0 7++qI 10 7++qO 1)
  rw [hf (by rw [hok];first|(simp [h1,hi];done)|(simp [h1,hi];intros;omega))]
  refine qG ?_
  exact qF (qI 0 7++qI 10 7++qO 1)
 obtain⟨i,hi⟩:=Int.eq_ofNat_of_zero_le hi0
 have hil:i < e.halfs.length:=zO
 rw [hi]
 refine qX ?_
 refine qD [0,1,2,3,4,5,6,7,8,9,10,11,12,13,14,15,16,17,18,19,20,21,22,23,24,25,26,27,28,29,30,31,32,33,34,35,36,37,38,39,40,41,42,43,44,45,46,47,48,49,50,51,52,53] ?_
 refine b_ (hK) (qI 0 7) ?_
 refine qB (fun h1=>?_) fun h1=>?_
 ·refine b_ (hL) [] ?_
  refine qB (fun h2=>?_) fun h2=>?_
  ·refine qB (fun h3=>?_) fun h3=>?_
   ·refine b_ (hTk) [] ?_
    refine qB (fun h4=>?_) fun h4=>?_
    ·refine b_ (hO) (qI 0 7) ?_
     refine qB (fun h5=>?_) fun h5=>?_
     ·refine qB (fun h6=>?_) fun h6=>?_
      ·refine b_ (eZ e) (qI 0 7) ?_
       refine qB (fun h8=>?_) fun h8=>?_
       ·refine qG ?_
        refine qB (fun h9=>?_) fun h9=>?_
        ·rw [hf (by rw [hok];first|(simp [h1,h2,h3,h4,h5,h6,h8,h9,hi];done)|(simp [h1,h2,h3,h4,h5,h6,h8,h9,hi];intros;omega))]
         exact qF (qI 0 7++qI 10 7++qO 1)
        refine qX ?_
        refine qK (hT) [] ?_
        refine qB (fun h10=>?_) fun h10=>?_
        ·rw [hf (by rw [hok];first|(simp [h1,h2,h3,h4,h5,h6,h8,h9,h10,hi];done)|(simp [h1,h2,h3,h4,h5,h6,h8,h9,h10,hi];intros;omega))]
         exact qF (qI 0 7++qI 10 7++qO 1)
        have hnow:=rS h1
        have hok':mu e x=true:=by rw [hok];have:=eC (eQ h1);have:=lj h1;simp [h1,h2,h3,h4,h5,h6,h8,h9,h10,hi];try omega
        refine qX ?_
        refine qD [0,1,2,3,4,5,6,7,8,9,10,11,12,13,14,15,16,17,18,19,20,21,22,23] ?_
        refine qB (fun h11=>?_) fun h11=>?_
        ·refine qG ?_
         refine qB (fun h12=>?_) fun h12=>?_
         ·have hsm:fd e x=true:=by rw [rV hi hil];simp [h11,h12]
          rw [hns _ hok' hsm hi hil]
          have hrd:=Cj hi hil
          refine qX ?_
          refine aQ [(17,18)] [(qU [0,10,11,4,10,1,15,5]),(qU [0,10,11,4,10,1,15,2,18,1,17,1,19,1])] (by kernel_rfl) (qC) (by kernel_rfl) ?_
          simp only [a_]
          refine⟨ab 400 ?_,ab 400 ?_⟩
          all_goals simp (disch:=omega) only [go_sem,seval]
          all_goals
           refine b_ (gR _ _ _ _) [] ?_
           refine b_ (bc (roadOf x) { ac with kind:=5,tag:=⟨1,e.key,e.peer,(e.halfs[i]).mine,(e.halfs[i]).theirs⟩,nonce:=(e.halfs[i]).mine,give:=(e.halfs[i]).take }) [] ?_
           refine qG ?_
           refine ai (qI 0 7++qI 10 7++qI 21 1) (qC) _ (by simp only [go_sem];rfl) zF zF ?_
           simp (disch:=omega) only [go_sem,seval]
           try simp [Ru,HalfD.cs,dg,aw,aq,LetterD.cs,ac]
           try omega
         have hsm:fd e x=false:=by rw [rV hi hil];simp [h11,h12]
         rw [hnn hok' hsm]
         refine qX ?_
         have hP:=lk e.halfs (aw e x) (by have:=eC (eQ h1);omega)
         obtain⟨Q,hQ⟩:∃ Q,Q=bF e.halfs (aw e x):=⟨_,rfl⟩
         rw [<-hQ] at hP⊢
         have hQl:Q.1.length<=1048576:=by rw [hQ];have:=eC (eQ h1);have:=gN e.halfs (aw e x);unfold bF;split<;>dsimp only<;>omega
         refine qK (fN { e with bucket:=(cK e.bucket).1 } h8) (qI 10 8) ?_
         refine qK (hP) (qI 13 1) ?_
         refine aQ [(17,18)] [(qU [0,10,11,4,10,1,15,5]),(qU [0,10,11,4,10,1,15,2,18,1,17,1,19,1])] (by kernel_rfl) (qC) (by kernel_rfl) ?_
         simp only [a_]
         refine⟨ab 400 ?_,ab 400 ?_⟩
         all_goals simp (disch:=omega) only [go_sem,seval]
         all_goals
          refine b_ (gR _ _ _ _) [] ?_
          refine b_ (bc (roadOf x) { ac with kind:=5,tag:=⟨1,e.key,e.peer,(aw e x).mine,(aw e x).theirs⟩,nonce:=(aw e x).mine,give:=(aw e x).take }) [] ?_
          refine qG ?_
          refine ai (qI 0 7++qI 10 3++qI 21 1++qI 14 3++qI 22 1) (qC) _ (by simp only [go_sem];rfl) zF zF ?_
          simp (disch:=omega) only [go_sem,seval]
          try simp [Ru,HalfD.cs,dg,aw,aq,LetterD.cs,ac]
          try omega
        have hsm:fd e x=false:=by rw [rV hi hil];simp [h11]
        refine qG ?_
        rw [hnn hok' hsm]
        refine qX ?_
        have hP:=lk e.halfs (aw e x) (by have:=eC (eQ h1);omega)
        obtain⟨Q,hQ⟩:∃ Q,Q=bF e.halfs (aw e x):=⟨_,rfl⟩
        rw [<-hQ] at hP⊢
        have hQl:Q.1.length<=1048576:=by rw [hQ];have:=eC (eQ h1);have:=gN e.halfs (aw e x);unfold bF;split<;>dsimp only<;>omega
        refine qK (fN { e with bucket:=(cK e.bucket).1 } h8) (qI 10 8) ?_
        refine qK (hP) (qI 13 1) ?_
        refine aQ [(17,18)] [(qU [0,10,11,4,10,1,15,5]),(qU [0,10,11,4,10,1,15,2,18,1,17,1,19,1])] (by kernel_rfl) (qC) (by kernel_rfl) ?_
        simp only [a_]
        refine⟨ab 400 ?_,ab 400 ?_⟩
        all_goals simp (disch:=omega) only [go_sem,seval]
        all_goals
         refine b_ (gR _ _ _ _) [] ?_
         refine b_ (bc (roadOf x) { ac with kind:=5,tag:=⟨1,e.key,e.peer,(aw e x).mine,(aw e x).theirs⟩,nonce:=(aw e x).mine,give:=(aw e x).take }) [] ?_
         refine qG ?_
         refine ai (qI 0 7++qI 10 3++qI 21 1++qI 14 3++qI 22 1) (qC) _ (by simp only [go_sem];rfl) zF zF ?_
         simp (disch:=omega) only [go_sem,seval]
         try simp [Ru,HalfD.cs,dg,aw,aq,LetterD.cs,ac]
         try omega
       rw [hf (by rw [hok];first|(simp [h1,h2,h3,h4,h5,h6,h8,hi];done)|(simp [h1,h2,h3,h4,h5,h6,h8,hi];intros;omega))]
       refine qG ?_
       exact qF (qI 0 7++qI 10 7++qO 1)
      rw [hf (by rw [hok];first|(simp [h1,h2,h3,h4,h5,h6,hi];done)|(simp [h1,h2,h3,h4,h5,h6,hi];intros;omega))]
      refine qG ?_
      exact qF (qI 0 7++qI 10 7++qO 1)
     rw [hf (by rw [hok];first|(simp [h1,h2,h3,h4,h5,hi];done)|(simp [h1,h2,h3,h4,h5,hi];intros;omega))]
     refine qG ?_
     exact qF (qI 0 7++qI 10 7++qO 1)
    rw [hf (by rw [hok];first|(simp [h1,h2,h3,h4,hi];done)|(simp [h1,h2,h3,h4,hi];intros;omega))]
    refine qG ?_
    exact qF (qI 0 7++qI 10 7++qO 1)
   rw [hf (by rw [hok];first|(simp [h1,h2,h3,hi];done)|(simp [h1,h2,h3,hi];intros;omega))]
   refine qG ?_
   exact qF (qI 0 7++qI 10 7++qO 1)
  rw [hf (by rw [hok];first|(simp [h1,h2,hi];done)|(simp [h1,h2,hi];intros;omega))]
  refine qG ?_
  exact qF (qI 0 7++qI 10 7++qO 1)
 rw [hf (by rw [hok];first|(simp [h1,hi];done)|(simp [h1,hi];intros;omega))]
 refine qG ?_
 exact qF (qI 0 7++qI 10 7++qO 1)
theorem LB {P:Program} {g:Nat} {tab:List (List UInt8)} {f:FuncId} {args:List AV} {b:Bool} {h h':Hp} (ct:mY P g tab f args h (.sc (.bo b)) h') {β:Be} {w:World} (hlt:g < w.heap.size)
  (hc:∀ (j:Nat) (l:List UInt8),tab[j]? =some l->w.cell? ⟨g,j,none⟩=some (.string ⟨l.toArray⟩)) (hr:OU β w β h) {vs:List Value} (hvs:L2 (f9 β) args vs):
  Calls P f vs.toArray w fun e w'=>e=.returned (.bool b)/\Below w.heap.size w w':=
 DD ct (fun k ⟨o,ob,p,ho,hown,hp,_⟩=>by rw [xB (LA hr) ho] at hown;cases hown) (JB hr) hlt hc hvs
end
end Go.Proofs.YtdiiopjaebnmfaaGreatDoor
