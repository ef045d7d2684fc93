/- Lemmas of this claim. -/
import Derived.Test.YtdiiopjaebnmfaaGreatDoorZFnExactRunScriptC
set_option maxHeartbeats 16000000
set_option maxRecDepth 100000
set_option linter.unusedVariables false
set_option linter.unusedSimpArgs false
namespace Go.Proofs.YtdiiopjaebnmfaaGreatDoor
open _root_.Go.Proofs.Tryz
open _root_.List renaming length_set->zk,drop_of_length_le->P7,length_drop->P9,take_of_length_le->Qa,length_take->Qb,length_append->Qc,getElem_take->Qd,drop_eq_getElem_cons->Qg,drop_eq_nil_of_le->Qj,length_singleton->Qk,length_cons->Ql,length_nil->Qm
open _root_.Nat renaming zero_le->zG,le_refl->Qn
open _root_.Bool renaming and_eq_true->P6,true_and->P8,false_or->Qe,true_or->Qh
open _root_.Int renaming eq_ofNat_of_zero_le->P_,toNat_natCast->Qf,ofNat_lt->Qi
section
open Go.RowKit
theorem vo (a b:PieceD) (ha:0<=a.pos/\a.pos<=4000000000) (hb:0<=b.pos/\b.pos<=4000000000) (la:a.text.length<=1048576) (lb:b.text.length<=1048576)
  (t1:¬ a.pos+(a.text.length:Int) < b.pos) (t2:¬ b.pos+(b.text.length:Int) < a.pos):aP 279 [.ag a.cs,.ag b.cs] [] (.ag (jn a b).cs) []:=by
 by_cases h:b.pos < a.pos
 ·obtain⟨n,hn⟩:=P_ (show 0<=a.pos - b.pos by omega)
  rw [Ey hn zO]
  have hp:a.pos=b.pos+(n:Int):=zO
  refine qE func279 ntmps279 results279 fun E hE=>?_
  have hlt:(b.text.take n).length=n:=by simp;omega
  have hmin:(if a.pos - b.pos < (b.text.length:Int) then a.pos - b.pos else (b.text.length:Int))=(n:Int):=by split<;>omega
  refine qD [0,1,2,3,4,5,6,7,8,9,10,11,12,13,14,15,16,17,18] ?_
  try simp (disch:=omega) only [go_sem,seval,hmin]
  refine⟨qC,ab 400 ?_⟩
  try simp (disch:=omega) only [go_sem,seval,hmin]
  refine qB (fun h3=>?_) fun h3=>?_
  ·have he:(b.pos+(((b.text.take n).length:Int)+(a.text.length:Int)) - b.pos).toNat=n+a.text.length:=zO
   have hd:(b.text.drop (n+a.text.length)).length<=b.text.length:=by simp
   refine qD [0,1,2,3,4,5,6,7,8,9,10,11] ?_
   try simp (disch:=omega) only [go_sem,seval,he]
   refine⟨by (try simp (disch:=omega) only [go_sem,zk,seval,he])<;>omega,ab 400 ?_⟩
   try simp (disch:=omega) only [go_sem,seval,he]
   exact qF []
  refine qJ [] ?_
  rw [P7 zO]
  simp
 obtain⟨n,hn⟩:=P_ (show 0<=b.pos - a.pos by omega)
 rw [Ez hn]
 have hp:b.pos=a.pos+(n:Int):=zO
 refine qE func279 ntmps279 results279 fun E hE=>?_
 refine qB (fun h3=>?_) fun h3=>?_
 ·have he:(a.pos+(a.text.length:Int) - b.pos).toNat=a.text.length - n:=zO
  have hd:(b.text.drop (a.text.length - n)).length<=b.text.length:=by simp
  refine qD [0,1,2,3,4,5,6,7,8,9,10,11] ?_
  try simp (disch:=omega) only [go_sem,seval,he]
  refine⟨by (try simp (disch:=omega) only [go_sem,zk,seval,he])<;>omega,ab 400 ?_⟩
  try simp (disch:=omega) only [go_sem,seval,he]
  exact qF []
 refine qJ [] ?_
 rw [P7 zO]
 simp
theorem sJ (a b:PieceD) (ha:0<=a.pos/\a.pos<=4000000000) (hb:0<=b.pos/\b.pos<=4000000000) (la:a.text.length<=1048576) (lb:b.text.length<=1048576)
  (t1:¬ a.pos+(a.text.length:Int) < b.pos) (t2:¬ b.pos+(b.text.length:Int) < a.pos):aP 291 [.ag a.cs,.ag b.cs] [] (.ag (jn a b).cs) []:=by
 by_cases h:b.pos < a.pos
 ·obtain⟨n,hn⟩:=P_ (show 0<=a.pos - b.pos by omega)
  rw [Ey hn zO]
  have hp:a.pos=b.pos+(n:Int):=zO
  have hlt:(b.text.take n).length=n:=by simp;omega
  refine qE func291 ntmps291 results291 fun E hE=>?_
  try simp (disch:=omega) only [go_sem,seval,hn]
  refine qB (fun h3=>?_) fun h3=>?_
  ·refine qX ?_
   refine qB (fun h4=>?_) fun h4=>?_
   ·have he:((n:Int)+(a.text.length:Int)).toNat=n+a.text.length:=zO
    have hd:(b.text.drop (n+a.text.length)).length<=b.text.length:=by simp
    try simp (disch:=omega) only [go_sem,seval,he]
    refine aj [] (by (try simp (disch:=omega) only [go_sem,zk,seval,he])<;>omega) _ zXg zF zF ?_
    simp (disch:=omega) only [go_sem,seval]
   refine qX ?_
   refine qJ [] ?_
   rw [P7 zO]
   simp
  have h5:n=b.text.length:=zO
  refine qX ?_
  refine qJ [] ?_
  rw [P7 zO,Qa zO]
  simp
 obtain⟨n,hn⟩:=P_ (show 0<=b.pos - a.pos by omega)
 rw [Ez hn]
 have hp:b.pos=a.pos+(n:Int):=zO
 refine qE func291 ntmps291 results291 fun E hE=>?_
 try simp (disch:=omega) only [go_sem,seval,hn]
 refine qB (fun h3=>?_) fun h3=>?_
 ·refine qJ [] ?_
  rw [P7 zO]
  simp
 have he:((b.text.length:Int) - ((n:Int)+(b.text.length:Int) - (a.text.length:Int))).toNat=a.text.length - n:=zO
 have hd:(b.text.drop (a.text.length - n)).length<=b.text.length:=by simp
 refine qD [0,1,2,3,4,5,6,7,8,9,10,11,12,13,14] ?_
 try simp (disch:=omega) only [go_sem,seval,he]
 refine⟨by (try simp (disch:=omega) only [go_sem,zk,seval,he])<;>omega,ab 400 ?_⟩
 try simp (disch:=omega) only [go_sem,seval,he]
 exact qF []
theorem sN (k:KnownD) (t:TagD) (h0:k.keys.length<=1048576) (h1:k.tags.length<=1048576):aP 161 [.ag (k.cs 0),.ag t.cs] (k.hp false) (.sc (.bo (iX k t))) (k.hp false):=by
 obtain⟨R,hR⟩:∃ R,R=iX k t:=⟨_,rfl⟩
 rw [<-hR]
 rw [iX] at hR
 have hcmp:=TagD.cmp t mN
 simp only [TagD.cs,mN,go_sem] at hcmp
 have ht:mN=⟨0,0,0,0,0⟩:=rfl
 refine qE func161 ntmps161 results161 fun E hE=>?_
 try simp (disch:=omega) only [go_sem,seval,hcmp]
 refine qB (fun b1=>?_) fun b1=>?_
 ·have b1':=of_decide_eq_false b1
  refine qK (gH k.keys t.one h0) (qI 0 1) ?_
  refine qB (fun b2=>?_) fun b2=>?_
  ·refine qK (gH k.keys t.two h0) (qI 0 1) ?_
   refine qB (fun b3=>?_) fun b3=>?_
   ·have hR':R=true:=by rw [hR];simp [b2,b3]
    subst hR'
    refine qX ?_
    exact qF (qI 0 2)
   have hR':R=(k.tags.take 300).any (fun u=>decide (u=t)):=by rw [hR,ht];simp [b1',b2,b3]
   refine qX ?_
   refine fJ 2 hE (fun s (i:Nat)=>s.at (qU [0,2,4,1,6,35]) [(5,.sc (.int .i64 (i:Nat)))] (s.hp)) (fun (i:Nat)=>i<=k.tags.length/\i<=300/\((k.tags.take 300).drop i).any (fun u=>decide (u=t))=R) (fun (i:Nat)=>k.tags.length - i) 0 (qI 0 4) (⟨zG _,zG _,by rw [hR'];rfl⟩) fun i hi N hN=>?_
   obtain⟨hi1,hi2,hi3⟩:=hi
   refine qR ?_
   refine qB (fun h=>?_) fun h=>?_
   ·refine qB (fun h2=>?_) fun h2=>?_
    ·rw [gE zS,Qd] at hi3
     have hcm:=TagD.cmp k.tags[i] t
     simp only [TagD.cs,go_sem] at hcm
     refine qX ?_
     refine qD [0,1,2,3,4,5,6] ?_
     refine⟨qC,ab 400 ?_⟩
     try simp (disch:=omega) only [go_sem,seval,hcm]
     refine qB (fun h3=>?_) fun h3=>?_
     ·rw [decide_eq_true h3,Qh] at hi3
      subst hi3
      refine qX ?_
      exact qF (qI 0 2)
     rw [decide_eq_false h3,Qe] at hi3
     exact qN hN (i+1) (qI 0 4) (by (try dsimp only);exact⟨zO,zO,hi3⟩)
    rw [fR zS] at hi3
    subst hi3
    refine qX ?_
    exact qF (qI 0 2)
   rw [fR zS] at hi3
   subst hi3
   refine qX ?_
   exact qF (qI 0 2)
  have hR':R=(k.tags.take 300).any (fun u=>decide (u=t)):=by rw [hR,ht];simp [b1',b2]
  refine qX ?_
  refine fJ 2 hE (fun s (i:Nat)=>s.at (qU [0,2,4,1,6,35]) [(5,.sc (.int .i64 (i:Nat)))] (s.hp)) (fun (i:Nat)=>i<=k.tags.length/\i<=300/\((k.tags.take 300).drop i).any (fun u=>decide (u=t))=R) (fun (i:Nat)=>k.tags.length - i) 0 (qI 0 4) (⟨zG _,zG _,by rw [hR'];rfl⟩) fun i hi N hN=>?_
  obtain⟨hi1,hi2,hi3⟩:=hi
  refine qR ?_
  refine qB (fun h=>?_) fun h=>?_
  ·refine qB (fun h2=>?_) fun h2=>?_
   ·rw [gE zS,Qd] at hi3
    have hcm:=TagD.cmp k.tags[i] t
    simp only [TagD.cs,go_sem] at hcm
    refine qX ?_
    refine qD [0,1,2,3,4,5,6] ?_
    refine⟨qC,ab 400 ?_⟩
    try simp (disch:=omega) only [go_sem,seval,hcm]
    refine qB (fun h3=>?_) fun h3=>?_
    ·rw [decide_eq_true h3,Qh] at hi3
     subst hi3
     refine qX ?_
     exact qF (qI 0 2)
    rw [decide_eq_false h3,Qe] at hi3
    exact qN hN (i+1) (qI 0 4) (by (try dsimp only);exact⟨zO,zO,hi3⟩)
   rw [fR zS] at hi3
   subst hi3
   refine qX ?_
   exact qF (qI 0 2)
  rw [fR zS] at hi3
  subst hi3
  refine qX ?_
  exact qF (qI 0 2)
 have b1':=of_decide_eq_true b1
 have hR':R=true:=by rw [hR,ht];simp [b1']
 subst hR'
 refine qX ?_
 exact qF (qI 0 2)
theorem sO (k:KnownD) (t:TagD) (h0:k.keys.length<=1048576) (h1:k.tags.length<=1048576):aP 180 [.ag (k.cs 0),.ag t.cs] (k.hp false) (.sc (.bo (iX k t))) (k.hp false):=by
 obtain⟨R,hR⟩:∃ R,R=iX k t:=⟨_,rfl⟩
 rw [<-hR]
 rw [iX] at hR
 have hcmp:=TagD.cmp t mN
 simp only [TagD.cs,mN,go_sem] at hcmp
 have ht:mN=⟨0,0,0,0,0⟩:=rfl
 refine qE func180 ntmps180 results180 fun E hE=>?_
 try simp (disch:=omega) only [go_sem,seval,hcmp]
 refine qB (fun b1=>?_) fun b1=>?_
 ·have b1':=of_decide_eq_false b1
  refine qK (iK k.keys t.one h0) (qI 0 1) ?_
  refine qB (fun b2=>?_) fun b2=>?_
  ·refine qK (iK k.keys t.two h0) (qI 0 1) ?_
   refine qB (fun b3=>?_) fun b3=>?_
   ·have hR':R=true:=by rw [hR];simp [b2,b3]
    subst hR'
    refine qX ?_
    exact qF (qI 0 2)
   have hR':R=(k.tags.take 300).any (fun u=>decide (u=t)):=by rw [hR,ht];simp [b1',b2,b3]
   refine qX ?_
   refine fJ 2 hE (fun s (i:Nat)=>s.at (qU [0,2,4,1,6,35]) [(5,.sc (.int .i64 (i:Nat)))] (s.hp)) (fun (i:Nat)=>i<=k.tags.length/\i<=300/\((k.tags.take 300).drop i).any (fun u=>decide (u=t))=R) (fun (i:Nat)=>k.tags.length - i) 0 (qI 0 4) (⟨zG _,zG _,by rw [hR'];rfl⟩) fun i hi N hN=>?_
   obtain⟨hi1,hi2,hi3⟩:=hi
   refine qR ?_
   refine qB (fun h=>?_) fun h=>?_
   ·refine qB (fun h2=>?_) fun h2=>?_
    ·rw [gE zS,Qd] at hi3
     have hcm:=TagD.cmp k.tags[i] t
     simp only [TagD.cs,go_sem] at hcm
     refine qX ?_
     refine qD [0,1,2,3,4,5,6] ?_
     refine⟨qC,ab 400 ?_⟩
     try simp (disch:=omega) only [go_sem,seval,hcm]
     refine qB (fun h3=>?_) fun h3=>?_
     ·rw [decide_eq_true h3,Qh] at hi3
      subst hi3
      refine qX ?_
      exact qF (qI 0 2)
     rw [decide_eq_false h3,Qe] at hi3
     exact qN hN (i+1) (qI 0 4) (by (try dsimp only);exact⟨zO,zO,hi3⟩)
    rw [fR zS] at hi3
    subst hi3
    refine qX ?_
    exact qF (qI 0 2)
   rw [fR zS] at hi3
   subst hi3
   refine qX ?_
   exact qF (qI 0 2)
  have hR':R=(k.tags.take 300).any (fun u=>decide (u=t)):=by rw [hR,ht];simp [b1',b2]
  refine qX ?_
  refine fJ 2 hE (fun s (i:Nat)=>s.at (qU [0,2,4,1,6,35]) [(5,.sc (.int .i64 (i:Nat)))] (s.hp)) (fun (i:Nat)=>i<=k.tags.length/\i<=300/\((k.tags.take 300).drop i).any (fun u=>decide (u=t))=R) (fun (i:Nat)=>k.tags.length - i) 0 (qI 0 4) (⟨zG _,zG _,by rw [hR'];rfl⟩) fun i hi N hN=>?_
  obtain⟨hi1,hi2,hi3⟩:=hi
  refine qR ?_
  refine qB (fun h=>?_) fun h=>?_
  ·refine qB (fun h2=>?_) fun h2=>?_
   ·rw [gE zS,Qd] at hi3
    have hcm:=TagD.cmp k.tags[i] t
    simp only [TagD.cs,go_sem] at hcm
    refine qX ?_
    refine qD [0,1,2,3,4,5,6] ?_
    refine⟨qC,ab 400 ?_⟩
    try simp (disch:=omega) only [go_sem,seval,hcm]
    refine qB (fun h3=>?_) fun h3=>?_
    ·rw [decide_eq_true h3,Qh] at hi3
     subst hi3
     refine qX ?_
     exact qF (qI 0 2)
    rw [decide_eq_false h3,Qe] at hi3
    exact qN hN (i+1) (qI 0 4) (by (try dsimp only);exact⟨zO,zO,hi3⟩)
   rw [fR zS] at hi3
   subst hi3
   refine qX ?_
   exact qF (qI 0 2)
  rw [fR zS] at hi3
  subst hi3
  refine qX ?_
  exact qF (qI 0 2)
 have b1':=of_decide_eq_true b1
 have hR':R=true:=by rw [hR,ht];simp [b1']
 subst hR'
 refine qX ?_
 exact qF (qI 0 2)
theorem gZ (l:List LetterD) (hl:l.length<=1048576):aP 87 [.sc (.sl 0 0 l.length)] [some ⟨l.map LetterD.cs,19,36,false,true⟩] (.sc (.sl 1 0 l.length)) [some ⟨l.map LetterD.cs,19,36,false,true⟩,some ⟨l.map LetterD.cs,19,36,true,true⟩]:=by
 refine qE func87 ntmps87 results87 fun E hE=>?_
 exact qF (qI 0 1++qI 2 1)
theorem oB (k:KnownD) (h0:k.keys.length<=1048576) (h1:k.tags.length<=1048576):aP 88 [.ag (k.cs 0)] (k.hp false) (.ag (k.cs 2)) (k.hp false++k.hp true):=by
 refine qE func88 ntmps88 results88 fun E hE=>?_
 refine aB [(2,3)] [[0,1,4,5,2,3,6,7,8],[0,1,4,5,3,2,6,7,8]] zXk (qC) zXk ?_
 simp only [aM]
 refine⟨aa 400 ?_,aa 400 ?_⟩
 all_goals simp (disch:=omega) only [go_sem,seval]
 ·refine aE (dt k.keys h0) (qI 0 1) ?_
  refine qG ?_
  exact qF (qI 0 2++qI 4 1++qI 6 1)
 refine aE (dt k.keys h0) (qI 0 1) ?_
 refine qG ?_
 exact qF (qI 0 2++qI 5 2)
theorem Hq (l:List TagD) (h:TagD):l.map TagD.cs++[h.cs]=(l++[h]).map TagD.cs:=by simp
theorem Hr {k:KnownD} {t:TagD} (h:iX k t=false) (h2:k.tags.length < 300):fM k t={ k with tags:=k.tags++[t] }:=if_pos ⟨h,h2⟩
theorem ED {k:KnownD} {t:TagD} (h:iX k t=true):fM k t=k:=if_neg (by simp [h])
theorem EE {k:KnownD} {t:TagD} (h2:¬ k.tags.length < 300):fM k t=k:=if_neg (fun h=>h2 h.2)
theorem yd (k:KnownD) (t:TagD) (h0:k.keys.length<=1048576) (h1:k.tags.length<=1048576):aP 159 [.ag (k.cs 0),.ag t.cs] (k.hp false) (.ag ((fM k t).cs 2)) (k.hp false++(fM k t).hp true):=by
 have hM:=sN k t h0 h1
 have ht:=Hr (k:=k) (t:=t)
 have hf1:=ED (k:=k) (t:=t)
 have hf2:=EE (k:=k) (t:=t)
 generalize fM k t=R at*
 refine qE func159 ntmps159 results159 fun E hE=>?_
 refine qK (oB k h0 h1) (qI 0 2) ?_
 refine qK (hM) (qI 0 2) ?_
 refine qB (fun b1=>?_) fun b1=>?_
 ·refine qB (fun b2=>?_) fun b2=>?_
  ·rw [ht b1 zO]
   have e:=Hq k.tags t
   simp only [TagD.cs] at e
   try simp (disch:=omega) only [go_sem,seval,e]
   refine qP (qI 0 2++qI 5 1++qI 9 1) ?_
   first|exact⟨⟩|simp
  rw [hf2 zO]
  refine qX ?_
  exact qF (qI 0 2++qI 5 2)
 rw [hf1 b1]
 refine qX ?_
 exact qF (qI 0 2++qI 5 2)
def eq (x:WorldD) (p0 p1 p2 p3 p4 p5 p6 p7 p8 p9 p10 p11 p12 p13 p14 p15 p16 p17 p18 p19 p20:Nat):List Sc:=[.int .i64 x.a.side,.int .i64 x.a.state,.int .i64 x.a.key,.int .i64 x.a.peer,.int .i64 x.a.policy.kind,.int .i64 x.a.policy.many,.sl p0 0 x.a.own.length,.sl p1 0 x.a.far.length,.sl p2 0 x.a.subs.length,.sl p3 0 x.a.halfs.length,.int .i64 x.a.bucket.rate,.int .i64 x.a.bucket.burst,.int .i64 x.a.bucket.cur,.st x.a.out.text,.int .i64 x.a.out.base,.int .i64 x.a.out.sent,.int .i64 x.a.out.room,.int .i64 x.a.inp.read,.st x.a.inp.ready,.sl p4 0 x.a.inp.list.length,.sl p5 0 x.a.done.length,.sl p6 0 x.a.over.length,.int .i64 x.a.draw,.int .i64 x.a.now,.int .i64 x.a.pick,.int .i64 x.b.side,.int .i64 x.b.state,.int .i64 x.b.key,.int .i64 x.b.peer,.int .i64 x.b.policy.kind,.int .i64 x.b.policy.many,.sl p7 0 x.b.own.length,.sl p8 0 x.b.far.length,.sl p9 0 x.b.subs.length,.sl p10 0 x.b.halfs.length,.int .i64 x.b.bucket.rate,.int .i64 x.b.bucket.burst,.int .i64 x.b.bucket.cur,.st x.b.out.text,.int .i64 x.b.out.base,.int .i64 x.b.out.sent,.int .i64 x.b.out.room,.int .i64 x.b.inp.read,.st x.b.inp.ready,.sl p11 0 x.b.inp.list.length,.sl p12 0 x.b.done.length,.sl p13 0 x.b.over.length,.int .i64 x.b.draw,.int .i64 x.b.now,.int .i64 x.b.pick,.sl p14 0 x.bag.length,.sl p15 0 x.past.length,.st x.wroteA,.st x.wroteB,.st x.readA,.st x.readB,.sl p16 0 x.known.keys.length,.sl p17 0 x.known.tags.length,.sl p18 0 x.nums.length,.sl p19 0 x.answersA.length,.sl p20 0 x.answersB.length]
attribute [go_sem] eq
structure SmallW (w:WorldD):Prop where
 a:Small w.a
 b:Small w.b
 bag:w.bag.length<=1048576
 past:w.past.length<=1048576
 keys:w.known.keys.length<=1048576
 tags:w.known.tags.length<=1048576
 nums:w.nums.length<=1048576
 ansA:w.answersA.length<=1048576
 ansB:w.answersB.length<=1048576
theorem q4 {w:WorldD} {p:Prop} (s:SmallW w) (F:w.a.own.length<=1048576->w.a.far.length<=1048576->w.a.subs.length<=1048576->w.a.halfs.length<=1048576->w.a.inp.list.length<=1048576->w.a.done.length<=1048576->w.a.over.length<=1048576->w.b.own.length<=1048576->w.b.far.length<=1048576->w.b.subs.length<=1048576->w.b.halfs.length<=1048576->w.b.inp.list.length<=1048576->w.b.done.length<=1048576->w.b.over.length<=1048576->p):p:=F s.a.own s.a.far s.a.subs s.a.halfs s.a.list s.a.done s.a.over s.b.own s.b.far s.b.subs s.b.halfs s.b.list s.b.done s.b.over
theorem ye (k:KnownD) (t:TagD) (h0:k.keys.length<=1048576) (h1:k.tags.length<=1048576):aP 233 [.ag (k.cs 0),.ag t.cs] (k.hp false) (.ag ((fM k t).cs 2)) (k.hp false++(fM k t).hp true):=by
 have hM:=sO k t h0 h1
 have ht:=Hr (k:=k) (t:=t)
 have hf1:=ED (k:=k) (t:=t)
 have hf2:=EE (k:=k) (t:=t)
 generalize fM k t=R at*
 refine au func233 zXk rfl fun E hE=>ab 400 ?_
 simp (disch:=omega) only [ntmps233,results233,go_sem,seval]
 refine aR [(0,6),(0,4),(0,9),(3,6),(3,4),(3,9),(4,9),(7,9),(9,6),(4,6)] [(0,3),(3,7),(4,7),(6,7)] [[1,2,5,0,3,4,6,7,8,9,10],[1,2,5,0,3,6,4,7,8,9,10],[1,2,5,0,3,4,9,6,7,8,10],[1,2,5,0,3,4,6,9,7,8,10],[1,2,5,0,3,6,4,9,7,8,10],[1,2,5,0,3,9,4,6,7,8,10],[1,2,5,0,3,9,6,4,7,8,10],[1,2,5,0,3,6,9,4,7,8,10],[1,2,5,0,9,3,4,6,7,8,10],[1,2,5,0,9,3,6,4,7,8,10],[1,2,5,0,4,3,6,7,8,9,10],[1,2,5,0,4,3,9,6,7,8,10],[1,2,5,0,4,3,6,9,7,8,10],[1,2,5,0,4,9,3,6,7,8,10],[1,2,5,0,9,4,3,6,7,8,10],[1,2,5,0,6,3,4,7,8,9,10],[1,2,5,0,6,3,4,9,7,8,10],[1,2,5,0,6,3,9,4,7,8,10],[1,2,5,0,9,6,3,4,7,8,10],[1,2,5,0,6,9,3,4,7,8,10],[1,2,5,0,4,6,3,7,8,9,10],[1,2,5,0,6,4,3,7,8,9,10],[1,2,5,0,4,6,3,9,7,8,10],[1,2,5,0,6,4,3,9,7,8,10],[1,2,5,0,4,9,6,3,7,8,10],[1,2,5,0,4,6,9,3,7,8,10],[1,2,5,0,6,4,9,3,7,8,10],[1,2,5,0,9,4,6,3,7,8,10],[1,2,5,0,9,6,4,3,7,8,10],[1,2,5,0,6,9,4,3,7,8,10],[1,2,5,9,0,3,4,6,7,8,10],[1,2,5,9,0,3,6,4,7,8,10],[1,2,5,9,0,4,3,6,7,8,10],[1,2,5,9,0,6,3,4,7,8,10],[1,2,5,9,0,4,6,3,7,8,10],[1,2,5,9,0,6,4,3,7,8,10],[1,2,5,4,0,3,6,7,8,9,10],[1,2,5,4,0,3,9,6,7,8,10],[1,2,5,4,0,3,6,9,7,8,10],[1,2,5,4,0,9,3,6,7,8,10],[1,2,5,4,0,6,3,7,8,9,10],[1,2,5,4,0,6,3,9,7,8,10],[1,2,5,4,0,9,6,3,7,8,10],[1,2,5,4,0,6,9,3,7,8,10],[1,2,5,4,9,0,3,6,7,8,10],[1,2,5,9,4,0,3,6,7,8,10],[1,2,5,4,9,0,6,3,7,8,10],[1,2,5,9,4,0,6,3,7,8,10],[1,2,5,6,0,3,4,7,8,9,10],[1,2,5,6,0,3,4,9,7,8,10],[1,2,5,6,0,3,9,4,7,8,10],[1,2,5,6,0,9,3,4,7,8,10],[1,2,5,6,0,4,3,7,8,9,10],[1,2,5,6,0,4,3,9,7,8,10],[1,2,5,6,0,4,9,3,7,8,10],[1,2,5,6,0,9,4,3,7,8,10],[1,2,5,9,6,0,3,4,7,8,10],[1,2,5,6,9,0,3,4,7,8,10],[1,2,5,9,6,0,4,3,7,8,10],[1,2,5,6,9,0,4,3,7,8,10],[1,2,5,4,6,0,3,7,8,9,10],[1,2,5,6,4,0,3,7,8,9,10],[1,2,5,4,6,0,3,9,7,8,10],[1,2,5,6,4,0,3,9,7,8,10],[1,2,5,4,6,0,9,3,7,8,10],[1,2,5,6,4,0,9,3,7,8,10],[1,2,5,4,9,6,0,3,7,8,10],[1,2,5,4,6,9,0,3,7,8,10],[1,2,5,6,4,9,0,3,7,8,10],[1,2,5,9,4,6,0,3,7,8,10],[1,2,5,9,6,4,0,3,7,8,10],[1,2,5,6,9,4,0,3,7,8,10]] 2 hE (fun s=>s.at (qU [6,9]) [(5,.sc (.pt 7 0 0))] (s.hp++[some ⟨k.keys.map bh,1,3,true,true⟩,some ⟨k.tags.map TagD.cs,5,34,true,true⟩,some ⟨[[.sl 5 0 k.keys.length,.sl 6 0 k.tags.length]],2,58,true,false⟩])) zXk (qC) zXk ?_ ?_
 ·simp only [aM]
  refine⟨aa 400 ?_,aa 400 ?_,aa 400 ?_,aa 400 ?_,aa 400 ?_,aa 400 ?_,aa 400 ?_,aa 400 ?_,aa 400 ?_,aa 400 ?_,aa 400 ?_,aa 400 ?_,aa 400 ?_,aa 400 ?_,aa 400 ?_,aa 400 ?_,aa 400 ?_,aa 400 ?_,aa 400 ?_,aa 400 ?_,aa 400 ?_,aa 400 ?_,aa 400 ?_,aa 400 ?_,aa 400 ?_,aa 400 ?_,aa 400 ?_,aa 400 ?_,aa 400 ?_,aa 400 ?_,aa 400 ?_,aa 400 ?_,aa 400 ?_,aa 400 ?_,aa 400 ?_,aa 400 ?_,aa 400 ?_,aa 400 ?_,aa 400 ?_,aa 400 ?_,aa 400 ?_,aa 400 ?_,aa 400 ?_,aa 400 ?_,aa 400 ?_,aa 400 ?_,aa 400 ?_,aa 400 ?_,aa 400 ?_,aa 400 ?_,aa 400 ?_,aa 400 ?_,aa 400 ?_,aa 400 ?_,aa 400 ?_,aa 400 ?_,aa 400 ?_,aa 400 ?_,aa 400 ?_,aa 400 ?_,aa 400 ?_,aa 400 ?_,aa 400 ?_,aa 400 ?_,aa 400 ?_,aa 400 ?_,aa 400 ?_,aa 400 ?_,aa 400 ?_,aa 400 ?_,aa 400 ?_,aa 400 ?_⟩
  ·simp (disch:=omega) only [go_sem,seval]
   exact qZ (qI 0 5++qI 6 1++qI 8 2)
  ·simp (disch:=omega) only [go_sem,seval]
   exact qZ (qI 0 5++qI 6 1++qI 8 2)
  ·simp (disch:=omega) only [go_sem,seval]
   exact qZ (qI 0 5++qI 6 1++qI 9 1++qI 8 1)
  ·simp (disch:=omega) only [go_sem,seval]
   exact qZ (qI 0 5++qI 6 1++qI 9 1++qI 8 1)
  ·simp (disch:=omega) only [go_sem,seval]
   exact qZ (qI 0 5++qI 6 1++qI 9 1++qI 8 1)
  ·simp (disch:=omega) only [go_sem,seval]
   exact qZ (qI 0 5++qI 6 1++qI 9 1++qI 7 1)
  ·simp (disch:=omega) only [go_sem,seval]
   exact qZ (qI 0 5++qI 6 1++qI 9 1++qI 7 1)
  ·simp (disch:=omega) only [go_sem,seval]
   exact qZ (qI 0 5++qI 6 1++qI 9 1++qI 7 1)
  ·simp (disch:=omega) only [go_sem,seval]
   exact qZ (qI 0 5++qI 7 1++qI 9 1++qI 6 1)
  ·simp (disch:=omega) only [go_sem,seval]
   exact qZ (qI 0 5++qI 7 1++qI 9 1++qI 6 1)
  ·simp (disch:=omega) only [go_sem,seval]
   exact qZ (qI 0 5++qI 7 3)
  ·simp (disch:=omega) only [go_sem,seval]
   exact qZ (qI 0 5++qI 7 1++qI 9 1++qI 8 1)
  ·simp (disch:=omega) only [go_sem,seval]
   exact qZ (qI 0 5++qI 7 1++qI 9 1++qI 8 1)
  ·simp (disch:=omega) only [go_sem,seval]
   exact qZ (qI 0 5++qI 8 2++qI 7 1)
  ·simp (disch:=omega) only [go_sem,seval]
   exact qZ (qI 0 5++qI 8 2++qI 6 1)
  ·simp (disch:=omega) only [go_sem,seval]
   exact qZ (qI 0 5++qI 6 1++qI 8 2)
  ·simp (disch:=omega) only [go_sem,seval]
   exact qZ (qI 0 5++qI 6 1++qI 9 1++qI 8 1)
  ·simp (disch:=omega) only [go_sem,seval]
   exact qZ (qI 0 5++qI 6 1++qI 9 1++qI 7 1)
  ·simp (disch:=omega) only [go_sem,seval]
   exact qZ (qI 0 5++qI 7 1++qI 9 1++qI 6 1)
  ·simp (disch:=omega) only [go_sem,seval]
   exact qZ (qI 0 5++qI 7 1++qI 9 1++qI 6 1)
  ·simp (disch:=omega) only [go_sem,seval]
   exact qZ (qI 0 5++qI 7 3)
  ·simp (disch:=omega) only [go_sem,seval]
   exact qZ (qI 0 5++qI 7 3)
  ·simp (disch:=omega) only [go_sem,seval]
   exact qZ (qI 0 5++qI 7 1++qI 9 1++qI 8 1)
  ·simp (disch:=omega) only [go_sem,seval]
   exact qZ (qI 0 5++qI 7 1++qI 9 1++qI 8 1)
  ·simp (disch:=omega) only [go_sem,seval]
   exact qZ (qI 0 5++qI 8 2++qI 7 1)
  ·simp (disch:=omega) only [go_sem,seval]
   exact qZ (qI 0 5++qI 8 2++qI 7 1)
  ·simp (disch:=omega) only [go_sem,seval]
   exact qZ (qI 0 5++qI 8 2++qI 7 1)
  ·simp (disch:=omega) only [go_sem,seval]
   exact qZ (qI 0 5++qI 8 2++qI 6 1)
  ·simp (disch:=omega) only [go_sem,seval]
   exact qZ (qI 0 5++qI 8 2++qI 6 1)
  ·simp (disch:=omega) only [go_sem,seval]
   exact qZ (qI 0 5++qI 8 2++qI 6 1)
  ·simp (disch:=omega) only [go_sem,seval]
   exact qZ (qI 0 5++qI 7 1++qI 9 1++qI 5 1)
  ·simp (disch:=omega) only [go_sem,seval]
   exact qZ (qI 0 5++qI 7 1++qI 9 1++qI 5 1)
  ·simp (disch:=omega) only [go_sem,seval]
   exact qZ (qI 0 5++qI 8 2++qI 5 1)
  ·simp (disch:=omega) only [go_sem,seval]
   exact qZ (qI 0 5++qI 7 1++qI 9 1++qI 5 1)
  ·simp (disch:=omega) only [go_sem,seval]
   exact qZ (qI 0 5++qI 8 2++qI 5 1)
  ·simp (disch:=omega) only [go_sem,seval]
   exact qZ (qI 0 5++qI 8 2++qI 5 1)
  ·simp (disch:=omega) only [go_sem,seval]
   exact qZ (qI 0 5++qI 7 3)
  ·simp (disch:=omega) only [go_sem,seval]
   exact qZ (qI 0 5++qI 7 1++qI 9 1++qI 8 1)
  ·simp (disch:=omega) only [go_sem,seval]
   exact qZ (qI 0 5++qI 7 1++qI 9 1++qI 8 1)
  ·simp (disch:=omega) only [go_sem,seval]
   exact qZ (qI 0 5++qI 8 2++qI 7 1)
  ·simp (disch:=omega) only [go_sem,seval]
   exact qZ (qI 0 5++qI 7 3)
  ·simp (disch:=omega) only [go_sem,seval]
   exact qZ (qI 0 5++qI 7 1++qI 9 1++qI 8 1)
  ·simp (disch:=omega) only [go_sem,seval]
   exact qZ (qI 0 5++qI 8 2++qI 7 1)
  ·simp (disch:=omega) only [go_sem,seval]
   exact qZ (qI 0 5++qI 8 2++qI 7 1)
  ·simp (disch:=omega) only [go_sem,seval]
   exact qZ (qI 0 5++qI 8 2++qI 6 1)
  ·simp (disch:=omega) only [go_sem,seval]
   exact qZ (qI 0 5++qI 8 2++qI 5 1)
  ·simp (disch:=omega) only [go_sem,seval]
   exact qZ (qI 0 5++qI 8 2++qI 6 1)
  ·simp (disch:=omega) only [go_sem,seval]
   exact qZ (qI 0 5++qI 8 2++qI 5 1)
  ·simp (disch:=omega) only [go_sem,seval]
   exact qZ (qI 0 5++qI 6 1++qI 8 2)
  ·simp (disch:=omega) only [go_sem,seval]
   exact qZ (qI 0 5++qI 6 1++qI 9 1++qI 8 1)
  ·simp (disch:=omega) only [go_sem,seval]
   exact qZ (qI 0 5++qI 6 1++qI 9 1++qI 7 1)
  ·simp (disch:=omega) only [go_sem,seval]
   exact qZ (qI 0 5++qI 7 1++qI 9 1++qI 6 1)
  ·simp (disch:=omega) only [go_sem,seval]
   exact qZ (qI 0 5++qI 7 3)
  ·simp (disch:=omega) only [go_sem,seval]
   exact qZ (qI 0 5++qI 7 1++qI 9 1++qI 8 1)
  ·simp (disch:=omega) only [go_sem,seval]
   exact qZ (qI 0 5++qI 8 2++qI 7 1)
  ·simp (disch:=omega) only [go_sem,seval]
   exact qZ (qI 0 5++qI 8 2++qI 6 1)
  ·simp (disch:=omega) only [go_sem,seval]
   exact qZ (qI 0 5++qI 7 1++qI 9 1++qI 5 1)
  ·simp (disch:=omega) only [go_sem,seval]
   exact qZ (qI 0 5++qI 7 1++qI 9 1++qI 5 1)
  ·simp (disch:=omega) only [go_sem,seval]
   exact qZ (qI 0 5++qI 8 2++qI 5 1)
  ·simp (disch:=omega) only [go_sem,seval]
   exact qZ (qI 0 5++qI 8 2++qI 5 1)
  ·simp (disch:=omega) only [go_sem,seval]
   exact qZ (qI 0 5++qI 7 3)
  ·simp (disch:=omega) only [go_sem,seval]
   exact qZ (qI 0 5++qI 7 3)
  ·simp (disch:=omega) only [go_sem,seval]
   exact qZ (qI 0 5++qI 7 1++qI 9 1++qI 8 1)
  ·simp (disch:=omega) only [go_sem,seval]
   exact qZ (qI 0 5++qI 7 1++qI 9 1++qI 8 1)
  ·simp (disch:=omega) only [go_sem,seval]
   exact qZ (qI 0 5++qI 8 2++qI 7 1)
  ·simp (disch:=omega) only [go_sem,seval]
   exact qZ (qI 0 5++qI 8 2++qI 7 1)
  ·simp (disch:=omega) only [go_sem,seval]
   exact qZ (qI 0 5++qI 8 2++qI 6 1)
  ·simp (disch:=omega) only [go_sem,seval]
   exact qZ (qI 0 5++qI 8 2++qI 6 1)
  ·simp (disch:=omega) only [go_sem,seval]
   exact qZ (qI 0 5++qI 8 2++qI 6 1)
  ·simp (disch:=omega) only [go_sem,seval]
   exact qZ (qI 0 5++qI 8 2++qI 5 1)
  ·simp (disch:=omega) only [go_sem,seval]
   exact qZ (qI 0 5++qI 8 2++qI 5 1)
  simp (disch:=omega) only [go_sem,seval]
  exact qZ (qI 0 5++qI 8 2++qI 5 1)
 refine ab 400 ?_
 try simp (disch:=omega) only [go_sem,seval]
 refine ai (qC) (hM) (qI 0 2) qM zF (ab 400 ?_)
 simp (disch:=omega) only [go_sem,seval]
 split<;>rename_i b1<;>(try simp only [zR] at b1)<;>simp (disch:=omega) only [go_sem,seval,b1]<;>(try simp only [zQ] at b1)<;>try simp (disch:=omega) only [go_sem,seval]
 ·split<;>rename_i b2<;>(try simp only [zR] at b2)<;>simp (disch:=omega) only [go_sem,seval,b2]<;>(try simp only [zQ] at b2)<;>try simp (disch:=omega) only [go_sem,seval]
  ·rw [ht b1 zO]
   have e:=Hq k.tags t
   simp only [TagD.cs] at e
   try simp (disch:=omega) only [go_sem,seval,e]
   refine aj (qI 0 2++qI 5 1++qI 9 1) (qC) _ zXg zF zF ?_
   simp (disch:=omega) only [go_sem,seval]
   try simp
  rw [hf2 zO]
  try simp (disch:=omega) only [go_sem,seval]
  refine aj (qI 0 2++qI 5 2) (qC) _ zXg zF zF ?_
  simp (disch:=omega) only [go_sem,seval]
 rw [hf1 b1]
 try simp (disch:=omega) only [go_sem,seval]
 refine aj (qI 0 2++qI 5 2) (qC) _ zXg zF zF ?_
 simp (disch:=omega) only [go_sem,seval]
theorem oC (w:WorldD) (hs:SmallW w):aP 56 [.ag (w.cs 0)] (w.hp false) (.ag (w.cs 21)) (w.hp false++w.hp true):=by
 have ha:=hs.a
 have hb:=hs.b
 refine qE func56 ntmps56 results56 fun E hE=>?_
 refine qK (aG w.a (by have:=ha.own;omega) (by have:=ha.far;omega) (by have:=ha.subs;omega) (by have:=ha.halfs;omega) (by have:=ha.list;omega) (by have:=ha.done;omega) (by have:=ha.over;omega)) (qI 0 7) ?_
 refine qK (aG w.b (by have:=hb.own;omega) (by have:=hb.far;omega) (by have:=hb.subs;omega) (by have:=hb.halfs;omega) (by have:=hb.list;omega) (by have:=hb.done;omega) (by have:=hb.over;omega)) (qI 7 7) ?_
 refine qK (gZ w.bag hs.bag) (qI 14 1) ?_
 refine qK (gZ w.past hs.past) (qI 15 1) ?_
 refine qK (oB w.known hs.keys hs.tags) (qI 16 2) ?_
 refine qK (dt w.nums hs.nums) (qI 18 1) ?_
 refine qK (dt w.answersA hs.ansA) (qI 19 1) ?_
 refine qK (dt w.answersB hs.ansB) (qI 20 1) ?_
 exact qF (qI 0 21++qI 23 21)
theorem kB (w:WorldD) (hs:SmallW w):aP 108 [.ag (w.cs 0)] (w.hp false) (.ag (w.cs 21)) (w.hp false++w.hp true):=by
 have ha:=hs.a
 have hb:=hs.b
 have h1:=hs.bag
 have h2:=hs.past
 have h3:=hs.keys
 have h4:=hs.tags
 have h5:=hs.nums
 have h6:=hs.ansA
 have h7:=hs.ansB
 refine au func108 zXk rfl fun E hE=>ab 400 ?_
 simp (disch:=omega) only [ntmps108,results108,go_sem,seval]
 refine ai (qC) (aF w.a (by have:=ha.own;omega) (by have:=ha.far;omega) (by have:=ha.subs;omega) (by have:=ha.halfs;omega) (by have:=ha.list;omega) (by have:=ha.done;omega) (by have:=ha.over;omega)) (qI 0 7) qM zF (ab 400 ?_)
 simp (disch:=omega) only [go_sem,seval]
 refine ai (qC) (aF w.b (by have:=hb.own;omega) (by have:=hb.far;omega) (by have:=hb.subs;omega) (by have:=hb.halfs;omega) (by have:=hb.list;omega) (by have:=hb.done;omega) (by have:=hb.over;omega)) (qI 7 7) qM zF (ab 400 ?_)
 simp (disch:=omega) only [go_sem,seval]
 refine aR [(0,8),(0,5),(4,8),(4,5),(5,8)] [(0,4)] [(qU [1,3,6,2,0,1,4,2,8,5]),[1,2,3,6,7,0,4,8,5,9,10,11,12],[1,2,3,6,7,0,5,4,8,9,10,11,12],[1,2,3,6,7,0,8,4,5,9,10,11,12],[1,2,3,6,7,0,5,8,4,9,10,11,12],[1,2,3,6,7,0,8,5,4,9,10,11,12],[1,2,3,6,7,5,0,4,8,9,10,11,12],[1,2,3,6,7,5,0,8,4,9,10,11,12],(qU [1,3,6,3,0,1,4,2,9,4]),[1,2,3,6,7,8,0,5,4,9,10,11,12],[1,2,3,6,7,5,8,0,4,9,10,11,12],[1,2,3,6,7,8,5,0,4,9,10,11,12]] 21 hE (fun s=>s.at (qU [21,12]) [] (s.hp.set 21 (some ⟨[eq w 23 24 25 26 27 28 29 30 31 32 33 34 35 36 38 40 41 42 18 19 20],61,60,true,false⟩)++[some ⟨w.known.keys.map bh,1,3,true,true⟩,some ⟨w.known.tags.map TagD.cs,5,34,true,true⟩])) zXk (qC) zXk ?_ ?_
 ·simp only [aM]
  refine⟨aa 400 ?_,aa 400 ?_,aa 400 ?_,aa 400 ?_,aa 400 ?_,aa 400 ?_,aa 400 ?_,aa 400 ?_,aa 400 ?_,aa 400 ?_,aa 400 ?_,aa 400 ?_⟩
  ·simp (disch:=omega) only [go_sem,seval]
   exact qZ (qI 0 41++qI 42 1++qI 44 1)
  ·simp (disch:=omega) only [go_sem,seval]
   exact qZ (qI 0 41++qI 42 1++qI 44 1)
  ·simp (disch:=omega) only [go_sem,seval]
   exact qZ (qI 0 41++qI 43 2)
  ·simp (disch:=omega) only [go_sem,seval]
   exact qZ (qI 0 41++qI 42 1++qI 44 1)
  ·simp (disch:=omega) only [go_sem,seval]
   exact qZ (qI 0 41++qI 43 2)
  ·simp (disch:=omega) only [go_sem,seval]
   exact qZ (qI 0 41++qI 43 2)
  ·simp (disch:=omega) only [go_sem,seval]
   exact qZ (qI 0 41++qI 43 2)
  ·simp (disch:=omega) only [go_sem,seval]
   exact qZ (qI 0 41++qI 43 2)
  ·simp (disch:=omega) only [go_sem,seval]
   exact qZ (qI 0 41++qI 42 1++qI 44 1)
  ·simp (disch:=omega) only [go_sem,seval]
   exact qZ (qI 0 41++qI 43 2)
  ·simp (disch:=omega) only [go_sem,seval]
   exact qZ (qI 0 41++qI 43 2)
  simp (disch:=omega) only [go_sem,seval]
  exact qZ (qI 0 41++qI 43 2)
 refine ab 400 ?_
 try simp (disch:=omega) only [go_sem,seval]
 refine aj (qI 0 21++qI 23 14++qI 38 1++qI 40 3++qI 44 1++qI 46 1++qI 48 1) (qC) _ zXg zF zF ?_
 simp (disch:=omega) only [go_sem,seval]
theorem mi (n:Int):bj n=0\/bj n=1\/bj n=2:=by
 rw [bj]
 split
 ·exact .inr (.inl rfl)
 split
 ·exact .inr (.inr rfl)
 exact .inl rfl
def cN (w:WorldD) (side:Int) (e:EndD):WorldD:=if side=1 then { w with a:=e } else { w with b:=e }
def eJ (l:List Int) (n:Int):List Int:=if 0 < n/\nF l n=false/\l.length < 300 then l++[n] else l
theorem Ge {l:List Int} {n:Int} (h1:0 < n) (h2:nF l n=false) (h3:l.length < 300):eJ l n=l++[n]:=if_pos ⟨h1,h2,h3⟩
theorem CC {l:List Int} {n:Int} (h1:¬ 0 < n):eJ l n=l:=if_neg (fun h=>h1 h.1)
theorem CD {l:List Int} {n:Int} (h2:nF l n=true):eJ l n=l:=if_neg (by simp [h2])
theorem CF {l:List Int} {n:Int} (h3:¬ l.length < 300):eJ l n=l:=if_neg (fun h=>h3 h.2.2)
theorem fV {l:List Int} {n:Int} (h:l.length<=1048576):(eJ l n).length<=1048576:=by
 rw [eJ];split
 ·rename_i hh;have:=hh.2.2;simp;omega
 exact h
def oD (l:List LetterD) (x:LetterD):List LetterD:=if l.length < 150 then l++[x] else l
def yf (l:List LetterD) (x:LetterD):List LetterD:=if l.length < 40 then l++[x] else l
def q8 (l:List Int) (yes:Bool) (n:Int):List Int:=if yes=true/\l.length < 300 then l++[n] else l
theorem wv {l:List LetterD} {x:LetterD} (h:l.length < 150):oD l x=l++[x]:=if_pos h
theorem ww {l:List LetterD} {x:LetterD} (h:¬ l.length < 150):oD l x=l:=if_neg h
theorem CG {l:List LetterD} {x:LetterD} (h:l.length < 40):yf l x=l++[x]:=if_pos h
theorem CH {l:List LetterD} {x:LetterD} (h:¬ l.length < 40):yf l x=l:=if_neg h
theorem CI {l:List Int} {n:Int} (h:l.length < 300):q8 l true n=l++[n]:=if_pos ⟨rfl,h⟩
theorem CJ {l:List Int} {b:Bool} {n:Int} (h:¬ l.length < 300):q8 l b n=l:=if_neg (fun hh=>h hh.2)
theorem lF {l:List Int} {n:Int}:q8 l false n=l:=if_neg zP
theorem EF {l:List LetterD} {x:LetterD} (h:l.length<=1048576):(oD l x).length<=1048576:=by
 rw [oD];split
 ·simp;omega
 exact h
theorem MC {l:List LetterD} {x:LetterD} (h:l.length<=1048576):(yf l x).length<=1048576:=by
 rw [yf];split
 ·simp;omega
 exact h
theorem wx {l:List Int} {b:Bool} {n:Int} (h:l.length<=1048576):(q8 l b n).length<=1048576:=by
 rw [q8];split
 ·rename_i hh;have:=hh.2;simp;omega
 exact h
theorem oE {k:KnownD} {t:TagD} (h:k.tags.length<=1048576):(fM k t).tags.length<=1048576:=by
 rw [fM];split
 ·rename_i hh;have:=hh.2;simp;omega
 exact h
theorem k_ {k:KnownD} {t:TagD}:(fM k t).keys=k.keys:=by
 rw [fM];split<;>rfl
def pF (side k:Int) (x:LetterD):Bool:=decide (x.kind=5) && decide (side=k)
theorem CK {side k:Int} {x:LetterD} (h:¬ x.kind=5):pF side k x=false:=by simp [pF,h]
theorem CM {side k:Int} {x:LetterD} (h:¬ side=k):pF side k x=false:=by simp [pF,h]
theorem CN {k:Int} {x:LetterD} (h:x.kind=5):pF k k x=true:=by simp [pF,h]
def mj (side:Int) (w:WorldD) (x:LetterD):WorldD:=
 { w with past:=oD w.past x,answersA:=q8 w.answersA (pF side 1 x) w.a.now,answersB:=q8 w.answersB (pF side 2 x) w.b.now }
def vq (w:WorldD) (x:LetterD):WorldD:={ w with known:=fM w.known x.tag,nums:=eJ (eJ (eJ w.nums x.nonce) x.give) x.sgn }
def dS (side:Int) (w:WorldD) (x:LetterD):WorldD:=
 if bj x.to=0 then vq (mj side w x) x else { mj side w x with bag:=yf w.bag x }
def ay (side:Int) (w:WorldD) (l:List LetterD):WorldD:=l.foldl (dS side) w
theorem mX {side:Int} {w:WorldD} {l:List LetterD} {k:Nat} (h:k < l.length):ay side w (l.drop k)=ay side (dS side w l[k]) (l.drop (k+1)):=by
 rw [Qg h];rfl
theorem oY {side:Int} {w:WorldD} {l:List LetterD} {k:Nat} (h:l.length<=k):ay side w (l.drop k)=w:=by
 rw [Qj h];rfl
def yg (w:WorldD) (side:Int) (l:List LetterD):WorldD:=if side=1\/side=2 then ay side w l else w
def ik (w:WorldD) (x:LetterD):WorldD:=
 if bj x.to=0 then w else yg (cN w (bj x.to) (cR (cV w (bj x.to)) x).1) (bj x.to) (cR (cV w (bj x.to)) x).2
structure SmallP2 (w:WorldD):Prop where
 bag:w.bag.length<=1048576
 past:w.past.length<=1048576
 keys:w.known.keys.length<=1048576
 tags:w.known.tags.length<=1048576
 nums:w.nums.length<=1048576
 ansA:w.answersA.length<=1048576
 ansB:w.answersB.length<=1048576
theorem SmallW.rest {w:WorldD} (h:SmallW w):SmallP2 w:=⟨h.bag,h.past,h.keys,h.tags,h.nums,h.ansA,h.ansB⟩
theorem yh {side:Int} {w:WorldD} {x:LetterD}:(dS side w x).a=w.a/\(dS side w x).b=w.b/\(dS side w x).wroteA=w.wroteA/\(dS side w x).wroteB=w.wroteB/\(dS side w x).readA=w.readA/\(dS side w x).readB=w.readB:=by
 rw [dS];split<;>exact⟨rfl,rfl,rfl,rfl,rfl,rfl⟩
theorem fh {side:Int} {w:WorldD} {x:LetterD} (h:SmallP2 w):SmallP2 (dS side w x):=by
 rw [dS];split
 ·exact⟨h.bag,EF h.past,by rw [vq,mj,k_];exact h.keys,oE h.tags,fV (fV (fV h.nums)),wx h.ansA,wx h.ansB⟩
 exact⟨MC h.bag,EF h.past,h.keys,h.tags,h.nums,wx h.ansA,wx h.ansB⟩
theorem aQ {side:Int}:∀ {l:List LetterD} {w:WorldD},(ay side w l).a=w.a/\(ay side w l).b=w.b/\(ay side w l).wroteA=w.wroteA/\(ay side w l).wroteB=w.wroteB/\(ay side w l).readA=w.readA/\(ay side w l).readB=w.readB
 |[],w=>⟨rfl,rfl,rfl,rfl,rfl,rfl⟩
 |x::l,w=>by
  have h1:=aQ (side:=side) (l:=l) (w:=dS side w x)
  have h2:=yh (side:=side) (w:=w) (x:=x)
  rw [show ay side w (x::l)=ay side (dS side w x) l from rfl]
  exact⟨h1.1.trans h2.1,h1.2.1.trans h2.2.1,h1.2.2.1.trans h2.2.2.1,h1.2.2.2.1.trans h2.2.2.2.1,h1.2.2.2.2.1.trans h2.2.2.2.2.1,h1.2.2.2.2.2.trans h2.2.2.2.2.2⟩
theorem vr {side:Int}:∀ {l:List LetterD} {w:WorldD},SmallP2 w->SmallP2 (ay side w l)
 |[],w,h=>h
 |x::l,w,h=>vr (l:=l) (fh h)
theorem Gf {l:List HalfD} {h:HalfD} (hl:l.length<=1048576):(ck l h).1.length<=1048576:=by
 rw [ck];split
 ·rename_i hh;have:=ci hh;dsimp only;omega
 exact hl
theorem yi {l:List AddrD} {a:AddrD} (hl:l.length<=1048576):(bu l a).1.length<=1048576:=by
 rw [bu];split
 ·rename_i hh;have:=mS hh;dsimp only;omega
 exact hl
theorem vt {l:List AddrD} {n:Int} (hl:l.length<=1048576):(bC l n).1.length<=1048576:=by
 rw [bC];split
 ·exact hl
 simp only [Qc,Qb,P9];omega
theorem EG {l:List HalfD} {r:RoadD} (hl:l.length<=1048576):(dO l r).length<=1048576:=by
 rw [dO];split
 ·exact hl
 simp only [Qc,Qb,P9];omega
theorem uo {e:EndD} (h:aq e=true):e.done.length<=256/\e.over.length<=256:=by
 simp only [aq,P6] at h
 exact⟨by have:=x5 (l:=e.done) (m:=e.own) (by simp_all);omega,by have:=x5 (l:=e.over) (m:=e.far) (by simp_all);omega⟩
theorem MD {e:EndD} {x:LetterD} (h:0<=jj e x):aq e=true:=by
 rcases iz e x with h1|⟨n,_,_,_,h2,_⟩
 ·omega
 exact h2
theorem vU {e:EndD} {x:LetterD} (hs:Small e):Small (aW e x).1:=by
 rw [aW];split
 ·rename_i h
  simp only [ku,P6,decide_eq_true_eq] at h
  exact⟨hs.own,by simp [gF],by simp only [Qc,Qk];omega,hs.halfs,hs.list,hs.done,hs.over⟩
 exact hs
theorem yj {e:EndD} {x:LetterD} (hs:Small e):Small (bE e x).1:=by
 rw [bE];split
 ·exact⟨hs.own,by simp [gF],by simpa only [zk] using hs.subs,hs.halfs,hs.list,hs.done,hs.over⟩
 exact hs
theorem yk {e:EndD} {x:LetterD} (hs:Small e):Small (cc e x).1:=by
 rw [cc];split
 ·split
  ·exact⟨hs.own,hs.far,hs.subs,by simpa only [zk] using hs.halfs,hs.list,hs.done,hs.over⟩
  exact⟨hs.own,hs.far,hs.subs,Gf hs.halfs,hs.list,hs.done,hs.over⟩
 exact hs
theorem q9 {e:EndD} {x:LetterD} (hs:Small e):Small (ba e x).1:=by
 rw [ba];split
 ·exact⟨hs.own,hs.far,by simpa only [zk] using hs.subs,hs.halfs,hs.list,hs.done,hs.over⟩
 exact hs
theorem q_ {e:EndD} {x:LetterD} (hs:Small e):Small (aH e x).1:=by
 rw [aH];split
 ·split
  ·rename_i h
   simp only [vi,P6,decide_eq_true_eq] at h
   refine⟨hs.own,hs.far,?_,EG hs.halfs,hs.list,hs.done,hs.over⟩
   split<;>simp only [cE,Qc,zk,Qk]<;>omega
  split<;>exact hs
 exact hs
theorem sP {e:EndD} {x:LetterD} (hs:Small e):Small (bl e x).1:=by
 rw [bl];dsimp only;split
 ·exact⟨hs.own,hs.far,by simpa only [cE,zk] using hs.subs,hs.halfs,hs.list,hs.done,hs.over⟩
 exact hs
theorem yl {e:EndD} {x:LetterD} (hs:Small e):Small (cv e x).1:=by
 rw [cv];split
 ·exact⟨hs.own,yi hs.far,hs.subs,hs.halfs,hs.list,hs.done,hs.over⟩
 exact hs
theorem ym {e:EndD} {x:LetterD} (hs:Small e):Small (cx e x).1:=by
 rw [cx];dsimp only;split
 ·exact⟨by simpa only [zk] using hs.own,hs.far,hs.subs,hs.halfs,hs.list,hs.done,hs.over⟩
 exact hs
theorem yn {e:EndD} {x:LetterD} (hs:Small e):Small (cy e x).1:=by
 rw [cy];dsimp only;split
 ·rename_i h
  simp only [qy,P6,decide_eq_true_eq] at h
  have:=(uo (MD h.1)).2
  exact⟨hs.own,vt hs.far,by simpa only [List.length_map] using hs.subs,hs.halfs,hs.list,hs.done,by have:=ow e.over x.id;dsimp only;omega⟩
 exact hs
theorem yo {e:EndD} {x:LetterD} (hs:Small e):Small (cA e x).1:=by
 rw [cA];split
 ·exact⟨hs.own,hs.far,hs.subs,hs.halfs,oA hs.list,hs.done,hs.over⟩
 exact hs
theorem yp {e:EndD} {x:LetterD} (hs:Small e):Small (cm e x).1:=by
 rw [cm];dsimp only;split
 ·exact⟨hs.own,hs.far,hs.subs,hs.halfs,hs.list,hs.done,hs.over⟩
 exact hs
theorem vV {e:EndD} {x:LetterD} (hs:Small e):Small (bP e x).1:=by
 rw [bP];dsimp only;split
 ·exact⟨hs.own,hs.far,by simpa only [cE,zk] using hs.subs,hs.halfs,hs.list,hs.done,hs.over⟩
 exact hs
theorem sQ {e:EndD} {x:LetterD} {Q:EndD×List LetterD->Prop} (h0:Q (e,[])) (h1:Q (aW e x)) (h2:Q (bE e x)) (h4:Q (cc e x)) (h5:Q (ba e x)) (h6:Q (aH e x)) (h7:Q (bl e x)) (h8:Q (cv e x)) (h9:Q (cx e x)) (h10:Q (cy e x)) (h11:Q (cA e x)) (h12:Q (cm e x)) (h13:Q (bP e x)):Q (cR e x):=by
 by_cases hc:dJ e x=true
 ·by_cases k1:x.kind=1
  ·rw [yb hc k1];exact h1
  by_cases k2:x.kind=2
  ·rw [yc hc k2];exact h2
  by_cases k4:x.kind=4
  ·rw [Cw hc k4];exact h4
  by_cases k5:x.kind=5
  ·rw [Cx hc k5];exact h5
  by_cases k6:x.kind=6
  ·rw [Cy hc k6];exact h6
  by_cases k7:x.kind=7
  ·rw [Cz hc k7];exact h7
  by_cases k8:x.kind=8
  ·rw [CA hc k8];exact h8
  by_cases k9:x.kind=9
  ·rw [CB hc k9];exact h9
  by_cases k10:x.kind=10
  ·rw [sL hc k10];exact h10
  by_cases k11:x.kind=11
  ·rw [wt hc k11];exact h11
  by_cases k12:x.kind=12
  ·rw [wu hc k12];exact h12
  by_cases k13:x.kind=13
  ·rw [sM hc k13];exact h13
  rw [Gd (by intro k hk;omega)];exact h0
 rw [um (by simpa using hc)];exact h0
theorem jE {e:EndD} {x:LetterD} (hs:Small e):Small (cR e x).1:=
 sQ (Q:=fun r=>Small r.1) hs (vU hs) (yj hs) (yk hs) (q9 hs) (q_ hs) (sP hs) (yl hs) (ym hs) (yn hs) (yo hs) (yp hs) (vV hs)
theorem sR {e:EndD} {x:LetterD}:(cR e x).2.length<=1:=by
 refine sQ (Q:=fun r=>r.2.length<=1) zP ?_ ?_ ?_ ?_ ?_ ?_ ?_ ?_ ?_ ?_ ?_ ?_
 ·rw [aW];split<;>simp
 ·rw [bE];split<;>simp
 ·rw [cc];split
  ·split<;>simp
  simp
 ·rw [ba];split<;>simp
 ·rw [aH];split
  ·split
   ·simp
   split<;>simp
  simp
 ·rw [bl];simp
 ·rw [cv];split<;>simp
 ·rw [cx];simp
 ·rw [cy];simp
 ·rw [cA];split<;>simp
 ·rw [cm];simp
 rw [bP];simp
structure FineO (o:OutD):Prop where
 base:0<=o.base/\o.base<=1000000000
 room:1<=o.room/\o.room<=200
 len:(o.text.length:Int)<=o.room
 sent:o.base<=o.sent/\o.sent<=o.base+(o.text.length:Int)
theorem dC {o:OutD} (h:outOk o=true):FineO o:=by
 simp only [outOk,fv,bU,P6,decide_eq_true_eq] at h
 obtain⟨⟨⟨h1,h2⟩,h3⟩,h4,h5⟩:=h
 rw [He zO] at h5
 exact⟨h1,h2,h3,h4,h5⟩
def lW (o:OutD) (t:List UInt8):Nat:=min t.length (o.room - (o.text.length:Int)).toNat
def lG (o:OutD) (t:List UInt8):Bool:=outOk o && decide (o.base+(o.text.length:Int)+(lW o t:Int)<=1000000000)
def gJ (o:OutD) (t:List UInt8):OutD×Nat:=if lG o t then ({ o with text:=o.text++t.take (lW o t) },lW o t) else (o,0)
theorem EH {o:OutD} {t:List UInt8} (h:lG o t=true):gJ o t=({ o with text:=o.text++t.take (lW o t) },lW o t):=if_pos h
theorem EI {o:OutD} {t:List UInt8} (h:lG o t=false):gJ o t=(o,0):=if_neg (by simp [h])
def write (e:EndD) (t:List UInt8):EndD×Nat:=if aq e then ({ e with out:=(gJ e.out t).1 },(gJ e.out t).2) else (e,0)
theorem Ht {e:EndD} {t:List UInt8} (h:aq e=true):write e t=({ e with out:=(gJ e.out t).1 },(gJ e.out t).2):=if_pos h
theorem Hu {e:EndD} {t:List UInt8} (h:aq e=false):write e t=(e,0):=if_neg (by simp [h])
theorem CQ (o:OutD) (t:List UInt8):lW o t<=t.length:=Nat.min_le_left _ _
theorem IR (o:OutD) (t:List UInt8):(gJ o t).2<=t.length:=by
 rw [gJ];split
 ·exact CQ o t
 exact zG _
theorem sS (e:EndD) (t:List UInt8):(write e t).2<=t.length:=by
 rw [write];split
 ·exact IR _ _
 exact zG _
def Ah (p:PiecesD) (many:Int):Nat:=min many.toNat p.ready.length
def uq (p:PiecesD) (many:Int):Bool:=piecesOk p && decide (0<=many) && decide (p.read+(Ah p many:Int)<=1000000000)
def cr (p:PiecesD) (many:Int):PiecesD×List UInt8:=if uq p many then (⟨p.read+(Ah p many:Int),p.ready.drop (Ah p many),p.list⟩,p.ready.take (Ah p many)) else (p,[])
theorem O4 {p:PiecesD} {m:Int} (h:uq p m=true):cr p m=(⟨p.read+(Ah p m:Int),p.ready.drop (Ah p m),p.list⟩,p.ready.take (Ah p m)):=if_pos h
theorem O5 {p:PiecesD} {m:Int} (h:uq p m=false):cr p m=(p,[]):=if_neg (by simp [h])
def bJ (e:EndD) (many:Int):EndD×List UInt8:=if aq e then ({ e with inp:=(cr e.inp many).1 },(cr e.inp many).2) else (e,[])
theorem Hv {e:EndD} {m:Int} (h:aq e=true):bJ e m=({ e with inp:=(cr e.inp m).1 },(cr e.inp m).2):=if_pos h
theorem Hw {e:EndD} {m:Int} (h:aq e=false):bJ e m=(e,[]):=if_neg (by simp [h])
def jc (o:OutD):Bool:=outOk o && !decide (o.sent=o.base+(o.text.length:Int))
def cX (o:OutD):List UInt8:=(o.text.drop (o.sent - o.base).toNat).take 20
def eh (o:OutD):PieceD×Bool:=if jc o then (⟨o.sent,cX o⟩,true) else (⟨0,[]⟩,false)
theorem IS {o:OutD} (h:jc o=true):eh o=(⟨o.sent,cX o⟩,true):=if_pos h
theorem ME {o:OutD} (h:jc o=false):eh o=(⟨0,[]⟩,false):=if_neg (by simp [h])
def sT (o:OutD):OutD:=if jc o then { o with sent:=o.sent+((cX o).length:Int) } else o
theorem PX {o:OutD} (h:jc o=true):sT o={ o with sent:=o.sent+((cX o).length:Int) }:=if_pos h
def mY (e:EndD):Bool:=jc e.out && decide (0<=bD e)
def EJ (s:SubD) (o:OutD):LetterD:=bc s.road { ac with kind:=11,sgn:=s.give,pos:=o.sent,text:=cX o }
def fi (e:EndD):EndD×List LetterD:=
 if mY e then ({ e with out:=sT e.out,pick:=jF e.pick },[EJ (bH e.subs (bD e).toNat) e.out]) else (e,[])
theorem KN {e:EndD} (h:mY e=false):fi e=(e,[]):=if_neg (by simp [h])
theorem KO {e:EndD} {n:Nat} (h:mY e=true) (hk:bD e=(n:Int)) (hn:n < e.subs.length):
  fi e=({ e with out:={ e.out with sent:=e.out.sent+((cX e.out).length:Int) },pick:=jF e.pick },[EJ e.subs[n] e.out]):=by
 have h1:jc e.out=true:=by simp only [mY,P6] at h;exact h.1
 rw [fi,if_pos h,PX h1,hk,Qf,bQ hn]
def dP:Nat->EndD->EndD×List LetterD
 |0,e=>(e,[])
 |k+1,e=>((dP k (fi e).1).1,(fi e).2++(dP k (fi e).1).2)
def aY (e:EndD) (t:List UInt8):EndD×List LetterD:=dP 3 (write e t).1
def yr (e:EndD) (k:Int):Bool:=aq e && bU k 0 ((e.subs.length:Int) - 1) && decide ((bH e.subs k.toNat).state=3)
def bI (e:EndD) (k:Int):EndD×List LetterD:=
 if yr e k then ({ e with subs:=cE e.subs k.toNat 4 },[bc (bH e.subs k.toNat).road { ac with kind:=13,sgn:=(bH e.subs k.toNat).give }]) else (e,[])
def IT (e:EndD) (a:AddrD):Bool:=aq e && decide (bs e.own a.id < 0) && !nF e.done a.id
def aK (e:EndD) (a:AddrD):EndD×Bool:=
 if IT e a then ({ e with own:=(bu e.own { a with told:=false }).1 },(bu e.own { a with told:=false }).2) else (e,false)
def ys (e:EndD) (s:SubD) (a:AddrD):LetterD:=bc s.road { ac with kind:=8,tag:=⟨3,e.key,e.peer,a.id,a.addr⟩,sgn:=s.give,id:=a.id,addr:=a.addr,spare:=a.spare }
def IU (e:EndD):Bool:=aq e && decide (e.state=2) && !decide ((jm e.subs).length=0)
def df (e:EndD):List LetterD:=if IU e then (e.own.filter fun a=> !a.told).map (ys e (bH e.subs ((jm e.subs).headD 0))) else []
def gq (a:Int) (s:SubD):SubD:=if s.road.own=a then { s with state:=4 } else s
def Bo (id:Int) (s:SubD):LetterD:=bc s.road { ac with kind:=10,sgn:=s.give,id:=id }
def Gg (e:EndD) (n:Int):Bool:=aq e && decide (e.state=2) && decide (0<=bs e.own n)
def fI (e:EndD) (n:Int):List SubD:=e.subs.map (gq (ox e.own (bs e.own n).toNat).addr)
def bf (e:EndD) (n:Int):EndD×List LetterD:=
 if Gg e n then ({ e with own:=(bC e.own n).1,done:=jC e.done n,subs:=fI e n },(jm (fI e n)).map fun k=>Bo n (bH (fI e n) k)) else (e,[])
def dR (b:BucketD):BucketD:=if bucketOk b then { b with cur:=min b.burst (b.cur+b.rate) } else b
def co (l:List HalfD) (now:Int):List HalfD:=l.filter fun h=>decide (now < h.till)
def gK (o:OutD):OutD:=if outOk o then { o with sent:=o.base } else o
def IV (e:EndD):Bool:=aq e && decide (e.now < 1000000000) && e.subs.all fun s=>decide (s.tries < 1000000000)
def ia (e:EndD) (s:SubD):LetterD:=bc s.road { ac with kind:=4,token:=eu (3 - e.side),nonce:=s.mine,give:=s.take,spare:=s.spare }
def dT (s:SubD):SubD:=if s.state=1\/s.state=2 then (if s.state=2/\9<=s.tries+1 then { s with tries:=s.tries+1,state:=4 } else { s with tries:=s.tries+1 }) else s
def f8 (e:EndD) (s:SubD):List LetterD:=
 if s.state=1\/s.state=2 then (if s.state=2/\9<=s.tries+1 then [] else if (s.tries+1).tmod 3≠0 then [] else if s.state=1 then [ia e s] else [cF e s]) else []
def nD (e:EndD):EndD:={ e with now:=e.now+1,bucket:=dR e.bucket,halfs:=co e.halfs (e.now+1),out:=gK e.out }
def dM (e:EndD) (l:List LetterD):EndD×List LetterD:=((dP 3 e).1,l++df e++(dP 3 e).2)
def tick (e:EndD):EndD×List LetterD:=
 if IV e then (if e.state=2 then dM { nD e with subs:=e.subs.map dT } (e.subs.flatMap (f8 e)) else dM (nD e) []) else (e,[])
def gk (l:List SubD):List RoadD:=(l.filter fun s=>s.state != 4).map SubD.road
def jG (l:List AddrD) (n:Int):Bool:=l.any fun a=>a.addr == n
def bW (l:List AddrD) (n:Int):Bool:=l.foldl (fun b a=>if a.addr=n then a.spare else b) false
def Gh (e:EndD) (r:RoadD):Bool:=
 aq e && decide (e.state=2) && oh r && decide (bK e.subs r < 0) && j4 e.own r.own && jG e.far r.far && decide (e.subs.length < 8) && bU e.draw 1 999999996
def gL (e:EndD) (r:RoadD) (spare:Bool):SubD:=⟨r,1,spare,e.draw,0,0,e.draw+2,0⟩
def gM (e:EndD) (r:RoadD) (spare:Bool):EndD×List LetterD:=
 if Gh e r then ({ e with subs:=e.subs++[gL e r spare],draw:=e.draw+4 },[ia e (gL e r spare)]) else (e,[])
def il (far:List AddrD):EndD->List RoadD->EndD×List LetterD
 |e,[]=>(e,[])
 |e,r::l=>((il far (gM e r (bW far r.far)).1 l).1,(gM e r (bW far r.far)).2++(il far (gM e r (bW far r.far)).1 l).2)
def manage (e:EndD):EndD×List LetterD:=
 if aq e=true/\e.side=1 then il e.far e (fS (wanted e.policy e.own e.far) (gk e.subs)) else (e,[])
def fw (w:WorldD) (own:Bool):Hp:=[some ⟨w.a.own.map AddrD.cs,4,32,own,true⟩,some ⟨w.a.far.map AddrD.cs,4,32,own,true⟩,some ⟨w.a.subs.map SubD.cs,10,115,own,true⟩,some ⟨w.a.halfs.map HalfD.cs,8,214,own,true⟩,some ⟨w.a.inp.list.map PieceD.cs,2,223,own,true⟩,some ⟨w.a.done.map bh,1,3,own,true⟩,some ⟨w.a.over.map bh,1,3,own,true⟩,some ⟨w.b.own.map AddrD.cs,4,32,own,true⟩,some ⟨w.b.far.map AddrD.cs,4,32,own,true⟩,some ⟨w.b.subs.map SubD.cs,10,115,own,true⟩,some ⟨w.b.halfs.map HalfD.cs,8,214,own,true⟩,some ⟨w.b.inp.list.map PieceD.cs,2,223,own,true⟩,some ⟨w.b.done.map bh,1,3,own,true⟩,some ⟨w.b.over.map bh,1,3,own,true⟩]
def fy (w:WorldD) (own:Bool):Hp:=[some ⟨w.bag.map LetterD.cs,19,36,own,true⟩,some ⟨w.past.map LetterD.cs,19,36,own,true⟩,some ⟨w.known.keys.map bh,1,3,own,true⟩,some ⟨w.known.tags.map TagD.cs,5,34,own,true⟩,some ⟨w.nums.map bh,1,3,own,true⟩,some ⟨w.answersA.map bh,1,3,own,true⟩,some ⟨w.answersB.map bh,1,3,own,true⟩]
attribute [go_sem] fw fy
theorem iN (w:WorldD) (e:EndD):aP 100 [.sc (.pt 28 0 0),.sc (.int .i64 1),.ag (e.cs 21)] (w.hp false++(e.hp false++[some ⟨[w.cs 0],61,60,true,false⟩])) (.tu [])
  (w.hp false++(e.hp false++[some ⟨[(eq { w with a:=e } 21 22 23 24 25 26 27 7 8 9 10 11 12 13 14 15 16 17 18 19 20)],61,60,true,false⟩])):=by
 refine ix func100 ntmps100 results100 fun E hE=>?_
 exact cP (qI 0 29)
theorem iO (w:WorldD) (e:EndD):aP 100 [.sc (.pt 28 0 0),.sc (.int .i64 2),.ag (e.cs 21)] (w.hp false++(e.hp false++[some ⟨[w.cs 0],61,60,true,false⟩])) (.tu [])
  (w.hp false++(e.hp false++[some ⟨[(eq { w with b:=e } 0 1 2 3 4 5 6 21 22 23 24 25 26 27 14 15 16 17 18 19 20)],61,60,true,false⟩])):=by
 refine ix func100 ntmps100 results100 fun E hE=>?_
 exact cP (qI 0 29)
theorem fj (w:WorldD) (e:EndD):aP 179 [.ag (w.cs 0),.sc (.int .i64 1),.ag (e.cs 21)] (w.hp false++e.hp false) (.ag (eq { w with a:=e } 21 22 23 24 25 26 27 7 8 9 10 11 12 13 14 15 16 17 18 19 20)) (w.hp false++e.hp false):=by
 refine ix func179 ntmps179 results179 fun E hE=>?_
 exact cP (qI 0 28)
theorem fk (w:WorldD) (e:EndD):aP 179 [.ag (w.cs 0),.sc (.int .i64 2),.ag (e.cs 21)] (w.hp false++e.hp false) (.ag (eq { w with b:=e } 0 1 2 3 4 5 6 21 22 23 24 25 26 27 14 15 16 17 18 19 20)) (w.hp false++e.hp false):=by
 refine ix func179 ntmps179 results179 fun E hE=>?_
 exact cP (qI 0 28)
theorem gf (w:WorldD) (n:Int) (h0:w.nums.length<=1048576):aP 234 [.ag (w.cs 0),.sc (.int .i64 n)] [some ⟨w.a.own.map AddrD.cs,4,32,false,true⟩,some ⟨w.a.far.map AddrD.cs,4,32,false,true⟩,some ⟨w.a.subs.map SubD.cs,10,115,false,true⟩,some ⟨w.a.halfs.map HalfD.cs,8,214,false,true⟩,some ⟨w.a.inp.list.map PieceD.cs,2,223,false,true⟩,some ⟨w.a.done.map bh,1,3,false,true⟩,some ⟨w.a.over.map bh,1,3,false,true⟩,some ⟨w.b.own.map AddrD.cs,4,32,false,true⟩,some ⟨w.b.far.map AddrD.cs,4,32,false,true⟩,some ⟨w.b.subs.map SubD.cs,10,115,false,true⟩,some ⟨w.b.halfs.map HalfD.cs,8,214,false,true⟩,some ⟨w.b.inp.list.map PieceD.cs,2,223,false,true⟩,some ⟨w.b.done.map bh,1,3,false,true⟩,some ⟨w.b.over.map bh,1,3,false,true⟩,some ⟨w.bag.map LetterD.cs,19,36,false,true⟩,some ⟨w.past.map LetterD.cs,19,36,false,true⟩,some ⟨w.known.keys.map bh,1,3,false,true⟩,some ⟨w.known.tags.map TagD.cs,5,34,false,true⟩,some ⟨w.nums.map bh,1,3,true,true⟩,some ⟨w.answersA.map bh,1,3,false,true⟩,some ⟨w.answersB.map bh,1,3,false,true⟩] (.ag (eq { w with nums:=eJ w.nums n } 0 1 2 3 4 5 6 7 8 9 10 11 12 13 14 15 16 17 21 19 20))
  [some ⟨w.a.own.map AddrD.cs,4,32,false,true⟩,some ⟨w.a.far.map AddrD.cs,4,32,false,true⟩,some ⟨w.a.subs.map SubD.cs,10,115,false,true⟩,some ⟨w.a.halfs.map HalfD.cs,8,214,false,true⟩,some ⟨w.a.inp.list.map PieceD.cs,2,223,false,true⟩,some ⟨w.a.done.map bh,1,3,false,true⟩,some ⟨w.a.over.map bh,1,3,false,true⟩,some ⟨w.b.own.map AddrD.cs,4,32,false,true⟩,some ⟨w.b.far.map AddrD.cs,4,32,false,true⟩,some ⟨w.b.subs.map SubD.cs,10,115,false,true⟩,some ⟨w.b.halfs.map HalfD.cs,8,214,false,true⟩,some ⟨w.b.inp.list.map PieceD.cs,2,223,false,true⟩,some ⟨w.b.done.map bh,1,3,false,true⟩,some ⟨w.b.over.map bh,1,3,false,true⟩,some ⟨w.bag.map LetterD.cs,19,36,false,true⟩,some ⟨w.past.map LetterD.cs,19,36,false,true⟩,some ⟨w.known.keys.map bh,1,3,false,true⟩,some ⟨w.known.tags.map TagD.cs,5,34,false,true⟩,none,some ⟨w.answersA.map bh,1,3,false,true⟩,some ⟨w.answersB.map bh,1,3,false,true⟩,some ⟨(eJ w.nums n).map bh,1,3,true,true⟩]:=by
 have hH:=iK w.nums n h0
 have ht:=Ge (l:=w.nums) (n:=n)
 have hf1:=CC (l:=w.nums) (n:=n)
 have hf2:=CD (l:=w.nums) (n:=n)
 have hf3:=CF (l:=w.nums) (n:=n)
 generalize eJ w.nums n=R at*
 refine ix func234 ntmps234 results234 fun E hE=>?_
 refine qB (fun b1=>?_) fun b1=>?_
 ·refine qB (fun b2=>?_) fun b2=>?_
  ·refine qK (hH) (qI 18 1) ?_
   refine qB (fun b3=>?_) fun b3=>?_
   ·rw [ht b1 b3 zO]
    refine qX ?_
    refine N5 (qI 0 21++qI 24 1) ?_
    first|exact⟨⟩|simp [bh]
   rw [hf2 b3]
   refine qX ?_
   exact cP (qI 0 21++qI 18 1)
  rw [hf3 zO]
  refine qX ?_
  exact cP (qI 0 21++qI 18 1)
 rw [hf1 b1]
 refine qX ?_
 exact cP (qI 0 21++qI 18 1)
def lH (x:LetterD):List Int:=[x.nonce,x.give,x.sgn]
theorem yt {l:List Int} {m:List Int} {k:Nat} (h:k < l.length):(l.drop k).foldl eJ m=(l.drop (k+1)).foldl eJ (eJ m l[k]):=by
 rw [Qg h];rfl
theorem Bp {l:List Int} {m:List Int} {k:Nat} (h:l.length<=k):(l.drop k).foldl eJ m=m:=by
 rw [Qj h];rfl
theorem gN (w:WorldD) (l:List LetterD) (hw:SmallP2 w) (hl:l.length<=1048576):aP 101 [.sc (.pt 21 0 0),.sc (.int .i64 1),.sc (.sl 22 0 l.length)]
  (fw w false++(fy w true++[some ⟨[w.cs 0],61,60,true,false⟩,some ⟨l.map LetterD.cs,19,36,false,true⟩])) (.tu [])
  (fw w false++((nH 7++[some ⟨[(eq (ay 1 w l) 0 1 2 3 4 5 6 7 8 9 10 11 12 13 23 24 25 26 27 28 29)],61,60,true,false⟩,some ⟨l.map LetterD.cs,19,36,false,true⟩])++fy (ay 1 w l) true)):=by
 obtain⟨R,hR⟩:∃ R,R=ay 1 w l:=⟨_,rfl⟩
 rw [<-hR]
 have hl2:l.length<=9223372036854775807:=zO
 refine aV func101 zXk rfl fun E hE=>ab 400 ?_
 simp (disch:=omega) only [ntmps101,results101,go_sem,seval]
 refine gV 23 hE (fun s (y:Nat×WorldD)=>s.at (qU [2,1,7,1,9,1,13,145]) [(12,.sc (.int .i64 (y.1:Nat)))] (fw w false++((nH 7++[some ⟨[(eq y.2 0 1 2 3 4 5 6 7 8 9 10 11 12 13 23 24 25 26 27 28 29)],61,60,true,false⟩,some ⟨l.map LetterD.cs,19,36,false,true⟩])++(fy y.2 true)))) (fun (y:Nat×WorldD)=>y.1<=l.length/\y.2.a=w.a/\y.2.b=w.b/\SmallP2 y.2/\R=ay 1 y.2 (l.drop y.1)) (fun (y:Nat×WorldD)=>l.length - y.1) (0,w) (qI 0 23++qI 14 7) (qC) (⟨zG _,rfl,rfl,hw,hR⟩) (ae zF zF ?_) fun y hy N hN=>?_
 ·try simp (disch:=omega) only [go_sem,seval]
 obtain⟨i,u⟩:=y
 obtain⟨hi,ha,hb,hS,hu⟩:=hy
 obtain⟨ua,ub,bag,past,wA,wB,rA,rB,known,nums,nsA,nsB⟩:=u
 obtain⟨keys,tags⟩:=known
 dsimp only at hi ha hb hu
 subst ha hb
 have s1:=hS.bag
 have s2:=hS.past
 have s3:=hS.keys
 have s4:=hS.tags
 have s5:=hS.nums
 have s6:=hS.ansA
 have s7:=hS.ansB
 dsimp only at s1 s2 s3 s4 s5 s6 s7
 refine eO 21 400 ?_
 try simp (disch:=omega) only [go_sem,seval]
 split<;>rename_i h<;>(try simp only [decide_eq_true_eq,decide_eq_false_iff_not,Qi] at h)
 rotate_left
 ·have e:i=l.length:=zO
  subst e
  rw [oY (Qn _)] at hu
  subst hu
  try simp (disch:=omega) only [go_sem,seval]
  refine aO (qI 0 30) (qC) _ zXg zF zF ?_
  simp (disch:=omega) only [go_sem,seval]
 rw [mX h] at hu
 generalize hx:l[i]=x at hu
 have hget:=aC (enc:=LetterD.cs) h
 rw [hx] at hget
 try simp (disch:=omega) only [go_sem,seval,hget]
 obtain⟨p1,hp1⟩:∃ p,p=oD past x:=⟨_,rfl⟩
 refine fE 23 hE (fun s=>s.at (qU [13,19]) [] (fw w false++((nH 7++[some ⟨[(eq (⟨w.a,w.b,bag,p1,wA,wB,rA,rB,⟨keys,tags⟩,nums,nsA,nsB⟩:WorldD) 0 1 2 3 4 5 6 7 8 9 10 11 12 13 23 24 25 26 27 28 29)],61,60,true,false⟩,some ⟨l.map LetterD.cs,19,36,false,true⟩])++(fy (⟨w.a,w.b,bag,p1,wA,wB,rA,rB,⟨keys,tags⟩,nums,nsA,nsB⟩:WorldD) true++[some ⟨[x.cs],19,36,true,false⟩])))) (qC) zF (fun N hN=>ab 401 ?_) (eO 34 400 ?_)
 ·try simp (disch:=omega) only [go_sem,seval]
  split<;>rename_i b1<;>(try simp only [zR] at b1)<;>simp (disch:=omega) only [go_sem,seval,b1]<;>(try simp only [zQ] at b1)<;>try simp (disch:=omega) only [go_sem,seval]
  ·rw [wv zO] at hp1
   subst hp1
   refine ao (qU [0,11]) zXk (qC) zXk (aa 400 ?_)
   simp (disch:=omega) only [go_sem,seval]
   refine⟨qC,eO 34 400 ?_⟩
   try simp (disch:=omega) only [go_sem,seval]
   refine⟨qC,hN _ (qI 0 24++qI 32 1++qI 25 6) (ae zF zF ?_)⟩
   simp (disch:=omega) only [go_sem,seval]
   try simp [LetterD.cs]
  rw [ww zO] at hp1
  subst hp1
  try simp (disch:=omega) only [go_sem,seval]
  refine⟨qC,hN _ (qI 0 31) (ae zF zF ?_)⟩
  simp (disch:=omega) only [go_sem,seval]
 try simp (disch:=omega) only [go_sem,seval]
 obtain⟨q1,hq1⟩:∃ q,q=q8 nsA (pF 1 1 x) w.a.now:=⟨_,rfl⟩
 refine fE 23 hE (fun s=>s.at (qU [13,70]) [] (fw w false++((nH 7++[some ⟨[(eq (⟨w.a,w.b,bag,p1,wA,wB,rA,rB,⟨keys,tags⟩,nums,q1,nsB⟩:WorldD) 0 1 2 3 4 5 6 7 8 9 10 11 12 13 23 24 25 26 27 28 29)],61,60,true,false⟩,some ⟨l.map LetterD.cs,19,36,false,true⟩])++(fy (⟨w.a,w.b,bag,p1,wA,wB,rA,rB,⟨keys,tags⟩,nums,q1,nsB⟩:WorldD) true++[some ⟨[x.cs],19,36,true,false⟩])))) (qC) zF (fun N hN=>ab 401 ?_) (ab 400 ?_)
 ·try simp (disch:=omega) only [go_sem,seval]
  split<;>rename_i b2<;>(try simp only [zR] at b2)<;>simp (disch:=omega) only [go_sem,seval,b2]<;>(try simp only [zQ] at b2)<;>try simp (disch:=omega) only [go_sem,seval]
  ·rw [CN b2] at hq1
   split<;>rename_i b3<;>(try simp only [zR] at b3)<;>simp (disch:=omega) only [go_sem,seval,b3]<;>(try simp only [zQ] at b3)<;>try simp (disch:=omega) only [go_sem,seval]
   ·rw [CI zO] at hq1
    subst hq1
    refine ao (qU [0,15]) zXk (qC) zXk (aa 400 ?_)
    simp (disch:=omega) only [go_sem,seval]
    refine⟨qC,ab 400 ?_⟩
    try simp (disch:=omega) only [go_sem,seval]
    refine⟨qC,hN _ (qI 0 28++qI 32 1++qI 29 2) (ae zF zF ?_)⟩
    simp (disch:=omega) only [go_sem,seval]
    try simp [bh]
   rw [CJ zO] at hq1
   subst hq1
   try simp (disch:=omega) only [go_sem,seval]
   refine⟨qC,hN _ (qI 0 31) (ae zF zF ?_)⟩
   simp (disch:=omega) only [go_sem,seval]
  rw [CK b2,lF] at hq1
  subst hq1
  try simp (disch:=omega) only [go_sem,seval]
  refine⟨qC,hN _ (qI 0 31) (ae zF zF ?_)⟩
  simp (disch:=omega) only [go_sem,seval]
 try simp (disch:=omega) only [go_sem,seval]
 refine ai (qC) (fe x.to) [] qM zF (ab 400 ?_)
 simp (disch:=omega) only [go_sem,seval]
 have hoth:q8 nsB (pF 1 2 x) w.b.now=nsB:=by rw [CM zD,lF]
 split<;>rename_i b4<;>(try simp only [zR] at b4)<;>simp (disch:=omega) only [go_sem,seval,b4]<;>(try simp only [zQ] at b4)<;>try simp (disch:=omega) only [go_sem,seval]
 ·have hK:=yd ⟨keys,tags⟩ x.tag (by dsimp only;omega) (by dsimp only;omega)
  have hky:(fM ⟨keys,tags⟩ x.tag).keys.length<=1048576:=by rw [k_];exact s3
  have hkt:(fM ⟨keys,tags⟩ x.tag).tags.length<=1048576:=oE s4
  obtain⟨kk,hkk⟩:∃ k,k=fM ⟨keys,tags⟩ x.tag:=⟨_,rfl⟩
  rw [<-hkk] at hK hky hkt
  obtain⟨k1,t1⟩:=kk
  dsimp only at hky hkt
  refine ao (qU [0,11]) zXk (qC) zXk (aa 400 ?_)
  simp (disch:=omega) only [go_sem,seval]
  refine ak (qC) (hK) (qI 25 2) qM zF zF (aa 400 ?_)
  simp (disch:=omega) only [go_sem,seval]
  refine⟨qC,ab 400 ?_⟩
  try simp (disch:=omega) only [go_sem,seval]
  obtain⟨n1,hn1⟩:∃ n,n=(lH x).foldl eJ nums:=⟨_,rfl⟩
  have hn1l:n1.length<=1048576:=by rw [hn1];exact fV (fV (fV s5))
  refine gV 23 hE (fun s (z:Nat×List Int)=>s.at (qU [2,1,9,1,14,7,22,12,35,9,45,23,69,14,84,20,107,33,141,17]) [(106,.sc (.int .i64 (z.1:Nat))),(104,.sc (.sl 31 0 3))] (fw w false++((nH 7++[some ⟨[(eq (⟨w.a,w.b,bag,p1,wA,wB,rA,rB,⟨k1,t1⟩,z.2,q1,nsB⟩:WorldD) 0 1 2 3 4 5 6 7 8 9 10 11 12 13 23 24 25 26 27 28 29)],61,60,true,false⟩,some ⟨l.map LetterD.cs,19,36,false,true⟩])++(fy (⟨w.a,w.b,bag,p1,wA,wB,rA,rB,⟨k1,t1⟩,z.2,q1,nsB⟩:WorldD) true++[some ⟨[x.cs],19,36,true,false⟩]++[some ⟨[[.int .i64 x.nonce],[.int .i64 x.give],[.int .i64 x.sgn]],1,3,true,true⟩])))) (fun (z:Nat×List Int)=>z.1<=3/\z.2.length<=1048576/\n1=((lH x).drop z.1).foldl eJ z.2) (fun (z:Nat×List Int)=>3 - z.1) (0,nums) (qI 0 25++qI 31 2++qI 27 4++qI 33 1) (qC) (⟨zG _,s5,hn1⟩) (ae zF zF ?_) fun z hz N2 hN2=>?_
  ·try simp (disch:=omega) only [go_sem,seval]
  obtain⟨j,m⟩:=z
  obtain⟨hj,hm,hn⟩:=hz
  dsimp only at hj hm hn
  refine ab 400 ?_
  try simp (disch:=omega) only [go_sem,seval]
  split<;>rename_i h5<;>(try simp only [decide_eq_true_eq,decide_eq_false_iff_not,Qi] at h5)
  rotate_left
  ·have e:j=3:=zO
   subst e
   rw [Bp (by simp [lH])] at hn
   subst hn
   try simp (disch:=omega) only [go_sem,seval]
   refine⟨qC,hN _ (i+1,(⟨w.a,w.b,bag,p1,wA,wB,rA,rB,⟨k1,t1⟩,n1,q1,nsB⟩:WorldD)) (qI 0 30) (⟨zO,rfl,rfl,?_,?_⟩) (by (try dsimp only);omega) (ae zF zF ?_)⟩
   ·have e:dS 1 (⟨w.a,w.b,bag,past,wA,wB,rA,rB,⟨keys,tags⟩,nums,nsA,nsB⟩:WorldD) x=(⟨w.a,w.b,bag,p1,wA,wB,rA,rB,⟨k1,t1⟩,n1,q1,nsB⟩:WorldD):=by
     rw [dS,if_pos b4,vq,mj]
     dsimp only
     rw [<-hkk,hoth,<-hp1,<-hq1,hn1]
     rfl
    rw [<-e]
    exact fh hS
   ·have e:dS 1 (⟨w.a,w.b,bag,past,wA,wB,rA,rB,⟨keys,tags⟩,nums,nsA,nsB⟩:WorldD) x=(⟨w.a,w.b,bag,p1,wA,wB,rA,rB,⟨k1,t1⟩,n1,q1,nsB⟩:WorldD):=by
     rw [dS,if_pos b4,vq,mj]
     dsimp only
     rw [<-hkk,hoth,<-hp1,<-hq1,hn1]
     rfl
    rw [<-e]
    exact hu
   try simp (disch:=omega) only [go_sem,seval]
  have h6:j < (lH x).length:=by simp only [lH,Ql,Qm];omega
  rw [yt h6] at hn
  generalize hv:(lH x)[j]=v at hn
  have hg3:([[.int .i64 x.nonce],[.int .i64 x.give],[.int .i64 x.sgn]]:List (List Sc))[j]? =some (bh v):=by
   rw [<-hv]
   rw [show ([[.int .i64 x.nonce],[.int .i64 x.give],[.int .i64 x.sgn]]:List (List Sc))=(lH x).map bh from rfl]
   exact aC h6
  simp only [bh] at hg3
  have hH:=gH m v hm
  have ht:=Ge (l:=m) (n:=v)
  have hf1:=CC (l:=m) (n:=v)
  have hf2:=CD (l:=m) (n:=v)
  have hf3:=CF (l:=m) (n:=v)
  have hvl:(eJ m v).length<=1048576:=fV hm
  generalize eJ m v=m1 at*
  try simp (disch:=omega) only [go_sem,seval,hg3]
  split<;>rename_i c1<;>(try simp only [zR] at c1)<;>simp (disch:=omega) only [go_sem,seval,c1]<;>(try simp only [zQ] at c1)<;>try simp (disch:=omega) only [go_sem,seval]
  ·refine ai (qC) (hH) (qI 27 1) qM zF (ab 400 ?_)
   simp (disch:=omega) only [go_sem,seval]
   split<;>rename_i c2<;>(try simp only [zR] at c2)<;>simp (disch:=omega) only [go_sem,seval,c2]<;>(try simp only [zQ] at c2)<;>try simp (disch:=omega) only [go_sem,seval]
   ·split<;>rename_i c3<;>(try simp only [zR] at c3)<;>simp (disch:=omega) only [go_sem,seval,c3]<;>(try simp only [zQ] at c3)<;>try simp (disch:=omega) only [go_sem,seval]
    ·have e:=ht c1 c2 zO
     subst e
     try simp (disch:=omega) only [go_sem,seval]
     refine⟨qC,hN2 _ (j+1,m++[v]) (qI 0 27++qI 33 1++qI 28 4) (by (try dsimp only);exact⟨zO,hvl,hn⟩) (by (try dsimp only);omega) (ae zF zF ?_)⟩
     try simp (disch:=omega) only [go_sem,seval]
     try simp [bh]
    have e:=hf3 zO
    subst e
    try simp (disch:=omega) only [go_sem,seval]
    refine⟨qC,hN2 _ (j+1,m1) (qI 0 32) (by (try dsimp only);exact⟨zO,hm,hn⟩) (by (try dsimp only);omega) (ae zF zF ?_)⟩
    try simp (disch:=omega) only [go_sem,seval]
   have e:=hf2 c2
   subst e
   try simp (disch:=omega) only [go_sem,seval]
   refine⟨qC,hN2 _ (j+1,m1) (qI 0 32) (by (try dsimp only);exact⟨zO,hm,hn⟩) (by (try dsimp only);omega) (ae zF zF ?_)⟩
   try simp (disch:=omega) only [go_sem,seval]
  have e:=hf1 c1
  subst e
  try simp (disch:=omega) only [go_sem,seval]
  refine⟨qC,hN2 _ (j+1,m1) (qI 0 32) (by (try dsimp only);exact⟨zO,hm,hn⟩) (by (try dsimp only);omega) (ae zF zF ?_)⟩
  try simp (disch:=omega) only [go_sem,seval]
 obtain⟨g1,hg1⟩:∃ g,g=yf bag x:=⟨_,rfl⟩
 have e:dS 1 (⟨w.a,w.b,bag,past,wA,wB,rA,rB,⟨keys,tags⟩,nums,nsA,nsB⟩:WorldD) x=(⟨w.a,w.b,g1,p1,wA,wB,rA,rB,⟨keys,tags⟩,nums,q1,nsB⟩:WorldD):=by
  rw [dS,if_neg b4,mj]
  dsimp only
  rw [hoth,<-hp1,<-hq1,<-hg1]
 rw [e] at hu
 have hS1:=fh (side:=1) (x:=x) hS
 rw [e] at hS1
 split<;>rename_i b5<;>(try simp only [zR] at b5)<;>simp (disch:=omega) only [go_sem,seval,b5]<;>(try simp only [zQ] at b5)<;>try simp (disch:=omega) only [go_sem,seval]
 ·rw [CG zO] at hg1
  subst hg1
  refine ao (qU [0,11]) zXk (qC) zXk (aa 400 ?_)
  simp (disch:=omega) only [go_sem,seval]
  refine⟨qC,ab 400 ?_⟩
  try simp (disch:=omega) only [go_sem,seval]
  refine⟨qC,hN _ (i+1,(⟨w.a,w.b,(bag++[x]),p1,wA,wB,rA,rB,⟨keys,tags⟩,nums,q1,nsB⟩:WorldD)) (qI 0 23++qI 32 1++qI 24 6) (by (try dsimp only);exact⟨zO,rfl,rfl,hS1,hu⟩) (by (try dsimp only);omega) (ae zF zF ?_)⟩
  try simp (disch:=omega) only [go_sem,seval]
  try simp [LetterD.cs]
 rw [CH zO] at hg1
 subst hg1
 try simp (disch:=omega) only [go_sem,seval]
 refine⟨qC,hN _ (i+1,(⟨w.a,w.b,g1,p1,wA,wB,rA,rB,⟨keys,tags⟩,nums,q1,nsB⟩:WorldD)) (qI 0 30) (by (try dsimp only);exact⟨zO,rfl,rfl,hS1,hu⟩) (by (try dsimp only);omega) (ae zF zF ?_)⟩
 try simp (disch:=omega) only [go_sem,seval]
theorem gO (w:WorldD) (l:List LetterD) (hw:SmallP2 w) (hl:l.length<=1048576):aP 101 [.sc (.pt 21 0 0),.sc (.int .i64 2),.sc (.sl 22 0 l.length)]
  (fw w false++(fy w true++[some ⟨[w.cs 0],61,60,true,false⟩,some ⟨l.map LetterD.cs,19,36,false,true⟩])) (.tu [])
  (fw w false++((nH 7++[some ⟨[(eq (ay 2 w l) 0 1 2 3 4 5 6 7 8 9 10 11 12 13 23 24 25 26 27 28 29)],61,60,true,false⟩,some ⟨l.map LetterD.cs,19,36,false,true⟩])++fy (ay 2 w l) true)):=by
 obtain⟨R,hR⟩:∃ R,R=ay 2 w l:=⟨_,rfl⟩
 rw [<-hR]
 have hl2:l.length<=9223372036854775807:=zO
 refine aV func101 zXk rfl fun E hE=>ab 400 ?_
 simp (disch:=omega) only [ntmps101,results101,go_sem,seval]
 refine gV 23 hE (fun s (y:Nat×WorldD)=>s.at (qU [2,1,7,1,9,1,13,145]) [(12,.sc (.int .i64 (y.1:Nat)))] (fw w false++((nH 7++[some ⟨[(eq y.2 0 1 2 3 4 5 6 7 8 9 10 11 12 13 23 24 25 26 27 28 29)],61,60,true,false⟩,some ⟨l.map LetterD.cs,19,36,false,true⟩])++(fy y.2 true)))) (fun (y:Nat×WorldD)=>y.1<=l.length/\y.2.a=w.a/\y.2.b=w.b/\SmallP2 y.2/\R=ay 2 y.2 (l.drop y.1)) (fun (y:Nat×WorldD)=>l.length - y.1) (0,w) (qI 0 23++qI 14 7) (qC) (⟨zG _,rfl,rfl,hw,hR⟩) (ae zF zF ?_) fun y hy N hN=>?_
 ·try simp (disch:=omega) only [go_sem,seval]
 obtain⟨i,u⟩:=y
 obtain⟨hi,ha,hb,hS,hu⟩:=hy
 obtain⟨ua,ub,bag,past,wA,wB,rA,rB,known,nums,nsA,nsB⟩:=u
 obtain⟨keys,tags⟩:=known
 dsimp only at hi ha hb hu
 subst ha hb
 have s1:=hS.bag
 have s2:=hS.past
 have s3:=hS.keys
 have s4:=hS.tags
 have s5:=hS.nums
 have s6:=hS.ansA
 have s7:=hS.ansB
 dsimp only at s1 s2 s3 s4 s5 s6 s7
 refine eO 21 400 ?_
 try simp (disch:=omega) only [go_sem,seval]
 split<;>rename_i h<;>(try simp only [decide_eq_true_eq,decide_eq_false_iff_not,Qi] at h)
 rotate_left
 ·have e:i=l.length:=zO
  subst e
  rw [oY (Qn _)] at hu
  subst hu
  try simp (disch:=omega) only [go_sem,seval]
  refine aO (qI 0 30) (qC) _ zXg zF zF ?_
  simp (disch:=omega) only [go_sem,seval]
 rw [mX h] at hu
 generalize hx:l[i]=x at hu
 have hget:=aC (enc:=LetterD.cs) h
 rw [hx] at hget
 try simp (disch:=omega) only [go_sem,seval,hget]
 obtain⟨p1,hp1⟩:∃ p,p=oD past x:=⟨_,rfl⟩
 refine fE 23 hE (fun s=>s.at (qU [13,19]) [] (fw w false++((nH 7++[some ⟨[(eq (⟨w.a,w.b,bag,p1,wA,wB,rA,rB,⟨keys,tags⟩,nums,nsA,nsB⟩:WorldD) 0 1 2 3 4 5 6 7 8 9 10 11 12 13 23 24 25 26 27 28 29)],61,60,true,false⟩,some ⟨l.map LetterD.cs,19,36,false,true⟩])++(fy (⟨w.a,w.b,bag,p1,wA,wB,rA,rB,⟨keys,tags⟩,nums,nsA,nsB⟩:WorldD) true++[some ⟨[x.cs],19,36,true,false⟩])))) (qC) zF (fun N hN=>ab 401 ?_) (eO 34 400 ?_)
 ·try simp (disch:=omega) only [go_sem,seval]
  split<;>rename_i b1<;>(try simp only [zR] at b1)<;>simp (disch:=omega) only [go_sem,seval,b1]<;>(try simp only [zQ] at b1)<;>try simp (disch:=omega) only [go_sem,seval]
  ·rw [wv zO] at hp1
   subst hp1
   refine ao (qU [0,11]) zXk (qC) zXk (aa 400 ?_)
   simp (disch:=omega) only [go_sem,seval]
   refine⟨qC,eO 34 400 ?_⟩
   try simp (disch:=omega) only [go_sem,seval]
   refine⟨qC,hN _ (qI 0 24++qI 32 1++qI 25 6) (ae zF zF ?_)⟩
   simp (disch:=omega) only [go_sem,seval]
   try simp [LetterD.cs]
  rw [ww zO] at hp1
  subst hp1
  try simp (disch:=omega) only [go_sem,seval]
  refine⟨qC,hN _ (qI 0 31) (ae zF zF ?_)⟩
  simp (disch:=omega) only [go_sem,seval]
 try simp (disch:=omega) only [go_sem,seval]
 obtain⟨q1,hq1⟩:∃ q,q=q8 nsB (pF 2 2 x) w.b.now:=⟨_,rfl⟩
 refine fE 23 hE (fun s=>s.at (qU [13,70]) [] (fw w false++((nH 7++[some ⟨[(eq (⟨w.a,w.b,bag,p1,wA,wB,rA,rB,⟨keys,tags⟩,nums,nsA,q1⟩:WorldD) 0 1 2 3 4 5 6 7 8 9 10 11 12 13 23 24 25 26 27 28 29)],61,60,true,false⟩,some ⟨l.map LetterD.cs,19,36,false,true⟩])++(fy (⟨w.a,w.b,bag,p1,wA,wB,rA,rB,⟨keys,tags⟩,nums,nsA,q1⟩:WorldD) true++[some ⟨[x.cs],19,36,true,false⟩])))) (qC) zF (fun N hN=>ab 401 ?_) (ab 400 ?_)
 ·try simp (disch:=omega) only [go_sem,seval]
  split<;>rename_i b2<;>(try simp only [zR] at b2)<;>simp (disch:=omega) only [go_sem,seval,b2]<;>(try simp only [zQ] at b2)<;>try simp (disch:=omega) only [go_sem,seval]
  ·rw [CN b2] at hq1
   split<;>rename_i b3<;>(try simp only [zR] at b3)<;>simp (disch:=omega) only [go_sem,seval,b3]<;>(try simp only [zQ] at b3)<;>try simp (disch:=omega) only [go_sem,seval]
   ·rw [CI zO] at hq1
    subst hq1
    refine ao (qU [0,15]) zXk (qC) zXk (aa 400 ?_)
    simp (disch:=omega) only [go_sem,seval]
    refine⟨qC,ab 400 ?_⟩
    try simp (disch:=omega) only [go_sem,seval]
    refine⟨qC,hN _ (qI 0 29++qI 32 1++qI 30 1) (ae zF zF ?_)⟩
    simp (disch:=omega) only [go_sem,seval]
    try simp [bh]
   rw [CJ zO] at hq1
   subst hq1
   try simp (disch:=omega) only [go_sem,seval]
   refine⟨qC,hN _ (qI 0 31) (ae zF zF ?_)⟩
   simp (disch:=omega) only [go_sem,seval]
  rw [CK b2,lF] at hq1
  subst hq1
  try simp (disch:=omega) only [go_sem,seval]
  refine⟨qC,hN _ (qI 0 31) (ae zF zF ?_)⟩
  simp (disch:=omega) only [go_sem,seval]
 try simp (disch:=omega) only [go_sem,seval]
 refine ai (qC) (fe x.to) [] qM zF (ab 400 ?_)
 simp (disch:=omega) only [go_sem,seval]
 have hoth:q8 nsA (pF 2 1 x) w.a.now=nsA:=by rw [CM zD,lF]
 split<;>rename_i b4<;>(try simp only [zR] at b4)<;>simp (disch:=omega) only [go_sem,seval,b4]<;>(try simp only [zQ] at b4)<;>try simp (disch:=omega) only [go_sem,seval]
 ·have hK:=yd ⟨keys,tags⟩ x.tag (by dsimp only;omega) (by dsimp only;omega)
  have hky:(fM ⟨keys,tags⟩ x.tag).keys.length<=1048576:=by rw [k_];exact s3
  have hkt:(fM ⟨keys,tags⟩ x.tag).tags.length<=1048576:=oE s4
  obtain⟨kk,hkk⟩:∃ k,k=fM ⟨keys,tags⟩ x.tag:=⟨_,rfl⟩
  rw [<-hkk] at hK hky hkt
  obtain⟨k1,t1⟩:=kk
  dsimp only at hky hkt
  refine ao (qU [0,11]) zXk (qC) zXk (aa 400 ?_)
  simp (disch:=omega) only [go_sem,seval]
  refine ak (qC) (hK) (qI 25 2) qM zF zF (aa 400 ?_)
  simp (disch:=omega) only [go_sem,seval]
  refine⟨qC,ab 400 ?_⟩
  try simp (disch:=omega) only [go_sem,seval]
  obtain⟨n1,hn1⟩:∃ n,n=(lH x).foldl eJ nums:=⟨_,rfl⟩
  have hn1l:n1.length<=1048576:=by rw [hn1];exact fV (fV (fV s5))
  refine gV 23 hE (fun s (z:Nat×List Int)=>s.at (qU [2,1,9,1,14,7,22,12,35,9,45,23,69,14,84,20,107,33,141,17]) [(106,.sc (.int .i64 (z.1:Nat))),(104,.sc (.sl 31 0 3))] (fw w false++((nH 7++[some ⟨[(eq (⟨w.a,w.b,bag,p1,wA,wB,rA,rB,⟨k1,t1⟩,z.2,nsA,q1⟩:WorldD) 0 1 2 3 4 5 6 7 8 9 10 11 12 13 23 24 25 26 27 28 29)],61,60,true,false⟩,some ⟨l.map LetterD.cs,19,36,false,true⟩])++(fy (⟨w.a,w.b,bag,p1,wA,wB,rA,rB,⟨k1,t1⟩,z.2,nsA,q1⟩:WorldD) true++[some ⟨[x.cs],19,36,true,false⟩]++[some ⟨[[.int .i64 x.nonce],[.int .i64 x.give],[.int .i64 x.sgn]],1,3,true,true⟩])))) (fun (z:Nat×List Int)=>z.1<=3/\z.2.length<=1048576/\n1=((lH x).drop z.1).foldl eJ z.2) (fun (z:Nat×List Int)=>3 - z.1) (0,nums) (qI 0 25++qI 31 2++qI 27 4++qI 33 1) (qC) (⟨zG _,s5,hn1⟩) (ae zF zF ?_) fun z hz N2 hN2=>?_
  ·try simp (disch:=omega) only [go_sem,seval]
  obtain⟨j,m⟩:=z
  obtain⟨hj,hm,hn⟩:=hz
  dsimp only at hj hm hn
  refine ab 400 ?_
  try simp (disch:=omega) only [go_sem,seval]
  split<;>rename_i h5<;>(try simp only [decide_eq_true_eq,decide_eq_false_iff_not,Qi] at h5)
  rotate_left
  ·have e:j=3:=zO
   subst e
   rw [Bp (by simp [lH])] at hn
   subst hn
   try simp (disch:=omega) only [go_sem,seval]
   refine⟨qC,hN _ (i+1,(⟨w.a,w.b,bag,p1,wA,wB,rA,rB,⟨k1,t1⟩,n1,nsA,q1⟩:WorldD)) (qI 0 30) (⟨zO,rfl,rfl,?_,?_⟩) (by (try dsimp only);omega) (ae zF zF ?_)⟩
   ·have e:dS 2 (⟨w.a,w.b,bag,past,wA,wB,rA,rB,⟨keys,tags⟩,nums,nsA,nsB⟩:WorldD) x=(⟨w.a,w.b,bag,p1,wA,wB,rA,rB,⟨k1,t1⟩,n1,nsA,q1⟩:WorldD):=by
     rw [dS,if_pos b4,vq,mj]
     dsimp only
     rw [<-hkk,hoth,<-hp1,<-hq1,hn1]
     rfl
    rw [<-e]
    exact fh hS
   ·have e:dS 2 (⟨w.a,w.b,bag,past,wA,wB,rA,rB,⟨keys,tags⟩,nums,nsA,nsB⟩:WorldD) x=(⟨w.a,w.b,bag,p1,wA,wB,rA,rB,⟨k1,t1⟩,n1,nsA,q1⟩:WorldD):=by
     rw [dS,if_pos b4,vq,mj]
     dsimp only
     rw [<-hkk,hoth,<-hp1,<-hq1,hn1]
     rfl
    rw [<-e]
    exact hu
   try simp (disch:=omega) only [go_sem,seval]
  have h6:j < (lH x).length:=by simp only [lH,Ql,Qm];omega
  rw [yt h6] at hn
  generalize hv:(lH x)[j]=v at hn
  have hg3:([[.int .i64 x.nonce],[.int .i64 x.give],[.int .i64 x.sgn]]:List (List Sc))[j]? =some (bh v):=by
   rw [<-hv]
   rw [show ([[.int .i64 x.nonce],[.int .i64 x.give],[.int .i64 x.sgn]]:List (List Sc))=(lH x).map bh from rfl]
   exact aC h6
  simp only [bh] at hg3
  have hH:=gH m v hm
  have ht:=Ge (l:=m) (n:=v)
  have hf1:=CC (l:=m) (n:=v)
  have hf2:=CD (l:=m) (n:=v)
  have hf3:=CF (l:=m) (n:=v)
  have hvl:(eJ m v).length<=1048576:=fV hm
  generalize eJ m v=m1 at*
  try simp (disch:=omega) only [go_sem,seval,hg3]
  split<;>rename_i c1<;>(try simp only [zR] at c1)<;>simp (disch:=omega) only [go_sem,seval,c1]<;>(try simp only [zQ] at c1)<;>try simp (disch:=omega) only [go_sem,seval]
  ·refine ai (qC) (hH) (qI 27 1) qM zF (ab 400 ?_)
   simp (disch:=omega) only [go_sem,seval]
   split<;>rename_i c2<;>(try simp only [zR] at c2)<;>simp (disch:=omega) only [go_sem,seval,c2]<;>(try simp only [zQ] at c2)<;>try simp (disch:=omega) only [go_sem,seval]
   ·split<;>rename_i c3<;>(try simp only [zR] at c3)<;>simp (disch:=omega) only [go_sem,seval,c3]<;>(try simp only [zQ] at c3)<;>try simp (disch:=omega) only [go_sem,seval]
    ·have e:=ht c1 c2 zO
     subst e
     try simp (disch:=omega) only [go_sem,seval]
     refine⟨qC,hN2 _ (j+1,m++[v]) (qI 0 27++qI 33 1++qI 28 4) (by (try dsimp only);exact⟨zO,hvl,hn⟩) (by (try dsimp only);omega) (ae zF zF ?_)⟩
     try simp (disch:=omega) only [go_sem,seval]
     try simp [bh]
    have e:=hf3 zO
    subst e
    try simp (disch:=omega) only [go_sem,seval]
    refine⟨qC,hN2 _ (j+1,m1) (qI 0 32) (by (try dsimp only);exact⟨zO,hm,hn⟩) (by (try dsimp only);omega) (ae zF zF ?_)⟩
    try simp (disch:=omega) only [go_sem,seval]
   have e:=hf2 c2
   subst e
   try simp (disch:=omega) only [go_sem,seval]
   refine⟨qC,hN2 _ (j+1,m1) (qI 0 32) (by (try dsimp only);exact⟨zO,hm,hn⟩) (by (try dsimp only);omega) (ae zF zF ?_)⟩
   try simp (disch:=omega) only [go_sem,seval]
  have e:=hf1 c1
  subst e
  try simp (disch:=omega) only [go_sem,seval]
  refine⟨qC,hN2 _ (j+1,m1) (qI 0 32) (by (try dsimp only);exact⟨zO,hm,hn⟩) (by (try dsimp only);omega) (ae zF zF ?_)⟩
  try simp (disch:=omega) only [go_sem,seval]
 obtain⟨g1,hg1⟩:∃ g,g=yf bag x:=⟨_,rfl⟩
 have e:dS 2 (⟨w.a,w.b,bag,past,wA,wB,rA,rB,⟨keys,tags⟩,nums,nsA,nsB⟩:WorldD) x=(⟨w.a,w.b,g1,p1,wA,wB,rA,rB,⟨keys,tags⟩,nums,nsA,q1⟩:WorldD):=by
  rw [dS,if_neg b4,mj]
  dsimp only
  rw [hoth,<-hp1,<-hq1,<-hg1]
 rw [e] at hu
 have hS1:=fh (side:=2) (x:=x) hS
 rw [e] at hS1
 split<;>rename_i b5<;>(try simp only [zR] at b5)<;>simp (disch:=omega) only [go_sem,seval,b5]<;>(try simp only [zQ] at b5)<;>try simp (disch:=omega) only [go_sem,seval]
 ·rw [CG zO] at hg1
  subst hg1
  refine ao (qU [0,11]) zXk (qC) zXk (aa 400 ?_)
  simp (disch:=omega) only [go_sem,seval]
  refine⟨qC,ab 400 ?_⟩
  try simp (disch:=omega) only [go_sem,seval]
  refine⟨qC,hN _ (i+1,(⟨w.a,w.b,(bag++[x]),p1,wA,wB,rA,rB,⟨keys,tags⟩,nums,nsA,q1⟩:WorldD)) (qI 0 23++qI 32 1++qI 24 6) (by (try dsimp only);exact⟨zO,rfl,rfl,hS1,hu⟩) (by (try dsimp only);omega) (ae zF zF ?_)⟩
  try simp (disch:=omega) only [go_sem,seval]
  try simp [LetterD.cs]
 rw [CH zO] at hg1
 subst hg1
 try simp (disch:=omega) only [go_sem,seval]
 refine⟨qC,hN _ (i+1,(⟨w.a,w.b,g1,p1,wA,wB,rA,rB,⟨keys,tags⟩,nums,nsA,q1⟩:WorldD)) (qI 0 30) (by (try dsimp only);exact⟨zO,rfl,rfl,hS1,hu⟩) (by (try dsimp only);omega) (ae zF zF ?_)⟩
 try simp (disch:=omega) only [go_sem,seval]
theorem KP {o:OutD} {t:List UInt8} (h:FineO o):(if o.room - (o.text.length:Int) < (t.length:Int) then o.room - (o.text.length:Int) else (t.length:Int))=(lW o t:Int):=by
 have:=h.len
 rw [lW]
 split<;>omega
theorem MF {o:OutD} {t:List UInt8} (h:FineO o) (h2:o.room - (o.text.length:Int) < (t.length:Int)):o.room - (o.text.length:Int)=(lW o t:Int):=by
 have:=h.len
 rw [lW];omega
theorem HC {o:OutD} {t:List UInt8} (h:FineO o) (h2:¬ o.room - (o.text.length:Int) < (t.length:Int)):lW o t=t.length:=by
 have:=h.len
 rw [lW];omega
theorem ur {o:OutD} {t:List UInt8} (h:FineO o):(lW o t:Int)<=o.room - (o.text.length:Int):=by
 have:=h.len
 rw [lW];omega
theorem EK (o:OutD) (t:List UInt8) (ht:t.length<=1048576):aP 139 [.ag o.cs,.sc (.st t)] [] (.tu [.ag (gJ o t).1.cs,.sc (.int .i64 ((gJ o t).2:Nat))]) []:=by
 have hf:=EI (o:=o) (t:=t)
 have htt:=EH (o:=o) (t:=t)
 have hK:=kW o
 generalize gJ o t=R at*
 refine qE func139 ntmps139 results139 fun E hE=>?_
 refine qK (hK) [] ?_
 refine qB (fun b1=>?_) fun b1=>?_
 ·rw [hf (by simp [lG,b1])]
  refine qX ?_
  exact qF []
 have F:=dC b1
 have f1:=F.base
 have f2:=F.room
 have f3:=F.len
 have f4:=F.sent
 have hm:=KP (t:=t) F
 have hr:=ur (t:=t) F
 have hle:=CQ o t
 have htl:(t.take (lW o t)).length=lW o t:=by rw [Qb];omega
 have htt2:(t.take t.length).length=t.length:=by simp
 try simp (disch:=omega) only [go_sem,seval,hm]
 refine qB (fun b2=>?_) fun b2=>?_
 ·rw [hf (by simp only [lG,b1,P8,decide_eq_false_iff_not];omega)]
  refine qX ?_
  exact qF []
 rw [htt (by simp only [lG,b1,P8,decide_eq_true_eq];omega)]
 refine qX ?_
 refine qD [0,1,2,3,4,5,6,7] ?_
 refine qG ?_
 exact qF []
theorem EL (o:OutD) (t:List UInt8) (ht:t.length<=1048576):aP 217 [.ag o.cs,.sc (.st t)] [] (.tu [.ag (gJ o t).1.cs,.sc (.int .i64 ((gJ o t).2:Nat))]) []:=by
 have hf:=EI (o:=o) (t:=t)
 have htt:=EH (o:=o) (t:=t)
 have hK:=kX o
 generalize gJ o t=R at*
 refine qE func217 ntmps217 results217 fun E hE=>?_
 refine qK (hK) [] ?_
 refine qB (fun b1=>?_) fun b1=>?_
 ·rw [hf (by simp [lG,b1])]
  refine qX ?_
  exact qF []
 have F:=dC b1
 have f1:=F.base
 have f2:=F.room
 have f3:=F.len
 have f4:=F.sent
 have hr:=ur (t:=t) F
 have hle:=CQ o t
 have htl:(t.take (lW o t)).length=lW o t:=by rw [Qb];omega
 have htt2:(t.take t.length).length=t.length:=by simp
 refine qX ?_
 refine qB (fun b3=>?_) fun b3=>?_
 ·have e:=HC (t:=t) F zO
  rw [e] at hr
  refine qB (fun b2=>?_) fun b2=>?_
  ·rw [hf (by simp only [lG,b1,P8,decide_eq_false_iff_not,e];omega)]
   refine qX ?_
   exact qF []
  rw [htt (by simp only [lG,b1,P8,decide_eq_true_eq,e];omega),e]
  refine qX ?_
  refine qD [0,1,2,3,4,5,6,7] ?_
  refine qG ?_
  exact qF []
 by_cases hlt:o.room - (o.text.length:Int) < (t.length:Int)
 ·have e:=MF (t:=t) F hlt
  try simp (disch:=omega) only [go_sem,seval,e]
  refine qB (fun b2=>?_) fun b2=>?_
  ·rw [hf (by simp only [lG,b1,P8,decide_eq_false_iff_not];omega)]
   refine qX ?_
   exact qF []
  rw [htt (by simp only [lG,b1,P8,decide_eq_true_eq];omega)]
  refine qX ?_
  refine qD [0,1,2,3,4,5,6,7] ?_
  refine qG ?_
  exact qF []
 have e:=HC (t:=t) F hlt
 have e2:o.room - (o.text.length:Int)=(lW o t:Int):=zO
 try simp (disch:=omega) only [go_sem,seval,e2]
 refine qB (fun b2=>?_) fun b2=>?_
 ·rw [hf (by simp only [lG,b1,P8,decide_eq_false_iff_not];omega)]
  refine qX ?_
  exact qF []
 rw [htt (by simp only [lG,b1,P8,decide_eq_true_eq];omega)]
 refine qX ?_
 refine qD [0,1,2,3,4,5,6,7] ?_
 refine qG ?_
 exact qF []
theorem yu {o:OutD} (F:FineO o):(cX o).length<=20/\((cX o).length:Int)<=o.base+(o.text.length:Int) - o.sent:=by
 have:=F.sent
 simp only [cX,Qb,P9]
 omega
theorem oF (o:OutD) (ho:o.text.length<=1048576):aP 239 [.ag o.cs] [] (.tu [.ag (eh o).1.cs,.sc (.bo (eh o).2)]) []:=by
 have hf:=ME (o:=o)
 have ht:=IS (o:=o)
 have hK:=kW o
 generalize eh o=R at*
 refine qE func239 ntmps239 results239 fun E hE=>?_
 refine qK (hK) [] ?_
 refine qB (fun b1=>?_) fun b1=>?_
 ·have F:=dC b1
  have f1:=F.base
  have f2:=F.room
  have f3:=F.len
  obtain⟨k,hk⟩:∃ k:Nat,o.sent - o.base=(k:Int):=⟨(o.sent - o.base).toNat,by have:=F.sent;omega⟩
  have f4:=F.sent
  refine qX ?_
  refine qB (fun b2=>?_) fun b2=>?_
  ·rw [hf (by simp [jc,b2])]
   refine qX ?_
   exact qF []
  have hnt:cX o=(o.text.drop k).take 20:=by rw [cX,hk,Qf]
  rw [ht (by simp [jc,b1];omega),hnt]
  try simp (disch:=omega) only [go_sem,seval,hk]
  refine qD [0,1,2,3,4,5,6,7,8,9] ?_
  refine⟨qC,ab 400 ?_⟩
  by_cases h5:((o.text.drop k).length:Int) < 20
  ·have h6:(o.text.drop k).take 20=o.text.drop k:=Qa zO
   rw [h6]
   simp only [P9] at h5
   try simp (disch:=omega) only [go_sem,seval,h5]
   refine aj [] (qC) _ zXg zF zF ?_
   simp (disch:=omega) only [go_sem,seval]
   try simp [h5,h6]
   try exact Qa zP
  simp only [P9] at h5
  try simp (disch:=omega) only [go_sem,seval,h5]
  refine qP [] ?_
  first|exact⟨⟩|simp [h5]
 rw [hf (by simp [jc,b1])]
 refine qX ?_
 exact qF []
theorem oG (o:OutD) (ho:o.text.length<=1048576):aP 259 [.ag o.cs] [] (.tu [.ag (eh o).1.cs,.sc (.bo (eh o).2)]) []:=by
 have hf:=ME (o:=o)
 have ht:=IS (o:=o)
 have hK:=kX o
 generalize eh o=R at*
 refine qE func259 ntmps259 results259 fun E hE=>?_
 refine qK (hK) [] ?_
 refine qB (fun b1=>?_) fun b1=>?_
 ·have F:=dC b1
  have f1:=F.base
  have f2:=F.room
  have f3:=F.len
  obtain⟨k,hk⟩:∃ k:Nat,o.sent - o.base=(k:Int):=⟨(o.sent - o.base).toNat,by have:=F.sent;omega⟩
  have f4:=F.sent
  refine qX ?_
  refine qB (fun b2=>?_) fun b2=>?_
  ·rw [hf (by simp [jc,b2])]
   refine qX ?_
   exact qF []
  have hnt:cX o=(o.text.drop k).take 20:=by rw [cX,hk,Qf]
  rw [ht (by simp [jc,b1];omega),hnt]
  try simp (disch:=omega) only [go_sem,seval,hk]
  refine qB (fun b3=>?_) fun b3=>?_
  ·refine qX ?_
   exact qF []
  have h6:(o.text.drop k).take 20=o.text.drop k:=Qa (by simp only [P9] at b3⊢;omega)
  rw [h6]
  refine qX ?_
  exact qF []
 rw [hf (by simp [jc,b1])]
 refine qX ?_
 exact qF []
theorem IW (o:OutD):aP 144 [.ag o.cs] [] (.ag (gK o).cs) []:=by
 have hK:=kW o
 obtain⟨R,hR⟩:∃ R,R=gK o:=⟨_,rfl⟩
 rw [<-hR]
 refine qE func144 ntmps144 results144 fun E hE=>?_
 refine qK (hK) [] ?_
 refine qB (fun b1=>?_) fun b1=>?_
 ·rw [gK,if_pos b1] at hR
  subst hR
  refine qX ?_
  exact qF []
 rw [gK,if_neg (by simp [b1])] at hR
 subst hR
 refine qX ?_
 exact qF []
theorem IX (o:OutD):aP 222 [.ag o.cs] [] (.ag (gK o).cs) []:=by
 have hK:=kX o
 obtain⟨R,hR⟩:∃ R,R=gK o:=⟨_,rfl⟩
 rw [<-hR]
 refine qE func222 ntmps222 results222 fun E hE=>?_
 refine qK (hK) [] ?_
 refine qB (fun b1=>?_) fun b1=>?_
 ·rw [gK,if_pos b1] at hR
  subst hR
  refine qX ?_
  exact qF []
 rw [gK,if_neg (by simp [b1])] at hR
 subst hR
 refine qX ?_
 exact qF []
theorem CR (o:OutD) (ho:o.text.length<=1048576) (h:jc o=true):aP 241 [.ag o.cs] [] (.ag (OutD.cs { o with sent:=o.sent+((cX o).length:Int) })) []:=by
 have hN:=oF o ho
 rw [IS h] at hN
 have F:=dC (by simp only [jc,P6] at h;exact h.1:outOk o=true)
 have hl:=yu F
 have f1:=F.base
 have f2:=F.room
 have f3:=F.len
 have f4:=F.sent
 refine qE func241 ntmps241 results241 fun E hE=>?_
 refine qK (hN) [] ?_
 exact qF []
theorem CT (o:OutD) (ho:o.text.length<=1048576) (h:jc o=true):aP 260 [.ag o.cs] [] (.ag (OutD.cs { o with sent:=o.sent+((cX o).length:Int) })) []:=by
 have hN:=oG o ho
 rw [IS h] at hN
 have F:=dC (by simp only [jc,P6] at h;exact h.1:outOk o=true)
 have hl:=yu F
 have f1:=F.base
 have f2:=F.room
 have f3:=F.len
 have f4:=F.sent
 refine qE func260 ntmps260 results260 fun E hE=>?_
 refine qK (hN) [] ?_
 exact qF []
theorem MG {p:PiecesD} {m:Int} (h:0<=m):(if (p.ready.length:Int) < m then (p.ready.length:Int) else m)=(Ah p m:Int):=by
 rw [Ah]
 split<;>omega
theorem KQ {p:PiecesD} {m:Int}:Ah p m<=p.ready.length:=Nat.min_le_right _ _
theorem NS {p:PiecesD} {m:Int} (h:(p.ready.length:Int) < m):Ah p m=p.ready.length:=by rw [Ah];omega
theorem NT {p:PiecesD} {m:Int} (h0:0<=m) (h:¬ (p.ready.length:Int) < m):m=(Ah p m:Int):=by rw [Ah];omega
theorem SmallP.of {e:EndD} (h:SmallP e.inp):e.inp.list.length<=1048576:=h.list
theorem yv (p:PiecesD) (m:Int) (hs:SmallP p):aP 141 [.ag (p.cs 0),.sc (.int .i64 m)] (p.hp false) (.tu [.ag ((cr p m).1.cs 1),.sc (.st (cr p m).2)]) (p.hp false++(cr p m).1.hp true):=by
 have hf:=O5 (p:=p) (m:=m)
 have ht:=O4 (p:=p) (m:=m)
 have hC:=aI p hs.list
 have hK:=cJ p hs.list
 generalize cr p m=R at*
 refine ix func141 ntmps141 results141 fun E hE=>?_
 refine qK (hC) (qI 0 1) ?_
 refine qK (hK) (qI 0 1) ?_
 refine qB (fun b1=>?_) fun b1=>?_
 ·have F:=dX b1 hs
  have f0:=F.r0
  have f1:=F.r1
  have f2:=F.ready
  refine qB (fun b2=>?_) fun b2=>?_
  ·rw [hf (by simp only [uq,Bool.and_eq_false_iff,decide_eq_false_iff_not];omega)]
   refine qX ?_
   exact cP (qI 0 1++qI 3 1)
  have hm:=MG (p:=p) (m:=m) zO
  have hle:=KQ (p:=p) (m:=m)
  have hok:uq p m=decide (p.read+(Ah p m:Int)<=1000000000):=by rw [uq,b1,decide_eq_true (show 0<=m by omega)];rfl
  generalize Ah p m=N at*
  try simp (disch:=omega) only [go_sem,seval,hm]
  refine qB (fun b3=>?_) fun b3=>?_
  ·rw [hf (by rw [hok];simp;omega)]
   refine qX ?_
   exact cP (qI 0 1++qI 3 1)
  rw [ht (by rw [hok];simp;omega)]
  refine qX ?_
  refine aR [(2,5),(4,5)] [(2,4)] [[0,1,3,2,4,5,6],[0,1,3,2,5,4,6],[0,1,3,5,2,4,6]] 1 hE (fun s=>s.at (qU [39,5]) [(5,.sc (.st (p.ready.take N)))] (s.hp.set 2 (some ⟨[[.int .i64 (p.read+(N:Int)),.st (p.ready.drop N),.sl 3 0 p.list.length]],3,51,true,false⟩))) zXk (qC) zXk ?_ (ab 400 ?_)
  rotate_left
  rotate_right
  simp only [aM]
  refine⟨aa 400 ?_,aa 400 ?_,aa 400 ?_⟩
  ·simp (disch:=omega) only [go_sem]
   exact qZ (qI 0 5)
  ·simp (disch:=omega) only [go_sem]
   exact qZ (qI 0 5)
  ·simp (disch:=omega) only [go_sem]
   exact qZ (qI 0 5)
  refine qX ?_
  exact cP (qI 0 1++qI 3 1)
 rw [hf (by simp [uq,b1])]
 refine qX ?_
 exact cP (qI 0 1++qI 3 1)
theorem yw (p:PiecesD) (m:Int) (hs:SmallP p):aP 219 [.ag (p.cs 0),.sc (.int .i64 m)] (p.hp false) (.tu [.ag ((cr p m).1.cs 1),.sc (.st (cr p m).2)]) (p.hp false++(cr p m).1.hp true):=by
 have hf:=O5 (p:=p) (m:=m)
 have ht:=O4 (p:=p) (m:=m)
 have hC:=mQ p hs.list
 have hK:=cK p hs.list
 have hsl:=hs.list
 have hsr:=hs.ready
 generalize cr p m=R at*
 by_cases h0:0<=m
 ·obtain⟨N,hN⟩:∃ N,N=Ah p m:=⟨_,rfl⟩
  have hle:N<=p.ready.length:=by rw [hN];exact KQ
  have hok:piecesOk p=true->uq p m=decide (p.read+(N:Int)<=1000000000):=fun b1=>by rw [uq,b1,decide_eq_true h0,hN];rfl
  rw [<-hN] at ht
  have key:∀ M:Int,M=(N:Int)->(M=(p.ready.length:Int)\/M=m)->True:=fun _ _ _=>trivial
  refine ix func219 ntmps219 results219 fun E hE=>?_
  refine qK (hC) (qI 0 1) ?_
  by_cases hlt:(p.ready.length:Int) < m
  ·have e:=NS hlt
   rw [<-hN] at e
   subst e
   try simp (disch:=omega) only [go_sem,seval,hlt]
   refine qK (hK) (qI 0 1) ?_
   refine qB (fun b1=>?_) fun b1=>?_
   ·have F:=dX b1 hs
    have f0:=F.r0
    have f1:=F.r1
    have f2:=F.ready
    have hok':=hok b1
    refine qX ?_
    refine qB (fun b3=>?_) fun b3=>?_
    ·rw [hf (by rw [hok'];simp;omega)]
     refine qX ?_
     exact cP (qI 0 1++qI 3 1)
    rw [ht (by rw [hok'];simp;omega)]
    refine qX ?_
    refine aR [(2,5),(4,5)] [(2,4)] [[0,1,3,2,4,5,6],[0,1,3,2,5,4,6],[0,1,3,5,2,4,6]] 1 hE (fun s=>s.at (qU [42,5]) [(5,.sc (.st (p.ready.take p.ready.length)))] (s.hp.set 2 (some ⟨[[.int .i64 (p.read+(p.ready.length:Int)),.st (p.ready.drop p.ready.length),.sl 3 0 p.list.length]],3,51,true,false⟩))) zXk (qC) zXk ?_ (ab 400 ?_)
    rotate_left
    rotate_right
    simp only [aM]
    refine⟨aa 400 ?_,aa 400 ?_,aa 400 ?_⟩
    ·simp (disch:=omega) only [go_sem]
     exact qZ (qI 0 5)
    ·simp (disch:=omega) only [go_sem]
     exact qZ (qI 0 5)
    ·simp (disch:=omega) only [go_sem]
     exact qZ (qI 0 5)
    refine qX ?_
    exact cP (qI 0 1++qI 3 1)
   rw [hf (by simp [uq,b1])]
   refine qX ?_
   exact cP (qI 0 1++qI 3 1)
  have e:=NT h0 hlt
  rw [<-hN] at e
  subst e
  refine qX ?_
  refine qK (hK) (qI 0 1) ?_
  refine qB (fun b1=>?_) fun b1=>?_
  ·have F:=dX b1 hs
   have f0:=F.r0
   have f1:=F.r1
   have f2:=F.ready
   have hok':=hok b1
   refine qX ?_
   refine qB (fun b3=>?_) fun b3=>?_
   ·rw [hf (by rw [hok'];simp;omega)]
    refine qX ?_
    exact cP (qI 0 1++qI 3 1)
   rw [ht (by rw [hok'];simp;omega)]
   refine qX ?_
   refine aR [(2,5),(4,5)] [(2,4)] [[0,1,3,2,4,5,6],[0,1,3,2,5,4,6],[0,1,3,5,2,4,6]] 1 hE (fun s=>s.at (qU [42,5]) [(5,.sc (.st (p.ready.take N)))] (s.hp.set 2 (some ⟨[[.int .i64 (p.read+(N:Int)),.st (p.ready.drop N),.sl 3 0 p.list.length]],3,51,true,false⟩))) zXk (qC) zXk ?_ (ab 400 ?_)
   rotate_left
   rotate_right
   simp only [aM]
   refine⟨aa 400 ?_,aa 400 ?_,aa 400 ?_⟩
   ·simp (disch:=omega) only [go_sem]
    exact qZ (qI 0 5)
   ·simp (disch:=omega) only [go_sem]
    exact qZ (qI 0 5)
   ·simp (disch:=omega) only [go_sem]
    exact qZ (qI 0 5)
   refine qX ?_
   exact cP (qI 0 1++qI 3 1)
  rw [hf (by simp [uq,b1])]
  refine qX ?_
  exact cP (qI 0 1++qI 3 1)
 rw [hf (by simp [uq,h0])]
 refine ix func219 ntmps219 results219 fun E hE=>?_
 refine qK (hC) (qI 0 1) ?_
 refine qK (hK) (qI 0 1) ?_
 refine qB (fun b1=>?_) fun b1=>?_
 ·refine qX ?_
  exact cP (qI 0 1++qI 3 1)
 refine qX ?_
 exact cP (qI 0 1++qI 3 1)
theorem re (e:EndD) (t:List UInt8) (hs:Small e) (ht:t.length<=1048576):aP 91 [.ag (e.cs 0),.sc (.st t)] (e.hp false) (.tu [.ag ((write e t).1.cs 7),.sc (.int .i64 ((write e t).2:Nat))]) (e.hp false++(write e t).1.hp true):=by
 have hC:=(qH (aG e))
 have hK:=(qH (bA e))
 have hA:=EK e.out t ht
 have hf:=Hu (e:=e) (t:=t)
 have htt:=Ht (e:=e) (t:=t)
 generalize write e t=R at*
 refine qE func91 ntmps91 results91 fun E hE=>?_
 refine qK (hC) (qI 0 7) ?_
 refine qK (hK) (qI 0 7) ?_
 refine qB (fun b1=>?_) fun b1=>?_
 ·rw [hf b1]
  refine qX ?_
  exact qF (qI 0 7++qI 9 7)
 rw [htt b1]
 refine qX ?_
 refine qK (hA) [] ?_
 exact qF (qI 0 7++qI 9 7)
theorem Bq (e:EndD) (m:Int) (hs:Small e) (hsp:SmallP e.inp):aP 93 [.ag (e.cs 0),.sc (.int .i64 m)] (e.hp false) (.tu [.ag ((bJ e m).1.cs 7),.sc (.st (bJ e m).2)]) (e.hp false++(bJ e m).1.hp true):=by
 have hC:=(qH (aG e))
 have hK:=(qH (bA e))
 have hA:=yv e.inp m hsp
 have hf:=Hw (e:=e) (m:=m)
 have htt:=Hv (e:=e) (m:=m)
 generalize bJ e m=R at*
 refine qE func93 ntmps93 results93 fun E hE=>?_
 refine qK (hC) (qI 0 7) ?_
 refine qK (hK) (qI 0 7) ?_
 refine qB (fun b1=>?_) fun b1=>?_
 ·rw [hf b1]
  refine qX ?_
  exact qF (qI 0 7++qI 9 7)
 rw [htt b1]
 refine qX ?_
 refine qK (hA) (qI 4 1) ?_
 exact qF (qI 0 7++qI 9 4++qI 17 1++qI 14 2)
theorem rf (e:EndD) (t:List UInt8) (hs:Small e) (ht:t.length<=1048576):aP 169 [.ag (e.cs 0),.sc (.st t)] (e.hp false) (.tu [.ag ((write e t).1.cs 7),.sc (.int .i64 ((write e t).2:Nat))]) (e.hp false++(write e t).1.hp true):=by
 have hC:=(qH (aF e))
 have hK:=(qH (bz e))
 have hA:=EL e.out t ht
 have hf:=Hu (e:=e) (t:=t)
 have htt:=Ht (e:=e) (t:=t)
 generalize write e t=R at*
 refine qE func169 ntmps169 results169 fun E hE=>?_
 refine qK (hC) (qI 0 7) ?_
 refine qK (hK) (qI 0 7) ?_
 refine qB (fun b1=>?_) fun b1=>?_
 ·rw [hf b1]
  refine qX ?_
  exact qF (qI 0 7++qI 9 7)
 rw [htt b1]
 refine qX ?_
 refine qK (hA) [] ?_
 exact qF (qI 0 7++qI 9 7)
theorem Br (e:EndD) (m:Int) (hs:Small e) (hsp:SmallP e.inp):aP 172 [.ag (e.cs 0),.sc (.int .i64 m)] (e.hp false) (.tu [.ag ((bJ e m).1.cs 7),.sc (.st (bJ e m).2)]) (e.hp false++(bJ e m).1.hp true):=by
 have hC:=(qH (aF e))
 have hK:=(qH (bz e))
 have hA:=yw e.inp m hsp
 have hf:=Hw (e:=e) (m:=m)
 have htt:=Hv (e:=e) (m:=m)
 generalize bJ e m=R at*
 refine qE func172 ntmps172 results172 fun E hE=>?_
 refine qK (hC) (qI 0 7) ?_
 refine qK (hK) (qI 0 7) ?_
 refine qB (fun b1=>?_) fun b1=>?_
 ·rw [hf b1]
  refine qX ?_
  exact qF (qI 0 7++qI 9 7)
 rw [htt b1]
 refine qX ?_
 refine qK (hA) (qI 4 1) ?_
 exact qF (qI 0 7++qI 9 4++qI 17 1++qI 14 2)
end
end Go.Proofs.YtdiiopjaebnmfaaGreatDoor
