/- Lemmas of this claim. -/
import Derived.Test.YteknmpdmhiomgaaGreatZFnCalmC
set_option maxHeartbeats 16000000
set_option maxRecDepth 100000
set_option linter.unusedVariables false
set_option linter.unusedSimpArgs false
namespace Go.Proofs.YteknmpdmhiomgaaGreat
open _root_.Go.Proofs.Tryz
open _root_.Bool renaming and_eq_true->RP
open _root_.Int renaming toNat_natCast->RQ,eq_ofNat_of_zero_le->RR,natCast_add->R7
open _root_.List renaming drop_eq_getElem_cons->RS,length_set->RT,getD_eq_getElem?_getD->RU,map_take->RV,take_succ_eq_append_getElem->RW,length_append->RY,map_set->RZ,map_append->R0,drop_eq_nil_of_le->R1,take_of_length_le->R2,all_cons->R3,mem_singleton->R4,getElem_set->R5,all_eq_true->R6,mem_append->R8,mem_range->R9,map_drop->R_,mem_cons->Sa,set_set->Sb
open _root_.Nat renaming zero_le->RX
section
open Go.RowKit
theorem cu (x:LetterD):aP 140 [.ag x.cs] [] (.sc (.bo (du x))) []:=by
 refine qE func140 ntmps140 results140 fun E hE=>?_
 refine qK (aT _ _ _) [] ?_
 refine qB (fun h1=>?_) fun h1=>?_
 ·refine qK (de (eU x) (by show 16<=1000000;omega)) (qI 2 1) ?_
  refine qB (fun h2=>?_) fun h2=>?_
  ·refine qJ [] ?_
   simp [du,h1,h2]
   omega
  refine qJ [] ?_
  simp [du,h1,h2]
 refine qJ [] ?_
 simp [du,h1]
theorem dU (x:LetterD):aP 115 [.ag x.cs] [] (.sc (.bo (du x))) []:=by
 refine qE func115 ntmps115 results115 fun E hE=>?_
 refine qK (aB _ _ _) [] ?_
 refine qB (fun h1=>?_) fun h1=>?_
 ·refine qB (fun h2=>?_) fun h2=>?_
  ·refine qJ [] ?_
   simp [du]
   omega
  have hlen:(eU x).length=16:=rfl
  refine ir 0 hE (fun s (k:Nat)=>s.at (qU [0,3,5,60]) [(4,.sc (.int .i64 (k:Nat))),(3,.sc (.sl 0 0 16))] ([some ⟨(eU x).map bh,1,3,true,true⟩])) (fun (k:Nat)=>k<=16/\(eU x).all gp=((eU x).drop k).all gp) (fun (k:Nat)=>16 - k) 0 (qI 1 1) (qC) (⟨RX _,rfl⟩) (aO zF zF ?_) fun k hk N hN=>?_
  ·refine qX ?_
   rfl
  obtain⟨hk1,hk2⟩:=hk
  refine qR ?_
  refine qB (fun h=>?_) fun h=>?_
  ·have h':k < (eU x).length:=zO
   rw [RS h',R3] at hk2
   refine qK (aN _) [] ?_
   refine qB (fun h3=>?_) fun h3=>?_
   ·refine qJ [] ?_
    rw [du,hk2,h3]
    simp
   rw [h3,Bool.true_and] at hk2
   exact qN hN (k+1) (qI 0 1) (by (try dsimp only);exact⟨zO,hk2⟩)
  refine qJ [] ?_
  rw [R1 zO] at hk2
  simp [du,h1,hk2]
  omega
 refine qJ [] ?_
 simp [du,h1]
attribute [go_sem] decide_true decide_false set_option linter.unusedSimpArgs false set_option maxRecDepth 20000
theorem dV (x:LetterD):aP 224 [.ag x.cs] [] (.ag (roadOf x).cs) []:=by
 refine qE func224 ntmps224 results224 fun E hE=>?_
 refine qP [] ?_
 first|exact⟨⟩|simp [roadOf]
theorem ce (r:RoadD) (x:LetterD):aP 137 [.ag r.cs,.ag x.cs] [] (.ag (ah r x).cs) []:=by
 refine qE func137 ntmps137 results137 fun E hE=>?_
 refine qP [] ?_
 first|exact⟨⟩|simp [ah]
theorem iC (a b c d:Int):aP 228 [.sc (.int .i64 a),.sc (.int .i64 b),.sc (.int .i64 c),.sc (.int .i64 d)] [] (.ag (TagD.cs ⟨1,a,b,c,d⟩)) []:=by
 refine qE func228 ntmps228 results228 fun E hE=>?_
 exact qF []
theorem fX (a b c d:Int):aP 178 [.sc (.int .i64 a),.sc (.int .i64 b),.sc (.int .i64 c),.sc (.int .i64 d)] [] (.ag (TagD.cs ⟨2,a,b,c,d⟩)) []:=by
 refine qE func178 ntmps178 results178 fun E hE=>?_
 exact qF []
theorem rQ (a b c d:Int):aP 223 [.sc (.int .i64 a),.sc (.int .i64 b),.sc (.int .i64 c),.sc (.int .i64 d)] [] (.ag (TagD.cs ⟨3,a,b,c,d⟩)) []:=by
 refine qE func223 ntmps223 results223 fun E hE=>?_
 exact qF []
theorem pI (s:Int):aP 177 [.sc (.int .i64 s)] [] (.sc (.int .i64 (d_ s))) []:=by
 obtain⟨R,hR⟩:∃ R,R=d_ s:=⟨_,rfl⟩
 rw [<-hR]
 refine qE func177 ntmps177 results177 fun E hE=>?_
 refine qK (aT _ _ _) [] ?_
 refine qB (fun h1=>?_) fun h1=>?_
 ·refine qJ [] ?_
  rw [hR,d_,if_neg (by simp [h1])]
 have h1':=h1
 simp only [cv,RP,decide_eq_true_eq] at h1'
 refine qJ [] ?_
 rw [hR,d_,if_pos h1]
theorem BO (b:BucketD):aP 226 [.ag b.cs] [] (.tu [.ag (bl b).1.cs,.sc (.bo (bl b).2)]) []:=by
 obtain⟨R,hR⟩:∃ R,R=bl b:=⟨_,rfl⟩
 rw [<-hR]
 refine qE func226 ntmps226 results226 fun E hE=>?_
 refine qK (li b) [] ?_
 refine qB (fun h1=>?_) fun h1=>?_
 ·refine qB (fun h2=>?_) fun h2=>?_
  ·rw [bl,if_neg zO] at hR
   subst hR
   exact qF []
  rw [bl,if_pos ⟨h1,h2⟩] at hR
  subst hR
  have h1':=h1
  simp only [bucketOk,cv,RP,decide_eq_true_eq] at h1'
  exact qF []
 rw [bl,if_neg (by simp [h1])] at hR
 subst hR
 exact qF []
theorem fq (e:EndD) (x:LetterD) (hl:e.subs.length<=1048576):aP 231 [.ag (e.cs 0),.ag x.cs] (e.hp false) (.sc (.int .i64 (cA e x))) (e.hp false):=by
 obtain⟨R,hR⟩:∃ R,R=cA e x:=⟨_,rfl⟩
 rw [<-hR]
 have hS:=fO e (roadOf x) hl
 simp only [cA] at hR
 generalize hk:bF e.subs (roadOf x)=k at hS hR
 have hbd:=fh e.subs (roadOf x)
 rw [hk] at hbd
 refine qE func231 ntmps231 results231 fun E hE=>?_
 refine qD [0,1,2,3,4] ?_
 refine aE (dV x) [] ?_
 refine aE (hS) (qI 0 7) ?_
 refine qG ?_
 rcases hbd with rfl|⟨hb0,hb1⟩
 ·refine qD [0,1,2,3,4,5,6,7,8,9,10,11,12,13,14,15,16,17,18,19,20,21] ?_
  refine qG ?_
  refine qJ (qI 0 7) ?_
  rw [hR]
  rfl
 obtain⟨n,rfl⟩:=RR hb0
 have hn:n < e.subs.length:=zO
 have hsub:bt e.subs (n:Int).toNat=e.subs[n]:=by simp [bt,RU,hn]
 rw [if_neg zO,hsub] at hR
 refine qD [0,1,2,3,4,5,6,7,8,9,10,11,12,13,14,15,16,17,18,19,20,21] ?_
 refine qB (fun h1=>?_) fun h1=>?_
 ·refine qG ?_
  refine qB (fun h2=>?_) fun h2=>?_
  ·rw [if_neg (fun h=>h2 h.2)] at hR
   refine qJ (qI 0 7) ?_
   exact hR.symm
  rw [if_pos ⟨h1,h2⟩] at hR
  refine qJ (qI 0 7) ?_
  exact hR.symm
 rw [if_neg (fun h=>h1 h.1)] at hR
 refine qG ?_
 refine qJ (qI 0 7) ?_
 exact hR.symm
theorem cZ (x:LetterD):aP 147 [.ag x.cs] [] (.ag (roadOf x).cs) []:=by
 refine qE func147 ntmps147 results147 fun E hE=>?_
 refine qP [] ?_
 first|exact⟨⟩|simp [roadOf]
theorem bC (r:RoadD) (x:LetterD):aP 146 [.ag r.cs,.ag x.cs] [] (.ag (ah r x).cs) []:=by
 refine qE func146 ntmps146 results146 fun E hE=>?_
 refine qP [] ?_
 first|exact⟨⟩|simp [ah]
theorem iE (a b c d:Int):aP 236 [.sc (.int .i64 a),.sc (.int .i64 b),.sc (.int .i64 c),.sc (.int .i64 d)] [] (.ag (TagD.cs ⟨1,a,b,c,d⟩)) []:=by
 refine qE func236 ntmps236 results236 fun E hE=>?_
 exact qF []
theorem fY (a b c d:Int):aP 200 [.sc (.int .i64 a),.sc (.int .i64 b),.sc (.int .i64 c),.sc (.int .i64 d)] [] (.ag (TagD.cs ⟨2,a,b,c,d⟩)) []:=by
 refine qE func200 ntmps200 results200 fun E hE=>?_
 exact qF []
theorem rR (a b c d:Int):aP 202 [.sc (.int .i64 a),.sc (.int .i64 b),.sc (.int .i64 c),.sc (.int .i64 d)] [] (.ag (TagD.cs ⟨3,a,b,c,d⟩)) []:=by
 refine qE func202 ntmps202 results202 fun E hE=>?_
 exact qF []
theorem pJ (s:Int):aP 199 [.sc (.int .i64 s)] [] (.sc (.int .i64 (d_ s))) []:=by
 obtain⟨R,hR⟩:∃ R,R=d_ s:=⟨_,rfl⟩
 rw [<-hR]
 refine qE func199 ntmps199 results199 fun E hE=>?_
 refine qK (aB _ _ _) [] ?_
 refine qB (fun h1=>?_) fun h1=>?_
 ·refine qJ [] ?_
  rw [hR,d_,if_neg (by simp [h1])]
 have h1':=h1
 simp only [cv,RP,decide_eq_true_eq] at h1'
 refine qJ [] ?_
 rw [hR,d_,if_pos h1]
theorem BP (b:BucketD):aP 234 [.ag b.cs] [] (.tu [.ag (bl b).1.cs,.sc (.bo (bl b).2)]) []:=by
 obtain⟨R,hR⟩:∃ R,R=bl b:=⟨_,rfl⟩
 rw [<-hR]
 refine qE func234 ntmps234 results234 fun E hE=>?_
 refine qK (jh b) [] ?_
 refine qB (fun h1=>?_) fun h1=>?_
 ·refine qB (fun h2=>?_) fun h2=>?_
  ·rw [bl,if_neg zO] at hR
   subst hR
   exact qF []
  rw [bl,if_pos ⟨h1,h2⟩] at hR
  subst hR
  have h1':=h1
  simp only [bucketOk,cv,RP,decide_eq_true_eq] at h1'
  exact qF []
 rw [bl,if_neg (by simp [h1])] at hR
 subst hR
 exact qF []
theorem yY (e:EndD) (x:LetterD) (hl:e.subs.length<=1048576):aP 244 [.ag (e.cs 0),.ag x.cs] (e.hp false) (.sc (.int .i64 (cA e x))) (e.hp false):=by
 obtain⟨R,hR⟩:∃ R,R=cA e x:=⟨_,rfl⟩
 rw [<-hR]
 have hS:=fd e (roadOf x) hl
 simp only [cA] at hR
 generalize hk:bF e.subs (roadOf x)=k at hS hR
 have hbd:=fh e.subs (roadOf x)
 rw [hk] at hbd
 refine qE func244 ntmps244 results244 fun E hE=>?_
 refine qD [0,1,2,3,4] ?_
 refine aE (cZ x) [] ?_
 refine aE (hS) (qI 0 7) ?_
 refine qG ?_
 rcases hbd with rfl|⟨hb0,hb1⟩
 ·refine qD [0,1,2,3,4,5,6,7,8,9,10,11,12,13,14,15,16,17,18,19,20,21] ?_
  refine qG ?_
  refine qJ (qI 0 7) ?_
  rw [hR]
  rfl
 obtain⟨n,rfl⟩:=RR hb0
 have hn:n < e.subs.length:=zO
 have hsub:bt e.subs (n:Int).toNat=e.subs[n]:=by simp [bt,RU,hn]
 rw [if_neg zO,hsub] at hR
 refine qD [0,1,2,3,4,5,6,7,8,9,10,11,12,13,14,15,16,17,18,19,20,21] ?_
 refine qB (fun h1=>?_) fun h1=>?_
 ·refine qG ?_
  refine qB (fun h2=>?_) fun h2=>?_
  ·rw [if_neg (fun h=>h2 h.2)] at hR
   refine qJ (qI 0 7) ?_
   exact hR.symm
  rw [if_pos ⟨h1,h2⟩] at hR
  refine qJ (qI 0 7) ?_
  exact hR.symm
 rw [if_neg (fun h=>h1 h.1)] at hR
 refine qG ?_
 refine qJ (qI 0 7) ?_
 exact hR.symm
theorem dw {e:EndD} (h:ai e=true):e.subs.length<=8:=by
 simp only [ai,RP,decide_eq_true_eq] at h
 omega
theorem Dy (l:List HalfD) (k:Nat) (h:HalfD):(l.map HalfD.cs).set k h.cs=(l.set k h).map HalfD.cs:=(RZ ..).symm
theorem Dz (l:List AddrD) (k:Nat) (h:AddrD):(l.map AddrD.cs).set k h.cs=(l.set k h).map AddrD.cs:=(RZ ..).symm
theorem kQ (l:List SubD) (k:Nat) (h:SubD):(l.map SubD.cs).set k h.cs=(l.set k h).map SubD.cs:=(RZ ..).symm
theorem DA (l:List HalfD) (h:HalfD):l.map HalfD.cs++[h.cs]=(l++[h]).map HalfD.cs:=by simp
theorem mn (l:List HalfD) (h:HalfD) (hl:l.length<=1000000):aP 227 [.sc (.sl 0 0 l.length),.ag h.cs] [some ⟨l.map HalfD.cs,8,113,false,true⟩]
  (.tu [.sc (.sl 1 0 (aX l h).1.length),.sc (.bo (aX l h).2)]) [some ⟨l.map HalfD.cs,8,113,false,true⟩,some ⟨(aX l h).1.map HalfD.cs,8,113,true,true⟩]:=by
 have hA:=jq l h.road zO
 have hbd:=gW l h.road
 have hO:=rN (bP l h) (by have:=dz l h;omega)
 have hll:=dz l h
 have hL:=bP.eq_1 l h
 have ht:=oH (l:=l) (h:=h)
 have hf:=Ai (l:=l) (h:=h)
 generalize bP l h=L at*
 generalize aX l h=R at*
 generalize bj l h.road=k at hA hbd hL
 refine qE func227 ntmps227 results227 fun E hE=>?_
 refine qK (eZ l zO) (qI 0 1) ?_
 refine qK (hA) (qI 0 1) ?_
 rcases hbd with rfl|⟨hb0,hb1⟩
 ·rw [if_neg zO] at hL
  subst hL
  have e:=DA l h
  simp only [HalfD.cs] at e
  rw [RY] at hO
  try simp (disch:=omega) only [go_sem,seval,e]
  refine qK (hO) (qI 4 1) ?_
  refine qB (fun h1=>?_) fun h1=>?_
  ·rw [hf h1]
   refine qK (eZ l zO) (qI 0 1) ?_
   exact qF (qI 0 1++qI 5 1)
  rw [ht h1]
  try simp only [RT]
  exact qF (qI 0 1++qI 4 1)
 obtain⟨n,rfl⟩:=RR hb0
 rw [if_pos hb0,RQ] at hL
 subst hL
 have e:=Dy l n h
 simp only [HalfD.cs] at e
 rw [RT] at hO
 try simp (disch:=omega) only [go_sem,seval,e]
 refine qK (hO) (qI 2 1) ?_
 refine qB (fun h1=>?_) fun h1=>?_
 ·rw [hf h1]
  refine qK (eZ l zO) (qI 0 1) ?_
  exact qF (qI 0 1++qI 3 1)
 rw [ht h1]
 try simp only [RT]
 exact qF (qI 0 1++qI 2 1)
theorem jR (l:List HalfD) (h:HalfD) (hl:l.length<=1000000):aP 235 [.sc (.sl 0 0 l.length),.ag h.cs] [some ⟨l.map HalfD.cs,8,113,false,true⟩]
  (.tu [.sc (.sl 1 0 (aX l h).1.length),.sc (.bo (aX l h).2)]) [some ⟨l.map HalfD.cs,8,113,false,true⟩,some ⟨(aX l h).1.map HalfD.cs,8,113,true,true⟩]:=by
 have hA:=js l h.road zO
 have hbd:=gW l h.road
 have hO:=rO (bP l h) (by have:=dz l h;omega)
 have hll:=dz l h
 have hL:=bP.eq_1 l h
 have ht:=oH (l:=l) (h:=h)
 have hf:=Ai (l:=l) (h:=h)
 generalize bP l h=L at*
 generalize aX l h=R at*
 generalize bj l h.road=k at hA hbd hL
 refine qE func235 ntmps235 results235 fun E hE=>?_
 refine qK (hA) (qI 0 1) ?_
 rcases hbd with rfl|⟨hb0,hb1⟩
 ·rw [if_neg zO] at hL
  subst hL
  have e:=DA l h
  simp only [HalfD.cs] at e
  rw [RY] at hO
  try simp (disch:=omega) only [go_sem,seval,e]
  refine qK (hO) (qI 5 1) ?_
  refine qB (fun h1=>?_) fun h1=>?_
  ·rw [hf h1]
   exact qF (qI 0 1++qI 7 1)
  rw [ht h1]
  try simp only [RT]
  exact qF (qI 0 1++qI 5 1)
 obtain⟨n,rfl⟩:=RR hb0
 rw [if_pos hb0,RQ] at hL
 subst hL
 have e:=Dy l n h
 simp only [HalfD.cs] at e
 rw [RT] at hO
 try simp (disch:=omega) only [go_sem,seval,e]
 refine qK (hO) (qI 3 1) ?_
 refine qB (fun h1=>?_) fun h1=>?_
 ·rw [hf h1]
  exact qF (qI 0 1++qI 5 1)
 rw [ht h1]
 try simp only [RT]
 exact qF (qI 0 1++qI 3 1)
theorem gF (e:EndD):aP 180 [.ag (e.cs 0)] (e.hp false) (.sc (.bo (cv e.draw 1 999999996))) (e.hp false):=by
 refine qE func180 ntmps180 results180 fun E hE=>?_
 refine qK (aT _ _ _) [] ?_
 exact qF (qI 0 7)
theorem gw (e:EndD):aP 143 [.ag (e.cs 0),.sc (.int .i64 2)] (e.hp false) (.sc (.bo (cv e.draw 1 999999996))) (e.hp false):=by
 refine gn func143 (by kernel_rfl) rfl fun E hE=>ae 400 ?_
 simp (disch:=omega) only [ntmps143,results143,go_sem,Nat.reduceEqDiff,Nat.reduceAdd,Nat.reduceSub,Int.reduceAdd,Int.reduceSub,Int.reduceToNat]
 refine aD (qC) (aB _ _ _) [] qM zF (ae 400 ?_)
 simp (disch:=omega) only [go_sem,Nat.reduceEqDiff,Nat.reduceAdd,Nat.reduceSub,Int.reduceAdd,Int.reduceSub,Int.reduceToNat]
 refine aK (qI 0 7) (qC) _ (by simp only [go_sem];rfl) zF zF ?_
 simp (disch:=omega) only [go_sem,Nat.reduceEqDiff,Nat.reduceAdd,Nat.reduceSub,Int.reduceAdd,Int.reduceSub,Int.reduceToNat]
 rfl
theorem DB (n:Int):aP 225 [.sc (.int .i64 n)] [] (.sc (.sl 0 0 1)) [some ⟨(e_ n).map AddrD.cs,4,69,true,true⟩]:=by
 refine qE func225 ntmps225 results225 fun E hE=>?_
 refine qJ (qI 0 1) ?_
 rfl
theorem uM (n:Int):aP 148 [.sc (.int .i64 n)] [] (.sc (.sl 0 0 1)) [some ⟨(e_ n).map AddrD.cs,4,69,true,true⟩]:=by
 refine qE func148 ntmps148 results148 fun E hE=>?_
 refine qJ (qI 0 1) ?_
 rfl
def Qy (e:EndD) (a b c d i f g:Nat):List Sc:=[.int .i64 e.side,.int .i64 e.state,.int .i64 e.key,.int .i64 e.peer,.int .i64 e.policy.kind,.int .i64 e.policy.many,.sl a 0 e.own.length,.sl b 0 e.far.length,.sl c 0 e.subs.length,.sl d 0 e.halfs.length,.int .i64 e.bucket.rate,.int .i64 e.bucket.burst,.int .i64 e.bucket.cur,.st e.out.text,.int .i64 e.out.base,.int .i64 e.out.sent,.int .i64 e.out.room,.int .i64 e.inp.read,.st e.inp.ready,.sl i 0 e.inp.list.length,.sl f 0 e.done.length,.sl g 0 e.over.length,.int .i64 e.draw,.int .i64 e.now,.int .i64 e.pick]
attribute [go_sem] Qy
theorem iF (e:EndD) (h:cv e.draw 1 999999996=true):aP 181 [.sc (.pt 7 0 0)] (e.hp false++[some ⟨[e.cs 0],25,38,true,false⟩]) (.tu [.sc (.int .i64 e.draw),.sc (.int .i64 (e.draw+2))])
  (e.hp false++[some ⟨[EndD.cs { e with draw:=e.draw+4 } 0],25,38,true,false⟩]):=by
 simp only [cv,RP,decide_eq_true_eq] at h
 refine qE func181 ntmps181 results181 fun E hE=>?_
 exact qF (qI 0 8)
theorem wI (e:EndD) (x:LetterD) (hs:Small e):aP 182 [.ag (e.cs 0),.ag x.cs] (e.hp false) (.tu [.ag ((aI e x).1.cs 7),.sc (.sl 14 0 (aI e x).2.length)])
  (e.hp false++((aI e x).1.hp true++[some ⟨(aI e x).2.map LetterD.cs,19,73,true,true⟩])):=by
 have hC:=(qH (aV e))
 have hK:=(qH (cd e))
 have hO:=jf e x.to (by have:=hs.own;omega)
 have hS:=fO e (roadOf x) (by have:=hs.subs;omega)
 have hf:=uF (e:=e) (x:=x)
 have ht:=uE (e:=e) (x:=x)
 have hk:=iy.eq_1 e x
 generalize aI e x=R at*
 refine qE func182 ntmps182 results182 fun E hE=>?_
 refine qK (hC) (qI 0 7) ?_
 refine qK (dV x) [] ?_
 refine qK (hK) (qI 0 7) ?_
 refine qB (fun h1=>?_) fun h1=>?_
 ·refine qK (cu x) [] ?_
  refine qB (fun h2=>?_) fun h2=>?_
  ·refine qB (fun h3=>?_) fun h3=>?_
   ·refine qK (hO) (qI 0 7) ?_
    refine qB (fun h4=>?_) fun h4=>?_
    ·refine qK (aT _ _ _) [] ?_
     refine qB (fun h5=>?_) fun h5=>?_
     ·refine qK (hS) (qI 0 7) ?_
      refine qB (fun h6=>?_) fun h6=>?_
      ·refine qB (fun h7=>?_) fun h7=>?_
       ·refine qK (gF e) (qI 0 7) ?_
        refine qB (fun h8=>?_) fun h8=>?_
        ·rw [hf (by rw [hk];first|(simp [h8];done)|(simp [h8];intros;omega))]
         exact qF (qI 0 7++qI 10 7++qO 1)
        rw [ht (by rw [hk];simp [h1,h2,h3,h4,h5,h8];omega)]
        refine qK (iF e h8) (qI 10 8) ?_
        refine qK (DB x.frm) [] ?_
        refine aH [(6,7)] [(qU [0,9]),[0,1,2,3,4,5,7,6,8]] (by kernel_rfl) (qC) (by kernel_rfl) ?_
        simp only [bf]
        refine⟨aa 400 ?_,aa 400 ?_⟩
        all_goals simp (disch:=omega) only [go_sem,seval]
        all_goals
         refine aE (ce (roadOf x) { af with kind:=2,key:=e.draw,give:=e.draw+2 }) [] ?_
         refine qG ?_
         refine qP (qI 0 7++qI 10 1++qI 19 1++qI 21 1++qI 13 4++qI 22 1) ?_
         first|exact⟨⟩|simp [e_,SubD.cs,LetterD.cs,roadOf,ah,af]
       rw [hf (by rw [hk];first|(simp [h7];done)|(simp [h7];intros;omega))]
       exact qF (qI 0 7++qI 10 7++qO 1)
      rw [hf (by rw [hk];first|(simp [h6];done)|(simp [h6];intros;omega))]
      exact qF (qI 0 7++qI 10 7++qO 1)
     rw [hf (by rw [hk];first|(simp [h5];done)|(simp [h5];intros;omega))]
     exact qF (qI 0 7++qI 10 7++qO 1)
    rw [hf (by rw [hk];first|(simp [h4];done)|(simp [h4];intros;omega))]
    exact qF (qI 0 7++qI 10 7++qO 1)
   rw [hf (by rw [hk];first|(simp [h3];done)|(simp [h3];intros;omega))]
   exact qF (qI 0 7++qI 10 7++qO 1)
  rw [hf (by rw [hk];first|(simp [h2];done)|(simp [h2];intros;omega))]
  exact qF (qI 0 7++qI 10 7++qO 1)
 rw [hf (by rw [hk];first|(simp [h1];done)|(simp [h1];intros;omega))]
 exact qF (qI 0 7++qI 10 7++qO 1)
def HJ (e:EndD):Hp:=[some ⟨e.own.map AddrD.cs,4,69,false,true⟩,some ⟨e.far.map AddrD.cs,4,69,false,true⟩,some ⟨e.subs.map SubD.cs,10,58,true,true⟩,some ⟨e.halfs.map HalfD.cs,8,113,false,true⟩,some ⟨e.inp.list.map PieceD.cs,2,117,false,true⟩,some ⟨e.done.map bh,1,3,false,true⟩,some ⟨e.over.map bh,1,3,false,true⟩]
attribute [go_sem] HJ
theorem jt (e:EndD) (s:SubD) (hl:e.subs.length<=1000000):aP 145 [.ag (e.cs 0),.ag s.cs] (HJ e) (.ag (Qy { e with subs:=e.subs++[s] } 0 1 7 3 4 5 6))
  [some ⟨e.own.map AddrD.cs,4,69,false,true⟩,some ⟨e.far.map AddrD.cs,4,69,false,true⟩,none,some ⟨e.halfs.map HalfD.cs,8,113,false,true⟩,some ⟨e.inp.list.map PieceD.cs,2,117,false,true⟩,some ⟨e.done.map bh,1,3,false,true⟩,some ⟨e.over.map bh,1,3,false,true⟩,some ⟨(e.subs++[s]).map SubD.cs,10,58,true,true⟩]:=by
 refine qE func145 ntmps145 results145 fun E hE=>?_
 refine qJ (qI 0 7++qI 11 1) ?_
 simp [SubD.cs]
theorem FS (e:EndD) (hs:Small e) (h:cv e.draw 1 999999998=true):aP 194 [.ag (e.cs 0)] (e.hp false) (.tu [.ag (EndD.cs { e with draw:=e.draw+2 } 7),.sc (.int .i64 e.draw)]) (e.hp false++e.hp true):=by
 have hC:=(qH (aA e))
 have hr:=aB e.draw 1 999999998
 rw [h] at hr
 simp only [cv,RP,decide_eq_true_eq] at h
 refine qE func194 ntmps194 results194 fun E hE=>?_
 refine qK (hC) (qI 0 7) ?_
 refine qK (hr) [] ?_
 refine aH [(2,3)] [[0,1,2,3,4],[0,1,3,2,4]] (by kernel_rfl) (qC) (by kernel_rfl) ?_
 simp only [bf]
 refine⟨aa 400 ?_,aa 400 ?_⟩
 all_goals simp (disch:=omega) only [go_sem,seval]
 all_goals
  refine qG ?_
  exact qF (qI 0 7++qI 9 7)
theorem cR (e:EndD) (hs:Small e) (h:cv e.draw 1 999999998=true):aP 144 [.ag (e.cs 0)] (e.hp false) (.tu [.ag (EndD.cs { e with draw:=e.draw+2 } 7),.sc (.int .i64 e.draw)]) (e.hp false++e.hp true):=by
 have hC:=FS e hs h
 refine qE func144 ntmps144 results144 fun E hE=>?_
 refine qK (hC) (qI 0 7) ?_
 exact qF (qI 0 7++qI 9 7)
theorem nD (e:EndD) (x:LetterD) (hs:Small e):aP 101 [.ag (e.cs 0),.ag x.cs] (e.hp false) (.tu [.ag ((aI e x).1.cs 7),.sc (.sl 14 0 (aI e x).2.length)])
  (e.hp false++((aI e x).1.hp true++[some ⟨(aI e x).2.map LetterD.cs,19,73,true,true⟩])):=by
 have hC:=(qH (aA e))
 have hK:=(qH (a_ e))
 have hO:=gv e x.to (by have:=hs.own;omega)
 have hS:=fd e (roadOf x) (by have:=hs.subs;omega)
 have hf:=uF (e:=e) (x:=x)
 have ht:=uE (e:=e) (x:=x)
 have hk:=iy.eq_1 e x
 generalize aI e x=R at*
 refine qE func101 ntmps101 results101 fun E hE=>?_
 refine qK (hC) (qI 0 7) ?_
 refine qD [0,1,2,3,4,5,6,7,8,9,10,11,12,13,14,15,16,17,18,19,20,21,22,23,24,25,26,27,28,29,30,31,32,33,34,35,36,37,38,39,40,41,42,43] ?_
 refine aE (hK) (qI 0 7) ?_
 refine qB (fun h1=>?_) fun h1=>?_
 ·refine aE (dU x) [] ?_
  refine qB (fun h2=>?_) fun h2=>?_
  ·refine qB (fun h3=>?_) fun h3=>?_
   ·refine aE (hO) (qI 0 7) ?_
    refine qB (fun h4=>?_) fun h4=>?_
    ·refine aE (aB _ _ _) [] ?_
     refine qB (fun h5=>?_) fun h5=>?_
     ·refine aE (cZ x) [] ?_
      refine aE (hS) (qI 0 7) ?_
      refine qB (fun h6=>?_) fun h6=>?_
      ·refine qB (fun h7=>?_) fun h7=>?_
       ·refine aE (gw e) (qI 0 7) ?_
        refine qG ?_
        refine qB (fun h8=>?_) fun h8=>?_
        ·rw [hf (by rw [hk];first|(simp [h8];done)|(simp [h8];intros;omega))]
         exact qF (qI 0 7++qI 10 7++qI 18 1)
        rw [ht (by rw [hk];have:=dw h1;simp [h1,h2,h3,h4,h5,h8];omega)]
        have h8':=h8
        simp only [cv,RP,decide_eq_true_eq] at h8'
        have hd1:cv e.draw 1 999999998=true:=by simp only [cv,RP,decide_eq_true_eq];omega
        have hd2:cv (e.draw+2) 1 999999998=true:=by simp only [cv,RP,decide_eq_true_eq];omega
        refine qK (cR e hs hd1) (qI 10 7) ?_
        refine qK (cR { e with draw:=e.draw+2 } ⟨hs.own,hs.far,hs.subs,hs.halfs,hs.list,hs.done,hs.over⟩ hd2) (qI 19 7) ?_
        refine qK (uM x.frm) [] ?_
        refine Ac [(0,2),(2,4)] [[1,3,5,0,2,4,6,7,8],[1,3,5,0,4,2,6,7,8],[1,3,5,2,0,4,6,7,8],[1,3,5,4,2,0,6,7,8]] (by kernel_rfl) (qC) (by kernel_rfl) ?_
        simp only [bf]
        refine⟨eF 400 ?_,eF 400 ?_,eF 400 ?_,eF 400 ?_⟩
        all_goals simp (disch:=omega) only [go_sem,seval]
        all_goals
         refine lE (qC) (cZ x) [] qM zF (eF 400 ?_)
         simp (disch:=omega) only [go_sem,seval]
         refine lE (qC) (jt { e with state:=2,key:=e.draw,peer:=x.key,far:=e_ x.frm,draw:=e.draw+2+2 } ⟨roadOf x,3,false,0,0,x.give,e.draw+2,0⟩ (by have:=dw h1;dsimp only;omega)) (qI 26 1++qI 33 1++qI 28 5) qM zF (eF 400 ?_)
         simp (disch:=omega) only [go_sem,seval]
         refine qG ?_
         refine aH [(0,9),(3,0),(7,0),(8,0)] [[1,2,4,5,6,3,7,8,0,9,10,11],[1,2,4,5,6,3,7,0,8,9,10,11],[1,2,4,5,6,3,0,7,8,9,10,11],[1,2,4,5,6,0,3,7,8,9,10,11],[1,2,4,5,6,3,7,8,9,0,10,11]] (by kernel_rfl) (qC) (by kernel_rfl) ?_
         simp only [bf]
         refine⟨aa 400 ?_,aa 400 ?_,aa 400 ?_,aa 400 ?_,aa 400 ?_⟩
         all_goals simp (disch:=omega) only [go_sem,seval]
         all_goals
          refine aE (cZ x) [] ?_
          refine aE (bC (roadOf x) { af with kind:=2,key:=e.draw,give:=e.draw+2 }) [] ?_
          refine qG ?_
          refine aK (qI 0 7++qI 26 1++qI 33 2++qI 29 4++qI 36 1) (qC) _ (by simp only [go_sem];rfl) zF zF ?_
          simp (disch:=omega) only [go_sem,seval]
          try simp [e_,SubD.cs,LetterD.cs,roadOf,ah,af]
          try omega
       rw [hf (by rw [hk];first|(simp [h7];done)|(simp [h7];intros;omega))]
       refine qG ?_
       exact qF (qI 0 7++qI 10 7++qI 18 1)
      rw [hf (by rw [hk];first|(simp [h6];done)|(simp [h6];intros;omega))]
      refine qG ?_
      exact qF (qI 0 7++qI 10 7++qI 18 1)
     rw [hf (by rw [hk];first|(simp [h5];done)|(simp [h5];intros;omega))]
     refine qG ?_
     exact qF (qI 0 7++qI 10 7++qI 18 1)
    rw [hf (by rw [hk];first|(simp [h4];done)|(simp [h4];intros;omega))]
    refine qG ?_
    exact qF (qI 0 7++qI 10 7++qI 18 1)
   rw [hf (by rw [hk];first|(simp [h3];done)|(simp [h3];intros;omega))]
   refine qG ?_
   exact qF (qI 0 7++qI 10 7++qI 18 1)
  rw [hf (by rw [hk];first|(simp [h2];done)|(simp [h2];intros;omega))]
  refine qG ?_
  exact qF (qI 0 7++qI 10 7++qI 18 1)
 rw [hf (by rw [hk];first|(simp [h1];done)|(simp [h1];intros;omega))]
 refine qG ?_
 exact qF (qI 0 7++qI 10 7++qI 18 1)
theorem I8 (o:OutD) (n:Int):aP 233 [.ag o.cs,.sc (.int .i64 n)] [] (.ag (came o n).cs) []:=by
 obtain⟨R,hR⟩:∃ R,R=came o n:=⟨_,rfl⟩
 rw [<-hR]
 refine gn func233 (by kernel_rfl) rfl fun E hE=>ae 400 ?_
 simp (disch:=omega) only [ntmps233,results233,go_sem,seval]
 refine aD (qC) (mi o) [] qM zF (ae 400 ?_)
 simp (disch:=omega) only [go_sem,seval]
 split<;>rename_i h1<;>(try simp only [zR] at h1)<;>simp (disch:=omega) only [go_sem,seval,h1]<;>(try simp only [zQ] at h1)<;>try simp (disch:=omega) only [go_sem,seval]
 ·have h1':=h1
  simp only [outOk,gp,cv,RP,decide_eq_true_eq] at h1'
  obtain⟨⟨⟨⟨b0,b1⟩,r0,r1⟩,t0⟩,s0,s1⟩:=h1'
  rw [yV zO] at s1
  split<;>rename_i h2<;>(try simp only [zR] at h2)<;>simp (disch:=omega) only [go_sem,seval,h2]<;>(try simp only [zQ] at h2)<;>try simp (disch:=omega) only [go_sem,seval]
  ·split<;>rename_i h3<;>(try simp only [zR] at h3)<;>simp (disch:=omega) only [go_sem,seval,h3]<;>(try simp only [zQ] at h3)<;>try simp (disch:=omega) only [go_sem,seval]
   ·rw [came,if_neg (by rw [yV zO];omega)] at hR
    subst hR
    refine aK [] (qC) _ (by simp only [go_sem];rfl) zF zF ?_
    simp (disch:=omega) only [go_sem,seval]
   rw [came,if_pos ⟨h1,zO,by rw [yV zO];omega⟩] at hR
   subst hR
   by_cases h4:o.sent < n
   ·try simp (disch:=omega) only [go_sem,seval,h4]
    refine aK [] (qC) _ (by simp only [go_sem];rfl) zF zF ?_
    simp (disch:=omega) only [go_sem,seval]
    all_goals (try simp only [h4,if_true,if_false,go_sem])
    all_goals (repeat' first|rfl|constructor)
    try simp
   try simp (disch:=omega) only [go_sem,seval,h4]
   refine aK [] (qC) _ (by simp only [go_sem];rfl) zF zF ?_
   simp (disch:=omega) only [go_sem,seval]
   all_goals (try simp only [h4,if_true,if_false,go_sem])
   all_goals (repeat' first|rfl|constructor)
   try simp
  rw [came,if_neg zO] at hR
  subst hR
  refine aK [] (qC) _ (by simp only [go_sem];rfl) zF zF ?_
  simp (disch:=omega) only [go_sem,seval]
 rw [came,if_neg (by simp [h1])] at hR
 subst hR
 refine aK [] (qC) _ (by simp only [go_sem];rfl) zF zF ?_
 simp (disch:=omega) only [go_sem,seval]
theorem I9 (o:OutD) (n:Int):aP 241 [.ag o.cs,.sc (.int .i64 n)] [] (.ag (came o n).cs) []:=by
 obtain⟨R,hR⟩:∃ R,R=came o n:=⟨_,rfl⟩
 rw [<-hR]
 refine gn func241 (by kernel_rfl) rfl fun E hE=>ae 400 ?_
 simp (disch:=omega) only [ntmps241,results241,go_sem,seval]
 refine aD (qC) (kl o) [] qM zF (ae 400 ?_)
 simp (disch:=omega) only [go_sem,seval]
 split<;>rename_i h1<;>(try simp only [zR] at h1)<;>simp (disch:=omega) only [go_sem,seval,h1]<;>(try simp only [zQ] at h1)<;>try simp (disch:=omega) only [go_sem,seval]
 ·have h1':=h1
  simp only [outOk,gp,cv,RP,decide_eq_true_eq] at h1'
  obtain⟨⟨⟨⟨b0,b1⟩,r0,r1⟩,t0⟩,s0,s1⟩:=h1'
  rw [yV zO] at s1
  split<;>rename_i h2<;>(try simp only [zR] at h2)<;>simp (disch:=omega) only [go_sem,seval,h2]<;>(try simp only [zQ] at h2)<;>try simp (disch:=omega) only [go_sem,seval]
  ·split<;>rename_i h3<;>(try simp only [zR] at h3)<;>simp (disch:=omega) only [go_sem,seval,h3]<;>(try simp only [zQ] at h3)<;>try simp (disch:=omega) only [go_sem,seval]
   ·rw [came,if_neg (by rw [yV zO];omega)] at hR
    subst hR
    refine aK [] (qC) _ (by simp only [go_sem];rfl) zF zF ?_
    simp (disch:=omega) only [go_sem,seval]
   rw [came,if_pos ⟨h1,zO,by rw [yV zO];omega⟩] at hR
   subst hR
   by_cases h4:o.sent < n
   ·try simp (disch:=omega) only [go_sem,seval,h4]
    refine aK [] (qC) _ (by simp only [go_sem];rfl) zF zF ?_
    simp (disch:=omega) only [go_sem,seval]
    all_goals (try simp only [h4,if_true,if_false,go_sem])
    all_goals (repeat' first|rfl|constructor)
    try simp
   try simp (disch:=omega) only [go_sem,seval,h4]
   refine aK [] (qC) _ (by simp only [go_sem];rfl) zF zF ?_
   simp (disch:=omega) only [go_sem,seval]
   all_goals (try simp only [h4,if_true,if_false,go_sem])
   all_goals (repeat' first|rfl|constructor)
   try simp
  rw [came,if_neg zO] at hR
  subst hR
  refine aK [] (qC) _ (by simp only [go_sem];rfl) zF zF ?_
  simp (disch:=omega) only [go_sem,seval]
 rw [came,if_neg (by simp [h1])] at hR
 subst hR
 refine aK [] (qC) _ (by simp only [go_sem];rfl) zF zF ?_
 simp (disch:=omega) only [go_sem,seval]
theorem iY (e:EndD) (x:LetterD) (hs:Small e):aP 239 [.ag (e.cs 0),.ag x.cs] (e.hp false) (.sc (.int .i64 (iP e x))) (e.hp false):=by
 have hK:=(qH (a_ e))
 have hS:=yY e x (by have:=hs.subs;omega)
 obtain⟨R,hR⟩:∃ R,R=iP e x:=⟨_,rfl⟩
 rw [<-hR]
 rw [iP] at hR
 refine qE func239 ntmps239 results239 fun E hE=>?_
 refine qK (hK) (qI 0 7) ?_
 refine qB (fun h1=>?_) fun h1=>?_
 ·refine qK (dU x) [] ?_
  refine qB (fun h2=>?_) fun h2=>?_
  ·rw [if_neg (by simp [h1,h2])] at hR
   refine qJ (qI 0 7) ?_
   exact hR.symm
  rw [if_pos (by simp [h1,h2])] at hR
  refine qK (hS) (qI 0 7) ?_
  refine qJ (qI 0 7) ?_
  exact hR.symm
 rw [if_neg (by simp [h1])] at hR
 refine qJ (qI 0 7) ?_
 exact hR.symm
theorem wK (e:EndD) (x:LetterD) (hs:Small e):aP 193 [.ag (e.cs 0),.ag x.cs] (e.hp false) (.tu [.ag ((bG e x).1.cs 7),.sc (.sl 14 0 (bG e x).2.length)])
  (e.hp false++((bG e x).1.hp true++[some ⟨(bG e x).2.map LetterD.cs,19,73,true,true⟩])):=by
 have hC:=(qH (aV e))
 have hK:=(qH (cd e))
 have hS:=fq e x (by have:=hs.subs;omega)
 have hbd:=fN e x
 have hL:=cu x
 have hf:=uG (e:=e) (x:=x)
 have ht:=fun (n:Nat)=> @uH e x n
 generalize bG e x=R at*
 refine qE func193 ntmps193 results193 fun E hE=>?_
 refine qK (hC) (qI 0 7) ?_
 refine qK (hS) (qI 0 7) ?_
 refine qK (hK) (qI 0 7) ?_
 refine qB (fun h1=>?_) fun h1=>?_
 ·refine qK (hL) [] ?_
  refine qB (fun h2=>?_) fun h2=>?_
  ·rcases hbd with hk|⟨hb0,hb1⟩
   ·rw [hf (cV (by rintro⟨_,_,hh⟩;omega))]
    rw [hk]
    refine qX ?_
    exact qF (qI 0 7++qI 10 7++qO 1)
   obtain⟨n,hk⟩:=RR hb0
   have hn:n < e.subs.length:=zO
   rw [ht _ (kj h1 h2 hk) hk,dA hn,hk]
   have e1:=kQ e.subs n { e.subs[n] with state:=4 }
   simp only [SubD.cs] at e1
   try simp (disch:=omega) only [go_sem,seval,e1]
   refine qP (qI 0 7++qI 10 7++qO 1) ?_
   first|exact⟨⟩|simp
  rw [hf (cV (by rintro⟨_,hh,_⟩;rw [h2] at hh;cases hh))]
  refine qX ?_
  exact qF (qI 0 7++qI 10 7++qO 1)
 rw [hf (cV (by rintro⟨hh,_⟩;rw [h1] at hh;cases hh))]
 refine qX ?_
 exact qF (qI 0 7++qI 10 7++qO 1)
theorem wL (e:EndD) (x:LetterD) (hs:Small e):aP 214 [.ag (e.cs 0),.ag x.cs] (e.hp false) (.tu [.ag ((bG e x).1.cs 7),.sc (.sl 14 0 (bG e x).2.length)])
  (e.hp false++((bG e x).1.hp true++[some ⟨(bG e x).2.map LetterD.cs,19,73,true,true⟩])):=by
 have hC:=(qH (aA e))
 have hK:=(qH (a_ e))
 have hS:=iY e x hs
 have hbd:=gD e x
 have hf:=uG (e:=e) (x:=x)
 have ht:=fun (n:Nat)=> @uH e x n
 generalize bG e x=R at*
 refine qE func214 ntmps214 results214 fun E hE=>?_
 refine qK (hC) (qI 0 7) ?_
 refine qK (hS) (qI 0 7) ?_
 rcases hbd with hon|⟨n,hon,hk,hn,_,_⟩
 ·rw [hf zO,hon]
  refine qX ?_
  exact qF (qI 0 7++qI 10 7++qI 18 1)
 rw [ht _ hon hk,dA hn,hon]
 have e1:=kQ e.subs n { e.subs[n] with state:=4 }
 simp only [SubD.cs] at e1
 try simp (disch:=omega) only [go_sem,seval,e1]
 refine qP (qI 0 7++qI 10 7++qI 18 1) ?_
 first|exact⟨⟩|simp
theorem yZ (e:EndD) (x:LetterD) (hs:Small e):aP 192 [.ag (e.cs 0),.ag x.cs] (e.hp false) (.tu [.ag ((bR e x).1.cs 7),.sc (.sl 14 0 (bR e x).2.length)])
  (e.hp false++((bR e x).1.hp true++[some ⟨(bR e x).2.map LetterD.cs,19,73,true,true⟩])):=by
 have hC:=(qH (aV e))
 have hK:=(qH (cd e))
 have hS:=fq e x (by have:=hs.subs;omega)
 have hbd:=fN e x
 have hL:=cu x
 have hf:=wG (e:=e) (x:=x)
 have ht:= @p_ e x
 generalize bR e x=R at*
 refine qE func192 ntmps192 results192 fun E hE=>?_
 refine qK (hC) (qI 0 7) ?_
 refine qK (hK) (qI 0 7) ?_
 refine qB (fun h1=>?_) fun h1=>?_
 ·refine qK (hL) [] ?_
  refine qB (fun h2=>?_) fun h2=>?_
  ·refine qK (hS) (qI 0 7) ?_
   rcases hbd with hk|⟨hb0,hb1⟩
   ·rw [hf (cV (by rintro⟨_,_,hh⟩;omega))]
    rw [hk]
    refine qX ?_
    exact qF (qI 0 7++qI 10 7++qO 1)
   obtain⟨n,hk⟩:=RR hb0
   rw [ht (by rw [kj h1 h2 hk];omega),hk]
   refine qX ?_
   refine qK (I8 e.out x.pos) [] ?_
   exact qF (qI 0 7++qI 10 7++qO 1)
  rw [hf (cV (by rintro⟨_,hh,_⟩;rw [h2] at hh;cases hh))]
  refine qX ?_
  exact qF (qI 0 7++qI 10 7++qO 1)
 rw [hf (cV (by rintro⟨hh,_⟩;rw [h1] at hh;cases hh))]
 refine qX ?_
 exact qF (qI 0 7++qI 10 7++qO 1)
theorem y0 (e:EndD) (x:LetterD) (hs:Small e):aP 213 [.ag (e.cs 0),.ag x.cs] (e.hp false) (.tu [.ag ((bR e x).1.cs 7),.sc (.sl 14 0 (bR e x).2.length)])
  (e.hp false++((bR e x).1.hp true++[some ⟨(bR e x).2.map LetterD.cs,19,73,true,true⟩])):=by
 have hC:=(qH (aA e))
 have hK:=(qH (a_ e))
 have hS:=iY e x hs
 have hbd:=gD e x
 have hf:=wG (e:=e) (x:=x)
 have ht:= @p_ e x
 generalize bR e x=R at*
 refine qE func213 ntmps213 results213 fun E hE=>?_
 refine qK (hC) (qI 0 7) ?_
 refine qK (hS) (qI 0 7) ?_
 rcases hbd with hon|⟨n,hon,hk,hn,_,_⟩
 ·rw [hf zO,hon]
  refine qX ?_
  exact qF (qI 0 7++qI 10 7++qI 18 1)
 rw [ht zO,hon]
 refine qX ?_
 refine qK (I9 e.out x.pos) [] ?_
 exact qF (qI 0 7++qI 10 7++qI 18 1)
theorem tH (e:EndD) (x:LetterD) (hs:Small e):aP 187 [.ag (e.cs 0),.ag x.cs] (e.hp false) (.tu [.ag ((aM e x).1.cs 7),.sc (.sl 14 0 (aM e x).2.length)])
  (e.hp false++((aM e x).1.hp true++[some ⟨(aM e x).2.map LetterD.cs,19,73,true,true⟩])):=by
 have hC:=(qH (aV e))
 have hK:=(qH (cd e))
 have hS:=fO e (roadOf x) (by have:=hs.subs;omega)
 have hL:=cu x
 have hbd:=fh e.subs (roadOf x)
 have hf:=K0 (e:=e) (x:=x)
 have ht:=fun (n:Nat)=> @K1 e x n
 generalize aM e x=R at*
 refine qE func187 ntmps187 results187 fun E hE=>?_
 refine qK (hC) (qI 0 7) ?_
 refine qD [0,1,2,3,4] ?_
 refine aE (dV x) [] ?_
 refine aE (hS) (qI 0 7) ?_
 refine qG ?_
 rcases hbd with hk|⟨hb0,hb1⟩
 ·rw [hf (K2 hk),hk]
  refine qD [0,1,2,3,4,5,6,7,8,9,10,11,12,13,14,15,16,17,18,19,20,21,22,23,24,25,26,27,28,29] ?_
  refine aE (hK) (qI 0 7) ?_
  refine qB (fun h1=>?_) fun h1=>?_
  ·refine aE (hL) [] ?_
   refine qB (fun h2=>?_) fun h2=>?_
   ·refine qG ?_
    exact qF (qI 0 7++qI 10 7++qO 1)
   refine qG ?_
   exact qF (qI 0 7++qI 10 7++qO 1)
  refine qG ?_
  exact qF (qI 0 7++qI 10 7++qO 1)
 obtain⟨n,hk⟩:=RR hb0
 have hn:n < e.subs.length:=zO
 have ha:=FO hk hn
 rw [hk]
 refine qD [0,1,2,3,4,5,6,7,8,9,10,11,12,13,14,15,16,17,18,19,20,21,22,23,24,25,26,27,28,29] ?_
 refine aE (hK) (qI 0 7) ?_
 refine qB (fun h1=>?_) fun h1=>?_
 ·refine aE (hL) [] ?_
  refine qB (fun h2=>?_) fun h2=>?_
  ·refine qB (fun h3=>?_) fun h3=>?_
   ·refine qG ?_
    refine qB (fun h4=>?_) fun h4=>?_
    ·rw [ht _ (by rw [ha];simp [h1,h2,h3,h4]) hk,dA hn]
     have e1:=kQ e.subs n { e.subs[n] with state:=3 }
     simp only [SubD.cs] at e1
     try simp (disch:=omega) only [go_sem,seval,e1]
     refine qP (qI 0 7++qI 10 7++qO 1) ?_
     first|exact⟨⟩|simp
    rw [hf (by rw [ha];simp [h1,h2,h3,h4])]
    refine qX ?_
    exact qF (qI 0 7++qI 10 7++qO 1)
   rw [hf (by rw [ha];simp [h1,h2,h3])]
   refine qG ?_
   exact qF (qI 0 7++qI 10 7++qO 1)
  rw [hf (by rw [ha];simp [h1,h2])]
  refine qG ?_
  exact qF (qI 0 7++qI 10 7++qO 1)
 rw [hf (by rw [ha];simp [h1])]
 refine qG ?_
 exact qF (qI 0 7++qI 10 7++qO 1)
theorem tI (e:EndD) (x:LetterD) (hs:Small e):aP 208 [.ag (e.cs 0),.ag x.cs] (e.hp false) (.tu [.ag ((aM e x).1.cs 7),.sc (.sl 14 0 (aM e x).2.length)])
  (e.hp false++((aM e x).1.hp true++[some ⟨(aM e x).2.map LetterD.cs,19,73,true,true⟩])):=by
 have hC:=(qH (aA e))
 have hK:=(qH (a_ e))
 have hS:=fd e (roadOf x) (by have:=hs.subs;omega)
 have hL:=dU x
 have hbd:=fh e.subs (roadOf x)
 have hf:=K0 (e:=e) (x:=x)
 have ht:=fun (n:Nat)=> @K1 e x n
 generalize aM e x=R at*
 refine qE func208 ntmps208 results208 fun E hE=>?_
 refine qK (hC) (qI 0 7) ?_
 refine qD [0,1,2,3,4] ?_
 refine aE (cZ x) [] ?_
 refine aE (hS) (qI 0 7) ?_
 refine qG ?_
 rcases hbd with hk|⟨hb0,hb1⟩
 ·rw [hf (K2 hk),hk]
  refine qD [0,1,2,3,4,5,6,7,8,9,10,11,12,13,14,15,16,17,18,19,20,21,22,23,24,25,26,27,28,29] ?_
  refine aE (hK) (qI 0 7) ?_
  refine qB (fun h1=>?_) fun h1=>?_
  ·refine aE (hL) [] ?_
   refine qB (fun h2=>?_) fun h2=>?_
   ·refine qG ?_
    exact qF (qI 0 7++qI 10 7++qI 18 1)
   refine qG ?_
   exact qF (qI 0 7++qI 10 7++qI 18 1)
  refine qG ?_
  exact qF (qI 0 7++qI 10 7++qI 18 1)
 obtain⟨n,hk⟩:=RR hb0
 have hn:n < e.subs.length:=zO
 have ha:=FO hk hn
 rw [hk]
 refine qD [0,1,2,3,4,5,6,7,8,9,10,11,12,13,14,15,16,17,18,19,20,21,22,23,24,25,26,27,28,29] ?_
 refine aE (hK) (qI 0 7) ?_
 refine qB (fun h1=>?_) fun h1=>?_
 ·refine aE (hL) [] ?_
  refine qB (fun h2=>?_) fun h2=>?_
  ·refine qB (fun h3=>?_) fun h3=>?_
   ·refine qG ?_
    refine qB (fun h4=>?_) fun h4=>?_
    ·rw [ht _ (by rw [ha];simp [h1,h2,h3,h4]) hk,dA hn]
     have e1:=kQ e.subs n { e.subs[n] with state:=3 }
     simp only [SubD.cs] at e1
     try simp (disch:=omega) only [go_sem,seval,e1]
     refine qP (qI 0 7++qI 10 7++qI 18 1) ?_
     first|exact⟨⟩|simp
    rw [hf (by rw [ha];simp [h1,h2,h3,h4])]
    refine qX ?_
    exact qF (qI 0 7++qI 10 7++qI 18 1)
   rw [hf (by rw [ha];simp [h1,h2,h3])]
   refine qG ?_
   exact qF (qI 0 7++qI 10 7++qI 18 1)
  rw [hf (by rw [ha];simp [h1,h2])]
  refine qG ?_
  exact qF (qI 0 7++qI 10 7++qI 18 1)
 rw [hf (by rw [ha];simp [h1])]
 refine qG ?_
 exact qF (qI 0 7++qI 10 7++qI 18 1)
theorem y4 (e:EndD) (x:LetterD) (hs:Small e):aP 183 [.ag (e.cs 0),.ag x.cs] (e.hp false) (.tu [.ag ((br e x).1.cs 7),.sc (.sl 14 0 (br e x).2.length)])
  (e.hp false++((br e x).1.hp true++[some ⟨(br e x).2.map LetterD.cs,19,73,true,true⟩])):=by
 have hC:=(qH (aV e))
 have hK:=(qH (cd e))
 have hS:=fO e (roadOf x) (by have:=hs.subs;omega)
 have hL:=cu x
 have hbd:=fh e.subs (roadOf x)
 have hf:=K3 (e:=e) (x:=x)
 have ht:=fun (n:Nat)=> @K4 e x n
 generalize br e x=R at*
 refine qE func183 ntmps183 results183 fun E hE=>?_
 refine qK (hC) (qI 0 7) ?_
 refine qK (dV x) [] ?_
 refine qK (hS) (qI 0 7) ?_
 rcases hbd with hk|⟨hb0,hb1⟩
 ·rw [hf (HG hk),hk]
  refine qX ?_
  refine qK (hK) (qI 0 7) ?_
  refine qB (fun h1=>?_) fun h1=>?_
  ·refine qK (hL) [] ?_
   refine qB (fun h2=>?_) fun h2=>?_
   ·refine qB (fun h3=>?_) fun h3=>?_
    ·refine qX ?_
     exact qF (qI 0 7++qI 10 7++qO 1)
    refine qX ?_
    exact qF (qI 0 7++qI 10 7++qO 1)
   refine qX ?_
   exact qF (qI 0 7++qI 10 7++qO 1)
  refine qX ?_
  exact qF (qI 0 7++qI 10 7++qO 1)
 obtain⟨n,hk⟩:=RR hb0
 have hn:n < e.subs.length:=zO
 have ha:=HE hk hn
 rw [hk]
 refine qX ?_
 refine qK (hK) (qI 0 7) ?_
 refine qB (fun h1=>?_) fun h1=>?_
 ·refine qK (hL) [] ?_
  refine qB (fun h2=>?_) fun h2=>?_
  ·refine qB (fun h3=>?_) fun h3=>?_
   ·refine qB (fun h4=>?_) fun h4=>?_
    ·refine qK (aT _ _ _) [] ?_
     refine qB (fun h5=>?_) fun h5=>?_
     ·rw [hf (by rw [ha];simp [h1,h2,h3,h4,h5])]
      refine qX ?_
      exact qF (qI 0 7++qI 10 7++qO 1)
     rw [ht _ (by rw [ha];simp [h1,h2,h3,h4,h5]) hk hn]
     have e1:=kQ e.subs n { e.subs[n] with state:=3 }
     have e2:=kQ (e.subs.set n { e.subs[n] with state:=3 }) n { e.subs[n] with state:=3,give:=x.give }
     rw [Sb] at e2
     simp only [SubD.cs] at e1 e2
     refine qX ?_
     refine qK (DB x.frm) [] ?_
     try simp (disch:=omega) only [go_sem,seval,e1,e2]
     refine aH [(4,5)] [(qU [0,7]),[0,1,2,3,5,4,6]] (by kernel_rfl) (qC) (by kernel_rfl) ?_
     simp only [bf]
     refine⟨aa 400 ?_,aa 400 ?_⟩
     all_goals simp (disch:=omega) only [go_sem,seval]
     all_goals
      refine aE (ce (roadOf x) { af with kind:=3 }) [] ?_
      refine qG ?_
      refine aK (qI 0 7++qI 10 1++qI 19 1++qI 12 5++qI 20 1) (qC) _ (by simp only [go_sem];rfl) zF zF ?_
      simp (disch:=omega) only [go_sem,seval]
      try simp [e_,SubD.cs,LetterD.cs,roadOf,ah,af]
      try omega
    rw [hf (by rw [ha];simp [h1,h2,h3,h4])]
    refine qX ?_
    exact qF (qI 0 7++qI 10 7++qO 1)
   rw [hf (by rw [ha];simp [h1,h2,h3])]
   refine qX ?_
   exact qF (qI 0 7++qI 10 7++qO 1)
  rw [hf (by rw [ha];simp [h1,h2])]
  refine qX ?_
  exact qF (qI 0 7++qI 10 7++qO 1)
 rw [hf (by rw [ha];simp [h1])]
 refine qX ?_
 exact qF (qI 0 7++qI 10 7++qO 1)
theorem pK (e:EndD) (x:LetterD) (hs:Small e):aP 102 [.ag (e.cs 0),.ag x.cs] (e.hp false) (.tu [.ag ((br e x).1.cs 7),.sc (.sl 14 0 (br e x).2.length)])
  (e.hp false++((br e x).1.hp true++[some ⟨(br e x).2.map LetterD.cs,19,73,true,true⟩])):=by
 have hC:=(qH (aA e))
 have hK:=(qH (a_ e))
 have hS:=fd e (roadOf x) (by have:=hs.subs;omega)
 have hL:=dU x
 have hbd:=fh e.subs (roadOf x)
 have hf:=K3 (e:=e) (x:=x)
 have ht:=fun (n:Nat)=> @K4 e x n
 generalize br e x=R at*
 refine qE func102 ntmps102 results102 fun E hE=>?_
 refine qK (hC) (qI 0 7) ?_
 refine qD [0,1,2,3,4] ?_
 refine aE (cZ x) [] ?_
 refine aE (hS) (qI 0 7) ?_
 refine qG ?_
 rcases hbd with hk|⟨hb0,hb1⟩
 ·rw [hf (HG hk),hk]
  refine qX ?_
  refine qK (hK) (qI 0 7) ?_
  refine qB (fun h1=>?_) fun h1=>?_
  ·refine qK (hL) [] ?_
   refine qB (fun h2=>?_) fun h2=>?_
   ·refine qB (fun h3=>?_) fun h3=>?_
    ·refine qX ?_
     exact qF (qI 0 7++qI 10 7++qI 18 1)
    refine qX ?_
    exact qF (qI 0 7++qI 10 7++qI 18 1)
   refine qX ?_
   exact qF (qI 0 7++qI 10 7++qI 18 1)
  refine qX ?_
  exact qF (qI 0 7++qI 10 7++qI 18 1)
 obtain⟨n,hk⟩:=RR hb0
 have hn:n < e.subs.length:=zO
 have ha:=HE hk hn
 rw [hk]
 refine qX ?_
 refine qK (hK) (qI 0 7) ?_
 refine qB (fun h1=>?_) fun h1=>?_
 ·refine qK (hL) [] ?_
  refine qB (fun h2=>?_) fun h2=>?_
  ·refine qB (fun h3=>?_) fun h3=>?_
   ·refine qB (fun h4=>?_) fun h4=>?_
    ·refine qK (aB _ _ _) [] ?_
     refine qB (fun h5=>?_) fun h5=>?_
     ·rw [hf (by rw [ha];simp [h1,h2,h3,h4,h5])]
      refine qX ?_
      exact qF (qI 0 7++qI 10 7++qI 18 1)
     rw [ht _ (by rw [ha];simp [h1,h2,h3,h4,h5]) hk hn]
     have e1:=kQ e.subs n { e.subs[n] with state:=3 }
     have e2:=kQ (e.subs.set n { e.subs[n] with state:=3 }) n { e.subs[n] with state:=3,give:=x.give }
     rw [Sb] at e2
     simp only [SubD.cs] at e1 e2
     refine qX ?_
     refine qK (uM x.frm) [] ?_
     try simp (disch:=omega) only [go_sem,seval,e1,e2]
     refine aH [(0,7),(3,0),(5,0),(6,0)] [[1,2,4,3,5,6,0,7,8,9],[1,2,4,3,5,0,6,7,8,9],[1,2,4,3,0,5,6,7,8,9],[1,2,4,0,3,5,6,7,8,9],[1,2,4,3,5,6,7,0,8,9]] (by kernel_rfl) (qC) (by kernel_rfl) ?_
     simp only [bf]
     refine⟨aa 400 ?_,aa 400 ?_,aa 400 ?_,aa 400 ?_,aa 400 ?_⟩
     all_goals simp (disch:=omega) only [go_sem,seval]
     all_goals
      refine aE (cZ x) [] ?_
      refine aE (bC (roadOf x) { af with kind:=3 }) [] ?_
      refine qG ?_
      refine aK (qI 0 7++qI 10 1++qI 19 1++qI 12 5++qI 21 1) (qC) _ (by simp only [go_sem];rfl) zF zF ?_
      simp (disch:=omega) only [go_sem,seval]
      try simp [e_,SubD.cs,LetterD.cs,roadOf,ah,af]
      try omega
    rw [hf (by rw [ha];simp [h1,h2,h3,h4])]
    refine qX ?_
    exact qF (qI 0 7++qI 10 7++qI 18 1)
   rw [hf (by rw [ha];simp [h1,h2,h3])]
   refine qX ?_
   exact qF (qI 0 7++qI 10 7++qI 18 1)
  rw [hf (by rw [ha];simp [h1,h2])]
  refine qX ?_
  exact qF (qI 0 7++qI 10 7++qI 18 1)
 rw [hf (by rw [ha];simp [h1])]
 refine qX ?_
 exact qF (qI 0 7++qI 10 7++qI 18 1)
theorem tJ {a b:RoadD} (h:dL a b=true):a=b:=by
 have h':=h
 simp only [dL,RP,beq_iff_eq] at h'
 obtain⟨a1,a2,a3⟩:=a
 obtain⟨b1,b2,b3⟩:=b
 simp_all
theorem DC {α:Type} {p:α->Bool}:∀ {l:List α} {k n:Nat},dT p k l=((k+n:Nat):Int)->∃ h:n < l.length,p l[n]=true
 |[],k,n,h=>by rw [dT] at h;omega
 |a::r,k,n,h=>by
  rw [dT] at h
  split at h
  ·rename_i hp
   obtain rfl:n=0:=zO
   exact⟨zP,hp⟩
  rcases n with _|n
  ·rcases rK (p:=p) (l:=r) (k:=k+1) with h'|h'<;>omega
  obtain⟨h1,h2⟩:=DC (p:=p) (l:=r) (k:=k+1) (n:=n) (by rw [h];omega)
  exact⟨by simp;omega,by simpa using h2⟩
theorem wM {α:Type} {p:α->Bool} {l:List α} {n:Nat} (h:jL p l=(n:Int)):∃ h:n < l.length,p l[n]=true:=DC (k:=0) (by rw [<-jL,h];omega)
theorem wN {l:List SubD} {r:RoadD} {n:Nat} (h:bF l r=(n:Int)) (hn:n < l.length):l[n].road=r:=by
 obtain⟨_,hp⟩:=wM h
 simp only [RP] at hp
 exact tJ hp.2
theorem uN {l:List HalfD} {r:RoadD} {n:Nat} (h:bj l r=(n:Int)) (hn:n < l.length):l[n].road=r:=by
 obtain⟨_,hp⟩:=wM h
 exact tJ hp
theorem bM {e:EndD} (h:ai e=true):c_ e.halfs=true:=by
 simp only [ai,RP] at h
 exact h.1.1.1.1.1.1.1.1.2
theorem j0 {e:EndD} (h:ai e=true):0<=e.now/\e.now<=1000000000:=by
 simp only [ai,RP,R3,gp,decide_eq_true_eq] at h
 obtain⟨⟨_,h⟩,_⟩:=h
 omega
theorem cf {l:List HalfD} (h:c_ l=true):l.length<=4:=by
 simp only [c_,RP,decide_eq_true_eq] at h
 omega
def bq (e:EndD) (s:SubD):LetterD:=ah s.road { af with kind:=6,tag:=⟨2,e.key,e.peer,s.mine,s.theirs⟩}
def rS (e:EndD) (x:LetterD):Bool:=
 ai e && du x && decide (e.state=2) && decide (0<=bF e.subs (roadOf x)) && decide ((bt e.subs (bF e.subs (roadOf x)).toNat).state=1) && decide (x.tag=⟨1,e.peer,e.key,x.nonce,(bt e.subs (bF e.subs (roadOf x)).toNat).mine⟩)
def ed (s:SubD) (x:LetterD):SubD:={ s with state:=2,theirs:=x.nonce,give:=x.give,tries:=0 }
def aF (e:EndD) (x:LetterD):EndD×List LetterD:=
 if rS e x then ({ e with subs:=e.subs.set (bF e.subs (roadOf x)).toNat (ed (bt e.subs (bF e.subs (roadOf x)).toNat) x) },[bq e (ed (bt e.subs (bF e.subs (roadOf x)).toNat) x)]) else (e,[])
theorem Ns {e:EndD} {x:LetterD} (h:rS e x=false):aF e x=(e,[]):=by rw [aF,if_neg (by simp [h])]
theorem Nt {e:EndD} {x:LetterD} {n:Nat} (h:rS e x=true) (hk:bF e.subs (roadOf x)=(n:Int)) (hn:n < e.subs.length):
  aF e x=({ e with subs:=e.subs.set n (ed e.subs[n] x) },[bq e (ed e.subs[n] x)]):=by
 rw [aF,if_pos h,hk,RQ,cI hn]
theorem La {e:EndD} {x:LetterD} {n:Nat} (hk:bF e.subs (roadOf x)=(n:Int)) (hn:n < e.subs.length):
  rS e x=(ai e && du x && decide (e.state=2) && decide (e.subs[n].state=1) && decide (x.tag=⟨1,e.peer,e.key,x.nonce,e.subs[n].mine⟩)):=by
 rw [rS,hk,RQ,cI hn]
 simp
theorem Or {e:EndD} {x:LetterD} (hk:bF e.subs (roadOf x)= -1):rS e x=false:=by
 rw [rS,hk]
 simp
def Lb (l:List HalfD) (n:Nat):HalfD:=l.getD n default
theorem eK {l:List HalfD} {n:Nat} (h:n < l.length):Lb l n=l[n]:=by simp [Lb,List.getD_eq_getElem?_getD,h]
def fH (r:RoadD) (give:Int):LetterD:=ah r { af with kind:=7,sgn:=give }
def lj (e:EndD) (x:LetterD):Bool:=ai e && du x && decide (e.state=2)
def qb (e:EndD) (x:LetterD):HalfD:=Lb e.halfs (bj e.halfs (roadOf x)).toNat
def ME (e:EndD) (x:LetterD):SubD:=bt e.subs (bF e.subs (roadOf x)).toNat
def pL (e:EndD) (x:LetterD):Bool:=decide (0<=bj e.halfs (roadOf x)) && decide (e.subs.length < 8) && decide (x.tag=⟨2,e.peer,e.key,(qb e x).theirs,(qb e x).mine⟩)
def I_ (e:EndD) (x:LetterD):Bool:=decide (0<=bF e.subs (roadOf x)) && decide ((ME e x).state=3) && decide (x.tag=⟨2,e.peer,e.key,(ME e x).theirs,(ME e x).mine⟩)
def fi (r:RoadD) (h:HalfD):SubD:=⟨r,3,false,h.mine,h.theirs,h.give,h.take,0⟩
def aq (e:EndD) (x:LetterD):EndD×List LetterD:=
 if lj e x then
  if pL e x then ({ e with subs:=(if 0<=bF e.subs (roadOf x) then cq e.subs (bF e.subs (roadOf x)).toNat 4 else e.subs)++[fi (roadOf x) (qb e x)],halfs:=bH e.halfs (roadOf x) },[fH (roadOf x) (qb e x).give])
  else if I_ e x then (e,[fH (roadOf x) (ME e x).give]) else (e,[])
 else (e,[])
theorem Nu {e:EndD} {x:LetterD} (h:lj e x=false):aq e x=(e,[]):=by rw [aq,if_neg (by simp [h])]
theorem HK {e:EndD} {x:LetterD} (h:lj e x=true) (ha:pL e x=false) (hb:I_ e x=false):aq e x=(e,[]):=by rw [aq,if_pos h,if_neg (by simp [ha]),if_neg (by simp [hb])]
theorem OZ {e:EndD} {x:LetterD} {n:Nat} (h:lj e x=true) (ha:pL e x=false) (hb:I_ e x=true) (hk:bF e.subs (roadOf x)=(n:Int)) (hn:n < e.subs.length):
  aq e x=(e,[fH (roadOf x) e.subs[n].give]):=by
 rw [aq,if_pos h,if_neg (by simp [ha]),if_pos hb,ME,hk,RQ,cI hn]
theorem Lc {e:EndD} {x:LetterD} {i n:Nat} (h:lj e x=true) (ha:pL e x=true) (hi:bj e.halfs (roadOf x)=(i:Int)) (hin:i < e.halfs.length) (hk:bF e.subs (roadOf x)=(n:Int)) (hn:n < e.subs.length):
  aq e x=({ e with subs:=e.subs.set n { e.subs[n] with state:=4 }++[fi (roadOf x) e.halfs[i]],halfs:=bH e.halfs (roadOf x) },[fH (roadOf x) e.halfs[i].give]):=by
 rw [aq,if_pos h,if_pos ha,qb,hi,RQ,eK hin,hk,if_pos zO,RQ,dA hn]
theorem Ld {e:EndD} {x:LetterD} {i:Nat} (h:lj e x=true) (ha:pL e x=true) (hi:bj e.halfs (roadOf x)=(i:Int)) (hin:i < e.halfs.length) (hk:bF e.subs (roadOf x)= -1):
  aq e x=({ e with subs:=e.subs++[fi (roadOf x) e.halfs[i]],halfs:=bH e.halfs (roadOf x) },[fH (roadOf x) e.halfs[i].give]):=by
 rw [aq,if_pos h,if_pos ha,qb,hi,RQ,eK hin,hk,if_neg zO]
theorem iZ {e:EndD} {x:LetterD} {i:Nat} (hi:bj e.halfs (roadOf x)=(i:Int)) (hin:i < e.halfs.length):pL e x=(decide (e.subs.length < 8) && decide (x.tag=⟨2,e.peer,e.key,e.halfs[i].theirs,e.halfs[i].mine⟩)):=by
 rw [pL,qb,hi,RQ,eK hin]
 simp
theorem BQ {e:EndD} {x:LetterD} (hi:bj e.halfs (roadOf x)= -1):pL e x=false:=by
 rw [pL,hi]
 simp
theorem fA {e:EndD} {x:LetterD} {n:Nat} (hk:bF e.subs (roadOf x)=(n:Int)) (hn:n < e.subs.length):I_ e x=(decide (e.subs[n].state=3) && decide (x.tag=⟨2,e.peer,e.key,e.subs[n].theirs,e.subs[n].mine⟩)):=by
 rw [I_,ME,hk,RQ,cI hn]
 simp
theorem tK {e:EndD} {x:LetterD} (hk:bF e.subs (roadOf x)= -1):I_ e x=false:=by
 rw [I_,hk]
 simp
theorem wO {l:List HalfD} {r:RoadD} (h:bj l r= -1):bH l r=l:=by rw [bH,h,if_pos zO]
theorem qc {l:List HalfD} {r:RoadD} {n:Nat} (h:bj l r=(n:Int)):bH l r=l.take n++l.drop (n+1):=by
 rw [bH,h,if_neg zO,RQ]
def ll (e:EndD) (x:LetterD):Bool:=
 ai e && du x && decide (e.state=2) && decide (x.token=d_ e.side) && ownsAddr e.own x.to && decide (e.subs.length < 8) &&
  !(decide (bj e.halfs (roadOf x) < 0) && decide (4<=e.halfs.length)) && cv e.draw 1 999999996 && decide (e.now<=999999994) && (bl e.bucket).2
def dO (e:EndD) (x:LetterD):Bool:=decide (0<=bj e.halfs (roadOf x)) && decide ((qb e x).theirs=x.nonce) && decide ((qb e x).give=x.give)
def cC (e:EndD) (r:RoadD) (h:HalfD):LetterD:=ah r { af with kind:=5,tag:=⟨1,e.key,e.peer,h.mine,h.theirs⟩,nonce:=h.mine,give:=h.take }
def aj (e:EndD) (x:LetterD):HalfD:=⟨roadOf x,x.nonce,e.draw,x.give,e.draw+2,e.now+6⟩
def bK (e:EndD) (x:LetterD):EndD×List LetterD:=
 if ll e x then
  if dO e x then ({ e with bucket:=(bl e.bucket).1,halfs:=e.halfs.set (bj e.halfs (roadOf x)).toNat { qb e x with till:=e.now+6 } },[cC e (roadOf x) (qb e x)])
  else ({ e with bucket:=(bl e.bucket).1,draw:=e.draw+4,halfs:=(aX e.halfs (aj e x)).1 },[cC e (roadOf x) (aj e x)])
 else (e,[])
theorem O0 {e:EndD} {x:LetterD} (h:ll e x=false):bK e x=(e,[]):=by rw [bK,if_neg (by simp [h])]
theorem Nv {e:EndD} {x:LetterD} {i:Nat} (h:ll e x=true) (hs:dO e x=true) (hi:bj e.halfs (roadOf x)=(i:Int)) (hin:i < e.halfs.length):
  bK e x=({ e with bucket:=(bl e.bucket).1,halfs:=e.halfs.set i { e.halfs[i] with till:=e.now+6 } },[cC e (roadOf x) e.halfs[i]]):=by
 rw [bK,if_pos h,if_pos hs,qb,hi,RQ,eK hin]
theorem Nw {e:EndD} {x:LetterD} (h:ll e x=true) (hs:dO e x=false):
  bK e x=({ e with bucket:=(bl e.bucket).1,draw:=e.draw+4,halfs:=(aX e.halfs (aj e x)).1 },[cC e (roadOf x) (aj e x)]):=by
 rw [bK,if_pos h,if_neg (by simp [hs])]
theorem j4 {e:EndD} {x:LetterD} {i:Nat} (hi:bj e.halfs (roadOf x)=(i:Int)) (hin:i < e.halfs.length):dO e x=(decide (e.halfs[i].theirs=x.nonce) && decide (e.halfs[i].give=x.give)):=by
 rw [dO,qb,hi,RQ,eK hin]
 simp
theorem Ak {e:EndD} {x:LetterD} (hi:bj e.halfs (roadOf x)= -1):dO e x=false:=by
 rw [dO,hi]
 simp
theorem Al {α β:Type} {p:β->Bool} {f:α->β}:∀ {l:List α} {k:Nat},dT p k (l.map f)=dT (fun a=>p (f a)) k l
 |[],k=>rfl
 |a::r,k=>by
  rw [List.map_cons,dT,dT,Al (l:=r)]
theorem wP (l:List HalfD) (r:RoadD):bj l r=jL (fun q=>dL q r) (l.map HalfD.road):=(Al (p:=fun q=>dL q r) (f:=HalfD.road) (l:=l) (k:=0)).symm
theorem Ja {l:List HalfD} {i:Nat} (hi:i < l.length) (t:Int):(l.set i { l[i] with till:=t }).map HalfD.road=l.map HalfD.road:=by
 rw [RZ]
 apply List.ext_getElem
 ·simp
 intro n h1 h2
 rw [R5]
 split
 ·rename_i h;subst h;simp
 rfl
theorem FT {l:List HalfD} {i:Nat} (hi:i < l.length) (t:Int) (r:RoadD):bj (l.set i { l[i] with till:=t }) r=bj l r:=by
 rw [wP,wP,Ja]
theorem DD {l:List HalfD} {i:Nat} (h:c_ l=true) (hi:i < l.length) {t:Int} (ht:gp t=true):c_ (l.set i { l[i] with till:=t })=true:=by
 simp only [c_,RP,RT] at h⊢
 refine⟨h.1,di fun j hj=>?_⟩
 have hu:=h.2
 simp only [fG,R6,R9] at hu
 have hj':=hu j hj
 simp only [gu,FT] at hj'⊢
 rw [wF hj] at hj'
 rw [wF (by simpa using hj),R5]
 split
 ·rename_i he
  subst he
  simp only [RP,R3] at hj'⊢
  exact⟨⟨hj'.1.1,hj'.1.2.1,hj'.1.2.2.1,hj'.1.2.2.2.1,hj'.1.2.2.2.2.1,ht,hj'.1.2.2.2.2.2.2⟩,hj'.2⟩
 exact hj'
theorem BR {l:List HalfD} {i:Nat} (h:c_ l=true) (hi:i < l.length) {t:Int} (ht:gp t=true) (hk:bj l l[i].road=(i:Int)):
  aX l { l[i] with till:=t }=(l.set i { l[i] with till:=t },true):=by
 have e:bP l { l[i] with till:=t }=l.set i { l[i] with till:=t }:=by
  rw [bP,if_pos (by dsimp only;omega)]
  dsimp only
  rw [hk,RQ]
 rw [oH (by rw [e];exact DD h hi ht),e]
theorem lJ {α:Type} {f:α->List Sc} {l:List α} {k:Nat} {a:α} {c:List Sc} (hc:f a=c) (h:k<=l.length):
  k+1+(l.length - k)=(l.take k).length+1+(l.drop k).length/\(l.take k).map f++[c]++((l.map f).drop k).take (l.length - k)=(l.take k++[a]++l.drop k).map f:=by
 refine⟨by simp;omega,?_⟩
 have e:((l.map f).drop k).take (l.length - k)=(l.map f).drop k:=R2 zP
 rw [<-hc,e]
 simp [RV,R_]
theorem Ny {α:Type} {f:α->List Sc} {l:List α} {a:α} {c:List Sc} (hc:f a=c):
  l.length+1+(l.length - l.length)=l.length+1/\l.map f++[c]++((l.map f).drop l.length).take (l.length - l.length)=(l++[a]).map f:=by
 rw [<-hc]
 simp
theorem Li (l:List Int) (n:Int) (hl:l.length<=1048570):aP 136 [.sc (.sl 0 0 l.length),.sc (.int .i64 n)] [some ⟨l.map bh,1,3,false,true⟩]
  (.sc (.sl 1 0 (jw l n).length)) [some ⟨l.map bh,1,3,false,true⟩,some ⟨(jw l n).map bh,1,3,true,true⟩]:=by
 have ht:=fun k=> @Lf l n k
 have hf:=fun k=> @Lg l n k
 have he:= @Lh l n
 generalize jw l n=R at*
 refine qE func136 ntmps136 results136 fun E hE=>?_
 refine gI 1 hE (fun s (k:Nat)=>s.at (qU [6,14]) [(5,.sc (.int .i64 (k:Nat)))] (s.hp)) (fun (k:Nat)=>k<=l.length/\k+((l.drop k).takeWhile (fun a=>decide (a < n))).length=kH l n) (fun (k:Nat)=>l.length - k) 0 (qI 0 1) (⟨RX _,by simp [kH]⟩) fun k hk N hN=>?_
 obtain⟨hk1,hk2⟩:=hk
 refine qR ?_
 refine qB (fun h=>?_) fun h=>?_
 ·rw [vC h] at hk2
  refine qX ?_
  refine qB (fun h2=>?_) fun h2=>?_
  ·rw [if_pos (by simp [h2])] at hk2
   exact qN hN (k+1) (qI 0 1) (by (try dsimp only);exact⟨zO,zO⟩)
  rw [if_neg zS] at hk2
  refine qX ?_
  refine qB (fun h3=>?_) fun h3=>?_
  ·rw [ht k zO h h3]
   refine qK (df l zO) (qI 0 1) ?_
   exact qF (qI 0 2)
  rw [hf k zO h h3]
  have hlt:(l.take k).length=k:=by simp;omega
  have hC:=df (l.take k) zO
  rw [hlt] at hC
  refine aH [(3,5),(3,9),(5,9),(6,9)] [[0,1,2,4,7,8,3,5,6,9,10,11],[0,1,2,4,7,8,3,5,9,6,10,11],[0,1,2,4,7,8,3,9,5,6,10,11],[0,1,2,4,7,8,9,3,5,6,10,11],[0,1,2,4,7,8,5,3,6,9,10,11],[0,1,2,4,7,8,5,3,9,6,10,11],[0,1,2,4,7,8,5,9,3,6,10,11],[0,1,2,4,7,8,9,5,3,6,10,11]] (by kernel_rfl) (qC) (by kernel_rfl) ?_
  simp only [bf]
  refine⟨aa 400 ?_,aa 400 ?_,aa 400 ?_,aa 400 ?_,aa 400 ?_,aa 400 ?_,aa 400 ?_,aa 400 ?_⟩
  all_goals simp (disch:=omega) only [go_sem,seval]
  all_goals
   refine aE (hC) [some (0,some 0)] ?_
   refine qG ?_
   refine qJ (qI 0 1++qI 4 1) ?_
   exact lJ rfl hk1
 rw [BS zO] at hk2
 obtain rfl:k=l.length:=zO
 rw [he zO]
 refine qX ?_
 refine aH [(3,5),(3,9),(5,9),(6,9)] [[0,1,2,4,7,8,3,5,6,9,10,11],[0,1,2,4,7,8,3,5,9,6,10,11],[0,1,2,4,7,8,3,9,5,6,10,11],[0,1,2,4,7,8,9,3,5,6,10,11],[0,1,2,4,7,8,5,3,6,9,10,11],[0,1,2,4,7,8,5,3,9,6,10,11],[0,1,2,4,7,8,5,9,3,6,10,11],[0,1,2,4,7,8,9,5,3,6,10,11]] (by kernel_rfl) (qC) (by kernel_rfl) ?_
 simp only [bf]
 refine⟨aa 400 ?_,aa 400 ?_,aa 400 ?_,aa 400 ?_,aa 400 ?_,aa 400 ?_,aa 400 ?_,aa 400 ?_⟩
 all_goals simp (disch:=omega) only [go_sem,seval]
 all_goals
  refine aE (df l zO) (qI 0 1) ?_
  refine qG ?_
  refine qJ (qI 0 1++qI 4 1) ?_
  exact Ny rfl
theorem DE (l:List Int) (n:Int) (hl:l.length<=1048570):aP 162 [.sc (.sl 0 0 l.length),.sc (.int .i64 n)] [some ⟨l.map bh,1,3,false,true⟩]
  (.sc (.sl 1 0 (jw l n).length)) [some ⟨l.map bh,1,3,false,true⟩,some ⟨(jw l n).map bh,1,3,true,true⟩]:=by
 have ht:=fun k=> @Lf l n k
 have hf:=fun k=> @Lg l n k
 have he:= @Lh l n
 have hlen:=nI l n
 generalize jw l n=R at*
 refine qE func162 ntmps162 results162 fun E hE=>?_
 refine gI 1 hE (fun s (x:Nat×Bool×List Int)=>s.at (qU [8,34]) [(7,.sc (.int .i64 (x.1:Nat))),(6,.sc (.bo x.2.1)),(5,.sc (.sl 1 0 x.2.2.length))] ([some ⟨l.map bh,1,3,false,true⟩,some ⟨x.2.2.map bh,1,3,true,true⟩])) (fun (x:Nat×Bool×List Int)=>x.1<=l.length/\x.2.2.length<=x.1+1/\(x.2.1=true->x.2.2++l.drop x.1=R)/\(x.2.1=false->x.2.2=l.take x.1/\x.1+((l.drop x.1).takeWhile (fun a=>decide (a < n))).length=kH l n)) (fun (x:Nat×Bool×List Int)=>l.length - x.1) (0,false,[]) (qI 0 2) (⟨RX _,zP,zP,fun _=>⟨rfl,by simp [kH]⟩⟩) fun x hx N hN=>?_
 obtain⟨k,b,acc⟩:=x
 obtain⟨hk1,hk2,hk3,hk4⟩:=hx
 dsimp only at hk1 hk2 hk3 hk4
 refine qR ?_
 refine qB (fun h=>?_) fun h=>?_
 ·cases b with
  |true=>
   have hR:=hk3 rfl
   rw [RS h] at hR
   refine qX ?_
   refine uC hN (k+1,true,acc++[l[k]]) (qI 0 1++qI 3 1) (by (try dsimp only);exact⟨zO,by simp;omega,fun _=>by simpa using hR,fun hc=>by cases hc⟩) ?_
   first|exact⟨⟩|simp [bh]
  |false=>
   obtain⟨ha,hw⟩:=hk4 rfl
   rw [vC h] at hw
   refine qX ?_
   refine qB (fun h2=>?_) fun h2=>?_
   ·refine qX ?_
    refine qB (fun h3=>?_) fun h3=>?_
    ·rw [if_neg zS] at hw
     have hR:=hf k zO h zO
     rw [RS h] at hR
     refine qX ?_
     refine uC hN (k+1,true,acc++[n]++[l[k]]) (qI 0 1++qI 5 1) (by (try dsimp only);exact⟨zO,by rw [ha];simp;omega,fun _=>by rw [hR,ha];simp,fun hc=>by cases hc⟩) ?_
     first|exact⟨⟩|simp [bh]
    have hq:l[k]=n:=zO
    rw [if_neg zS] at hw
    have hR:=ht k zO h hq
    refine qX ?_
    refine uC hN (k+1,true,acc++[l[k]]) (qI 0 1++qI 3 1) (by (try dsimp only);exact⟨zO,by simp;omega,fun _=>by rw [hR,ha];simp [h],fun hc=>by cases hc⟩) ?_
    first|exact⟨⟩|simp [bh]
   rw [if_pos zS] at hw
   refine qX ?_
   refine uC hN (k+1,false,acc++[l[k]]) (qI 0 1++qI 3 1) (by (try dsimp only);exact⟨zO,by simp;omega,fun hc=>(by cases hc),fun _=>⟨by rw [ha];simp [h],zO⟩⟩) ?_
   first|exact⟨⟩|simp [bh]
 have hkl:k=l.length:=zO
 subst hkl
 cases b with
 |true=>
  have hR:=hk3 rfl
  rw [List.drop_length,List.append_nil] at hR
  subst hR
  refine qX ?_
  exact qF (qI 0 2)
 |false=>
  obtain⟨ha,hw⟩:=hk4 rfl
  rw [BS zO] at hw
  rw [he zO]
  rw [List.take_length] at ha
  subst ha
  refine qX ?_
  refine qP (qI 0 1++qI 3 1) ?_
  first|exact⟨⟩|simp [bh]
theorem oJ {α:Type} {f:α->List Sc} {l:List α} {n:Nat} (h:n < l.length):
  n+(l.length - (n+1))=(l.take n).length+(l.drop (n+1)).length/\(l.take n).map f++((l.map f).drop (n+1)).take (l.length - (n+1))=(l.take n++l.drop (n+1)).map f:=by
 refine⟨by simp;omega,?_⟩
 simp only [R0,RV,R_]
 congr 1
 exact R2 zP
theorem y8 (l:List AddrD) (r:Int) (hl:l.length<=1048576):aP 135 [.sc (.sl 0 0 l.length),.sc (.int .i64 r)] [some ⟨l.map AddrD.cs,4,69,false,true⟩]
  (.tu [.sc (.sl 1 0 (bQ l r).1.length),.sc (.bo (bQ l r).2)]) [some ⟨l.map AddrD.cs,4,69,false,true⟩,some ⟨(bQ l r).1.map AddrD.cs,4,69,true,true⟩]:=by
 have hA:=gY l r hl
 have hbd:=eY l r
 have hf:= @wS l r
 have ht:=fun n=> @ms l r n
 generalize bQ l r=R at*
 refine qE func135 ntmps135 results135 fun E hE=>?_
 refine qK (hA) (qI 0 1) ?_
 rcases hbd with hk|⟨hb0,hb1⟩
 ·rw [hf hk,hk]
  refine qX ?_
  refine qK (cL l hl) (qI 0 1) ?_
  exact qF (qI 0 2)
 obtain⟨n,hk⟩:=RR hb0
 rw [ht _ hk,hk]
 refine qX ?_
 refine qD [0,1,2,4,5,6,7,3,8,9,10] ?_
 have hlt:(l.take n).length=n:=by simp;omega
 have hlt2:(List.take n (List.map AddrD.cs l)).length=n:=by simp;omega
 have hC:=cL (l.take n) zS
 rw [List.length_take,show min n l.length=n by omega] at hC
 refine aE (hC) [some (0,some 0)] ?_
 refine qG ?_
 refine qJ (qI 0 1++qI 2 1) ?_
 exact oJ zO
theorem y9 (l:List AddrD) (r:Int) (hl:l.length<=1048576):aP 163 [.sc (.sl 0 0 l.length),.sc (.int .i64 r)] [some ⟨l.map AddrD.cs,4,69,false,true⟩]
  (.tu [.sc (.sl 1 0 (bQ l r).1.length),.sc (.bo (bQ l r).2)]) [some ⟨l.map AddrD.cs,4,69,false,true⟩,some ⟨(bQ l r).1.map AddrD.cs,4,69,true,true⟩]:=by
 have hA:=eJ l r hl
 have hbd:=eY l r
 have hf:= @wS l r
 have ht:=fun n=> @ms l r n
 generalize bQ l r=R at*
 refine qE func163 ntmps163 results163 fun E hE=>?_
 refine qK (hA) (qI 0 1) ?_
 rcases hbd with hk|⟨hb0,hb1⟩
 ·rw [hf hk,hk]
  refine qX ?_
  exact qF (qI 0 1++qI 2 1)
 obtain⟨n,hk⟩:=RR hb0
 have hlt:(l.take n).length=n:=by simp;omega
 have hlt2:(List.take n (List.map AddrD.cs l)).length=n:=by simp;omega
 rw [ht _ hk,hk]
 refine qX ?_
 refine qJ (qI 0 1++qI 3 1) ?_
 rw [<-RV]
 exact oJ zO
theorem rT (l:List AddrD) (a:AddrD) (hl:l.length<=1048576):aP 134 [.sc (.sl 0 0 l.length),.ag a.cs] [some ⟨l.map AddrD.cs,4,69,false,true⟩]
  (.tu [.sc (.sl 1 0 (aS l a).1.length),.sc (.bo (aS l a).2)]) [some ⟨l.map AddrD.cs,4,69,false,true⟩,some ⟨(aS l a).1.map AddrD.cs,4,69,true,true⟩]:=by
 have hA:=gY l a.id zO
 have hbd:=eY l a.id
 have hO:=mj (cp l a) (by have:=dP l a;omega)
 have hll:=dP l a
 have hLt:=fun k=> @wQ l a k
 have hLf:=fun k=> @wR l a k
 have ht:=lF (l:=l) (a:=a)
 have hf:=oI (l:=l) (a:=a)
 have hbig:=uO (l:=l) (a:=a)
 generalize cp l a=L at*
 generalize aS l a=R at*
 refine qE func134 ntmps134 results134 fun E hE=>?_
 refine qK (cL l zO) (qI 0 1) ?_
 refine qK (hA) (qI 0 1) ?_
 rcases hbd with hat|⟨hb0,hb1⟩
 ·rw [hat]
  refine qX ?_
  refine gI 1 hE (fun s (k:Nat)=>s.at (qU [1,1,8,28]) [(7,.sc (.int .i64 (k:Nat)))] (s.hp)) (fun (k:Nat)=>k<=l.length/\k+((l.drop k).takeWhile (fun b=>decide (b.id < a.id))).length=tD l a.id) (fun (k:Nat)=>l.length - k) 0 (qI 0 3) (⟨RX _,by simp [tD]⟩) fun k hk N hN=>?_
  obtain⟨hk1,hk2⟩:=hk
  refine qR ?_
  refine qD [0,1,2,3,4,5,6,7,8,9,10,11,12,13] ?_
  refine qB (fun h=>?_) fun h=>?_
  ·refine⟨qC,ae 400 ?_⟩
   rw [vC h] at hk2
   refine qX ?_
   refine qB (fun h2=>?_) fun h2=>?_
   ·rw [if_pos (by simp [h2])] at hk2
    exact qN hN (k+1) (qI 0 3) (by (try dsimp only);exact⟨zO,zO⟩)
   rw [if_neg zS] at hk2
   have hq:=hLf k hat zO
   have e1:(l.take k).map AddrD.cs++[a.cs]++((l.map AddrD.cs).drop k).take (l.length - k)=L.map AddrD.cs:=by rw [hq];exact (lJ rfl hk1).2
   have e2:k+1+(l.length - k)=L.length:=by rw [hq];simp;omega
   have hlt:(l.take k).length=k:=by simp;omega
   have hlt2:((l.map AddrD.cs).take k).length=k:=by simp;omega
   have hC:=cL (l.take k) zO
   rw [hlt] at hC
   simp only [AddrD.cs] at e1
   refine aH [(3,5),(3,9),(5,9),(6,9)] [[0,1,2,4,7,8,3,5,6,9,10,11],[0,1,2,4,7,8,3,5,9,6,10,11],[0,1,2,4,7,8,3,9,5,6,10,11],[0,1,2,4,7,8,9,3,5,6,10,11],[0,1,2,4,7,8,5,3,6,9,10,11],[0,1,2,4,7,8,5,3,9,6,10,11],[0,1,2,4,7,8,5,9,3,6,10,11],[0,1,2,4,7,8,9,5,3,6,10,11]] (by kernel_rfl) (qC) (by kernel_rfl) ?_
   simp only [bf]
   refine⟨aa 400 ?_,aa 400 ?_,aa 400 ?_,aa 400 ?_,aa 400 ?_,aa 400 ?_,aa 400 ?_,aa 400 ?_⟩
   all_goals simp (disch:=omega) only [go_sem,seval]
   all_goals
    refine aE (hC) [some (0,some 0)] ?_
    refine⟨qC,ae 400 ?_⟩
    try simp (disch:=omega) only [go_sem,seval,e1,e2]
    refine qK (hO) (qI 6 1) ?_
    refine qB (fun h9=>?_) fun h9=>?_
    ·rw [hf h9]
     refine qX ?_
     refine qK (cL l zO) (qI 0 1) ?_
     exact qF (qI 0 1++qI 7 1)
    rw [ht h9]
    refine qX ?_
    exact qF (qI 0 1++qI 6 1)
  refine⟨qC,ae 400 ?_⟩
  rw [BS zO] at hk2
  refine qX ?_
  have hq:=hLf k hat zO
  have e1:(l.take k).map AddrD.cs++[a.cs]++((l.map AddrD.cs).drop k).take (l.length - k)=L.map AddrD.cs:=by rw [hq];exact (lJ rfl hk1).2
  have e2:k+1+(l.length - k)=L.length:=by rw [hq];simp;omega
  have hlt:(l.take k).length=k:=by simp;omega
  have hlt2:((l.map AddrD.cs).take k).length=k:=by simp;omega
  have hC:=cL (l.take k) zO
  rw [hlt] at hC
  simp only [AddrD.cs] at e1
  refine aH [(3,5),(3,9),(5,9),(6,9)] [[0,1,2,4,7,8,3,5,6,9,10,11],[0,1,2,4,7,8,3,5,9,6,10,11],[0,1,2,4,7,8,3,9,5,6,10,11],[0,1,2,4,7,8,9,3,5,6,10,11],[0,1,2,4,7,8,5,3,6,9,10,11],[0,1,2,4,7,8,5,3,9,6,10,11],[0,1,2,4,7,8,5,9,3,6,10,11],[0,1,2,4,7,8,9,5,3,6,10,11]] (by kernel_rfl) (qC) (by kernel_rfl) ?_
  simp only [bf]
  refine⟨aa 400 ?_,aa 400 ?_,aa 400 ?_,aa 400 ?_,aa 400 ?_,aa 400 ?_,aa 400 ?_,aa 400 ?_⟩
  all_goals simp (disch:=omega) only [go_sem,seval]
  all_goals
   refine aE (hC) [some (0,some 0)] ?_
   refine⟨qC,ae 400 ?_⟩
   try simp (disch:=omega) only [go_sem,seval,e1,e2]
   refine qK (hO) (qI 6 1) ?_
   refine qB (fun h9=>?_) fun h9=>?_
   ·rw [hf h9]
    refine qX ?_
    refine qK (cL l zO) (qI 0 1) ?_
    exact qF (qI 0 1++qI 7 1)
   rw [ht h9]
   refine qX ?_
   exact qF (qI 0 1++qI 6 1)
 obtain⟨n,hk⟩:=RR hb0
 have hn:n < l.length:=zO
 have e:=Dz l n a
 simp only [AddrD.cs] at e
 rw [hLt n hk] at hO ht hf
 rw [RT] at hO
 rw [hk]
 try simp (disch:=omega) only [go_sem,seval,e]
 refine qK (hO) (qI 2 1) ?_
 refine qB (fun h1=>?_) fun h1=>?_
 ·rw [hf h1]
  refine qX ?_
  refine qK (cL l zO) (qI 0 1) ?_
  exact qF (qI 0 1++qI 3 1)
 rw [ht h1]
 try simp only [RT]
 refine qX ?_
 exact qF (qI 0 1++qI 2 1)
theorem jS (l:List AddrD) (a:AddrD) (hl:l.length<=1048576):aP 97 [.sc (.sl 0 0 l.length),.ag a.cs] [some ⟨l.map AddrD.cs,4,69,false,true⟩]
  (.tu [.sc (.sl 1 0 (aS l a).1.length),.sc (.bo (aS l a).2)]) [some ⟨l.map AddrD.cs,4,69,false,true⟩,some ⟨(aS l a).1.map AddrD.cs,4,69,true,true⟩]:=by
 have hA:=eJ l a.id zO
 have hbd:=eY l a.id
 have hO:=ml (cp l a) (by have:=dP l a;omega)
 have hll:=dP l a
 have hLt:=fun k=> @wQ l a k
 have hLf:=fun k=> @wR l a k
 have ht:=lF (l:=l) (a:=a)
 have hf:=oI (l:=l) (a:=a)
 have hbig:=uO (l:=l) (a:=a)
 generalize cp l a=L at*
 generalize aS l a=R at*
 refine qE func97 ntmps97 results97 fun E hE=>?_
 refine qB (fun h0=>?_) fun h0=>?_
 ·rw [hbig zO]
  refine qX ?_
  exact qF (qI 0 1++qI 3 1)
 refine qX ?_
 refine qK (hA) (qI 0 1) ?_
 rcases hbd with hat|⟨hb0,hb1⟩
 ·rw [hat]
  refine qX ?_
  refine gI 1 hE (fun s (k:Nat)=>s.at (qU [1,1,9,36]) [(8,.sc (.int .i64 (k:Nat)))] (s.hp)) (fun (k:Nat)=>k<=l.length/\k+((l.drop k).takeWhile (fun b=>decide (b.id < a.id))).length=tD l a.id) (fun (k:Nat)=>l.length - k) 0 (qI 0 6) (⟨RX _,by simp [tD]⟩) fun k hk N hN=>?_
  obtain⟨hk1,hk2⟩:=hk
  refine qR ?_
  refine qD [0,1,2,3,4,5,6,7,8,9,10,11,12,13] ?_
  refine qB (fun h=>?_) fun h=>?_
  ·refine⟨qC,ae 400 ?_⟩
   rw [vC h] at hk2
   refine qX ?_
   refine qB (fun h2=>?_) fun h2=>?_
   ·rw [if_pos (by simp [h2])] at hk2
    exact qN hN (k+1) (qI 0 6) (by (try dsimp only);exact⟨zO,zO⟩)
   rw [if_neg zS] at hk2
   have hq:=hLf k hat zO
   have e1:(l.take k).map AddrD.cs++[a.cs]++((l.map AddrD.cs).drop k).take (l.length - k)=L.map AddrD.cs:=by rw [hq];exact (lJ rfl hk1).2
   have e2:k+1+(l.length - k)=L.length:=by rw [hq];simp;omega
   have hlt:(l.take k).length=k:=by simp;omega
   have hlt2:((l.map AddrD.cs).take k).length=k:=by simp;omega
   have e3:((l.map AddrD.cs).take k)=(l.take k).map AddrD.cs:=RV.symm
   simp only [AddrD.cs] at e1
   refine aH [(0,5),(0,6),(4,5),(4,6)] [[1,2,3,0,4,5,6,7,8],[1,2,3,0,5,4,6,7,8],[1,2,3,0,5,6,4,7,8],[1,2,3,5,0,4,6,7,8],[1,2,3,5,0,6,4,7,8],[1,2,3,5,6,0,4,7,8]] (by kernel_rfl) (qC) (by kernel_rfl) ?_
   simp only [bf]
   refine⟨aa 400 ?_,aa 400 ?_,aa 400 ?_,aa 400 ?_,aa 400 ?_,aa 400 ?_⟩
   all_goals simp (disch:=omega) only [go_sem,seval]
   all_goals
    refine⟨qC,ae 400 ?_⟩
    try simp (disch:=omega) only [go_sem,seval,e1,e2,e3]
    refine qK (hO) (qI 10 1) ?_
    refine qB (fun h9=>?_) fun h9=>?_
    ·rw [hf h9]
     refine qX ?_
     exact qF (qI 0 1++qI 3 1)
    rw [ht h9]
    refine qX ?_
    exact qF (qI 0 1++qI 10 1)
  refine⟨qC,ae 400 ?_⟩
  rw [BS zO] at hk2
  refine qX ?_
  have hq:=hLf k hat zO
  have e1:(l.take k).map AddrD.cs++[a.cs]++((l.map AddrD.cs).drop k).take (l.length - k)=L.map AddrD.cs:=by rw [hq];exact (lJ rfl hk1).2
  have e2:k+1+(l.length - k)=L.length:=by rw [hq];simp;omega
  have hlt:(l.take k).length=k:=by simp;omega
  have hlt2:((l.map AddrD.cs).take k).length=k:=by simp;omega
  have e3:((l.map AddrD.cs).take k)=(l.take k).map AddrD.cs:=RV.symm
  simp only [AddrD.cs] at e1
  refine aH [(0,5),(0,6),(4,5),(4,6)] [[1,2,3,0,4,5,6,7,8],[1,2,3,0,5,4,6,7,8],[1,2,3,0,5,6,4,7,8],[1,2,3,5,0,4,6,7,8],[1,2,3,5,0,6,4,7,8],[1,2,3,5,6,0,4,7,8]] (by kernel_rfl) (qC) (by kernel_rfl) ?_
  simp only [bf]
  refine⟨aa 400 ?_,aa 400 ?_,aa 400 ?_,aa 400 ?_,aa 400 ?_,aa 400 ?_⟩
  all_goals simp (disch:=omega) only [go_sem,seval]
  all_goals
   refine⟨qC,ae 400 ?_⟩
   try simp (disch:=omega) only [go_sem,seval,e1,e2,e3]
   refine qK (hO) (qI 10 1) ?_
   refine qB (fun h9=>?_) fun h9=>?_
   ·rw [hf h9]
    refine qX ?_
    exact qF (qI 0 1++qI 3 1)
   rw [ht h9]
   refine qX ?_
   exact qF (qI 0 1++qI 10 1)
 obtain⟨n,hk⟩:=RR hb0
 have hn:n < l.length:=zO
 have e:=Dz l n a
 simp only [AddrD.cs] at e
 rw [hLt n hk] at hO ht hf
 rw [RT] at hO
 rw [hk]
 try simp (disch:=omega) only [go_sem,seval,e]
 refine qK (hO) (qI 5 1) ?_
 refine qB (fun h1=>?_) fun h1=>?_
 ·rw [hf h1]
  refine qX ?_
  exact qF (qI 0 1++qI 3 1)
 rw [ht h1]
 try simp only [RT]
 refine qX ?_
 exact qF (qI 0 1++qI 5 1)
def nJ (l:List AddrD) (n:Nat):AddrD:=l.getD n default
theorem gy {l:List AddrD} {n:Nat} (h:n < l.length):nJ l n=l[n]:=by simp [nJ,List.getD_eq_getElem?_getD,h]
def fD (x:LetterD):AddrD:=⟨x.id,x.addr,x.spare,true⟩
def oK (e:EndD) (x:LetterD):Bool:=decide (0<=aW e.far x.id) && !decide ((nJ e.far (aW e.far x.id).toNat).addr=x.addr)
theorem qe {e:EndD} {x:LetterD} (h:aW e.far x.id= -1):oK e x=false:=by rw [oK,h];rfl
theorem qf {e:EndD} {x:LetterD} {i:Nat} (h:aW e.far x.id=(i:Int)) (hi:i < e.far.length):oK e x= !decide (e.far[i].addr=x.addr):=by
 rw [oK,h,RQ,gy hi]
 simp
def gG (e:EndD) (x:LetterD):Bool:=
 decide (0<=iP e x) && decide (x.tag=⟨3,e.peer,e.key,x.id,x.addr⟩) && !m8 e.over x.id && !oK e x && (aS e.far (fD x)).2
def pM (x:LetterD) (n:Int):LetterD:=ah (roadOf x) { af with kind:=9,sgn:=n,id:=x.id,addr:=x.addr }
def bW (e:EndD) (x:LetterD):EndD×List LetterD:=
 if gG e x then ({ e with far:=(aS e.far (fD x)).1 },[pM x (bt e.subs (iP e x).toNat).give]) else (e,[])
theorem qg {e:EndD} {x:LetterD} (h:gG e x=false):bW e x=(e,[]):=by rw [bW,if_neg (by simp [h])]
theorem mt {e:EndD} {x:LetterD} {n:Nat} (h:gG e x=true) (ho:iP e x=(n:Int)) (hn:n < e.subs.length):
  bW e x=({ e with far:=(aS e.far (fD x)).1 },[pM x e.subs[n].give]):=by rw [bW,if_pos h,ho,RQ,cI hn]
def iG (e:EndD) (x:LetterD):Bool:=decide (0<=iP e x) && decide (0<=aW e.own x.id) && decide ((nJ e.own (aW e.own x.id).toNat).addr=x.addr)
def bY (e:EndD) (x:LetterD):EndD×List LetterD:=
 (if iG e x then { e with own:=e.own.set (aW e.own x.id).toNat { nJ e.own (aW e.own x.id).toNat with told:=true } } else e,[])
theorem qh {e:EndD} {x:LetterD} (h:iG e x=false):bY e x=(e,[]):=by rw [bY,if_neg (by simp [h])]
theorem qi {e:EndD} {x:LetterD} {i:Nat} (h:iG e x=true) (hi:aW e.own x.id=(i:Int)) (hl:i < e.own.length):
  bY e x=({ e with own:=e.own.set i { e.own[i] with told:=true } },[]):=by rw [bY,if_pos h,hi,RQ,gy hl]
theorem fr {e:EndD} {x:LetterD} {i:Nat} (hi:aW e.own x.id=(i:Int)) (hl:i < e.own.length):iG e x=(decide (0<=iP e x) && decide (e.own[i].addr=x.addr)):=by
 rw [iG,hi,RQ,gy hl]
 simp
theorem g_ {e:EndD} {x:LetterD} (hi:aW e.own x.id= -1):iG e x=false:=by
 rw [iG,hi]
 simp
def lK (a:Int) (s:SubD):SubD:=if s.road.far=a then { s with state:=4 } else s
def fE (a:Int) (l:List SubD) (k:Nat):List SubD:=(l.take k).map (lK a)++l.drop k
theorem Am {a:Int} {l:List SubD} {k:Nat}:(fE a l k).length=l.length:=by simp [fE];omega
theorem DN {a:Int} {l:List SubD} {k:Nat} (h:k < l.length):(fE a l k)[k]? =some l[k]:=by
 have h1:((l.take k).map (lK a)).length=k:=by simp;omega
 rw [fE,List.getElem?_append_right zO,RS h,h1]
 simp
theorem Ao {a:Int} {l:List SubD} {k:Nat} (h:k < l.length):(fE a l k).set k (lK a l[k])=fE a l (k+1):=by
 have h1:((l.take k).map (lK a)).length=k:=by simp;omega
 rw [fE,fE,List.set_append_right _ _ zO,RW h,R0,h1]
 simp
 rw [RS h]
 rfl
theorem wW {a:Int} {l:List SubD} {k:Nat} (h:k < l.length) (hs:¬ l[k].road.far=a):fE a l (k+1)=fE a l k:=by
 rw [fE,fE,RW h,R0,RS h]
 simp [lK,hs]
theorem wX {a:Int} {l:List SubD}:fE a l 0=l:=by simp [fE]
theorem Ap {a:Int} {l:List SubD}:fE a l l.length=l.map (lK a):=by simp [fE]
def qj (e:EndD) (x:LetterD):Bool:=decide (0<=iP e x) && decide (0<=aW e.far x.id)
def bZ (e:EndD) (x:LetterD):EndD×List LetterD:=
 (if qj e x then { e with far:=(bQ e.far x.id).1,over:=jw e.over x.id,subs:=e.subs.map (lK (nJ e.far (aW e.far x.id).toNat).addr) } else e,[])
theorem wY {e:EndD} {x:LetterD} (h:qj e x=false):bZ e x=(e,[]):=by rw [bZ,if_neg (by simp [h])]
theorem wZ {e:EndD} {x:LetterD} {i:Nat} (h:qj e x=true) (hi:aW e.far x.id=(i:Int)) (hl:i < e.far.length):
  bZ e x=({ e with far:=(bQ e.far x.id).1,over:=jw e.over x.id,subs:=e.subs.map (lK e.far[i].addr) },[]):=by rw [bZ,if_pos h,hi,RQ,gy hl]
theorem ji {p:Nat->Bool} {n j:Nat} (h:fG p n=true) (hj:j < n):p j=true:=by
 simp only [fG,R6,R9] at h
 exact h j hj
theorem w5 {l:List Int} {m:List AddrD} (h:pD l m=true):l.length<=256:=by
 simp only [pD,RP] at h
 have hup:∀ j:Nat,j < l.length->(j:Int)<=l.getD j 0:=by
  intro j
  induction j with
  |zero=>
   intro hj
   have:=ji h.2 hj
   simp only [ij,cv,RP,decide_eq_true_eq] at this
   omega
  |succ j ih=>
   intro hj
   have h1:=ih zO
   have h2:=ji h.1 hj
   simp only [dv,Bool.or_eq_true,beq_iff_eq,decide_eq_true_eq,Nat.add_sub_cancel] at h2
   omega
 rcases Nat.eq_zero_or_pos l.length with h0|h0
 ·omega
 have h1:=hup (l.length - 1) zO
 have h2:=ji h.2 (j:=l.length - 1) zO
 simp only [ij,cv,RP,decide_eq_true_eq] at h2
 omega
theorem w7 {e:EndD} (h:ai e=true):e.over.length<=256:=by
 simp only [ai,RP] at h
 exact w5 h.1.1.1.2
def rZ:List PieceD->Nat
 |[]=>0
 |x::r=>x.text.length+rZ r
theorem BU {M:Nat}:∀ {l:List PieceD},(∀ x∈l,x.text.length<=M)->rZ l<=l.length*M
 |[],_=>by simp [rZ]
 |x::r,h=>by
  have h1:=h x zP
  have h2:=BU (l:=r) (M:=M) (fun y hy=>h y (by simp [hy]))
  simp only [rZ,List.length_cons,Nat.add_mul,Nat.one_mul]
  omega
theorem DO:∀ {l:List PieceD} {x:PieceD},x∈l->x.text.length<=rZ l
 |[],x,h=>by simp at h
 |y::r,x,h=>by
  simp only [Sa] at h
  simp only [rZ]
  rcases h with rfl|h
  ·omega
  have:=DO h;omega
theorem km:∀ {l:List PieceD} {n:Int},0<=n->n+(rZ l:Int)<=4611686018427387904->iX n l=n+(rZ l:Int)
 |[],n,h0,h=>by simp [iX,rZ]
 |x::r,n,h0,h=>by
  simp only [rZ,R7] at h
  rw [iX,yV zO,km zO zO]
  simp only [rZ,R7]
  omega
theorem w9:∀ {l:List PieceD} {en:Int},0<=en->(∀ x∈l,x.text.length<=200)->ig en l=true->∀ x∈l,0<=x.pos/\x.pos<=2000000000
 |[],_,_,_,_=>by simp
 |y::r,en,h0,hl,h=>by
  simp only [ig,RP,decide_eq_true_eq] at h
  obtain⟨⟨⟨_,h1⟩,h2⟩,h3⟩:=h
  have hy:=hl y zP
  rw [yV zO] at h3
  intro x hx
  simp only [Sa] at hx
  rcases hx with rfl|hx
  ·exact⟨zO,h1⟩
  exact w9 zO (fun z hz=>hl z (by simp [hz])) h3 x hx
structure SmallP (p:PiecesD):Prop where
 list:p.list.length<=1048576
 ready:p.ready.length<=1048576
 texts:∀ x∈p.list,x.text.length<=1048576
structure FineP (p:PiecesD):Prop where
 r0:0<=p.read
 r1:p.read<=1000000000
 list:p.list.length<=20
 ready:p.ready.length<=200
 texts:∀ x∈p.list,x.text.length<=200/\0<=x.pos/\x.pos<=2000000000
 next:nextOf p=p.read+(p.ready.length:Int)
theorem ax {p:PiecesD} (h:piecesOk p=true) (hs:SmallP p):FineP p:=by
 simp only [piecesOk,gp,RP,decide_eq_true_eq] at h
 obtain⟨⟨⟨⟨h0,h1⟩,h2⟩,h3⟩,h4⟩:=h
 have hle:=BU hs.texts
 have hr:=hs.ready
 have hm:p.list.length*1048576<=20*1048576:=Nat.mul_le_mul_right _ zO
 rw [lc,km zO zO] at h3
 have hn:nextOf p=p.read+(p.ready.length:Int):=by rw [nextOf,yV zO]
 have ht:∀ x∈p.list,x.text.length<=200:=fun x hx=>by have:=DO hx;omega
 refine⟨h0,h1,zO,zO,fun x hx=>⟨ht x hx,?_⟩,hn⟩
 rw [hn] at h4
 exact w9 zO ht h4 x hx
def fk (a b:PieceD):PieceD:=
 if b.pos < a.pos then⟨b.pos,b.text.take (a.pos - b.pos).toNat++a.text++b.text.drop ((a.pos - b.pos).toNat+a.text.length)⟩
 else⟨a.pos,a.text++b.text.drop (a.pos+(a.text.length:Int) - b.pos).toNat⟩
theorem w_ {a b:PieceD} {n:Nat} (h:a.pos - b.pos=(n:Int)) (h0:0 < n):fk a b=⟨b.pos,b.text.take n++a.text++b.text.drop (n+a.text.length)⟩:=by
 rw [fk,if_pos zO,h,RQ]
theorem DP {a b:PieceD} {n:Nat} (h:b.pos - a.pos=(n:Int)):fk a b=⟨a.pos,a.text++b.text.drop (a.text.length - n)⟩:=by
 rw [fk,if_neg zO,show (a.pos+(a.text.length:Int) - b.pos).toNat=a.text.length - n by omega]
theorem Jg {a b:PieceD}:(fk a b).text.length<=a.text.length+b.text.length:=by
 rw [fk]
 split<;>simp<;>omega
theorem Jh {a b:PieceD}:(fk a b).pos=a.pos\/(fk a b).pos=b.pos:=by
 rw [fk]
 split
 ·exact .inr rfl
 exact .inl rfl
structure PpS where
 own:PieceD
 laid:Bool
 acc:List PieceD
def fQ (g:PpS) (x:PieceD):PpS:=
 if x.pos+(x.text.length:Int) < g.own.pos then { g with acc:=g.acc++[x] }
 else if g.own.pos+(g.own.text.length:Int) < x.pos then⟨g.own,true,(if g.laid then g.acc else g.acc++[g.own])++[x]⟩
 else { g with own:=fk x g.own }
theorem r_ {g:PpS} {x:PieceD} (h:x.pos+(x.text.length:Int) < g.own.pos):fQ g x=⟨g.own,g.laid,g.acc++[x]⟩:=if_pos h
theorem lL {g:PpS} {x:PieceD} (h:¬ x.pos+(x.text.length:Int) < g.own.pos) (h2:g.own.pos+(g.own.text.length:Int) < x.pos):
  fQ g x=⟨g.own,true,(if g.laid then g.acc else g.acc++[g.own])++[x]⟩:=by rw [fQ,if_neg h,if_pos h2]
theorem nK {g:PpS} {x:PieceD} (h:¬ x.pos+(x.text.length:Int) < g.own.pos) (h2:¬ g.own.pos+(g.own.text.length:Int) < x.pos):
  fQ g x=⟨fk x g.own,g.laid,g.acc⟩:=by rw [fQ,if_neg h,if_neg h2]
def jH (g:PpS) (l:List PieceD):PpS:=l.foldl fQ g
theorem oL {g:PpS} {l:List PieceD} {k:Nat} (h:k < l.length):jH g (l.drop k)=jH (fQ g l[k]) (l.drop (k+1)):=by
 rw [RS h]
 rfl
theorem sf {g:PpS} {l:List PieceD} {k:Nat} (h:l.length<=k):jH g (l.drop k)=g:=by
 rw [R1 h]
 rfl
def jM (g:PpS):List PieceD:=if g.laid then g.acc else g.acc++[g.own]
def mX (p:PiecesD) (l:List PieceD):PiecesD:=if (l.headD default).pos=nextOf p then⟨p.read,p.ready++(l.headD default).text,l.tail⟩ else⟨p.read,p.ready,l⟩
def mY (p:PiecesD) (l:List PieceD):PiecesD:=if piecesOk (mX p l) then mX p l else p
def sh (p:PiecesD) (at':Int) (text:List UInt8):Bool:=piecesOk p && gp at' && cv (text.length:Int) 1 200
def lM (p:PiecesD) (at':Int) (text:List UInt8):PiecesD:=mY p (jM (jH ⟨⟨at',text⟩,false,[]⟩ p.list))
def putPiece (p:PiecesD) (at':Int) (text:List UInt8):PiecesD:=
 if sh p at' text then
  if nextOf p - at'>=text.length then p
  else if 0 < nextOf p - at' then lM p (nextOf p) (text.drop (nextOf p - at').toNat) else lM p at' text
 else p
theorem Qz {p:PiecesD} {n:Int} {t:List UInt8} (h:sh p n t=false):putPiece p n t=p:=by rw [putPiece,if_neg (by simp [h])]
theorem FY {p:PiecesD} {n:Int} {t:List UInt8} (h:sh p n t=true) (h2:(t.length:Int)<=nextOf p - n):putPiece p n t=p:=by rw [putPiece,if_pos h,if_pos h2]
theorem FZ {p:PiecesD} {n:Int} {t:List UInt8} {k:Nat} (h:sh p n t=true) (hk:nextOf p - n=(k:Int)) (h1:k < t.length) (h0:0 < k):putPiece p n t=lM p (nextOf p) (t.drop k):=by
 rw [putPiece,if_pos h,if_neg zO,if_pos zO,hk,RQ]
theorem F0 {p:PiecesD} {n:Int} {t:List UInt8} (h:sh p n t=true) (h0:nextOf p<=n):putPiece p n t=lM p n t:=by
 have:cv (t.length:Int) 1 200=true:=by simp only [sh,RP] at h;exact h.2
 simp only [cv,RP,decide_eq_true_eq] at this
 rw [putPiece,if_pos h,if_neg zO,if_neg zO]
theorem eV {p:PiecesD} {l:List PieceD} (h:piecesOk (mX p l)=false):mY p l=p:=by rw [mY,if_neg (by simp [h])]
theorem eL {p:PiecesD} {l:List PieceD} (h:piecesOk (mX p l)=true):mY p l=mX p l:=by rw [mY,if_pos h]
structure PpI (k:Nat) (g:PpS):Prop where
 pos:0<=g.own.pos/\g.own.pos<=2000000000
 own:g.own.text.length<=200+200*k
 acc:g.acc.length<=k+(if g.laid then 1 else 0)
 texts:∀ z∈g.acc,z.text.length<=5000
 some:g.laid=true->g.acc≠[]
theorem nL {n:Int} {t:List UInt8} (h0:0<=n) (h1:n<=2000000000) (ht:t.length<=200):PpI 0 ⟨⟨n,t⟩,false,[]⟩:=
 ⟨⟨h0,h1⟩,by simpa using ht,zP,zP,zP⟩
theorem Aq {k:Nat} {g:PpS} {x:PieceD} (h:PpI k g) (hx:x.text.length<=200):PpI (k+1) ⟨g.own,g.laid,g.acc++[x]⟩:=by
 refine⟨h.pos,by have:=h.own;dsimp only;omega,?_,?_,zP⟩
 ·have:=h.acc
  simp only [RY,List.length_singleton]
  split at this<;>simp_all<;>omega
 intro z hz
 simp only [R8,R4] at hz
 rcases hz with hz|rfl
 ·exact h.texts z hz
 omega
theorem xa {k:Nat} {g:PpS} {x:PieceD} (h:PpI k g) (hl:g.laid=true) (hx:x.text.length<=200):PpI (k+1) ⟨g.own,true,g.acc++[x]⟩:=by
 have:=Aq h hx
 rw [hl] at this
 exact this
theorem xb {k:Nat} {g:PpS} {x:PieceD} (h:PpI k g) (hk:k<=20) (hl:g.laid=false) (hx:x.text.length<=200):PpI (k+1) ⟨g.own,true,g.acc++[g.own]++[x]⟩:=by
 refine⟨h.pos,by have:=h.own;dsimp only;omega,?_,?_,zP⟩
 ·have:=h.acc
  rw [hl] at this
  simp at this⊢
  omega
 intro z hz
 have ho:=h.own
 simp only [R8,R4] at hz
 rcases hz with (hz|rfl)|rfl
 ·exact h.texts z hz
 ·omega
 omega
theorem DQ {k:Nat} {g:PpS} {x:PieceD} (h:PpI k g) (hx:x.text.length<=200) (h0:0<=x.pos) (h1:x.pos<=2000000000):PpI (k+1) ⟨fk x g.own,g.laid,g.acc⟩:=by
 have hp:=h.pos
 refine⟨?_,?_,?_,h.texts,h.some⟩
 ·dsimp only
  rcases Jh (a:=x) (b:=g.own) with e|e<;>rw [e]<;>omega
 ·have:=h.own
  have:=Jg (a:=x) (b:=g.own)
  dsimp only
  omega
 have:=h.acc
 dsimp only
 omega
theorem mu {k:Nat} {g:PpS} (h:PpI k g) (hk:k<=20):∃ y r,jM g=y::r/\y.text.length<=5000/\(y::r).length<=100:=by
 have ha:=h.acc
 have ho:=h.own
 rw [jM]
 cases hl:g.laid with
 |true=>
  rw [hl] at ha
  simp at ha⊢
  cases hg:g.acc with
  |nil=>exact absurd hg (h.some hl)
  |cons y r=>
   rw [hg] at ha
   simp at ha
   exact⟨y,r,rfl,h.texts y (by simp [hg]),zO⟩
 |false=>
  rw [hl] at ha
  simp at ha⊢
  cases hg:g.acc with
  |nil=>exact⟨g.own,[],rfl,zO,zP⟩
  |cons y r=>
   rw [hg] at ha
   simp at ha
   exact⟨y,r++[g.own],zP,h.texts y (by simp [hg]),by simp;omega⟩
theorem jT {p:PiecesD} {y:PieceD} {r:List PieceD} (h:y.pos=nextOf p):mX p (y::r)=⟨p.read,p.ready++y.text,r⟩:=if_pos h
theorem kR {p:PiecesD} {y:PieceD} {r:List PieceD} (h:¬ y.pos=nextOf p):mX p (y::r)=⟨p.read,p.ready,y::r⟩:=if_neg h
theorem sj {p:PiecesD} {n:Int} {t:List UInt8} {G:PpS} {l:List PieceD} (hG:jH ⟨⟨n,t⟩,false,[]⟩ p.list=G) (hl:jM G=l):lM p n t=mY p l:=by rw [lM,hG,hl]
end
end Go.Proofs.YteknmpdmhiomgaaGreat
