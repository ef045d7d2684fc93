/-
  Texts merged for this claim by shake.py: what its proof needs.
-/
import Derived.Test.YtjghbknhneffjaaGreatZFnBaseL
import Derived.Test.YtjghbknhneffjaaGreatZFnBaseM
import Derived.Test.YtjghbknhneffjaaGreatZFnBaseN
import Derived.Test.YtjghbknhneffjaaGreatZFnB2A
import Derived.Test.YtjghbknhneffjaaGreatZFnB2B
import Derived.Test.YtjghbknhneffjaaGreatZFnB2C
import Derived.Test.YtjghbknhneffjaaGreatZFnB2D
set_option maxHeartbeats 16000000
set_option maxRecDepth 100000
set_option linter.unusedVariables false
set_option linter.unusedSimpArgs false
namespace Go.Proofs.YtjghbknhneffjaaGreat
section
open Go.RowKit
end
section
end
section
open Go.RowKit
theorem m2 (e:EndD) (hl:e.subs.length<=1048576):aP 18 [.ag (e.cs 0)] (e.hp false) (.sc (.sl 7 0 (j0 e.subs).length)) (e.hp false++[some ⟨(j0 e.subs).map pM,1,3,true,true⟩]):=by
 refine qE Tryz.func18 Tryz.ntmps18 Tryz.results18 fun E hE=>?_
 refine jx 7 hE (fun s (x:Nat×List Nat)=>s.at (qU [0,2,4,3,10,12]) [(9,.sc (.int .i64 (x.1:Nat))),(3,.sc (.sl 8 0 x.2.length))] (e.hp false++[some ⟨[e.cs 0],25,38,true,false⟩,some ⟨x.2.map pM,1,3,true,true⟩])) (fun (x:Nat×List Nat)=>x.1<=e.subs.length/\x.2.length<=x.1/\x.2++iY x.1 (e.subs.drop x.1)=j0 e.subs) (fun (x:Nat×List Nat)=>e.subs.length - x.1) (0,[]) (qI 0 8++qO 1) (⟨Nat.zero_le _,Nat.zero_le _,rfl⟩) fun x hx N hN=>?_
 obtain⟨k,acc⟩:=x
 obtain⟨hk1,hk2,hk3⟩:=hx
 dsimp only at hk1 hk2 hk3
 refine qR ?_
 refine qB (fun h=>?_) fun h=>?_
 ·rw [wC h] at hk3
  refine qX ?_
  refine qB (fun h2=>?_) fun h2=>?_
  ·rw [if_pos h2] at hk3
   refine⟨qC,hN _ (k+1,acc++[k]) (qI 0 8++qI 11 1) (by (try dsimp only);exact⟨by omega,by simp;omega,by simpa using hk3⟩) (by (try dsimp only);omega) (bw (by rfl) (by rfl) ?_)⟩
   refine qX ?_
   simp [pM]
  rw [if_neg h2] at hk3
  exact qN hN (k+1,acc) (qI 0 9) (by (try dsimp only);exact⟨by omega,by omega,hk3⟩)
 rw [List.drop_eq_nil_of_le (by omega),iY,List.append_nil] at hk3
 subst hk3
 exact qF (qI 0 7++qI 8 1)
theorem nb (l:List RoadD) (r:RoadD) (hl:l.length<=1048576):aP 159 [.sc (.sl 0 0 l.length),.ag r.cs] [some ⟨l.map RoadD.cs,3,99,false,true⟩] (.sc (.bo (iw l r))) [some ⟨l.map RoadD.cs,3,99,false,true⟩]:=by
 refine qE Tryz.func159 Tryz.ntmps159 Tryz.results159 fun E hE=>?_
 refine jx 1 hE (fun s (k:Nat)=>s.at (qU [0,2,4,1,6,1,10,7]) [(9,.sc (.int .i64 (k:Nat)))] (s.hp)) (fun (k:Nat)=>k<=l.length/\(l.drop k).any (fun x=>dM x r)=iw l r) (fun (k:Nat)=>l.length - k) 0 (qI 0 2) (⟨Nat.zero_le _,rfl⟩) fun k hk N hN=>?_
 obtain⟨hk1,hk2⟩:=hk
 refine qR ?_
 refine qB (fun h=>?_) fun h=>?_
 ·rw [fM h] at hk2
  refine qX ?_
  refine qB (fun h2=>?_) fun h2=>?_
  ·rw [mv h2] at hk2
   refine qJ (qI 0 1) ?_
   exact hk2
  rw [mw h2] at hk2
  exact qN hN (k+1) (qI 0 2) (by (try dsimp only);exact⟨by omega,hk2⟩)
 rw [fu (by omega)] at hk2
 refine qJ (qI 0 1) ?_
 exact hk2
theorem fl (want hv:List RoadD) (h1:want.length<=1048576) (h2:hv.length<=1048576):aP 81 [.sc (.sl 0 0 want.length),.sc (.sl 1 0 hv.length)] [some ⟨want.map RoadD.cs,3,99,false,true⟩,some ⟨hv.map RoadD.cs,3,99,false,true⟩] (.sc (.sl 2 0 (ei want hv).length)) [some ⟨want.map RoadD.cs,3,99,false,true⟩,some ⟨hv.map RoadD.cs,3,99,false,true⟩,some ⟨(ei want hv).map RoadD.cs,3,99,true,true⟩]:=by
 obtain⟨m,hm⟩:∃ m,m=ei want hv:=⟨_,rfl⟩
 rw [<-hm]
 rw [ei] at hm
 refine qE Tryz.func81 Tryz.ntmps81 Tryz.results81 fun E hE=>?_
 refine qB (fun h3=>?_) fun h3=>?_
 ·refine qB (fun h4=>?_) fun h4=>?_
  ·rw [if_neg (by omega)] at hm
   subst hm
   exact qF (qI 0 2++qO 1)
  rw [if_pos (by omega)] at hm
  refine qX ?_
  refine jx 2 hE (fun s (x:Nat×List RoadD)=>s.at (qU [0,1,7,9,19,12]) [(18,.sc (.int .i64 (x.1:Nat))),(5,.sc (.sl 2 0 x.2.length))] ([some ⟨want.map RoadD.cs,3,99,false,true⟩,some ⟨hv.map RoadD.cs,3,99,false,true⟩,some ⟨x.2.map RoadD.cs,3,99,true,true⟩])) (fun (x:Nat×List RoadD)=>x.1<=want.length/\x.2.length<=x.1/\x.2++(want.drop x.1).filter (fun r=> !iw hv r)=m) (fun (x:Nat×List RoadD)=>want.length - x.1) (0,[]) (qI 0 2++qO 1) (⟨Nat.zero_le _,Nat.zero_le _,by rw [hm];rfl⟩) fun x hx N hN=>?_
  obtain⟨k,acc⟩:=x
  obtain⟨hk1,hk2,hk3⟩:=hx
  dsimp only at hk1 hk2 hk3
  refine qR ?_
  refine qB (fun h=>?_) fun h=>?_
  ·rw [kQ h] at hk3
   refine qX ?_
   refine qK (nb hv want[k] h2) (qI 1 1) ?_
   cases hh:iw hv want[k] with
   |true=>
    rw [hh] at hk3
    simp only [Bool.not_true,Bool.false_eq_true,if_false] at hk3
    refine qX ?_
    exact qN hN (k+1,acc) (qI 0 3) (by (try dsimp only);exact⟨by omega,by omega,hk3⟩)
   |false=>
    rw [hh] at hk3
    simp only [Bool.not_false,if_true] at hk3
    refine qX ?_
    refine⟨qC,hN _ (k+1,acc++[want[k]]) (qI 0 2++qI 5 1) (by (try dsimp only);exact⟨by omega,by simp;omega,by simpa using hk3⟩) (by (try dsimp only);omega) (bw (by rfl) (by rfl) ?_)⟩
    refine qX ?_
    simp [RoadD.cs]
  rw [List.drop_eq_nil_of_le (by omega),List.filter_nil,List.append_nil] at hk3
  subst hk3
  exact qF (qI 0 3)
 rw [if_neg (by omega)] at hm
 subst hm
 exact qF (qI 0 2++qO 1)
theorem l3 (e:EndD) (hl:e.subs.length<=1048576):aP 300 [.ag (e.cs 0)] (e.hp false) (.sc (.sl 7 0 (eP e.subs).length)) (e.hp false++[some ⟨(eP e.subs).map pM,1,3,true,true⟩]):=by
 have hon:=pO e.subs
 obtain⟨q,hq⟩:∃ q,q=(j0 e.subs).filter (Bf e.subs):=⟨_,rfl⟩
 have hc:eP e.subs=if q.length=0 then j0 e.subs else q:=by rw [eP,hq]
 have hqn:q.length<=1048576:=by rw [hq];exact Nat.le_trans (List.length_filter_le _ _) (by omega)
 generalize eP e.subs=cn at hc
 refine qE Tryz.func300 Tryz.ntmps300 Tryz.results300 fun E hE=>?_
 refine qK (m2 e hl) (qI 0 7) ?_
 refine jx 7 hE (fun s (x:Nat×List Nat)=>s.at (qU [0,1,6,3,12,15]) [(11,.sc (.int .i64 (x.1:Nat))),(3,.sc (.sl 9 0 x.2.length))] (e.hp false++[some ⟨[e.cs 0],25,38,true,false⟩,some ⟨(j0 e.subs).map pM,1,3,true,true⟩,some ⟨x.2.map pM,1,3,true,true⟩])) (fun (x:Nat×List Nat)=>x.1<=(j0 e.subs).length/\x.2.length<=x.1/\x.2++((j0 e.subs).drop x.1).filter (Bf e.subs)=q) (fun (x:Nat×List Nat)=>(j0 e.subs).length - x.1) (0,[]) (qI 0 9++qO 1) (⟨Nat.zero_le _,Nat.zero_le _,by rw [hq];rfl⟩) fun x hx N hN=>?_
 obtain⟨k,acc⟩:=x
 obtain⟨hk1,hk2,hk3⟩:=hx
 dsimp only at hk1 hk2 hk3
 refine qR ?_
 refine qB (fun h=>?_) fun h=>?_
 ·have hlt:=yD h
  rw [kQ h] at hk3
  refine qX ?_
  cases h2:e.subs[(j0 e.subs)[k]].spare with
  |false=>
   have hp:Bf e.subs (j0 e.subs)[k]=true:=by rw [Bf,ke hlt,h2];rfl
   rw [if_pos hp] at hk3
   try simp (disch:=omega) only [go_sem,seval,h2]
   refine sR hN (k+1,acc++[(j0 e.subs)[k]]) (qI 0 9++qI 11 1) (by (try dsimp only);exact⟨by omega,by simp;omega,by simpa using hk3⟩) ?_
   first|exact⟨⟩|simp [pM]
  |true=>
   have hp:Bf e.subs (j0 e.subs)[k]=false:=by rw [Bf,ke hlt,h2];rfl
   rw [if_neg (by simp [hp])] at hk3
   try simp (disch:=omega) only [go_sem,seval,h2]
   exact qN hN (k+1,acc) (qI 0 10) (by (try dsimp only);exact⟨by omega,by omega,hk3⟩)
 rw [List.drop_eq_nil_of_le (by omega),List.filter_nil,List.append_nil] at hk3
 subst hk3
 refine qX ?_
 refine qB (fun h2=>?_) fun h2=>?_
 ·rw [if_pos (by omega)] at hc
  subst hc
  exact qF (qI 0 7++qI 8 1)
 rw [if_neg (by omega)] at hc
 subst hc
 exact qF (qI 0 7++qI 9 1)
theorem nt (e:EndD) (h0:e.own.length<=1048576) (h1:e.far.length<=1048576) (h2:e.subs.length<=1048576) (h3:e.halfs.length<=1048576) (h4:e.inp.list.length<=1048576) (h5:e.done.length<=1048576) (h6:e.over.length<=1048576):aP 297 [.ag (e.cs 0)] (e.hp false) (.sc (.int .i64 (bt e))) (e.hp false):=by
 have hcl:=wD e.subs
 refine qE Tryz.func297 Tryz.ntmps297 Tryz.results297 fun E hE=>?_
 refine qK (l3 e h2) (qI 0 7) ?_
 refine qK (ap e h0 h1 h2 h3 h4 h5 h6) (qI 0 7) ?_
 refine qB (fun g1=>?_) fun g1=>?_
 ·refine qB (fun g2=>?_) fun g2=>?_
  ·have hr:bt e= -1:=by rw [bt,if_neg (by omega)]
   rw [hr]
   exact qF (qI 0 7)
  have g2':(eP e.subs).length≠0:=by omega
  have hpk:=i7 g1
  obtain⟨z,hz,hz1,hz2⟩:=se hpk.1 (show 0 < (eP e.subs).length by omega)
  rw [m_ g1 hz1 hz2]
  try simp (disch:=omega) only [go_sem,seval,hz,aT hz1]
  exact qF (qI 0 7)
 have hr:bt e= -1:=by rw [bt,if_neg (by simp [g1])]
 rw [hr]
 exact qF (qI 0 7)
theorem l4 (n:Int) (hn:I64 n):aP 299 [.sc (.int .i64 n)] [] (.sc (.int .i64 (i8 n))) []:=by
 refine qE Tryz.func299 Tryz.ntmps299 Tryz.results299 fun E hE=>?_
 refine qB (fun h=>?_) fun h=>?_
 ·rw [i8,if_pos h]
  exact qF []
 rw [i8,if_neg h]
 exact qF []
theorem op (e:EndD) (hs:Small e) (ht:e.out.text.length<=1048576):aP 287 [.ag (e.cs 0)] (e.hp false) (.tu [.ag ((cL e).1.cs 7),.sc (.sl 14 0 (cL e).2.length)])
  (e.hp false++((cL e).1.hp true++[some ⟨(cL e).2.map LetterD.cs,19,48,true,true⟩])):=by
 have hC:=(qH (jF e))
 have hN:=d3 e.out ht
 have hX:=(qH (nt e))
 have hf:=BY (e:=e)
 have hpt:= @BZ e
 have hpk:gC e.out=true->dF e.out=(⟨e.out.sent,cy e.out⟩,true):=BX
 have hpf:gC e.out=false->dF e.out=(⟨0,[]⟩,false):=Ds
 have hW:=fun h=>nw e.out ht h
 have hcase:=nU e
 have hpo:kr e=(gC e.out && decide (0<=bt e)):=rfl
 have hpick:0<=bt e->0<=e.pick/\e.pick<=1000000000:=fun h=>by
  rw [bt] at h
  split at h
  ·rename_i hh;exact i7 hh.1
  omega
 generalize cL e=R at*
 generalize dF e.out=np at*
 obtain⟨⟨npos,ntext⟩,nok⟩:=np
 refine gU Tryz.func287 Tryz.ntmps287 Tryz.results287 fun E hE=>?_
 refine qK (hC) (qI 0 7) ?_
 refine qK (hN) [] ?_
 refine qK (hX) (qI 0 7) ?_
 by_cases h1:gC e.out=true/\0<=bt e
 ·obtain⟨h1,h2⟩:=h1
  have hok:nok=true:=by have:=hpk h1;simp only [Prod.mk.injEq] at this;exact this.2
  have hps:npos=e.out.sent:=by have:=hpk h1;simp only [Prod.mk.injEq,PieceD.mk.injEq] at this;exact this.1.1
  have htx:ntext=cy e.out:=by have:=hpk h1;simp only [Prod.mk.injEq,PieceD.mk.injEq] at this;exact this.1.2
  subst hok hps htx
  have hW:=hW h1
  have hpick:=hpick (by omega)
  obtain⟨n,hn,hk⟩:∃ m:Nat,m < e.subs.length/\bt e=(m:Int):=by rcases hcase with h|h;omega;exact h
  rw [hpt (by rw [hpo,h1,decide_eq_true (by omega)];rfl) hk hn]
  have hg:=aT (enc:=SubD.cs) hn
  generalize bt e=z at*
  subst hk
  refine qX ?_
  refine qK (hW) [] ?_
  refine qK (l4 e.pick (by simp only [I64];omega)) [] ?_
  try simp (disch:=omega) only [go_sem,seval,hg]
  refine cG [(11,12)] [] [(qU [0,14]),(qU [0,11,12,1,11,1,13,1])] 7 hE (fun s=>s.at (qU [39,12]) [(3,.sc (.sl 19 0 1))] ((s.hp.set 8 (some ⟨[[.int .i64 e.side,.int .i64 e.state,.int .i64 e.key,.int .i64 e.peer,.int .i64 e.policy.kind,.int .i64 e.policy.many,.sl 9 0 e.own.length,.sl 10 0 e.far.length,.sl 11 0 e.subs.length,.sl 12 0 e.halfs.length,.int .i64 e.bucket.rate,.int .i64 e.bucket.burst,.int .i64 e.bucket.cur,.st e.out.text,.int .i64 e.out.base,.int .i64 (e.out.sent+((cy e.out).length:Int)),.int .i64 e.out.room,.int .i64 e.inp.read,.st e.inp.ready,.sl 13 0 e.inp.list.length,.sl 14 0 e.done.length,.sl 15 0 e.over.length,.int .i64 e.draw,.int .i64 e.now,.int .i64 (i8 e.pick)]],25,38,true,false⟩))++[some ⟨[(vK e.subs[n] e.out).cs],19,48,true,true⟩])) (by kernel_rfl) (qC) (by kernel_rfl) ?_ (ac 400 ?_)
  rotate_left
  rotate_right
  simp only [bm]
  refine⟨aa 400 ?_,aa 400 ?_⟩
  ·simp (disch:=omega) only [go_sem]
   refine aQ (a0 e.subs[n].road { ah with kind:=11,sgn:=e.subs[n].give,pos:=e.out.sent,text:=cy e.out }) [] ?_
   refine⟨qC,(qI 0 20),ab (by rfl) (by rfl) ?_⟩
   try simp (disch:=omega) only [go_sem,seval]
   try rfl
  ·simp (disch:=omega) only [go_sem]
   refine aQ (a0 e.subs[n].road { ah with kind:=11,sgn:=e.subs[n].give,pos:=e.out.sent,text:=cy e.out }) [] ?_
   refine⟨qC,(qI 0 20),ab (by rfl) (by rfl) ?_⟩
   try simp (disch:=omega) only [go_sem,seval]
   try rfl
  refine qX ?_
  exact dk (qI 0 7++qI 9 7++qI 19 1)
 have hpn:kr e=false:=by
  rw [hpo]
  by_cases h3:gC e.out=true
  ·rw [h3,decide_eq_false (fun h=>h1 ⟨h3,h⟩)];rfl
  rw [Bool.not_eq_true] at h3;rw [h3];rfl
 rw [hf hpn]
 have hno:nok=false\/bt e= -1:=by
  by_cases h3:gC e.out=true
  ·right;rcases hcase with h|⟨m,_,h⟩
   ·exact h
   exact absurd ⟨h3,by omega⟩ h1
  left;have:=hpf (by simpa using h3);simp only [Prod.mk.injEq] at this;exact this.2
 rcases hno with hno|hno
 ·subst hno
  refine qX ?_
  exact dk (qI 0 7++qI 9 7++qO 1)
 rw [hno] at*
 cases nok with
 |false=>
  refine qX ?_
  exact dk (qI 0 7++qI 9 7++qO 1)
 |true=>
  refine qX ?_
  exact dk (qI 0 7++qI 9 7++qO 1)
theorem mp (e:EndD) (hs:Small e) (ht:e.out.text.length<=1048576):aP 265 [.ag (e.cs 0)] (e.hp true) (.tu [.ag ((cu 3 e).1.cs 7),.sc (.sl 14 0 (cu 3 e).2.length)])
  ((nH 7)++((cu 3 e).1.hp true++[some ⟨(cu 3 e).2.map LetterD.cs,19,48,true,true⟩])):=by
 obtain⟨R,hR⟩:∃ R,R=cu 3 e:=⟨_,rfl⟩
 rw [<-hR]
 refine gU Tryz.func265 Tryz.ntmps265 Tryz.results265 fun E hE=>?_
 refine tD 7 hE (fun s (y:Nat×EndD×List LetterD)=>s.at (qU [0,1,6,15]) [(5,.sc (.int .i64 (y.1:Nat))),(4,.sc (.sl 16 0 y.2.2.length))] ((nH 7++[some ⟨[y.2.1.cs 9],25,38,true,false⟩])++(((s.hp.drop 8).take 1)++(y.2.1.hp true++[some ⟨y.2.2.map LetterD.cs,19,48,true,true⟩])))) (fun (y:Nat×EndD×List LetterD)=>y.1<=3/\Small y.2.1/\y.2.1.out.text.length<=1048576/\y.2.2.length<=y.1/\R=((cu (3 - y.1) y.2.1).1,y.2.2++(cu (3 - y.1) y.2.1).2)) (fun (y:Nat×EndD×List LetterD)=>3 - y.1) (0,e,[]) (qI 0 9++qI 0 7++qO 1) (⟨by omega,hs,ht,Nat.le_refl _,hR⟩) fun y hy N hN=>?_
 obtain⟨n,e1,l⟩:=y
 obtain⟨h1,h2,h3,h4,h5⟩:=hy
 dsimp only at h1 h2 h3 h4 h5
 have hP:=op e1 h2 h3
 have hp1:=nd e1
 have hps:=ja h2
 have hpt:(cL e1).1.out.text.length<=1048576:=by rw [kt];exact h3
 refine qR ?_
 refine qB (fun b=>?_) fun b=>?_
 ·rw [ne (by omega)] at h5
  obtain⟨pr,hpr⟩:∃ p,p=cL e1:=⟨_,rfl⟩
  rw [<-hpr] at hP hp1 hps hpt h5
  obtain⟨e2,l2⟩:=pr
  dsimp only at hP hp1 hps hpt h5
  rw [<-List.append_assoc] at h5
  refine qX ?_
  refine qK (hP) (qI 9 7) ?_
  refine BE hN (n+1,e2,l++l2) (qI 0 9++qI 17 7++qI 26 1) (by (try dsimp only);exact⟨by omega,hps,hpt,by simp only [List.length_append];omega,h5⟩) ?_
  first|exact⟨⟩|simp
 have e3:n=3:=by omega
 subst e3
 simp only [Nat.sub_self,cu,List.append_nil] at h5
 subst h5
 refine qX ?_
 exact dk (qI 0 7++qI 9 8)
theorem n4 (b:BucketD):aP 267 [.ag b.cs,.sc (.int .i64 1)] [] (.ag (cr b).cs) []:=by
 have hK:=c8 b
 have hN:=a4 [1] (by simp)
 have hf:=zo (b:=b)
 have ht:=zn (b:=b)
 generalize cr b=R at*
 refine qE Tryz.func267 Tryz.ntmps267 Tryz.results267 fun E hE=>?_
 refine qK (hK) [] ?_
 refine qB (fun b1=>?_) fun b1=>?_
 ·have F:=nV b1
  rw [show ([1]:List Int).all gA=true from rfl] at hN
  refine qK (hN) (qI 2 1) ?_
  rw [ht b1]
  by_cases hm:b.cur+b.rate < b.burst
  ·rw [show min b.burst (b.cur+b.rate)=b.cur+b.rate by omega]
   try simp (disch:=omega) only [go_sem,seval,Int.mul_one,hm]
   refine qP [] ?_
   first|exact⟨⟩|simp [hm]
  rw [show min b.burst (b.cur+b.rate)=b.burst by omega]
  try simp (disch:=omega) only [go_sem,seval,Int.mul_one,hm]
  refine qP [] ?_
  first|exact⟨⟩|simp [hm]
 rw [hf b1]
 refine qX ?_
 exact qF []
theorem nx (l:List HalfD) (now:Int) (hl:l.length<=1048576):aP 268 [.sc (.sl 0 0 l.length),.sc (.int .i64 now)] [some ⟨l.map HalfD.cs,8,121,false,true⟩] (.sc (.sl 1 0 (bx l now).length)) [some ⟨l.map HalfD.cs,8,121,false,true⟩,some ⟨(bx l now).map HalfD.cs,8,121,true,true⟩]:=by
 obtain⟨R,hR⟩:∃ R,R=bx l now:=⟨_,rfl⟩
 rw [<-hR]
 rw [bx] at hR
 refine qE Tryz.func268 Tryz.ntmps268 Tryz.results268 fun E hE=>?_
 refine jx 1 hE (fun s (x:Nat×List HalfD)=>s.at (qU [0,1,7,1,11,12]) [(10,.sc (.int .i64 (x.1:Nat))),(5,.sc (.sl 1 0 x.2.length))] (s.hp++[some ⟨x.2.map HalfD.cs,8,121,true,true⟩])) (fun (x:Nat×List HalfD)=>x.1<=l.length/\x.2.length<=x.1/\R=x.2++(l.drop x.1).filter (fun h=>decide (now < h.till))) (fun (x:Nat×List HalfD)=>l.length - x.1) (0,[]) (qI 0 1++qO 1) (⟨Nat.zero_le _,Nat.zero_le _,hR⟩) fun x hx N hN=>?_
 obtain⟨k,acc⟩:=x
 obtain⟨h1,h2,h3⟩:=hx
 dsimp only at h1 h2 h3
 refine qR ?_
 refine qB (fun h=>?_) fun h=>?_
 ·rw [kv h] at h3
  have hg:=aT (enc:=HalfD.cs) h
  try simp (disch:=omega) only [go_sem,seval,hg]
  refine qB (fun b2=>?_) fun b2=>?_
  ·rw [if_pos (by simpa using b2)] at h3
   refine⟨qC,hN _ (k+1,acc++[l[k]]) (qI 0 1++qI 4 1) (by (try dsimp only);exact⟨by omega,by simp;omega,by simpa using h3⟩) (by (try dsimp only);omega) (bw (by rfl) (by rfl) ?_)⟩
   refine qX ?_
   simp [HalfD.cs]
  rw [if_neg (by simpa using b2)] at h3
  exact qN hN (k+1,acc) (qI 0 2) (by (try dsimp only);exact⟨by omega,by omega,h3⟩)
 rw [nf (by omega),List.append_nil] at h3
 subst h3
 exact qF (qI 0 2)
theorem dr (e:EndD) (s:SubD) (h:bj e.side 1 2=true):aP 271 [.ag (e.cs 0),.ag s.cs] (e.hp false) (.ag (eM e s).cs) (e.hp false):=by
 have hT:=d6 (3 - e.side)
 have hB:aP 196 [.ag s.road.cs,.ag (LetterD.cs { ah with kind:=4,token:=ey (3 - e.side),nonce:=s.mine,give:=s.take,spare:=s.spare })] [] (.ag (eM e s).cs) []:=a0 s.road { ah with kind:=4,token:=ey (3 - e.side),nonce:=s.mine,give:=s.take,spare:=s.spare }
 simp only [bj,Bool.and_eq_true,decide_eq_true_eq] at h
 refine qE Tryz.func271 Tryz.ntmps271 Tryz.results271 fun E hE=>?_
 refine qD [0,1,2,3,4,6,7,8,9,10,11,5,12,13,14] ?_
 refine aQ (hT) [] ?_
 refine aQ (hB) [] ?_
 refine qG ?_
 refine qP (qI 0 7) ?_
 first|exact⟨⟩|rfl
theorem n5 (e:EndD) (hl:e.subs.length<=1048576):aP 272 [.ag (e.cs 0)] (e.hp false) (.sc (.sl 7 0 (fj e.subs).length)) (e.hp false++[some ⟨(fj e.subs).map RoadD.cs,3,99,true,true⟩]):=by
 obtain⟨R,hR⟩:∃ R,R=fj e.subs:=⟨_,rfl⟩
 rw [<-hR]
 rw [fj] at hR
 refine qE Tryz.func272 Tryz.ntmps272 Tryz.results272 fun E hE=>?_
 refine jx 7 hE (fun s (x:Nat×List RoadD)=>s.at (qU [0,2,5,2,10,12]) [(9,.sc (.int .i64 (x.1:Nat))),(3,.sc (.sl 8 0 x.2.length))] ((s.hp.take 8)++[some ⟨x.2.map RoadD.cs,3,99,true,true⟩])) (fun (x:Nat×List RoadD)=>x.1<=e.subs.length/\x.2.length<=x.1/\R=x.2++((e.subs.drop x.1).filter (fun s=>s.state != 4)).map SubD.road) (fun (x:Nat×List RoadD)=>e.subs.length - x.1) (0,[]) (qI 0 8++qO 1) (⟨Nat.zero_le _,Nat.zero_le _,hR⟩) fun x hx N hN=>?_
 obtain⟨k,acc⟩:=x
 obtain⟨h1,h2,h3⟩:=hx
 dsimp only at h1 h2 h3
 refine qR ?_
 refine qB (fun h=>?_) fun h=>?_
 ·rw [kv h] at h3
  have hg:=aT (enc:=SubD.cs) h
  try simp (disch:=omega) only [go_sem,seval,hg]
  refine qB (fun b2=>?_) fun b2=>?_
  ·rw [if_pos (by simpa using b2),List.map_cons] at h3
   try simp (disch:=omega) only [go_sem,seval,hg]
   refine⟨qC,hN _ (k+1,acc++[e.subs[k].road]) (qI 0 8++qI 11 1) (by (try dsimp only);exact⟨by omega,by simp;omega,by simpa using h3⟩) (by (try dsimp only);omega) (bw (by rfl) (by rfl) ?_)⟩
   refine qX ?_
   simp [RoadD.cs]
  rw [if_neg (by simpa using b2)] at h3
  exact qN hN (k+1,acc) (qI 0 9) (by (try dsimp only);exact⟨by omega,by omega,h3⟩)
 rw [nf (by omega),List.map_nil,List.append_nil] at h3
 subst h3
 exact qF (qI 0 7++qI 8 1)
theorem hU (e:EndD) (n:Int) (hl:e.far.length<=1048576):aP 273 [.ag (e.cs 0),.sc (.int .i64 n)] (e.hp false) (.sc (.int .i64 (Bk e.far n))) (e.hp false):=by
 obtain⟨R,hR⟩:∃ R,R=Bk e.far n:=⟨_,rfl⟩
 rw [<-hR]
 rw [Bk] at hR
 refine fc Tryz.func273 (by kernel_rfl) rfl fun E hE=>ac 400 ?_
 simp (disch:=omega) only [Tryz.ntmps273,Tryz.results273,go_sem,seval]
 refine gN 7 hE (fun s (k:Nat)=>s.at (qU [0,1,4,1,6,17]) [(5,.sc (.int .i64 ((k:Int) - 1)))] (s.hp)) (fun (k:Nat)=>k<=e.far.length/\R=ng e.far n k) (fun (k:Nat)=>k) e.far.length (qI 0 8) (qC) (⟨Nat.le_refl _,hR⟩) (bw (by rfl) (by rfl) ?_) fun k hk N hN=>?_
 ·try simp (disch:=omega) only [go_sem,seval]
 obtain⟨h1,h2⟩:=hk
 refine ac 400 ?_
 cases k with
 |zero=>
  rw [ng] at h2
  subst h2
  try simp (disch:=omega) only [go_sem,seval]
  refine aB (qI 0 7) (qC) _ (by simp only [go_sem];rfl) (by rfl) (by rfl) ?_
  simp (disch:=omega) only [go_sem,seval]
 |succ j=>
  have hj:j < e.far.length:=by omega
  have hg:=aT (enc:=AddrD.cs) hj
  have e1:((j+1:Nat):Int) - 1=(j:Int):=by omega
  have e2:(j:Int)+1 - 1=(j:Int):=by omega
  rw [ng,hV hj] at h2
  try simp (disch:=omega) only [go_sem,seval,e1,e2,hg]
  split<;>rename_i b<;>(try simp only [beq_true,beq_false,Bool.not_eq_true',Bool.not_eq_false'] at b)<;>simp (disch:=omega) only [go_sem,seval,b]<;>(try simp only [decide_eq_true_eq,decide_eq_false_iff_not,beq_iff_eq,beq_eq_false_iff_ne,bne_iff_ne,bne_eq_false_iff_eq,ne_eq,Decidable.not_not,Bool.and_eq_true,Bool.and_eq_false_iff,Bool.or_eq_true,Bool.or_eq_false_iff,Int.ofNat_lt,Int.ofNat_le,Bool.not_eq_eq_eq_not,Bool.not_true,Bool.not_false] at b)<;>try simp (disch:=omega) only [go_sem,seval]
  ·rw [if_pos b] at h2
   subst h2
   try simp (disch:=omega) only [go_sem,seval]
   refine aB (qI 0 7) (qC) _ (by simp only [go_sem];rfl) (by rfl) (by rfl) ?_
   simp (disch:=omega) only [go_sem,seval]
  rw [if_neg b] at h2
  refine⟨qC,hN _ j (qI 0 8) (by (try dsimp only);exact⟨by omega,h2⟩) (by (try dsimp only);omega) (bw (by rfl) (by rfl) ?_)⟩
  try simp (disch:=omega) only [go_sem,seval]
theorem os (e:EndD) (r:RoadD) (sp:Bool) (hs:Small e):aP 274 [.ag (e.cs 0),.ag r.cs,.sc (.bo sp)] (e.hp false) (.tu [.ag ((dz e r sp).1.cs 7),.sc (.sl 14 0 (dz e r sp).2.length)])
  (e.hp false++((dz e r sp).1.hp true++[some ⟨(dz e r sp).2.map LetterD.cs,19,48,true,true⟩])):=by
 have hC:=(qH (jF e))
 have hK:=(qH (ap e))
 have hO:=cl e r.own (by have:=hs.own;omega)
 have hS:=a7 e r (by have:=hs.subs;omega)
 have hsub:=hs.subs
 have hF:=hU e r.far (by have:=hs.far;omega)
 have hcase:=sn e.far r.far
 have hf:=EF (e:=e) (r:=r) (b:=sp)
 have ht:=EG (e:=e) (r:=r) (b:=sp)
 have hk:=w_.eq_1 e r
 generalize dz e r sp=R at*
 refine gU Tryz.func274 Tryz.ntmps274 Tryz.results274 fun E hE=>?_
 refine qK (hC) (qI 0 7) ?_
 refine qK (hK) (qI 0 7) ?_
 refine qB (fun h1=>?_) fun h1=>?_
 ·refine qB (fun h2=>?_) fun h2=>?_
  ·refine qK (b7 r) [] ?_
   refine qB (fun h3=>?_) fun h3=>?_
   ·refine qK (hS) (qI 0 7) ?_
    refine qB (fun h4=>?_) fun h4=>?_
    ·refine qK (hO) (qI 0 7) ?_
     refine qB (fun h5=>?_) fun h5=>?_
     ·refine qK (hF) (qI 0 7) ?_
      rcases hcase with⟨q1,q2,_⟩|⟨j,hj,q1,q2,_⟩
      ·rw [hf (by rw [hk];simp [q2])]
       try simp (disch:=omega) only [go_sem,seval,q1]
       exact dk (qI 0 7++qI 10 7++qO 1)
      try simp (disch:=omega) only [go_sem,seval,q1]
      refine qB (fun h7=>?_) fun h7=>?_
      ·refine qK (bp e) (qI 0 7) ?_
       refine qB (fun h8=>?_) fun h8=>?_
       ·rw [hf (by rw [hk];simp [h8])]
        refine qX ?_
        exact dk (qI 0 7++qI 10 7++qO 1)
       rw [ht (by rw [hk];simp [h1,h2,h3,h5,h8,q2];omega)]
       have h8':=h8
       simp only [bj,Bool.and_eq_true,decide_eq_true_eq] at h8'
       have hJ:=dr e (eN e r sp) (nh h1)
       refine qX ?_
       refine qK (b9 e h8) (qI 10 8) ?_
       refine cG [(4,5)] [] [(qU [0,7]),[0,1,2,3,5,4,6]] 7 hE (fun s=>s.at (qU [74,5,68,6]) [(7,.sc (.sl 21 0 1))] ((s.hp.set 9 (some ⟨[[.int .i64 e.side,.int .i64 e.state,.int .i64 e.key,.int .i64 e.peer,.int .i64 e.policy.kind,.int .i64 e.policy.many,.sl 10 0 e.own.length,.sl 11 0 e.far.length,.sl 20 0 (e.subs.length+1),.sl 13 0 e.halfs.length,.int .i64 e.bucket.rate,.int .i64 e.bucket.burst,.int .i64 e.bucket.cur,.st e.out.text,.int .i64 e.out.base,.int .i64 e.out.sent,.int .i64 e.out.room,.int .i64 e.inp.read,.st e.inp.ready,.sl 14 0 e.inp.list.length,.sl 15 0 e.done.length,.sl 16 0 e.over.length,.int .i64 (e.draw+4),.int .i64 e.now,.int .i64 e.pick]],25,38,true,false⟩))++[some ⟨[(eM e (eN e r sp)).cs],19,48,true,true⟩])) (by kernel_rfl) (qC) (by kernel_rfl) ?_ (ac 400 ?_)
       rotate_left
       rotate_right
       simp only [bm]
       refine⟨aa 400 ?_,aa 400 ?_⟩
       ·simp (disch:=omega) only [go_sem]
        refine aQ (hJ) (qI 0 7) ?_
        refine⟨qC,(qI 0 22),ab (by rfl) (by rfl) ?_⟩
        try simp (disch:=omega) only [go_sem,seval]
        try rfl
       ·simp (disch:=omega) only [go_sem]
        refine aQ (hJ) (qI 0 7) ?_
        refine⟨qC,(qI 0 22),ab (by rfl) (by rfl) ?_⟩
        try simp (disch:=omega) only [go_sem,seval]
        try rfl
       refine qX ?_
       refine fL (qI 0 7++qI 10 2++qI 20 1++qI 13 4++qI 21 1) (qC) _ (by simp only [go_sem];rfl) (by rfl) (by rfl) ?_
       simp (disch:=omega) only [go_sem,seval]
       try simp [SubD.cs,eN]
       try omega
      rw [hf (by rw [hk];first|(simp [h7];done)|(simp [h7];intros;omega))]
      refine qX ?_
      exact dk (qI 0 7++qI 10 7++qO 1)
     rw [hf (by rw [hk];first|(simp [h5];done)|(simp [h5];intros;omega))]
     refine qX ?_
     exact dk (qI 0 7++qI 10 7++qO 1)
    rw [hf (by rw [hk];first|(simp [h4];done)|(simp [h4];intros;omega))]
    refine qX ?_
    exact dk (qI 0 7++qI 10 7++qO 1)
   rw [hf (by rw [hk];first|(simp [h3];done)|(simp [h3];intros;omega))]
   refine qX ?_
   exact dk (qI 0 7++qI 10 7++qO 1)
  rw [hf (by rw [hk];first|(simp [h2];done)|(simp [h2];intros;omega))]
  refine qX ?_
  exact dk (qI 0 7++qI 10 7++qO 1)
 rw [hf (by rw [hk];first|(simp [h1];done)|(simp [h1];intros;omega))]
 refine qX ?_
 exact dk (qI 0 7++qI 10 7++qO 1)
theorem mx (p:PolicyD) (own far:List AddrD) (hp:p.wf) (h1:own.length<=1048576) (h2:far.length<=1048576):aP 82 [.ag p.cs,.sc (.sl 0 0 own.length),.sc (.sl 1 0 far.length)] [some ⟨own.map AddrD.cs,4,103,false,true⟩,some ⟨far.map AddrD.cs,4,103,false,true⟩] (.sc (.sl 2 0 (wanted p own far).length)) [some ⟨own.map AddrD.cs,4,103,false,true⟩,some ⟨far.map AddrD.cs,4,103,false,true⟩,some ⟨(wanted p own far).map RoadD.cs,3,99,true,true⟩]:=by
 obtain⟨m,hm⟩:∃ m,m=wanted p own far:=⟨_,rfl⟩
 rw [<-hm]
 rw [wanted] at hm
 refine qE Tryz.func82 Tryz.ntmps82 Tryz.results82 fun E hE=>?_
 refine qK (d5 p) [] ?_
 refine qB (fun g1=>?_) fun g1=>?_
 ·refine qK (Bg _ _ _) [] ?_
  refine qB (fun g2=>?_) fun g2=>?_
  ·refine qK (Bg _ _ _) [] ?_
   refine qB (fun g3=>?_) fun g3=>?_
   ·rw [if_neg (by simp [g3])] at hm
    subst hm
    exact qF (qI 0 2++qO 1)
   have g2':=g2
   have g3':=g3
   simp only [bj,Bool.and_eq_true,decide_eq_true_eq] at g2' g3'
   rw [if_pos ⟨g1,g2,g3⟩] at hm
   refine qX ?_
   refine qB (fun g4=>?_) fun g4=>?_
   ·rw [if_pos g4] at hm
    refine qX ?_
    refine jx 2 hE (fun s (x:Nat×List RoadD)=>s.at (qU [0,1,9,1,11,1,13,18,34,22]) [(33,.sc (.int .i64 (x.1:Nat))),(7,.sc (.sl 3 0 x.2.length))] ([some ⟨own.map AddrD.cs,4,103,false,true⟩,some ⟨far.map AddrD.cs,4,103,false,true⟩,some ⟨[p.cs],2,25,true,false⟩,some ⟨x.2.map RoadD.cs,3,99,true,true⟩])) (fun (x:Nat×List RoadD)=>x.1<=own.length/\x.2.length<=8/\f6 far x.2 (own.drop x.1)=m) (fun (x:Nat×List RoadD)=>own.length - x.1) (0,[]) (qI 0 3++qO 1) (⟨Nat.zero_le _,Nat.zero_le _,hm.symm⟩) fun x hx N hN=>?_
    obtain⟨k,acc⟩:=x
    obtain⟨hk1,hk2,hk3⟩:=hx
    dsimp only at hk1 hk2 hk3
    refine qR ?_
    refine qB (fun h=>?_) fun h=>?_
    ·rw [sq h] at hk3
     refine qX ?_
     refine jx 2 hE (fun s (y:Nat×List RoadD)=>s.at (qU [0,1,11,1,13,18,35,2,40,16]) [(39,.sc (.int .i64 (y.1:Nat))),(7,.sc (.sl 3 0 y.2.length))] ([some ⟨own.map AddrD.cs,4,103,false,true⟩,some ⟨far.map AddrD.cs,4,103,false,true⟩,some ⟨[p.cs],2,25,true,false⟩,some ⟨y.2.map RoadD.cs,3,99,true,true⟩,some ⟨[AddrD.cs own[k]],4,103,true,false⟩])) (fun (y:Nat×List RoadD)=>y.1<=far.length/\y.2.length<=8/\y.2=(acc++(far.take y.1).map (DP own[k])).take 8) (fun (y:Nat×List RoadD)=>far.length - y.1) (0,acc) (qI 0 5) (⟨Nat.zero_le _,hk2,by simp;rw [List.take_of_length_le hk2]⟩) fun y hy N2 hN2=>?_
     obtain⟨j,r⟩:=y
     obtain⟨hy1,hy2,hy3⟩:=hy
     dsimp only at hy1 hy2 hy3
     refine qR ?_
     refine qB (fun h5=>?_) fun h5=>?_
     ·refine qX ?_
      refine qB (fun h6=>?_) fun h6=>?_
      ·have hl8:r.length < 8:=by omega
       have ht:=zp h5 hy3 hl8
       refine⟨qC,hN2 _ (j+1,r++[DP own[k] far[j]]) (qI 0 3++qI 7 1++qI 4 1) (by (try dsimp only);exact⟨by omega,by simp;omega,ht⟩) (by (try dsimp only);omega) (bw (by rfl) (by rfl) ?_)⟩
       refine qX ?_
       simp [DP,RoadD.cs]
      have ht:=zq (i:=j+1) (by omega) (by omega) hy3 (by omega)
      exact qN hN2 (j+1,r) (qI 0 5) (by (try dsimp only);exact⟨by omega,hy2,ht⟩)
     have e:j=far.length:=by omega
     subst e
     rw [List.take_length] at hy3
     rw [<-hy3] at hk3
     exact qN hN (k+1,r) (qI 0 4) (by (try dsimp only);exact⟨by omega,hy2,hk3⟩)
    rw [List.drop_eq_nil_of_le (by omega),f6] at hk3
    subst hk3
    exact qF (qI 0 2++qI 3 1)
   rw [if_neg g4] at hm
   have ho:0 < own.length:=by omega
   have hf:0 < far.length:=by omega
   rw [sr ho,sr hf] at hm
   obtain⟨c,hc,hc0,hc8⟩:∃ c:Nat,m=jB own[0].addr far[0].addr c/\(if 1 < p.many then p.many else 1)=(c:Int)/\c<=8:=by
    by_cases h2:p.kind=2
    ·have h:=g1
     rw [polOk,if_pos h2] at h
     simp only [bj,Bool.and_eq_true,decide_eq_true_eq] at h
     rw [if_pos h2] at hm
     exact⟨p.many.toNat,hm,by split<;>omega,by omega⟩
    rw [if_neg h2] at hm
    have h:=g1
    rw [polOk,if_neg h2] at h
    simp only [Bool.and_eq_true,beq_iff_eq] at h
    exact⟨1,hm,by rw [if_neg (by omega)];rfl,by omega⟩
   refine qX ?_
   refine gN 2 hE (fun s (x:Nat)=>s.at (qU [0,1,9,1,11,1,13,64]) [(12,.sc (.int .i64 (x:Nat))),(7,.sc (.sl 3 0 x))] ([some ⟨own.map AddrD.cs,4,103,false,true⟩,some ⟨far.map AddrD.cs,4,103,false,true⟩,some ⟨[p.cs],2,25,true,false⟩,some ⟨(jB own[0].addr far[0].addr x).map RoadD.cs,3,99,true,true⟩])) (fun (x:Nat)=>x<=c) (fun (x:Nat)=>c - x) 0 (qI 0 3++qO 1) (qC) (Nat.zero_le _) (bw (by rfl) (by rfl) ?_) fun x hx N hN=>?_
   ·try simp (disch:=omega) only [go_sem,seval]
    try rfl
   refine ac 400 ?_
   have hml:=fR own[0].addr far[0].addr x
   try simp (disch:=omega) only [go_sem,seval,hc0]
   refine qB (fun h=>?_) fun h=>?_
   ·refine qD [0,1,2,3,4,5,6,7,8,9,10,11,12,13] ?_
    refine qG ?_
    refine sR hN (x+1) (qI 0 3++qI 5 1) (by (try dsimp only);exact (by omega)) ?_
    first|exact⟨⟩|simp [ni,RoadD.cs]
   have e:x=c:=by omega
   subst e
   subst hc
   rw [fR]
   exact qF (qI 0 2++qI 3 1)
  rw [if_neg (by simp [g2])] at hm
  subst hm
  exact qF (qI 0 2++qO 1)
 rw [if_neg (by simp [g1])] at hm
 subst hm
 exact qF (qI 0 2++qO 1)
theorem n6 (e:EndD) (hs:Small e):aP 242 [.ag (e.cs 0)] (e.hp false) (.tu [.ag ((bb e).1.cs 7),.sc (.sl 14 0 (bb e).2.length)])
  (e.hp false++((bb e).1.hp true++[some ⟨(bb e).2.map LetterD.cs,19,48,true,true⟩])):=by
 have hC:=(qH (jF e))
 have hK:=(qH (ap e))
 have hsub:=hs.subs
 have hsf:=hs.far
 have hso:=hs.own
 have hf:=Dv (e:=e)
 have ht:=Dw (e:=e)
 have hH:=n5 e hs.subs
 have hhl:=xf e.subs
 have hM64:=jW (wanted e.policy e.own e.far) (fj e.subs)
 obtain⟨R,hR⟩:∃ R,R=bb e:=⟨_,rfl⟩
 rw [<-hR] at hf ht
 rw [<-hR]
 clear hR
 refine kc Tryz.func242 (by kernel_rfl) rfl fun E hE=>ac 400 ?_
 simp (disch:=omega) only [Tryz.ntmps242,Tryz.results242,go_sem,seval]
 refine bc (qC) (hC) (qI 0 7) qM (by rfl) (ac 400 ?_)
 simp (disch:=omega) only [go_sem,seval]
 refine bc (qC) (hK) (qI 0 7) qM (by rfl) (ac 400 ?_)
 simp (disch:=omega) only [go_sem,seval]
 split<;>rename_i h1<;>(try simp only [beq_true,beq_false,Bool.not_eq_true',Bool.not_eq_false'] at h1)<;>simp (disch:=omega) only [go_sem,seval,h1]<;>(try simp only [decide_eq_true_eq,decide_eq_false_iff_not,beq_iff_eq,beq_eq_false_iff_ne,bne_iff_ne,bne_eq_false_iff_eq,ne_eq,Decidable.not_not,Bool.and_eq_true,Bool.and_eq_false_iff,Bool.or_eq_true,Bool.or_eq_false_iff,Int.ofNat_lt,Int.ofNat_le,Bool.not_eq_eq_eq_not,Bool.not_true,Bool.not_false] at h1)<;>try simp (disch:=omega) only [go_sem,seval]
 ·split<;>rename_i h2<;>(try simp only [beq_true,beq_false,Bool.not_eq_true',Bool.not_eq_false'] at h2)<;>simp (disch:=omega) only [go_sem,seval,h2]<;>(try simp only [decide_eq_true_eq,decide_eq_false_iff_not,beq_iff_eq,beq_eq_false_iff_ne,bne_iff_ne,bne_eq_false_iff_eq,ne_eq,Decidable.not_not,Bool.and_eq_true,Bool.and_eq_false_iff,Bool.or_eq_true,Bool.or_eq_false_iff,Int.ofNat_lt,Int.ofNat_le,Bool.not_eq_eq_eq_not,Bool.not_true,Bool.not_false] at h2)<;>try simp (disch:=omega) only [go_sem,seval]
  rotate_left
  ·have hR:=ht ⟨h1,h2⟩
   have hWa:=mx e.policy e.own e.far (xe h1) (by omega) (by omega)
   have hMi:=fl (wanted e.policy e.own e.far) (fj e.subs) (by have:=uy e.policy e.own e.far;omega) (by omega)
   generalize hMM:ei (wanted e.policy e.own e.far) (fj e.subs)=M at*
   clear hMM
   refine iu [0,1,2,3,4,5,7,11,6,8,9,10] (by kernel_rfl) (qC) (by kernel_rfl) (aa 400 ?_)
   simp (disch:=omega) only [go_sem,seval]
   refine it (qC) (hWa) (qI 0 2) qM (by rfl) (by rfl) (aa 400 ?_)
   simp (disch:=omega) only [go_sem,seval]
   refine it (qC) (hH) (qI 0 7) qM (by rfl) (by rfl) (aa 400 ?_)
   simp (disch:=omega) only [go_sem,seval]
   refine it (qC) (hMi) (qI 17 2) qM (by rfl) (by rfl) (aa 400 ?_)
   simp (disch:=omega) only [go_sem,seval]
   refine⟨qC,ac 400 ?_⟩
   try simp (disch:=omega) only [go_sem,seval]
   refine ju 7 hE (fun s (y:Nat×EndD×List LetterD)=>s.at (qU [0,1,7,24,34,28]) [(33,.sc (.int .i64 (y.1:Nat))),(31,.sc (.sl 17 0 M.length)),(32,.sc (.int .i64 (M.length:Nat))),(5,.sc (.sl 18 0 y.2.2.length))] ((s.hp.take 9)++(y.2.1.hp true++[some ⟨[y.2.1.cs 9],25,38,true,false⟩,some ⟨M.map RoadD.cs,3,99,true,true⟩,some ⟨y.2.2.map LetterD.cs,19,48,true,true⟩]))) (fun (y:Nat×EndD×List LetterD)=>y.1<=M.length/\Small y.2.1/\y.2.2.length<=y.1/\R=((dS e.far y.2.1 (M.drop y.1)).1,y.2.2++(dS e.far y.2.1 (M.drop y.1)).2)) (fun (y:Nat×EndD×List LetterD)=>M.length - y.1) (0,e,[]) (qI 0 17++qI 19 1++qO 1) (qC) (⟨Nat.zero_le _,hs,Nat.le_refl _,hR⟩) (ab (by rfl) (by rfl) ?_) fun y hy N hN=>?_
   ·try simp (disch:=omega) only [go_sem,seval]
   obtain⟨i,e1,l⟩:=y
   obtain⟨g1,g2,g3,g4⟩:=hy
   dsimp only at g1 g2 g3 g4
   refine ac 400 ?_
   try simp (disch:=omega) only [go_sem,seval]
   split<;>rename_i b<;>(try simp only [beq_true,beq_false,Bool.not_eq_true',Bool.not_eq_false'] at b)<;>simp (disch:=omega) only [go_sem,seval,b]<;>(try simp only [decide_eq_true_eq,decide_eq_false_iff_not,beq_iff_eq,beq_eq_false_iff_ne,bne_iff_ne,bne_eq_false_iff_eq,ne_eq,Decidable.not_not,Bool.and_eq_true,Bool.and_eq_false_iff,Bool.or_eq_true,Bool.or_eq_false_iff,Int.ofNat_lt,Int.ofNat_le,Bool.not_eq_eq_eq_not,Bool.not_true,Bool.not_false] at b)<;>try simp (disch:=omega) only [go_sem,seval]
   ·rw [uz b] at g4
    have hg:=aT (enc:=RoadD.cs) b
    generalize hr:M[i]=r at*
    have hJ:=os e1 r (aZ e.far r.far) g2
    have hj1:=ss e1 r (aZ e.far r.far)
    have hjs:=nk (r:=r) (b:=aZ e.far r.far) g2
    obtain⟨pr,hpr⟩:∃ p,p=dz e1 r (aZ e.far r.far):=⟨_,rfl⟩
    rw [<-hpr] at hJ hj1 hjs g4
    obtain⟨e2,l2⟩:=pr
    dsimp only at hJ hj1 hjs g4
    rw [<-List.append_assoc] at g4
    try simp (disch:=omega) only [go_sem,seval,hg,hr]
    refine bc (qC) (hU e r.far hsf) (qI 0 7) qM (by rfl) (ac 400 ?_)
    simp (disch:=omega) only [go_sem,seval]
    rcases sn e.far r.far with⟨q1,q2,q3⟩|⟨j,hj,q1,q2,q3⟩
    ·rw [q3] at hJ
     try simp (disch:=omega) only [go_sem,seval,q1]
     refine cG [(12,16)] [] [(qU [0,19]),(qU [0,12,16,1,12,4,17,2])] 7 hE (fun s=>s.at (qU [41,16]) [(9,.sc (.pt 28 0 0)),(10,.sc (.sl 27 0 l2.length))] (s.hp++(e2.hp true++[some ⟨l2.map LetterD.cs,19,48,true,true⟩,some ⟨[e2.cs 20],25,38,true,false⟩]))) (by kernel_rfl) (qC) (by kernel_rfl) ?_ (ac 400 ?_)
     rotate_left
     rotate_right
     simp only [bm]
     refine⟨aa 400 ?_,aa 400 ?_⟩
     ·simp (disch:=omega) only [go_sem,q1]
      refine it (qC) (hJ) (qI 9 7) qM (by rfl) (by rfl) (aa 400 ?_)
      simp (disch:=omega) only [go_sem,seval]
      refine⟨qC,(qI 0 29),ab (by rfl) (by rfl) ?_⟩
      try simp (disch:=omega) only [go_sem,seval]
     ·simp (disch:=omega) only [go_sem,q1]
      refine it (qC) (hJ) (qI 9 7) qM (by rfl) (by rfl) (aa 400 ?_)
      simp (disch:=omega) only [go_sem,seval]
      refine⟨qC,(qI 0 20++qI 21 8++qI 20 1),ab (by rfl) (by rfl) ?_⟩
      try simp (disch:=omega) only [go_sem,seval]
     try simp (disch:=omega) only [go_sem,seval]
     refine⟨qC,hN _ (i+1,e2,l++l2) (qI 0 9++qI 20 7++qI 16 2++qI 29 1) (by (try dsimp only);exact⟨by omega,hjs,by simp only [List.length_append];omega,g4⟩) (by (try dsimp only);omega) (ab (by rfl) (by rfl) ?_)⟩
     try simp (disch:=omega) only [go_sem,seval]
     try simp
    rw [q3] at hJ
    have hgf:=aT (enc:=AddrD.cs) hj
    try simp (disch:=omega) only [go_sem,seval,q1]
    refine cG [(12,16)] [] [(qU [0,19]),(qU [0,12,16,1,12,4,17,2])] 7 hE (fun s=>s.at (qU [41,16]) [(9,.sc (.pt 28 0 0)),(10,.sc (.sl 27 0 l2.length))] (s.hp++(e2.hp true++[some ⟨l2.map LetterD.cs,19,48,true,true⟩,some ⟨[e2.cs 20],25,38,true,false⟩]))) (by kernel_rfl) (qC) (by kernel_rfl) ?_ (ac 400 ?_)
    rotate_left
    rotate_right
    simp only [bm]
    refine⟨aa 400 ?_,aa 400 ?_⟩
    ·simp (disch:=omega) only [go_sem,q1,hgf]
     refine it (qC) (hJ) (qI 9 7) qM (by rfl) (by rfl) (aa 400 ?_)
     simp (disch:=omega) only [go_sem,seval]
     refine⟨qC,(qI 0 29),ab (by rfl) (by rfl) ?_⟩
     try simp (disch:=omega) only [go_sem,seval]
    ·simp (disch:=omega) only [go_sem,q1,hgf]
     refine it (qC) (hJ) (qI 9 7) qM (by rfl) (by rfl) (aa 400 ?_)
     simp (disch:=omega) only [go_sem,seval]
     refine⟨qC,(qI 0 20++qI 21 8++qI 20 1),ab (by rfl) (by rfl) ?_⟩
     try simp (disch:=omega) only [go_sem,seval]
    try simp (disch:=omega) only [go_sem,seval]
    refine⟨qC,hN _ (i+1,e2,l++l2) (qI 0 9++qI 20 7++qI 16 2++qI 29 1) (by (try dsimp only);exact⟨by omega,hjs,by simp only [List.length_append];omega,g4⟩) (by (try dsimp only);omega) (ab (by rfl) (by rfl) ?_)⟩
    try simp (disch:=omega) only [go_sem,seval]
    try simp
   rw [xd (by omega),List.append_nil] at g4
   subst g4
   try simp (disch:=omega) only [go_sem,seval]
   refine fL (qI 0 7++qI 9 7++qI 18 1) (qC) _ (by simp only [go_sem];rfl) (by rfl) (by rfl) ?_
   simp (disch:=omega) only [go_sem,seval]
  rw [hf (fun h=>h2 h.2)]
  try simp (disch:=omega) only [go_sem,seval]
  refine fL (qI 0 7++qI 9 7++qO 1) (qC) _ (by simp only [go_sem];rfl) (by rfl) (by rfl) ?_
  simp (disch:=omega) only [go_sem,seval]
 rw [hf (fun h=>by rw [h1] at h;cases h.1)]
 try simp (disch:=omega) only [go_sem,seval]
 refine fL (qI 0 7++qI 9 7++qO 1) (qC) _ (by simp only [go_sem];rfl) (by rfl) (by rfl) ?_
 simp (disch:=omega) only [go_sem,seval]
theorem ih (e:EndD) (hs:Small e):aP 288 [.ag (e.cs 0)] (e.hp false) (.sc (.sl 7 0 (bX e).length)) (e.hp false++[some ⟨(bX e).map LetterD.cs,19,48,true,true⟩]):=by
 have hN:=m2 e (by have:=hs.subs;omega)
 have hK:=(qH (ap e))
 have hown:=hs.own
 have hf:=EH (e:=e)
 have ht:= @EI e
 have hok:AS e=(af e && decide (e.state=2) && !decide ((j0 e.subs).length=0)):=rfl
 obtain⟨R,hR⟩:∃ R,R=bX e:=⟨_,rfl⟩
 rw [<-hR] at hf ht
 rw [<-hR]
 clear hR
 refine gU Tryz.func288 Tryz.ntmps288 Tryz.results288 fun E hE=>?_
 refine qK (hN) (qI 0 7) ?_
 refine qK (hK) (qI 0 7) ?_
 refine qB (fun h1=>?_) fun h1=>?_
 ·refine qB (fun h2=>?_) fun h2=>?_
  ·by_cases h3:(j0 e.subs).length=0
   ·rw [hf (by rw [hok];simp [h3])]
    try simp (disch:=omega) only [go_sem,seval,h3]
    exact dk (qI 0 7++qO 1)
   have hpos:0 < (j0 e.subs).length:=by omega
   have hk:=yD hpos
   have hR:=ht (by rw [hok];simp [h1,h2,h3]) (xg hpos) hk
   have hgo:=aT (enc:=pM) hpos
   generalize hk0:(j0 e.subs)[0]=k0 at*
   have hgs:=aT (enc:=SubD.cs) hk
   generalize hss:e.subs[k0]=s0 at*
   refine qX ?_
   refine qD [0,1,2,3,4,5,6,7,8] ?_
   try simp (disch:=omega) only [go_sem,seval,hgo,hk0,pM,hgs,hss]
   refine qG ?_
   refine tD 7 hE (fun s (y:Nat×List LetterD)=>s.at (qU [0,1,3,1,7,24,34,31]) [(33,.sc (.int .i64 (y.1:Nat))),(5,.sc (.sl 10 0 y.2.length))] ((s.hp.take 10)++[some ⟨y.2.map LetterD.cs,19,48,true,true⟩])) (fun (y:Nat×List LetterD)=>y.1<=e.own.length/\y.2.length<=y.1/\R=y.2++((e.own.drop y.1).filter (fun a=> !a.told)).map (sh e s0)) (fun (y:Nat×List LetterD)=>e.own.length - y.1) (0,[]) (qI 0 10++qO 1) (⟨Nat.zero_le _,Nat.zero_le _,hR⟩) fun y hy N hN=>?_
   obtain⟨i,l⟩:=y
   obtain⟨g1,g2,g3⟩:=hy
   dsimp only at g1 g2 g3
   refine qR ?_
   refine qB (fun b=>?_) fun b=>?_
   ·rw [kv b] at g3
    have hg:=aT (enc:=AddrD.cs) b
    generalize hae:e.own[i]=a at*
    try simp (disch:=omega) only [go_sem,seval,hg,hae]
    cases htd:a.told with
    |true=>
     rw [if_neg (by simp [htd])] at g3
     try simp (disch:=omega) only [go_sem,seval,htd]
     exact Cs hN (i+1,l) (qI 0 11) (by (try dsimp only);exact⟨by omega,by omega,g3⟩)
    |false=>
     rw [if_pos (by simp [htd]),List.map_cons] at g3
     try simp (disch:=omega) only [go_sem,seval,htd]
     refine qD [0,1,2,3,4,5,6,7,8,9,10,11,12,13,14,15,16,17,18,19,20,21,22,23,24] ?_
     refine aQ (el e.key e.peer a.id a.addr) [] ?_
     refine aQ (a0 s0.road { ah with kind:=8,tag:=⟨3,e.key,e.peer,a.id,a.addr⟩,sgn:=s0.give,id:=a.id,addr:=a.addr,spare:=a.spare }) [] ?_
     refine qG ?_
     refine⟨qC,hN _ (i+1,l++[sh e s0 a]) (qI 0 10++qI 13 1) (by (try dsimp only);exact⟨by omega,by simp;omega,by simpa using g3⟩) (by (try dsimp only);omega) (ab (by rfl) (by rfl) ?_)⟩
     refine qX ?_
     rw [List.map_append]
     rfl
   rw [nf (by omega),List.map_nil,List.append_nil] at g3
   subst g3
   refine qX ?_
   exact dk (qI 0 7++qI 10 1)
  rw [hf (by rw [hok];simp [h2])]
  refine qX ?_
  exact dk (qI 0 7++qO 1)
 rw [hf (by rw [hok];simp [h1])]
 refine qX ?_
 exact dk (qI 0 7++qO 1)
theorem e0 (e:EndD) (l:List LetterD) (hs:Small e) (ht:e.out.text.length<=1048576) (hl:l.length<=1048576):aP 270 [.ag (e.cs 0),.sc (.sl 7 0 l.length)] (e.hp true++[some ⟨l.map LetterD.cs,19,48,true,true⟩])
  (.tu [.ag ((bQ e l).1.cs 8),.sc (.sl 15 0 (bQ e l).2.length)]) ((nH 8)++((bQ e l).1.hp true++[some ⟨(bQ e l).2.map LetterD.cs,19,48,true,true⟩])):=by
 have hT:=ih e hs
 have hTl:=jX e
 have hso:=hs.own
 have hP:=mp e hs ht
 have hPl:=ku (k:=3) (e:=e)
 rw [bQ]
 generalize bX e=T at*
 generalize cu 3 e=Q at*
 obtain⟨e1,l1⟩:=Q
 dsimp only at hP hPl⊢
 refine gU Tryz.func270 Tryz.ntmps270 Tryz.results270 fun E hE=>?_
 refine qK (hT) (qI 0 7) ?_
 refine qK (hP) (qI 0 7) ?_
 refine cG [(0,3)] [] [[1,2,0,3,4,5],[1,2,3,0,4,5]] 8 hE (fun s=>s.at (qU [1,1,7,6,15,6]) [(5,.sc (.sl 21 0 (l.length+T.length+l1.length)))] (((s.hp.set 9 (some ⟨[[.int .i64 e1.side,.int .i64 e1.state,.int .i64 e1.key,.int .i64 e1.peer,.int .i64 e1.policy.kind,.int .i64 e1.policy.many,.sl 12 0 e1.own.length,.sl 13 0 e1.far.length,.sl 14 0 e1.subs.length,.sl 15 0 e1.halfs.length,.int .i64 e1.bucket.rate,.int .i64 e1.bucket.burst,.int .i64 e1.bucket.cur,.st e1.out.text,.int .i64 e1.out.base,.int .i64 e1.out.sent,.int .i64 e1.out.room,.int .i64 e1.inp.read,.st e1.inp.ready,.sl 16 0 e1.inp.list.length,.sl 17 0 e1.done.length,.sl 18 0 e1.over.length,.int .i64 e1.draw,.int .i64 e1.now,.int .i64 e1.pick]],25,38,true,false⟩)).set 11 none)++[some ⟨(l++T++l1).map LetterD.cs,19,48,true,true⟩])) (by kernel_rfl) (qC) (by kernel_rfl) ?_ (ac 400 ?_)
 rotate_left
 rotate_right
 simp only [bm]
 refine⟨aa 400 ?_,aa 400 ?_⟩
 ·simp (disch:=omega) only [go_sem]
  refine⟨qC,(qI 0 22),ab (by rfl) (by rfl) ?_⟩
  try simp (disch:=omega) only [go_sem,seval]
  repeat' first|rfl|constructor|(intro _;rfl)|(simp only [List.map_append,List.append_assoc,List.length_append,Nat.add_assoc];done)
 ·simp (disch:=omega) only [go_sem]
  refine⟨qC,(qI 0 22),ab (by rfl) (by rfl) ?_⟩
  try simp (disch:=omega) only [go_sem,seval]
  repeat' first|rfl|constructor|(intro _;rfl)|(simp only [List.map_append,List.append_assoc,List.length_append,Nat.add_assoc];done)
 refine qX ?_
 refine fL (qI 0 8++qI 12 7++qI 21 1) (qC) _ (by simp only [go_sem];rfl) (by rfl) (by rfl) ?_
 simp (disch:=omega) only [go_sem,seval]
 try simp
 try omega
theorem na (e:EndD) (hs:Small e) (ht:e.out.text.length<=1048576):aP 241 [.ag (e.cs 0)] (e.hp false) (.tu [.ag ((cQ e).1.cs 7),.sc (.sl 14 0 (cQ e).2.length)])
  (e.hp false++((cQ e).1.hp true++[some ⟨(cQ e).2.map LetterD.cs,19,48,true,true⟩])):=by
 have hC:=(qH (jF e))
 have hK:=(qH (ap e))
 have hsb:=hs.subs
 have hso:=hs.own
 have hsh:=hs.halfs
 have hF:=n4 e.bucket
 have hY:=nx e.halfs (e.now+1) hs.halfs
 have hAn:=oj e.out
 have hyl:=nm e.halfs (e.now+1)
 have hat:(fi e.out).text.length<=1048576:=by rw [fi];split<;>exact ht
 have hf:=B3 (e:=e)
 have hto:=zt (e:=e)
 have hti:=zu (e:=e)
 have htu:= @B4 e
 have hok:AT e=(af e && decide (e.now < 1000000000) && e.subs.all fun s=>decide (s.tries < 1000000000)):=rfl
 have hsm0:Small { e with now:=e.now+1,bucket:=cr e.bucket,halfs:=bx e.halfs (e.now+1),out:=fi e.out }:=⟨hs.own,hs.far,hs.subs,by dsimp only;omega,hs.list,hs.done,hs.over⟩
 have hsm1:Small { e with now:=e.now+1,bucket:=cr e.bucket,halfs:=bx e.halfs (e.now+1),out:=fi e.out,subs:=e.subs.map cW }:=⟨hs.own,hs.far,by dsimp only;rw [List.length_map];exact hs.subs,by dsimp only;omega,hs.list,hs.done,hs.over⟩
 have hfl:(e.subs.flatMap (di e)).length<=e.subs.length:=lL (kw e) _
 obtain⟨R,hR⟩:∃ R,R=cQ e:=⟨_,rfl⟩
 rw [<-hR] at hf hto hti
 simp only [<-hR] at htu
 rw [<-hR]
 clear hR
 refine gU Tryz.func241 Tryz.ntmps241 Tryz.results241 fun E hE=>?_
 refine qK (hC) (qI 0 7) ?_
 refine qK (hK) (qI 0 7) ?_
 refine qB (fun h1=>?_) fun h1=>?_
 ·have hnow:=kl h1
  by_cases h2:e.now < 1000000000
  ·refine qX ?_
   refine tD 7 hE (fun s (i:Nat)=>s.at (qU [0,1,3,1,6,1,10,12,25,8]) [(24,.sc (.int .i64 (i:Nat)))] (s.hp)) (fun (i:Nat)=>i<=e.subs.length/\(e.subs.drop i).all (fun s=>decide (s.tries < 1000000000))=e.subs.all (fun s=>decide (s.tries < 1000000000))) (fun (i:Nat)=>e.subs.length - i) 0 (qI 0 17) (⟨Nat.zero_le _,rfl⟩) fun i hi N hN=>?_
   obtain⟨g1,g2⟩:=hi
   refine qR ?_
   refine qB (fun b=>?_) fun b=>?_
   ·rw [xl b] at g2
    have hg:=aT (enc:=SubD.cs) b
    have hsub:=o_ h1 b
    try simp (disch:=omega) only [go_sem,seval,hg]
    refine qB (fun b2=>?_) fun b2=>?_
    ·rw [decide_eq_false (by omega),Bool.false_and] at g2
     rw [hf (by rw [hok,<-g2];simp)]
     refine qX ?_
     exact dk (qI 0 7++qI 9 7++qO 1)
    rw [decide_eq_true (by omega),Bool.true_and] at g2
    refine qX ?_
    exact Cs hN (i+1) (qI 0 17) (by (try dsimp only);exact⟨by omega,g2⟩)
   rw [List.drop_eq_nil_of_le (by omega),List.all_nil] at g2
   have hall:=g2.symm
   have hall2:∀ (k:Nat) (hk:k < e.subs.length),e.subs[k].tries < 1000000000:=fun k hk=>by
    have:=List.all_eq_true.1 hall e.subs[k] (List.getElem_mem hk)
    simpa using this
   have htk:AT e=true:=by rw [hok,h1,decide_eq_true h2,hall];rfl
   refine qX ?_
   refine qK (hF) [] ?_
   refine qK (hY) (qI 3 1) ?_
   refine qK (hAn) [] ?_
   by_cases h2s:e.state=2
   ·have hR:=hto htk h2s
    rw [eR] at hR
    obtain⟨LL,hLL⟩:∃ L,L=e.subs.flatMap (di e):=⟨_,rfl⟩
    rw [<-hLL] at hR hfl
    refine qX ?_
    refine ju 7 hE (fun s (y:Nat×List LetterD)=>s.at (qU [0,1,6,1,8,52,62,71]) [(61,.sc (.int .i64 (y.1:Nat))),(7,.sc (.sl 18 0 y.2.length))] ((s.hp.set 11 (some ⟨(cd cW e.subs y.1).map SubD.cs,10,101,true,true⟩))++[some ⟨y.2.map LetterD.cs,19,48,true,true⟩])) (fun (y:Nat×List LetterD)=>y.1<=e.subs.length/\y.2.length<=y.1/\LL=y.2++(e.subs.drop y.1).flatMap (di e)) (fun (y:Nat×List LetterD)=>e.subs.length - y.1) (0,[]) (qI 0 18++qO 1) (qC) (⟨Nat.zero_le _,Nat.zero_le _,hLL⟩) (ab (by rfl) (by rfl) ?_) fun y hy N2 hN2=>?_
    ·try simp (disch:=omega) only [go_sem,seval]
     try rw [uC]
    obtain⟨k,l⟩:=y
    obtain⟨f1,f2,f3⟩:=hy
    dsimp only at f1 f2 f3
    refine ac 400 ?_
    have hgl:(cd cW e.subs k).length=e.subs.length:=xh
    refine qX ?_
    refine qB (fun b=>?_) fun b=>?_
    ·have hg:=xi (f:=cW) b
     have hsub:=o_ h1 b
     have htr:=hall2 k b
     rw [uD b] at f3
     have hset:=xj (f:=cW) b
     have hsame:=uB (f:=cW) b
     obtain⟨s0,hs0⟩:∃ s,s=e.subs[k]:=⟨_,rfl⟩
     rw [<-hs0] at hsub htr f3 hset hsame
     have hg':∀ p:k < (cd cW e.subs k).length,(cd cW e.subs k)[k]'p=s0:=fun p=>by rw [hg p,hs0]
     clear hg
     by_cases c1:s0.state=1\/s0.state=2
     ·by_cases c2:s0.state=2/\9<=s0.tries+1
      ·have tS:=uG c2.1 c2.2
       rw [uH c2.1 c2.2,List.nil_append] at f3
       obtain⟨c3,c4⟩:=c2
       try simp (disch:=omega) only [go_sem,seval,hg',c3]
       refine⟨qC,hN2 _ (k+1,l) (qI 0 19) (by (try dsimp only);exact⟨by omega,by omega,f3⟩) (by (try dsimp only);omega) (ab (by rfl) (by rfl) ?_)⟩
       refine qX ?_
       rw [<-hset,tS,List.map_set]
       try simp [SubD.cs,c3]
      have tS:=zx c1 c2
      by_cases c5:(s0.tries+1).tmod 3=0
      ·rcases c1 with c1|c1
       ·rw [xm c1 c5] at f3
        have hL:aP 271 [.ag (EndD.cs e 0),.ag (SubD.cs { s0 with tries:=s0.tries+1,state:=1 })] (EndD.hp e false) (.ag (eM e s0).cs) (EndD.hp e false):=dr _ _ (show bj e.side 1 2=true from nh h1)
        try simp (disch:=omega) only [go_sem,seval,hg',c1,c5]
        refine qD [0,1,2,3,4,5,6,7,8] ?_
        refine aQ (hL) (qI 0 7) ?_
        refine qG ?_
        refine⟨qC,hN2 _ (k+1,l++[eM e s0]) (qI 0 18++qI 20 1) (by (try dsimp only);exact⟨by omega,by simp;omega,by simpa using f3⟩) (by (try dsimp only);omega) (ab (by rfl) (by rfl) ?_)⟩
        refine qX ?_
        rw [<-hset,tS,List.map_set]
        try simp [SubD.cs,c1,LetterD.cs]
       rw [sw c1 (by omega) c5] at f3
       have hL:aP 202 [.ag (EndD.cs e 0),.ag (SubD.cs { s0 with tries:=s0.tries+1,state:=2 })] (EndD.hp e false) (.ag (cb e s0).cs) (EndD.hp e false):=dn _ _
       try simp (disch:=omega) only [go_sem,seval,hg',c1,c5]
       refine qD [0,1,2,3,4,5,6,7,8] ?_
       refine aQ (hL) (qI 0 7) ?_
       refine qG ?_
       refine⟨qC,hN2 _ (k+1,l++[cb e s0]) (qI 0 18++qI 20 1) (by (try dsimp only);exact⟨by omega,by simp;omega,by simpa using f3⟩) (by (try dsimp only);omega) (ab (by rfl) (by rfl) ?_)⟩
       refine qX ?_
       rw [<-hset,tS,List.map_set]
       try simp [SubD.cs,c1,LetterD.cs]
      rw [uI c1 c2 c5,List.nil_append] at f3
      have c6:0 < (s0.tries+1).tmod 3:=by have:=Int.tmod_nonneg 3 (show 0<=s0.tries+1 by omega);omega
      rcases c1 with c1|c1
      ·try simp (disch:=omega) only [go_sem,seval,hg',c1]
       refine⟨qC,hN2 _ (k+1,l) (qI 0 19) (by (try dsimp only);exact⟨by omega,by omega,f3⟩) (by (try dsimp only);omega) (ab (by rfl) (by rfl) ?_)⟩
       refine qX ?_
       rw [<-hset,tS,List.map_set]
       try simp [SubD.cs,c1]
      try simp (disch:=omega) only [go_sem,seval,hg',c1]
      refine⟨qC,hN2 _ (k+1,l) (qI 0 19) (by (try dsimp only);exact⟨by omega,by omega,f3⟩) (by (try dsimp only);omega) (ab (by rfl) (by rfl) ?_)⟩
      refine qX ?_
      rw [<-hset,tS,List.map_set]
      try simp [SubD.cs,c1]
     rw [uF c1,List.nil_append] at f3
     try simp (disch:=omega) only [go_sem,seval,hg']
     refine⟨qC,hN2 _ (k+1,l) (qI 0 19) (by (try dsimp only);exact⟨by omega,by omega,f3⟩) (by (try dsimp only);omega) (ab (by rfl) (by rfl) ?_)⟩
     refine qX ?_
     rw [hsame (uE c1)]
    have hkl:k=e.subs.length:=by omega
    subst hkl
    rw [List.drop_eq_nil_of_le (Nat.le_refl _),List.flatMap_nil,List.append_nil] at f3
    subst f3
    rw [xk]
    have hTE:=e0 { e with now:=e.now+1,bucket:=cr e.bucket,halfs:=bx e.halfs (e.now+1),out:=fi e.out,subs:=e.subs.map cW } LL hsm1 hat (by omega)
    rw [<-hR] at hTE
    have hml:(e.subs.map cW).length=e.subs.length:=List.length_map ..
    refine qX ?_
    refine qK (hTE) (qI 9 3++qI 17 1++qI 13 3++qI 18 1) ?_
    exact dk (qI 0 7++qI 19 8)
   have hR:=hti htk h2s
   rw [eR] at hR
   have hTE:=e0 { e with now:=e.now+1,bucket:=cr e.bucket,halfs:=bx e.halfs (e.now+1),out:=fi e.out } [] hsm0 hat (by simp)
   rw [<-hR] at hTE
   refine qX ?_
   refine qK (hTE) (qI 9 3++qI 17 1++qI 13 3++qO 1) ?_
   exact dk (qI 0 7++qI 18 8)
  rw [hf (by rw [hok];simp [h2])]
  refine qX ?_
  exact dk (qI 0 7++qI 9 7++qO 1)
 rw [hf (by rw [hok];simp [h1])]
 refine qX ?_
 exact dk (qI 0 7++qI 9 7++qO 1)
theorem o7 (w:WorldD) (pos many:Int) (text:List UInt8) (ad:AddrD) (le:LetterD) (hw:SmallD w) (htx:text.length<=1048576):
  aP 164 [.sc (.pt 21 0 0),.ag (ActD.cs ⟨3,1,pos,many,text,ad,le⟩)] (w.hp true++[some ⟨[w.cs 0],61,44,true,false⟩]) (.sc (.int .i64 0))
  ((nH 21++[some ⟨[WorldD.cs (an 1 { w with a:=(cQ w.a).1 } (cQ w.a).2) 22],61,44,true,false⟩])++WorldD.hp (an 1 { w with a:=(cQ w.a).1 } (cQ w.a).2) true):=by
 have q1:=hw.s.wa
 have q2:=hw.s.wb
 have q3:=hw.s.ra
 have q4:=hw.s.rb
 have hX:=na w.a hw.p.s.a hw.oa
 have hsm:=jb hw.p.s.a
 have hlen:=sA w.a
 have hEA:aP 66 [.ag (w.cs 0),.sc (.int .i64 1)] (w.hp false) (.ag (w.a.cs 21)) (w.hp false++w.a.hp true):=BM w 1 hw.p.s.a.own hw.p.s.a.far hw.p.s.a.subs hw.p.s.a.halfs hw.p.s.a.list hw.p.s.a.done hw.p.s.a.over hw.p.s.b.own hw.p.s.b.far hw.p.s.b.subs hw.p.s.b.halfs hw.p.s.b.list hw.p.s.b.done hw.p.s.b.over
 obtain⟨pr,hpr⟩:∃ p,p=cQ w.a:=⟨_,rfl⟩
 rw [<-hpr] at hX hsm hlen⊢
 obtain⟨e1,l1⟩:=pr
 dsimp only at hX hsm hlen⊢
 have hset:=d4 w e1
 have hpost:=dd { w with a:=e1 } l1 ⟨hw.p.s.bag,hw.p.s.past,hw.p.s.keys,hw.p.s.tags,hw.p.s.nums,hw.p.s.ansA,hw.p.s.ansB⟩ (by first|omega|simp)
 have hends:=ba (side:=1) (l:=l1) (w:={ w with a:=e1 })
 obtain⟨R,hR⟩:∃ R,R=an 1 { w with a:=e1 } l1:=⟨_,rfl⟩
 rw [<-hR] at hpost hends⊢
 clear hR
 obtain⟨ra,rb,bag,past,wA,wB,rA,rB,known,nums,nsA,nsB⟩:=R
 obtain⟨keys,tags⟩:=known
 dsimp only at hends
 obtain⟨g1,g2,g3,g4,g5,g6⟩:=hends
 replace g1:=g1.symm
 replace g2:=g2.symm
 replace g3:=g3.symm
 replace g4:=g4.symm
 replace g5:=g5.symm
 replace g6:=g6.symm
 subst g1 g2 g3 g4 g5 g6
 refine kc Tryz.func164 (by kernel_rfl) rfl fun E hE=>ac 400 ?_
 simp (disch:=omega) only [Tryz.ntmps164,Tryz.results164,go_sem,seval]
 refine cG [(5,6)] [] [(qU [0,8]),[0,1,2,3,4,6,5,7]] 22 hE (fun s=>s.at (qU [13,6]) [(5,.sc (.pt 30 0 0))] (s.hp++(w.a.hp true++[some ⟨[w.a.cs 23],25,38,true,false⟩]))) (by kernel_rfl) (qC) (by kernel_rfl) ?_ (ac 400 ?_)
 rotate_left
 rotate_right
 simp only [bm]
 refine⟨aa 400 ?_,aa 400 ?_⟩
 ·simp (disch:=omega) only [go_sem]
  refine it (qC) (hEA) (qI 0 21) qM (by rfl) (by rfl) (aa 400 ?_)
  simp (disch:=omega) only [go_sem,seval]
  refine⟨qC,(qI 0 31),ab (by rfl) (by rfl) ?_⟩
  try simp (disch:=omega) only [go_sem,seval]
 ·simp (disch:=omega) only [go_sem]
  refine it (qC) (hEA) (qI 0 21) qM (by rfl) (by rfl) (aa 400 ?_)
  simp (disch:=omega) only [go_sem,seval]
  refine⟨qC,(qI 0 23++qI 24 7++qI 23 1),ab (by rfl) (by rfl) ?_⟩
  try simp (disch:=omega) only [go_sem,seval]
 try simp (disch:=omega) only [go_sem,seval]
 refine bc (qC) (hX) (qI 23 7) qM (by rfl) (ac 400 ?_)
 simp (disch:=omega) only [go_sem,seval]
 refine bc (qC) (hset) (qI 0 21++qI 31 7++qI 21 1) qM (by rfl) (ac 400 ?_)
 simp (disch:=omega) only [go_sem,seval]
 refine bc (qC) (hpost) (qI 31 7++qI 7 15++qI 38 1) qM (by rfl) (ac 400 ?_)
 simp (disch:=omega) only [go_sem,seval]
 refine fL (qI 0 22++qI 31 7++qI 7 7++qI 39 7) (qC) _ (by simp only [go_sem];rfl) (by rfl) (by rfl) ?_
 simp (disch:=omega) only [go_sem,seval]
theorem o8 (w:WorldD) (pos many:Int) (text:List UInt8) (ad:AddrD) (le:LetterD) (hw:SmallD w) (htx:text.length<=1048576):
  aP 164 [.sc (.pt 21 0 0),.ag (ActD.cs ⟨3,2,pos,many,text,ad,le⟩)] (w.hp true++[some ⟨[w.cs 0],61,44,true,false⟩]) (.sc (.int .i64 0))
  ((nH 21++[some ⟨[WorldD.cs (an 2 { w with b:=(cQ w.b).1 } (cQ w.b).2) 22],61,44,true,false⟩])++WorldD.hp (an 2 { w with b:=(cQ w.b).1 } (cQ w.b).2) true):=by
 have q1:=hw.s.wa
 have q2:=hw.s.wb
 have q3:=hw.s.ra
 have q4:=hw.s.rb
 have hX:=na w.b hw.p.s.b hw.ob
 have hsm:=jb hw.p.s.b
 have hlen:=sA w.b
 have hEA:aP 66 [.ag (w.cs 0),.sc (.int .i64 2)] (w.hp false) (.ag (w.b.cs 21)) (w.hp false++w.b.hp true):=BM w 2 hw.p.s.a.own hw.p.s.a.far hw.p.s.a.subs hw.p.s.a.halfs hw.p.s.a.list hw.p.s.a.done hw.p.s.a.over hw.p.s.b.own hw.p.s.b.far hw.p.s.b.subs hw.p.s.b.halfs hw.p.s.b.list hw.p.s.b.done hw.p.s.b.over
 obtain⟨pr,hpr⟩:∃ p,p=cQ w.b:=⟨_,rfl⟩
 rw [<-hpr] at hX hsm hlen⊢
 obtain⟨e1,l1⟩:=pr
 dsimp only at hX hsm hlen⊢
 have hset:=e5 w e1
 have hpost:=ea { w with b:=e1 } l1 ⟨hw.p.s.bag,hw.p.s.past,hw.p.s.keys,hw.p.s.tags,hw.p.s.nums,hw.p.s.ansA,hw.p.s.ansB⟩ (by first|omega|simp)
 have hends:=ba (side:=2) (l:=l1) (w:={ w with b:=e1 })
 obtain⟨R,hR⟩:∃ R,R=an 2 { w with b:=e1 } l1:=⟨_,rfl⟩
 rw [<-hR] at hpost hends⊢
 clear hR
 obtain⟨ra,rb,bag,past,wA,wB,rA,rB,known,nums,nsA,nsB⟩:=R
 obtain⟨keys,tags⟩:=known
 dsimp only at hends
 obtain⟨g1,g2,g3,g4,g5,g6⟩:=hends
 replace g1:=g1.symm
 replace g2:=g2.symm
 replace g3:=g3.symm
 replace g4:=g4.symm
 replace g5:=g5.symm
 replace g6:=g6.symm
 subst g1 g2 g3 g4 g5 g6
 refine kc Tryz.func164 (by kernel_rfl) rfl fun E hE=>ac 400 ?_
 simp (disch:=omega) only [Tryz.ntmps164,Tryz.results164,go_sem,seval]
 refine cG [(5,6)] [] [(qU [0,8]),[0,1,2,3,4,6,5,7]] 22 hE (fun s=>s.at (qU [13,6]) [(5,.sc (.pt 30 0 0))] (s.hp++(w.b.hp true++[some ⟨[w.b.cs 23],25,38,true,false⟩]))) (by kernel_rfl) (qC) (by kernel_rfl) ?_ (ac 400 ?_)
 rotate_left
 rotate_right
 simp only [bm]
 refine⟨aa 400 ?_,aa 400 ?_⟩
 ·simp (disch:=omega) only [go_sem]
  refine it (qC) (hEA) (qI 0 21) qM (by rfl) (by rfl) (aa 400 ?_)
  simp (disch:=omega) only [go_sem,seval]
  refine⟨qC,(qI 0 31),ab (by rfl) (by rfl) ?_⟩
  try simp (disch:=omega) only [go_sem,seval]
 ·simp (disch:=omega) only [go_sem]
  refine it (qC) (hEA) (qI 0 21) qM (by rfl) (by rfl) (aa 400 ?_)
  simp (disch:=omega) only [go_sem,seval]
  refine⟨qC,(qI 0 23++qI 24 7++qI 23 1),ab (by rfl) (by rfl) ?_⟩
  try simp (disch:=omega) only [go_sem,seval]
 try simp (disch:=omega) only [go_sem,seval]
 refine bc (qC) (hX) (qI 23 7) qM (by rfl) (ac 400 ?_)
 simp (disch:=omega) only [go_sem,seval]
 refine bc (qC) (hset) (qI 0 21++qI 31 7++qI 21 1) qM (by rfl) (ac 400 ?_)
 simp (disch:=omega) only [go_sem,seval]
 refine bc (qC) (hpost) (qI 0 7++qI 31 7++qI 14 8++qI 38 1) qM (by rfl) (ac 400 ?_)
 simp (disch:=omega) only [go_sem,seval]
 refine fL (qI 0 22++qI 0 7++qI 31 7++qI 39 7) (qC) _ (by simp only [go_sem];rfl) (by rfl) (by rfl) ?_
 simp (disch:=omega) only [go_sem,seval]
theorem ov {w:WorldD} {a:ActD} (h:¬ dl w a=true):(eX w a).2=0:=by rw [eX,if_neg h]
theorem pe (w:WorldD) (a:ActD):(ce w a).2=0\/(ce w a).1=w:=by
 unfold ce;repeat' split
 all_goals first|exact .inl rfl|exact .inr rfl
theorem ps (w:WorldD) (a:ActD):(eX w a).2=0\/(eX w a).1=w:=by
 by_cases h:dl w a=true
 ·rw [DC h];exact .inr rfl
 exact .inl (ov h)
end
end Go.Proofs.YtjghbknhneffjaaGreat
