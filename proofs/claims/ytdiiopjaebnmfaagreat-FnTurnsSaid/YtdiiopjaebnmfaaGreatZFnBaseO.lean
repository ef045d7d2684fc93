/- Lemmas of this claim. -/
import Derived.Test.YtdiiopjaebnmfaaGreatZFnBaseL
import Derived.Test.YtdiiopjaebnmfaaGreatZFnBaseM
import Derived.Test.YtdiiopjaebnmfaaGreatZFnBaseN
set_option maxHeartbeats 16000000
set_option maxRecDepth 100000
set_option linter.unusedVariables false
set_option linter.unusedSimpArgs false
namespace Go.Proofs.YtdiiopjaebnmfaaGreat
open _root_.Go.Proofs.Tryz
open _root_.List renaming length_append->KZ,length_cons->K0,mem_cons_self->K2,length_nil->K3,mem_cons_of_mem->K4,mem_cons->K5,length_singleton->K7,mem_singleton->K_,all_eq_true->La,mem_append->Lb
open _root_.Int renaming eq_ofNat_of_zero_le->K1,tmod_eq_emod_of_nonneg->K9
open _root_.Nat renaming zero_le->K6
open _root_.Bool renaming and_eq_true->K8
section
open Go.RowKit
theorem vV (b:List UInt8) (c:CurD) (hc:c.ok b):∃ (x:RoadD) (c':CurD),c'.ok b/\x.wf/\aP 94 [.sc (.pt 1 0 0)] (c.hp b) (.ag x.cs) (c'.hp b):=by
 have h1:=ac b c hc 3
 have o1:=CurD.below_ok hc 3
 have b1:=c.below_lt b (n:=3) zO
 generalize c.below b 3=r1 at h1 o1 b1
 obtain⟨v1,c1⟩:=r1
 dsimp only at h1 o1 b1
 have h2:=ac b c1 o1 3
 have o2:=CurD.below_ok o1 3
 have b2:=c1.below_lt b (n:=3) zO
 generalize c1.below b 3=r2 at h2 o2 b2
 obtain⟨v2,c2⟩:=r2
 dsimp only at h2 o2 b2
 have h3:=ac b c2 o2 3
 have o3:=CurD.below_ok o2 3
 have b3:=c2.below_lt b (n:=3) zO
 generalize c2.below b 3=r3 at h3 o3 b3
 obtain⟨v3,c3⟩:=r3
 dsimp only at h3 o3 b3
 refine⟨⟨11+v1,21+v2,v3⟩,c3,o3,by simp only [RoadD.wf,AddrD.wf,HalfD.wf,aY] at*;omega,?_⟩
 refine qE func94 ntmps94 results94 fun E hE=>?_
 refine qK (h1) (qI 0 2) ?_
 refine qK (h2) (qI 0 2) ?_
 refine qK (h3) (qI 0 2) ?_
 exact qF (qI 0 2)
theorem mH (b:List UInt8) (c:CurD) (hc:c.ok b):∃ (x:AddrD) (c':CurD),c'.ok b/\x.wf/\aP 71 [.sc (.pt 1 0 0)] (c.hp b) (.ag x.cs) (c'.hp b):=by
 have h1:=ac b c hc 7
 have o1:=CurD.below_ok hc 7
 have b1:=c.below_lt b (n:=7) zO
 generalize c.below b 7=r1 at h1 o1 b1
 obtain⟨v1,c1⟩:=r1
 dsimp only at h1 o1 b1
 have h2:=ac b c1 o1 9
 have o2:=CurD.below_ok o1 9
 have b2:=c1.below_lt b (n:=9) zO
 generalize c1.below b 9=r2 at h2 o2 b2
 obtain⟨v2,c2⟩:=r2
 dsimp only at h2 o2 b2
 have h3:=bX b c2 o2 4
 have o3:=CurD.below_ok o2 4
 have b3:=c2.below_lt b (n:=4) zO
 generalize c2.below b 4=r3 at h3 o3 b3
 obtain⟨v3,c3⟩:=r3
 dsimp only at h3 o3 b3
 generalize hq3:(v3 == 0)=q3 at h3
 have h4:=bX b c3 o3 2
 have o4:=CurD.below_ok o3 2
 have b4:=c3.below_lt b (n:=2) zO
 generalize c3.below b 2=r4 at h4 o4 b4
 obtain⟨v4,c4⟩:=r4
 dsimp only at h4 o4 b4
 generalize hq4:(v4 == 0)=q4 at h4
 refine⟨⟨v1,11+v2,q3,q4⟩,c4,o4,by simp only [RoadD.wf,AddrD.wf,HalfD.wf,aY] at*;omega,?_⟩
 refine qE func71 ntmps71 results71 fun E hE=>?_
 refine qK (h1) (qI 0 2) ?_
 refine qK (h2) (qI 0 2) ?_
 refine qK (h3) (qI 0 2) ?_
 refine qK (h4) (qI 0 2) ?_
 exact qF (qI 0 2)
theorem mI (b:List UInt8) (c:CurD) (hc:c.ok b):∃ (x:HalfD) (c':CurD),c'.ok b/\x.wf/\aP 73 [.sc (.pt 1 0 0)] (c.hp b) (.ag x.cs) (c'.hp b):=by
 obtain⟨r,c1,o1,w1,h1⟩:=vV b c hc
 have h2:=ac b c1 o1 9
 have o2:=CurD.below_ok o1 9
 have b2:=c1.below_lt b (n:=9) zO
 generalize c1.below b 9=r2 at h2 o2 b2
 obtain⟨v2,c2⟩:=r2
 dsimp only at h2 o2 b2
 have h3:=ac b c2 o2 9
 have o3:=CurD.below_ok o2 9
 have b3:=c2.below_lt b (n:=9) zO
 generalize c2.below b 9=r3 at h3 o3 b3
 obtain⟨v3,c3⟩:=r3
 dsimp only at h3 o3 b3
 have h4:=ac b c3 o3 9
 have o4:=CurD.below_ok o3 9
 have b4:=c3.below_lt b (n:=9) zO
 generalize c3.below b 9=r4 at h4 o4 b4
 obtain⟨v4,c4⟩:=r4
 dsimp only at h4 o4 b4
 have h5:=ac b c4 o4 9
 have o5:=CurD.below_ok o4 9
 have b5:=c4.below_lt b (n:=9) zO
 generalize c4.below b 9=r5 at h5 o5 b5
 obtain⟨v5,c5⟩:=r5
 dsimp only at h5 o5 b5
 have h6:=ac b c5 o5 9
 have o6:=CurD.below_ok o5 9
 have b6:=c5.below_lt b (n:=9) zO
 generalize c5.below b 9=r6 at h6 o6 b6
 obtain⟨v6,c6⟩:=r6
 dsimp only at h6 o6 b6
 refine⟨⟨r,v2,1000+v3,1000+v4,v5,v6⟩,c6,o6,by simp only [RoadD.wf,AddrD.wf,HalfD.wf,aY] at*;omega,?_⟩
 refine qE func73 ntmps73 results73 fun E hE=>?_
 refine qK (h1) (qI 0 2) ?_
 refine qK (h2) (qI 0 2) ?_
 refine qK (h3) (qI 0 2) ?_
 refine qK (h4) (qI 0 2) ?_
 refine qK (h5) (qI 0 2) ?_
 refine qK (h6) (qI 0 2) ?_
 exact qF (qI 0 2)
theorem vW (b:List UInt8) (c:CurD) (hc:c.ok b):f_ Tryz.prog 70 [.sc (.pt 1 0 0)] (c.hp b) (fun x:List AddrD×CurD=>x.2.ok b/\x.1.length<=8/\∀ a∈x.1,a.wf) (fun x=>.sc (.sl 2 0 x.1.length)) (fun x=>x.2.hp b++[some ⟨x.1.map AddrD.cs,4,60,true,true⟩]):=by
 refine dB func70 (by kernel_rfl) rfl fun E hE=>af 400 ?_
 simp (disch:=omega) only [ntmps70,results70,go_sem,seval]
 refine ki 2 hE (fun s (y:Nat×List AddrD×CurD)=>s.at (qU [5,14]) [(3,.sc (.sl 2 0 y.2.1.length)),(4,.sc (.int .i64 (y.1:Nat)))] (y.2.2.hp b++[some ⟨y.2.1.map AddrD.cs,4,60,true,true⟩])) (fun (y:Nat×List AddrD×CurD)=>y.1<=8/\y.2.1.length<=y.1/\y.2.2.ok b/\∀ a∈y.2.1,a.wf) (fun (y:Nat×List AddrD×CurD)=>8 - y.1) (0,[],c) (qI 0 3) (⟨K6 _,K6 _,hc,fun a ha=>by simp at ha⟩) fun y hy N hN=>?_
 obtain⟨k,acc,c1⟩:=y
 obtain⟨f1,f2,f3,f4⟩:=hy
 dsimp only at f1 f2 f3 f4
 have h2:=ac b c1 f3 8
 have o2:=CurD.below_ok f3 8
 have b2:=c1.below_lt b (n:=8) zO
 generalize c1.below b 8=r2 at h2 o2 b2
 obtain⟨v2,c2⟩:=r2
 dsimp only at h2 o2 b2
 obtain⟨a,c3,o3,w3,h3⟩:=mH b c2 o2
 have hP:=eW acc a zO
 have hm:=fun x=>Aq (l:=acc) (a:=a) (b:=x)
 have hl:=vS acc a
 generalize aA acc a=q at hP hm hl
 obtain⟨q,g⟩:=q
 dsimp only at hP hm hl
 refine qR ?_
 refine qK (h2) (qI 0 2) ?_
 refine qB (fun h=>?_) fun h=>?_
 ·refine qK (h3) (qI 0 2) ?_
  refine qK (hP) (qI 2 1) ?_
  exact qN hN (k+1,q,c3) (qI 0 2++qI 3 1) (by (try dsimp only);exact⟨zO,zO,o3,fun x hx=>(hm x hx).elim (fun e=>e▸w3) (f4 x)⟩)
 refine am (acc,c2) (⟨o2,by dsimp only;omega,f4⟩) (qI 0 3) (qC) _ (by simp only [go_sem];rfl) zF zF ?_
 simp (disch:=omega) only [go_sem,seval]
theorem vX (b:List UInt8) (c:CurD) (hc:c.ok b):f_ Tryz.prog 72 [.sc (.pt 1 0 0)] (c.hp b) (fun x:List HalfD×CurD=>x.2.ok b/\x.1.length<=6/\∀ a∈x.1,a.wf) (fun x=>.sc (.sl 2 0 x.1.length)) (fun x=>x.2.hp b++[some ⟨x.1.map HalfD.cs,8,87,true,true⟩]):=by
 refine dB func72 (by kernel_rfl) rfl fun E hE=>af 400 ?_
 simp (disch:=omega) only [ntmps72,results72,go_sem,seval]
 refine ki 2 hE (fun s (y:Nat×List HalfD×CurD)=>s.at (qU [5,14]) [(3,.sc (.sl 2 0 y.2.1.length)),(4,.sc (.int .i64 (y.1:Nat)))] (y.2.2.hp b++[some ⟨y.2.1.map HalfD.cs,8,87,true,true⟩])) (fun (y:Nat×List HalfD×CurD)=>y.1<=6/\y.2.1.length<=y.1/\y.2.2.ok b/\∀ a∈y.2.1,a.wf) (fun (y:Nat×List HalfD×CurD)=>6 - y.1) (0,[],c) (qI 0 3) (⟨K6 _,K6 _,hc,fun a ha=>by simp at ha⟩) fun y hy N hN=>?_
 obtain⟨k,acc,c1⟩:=y
 obtain⟨f1,f2,f3,f4⟩:=hy
 dsimp only at f1 f2 f3 f4
 have h2:=ac b c1 f3 6
 have o2:=CurD.below_ok f3 6
 have b2:=c1.below_lt b (n:=6) zO
 generalize c1.below b 6=r2 at h2 o2 b2
 obtain⟨v2,c2⟩:=r2
 dsimp only at h2 o2 b2
 obtain⟨a,c3,o3,w3,h3⟩:=mI b c2 o2
 have hP:=eU acc a zO
 have hm:=fun x=>Ar (l:=acc) (a:=a) (b:=x)
 have hl:=vT acc a
 generalize aF acc a=q at hP hm hl
 obtain⟨q,g⟩:=q
 dsimp only at hP hm hl
 refine qR ?_
 refine qK (h2) (qI 0 2) ?_
 refine qB (fun h=>?_) fun h=>?_
 ·refine qK (h3) (qI 0 2) ?_
  refine qK (hP) (qI 2 1) ?_
  exact qN hN (k+1,q,c3) (qI 0 2++qI 3 1) (by (try dsimp only);exact⟨zO,zO,o3,fun x hx=>(hm x hx).elim (fun e=>e▸w3) (f4 x)⟩)
 refine am (acc,c2) (⟨o2,by dsimp only;omega,f4⟩) (qI 0 3) (qC) _ (by simp only [go_sem];rfl) zF zF ?_
 simp (disch:=omega) only [go_sem,seval]
theorem sv (b:List UInt8) (c:CurD) (hc:c.ok b):f_ Tryz.prog 75 [.sc (.pt 1 0 0)] (c.hp b) (fun x:PiecesD×CurD=>x.2.ok b/\SmallP x.1/\x.1.wf/\x.1.list.length<=20) (fun x=>.ag (x.1.cs 2)) (fun x=>x.2.hp b++x.1.hp true):=by
 have h1:=ac b c hc 9
 have o1:=CurD.below_ok hc 9
 have b1:=c.below_lt b (n:=9) zO
 generalize c.below b 9=r1 at h1 o1 b1
 obtain⟨v1,c1⟩:=r1
 dsimp only at h1 o1 b1
 refine dB func75 (by kernel_rfl) rfl fun E hE=>af 400 ?_
 simp (disch:=omega) only [ntmps75,results75,go_sem,seval]
 refine qK (h1) (qI 0 2) ?_
 refine ki 2 hE (fun s (y:Nat×PiecesD×CurD)=>s.at (qU [5,18]) [(4,.sc (.int .i64 (y.1:Nat)))] (y.2.2.hp b++((s.hp.drop 2).take 1++([some ⟨[PiecesD.cs y.2.1 4],3,35,true,false⟩]++y.2.1.hp true)))) (fun (y:Nat×PiecesD×CurD)=>y.1<=6/\y.2.2.ok b/\SmallP y.2.1/\y.2.1.wf/\y.2.1.list.length<=20) (fun (y:Nat×PiecesD×CurD)=>6 - y.1) (0,⟨v1,[],[]⟩,c1) (qI 0 4++qO 1) (⟨K6 _,o1,⟨zP,zP,zP⟩,⟨bt (by dsimp only;omega),zP,zP,zP⟩,zP⟩) fun y hy N hN=>?_
 obtain⟨i,p,c1⟩:=y
 obtain⟨f1,f2,f3,f4,f5⟩:=hy
 dsimp only at f1 f2 f3 f4 f5
 have h2:=ac b c1 f2 6
 have o2:=CurD.below_ok f2 6
 have b2:=c1.below_lt b (n:=6) zO
 generalize c1.below b 6=r2 at h2 o2 b2
 obtain⟨v2,c2⟩:=r2
 dsimp only at h2 o2 b2
 have h3:=ac b c2 o2 50
 have o3:=CurD.below_ok o2 50
 have b3:=c2.below_lt b (n:=50) zO
 generalize c2.below b 50=r3 at h3 o3 b3
 obtain⟨v3,c3⟩:=r3
 dsimp only at h3 o3 b3
 have h4:=ac b c3 o3 12
 have o4:=CurD.below_ok o3 12
 have b4:=c3.below_lt b (n:=12) zO
 generalize c3.below b 12=r4 at h4 o4 b4
 obtain⟨v4,c4⟩:=r4
 dsimp only at h4 o4 b4
 obtain⟨n,hn⟩:=K1 (show 0<=1+v4 by omega)
 have hT:=dS b c4 o4 n zO
 have oT:=iP (n:=n) o4
 generalize jg b n c4=T at hT oT
 obtain⟨T,cT⟩:=T
 dsimp only at hT oT
 have hP:=kO p v3 T f3
 have s2:=eZ (n:=v3) (t:=T) f3
 have w2:=x_ (n:=v3) (t:=T) f3 f4
 have l2:(putPiece p v3 T).list.length<=20:=by
  rcases fU p v3 T with e|e
  ·rw [e];exact f5
  simp only [piecesOk,K8,decide_eq_true_eq] at e;omega
 generalize putPiece p v3 T=q at hP s2 w2 l2
 refine qR ?_
 refine qK (h2) (qI 0 2) ?_
 refine qB (fun h=>?_) fun h=>?_
 ·refine bj [(0,2),(0,5),(0,7)] [(2,5),(5,7)] [[1,3,4,0,2,5,6,7,8,9],[1,3,4,2,0,5,6,7,8,9],[1,3,4,2,5,6,0,7,8,9],[1,3,4,2,5,6,7,0,8,9]] (by kernel_rfl) (qC) (by kernel_rfl) ?_
  simp only [aR]
  refine⟨ab 400 ?_,ab 400 ?_,ab 400 ?_,ab 400 ?_⟩
  all_goals simp (disch:=omega) only [go_sem,seval]
  all_goals
   refine al (qC) (h3) (qI 0 2) qM zF (ab 400 ?_)
   simp (disch:=omega) only [go_sem,seval]
   refine al (qC) (h4) (qI 0 2) qM zF (ab 400 ?_)
   simp (disch:=omega) only [go_sem,seval]
   try simp (disch:=omega) only [go_sem,seval,hn]
   refine al (qC) (hT) (qI 0 2) qM zF (ab 400 ?_)
   simp (disch:=omega) only [go_sem,seval]
   refine al (qC) (hP) (qI 4 1) qM zF (ab 400 ?_)
   simp (disch:=omega) only [go_sem,seval]
   refine qG ?_
   exact qN hN (i+1,q,cT) (qI 0 4++qI 5 1) (by (try dsimp only);exact⟨zO,oT,s2,w2,l2⟩)
 refine am (p,c2) (⟨o2,f3,f4,f5⟩) (qI 0 2++qI 4 1) (qC) _ (by simp only [go_sem];rfl) zF zF ?_
 simp (disch:=omega) only [go_sem,seval]
theorem GM (o:OutD) (n:Int):(came o n).base=o.base\/(came o n).base=n:=by
 unfold came;repeat' split
 all_goals first
  |exact .inl rfl
  |exact .inr rfl
theorem ya (o:OutD) (t:List UInt8):(bZ o t).1.base=o.base:=by
 unfold bZ;repeat' split
 all_goals rfl
theorem vY (o:OutD):(dA o).base=o.base:=by
 unfold dA;repeat' split
 all_goals rfl
theorem C6 (o:OutD):(dN o).base=o.base:=by
 unfold dN;repeat' split
 all_goals rfl
theorem s7 (o:OutD) (ho:o.text.length<=1048576):aP 96 [.ag o.cs] [] (.ag (dA o).cs) []:=by
 rcases Bool.eq_false_or_eq_true (ie o) with h|h
 ·rw [JC h];exact mr o ho h
 have hN:=gL o ho
 rw [H9 h] at hN
 rw [show dA o=o from if_neg (by simp [h])]
 refine qE func96 ntmps96 results96 fun E hE=>?_
 refine qK (hN) [] ?_
 exact qF []
theorem yb (b:List UInt8) (c:CurD) (hc:c.ok b):f_ Tryz.prog 74 [.sc (.pt 1 0 0)] (c.hp b) (fun x:OutD×CurD=>x.2.ok b/\Ik x.1) (fun x=>.ag x.1.cs) (fun x=>x.2.hp b):=by
 have h1:=ac b c hc 50
 have o1:=CurD.below_ok hc 50
 have b1:=c.below_lt b (n:=50) zO
 generalize c.below b 50=r1 at h1 o1 b1
 obtain⟨v1,c1⟩:=r1
 dsimp only at h1 o1 b1
 have h2:=ax b c1 o1 [200,60,10,1] zD zD
 have o2:=CurD.below_ok o1 (b:=b) 4
 have m2:=c1.pick_mem b (l:=[200,60,10,1]) zD
 have w2:=(by decide:∀ x∈([200,60,10,1]:List Int),1<=x/\x<=200) _ m2
 rw [show (([200,60,10,1]:List Int).length:Int)=4 from rfl] at h2
 generalize c1.pick b [200,60,10,1]=v2 at h2 w2
 clear m2
 generalize c1.below b 4=r2 at h2 o2
 obtain⟨u2,c2⟩:=r2
 dsimp only at h2 o2
 have ok0:outOk ⟨[],v1,v1,v2⟩=true:=by
  simp only [outOk,kj,co,K8,decide_eq_true_eq,K3]
  rw [yD zO]
  omega
 refine dB func74 (by kernel_rfl) rfl fun E hE=>af 400 ?_
 simp (disch:=omega) only [ntmps74,results74,go_sem,seval]
 refine qK (h1) (qI 0 2) ?_
 refine qK (h2) (qI 0 2++qI 3 1) ?_
 refine ki 2 hE (fun s (y:Nat×OutD×CurD)=>s.at (qU [5,43]) [(3,.sc (.pt 3 0 0)),(4,.sc (.int .i64 (y.1:Nat)))] (y.2.2.hp b++((s.hp.drop 2).take 1++[some ⟨[OutD.cs y.2.1],4,32,true,false⟩]))) (fun (y:Nat×OutD×CurD)=>y.1<=5/\y.2.2.ok b/\outOk y.2.1=true/\y.2.1.base<=50+20*(y.1:Int)) (fun (y:Nat×OutD×CurD)=>5 - y.1) (0,⟨[],v1,v1,v2⟩,c2) (qI 0 3++qI 4 1) (⟨K6 _,o2,ok0,by dsimp only;omega⟩) fun y hy N hN=>?_
 obtain⟨i,o,c1⟩:=y
 obtain⟨f1,f2,f3,f4⟩:=hy
 dsimp only at f1 f2 f3 f4
 have F:=bQ f3
 have F1:=F.base
 have F2:=F.room
 have F3:=F.len
 have F4:=F.sent
 have h3:=ac b c1 f2 5
 have o3:=CurD.below_ok f2 5
 have b3:=c1.below_lt b (n:=5) zO
 generalize c1.below b 5=r3 at h3 o3 b3
 obtain⟨v3,c3⟩:=r3
 dsimp only at h3 o3 b3
 have h4:=ac b c3 o3 4
 have o4:=CurD.below_ok o3 4
 have b4:=c3.below_lt b (n:=4) zO
 generalize c3.below b 4=r4 at h4 o4 b4
 obtain⟨v4,c4⟩:=r4
 dsimp only at h4 o4 b4
 have hv:v4=0\/v4=1\/v4=2\/3<=v4:=zO
 rcases hv with rfl|rfl|rfl|hv
 ·have h5:=ac b c4 o4 40
  have o5:=CurD.below_ok o4 40
  have b5:=c4.below_lt b (n:=40) zO
  generalize c4.below b 40=r5 at h5 o5 b5
  obtain⟨v5,c5⟩:=r5
  dsimp only at h5 o5 b5
  obtain⟨n,hn⟩:=K1 (show 0<=v5 by omega)
  subst hn
  have hT:=dS b c5 o5 n zO
  have oT:=iP (n:=n) o5
  have lT:=iq b n c5
  generalize jg b n c5=T at hT oT lT
  obtain⟨T,cT⟩:=T
  dsimp only at hT oT lT
  have hA:=ox o T zO
  have ok2:=ui (t:=T) f3
  have hb:=ya o T
  generalize bZ o T=q at hA ok2 hb
  obtain⟨q,m⟩:=q
  dsimp only at hA ok2 hb
  refine qR ?_
  refine qK (h3) (qI 0 2) ?_
  refine qB (fun h=>?_) fun h=>?_
  ·refine qK (h4) (qI 0 2) ?_
   refine bj [(0,3),(0,4)] [(3,4)] [(qU [1,2,0,1,3,7]),(qU [1,3,0,1,4,6]),(qU [1,4,0,1,5,5])] (by kernel_rfl) (qC) (by kernel_rfl) ?_
   simp only [aR]
   refine⟨ab 400 ?_,ab 400 ?_,ab 400 ?_⟩
   all_goals simp (disch:=omega) only [go_sem,seval]
   all_goals
    refine al (qC) (h5) (qI 0 2) qM zF (ab 400 ?_)
    simp (disch:=omega) only [go_sem,seval]
    refine al (qC) (hT) (qI 0 2) qM zF (ab 400 ?_)
    simp (disch:=omega) only [go_sem,seval]
    refine al (qC) (hA) [] qM zF (ab 400 ?_)
    simp (disch:=omega) only [go_sem,seval]
    refine qG ?_
    exact qN hN (i+1,q,cT) (qI 0 4) (by (try dsimp only);exact⟨zO,oT,ok2,zO⟩)
  refine am (o,c3) (⟨o3,pu f3⟩) (qI 0 2) (qC) _ (by simp only [go_sem];rfl) zF zF ?_
  simp (disch:=omega) only [go_sem,seval]
 ·have hW:=s7 o zO
  have ok2:=rU f3
  have hb:=vY o
  refine qR ?_
  refine qK (h3) (qI 0 2) ?_
  refine qB (fun h=>?_) fun h=>?_
  ·refine qK (h4) (qI 0 2) ?_
   refine qK (hW) [] ?_
   exact qN hN (i+1,dA o,c4) (qI 0 4) (by (try dsimp only);exact⟨zO,o4,ok2,zO⟩)
  refine am (o,c3) (⟨o3,pu f3⟩) (qI 0 2) (qC) _ (by simp only [go_sem];rfl) zF zF ?_
  simp (disch:=omega) only [go_sem,seval]
 ·have h5:=ac b c4 o4 20
  have o5:=CurD.below_ok o4 20
  have b5:=c4.below_lt b (n:=20) zO
  generalize c4.below b 20=r5 at h5 o5 b5
  obtain⟨v5,c5⟩:=r5
  dsimp only at h5 o5 b5
  have hC:=tL o (o.base+v5)
  have ok2:=Bu (n:=o.base+v5) f3 ⟨zO,zO⟩
  have hb:(came o (o.base+v5)).base<=o.base+20:=by rcases GM o (o.base+v5) with h|h<;>rw [h]<;>omega
  refine qR ?_
  refine qK (h3) (qI 0 2) ?_
  refine qB (fun h=>?_) fun h=>?_
  ·refine qK (h4) (qI 0 2) ?_
   refine bj [(0,4),(2,4)] [] [[1,3,0,2,4,5,6,7],[1,3,0,4,2,5,6,7],[1,3,2,4,0,5,6,7],[1,3,4,0,2,5,6,7]] (by kernel_rfl) (qC) (by kernel_rfl) ?_
   simp only [aR]
   refine⟨ab 400 ?_,ab 400 ?_,ab 400 ?_,ab 400 ?_⟩
   all_goals simp (disch:=omega) only [go_sem,seval]
   all_goals
    refine al (qC) (h5) (qI 0 2) qM zF (ab 400 ?_)
    simp (disch:=omega) only [go_sem,seval]
    refine al (qC) (hC) [] qM zF (ab 400 ?_)
    simp (disch:=omega) only [go_sem,seval]
    refine qG ?_
    exact qN hN (i+1,came o (o.base+v5),c5) (qI 0 4) (by (try dsimp only);exact⟨zO,o5,ok2,zO⟩)
  refine am (o,c3) (⟨o3,pu f3⟩) (qI 0 2) (qC) _ (by simp only [go_sem];rfl) zF zF ?_
  simp (disch:=omega) only [go_sem,seval]
 have hC:=tY o
 have ok2:=vK f3
 have hb:=C6 o
 refine qR ?_
 refine qK (h3) (qI 0 2) ?_
 refine qB (fun h=>?_) fun h=>?_
 ·refine qK (h4) (qI 0 2) ?_
  refine qK (hC) [] ?_
  exact qN hN (i+1,dN o,c4) (qI 0 4) (by (try dsimp only);exact⟨zO,o4,ok2,zO⟩)
 refine am (o,c3) (⟨o3,pu f3⟩) (qI 0 2) (qC) _ (by simp only [go_sem];rfl) zF zF ?_
 simp (disch:=omega) only [go_sem,seval]
theorem yc (b:List UInt8) (c:CurD) (hc:c.ok b):f_ Tryz.prog 50 [.sc (.pt 1 0 0)] (c.hp b) (fun x:OutD×CurD=>x.2.ok b/\Ik x.1) (fun x=>.ag x.1.cs) (fun x=>x.2.hp b):=by
 refine dB func50 (by kernel_rfl) rfl fun E hE=>af 400 ?_
 simp (disch:=omega) only [ntmps50,results50,go_sem,seval]
 refine aM (qC) (yb b c hc) (qI 0 2) qM zF fun x hx=>af 400 ?_
 simp (disch:=omega) only [go_sem,seval]
 obtain⟨y,c0⟩:=x
 obtain⟨o0,hy⟩:=hx
 dsimp only at o0 hy
 have h1:=ac b c0 o0 12
 have o1:=CurD.below_ok o0 12
 have b1:=c0.below_lt b (n:=12) zO
 generalize c0.below b 12=r1 at h1 o1 b1
 obtain⟨v1,c1⟩:=r1
 dsimp only at h1 o1 b1
 have hv:v1=0\/v1=1\/v1=2\/(v1≠0/\v1≠1/\v1≠2):=zO
 rcases hv with rfl|rfl|rfl|hv
 ·have h2:=ax b c1 o1 [-1,1000000000,1000000001,3] zD zD
  have o2:=CurD.below_ok o1 (b:=b) 4
  have m2:=c1.pick_mem b (l:=[-1,1000000000,1000000001,3]) zD
  have w2:=(by decide:∀ x∈([-1,1000000000,1000000001,3]:List Int),-1<=x/\x<=1000000001) _ m2
  rw [show (([-1,1000000000,1000000001,3]:List Int).length:Int)=4 from rfl] at h2
  generalize c1.pick b [-1,1000000000,1000000001,3]=v2 at h2 w2
  clear m2
  generalize c1.below b 4=r2 at h2 o2
  obtain⟨u2,c2⟩:=r2
  dsimp only at h2 o2
  refine qK (h1) (qI 0 2) ?_
  refine qK (h2) (qI 0 2++qI 4 1) ?_
  refine am ({ y with base:=v2 },c2) (⟨o2,⟨by have:=hy.1;simp only [OutD.wf,aY] at this⊢;omega,hy.2⟩⟩) (qI 0 2) (qC) _ (by simp only [go_sem];rfl) zF zF ?_
  simp (disch:=omega) only [go_sem,seval]
 ·have h2:=ax b c1 o1 [-1,0,500] zD zD
  have o2:=CurD.below_ok o1 (b:=b) 3
  have m2:=c1.pick_mem b (l:=[-1,0,500]) zD
  have w2:=(by decide:∀ x∈([-1,0,500]:List Int),-1<=x/\x<=500) _ m2
  rw [show (([-1,0,500]:List Int).length:Int)=3 from rfl] at h2
  generalize c1.pick b [-1,0,500]=v2 at h2 w2
  clear m2
  generalize c1.below b 3=r2 at h2 o2
  obtain⟨u2,c2⟩:=r2
  dsimp only at h2 o2
  refine qK (h1) (qI 0 2) ?_
  refine qK (h2) (qI 0 2++qI 4 1) ?_
  refine am ({ y with sent:=v2 },c2) (⟨o2,⟨by have:=hy.1;simp only [OutD.wf,aY] at this⊢;omega,hy.2⟩⟩) (qI 0 2) (qC) _ (by simp only [go_sem];rfl) zF zF ?_
  simp (disch:=omega) only [go_sem,seval]
 ·have h2:=ax b c1 o1 [0,201,1,-1] zD zD
  have o2:=CurD.below_ok o1 (b:=b) 4
  have m2:=c1.pick_mem b (l:=[0,201,1,-1]) zD
  have w2:=(by decide:∀ x∈([0,201,1,-1]:List Int),-1<=x/\x<=201) _ m2
  rw [show (([0,201,1,-1]:List Int).length:Int)=4 from rfl] at h2
  generalize c1.pick b [0,201,1,-1]=v2 at h2 w2
  clear m2
  generalize c1.below b 4=r2 at h2 o2
  obtain⟨u2,c2⟩:=r2
  dsimp only at h2 o2
  refine qK (h1) (qI 0 2) ?_
  refine qK (h2) (qI 0 2++qI 4 1) ?_
  refine am ({ y with room:=v2 },c2) (⟨o2,⟨by have:=hy.1;simp only [OutD.wf,aY] at this⊢;omega,hy.2⟩⟩) (qI 0 2) (qC) _ (by simp only [go_sem];rfl) zF zF ?_
  simp (disch:=omega) only [go_sem,seval]
 obtain⟨n0,n1,n2⟩:=hv
 refine qK (h1) (qI 0 2) ?_
 refine am (y,c1) (⟨o1,hy⟩) (qI 0 2) (qC) _ (by simp only [go_sem];rfl) zF zF ?_
 simp (disch:=omega) only [go_sem,seval]
theorem j5 {α:Type} {P:α->Prop} {l:List α} {a:α} (h:∀ x∈l,P x) (ha:P a):∀ x∈l++[a],P x:=fun x hx=>by
 rcases Lb.1 hx with hx|hx
 ·exact h x hx
 rw [K_.1 hx];exact ha
theorem yd (b:List UInt8) (c:CurD) (hc:c.ok b):f_ Tryz.prog 48 [.sc (.pt 1 0 0)] (c.hp b) (fun x:List AddrD×CurD=>x.2.ok b/\x.1.length<=9/\∀ a∈x.1,a.wf) (fun x=>.sc (.sl 2 0 x.1.length)) (fun x=>x.2.hp b++[some ⟨x.1.map AddrD.cs,4,60,true,true⟩]):=by
 refine dB func48 (by kernel_rfl) rfl fun E hE=>af 400 ?_
 simp (disch:=omega) only [ntmps48,results48,go_sem,seval]
 refine aM (qC) (vW b c hc) (qI 0 2) qM zF fun x hx=>af 400 ?_
 simp (disch:=omega) only [go_sem,seval]
 obtain⟨l,c0⟩:=x
 obtain⟨o0,hl,hw⟩:=hx
 dsimp only at o0 hl hw
 have h1:=ac b c0 o0 12
 have o1:=CurD.below_ok o0 12
 have b1:=c0.below_lt b (n:=12) zO
 generalize c0.below b 12=r1 at h1 o1 b1
 obtain⟨v1,c1⟩:=r1
 dsimp only at h1 o1 b1
 have hv:v1=0\/v1=1\/(v1≠0/\v1≠1):=zO
 rcases hv with rfl|rfl|⟨q0,q1⟩
 ·obtain⟨a,c2,o2,w2,h2⟩:=mH b c1 o1
  refine qK (h1) (qI 0 2) ?_
  refine qK (h2) (qI 0 2) ?_
  refine am (l++[a],c2) (⟨o2,by simp;omega,j5 hw w2⟩) (qI 0 2++qI 4 1) (qC) _ (by simp only [go_sem];rfl) zF zF ?_
  simp (disch:=omega) only [go_sem,seval]
  try simp [AddrD.cs]
 ·have h2:=ax b c1 o1 [-1,256,255] zD zD
  have o2:=CurD.below_ok o1 (b:=b) 3
  have m2:=c1.pick_mem b (l:=[-1,256,255]) zD
  have w2:=(by decide:∀ x∈([-1,256,255]:List Int),-1<=x/\x<=256) _ m2
  rw [show (([-1,256,255]:List Int).length:Int)=3 from rfl] at h2
  generalize c1.pick b [-1,256,255]=v2 at h2 w2
  clear m2
  generalize c1.below b 3=r2 at h2 o2
  obtain⟨u2,c2⟩:=r2
  dsimp only at h2 o2
  have h3:=ax b c2 o2 [0,65536,500] zD zD
  have o3:=CurD.below_ok o2 (b:=b) 3
  have m3:=c2.pick_mem b (l:=[0,65536,500]) zD
  have w3:=(by decide:∀ x∈([0,65536,500]:List Int),0<=x/\x<=65536) _ m3
  rw [show (([0,65536,500]:List Int).length:Int)=3 from rfl] at h3
  generalize c2.pick b [0,65536,500]=v3 at h3 w3
  clear m3
  generalize c2.below b 3=r3 at h3 o3
  obtain⟨u3,c3⟩:=r3
  dsimp only at h3 o3
  refine qK (h1) (qI 0 2) ?_
  refine qK (h2) (qI 0 2++qI 3 1) ?_
  refine qK (h3) (qI 0 2++qI 4 1) ?_
  refine am (l++[⟨v2,v3,false,false⟩],c3) (⟨o3,by simp;omega,j5 hw ⟨bt (by dsimp only;omega),bt (by dsimp only;omega)⟩⟩) (qI 0 2++qI 6 1) (qC) _ (by simp only [go_sem];rfl) zF zF ?_
  simp (disch:=omega) only [go_sem,seval]
  try simp [AddrD.cs]
 refine qK (h1) (qI 0 2) ?_
 refine am (l,c1) (⟨o1,by dsimp only;omega,hw⟩) (qI 0 3) (qC) _ (by simp only [go_sem];rfl) zF zF ?_
 simp (disch:=omega) only [go_sem,seval]
theorem ye (b:List UInt8) (c:CurD) (hc:c.ok b):f_ Tryz.prog 49 [.sc (.pt 1 0 0)] (c.hp b) (fun x:List HalfD×CurD=>x.2.ok b/\x.1.length<=7/\∀ a∈x.1,a.wf) (fun x=>.sc (.sl 2 0 x.1.length)) (fun x=>x.2.hp b++[some ⟨x.1.map HalfD.cs,8,87,true,true⟩]):=by
 refine dB func49 (by kernel_rfl) rfl fun E hE=>af 400 ?_
 simp (disch:=omega) only [ntmps49,results49,go_sem,seval]
 refine aM (qC) (vX b c hc) (qI 0 2) qM zF fun x hx=>af 400 ?_
 simp (disch:=omega) only [go_sem,seval]
 obtain⟨l,c0⟩:=x
 obtain⟨o0,hl,hw⟩:=hx
 dsimp only at o0 hl hw
 have h1:=bX b c0 o0 8
 have o1:=CurD.below_ok o0 8
 have b1:=c0.below_lt b (n:=8) zO
 generalize c0.below b 8=r1 at h1 o1 b1
 obtain⟨v1,c1⟩:=r1
 dsimp only at h1 o1 b1
 generalize hq1:(v1 == 0)=q1 at h1
 cases q1 with
 |false=>
  cases l with
  |nil=>
   refine qK (h1) (qI 0 2) ?_
   refine am ([],c1) (⟨o1,zP,fun y hy=>by simp at hy⟩) (qI 0 3) (qC) _ (by simp only [go_sem];rfl) zF zF ?_
   simp (disch:=omega) only [go_sem,seval]
  |cons x r=>
   have hr6:r.length<=5:=by simp only [K0] at hl;omega
   have h2:=bX b c1 o1 10
   have o2:=CurD.below_ok o1 10
   have b2:=c1.below_lt b (n:=10) zO
   generalize c1.below b 10=r2 at h2 o2 b2
   obtain⟨v2,c2⟩:=r2
   dsimp only at h2 o2 b2
   generalize hq2:(v2 == 0)=q2 at h2
   cases q2 with
   |false=>
    refine qK (h1) (qI 0 2) ?_
    refine qK (h2) (qI 0 2) ?_
    refine am (x::r,c2) (⟨o2,by simp only [K0,KZ,K3] at hl⊢;omega,fun y hy=>(K5.1 hy).elim (fun e=>e▸(hw x (K2 ..))) fun h=>(fun y hy=>hw y (K4 _ hy)) y h⟩) (qI 0 3) (qC) _ (by simp only [go_sem];rfl) zF zF ?_
    simp (disch:=omega) only [go_sem,seval]
    try simp [HalfD.cs]
   |true=>
    have h3:=ax b c2 o2 [-1,1000000001] zD zD
    have o3:=CurD.below_ok o2 (b:=b) 2
    have m3:=c2.pick_mem b (l:=[-1,1000000001]) zD
    have w3:=(by decide:∀ x∈([-1,1000000001]:List Int),-1<=x/\x<=1000000001) _ m3
    rw [show (([-1,1000000001]:List Int).length:Int)=2 from rfl] at h3
    generalize c2.pick b [-1,1000000001]=v3 at h3 w3
    clear m3
    generalize c2.below b 2=r3 at h3 o3
    obtain⟨u3,c3⟩:=r3
    dsimp only at h3 o3
    obtain⟨a1,a2,a3,a4,a5,a6,a7,a8⟩:=(hw x (K2 ..))
    refine qK (h1) (qI 0 2) ?_
    refine qK (h2) (qI 0 2) ?_
    refine qK (h3) (qI 0 2++qI 3 1) ?_
    refine am (({ x with till:=v3 }:HalfD)::r,c3) (⟨o3,by simp only [K0,KZ,K3] at hl⊢;omega,fun y hy=>(K5.1 hy).elim (fun e=>e▸⟨a1,a2,a3,a4,a5,a6,a7,bt (by dsimp only;omega)⟩) fun h=>(fun y hy=>hw y (K4 _ hy)) y h⟩) (qI 0 3) (qC) _ (by simp only [go_sem];rfl) zF zF ?_
    simp (disch:=omega) only [go_sem,seval]
    try simp [HalfD.cs]
 |true=>
  obtain⟨a,c2,o2,w2,h2⟩:=mI b c1 o1
  cases l with
  |nil=>
   have h3:=bX b c2 o2 10
   have o3:=CurD.below_ok o2 10
   have b3:=c2.below_lt b (n:=10) zO
   generalize c2.below b 10=r3 at h3 o3 b3
   obtain⟨v3,c3⟩:=r3
   dsimp only at h3 o3 b3
   generalize hq3:(v3 == 0)=q3 at h3
   cases q3 with
   |false=>
    refine qK (h1) (qI 0 2) ?_
    refine qK (h2) (qI 0 2) ?_
    refine qK (h3) (qI 0 2) ?_
    refine am (a::[],c3) (⟨o3,zP,fun y hy=>(K5.1 hy).elim (fun e=>e▸w2) fun h=>(fun y hy=>by simp at hy) y h⟩) (qI 0 2++qI 4 1) (qC) _ (by simp only [go_sem];rfl) zF zF ?_
    simp (disch:=omega) only [go_sem,seval]
    try simp [HalfD.cs]
   |true=>
    have h4:=ax b c3 o3 [-1,1000000001] zD zD
    have o4:=CurD.below_ok o3 (b:=b) 2
    have m4:=c3.pick_mem b (l:=[-1,1000000001]) zD
    have w4:=(by decide:∀ x∈([-1,1000000001]:List Int),-1<=x/\x<=1000000001) _ m4
    rw [show (([-1,1000000001]:List Int).length:Int)=2 from rfl] at h4
    generalize c3.pick b [-1,1000000001]=v4 at h4 w4
    clear m4
    generalize c3.below b 2=r4 at h4 o4
    obtain⟨u4,c4⟩:=r4
    dsimp only at h4 o4
    obtain⟨a1,a2,a3,a4,a5,a6,a7,a8⟩:=w2
    refine qK (h1) (qI 0 2) ?_
    refine qK (h2) (qI 0 2) ?_
    refine qK (h3) (qI 0 2) ?_
    refine qK (h4) (qI 0 2++qI 5 1) ?_
    refine am (({ a with till:=v4 }:HalfD)::[],c4) (⟨o4,zP,fun y hy=>(K5.1 hy).elim (fun e=>e▸⟨a1,a2,a3,a4,a5,a6,a7,bt (by dsimp only;omega)⟩) fun h=>(fun y hy=>by simp at hy) y h⟩) (qI 0 2++qI 4 1) (qC) _ (by simp only [go_sem];rfl) zF zF ?_
    simp (disch:=omega) only [go_sem,seval]
    try simp [HalfD.cs]
  |cons x r=>
   have hr6:r.length<=5:=by simp only [K0] at hl;omega
   have h3:=bX b c2 o2 10
   have o3:=CurD.below_ok o2 10
   have b3:=c2.below_lt b (n:=10) zO
   generalize c2.below b 10=r3 at h3 o3 b3
   obtain⟨v3,c3⟩:=r3
   dsimp only at h3 o3 b3
   generalize hq3:(v3 == 0)=q3 at h3
   cases q3 with
   |false=>
    refine qK (h1) (qI 0 2) ?_
    refine qK (h2) (qI 0 2) ?_
    refine qK (h3) (qI 0 2) ?_
    refine am (x::(r++[a]),c3) (⟨o3,by simp only [K0,KZ,K3] at hl⊢;omega,fun y hy=>(K5.1 hy).elim (fun e=>e▸(hw x (K2 ..))) fun h=>(j5 (fun y hy=>hw y (K4 _ hy)) w2) y h⟩) (qI 0 2++qI 4 1) (qC) _ (by simp only [go_sem];rfl) zF zF ?_
    simp (disch:=omega) only [go_sem,seval]
    try simp [HalfD.cs]
   |true=>
    have h4:=ax b c3 o3 [-1,1000000001] zD zD
    have o4:=CurD.below_ok o3 (b:=b) 2
    have m4:=c3.pick_mem b (l:=[-1,1000000001]) zD
    have w4:=(by decide:∀ x∈([-1,1000000001]:List Int),-1<=x/\x<=1000000001) _ m4
    rw [show (([-1,1000000001]:List Int).length:Int)=2 from rfl] at h4
    generalize c3.pick b [-1,1000000001]=v4 at h4 w4
    clear m4
    generalize c3.below b 2=r4 at h4 o4
    obtain⟨u4,c4⟩:=r4
    dsimp only at h4 o4
    obtain⟨a1,a2,a3,a4,a5,a6,a7,a8⟩:=(hw x (K2 ..))
    refine qK (h1) (qI 0 2) ?_
    refine qK (h2) (qI 0 2) ?_
    refine qK (h3) (qI 0 2) ?_
    refine qK (h4) (qI 0 2++qI 5 1) ?_
    refine am (({ x with till:=v4 }:HalfD)::(r++[a]),c4) (⟨o4,by simp only [K0,KZ,K3] at hl⊢;omega,fun y hy=>(K5.1 hy).elim (fun e=>e▸⟨a1,a2,a3,a4,a5,a6,a7,bt (by dsimp only;omega)⟩) fun h=>(j5 (fun y hy=>hw y (K4 _ hy)) w2) y h⟩) (qI 0 2++qI 4 1) (qC) _ (by simp only [go_sem];rfl) zF zF ?_
    simp (disch:=omega) only [go_sem,seval]
    try simp [HalfD.cs]
theorem yf (b:List UInt8) (c:CurD) (hc:c.ok b):f_ Tryz.prog 51 [.sc (.pt 1 0 0)] (c.hp b) (fun x:PiecesD×CurD=>x.2.ok b/\SmallP x.1/\x.1.wf) (fun x=>.ag (x.1.cs 2)) (fun x=>x.2.hp b++x.1.hp false):=by
 refine dB func51 (by kernel_rfl) rfl fun E hE=>af 400 ?_
 simp (disch:=omega) only [ntmps51,results51,go_sem,seval]
 refine aM (qC) (sv b c hc) (qI 0 2) qM zF fun x hx=>af 400 ?_
 simp (disch:=omega) only [go_sem,seval]
 obtain⟨p,c0⟩:=x
 obtain⟨o0,hs,hw,hl⟩:=hx
 dsimp only at o0 hs hw hl
 obtain⟨s1,s2,s3⟩:=hs
 obtain⟨g1,g2,g3,g4⟩:=hw
 have mb:=gn
 have h1:=ac b c0 o0 16
 have o1:=CurD.below_ok o0 16
 have b1:=c0.below_lt b (n:=16) zO
 generalize c0.below b 16=r1 at h1 o1 b1
 obtain⟨v1,c1⟩:=r1
 dsimp only at h1 o1 b1
 have hv:v1=0\/v1=1\/v1=2\/v1=3\/(v1≠0/\v1≠1/\v1≠2/\v1≠3):=zO
 rcases hv with rfl|rfl|rfl|rfl|⟨q0,q1,q2,q3⟩
 ·have h2:=ax b c1 o1 [-1,1000000001,1000000000] zD zD
  have o2:=CurD.below_ok o1 (b:=b) 3
  have m2:=c1.pick_mem b (l:=[-1,1000000001,1000000000]) zD
  have w2:=(by decide:∀ x∈([-1,1000000001,1000000000]:List Int),-1<=x/\x<=1000000001) _ m2
  rw [show (([-1,1000000001,1000000000]:List Int).length:Int)=3 from rfl] at h2
  generalize c1.pick b [-1,1000000001,1000000000]=v2 at h2 w2
  clear m2
  generalize c1.below b 3=r2 at h2 o2
  obtain⟨u2,c2⟩:=r2
  dsimp only at h2 o2
  refine qK (h1) (qI 0 2) ?_
  refine qK (h2) (qI 0 2++qI 5 1) ?_
  refine am ({ p with read:=v2 },c2) (⟨o2,⟨s1,s2,s3⟩,⟨bt (by dsimp only;omega),g2,g3,g4⟩⟩) (qI 0 2++qI 3 1) (qC) _ (by simp only [go_sem];rfl) zF zF ?_
  simp (disch:=omega) only [go_sem,seval]
 ·have h2:=ac b c1 o1 60
  have o2:=CurD.below_ok o1 60
  have b2:=c1.below_lt b (n:=60) zO
  generalize c1.below b 60=r2 at h2 o2 b2
  obtain⟨v2,c2⟩:=r2
  dsimp only at h2 o2 b2
  have h3:=u9 b c2 o2 [[],[97]] zD zD
  have o3:=CurD.below_ok o2 (b:=b) 2
  have m3:=c2.pickS_mem b (l:=[[],[97]]) zD
  have w3:=(by decide:∀ x∈([[],[97]]:List (List UInt8)),x.length<=20) _ m3
  rw [show (([[],[97]]:List (List UInt8)).length:Int)=2 from rfl] at h3
  generalize c2.pickS b [[],[97]]=v3 at h3 w3
  clear m3
  generalize c2.below b 2=r3 at h3 o3
  obtain⟨u3,c3⟩:=r3
  dsimp only at h3 o3
  have hl2:(p.list++[(⟨v2,v3⟩:PieceD)]).length<=21:=by rw [KZ,K7];omega
  refine qK (h1) (qI 0 2) ?_
  refine bj [(1,3),(1,6),(3,5),(5,1)] [(3,6),(5,6)] [[0,2,4,1,3,5,6,7,8,9,10,11],[0,2,4,5,1,3,6,7,8,9,10,11],[0,2,4,1,5,3,6,7,8,9,10,11],[0,2,4,3,5,1,6,7,8,9,10,11],[0,2,4,3,1,5,6,7,8,9,10,11],[0,2,4,5,3,1,6,7,8,9,10,11],[0,2,4,3,5,6,1,7,8,9,10,11],[0,2,4,5,3,6,1,7,8,9,10,11]] (by kernel_rfl) (qC) (by kernel_rfl) ?_
  simp only [aR]
  refine⟨ab 400 ?_,ab 400 ?_,ab 400 ?_,ab 400 ?_,ab 400 ?_,ab 400 ?_,ab 400 ?_,ab 400 ?_⟩
  all_goals simp (disch:=omega) only [go_sem,seval]
  all_goals
   refine al (qC) (h2) (qI 0 2) qM zF (ab 400 ?_)
   simp (disch:=omega) only [go_sem,seval]
   refine al (qC) (h3) (qI 0 2++qI 5 1) qM zF (ab 400 ?_)
   simp (disch:=omega) only [go_sem,seval]
   refine qG ?_
   refine am ({ p with list:=p.list++[⟨v2,v3⟩] },c3) (⟨o3,⟨by dsimp only;omega,s2,j5 s3 (by dsimp only;omega)⟩,⟨g1,g2,j5 g3 ⟨bt (by dsimp only;omega),by dsimp only;omega⟩,by dsimp only;omega⟩⟩) (qI 0 2++qI 7 1) (qC) _ (by simp only [go_sem];rfl) zF zF ?_
   simp (disch:=omega) only [go_sem,seval]
   try simp [PieceD.cs]
 ·have h2:=ax b c1 o1 [190,200,201] zD zD
  have o2:=CurD.below_ok o1 (b:=b) 3
  have m2:=c1.pick_mem b (l:=[190,200,201]) zD
  have w2:=(by decide:∀ x∈([190,200,201]:List Int),190<=x/\x<=201) _ m2
  rw [show (([190,200,201]:List Int).length:Int)=3 from rfl] at h2
  generalize c1.pick b [190,200,201]=v2 at h2 w2
  clear m2
  generalize c1.below b 3=r2 at h2 o2
  obtain⟨u2,c2⟩:=r2
  dsimp only at h2 o2
  obtain⟨n,hn⟩:=K1 (show 0<=v2 by omega)
  subst hn
  have hL:=u7 n 97 zO
  rw [show (((97:UInt8).toNat:Nat):Int)=97 from rfl] at hL
  have hll:(List.replicate n (97:UInt8)).length=n:=List.length_replicate ..
  refine qK (h1) (qI 0 2) ?_
  refine qK (h2) (qI 0 2++qI 5 1) ?_
  refine qK (hL) [] ?_
  refine am ({ p with ready:=List.replicate n 97 },c2) (⟨o2,⟨s1,by dsimp only;omega,s3⟩,⟨g1,by dsimp only;omega,g3,g4⟩⟩) (qI 0 2++qI 3 1) (qC) _ (by simp only [go_sem];rfl) zF zF ?_
  simp (disch:=omega) only [go_sem,seval]
 ·refine qK (h1) (qI 0 2) ?_
  refine ki 2 hE (fun s (y:Nat×List PieceD)=>s.at (qU [0,1,5,45]) [(4,.sc (.int .i64 (y.1:Nat)))] (c1.hp b++((s.hp.drop 2).take 1++[some ⟨y.2.map PieceD.cs,2,90,true,true⟩,some ⟨[PiecesD.cs { p with list:=y.2 } 3],3,35,true,false⟩]))) (fun (y:Nat×List PieceD)=>y.1<=20/\y.2.length=p.list.length+y.1/\(∀ x∈y.2,x.text.length<=1048576)/\(∀ x∈y.2,PieceD.wf x)) (fun (y:Nat×List PieceD)=>20 - y.1) (0,p.list) (qI 0 5) (⟨K6 _,rfl,s3,g3⟩) fun y hy N hN=>?_
  obtain⟨i,l⟩:=y
  obtain⟨f1,f2,f3,f4⟩:=hy
  dsimp only at f1 f2 f3 f4
  by_cases h:i < 20
  ·refine qR ?_
   refine wO hN (i+1,l++[⟨100+2*(i:Int),[122]⟩]) (qI 0 3++qI 6 1++qI 4 1) (by (try dsimp only);exact⟨zO,by rw [KZ,K7];omega,j5 f3 zP,j5 f4 ⟨bt (by dsimp only;omega),by simp;omega⟩⟩) ?_
   first|exact⟨⟩|simp [PieceD.cs]
  refine qR ?_
  refine am ({ p with list:=l },c1) (⟨o1,⟨by dsimp only;omega,s2,f3⟩,⟨g1,g2,f4,by dsimp only;omega⟩⟩) (qI 0 2++qI 3 1) (qC) _ (by simp only [go_sem];rfl) zF zF ?_
  simp (disch:=omega) only [go_sem,seval]
 refine qK (h1) (qI 0 2) ?_
 refine am (p,c1) (⟨o1,⟨s1,s2,s3⟩,⟨g1,g2,g3,g4⟩⟩) (qI 0 2++qI 3 1) (qC) _ (by simp only [go_sem];rfl) zF zF ?_
 simp (disch:=omega) only [go_sem,seval]
theorem GP:∀ p∈pols,polOk p=true:=by decide
theorem yk {s:Int} {p:PolicyD} (hs:1<=s/\s<=2) (hp:p∈pols):jR s (10*s+1) p=(dC s p,true):=by
 have h1:co s 1 2=true:=by simp only [co,K8,decide_eq_true_eq];omega
 have h2:bw (e_ (10*s+1))=true:=by
  have:s=1\/s=2:=zO
  rcases this with rfl|rfl<;>decide
 rw [yh (by rw [h1,GP p hp,h2];rfl)];rfl
theorem Do {p q:PolicyD} (hp:p∈pols) (hq:q∈pols):Small (dC 1 p)/\Small (dC 2 q)/\Hale (jj (dC 1 p) (dC 2 q)).1/\Hale (jj (dC 1 p) (dC 2 q)).2.1:=by
 have h:=La.1 (La.1 C5 p hp) q hq
 simp only [K8,decide_eq_true_eq] at h
 obtain⟨⟨⟨⟨⟨⟨⟨h1,h2⟩,h3⟩,h4⟩,h5⟩,h6⟩,h7⟩,h8⟩:=h
 exact⟨lx h1,lx h2,⟨cU.1 h3,h5,(oJ h7).1⟩,⟨cU.1 h4,h6,(oJ h8).1⟩⟩
theorem bq (b:List UInt8) (c:CurD) (hc:c.ok b) (x y:EndD) (hx:Hale x) (hy:Hale y) (l:List LetterD) (hl:l.length<=1048576):f_ Tryz.prog 91 [.sc (.pt 1 0 0),.ag (x.cs 2),.ag (y.cs 9),.sc (.sl 16 0 l.length)] (c.hp b++(x.hp true++(y.hp true++[some ⟨l.map LetterD.cs,19,134,true,true⟩])))
  (fun z:EndD×EndD×CurD=>z.2.2.ok b/\Hale z.1/\Hale z.2.1) (fun z=>.tu [.ag (z.1.cs 17),.ag (z.2.1.cs 24)]) (fun z=>z.2.2.hp b++((nH 15)++(z.1.hp true++z.2.1.hp true))):=by
 refine dB func91 (by kernel_rfl) rfl fun E hE=>af 400 ?_
 simp (disch:=omega) only [ntmps91,results91,go_sem,seval]
 refine uW 17 hE (fun s (z:Nat×EndD×EndD×List LetterD×CurD)=>s.at (qU [1,2,11,47]) [(10,.sc (.int .i64 (z.1:Nat))),(3,.sc (.sl 35 0 z.2.2.2.1.length))] (z.2.2.2.2.hp b++((nH 15)++([some ⟨[z.2.1.cs 21],25,38,true,false⟩,some ⟨[z.2.2.1.cs 28],25,38,true,false⟩]++((s.hp.drop 19).take 2++(z.2.1.hp true++(z.2.2.1.hp true++[some ⟨z.2.2.2.1.map LetterD.cs,19,134,true,true⟩]))))))) (fun (z:Nat×EndD×EndD×List LetterD×CurD)=>z.1<=5/\z.2.2.2.2.ok b/\Hale z.2.1/\Hale z.2.2.1/\z.2.2.2.1.length<=1048576) (fun (z:Nat×EndD×EndD×List LetterD×CurD)=>5 - z.1) (0,x,y,l,c) (qI 0 21++qI 2 15) (⟨zO,hc,hx,hy,hl⟩) fun z hz N hN=>?_
 obtain⟨k,x,y,l,c1⟩:=z
 obtain⟨f1,f2,f3,f4,f5⟩:=hz
 dsimp only at f1 f2 f3 f4 f5
 refine qR ?_
 by_cases hgo:k < 5/\0 < l.length
 ·obtain⟨h5,h0⟩:=hgo
  refine qX ?_
  refine uW 17 hE (fun s (u:Nat×EndD×EndD×List LetterD×CurD)=>s.at (qU [1,2,13,7,21,37]) [(12,.sc (.int .i64 (u.1:Nat))),(11,.sc (.sl 36 0 u.2.2.2.1.length))] (u.2.2.2.2.hp b++((nH 15)++([some ⟨[u.2.1.cs 21],25,38,true,false⟩,some ⟨[u.2.2.1.cs 28],25,38,true,false⟩]++((s.hp.drop 19).take 2++(u.2.1.hp true++(u.2.2.1.hp true++[some ⟨l.map LetterD.cs,19,134,true,true⟩,some ⟨u.2.2.2.1.map LetterD.cs,19,134,true,true⟩]))))))) (fun (u:Nat×EndD×EndD×List LetterD×CurD)=>u.1<=l.length/\u.2.2.2.2.ok b/\Hale u.2.1/\Hale u.2.2.1/\u.2.2.2.1.length<=u.1) (fun (u:Nat×EndD×EndD×List LetterD×CurD)=>l.length - u.1) (0,x,y,[],c1) (qI 0 37) (⟨zO,f2,f3,f4,K6 _⟩) fun u hu N2 hN2=>?_
  obtain⟨i,x,y,back,c2⟩:=u
  obtain⟨g1,g3,g4,g5,g6⟩:=hu
  dsimp only at g1 g3 g4 g5 g6
  have h3:=bX b c2 g3 8
  have o3:=CurD.below_ok g3 8
  have b3:=c2.below_lt b (n:=8) zO
  generalize c2.below b 8=r3 at h3 o3 b3
  obtain⟨v3,c3⟩:=r3
  dsimp only at h3 o3 b3
  generalize hq3:(v3 == 0)=q3 at h3
  refine qR ?_
  refine qB (fun h=>?_) fun h=>?_
  ·refine qK (h3) (qI 0 2) ?_
   cases q3 with
   |true=>
    refine qX ?_
    exact HM hN2 (i+1,x,y,back,c3) (qI 0 37) (by (try dsimp only);exact⟨zO,o3,g4,g5,zO⟩)
   |false=>
    refine qX ?_
    generalize hv:l[i]=v at*
    by_cases hk:k % 2=0
    ·have hr:Int.tmod (k:Int) 2=0:=by rw [K9 zO];omega
     have hH:=tQ y v g5.g.s g5.g.p
     have hh:=g5.hear (x:=v)
     have ho:=mn (e:=y) (x:=v)
     generalize hear y v=Q at hH hh ho
     obtain⟨y',m⟩:=Q
     dsimp only at hH hh ho
     try simp (disch:=omega) only [go_sem,seval,hr]
     refine qD [0,1,2,3,4,5,6,7,8,9,10] ?_
     try simp (disch:=omega) only [go_sem,seval,hv,bW h]
     refine cj (hH) (qI 28 7) ?_
     refine qG ?_
     refine DY hN2 (i+1,x,y',back++m,c3) (qI 0 28++qI 38 7++qI 35 1++qI 46 1) (by (try dsimp only);exact⟨zO,o3,g4,hh,by rw [KZ];omega⟩) ?_
     first|exact⟨⟩|simp
    have hr:Int.tmod (k:Int) 2=1:=by rw [K9 zO];omega
    have hH:=tQ x v g4.g.s g4.g.p
    have hh:=g4.hear (x:=v)
    have ho:=mn (e:=x) (x:=v)
    generalize hear x v=Q at hH hh ho
    obtain⟨x',m⟩:=Q
    dsimp only at hH hh ho
    try simp (disch:=omega) only [go_sem,seval,hr]
    refine qD [0,1,2,3,4,5,6,7,8,9,10] ?_
    try simp (disch:=omega) only [go_sem,seval,hv,bW h]
    refine cj (hH) (qI 21 7) ?_
    refine qG ?_
    refine DY hN2 (i+1,x',y,back++m,c3) (qI 0 21++qI 38 7++qI 28 8++qI 46 1) (by (try dsimp only);exact⟨zO,o3,hh,g5,by rw [KZ];omega⟩) ?_
    first|exact⟨⟩|simp
  refine qX ?_
  exact HM hN (k+1,x,y,back,c2) (qI 0 35++qI 36 1) (by (try dsimp only);exact⟨zO,g3,g4,g5,zO⟩)
 have hor:¬ k < 5\/(k < 5/\¬ 0 < l.length):=zO
 clear hN
 rcases hor with h5|⟨h5,h0⟩
 all_goals
  refine qX ?_
  refine aX [(1,2)] [[0,1,2,3],[0,2,1,3]] (by kernel_rfl) (qC) (by kernel_rfl) ?_
  simp only [aR]
  refine⟨aa 400 ?_,aa 400 ?_⟩
  all_goals simp (disch:=omega) only [go_sem,seval]
  all_goals
   refine qG ?_
   refine am (x,y,c1) (⟨f2,f3,f4⟩) (qI 0 17++qI 21 14) (qC) _ (by simp only [go_sem];rfl) zF zF ?_
   simp (disch:=omega) only [go_sem,seval]
theorem v_ (b:List UInt8) (c:CurD) (hc:c.ok b):f_ Tryz.prog 67 [.sc (.pt 1 0 0)] (c.hp b)
  (fun z:EndD×EndD×CurD=>z.2.2.ok b/\Hale z.1/\Hale z.2.1) (fun z=>.tu [.ag (z.1.cs 2),.ag (z.2.1.cs 9)]) (fun z=>z.2.2.hp b++(z.1.hp true++z.2.1.hp true)):=by
 obtain⟨p,c1,o1,hp,h1⟩:=jG b c hc
 obtain⟨q,c2,o2,hq,h2⟩:=jG b c1 o1
 have e1:=oL 1 11 p
 have e2:=oL 2 21 q
 have i1:=yk (s:=1) zO hp
 have i2:=yk (s:=2) zO hq
 rw [show (10*1+1:Int)=11 from rfl] at i1
 rw [show (10*2+1:Int)=21 from rfl] at i2
 rw [i1] at e1
 rw [i2] at e2
 obtain⟨s1,s2,m1,m2⟩:=Do hp hq
 have hM:=Da (dC 1 p) (dC 2 q) s1 s2
 clear i1 i2 s1 s2
 generalize dC 1 p=a0 at*
 generalize dC 2 q=b0 at*
 obtain⟨M,hMM⟩:∃ M,M=jj a0 b0:=⟨_,rfl⟩
 rw [<-hMM] at hM m1 m2
 clear hMM
 obtain⟨X,Y,ok⟩:=M
 dsimp only at hM m1 m2
 refine dB func67 (by kernel_rfl) rfl fun E hE=>af 400 ?_
 simp (disch:=omega) only [ntmps67,results67,go_sem,seval]
 refine qK (h1) (qI 0 2) ?_
 refine qK (e1) [] ?_
 refine qK (h2) (qI 0 2) ?_
 refine qK (e2) [] ?_
 refine qK (hM) (qI 4 7++qI 12 7) ?_
 refine ki 2 hE (fun s (z:Nat×EndD×EndD×CurD)=>s.at (qU [5,1,7,1,9,107]) [(8,.sc (.int .i64 (z.1:Nat))),(4,.sc (.pt 18 0 0)),(6,.sc (.pt 19 0 0))] (z.2.2.2.hp b++((s.hp.drop 2).take 2++(z.2.1.hp true++(z.2.2.1.hp true++[some ⟨[z.2.1.cs 4],25,38,true,false⟩,some ⟨[z.2.2.1.cs 11],25,38,true,false⟩]))))) (fun (z:Nat×EndD×EndD×CurD)=>z.1<=12/\z.2.2.2.ok b/\Hale z.2.1/\Hale z.2.2.1) (fun (z:Nat×EndD×EndD×CurD)=>12 - z.1) (0,X,Y,c2) (qI 0 4++qI 20 14++qI 11 1++qI 19 1) (⟨zO,o2,m1,m2⟩) fun z hz N hN=>?_
 obtain⟨k,a,d,c1⟩:=z
 obtain⟨f1,f2,f3,f4⟩:=hz
 dsimp only at f1 f2 f3 f4
 have h3:=ac b c1 f2 12
 have o3:=CurD.below_ok f2 12
 have b3:=c1.below_lt b (n:=12) zO
 generalize c1.below b 12=r3 at h3 o3 b3
 obtain⟨v3,c3⟩:=r3
 dsimp only at h3 o3 b3
 have h4:=bX b c3 o3 2
 have o4:=CurD.below_ok o3 2
 have b4:=c3.below_lt b (n:=2) zO
 generalize c3.below b 2=r4 at h4 o4 b4
 obtain⟨v4,c4⟩:=r4
 dsimp only at h4 o4 b4
 generalize hq4:(v4 == 0)=q4 at h4
 have h5:=ac b c4 o4 7
 have o5:=CurD.below_ok o4 7
 have b5:=c4.below_lt b (n:=7) zO
 generalize c4.below b 7=r5 at h5 o5 b5
 obtain⟨v5,c5⟩:=r5
 dsimp only at h5 o5 b5
 refine qR ?_
 refine qK (h3) (qI 0 2) ?_
 refine qB (fun h=>?_) fun h=>?_
 ·refine qK (h4) (qI 0 2) ?_
  cases q4 with
  |true=>
   refine qX ?_
   refine qK (h5) (qI 0 2) ?_
   have hv:v5=0\/v5=1\/v5=2\/v5=3\/v5=4\/v5=5\/(v5≠0/\v5≠1/\v5≠2/\v5≠3/\v5≠4/\v5≠5):=zO
   rcases hv with hv|hv|hv|hv|hv|hv|⟨q0,q1,q2,q3,q4,q5⟩
   ·have h6:=ac b c5 o5 30
    have o6:=CurD.below_ok o5 30
    have b6:=c5.below_lt b (n:=30) zO
    generalize c5.below b 30=r6 at h6 o6 b6
    obtain⟨v6,c6⟩:=r6
    dsimp only at h6 o6 b6
    obtain⟨n,hn⟩:=K1 (show 0<=1+v6 by omega)
    have hT:=dS b c6 o6 n zO
    have oT:=iP (n:=n) o6
    have lT:=iq b n c6
    generalize jg b n c6=T at hT oT lT
    obtain⟨T,cT⟩:=T
    dsimp only at hT oT lT
    have hW:=fM d T f4.g.s zO (gM f4.g.o)
    have hh:=f4.writeAll (t:=T)
    have hl:=gu (k:=3) (e:=(cf d T).1)
    rw [<-writeAll] at hl
    generalize writeAll d T=Q at hW hh hl
    obtain⟨x',ls⟩:=Q
    dsimp only at hW hh hl
    try simp (disch:=omega) only [go_sem,seval,hv]
    refine bj [(0,3),(0,5)] [(3,5)] [(qU [1,2,0,1,3,9]),(qU [1,4,0,1,5,7]),(qU [1,5,0,1,6,6])] (by kernel_rfl) (qC) (by kernel_rfl) ?_
    simp only [aR]
    refine⟨ab 400 ?_,ab 400 ?_,ab 400 ?_⟩
    all_goals simp (disch:=omega) only [go_sem,seval]
    all_goals
     refine al (qC) (h6) (qI 0 2) qM zF (ab 400 ?_)
     simp (disch:=omega) only [go_sem,seval]
     try simp (disch:=omega) only [go_sem,seval,hn]
     refine al (qC) (hT) (qI 0 2) qM zF (ab 400 ?_)
     simp (disch:=omega) only [go_sem,seval]
     refine al (qC) (hW) (qI 11 7) qM zF (ab 400 ?_)
     simp (disch:=omega) only [go_sem,seval]
     refine qG ?_
     refine aM (qC) (bq b cT oT x' a hh f3 ls zO) (qI 0 2++qI 23 7++qI 4 7++qI 30 1) qM zF fun z hz=>af 400 ?_
     simp (disch:=omega) only [go_sem,seval]
     obtain⟨x2,y2,c9⟩:=z
     obtain⟨o9,hx9,hy9⟩:=hz
     dsimp only at o9 hx9 hy9
     exact qN hN (k+1,y2,x2,c9) (qI 0 4++qI 38 7++qI 31 7++qI 18 2) (by (try dsimp only);exact⟨zO,o9,hy9,hx9⟩)
   ·have h6:=ac b c5 o5 30
    have o6:=CurD.below_ok o5 30
    have b6:=c5.below_lt b (n:=30) zO
    generalize c5.below b 30=r6 at h6 o6 b6
    obtain⟨v6,c6⟩:=r6
    dsimp only at h6 o6 b6
    obtain⟨n,hn⟩:=K1 (show 0<=1+v6 by omega)
    have hT:=dS b c6 o6 n zO
    have oT:=iP (n:=n) o6
    have lT:=iq b n c6
    generalize jg b n c6=T at hT oT lT
    obtain⟨T,cT⟩:=T
    dsimp only at hT oT lT
    have hW:=fM d T f4.g.s zO (gM f4.g.o)
    have hh:=f4.writeAll (t:=T)
    have hl:=gu (k:=3) (e:=(cf d T).1)
    rw [<-writeAll] at hl
    generalize writeAll d T=Q at hW hh hl
    obtain⟨x',ls⟩:=Q
    dsimp only at hW hh hl
    try simp (disch:=omega) only [go_sem,seval,hv]
    refine bj [(0,3),(0,5)] [(3,5)] [(qU [1,2,0,1,3,9]),(qU [1,4,0,1,5,7]),(qU [1,5,0,1,6,6])] (by kernel_rfl) (qC) (by kernel_rfl) ?_
    simp only [aR]
    refine⟨ab 400 ?_,ab 400 ?_,ab 400 ?_⟩
    all_goals simp (disch:=omega) only [go_sem,seval]
    all_goals
     refine al (qC) (h6) (qI 0 2) qM zF (ab 400 ?_)
     simp (disch:=omega) only [go_sem,seval]
     try simp (disch:=omega) only [go_sem,seval,hn]
     refine al (qC) (hT) (qI 0 2) qM zF (ab 400 ?_)
     simp (disch:=omega) only [go_sem,seval]
     refine al (qC) (hW) (qI 11 7) qM zF (ab 400 ?_)
     simp (disch:=omega) only [go_sem,seval]
     refine qG ?_
     refine aM (qC) (bq b cT oT x' a hh f3 ls zO) (qI 0 2++qI 23 7++qI 4 7++qI 30 1) qM zF fun z hz=>af 400 ?_
     simp (disch:=omega) only [go_sem,seval]
     obtain⟨x2,y2,c9⟩:=z
     obtain⟨o9,hx9,hy9⟩:=hz
     dsimp only at o9 hx9 hy9
     exact qN hN (k+1,y2,x2,c9) (qI 0 4++qI 38 7++qI 31 7++qI 18 2) (by (try dsimp only);exact⟨zO,o9,hy9,hx9⟩)
   ·have h6:=ac b c5 o5 3
    have o6:=CurD.below_ok o5 3
    have b6:=c5.below_lt b (n:=3) zO
    generalize c5.below b 3=r6 at h6 o6 b6
    obtain⟨v6,c6⟩:=r6
    dsimp only at h6 o6 b6
    have h7:=ac b c6 o6 3
    have o7:=CurD.below_ok o6 3
    have b7:=c6.below_lt b (n:=3) zO
    generalize c6.below b 3=r7 at h7 o7 b7
    obtain⟨v7,c7⟩:=r7
    dsimp only at h7 o7 b7
    have h8:=bX b c7 o7 4
    have o8:=CurD.below_ok o7 4
    have b8:=c7.below_lt b (n:=4) zO
    generalize c7.below b 4=r8 at h8 o8 b8
    obtain⟨v8,c8⟩:=r8
    dsimp only at h8 o8 b8
    generalize hq8:(v8 == 0)=q8 at h8
    have sd:=f4.ok.side
    have hW:=oy d ⟨1+v6,10*d.side+2+v7,q8,false⟩ f4.g.s
    have hh:=f4.addOwn (a:=⟨1+v6,10*d.side+2+v7,q8,false⟩)
    generalize addOwn d ⟨1+v6,10*d.side+2+v7,q8,false⟩=Q at hW hh
    obtain⟨x',ok⟩:=Q
    dsimp only at hW hh
    try simp (disch:=omega) only [go_sem,seval,hv]
    refine bj [(0,2),(0,9),(0,12),(2,5),(5,9),(5,12)] [(2,9),(9,12)] [(qU [1,1,4,1,8,1,11,1,0,1,2,2,5,3,9,2,12,7]),[1,4,8,11,0,2,3,9,5,6,7,10,12,13,14,15,16,17,18],[1,4,8,11,0,2,3,9,12,5,6,7,10,13,14,15,16,17,18],(qU [1,1,4,1,8,1,11,1,0,1,5,3,2,2,9,2,12,7]),(qU [1,1,4,1,8,1,11,1,2,2,0,1,5,3,9,2,12,7]),[1,4,8,11,2,3,0,9,5,6,7,10,12,13,14,15,16,17,18],[1,4,8,11,2,3,0,9,12,5,6,7,10,13,14,15,16,17,18],(qU [1,1,4,1,8,1,11,1,5,3,2,2,0,1,9,2,12,7]),(qU [1,1,4,1,8,1,11,1,2,2,5,3,9,2,0,1,12,7]),[1,4,8,11,2,3,9,0,5,6,7,10,12,13,14,15,16,17,18],[1,4,8,11,2,3,9,0,12,5,6,7,10,13,14,15,16,17,18],(qU [1,1,4,1,8,1,11,1,5,3,2,2,9,2,0,1,12,7]),[1,4,8,11,2,3,5,6,7,9,10,12,0,13,14,15,16,17,18],[1,4,8,11,2,3,9,5,6,7,10,12,0,13,14,15,16,17,18],[1,4,8,11,2,3,9,12,0,5,6,7,10,13,14,15,16,17,18],[1,4,8,11,5,6,7,2,3,9,10,12,0,13,14,15,16,17,18]] (by kernel_rfl) (qC) (by kernel_rfl) ?_
    simp only [aR]
    refine⟨ab 400 ?_,ab 400 ?_,ab 400 ?_,ab 400 ?_,ab 400 ?_,ab 400 ?_,ab 400 ?_,ab 400 ?_,ab 400 ?_,ab 400 ?_,ab 400 ?_,ab 400 ?_,ab 400 ?_,ab 400 ?_,ab 400 ?_,ab 400 ?_⟩
    all_goals simp (disch:=omega) only [go_sem,seval]
    all_goals
     refine al (qC) (h6) (qI 0 2) qM zF (ab 400 ?_)
     simp (disch:=omega) only [go_sem,seval]
     refine al (qC) (h7) (qI 0 2) qM zF (ab 400 ?_)
     simp (disch:=omega) only [go_sem,seval]
     refine al (qC) (h8) (qI 0 2) qM zF (ab 400 ?_)
     simp (disch:=omega) only [go_sem,seval]
     refine al (qC) (hW) (qI 11 7) qM zF (ab 400 ?_)
     simp (disch:=omega) only [go_sem,seval]
     refine qG ?_
     refine aM (qC) (bq b c8 o8 x' a hh f3 [] zP) (qI 0 2++qI 23 7++qI 4 7++qI 22 1) qM zF fun z hz=>af 400 ?_
     simp (disch:=omega) only [go_sem,seval]
     obtain⟨x2,y2,c9⟩:=z
     obtain⟨o9,hx9,hy9⟩:=hz
     dsimp only at o9 hx9 hy9
     exact qN hN (k+1,y2,x2,c9) (qI 0 4++qI 37 7++qI 30 7++qI 18 2) (by (try dsimp only);exact⟨zO,o9,hy9,hx9⟩)
   ·have hW:=uv d f4.g.s f4.g.o
    have hh:=f4.tick
    have hl:=xK d
    generalize tick d=Q at hW hh hl
    obtain⟨x',ls⟩:=Q
    dsimp only at hW hh hl
    try simp (disch:=omega) only [go_sem,seval,hv]
    refine qK (hW) (qI 11 7) ?_
    refine aM (qC) (bq b c5 o5 x' a hh f3 ls zO) (qI 0 2++qI 23 7++qI 4 7++qI 30 1) qM zF fun z hz=>af 400 ?_
    simp (disch:=omega) only [go_sem,seval]
    obtain⟨x2,y2,c9⟩:=z
    obtain⟨o9,hx9,hy9⟩:=hz
    dsimp only at o9 hx9 hy9
    exact qN hN (k+1,y2,x2,c9) (qI 0 4++qI 38 7++qI 31 7++qI 18 2) (by (try dsimp only);exact⟨zO,o9,hy9,hx9⟩)
   ·have hW:=g_ d f4.g.s
    have hh:=f4.manage
    have hl:=i7 d
    generalize manage d=Q at hW hh hl
    obtain⟨x',ls⟩:=Q
    dsimp only at hW hh hl
    try simp (disch:=omega) only [go_sem,seval,hv]
    refine qK (hW) (qI 11 7) ?_
    refine aM (qC) (bq b c5 o5 x' a hh f3 ls zO) (qI 0 2++qI 23 7++qI 4 7++qI 30 1) qM zF fun z hz=>af 400 ?_
    simp (disch:=omega) only [go_sem,seval]
    obtain⟨x2,y2,c9⟩:=z
    obtain⟨o9,hx9,hy9⟩:=hz
    dsimp only at o9 hx9 hy9
    exact qN hN (k+1,y2,x2,c9) (qI 0 4++qI 38 7++qI 31 7++qI 18 2) (by (try dsimp only);exact⟨zO,o9,hy9,hx9⟩)
   ·have hW:=g_ d f4.g.s
    have hh:=f4.manage
    have hl:=i7 d
    generalize manage d=Q at hW hh hl
    obtain⟨x',ls⟩:=Q
    dsimp only at hW hh hl
    try simp (disch:=omega) only [go_sem,seval,hv]
    refine qK (hW) (qI 11 7) ?_
    refine aM (qC) (bq b c5 o5 x' a hh f3 ls zO) (qI 0 2++qI 23 7++qI 4 7++qI 30 1) qM zF fun z hz=>af 400 ?_
    simp (disch:=omega) only [go_sem,seval]
    obtain⟨x2,y2,c9⟩:=z
    obtain⟨o9,hx9,hy9⟩:=hz
    dsimp only at o9 hx9 hy9
    exact qN hN (k+1,y2,x2,c9) (qI 0 4++qI 38 7++qI 31 7++qI 18 2) (by (try dsimp only);exact⟨zO,o9,hy9,hx9⟩)
   have h6:=ac b c5 o5 30
   have o6:=CurD.below_ok o5 30
   have b6:=c5.below_lt b (n:=30) zO
   generalize c5.below b 30=r6 at h6 o6 b6
   obtain⟨v6,c6⟩:=r6
   dsimp only at h6 o6 b6
   have hW:=tZ d v6 f4.g.s f4.g.p
   have hh:=f4.read (m:=v6)
   generalize b_ d v6=Q at hW hh
   obtain⟨x',tx⟩:=Q
   dsimp only at hW hh
   refine qX ?_
   refine bj [(0,2)] [] [[1,0,2,3,4,5,6,7],[1,2,0,3,4,5,6,7]] (by kernel_rfl) (qC) (by kernel_rfl) ?_
   simp only [aR]
   refine⟨ab 400 ?_,ab 400 ?_⟩
   all_goals simp (disch:=omega) only [go_sem,seval]
   all_goals
    refine al (qC) (h6) (qI 0 2) qM zF (ab 400 ?_)
    simp (disch:=omega) only [go_sem,seval]
    refine al (qC) (hW) (qI 11 7) qM zF (ab 400 ?_)
    simp (disch:=omega) only [go_sem,seval]
    refine qG ?_
    refine aM (qC) (bq b c6 o6 x' a hh f3 [] zP) (qI 0 2++qI 23 7++qI 4 7++qI 22 1) qM zF fun z hz=>af 400 ?_
    simp (disch:=omega) only [go_sem,seval]
    obtain⟨x2,y2,c9⟩:=z
    obtain⟨o9,hx9,hy9⟩:=hz
    dsimp only at o9 hx9 hy9
    exact qN hN (k+1,y2,x2,c9) (qI 0 4++qI 37 7++qI 30 7++qI 18 2) (by (try dsimp only);exact⟨zO,o9,hy9,hx9⟩)
  |false=>
   refine qX ?_
   refine qK (h5) (qI 0 2) ?_
   have hv:v5=0\/v5=1\/v5=2\/v5=3\/v5=4\/v5=5\/(v5≠0/\v5≠1/\v5≠2/\v5≠3/\v5≠4/\v5≠5):=zO
   rcases hv with hv|hv|hv|hv|hv|hv|⟨q0,q1,q2,q3,q4,q5⟩
   ·have h6:=ac b c5 o5 30
    have o6:=CurD.below_ok o5 30
    have b6:=c5.below_lt b (n:=30) zO
    generalize c5.below b 30=r6 at h6 o6 b6
    obtain⟨v6,c6⟩:=r6
    dsimp only at h6 o6 b6
    obtain⟨n,hn⟩:=K1 (show 0<=1+v6 by omega)
    have hT:=dS b c6 o6 n zO
    have oT:=iP (n:=n) o6
    have lT:=iq b n c6
    generalize jg b n c6=T at hT oT lT
    obtain⟨T,cT⟩:=T
    dsimp only at hT oT lT
    have hW:=fM a T f3.g.s zO (gM f3.g.o)
    have hh:=f3.writeAll (t:=T)
    have hl:=gu (k:=3) (e:=(cf a T).1)
    rw [<-writeAll] at hl
    generalize writeAll a T=Q at hW hh hl
    obtain⟨x',ls⟩:=Q
    dsimp only at hW hh hl
    try simp (disch:=omega) only [go_sem,seval,hv]
    refine bj [(0,3),(0,5)] [(3,5)] [(qU [1,2,0,1,3,9]),(qU [1,4,0,1,5,7]),(qU [1,5,0,1,6,6])] (by kernel_rfl) (qC) (by kernel_rfl) ?_
    simp only [aR]
    refine⟨ab 400 ?_,ab 400 ?_,ab 400 ?_⟩
    all_goals simp (disch:=omega) only [go_sem,seval]
    all_goals
     refine al (qC) (h6) (qI 0 2) qM zF (ab 400 ?_)
     simp (disch:=omega) only [go_sem,seval]
     try simp (disch:=omega) only [go_sem,seval,hn]
     refine al (qC) (hT) (qI 0 2) qM zF (ab 400 ?_)
     simp (disch:=omega) only [go_sem,seval]
     refine al (qC) (hW) (qI 4 7) qM zF (ab 400 ?_)
     simp (disch:=omega) only [go_sem,seval]
     refine qG ?_
     refine aM (qC) (bq b cT oT x' d hh f4 ls zO) (qI 0 2++qI 23 7++qI 11 7++qI 30 1) qM zF fun z hz=>af 400 ?_
     simp (disch:=omega) only [go_sem,seval]
     obtain⟨x2,y2,c9⟩:=z
     obtain⟨o9,hx9,hy9⟩:=hz
     dsimp only at o9 hx9 hy9
     exact qN hN (k+1,x2,y2,c9) (qI 0 4++qI 31 14++qI 18 2) (by (try dsimp only);exact⟨zO,o9,hx9,hy9⟩)
   ·have h6:=ac b c5 o5 30
    have o6:=CurD.below_ok o5 30
    have b6:=c5.below_lt b (n:=30) zO
    generalize c5.below b 30=r6 at h6 o6 b6
    obtain⟨v6,c6⟩:=r6
    dsimp only at h6 o6 b6
    obtain⟨n,hn⟩:=K1 (show 0<=1+v6 by omega)
    have hT:=dS b c6 o6 n zO
    have oT:=iP (n:=n) o6
    have lT:=iq b n c6
    generalize jg b n c6=T at hT oT lT
    obtain⟨T,cT⟩:=T
    dsimp only at hT oT lT
    have hW:=fM a T f3.g.s zO (gM f3.g.o)
    have hh:=f3.writeAll (t:=T)
    have hl:=gu (k:=3) (e:=(cf a T).1)
    rw [<-writeAll] at hl
    generalize writeAll a T=Q at hW hh hl
    obtain⟨x',ls⟩:=Q
    dsimp only at hW hh hl
    try simp (disch:=omega) only [go_sem,seval,hv]
    refine bj [(0,3),(0,5)] [(3,5)] [(qU [1,2,0,1,3,9]),(qU [1,4,0,1,5,7]),(qU [1,5,0,1,6,6])] (by kernel_rfl) (qC) (by kernel_rfl) ?_
    simp only [aR]
    refine⟨ab 400 ?_,ab 400 ?_,ab 400 ?_⟩
    all_goals simp (disch:=omega) only [go_sem,seval]
    all_goals
     refine al (qC) (h6) (qI 0 2) qM zF (ab 400 ?_)
     simp (disch:=omega) only [go_sem,seval]
     try simp (disch:=omega) only [go_sem,seval,hn]
     refine al (qC) (hT) (qI 0 2) qM zF (ab 400 ?_)
     simp (disch:=omega) only [go_sem,seval]
     refine al (qC) (hW) (qI 4 7) qM zF (ab 400 ?_)
     simp (disch:=omega) only [go_sem,seval]
     refine qG ?_
     refine aM (qC) (bq b cT oT x' d hh f4 ls zO) (qI 0 2++qI 23 7++qI 11 7++qI 30 1) qM zF fun z hz=>af 400 ?_
     simp (disch:=omega) only [go_sem,seval]
     obtain⟨x2,y2,c9⟩:=z
     obtain⟨o9,hx9,hy9⟩:=hz
     dsimp only at o9 hx9 hy9
     exact qN hN (k+1,x2,y2,c9) (qI 0 4++qI 31 14++qI 18 2) (by (try dsimp only);exact⟨zO,o9,hx9,hy9⟩)
   ·have h6:=ac b c5 o5 3
    have o6:=CurD.below_ok o5 3
    have b6:=c5.below_lt b (n:=3) zO
    generalize c5.below b 3=r6 at h6 o6 b6
    obtain⟨v6,c6⟩:=r6
    dsimp only at h6 o6 b6
    have h7:=ac b c6 o6 3
    have o7:=CurD.below_ok o6 3
    have b7:=c6.below_lt b (n:=3) zO
    generalize c6.below b 3=r7 at h7 o7 b7
    obtain⟨v7,c7⟩:=r7
    dsimp only at h7 o7 b7
    have h8:=bX b c7 o7 4
    have o8:=CurD.below_ok o7 4
    have b8:=c7.below_lt b (n:=4) zO
    generalize c7.below b 4=r8 at h8 o8 b8
    obtain⟨v8,c8⟩:=r8
    dsimp only at h8 o8 b8
    generalize hq8:(v8 == 0)=q8 at h8
    have sd:=f3.ok.side
    have hW:=oy a ⟨1+v6,10*a.side+2+v7,q8,false⟩ f3.g.s
    have hh:=f3.addOwn (a:=⟨1+v6,10*a.side+2+v7,q8,false⟩)
    generalize addOwn a ⟨1+v6,10*a.side+2+v7,q8,false⟩=Q at hW hh
    obtain⟨x',ok⟩:=Q
    dsimp only at hW hh
    try simp (disch:=omega) only [go_sem,seval,hv]
    refine bj [(0,2),(0,9),(0,12),(2,5),(5,9),(5,12)] [(2,9),(9,12)] [(qU [1,1,4,1,8,1,11,1,0,1,2,2,5,3,9,2,12,7]),[1,4,8,11,0,2,3,9,5,6,7,10,12,13,14,15,16,17,18],[1,4,8,11,0,2,3,9,12,5,6,7,10,13,14,15,16,17,18],(qU [1,1,4,1,8,1,11,1,0,1,5,3,2,2,9,2,12,7]),(qU [1,1,4,1,8,1,11,1,2,2,0,1,5,3,9,2,12,7]),[1,4,8,11,2,3,0,9,5,6,7,10,12,13,14,15,16,17,18],[1,4,8,11,2,3,0,9,12,5,6,7,10,13,14,15,16,17,18],(qU [1,1,4,1,8,1,11,1,5,3,2,2,0,1,9,2,12,7]),(qU [1,1,4,1,8,1,11,1,2,2,5,3,9,2,0,1,12,7]),[1,4,8,11,2,3,9,0,5,6,7,10,12,13,14,15,16,17,18],[1,4,8,11,2,3,9,0,12,5,6,7,10,13,14,15,16,17,18],(qU [1,1,4,1,8,1,11,1,5,3,2,2,9,2,0,1,12,7]),[1,4,8,11,2,3,5,6,7,9,10,12,0,13,14,15,16,17,18],[1,4,8,11,2,3,9,5,6,7,10,12,0,13,14,15,16,17,18],[1,4,8,11,2,3,9,12,0,5,6,7,10,13,14,15,16,17,18],[1,4,8,11,5,6,7,2,3,9,10,12,0,13,14,15,16,17,18]] (by kernel_rfl) (qC) (by kernel_rfl) ?_
    simp only [aR]
    refine⟨ab 400 ?_,ab 400 ?_,ab 400 ?_,ab 400 ?_,ab 400 ?_,ab 400 ?_,ab 400 ?_,ab 400 ?_,ab 400 ?_,ab 400 ?_,ab 400 ?_,ab 400 ?_,ab 400 ?_,ab 400 ?_,ab 400 ?_,ab 400 ?_⟩
    all_goals simp (disch:=omega) only [go_sem,seval]
    all_goals
     refine al (qC) (h6) (qI 0 2) qM zF (ab 400 ?_)
     simp (disch:=omega) only [go_sem,seval]
     refine al (qC) (h7) (qI 0 2) qM zF (ab 400 ?_)
     simp (disch:=omega) only [go_sem,seval]
     refine al (qC) (h8) (qI 0 2) qM zF (ab 400 ?_)
     simp (disch:=omega) only [go_sem,seval]
     refine al (qC) (hW) (qI 4 7) qM zF (ab 400 ?_)
     simp (disch:=omega) only [go_sem,seval]
     refine qG ?_
     refine aM (qC) (bq b c8 o8 x' d hh f4 [] zP) (qI 0 2++qI 23 7++qI 11 7++qI 22 1) qM zF fun z hz=>af 400 ?_
     simp (disch:=omega) only [go_sem,seval]
     obtain⟨x2,y2,c9⟩:=z
     obtain⟨o9,hx9,hy9⟩:=hz
     dsimp only at o9 hx9 hy9
     exact qN hN (k+1,x2,y2,c9) (qI 0 4++qI 30 14++qI 18 2) (by (try dsimp only);exact⟨zO,o9,hx9,hy9⟩)
   ·have hW:=uv a f3.g.s f3.g.o
    have hh:=f3.tick
    have hl:=xK a
    generalize tick a=Q at hW hh hl
    obtain⟨x',ls⟩:=Q
    dsimp only at hW hh hl
    try simp (disch:=omega) only [go_sem,seval,hv]
    refine qK (hW) (qI 4 7) ?_
    refine aM (qC) (bq b c5 o5 x' d hh f4 ls zO) (qI 0 2++qI 23 7++qI 11 7++qI 30 1) qM zF fun z hz=>af 400 ?_
    simp (disch:=omega) only [go_sem,seval]
    obtain⟨x2,y2,c9⟩:=z
    obtain⟨o9,hx9,hy9⟩:=hz
    dsimp only at o9 hx9 hy9
    exact qN hN (k+1,x2,y2,c9) (qI 0 4++qI 31 14++qI 18 2) (by (try dsimp only);exact⟨zO,o9,hx9,hy9⟩)
   ·have hW:=g_ a f3.g.s
    have hh:=f3.manage
    have hl:=i7 a
    generalize manage a=Q at hW hh hl
    obtain⟨x',ls⟩:=Q
    dsimp only at hW hh hl
    try simp (disch:=omega) only [go_sem,seval,hv]
    refine qK (hW) (qI 4 7) ?_
    refine aM (qC) (bq b c5 o5 x' d hh f4 ls zO) (qI 0 2++qI 23 7++qI 11 7++qI 30 1) qM zF fun z hz=>af 400 ?_
    simp (disch:=omega) only [go_sem,seval]
    obtain⟨x2,y2,c9⟩:=z
    obtain⟨o9,hx9,hy9⟩:=hz
    dsimp only at o9 hx9 hy9
    exact qN hN (k+1,x2,y2,c9) (qI 0 4++qI 31 14++qI 18 2) (by (try dsimp only);exact⟨zO,o9,hx9,hy9⟩)
   ·have hW:=g_ a f3.g.s
    have hh:=f3.manage
    have hl:=i7 a
    generalize manage a=Q at hW hh hl
    obtain⟨x',ls⟩:=Q
    dsimp only at hW hh hl
    try simp (disch:=omega) only [go_sem,seval,hv]
    refine qK (hW) (qI 4 7) ?_
    refine aM (qC) (bq b c5 o5 x' d hh f4 ls zO) (qI 0 2++qI 23 7++qI 11 7++qI 30 1) qM zF fun z hz=>af 400 ?_
    simp (disch:=omega) only [go_sem,seval]
    obtain⟨x2,y2,c9⟩:=z
    obtain⟨o9,hx9,hy9⟩:=hz
    dsimp only at o9 hx9 hy9
    exact qN hN (k+1,x2,y2,c9) (qI 0 4++qI 31 14++qI 18 2) (by (try dsimp only);exact⟨zO,o9,hx9,hy9⟩)
   have h6:=ac b c5 o5 30
   have o6:=CurD.below_ok o5 30
   have b6:=c5.below_lt b (n:=30) zO
   generalize c5.below b 30=r6 at h6 o6 b6
   obtain⟨v6,c6⟩:=r6
   dsimp only at h6 o6 b6
   have hW:=tZ a v6 f3.g.s f3.g.p
   have hh:=f3.read (m:=v6)
   generalize b_ a v6=Q at hW hh
   obtain⟨x',tx⟩:=Q
   dsimp only at hW hh
   refine qX ?_
   refine bj [(0,2)] [] [[1,0,2,3,4,5,6,7],[1,2,0,3,4,5,6,7]] (by kernel_rfl) (qC) (by kernel_rfl) ?_
   simp only [aR]
   refine⟨ab 400 ?_,ab 400 ?_⟩
   all_goals simp (disch:=omega) only [go_sem,seval]
   all_goals
    refine al (qC) (h6) (qI 0 2) qM zF (ab 400 ?_)
    simp (disch:=omega) only [go_sem,seval]
    refine al (qC) (hW) (qI 4 7) qM zF (ab 400 ?_)
    simp (disch:=omega) only [go_sem,seval]
    refine qG ?_
    refine aM (qC) (bq b c6 o6 x' d hh f4 [] zP) (qI 0 2++qI 23 7++qI 11 7++qI 22 1) qM zF fun z hz=>af 400 ?_
    simp (disch:=omega) only [go_sem,seval]
    obtain⟨x2,y2,c9⟩:=z
    obtain⟨o9,hx9,hy9⟩:=hz
    dsimp only at o9 hx9 hy9
    exact qN hN (k+1,x2,y2,c9) (qI 0 4++qI 30 14++qI 18 2) (by (try dsimp only);exact⟨zO,o9,hx9,hy9⟩)
 refine qX ?_
 refine aX [(1,2)] [[0,1,2,3],[0,2,1,3]] (by kernel_rfl) (qC) (by kernel_rfl) ?_
 simp only [aR]
 refine⟨aa 400 ?_,aa 400 ?_⟩
 all_goals simp (disch:=omega) only [go_sem,seval]
 all_goals
  refine qG ?_
  refine am (a,d,c3) (⟨o3,f3,f4⟩) (qI 0 2++qI 4 14) (qC) _ (by simp only [go_sem];rfl) zF zF ?_
  simp (disch:=omega) only [go_sem,seval]
theorem yw (b:List UInt8) (c:CurD) (hc:c.ok b):f_ Tryz.prog 46 [.sc (.pt 1 0 0)] (c.hp b) (fun z:EndD×CurD=>z.2.ok b/\Hale z.1) (fun z=>.ag (z.1.cs 2)) (fun z=>z.2.hp b++z.1.hp true):=by
 refine dB func46 (by kernel_rfl) rfl fun E hE=>af 400 ?_
 simp (disch:=omega) only [ntmps46,results46,go_sem,seval]
 refine aM (qC) (v_ b c hc) (qI 0 2) qM zF fun z hz=>af 400 ?_
 simp (disch:=omega) only [go_sem,seval]
 obtain⟨a,d,c1⟩:=z
 obtain⟨o1,f3,f4⟩:=hz
 dsimp only at o1 f3 f4
 have h2:=bX b c1 o1 2
 have o2:=CurD.below_ok o1 2
 have b2:=c1.below_lt b (n:=2) zO
 generalize c1.below b 2=r2 at h2 o2 b2
 obtain⟨v2,c2⟩:=r2
 dsimp only at h2 o2 b2
 generalize hq2:(v2 == 0)=q2 at h2
 refine qK (h2) (qI 0 2) ?_
 cases q2 with
 |true=>
  refine qX ?_
  refine am (a,c2) (⟨o2,f3⟩) (qI 0 2++qI 3 7) (qC) _ (by simp only [go_sem];rfl) zF zF ?_
  simp (disch:=omega) only [go_sem,seval]
 |false=>
  refine qX ?_
  refine am (d,c2) (⟨o2,f4⟩) (qI 0 2++qI 10 7) (qC) _ (by simp only [go_sem];rfl) zF zF ?_
  simp (disch:=omega) only [go_sem,seval]
theorem AJ:∀ {l:List Int} {a b:Int},l.Pairwise (fun x y=>x < y)->(∀ n∈l,a<=n/\n<=b)->a<=b+1->(l.length:Int)<=b+1 - a
 |[],a,b,_,_,h=>by simp only [K3];omega
 |x::r,a,b,hp,hm,h=>by
  have hx:=hm x (K2 ..)
  rw [List.pairwise_cons] at hp
  have:=AJ (l:=r) (a:=x+1) (b:=b) hp.2 (fun n hn=>⟨by have:=hp.1 n hn;omega,(hm n (K4 _ hn)).2⟩) zO
  rw [K0]
  omega
theorem wc {α:Type} {P:α->Prop} {l:List α} {x:α} (h:∀ s∈l,P s) (hx:P x):∀ s∈l++[x],P s:=fun s hs=>by
 rcases Lb.1 hs with hs|hs
 ·exact h s hs
 rw [K_.1 hs];exact hx
theorem Hu (b:List UInt8) (c:CurD) (hc:c.ok b):f_ Tryz.prog 19 [.sc (.pt 1 0 0)] (c.hp b) (fun z:EndD×CurD=>z.2.ok b/\Drn z.1) (fun z=>.ag (z.1.cs 2)) (fun z=>z.2.hp b++z.1.hp false):=by
 refine dB func19 (by kernel_rfl) rfl fun E hE=>af 400 ?_
 simp (disch:=omega) only [ntmps19,results19,go_sem,seval]
 refine aM (qC) (yw b c hc) (qI 0 2) qM zF fun z hz=>af 400 ?_
 simp (disch:=omega) only [go_sem,seval]
 obtain⟨e,c1⟩:=z
 obtain⟨o1,hh⟩:=hz
 dsimp only at o1 hh
 have hd:=hh.drn
 have e8:=hh.ok.subs8
 have eo:=hh.ok.own.len
 have ef:=hh.ok.far.len
 have ed:=AJ hh.ok.done.pw (fun n hn=>(hh.ok.done.el n hn).1) zO
 have ev:=AJ hh.ok.over.pw (fun n hn=>(hh.ok.over.el n hn).1) zO
 have wfs:(∀ s∈e.subs,SubD.wf s)/\(∀ n∈e.done,aY n)/\∀ n∈e.over,aY n:=by
  obtain⟨a1,a2,a3,a4,a5,a6,a7,a8,a9,a10,a11,a12,a13,a14,a15,a16,a17,a18,b1,b2,b3,b4,b5,b6,b7,c1,c2,c3,c4,c5,c6,c7⟩:=hd.wf
  exact⟨b3,b6,b7⟩
 obtain⟨ws,wd,wo⟩:=wfs
 have h2:=ac b c1 o1 18
 have o2:=CurD.below_ok o1 18
 have b2:=c1.below_lt b (n:=18) zO
 generalize c1.below b 18=r2 at h2 o2 b2
 obtain⟨v2,c2⟩:=r2
 dsimp only at h2 o2 b2
 refine qK (h2) (qI 0 2) ?_
 have hv:v2=0\/v2=1\/v2=2\/v2=3\/v2=4\/v2=5\/v2=6\/v2=7\/v2=8\/v2=9\/v2=10\/v2=11\/v2=12\/(v2≠0/\v2≠1/\v2≠2/\v2≠3/\v2≠4/\v2≠5/\v2≠6/\v2≠7/\v2≠8/\v2≠9/\v2≠10/\v2≠11/\v2≠12):=zO
 rcases hv with hv|hv|hv|hv|hv|hv|hv|hv|hv|hv|hv|hv|hv|⟨q0,q1,q2,q3,q4,q5,q6,q7,q8,q9,q10,q11,q12⟩
 ·have h3:=ac b c2 o2 4
  have o3:=CurD.below_ok o2 4
  have b3:=c2.below_lt b (n:=4) zO
  generalize c2.below b 4=r3 at h3 o3 b3
  obtain⟨v3,c3⟩:=r3
  dsimp only at h3 o3 b3
  try simp (disch:=omega) only [go_sem,seval,hv]
  refine qK (h3) (qI 0 2) ?_
  refine am ({ e with side:=v3 },c3) (⟨o3,hd.side (bt zO)⟩) (qI 0 2++qI 3 7) (qC) _ (by simp only [go_sem];rfl) zF zF ?_
  simp (disch:=omega) only [go_sem,seval]
 ·have h3:=ax b c2 o2 [-1,0,1,3] zD zD
  have o3:=CurD.below_ok o2 (b:=b) 4
  have m3:=c2.pick_mem b (l:=[-1,0,1,3]) zD
  have w3:=(by decide:∀ x∈([-1,0,1,3]:List Int),-1<=x/\x<=3) _ m3
  rw [show (([-1,0,1,3]:List Int).length:Int)=4 from rfl] at h3
  generalize c2.pick b [-1,0,1,3]=v3 at h3 w3
  clear m3
  generalize c2.below b 4=r3 at h3 o3
  obtain⟨u3,c3⟩:=r3
  dsimp only at h3 o3
  try simp (disch:=omega) only [go_sem,seval,hv]
  refine qK (h3) (qI 0 2++qI 11 1) ?_
  refine am ({ e with state:=v3 },c3) (⟨o3,hd.state (bt zO)⟩) (qI 0 2++qI 3 7) (qC) _ (by simp only [go_sem];rfl) zF zF ?_
  simp (disch:=omega) only [go_sem,seval]
 ·have h3:=ax b c2 o2 [0,1000000000,999999998,-1] zD zD
  have o3:=CurD.below_ok o2 (b:=b) 4
  have m3:=c2.pick_mem b (l:=[0,1000000000,999999998,-1]) zD
  have w3:=(by decide:∀ x∈([0,1000000000,999999998,-1]:List Int),-1<=x/\x<=1000000000) _ m3
  rw [show (([0,1000000000,999999998,-1]:List Int).length:Int)=4 from rfl] at h3
  generalize c2.pick b [0,1000000000,999999998,-1]=v3 at h3 w3
  clear m3
  generalize c2.below b 4=r3 at h3 o3
  obtain⟨u3,c3⟩:=r3
  dsimp only at h3 o3
  try simp (disch:=omega) only [go_sem,seval,hv]
  refine qK (h3) (qI 0 2++qI 11 1) ?_
  refine am ({ e with draw:=v3 },c3) (⟨o3,hd.draw (bt zO)⟩) (qI 0 2++qI 3 7) (qC) _ (by simp only [go_sem];rfl) zF zF ?_
  simp (disch:=omega) only [go_sem,seval]
 ·have h3:=ax b c2 o2 [-1,1000000000,1000000001] zD zD
  have o3:=CurD.below_ok o2 (b:=b) 3
  have m3:=c2.pick_mem b (l:=[-1,1000000000,1000000001]) zD
  have w3:=(by decide:∀ x∈([-1,1000000000,1000000001]:List Int),-1<=x/\x<=1000000001) _ m3
  rw [show (([-1,1000000000,1000000001]:List Int).length:Int)=3 from rfl] at h3
  generalize c2.pick b [-1,1000000000,1000000001]=v3 at h3 w3
  clear m3
  generalize c2.below b 3=r3 at h3 o3
  obtain⟨u3,c3⟩:=r3
  dsimp only at h3 o3
  try simp (disch:=omega) only [go_sem,seval,hv]
  refine qK (h3) (qI 0 2++qI 11 1) ?_
  refine am ({ e with now:=v3 },c3) (⟨o3,hd.now (bt zO)⟩) (qI 0 2++qI 3 7) (qC) _ (by simp only [go_sem];rfl) zF zF ?_
  simp (disch:=omega) only [go_sem,seval]
 ·try simp (disch:=omega) only [go_sem,seval,hv]
  refine aM (qC) (yd b c2 o2) (qI 0 2) qM zF fun u hu=>af 400 ?_
  simp (disch:=omega) only [go_sem,seval]
  obtain⟨l,c5⟩:=u
  obtain⟨o5,h5,w5⟩:=hu
  dsimp only at o5 h5 w5
  refine am ({ e with own:=l },c5) (⟨o5,hd.own zO w5⟩) (qI 0 2++qI 11 1++qI 4 6) (qC) _ (by simp only [go_sem];rfl) zF zF ?_
  simp (disch:=omega) only [go_sem,seval]
 ·try simp (disch:=omega) only [go_sem,seval,hv]
  refine aM (qC) (ye b c2 o2) (qI 0 2) qM zF fun u hu=>af 400 ?_
  simp (disch:=omega) only [go_sem,seval]
  obtain⟨l,c5⟩:=u
  obtain⟨o5,h5,w5⟩:=hu
  dsimp only at o5 h5 w5
  refine am ({ e with halfs:=l },c5) (⟨o5,hd.halfs zO w5⟩) (qI 0 2++qI 3 3++qI 11 1++qI 7 3) (qC) _ (by simp only [go_sem];rfl) zF zF ?_
  simp (disch:=omega) only [go_sem,seval]
 ·try simp (disch:=omega) only [go_sem,seval,hv]
  refine aM (qC) (yc b c2 o2) (qI 0 2) qM zF fun u hu=>af 400 ?_
  simp (disch:=omega) only [go_sem,seval]
  obtain⟨x,c5⟩:=u
  obtain⟨o5,h5⟩:=hu
  dsimp only at o5 h5
  refine am ({ e with out:=x },c5) (⟨o5,hd.out h5.1⟩) (qI 0 2++qI 3 7) (qC) _ (by simp only [go_sem];rfl) zF zF ?_
  simp (disch:=omega) only [go_sem,seval]
 ·try simp (disch:=omega) only [go_sem,seval,hv]
  refine aM (qC) (yf b c2 o2) (qI 0 2) qM zF fun u hu=>af 400 ?_
  simp (disch:=omega) only [go_sem,seval]
  obtain⟨x,c5⟩:=u
  obtain⟨o5,h5,w5⟩:=hu
  dsimp only at o5 h5 w5
  refine am ({ e with inp:=x },c5) (⟨o5,hd.inp h5 w5⟩) (qI 0 2++qI 3 4++qI 11 1++qI 8 2) (qC) _ (by simp only [go_sem];rfl) zF zF ?_
  simp (disch:=omega) only [go_sem,seval]
 ·try simp (disch:=omega) only [go_sem,seval,hv]
  refine ki 2 hE (fun s (y:List SubD×CurD)=>s.at (qU [4,3,8,67]) [] (y.2.hp b++((s.hp.drop 2).take 1++(({ e with subs:=y.1 }:EndD).hp true++[some ⟨[({ e with subs:=y.1 }:EndD).cs 3],25,38,true,false⟩])))) (fun (y:List SubD×CurD)=>y.1.length<=9/\y.2.ok b/\∀ s∈y.1,SubD.wf s) (fun (y:List SubD×CurD)=>10 - y.1.length) (e.subs,c2) (qI 0 11) (⟨by show e.subs.length<=9;omega,o2,ws⟩) fun y hy N hN=>?_
  obtain⟨l,c5⟩:=y
  obtain⟨f1,f2,f3⟩:=hy
  dsimp only at f1 f2 f3
  have hD:Drn { e with subs:=l }:=hd.sub zO f3
  cases l with
  |nil=>
   refine qR ?_
   refine bj [(6,9)] [] [(qU [0,6,8,1,6,2,9,4]),(qU [0,6,8,2,6,2,10,3])] (by kernel_rfl) (qC) (by kernel_rfl) ?_
   simp only [aR]
   refine⟨ab 400 ?_,ab 400 ?_⟩
   all_goals simp (disch:=omega) only [go_sem,seval]
   all_goals
    refine qG ?_
    refine am ({ e with subs:=[] },c5) (⟨f2,hD⟩) (qI 0 2++qI 3 7) (qC) _ (by simp only [go_sem];rfl) zF zF ?_
    simp (disch:=omega) only [go_sem,seval]
  |cons s r=>
   have h6:=ac b c5 f2 2
   have o6:=CurD.below_ok f2 2
   have b6:=c5.below_lt b (n:=2) zO
   generalize c5.below b 2=r6 at h6 o6 b6
   obtain⟨v6,c6⟩:=r6
   dsimp only at h6 o6 b6
   have wsn:=wc f3 (f3 s (K2 ..))
   refine qR ?_
   refine bj [(6,9)] [] [(qU [0,6,8,1,6,2,9,4]),(qU [0,6,8,2,6,2,10,3])] (by kernel_rfl) (qC) (by kernel_rfl) ?_
   simp only [aR]
   refine⟨ab 400 ?_,ab 400 ?_⟩
   all_goals simp (disch:=omega) only [go_sem,seval]
   all_goals
    refine al (qC) (h6) (qI 0 2) qM zF (ab 400 ?_)
    simp (disch:=omega) only [go_sem,seval]
    refine qG ?_
    by_cases h8:((s::r).length:Int) < 8+v6
    ·rw [K0] at h8
     refine qX ?_
     refine bj [] [] [(qU [0,10])] (by kernel_rfl) (qC) (by kernel_rfl) ?_
     simp only [aR]
     refine ab 400 ?_
     all_goals simp (disch:=omega) only [go_sem,seval]
     all_goals
      refine qG ?_
      refine⟨qC,hN _ (s::r++[s],c6) (qI 0 5++qI 12 1++qI 6 5) (by (try dsimp only);exact⟨by simp only [KZ,K0,K3] at*;omega,o6,wsn⟩) (by simp only [KZ,K0,K3] at*;omega) (bM zF zF ?_)⟩
      try simp (disch:=omega) only [go_sem,seval]
      try simp [SubD.cs]
    rw [K0] at h8
    refine qX ?_
    refine am ({ e with subs:=s::r },c6) (⟨o6,hD⟩) (qI 0 2++qI 3 7) (qC) _ (by simp only [go_sem];rfl) zF zF ?_
    simp (disch:=omega) only [go_sem,seval]
 ·have h6:=ac b c2 o2 6
  have o6:=CurD.below_ok o2 6
  have b6:=c2.below_lt b (n:=6) zO
  generalize c2.below b 6=r6 at h6 o6 b6
  obtain⟨v6,c6⟩:=r6
  dsimp only at h6 o6 b6
  cases hs:e.subs with
  |nil=>
   try simp (disch:=omega) only [go_sem,seval,hv,hs]
   refine am ({ e with subs:=[] },c2) (⟨o2,hd.sub zP (fun s h=>by simp at h)⟩) (qI 0 2++qI 3 7) (qC) _ (by simp only [go_sem];rfl) zF zF ?_
   simp (disch:=omega) only [go_sem,seval]
  |cons s r=>
   have w0:=ws s (by rw [hs];exact K2 ..)
   have hD:Drn { e with subs:={ s with state:=v6 }::r }:=hd.sub (by rw [hs] at e8;simp only [K0] at e8⊢;omega) (fun t ht=>by
    rcases K5.1 ht with rfl|ht
    ·simp only [SubD.wf,aY] at w0⊢;omega
    exact ws t (by rw [hs];exact K4 _ ht))
   try simp (disch:=omega) only [go_sem,seval,hv,hs]
   refine bj [(1,3)] [] [[0,2,1,3,4,5,6],[0,2,3,1,4,5,6]] (by kernel_rfl) (qC) (by kernel_rfl) ?_
   simp only [aR]
   refine⟨ab 400 ?_,ab 400 ?_⟩
   all_goals simp (disch:=omega) only [go_sem,seval]
   all_goals
    refine al (qC) (h6) (qI 0 2) qM zF (ab 400 ?_)
    simp (disch:=omega) only [go_sem,seval]
    refine⟨qC,af 400 ?_⟩
    try simp (disch:=omega) only [go_sem,seval,hs]
    refine am ({ e with subs:={ s with state:=v6 }::r },c6) (⟨o6,hD⟩) (qI 0 2++qI 3 7) (qC) _ (by simp only [go_sem];rfl) zF zF ?_
    simp (disch:=omega) only [go_sem,seval]
    try simp [SubD.cs,hs]
 ·have h3:=ax b c2 o2 [1000000000,-1,5] zD zD
  have o3:=CurD.below_ok o2 (b:=b) 3
  have m3:=c2.pick_mem b (l:=[1000000000,-1,5]) zD
  have w3:=(by decide:∀ x∈([1000000000,-1,5]:List Int),-1<=x/\x<=1000000000) _ m3
  rw [show (([1000000000,-1,5]:List Int).length:Int)=3 from rfl] at h3
  generalize c2.pick b [1000000000,-1,5]=v3 at h3 w3
  clear m3
  generalize c2.below b 3=r3 at h3 o3
  obtain⟨u3,c3⟩:=r3
  dsimp only at h3 o3
  try simp (disch:=omega) only [go_sem,seval,hv]
  refine qK (h3) (qI 0 2++qI 11 1) ?_
  refine am ({ e with pick:=v3 },c3) (⟨o3,hd.pick (bt zO)⟩) (qI 0 2++qI 3 7) (qC) _ (by simp only [go_sem];rfl) zF zF ?_
  simp (disch:=omega) only [go_sem,seval]
 ·have h3:=ac b c2 o2 4
  have o3:=CurD.below_ok o2 4
  have b3:=c2.below_lt b (n:=4) zO
  generalize c2.below b 4=r3 at h3 o3 b3
  obtain⟨v3,c3⟩:=r3
  dsimp only at h3 o3 b3
  try simp (disch:=omega) only [go_sem,seval,hv]
  refine bj [(1,3)] [] [[0,2,1,3,4,5,6,7],[0,2,3,1,4,5,6,7]] (by kernel_rfl) (qC) (by kernel_rfl) ?_
  simp only [aR]
  refine⟨ab 400 ?_,ab 400 ?_⟩
  all_goals simp (disch:=omega) only [go_sem,seval]
  all_goals
   refine al (qC) (h3) (qI 0 2) qM zF (ab 400 ?_)
   simp (disch:=omega) only [go_sem,seval]
   refine qG ?_
   refine am ({ e with done:=e.done++[v3] },c3) (⟨o3,hd.done (by rw [KZ,K7];omega) (wc wd (bt zO))⟩) (qI 0 2++qI 3 5++qI 12 1++qI 9 1) (qC) _ (by simp only [go_sem];rfl) zF zF ?_
   simp (disch:=omega) only [go_sem,seval]
   try simp [cv]
 ·have h3:=ax b c2 o2 [3,256,-1,0] zD zD
  have o3:=CurD.below_ok o2 (b:=b) 4
  have m3:=c2.pick_mem b (l:=[3,256,-1,0]) zD
  have w3:=(by decide:∀ x∈([3,256,-1,0]:List Int),-1<=x/\x<=256) _ m3
  rw [show (([3,256,-1,0]:List Int).length:Int)=4 from rfl] at h3
  generalize c2.pick b [3,256,-1,0]=v3 at h3 w3
  clear m3
  generalize c2.below b 4=r3 at h3 o3
  obtain⟨u3,c3⟩:=r3
  dsimp only at h3 o3
  try simp (disch:=omega) only [go_sem,seval,hv]
  refine bj [(1,4),(3,1)] [(3,4)] [[0,2,3,1,4,5,6,7,8],[0,2,1,3,4,5,6,7,8],[0,2,3,4,1,5,6,7,8]] (by kernel_rfl) (qC) (by kernel_rfl) ?_
  simp only [aR]
  refine⟨ab 400 ?_,ab 400 ?_,ab 400 ?_⟩
  all_goals simp (disch:=omega) only [go_sem,seval]
  all_goals
   refine al (qC) (h3) (qI 0 2++qI 11 1) qM zF (ab 400 ?_)
   simp (disch:=omega) only [go_sem,seval]
   refine qG ?_
   refine am ({ e with over:=e.over++[v3] },c3) (⟨o3,hd.over (by rw [KZ,K7];omega) (wc wo (bt zO))⟩) (qI 0 2++qI 3 6++qI 13 1) (qC) _ (by simp only [go_sem];rfl) zF zF ?_
   simp (disch:=omega) only [go_sem,seval]
   try simp [cv]
 refine qX ?_
 refine am (e,c2) (⟨o2,hd⟩) (qI 0 2++qI 3 7) (qC) _ (by simp only [go_sem];rfl) zF zF ?_
 simp (disch:=omega) only [go_sem,seval]
theorem GoodW.mono {w:WorldD} {k j:Nat} (h:GoodW w k) (hk:k<=j):GoodW w j:=⟨h.a,h.b,h.r,by have:=h.wa;omega,by have:=h.wb;omega,by have:=h.ra;omega,by have:=h.rb;omega⟩
end
end Go.Proofs.YtdiiopjaebnmfaaGreat
