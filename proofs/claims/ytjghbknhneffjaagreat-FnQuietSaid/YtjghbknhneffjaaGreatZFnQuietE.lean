/-
  Texts merged for this claim by shake.py: what its proof needs.
-/
import Derived.Test.YtjghbknhneffjaaGreatZFnB2K
import Derived.Test.YtjghbknhneffjaaGreatZFnB2L
import Derived.Test.YtjghbknhneffjaaGreatZFnQuietA
import Derived.Test.YtjghbknhneffjaaGreatZFnQuietB
import Derived.Test.YtjghbknhneffjaaGreatZFnQuietC
import Derived.Test.YtjghbknhneffjaaGreatZFnQuietD
set_option maxHeartbeats 16000000
set_option maxRecDepth 100000
set_option linter.unusedVariables false
set_option linter.unusedSimpArgs false
namespace Go.Proofs.YtjghbknhneffjaaGreat
section
open Go.RowKit
section
variable {P:Program} {β:Be} {s:S} {w:World} {tm:Array Value}
end
end
section
open Go.RowKit
end
section
open Go.ChangeShapes Go.WideShapes Go.ChangeAt Go.RowKit
section
variable {H:Type} {enc:TypeId×Value->H} {P:Program} {w:World} {base:Nat} {held:Bool}
end
end
section
open Go.RowKit
end
section
end
section
end
section
end
section
end
section
open Go.RowKit
structure Fine0 (w:WorldD):Prop where
 g:GoodW w 0
 f:FewW w
 bag:w.bag=[]
 past:w.past=[]
 tags:w.known.tags=[]
 st:Start w
 s2:Start2 w
theorem I1 (p:PolicyD) (hp:p∈Er):∃ w:WorldD,Fine0 w/\aP 87 [.ag p.cs] [] (.tu [.ag (w.cs 0),.sc (.bo true)]) (w.hp true):=by
 have h1:=Bh 1 11 p
 have h2:=Bh 2 21 p
 have i1:=Jh (s:=1) (by omega) hp
 have i2:=Jh (s:=2) (by omega) hp
 rw [show (10*1+1:Int)=11 from rfl] at i1
 rw [show (10*2+1:Int)=21 from rfl] at i2
 rw [i1] at h1
 rw [i2] at h2
 have hm:=List.all_eq_true.1 Jt p hp
 simp only [Bool.and_eq_true] at hm
 obtain⟨⟨⟨m1,m2⟩,m3⟩,m4⟩:=hm
 have hM:=Ci (EO 1 p) (EO 2 p) (t8 m1) (t8 m2)
 have hst:=List.all_eq_true.1 Ju p hp
 have hs2:=List.all_eq_true.1 Ji p hp
 obtain⟨g1,f1⟩:=Bm m3
 obtain⟨g2,f2⟩:=Bm m4
 clear i1 i2 m1 m2 m3 m4
 generalize EO 1 p=a at*
 generalize EO 2 p=c at*
 obtain⟨M,hMM⟩:∃ M,M=pX a c:=⟨_,rfl⟩
 rw [<-hMM] at hM g1 f1 g2 f2 hst hs2
 clear hMM
 obtain⟨X,Y,ok⟩:=M
 dsimp only at hM g1 f1 g2 f2 hst hs2
 simp only [Bool.and_eq_true,decide_eq_true_eq] at hs2
 obtain⟨⟨e1,e2⟩,e3⟩:=hs2
 refine⟨EM X Y,⟨⟨g1,g2,⟨by simp [EM],by simp [EM],by simp [EM],by simp [EM],by simp [EM],by simp [EM],by simp [EM]⟩,by simp [EM],by simp [EM],by simp [EM],by simp [EM]⟩,⟨f1,f2⟩,rfl,rfl,rfl,⟨hst,rfl,rfl,rfl,rfl,rfl,rfl,rfl,rfl,rfl,rfl,rfl⟩,⟨by show X.policy∈Er;rw [e1];exact hp,e2,e3⟩⟩,?_⟩
 refine qE Tryz.func87 Tryz.ntmps87 Tryz.results87 fun E hE=>?_
 refine qK (h1) [] ?_
 refine qK (h2) [] ?_
 refine qK (hM) (qI 2 7++qI 10 7) ?_
 refine qP (qI 20 14++qO 2++qI 18 1++qO 4) ?_
 first|exact⟨⟩|simp [EM,aM]
theorem Jw (w:WorldD) (a:ActD) (hw:SmallD w) (hq:KIq a):aP 86 [.ag (w.cs 0),.ag a.cs] (w.hp false) (.tu [.ag ((iP w a).1.cs 21),.sc (.int .i64 (iP w a).2)]) (w.hp false++(iP w a).1.hp true):=by
 have hC:=ge w hw.p.s
 have hA:=pl a
 cases hok:cO a with
 |false=>
  rw [show iP w a=(w,3) from by rw [iP,if_neg (by simp [hok])]]
  rw [hok] at hA
  dsimp only
  refine qE Tryz.func86 Tryz.ntmps86 Tryz.results86 fun E hE=>?_
  refine qK (hA) [] ?_
  refine qK (hC) (qI 0 21) ?_
  exact qF (qI 0 21++qI 24 21)
 |true=>
  rw [hok] at hA
  by_cases h7:a.kind<=7
  ·have hM:=Jv w a hw hok h7 hq
   have hcode:=ps w a
   rw [show iP w a=eX w a from by rw [iP,if_pos hok,if_pos h7]]
   obtain⟨R,hR⟩:∃ R,R=eX w a:=⟨_,rfl⟩
   rw [<-hR] at hM hcode⊢
   clear hR
   obtain⟨r,c⟩:=R
   dsimp only at hM hcode⊢
   refine qE Tryz.func86 Tryz.ntmps86 Tryz.results86 fun E hE=>?_
   refine qK (hA) [] ?_
   refine qK (hC) (qI 0 21) ?_
   refine qK (hM) (qI 24 22) ?_
   by_cases hz:c=0
   ·subst hz
    refine qX ?_
    exact qF (qI 0 21++qI 46 21)
   have hr:r=w:=by rcases hcode with h|h;exact absurd h hz;exact h
   subst hr
   refine qX ?_
   refine qK (hC) (qI 0 21) ?_
   exact qF (qI 0 21++qI 67 21)
  have hM:=Jj w a hw hok h7 hq
  have hcode:=pe w a
  rw [show iP w a=ce w a from by rw [iP,if_pos hok,if_neg h7]]
  obtain⟨R,hR⟩:∃ R,R=ce w a:=⟨_,rfl⟩
  rw [<-hR] at hM hcode⊢
  clear hR
  obtain⟨r,c⟩:=R
  dsimp only at hM hcode⊢
  refine qE Tryz.func86 Tryz.ntmps86 Tryz.results86 fun E hE=>?_
  refine qK (hA) [] ?_
  refine qK (hC) (qI 0 21) ?_
  refine qK (hM) (qI 24 22) ?_
  by_cases hz:c=0
  ·subst hz
   refine qX ?_
   exact qF (qI 0 21++qI 46 21)
  have hr:r=w:=by rcases hcode with h|h;exact absurd h hz;exact h
  subst hr
  refine qX ?_
  refine qK (hC) (qI 0 21) ?_
  exact qF (qI 0 21++qI 67 21)
theorem h9 (w:WorldD) (a:ActD) (hw:SmallD w) (hq:KSq a):aP 88 [.ag (w.cs 0),.ag a.cs] (w.hp false) (.tu [.ag ((iP w a).1.cs 21),.sc (.int .i64 (iP w a).2)]) (w.hp false++(iP w a).1.hp true):=by
 have hC:=gi w hw.p.s
 have hA:=B8 a
 have hI:=ak a.kind 1 7
 cases hok:cO a with
 |false=>
  rw [show iP w a=(w,3) from by rw [iP,if_neg (by simp [hok])]]
  rw [hok] at hA
  dsimp only
  refine qE Tryz.func88 Tryz.ntmps88 Tryz.results88 fun E hE=>?_
  refine qK (hC) (qI 0 21) ?_
  refine qK (hA) [] ?_
  exact qF (qI 0 21++qI 24 21)
 |true=>
  rw [hok] at hA
  obtain⟨k1,k2,k3,k4,k5,k6⟩:=lk hok
  by_cases h7:a.kind<=7
  ·rw [show iP w a=eX w a from by rw [iP,if_pos hok,if_pos h7]]
   have hin:bj a.kind 1 7=true:=by simp only [bj,Bool.and_eq_true,decide_eq_true_eq];omega
   rw [hin] at hI
   by_cases hb:dl w a=true
   ·have hQ:=A0 w a hw hok hb
    rw [DC hb]
    dsimp only
    refine qE Tryz.func88 Tryz.ntmps88 Tryz.results88 fun E hE=>?_
    refine qK (hC) (qI 0 21) ?_
    refine qK (hA) [] ?_
    refine qK (hI) [] ?_
    refine qK (hQ) (qI 24 21) ?_
    exact qF (qI 0 21++qI 45 21)
   have hQ:=Je w a hw hok h7 hb hq
   obtain⟨R,hR⟩:∃ R,R=eX w a:=⟨_,rfl⟩
   rw [<-hR] at hQ⊢
   clear hR
   obtain⟨r,c⟩:=R
   dsimp only at hQ⊢
   refine qE Tryz.func88 Tryz.ntmps88 Tryz.results88 fun E hE=>?_
   refine qK (hC) (qI 0 21) ?_
   refine qK (hA) [] ?_
   refine qK (hI) [] ?_
   refine qK (hQ) (qI 24 21) ?_
   exact qF (qI 0 21++qI 45 21)
  rw [show iP w a=ce w a from by rw [iP,if_pos hok,if_neg h7]]
  have hin:bj a.kind 1 7=false:=by simp only [bj,Bool.and_eq_false_iff,decide_eq_false_iff_not];omega
  rw [hin] at hI
  by_cases h10:a.kind<=10
  ·have hQ:=Bl w a hw hok h7 h10
   obtain⟨R,hR⟩:∃ R,R=ce w a:=⟨_,rfl⟩
   rw [<-hR] at hQ⊢
   clear hR
   obtain⟨r,c⟩:=R
   dsimp only at hQ⊢
   refine qE Tryz.func88 Tryz.ntmps88 Tryz.results88 fun E hE=>?_
   refine qK (hC) (qI 0 21) ?_
   refine qK (hA) [] ?_
   refine qK (hI) [] ?_
   refine qK (hQ) (qI 24 21) ?_
   exact qF (qI 0 21++qI 46 21)
  simp only [KSq] at hq
  omega
theorem Jk (p:PolicyD) (hp:p∈Er) (l:List ActD) (hl:l.length<=120) (ha:∀ a∈l,EQ a/\CalmA a):∃ (w0:WorldD),Fine0 w0/\aP 31 [.ag p.cs,.sc (.sl 0 0 l.length)] [some ⟨l.map ActD.cs,28,113,false,true⟩]
  (.tu [.ag ((gw l w0 []).1.cs 1),.sc (.sl 22 0 (gw l w0 []).2.length)]) ([some ⟨l.map ActD.cs,28,113,false,true⟩]++((gw l w0 []).1.hp true++[some ⟨(gw l w0 []).2.map aM,1,3,true,true⟩])):=by
 obtain⟨w0,h0,hW⟩:=I1 p hp
 refine⟨w0,h0,?_⟩
 obtain⟨R,hR⟩:∃ R,R=gw l w0 []:=⟨_,rfl⟩
 rw [<-hR]
 refine gU Tryz.func31 Tryz.ntmps31 Tryz.results31 fun E hE=>?_
 refine qK (hW) [] ?_
 refine tD 1 hE (fun s (y:Nat×WorldD×List Int)=>s.at (qU [0,1,2,1,7,1,10,35]) [(9,.sc (.int .i64 (y.1:Nat))),(8,.sc (.sl 25 0 y.2.2.length))] ((s.hp.take 3)++(y.2.1.hp true++[some ⟨[WorldD.cs y.2.1 3],61,44,true,false⟩,some ⟨y.2.2.map aM,1,3,true,true⟩]))) (fun (y:Nat×WorldD×List Int)=>y.1<=l.length/\GoodW y.2.1 y.1/\y.2.2.length=y.1/\gw (l.drop y.1) y.2.1 y.2.2=R) (fun (y:Nat×WorldD×List Int)=>l.length - y.1) (0,w0,[]) (qI 0 26) (⟨Nat.zero_le _,h0.g,rfl,hR.symm⟩) fun y hy N hN=>?_
 obtain⟨k,w,cs⟩:=y
 obtain⟨f1,f2,f3,f4⟩:=hy
 dsimp only at f1 f2 f3 f4
 refine qR ?_
 refine qB (fun h=>?_) fun h=>?_
 ·rw [Bn h] at f4
  have hkk:=(ha l[k] (List.getElem_mem h)).2.ks
  have hak:=(ha l[k] (List.getElem_mem h)).1
  have hD:=h9 w l[k] (f2.d (by omega)) hkk
  have hG:=B5 f2 (a:=l[k]) (by have:=hak.2.1;omega)
  generalize hx:l[k]=x at*
  obtain⟨Q,hQ⟩:∃ Q,Q=iP w x:=⟨_,rfl⟩
  rw [<-hQ] at hD hG f4
  try simp (disch:=omega) only [go_sem,seval,hx]
  refine qD [0,1,2,3,4,5,6,7,8,9,10] ?_
  try simp (disch:=omega) only [go_sem,seval,hx]
  refine aQ (hD) (qI 3 21) ?_
  refine qG ?_
  refine BE hN (k+1,Q.1,cs++[Q.2]) (qI 0 3++qI 26 21++qI 24 1++qI 48 1) (by (try dsimp only);exact⟨by omega,hG,by simp [f3],f4⟩) ?_
  first|exact⟨⟩|simp [aM]
 rw [B9 (by omega)] at f4
 subst f4
 refine qX ?_
 exact dk (qI 0 1++qI 3 21++qI 25 1)
def Jl (P:Program) (f:FuncId) (args:List AV) (h:Hp) {α:Type} (G:α->Prop) (res:α->AV) (h':α->Hp):Prop:=
 td P f/\∀ β w vs,HSim β h w->L2 (dG β) args vs->Calls P f vs.toArray w fun e w'=>∃ x,G x/\∃ β' v,e=.returned v/\dG β' (res x) v/\HSim β' (h' x) w'/\StepR β β' h (h' x) w w'
theorem JJ {P:Program} {E:Entry} {f:FuncId} {args0 avs:List AV} {h0 s:Hp} {α:Type} {G:α->Prop} {res:α->AV} {h':α->Hp} (ct:Jl P f args0 h0 G res h') (ρ:Rho) (hargs:ln ρ args0 avs) (hm:fS ρ s ρ h0) (hsep:co ρ h0=true):
  xW P E f avs s fun r hp=>∃ x,G x/\r=gO ρ s.length (res x)/\hp=cC ρ h0 (h' x) s:=
 ⟨ct.1,fun β w vs _ _ hs hvs=>(ct.2 _ w vs (pA hs hm hsep) (x2 hargs hvs)).mono fun e w' ⟨x,hx,h⟩=>
  ⟨_,_,⟨x,hx,rfl,rfl⟩,tj (P:=P) ρ hargs hm hsep hs hvs h⟩⟩
theorem Jx {P:Program} {E:Entry} {f:FuncId} {args:List AV} {h:Hp} {R R':AV->Hp->Prop} (ct:xW P E f args h R) (hR:∀ r h',R r h'->R' r h'):xW P E f args h R':=
 ⟨ct.1,fun β w vs h1 h2 h3 h4=>(ct.2 β w vs h1 h2 h3 h4).mono fun e w' ⟨r,h',g,k⟩=>⟨r,h',hR r h' g,k⟩⟩
theorem Jc {P:Program} {E:Entry} {F:S->Prop} {f:FuncId} {avs:List AV} {d:Option Tmp} {k:List Item} {s:S} {c:Prop} {args0:List AV} {h0:Hp} {α:Type} {G:α->Prop} {res:α->AV} {h':α->Hp} (hc:c) (ct:Jl P f args0 h0 G res h') (ρ:Rho)
  (hm:ln ρ args0 avs/\fS ρ s.hp ρ h0) (hsep:co ρ h0=true) (hk:∀ x,G x->dX P E F (.go k (s.put d (some (gO ρ s.hp.length (res x))) (cC ρ h0 (h' x) s.hp)) True)):dX P E F (.call f avs d k s c):=
 ⟨hc,Jx (JJ ct ρ hm.1 hm.2 hsep) fun r hp ⟨x,hx,hr,hh⟩=>by subst hr;subst hh;exact (hk x hx).2⟩
def JP (P:Program) (rs:List ResultVar) (n0:Nat) {α:Type} (G:α->Prop) (res:α->AV) (h':α->Hp) (s:S):Prop:=∃ x,G x/\wq P rs n0 (res x) (h' x) s
theorem Jm {P:Program} {E:Entry} {rs:List ResultVar} {n0:Nat} {α:Type} {G:α->Prop} {res:α->AV} {h':α->Hp} {s:S} {c:Prop} (x:α) (hx:G x) (ρ:Rho) (hc:c) (v:AV) (hr:jr P s rs=some v) (hid:wo n0 0 ρ (h' x)=true) (hsep:co ρ (h' x)=true) (hm:sP ρ (res x) v/\fS ρ s.hp ρ (h' x)):
  dX P E (JP P rs n0 G res h') (.fin s c):=⟨hc,x,hx,v,ρ,hr,hid,hsep,hm.1,hm.2⟩
theorem Jn {P:Program} {f:FuncId} {fn:Func} {c:Code} (hf:P.funcs[f]? =some fn) (hname:(fn.name == "runtime.NumGoroutine")=false) (hb:fn.body=some c) {args:List AV} {h:Hp} {α:Type} {G:α->Prop} {res:α->AV} {h':α->Hp}
  (H:∀ E:Entry,E.h.length=h.length->dX P E (JP P fn.results.toList h.length G res h') (.go [.code c] ⟨iF fn.ntmps args,h⟩ True)):Jl P f args h G res h':=by
 refine⟨⟨fn,hf,hname,by rw [hb];rfl⟩,fun β w vs hs hvs=>?_⟩
 refine calls_of_wp hf hb ?_
 let E:Entry:=⟨β,h,w⟩
 have hd:=(H E rfl).2
 refine hd β _ w ⟨rfl,pE hvs,hs,hs.len,StepR.refl β h w hs.len⟩ _ fun e s' β' a' w' hK hs'=>?_
 have key:JP P fn.results.toList h.length G res h' s'->a'.defers=[]/\∃ v,(results fn a'.tmps).run P w'=.ok v w'/\∃ x,G x/\∃ β'' u,Ending.returned v=.returned u/\dG β'' (res x) u/\HSim β'' (h' x) w'/\StepR β β'' h (h' x) w w':=by
  intro⟨x,hx,v,ρ,hr,hid,hsep,hav,hhp⟩
  obtain⟨u,hrun,hu⟩:=tp hs'.hp hs'.sl hr
  have hsim:=oG (E:=E) rfl (t:=⟨[],h' x⟩) (s:=⟨[],s'.hp⟩) ⟨hid,hsep,trivial,hhp⟩ (β:=β') (a:=a') (w:=w') ⟨hs'.dfr,⟨fun i hi=>by simp [Slots.has] at hi,fun i x hx=>by simp [Slots.get] at hx⟩,hs'.hp,hs'.ent,hs'.st⟩
  exact⟨hs'.dfr,u,hrun,x,hx,cI β' ρ,u,rfl,qY hav hu,hsim.hp,hsim.st⟩
 cases e with
 |normal=>exact key hK
 |ret=>exact key hK
 |_=>exact hK.elim
def I_ (a:ActD):ActD:=
 let x:ActD:=if a.kind=6\/a.kind=7\/a.kind=11\/a.kind=12 then⟨8,1,0,0,[],aF,ah⟩ else a
 if x.kind=5 then { x with addr:=⟨1,10*x.side+2,x.addr.spare,x.addr.told⟩} else x
theorem IQ {a:ActD} (h:a.kind=6\/a.kind=7\/a.kind=11\/a.kind=12):I_ a=⟨8,1,0,0,[],aF,ah⟩:=by simp [I_,h]
theorem Jy {a:ActD} (h:a.kind=5):I_ a={ a with addr:=⟨1,10*a.side+2,a.addr.spare,a.addr.told⟩}:=by simp [I_,h]
theorem IR {a:ActD} (h:¬ (a.kind=6\/a.kind=7\/a.kind=11\/a.kind=12)) (h5:¬ a.kind=5):I_ a=a:=by simp only [I_,if_neg h,if_neg h5]
theorem JH {a:ActD} (h:EQ a):EQ (I_ a):=by
 obtain⟨h1,h2,h3⟩:=h
 simp only [cO,bj,gA,Bool.and_eq_true,decide_eq_true_eq] at h3
 by_cases hk:a.kind=6\/a.kind=7\/a.kind=11\/a.kind=12
 ·rw [IQ hk]
  exact⟨by simp [ActD.wf,AddrD.wf,LetterD.wf,TagD.wf,I64,maxLen,ah,aF],by simp,by decide⟩
 by_cases h5:a.kind=5
 ·rw [Jy h5]
  refine⟨?_,h2,?_⟩
  ·simp only [ActD.wf,I64] at h1⊢
   omega
  simp only [cO,bj,gA,Bool.and_eq_true,decide_eq_true_eq]
  exact h3
 rw [IR hk h5]
 exact⟨h1,h2,by simp only [cO,bj,gA,Bool.and_eq_true,decide_eq_true_eq];exact h3⟩
theorem Jz {a:ActD} (h:EQ a):CalmA (I_ a):=by
 obtain⟨h1,h2,h3⟩:=h
 simp only [cO,bj,gA,Bool.and_eq_true,decide_eq_true_eq] at h3
 by_cases hk:a.kind=6\/a.kind=7\/a.kind=11\/a.kind=12
 ·rw [IQ hk];exact⟨by decide,fun h=>by cases h⟩
 by_cases h5:a.kind=5
 ·rw [Jy h5]
  exact⟨by dsimp only;omega,fun _=>⟨rfl,rfl⟩⟩
 rw [IR hk h5]
 exact⟨by omega,fun h=>absurd h h5⟩
def JK (w:WorldD):Prop:=∃ w0 l,Fine0 w0/\l.length<=40/\(∀ a∈l,EQ a/\CalmA a)/\w=(gw l w0 []).1
theorem Ja (b:List UInt8) (c:CurD) (hc:c.ok b):Jl Tryz.prog 78 [.sc (.pt 1 0 0)] (c.hp b) (fun x:WorldD×CurD=>x.2.ok b/\JK x.1) (fun x=>.ag (x.1.cs 2)) (fun x=>x.2.hp b++x.1.hp true):=by
 obtain⟨p,c1,o1,hp,h1⟩:=yA b c hc
 refine Jn Tryz.func78 (by kernel_rfl) rfl fun E hE=>ac 400 ?_
 simp (disch:=omega) only [Tryz.ntmps78,Tryz.results78,go_sem,seval]
 refine qK (h1) (qI 0 2) ?_
 refine jx 2 hE (fun s (y:List ActD×CurD)=>s.at (qU [6,1,9,45]) [(4,.sc (.sl 4 0 y.1.length)),(5,.sc (.int .i64 (y.1.length:Nat)))] (y.2.hp b++((s.hp.drop 2).take 2++[some ⟨y.1.map ActD.cs,28,113,true,true⟩]))) (fun (y:List ActD×CurD)=>y.1.length<=40/\y.2.ok b/\∀ a∈y.1,EQ a/\CalmA a) (fun (y:List ActD×CurD)=>41 - y.1.length) ([],c1) (qI 0 5) (⟨Nat.zero_le _,o1,fun a ha=>by simp at ha⟩) fun y hy N hN=>?_
 obtain⟨acc,c2⟩:=y
 obtain⟨f1,f2,f3⟩:=hy
 dsimp only at f1 f2 f3
 have h40:=ai b c2 f2 40
 have o40:=CurD.below_ok f2 40
 have b40:=c2.below_lt b (n:=40) (by omega)
 generalize c2.below b 40=r40 at h40 o40 b40
 obtain⟨m,c3⟩:=r40
 dsimp only at h40 o40 b40
 obtain⟨a,c4,k1,k2,k3⟩:=Bi b c3 o40
 obtain⟨w0,f0,hL⟩:=Jk p hp acc (by omega) f3
 refine qR ?_
 refine qK (h40) (qI 0 2) ?_
 refine qB (fun h=>?_) fun h=>?_
 ·have fa:=JH k2
  have fc:=Jz k2
  have hall:∀ q∈acc++[I_ a],EQ q/\CalmA q:=fun q hq=>by
   rcases List.mem_append.1 hq with hq|hq
   ·exact f3 q hq
   rw [List.mem_singleton.1 hq];exact⟨fa,fc⟩
  have hsd:1<=a.side/\a.side<=2:=by
   have:=k2.2.2
   simp only [cO,bj,gA,Bool.and_eq_true,decide_eq_true_eq] at this
   omega
  have hlen:(acc++[I_ a]).length<=40:=by rw [List.length_append,List.length_singleton];omega
  refine qK (k3) (qI 0 2) ?_
  by_cases hk:a.kind=6\/a.kind=7\/a.kind=11\/a.kind=12
  ·rw [IQ hk] at hall hlen
   rcases hk with hk|hk|hk|hk
   all_goals
    try simp (disch:=omega) only [go_sem,seval,hk]
    refine⟨qC,hN _ (acc++[⟨8,1,0,0,[],aF,ah⟩],c4) (qI 0 4++qI 7 1) (by (try dsimp only);exact⟨hlen,k1,hall⟩) (by simp;omega) (bw (by rfl) (by rfl) ?_)⟩
    try simp (disch:=omega) only [go_sem,seval]
    try simp [ActD.cs,aF,ah]
  by_cases h5:a.kind=5
  ·rw [Jy h5] at hall hlen
   try simp (disch:=omega) only [go_sem,seval,h5]
   refine⟨qC,hN _ (acc++[{ a with addr:=⟨1,10*a.side+2,a.addr.spare,a.addr.told⟩}],c4) (qI 0 4++qI 7 1) (by (try dsimp only);exact⟨hlen,k1,hall⟩) (by simp;omega) (bw (by rfl) (by rfl) ?_)⟩
   try simp (disch:=omega) only [go_sem,seval]
   try simp [ActD.cs]
   try exact h5.symm
  rw [IR hk h5] at hall hlen
  refine qX ?_
  refine⟨qC,hN _ (acc++[a],c4) (qI 0 4++qI 7 1) (by (try dsimp only);exact⟨hlen,k1,hall⟩) (by simp;omega) (bw (by rfl) (by rfl) ?_)⟩
  try simp (disch:=omega) only [go_sem,seval]
  try simp [ActD.cs]
 obtain⟨Q,hQ⟩:∃ Q,Q=gw acc w0 []:=⟨_,rfl⟩
 have hcd:JK Q.1:=⟨w0,acc,f0,f1,f3,by rw [hQ]⟩
 rw [<-hQ] at hL
 clear hQ
 obtain⟨w,cs⟩:=Q
 dsimp only at hL hcd
 refine qK (hL) (qI 4 1) ?_
 refine Jm (w,c3) (⟨o40,hcd⟩) (qI 0 2++qI 5 21) (qC) _ (by simp only [go_sem];rfl) (by rfl) (by rfl) ?_
 simp (disch:=omega) only [go_sem,seval]
theorem IK (b:List UInt8) (hb:b.length<=1048576):Jl Tryz.prog 43 [.sc (.sl 0 0 b.length)] [some ⟨b.map ew,1,5,false,true⟩] (fun x:WorldD×Int=>JK x.1/\ -1<=x.2/\x.2<=8) (fun x=>.tu [.ag (x.1.cs 1),.sc (.int .i64 x.2)]) (fun x=>[some ⟨b.map ew,1,5,false,true⟩]++x.1.hp true):=by
 refine Jn Tryz.func43 (by kernel_rfl) rfl fun E hE=>ac 400 ?_
 simp (disch:=omega) only [Tryz.ntmps43,Tryz.results43,go_sem,seval]
 refine qK (Bc b hb) (qI 0 1) ?_
 refine Jc (qC) (Ja b (pL b) (Cf hb)) (qI 0 1++qI 2 1) qM (by rfl) fun x hx=>ac 400 ?_
 simp (disch:=omega) only [go_sem,seval]
 obtain⟨w,c1⟩:=x
 obtain⟨o1,hw⟩:=hx
 dsimp only at o1 hw
 have h2:=bL b c1 o1 [0,1,2,5,8,-1] (by decide) (by decide)
 have m2:=c1.pick_mem b (l:=[0,1,2,5,8,-1]) (by decide)
 have w2:=(by decide:∀ x∈([0,1,2,5,8,-1]:List Int),-1<=x/\x<=8) _ m2
 rw [show (([0,1,2,5,8,-1]:List Int).length:Int)=6 from rfl] at h2
 generalize c1.pick b [0,1,2,5,8,-1]=v2 at h2 w2
 clear m2
 generalize c1.below b 6=r2 at h2
 obtain⟨u2,c2⟩:=r2
 dsimp only at h2
 refine oF [(0,3),(2,0)] [[1,2,0,3,4,5],[1,0,2,3,4,5],[1,2,3,0,4,5]] (by kernel_rfl) (qC) (by kernel_rfl) ?_
 simp only [bm]
 refine⟨cj 400 ?_,cj 400 ?_,cj 400 ?_⟩
 all_goals simp (disch:=omega) only [go_sem,seval]
 all_goals
  refine fK (qC) (h2) (qI 0 1++qI 2 1++qI 25 1) qM (by rfl) (cj 400 ?_)
  simp (disch:=omega) only [go_sem,seval]
  refine qG ?_
  refine Jm (w,v2) (⟨hw,w2⟩) (qI 0 1++qI 3 21) (qC) _ (by simp only [go_sem];rfl) (by rfl) (by rfl) ?_
  simp (disch:=omega) only [go_sem,seval]
theorem hS (w:WorldD) (a:ActD) (hw:SmallD w) (hq:KIq a):aP 158 [.ag a.cs,.sc (.pt 21 0 0)] (w.hp true++[some ⟨[WorldD.cs w 0],61,44,true,false⟩]) (.sc (.int .i64 (iP w a).2)) ((nH 21++[some ⟨[WorldD.cs (iP w a).1 22],61,44,true,false⟩])++(iP w a).1.hp true):=by
 have hD:=Jw w a hw hq
 obtain⟨Q,hQ⟩:∃ Q,Q=iP w a:=⟨_,rfl⟩
 rw [<-hQ] at hD⊢
 clear hQ
 obtain⟨W,C⟩:=Q
 dsimp only at hD⊢
 refine gU Tryz.func158 Tryz.ntmps158 Tryz.results158 fun E hE=>?_
 refine qK (hD) (qI 0 21) ?_
 exact dk (qI 0 22++qI 23 21)
theorem IX (w:WorldD) (k0:Nat) (hg:GoodW w k0) (hk0:k0<=900):aP 80 [.ag (w.cs 0)] (w.hp false) (.ag ((hP w).cs 21)) (w.hp false++(hP w).hp true):=by
 obtain⟨R,hR⟩:∃ R,R=hP w:=⟨_,rfl⟩
 rw [<-hR]
 have g1:=hO (a:=hF 4 1 0) hg (by simp [hF]) (by simp [hF])
 have g2:=hO (a:=hF 3 1 0) g1 (by simp [hF]) (by simp [hF])
 have g3:=hO (a:=hF 3 2 0) g2 (by simp [hF]) (by simp [hF])
 have c1:=hS w (hF 4 1 0) (hg.d (by omega)) (by simp [KIq,hF])
 have c2:=hS _ (hF 3 1 0) (g1.d (by omega)) (by simp [KIq,hF])
 have c3:=hS _ (hF 3 2 0) (g2.d (by omega)) (by simp [KIq,hF])
 rw [hP,JF] at hR
 obtain⟨w1,h1⟩:∃ w1,w1=iP w (hF 4 1 0):=⟨_,rfl⟩
 rw [<-h1] at hR g1 g2 g3 c1 c2 c3
 obtain⟨w2,h2⟩:∃ w2,w2=iP w1.1 (hF 3 1 0):=⟨_,rfl⟩
 rw [<-h2] at hR g2 g3 c2 c3
 obtain⟨w3,h3⟩:∃ w3,w3=iP w2.1 (hF 3 2 0):=⟨_,rfl⟩
 rw [<-h3] at hR g3 c3
 clear h1 h2 h3
 obtain⟨w1,n1⟩:=w1
 obtain⟨w2,n2⟩:=w2
 obtain⟨w3,n3⟩:=w3
 dsimp only at hR g1 g2 g3 c1 c2 c3
 refine gU Tryz.func80 Tryz.ntmps80 Tryz.results80 fun E hE=>?_
 refine qK (ge w hg.s) (qI 0 21) ?_
 refine qK (c1) (qI 23 22) ?_
 refine qK (c2) (qI 45 21++qI 44 1) ?_
 refine qK (c3) (qI 66 21++qI 44 1) ?_
 refine tD 21 hE (fun s (y:Nat×WorldD)=>s.at (qU [0,2,6,25]) [(5,.sc (.int .i64 (y.1:Nat))),(3,.sc (.pt 23 0 0)),(4,.cl 158 [.pt 23 0 0])] ((s.hp.take 23)++([some ⟨[WorldD.cs y.2 24],61,44,true,false⟩]++y.2.hp true))) (fun (y:Nat×WorldD)=>y.1<=400/\GoodW y.2 k0/\wB (l1 (400 - y.1) y.2)=R) (fun (y:Nat×WorldD)=>400 - y.1) (0,w3) (qI 0 23++qI 44 1++qI 87 21) (⟨Nat.zero_le _,g3,hR.symm⟩) fun y hy N hN=>?_
 obtain⟨k,u⟩:=y
 obtain⟨f1,f2,f3⟩:=hy
 dsimp only at f1 f2 f3
 have hbl:=f2.r.bag
 by_cases hgo:k < 400/\¬ u.bag.length=0
 ·obtain⟨hk,hb⟩:=hgo
  rw [IV hk hb] at f3
  have c4:=hS u (hF 8 1 0) (f2.d (by omega)) (by simp [KIq,hF])
  have g4:=hO (a:=hF 8 1 0) f2 (by simp [hF]) (by simp [hF])
  obtain⟨Q,hQ⟩:∃ Q,Q=iP u (hF 8 1 0):=⟨_,rfl⟩
  rw [<-hQ] at c4 g4 f3
  clear hQ
  obtain⟨u2,n⟩:=Q
  dsimp only at c4 g4 f3
  refine qR ?_
  refine qK (c4) (qI 24 21++qI 23 1) ?_
  exact Cs hN (k+1,u2) (qI 0 24++qI 45 21) (by (try dsimp only);exact⟨by omega,g4,f3⟩)
 rw [I2 (by omega)] at f3
 have c4:=hS u (hF 2 1 200) (f2.d (by omega)) (by simp [KIq,hF])
 have g4:=B5 (a:=hF 2 1 200) f2 (by simp [hF])
 have c5:=hS _ (hF 2 2 200) (g4.d (by omega)) (by simp [KIq,hF])
 rw [wB] at f3
 obtain⟨Q,hQ⟩:∃ Q,Q=iP u (hF 2 1 200):=⟨_,rfl⟩
 rw [<-hQ] at c4 c5 g4 f3
 clear hQ
 obtain⟨u2,n⟩:=Q
 dsimp only at c4 c5 g4 f3
 obtain⟨Q,hQ⟩:∃ Q,Q=iP u2 (hF 2 2 200):=⟨_,rfl⟩
 rw [<-hQ] at c5 f3
 clear hQ
 obtain⟨u3,m⟩:=Q
 dsimp only at c5 f3
 subst f3
 by_cases hk:k < 400
 ·have hb:u.bag.length=0:=by omega
  refine qR ?_
  refine qK (c4) (qI 24 21++qI 23 1) ?_
  refine qK (c5) (qI 45 21++qI 23 1) ?_
  exact dk (qI 0 21++qI 66 21)
 refine qR ?_
 refine qK (c4) (qI 24 21++qI 23 1) ?_
 refine qK (c5) (qI 45 21++qI 23 1) ?_
 exact dk (qI 0 21++qI 66 21)
theorem IY (w:WorldD) (k0:Nat) (hg:GoodW w k0) (hk0:k0<=900):aP 101 [.ag (w.cs 0)] (w.hp false) (.ag ((hP w).cs 21)) (w.hp false++(hP w).hp true):=by
 obtain⟨R,hR⟩:∃ R,R=hP w:=⟨_,rfl⟩
 rw [<-hR]
 have g1:=hO (a:=hF 4 1 0) hg (by simp [hF]) (by simp [hF])
 have g2:=hO (a:=hF 3 1 0) g1 (by simp [hF]) (by simp [hF])
 have g3:=hO (a:=hF 3 2 0) g2 (by simp [hF]) (by simp [hF])
 have c1:=h9 w (hF 4 1 0) (hg.d (by omega)) (by simp [KSq,hF])
 have c2:=h9 _ (hF 3 1 0) (g1.d (by omega)) (by simp [KSq,hF])
 have c3:=h9 _ (hF 3 2 0) (g2.d (by omega)) (by simp [KSq,hF])
 rw [hP,JF] at hR
 obtain⟨w1,h1⟩:∃ w1,w1=iP w (hF 4 1 0):=⟨_,rfl⟩
 rw [<-h1] at hR g1 g2 g3 c1 c2 c3
 obtain⟨w2,h2⟩:∃ w2,w2=iP w1.1 (hF 3 1 0):=⟨_,rfl⟩
 rw [<-h2] at hR g2 g3 c2 c3
 obtain⟨w3,h3⟩:∃ w3,w3=iP w2.1 (hF 3 2 0):=⟨_,rfl⟩
 rw [<-h3] at hR g3 c3
 clear h1 h2 h3
 obtain⟨w1,n1⟩:=w1
 obtain⟨w2,n2⟩:=w2
 obtain⟨w3,n3⟩:=w3
 dsimp only at hR g1 g2 g3 c1 c2 c3
 refine gU Tryz.func101 Tryz.ntmps101 Tryz.results101 fun E hE=>?_
 refine qK (c1) (qI 0 21) ?_
 refine qK (c2) (qI 23 21) ?_
 refine qK (c3) (qI 44 21) ?_
 refine tD 21 hE (fun s (y:Nat×WorldD)=>s.at (qU [0,1,4,34]) [(3,.sc (.int .i64 (y.1:Nat)))] (((s.hp.take 23).set 21 (some ⟨[WorldD.cs y.2 23],61,44,true,false⟩))++y.2.hp true)) (fun (y:Nat×WorldD)=>y.1<=400/\GoodW y.2 k0/\wB (l1 (400 - y.1) y.2)=R) (fun (y:Nat×WorldD)=>400 - y.1) (0,w3) (qI 0 23++qI 65 21) (⟨Nat.zero_le _,g3,hR.symm⟩) fun y hy N hN=>?_
 obtain⟨k,u⟩:=y
 obtain⟨f1,f2,f3⟩:=hy
 dsimp only at f1 f2 f3
 have hbl:=f2.r.bag
 by_cases hgo:k < 400/\¬ u.bag.length=0
 ·obtain⟨hk,hb⟩:=hgo
  rw [IV hk hb] at f3
  have c4:=h9 u (hF 8 1 0) (f2.d (by omega)) (by simp [KSq,hF])
  have g4:=hO (a:=hF 8 1 0) f2 (by simp [hF]) (by simp [hF])
  obtain⟨Q,hQ⟩:∃ Q,Q=iP u (hF 8 1 0):=⟨_,rfl⟩
  rw [<-hQ] at c4 g4 f3
  clear hQ
  obtain⟨u2,n⟩:=Q
  dsimp only at c4 g4 f3
  refine qR ?_
  refine qK (c4) (qI 23 21) ?_
  exact Cs hN (k+1,u2) (qI 0 23++qI 44 21) (by (try dsimp only);exact⟨by omega,g4,f3⟩)
 rw [I2 (by omega)] at f3
 have c4:=h9 u (hF 2 1 200) (f2.d (by omega)) (by simp [KSq,hF])
 have g4:=B5 (a:=hF 2 1 200) f2 (by simp [hF])
 have c5:=h9 _ (hF 2 2 200) (g4.d (by omega)) (by simp [KSq,hF])
 rw [wB] at f3
 obtain⟨Q,hQ⟩:∃ Q,Q=iP u (hF 2 1 200):=⟨_,rfl⟩
 rw [<-hQ] at c4 c5 g4 f3
 clear hQ
 obtain⟨u2,n⟩:=Q
 dsimp only at c4 c5 g4 f3
 obtain⟨Q,hQ⟩:∃ Q,Q=iP u2 (hF 2 2 200):=⟨_,rfl⟩
 rw [<-hQ] at c5 f3
 clear hQ
 obtain⟨u3,m⟩:=Q
 dsimp only at c5 f3
 subst f3
 by_cases hk:k < 400
 ·have hb:u.bag.length=0:=by omega
  refine qR ?_
  refine qK (c4) (qI 23 21) ?_
  refine qK (c5) (qI 44 21) ?_
  exact dk (qI 0 21++qI 65 21)
 refine qR ?_
 refine qK (c4) (qI 23 21) ?_
 refine qK (c5) (qI 44 21) ?_
 exact dk (qI 0 21++qI 65 21)
theorem mk (w:WorldD) (n:Int) (k0:Nat) (hg:GoodW w k0) (hk0:k0<=700):aP 24 [.ag (w.cs 0),.sc (.int .i64 n)] (w.hp false) (.ag ((hH w n).cs 21)) (w.hp false++(hH w n).hp true):=by
 obtain⟨R,hR⟩:∃ R,R=hH w n:=⟨_,rfl⟩
 rw [<-hR]
 rw [hH] at hR
 obtain⟨M,hM⟩:∃ M,M=(min n 60).toNat:=⟨_,rfl⟩
 rw [<-hM] at hR
 refine gU Tryz.func24 Tryz.ntmps24 Tryz.results24 fun E hE=>?_
 refine qK (ge w hg.s) (qI 0 21) ?_
 refine tD 21 hE (fun s (y:Nat×WorldD)=>s.at (qU [0,1,2,1,7,10]) [(6,.sc (.int .i64 (y.1:Nat)))] ((s.hp.take 23)++(y.2.hp true++[some ⟨[WorldD.cs y.2 23],61,44,true,false⟩]))) (fun (y:Nat×WorldD)=>y.1<=M/\GoodW y.2 (k0+2*y.1)/\wr (M - y.1) y.2=R) (fun (y:Nat×WorldD)=>M - y.1) (0,w) (qI 0 45) (⟨Nat.zero_le _,hg,hR.symm⟩) fun y hy N hN=>?_
 obtain⟨k,u⟩:=y
 obtain⟨f1,f2,f3⟩:=hy
 dsimp only at f1 f2 f3
 by_cases hk:k < M
 ·have hn:(k:Int) < n:=by omega
  have h60:k < 60:=by omega
  have hmn:(k:Int) < min n 60:=by omega
  rw [show M - k=(M - (k+1))+1 by omega,wr] at f3
  have c:=IX u _ f2 (by omega)
  have g:=pr f2
  obtain⟨Q,hQ⟩:∃ Q,Q=hP u:=⟨_,rfl⟩
  rw [<-hQ] at c g f3
  clear hQ
  refine qR ?_
  refine qK (c) (qI 23 21) ?_
  exact Cs hN (k+1,Q) (qI 0 23++qI 45 21++qI 44 1) (by (try dsimp only);exact⟨by omega,by rw [show k0+2*(k+1)=k0+2*k+2 by omega];exact g,f3⟩)
 have hmn:¬ (k:Int) < min n 60:=by omega
 rw [show M - k=0 by omega,wr] at f3
 subst f3
 by_cases hn:(k:Int) < n
 ·have h60:¬ k < 60:=by omega
  refine qR ?_
  exact dk (qI 0 21++qI 23 21)
 refine qR ?_
 exact dk (qI 0 21++qI 23 21)
theorem IS (w:WorldD) (n:Int) (k0:Nat) (hg:GoodW w k0) (hk0:k0<=700):aP 44 [.ag (w.cs 0),.sc (.int .i64 n)] (w.hp false) (.ag ((hH w n).cs 21)) (w.hp false++(hH w n).hp true):=by
 obtain⟨R,hR⟩:∃ R,R=hH w n:=⟨_,rfl⟩
 rw [<-hR]
 rw [hH] at hR
 obtain⟨M,hM⟩:∃ M,M=(min n 60).toNat:=⟨_,rfl⟩
 rw [<-hM] at hR
 refine gU Tryz.func44 Tryz.ntmps44 Tryz.results44 fun E hE=>?_
 refine qK (gi w hg.s) (qI 0 21) ?_
 refine tD 21 hE (fun s (y:Nat×WorldD)=>s.at (qU [0,1,6,13]) [(5,.sc (.int .i64 (y.1:Nat)))] (((s.hp.take 23).set 21 (some ⟨[WorldD.cs y.2 23],61,44,true,false⟩))++y.2.hp true)) (fun (y:Nat×WorldD)=>y.1<=M/\GoodW y.2 (k0+2*y.1)/\wr (M - y.1) y.2=R) (fun (y:Nat×WorldD)=>M - y.1) (0,w) (qI 0 44) (⟨Nat.zero_le _,hg,hR.symm⟩) fun y hy N hN=>?_
 obtain⟨k,u⟩:=y
 obtain⟨f1,f2,f3⟩:=hy
 dsimp only at f1 f2 f3
 by_cases hk:k < M
 ·have hn:(k:Int) < n:=by omega
  have h60:k < 60:=by omega
  have hmn:(k:Int) < min n 60:=by omega
  rw [show M - k=(M - (k+1))+1 by omega,wr] at f3
  have c:=IY u _ f2 (by omega)
  have g:=pr f2
  obtain⟨Q,hQ⟩:∃ Q,Q=hP u:=⟨_,rfl⟩
  rw [<-hQ] at c g f3
  clear hQ
  refine qR ?_
  refine qK (c) (qI 23 21) ?_
  exact Cs hN (k+1,Q) (qI 0 23++qI 44 21) (by (try dsimp only);exact⟨by omega,by rw [show k0+2*(k+1)=k0+2*k+2 by omega];exact g,f3⟩)
 have hmn:¬ (k:Int) < min n 60:=by omega
 rw [show M - k=0 by omega,wr] at f3
 subst f3
 by_cases hn:(k:Int) < n
 ·have h60:¬ k < 60:=by omega
  refine qR ?_
  exact dk (qI 0 21++qI 23 21)
 refine qR ?_
 exact dk (qI 0 21++qI 23 21)
structure RdLe (w w':WorldD):Prop where
 a:w.readA <+:w'.readA
 b:w.readB <+:w'.readB
theorem RdLe.refl (w:WorldD):RdLe w w:=⟨List.prefix_rfl,List.prefix_rfl⟩
theorem RdLe.of_eq {w w':WorldD} (ha:w'.readA=w.readA) (hb:w'.readB=w.readB):RdLe w w':=⟨by rw [ha];exact List.prefix_rfl,by rw [hb];exact List.prefix_rfl⟩
theorem RdLe.trans {u v w:WorldD} (h:RdLe u v) (k:RdLe v w):RdLe u w:=⟨h.a.trans k.a,h.b.trans k.b⟩
theorem IM {side:Int} {l:List LetterD} {w:WorldD}:(an side w l).readA=w.readA/\(an side w l).readB=w.readB:=by
 have:=ba (side:=side) (w:=w) (l:=l)
 exact⟨this.2.2.2.2.1,this.2.2.2.2.2⟩
theorem rB {s:Int} {w:WorldD} {e:EndD}:(cq w s e).readA=w.readA/\(cq w s e).readB=w.readB:=by
 unfold cq;split<;>exact⟨rfl,rfl⟩
theorem Jo {w:WorldD} {x:LetterD}:(eF w x).readA=w.readA/\(eF w x).readB=w.readB:=by
 unfold eF qe
 repeat' split
 all_goals first
  |exact⟨rfl,rfl⟩
  |exact⟨(IM).1.trans (rB).1,(IM).2.trans (rB).2⟩
  |exact rB
theorem JM {w:WorldD} {a:ActD}:RdLe w (gD w a):=by
 unfold gD;split
 ·unfold dT;split<;>exact .of_eq rfl rfl
 split
 ·unfold bR;split
  ·exact⟨List.prefix_append ..,List.prefix_rfl⟩
  exact⟨List.prefix_rfl,List.prefix_append ..⟩
 exact RdLe.refl _
theorem t0 {w:WorldD} {a:ActD}:RdLe w (iP w a).1:=by
 unfold iP;split
 ·split
  ·unfold eX;split
   ·exact RdLe.refl _
   exact JM.trans (.of_eq ((IM).1.trans (rB).1) ((IM).2.trans (rB).2))
  unfold ce;repeat' split
  all_goals first
   |exact .of_eq rfl rfl
   |exact .of_eq (Jo).1 (Jo).2
 exact RdLe.refl _
theorem Jd:∀ {n:Nat} {w:WorldD},RdLe w (l1 n w)
 |0,w=>RdLe.refl w
 |n+1,w=>by
  rw [l1];split
  ·exact RdLe.refl w
  exact t0.trans Jd
theorem Jg {w:WorldD}:RdLe w (hP w):=
 ((t0.trans (t0.trans t0)).trans Jd).trans (t0.trans t0)
theorem Jp:∀ {n:Nat} {w:WorldD},RdLe w (wr n w)
 |0,w=>RdLe.refl w
 |n+1,w=>Jg.trans Jp
theorem Jb {w:WorldD} {n:Int}:RdLe w (hH w n):=Jp
theorem IT {w:WorldD} {n:Int} (h:1<=n) (h60:n<=60):hH (hH w 1) (n - 1)=hH w n:=by
 have e1:(min (1:Int) 60).toNat=1:=by decide
 have e2:(min n 60).toNat=(min (n - 1) 60).toNat+1:=by omega
 unfold hH
 rw [e1,e2,wr]
 rfl
theorem IJ {w:WorldD} {a:ActD} {k:Nat} (h:Life w k) (h1:¬ a.kind=1) (h2:¬ a.kind=2):Life (iP w a).1 k:=
 ⟨hO h.g h1 h2,Hq h.i h.g.a.p h.g.b.p,B_ h.n⟩
theorem IW:∀ {n:Nat} {w:WorldD} {k:Nat},Life w k->Life (l1 n w) k
 |0,w,k,h=>h
 |n+1,w,k,h=>by
  rw [l1];split
  ·exact h
  exact IW (IJ h (by simp [hF]) (by simp [hF]))
theorem I3 {w:WorldD} {k:Nat} (h:Life w k):Life (hP w) (k+2):=
 ((IW (IJ (IJ (IJ h (by simp [hF]) (by simp [hF])) (by simp [hF]) (by simp [hF])) (by simp [hF]) (by simp [hF]))).step (by simp [hF])).step (by simp [hF])
theorem I4:∀ {n:Nat} {w:WorldD} {k:Nat},Life w k->Life (wr n w) (k+2*n)
 |0,w,k,h=>h
 |n+1,w,k,h=>by
  have:=I4 (n:=n) (I3 h)
  rw [show k+2*(n+1)=k+2+2*n by omega];exact this
theorem I5 {t h:List UInt8} (p:h <+:t):Es t h=true:=by
 obtain⟨r,rfl⟩:=p
 simp [Es]
theorem JI (b:List UInt8) (hb:b.length<=maxLen) (_:∀ x∈b,True):aP 8 [.sc (.sl 0 0 b.length)] [some ⟨b.map ew,1,5,false,true⟩] (.sc (.bo true)) [some ⟨b.map ew,1,5,false,true⟩]:=by
 refine qE Tryz.func8 Tryz.ntmps8 Tryz.results8 fun E hE=>?_
 refine qK (DF b hb) (qI 0 1) ?_
 refine qB (fun h=>?_) fun h=>?_
 ·exact qF (qI 0 1)
 refine Jc (qC) (IK b (by omega)) (qI 0 1) qM (by rfl) fun z hz=>ac 400 ?_
 simp (disch:=omega) only [go_sem,seval]
 obtain⟨w,n⟩:=z
 obtain⟨hw,hn⟩:=hz
 dsimp only at hw hn
 obtain⟨k,hk,hc⟩:∃ k,k<=120/\Life w k:=by
  obtain⟨w0,l,f0,hl,hla,rfl⟩:=hw
  exact⟨_,by omega,(HV (l:=l) (w:=w0) (cs:=[]) (k:=0) ⟨f0.g,f0.st.inv,f0.st.ans⟩ fun a ha=>by have:=(hla a ha).1.2.1;omega).1⟩
 have hg:=hc.g
 have hs:=hg.s
 have c1:=mk w n k hg (by omega)
 have c2:=mk w 1 k hg (by omega)
 have g1:GoodW (hH w 1) (k+2*(min (1:Int) 60).toNat):=IL hg
 rw [show (min (1:Int) 60).toNat=1 from by decide] at g1
 have c3:=mk (hH w 1) (n - 1) (k+2*1) g1 (by omega)
 have c4:=IS w n k hg (by omega)
 have gx:GoodW (hH w n) (k+2*(min n 60).toNat):=IL hg
 have lx:Life (hH w n) (k+2*(min n 60).toNat):=I4 hc
 have rd:=Jb (w:=w) (n:=n)
 have safe:=lx.i.c.safe
 have sp:1<=n->hH (hH w 1) (n - 1)=hH w n:=fun h=>IT h (by omega)
 have x1:=gx.ra
 have x2:=gx.rb
 have x3:=gx.a.p.ready
 have x4:=gx.b.p.ready
 have hx:=gx.s
 have hm:(min n 60).toNat<=60:=by omega
 obtain⟨x,hX⟩:∃ x,x=hH w n:=⟨_,rfl⟩
 rw [<-hX] at c1 c4 rd safe sp x1 x2 x3 x4 hx
 clear hX gx lx hc g1 hg
 have s1:=Fo x hx.a.own hx.a.far hx.a.subs hx.a.halfs hx.a.list hx.a.done hx.a.over hx.b.own hx.b.far hx.b.subs hx.b.halfs hx.b.list hx.b.done hx.b.over (by omega) (by omega)
 rw [safe] at s1
 have s2:=tb x.readB w.readB
 have s3:=tb x.readA w.readA
 rw [I5 rd.b] at s2
 rw [I5 rd.a] at s3
 have s4:=FC x hx
 have s5:=I8 x hx.a.subs hx.b.subs
 have s6:=I9 x hx.a.subs hx.b.subs
 generalize wA x=q at s5 s6
 obtain⟨v,hv⟩:∃ v,v=hH w 1:=⟨_,rfl⟩
 rw [<-hv] at c2 c3 sp
 clear hv
 refine qK (c1) (qI 1 21) ?_
 refine qK (c2) (qI 1 21) ?_
 by_cases h1:n < 1
 ·obtain⟨y,hy⟩:∃ y,y=hH v (n - 1):=⟨_,rfl⟩
  rw [<-hy] at c3
  clear hy sp
  refine qK (c3) (qI 45 21) ?_
  refine qD [0,1,2,3,4,5,6,7,8,9,10,11,12,13,14,15,16,17,18,19,20,21,22,23,24,25,26,27,28,29,30,31,32,33,35,34,36,37,38,39] ?_
  refine aQ (s1) (qI 23 21) ?_
  refine aQ (s2) [] ?_
  refine aQ (s3) [] ?_
  refine qX ?_
  refine aQ (c4) (qI 1 21) ?_
  refine aQ (s4) (qI 23 21++qI 88 21) ?_
  refine aQ (s5) (qI 23 21) ?_
  refine aQ (s6) (qI 23 21) ?_
  cases q
  all_goals
   refine qX ?_
   refine qG ?_
   exact qF (qI 0 1)
 rw [sp (by omega)] at c3
 refine qK (c3) (qI 45 21) ?_
 refine qD [0,1,2,3,4,5,6,7,8,9,10,11,12,13,14,15,16,17,18,19,20,21,22,23,24,25,26,27,28,29,30,31,32,33,35,34,36,37,38,39] ?_
 refine aQ (s1) (qI 23 21) ?_
 refine aQ (s2) [] ?_
 refine aQ (s3) [] ?_
 refine qX ?_
 refine aQ (s4) (qI 23 21++qI 66 21) ?_
 refine aQ (c4) (qI 1 21) ?_
 refine aQ (s4) (qI 23 21++qI 88 21) ?_
 refine aQ (s5) (qI 23 21) ?_
 refine aQ (s6) (qI 23 21) ?_
 cases q
 all_goals
  refine qX ?_
  refine qG ?_
  exact qF (qI 0 1)
end
section
open Go
end
end Go.Proofs.YtjghbknhneffjaaGreat
