/- Lemmas of this claim. -/
import Derived.Test.YtdiiopjaebnmfaaGreatDoorZFnExactRunScriptP
import Derived.Test.YtdiiopjaebnmfaaGreatDoorZFnExactRunScriptR
set_option maxHeartbeats 16000000
set_option maxRecDepth 100000
set_option linter.unusedVariables false
set_option linter.unusedSimpArgs false
namespace Go.Proofs.YtdiiopjaebnmfaaGreatDoor
open _root_.Go.Proofs.Tryz
open _root_.Option renaming isSome_some->zk,getD_some->zG
open _root_.List renaming take_succ_cons->P6,eq_nil_of_length_eq_zero->P7,take_zero->P8
section
open Go.RowKit
def Dj (e:EndD):Bool:=y7 e && decide (e.inp.list=[]) && decide (e.inp.ready.length=0) && decide (e.out.text.length=0) && decide (e.subs.length<=100) && decide (e.far.length<=100)
theorem vF {e:EndD} (h:Dj e=true):GoodE e/\PY e:=by
 simp only [Dj,Bool.and_eq_true,decide_eq_true_eq] at h
 obtain⟨⟨⟨⟨⟨h1,h2⟩,h3⟩,h4⟩,h5⟩,h6⟩:=h
 exact⟨⟨lj h1,⟨by rw [h2];decide,zO,fun x hx=>by rw [h2] at hx;simp at hx⟩,zO⟩,h5,h6⟩
def gm (x y:EndD):WorldD:=⟨x,y,[],[],[],[],[],[],⟨[5,7],[]⟩,[],[],[]⟩
def startE (x y:EndD):Bool:=aq x && aq y && decide (x.state=2/\y.state=2/\x.side=1/\y.side=2/\x.key=1001/\y.key=1002/\x.peer=1002/\y.peer=1001/\x.draw=1005/\y.draw=1006/\x.now=0/\y.now=0) &&
 decide (x.halfs=[]/\y.halfs=[]/\x.own=gQ 11/\y.own=gQ 21/\x.far=gF 21/\y.far=gF 11/\x.bucket=⟨1,3,3⟩/\y.bucket=⟨1,3,3⟩) &&
 decide (x.out=⟨[],0,0,120⟩/\y.out=⟨[],0,0,120⟩) && decide (x.inp.read=0/\x.inp.ready=[]/\x.inp.list=[]/\y.inp.read=0/\y.inp.ready=[]/\y.inp.list=[]) &&
 decide (x.subs=[⟨⟨11,21,0⟩,3,false,0,0,1004,1003,0⟩]/\y.subs=[⟨⟨21,11,0⟩,3,false,0,0,1003,1004,0⟩])
structure Start (w:WorldD):Prop where
 e:startE w.a w.b=true
 bag:w.bag=[]
 past:w.past=[]
 keys:w.known.keys=[5,7]
 tags:w.known.tags=[]
 nums:w.nums=[]
 wa:w.wroteA=[]
 wb:w.wroteB=[]
 ra:w.readA=[]
 rb:w.readB=[]
 na:w.answersA=[]
 nb:w.answersB=[]
theorem cB (p:List (List UInt8)) (hp:p.length<=1000):aP 77 [.sc (.sl 0 0 p.length)] [some ⟨p.map aD,1,9,false,true⟩]
  (.tu [.sc (.sl 1 0 ((br p).getD []).length),.sc (.bo (br p).isSome)]) [some ⟨p.map aD,1,9,false,true⟩,some ⟨((br p).getD []).map bh,1,3,true,true⟩]:=by
 have hst:=zr p
 obtain⟨R,hR⟩:∃ R,R=br p:=⟨_,rfl⟩
 rw [<-hR] at hst⊢
 refine qE func77 ntmps77 results77 fun E hE=>?_
 refine fJ 1 hE (fun s (x:Nat×List Int)=>s.at (qU [0,1,2,2,6,3,12,15]) [(4,.sc (.sl 1 0 x.2.length)),(11,.sc (.int .i64 (x.1:Nat)))] ([some ⟨p.map aD,1,9,false,true⟩,some ⟨x.2.map bh,1,3,true,true⟩])) (fun (x:Nat×List Int)=>x.1<=p.length/\x.2.length=x.1/\(br (p.drop x.1)).map (x.2++ ·)=R) (fun (x:Nat×List Int)=>p.length - x.1) (0,[]) (qI 0 1++qO 1) (⟨Nat.zero_le _,rfl,hst⟩) fun x hx N hN=>?_
 obtain⟨k,acc⟩:=x
 obtain⟨hk,hl,hx⟩:=hx
 dsimp only at hk hl hx
 refine qR ?_
 refine qB (fun h=>?_) fun h=>?_
 ·have hx2:=Dt h hx
  have hd:=jv p[k]
  try simp (disch:=omega) only [go_sem,seval,aD]
  refine qK (hd) [] ?_
  refine qB (fun h2=>?_) fun h2=>?_
  ·rw [if_neg (by simp [h2])] at hx2
   subst hx2
   refine qJ (qI 0 1++qO 1) ?_
   simp
  rw [if_pos h2] at hx2
  generalize (cj p[k]).1=n at*
  refine⟨qC,hN _ (k+1,acc++[n]) (qI 0 1++qI 3 1) (by (try dsimp only);exact⟨zO,by simp;omega,hx2⟩) (by (try dsimp only);omega) (aw zF zF ?_)⟩
  refine qX ?_
  simp [bh]
 have hx2:=GK zO hx
 subst hx2
 refine qJ (qI 0 2) ?_
 simp
theorem Au {α:Type} {l:List α} (h:l.length=1):∃ a,l=[a]:=by
 match l,h with
 |[a],_=>exact⟨a,rfl⟩
theorem PZ {α:Type} {l:List α} (h:l.length=2):∃ a b,l=[a,b]:=by
 match l,h with
 |[a,b],_=>exact⟨a,b,rfl⟩
theorem P0 {α:Type} {l:List α} (h:l.length=3):∃ a b c,l=[a,b,c]:=by
 match l,h with
 |[a,b,c],_=>exact⟨a,b,c,rfl⟩
theorem jU {k:Int} {p:List (List UInt8)} (h1:k≠1) (h11:k≠11):rdF k p=mK k (bx k 1) (br p):=by
 rw [rdF,if_neg h11,if_neg h1]
theorem tB (p:List (List UInt8)) (hp:p.length<=1000) (ht:tot p<=600):aP 51 [.sc (.int .i64 1),.sc (.sl 0 0 p.length)] [some ⟨p.map aD,1,9,false,true⟩]
  (.tu [.ag (rdF 1 p).1.cs,.sc (.bo (rdF 1 p).2)]) [some ⟨p.map aD,1,9,false,true⟩]:=by
 by_cases hl:p.length=2
 ·obtain⟨a,b,rfl⟩:=PZ hl
  have hN:=cB [a] zP
  by_cases hb:b=[45]
  ·subst hb
   have he:rdF 1 [a,[45]]=mK 1 ⟨1,1,0,0,[],ah,ac⟩ (br ([a,[45]].take 1)):=rfl
   cases hr:br [a] with
   |none=>
    have e:rdF 1 [a,[45]]=(⟨1,1,0,0,[],ah,ac⟩,false):=by rw [he];simp only [P6,P8,hr];rfl
    rw [e]
    rw [hr] at hN
    refine au func51 zXk rfl fun E hE=>ab 400 ?_
    simp (disch:=omega) only [ntmps51,results51,go_sem,Nat.reduceEqDiff,Nat.reduceAdd,Nat.reduceSub,Int.reduceAdd,Int.reduceSub,Int.reduceToNat]
    refine ao (qU [0,6]) zXk (qC) zXk (aa 400 ?_)
    simp (disch:=omega) only [go_sem,Nat.reduceEqDiff,Nat.reduceAdd,Nat.reduceSub,Int.reduceAdd,Int.reduceSub,Int.reduceToNat]
    try simp (disch:=omega) only [go_sem,Nat.reduceEqDiff,Nat.reduceAdd,Nat.reduceSub,Int.reduceAdd,Int.reduceSub,Int.reduceToNat,aD]
    refine⟨qC,ab 400 ?_⟩
    try simp (disch:=omega) only [go_sem,Nat.reduceEqDiff,Nat.reduceAdd,Nat.reduceSub,Int.reduceAdd,Int.reduceSub,Int.reduceToNat,aD]
    refine ai (qC) (hN) [some (0,some 0)] qM zF (ab 400 ?_)
    simp (disch:=omega) only [go_sem,Nat.reduceEqDiff,Nat.reduceAdd,Nat.reduceSub,Int.reduceAdd,Int.reduceSub,Int.reduceToNat]
    refine aj (qI 0 1) (qC) _ zXg zF zF ?_
    simp (disch:=omega) only [go_sem,Nat.reduceEqDiff,Nat.reduceAdd,Nat.reduceSub,Int.reduceAdd,Int.reduceSub,Int.reduceToNat]
    try simp [bx,ah,ac]
   |some l=>
    obtain⟨s,rfl⟩:=Au (tX hr)
    have e:rdF 1 [a,[45]]=(⟨1,s,0,0,[],ah,ac⟩,true):=by rw [he];simp only [P6,P8,hr];rfl
    rw [e]
    rw [hr] at hN
    simp only [zG,zk] at hN
    refine au func51 zXk rfl fun E hE=>ab 400 ?_
    simp (disch:=omega) only [ntmps51,results51,go_sem,Nat.reduceEqDiff,Nat.reduceAdd,Nat.reduceSub,Int.reduceAdd,Int.reduceSub,Int.reduceToNat]
    refine ao (qU [0,6]) zXk (qC) zXk (aa 400 ?_)
    simp (disch:=omega) only [go_sem,Nat.reduceEqDiff,Nat.reduceAdd,Nat.reduceSub,Int.reduceAdd,Int.reduceSub,Int.reduceToNat]
    try simp (disch:=omega) only [go_sem,Nat.reduceEqDiff,Nat.reduceAdd,Nat.reduceSub,Int.reduceAdd,Int.reduceSub,Int.reduceToNat,aD]
    refine⟨qC,ab 400 ?_⟩
    try simp (disch:=omega) only [go_sem,Nat.reduceEqDiff,Nat.reduceAdd,Nat.reduceSub,Int.reduceAdd,Int.reduceSub,Int.reduceToNat,aD]
    refine ai (qC) (hN) [some (0,some 0)] qM zF (ab 400 ?_)
    simp (disch:=omega) only [go_sem,Nat.reduceEqDiff,Nat.reduceAdd,Nat.reduceSub,Int.reduceAdd,Int.reduceSub,Int.reduceToNat]
    refine aj (qI 0 1) (qC) _ zXg zF zF ?_
    simp (disch:=omega) only [go_sem,Nat.reduceEqDiff,Nat.reduceAdd,Nat.reduceSub,Int.reduceAdd,Int.reduceSub,Int.reduceToNat]
    try simp [bx,ah,ac]
  have hu:=xm b (by simp [tot] at ht;omega)
  have hb':(b == [45])=false:=by simpa using hb
  have hw:jw b=ee b:=if_neg hb
  have hd:rdF 1 [a,b]=if (jw b).2=false then (⟨1,1,0,0,(jw b).1,ah,ac⟩,false) else mK 1 ⟨1,1,0,0,(jw b).1,ah,ac⟩ (br ([a,b].take 1)):=rfl
  rw [hw] at hd
  generalize ee b=u at*
  obtain⟨t,ok⟩:=u
  dsimp only at hu hd
  cases ok with
  |false=>
   rw [if_pos rfl] at hd
   rw [hd]
   refine au func51 zXk rfl fun E hE=>ab 400 ?_
   simp (disch:=omega) only [ntmps51,results51,go_sem,Nat.reduceEqDiff,Nat.reduceAdd,Nat.reduceSub,Int.reduceAdd,Int.reduceSub,Int.reduceToNat]
   refine ao (qU [0,6]) zXk (qC) zXk (aa 400 ?_)
   simp (disch:=omega) only [go_sem,Nat.reduceEqDiff,Nat.reduceAdd,Nat.reduceSub,Int.reduceAdd,Int.reduceSub,Int.reduceToNat]
   try simp (disch:=omega) only [go_sem,Nat.reduceEqDiff,Nat.reduceAdd,Nat.reduceSub,Int.reduceAdd,Int.reduceSub,Int.reduceToNat,aD]
   refine⟨qC,ab 400 ?_⟩
   try simp (disch:=omega) only [go_sem,Nat.reduceEqDiff,Nat.reduceAdd,Nat.reduceSub,Int.reduceAdd,Int.reduceSub,Int.reduceToNat,aD]
   try simp (disch:=omega) only [go_sem,Nat.reduceEqDiff,Nat.reduceAdd,Nat.reduceSub,Int.reduceAdd,Int.reduceSub,Int.reduceToNat,aD,hb']
   refine ai (qC) (hu) [] qM zF (ab 400 ?_)
   simp (disch:=omega) only [go_sem,Nat.reduceEqDiff,Nat.reduceAdd,Nat.reduceSub,Int.reduceAdd,Int.reduceSub,Int.reduceToNat]
   refine aj (qI 0 1) (qC) _ zXg zF zF ?_
   simp (disch:=omega) only [go_sem,Nat.reduceEqDiff,Nat.reduceAdd,Nat.reduceSub,Int.reduceAdd,Int.reduceSub,Int.reduceToNat]
   try simp [bx,ah,ac]
  |true=>
   have he:rdF 1 [a,b]=mK 1 ⟨1,1,0,0,t,ah,ac⟩ (br ([a,b].take 1)):=hd
   cases hr:br [a] with
   |none=>
    have e:rdF 1 [a,b]=(⟨1,1,0,0,t,ah,ac⟩,false):=by rw [he];simp only [P6,P8,hr];rfl
    rw [e]
    rw [hr] at hN
    refine au func51 zXk rfl fun E hE=>ab 400 ?_
    simp (disch:=omega) only [ntmps51,results51,go_sem,Nat.reduceEqDiff,Nat.reduceAdd,Nat.reduceSub,Int.reduceAdd,Int.reduceSub,Int.reduceToNat]
    refine ao (qU [0,6]) zXk (qC) zXk (aa 400 ?_)
    simp (disch:=omega) only [go_sem,Nat.reduceEqDiff,Nat.reduceAdd,Nat.reduceSub,Int.reduceAdd,Int.reduceSub,Int.reduceToNat]
    try simp (disch:=omega) only [go_sem,Nat.reduceEqDiff,Nat.reduceAdd,Nat.reduceSub,Int.reduceAdd,Int.reduceSub,Int.reduceToNat,aD]
    refine⟨qC,ab 400 ?_⟩
    try simp (disch:=omega) only [go_sem,Nat.reduceEqDiff,Nat.reduceAdd,Nat.reduceSub,Int.reduceAdd,Int.reduceSub,Int.reduceToNat,aD]
    try simp (disch:=omega) only [go_sem,Nat.reduceEqDiff,Nat.reduceAdd,Nat.reduceSub,Int.reduceAdd,Int.reduceSub,Int.reduceToNat,aD,hb']
    refine ai (qC) (hu) [] qM zF (ab 400 ?_)
    simp (disch:=omega) only [go_sem,Nat.reduceEqDiff,Nat.reduceAdd,Nat.reduceSub,Int.reduceAdd,Int.reduceSub,Int.reduceToNat]
    refine ai (qC) (hN) [some (0,some 0)] qM zF (ab 400 ?_)
    simp (disch:=omega) only [go_sem,Nat.reduceEqDiff,Nat.reduceAdd,Nat.reduceSub,Int.reduceAdd,Int.reduceSub,Int.reduceToNat]
    refine aj (qI 0 1) (qC) _ zXg zF zF ?_
    simp (disch:=omega) only [go_sem,Nat.reduceEqDiff,Nat.reduceAdd,Nat.reduceSub,Int.reduceAdd,Int.reduceSub,Int.reduceToNat]
    try simp [bx,ah,ac]
   |some l=>
    obtain⟨s,rfl⟩:=Au (tX hr)
    have e:rdF 1 [a,b]=(⟨1,s,0,0,t,ah,ac⟩,true):=by rw [he];simp only [P6,P8,hr];rfl
    rw [e]
    rw [hr] at hN
    simp only [zG,zk] at hN
    refine au func51 zXk rfl fun E hE=>ab 400 ?_
    simp (disch:=omega) only [ntmps51,results51,go_sem,Nat.reduceEqDiff,Nat.reduceAdd,Nat.reduceSub,Int.reduceAdd,Int.reduceSub,Int.reduceToNat]
    refine ao (qU [0,6]) zXk (qC) zXk (aa 400 ?_)
    simp (disch:=omega) only [go_sem,Nat.reduceEqDiff,Nat.reduceAdd,Nat.reduceSub,Int.reduceAdd,Int.reduceSub,Int.reduceToNat]
    try simp (disch:=omega) only [go_sem,Nat.reduceEqDiff,Nat.reduceAdd,Nat.reduceSub,Int.reduceAdd,Int.reduceSub,Int.reduceToNat,aD]
    refine⟨qC,ab 400 ?_⟩
    try simp (disch:=omega) only [go_sem,Nat.reduceEqDiff,Nat.reduceAdd,Nat.reduceSub,Int.reduceAdd,Int.reduceSub,Int.reduceToNat,aD]
    try simp (disch:=omega) only [go_sem,Nat.reduceEqDiff,Nat.reduceAdd,Nat.reduceSub,Int.reduceAdd,Int.reduceSub,Int.reduceToNat,aD,hb']
    refine ai (qC) (hu) [] qM zF (ab 400 ?_)
    simp (disch:=omega) only [go_sem,Nat.reduceEqDiff,Nat.reduceAdd,Nat.reduceSub,Int.reduceAdd,Int.reduceSub,Int.reduceToNat]
    refine ai (qC) (hN) [some (0,some 0)] qM zF (ab 400 ?_)
    simp (disch:=omega) only [go_sem,Nat.reduceEqDiff,Nat.reduceAdd,Nat.reduceSub,Int.reduceAdd,Int.reduceSub,Int.reduceToNat]
    refine aj (qI 0 1) (qC) _ zXg zF zF ?_
    simp (disch:=omega) only [go_sem,Nat.reduceEqDiff,Nat.reduceAdd,Nat.reduceSub,Int.reduceAdd,Int.reduceSub,Int.reduceToNat]
    try simp [bx,ah,ac]
 have e:rdF 1 p=(bx 1 1,false):=by rw [rdF,if_neg zD,if_pos rfl,if_pos hl]
 rw [e]
 refine au func51 zXk rfl fun E hE=>ab 400 ?_
 simp (disch:=omega) only [ntmps51,results51,go_sem,Nat.reduceEqDiff,Nat.reduceAdd,Nat.reduceSub,Int.reduceAdd,Int.reduceSub,Int.reduceToNat]
 refine aj (qI 0 1) (qC) _ zXg zF zF ?_
 simp (disch:=omega) only [go_sem,Nat.reduceEqDiff,Nat.reduceAdd,Nat.reduceSub,Int.reduceAdd,Int.reduceSub,Int.reduceToNat]
 try simp [bx,ah,ac]
theorem tC (p:List (List UInt8)) (hp:p.length<=1000) (ht:tot p<=600):aP 51 [.sc (.int .i64 2),.sc (.sl 0 0 p.length)] [some ⟨p.map aD,1,9,false,true⟩]
  (.tu [.ag (rdF 2 p).1.cs,.sc (.bo (rdF 2 p).2)]) [some ⟨p.map aD,1,9,false,true⟩]:=by
 have hN:=cB p hp
 have hg:rdF 2 p=mK 2 (bx 2 1) (br p):=jU zD zD
 cases hr:br p with
 |none=>
  have e:rdF 2 p=(bx 2 1,false):=by rw [hg,hr];rfl
  rw [e]
  rw [hr] at hN
  refine au func51 zXk rfl fun E hE=>ab 400 ?_
  simp (disch:=omega) only [ntmps51,results51,go_sem,Nat.reduceEqDiff,Nat.reduceAdd,Nat.reduceSub,Int.reduceAdd,Int.reduceSub,Int.reduceToNat]
  refine ai (qC) (hN) (qI 0 1) qM zF (ab 400 ?_)
  simp (disch:=omega) only [go_sem,Nat.reduceEqDiff,Nat.reduceAdd,Nat.reduceSub,Int.reduceAdd,Int.reduceSub,Int.reduceToNat]
  refine aj (qI 0 1) (qC) _ zXg zF zF ?_
  simp (disch:=omega) only [go_sem,Nat.reduceEqDiff,Nat.reduceAdd,Nat.reduceSub,Int.reduceAdd,Int.reduceSub,Int.reduceToNat]
  try simp [bx,ah,ac]
 |some l=>
  rw [hr] at hN hg
  simp only [zG,zk] at hN
  cases l with
  |nil=>
   have e:rdF 2 p=(bx 2 1,false):=by rw [hg];rfl
   rw [e]
   refine au func51 zXk rfl fun E hE=>ab 400 ?_
   simp (disch:=omega) only [ntmps51,results51,go_sem,Nat.reduceEqDiff,Nat.reduceAdd,Nat.reduceSub,Int.reduceAdd,Int.reduceSub,Int.reduceToNat]
   refine ai (qC) (hN) (qI 0 1) qM zF (ab 400 ?_)
   simp (disch:=omega) only [go_sem,Nat.reduceEqDiff,Nat.reduceAdd,Nat.reduceSub,Int.reduceAdd,Int.reduceSub,Int.reduceToNat]
   refine aj (qI 0 1) (qC) _ zXg zF zF ?_
   simp (disch:=omega) only [go_sem,Nat.reduceEqDiff,Nat.reduceAdd,Nat.reduceSub,Int.reduceAdd,Int.reduceSub,Int.reduceToNat]
   try simp [bx,ah,ac]
  |cons s l=>
   by_cases hl:l.length=1
   ·obtain⟨n,rfl⟩:=Au hl
    have e:rdF 2 p=(⟨2,s,0,n,[],ah,ac⟩,true):=by rw [hg];rfl
    rw [e]
    refine au func51 zXk rfl fun E hE=>ab 400 ?_
    simp (disch:=omega) only [ntmps51,results51,go_sem,Nat.reduceEqDiff,Nat.reduceAdd,Nat.reduceSub,Int.reduceAdd,Int.reduceSub,Int.reduceToNat]
    refine ai (qC) (hN) (qI 0 1) qM zF (ab 400 ?_)
    simp (disch:=omega) only [go_sem,Nat.reduceEqDiff,Nat.reduceAdd,Nat.reduceSub,Int.reduceAdd,Int.reduceSub,Int.reduceToNat]
    refine aj (qI 0 1) (qC) _ zXg zF zF ?_
    simp (disch:=omega) only [go_sem,Nat.reduceEqDiff,Nat.reduceAdd,Nat.reduceSub,Int.reduceAdd,Int.reduceSub,Int.reduceToNat]
    try simp [bx,ah,ac]
   have e:rdF 2 p=(⟨2,s,0,0,[],ah,ac⟩,false):=by
    rw [hg,mK,if_pos zD,if_neg zP,vP,if_pos (by first|(simp;omega)|simpa using hl)]
    rfl
   rw [e]
   refine au func51 zXk rfl fun E hE=>ab 400 ?_
   simp (disch:=omega) only [ntmps51,results51,go_sem,Nat.reduceEqDiff,Nat.reduceAdd,Nat.reduceSub,Int.reduceAdd,Int.reduceSub,Int.reduceToNat]
   refine ai (qC) (hN) (qI 0 1) qM zF (ab 400 ?_)
   simp (disch:=omega) only [go_sem,Nat.reduceEqDiff,Nat.reduceAdd,Nat.reduceSub,Int.reduceAdd,Int.reduceSub,Int.reduceToNat]
   refine aj (qI 0 1) (qC) _ zXg zF zF ?_
   simp (disch:=omega) only [go_sem,Nat.reduceEqDiff,Nat.reduceAdd,Nat.reduceSub,Int.reduceAdd,Int.reduceSub,Int.reduceToNat]
   try simp [bx,ah,ac]
theorem tD (p:List (List UInt8)) (hp:p.length<=1000) (ht:tot p<=600):aP 51 [.sc (.int .i64 3),.sc (.sl 0 0 p.length)] [some ⟨p.map aD,1,9,false,true⟩]
  (.tu [.ag (rdF 3 p).1.cs,.sc (.bo (rdF 3 p).2)]) [some ⟨p.map aD,1,9,false,true⟩]:=by
 have hN:=cB p hp
 have hg:rdF 3 p=mK 3 (bx 3 1) (br p):=jU zD zD
 cases hr:br p with
 |none=>
  have e:rdF 3 p=(bx 3 1,false):=by rw [hg,hr];rfl
  rw [e]
  rw [hr] at hN
  refine au func51 zXk rfl fun E hE=>ab 400 ?_
  simp (disch:=omega) only [ntmps51,results51,go_sem,Nat.reduceEqDiff,Nat.reduceAdd,Nat.reduceSub,Int.reduceAdd,Int.reduceSub,Int.reduceToNat]
  refine ai (qC) (hN) (qI 0 1) qM zF (ab 400 ?_)
  simp (disch:=omega) only [go_sem,Nat.reduceEqDiff,Nat.reduceAdd,Nat.reduceSub,Int.reduceAdd,Int.reduceSub,Int.reduceToNat]
  refine aj (qI 0 1) (qC) _ zXg zF zF ?_
  simp (disch:=omega) only [go_sem,Nat.reduceEqDiff,Nat.reduceAdd,Nat.reduceSub,Int.reduceAdd,Int.reduceSub,Int.reduceToNat]
  try simp [bx,ah,ac]
 |some l=>
  rw [hr] at hN hg
  simp only [zG,zk] at hN
  cases l with
  |nil=>
   have e:rdF 3 p=(bx 3 1,false):=by rw [hg];rfl
   rw [e]
   refine au func51 zXk rfl fun E hE=>ab 400 ?_
   simp (disch:=omega) only [ntmps51,results51,go_sem,Nat.reduceEqDiff,Nat.reduceAdd,Nat.reduceSub,Int.reduceAdd,Int.reduceSub,Int.reduceToNat]
   refine ai (qC) (hN) (qI 0 1) qM zF (ab 400 ?_)
   simp (disch:=omega) only [go_sem,Nat.reduceEqDiff,Nat.reduceAdd,Nat.reduceSub,Int.reduceAdd,Int.reduceSub,Int.reduceToNat]
   refine aj (qI 0 1) (qC) _ zXg zF zF ?_
   simp (disch:=omega) only [go_sem,Nat.reduceEqDiff,Nat.reduceAdd,Nat.reduceSub,Int.reduceAdd,Int.reduceSub,Int.reduceToNat]
   try simp [bx,ah,ac]
  |cons s l=>
   by_cases hl:l.length=0
   ·obtain rfl:=P7 hl
    have e:rdF 3 p=(⟨3,s,0,0,[],ah,ac⟩,true):=by rw [hg];rfl
    rw [e]
    refine au func51 zXk rfl fun E hE=>ab 400 ?_
    simp (disch:=omega) only [ntmps51,results51,go_sem,Nat.reduceEqDiff,Nat.reduceAdd,Nat.reduceSub,Int.reduceAdd,Int.reduceSub,Int.reduceToNat]
    refine ai (qC) (hN) (qI 0 1) qM zF (ab 400 ?_)
    simp (disch:=omega) only [go_sem,Nat.reduceEqDiff,Nat.reduceAdd,Nat.reduceSub,Int.reduceAdd,Int.reduceSub,Int.reduceToNat]
    refine aj (qI 0 1) (qC) _ zXg zF zF ?_
    simp (disch:=omega) only [go_sem,Nat.reduceEqDiff,Nat.reduceAdd,Nat.reduceSub,Int.reduceAdd,Int.reduceSub,Int.reduceToNat]
    try simp [bx,ah,ac]
   have e:rdF 3 p=(⟨3,s,0,0,[],ah,ac⟩,false):=by
    rw [hg,mK,if_pos zD,if_neg zP,vP,if_pos (by first|(simp;omega)|simpa using hl)]
    rfl
   rw [e]
   refine au func51 zXk rfl fun E hE=>ab 400 ?_
   simp (disch:=omega) only [ntmps51,results51,go_sem,Nat.reduceEqDiff,Nat.reduceAdd,Nat.reduceSub,Int.reduceAdd,Int.reduceSub,Int.reduceToNat]
   refine ai (qC) (hN) (qI 0 1) qM zF (ab 400 ?_)
   simp (disch:=omega) only [go_sem,Nat.reduceEqDiff,Nat.reduceAdd,Nat.reduceSub,Int.reduceAdd,Int.reduceSub,Int.reduceToNat]
   refine aj (qI 0 1) (qC) _ zXg zF zF ?_
   simp (disch:=omega) only [go_sem,Nat.reduceEqDiff,Nat.reduceAdd,Nat.reduceSub,Int.reduceAdd,Int.reduceSub,Int.reduceToNat]
   try simp [bx,ah,ac]
theorem tE (p:List (List UInt8)) (hp:p.length<=1000) (ht:tot p<=600):aP 51 [.sc (.int .i64 4),.sc (.sl 0 0 p.length)] [some ⟨p.map aD,1,9,false,true⟩]
  (.tu [.ag (rdF 4 p).1.cs,.sc (.bo (rdF 4 p).2)]) [some ⟨p.map aD,1,9,false,true⟩]:=by
 have hN:=cB p hp
 have hg:rdF 4 p=mK 4 (bx 4 1) (br p):=jU zD zD
 cases hr:br p with
 |none=>
  have e:rdF 4 p=(bx 4 1,false):=by rw [hg,hr];rfl
  rw [e]
  rw [hr] at hN
  refine au func51 zXk rfl fun E hE=>ab 400 ?_
  simp (disch:=omega) only [ntmps51,results51,go_sem,Nat.reduceEqDiff,Nat.reduceAdd,Nat.reduceSub,Int.reduceAdd,Int.reduceSub,Int.reduceToNat]
  refine ai (qC) (hN) (qI 0 1) qM zF (ab 400 ?_)
  simp (disch:=omega) only [go_sem,Nat.reduceEqDiff,Nat.reduceAdd,Nat.reduceSub,Int.reduceAdd,Int.reduceSub,Int.reduceToNat]
  refine aj (qI 0 1) (qC) _ zXg zF zF ?_
  simp (disch:=omega) only [go_sem,Nat.reduceEqDiff,Nat.reduceAdd,Nat.reduceSub,Int.reduceAdd,Int.reduceSub,Int.reduceToNat]
  try simp [bx,ah,ac]
 |some l=>
  rw [hr] at hN hg
  simp only [zG,zk] at hN
  cases l with
  |nil=>
   have e:rdF 4 p=(bx 4 1,false):=by rw [hg];rfl
   rw [e]
   refine au func51 zXk rfl fun E hE=>ab 400 ?_
   simp (disch:=omega) only [ntmps51,results51,go_sem,Nat.reduceEqDiff,Nat.reduceAdd,Nat.reduceSub,Int.reduceAdd,Int.reduceSub,Int.reduceToNat]
   refine ai (qC) (hN) (qI 0 1) qM zF (ab 400 ?_)
   simp (disch:=omega) only [go_sem,Nat.reduceEqDiff,Nat.reduceAdd,Nat.reduceSub,Int.reduceAdd,Int.reduceSub,Int.reduceToNat]
   refine aj (qI 0 1) (qC) _ zXg zF zF ?_
   simp (disch:=omega) only [go_sem,Nat.reduceEqDiff,Nat.reduceAdd,Nat.reduceSub,Int.reduceAdd,Int.reduceSub,Int.reduceToNat]
   try simp [bx,ah,ac]
  |cons s l=>
   by_cases hl:l.length=0
   ·obtain rfl:=P7 hl
    have e:rdF 4 p=(⟨4,s,0,0,[],ah,ac⟩,true):=by rw [hg];rfl
    rw [e]
    refine au func51 zXk rfl fun E hE=>ab 400 ?_
    simp (disch:=omega) only [ntmps51,results51,go_sem,Nat.reduceEqDiff,Nat.reduceAdd,Nat.reduceSub,Int.reduceAdd,Int.reduceSub,Int.reduceToNat]
    refine ai (qC) (hN) (qI 0 1) qM zF (ab 400 ?_)
    simp (disch:=omega) only [go_sem,Nat.reduceEqDiff,Nat.reduceAdd,Nat.reduceSub,Int.reduceAdd,Int.reduceSub,Int.reduceToNat]
    refine aj (qI 0 1) (qC) _ zXg zF zF ?_
    simp (disch:=omega) only [go_sem,Nat.reduceEqDiff,Nat.reduceAdd,Nat.reduceSub,Int.reduceAdd,Int.reduceSub,Int.reduceToNat]
    try simp [bx,ah,ac]
   have e:rdF 4 p=(⟨4,s,0,0,[],ah,ac⟩,false):=by
    rw [hg,mK,if_pos zD,if_neg zP,vP,if_pos (by first|(simp;omega)|simpa using hl)]
    rfl
   rw [e]
   refine au func51 zXk rfl fun E hE=>ab 400 ?_
   simp (disch:=omega) only [ntmps51,results51,go_sem,Nat.reduceEqDiff,Nat.reduceAdd,Nat.reduceSub,Int.reduceAdd,Int.reduceSub,Int.reduceToNat]
   refine ai (qC) (hN) (qI 0 1) qM zF (ab 400 ?_)
   simp (disch:=omega) only [go_sem,Nat.reduceEqDiff,Nat.reduceAdd,Nat.reduceSub,Int.reduceAdd,Int.reduceSub,Int.reduceToNat]
   refine aj (qI 0 1) (qC) _ zXg zF zF ?_
   simp (disch:=omega) only [go_sem,Nat.reduceEqDiff,Nat.reduceAdd,Nat.reduceSub,Int.reduceAdd,Int.reduceSub,Int.reduceToNat]
   try simp [bx,ah,ac]
theorem tF (p:List (List UInt8)) (hp:p.length<=1000) (ht:tot p<=600):aP 51 [.sc (.int .i64 5),.sc (.sl 0 0 p.length)] [some ⟨p.map aD,1,9,false,true⟩]
  (.tu [.ag (rdF 5 p).1.cs,.sc (.bo (rdF 5 p).2)]) [some ⟨p.map aD,1,9,false,true⟩]:=by
 have hN:=cB p hp
 have hg:rdF 5 p=mK 5 (bx 5 1) (br p):=jU zD zD
 cases hr:br p with
 |none=>
  have e:rdF 5 p=(bx 5 1,false):=by rw [hg,hr];rfl
  rw [e]
  rw [hr] at hN
  refine au func51 zXk rfl fun E hE=>ab 400 ?_
  simp (disch:=omega) only [ntmps51,results51,go_sem,Nat.reduceEqDiff,Nat.reduceAdd,Nat.reduceSub,Int.reduceAdd,Int.reduceSub,Int.reduceToNat]
  refine ai (qC) (hN) (qI 0 1) qM zF (ab 400 ?_)
  simp (disch:=omega) only [go_sem,Nat.reduceEqDiff,Nat.reduceAdd,Nat.reduceSub,Int.reduceAdd,Int.reduceSub,Int.reduceToNat]
  refine aj (qI 0 1) (qC) _ zXg zF zF ?_
  simp (disch:=omega) only [go_sem,Nat.reduceEqDiff,Nat.reduceAdd,Nat.reduceSub,Int.reduceAdd,Int.reduceSub,Int.reduceToNat]
  try simp [bx,ah,ac]
 |some l=>
  rw [hr] at hN hg
  simp only [zG,zk] at hN
  cases l with
  |nil=>
   have e:rdF 5 p=(bx 5 1,false):=by rw [hg];rfl
   rw [e]
   refine au func51 zXk rfl fun E hE=>ab 400 ?_
   simp (disch:=omega) only [ntmps51,results51,go_sem,Nat.reduceEqDiff,Nat.reduceAdd,Nat.reduceSub,Int.reduceAdd,Int.reduceSub,Int.reduceToNat]
   refine ai (qC) (hN) (qI 0 1) qM zF (ab 400 ?_)
   simp (disch:=omega) only [go_sem,Nat.reduceEqDiff,Nat.reduceAdd,Nat.reduceSub,Int.reduceAdd,Int.reduceSub,Int.reduceToNat]
   refine aj (qI 0 1) (qC) _ zXg zF zF ?_
   simp (disch:=omega) only [go_sem,Nat.reduceEqDiff,Nat.reduceAdd,Nat.reduceSub,Int.reduceAdd,Int.reduceSub,Int.reduceToNat]
   try simp [bx,ah,ac]
  |cons s l=>
   by_cases hl:l.length=3
   ·obtain⟨i,d,b,rfl⟩:=P0 hl
    have e:rdF 5 p=(⟨5,s,0,0,[],⟨i,d,b == 1,false⟩,ac⟩,true):=by rw [hg];rfl
    rw [e]
    refine au func51 zXk rfl fun E hE=>ab 400 ?_
    simp (disch:=omega) only [ntmps51,results51,go_sem,Nat.reduceEqDiff,Nat.reduceAdd,Nat.reduceSub,Int.reduceAdd,Int.reduceSub,Int.reduceToNat]
    refine ai (qC) (hN) (qI 0 1) qM zF (ab 400 ?_)
    simp (disch:=omega) only [go_sem,Nat.reduceEqDiff,Nat.reduceAdd,Nat.reduceSub,Int.reduceAdd,Int.reduceSub,Int.reduceToNat]
    refine ao (qU [0,13]) zXk (qC) zXk (aa 400 ?_)
    simp (disch:=omega) only [go_sem,Nat.reduceEqDiff,Nat.reduceAdd,Nat.reduceSub,Int.reduceAdd,Int.reduceSub,Int.reduceToNat]
    refine⟨qC,ab 400 ?_⟩
    try simp (disch:=omega) only [go_sem,Nat.reduceEqDiff,Nat.reduceAdd,Nat.reduceSub,Int.reduceAdd,Int.reduceSub,Int.reduceToNat]
    refine aj (qI 0 1) (qC) _ zXg zF zF ?_
    simp (disch:=omega) only [go_sem,Nat.reduceEqDiff,Nat.reduceAdd,Nat.reduceSub,Int.reduceAdd,Int.reduceSub,Int.reduceToNat]
    try simp [bx,ah,ac]
   have e:rdF 5 p=(⟨5,s,0,0,[],ah,ac⟩,false):=by
    rw [hg,mK,if_pos zD,if_neg zP,vP,if_pos (by first|(simp;omega)|simpa using hl)]
    rfl
   rw [e]
   refine au func51 zXk rfl fun E hE=>ab 400 ?_
   simp (disch:=omega) only [ntmps51,results51,go_sem,Nat.reduceEqDiff,Nat.reduceAdd,Nat.reduceSub,Int.reduceAdd,Int.reduceSub,Int.reduceToNat]
   refine ai (qC) (hN) (qI 0 1) qM zF (ab 400 ?_)
   simp (disch:=omega) only [go_sem,Nat.reduceEqDiff,Nat.reduceAdd,Nat.reduceSub,Int.reduceAdd,Int.reduceSub,Int.reduceToNat]
   refine aj (qI 0 1) (qC) _ zXg zF zF ?_
   simp (disch:=omega) only [go_sem,Nat.reduceEqDiff,Nat.reduceAdd,Nat.reduceSub,Int.reduceAdd,Int.reduceSub,Int.reduceToNat]
   try simp [bx,ah,ac]
theorem tG (p:List (List UInt8)) (hp:p.length<=1000) (ht:tot p<=600):aP 51 [.sc (.int .i64 6),.sc (.sl 0 0 p.length)] [some ⟨p.map aD,1,9,false,true⟩]
  (.tu [.ag (rdF 6 p).1.cs,.sc (.bo (rdF 6 p).2)]) [some ⟨p.map aD,1,9,false,true⟩]:=by
 have hN:=cB p hp
 have hg:rdF 6 p=mK 6 (bx 6 1) (br p):=jU zD zD
 cases hr:br p with
 |none=>
  have e:rdF 6 p=(bx 6 1,false):=by rw [hg,hr];rfl
  rw [e]
  rw [hr] at hN
  refine au func51 zXk rfl fun E hE=>ab 400 ?_
  simp (disch:=omega) only [ntmps51,results51,go_sem,Nat.reduceEqDiff,Nat.reduceAdd,Nat.reduceSub,Int.reduceAdd,Int.reduceSub,Int.reduceToNat]
  refine ai (qC) (hN) (qI 0 1) qM zF (ab 400 ?_)
  simp (disch:=omega) only [go_sem,Nat.reduceEqDiff,Nat.reduceAdd,Nat.reduceSub,Int.reduceAdd,Int.reduceSub,Int.reduceToNat]
  refine aj (qI 0 1) (qC) _ zXg zF zF ?_
  simp (disch:=omega) only [go_sem,Nat.reduceEqDiff,Nat.reduceAdd,Nat.reduceSub,Int.reduceAdd,Int.reduceSub,Int.reduceToNat]
  try simp [bx,ah,ac]
 |some l=>
  rw [hr] at hN hg
  simp only [zG,zk] at hN
  cases l with
  |nil=>
   have e:rdF 6 p=(bx 6 1,false):=by rw [hg];rfl
   rw [e]
   refine au func51 zXk rfl fun E hE=>ab 400 ?_
   simp (disch:=omega) only [ntmps51,results51,go_sem,Nat.reduceEqDiff,Nat.reduceAdd,Nat.reduceSub,Int.reduceAdd,Int.reduceSub,Int.reduceToNat]
   refine ai (qC) (hN) (qI 0 1) qM zF (ab 400 ?_)
   simp (disch:=omega) only [go_sem,Nat.reduceEqDiff,Nat.reduceAdd,Nat.reduceSub,Int.reduceAdd,Int.reduceSub,Int.reduceToNat]
   refine aj (qI 0 1) (qC) _ zXg zF zF ?_
   simp (disch:=omega) only [go_sem,Nat.reduceEqDiff,Nat.reduceAdd,Nat.reduceSub,Int.reduceAdd,Int.reduceSub,Int.reduceToNat]
   try simp [bx,ah,ac]
  |cons s l=>
   by_cases hl:l.length=1
   ·obtain⟨n,rfl⟩:=Au hl
    have e:rdF 6 p=(⟨6,s,n,0,[],ah,ac⟩,true):=by rw [hg];rfl
    rw [e]
    refine au func51 zXk rfl fun E hE=>ab 400 ?_
    simp (disch:=omega) only [ntmps51,results51,go_sem,Nat.reduceEqDiff,Nat.reduceAdd,Nat.reduceSub,Int.reduceAdd,Int.reduceSub,Int.reduceToNat]
    refine ai (qC) (hN) (qI 0 1) qM zF (ab 400 ?_)
    simp (disch:=omega) only [go_sem,Nat.reduceEqDiff,Nat.reduceAdd,Nat.reduceSub,Int.reduceAdd,Int.reduceSub,Int.reduceToNat]
    refine aj (qI 0 1) (qC) _ zXg zF zF ?_
    simp (disch:=omega) only [go_sem,Nat.reduceEqDiff,Nat.reduceAdd,Nat.reduceSub,Int.reduceAdd,Int.reduceSub,Int.reduceToNat]
    try simp [bx,ah,ac]
   have e:rdF 6 p=(⟨6,s,0,0,[],ah,ac⟩,false):=by
    rw [hg,mK,if_pos zD,if_neg zP,vP,if_pos (by first|(simp;omega)|simpa using hl)]
    rfl
   rw [e]
   refine au func51 zXk rfl fun E hE=>ab 400 ?_
   simp (disch:=omega) only [ntmps51,results51,go_sem,Nat.reduceEqDiff,Nat.reduceAdd,Nat.reduceSub,Int.reduceAdd,Int.reduceSub,Int.reduceToNat]
   refine ai (qC) (hN) (qI 0 1) qM zF (ab 400 ?_)
   simp (disch:=omega) only [go_sem,Nat.reduceEqDiff,Nat.reduceAdd,Nat.reduceSub,Int.reduceAdd,Int.reduceSub,Int.reduceToNat]
   refine aj (qI 0 1) (qC) _ zXg zF zF ?_
   simp (disch:=omega) only [go_sem,Nat.reduceEqDiff,Nat.reduceAdd,Nat.reduceSub,Int.reduceAdd,Int.reduceSub,Int.reduceToNat]
   try simp [bx,ah,ac]
theorem tH (p:List (List UInt8)) (hp:p.length<=1000) (ht:tot p<=600):aP 51 [.sc (.int .i64 7),.sc (.sl 0 0 p.length)] [some ⟨p.map aD,1,9,false,true⟩]
  (.tu [.ag (rdF 7 p).1.cs,.sc (.bo (rdF 7 p).2)]) [some ⟨p.map aD,1,9,false,true⟩]:=by
 have hN:=cB p hp
 have hg:rdF 7 p=mK 7 (bx 7 1) (br p):=jU zD zD
 cases hr:br p with
 |none=>
  have e:rdF 7 p=(bx 7 1,false):=by rw [hg,hr];rfl
  rw [e]
  rw [hr] at hN
  refine au func51 zXk rfl fun E hE=>ab 400 ?_
  simp (disch:=omega) only [ntmps51,results51,go_sem,Nat.reduceEqDiff,Nat.reduceAdd,Nat.reduceSub,Int.reduceAdd,Int.reduceSub,Int.reduceToNat]
  refine ai (qC) (hN) (qI 0 1) qM zF (ab 400 ?_)
  simp (disch:=omega) only [go_sem,Nat.reduceEqDiff,Nat.reduceAdd,Nat.reduceSub,Int.reduceAdd,Int.reduceSub,Int.reduceToNat]
  refine aj (qI 0 1) (qC) _ zXg zF zF ?_
  simp (disch:=omega) only [go_sem,Nat.reduceEqDiff,Nat.reduceAdd,Nat.reduceSub,Int.reduceAdd,Int.reduceSub,Int.reduceToNat]
  try simp [bx,ah,ac]
 |some l=>
  rw [hr] at hN hg
  simp only [zG,zk] at hN
  cases l with
  |nil=>
   have e:rdF 7 p=(bx 7 1,false):=by rw [hg];rfl
   rw [e]
   refine au func51 zXk rfl fun E hE=>ab 400 ?_
   simp (disch:=omega) only [ntmps51,results51,go_sem,Nat.reduceEqDiff,Nat.reduceAdd,Nat.reduceSub,Int.reduceAdd,Int.reduceSub,Int.reduceToNat]
   refine ai (qC) (hN) (qI 0 1) qM zF (ab 400 ?_)
   simp (disch:=omega) only [go_sem,Nat.reduceEqDiff,Nat.reduceAdd,Nat.reduceSub,Int.reduceAdd,Int.reduceSub,Int.reduceToNat]
   refine aj (qI 0 1) (qC) _ zXg zF zF ?_
   simp (disch:=omega) only [go_sem,Nat.reduceEqDiff,Nat.reduceAdd,Nat.reduceSub,Int.reduceAdd,Int.reduceSub,Int.reduceToNat]
   try simp [bx,ah,ac]
  |cons s l=>
   by_cases hl:l.length=1
   ·obtain⟨n,rfl⟩:=Au hl
    have e:rdF 7 p=(⟨7,s,n,0,[],ah,ac⟩,true):=by rw [hg];rfl
    rw [e]
    refine au func51 zXk rfl fun E hE=>ab 400 ?_
    simp (disch:=omega) only [ntmps51,results51,go_sem,Nat.reduceEqDiff,Nat.reduceAdd,Nat.reduceSub,Int.reduceAdd,Int.reduceSub,Int.reduceToNat]
    refine ai (qC) (hN) (qI 0 1) qM zF (ab 400 ?_)
    simp (disch:=omega) only [go_sem,Nat.reduceEqDiff,Nat.reduceAdd,Nat.reduceSub,Int.reduceAdd,Int.reduceSub,Int.reduceToNat]
    refine aj (qI 0 1) (qC) _ zXg zF zF ?_
    simp (disch:=omega) only [go_sem,Nat.reduceEqDiff,Nat.reduceAdd,Nat.reduceSub,Int.reduceAdd,Int.reduceSub,Int.reduceToNat]
    try simp [bx,ah,ac]
   have e:rdF 7 p=(⟨7,s,0,0,[],ah,ac⟩,false):=by
    rw [hg,mK,if_pos zD,if_neg zP,vP,if_pos (by first|(simp;omega)|simpa using hl)]
    rfl
   rw [e]
   refine au func51 zXk rfl fun E hE=>ab 400 ?_
   simp (disch:=omega) only [ntmps51,results51,go_sem,Nat.reduceEqDiff,Nat.reduceAdd,Nat.reduceSub,Int.reduceAdd,Int.reduceSub,Int.reduceToNat]
   refine ai (qC) (hN) (qI 0 1) qM zF (ab 400 ?_)
   simp (disch:=omega) only [go_sem,Nat.reduceEqDiff,Nat.reduceAdd,Nat.reduceSub,Int.reduceAdd,Int.reduceSub,Int.reduceToNat]
   refine aj (qI 0 1) (qC) _ zXg zF zF ?_
   simp (disch:=omega) only [go_sem,Nat.reduceEqDiff,Nat.reduceAdd,Nat.reduceSub,Int.reduceAdd,Int.reduceSub,Int.reduceToNat]
   try simp [bx,ah,ac]
theorem tI (p:List (List UInt8)) (hp:p.length<=1000) (ht:tot p<=600):aP 51 [.sc (.int .i64 8),.sc (.sl 0 0 p.length)] [some ⟨p.map aD,1,9,false,true⟩]
  (.tu [.ag (rdF 8 p).1.cs,.sc (.bo (rdF 8 p).2)]) [some ⟨p.map aD,1,9,false,true⟩]:=by
 have hN:=cB p hp
 have hg:rdF 8 p=mK 8 (bx 8 1) (br p):=jU zD zD
 cases hr:br p with
 |none=>
  have e:rdF 8 p=(bx 8 1,false):=by rw [hg,hr];rfl
  rw [e]
  rw [hr] at hN
  refine au func51 zXk rfl fun E hE=>ab 400 ?_
  simp (disch:=omega) only [ntmps51,results51,go_sem,Nat.reduceEqDiff,Nat.reduceAdd,Nat.reduceSub,Int.reduceAdd,Int.reduceSub,Int.reduceToNat]
  refine ai (qC) (hN) (qI 0 1) qM zF (ab 400 ?_)
  simp (disch:=omega) only [go_sem,Nat.reduceEqDiff,Nat.reduceAdd,Nat.reduceSub,Int.reduceAdd,Int.reduceSub,Int.reduceToNat]
  refine aj (qI 0 1) (qC) _ zXg zF zF ?_
  simp (disch:=omega) only [go_sem,Nat.reduceEqDiff,Nat.reduceAdd,Nat.reduceSub,Int.reduceAdd,Int.reduceSub,Int.reduceToNat]
  try simp [bx,ah,ac]
 |some l=>
  rw [hr] at hN hg
  simp only [zG,zk] at hN
  by_cases hl:l.length=1
  ·obtain⟨n,rfl⟩:=Au hl
   have e:rdF 8 p=(⟨8,1,n,0,[],ah,ac⟩,true):=by rw [hg];rfl
   rw [e]
   refine au func51 zXk rfl fun E hE=>ab 400 ?_
   simp (disch:=omega) only [ntmps51,results51,go_sem,Nat.reduceEqDiff,Nat.reduceAdd,Nat.reduceSub,Int.reduceAdd,Int.reduceSub,Int.reduceToNat]
   refine ai (qC) (hN) (qI 0 1) qM zF (ab 400 ?_)
   simp (disch:=omega) only [go_sem,Nat.reduceEqDiff,Nat.reduceAdd,Nat.reduceSub,Int.reduceAdd,Int.reduceSub,Int.reduceToNat]
   refine aj (qI 0 1) (qC) _ zXg zF zF ?_
   simp (disch:=omega) only [go_sem,Nat.reduceEqDiff,Nat.reduceAdd,Nat.reduceSub,Int.reduceAdd,Int.reduceSub,Int.reduceToNat]
   try simp [bx,ah,ac]
  have e:rdF 8 p=(bx 8 1,false):=by
   rw [hg,mK,if_neg zD,vP,if_pos (by first|(simp;omega)|simpa using hl)]
  rw [e]
  refine au func51 zXk rfl fun E hE=>ab 400 ?_
  simp (disch:=omega) only [ntmps51,results51,go_sem,Nat.reduceEqDiff,Nat.reduceAdd,Nat.reduceSub,Int.reduceAdd,Int.reduceSub,Int.reduceToNat]
  refine ai (qC) (hN) (qI 0 1) qM zF (ab 400 ?_)
  simp (disch:=omega) only [go_sem,Nat.reduceEqDiff,Nat.reduceAdd,Nat.reduceSub,Int.reduceAdd,Int.reduceSub,Int.reduceToNat]
  refine aj (qI 0 1) (qC) _ zXg zF zF ?_
  simp (disch:=omega) only [go_sem,Nat.reduceEqDiff,Nat.reduceAdd,Nat.reduceSub,Int.reduceAdd,Int.reduceSub,Int.reduceToNat]
  try simp [bx,ah,ac]
theorem tJ (p:List (List UInt8)) (hp:p.length<=1000) (ht:tot p<=600):aP 51 [.sc (.int .i64 9),.sc (.sl 0 0 p.length)] [some ⟨p.map aD,1,9,false,true⟩]
  (.tu [.ag (rdF 9 p).1.cs,.sc (.bo (rdF 9 p).2)]) [some ⟨p.map aD,1,9,false,true⟩]:=by
 have hN:=cB p hp
 have hg:rdF 9 p=mK 9 (bx 9 1) (br p):=jU zD zD
 cases hr:br p with
 |none=>
  have e:rdF 9 p=(bx 9 1,false):=by rw [hg,hr];rfl
  rw [e]
  rw [hr] at hN
  refine au func51 zXk rfl fun E hE=>ab 400 ?_
  simp (disch:=omega) only [ntmps51,results51,go_sem,Nat.reduceEqDiff,Nat.reduceAdd,Nat.reduceSub,Int.reduceAdd,Int.reduceSub,Int.reduceToNat]
  refine ai (qC) (hN) (qI 0 1) qM zF (ab 400 ?_)
  simp (disch:=omega) only [go_sem,Nat.reduceEqDiff,Nat.reduceAdd,Nat.reduceSub,Int.reduceAdd,Int.reduceSub,Int.reduceToNat]
  refine aj (qI 0 1) (qC) _ zXg zF zF ?_
  simp (disch:=omega) only [go_sem,Nat.reduceEqDiff,Nat.reduceAdd,Nat.reduceSub,Int.reduceAdd,Int.reduceSub,Int.reduceToNat]
  try simp [bx,ah,ac]
 |some l=>
  rw [hr] at hN hg
  simp only [zG,zk] at hN
  by_cases hl:l.length=1
  ·obtain⟨n,rfl⟩:=Au hl
   have e:rdF 9 p=(⟨9,1,n,0,[],ah,ac⟩,true):=by rw [hg];rfl
   rw [e]
   refine au func51 zXk rfl fun E hE=>ab 400 ?_
   simp (disch:=omega) only [ntmps51,results51,go_sem,Nat.reduceEqDiff,Nat.reduceAdd,Nat.reduceSub,Int.reduceAdd,Int.reduceSub,Int.reduceToNat]
   refine ai (qC) (hN) (qI 0 1) qM zF (ab 400 ?_)
   simp (disch:=omega) only [go_sem,Nat.reduceEqDiff,Nat.reduceAdd,Nat.reduceSub,Int.reduceAdd,Int.reduceSub,Int.reduceToNat]
   refine aj (qI 0 1) (qC) _ zXg zF zF ?_
   simp (disch:=omega) only [go_sem,Nat.reduceEqDiff,Nat.reduceAdd,Nat.reduceSub,Int.reduceAdd,Int.reduceSub,Int.reduceToNat]
   try simp [bx,ah,ac]
  have e:rdF 9 p=(bx 9 1,false):=by
   rw [hg,mK,if_neg zD,vP,if_pos (by first|(simp;omega)|simpa using hl)]
  rw [e]
  refine au func51 zXk rfl fun E hE=>ab 400 ?_
  simp (disch:=omega) only [ntmps51,results51,go_sem,Nat.reduceEqDiff,Nat.reduceAdd,Nat.reduceSub,Int.reduceAdd,Int.reduceSub,Int.reduceToNat]
  refine ai (qC) (hN) (qI 0 1) qM zF (ab 400 ?_)
  simp (disch:=omega) only [go_sem,Nat.reduceEqDiff,Nat.reduceAdd,Nat.reduceSub,Int.reduceAdd,Int.reduceSub,Int.reduceToNat]
  refine aj (qI 0 1) (qC) _ zXg zF zF ?_
  simp (disch:=omega) only [go_sem,Nat.reduceEqDiff,Nat.reduceAdd,Nat.reduceSub,Int.reduceAdd,Int.reduceSub,Int.reduceToNat]
  try simp [bx,ah,ac]
theorem rm (p:List (List UInt8)) (hp:p.length<=1000) (ht:tot p<=600):aP 51 [.sc (.int .i64 10),.sc (.sl 0 0 p.length)] [some ⟨p.map aD,1,9,false,true⟩]
  (.tu [.ag (rdF 10 p).1.cs,.sc (.bo (rdF 10 p).2)]) [some ⟨p.map aD,1,9,false,true⟩]:=by
 have hN:=cB p hp
 have hg:rdF 10 p=mK 10 (bx 10 1) (br p):=jU zD zD
 cases hr:br p with
 |none=>
  have e:rdF 10 p=(bx 10 1,false):=by rw [hg,hr];rfl
  rw [e]
  rw [hr] at hN
  refine au func51 zXk rfl fun E hE=>ab 400 ?_
  simp (disch:=omega) only [ntmps51,results51,go_sem,Nat.reduceEqDiff,Nat.reduceAdd,Nat.reduceSub,Int.reduceAdd,Int.reduceSub,Int.reduceToNat]
  refine ai (qC) (hN) (qI 0 1) qM zF (ab 400 ?_)
  simp (disch:=omega) only [go_sem,Nat.reduceEqDiff,Nat.reduceAdd,Nat.reduceSub,Int.reduceAdd,Int.reduceSub,Int.reduceToNat]
  refine aj (qI 0 1) (qC) _ zXg zF zF ?_
  simp (disch:=omega) only [go_sem,Nat.reduceEqDiff,Nat.reduceAdd,Nat.reduceSub,Int.reduceAdd,Int.reduceSub,Int.reduceToNat]
  try simp [bx,ah,ac]
 |some l=>
  rw [hr] at hN hg
  simp only [zG,zk] at hN
  by_cases hl:l.length=1
  ·obtain⟨n,rfl⟩:=Au hl
   have e:rdF 10 p=(⟨10,1,n,0,[],ah,ac⟩,true):=by rw [hg];rfl
   rw [e]
   refine au func51 zXk rfl fun E hE=>ab 400 ?_
   simp (disch:=omega) only [ntmps51,results51,go_sem,Nat.reduceEqDiff,Nat.reduceAdd,Nat.reduceSub,Int.reduceAdd,Int.reduceSub,Int.reduceToNat]
   refine ai (qC) (hN) (qI 0 1) qM zF (ab 400 ?_)
   simp (disch:=omega) only [go_sem,Nat.reduceEqDiff,Nat.reduceAdd,Nat.reduceSub,Int.reduceAdd,Int.reduceSub,Int.reduceToNat]
   refine aj (qI 0 1) (qC) _ zXg zF zF ?_
   simp (disch:=omega) only [go_sem,Nat.reduceEqDiff,Nat.reduceAdd,Nat.reduceSub,Int.reduceAdd,Int.reduceSub,Int.reduceToNat]
   try simp [bx,ah,ac]
  have e:rdF 10 p=(bx 10 1,false):=by
   rw [hg,mK,if_neg zD,vP,if_pos (by first|(simp;omega)|simpa using hl)]
  rw [e]
  refine au func51 zXk rfl fun E hE=>ab 400 ?_
  simp (disch:=omega) only [ntmps51,results51,go_sem,Nat.reduceEqDiff,Nat.reduceAdd,Nat.reduceSub,Int.reduceAdd,Int.reduceSub,Int.reduceToNat]
  refine ai (qC) (hN) (qI 0 1) qM zF (ab 400 ?_)
  simp (disch:=omega) only [go_sem,Nat.reduceEqDiff,Nat.reduceAdd,Nat.reduceSub,Int.reduceAdd,Int.reduceSub,Int.reduceToNat]
  refine aj (qI 0 1) (qC) _ zXg zF zF ?_
  simp (disch:=omega) only [go_sem,Nat.reduceEqDiff,Nat.reduceAdd,Nat.reduceSub,Int.reduceAdd,Int.reduceSub,Int.reduceToNat]
  try simp [bx,ah,ac]
theorem rn (p:List (List UInt8)) (hp:p.length<=1000) (ht:tot p<=600):aP 51 [.sc (.int .i64 12),.sc (.sl 0 0 p.length)] [some ⟨p.map aD,1,9,false,true⟩]
  (.tu [.ag (rdF 12 p).1.cs,.sc (.bo (rdF 12 p).2)]) [some ⟨p.map aD,1,9,false,true⟩]:=by
 have hN:=cB p hp
 have hg:rdF 12 p=mK 12 (bx 12 1) (br p):=jU zD zD
 cases hr:br p with
 |none=>
  have e:rdF 12 p=(bx 12 1,false):=by rw [hg,hr];rfl
  rw [e]
  rw [hr] at hN
  refine au func51 zXk rfl fun E hE=>ab 400 ?_
  simp (disch:=omega) only [ntmps51,results51,go_sem,Nat.reduceEqDiff,Nat.reduceAdd,Nat.reduceSub,Int.reduceAdd,Int.reduceSub,Int.reduceToNat]
  refine ai (qC) (hN) (qI 0 1) qM zF (ab 400 ?_)
  simp (disch:=omega) only [go_sem,Nat.reduceEqDiff,Nat.reduceAdd,Nat.reduceSub,Int.reduceAdd,Int.reduceSub,Int.reduceToNat]
  refine aj (qI 0 1) (qC) _ zXg zF zF ?_
  simp (disch:=omega) only [go_sem,Nat.reduceEqDiff,Nat.reduceAdd,Nat.reduceSub,Int.reduceAdd,Int.reduceSub,Int.reduceToNat]
  try simp [bx,ah,ac]
 |some l=>
  rw [hr] at hN hg
  simp only [zG,zk] at hN
  by_cases hl:l.length=1
  ·obtain⟨n,rfl⟩:=Au hl
   have e:rdF 12 p=(⟨12,1,n,0,[],ah,ac⟩,true):=by rw [hg];rfl
   rw [e]
   refine au func51 zXk rfl fun E hE=>ab 400 ?_
   simp (disch:=omega) only [ntmps51,results51,go_sem,Nat.reduceEqDiff,Nat.reduceAdd,Nat.reduceSub,Int.reduceAdd,Int.reduceSub,Int.reduceToNat]
   refine ai (qC) (hN) (qI 0 1) qM zF (ab 400 ?_)
   simp (disch:=omega) only [go_sem,Nat.reduceEqDiff,Nat.reduceAdd,Nat.reduceSub,Int.reduceAdd,Int.reduceSub,Int.reduceToNat]
   refine aj (qI 0 1) (qC) _ zXg zF zF ?_
   simp (disch:=omega) only [go_sem,Nat.reduceEqDiff,Nat.reduceAdd,Nat.reduceSub,Int.reduceAdd,Int.reduceSub,Int.reduceToNat]
   try simp [bx,ah,ac]
  have e:rdF 12 p=(bx 12 1,false):=by
   rw [hg,mK,if_neg zD,vP,if_pos (by first|(simp;omega)|simpa using hl)]
  rw [e]
  refine au func51 zXk rfl fun E hE=>ab 400 ?_
  simp (disch:=omega) only [ntmps51,results51,go_sem,Nat.reduceEqDiff,Nat.reduceAdd,Nat.reduceSub,Int.reduceAdd,Int.reduceSub,Int.reduceToNat]
  refine ai (qC) (hN) (qI 0 1) qM zF (ab 400 ?_)
  simp (disch:=omega) only [go_sem,Nat.reduceEqDiff,Nat.reduceAdd,Nat.reduceSub,Int.reduceAdd,Int.reduceSub,Int.reduceToNat]
  refine aj (qI 0 1) (qC) _ zXg zF zF ?_
  simp (disch:=omega) only [go_sem,Nat.reduceEqDiff,Nat.reduceAdd,Nat.reduceSub,Int.reduceAdd,Int.reduceSub,Int.reduceToNat]
  try simp [bx,ah,ac]
theorem ro (p:List (List UInt8)) (hp:p.length<=1000) (ht:tot p<=600):aP 51 [.sc (.int .i64 11),.sc (.sl 0 0 p.length)] [some ⟨p.map aD,1,9,false,true⟩]
  (.tu [.ag (rdF 11 p).1.cs,.sc (.bo (rdF 11 p).2)]) [some ⟨p.map aD,1,9,false,true⟩]:=by
 by_cases hl:p.length=1
 ·obtain⟨a,rfl⟩:=Au hl
  have e:rdF 11 [a]=(⟨11,1,0,0,[],ah,(wo a).1⟩,(wo a).2):=rfl
  have ha:a.length<=1048576:=by simp [tot] at ht;omega
  have hu:=pH a ha
  rw [e]
  generalize wo a=u at*
  refine qE func51 ntmps51 results51 fun E hE=>?_
  try simp (disch:=omega) only [go_sem,seval,aD]
  refine qK (hu) [] ?_
  refine qP (qI 0 1) ?_
  first|exact⟨⟩|simp [bx,ah,ac]
 have e:rdF 11 p=(bx 11 1,false):=by rw [rdF,if_pos rfl,if_pos hl]
 rw [e]
 refine qE func51 ntmps51 results51 fun E hE=>?_
 refine qP (qI 0 1) ?_
 first|exact⟨⟩|simp [bx,ah,ac]
theorem vZ (k:Int) (hk:1<=k/\k<=12) (p:List (List UInt8)) (hp:p.length<=1000) (ht:tot p<=600):aP 51 [.sc (.int .i64 k),.sc (.sl 0 0 p.length)] [some ⟨p.map aD,1,9,false,true⟩]
  (.tu [.ag (rdF k p).1.cs,.sc (.bo (rdF k p).2)]) [some ⟨p.map aD,1,9,false,true⟩]:=by
 rcases (by omega:k=1\/k=2\/k=3\/k=4\/k=5\/k=6\/k=7\/k=8\/k=9\/k=10\/k=11\/k=12) with rfl|rfl|rfl|rfl|rfl|rfl|rfl|rfl|rfl|rfl|rfl|rfl
 ·exact tB p hp ht
 ·exact tC p hp ht
 ·exact tD p hp ht
 ·exact tE p hp ht
 ·exact tF p hp ht
 ·exact tG p hp ht
 ·exact tH p hp ht
 ·exact tI p hp ht
 ·exact tJ p hp ht
 ·exact rm p hp ht
 ·exact ro p hp ht
 exact rn p hp ht
end
end Go.Proofs.YtdiiopjaebnmfaaGreatDoor
