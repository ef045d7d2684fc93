/- Lemmas of this claim. -/
import Derived.Test.YtdiiopjaebnmfaaGreatDoorZFnScriptsI
set_option maxHeartbeats 16000000
set_option maxRecDepth 100000
set_option linter.unusedVariables false
set_option linter.unusedSimpArgs false
namespace Go.Proofs.YtdiiopjaebnmfaaGreatDoor
open _root_.Go.Proofs.Tryz
open _root_.Option renaming isSome_some->Ru,getD_some->Rv
open _root_.List renaming take_succ_cons->Rw,eq_nil_of_length_eq_zero->Rx,take_zero->Ry
section
open Go.RowKit
theorem ck (p:List (List UInt8)) (hp:p.length<=1000):aP 77 [.sc (.sl 0 0 p.length)] [some ⟨p.map aM,1,9,false,true⟩]
  (.tu [.sc (.sl 1 0 ((aY p).getD []).length),.sc (.bo (aY p).isSome)]) [some ⟨p.map aM,1,9,false,true⟩,some ⟨((aY p).getD []).map cB,1,3,true,true⟩]:=by
 have hst:=DA p
 obtain⟨R,hR⟩:∃ R,R=aY p:=⟨_,rfl⟩
 rw [<-hR] at hst⊢
 refine qE func77 ntmps77 results77 fun E hE=>?_
 refine kw 1 hE (fun s (x:Nat×List Int)=>s.at (qU [0,1,2,2,6,3,12,15]) [(4,.sc (.sl 1 0 x.2.length)),(11,.sc (.int .i64 (x.1:Nat)))] ([some ⟨p.map aM,1,9,false,true⟩,some ⟨x.2.map cB,1,3,true,true⟩])) (fun (x:Nat×List Int)=>x.1<=p.length/\x.2.length=x.1/\(aY (p.drop x.1)).map (x.2++ ·)=R) (fun (x:Nat×List Int)=>p.length - x.1) (0,[]) (qI 0 1++qO 1) (⟨Nat.zero_le _,rfl,hst⟩) fun x hx N hN=>?_
 obtain⟨k,acc⟩:=x
 obtain⟨hk,hl,hx⟩:=hx
 dsimp only at hk hl hx
 refine qR ?_
 refine qB (fun h=>?_) fun h=>?_
 ·have hx2:=G3 h hx
  have hd:=im p[k]
  try simp (disch:=omega) only [go_sem,seval,aM]
  refine qK (hd) [] ?_
  refine qB (fun h2=>?_) fun h2=>?_
  ·rw [if_neg (by simp [h2])] at hx2
   subst hx2
   refine qJ (qI 0 1++qO 1) ?_
   simp
  rw [if_pos h2] at hx2
  generalize (dC p[k]).1=n at*
  refine⟨qC,hN _ (k+1,acc++[n]) (qI 0 1++qI 3 1) (by (try dsimp only);exact⟨zO,by simp;omega,hx2⟩) (by (try dsimp only);omega) (ay zF zF ?_)⟩
  refine qX ?_
  simp [cB]
 have hx2:=Lu zO hx
 subst hx2
 refine qJ (qI 0 2) ?_
 simp
theorem x9 {α:Type} {l:List α} (h:l.length=1):∃ a,l=[a]:=by
 match l,h with
 |[a],_=>exact⟨a,rfl⟩
theorem Rk {α:Type} {l:List α} (h:l.length=2):∃ a b,l=[a,b]:=by
 match l,h with
 |[a,b],_=>exact⟨a,b,rfl⟩
theorem Rl {α:Type} {l:List α} (h:l.length=3):∃ a b c,l=[a,b,c]:=by
 match l,h with
 |[a,b,c],_=>exact⟨a,b,c,rfl⟩
theorem iK {k:Int} {p:List (List UInt8)} (h1:k≠1) (h11:k≠11):rdF k p=lf k (bf k 1) (aY p):=by
 rw [rdF,if_neg h11,if_neg h1]
theorem rc (p:List (List UInt8)) (hp:p.length<=1000) (ht:tot p<=600):aP 51 [.sc (.int .i64 1),.sc (.sl 0 0 p.length)] [some ⟨p.map aM,1,9,false,true⟩]
  (.tu [.ag (rdF 1 p).1.cs,.sc (.bo (rdF 1 p).2)]) [some ⟨p.map aM,1,9,false,true⟩]:=by
 by_cases hl:p.length=2
 ·obtain⟨a,b,rfl⟩:=Rk hl
  have hN:=ck [a] zP
  by_cases hb:b=[45]
  ·subst hb
   have he:rdF 1 [a,[45]]=lf 1 ⟨1,1,0,0,[],ae,ac⟩ (aY ([a,[45]].take 1)):=rfl
   cases hr:aY [a] with
   |none=>
    have e:rdF 1 [a,[45]]=(⟨1,1,0,0,[],ae,ac⟩,false):=by rw [he];simp only [Rw,Ry,hr];rfl
    rw [e]
    rw [hr] at hN
    refine ao func51 (by kernel_rfl) rfl fun E hE=>aa 400 ?_
    simp (disch:=omega) only [ntmps51,results51,go_sem,Nat.reduceEqDiff,Nat.reduceAdd,Nat.reduceSub,Int.reduceAdd,Int.reduceSub,Int.reduceToNat]
    refine ak (qU [0,6]) (by kernel_rfl) (qC) (by kernel_rfl) (ab 400 ?_)
    simp (disch:=omega) only [go_sem,Nat.reduceEqDiff,Nat.reduceAdd,Nat.reduceSub,Int.reduceAdd,Int.reduceSub,Int.reduceToNat]
    try simp (disch:=omega) only [go_sem,Nat.reduceEqDiff,Nat.reduceAdd,Nat.reduceSub,Int.reduceAdd,Int.reduceSub,Int.reduceToNat,aM]
    refine⟨qC,aa 400 ?_⟩
    try simp (disch:=omega) only [go_sem,Nat.reduceEqDiff,Nat.reduceAdd,Nat.reduceSub,Int.reduceAdd,Int.reduceSub,Int.reduceToNat,aM]
    refine ah (qC) (hN) [some (0,some 0)] qM zF (aa 400 ?_)
    simp (disch:=omega) only [go_sem,Nat.reduceEqDiff,Nat.reduceAdd,Nat.reduceSub,Int.reduceAdd,Int.reduceSub,Int.reduceToNat]
    refine ai (qI 0 1) (qC) _ (by simp only [go_sem];rfl) zF zF ?_
    simp (disch:=omega) only [go_sem,Nat.reduceEqDiff,Nat.reduceAdd,Nat.reduceSub,Int.reduceAdd,Int.reduceSub,Int.reduceToNat]
    try simp [bf,ae,ac]
   |some l=>
    obtain⟨s,rfl⟩:=x9 (rE hr)
    have e:rdF 1 [a,[45]]=(⟨1,s,0,0,[],ae,ac⟩,true):=by rw [he];simp only [Rw,Ry,hr];rfl
    rw [e]
    rw [hr] at hN
    simp only [Rv,Ru] at hN
    refine ao func51 (by kernel_rfl) rfl fun E hE=>aa 400 ?_
    simp (disch:=omega) only [ntmps51,results51,go_sem,Nat.reduceEqDiff,Nat.reduceAdd,Nat.reduceSub,Int.reduceAdd,Int.reduceSub,Int.reduceToNat]
    refine ak (qU [0,6]) (by kernel_rfl) (qC) (by kernel_rfl) (ab 400 ?_)
    simp (disch:=omega) only [go_sem,Nat.reduceEqDiff,Nat.reduceAdd,Nat.reduceSub,Int.reduceAdd,Int.reduceSub,Int.reduceToNat]
    try simp (disch:=omega) only [go_sem,Nat.reduceEqDiff,Nat.reduceAdd,Nat.reduceSub,Int.reduceAdd,Int.reduceSub,Int.reduceToNat,aM]
    refine⟨qC,aa 400 ?_⟩
    try simp (disch:=omega) only [go_sem,Nat.reduceEqDiff,Nat.reduceAdd,Nat.reduceSub,Int.reduceAdd,Int.reduceSub,Int.reduceToNat,aM]
    refine ah (qC) (hN) [some (0,some 0)] qM zF (aa 400 ?_)
    simp (disch:=omega) only [go_sem,Nat.reduceEqDiff,Nat.reduceAdd,Nat.reduceSub,Int.reduceAdd,Int.reduceSub,Int.reduceToNat]
    refine ai (qI 0 1) (qC) _ (by simp only [go_sem];rfl) zF zF ?_
    simp (disch:=omega) only [go_sem,Nat.reduceEqDiff,Nat.reduceAdd,Nat.reduceSub,Int.reduceAdd,Int.reduceSub,Int.reduceToNat]
    try simp [bf,ae,ac]
  have hu:=vh b (by simp [tot] at ht;omega)
  have hb':(b == [45])=false:=by simpa using hb
  have hw:iq b=fX b:=if_neg hb
  have hd:rdF 1 [a,b]=if (iq b).2=false then (⟨1,1,0,0,(iq b).1,ae,ac⟩,false) else lf 1 ⟨1,1,0,0,(iq b).1,ae,ac⟩ (aY ([a,b].take 1)):=rfl
  rw [hw] at hd
  generalize fX b=u at*
  obtain⟨t,ok⟩:=u
  dsimp only at hu hd
  cases ok with
  |false=>
   rw [if_pos rfl] at hd
   rw [hd]
   refine ao func51 (by kernel_rfl) rfl fun E hE=>aa 400 ?_
   simp (disch:=omega) only [ntmps51,results51,go_sem,Nat.reduceEqDiff,Nat.reduceAdd,Nat.reduceSub,Int.reduceAdd,Int.reduceSub,Int.reduceToNat]
   refine ak (qU [0,6]) (by kernel_rfl) (qC) (by kernel_rfl) (ab 400 ?_)
   simp (disch:=omega) only [go_sem,Nat.reduceEqDiff,Nat.reduceAdd,Nat.reduceSub,Int.reduceAdd,Int.reduceSub,Int.reduceToNat]
   try simp (disch:=omega) only [go_sem,Nat.reduceEqDiff,Nat.reduceAdd,Nat.reduceSub,Int.reduceAdd,Int.reduceSub,Int.reduceToNat,aM]
   refine⟨qC,aa 400 ?_⟩
   try simp (disch:=omega) only [go_sem,Nat.reduceEqDiff,Nat.reduceAdd,Nat.reduceSub,Int.reduceAdd,Int.reduceSub,Int.reduceToNat,aM]
   try simp (disch:=omega) only [go_sem,Nat.reduceEqDiff,Nat.reduceAdd,Nat.reduceSub,Int.reduceAdd,Int.reduceSub,Int.reduceToNat,aM,hb']
   refine ah (qC) (hu) [] qM zF (aa 400 ?_)
   simp (disch:=omega) only [go_sem,Nat.reduceEqDiff,Nat.reduceAdd,Nat.reduceSub,Int.reduceAdd,Int.reduceSub,Int.reduceToNat]
   refine ai (qI 0 1) (qC) _ (by simp only [go_sem];rfl) zF zF ?_
   simp (disch:=omega) only [go_sem,Nat.reduceEqDiff,Nat.reduceAdd,Nat.reduceSub,Int.reduceAdd,Int.reduceSub,Int.reduceToNat]
   try simp [bf,ae,ac]
  |true=>
   have he:rdF 1 [a,b]=lf 1 ⟨1,1,0,0,t,ae,ac⟩ (aY ([a,b].take 1)):=hd
   cases hr:aY [a] with
   |none=>
    have e:rdF 1 [a,b]=(⟨1,1,0,0,t,ae,ac⟩,false):=by rw [he];simp only [Rw,Ry,hr];rfl
    rw [e]
    rw [hr] at hN
    refine ao func51 (by kernel_rfl) rfl fun E hE=>aa 400 ?_
    simp (disch:=omega) only [ntmps51,results51,go_sem,Nat.reduceEqDiff,Nat.reduceAdd,Nat.reduceSub,Int.reduceAdd,Int.reduceSub,Int.reduceToNat]
    refine ak (qU [0,6]) (by kernel_rfl) (qC) (by kernel_rfl) (ab 400 ?_)
    simp (disch:=omega) only [go_sem,Nat.reduceEqDiff,Nat.reduceAdd,Nat.reduceSub,Int.reduceAdd,Int.reduceSub,Int.reduceToNat]
    try simp (disch:=omega) only [go_sem,Nat.reduceEqDiff,Nat.reduceAdd,Nat.reduceSub,Int.reduceAdd,Int.reduceSub,Int.reduceToNat,aM]
    refine⟨qC,aa 400 ?_⟩
    try simp (disch:=omega) only [go_sem,Nat.reduceEqDiff,Nat.reduceAdd,Nat.reduceSub,Int.reduceAdd,Int.reduceSub,Int.reduceToNat,aM]
    try simp (disch:=omega) only [go_sem,Nat.reduceEqDiff,Nat.reduceAdd,Nat.reduceSub,Int.reduceAdd,Int.reduceSub,Int.reduceToNat,aM,hb']
    refine ah (qC) (hu) [] qM zF (aa 400 ?_)
    simp (disch:=omega) only [go_sem,Nat.reduceEqDiff,Nat.reduceAdd,Nat.reduceSub,Int.reduceAdd,Int.reduceSub,Int.reduceToNat]
    refine ah (qC) (hN) [some (0,some 0)] qM zF (aa 400 ?_)
    simp (disch:=omega) only [go_sem,Nat.reduceEqDiff,Nat.reduceAdd,Nat.reduceSub,Int.reduceAdd,Int.reduceSub,Int.reduceToNat]
    refine ai (qI 0 1) (qC) _ (by simp only [go_sem];rfl) zF zF ?_
    simp (disch:=omega) only [go_sem,Nat.reduceEqDiff,Nat.reduceAdd,Nat.reduceSub,Int.reduceAdd,Int.reduceSub,Int.reduceToNat]
    try simp [bf,ae,ac]
   |some l=>
    obtain⟨s,rfl⟩:=x9 (rE hr)
    have e:rdF 1 [a,b]=(⟨1,s,0,0,t,ae,ac⟩,true):=by rw [he];simp only [Rw,Ry,hr];rfl
    rw [e]
    rw [hr] at hN
    simp only [Rv,Ru] at hN
    refine ao func51 (by kernel_rfl) rfl fun E hE=>aa 400 ?_
    simp (disch:=omega) only [ntmps51,results51,go_sem,Nat.reduceEqDiff,Nat.reduceAdd,Nat.reduceSub,Int.reduceAdd,Int.reduceSub,Int.reduceToNat]
    refine ak (qU [0,6]) (by kernel_rfl) (qC) (by kernel_rfl) (ab 400 ?_)
    simp (disch:=omega) only [go_sem,Nat.reduceEqDiff,Nat.reduceAdd,Nat.reduceSub,Int.reduceAdd,Int.reduceSub,Int.reduceToNat]
    try simp (disch:=omega) only [go_sem,Nat.reduceEqDiff,Nat.reduceAdd,Nat.reduceSub,Int.reduceAdd,Int.reduceSub,Int.reduceToNat,aM]
    refine⟨qC,aa 400 ?_⟩
    try simp (disch:=omega) only [go_sem,Nat.reduceEqDiff,Nat.reduceAdd,Nat.reduceSub,Int.reduceAdd,Int.reduceSub,Int.reduceToNat,aM]
    try simp (disch:=omega) only [go_sem,Nat.reduceEqDiff,Nat.reduceAdd,Nat.reduceSub,Int.reduceAdd,Int.reduceSub,Int.reduceToNat,aM,hb']
    refine ah (qC) (hu) [] qM zF (aa 400 ?_)
    simp (disch:=omega) only [go_sem,Nat.reduceEqDiff,Nat.reduceAdd,Nat.reduceSub,Int.reduceAdd,Int.reduceSub,Int.reduceToNat]
    refine ah (qC) (hN) [some (0,some 0)] qM zF (aa 400 ?_)
    simp (disch:=omega) only [go_sem,Nat.reduceEqDiff,Nat.reduceAdd,Nat.reduceSub,Int.reduceAdd,Int.reduceSub,Int.reduceToNat]
    refine ai (qI 0 1) (qC) _ (by simp only [go_sem];rfl) zF zF ?_
    simp (disch:=omega) only [go_sem,Nat.reduceEqDiff,Nat.reduceAdd,Nat.reduceSub,Int.reduceAdd,Int.reduceSub,Int.reduceToNat]
    try simp [bf,ae,ac]
 have e:rdF 1 p=(bf 1 1,false):=by rw [rdF,if_neg zD,if_pos rfl,if_pos hl]
 rw [e]
 refine ao func51 (by kernel_rfl) rfl fun E hE=>aa 400 ?_
 simp (disch:=omega) only [ntmps51,results51,go_sem,Nat.reduceEqDiff,Nat.reduceAdd,Nat.reduceSub,Int.reduceAdd,Int.reduceSub,Int.reduceToNat]
 refine ai (qI 0 1) (qC) _ (by simp only [go_sem];rfl) zF zF ?_
 simp (disch:=omega) only [go_sem,Nat.reduceEqDiff,Nat.reduceAdd,Nat.reduceSub,Int.reduceAdd,Int.reduceSub,Int.reduceToNat]
 try simp [bf,ae,ac]
theorem re (p:List (List UInt8)) (hp:p.length<=1000) (ht:tot p<=600):aP 51 [.sc (.int .i64 2),.sc (.sl 0 0 p.length)] [some ⟨p.map aM,1,9,false,true⟩]
  (.tu [.ag (rdF 2 p).1.cs,.sc (.bo (rdF 2 p).2)]) [some ⟨p.map aM,1,9,false,true⟩]:=by
 have hN:=ck p hp
 have hg:rdF 2 p=lf 2 (bf 2 1) (aY p):=iK zD zD
 cases hr:aY p with
 |none=>
  have e:rdF 2 p=(bf 2 1,false):=by rw [hg,hr];rfl
  rw [e]
  rw [hr] at hN
  refine ao func51 (by kernel_rfl) rfl fun E hE=>aa 400 ?_
  simp (disch:=omega) only [ntmps51,results51,go_sem,Nat.reduceEqDiff,Nat.reduceAdd,Nat.reduceSub,Int.reduceAdd,Int.reduceSub,Int.reduceToNat]
  refine ah (qC) (hN) (qI 0 1) qM zF (aa 400 ?_)
  simp (disch:=omega) only [go_sem,Nat.reduceEqDiff,Nat.reduceAdd,Nat.reduceSub,Int.reduceAdd,Int.reduceSub,Int.reduceToNat]
  refine ai (qI 0 1) (qC) _ (by simp only [go_sem];rfl) zF zF ?_
  simp (disch:=omega) only [go_sem,Nat.reduceEqDiff,Nat.reduceAdd,Nat.reduceSub,Int.reduceAdd,Int.reduceSub,Int.reduceToNat]
  try simp [bf,ae,ac]
 |some l=>
  rw [hr] at hN hg
  simp only [Rv,Ru] at hN
  cases l with
  |nil=>
   have e:rdF 2 p=(bf 2 1,false):=by rw [hg];rfl
   rw [e]
   refine ao func51 (by kernel_rfl) rfl fun E hE=>aa 400 ?_
   simp (disch:=omega) only [ntmps51,results51,go_sem,Nat.reduceEqDiff,Nat.reduceAdd,Nat.reduceSub,Int.reduceAdd,Int.reduceSub,Int.reduceToNat]
   refine ah (qC) (hN) (qI 0 1) qM zF (aa 400 ?_)
   simp (disch:=omega) only [go_sem,Nat.reduceEqDiff,Nat.reduceAdd,Nat.reduceSub,Int.reduceAdd,Int.reduceSub,Int.reduceToNat]
   refine ai (qI 0 1) (qC) _ (by simp only [go_sem];rfl) zF zF ?_
   simp (disch:=omega) only [go_sem,Nat.reduceEqDiff,Nat.reduceAdd,Nat.reduceSub,Int.reduceAdd,Int.reduceSub,Int.reduceToNat]
   try simp [bf,ae,ac]
  |cons s l=>
   by_cases hl:l.length=1
   ·obtain⟨n,rfl⟩:=x9 hl
    have e:rdF 2 p=(⟨2,s,0,n,[],ae,ac⟩,true):=by rw [hg];rfl
    rw [e]
    refine ao func51 (by kernel_rfl) rfl fun E hE=>aa 400 ?_
    simp (disch:=omega) only [ntmps51,results51,go_sem,Nat.reduceEqDiff,Nat.reduceAdd,Nat.reduceSub,Int.reduceAdd,Int.reduceSub,Int.reduceToNat]
    refine ah (qC) (hN) (qI 0 1) qM zF (aa 400 ?_)
    simp (disch:=omega) only [go_sem,Nat.reduceEqDiff,Nat.reduceAdd,Nat.reduceSub,Int.reduceAdd,Int.reduceSub,Int.reduceToNat]
    refine ai (qI 0 1) (qC) _ (by simp only [go_sem];rfl) zF zF ?_
    simp (disch:=omega) only [go_sem,Nat.reduceEqDiff,Nat.reduceAdd,Nat.reduceSub,Int.reduceAdd,Int.reduceSub,Int.reduceToNat]
    try simp [bf,ae,ac]
   have e:rdF 2 p=(⟨2,s,0,0,[],ae,ac⟩,false):=by
    rw [hg,lf,if_pos zD,if_neg zP,tR,if_pos (by first|(simp;omega)|simpa using hl)]
    rfl
   rw [e]
   refine ao func51 (by kernel_rfl) rfl fun E hE=>aa 400 ?_
   simp (disch:=omega) only [ntmps51,results51,go_sem,Nat.reduceEqDiff,Nat.reduceAdd,Nat.reduceSub,Int.reduceAdd,Int.reduceSub,Int.reduceToNat]
   refine ah (qC) (hN) (qI 0 1) qM zF (aa 400 ?_)
   simp (disch:=omega) only [go_sem,Nat.reduceEqDiff,Nat.reduceAdd,Nat.reduceSub,Int.reduceAdd,Int.reduceSub,Int.reduceToNat]
   refine ai (qI 0 1) (qC) _ (by simp only [go_sem];rfl) zF zF ?_
   simp (disch:=omega) only [go_sem,Nat.reduceEqDiff,Nat.reduceAdd,Nat.reduceSub,Int.reduceAdd,Int.reduceSub,Int.reduceToNat]
   try simp [bf,ae,ac]
theorem rf (p:List (List UInt8)) (hp:p.length<=1000) (ht:tot p<=600):aP 51 [.sc (.int .i64 3),.sc (.sl 0 0 p.length)] [some ⟨p.map aM,1,9,false,true⟩]
  (.tu [.ag (rdF 3 p).1.cs,.sc (.bo (rdF 3 p).2)]) [some ⟨p.map aM,1,9,false,true⟩]:=by
 have hN:=ck p hp
 have hg:rdF 3 p=lf 3 (bf 3 1) (aY p):=iK zD zD
 cases hr:aY p with
 |none=>
  have e:rdF 3 p=(bf 3 1,false):=by rw [hg,hr];rfl
  rw [e]
  rw [hr] at hN
  refine ao func51 (by kernel_rfl) rfl fun E hE=>aa 400 ?_
  simp (disch:=omega) only [ntmps51,results51,go_sem,Nat.reduceEqDiff,Nat.reduceAdd,Nat.reduceSub,Int.reduceAdd,Int.reduceSub,Int.reduceToNat]
  refine ah (qC) (hN) (qI 0 1) qM zF (aa 400 ?_)
  simp (disch:=omega) only [go_sem,Nat.reduceEqDiff,Nat.reduceAdd,Nat.reduceSub,Int.reduceAdd,Int.reduceSub,Int.reduceToNat]
  refine ai (qI 0 1) (qC) _ (by simp only [go_sem];rfl) zF zF ?_
  simp (disch:=omega) only [go_sem,Nat.reduceEqDiff,Nat.reduceAdd,Nat.reduceSub,Int.reduceAdd,Int.reduceSub,Int.reduceToNat]
  try simp [bf,ae,ac]
 |some l=>
  rw [hr] at hN hg
  simp only [Rv,Ru] at hN
  cases l with
  |nil=>
   have e:rdF 3 p=(bf 3 1,false):=by rw [hg];rfl
   rw [e]
   refine ao func51 (by kernel_rfl) rfl fun E hE=>aa 400 ?_
   simp (disch:=omega) only [ntmps51,results51,go_sem,Nat.reduceEqDiff,Nat.reduceAdd,Nat.reduceSub,Int.reduceAdd,Int.reduceSub,Int.reduceToNat]
   refine ah (qC) (hN) (qI 0 1) qM zF (aa 400 ?_)
   simp (disch:=omega) only [go_sem,Nat.reduceEqDiff,Nat.reduceAdd,Nat.reduceSub,Int.reduceAdd,Int.reduceSub,Int.reduceToNat]
   refine ai (qI 0 1) (qC) _ (by simp only [go_sem];rfl) zF zF ?_
   simp (disch:=omega) only [go_sem,Nat.reduceEqDiff,Nat.reduceAdd,Nat.reduceSub,Int.reduceAdd,Int.reduceSub,Int.reduceToNat]
   try simp [bf,ae,ac]
  |cons s l=>
   by_cases hl:l.length=0
   ·obtain rfl:=Rx hl
    have e:rdF 3 p=(⟨3,s,0,0,[],ae,ac⟩,true):=by rw [hg];rfl
    rw [e]
    refine ao func51 (by kernel_rfl) rfl fun E hE=>aa 400 ?_
    simp (disch:=omega) only [ntmps51,results51,go_sem,Nat.reduceEqDiff,Nat.reduceAdd,Nat.reduceSub,Int.reduceAdd,Int.reduceSub,Int.reduceToNat]
    refine ah (qC) (hN) (qI 0 1) qM zF (aa 400 ?_)
    simp (disch:=omega) only [go_sem,Nat.reduceEqDiff,Nat.reduceAdd,Nat.reduceSub,Int.reduceAdd,Int.reduceSub,Int.reduceToNat]
    refine ai (qI 0 1) (qC) _ (by simp only [go_sem];rfl) zF zF ?_
    simp (disch:=omega) only [go_sem,Nat.reduceEqDiff,Nat.reduceAdd,Nat.reduceSub,Int.reduceAdd,Int.reduceSub,Int.reduceToNat]
    try simp [bf,ae,ac]
   have e:rdF 3 p=(⟨3,s,0,0,[],ae,ac⟩,false):=by
    rw [hg,lf,if_pos zD,if_neg zP,tR,if_pos (by first|(simp;omega)|simpa using hl)]
    rfl
   rw [e]
   refine ao func51 (by kernel_rfl) rfl fun E hE=>aa 400 ?_
   simp (disch:=omega) only [ntmps51,results51,go_sem,Nat.reduceEqDiff,Nat.reduceAdd,Nat.reduceSub,Int.reduceAdd,Int.reduceSub,Int.reduceToNat]
   refine ah (qC) (hN) (qI 0 1) qM zF (aa 400 ?_)
   simp (disch:=omega) only [go_sem,Nat.reduceEqDiff,Nat.reduceAdd,Nat.reduceSub,Int.reduceAdd,Int.reduceSub,Int.reduceToNat]
   refine ai (qI 0 1) (qC) _ (by simp only [go_sem];rfl) zF zF ?_
   simp (disch:=omega) only [go_sem,Nat.reduceEqDiff,Nat.reduceAdd,Nat.reduceSub,Int.reduceAdd,Int.reduceSub,Int.reduceToNat]
   try simp [bf,ae,ac]
theorem rg (p:List (List UInt8)) (hp:p.length<=1000) (ht:tot p<=600):aP 51 [.sc (.int .i64 4),.sc (.sl 0 0 p.length)] [some ⟨p.map aM,1,9,false,true⟩]
  (.tu [.ag (rdF 4 p).1.cs,.sc (.bo (rdF 4 p).2)]) [some ⟨p.map aM,1,9,false,true⟩]:=by
 have hN:=ck p hp
 have hg:rdF 4 p=lf 4 (bf 4 1) (aY p):=iK zD zD
 cases hr:aY p with
 |none=>
  have e:rdF 4 p=(bf 4 1,false):=by rw [hg,hr];rfl
  rw [e]
  rw [hr] at hN
  refine ao func51 (by kernel_rfl) rfl fun E hE=>aa 400 ?_
  simp (disch:=omega) only [ntmps51,results51,go_sem,Nat.reduceEqDiff,Nat.reduceAdd,Nat.reduceSub,Int.reduceAdd,Int.reduceSub,Int.reduceToNat]
  refine ah (qC) (hN) (qI 0 1) qM zF (aa 400 ?_)
  simp (disch:=omega) only [go_sem,Nat.reduceEqDiff,Nat.reduceAdd,Nat.reduceSub,Int.reduceAdd,Int.reduceSub,Int.reduceToNat]
  refine ai (qI 0 1) (qC) _ (by simp only [go_sem];rfl) zF zF ?_
  simp (disch:=omega) only [go_sem,Nat.reduceEqDiff,Nat.reduceAdd,Nat.reduceSub,Int.reduceAdd,Int.reduceSub,Int.reduceToNat]
  try simp [bf,ae,ac]
 |some l=>
  rw [hr] at hN hg
  simp only [Rv,Ru] at hN
  cases l with
  |nil=>
   have e:rdF 4 p=(bf 4 1,false):=by rw [hg];rfl
   rw [e]
   refine ao func51 (by kernel_rfl) rfl fun E hE=>aa 400 ?_
   simp (disch:=omega) only [ntmps51,results51,go_sem,Nat.reduceEqDiff,Nat.reduceAdd,Nat.reduceSub,Int.reduceAdd,Int.reduceSub,Int.reduceToNat]
   refine ah (qC) (hN) (qI 0 1) qM zF (aa 400 ?_)
   simp (disch:=omega) only [go_sem,Nat.reduceEqDiff,Nat.reduceAdd,Nat.reduceSub,Int.reduceAdd,Int.reduceSub,Int.reduceToNat]
   refine ai (qI 0 1) (qC) _ (by simp only [go_sem];rfl) zF zF ?_
   simp (disch:=omega) only [go_sem,Nat.reduceEqDiff,Nat.reduceAdd,Nat.reduceSub,Int.reduceAdd,Int.reduceSub,Int.reduceToNat]
   try simp [bf,ae,ac]
  |cons s l=>
   by_cases hl:l.length=0
   ·obtain rfl:=Rx hl
    have e:rdF 4 p=(⟨4,s,0,0,[],ae,ac⟩,true):=by rw [hg];rfl
    rw [e]
    refine ao func51 (by kernel_rfl) rfl fun E hE=>aa 400 ?_
    simp (disch:=omega) only [ntmps51,results51,go_sem,Nat.reduceEqDiff,Nat.reduceAdd,Nat.reduceSub,Int.reduceAdd,Int.reduceSub,Int.reduceToNat]
    refine ah (qC) (hN) (qI 0 1) qM zF (aa 400 ?_)
    simp (disch:=omega) only [go_sem,Nat.reduceEqDiff,Nat.reduceAdd,Nat.reduceSub,Int.reduceAdd,Int.reduceSub,Int.reduceToNat]
    refine ai (qI 0 1) (qC) _ (by simp only [go_sem];rfl) zF zF ?_
    simp (disch:=omega) only [go_sem,Nat.reduceEqDiff,Nat.reduceAdd,Nat.reduceSub,Int.reduceAdd,Int.reduceSub,Int.reduceToNat]
    try simp [bf,ae,ac]
   have e:rdF 4 p=(⟨4,s,0,0,[],ae,ac⟩,false):=by
    rw [hg,lf,if_pos zD,if_neg zP,tR,if_pos (by first|(simp;omega)|simpa using hl)]
    rfl
   rw [e]
   refine ao func51 (by kernel_rfl) rfl fun E hE=>aa 400 ?_
   simp (disch:=omega) only [ntmps51,results51,go_sem,Nat.reduceEqDiff,Nat.reduceAdd,Nat.reduceSub,Int.reduceAdd,Int.reduceSub,Int.reduceToNat]
   refine ah (qC) (hN) (qI 0 1) qM zF (aa 400 ?_)
   simp (disch:=omega) only [go_sem,Nat.reduceEqDiff,Nat.reduceAdd,Nat.reduceSub,Int.reduceAdd,Int.reduceSub,Int.reduceToNat]
   refine ai (qI 0 1) (qC) _ (by simp only [go_sem];rfl) zF zF ?_
   simp (disch:=omega) only [go_sem,Nat.reduceEqDiff,Nat.reduceAdd,Nat.reduceSub,Int.reduceAdd,Int.reduceSub,Int.reduceToNat]
   try simp [bf,ae,ac]
theorem rh (p:List (List UInt8)) (hp:p.length<=1000) (ht:tot p<=600):aP 51 [.sc (.int .i64 5),.sc (.sl 0 0 p.length)] [some ⟨p.map aM,1,9,false,true⟩]
  (.tu [.ag (rdF 5 p).1.cs,.sc (.bo (rdF 5 p).2)]) [some ⟨p.map aM,1,9,false,true⟩]:=by
 have hN:=ck p hp
 have hg:rdF 5 p=lf 5 (bf 5 1) (aY p):=iK zD zD
 cases hr:aY p with
 |none=>
  have e:rdF 5 p=(bf 5 1,false):=by rw [hg,hr];rfl
  rw [e]
  rw [hr] at hN
  refine ao func51 (by kernel_rfl) rfl fun E hE=>aa 400 ?_
  simp (disch:=omega) only [ntmps51,results51,go_sem,Nat.reduceEqDiff,Nat.reduceAdd,Nat.reduceSub,Int.reduceAdd,Int.reduceSub,Int.reduceToNat]
  refine ah (qC) (hN) (qI 0 1) qM zF (aa 400 ?_)
  simp (disch:=omega) only [go_sem,Nat.reduceEqDiff,Nat.reduceAdd,Nat.reduceSub,Int.reduceAdd,Int.reduceSub,Int.reduceToNat]
  refine ai (qI 0 1) (qC) _ (by simp only [go_sem];rfl) zF zF ?_
  simp (disch:=omega) only [go_sem,Nat.reduceEqDiff,Nat.reduceAdd,Nat.reduceSub,Int.reduceAdd,Int.reduceSub,Int.reduceToNat]
  try simp [bf,ae,ac]
 |some l=>
  rw [hr] at hN hg
  simp only [Rv,Ru] at hN
  cases l with
  |nil=>
   have e:rdF 5 p=(bf 5 1,false):=by rw [hg];rfl
   rw [e]
   refine ao func51 (by kernel_rfl) rfl fun E hE=>aa 400 ?_
   simp (disch:=omega) only [ntmps51,results51,go_sem,Nat.reduceEqDiff,Nat.reduceAdd,Nat.reduceSub,Int.reduceAdd,Int.reduceSub,Int.reduceToNat]
   refine ah (qC) (hN) (qI 0 1) qM zF (aa 400 ?_)
   simp (disch:=omega) only [go_sem,Nat.reduceEqDiff,Nat.reduceAdd,Nat.reduceSub,Int.reduceAdd,Int.reduceSub,Int.reduceToNat]
   refine ai (qI 0 1) (qC) _ (by simp only [go_sem];rfl) zF zF ?_
   simp (disch:=omega) only [go_sem,Nat.reduceEqDiff,Nat.reduceAdd,Nat.reduceSub,Int.reduceAdd,Int.reduceSub,Int.reduceToNat]
   try simp [bf,ae,ac]
  |cons s l=>
   by_cases hl:l.length=3
   ·obtain⟨i,d,b,rfl⟩:=Rl hl
    have e:rdF 5 p=(⟨5,s,0,0,[],⟨i,d,b == 1,false⟩,ac⟩,true):=by rw [hg];rfl
    rw [e]
    refine ao func51 (by kernel_rfl) rfl fun E hE=>aa 400 ?_
    simp (disch:=omega) only [ntmps51,results51,go_sem,Nat.reduceEqDiff,Nat.reduceAdd,Nat.reduceSub,Int.reduceAdd,Int.reduceSub,Int.reduceToNat]
    refine ah (qC) (hN) (qI 0 1) qM zF (aa 400 ?_)
    simp (disch:=omega) only [go_sem,Nat.reduceEqDiff,Nat.reduceAdd,Nat.reduceSub,Int.reduceAdd,Int.reduceSub,Int.reduceToNat]
    refine ak (qU [0,13]) (by kernel_rfl) (qC) (by kernel_rfl) (ab 400 ?_)
    simp (disch:=omega) only [go_sem,Nat.reduceEqDiff,Nat.reduceAdd,Nat.reduceSub,Int.reduceAdd,Int.reduceSub,Int.reduceToNat]
    refine⟨qC,aa 400 ?_⟩
    try simp (disch:=omega) only [go_sem,Nat.reduceEqDiff,Nat.reduceAdd,Nat.reduceSub,Int.reduceAdd,Int.reduceSub,Int.reduceToNat]
    refine ai (qI 0 1) (qC) _ (by simp only [go_sem];rfl) zF zF ?_
    simp (disch:=omega) only [go_sem,Nat.reduceEqDiff,Nat.reduceAdd,Nat.reduceSub,Int.reduceAdd,Int.reduceSub,Int.reduceToNat]
    try simp [bf,ae,ac]
   have e:rdF 5 p=(⟨5,s,0,0,[],ae,ac⟩,false):=by
    rw [hg,lf,if_pos zD,if_neg zP,tR,if_pos (by first|(simp;omega)|simpa using hl)]
    rfl
   rw [e]
   refine ao func51 (by kernel_rfl) rfl fun E hE=>aa 400 ?_
   simp (disch:=omega) only [ntmps51,results51,go_sem,Nat.reduceEqDiff,Nat.reduceAdd,Nat.reduceSub,Int.reduceAdd,Int.reduceSub,Int.reduceToNat]
   refine ah (qC) (hN) (qI 0 1) qM zF (aa 400 ?_)
   simp (disch:=omega) only [go_sem,Nat.reduceEqDiff,Nat.reduceAdd,Nat.reduceSub,Int.reduceAdd,Int.reduceSub,Int.reduceToNat]
   refine ai (qI 0 1) (qC) _ (by simp only [go_sem];rfl) zF zF ?_
   simp (disch:=omega) only [go_sem,Nat.reduceEqDiff,Nat.reduceAdd,Nat.reduceSub,Int.reduceAdd,Int.reduceSub,Int.reduceToNat]
   try simp [bf,ae,ac]
theorem ri (p:List (List UInt8)) (hp:p.length<=1000) (ht:tot p<=600):aP 51 [.sc (.int .i64 6),.sc (.sl 0 0 p.length)] [some ⟨p.map aM,1,9,false,true⟩]
  (.tu [.ag (rdF 6 p).1.cs,.sc (.bo (rdF 6 p).2)]) [some ⟨p.map aM,1,9,false,true⟩]:=by
 have hN:=ck p hp
 have hg:rdF 6 p=lf 6 (bf 6 1) (aY p):=iK zD zD
 cases hr:aY p with
 |none=>
  have e:rdF 6 p=(bf 6 1,false):=by rw [hg,hr];rfl
  rw [e]
  rw [hr] at hN
  refine ao func51 (by kernel_rfl) rfl fun E hE=>aa 400 ?_
  simp (disch:=omega) only [ntmps51,results51,go_sem,Nat.reduceEqDiff,Nat.reduceAdd,Nat.reduceSub,Int.reduceAdd,Int.reduceSub,Int.reduceToNat]
  refine ah (qC) (hN) (qI 0 1) qM zF (aa 400 ?_)
  simp (disch:=omega) only [go_sem,Nat.reduceEqDiff,Nat.reduceAdd,Nat.reduceSub,Int.reduceAdd,Int.reduceSub,Int.reduceToNat]
  refine ai (qI 0 1) (qC) _ (by simp only [go_sem];rfl) zF zF ?_
  simp (disch:=omega) only [go_sem,Nat.reduceEqDiff,Nat.reduceAdd,Nat.reduceSub,Int.reduceAdd,Int.reduceSub,Int.reduceToNat]
  try simp [bf,ae,ac]
 |some l=>
  rw [hr] at hN hg
  simp only [Rv,Ru] at hN
  cases l with
  |nil=>
   have e:rdF 6 p=(bf 6 1,false):=by rw [hg];rfl
   rw [e]
   refine ao func51 (by kernel_rfl) rfl fun E hE=>aa 400 ?_
   simp (disch:=omega) only [ntmps51,results51,go_sem,Nat.reduceEqDiff,Nat.reduceAdd,Nat.reduceSub,Int.reduceAdd,Int.reduceSub,Int.reduceToNat]
   refine ah (qC) (hN) (qI 0 1) qM zF (aa 400 ?_)
   simp (disch:=omega) only [go_sem,Nat.reduceEqDiff,Nat.reduceAdd,Nat.reduceSub,Int.reduceAdd,Int.reduceSub,Int.reduceToNat]
   refine ai (qI 0 1) (qC) _ (by simp only [go_sem];rfl) zF zF ?_
   simp (disch:=omega) only [go_sem,Nat.reduceEqDiff,Nat.reduceAdd,Nat.reduceSub,Int.reduceAdd,Int.reduceSub,Int.reduceToNat]
   try simp [bf,ae,ac]
  |cons s l=>
   by_cases hl:l.length=1
   ·obtain⟨n,rfl⟩:=x9 hl
    have e:rdF 6 p=(⟨6,s,n,0,[],ae,ac⟩,true):=by rw [hg];rfl
    rw [e]
    refine ao func51 (by kernel_rfl) rfl fun E hE=>aa 400 ?_
    simp (disch:=omega) only [ntmps51,results51,go_sem,Nat.reduceEqDiff,Nat.reduceAdd,Nat.reduceSub,Int.reduceAdd,Int.reduceSub,Int.reduceToNat]
    refine ah (qC) (hN) (qI 0 1) qM zF (aa 400 ?_)
    simp (disch:=omega) only [go_sem,Nat.reduceEqDiff,Nat.reduceAdd,Nat.reduceSub,Int.reduceAdd,Int.reduceSub,Int.reduceToNat]
    refine ai (qI 0 1) (qC) _ (by simp only [go_sem];rfl) zF zF ?_
    simp (disch:=omega) only [go_sem,Nat.reduceEqDiff,Nat.reduceAdd,Nat.reduceSub,Int.reduceAdd,Int.reduceSub,Int.reduceToNat]
    try simp [bf,ae,ac]
   have e:rdF 6 p=(⟨6,s,0,0,[],ae,ac⟩,false):=by
    rw [hg,lf,if_pos zD,if_neg zP,tR,if_pos (by first|(simp;omega)|simpa using hl)]
    rfl
   rw [e]
   refine ao func51 (by kernel_rfl) rfl fun E hE=>aa 400 ?_
   simp (disch:=omega) only [ntmps51,results51,go_sem,Nat.reduceEqDiff,Nat.reduceAdd,Nat.reduceSub,Int.reduceAdd,Int.reduceSub,Int.reduceToNat]
   refine ah (qC) (hN) (qI 0 1) qM zF (aa 400 ?_)
   simp (disch:=omega) only [go_sem,Nat.reduceEqDiff,Nat.reduceAdd,Nat.reduceSub,Int.reduceAdd,Int.reduceSub,Int.reduceToNat]
   refine ai (qI 0 1) (qC) _ (by simp only [go_sem];rfl) zF zF ?_
   simp (disch:=omega) only [go_sem,Nat.reduceEqDiff,Nat.reduceAdd,Nat.reduceSub,Int.reduceAdd,Int.reduceSub,Int.reduceToNat]
   try simp [bf,ae,ac]
theorem rj (p:List (List UInt8)) (hp:p.length<=1000) (ht:tot p<=600):aP 51 [.sc (.int .i64 7),.sc (.sl 0 0 p.length)] [some ⟨p.map aM,1,9,false,true⟩]
  (.tu [.ag (rdF 7 p).1.cs,.sc (.bo (rdF 7 p).2)]) [some ⟨p.map aM,1,9,false,true⟩]:=by
 have hN:=ck p hp
 have hg:rdF 7 p=lf 7 (bf 7 1) (aY p):=iK zD zD
 cases hr:aY p with
 |none=>
  have e:rdF 7 p=(bf 7 1,false):=by rw [hg,hr];rfl
  rw [e]
  rw [hr] at hN
  refine ao func51 (by kernel_rfl) rfl fun E hE=>aa 400 ?_
  simp (disch:=omega) only [ntmps51,results51,go_sem,Nat.reduceEqDiff,Nat.reduceAdd,Nat.reduceSub,Int.reduceAdd,Int.reduceSub,Int.reduceToNat]
  refine ah (qC) (hN) (qI 0 1) qM zF (aa 400 ?_)
  simp (disch:=omega) only [go_sem,Nat.reduceEqDiff,Nat.reduceAdd,Nat.reduceSub,Int.reduceAdd,Int.reduceSub,Int.reduceToNat]
  refine ai (qI 0 1) (qC) _ (by simp only [go_sem];rfl) zF zF ?_
  simp (disch:=omega) only [go_sem,Nat.reduceEqDiff,Nat.reduceAdd,Nat.reduceSub,Int.reduceAdd,Int.reduceSub,Int.reduceToNat]
  try simp [bf,ae,ac]
 |some l=>
  rw [hr] at hN hg
  simp only [Rv,Ru] at hN
  cases l with
  |nil=>
   have e:rdF 7 p=(bf 7 1,false):=by rw [hg];rfl
   rw [e]
   refine ao func51 (by kernel_rfl) rfl fun E hE=>aa 400 ?_
   simp (disch:=omega) only [ntmps51,results51,go_sem,Nat.reduceEqDiff,Nat.reduceAdd,Nat.reduceSub,Int.reduceAdd,Int.reduceSub,Int.reduceToNat]
   refine ah (qC) (hN) (qI 0 1) qM zF (aa 400 ?_)
   simp (disch:=omega) only [go_sem,Nat.reduceEqDiff,Nat.reduceAdd,Nat.reduceSub,Int.reduceAdd,Int.reduceSub,Int.reduceToNat]
   refine ai (qI 0 1) (qC) _ (by simp only [go_sem];rfl) zF zF ?_
   simp (disch:=omega) only [go_sem,Nat.reduceEqDiff,Nat.reduceAdd,Nat.reduceSub,Int.reduceAdd,Int.reduceSub,Int.reduceToNat]
   try simp [bf,ae,ac]
  |cons s l=>
   by_cases hl:l.length=1
   ·obtain⟨n,rfl⟩:=x9 hl
    have e:rdF 7 p=(⟨7,s,n,0,[],ae,ac⟩,true):=by rw [hg];rfl
    rw [e]
    refine ao func51 (by kernel_rfl) rfl fun E hE=>aa 400 ?_
    simp (disch:=omega) only [ntmps51,results51,go_sem,Nat.reduceEqDiff,Nat.reduceAdd,Nat.reduceSub,Int.reduceAdd,Int.reduceSub,Int.reduceToNat]
    refine ah (qC) (hN) (qI 0 1) qM zF (aa 400 ?_)
    simp (disch:=omega) only [go_sem,Nat.reduceEqDiff,Nat.reduceAdd,Nat.reduceSub,Int.reduceAdd,Int.reduceSub,Int.reduceToNat]
    refine ai (qI 0 1) (qC) _ (by simp only [go_sem];rfl) zF zF ?_
    simp (disch:=omega) only [go_sem,Nat.reduceEqDiff,Nat.reduceAdd,Nat.reduceSub,Int.reduceAdd,Int.reduceSub,Int.reduceToNat]
    try simp [bf,ae,ac]
   have e:rdF 7 p=(⟨7,s,0,0,[],ae,ac⟩,false):=by
    rw [hg,lf,if_pos zD,if_neg zP,tR,if_pos (by first|(simp;omega)|simpa using hl)]
    rfl
   rw [e]
   refine ao func51 (by kernel_rfl) rfl fun E hE=>aa 400 ?_
   simp (disch:=omega) only [ntmps51,results51,go_sem,Nat.reduceEqDiff,Nat.reduceAdd,Nat.reduceSub,Int.reduceAdd,Int.reduceSub,Int.reduceToNat]
   refine ah (qC) (hN) (qI 0 1) qM zF (aa 400 ?_)
   simp (disch:=omega) only [go_sem,Nat.reduceEqDiff,Nat.reduceAdd,Nat.reduceSub,Int.reduceAdd,Int.reduceSub,Int.reduceToNat]
   refine ai (qI 0 1) (qC) _ (by simp only [go_sem];rfl) zF zF ?_
   simp (disch:=omega) only [go_sem,Nat.reduceEqDiff,Nat.reduceAdd,Nat.reduceSub,Int.reduceAdd,Int.reduceSub,Int.reduceToNat]
   try simp [bf,ae,ac]
theorem rk (p:List (List UInt8)) (hp:p.length<=1000) (ht:tot p<=600):aP 51 [.sc (.int .i64 8),.sc (.sl 0 0 p.length)] [some ⟨p.map aM,1,9,false,true⟩]
  (.tu [.ag (rdF 8 p).1.cs,.sc (.bo (rdF 8 p).2)]) [some ⟨p.map aM,1,9,false,true⟩]:=by
 have hN:=ck p hp
 have hg:rdF 8 p=lf 8 (bf 8 1) (aY p):=iK zD zD
 cases hr:aY p with
 |none=>
  have e:rdF 8 p=(bf 8 1,false):=by rw [hg,hr];rfl
  rw [e]
  rw [hr] at hN
  refine ao func51 (by kernel_rfl) rfl fun E hE=>aa 400 ?_
  simp (disch:=omega) only [ntmps51,results51,go_sem,Nat.reduceEqDiff,Nat.reduceAdd,Nat.reduceSub,Int.reduceAdd,Int.reduceSub,Int.reduceToNat]
  refine ah (qC) (hN) (qI 0 1) qM zF (aa 400 ?_)
  simp (disch:=omega) only [go_sem,Nat.reduceEqDiff,Nat.reduceAdd,Nat.reduceSub,Int.reduceAdd,Int.reduceSub,Int.reduceToNat]
  refine ai (qI 0 1) (qC) _ (by simp only [go_sem];rfl) zF zF ?_
  simp (disch:=omega) only [go_sem,Nat.reduceEqDiff,Nat.reduceAdd,Nat.reduceSub,Int.reduceAdd,Int.reduceSub,Int.reduceToNat]
  try simp [bf,ae,ac]
 |some l=>
  rw [hr] at hN hg
  simp only [Rv,Ru] at hN
  by_cases hl:l.length=1
  ·obtain⟨n,rfl⟩:=x9 hl
   have e:rdF 8 p=(⟨8,1,n,0,[],ae,ac⟩,true):=by rw [hg];rfl
   rw [e]
   refine ao func51 (by kernel_rfl) rfl fun E hE=>aa 400 ?_
   simp (disch:=omega) only [ntmps51,results51,go_sem,Nat.reduceEqDiff,Nat.reduceAdd,Nat.reduceSub,Int.reduceAdd,Int.reduceSub,Int.reduceToNat]
   refine ah (qC) (hN) (qI 0 1) qM zF (aa 400 ?_)
   simp (disch:=omega) only [go_sem,Nat.reduceEqDiff,Nat.reduceAdd,Nat.reduceSub,Int.reduceAdd,Int.reduceSub,Int.reduceToNat]
   refine ai (qI 0 1) (qC) _ (by simp only [go_sem];rfl) zF zF ?_
   simp (disch:=omega) only [go_sem,Nat.reduceEqDiff,Nat.reduceAdd,Nat.reduceSub,Int.reduceAdd,Int.reduceSub,Int.reduceToNat]
   try simp [bf,ae,ac]
  have e:rdF 8 p=(bf 8 1,false):=by
   rw [hg,lf,if_neg zD,tR,if_pos (by first|(simp;omega)|simpa using hl)]
  rw [e]
  refine ao func51 (by kernel_rfl) rfl fun E hE=>aa 400 ?_
  simp (disch:=omega) only [ntmps51,results51,go_sem,Nat.reduceEqDiff,Nat.reduceAdd,Nat.reduceSub,Int.reduceAdd,Int.reduceSub,Int.reduceToNat]
  refine ah (qC) (hN) (qI 0 1) qM zF (aa 400 ?_)
  simp (disch:=omega) only [go_sem,Nat.reduceEqDiff,Nat.reduceAdd,Nat.reduceSub,Int.reduceAdd,Int.reduceSub,Int.reduceToNat]
  refine ai (qI 0 1) (qC) _ (by simp only [go_sem];rfl) zF zF ?_
  simp (disch:=omega) only [go_sem,Nat.reduceEqDiff,Nat.reduceAdd,Nat.reduceSub,Int.reduceAdd,Int.reduceSub,Int.reduceToNat]
  try simp [bf,ae,ac]
theorem rl (p:List (List UInt8)) (hp:p.length<=1000) (ht:tot p<=600):aP 51 [.sc (.int .i64 9),.sc (.sl 0 0 p.length)] [some ⟨p.map aM,1,9,false,true⟩]
  (.tu [.ag (rdF 9 p).1.cs,.sc (.bo (rdF 9 p).2)]) [some ⟨p.map aM,1,9,false,true⟩]:=by
 have hN:=ck p hp
 have hg:rdF 9 p=lf 9 (bf 9 1) (aY p):=iK zD zD
 cases hr:aY p with
 |none=>
  have e:rdF 9 p=(bf 9 1,false):=by rw [hg,hr];rfl
  rw [e]
  rw [hr] at hN
  refine ao func51 (by kernel_rfl) rfl fun E hE=>aa 400 ?_
  simp (disch:=omega) only [ntmps51,results51,go_sem,Nat.reduceEqDiff,Nat.reduceAdd,Nat.reduceSub,Int.reduceAdd,Int.reduceSub,Int.reduceToNat]
  refine ah (qC) (hN) (qI 0 1) qM zF (aa 400 ?_)
  simp (disch:=omega) only [go_sem,Nat.reduceEqDiff,Nat.reduceAdd,Nat.reduceSub,Int.reduceAdd,Int.reduceSub,Int.reduceToNat]
  refine ai (qI 0 1) (qC) _ (by simp only [go_sem];rfl) zF zF ?_
  simp (disch:=omega) only [go_sem,Nat.reduceEqDiff,Nat.reduceAdd,Nat.reduceSub,Int.reduceAdd,Int.reduceSub,Int.reduceToNat]
  try simp [bf,ae,ac]
 |some l=>
  rw [hr] at hN hg
  simp only [Rv,Ru] at hN
  by_cases hl:l.length=1
  ·obtain⟨n,rfl⟩:=x9 hl
   have e:rdF 9 p=(⟨9,1,n,0,[],ae,ac⟩,true):=by rw [hg];rfl
   rw [e]
   refine ao func51 (by kernel_rfl) rfl fun E hE=>aa 400 ?_
   simp (disch:=omega) only [ntmps51,results51,go_sem,Nat.reduceEqDiff,Nat.reduceAdd,Nat.reduceSub,Int.reduceAdd,Int.reduceSub,Int.reduceToNat]
   refine ah (qC) (hN) (qI 0 1) qM zF (aa 400 ?_)
   simp (disch:=omega) only [go_sem,Nat.reduceEqDiff,Nat.reduceAdd,Nat.reduceSub,Int.reduceAdd,Int.reduceSub,Int.reduceToNat]
   refine ai (qI 0 1) (qC) _ (by simp only [go_sem];rfl) zF zF ?_
   simp (disch:=omega) only [go_sem,Nat.reduceEqDiff,Nat.reduceAdd,Nat.reduceSub,Int.reduceAdd,Int.reduceSub,Int.reduceToNat]
   try simp [bf,ae,ac]
  have e:rdF 9 p=(bf 9 1,false):=by
   rw [hg,lf,if_neg zD,tR,if_pos (by first|(simp;omega)|simpa using hl)]
  rw [e]
  refine ao func51 (by kernel_rfl) rfl fun E hE=>aa 400 ?_
  simp (disch:=omega) only [ntmps51,results51,go_sem,Nat.reduceEqDiff,Nat.reduceAdd,Nat.reduceSub,Int.reduceAdd,Int.reduceSub,Int.reduceToNat]
  refine ah (qC) (hN) (qI 0 1) qM zF (aa 400 ?_)
  simp (disch:=omega) only [go_sem,Nat.reduceEqDiff,Nat.reduceAdd,Nat.reduceSub,Int.reduceAdd,Int.reduceSub,Int.reduceToNat]
  refine ai (qI 0 1) (qC) _ (by simp only [go_sem];rfl) zF zF ?_
  simp (disch:=omega) only [go_sem,Nat.reduceEqDiff,Nat.reduceAdd,Nat.reduceSub,Int.reduceAdd,Int.reduceSub,Int.reduceToNat]
  try simp [bf,ae,ac]
theorem pc (p:List (List UInt8)) (hp:p.length<=1000) (ht:tot p<=600):aP 51 [.sc (.int .i64 10),.sc (.sl 0 0 p.length)] [some ⟨p.map aM,1,9,false,true⟩]
  (.tu [.ag (rdF 10 p).1.cs,.sc (.bo (rdF 10 p).2)]) [some ⟨p.map aM,1,9,false,true⟩]:=by
 have hN:=ck p hp
 have hg:rdF 10 p=lf 10 (bf 10 1) (aY p):=iK zD zD
 cases hr:aY p with
 |none=>
  have e:rdF 10 p=(bf 10 1,false):=by rw [hg,hr];rfl
  rw [e]
  rw [hr] at hN
  refine ao func51 (by kernel_rfl) rfl fun E hE=>aa 400 ?_
  simp (disch:=omega) only [ntmps51,results51,go_sem,Nat.reduceEqDiff,Nat.reduceAdd,Nat.reduceSub,Int.reduceAdd,Int.reduceSub,Int.reduceToNat]
  refine ah (qC) (hN) (qI 0 1) qM zF (aa 400 ?_)
  simp (disch:=omega) only [go_sem,Nat.reduceEqDiff,Nat.reduceAdd,Nat.reduceSub,Int.reduceAdd,Int.reduceSub,Int.reduceToNat]
  refine ai (qI 0 1) (qC) _ (by simp only [go_sem];rfl) zF zF ?_
  simp (disch:=omega) only [go_sem,Nat.reduceEqDiff,Nat.reduceAdd,Nat.reduceSub,Int.reduceAdd,Int.reduceSub,Int.reduceToNat]
  try simp [bf,ae,ac]
 |some l=>
  rw [hr] at hN hg
  simp only [Rv,Ru] at hN
  by_cases hl:l.length=1
  ·obtain⟨n,rfl⟩:=x9 hl
   have e:rdF 10 p=(⟨10,1,n,0,[],ae,ac⟩,true):=by rw [hg];rfl
   rw [e]
   refine ao func51 (by kernel_rfl) rfl fun E hE=>aa 400 ?_
   simp (disch:=omega) only [ntmps51,results51,go_sem,Nat.reduceEqDiff,Nat.reduceAdd,Nat.reduceSub,Int.reduceAdd,Int.reduceSub,Int.reduceToNat]
   refine ah (qC) (hN) (qI 0 1) qM zF (aa 400 ?_)
   simp (disch:=omega) only [go_sem,Nat.reduceEqDiff,Nat.reduceAdd,Nat.reduceSub,Int.reduceAdd,Int.reduceSub,Int.reduceToNat]
   refine ai (qI 0 1) (qC) _ (by simp only [go_sem];rfl) zF zF ?_
   simp (disch:=omega) only [go_sem,Nat.reduceEqDiff,Nat.reduceAdd,Nat.reduceSub,Int.reduceAdd,Int.reduceSub,Int.reduceToNat]
   try simp [bf,ae,ac]
  have e:rdF 10 p=(bf 10 1,false):=by
   rw [hg,lf,if_neg zD,tR,if_pos (by first|(simp;omega)|simpa using hl)]
  rw [e]
  refine ao func51 (by kernel_rfl) rfl fun E hE=>aa 400 ?_
  simp (disch:=omega) only [ntmps51,results51,go_sem,Nat.reduceEqDiff,Nat.reduceAdd,Nat.reduceSub,Int.reduceAdd,Int.reduceSub,Int.reduceToNat]
  refine ah (qC) (hN) (qI 0 1) qM zF (aa 400 ?_)
  simp (disch:=omega) only [go_sem,Nat.reduceEqDiff,Nat.reduceAdd,Nat.reduceSub,Int.reduceAdd,Int.reduceSub,Int.reduceToNat]
  refine ai (qI 0 1) (qC) _ (by simp only [go_sem];rfl) zF zF ?_
  simp (disch:=omega) only [go_sem,Nat.reduceEqDiff,Nat.reduceAdd,Nat.reduceSub,Int.reduceAdd,Int.reduceSub,Int.reduceToNat]
  try simp [bf,ae,ac]
theorem pf (p:List (List UInt8)) (hp:p.length<=1000) (ht:tot p<=600):aP 51 [.sc (.int .i64 12),.sc (.sl 0 0 p.length)] [some ⟨p.map aM,1,9,false,true⟩]
  (.tu [.ag (rdF 12 p).1.cs,.sc (.bo (rdF 12 p).2)]) [some ⟨p.map aM,1,9,false,true⟩]:=by
 have hN:=ck p hp
 have hg:rdF 12 p=lf 12 (bf 12 1) (aY p):=iK zD zD
 cases hr:aY p with
 |none=>
  have e:rdF 12 p=(bf 12 1,false):=by rw [hg,hr];rfl
  rw [e]
  rw [hr] at hN
  refine ao func51 (by kernel_rfl) rfl fun E hE=>aa 400 ?_
  simp (disch:=omega) only [ntmps51,results51,go_sem,Nat.reduceEqDiff,Nat.reduceAdd,Nat.reduceSub,Int.reduceAdd,Int.reduceSub,Int.reduceToNat]
  refine ah (qC) (hN) (qI 0 1) qM zF (aa 400 ?_)
  simp (disch:=omega) only [go_sem,Nat.reduceEqDiff,Nat.reduceAdd,Nat.reduceSub,Int.reduceAdd,Int.reduceSub,Int.reduceToNat]
  refine ai (qI 0 1) (qC) _ (by simp only [go_sem];rfl) zF zF ?_
  simp (disch:=omega) only [go_sem,Nat.reduceEqDiff,Nat.reduceAdd,Nat.reduceSub,Int.reduceAdd,Int.reduceSub,Int.reduceToNat]
  try simp [bf,ae,ac]
 |some l=>
  rw [hr] at hN hg
  simp only [Rv,Ru] at hN
  by_cases hl:l.length=1
  ·obtain⟨n,rfl⟩:=x9 hl
   have e:rdF 12 p=(⟨12,1,n,0,[],ae,ac⟩,true):=by rw [hg];rfl
   rw [e]
   refine ao func51 (by kernel_rfl) rfl fun E hE=>aa 400 ?_
   simp (disch:=omega) only [ntmps51,results51,go_sem,Nat.reduceEqDiff,Nat.reduceAdd,Nat.reduceSub,Int.reduceAdd,Int.reduceSub,Int.reduceToNat]
   refine ah (qC) (hN) (qI 0 1) qM zF (aa 400 ?_)
   simp (disch:=omega) only [go_sem,Nat.reduceEqDiff,Nat.reduceAdd,Nat.reduceSub,Int.reduceAdd,Int.reduceSub,Int.reduceToNat]
   refine ai (qI 0 1) (qC) _ (by simp only [go_sem];rfl) zF zF ?_
   simp (disch:=omega) only [go_sem,Nat.reduceEqDiff,Nat.reduceAdd,Nat.reduceSub,Int.reduceAdd,Int.reduceSub,Int.reduceToNat]
   try simp [bf,ae,ac]
  have e:rdF 12 p=(bf 12 1,false):=by
   rw [hg,lf,if_neg zD,tR,if_pos (by first|(simp;omega)|simpa using hl)]
  rw [e]
  refine ao func51 (by kernel_rfl) rfl fun E hE=>aa 400 ?_
  simp (disch:=omega) only [ntmps51,results51,go_sem,Nat.reduceEqDiff,Nat.reduceAdd,Nat.reduceSub,Int.reduceAdd,Int.reduceSub,Int.reduceToNat]
  refine ah (qC) (hN) (qI 0 1) qM zF (aa 400 ?_)
  simp (disch:=omega) only [go_sem,Nat.reduceEqDiff,Nat.reduceAdd,Nat.reduceSub,Int.reduceAdd,Int.reduceSub,Int.reduceToNat]
  refine ai (qI 0 1) (qC) _ (by simp only [go_sem];rfl) zF zF ?_
  simp (disch:=omega) only [go_sem,Nat.reduceEqDiff,Nat.reduceAdd,Nat.reduceSub,Int.reduceAdd,Int.reduceSub,Int.reduceToNat]
  try simp [bf,ae,ac]
theorem pg (p:List (List UInt8)) (hp:p.length<=1000) (ht:tot p<=600):aP 51 [.sc (.int .i64 11),.sc (.sl 0 0 p.length)] [some ⟨p.map aM,1,9,false,true⟩]
  (.tu [.ag (rdF 11 p).1.cs,.sc (.bo (rdF 11 p).2)]) [some ⟨p.map aM,1,9,false,true⟩]:=by
 by_cases hl:p.length=1
 ·obtain⟨a,rfl⟩:=x9 hl
  have e:rdF 11 [a]=(⟨11,1,0,0,[],ae,(DQ a).1⟩,(DQ a).2):=rfl
  have ha:a.length<=1048576:=by simp [tot] at ht;omega
  have hu:=nP a ha
  rw [e]
  generalize DQ a=u at*
  refine qE func51 ntmps51 results51 fun E hE=>?_
  try simp (disch:=omega) only [go_sem,seval,aM]
  refine qK (hu) [] ?_
  refine qP (qI 0 1) ?_
  first|exact⟨⟩|simp [bf,ae,ac]
 have e:rdF 11 p=(bf 11 1,false):=by rw [rdF,if_pos rfl,if_pos hl]
 rw [e]
 refine qE func51 ntmps51 results51 fun E hE=>?_
 refine qP (qI 0 1) ?_
 first|exact⟨⟩|simp [bf,ae,ac]
theorem uc (k:Int) (hk:1<=k/\k<=12) (p:List (List UInt8)) (hp:p.length<=1000) (ht:tot p<=600):aP 51 [.sc (.int .i64 k),.sc (.sl 0 0 p.length)] [some ⟨p.map aM,1,9,false,true⟩]
  (.tu [.ag (rdF k p).1.cs,.sc (.bo (rdF k p).2)]) [some ⟨p.map aM,1,9,false,true⟩]:=by
 rcases (by omega:k=1\/k=2\/k=3\/k=4\/k=5\/k=6\/k=7\/k=8\/k=9\/k=10\/k=11\/k=12) with rfl|rfl|rfl|rfl|rfl|rfl|rfl|rfl|rfl|rfl|rfl|rfl
 ·exact rc p hp ht
 ·exact re p hp ht
 ·exact rf p hp ht
 ·exact rg p hp ht
 ·exact rh p hp ht
 ·exact ri p hp ht
 ·exact rj p hp ht
 ·exact rk p hp ht
 ·exact rl p hp ht
 ·exact pc p hp ht
 ·exact pg p hp ht
 exact pf p hp ht
theorem LD (b:List UInt8) (hl:b.length<=maxLen):aP 5 [.sc (.sl 0 0 b.length)] [some ⟨b.map ec,1,5,false,true⟩] (.sc (.bo (decide (1048576 < b.length)))) [some ⟨b.map ec,1,5,false,true⟩]:=by
 refine qE func5 ntmps5 results5 fun E hE=>?_
 refine qJ (qI 0 1) ?_
 simp
 omega
theorem DL (a:ActD):(aO a).length<=700:=by
 by_cases h:actGood a=true
 ·have hp:=eq (fK h)
  have hl:=ji (y:=[32]) (l:=actParts a)
  have h1:=hp.tot
  have h2:=hp.len
  simp only [List.length_singleton,Nat.mul_one] at hl
  rw [ey h];omega
 rw [aO,if_neg h];simp
theorem DM (p:PolicyD):(bQ p).length<=100:=by
 by_cases h:polOk p=true
 ·have hc:=jA h
  rw [(il p hc).1]
  have hk:∀ c∈eH,(aX [32] (gc c)).length<=100:=by decide
  exact hk p hc
 rw [bQ,if_neg h];simp
end
end Go.Proofs.YtdiiopjaebnmfaaGreatDoor
