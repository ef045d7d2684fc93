/-
  Texts merged for this claim by shake.py: what its proof needs.
-/
import Derived.Test.YtjghbknhneffjaaGreatZFnB2K
import Derived.Test.YtjghbknhneffjaaGreatZFnB2L
import Derived.Test.YtjghbknhneffjaaGreatZFnTopA
import Derived.Test.YtjghbknhneffjaaGreatZFnTopB
import Derived.Test.YtjghbknhneffjaaGreatZFnTopC
import Derived.Test.YtjghbknhneffjaaGreatZFnTopD
set_option maxHeartbeats 16000000
set_option maxRecDepth 100000
set_option linter.unusedVariables false
set_option linter.unusedSimpArgs false
namespace Go.Proofs.YtjghbknhneffjaaGreat
section
open Go.RowKit
end
section
open Go.ChangeShapes Go.WideShapes Go.ChangeAt Go.RowKit
end
section
open Go.RowKit
end
section
end
section
open Go.RowKit
theorem FH (b:List UInt8) (hb:b.length<=1048576):∃ (p:PolicyD) (l:List ActD),p∈Er/\l.length<=120/\(∀ a∈l,EQ a)/\aP 29 [.sc (.sl 0 0 b.length)] [some ⟨b.map ew,1,5,false,true⟩] (.tu [.ag p.cs,.sc (.sl 1 0 l.length)]) ([some ⟨b.map ew,1,5,false,true⟩]++[some ⟨l.map ActD.cs,28,113,true,true⟩]):=by
 obtain⟨p,c1,o1,hp,h1⟩:=yA b (pL b) (Cf hb)
 obtain⟨l,c2,o2,hl,ha,h2⟩:=F7 b c1 o1 70 (by omega)
 refine⟨p,l,hp,hl,ha,?_⟩
 refine qE Tryz.func29 Tryz.ntmps29 Tryz.results29 fun E hE=>?_
 refine qK (Bc b hb) (qI 0 1) ?_
 refine qK (h1) (qI 0 1++qI 2 1) ?_
 refine oF [(0,2)] [[1,0,2,3,4],[1,2,0,3,4]] (by kernel_rfl) (qC) (by kernel_rfl) ?_
 simp only [bm]
 refine⟨cj 400 ?_,cj 400 ?_⟩
 all_goals simp (disch:=omega) only [go_sem,seval]
 all_goals
  refine fK (qC) (h2) (qI 0 1++qI 2 1) qM (by rfl) (cj 400 ?_)
  simp (disch:=omega) only [go_sem,seval]
  refine qG ?_
  exact qF (qI 0 1++qI 4 1)
def H6:List PolicyD:=[⟨1,0⟩,⟨3,0⟩,⟨2,1⟩,⟨2,2⟩,⟨2,3⟩,⟨2,4⟩,⟨2,5⟩,⟨2,6⟩,⟨2,7⟩,⟨2,8⟩]
theorem zv {p:PolicyD} (h:polOk p=true):p∈H6:=by
 obtain⟨k,m⟩:=p
 rw [polOk] at h
 dsimp only at h
 split at h
 ·rename_i hk
  subst hk
  simp only [bj,Bool.and_eq_true,decide_eq_true_eq] at h
  have:m=1\/m=2\/m=3\/m=4\/m=5\/m=6\/m=7\/m=8:=by omega
  rcases this with rfl|rfl|rfl|rfl|rfl|rfl|rfl|rfl<;>decide
 simp only [Bool.and_eq_true,Bool.or_eq_true,beq_iff_eq] at h
 obtain⟨h1,rfl⟩:=h
 rcases h1 with rfl|rfl<;>decide
theorem HF:(H6.all fun p=>startE (pX (EO 1 p) (EO 2 p)).1 (pX (EO 1 p) (EO 2 p)).2.1 && t7 (EO 1 p) && t7 (EO 2 p) && zJ (pX (EO 1 p) (EO 2 p)).1 && zJ (pX (EO 1 p) (EO 2 p)).2.1)=true:=by decide+kernel
theorem p4 {s:Int} {p:PolicyD} (hs:s=1\/s=2) (hp:polOk p=true):i3 s (10*s+1) p=(EO s p,true):=by
 rcases hs with rfl|rfl
 ·exact yV (by rw [hp];decide)
 exact yV (by rw [hp];decide)
theorem us {s n:Int} {p:PolicyD} (hp:polOk p=false):i3 s n p=(dw,false):=yU (by rw [hp];simp)
theorem g8 {p:PolicyD} (hp:polOk p=true):fx p=(EM (pX (EO 1 p) (EO 2 p)).1 (pX (EO 1 p) (EO 2 p)).2.1,true):=by
 have h1:=p4 (s:=1) (.inl rfl) hp
 have h2:=p4 (s:=2) (.inr rfl) hp
 rw [show (10*1+1:Int)=11 from rfl] at h1
 rw [show (10*2+1:Int)=21 from rfl] at h2
 rw [fx,h1,h2]
 rfl
theorem qn {p:PolicyD} (hp:polOk p=false):fx p=(hJ,false):=by
 rw [fx,us hp,us hp]
 rfl
structure World0 (w:WorldD):Prop where
 g:GoodW w 0
 s:Start w
theorem r9 {p:PolicyD} (hp:polOk p=true):World0 (fx p).1:=by
 have hm:=List.all_eq_true.1 HF p (zv hp)
 simp only [Bool.and_eq_true] at hm
 obtain⟨⟨⟨⟨m0,m1⟩,m2⟩,m3⟩,m4⟩:=hm
 obtain⟨g1,f1⟩:=Bm m3
 obtain⟨g2,f2⟩:=Bm m4
 rw [g8 hp]
 exact⟨⟨g1,g2,⟨by simp [EM],by simp [EM],by simp [EM],by simp [EM],by simp [EM],by simp [EM],by simp [EM]⟩,by simp [EM],by simp [EM],by simp [EM],by simp [EM]⟩,⟨m0,rfl,rfl,rfl,rfl,rfl,rfl,rfl,rfl,rfl,rfl,rfl⟩⟩
def g7 (p:PolicyD) (l:List ActD):WorldD×List Int:=if polOk p=true/\l.length<=120 then gw l (fx p).1 [] else (hJ,[])
theorem vl (p:PolicyD):aP 85 [.ag p.cs] [] (.tu [.ag ((fx p).1.cs 0),.sc (.bo (fx p).2)]) ((fx p).1.hp true):=by
 have h1:=E1 1 11 p
 have h2:=E1 2 21 p
 cases hp:polOk p with
 |false=>
  rw [qn hp]
  rw [us hp] at h1 h2
  dsimp only at h1 h2⊢
  refine qE Tryz.func85 Tryz.ntmps85 Tryz.results85 fun E hE=>?_
  refine qK (h1) [] ?_
  refine qK (h2) [] ?_
  refine qJ (qO 21) ?_
  simp [hJ,dw]
 |true=>
  have i1:=p4 (s:=1) (.inl rfl) hp
  have i2:=p4 (s:=2) (.inr rfl) hp
  rw [show (10*1+1:Int)=11 from rfl] at i1
  rw [show (10*2+1:Int)=21 from rfl] at i2
  rw [i1] at h1
  rw [i2] at h2
  have hm:=List.all_eq_true.1 HF p (zv hp)
  simp only [Bool.and_eq_true] at hm
  obtain⟨⟨⟨⟨_,m1⟩,m2⟩,_⟩,_⟩:=hm
  have hM:=Hb (EO 1 p) (EO 2 p) (t8 m1) (t8 m2)
  rw [g8 hp]
  clear i1 i2 m1 m2
  generalize EO 1 p=a at*
  generalize EO 2 p=c at*
  obtain⟨M,hMM⟩:∃ M,M=pX a c:=⟨_,rfl⟩
  rw [<-hMM] at hM⊢
  clear hMM
  obtain⟨X,Y,ok⟩:=M
  dsimp only at hM⊢
  refine qE Tryz.func85 Tryz.ntmps85 Tryz.results85 fun E hE=>?_
  refine qK (h1) [] ?_
  refine qK (h2) [] ?_
  refine qK (hM) (qI 2 7++qI 10 7) ?_
  refine qP (qI 20 14++qO 2++qI 18 1++qO 4) ?_
  first|exact⟨⟩|simp [EM,aM]
theorem FI (p:PolicyD):aP 87 [.ag p.cs] [] (.tu [.ag ((fx p).1.cs 0),.sc (.bo (fx p).2)]) ((fx p).1.hp true):=by
 have h1:=Bh 1 11 p
 have h2:=Bh 2 21 p
 cases hp:polOk p with
 |false=>
  rw [qn hp]
  rw [us hp] at h1 h2
  dsimp only at h1 h2⊢
  refine qE Tryz.func87 Tryz.ntmps87 Tryz.results87 fun E hE=>?_
  refine qK (h1) [] ?_
  refine qK (h2) [] ?_
  refine qJ (qO 21) ?_
  simp [hJ,dw]
 |true=>
  have i1:=p4 (s:=1) (.inl rfl) hp
  have i2:=p4 (s:=2) (.inr rfl) hp
  rw [show (10*1+1:Int)=11 from rfl] at i1
  rw [show (10*2+1:Int)=21 from rfl] at i2
  rw [i1] at h1
  rw [i2] at h2
  have hm:=List.all_eq_true.1 HF p (zv hp)
  simp only [Bool.and_eq_true] at hm
  obtain⟨⟨⟨⟨_,m1⟩,m2⟩,_⟩,_⟩:=hm
  have hM:=Ci (EO 1 p) (EO 2 p) (t8 m1) (t8 m2)
  rw [g8 hp]
  clear i1 i2 m1 m2
  generalize EO 1 p=a at*
  generalize EO 2 p=c at*
  obtain⟨M,hMM⟩:∃ M,M=pX a c:=⟨_,rfl⟩
  rw [<-hMM] at hM⊢
  clear hMM
  obtain⟨X,Y,ok⟩:=M
  dsimp only at hM⊢
  refine qE Tryz.func87 Tryz.ntmps87 Tryz.results87 fun E hE=>?_
  refine qK (h1) [] ?_
  refine qK (h2) [] ?_
  refine qK (hM) (qI 2 7++qI 10 7) ?_
  refine qP (qI 20 14++qO 2++qI 18 1++qO 4) ?_
  first|exact⟨⟩|simp [EM,aM]
theorem GI (p:PolicyD) (l:List ActD) (hl:l.length<=1048576) (ha:∀ a∈l,a.text.length<=1048576):aP 30 [.ag p.cs,.sc (.sl 0 0 l.length)] [some ⟨l.map ActD.cs,28,113,false,true⟩]
  (.tu [.ag ((g7 p l).1.cs 1),.sc (.sl 22 0 (g7 p l).2.length)]) ([some ⟨l.map ActD.cs,28,113,false,true⟩]++((g7 p l).1.hp true++[some ⟨(g7 p l).2.map aM,1,3,true,true⟩])):=by
 have hW:=vl p
 by_cases hp:polOk p=true
 ·have h0:=(r9 hp).g
  rw [g8 hp] at hW h0
  dsimp only at hW h0
  by_cases h120:l.length<=120
  ·obtain⟨R,hR⟩:∃ R,R=g7 p l:=⟨_,rfl⟩
   rw [<-hR]
   rw [g7,if_pos ⟨hp,h120⟩,g8 hp] at hR
   dsimp only at hR
   generalize EM (pX (EO 1 p) (EO 2 p)).1 (pX (EO 1 p) (EO 2 p)).2.1=w0 at hW h0 hR
   refine gU Tryz.func30 Tryz.ntmps30 Tryz.results30 fun E hE=>?_
   refine qK (hW) [] ?_
   refine tD 1 hE (fun s (y:Nat×WorldD×List Int)=>s.at (qU [0,3,7,1,10,16,29,15]) [(28,.sc (.int .i64 (y.1:Nat))),(8,.sc (.sl 25 0 y.2.2.length))] ((s.hp.take 3)++(y.2.1.hp true++[some ⟨[WorldD.cs y.2.1 3],61,44,true,false⟩,some ⟨y.2.2.map aM,1,3,true,true⟩]))) (fun (y:Nat×WorldD×List Int)=>y.1<=l.length/\GoodW y.2.1 y.1/\y.2.2.length=y.1/\gw (l.drop y.1) y.2.1 y.2.2=R) (fun (y:Nat×WorldD×List Int)=>l.length - y.1) (0,w0,[]) (qI 0 25++qO 1) (⟨Nat.zero_le _,h0,rfl,hR.symm⟩) fun y hy N hN=>?_
   obtain⟨k,w,cs⟩:=y
   obtain⟨f1,f2,f3,f4⟩:=hy
   dsimp only at f1 f2 f3 f4
   refine qR ?_
   refine qB (fun h=>?_) fun h=>?_
   ·rw [Bn h] at f4
    have hak:=ha l[k] (List.getElem_mem h)
    have hD:=FM w l[k] (f2.d (by omega))
    have hG:=B5 f2 (a:=l[k]) hak
    generalize hx:l[k]=x at*
    obtain⟨Q,hQ⟩:∃ Q,Q=iP w x:=⟨_,rfl⟩
    rw [<-hQ] at hD hG f4
    try simp (disch:=omega) only [go_sem,seval,hx]
    refine qK (hD) (qI 3 21) ?_
    refine BE hN (k+1,Q.1,cs++[Q.2]) (qI 0 3++qI 27 21++qI 24 1++qI 50 1) (by (try dsimp only);exact⟨by omega,hG,by simp [f3],f4⟩) ?_
    first|exact⟨⟩|simp [aM]
   rw [B9 (by omega)] at f4
   subst f4
   refine qX ?_
   exact dk (qI 0 1++qI 3 21++qI 25 1)
  rw [g7,if_neg (fun hc=>h120 hc.2)]
  dsimp only
  generalize EM (pX (EO 1 p) (EO 2 p)).1 (pX (EO 1 p) (EO 2 p)).2.1=w0 at hW h0
  refine gU Tryz.func30 Tryz.ntmps30 Tryz.results30 fun E hE=>?_
  refine qK (hW) [] ?_
  refine ES (qI 0 1++qO 22) ?_
  first|exact⟨⟩|simp [hJ,dw]
 have hp:polOk p=false:=by simpa using hp
 rw [qn hp] at hW
 dsimp only at hW
 rw [g7,if_neg (fun hc=>by rw [hp] at hc;cases hc.1)]
 dsimp only
 refine gU Tryz.func30 Tryz.ntmps30 Tryz.results30 fun E hE=>?_
 refine qK (hW) [] ?_
 refine ES (qI 0 1++qO 22) ?_
 first|exact⟨⟩|simp [hJ,dw]
theorem GJ (p:PolicyD) (l:List ActD) (hl:l.length<=1048576) (ha:∀ a∈l,a.text.length<=1048576):aP 31 [.ag p.cs,.sc (.sl 0 0 l.length)] [some ⟨l.map ActD.cs,28,113,false,true⟩]
  (.tu [.ag ((g7 p l).1.cs 1),.sc (.sl 22 0 (g7 p l).2.length)]) ([some ⟨l.map ActD.cs,28,113,false,true⟩]++((g7 p l).1.hp true++[some ⟨(g7 p l).2.map aM,1,3,true,true⟩])):=by
 have hW:=FI p
 by_cases hp:polOk p=true
 ·have h0:=(r9 hp).g
  rw [g8 hp] at hW h0
  dsimp only at hW h0
  by_cases h120:l.length<=120
  ·obtain⟨R,hR⟩:∃ R,R=g7 p l:=⟨_,rfl⟩
   rw [<-hR]
   rw [g7,if_pos ⟨hp,h120⟩,g8 hp] at hR
   dsimp only at hR
   generalize EM (pX (EO 1 p) (EO 2 p)).1 (pX (EO 1 p) (EO 2 p)).2.1=w0 at hW h0 hR
   refine gU Tryz.func31 Tryz.ntmps31 Tryz.results31 fun E hE=>?_
   refine qK (hW) [] ?_
   refine tD 1 hE (fun s (y:Nat×WorldD×List Int)=>s.at (qU [0,1,2,1,7,1,10,35]) [(9,.sc (.int .i64 (y.1:Nat))),(8,.sc (.sl 25 0 y.2.2.length))] ((s.hp.take 3)++(y.2.1.hp true++[some ⟨[WorldD.cs y.2.1 3],61,44,true,false⟩,some ⟨y.2.2.map aM,1,3,true,true⟩]))) (fun (y:Nat×WorldD×List Int)=>y.1<=l.length/\GoodW y.2.1 y.1/\y.2.2.length=y.1/\gw (l.drop y.1) y.2.1 y.2.2=R) (fun (y:Nat×WorldD×List Int)=>l.length - y.1) (0,w0,[]) (qI 0 26) (⟨Nat.zero_le _,h0,rfl,hR.symm⟩) fun y hy N hN=>?_
   obtain⟨k,w,cs⟩:=y
   obtain⟨f1,f2,f3,f4⟩:=hy
   dsimp only at f1 f2 f3 f4
   refine qR ?_
   refine qB (fun h=>?_) fun h=>?_
   ·rw [Bn h] at f4
    have hak:=ha l[k] (List.getElem_mem h)
    have hD:=Hd w l[k] (f2.d (by omega))
    have hG:=B5 f2 (a:=l[k]) hak
    generalize hx:l[k]=x at*
    obtain⟨Q,hQ⟩:∃ Q,Q=iP w x:=⟨_,rfl⟩
    rw [<-hQ] at hD hG f4
    try simp (disch:=omega) only [go_sem,seval,hx]
    refine qD [0,1,2,3,4,5,6,7,8,9,10] ?_
    try simp (disch:=omega) only [go_sem,seval,hx]
    refine aQ (hD) (qI 3 21) ?_
    refine qG ?_
    refine BE hN (k+1,Q.1,cs++[Q.2]) (qI 0 3++qI 26 21++qI 24 1++qI 48 1) (by (try dsimp only);exact⟨by omega,hG,by simp [f3],f4⟩) ?_
    first|exact⟨⟩|simp [aM]
   rw [B9 (by omega)] at f4
   subst f4
   refine qX ?_
   exact dk (qI 0 1++qI 3 21++qI 25 1)
  rw [g7,if_neg (fun hc=>h120 hc.2)]
  dsimp only
  generalize EM (pX (EO 1 p) (EO 2 p)).1 (pX (EO 1 p) (EO 2 p)).2.1=w0 at hW h0
  refine gU Tryz.func31 Tryz.ntmps31 Tryz.results31 fun E hE=>?_
  refine qK (hW) [] ?_
  refine ES (qI 0 1++qO 21++qI 25 1) ?_
  first|exact⟨⟩|simp [hJ,dw]
 have hp:polOk p=false:=by simpa using hp
 rw [qn hp] at hW
 dsimp only at hW
 rw [g7,if_neg (fun hc=>by rw [hp] at hc;cases hc.1)]
 dsimp only
 refine gU Tryz.func31 Tryz.ntmps31 Tryz.results31 fun E hE=>?_
 refine qK (hW) [] ?_
 refine ES (qI 0 1++qO 21++qI 25 1) ?_
 first|exact⟨⟩|simp [hJ,dw]
def ET:WorldD->Nat->List ActD->Int
 |w,k,[]=>if c5 w then -1 else (k:Int)
 |w,k,a::l=>if c5 w then ET (iP w a).1 (k+1) l else (k:Int)
theorem HG {w:WorldD} {k:Nat} {l:List ActD} (h:c5 w=false):ET w k l=(k:Int):=by
 cases l<;>rw [ET,if_neg (by rw [h];simp)]
theorem HH {w:WorldD} {k:Nat} {l:List ActD} (h:c5 w=true) (hk:l.length<=k):ET w k (l.drop k)= -1:=by
 rw [List.drop_eq_nil_of_le hk,ET,if_pos h]
theorem He {w:WorldD} {k:Nat} {l:List ActD} (h:c5 w=true) (hk:k < l.length):ET w k (l.drop k)=ET (iP w l[k]).1 (k+1) (l.drop (k+1)):=by
 rw [List.drop_eq_getElem_cons hk,ET,if_pos h]
def hY (p:PolicyD) (l:List ActD):Int:=if polOk p=true/\l.length<=120 then ET (fx p).1 0 l else -1
theorem EU (p:PolicyD) (l:List ActD) (hl:l.length<=1048576) (ha:∀ a∈l,a.text.length<=1048576):aP 33 [.ag p.cs,.sc (.sl 0 0 l.length)] [some ⟨l.map ActD.cs,28,113,false,true⟩] (.sc (.int .i64 (hY p l))) [some ⟨l.map ActD.cs,28,113,false,true⟩]:=by
 have hW:=vl p
 by_cases hp:polOk p=true
 ·have h0:=(r9 hp).g
  rw [g8 hp] at hW h0
  dsimp only at hW h0
  by_cases h120:l.length<=120
  ·obtain⟨R,hR⟩:∃ R,R=hY p l:=⟨_,rfl⟩
   rw [<-hR]
   rw [hY,if_pos ⟨hp,h120⟩,g8 hp] at hR
   dsimp only at hR
   generalize EM (pX (EO 1 p) (EO 2 p)).1 (pX (EO 1 p) (EO 2 p)).2.1=w0 at hW h0 hR
   refine gU Tryz.func33 Tryz.ntmps33 Tryz.results33 fun E hE=>?_
   refine qK (hW) [] ?_
   refine tD 1 hE (fun s (y:Nat×WorldD)=>s.at (qU [0,1,2,1,4,1,6,1,8,31]) [(7,.sc (.int .i64 (y.1:Nat)))] ((s.hp.take 2)++(y.2.hp true++[some ⟨[WorldD.cs y.2 2],61,44,true,false⟩]))) (fun (y:Nat×WorldD)=>y.1<=l.length/\GoodW y.2 y.1/\ET y.2 y.1 (l.drop y.1)=R) (fun (y:Nat×WorldD)=>l.length - y.1) (0,w0) (qI 0 24) (⟨Nat.zero_le _,h0,hR.symm⟩) fun y hy N hN=>?_
   obtain⟨k,w⟩:=y
   obtain⟨f1,f2,f3⟩:=hy
   dsimp only at f1 f2 f3
   have s:=f2.s
   have hS:=t5 w s.a.own s.a.far s.a.subs s.a.halfs s.a.list s.a.done s.a.over s.b.own s.b.far s.b.subs s.b.halfs s.b.list s.b.done s.b.over (by have:=f2.rb;have:=f2.b.p.ready;omega) (by have:=f2.ra;have:=f2.a.p.ready;omega)
   refine qR ?_
   refine qK (hS) (qI 2 21) ?_
   cases hs:c5 w with
   |false=>
    rw [HG hs] at f3
    subst f3
    refine qX ?_
    exact dk (qI 0 1)
   |true=>
    by_cases hk:k < l.length
    ·refine qX ?_
     rw [He hs hk] at f3
     have hak:=ha l[k] (List.getElem_mem hk)
     have hD:=FM w l[k] (f2.d (by omega))
     have hG:=B5 f2 (a:=l[k]) hak
     generalize hx:l[k]=x at*
     obtain⟨Q,hQ⟩:∃ Q,Q=iP w x:=⟨_,rfl⟩
     rw [<-hQ] at hD hG f3
     try simp (disch:=omega) only [go_sem,seval,hx]
     refine qD [0,1,2,3,4,5,6,7,8,9] ?_
     try simp (disch:=omega) only [go_sem,seval,hx]
     refine aQ (hD) (qI 2 21) ?_
     refine qG ?_
     exact Cs hN (k+1,Q.1) (qI 0 2++qI 24 21++qI 23 1) (by (try dsimp only);exact⟨by omega,hG,f3⟩)
    refine qX ?_
    rw [HH hs (by omega)] at f3
    subst f3
    exact dk (qI 0 1)
  rw [hY,if_neg (fun hc=>h120 hc.2)]
  generalize EM (pX (EO 1 p) (EO 2 p)).1 (pX (EO 1 p) (EO 2 p)).2.1=w0 at hW h0
  refine gU Tryz.func33 Tryz.ntmps33 Tryz.results33 fun E hE=>?_
  refine qK (hW) [] ?_
  exact dk (qI 0 1)
 have hp:polOk p=false:=by simpa using hp
 rw [qn hp] at hW
 dsimp only at hW
 rw [hY,if_neg (fun hc=>by rw [hp] at hc;cases hc.1)]
 refine gU Tryz.func33 Tryz.ntmps33 Tryz.results33 fun E hE=>?_
 refine qK (hW) [] ?_
 exact dk (qI 0 1)
theorem Hf {a:ActD} (h:cO a=true):0<=a.pos:=by
 simp only [cO,gA,bj,Bool.and_eq_true,decide_eq_true_eq] at h
 omega
def p3 (w:WorldD) (e:EndD):WorldD:={ w with a:=e }
structure Step (w w':WorldD) (l:List LetterD):Prop where
 c:Core w'
 le:Le w w'
 post:∀ x∈l,Post w' x
theorem PutA.step {w w':WorldD} {l:List LetterD} (P:PutA w w') (C:Core w) (h:Core w'->∀ x∈l,Post w' x):Step w w' l:=⟨P.core C,P.le,h (P.core C)⟩
theorem PutB.step {w w':WorldD} {l:List LetterD} (P:PutB w w') (C:Core w) (h:Core w'->∀ x∈l,Post w' x):Step w w' l:=⟨P.core C,P.le,h (P.core C)⟩
theorem em {w:WorldD}:∀ x∈([]:List LetterD),Post w x:=fun x hx=>by simp at hx
theorem en {w:WorldD} {y:LetterD} (h:Post w y):∀ x∈[y],Post w x:=fun x hx=>by rw [List.mem_singleton.1 hx];exact h
def E6 (k:Int):Prop:=k=1\/k=2\/k=3\/k=9\/k=10\/k=12\/k=13
theorem u4 {w:WorldD} {x:LetterD} (hk:E6 x.kind) (hs:¬ sideAt x.to=0):Post w x:=by
 simp only [E6] at hk
 refine⟨.inr ?_,fun h=>absurd h hs⟩
 constructor<;>(intro _ h;omega)
theorem G3 {w:WorldD} (C:Core w) {s:SubD} (hs:s∈w.a.subs):¬ Loose w.nums s.take:=fun h=>by
 have S:=C.sa s hs
 rcases h with h|h
 ·have:=S.t4;omega
 exact S.tn h
theorem G4 {w:WorldD} (C:Core w) {s:SubD} (hs:s∈w.a.subs) (h0:1000<=s.mine):¬ Loose w.nums s.mine:=fun h=>by
 have S:=C.sa s hs
 rcases h with h|h
 ·omega
 rcases S.mine with g|⟨_,g⟩
 ·omega
 exact g h
theorem H2 {w:WorldD} (C:Core w) {t:SubD} (ht:t∈w.b.subs):¬ Loose w.nums t.take:=fun h=>by
 have S:=C.sb t ht
 rcases h with h|h
 ·have:=S.t4;omega
 exact S.tn h
theorem Hm {w:WorldD} (C:Core w) {t:SubD} (ht:t∈w.b.subs):sideAt t.road.far=1/\sideAt t.road.own=2:=by
 obtain⟨s,h1,_,h3,_,_⟩:=(C.sb t ht).like
 have S:=C.sa s h1
 have g1:=S.own
 have g2:=S.far
 rw [h3] at g1 g2
 exact⟨g1,g2⟩
theorem In {w:WorldD} {x:LetterD} (C:Core w) (G:SmallP w.a.inp) (L:LetI w x) (hx:sideAt x.to=1):Step w (p3 w (bM w.a x).1) (bM w.a x).2:=by
 have ok:=GY (x:=x) C.oka C.sta
 have M0:=MildA.refl C
 have keep:Step w (p3 w w.a) []:=(M0.put C).step C fun _=>em
 have hk:=bM (e:=w.a) (x:=x)
 by_cases hc:cp w.a x=true
 case neg=>rw [ur (by simpa using hc)];exact keep
 by_cases k1:x.kind=1
 ·rw [y3 hc k1,ax,if_neg]
  ·exact keep
  simp only [f8,Bool.and_eq_true,decide_eq_true_eq];have:=C.sta;omega
 by_cases k2:x.kind=2
 ·rw [y4 hc k2,aS,if_neg]
  ·exact keep
  simp only [i2,Bool.and_eq_true,decide_eq_true_eq];have:=C.sta;omega
 by_cases k4:x.kind=4
 ·rw [y5 hc k4] at ok⊢
  have hL:=L.a4 hx k4
  -- what is answered for a half open road of ours
  have ans:∀ (w':WorldD) (h:HalfD),Core w'->h∈w'.a.halfs->w'.a.key=w.a.key->w'.b.key=w.b.key->w'.b.draw=w.b.draw->Post w' (kT w.a (roadOf x) h):=by
   intro w' h C' hh e1 e2 e3
   have H:=C'.ha h hh
   have hm:=H.m4
   refine⟨.inr ?_,fun h0=>⟨rfl,H.th,rfl,fun s hs=>?_,fun t ht=>?_,fun k hk hq=>?_,⟨by simp only [kT,aq];omega,by simp only [kT,aq];omega⟩,fun n hn=>?_⟩⟩
   ·constructor<;>(intro q1 q2;simp only [kT,aq,ah] at q2;try omega)
    intro m hm'
    simp only [kT,aq] at hm'
    have:=congrArg TagD.one hm'
    dsimp only at this
    exact absurd (this.symm.trans e1.symm) (fun hc=>C'.kk (by rw [<-hc]))
   ·have S:=C'.sa s hs
    have h1:=H.sep s hs
    have t4:=S.t4
    simp only [kT,aq]
    refine⟨by rw [hm.2.2.2] at h1⊢;exact h1,by omega,?_⟩
    rcases S.mine with g|⟨g,_⟩
    ·exact .inl g
    exact .inr ⟨by omega,by omega⟩
   ·have t4:=(C'.sb t ht).t4
    simp only [kT,aq]
    omega
   ·have m4:=(C'.hb k hk).m4
    simp only [kT,aq] at hq
    omega
   simp only [kT,aq] at hn
   constructor<;>intro _<;>omega
  unfold br at ok⊢
  split at ok
  case isFalse hk=>rw [if_neg hk];exact keep
  rename_i hk
  rw [if_pos hk]
  split at ok
  ·rename_i hs
   rw [if_pos hs]
   simp only [fg,Bool.and_eq_true,decide_eq_true_eq] at hs
   obtain⟨n,e1,hn,_⟩:=Fr hs.1.1
   have M:MildA w (p3 w { w.a with bucket:=(bI w.a.bucket).1,halfs:=w.a.halfs.set (a_ w.a.halfs (roadOf x)).toNat { wP w.a x with till:=w.a.now+6 } }):=by
    refine⟨rfl,rfl,rfl,rfl,rfl,⟨[],by simp [p3]⟩,ok,⟨rfl,rfl,rfl,rfl⟩,SubsKeep.refl _,fun h hh=>?_,C.oa,C.fa,fun _ _ h=>h,C.oia,C.iia⟩
    rcases List.mem_or_eq_of_mem_set hh with hh|hh
    ·exact⟨h,hh,HalfKeep.refl h⟩
    rw [hh,wP,e1,Int.toNat_natCast,g0 hn]
    exact⟨_,List.getElem_mem hn,rfl,rfl,rfl,rfl,rfl⟩
   refine (M.put C).step C fun C'=>en ?_
   have hj:wP w.a x=w.a.halfs[n]:=by rw [wP,e1,Int.toNat_natCast,g0 hn]
   have:=ans _ { wP w.a x with till:=w.a.now+6 } C' (by
    dsimp only [p3]
    rw [e1,Int.toNat_natCast]
    exact List.mem_set hn _) rfl rfl rfl
   exact this
  rename_i hs
  rw [if_neg hs]
  simp only [rF,Bool.and_eq_true,decide_eq_true_eq,vP] at hk
  have hd:=hk.1.1.2
  have da:=C.da
  have hput:∀ h∈(bJ w.a.halfs (aK w.a x)).1,h=aK w.a x\/h∈w.a.halfs:=by
   intro h hh
   rw [bJ] at hh;split at hh
   ·dsimp only at hh
    rw [cx] at hh;split at hh
    ·rcases List.mem_or_eq_of_mem_set hh with hh|hh
     ·exact .inr hh
     exact .inl hh
    rcases List.mem_append.1 hh with hh|hh
    ·exact .inr hh
    exact .inl (List.mem_singleton.1 hh)
   exact .inr hh
  have P:PutA w (p3 w { w.a with bucket:=(bI w.a.bucket).1,draw:=w.a.draw+4,halfs:=(bJ w.a.halfs (aK w.a x)).1 }):=by
   refine⟨rfl,rfl,rfl,rfl,rfl,⟨[],by simp [p3]⟩,ok.1,ok.2,C.sia,rfl,rfl,⟨by dsimp only [p3];omega,by dsimp only [p3];omega⟩,fun s hs=>⟨s,hs,SubTo.refl s⟩,fun s hs=>?_,C.sad,fun h hh=>?_,C.oa,C.fa,fun _ _ h=>h,C.oia,C.iia⟩
   ·have S:=C.sa s hs
    exact⟨by have:=S.t4;dsimp only [p3];omega,S.tn,S.mine,S.own,S.far,S.th,S.on,S.ask⟩
   rcases hput h hh with rfl|hh
   ·refine⟨⟨by simp only [aK];omega,by simp only [aK];omega,by simp only [aK,p3];omega,by simp only [aK]⟩,fun s hs=>?_,hL⟩
    have:=(C.sa s hs).t4
    simp only [aK]
    omega
   have S:=C.ha h hh
   exact⟨by have:=S.m4;dsimp only [p3];omega,S.sep,S.th⟩
  refine P.step C fun C'=>en ?_
  by_cases hin:aK w.a x∈(bJ w.a.halfs (aK w.a x)).1
  ·exact ans _ _ C' hin rfl rfl rfl
  -- a half open road that was not laid: its numbers are drawn all the same
  refine⟨.inr ?_,fun h0=>⟨rfl,hL,rfl,fun s hs=>?_,fun t ht=>?_,fun k hk hq=>?_,⟨by simp only [kT,aq,aK];omega,by simp only [kT,aq,aK];omega⟩,fun n hn=>?_⟩⟩
  ·constructor<;>(intro q1 q2;simp only [kT,aq,ah] at q2;try omega)
   intro m hm'
   simp only [kT,aq] at hm'
   have:=congrArg TagD.one hm'
   dsimp only [p3] at this
   exact absurd this C.kk
  ·have S:=C.sa s hs
   have t4:=S.t4
   simp only [kT,aq,aK]
   refine⟨by omega,by omega,?_⟩
   rcases S.mine with g|⟨g,_⟩
   ·exact .inl g
   exact .inr ⟨by omega,by omega⟩
  ·have t4:=(C.sb t ht).t4
   simp only [kT,aq,aK]
   omega
  ·have m4:=(C.hb k hk).m4
   simp only [kT,aq,aK] at hq
   omega
  simp only [kT,aq,aK] at hn
  dsimp only [p3]
  constructor<;>intro _<;>omega
 by_cases k5:x.kind=5
 ·rw [y6 hc k5] at ok⊢
  unfold ay at ok⊢
  split at ok
  case isFalse hk=>rw [if_neg hk];exact keep
  rename_i hk
  rw [if_pos hk]
  simp only [tO,Bool.and_eq_true,decide_eq_true_eq] at hk
  obtain⟨⟨⟨⟨⟨q1,q2⟩,q3⟩,q4⟩,q5⟩,q6⟩:=hk
  obtain⟨n,e1,hn,_,hrd,_⟩:=ws q4
  rw [e1,Int.toNat_natCast,ke hn] at q5 q6 ok⊢
  rw [C.pa] at q6
  have hs:=List.getElem_mem hn
  obtain⟨s,es⟩:∃ s,w.a.subs[n]=s:=⟨_,rfl⟩
  rw [es] at q5 q6 hs hrd ok⊢
  have S:=C.sa s hs
  have h1000:=S.ask (.inl q5)
  have hf:x.nonce < w.b.draw/\∀ h∈w.b.halfs,h.mine=x.nonce->h.theirs=s.mine/\h.take=x.give/\h.road=bk (roadOf x):=by
   rcases L.a5 hx k5 s.mine q6 with g|g
   ·exact absurd g (G4 C hs h1000)
   exact g
  have hat:∀ (i:Nat) (h1:i < (w.a.subs.set n (mD s x)).length) (h2:i < w.a.subs.length),SubTo w.a.subs[i] (w.a.subs.set n (mD s x))[i]/\((w.a.subs.set n (mD s x))[i]=mD s x\/(w.a.subs.set n (mD s x))[i]=w.a.subs[i]):=by
   intro i h1 h2
   rw [List.getElem_set]
   split
   ·rename_i e;subst e
    rw [es]
    exact⟨⟨rfl,rfl,rfl,fun h=>absurd q5 h⟩,.inl rfl⟩
   exact⟨SubTo.refl _,.inr rfl⟩
  have hmem:mD s x∈w.a.subs.set n (mD s x):=List.mem_set hn _
  have P:PutA w (p3 w { w.a with subs:=w.a.subs.set n (mD s x) }):=by
   refine⟨rfl,rfl,rfl,rfl,rfl,⟨[],by simp [p3]⟩,ok.1,ok.2,C.sia,rfl,rfl,⟨C.da.1,Int.le_refl _⟩,fun r hr=>?_,fun r hr=>?_,?_,fun h hh=>?_,C.oa,C.fa,fun _ _ h=>h,C.oia,C.iia⟩
   ·obtain⟨i,hi,rfl⟩:=List.getElem_of_mem hr
    exact⟨_,List.getElem_mem (by simpa [p3] using hi),(hat i (by simpa using hi) hi).1⟩
   ·rcases List.mem_or_eq_of_mem_set hr with hr|hr
    ·exact C.sa r hr
    rw [hr]
    refine⟨S.t4,S.tn,S.mine,S.own,S.far,⟨hf.1,fun h hh hm=>?_⟩,fun h3=>by simp [mD] at h3,fun _=>h1000⟩
    obtain⟨g1,g2,g3⟩:=hf.2 h hh hm
    rw [<-hrd] at g3
    exact⟨g1,g2,g3⟩
   ·have p:=C.sad
    rw [List.pairwise_iff_getElem] at p⊢
    intro i j hi hj hij
    dsimp only [p3] at hi hj⊢
    have hi':i < w.a.subs.length:=by simpa using hi
    have hj':j < w.a.subs.length:=by simpa using hj
    rw [(hat i hi hi').1.take,(hat j hj hj').1.take]
    exact p i j hi' hj' hij
   have H:=C.ha h hh
   refine⟨H.m4,fun r hr=>?_,H.th⟩
   rcases List.mem_or_eq_of_mem_set hr with hr|hr
   ·exact H.sep r hr
   rw [hr];exact H.sep s hs
  refine P.step C fun C'=>en ⟨.inr ?_,fun h0=>?_⟩
  ·constructor<;>(intro p1 p2;simp only [cb,aq,ah] at p2;try omega)
   ·intro m n hm
    have:sideAt s.road.far=1:=p1
    have:=S.far
    omega
   intro m n hm
   simp only [cb,aq,p3] at hm
   injection hm with _ _ _ hm hn'
   exact⟨mD s x,hmem,by simp [mD],h1000,hm.symm,hn'.symm,rfl⟩
  have:sideAt s.road.far=0:=h0
  have:=S.far
  omega
 by_cases k6:x.kind=6
 ·rw [y7 hc k6]
  have hno:=L.a6 hx k6
  have hA:rE w.a x=false:=by
   cases hj:rE w.a x with
   |false=>rfl
   |true=>
    simp only [rE,Bool.and_eq_true,decide_eq_true_eq] at hj
    rw [C.pa] at hj
    exact absurd hj.2 (hno _ _)
  have hB:BN w.a x=false:=by
   cases hj:BN w.a x with
   |false=>rfl
   |true=>
    simp only [BN,Bool.and_eq_true,decide_eq_true_eq] at hj
    rw [C.pa] at hj
    exact absurd hj.2 (hno _ _)
  by_cases hI:mE w.a x=true
  ·rw [Dp hI hA hB];exact keep
  rw [Ev (by simpa using hI)];exact keep
 by_cases k7:x.kind=7
 ·rw [y8 hc k7] at ok⊢
  unfold aE at ok⊢
  dsimp only at ok⊢
  split at ok
  case isFalse hk=>rw [if_neg hk];exact keep
  rename_i hk
  rw [if_pos hk]
  simp only [mu,Bool.and_eq_true,decide_eq_true_eq] at hk
  obtain⟨⟨⟨⟨q1,q2⟩,q3⟩,q4⟩,q5⟩:=hk
  obtain⟨n,e1,hn,_,hr,_⟩:=ws q3
  rw [e1,Int.toNat_natCast] at q4 q5 ok⊢
  rw [ke hn] at q4 q5
  rw [gW hn] at ok⊢
  obtain⟨s,es⟩:∃ s,w.a.subs[n]=s:=⟨_,rfl⟩
  have hs:=List.getElem_mem hn
  rw [es] at q4 q5 hs hr ok⊢
  have S:=C.sa s hs
  have hon:∃ t∈w.b.subs,t.road=bk s.road/\t.take=s.give/\t.give=s.take:=by
   rcases L.a7 hx k7 with g|⟨t,g1,g2⟩
   ·rw [<-q5] at g;exact absurd g (G3 C hs)
   obtain⟨r,r1,r2,r3,r4,r5⟩:=(C.sb t g1).like
   have:r=s:=Gv C.sad r1 hs (by rw [r4,g2,q5])
   subst this
   exact⟨t,g1,by rw [r3];rfl,r5.symm,r4.symm⟩
  have hat:∀ (i:Nat) (h1:i < (w.a.subs.set n { s with state:=3 }).length) (h2:i < w.a.subs.length),SubTo w.a.subs[i] (w.a.subs.set n { s with state:=3 })[i]:=by
   intro i h1 h2
   rw [List.getElem_set]
   split
   ·rename_i e;subst e
    rw [es]
    exact⟨rfl,rfl,rfl,fun h=>⟨by simp,rfl,rfl⟩⟩
   exact SubTo.refl _
  refine PutA.step ⟨rfl,rfl,rfl,rfl,rfl,⟨[],by simp [p3]⟩,ok.1,ok.2,C.sia,rfl,rfl,⟨C.da.1,Int.le_refl _⟩,fun r hr=>?_,fun r hr=>?_,?_,fun h hh=>?_,C.oa,C.fa,fun _ _ h=>h,C.oia,C.iia⟩ C fun _=>em
  ·obtain⟨i,hi,rfl⟩:=List.getElem_of_mem hr
   exact⟨_,List.getElem_mem (by simpa [p3] using hi),hat i (by simpa using hi) hi⟩
  ·rcases List.mem_or_eq_of_mem_set hr with hr|hr
   ·exact C.sa r hr
   rw [hr]
   exact⟨S.t4,S.tn,S.mine,S.own,S.far,S.th,fun _=>hon,fun h=>by simp at h⟩
  ·have p:=C.sad
   rw [List.pairwise_iff_getElem] at p⊢
   intro i j hi hj hij
   dsimp only [p3] at hi hj⊢
   have hi':i < w.a.subs.length:=by simpa using hi
   have hj':j < w.a.subs.length:=by simpa using hj
   rw [(hat i hi hi').take,(hat j hj hj').take]
   exact p i j hi' hj' hij
  have H:=C.ha h hh
  refine⟨H.m4,fun r hr=>?_,H.th⟩
  rcases List.mem_or_eq_of_mem_set hr with hr|hr
  ·exact H.sep r hr
  rw [hr];exact H.sep s hs
 by_cases k8:x.kind=8
 ·rw [y9 hc k8] at ok⊢
  unfold bC at ok⊢
  split at ok
  case isFalse hk=>rw [if_neg hk];exact keep
  rename_i hk
  rw [if_pos hk]
  simp only [lH,Bool.and_eq_true,decide_eq_true_eq] at hk
  obtain⟨⟨⟨⟨q1,q2⟩,_⟩,_⟩,_⟩:=hk
  rw [C.pa] at q2
  obtain⟨t1,t2⟩:=L.a8 hx k8 _ _ q2
  obtain⟨n,e1,_,hn,_,_,hr,_⟩:=Hh q1
  refine PutA.step (MildA.put ⟨rfl,rfl,rfl,rfl,rfl,⟨[],by simp [p3]⟩,ok,⟨rfl,rfl,rfl,rfl⟩,SubsKeep.refl _,fun h hh=>⟨h,hh,HalfKeep.refl h⟩,C.oa,fun f hf=>?_,fun _ _ h=>h,C.oia,C.iia⟩ C) C fun C'=>en (u4 (by simp [E6,rO,aq]) ?_)
  ·rcases sN hf with rfl|hf
   ·exact⟨t1,t2⟩
   exact C.fa f hf
  show ¬ sideAt (roadOf x).far=0
  rw [<-hr]
  have:=(C.sa _ (List.getElem_mem hn)).far
  omega
 by_cases k9:x.kind=9
 ·rw [y_ hc k9] at ok⊢
  unfold bD at ok⊢
  dsimp only at ok⊢
  split at ok
  case isFalse hk=>rw [if_neg hk];exact keep
  rename_i hk
  rw [if_pos hk]
  simp only [hZ,Bool.and_eq_true,decide_eq_true_eq] at hk
  obtain⟨n,e1,hn,_⟩:=EW hk.1.2
  rw [e1,Int.toNat_natCast,hV hn] at ok⊢
  refine PutA.step (MildA.put ⟨rfl,rfl,rfl,rfl,rfl,⟨[],by simp [p3]⟩,ok,⟨rfl,rfl,rfl,rfl⟩,SubsKeep.refl _,fun h hh=>⟨h,hh,HalfKeep.refl h⟩,fun q hq=>?_,C.fa,fun i d h=>?_,C.oia,C.iia⟩ C) C fun _=>em
  ·rcases List.mem_or_eq_of_mem_set hq with hq|hq
   ·exact C.oa q hq
   rw [hq];exact (show sideAt w.a.own[n].addr=1 from C.oa _ (List.getElem_mem hn))
  rcases h with⟨q,h1,h2,h3⟩|h
  ·obtain⟨j,hj,rfl⟩:=List.getElem_of_mem h1
   by_cases hjn:n=j
   ·subst hjn
    exact .inl ⟨_,List.mem_set hn _,h2,h3⟩
   refine .inl ⟨w.a.own[j],?_,h2,h3⟩
   dsimp only [p3]
   rw [List.mem_iff_getElem]
   exact⟨j,by simpa using hj,by rw [List.getElem_set_ne hjn]⟩
  exact .inr h
 by_cases k10:x.kind=10
 ·rw [vB hc k10] at ok⊢
  unfold bE at ok⊢
  dsimp only at ok⊢
  split at ok
  case isFalse hk=>rw [if_neg hk];exact keep
  rename_i hk
  rw [if_pos hk]
  refine PutA.step (MildA.put ⟨rfl,rfl,rfl,rfl,rfl,⟨[],by simp [p3]⟩,ok,⟨rfl,rfl,rfl,rfl⟩,SubsKeep.map fun s hs=>?_,fun h hh=>⟨h,hh,HalfKeep.refl h⟩,C.oa,fun f hf=>C.fa f (qs hf),fun _ _ h=>h,C.oia,C.iia⟩ C) C fun _=>em
  rw [jP];split
  ·exact⟨rfl,rfl,rfl,rfl,rfl,.inr rfl⟩
  exact SubKeep.refl s
 by_cases k11:x.kind=11
 ·rw [vC hc k11] at ok⊢
  unfold bF at ok⊢
  split at ok
  case isFalse hk=>rw [if_neg hk];exact keep
  rename_i hk
  rw [if_pos hk]
  simp only [qb,Bool.and_eq_true,decide_eq_true_eq] at hk
  obtain⟨n,e1,_,hn,_,ht,hr,_⟩:=Hh hk.1
  have hsl:Slice w.wroteB x.pos x.text:=by
   rcases L.a11 hx k11 with g|g
   ·rw [<-ht] at g;exact absurd g (G3 C (List.getElem_mem hn))
   exact g
  refine PutA.step (MildA.put ⟨rfl,rfl,rfl,rfl,rfl,⟨[],by simp [p3]⟩,ok,⟨rfl,rfl,rfl,rfl⟩,SubsKeep.refl _,fun h hh=>⟨h,hh,HalfKeep.refl h⟩,C.oa,C.fa,fun _ _ h=>h,C.oia,Fx C.iia G hsl⟩ C) C fun C'=>en (u4 (by simp [E6,vA,aq]) ?_)
  show ¬ sideAt (roadOf x).far=0
  rw [<-hr]
  have:=(C.sa _ (List.getElem_mem hn)).far
  omega
 by_cases k12:x.kind=12
 ·rw [vD hc k12] at ok⊢
  unfold bA at ok⊢
  dsimp only at ok⊢
  split at ok
  case isFalse hk=>rw [if_neg hk];exact keep
  rename_i hk
  rw [if_pos hk]
  exact PutA.step (MildA.put ⟨rfl,rfl,rfl,rfl,rfl,⟨[],by simp [p3]⟩,ok,⟨rfl,rfl,rfl,rfl⟩,SubsKeep.refl _,fun h hh=>⟨h,hh,HalfKeep.refl h⟩,C.oa,C.fa,fun _ _ h=>h,HP C.oia,C.iia⟩ C) C fun _=>em
 by_cases k13:x.kind=13
 ·rw [vE hc k13] at ok⊢
  unfold bf at ok⊢
  dsimp only at ok⊢
  split at ok
  case isFalse hk=>rw [if_neg hk];exact keep
  rename_i hk
  rw [if_pos hk]
  exact PutA.step (MildA.put ⟨rfl,rfl,rfl,rfl,rfl,⟨[],by simp [p3]⟩,ok,⟨rfl,rfl,rfl,rfl⟩,SubsKeep.st4 _ _,fun h hh=>⟨h,hh,HalfKeep.refl h⟩,C.oa,C.fa,fun _ _ h=>h,C.oia,C.iia⟩ C) C fun _=>em
 rw [y2 fun k hk=>by omega];exact keep
theorem G5 {l:List HalfD} {n:Nat} {q:HalfD} (p:l.Pairwise fun h k=>¬ h.take=k.take) (hq:∀ (i:Nat) (hi:i < l.length),¬ i=n->¬ l[i].take=q.take):(l.set n q).Pairwise fun h k=>¬ h.take=k.take:=by
 rw [List.pairwise_iff_getElem] at p⊢
 intro i j hi hj hij
 have hi':i < l.length:=by simpa using hi
 have hj':j < l.length:=by simpa using hj
 rw [List.getElem_set,List.getElem_set]
 by_cases h1:n=i
 ·rw [if_pos h1,if_neg (by omega)]
  exact fun hc=>hq j hj' (by omega) hc.symm
 rw [if_neg h1]
 by_cases h2:n=j
 ·rw [if_pos h2];exact hq i hi' (by omega)
 rw [if_neg h2];exact p i j hi' hj' hij
theorem HR {l:List HalfD} (h:l.Pairwise fun s t=>¬ s.take=t.take) {s t:HalfD} (hs:s∈l) (ht:t∈l) (e:s.take=t.take):s=t:=by
 obtain⟨i,hi,rfl⟩:=List.getElem_of_mem hs
 obtain⟨j,hj,rfl⟩:=List.getElem_of_mem ht
 rw [List.pairwise_iff_getElem] at h
 rcases Nat.lt_trichotomy i j with hl|hl|hl
 ·exact absurd e (h i j hi hj hl)
 ·subst hl;rfl
 exact absurd e.symm (h j i hj hi hl)
theorem Io {w:WorldD} {x:LetterD} (C:Core w) (G:SmallP w.b.inp) (L:LetI w x) (hx:sideAt x.to=2):Step w (inB w (bM w.b x).1) (bM w.b x).2:=by
 have ok:=GY (x:=x) C.okb C.stb
 have M0:=MildB.refl C
 have keep:Step w (inB w w.b) []:=(M0.put C).step C fun _=>em
 by_cases hc:cp w.b x=true
 case neg=>rw [ur (by simpa using hc)];exact keep
 by_cases k1:x.kind=1
 ·rw [y3 hc k1,ax,if_neg]
  ·exact keep
  simp only [f8,Bool.and_eq_true,decide_eq_true_eq];have:=C.stb;omega
 by_cases k2:x.kind=2
 ·rw [y4 hc k2,aS,if_neg]
  ·exact keep
  simp only [i2,Bool.and_eq_true,decide_eq_true_eq];have:=C.stb;omega
 by_cases k4:x.kind=4
 ·rw [y5 hc k4] at ok⊢
  have hL:=L.b4 hx k4
  have ans:∀ (w':WorldD) (h:HalfD),Core w'->HalfB w'.nums w'.b.draw w'.a.subs w'.b.subs h->h.road=roadOf x->(∀ k∈w'.b.halfs,k.mine=h.mine->k.theirs=h.theirs/\k.take=h.take/\k.road=h.road)->(∀ k∈w'.b.halfs,k.take=h.take->k.theirs=h.theirs)->w'.a.key=w.a.key->w'.b.key=w.b.key->Post w' (kT w.b (roadOf x) h):=by
   intro w' h C' H hr hone htk e1 e2
   have hm:=H.m4
   refine⟨.inr ?_,fun h0=>?_⟩
   ·constructor<;>(intro q1 q2;simp only [kT,aq,ah] at q2;try omega)
    intro m hm'
    simp only [kT,aq] at hm'
    injection hm' with _ _ _ _ hb
    refine .inr ⟨by simp only [kT,aq];omega,fun k hk hkm=>?_⟩
    obtain⟨g1,g2,g3⟩:=hone k hk hkm
    exact⟨by rw [g1,hb],g2,by rw [g3,hr];rfl⟩
   have hth:Loose w'.nums h.theirs:=by
    rcases H.th with g|⟨_,s,s1,_,_,_,s5⟩
    ·exact g
    have:=(C'.sa s s1).own
    rw [s5,hr] at this
    have h0':sideAt (roadOf x).far=0:=h0
    have:sideAt (roadOf x).far=1:=this
    omega
   refine⟨rfl,hth,rfl,fun s hs=>?_,fun t ht=>?_,fun k hk hq=>?_,⟨by simp only [kT,aq];omega,by simp only [kT,aq];omega⟩,fun n hn=>?_⟩
   ·have S:=C'.sa s hs
    have t4:=S.t4
    simp only [kT,aq]
    refine⟨by omega,by omega,?_⟩
    rcases S.mine with g|⟨g,_⟩
    ·exact .inl g
    exact .inr ⟨by omega,by omega⟩
   ·have t4:=(C'.sb t ht).t4
    have:=H.sep t ht
    simp only [kT,aq]
    exact⟨this,by omega⟩
   ·have m4:=(C'.hb k hk).m4
    simp only [kT,aq] at hq
    rcases hq with hq|hq
    ·rw [htk k hk hq];exact hth
    omega
   simp only [kT,aq] at hn
   constructor<;>intro _<;>omega
  unfold br at ok⊢
  split at ok
  case isFalse hk=>rw [if_neg hk];exact keep
  rename_i hk
  rw [if_pos hk]
  split at ok
  ·rename_i hs
   rw [if_pos hs]
   simp only [fg,Bool.and_eq_true,decide_eq_true_eq] at hs
   obtain⟨n,e1,hn,hrd⟩:=Fr hs.1.1
   have hj:wP w.b x=w.b.halfs[n]:=by rw [wP,e1,Int.toNat_natCast,g0 hn]
   rw [hj,e1,Int.toNat_natCast] at ok⊢
   obtain⟨q,hq⟩:∃ q,w.b.halfs[n]=q:=⟨_,rfl⟩
   have hqm:=List.getElem_mem hn
   rw [hq] at ok hrd hqm⊢
   have H:=C.hb q hqm
   have hold:∀ k∈w.b.halfs.set n { q with till:=w.b.now+6 },∃ h∈w.b.halfs,HalfKeep h k:=by
    intro k hk
    rcases List.mem_or_eq_of_mem_set hk with hk|hk
    ·exact⟨k,hk,HalfKeep.refl k⟩
    rw [hk];exact⟨q,hqm,rfl,rfl,rfl,rfl,rfl⟩
   have HB:∀ k,(∃ h∈w.b.halfs,HalfKeep h k)->HalfB w.nums w.b.draw w.a.subs w.b.subs k:=by
    rintro k ⟨h,h1,h2,h3,h4,h5,h6⟩
    have S:=C.hb h h1
    exact⟨by rw [<-h2,<-h4];exact S.m4,by rw [<-h4];exact S.sep,by rw [<-h3,<-h4,<-h5,<-h6];exact S.th⟩
   have P:PutB w (inB w { w.b with bucket:=(bI w.b.bucket).1,halfs:=w.b.halfs.set n { q with till:=w.b.now+6 } }):=by
    refine⟨rfl,rfl,rfl,rfl,rfl,⟨[],by simp [inB]⟩,ok.1,ok.2,C.sib,rfl,rfl,⟨C.db.1,Int.le_refl _⟩,fun t ht=>⟨t,ht,rfl,rfl,rfl⟩,C.sb,fun h hh=>HB h (hold h hh),?_,fun h hh=>?_,C.ob,C.fb,fun _ _ h=>h,C.oib,C.iib⟩
    ·refine G5 C.hbd fun i hi hin=>?_
     have p:=C.hbd
     rw [List.pairwise_iff_getElem] at p
     dsimp only
     rw [<-hq]
     rcases Nat.lt_or_gt_of_ne hin with hl|hl
     ·exact p i n hi hn hl
     exact fun hc=>p n i hn hi hl hc.symm
    obtain⟨k,g1,g2,g3,g4,g5,_⟩:=hold h hh
    exact .inr ⟨k,g1,g2,g3,g4,g5⟩
   refine P.step C fun C'=>en ?_
   have h1:∀ k∈w.b.halfs.set n { q with till:=w.b.now+6 },k.take=q.take->k.theirs=q.theirs/\k.take=q.take/\k.road=q.road:=by
    intro k hk ht
    obtain⟨h,g1,g2,g3,g4,g5,_⟩:=hold k hk
    have:h=q:=HR C.hbd g1 hqm (by rw [g4,ht])
    subst this
    exact⟨g3.symm,g4.symm,g5.symm⟩
   refine ans _ q C' H hrd (fun k hk hm=>?_) (fun k hk ht=>(h1 k hk ht).1) rfl rfl
   have m1:=(HB k (hold k hk)).m4
   have m2:=H.m4
   exact h1 k hk (by omega)
  rename_i hs
  rw [if_neg hs]
  simp only [rF,Bool.and_eq_true,decide_eq_true_eq,vP] at hk
  have hd:=hk.1.1.2
  have db:=C.db
  have hnew:HalfB w.nums (w.b.draw+4) w.a.subs w.b.subs (aK w.b x):=by
   refine⟨⟨by simp only [aK];omega,by simp only [aK];omega,by simp only [aK];omega,by simp only [aK]⟩,fun t ht=>?_,?_⟩
   ·have:=(C.sb t ht).t4
    simp only [aK]
    omega
   rcases hL with g|⟨s,g1,g2,g3,g4,g5⟩
   ·exact .inl g
   refine .inr ⟨fun hc=>?_,s,g1,g2,g3.symm,g4.symm,?_⟩
   ·have:=(C.nn _ hc).2 (by simp only [aK];omega)
    simp only [aK] at this
    omega
   simp only [aK];rw [g5];rfl
  have hput:(∀ h∈(bJ w.b.halfs (aK w.b x)).1,h=aK w.b x\/h∈w.b.halfs)/\(bJ w.b.halfs (aK w.b x)).1.Pairwise fun h k=>¬ h.take=k.take:=by
   have hne:∀ h∈w.b.halfs,¬ h.take=(aK w.b x).take:=fun h hh=>by
    have:=(C.hb h hh).m4
    simp only [aK]
    omega
   rw [bJ];split
   ·dsimp only
    rw [cx];split
    ·refine⟨fun h hh=>?_,G5 C.hbd fun i hi _=>hne _ (List.getElem_mem hi)⟩
     rcases List.mem_or_eq_of_mem_set hh with hh|hh
     ·exact .inr hh
     exact .inl hh
    refine⟨fun h hh=>?_,?_⟩
    ·rcases List.mem_append.1 hh with hh|hh
     ·exact .inr hh
     exact .inl (List.mem_singleton.1 hh)
    rw [List.pairwise_append]
    exact⟨C.hbd,List.pairwise_singleton ..,fun a ha b hb=>by rw [List.mem_singleton.1 hb];exact hne a ha⟩
   exact⟨fun h hh=>.inr hh,C.hbd⟩
  have P:PutB w (inB w { w.b with bucket:=(bI w.b.bucket).1,draw:=w.b.draw+4,halfs:=(bJ w.b.halfs (aK w.b x)).1 }):=by
   refine⟨rfl,rfl,rfl,rfl,rfl,⟨[],by simp [inB]⟩,ok.1,ok.2,C.sib,rfl,rfl,⟨by dsimp only [inB];omega,by dsimp only [inB];omega⟩,fun t ht=>⟨t,ht,rfl,rfl,rfl⟩,fun t ht=>?_,fun h hh=>?_,hput.2,fun h hh=>?_,C.ob,C.fb,fun _ _ h=>h,C.oib,C.iib⟩
   ·have S:=C.sb t ht
    exact⟨by have:=S.t4;dsimp only [inB];omega,S.tn,S.st,S.like⟩
   ·rcases hput.1 h hh with rfl|hh
    ·exact hnew
    have S:=C.hb h hh
    exact⟨by have:=S.m4;dsimp only [inB];omega,S.sep,S.th⟩
   rcases hput.1 h hh with rfl|hh
   ·exact .inl (Int.le_refl _)
   exact .inr ⟨h,hh,rfl,rfl,rfl,rfl⟩
  refine P.step C fun C'=>en ?_
  have h1:∀ k∈(bJ w.b.halfs (aK w.b x)).1,k.take=(aK w.b x).take\/k.mine=(aK w.b x).mine->k=aK w.b x:=by
   intro k hk ht
   rcases hput.1 k hk with g|g
   ·exact g
   have:=(C.hb k g).m4
   simp only [aK] at ht
   omega
  exact ans _ (aK w.b x) C' hnew rfl (fun k hk hm=>by rw [h1 k hk (.inr hm)];exact⟨rfl,rfl,rfl⟩) (fun k hk ht=>by rw [h1 k hk (.inl ht)]) rfl rfl
 by_cases k5:x.kind=5
 ·rw [y6 hc k5,Et]
  ·exact keep
  cases hj:tO w.b x with
  |false=>rfl
  |true=>
   simp only [tO,Bool.and_eq_true,decide_eq_true_eq] at hj
   obtain⟨⟨⟨_,q4⟩,q5⟩,_⟩:=hj
   obtain⟨n,e1,hn,_⟩:=ws q4
   rw [e1,Int.toNat_natCast,ke hn] at q5
   have:=(C.sb _ (List.getElem_mem hn)).st
   omega
 by_cases k6:x.kind=6
 ·rw [y7 hc k6] at ok⊢
  have hL:=L.b6 hx k6
  unfold ao at ok⊢
  split at ok
  case isFalse hk=>rw [if_neg hk];exact keep
  rename_i hk
  rw [if_pos hk]
  split at ok
  ·rename_i ha
   rw [if_pos ha]
   simp only [rE,Bool.and_eq_true,decide_eq_true_eq] at ha
   obtain⟨⟨a1,a2⟩,a3⟩:=ha
   obtain⟨i,e1,hi,hrd⟩:=Fr a1
   have hj:wP w.b x=w.b.halfs[i]:=by rw [wP,e1,Int.toNat_natCast,g0 hi]
   rw [hj] at a3 ok⊢
   obtain⟨q,hq⟩:∃ q,w.b.halfs[i]=q:=⟨_,rfl⟩
   have hqm:=List.getElem_mem hi
   rw [hq] at a3 ok hrd hqm⊢
   have H:=C.hb q hqm
   rw [C.pb] at a3
   obtain⟨s,s1,s2,s3,s4,s5,s6⟩:=hL _ _ a3
   have S:=C.sa s s1
   obtain⟨g1,g2,g3⟩:=S.th.2 q hqm s5
   have hau:¬ q.take∈w.nums/\∃ s∈w.a.subs,1000<=s.mine/\s.mine=q.theirs/\s.take=q.give/\s.road=bk q.road:=by
    rcases H.th with g|g
    ·rw [s4] at g;exact absurd g (G4 C s1 s3)
    exact g
   obtain⟨hn,r,r1,r2,r3,r4,r5⟩:=hau
   have hrs:r=s:=by
    refine Gv C.sad r1 s1 ?_
    have m1:=(C.sa r r1).mine
    have m2:=S.mine
    omega
   subst hrs
   have hdr:bz w.b.halfs (roadOf x)=w.b.halfs.take i++w.b.halfs.drop (i+1):=tR e1
   have hsub:(bz w.b.halfs (roadOf x)).Sublist w.b.halfs:=by rw [hdr];exact qr _ _
   have hoth:∀ k∈bz w.b.halfs (roadOf x),¬ k.take=q.take:=by
    intro k hk
    have p:=C.hbd
    rw [List.pairwise_iff_getElem] at p
    rw [hdr] at hk
    rw [<-hq]
    rcases List.mem_append.1 hk with hk|hk
    ·rw [List.mem_take_iff_getElem] at hk
     obtain⟨j,hj,rfl⟩:=hk
     exact p j i (by omega) hi (by omega)
    rw [List.mem_drop_iff_getElem] at hk
    obtain⟨j,hj,rfl⟩:=hk
    exact fun hc=>p i (i+1+j) hi (by omega) (by omega) hc.symm
   obtain⟨l0,hl0⟩:∃ l0,(if 0<=aU w.b.subs (roadOf x) then bP w.b.subs (aU w.b.subs (roadOf x)).toNat 4 else w.b.subs)=l0:=⟨_,rfl⟩
   rw [hl0] at ok⊢
   have K:SubsKeep w.b.subs l0:=by
    rw [<-hl0];split
    ·exact SubsKeep.st4 _ _
    exact SubsKeep.refl _
   have hmem:jI (roadOf x) q∈l0++[jI (roadOf x) q]:=by simp
   have P:PutB w (inB w { w.b with subs:=l0++[jI (roadOf x) q],halfs:=bz w.b.halfs (roadOf x) }):=by
    refine⟨rfl,rfl,rfl,rfl,rfl,⟨[],by simp [inB]⟩,ok.1,ok.2,C.sib,rfl,rfl,⟨C.db.1,Int.le_refl _⟩,fun t ht=>?_,fun t ht=>?_,fun h hh=>?_,C.hbd.sublist hsub,fun h hh=>.inr ⟨h,hsub.subset hh,rfl,rfl,rfl,rfl⟩,C.ob,C.fb,fun _ _ h=>h,C.oib,C.iib⟩
    ·obtain⟨u,u1,u2⟩:=K.new ht
     exact⟨u,List.mem_append_left _ u1,u2.road,u2.take,u2.give⟩
    ·rcases List.mem_append.1 ht with ht|ht
     ·obtain⟨u,u1,u2⟩:=K.old ht
      exact u2.subB (C.sb u u1)
     rw [List.mem_singleton.1 ht]
     have m4:=H.m4
     exact⟨by simp only [jI,inB];omega,hn,.inl rfl,r,r1,s2,by rw [r5,hrd];rfl,r4,g2.symm⟩
    have S':=C.hb h (hsub.subset hh)
    refine⟨S'.m4,fun t ht=>?_,S'.th⟩
    rcases List.mem_append.1 ht with ht|ht
    ·obtain⟨u,u1,u2⟩:=K.old ht
     rw [u2.take];exact S'.sep u u1
    rw [List.mem_singleton.1 ht]
    exact fun hc=>hoth h hh hc.symm
   refine P.step C fun C'=>en ⟨.inr ?_,fun h0=>?_⟩
   ·constructor<;>(intro p1 p2;simp only [pY,aq,ah] at p2;try omega)
    exact .inr ⟨_,hmem,rfl⟩
   have h0':sideAt (roadOf x).far=0:=h0
   have h3:=(Hm C' (t:=jI (roadOf x) q) hmem).1
   have h3':sideAt (roadOf x).far=1:=h3
   omega
  rename_i ha
  rw [if_neg ha]
  split at ok
  ·rename_i hb
   rw [if_pos hb]
   simp only [BN,Bool.and_eq_true,decide_eq_true_eq] at hb
   obtain⟨n,e1,hn,_,hr,_⟩:=ws hb.1.1
   have hj:Cg w.b x=w.b.subs[n]:=by rw [Cg,e1,Int.toNat_natCast,ke hn]
   rw [hj]
   refine (M0.put C).step C fun C'=>en ⟨.inr ?_,fun h0=>?_⟩
   ·constructor<;>(intro p1 p2;simp only [pY,aq,ah] at p2;try omega)
    exact .inr ⟨_,List.getElem_mem hn,rfl⟩
   have h0':sideAt (roadOf x).far=0:=h0
   have h3:=(Hm C (List.getElem_mem hn)).1
   rw [hr] at h3
   omega
  rename_i hb
  rw [if_neg hb];exact keep
 by_cases k7:x.kind=7
 ·rw [y8 hc k7,Dk]
  ·exact keep
  cases hj:mu w.b x with
  |false=>rfl
  |true=>
   simp only [mu,Bool.and_eq_true,decide_eq_true_eq] at hj
   obtain⟨⟨⟨_,q3⟩,q4⟩,_⟩:=hj
   obtain⟨n,e1,hn,_⟩:=ws q3
   rw [e1,Int.toNat_natCast,ke hn] at q4
   have:=(C.sb _ (List.getElem_mem hn)).st
   omega
 by_cases k8:x.kind=8
 ·rw [y9 hc k8] at ok⊢
  unfold bC at ok⊢
  split at ok
  case isFalse hk=>rw [if_neg hk];exact keep
  rename_i hk
  rw [if_pos hk]
  simp only [lH,Bool.and_eq_true,decide_eq_true_eq] at hk
  obtain⟨⟨⟨⟨q1,q2⟩,_⟩,_⟩,_⟩:=hk
  rw [C.pb] at q2
  obtain⟨t1,t2⟩:=L.b8 hx k8 _ _ q2
  obtain⟨n,e1,_,hn,_,_,hr,_⟩:=Hh q1
  refine PutB.step (MildB.put ⟨rfl,rfl,rfl,rfl,rfl,⟨[],by simp [inB]⟩,ok,⟨rfl,rfl,rfl,rfl⟩,SubsKeep.refl _,List.Sublist.refl _,C.ob,fun f hf=>?_,fun _ _ h=>h,C.oib,C.iib⟩ C) C fun C'=>en (u4 (by simp [E6,rO,aq]) ?_)
  ·rcases sN hf with rfl|hf
   ·exact⟨t1,t2⟩
   exact C.fb f hf
  show ¬ sideAt (roadOf x).far=0
  rw [<-hr]
  have:=(Hm C (List.getElem_mem hn)).1
  omega
 by_cases k9:x.kind=9
 ·rw [y_ hc k9] at ok⊢
  unfold bD at ok⊢
  dsimp only at ok⊢
  split at ok
  case isFalse hk=>rw [if_neg hk];exact keep
  rename_i hk
  rw [if_pos hk]
  simp only [hZ,Bool.and_eq_true,decide_eq_true_eq] at hk
  obtain⟨n,e1,hn,_⟩:=EW hk.1.2
  rw [e1,Int.toNat_natCast,hV hn] at ok⊢
  refine PutB.step (MildB.put ⟨rfl,rfl,rfl,rfl,rfl,⟨[],by simp [inB]⟩,ok,⟨rfl,rfl,rfl,rfl⟩,SubsKeep.refl _,List.Sublist.refl _,fun q hq=>?_,C.fb,fun i d h=>?_,C.oib,C.iib⟩ C) C fun _=>em
  ·rcases List.mem_or_eq_of_mem_set hq with hq|hq
   ·exact C.ob q hq
   rw [hq];exact (show sideAt w.b.own[n].addr=2 from C.ob _ (List.getElem_mem hn))
  rcases h with⟨q,h1,h2,h3⟩|h
  ·obtain⟨j,hj,rfl⟩:=List.getElem_of_mem h1
   by_cases hjn:n=j
   ·subst hjn
    exact .inl ⟨_,List.mem_set hn _,h2,h3⟩
   refine .inl ⟨w.b.own[j],?_,h2,h3⟩
   dsimp only [inB]
   rw [List.mem_iff_getElem]
   exact⟨j,by simpa using hj,by rw [List.getElem_set_ne hjn]⟩
  exact .inr h
 by_cases k10:x.kind=10
 ·rw [vB hc k10] at ok⊢
  unfold bE at ok⊢
  dsimp only at ok⊢
  split at ok
  case isFalse hk=>rw [if_neg hk];exact keep
  rename_i hk
  rw [if_pos hk]
  refine PutB.step (MildB.put ⟨rfl,rfl,rfl,rfl,rfl,⟨[],by simp [inB]⟩,ok,⟨rfl,rfl,rfl,rfl⟩,SubsKeep.map fun s hs=>?_,List.Sublist.refl _,C.ob,fun f hf=>C.fb f (qs hf),fun _ _ h=>h,C.oib,C.iib⟩ C) C fun _=>em
  rw [jP];split
  ·exact⟨rfl,rfl,rfl,rfl,rfl,.inr rfl⟩
  exact SubKeep.refl s
 by_cases k11:x.kind=11
 ·rw [vC hc k11] at ok⊢
  unfold bF at ok⊢
  split at ok
  case isFalse hk=>rw [if_neg hk];exact keep
  rename_i hk
  rw [if_pos hk]
  simp only [qb,Bool.and_eq_true,decide_eq_true_eq] at hk
  obtain⟨n,e1,_,hn,_,ht,hr,_⟩:=Hh hk.1
  have hsl:Slice w.wroteA x.pos x.text:=by
   rcases L.b11 hx k11 with g|g
   ·rw [<-ht] at g;exact absurd g (H2 C (List.getElem_mem hn))
   exact g
  refine PutB.step (MildB.put ⟨rfl,rfl,rfl,rfl,rfl,⟨[],by simp [inB]⟩,ok,⟨rfl,rfl,rfl,rfl⟩,SubsKeep.refl _,List.Sublist.refl _,C.ob,C.fb,fun _ _ h=>h,C.oib,Fx C.iib G hsl⟩ C) C fun C'=>en (u4 (by simp [E6,vA,aq]) ?_)
  show ¬ sideAt (roadOf x).far=0
  rw [<-hr]
  have:=(Hm C (List.getElem_mem hn)).1
  omega
 by_cases k12:x.kind=12
 ·rw [vD hc k12] at ok⊢
  unfold bA at ok⊢
  dsimp only at ok⊢
  split at ok
  case isFalse hk=>rw [if_neg hk];exact keep
  rename_i hk
  rw [if_pos hk]
  exact PutB.step (MildB.put ⟨rfl,rfl,rfl,rfl,rfl,⟨[],by simp [inB]⟩,ok,⟨rfl,rfl,rfl,rfl⟩,SubsKeep.refl _,List.Sublist.refl _,C.ob,C.fb,fun _ _ h=>h,HP C.oib,C.iib⟩ C) C fun _=>em
 by_cases k13:x.kind=13
 ·rw [vE hc k13] at ok⊢
  unfold bf at ok⊢
  dsimp only at ok⊢
  split at ok
  case isFalse hk=>rw [if_neg hk];exact keep
  rename_i hk
  rw [if_pos hk]
  exact PutB.step (MildB.put ⟨rfl,rfl,rfl,rfl,rfl,⟨[],by simp [inB]⟩,ok,⟨rfl,rfl,rfl,rfl⟩,SubsKeep.st4 _ _,List.Sublist.refl _,C.ob,C.fb,fun _ _ h=>h,C.oib,C.iib⟩ C) C fun _=>em
 rw [y2 fun k hk=>by omega];exact keep
theorem l2 {w:WorldD}:Sent w []:=fun x hx=>by simp at hx
theorem ua {w:WorldD} {x:LetterD} (h1:¬ sideAt x.to=0) (h2:LetI w x):Sent w [x]:=fun y hy=>by rw [List.mem_singleton.1 hy];exact⟨h1,h2⟩
theorem u5 {w:WorldD} {x:LetterD} (hk:E6 x.kind):LetI w x:=by
  simp only [E6] at hk
  constructor<;>(intro _ h;omega)
theorem Go1.step {w w':WorldD} {l:List LetterD} (h:Go1 w w' l):Step w w' l:=⟨h.c,h.le,h.s.post⟩
theorem E3 {l:List AddrD} {a b:AddrD} (h:aG l a.id < 0) (hb:b∈l):b∈(aJ l a).1:=by
  rw [aJ];split
  · dsimp only
    rw [bO,if_neg (by omega)]
    have:=List.take_append_drop (wG l a.id) l
    rw [<-this] at hb
    rcases List.mem_append.1 hb with hb|hb
    · exact List.mem_append_left _ (List.mem_append_left _ hb)
    · exact List.mem_append_right _ hb
  · exact hb
theorem w4 {l:List AddrD} {n:Int} {b:AddrD} (hb:b∈l) (hn:¬ b.id=n):b∈(be l n).1:=by
  rw [be];split
  · exact hb
  · rename_i h
    obtain⟨k,e,hk,hi⟩:=EW (show 0<=aG l n by omega)
    rw [e,Int.toNat_natCast]
    dsimp only
    obtain⟨j,hj,rfl⟩:=List.getElem_of_mem hb
    have hjk:¬ j=k:=fun hc=>by subst hc;exact hn hi
    rcases Nat.lt_or_gt_of_ne hjk with hl|hl
    · refine List.mem_append_left _ ?_
      rw [List.mem_take_iff_getElem]
      exact⟨j,by omega,rfl⟩
    · refine List.mem_append_right _ ?_
      rw [List.mem_drop_iff_getElem]
      exact⟨j - (k+1),by omega,by congr 1;omega⟩
theorem F_ {l:List SubD} {k:Nat} (h:k∈j0 l):aN l k∈l:=by
  obtain⟨h1,_⟩:=pN h
  rw [ke h1];exact List.getElem_mem h1
theorem FR {l:List Nat} (h:¬ l.length=0):l.headD 0∈l:=by
  cases l with
  |nil=>simp at h
  |cons a r=>simp
theorem v4 (s:SubD):SubKeep s (cW s):=by
  rw [cW];split
  · split
    · exact⟨rfl,rfl,rfl,rfl,rfl,.inr rfl⟩
    · exact⟨rfl,rfl,rfl,rfl,rfl,.inl rfl⟩
  · exact SubKeep.refl s
theorem GA {e:EndD} (h:OkE e) (hk:AT e=true):OkE { eR e with subs:=e.subs.map cW }:=by
  simp only [AT,Bool.and_eq_true,decide_eq_true_eq,List.all_eq_true] at hk
  refine⟨h.side,h.state,h.pol,h.own,h.far,h.halfs.young,FO h.bucket,GZ h.out,h.inp,h.done,h.over,by dsimp only;rw [List.length_map];exact h.subs8,⟨h.nums.1,h.nums.2.1,h.nums.2.2.1,by have:=h.nums.2.2.2.1;simp only [N9,eR] at this⊢;omega,h.nums.2.2.2.2⟩,h.subs.map fun s hs=>?_⟩
  have hel:=h.subs.el s hs
  have ht:=hk.2 s hs
  have hN:N9 (s.tries+1):=by have:=hel.2.2.2.2.2.2;simp only [N9] at this⊢;omega
  rw [cW];split
  · split
    · exact⟨⟨by simp,hel.2.1,hel.2.2.1,hel.2.2.2.1,hel.2.2.2.2.1,hel.2.2.2.2.2.1,hN⟩,rfl,fun _=>rfl⟩
    · exact⟨⟨hel.1,hel.2.1,hel.2.2.1,hel.2.2.2.1,hel.2.2.2.2.1,hel.2.2.2.2.2.1,hN⟩,rfl,fun h=>h⟩
  · exact⟨hel,rfl,fun h=>h⟩
theorem H7 {w w':WorldD} {l:List LetterD} (M:MildA w w') (C:Core w) (h:Core w'->Sent w' l):Go1 w w' l:=⟨(M.put C).core C,(M.put C).le,h ((M.put C).core C)⟩
theorem w6 {w:WorldD} (C:Core w):Go1 w w []:=H7 (MildA.refl C) C fun _=>l2
theorem Ga {w:WorldD} (C:Core w) {s:SubD} (hs:s∈w.a.subs):¬ sideAt s.road.far=0/\¬ sideAt s.road.far=1:=by
  have:=(C.sa s hs).far
  omega
theorem Ip {w:WorldD} (C:Core w):Go1 w (p3 w (cL w.a).1) (cL w.a).2:=by
  have ok:=F8 C.oka
  have st:=(v3 (e:=w.a)).trans C.sta
  unfold cL at ok st⊢
  split at ok
  · rename_i hk
    rw [if_pos hk] at st⊢
    refine H7 ⟨rfl,rfl,rfl,rfl,rfl,⟨[],by simp [p3]⟩,⟨ok,st⟩,⟨rfl,rfl,rfl,rfl⟩,SubsKeep.refl _,fun h hh=>⟨h,hh,HalfKeep.refl h⟩,C.oa,C.fa,fun _ _ h=>h,FQ C.oia,C.iia⟩ C fun C'=>?_
    simp only [kr,Bool.and_eq_true,decide_eq_true_eq,gC] at hk
    rcases nU w.a with h0|⟨m,hm,e⟩
    · omega
    · rw [e,Int.toNat_natCast,ke hm]
      obtain⟨f0,f1⟩:=Ga C (List.getElem_mem hm)
      refine ua f0 ?_
      have hs:=w3 C.oia hk.1.1
      constructor<;>(intro q1 q2;simp only [vK,aq,ah] at q1 q2;try omega)
      first|exact .inr hs|exact absurd q1 f1
  · rename_i hk
    rw [if_neg hk]
    exact w6 C
theorem GQ:∀ {k:Nat} {w:WorldD},Core w->Go1 w (p3 w (cu k w.a).1) (cu k w.a).2
  |0,w,C=>w6 C
  |k+1,w,C=>by
    have h1:=Ip C
    have h2:=GQ (k:=k) h1.c
    exact h1.trans h2
theorem Iq {w:WorldD} (C:Core w):Sent w (bX w.a):=by
  unfold bX;split
  · rename_i hk
    simp only [AS,Bool.and_eq_true,decide_eq_true_eq,Bool.not_eq_true',decide_eq_false_iff_not] at hk
    intro x hx
    obtain⟨q,hq,rfl⟩:=List.mem_map.1 hx
    have hq':=(List.mem_filter.1 hq).1
    have hs:=F_ (FR hk.2)
    obtain⟨f0,f1⟩:=Ga C hs
    refine⟨f0,?_⟩
    constructor<;>(intro q1 q2;simp only [sh,aq,ah] at q1 q2;try omega)
    all_goals
      intro i d hm
      first
        |exact absurd q1 f1
        | (simp only [sh,aq] at hm
           injection hm with _ _ _ hi hd
           exact⟨by rw [<-hd];exact C.oa q hq',.inl ⟨q,hq',hi,hd⟩⟩)
  · exact l2
theorem HS {w:WorldD} {l:List LetterD} (C:Core w) (hl:Sent w l):Go1 w (p3 w (bQ w.a l).1) (bQ w.a l).2:=by
  have h:=GQ (k:=3) C
  exact⟨h.c,h.le,zR (zR (hl.mono h.le) ((Iq C).mono h.le)) h.s⟩
theorem Ir {w:WorldD} (C:Core w):Go1 w (p3 w (cQ w.a).1) (cQ w.a).2:=by
  have hst:=C.sta
  unfold cQ
  by_cases hk:AT w.a=true
  · rw [if_pos hk,if_pos hst]
    have ok:OkE { eR w.a with subs:=w.a.subs.map cW }:=GA C.oka hk
    have M:MildA w (p3 w { eR w.a with subs:=w.a.subs.map cW }):=by
      refine⟨rfl,rfl,rfl,rfl,rfl,⟨[],by simp [p3]⟩,⟨ok,hst⟩,⟨rfl,rfl,rfl,rfl⟩,SubsKeep.map fun s _=>v4 s,fun h hh=>⟨h,(List.mem_filter.1 hh).1,HalfKeep.refl h⟩,C.oa,C.fa,fun _ _ h=>h,HQ C.oia,C.iia⟩
    have g:Go1 w (p3 w { eR w.a with subs:=w.a.subs.map cW }) (w.a.subs.flatMap (di w.a)):=by
      refine H7 M C fun C' x hx=>?_
      obtain⟨s,hs,hx⟩:=List.mem_flatMap.1 hx
      have S:=C.sa s hs
      have hf:=S.far
      rw [di] at hx
      split at hx
      case isFalse=>simp at hx
      rename_i h12
      have h1000:=S.ask h12
      split at hx
      · simp at hx
      rename_i hn9
      split at hx
      · simp at hx
      have hin:cW s∈(p3 w { eR w.a with subs:=w.a.subs.map cW }).a.subs:=List.mem_map_of_mem hs
      have K:=v4 s
      split at hx
      · rw [List.mem_singleton.1 hx]
        refine⟨by show ¬ sideAt s.road.far=0;omega,?_⟩
        constructor<;>(intro q1 q2;simp only [eM,aq,ah] at q1 q2;try omega)
        exact .inr ⟨_,hin,by rw [K.mine];exact h1000,K.mine.symm,K.take.symm,by rw [K.road];rfl⟩
      · rename_i h1
        rw [List.mem_singleton.1 hx]
        refine⟨by show ¬ sideAt s.road.far=0;omega,?_⟩
        constructor<;>(intro q1 q2;simp only [cb,aq,ah] at q1 q2;try omega)
        intro m n hm
        simp only [cb,aq,p3] at hm
        injection hm with _ _ _ hm hn'
        exact⟨_,hin,by rcases K.state with q|q<;>omega,by rw [K.mine];exact h1000,by rw [K.mine];exact hm.symm,by rw [K.theirs];exact hn'.symm,by rw [K.road];rfl⟩
    have t:=HS g.c g.s
    exact⟨t.c,g.le.trans t.le,t.s⟩
  · rw [if_neg hk];exact w6 C
theorem Is {w:WorldD} (C:Core w) (r:RoadD) (b:Bool):Go1 w (p3 w (dz w.a r b).1) (dz w.a r b).2:=by
  have ok:=G0 (r:=r) (b:=b) C.oka
  unfold dz at ok⊢
  split at ok
  · rename_i hk
    rw [if_pos hk]
    simp only [w_,Bool.and_eq_true,decide_eq_true_eq,vP,u0] at hk
    obtain⟨⟨⟨⟨⟨⟨⟨k1,k2⟩,k3⟩,k4⟩,k5⟩,k6⟩,k7⟩,k8⟩:=hk
    have da:=C.da
    simp only [fN,eh,List.any_eq_true,beq_iff_eq] at k5 k6
    obtain⟨q,q1,q2⟩:=k5
    obtain⟨f,f1,f2⟩:=k6
    have ho:=C.oa q q1
    have hf:=(C.fa f f1).1
    rw [q2] at ho
    rw [f2] at hf
    have hmem:eN w.a r b∈w.a.subs++[eN w.a r b]:=by simp
    have P:PutA w (p3 w { w.a with subs:=w.a.subs++[eN w.a r b],draw:=w.a.draw+4 }):=by
      refine⟨rfl,rfl,rfl,rfl,rfl,⟨[],by simp [p3]⟩,ok.1,ok.2.trans C.sta,C.sia,rfl,rfl,⟨by dsimp only [p3];omega,by dsimp only [p3];omega⟩,fun s hs=>⟨s,List.mem_append_left _ hs,SubTo.refl s⟩,fun s hs=>?_,?_,fun h hh=>?_,C.oa,C.fa,fun _ _ h=>h,C.oia,C.iia⟩
      · rcases List.mem_append.1 hs with hs|hs
        · have S:=C.sa s hs
          exact⟨by have:=S.t4;dsimp only [p3];omega,S.tn,S.mine,S.own,S.far,S.th,S.on,S.ask⟩
        · rw [List.mem_singleton.1 hs]
          refine⟨by simp only [eN,p3];omega,fun hc=>?_,.inr ⟨rfl,fun hc=>?_⟩,ho,hf,⟨by have:=C.db;simp only [eN];omega,fun h hh hm=>?_⟩,fun h3=>by simp [eN] at h3,fun _=>by simp only [eN];omega⟩
          · have:=(C.nn _ hc).1 (by simp only [eN];omega)
            simp only [eN] at this
            omega
          · have:=(C.nn _ hc).1 (by simp only [eN];omega)
            simp only [eN] at this
            omega
          · have:=(C.hb h hh).m4
            simp only [eN] at hm
            omega
      · dsimp only [p3]
        rw [List.pairwise_append]
        refine⟨C.sad,List.pairwise_singleton ..,fun s hs t ht=>?_⟩
        rw [List.mem_singleton.1 ht]
        have:=(C.sa s hs).t4
        simp only [eN]
        omega
      · have S:=C.ha h hh
        refine⟨by have:=S.m4;dsimp only [p3];omega,fun s hs=>?_,S.th⟩
        rcases List.mem_append.1 hs with hs|hs
        · exact S.sep s hs
        · rw [List.mem_singleton.1 hs]
          have:=S.m4
          simp only [eN]
          omega
    refine⟨P.core C,P.le,ua ?_ ?_⟩
    · show ¬ sideAt r.far=0
      omega
    · constructor<;>(intro q1 q2;simp only [eM,eN,aq,ah] at q1 q2;try omega)
      exact .inr ⟨_,hmem,by simp only [eN];omega,rfl,rfl,rfl⟩
  · rename_i hk
    rw [if_neg hk];exact w6 C
theorem HT {far:List AddrD}:∀ {l:List RoadD} {w:WorldD},Core w->Go1 w (p3 w (dS far w.a l).1) (dS far w.a l).2
  |[],w,C=>w6 C
  |r::l,w,C=>by
    have h1:=Is C r (aZ far r.far)
    have h2:=HT (far:=far) (l:=l) h1.c
    exact h1.trans h2
theorem IH {w:WorldD} {a:ActD} (C:Core w) (G:SmallP w.a.inp) (hs:a.side=1) (hb:dl w a=false):Go1 w (cq (gD w a) 1 (ie w.a a).1) (ie w.a a).2:=by
  have ok:=G1 (a:=a) C.oka G
  have hE:bB w a.side=w.a:=by rw [hs];rfl
  have heo:af w.a=true:=p5.2 C.oka
  have hset:∀ (u:WorldD) (e:EndD),cq u 1 e={ u with a:=e }:=fun u e=>rfl
  rw [hset]
  unfold ie at ok⊢
  unfold gD
  rw [hE]
  by_cases k1:a.kind=1
  · simp only [if_pos k1]
    rw [dT,if_pos hs]
    have ok1:=Ft (t:=a.text) C.oka
    have hw:cc w.a a.text=({ w.a with out:=(eL w.a.out a.text).1 },(eL w.a.out a.text).2):=AN heo
    rw [hw] at ok1
    rw [hw,aA,hw]
    dsimp only
    have M:MildA w { w with wroteA:=w.wroteA++a.text.take (eL w.a.out a.text).2,a:={ w.a with out:=(eL w.a.out a.text).1 } }:=
      ⟨rfl,rfl,rfl,rfl,rfl,⟨_,rfl⟩,⟨ok1.1,ok1.2.trans C.sta⟩,⟨rfl,rfl,rfl,rfl⟩,SubsKeep.refl _,fun h hh=>⟨h,hh,HalfKeep.refl h⟩,C.oa,C.fa,fun _ _ h=>h,Gy C.oia,C.iia⟩
    have g:=H7 M C fun _=>l2
    have g2:=GQ (k:=3) g.c
    exact g.trans g2
  simp only [if_neg k1] at ok⊢
  by_cases k2:a.kind=2
  · simp only [if_pos k2] at ok⊢
    rw [bR,if_pos hs]
    have hr:bi w.a a.many=({ w.a with inp:=(bK w.a.inp a.many).1 },(bK w.a.inp a.many).2):=AP heo
    rw [hr] at ok⊢
    exact H7 ⟨rfl,rfl,rfl,rfl,rfl,⟨[],by simp⟩,⟨ok.1,ok.2.trans C.sta⟩,⟨rfl,rfl,rfl,rfl⟩,SubsKeep.refl _,fun h hh=>⟨h,hh,HalfKeep.refl h⟩,C.oa,C.fa,fun _ _ h=>h,C.oia,HO C.iia⟩ C fun _=>l2
  simp only [if_neg k2] at ok⊢
  by_cases k3:a.kind=3
  · simp only [if_pos k3]
    exact Ir C
  simp only [if_neg k3] at ok⊢
  by_cases k4:a.kind=4
  · simp only [if_pos k4]
    unfold bb
    split
    · exact HT C
    · exact w6 C
  simp only [if_neg k4] at ok⊢
  by_cases k5:a.kind=5
  · simp only [if_pos k5] at ok⊢
    unfold az at ok⊢
    split at ok
    · rename_i hk
      rw [if_pos hk]
      simp only [AR,Bool.and_eq_true,decide_eq_true_eq] at hk
      simp only [dl,k5,decide_true,Bool.true_and,Bool.or_eq_false_iff,Bool.not_eq_false',decide_eq_true_eq,hs] at hb
      refine H7 ⟨rfl,rfl,rfl,rfl,rfl,⟨[],by simp⟩,⟨ok.1,ok.2.trans C.sta⟩,⟨rfl,rfl,rfl,rfl⟩,SubsKeep.refl _,fun h hh=>⟨h,hh,HalfKeep.refl h⟩,fun q hq=>?_,C.fa,fun i d h=>?_,C.oia,C.iia⟩ C fun _=>l2
      · rcases sN hq with rfl|hq
        · exact hb.1
        · exact C.oa q hq
      · rcases h with⟨q,h1,h2,h3⟩|h
        · exact .inl ⟨q,E3 hk.1.2 h1,h2,h3⟩
        · exact .inr h
    · rename_i hk
      rw [if_neg hk];exact w6 C
  simp only [if_neg k5] at ok⊢
  by_cases k6:a.kind=6
  · simp only [if_pos k6] at ok⊢
    unfold iA at ok⊢
    split at ok
    · rename_i hk
      rw [if_pos hk]
      have K:SubsKeep w.a.subs (ic w.a a.pos):=SubsKeep.map fun s _=>by
        rw [Dt];split
        · exact⟨rfl,rfl,rfl,rfl,rfl,.inr rfl⟩
        · exact SubKeep.refl s
      refine H7 ⟨rfl,rfl,rfl,rfl,rfl,⟨[],by simp⟩,⟨ok.1,ok.2.trans C.sta⟩,⟨rfl,rfl,rfl,rfl⟩,K,fun h hh=>⟨h,hh,HalfKeep.refl h⟩,fun q hq=>C.oa q (qs hq),C.fa,fun i d h=>?_,C.oia,C.iia⟩ C fun C' x hx=>?_
      · rcases h with⟨q,h1,h2,h3⟩|h
        · by_cases hn:q.id=a.pos
          · exact .inr (by dsimp only;rw [<-h2,hn];exact Gr)
          · exact .inl ⟨q,w4 h1 hn,h2,h3⟩
        · exact .inr (Gs h)
      · obtain⟨k,hk2,rfl⟩:=List.mem_map.1 hx
        exact⟨(Ga C' (F_ hk2)).1,u5 (by simp [E6,Bj,aq])⟩
    · rename_i hk
      rw [if_neg hk];exact w6 C
  simp only [if_neg k6] at ok⊢
  unfold ks at ok⊢
  split at ok
  · rename_i hk
    rw [if_pos hk]
    simp only [EE,Bool.and_eq_true,decide_eq_true_eq,vP] at hk
    refine H7 ⟨rfl,rfl,rfl,rfl,rfl,⟨[],by simp⟩,⟨ok.1,ok.2.trans C.sta⟩,⟨rfl,rfl,rfl,rfl⟩,SubsKeep.st4 _ _,fun h hh=>⟨h,hh,HalfKeep.refl h⟩,C.oa,C.fa,fun _ _ h=>h,C.oia,C.iia⟩ C fun _=>ua ?_ (u5 (by simp [E6,aq]))
    have hl:a.pos.toNat < w.a.subs.length:=by omega
    rw [ke hl]
    exact (Ga C (List.getElem_mem hl)).1
  · rename_i hk
    rw [if_neg hk];exact w6 C
theorem H8 {w w':WorldD} {l:List LetterD} (M:MildB w w') (C:Core w) (h:Core w'->Sent w' l):Go1 w w' l:=⟨(M.put C).core C,(M.put C).le,h ((M.put C).core C)⟩
theorem Fy {w:WorldD} (C:Core w):Go1 w w []:=H8 (MildB.refl C) C fun _=>l2
theorem Gb {w:WorldD} (C:Core w) {s:SubD} (hs:s∈w.b.subs):¬ sideAt s.road.far=0/\¬ sideAt s.road.far=2:=by
  have:=(Hm C hs).1
  omega
theorem It {w:WorldD} (C:Core w):Go1 w (inB w (cL w.b).1) (cL w.b).2:=by
  have ok:=F8 C.okb
  have st:=(v3 (e:=w.b)).trans C.stb
  unfold cL at ok st⊢
  split at ok
  · rename_i hk
    rw [if_pos hk] at st⊢
    refine H8 ⟨rfl,rfl,rfl,rfl,rfl,⟨[],by simp [inB]⟩,⟨ok,st⟩,⟨rfl,rfl,rfl,rfl⟩,SubsKeep.refl _,List.Sublist.refl _,C.ob,C.fb,fun _ _ h=>h,FQ C.oib,C.iib⟩ C fun C'=>?_
    simp only [kr,Bool.and_eq_true,decide_eq_true_eq,gC] at hk
    rcases nU w.b with h0|⟨m,hm,e⟩
    · omega
    · rw [e,Int.toNat_natCast,ke hm]
      obtain⟨f0,f1⟩:=Gb C (List.getElem_mem hm)
      refine ua f0 ?_
      have hs:=w3 C.oib hk.1.1
      constructor<;>(intro q1 q2;simp only [vK,aq,ah] at q1 q2;try omega)
      first|exact .inr hs|exact absurd q1 f1
  · rename_i hk
    rw [if_neg hk]
    exact Fy C
theorem GR:∀ {k:Nat} {w:WorldD},Core w->Go1 w (inB w (cu k w.b).1) (cu k w.b).2
  |0,w,C=>Fy C
  |k+1,w,C=>by
    have h1:=It C
    have h2:=GR (k:=k) h1.c
    exact h1.trans h2
theorem Iu {w:WorldD} (C:Core w):Sent w (bX w.b):=by
  unfold bX;split
  · rename_i hk
    simp only [AS,Bool.and_eq_true,decide_eq_true_eq,Bool.not_eq_true',decide_eq_false_iff_not] at hk
    intro x hx
    obtain⟨q,hq,rfl⟩:=List.mem_map.1 hx
    have hq':=(List.mem_filter.1 hq).1
    have hs:=F_ (FR hk.2)
    obtain⟨f0,f1⟩:=Gb C hs
    refine⟨f0,?_⟩
    constructor<;>(intro q1 q2;simp only [sh,aq,ah] at q1 q2;try omega)
    all_goals
      intro i d hm
      first
        |exact absurd q1 f1
        | (simp only [sh,aq] at hm
           injection hm with _ _ _ hi hd
           exact⟨by rw [<-hd];exact C.ob q hq',.inl ⟨q,hq',hi,hd⟩⟩)
  · exact l2
theorem HU {w:WorldD} {l:List LetterD} (C:Core w) (hl:Sent w l):Go1 w (inB w (bQ w.b l).1) (bQ w.b l).2:=by
  have h:=GR (k:=3) C
  exact⟨h.c,h.le,zR (zR (hl.mono h.le) ((Iu C).mono h.le)) h.s⟩
theorem Iv {w:WorldD} (C:Core w):Go1 w (inB w (cQ w.b).1) (cQ w.b).2:=by
  have hst:=C.stb
  unfold cQ
  by_cases hk:AT w.b=true
  · rw [if_pos hk,if_pos hst]
    have ok:OkE { eR w.b with subs:=w.b.subs.map cW }:=GA C.okb hk
    have M:MildB w (inB w { eR w.b with subs:=w.b.subs.map cW }):=by
      refine⟨rfl,rfl,rfl,rfl,rfl,⟨[],by simp [inB]⟩,⟨ok,hst⟩,⟨rfl,rfl,rfl,rfl⟩,SubsKeep.map fun s _=>v4 s,List.filter_sublist,C.ob,C.fb,fun _ _ h=>h,HQ C.oib,C.iib⟩
    have g:Go1 w (inB w { eR w.b with subs:=w.b.subs.map cW }) (w.b.subs.flatMap (di w.b)):=by
      refine H8 M C fun C' x hx=>?_
      obtain⟨s,hs,hx⟩:=List.mem_flatMap.1 hx
      have S:=(C.sb s hs).st
      rw [di,if_neg (by omega)] at hx
      simp at hx
    have t:=HU g.c g.s
    exact⟨t.c,g.le.trans t.le,t.s⟩
  · rw [if_neg hk];exact Fy C
theorem II {w:WorldD} {a:ActD} (C:Core w) (G:SmallP w.b.inp) (hs:a.side=2) (hb:dl w a=false):Go1 w (cq (gD w a) 2 (ie w.b a).1) (ie w.b a).2:=by
  have ok:=G1 (a:=a) C.okb G
  have hE:bB w a.side=w.b:=by rw [hs];rfl
  have heo:af w.b=true:=p5.2 C.okb
  have hset:∀ (u:WorldD) (e:EndD),cq u 2 e={ u with b:=e }:=fun u e=>rfl
  rw [hset]
  unfold ie at ok⊢
  unfold gD
  rw [hE]
  by_cases k1:a.kind=1
  · simp only [if_pos k1]
    rw [dT,if_neg (by omega)]
    have ok1:=Ft (t:=a.text) C.okb
    have hw:cc w.b a.text=({ w.b with out:=(eL w.b.out a.text).1 },(eL w.b.out a.text).2):=AN heo
    rw [hw] at ok1
    rw [hw,aA,hw]
    dsimp only
    have M:MildB w { w with wroteB:=w.wroteB++a.text.take (eL w.b.out a.text).2,b:={ w.b with out:=(eL w.b.out a.text).1 } }:=
      ⟨rfl,rfl,rfl,rfl,rfl,⟨_,rfl⟩,⟨ok1.1,ok1.2.trans C.stb⟩,⟨rfl,rfl,rfl,rfl⟩,SubsKeep.refl _,List.Sublist.refl _,C.ob,C.fb,fun _ _ h=>h,Gy C.oib,C.iib⟩
    have g:=H8 M C fun _=>l2
    have g2:=GR (k:=3) g.c
    exact g.trans g2
  simp only [if_neg k1] at ok⊢
  by_cases k2:a.kind=2
  · simp only [if_pos k2] at ok⊢
    rw [bR,if_neg (by omega)]
    have hr:bi w.b a.many=({ w.b with inp:=(bK w.b.inp a.many).1 },(bK w.b.inp a.many).2):=AP heo
    rw [hr] at ok⊢
    exact H8 ⟨rfl,rfl,rfl,rfl,rfl,⟨[],by simp⟩,⟨ok.1,ok.2.trans C.stb⟩,⟨rfl,rfl,rfl,rfl⟩,SubsKeep.refl _,List.Sublist.refl _,C.ob,C.fb,fun _ _ h=>h,C.oib,HO C.iib⟩ C fun _=>l2
  simp only [if_neg k2] at ok⊢
  by_cases k3:a.kind=3
  · simp only [if_pos k3]
    exact Iv C
  simp only [if_neg k3] at ok⊢
  by_cases k4:a.kind=4
  · simp only [if_pos k4]
    unfold bb
    rw [if_neg (fun hc=>by have:=C.sib;omega)]
    exact Fy C
  simp only [if_neg k4] at ok⊢
  by_cases k5:a.kind=5
  · simp only [if_pos k5] at ok⊢
    unfold az at ok⊢
    split at ok
    · rename_i hk
      rw [if_pos hk]
      simp only [AR,Bool.and_eq_true,decide_eq_true_eq] at hk
      simp only [dl,k5,decide_true,Bool.true_and,Bool.or_eq_false_iff,Bool.not_eq_false',decide_eq_true_eq,hs] at hb
      refine H8 ⟨rfl,rfl,rfl,rfl,rfl,⟨[],by simp⟩,⟨ok.1,ok.2.trans C.stb⟩,⟨rfl,rfl,rfl,rfl⟩,SubsKeep.refl _,List.Sublist.refl _,fun q hq=>?_,C.fb,fun i d h=>?_,C.oib,C.iib⟩ C fun _=>l2
      · rcases sN hq with rfl|hq
        · exact hb.1
        · exact C.ob q hq
      · rcases h with⟨q,h1,h2,h3⟩|h
        · exact .inl ⟨q,E3 hk.1.2 h1,h2,h3⟩
        · exact .inr h
    · rename_i hk
      rw [if_neg hk];exact Fy C
  simp only [if_neg k5] at ok⊢
  by_cases k6:a.kind=6
  · simp only [if_pos k6] at ok⊢
    unfold iA at ok⊢
    split at ok
    · rename_i hk
      rw [if_pos hk]
      have K:SubsKeep w.b.subs (ic w.b a.pos):=SubsKeep.map fun s _=>by
        rw [Dt];split
        · exact⟨rfl,rfl,rfl,rfl,rfl,.inr rfl⟩
        · exact SubKeep.refl s
      refine H8 ⟨rfl,rfl,rfl,rfl,rfl,⟨[],by simp⟩,⟨ok.1,ok.2.trans C.stb⟩,⟨rfl,rfl,rfl,rfl⟩,K,List.Sublist.refl _,fun q hq=>C.ob q (qs hq),C.fb,fun i d h=>?_,C.oib,C.iib⟩ C fun C' x hx=>?_
      · rcases h with⟨q,h1,h2,h3⟩|h
        · by_cases hn:q.id=a.pos
          · exact .inr (by dsimp only;rw [<-h2,hn];exact Gr)
          · exact .inl ⟨q,w4 h1 hn,h2,h3⟩
        · exact .inr (Gs h)
      · obtain⟨k,hk2,rfl⟩:=List.mem_map.1 hx
        exact⟨(Gb C' (F_ hk2)).1,u5 (by simp [E6,Bj,aq])⟩
    · rename_i hk
      rw [if_neg hk];exact Fy C
  simp only [if_neg k6] at ok⊢
  unfold ks at ok⊢
  split at ok
  · rename_i hk
    rw [if_pos hk]
    simp only [EE,Bool.and_eq_true,decide_eq_true_eq,vP] at hk
    refine H8 ⟨rfl,rfl,rfl,rfl,rfl,⟨[],by simp⟩,⟨ok.1,ok.2.trans C.stb⟩,⟨rfl,rfl,rfl,rfl⟩,SubsKeep.st4 _ _,List.Sublist.refl _,C.ob,C.fb,fun _ _ h=>h,C.oib,C.iib⟩ C fun _=>ua ?_ (u5 (by simp [E6,aq]))
    have hl:a.pos.toNat < w.b.subs.length:=by omega
    rw [ke hl]
    exact (Gb C (List.getElem_mem hl)).1
  · rename_i hk
    rw [if_neg hk];exact Fy C
theorem GS {w:WorldD} {x:LetterD} (C:Core w) (h:xa w x=true):(∀ k a b m n,x.tag=⟨k,a,b,m,n⟩->1000<=a->¬ k=0->k=1/\Loose w.nums n)/\Loose w.nums x.nonce/\Loose w.nums x.sgn/\Loose w.nums x.give:=by
 simp only [xa,Bool.and_eq_true,Bool.not_eq_true',decide_eq_false_iff_not,List.all_cons,List.all_nil,Bool.or_eq_true,decide_eq_true_eq,wp,and_true] at h
 obtain⟨⟨⟨h1,h2⟩,h3⟩,_,q2,q3,q4⟩:=h
 refine⟨fun k a b m n he ha hk=>?_,q2,q4,q3⟩
 simp only [f7,Bool.or_eq_true,decide_eq_true_eq,Bool.and_eq_true,wp,List.any_eq_true] at h3
 rw [he] at h3
 rcases h3 with (h3|h3)|⟨u,u1,u2⟩
 ·rw [lF] at h3
  injection h3 with e
  exact absurd e hk
 ·rw [C.keys] at h3
  simp only [List.mem_cons,List.not_mem_nil,or_false] at h3
  omega
 have:=C.tags u (List.mem_of_mem_take u1)
 rw [u2] at this
 exact this
theorem GB {w:WorldD} {x:LetterD} (C:Core w) (h:xa w x=true):LetI w x:=by
 obtain⟨no,q2,q4,_⟩:=GS C h
 have n1:∀ k a b m n,x.tag=⟨k,a,b,m,n⟩->1000<=a->¬ k=0->¬ k=1->False:=fun k a b m n he ha hk h1=>h1 (no k a b m n he ha hk).1
 exact⟨fun _ _=>q2,fun _ _ m hm=>.inl (no _ _ _ _ _ hm C.kb (by decide)).2,fun _ _ m n hm=>n1 _ _ _ _ _ hm C.kb (by decide) (by decide),fun _ _=>.inl q4,fun _ _ i d hm=>(n1 _ _ _ _ _ hm C.kb (by decide) (by decide)).elim,fun _ _=>.inl q4,fun _ _=>.inl q2,fun _ _ m n hm=>(n1 _ _ _ _ _ hm C.ka (by decide) (by decide)).elim,fun _ _ i d hm=>(n1 _ _ _ _ _ hm C.ka (by decide) (by decide)).elim,fun _ _=>.inl q4⟩
theorem Inv.step {w w':WorldD} {l:List LetterD} {side:Int} (h:Inv w) (S:Step w w' l) (hb:w'.bag=w.bag) (hp:w'.past=w.past):Inv (an side w' l):=
 FP ⟨S.c,fun x hx=>(h.bag x (hb▸hx)).mono S.le,fun x hx=>(h.past x (hp▸hx)).mono S.le⟩ S.post
theorem G6 {w:WorldD} {l:List LetterD} (h:Inv w) (hl:∀ x∈l,LetI w x):Inv { w with bag:=l }:=by
 have L:Le w { w with bag:=l }:=E8 rfl rfl (fun _ h=>h) rfl rfl
 exact⟨Gw h.c,fun x hx=>(hl x hx).mono L,fun x hx=>(h.past x hx).mono L⟩
theorem Hn {w:WorldD} {x:LetterD} (h:Inv w) (ga:SmallP w.a.inp) (gb:SmallP w.b.inp) (L:LetI w x):Inv (eF w x):=by
 rcases oU x.to with h0|h0|h0
 ·rw [eF,if_pos h0];exact h
 ·rw [eF,if_neg (by omega),qe,if_pos (.inl h0),h0]
  exact h.step (In h.c ga L h0) rfl rfl
 rw [eF,if_neg (by omega),qe,if_pos (.inr h0),h0]
 exact h.step (Io h.c gb L h0) rfl rfl
theorem Ho (w:WorldD) (a:ActD) (s:Int) (e:EndD):(cq (gD w a) s e).bag=w.bag/\(cq (gD w a) s e).past=w.past:=by
 unfold cq gD dT bR
 repeat' split
 all_goals exact⟨rfl,rfl⟩
theorem Fz {l:List LetterD} {n:Nat} (h:n < l.length):oX l n∈l:=by
 rw [oX,List.getD_eq_getElem?_getD,List.getElem?_eq_getElem h];exact List.getElem_mem h
theorem GT {l:List LetterD} {n:Int} {x:LetterD} (h:x∈fF l n):x∈l:=(qr l n.toNat).subset h
theorem Hq {w:WorldD} {a:ActD} (h:Inv w) (ga:SmallP w.a.inp) (gb:SmallP w.b.inp):Inv (iP w a).1:=by
 unfold iP;split
 ·rename_i hok
  have hs:=uQ hok
  have hp:=Hf hok
  split
  ·unfold eX;split
   ·exact h
   rename_i hb
   have hb:dl w a=false:=by simpa using hb
   obtain⟨k1,k2⟩:=Ho w a a.side (ie (bB w a.side) a).1
   rcases hs with hs|hs
   ·have g:=IH h.c ga hs hb
    have hE:bB w a.side=w.a:=by rw [hs];rfl
    rw [hE] at k1 k2⊢
    rw [hs] at k1 k2⊢
    exact h.step g.step k1 k2
   have g:=II h.c gb hs hb
   have hE:bB w a.side=w.b:=by rw [hs];rfl
   rw [hE] at k1 k2⊢
   rw [hs] at k1 k2⊢
   exact h.step g.step k1 k2
  have hout:Inv { w with bag:=fF w.bag a.pos }:=G6 h fun x hx=>h.bag x (GT hx)
  have app:∀ x,LetI w x->Inv { w with bag:=w.bag++[x] }:=fun x hx=>G6 h fun y hy=>by
   rcases List.mem_append.1 hy with hy|hy
   ·exact h.bag y hy
   rw [List.mem_singleton.1 hy];exact hx
  unfold ce
  split
  ·split
   ·exact h
   rename_i hl
   split
   ·refine Hn hout ga gb ?_
    exact (h.bag _ (Fz (show a.pos.toNat < w.bag.length by omega))).mono (E8 rfl rfl (fun _ h=>h) rfl rfl)
   exact hout
  split
  ·split
   ·exact h
   rename_i hl
   rw [not_or] at hl
   exact app _ (h.bag _ (Fz (by omega)))
  split
  ·split
   ·exact h
   rename_i hm
   split
   ·exact h
   exact app _ (GB h.c (by simpa using hm))
  split
  ·exact h
  rename_i hl
  rw [not_or] at hl
  exact app _ (h.past _ (Fz (by omega)))
 exact h
theorem Core.pairedA {w:WorldD} (C:Core w):p7 w.a w.b=true:=by
 simp only [p7,List.all_eq_true,Bool.or_eq_true,bne_iff_ne,np,List.any_eq_true]
 intro s hs
 by_cases h3:s.state=3
 ·obtain⟨t,t1,t2,t3,t4⟩:=(C.sa s hs).on h3
  refine .inr ⟨t,t1,?_⟩
  simp [p6,t2,bk,t3,t4]
 exact .inl h3
theorem Core.pairedB {w:WorldD} (C:Core w):p7 w.b w.a=true:=by
 simp only [p7,List.all_eq_true,Bool.or_eq_true,bne_iff_ne,np,List.any_eq_true]
 intro s hs
 obtain⟨t,t1,_,t2,t3,t4⟩:=(C.sb s hs).like
 refine .inr ⟨t,t1,?_⟩
 simp [p6,t2,bk,t3,t4]
theorem InI.begins {W R:List UInt8} {p:PiecesD} (h:InI W R p):Es W (R++p.ready)=true:=by
 obtain⟨T,hT⟩:=h.pre
 simp only [Go.Proofs.YtjghbknhneffjaaGreat.Es,Bool.and_eq_true,decide_eq_true_eq,beq_iff_eq]
 rw [hT]
 exact⟨by simp only [List.length_append];omega,List.take_left ..⟩
theorem Core.streams {w:WorldD} (C:Core w):la w=true:=by
 rw [la,C.iib.begins,C.iia.begins];rfl
theorem Core.roadsA {w:WorldD} (C:Core w):lb w.a=true:=by
 rw [lb,List.all_eq_true]
 intro s hs
 have S:=C.sa s hs
 rw [c6,S.own,S.far,C.sia];decide
theorem Core.roadsB {w:WorldD} (C:Core w):lb w.b=true:=by
 rw [lb,List.all_eq_true]
 intro s hs
 obtain⟨h1,h2⟩:=Hm C hs
 rw [c6,h1,h2,C.sib];decide
theorem G7 {b:EndD} {f:AddrD} (h:Told b f.id f.addr):tS b f=true:=by
 simp only [tS,fN,Bool.or_eq_true,List.any_eq_true,beq_iff_eq,wp]
 exact h.imp (fun⟨q,q1,_,q3⟩=>⟨q,q1,q3⟩) id
theorem Core.far_ {w:WorldD} (C:Core w):v6 w=true:=by
 simp only [v6,GF,Bool.and_eq_true,List.all_eq_true]
 exact⟨fun f hf=>G7 (C.fa f hf).2,fun f hf=>G7 (C.fb f hf).2⟩
theorem Start.inv {w:WorldD} (S:Start w):Inv w:=by
 have h:=S.e
 simp only [startE,Bool.and_eq_true,decide_eq_true_eq] at h
 obtain⟨⟨⟨⟨⟨⟨oa,ob⟩,a1,a2,a3,a4,a5,a6,a7,a8,a9,a10,a11,a12⟩,b1,b2,b3,b4,b5,b6,b7,b8⟩,c1,c2⟩,d1,d2,d3,d4,d5,d6⟩,e1,e2⟩:=h
 refine⟨⟨p5.1 oa,p5.1 ob,a1,a2,a3,a4,by omega,by omega,by omega,by omega,by omega,S.keys,by rw [S.tags];simp,by omega,by omega,by rw [S.nums];simp,?_,by rw [e1];simp,?_,by rw [b1];simp,by rw [b2];simp,by rw [b2];simp,by rw [b3];decide,by rw [b4];decide,?_,?_,by rw [S.wa,c1];exact⟨by decide,rfl⟩,by rw [S.wb,c2];exact⟨by decide,rfl⟩,by rw [S.wb,S.ra];exact⟨d1,⟨[],by rw [d2];rfl⟩,by rw [d3];simp⟩,by rw [S.wa,S.rb];exact⟨d4,⟨[],by rw [d5];rfl⟩,by rw [d6];simp⟩⟩,by rw [S.bag];simp,by rw [S.past];simp⟩
 ·rw [S.nums,b2,e1,e2,a9,a10]
  intro s hs
  rw [List.mem_singleton.1 hs]
  exact⟨by decide,by simp,.inl rfl,by decide,by decide,⟨by decide,by simp⟩,fun _=>⟨_,List.mem_singleton.2 rfl,rfl,rfl,rfl⟩,by decide⟩
 ·rw [S.nums,e1,e2,a10]
  intro s hs
  rw [List.mem_singleton.1 hs]
  exact⟨by decide,by simp,.inl rfl,⟨_,List.mem_singleton.2 rfl,by decide,rfl,rfl,rfl⟩⟩
 ·rw [b5]
  intro f hf
  rw [dO,List.mem_singleton] at hf
  rw [hf]
  exact⟨by decide,.inl ⟨⟨0,21,false,true⟩,by rw [b4];simp [eK],rfl,rfl⟩⟩
 rw [b6]
 intro f hf
 rw [dO,List.mem_singleton] at hf
 rw [hf]
 exact⟨by decide,.inl ⟨⟨0,11,false,true⟩,by rw [b3];simp [eK],rfl,rfl⟩⟩
structure Same4 (e e':EndD):Prop where
 subs:e'.subs=e.subs
 far:e'.far=e.far
 inp:e'.inp=e.inp
 out:e'.out=e.out
theorem Same4.refl (e:EndD):Same4 e e:=⟨rfl,rfl,rfl,rfl⟩
theorem Core.safe {w:WorldD} (C:Core w):c5 w=true:=by
 rw [c5,p5.2 C.oka,p5.2 C.okb,C.pairedA,C.pairedB,C.streams,C.roadsA,C.roadsB,C.far_];rfl
structure Life (w:WorldD) (k:Nat):Prop where
 g:GoodW w k
 i:Inv w
 n:AnsW w
theorem Life.step {w:WorldD} {a:ActD} {k:Nat} (h:Life w k) (ha:a.text.length<=1048576):Life (iP w a).1 (k+1):=⟨B5 h.g ha,Hq h.i h.g.a.p h.g.b.p,B_ h.n⟩
theorem HV {l:List ActD} {w:WorldD} {cs:List Int} {k:Nat} (h:Life w k) (hl:∀ a∈l,a.text.length<=1048576):Life (gw l w cs).1 (k+l.length)/\(gw l w cs).2.length=cs.length+l.length:=
 sH (Q:=Life) (P:=fun a=>a.text.length<=1048576) (fun w k a h ha=>h.step ha) h hl
theorem World0.life {w:WorldD} (h:World0 w):Life w 0:=⟨h.g,h.s.inv,h.s.ans⟩
theorem GC {p:PolicyD} {l:List ActD} (hp:polOk p=true) (hl:l.length<=120) (ha:∀ a∈l,a.text.length<=1048576):Life (g7 p l).1 l.length/\(g7 p l).2.length=l.length:=by
 rw [g7,if_pos ⟨hp,hl⟩]
 have:=HV (l:=l) (cs:=[]) (r9 hp).life ha
 simpa using this
theorem FSq:∀ {l:List ActD} {w:WorldD} {k i:Nat},Life w k->(∀ a∈l,a.text.length<=1048576)->ET w i l= -1
 |[],w,k,i,h,_=>by rw [ET,if_pos h.i.c.safe]
 |a::l,w,k,i,h,ha=>by
  rw [ET,if_pos h.i.c.safe]
  exact FSq (h.step (ha a (List.mem_cons_self ..))) fun x hx=>ha x (List.mem_cons_of_mem _ hx)
theorem EX {p:PolicyD} {l:List ActD} (ha:∀ a∈l,a.text.length<=1048576):hY p l= -1:=by
 rw [hY];split
 ·rename_i h;exact FSq (r9 h.1).life ha
 rfl
theorem H3 (b:List UInt8) (hb:b.length<=maxLen) (_:∀ x∈b,True):aP 5 [.sc (.sl 0 0 b.length)] [some ⟨b.map ew,1,5,false,true⟩] (.sc (.bo true)) [some ⟨b.map ew,1,5,false,true⟩]:=by
 refine qE Tryz.func5 Tryz.ntmps5 Tryz.results5 fun E hE=>?_
 refine qK (DF b hb) (qI 0 1) ?_
 refine qB (fun h=>?_) fun h=>?_
 ·exact qF (qI 0 1)
 obtain⟨p,l,hp,hl,ha,hD⟩:=FH b (by omega)
 have hpo:polOk p=true:=List.all_eq_true.1 (show (Er.all polOk)=true by decide) p hp
 have ht:∀ a∈l,a.text.length<=1048576:=fun a h=>by have:=(ha a h).2.1;omega
 have c1:=GI p l (by omega) ht
 have c2:=GJ p l (by omega) ht
 have c3:=EU p l (by omega) ht
 rw [EX ht] at c3
 obtain⟨hL,hn⟩:=GC hpo hl ht
 have hsw:=hL.i.c.safe
 have hgw:=hL.n.gatedW
 have hg:=hL.g
 clear hL
 obtain⟨R,hR⟩:∃ R,R=g7 p l:=⟨_,rfl⟩
 rw [<-hR] at c1 c2 hsw hgw hg hn
 clear hR
 obtain⟨w,cs⟩:=R
 dsimp only at c1 c2 hsw hgw hg hn
 have hs:=hg.s
 have r1:=hg.ra
 have r2:=hg.rb
 have r3:=hg.a.p.ready
 have r4:=hg.b.p.ready
 have s1:=t5 w hs.a.own hs.a.far hs.a.subs hs.a.halfs hs.a.list hs.a.done hs.a.over hs.b.own hs.b.far hs.b.subs hs.b.halfs hs.b.list hs.b.done hs.b.over (by omega) (by omega)
 have s2:=Fo w hs.a.own hs.a.far hs.a.subs hs.a.halfs hs.a.list hs.a.done hs.a.over hs.b.own hs.b.far hs.b.subs hs.b.halfs hs.b.list hs.b.done hs.b.over (by omega) (by omega)
 have s3:=FC w hs
 have s4:=ft cs (by omega)
 have s5:=E5 w hs.ansA hs.ansB hs.a.halfs hs.a.subs hs.b.halfs hs.b.subs
 rw [hsw] at s1 s2
 rw [hgw] at s5
 clear hsw hgw hg r1 r2 r3 r4 hs ha ht
 refine qK (hD) (qI 0 1) ?_
 refine qK (c1) (qI 1 1) ?_
 refine qK (c2) (qI 1 1) ?_
 refine qK (s1) (qI 3 21) ?_
 refine qK (s2) (qI 3 21) ?_
 refine qK (c3) (qI 1 1) ?_
 refine qK (s3) (qI 3 21++qI 26 21) ?_
 refine qK (s4) (qI 24 1++qI 47 1) ?_
 refine qK (s5) (qI 3 21) ?_
 exact qF (qI 0 1)
end
end Go.Proofs.YtjghbknhneffjaaGreat
