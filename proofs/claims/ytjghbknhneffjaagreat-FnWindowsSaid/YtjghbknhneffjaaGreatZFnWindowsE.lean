/-
  Texts merged for this claim by shake.py: what its proof needs.
-/
import Derived.Test.YtjghbknhneffjaaGreatZFnB2K
import Derived.Test.YtjghbknhneffjaaGreatZFnB2L
import Derived.Test.YtjghbknhneffjaaGreatZFnWindowsB
import Derived.Test.YtjghbknhneffjaaGreatZFnWindowsC
import Derived.Test.YtjghbknhneffjaaGreatZFnWindowsD
set_option maxHeartbeats 16000000
set_option maxRecDepth 100000
set_option linter.unusedVariables false
set_option linter.unusedSimpArgs false
namespace Go.Proofs.YtjghbknhneffjaaGreat
section
open Go.RowKit
section
variable {P:Program} {β:Be} {s:S} {a:Act} {w:World} {o:Oper} {r:OpR} {ty:TypeId}
end
end
section
open Go.RowKit
end
section
open Go.RowKit
section
variable {P:Program} {β:Be} {s:S} {w:World} {tm:Array Value}
end
end
section
end
section
end
section
end
section
open Go.RowKit
end
section
open Go.RowKit
section
variable {P:Program} {β:Be}
end
end
section
open Go.RowKit
theorem FH (b:List UInt8) (hb:b.length<=1048576):∃ (p:PolicyD) (l:List ActD),p∈Er/\l.length<=120/\(∀ a∈l,EQ a)/\aP 29 [.sc (.sl 0 0 b.length)] [some ⟨b.map ew,1,5,false,true⟩] (.tu [.ag p.cs,.sc (.sl 1 0 l.length)]) ([some ⟨b.map ew,1,5,false,true⟩]++[some ⟨l.map ActD.cs,28,113,true,true⟩]):=by
 obtain⟨p,c1,o1,hp,h1⟩:=yA b (pL b) (Cf hb)
 obtain⟨l,c2,o2,hl,ha,h2⟩:=F7 b c1 o1 70 (by omega)
 refine⟨p,l,hp,hl,ha,?_⟩
 refine qE Tryz.func29 Tryz.ntmps29 Tryz.results29 fun E hE=>?_
 refine qK (Bc b hb) (qI 0 1) ?_
 refine qK (h1) (qI 0 1++qI 2 1) ?_
 refine oF [(0,2)] [[1,0,2,3,4],[1,2,0,3,4]] (by kernel_rfl) (qC) (by kernel_rfl) ?_
 simp only [bm]
 refine⟨cj 400 ?_,cj 400 ?_⟩
 all_goals simp (disch:=omega) only [go_sem,seval]
 all_goals
  refine fK (qC) (h2) (qI 0 1++qI 2 1) qM (by rfl) (cj 400 ?_)
  simp (disch:=omega) only [go_sem,seval]
  refine qG ?_
  exact qF (qI 0 1++qI 4 1)
def H6:List PolicyD:=[⟨1,0⟩,⟨3,0⟩,⟨2,1⟩,⟨2,2⟩,⟨2,3⟩,⟨2,4⟩,⟨2,5⟩,⟨2,6⟩,⟨2,7⟩,⟨2,8⟩]
theorem zv {p:PolicyD} (h:polOk p=true):p∈H6:=by
 obtain⟨k,m⟩:=p
 rw [polOk] at h
 dsimp only at h
 split at h
 ·rename_i hk
  subst hk
  simp only [bj,Bool.and_eq_true,decide_eq_true_eq] at h
  have:m=1\/m=2\/m=3\/m=4\/m=5\/m=6\/m=7\/m=8:=by omega
  rcases this with rfl|rfl|rfl|rfl|rfl|rfl|rfl|rfl<;>decide
 simp only [Bool.and_eq_true,Bool.or_eq_true,beq_iff_eq] at h
 obtain⟨h1,rfl⟩:=h
 rcases h1 with rfl|rfl<;>decide
theorem HF:(H6.all fun p=>startE (pX (EO 1 p) (EO 2 p)).1 (pX (EO 1 p) (EO 2 p)).2.1 && t7 (EO 1 p) && t7 (EO 2 p) && zJ (pX (EO 1 p) (EO 2 p)).1 && zJ (pX (EO 1 p) (EO 2 p)).2.1)=true:=by decide+kernel
theorem p4 {s:Int} {p:PolicyD} (hs:s=1\/s=2) (hp:polOk p=true):i3 s (10*s+1) p=(EO s p,true):=by
 rcases hs with rfl|rfl
 ·exact yV (by rw [hp];decide)
 exact yV (by rw [hp];decide)
theorem us {s n:Int} {p:PolicyD} (hp:polOk p=false):i3 s n p=(dw,false):=yU (by rw [hp];simp)
theorem g8 {p:PolicyD} (hp:polOk p=true):fx p=(EM (pX (EO 1 p) (EO 2 p)).1 (pX (EO 1 p) (EO 2 p)).2.1,true):=by
 have h1:=p4 (s:=1) (.inl rfl) hp
 have h2:=p4 (s:=2) (.inr rfl) hp
 rw [show (10*1+1:Int)=11 from rfl] at h1
 rw [show (10*2+1:Int)=21 from rfl] at h2
 rw [fx,h1,h2]
 rfl
theorem qn {p:PolicyD} (hp:polOk p=false):fx p=(hJ,false):=by
 rw [fx,us hp,us hp]
 rfl
structure World0 (w:WorldD):Prop where
 g:GoodW w 0
 s:Start w
theorem r9 {p:PolicyD} (hp:polOk p=true):World0 (fx p).1:=by
 have hm:=List.all_eq_true.1 HF p (zv hp)
 simp only [Bool.and_eq_true] at hm
 obtain⟨⟨⟨⟨m0,m1⟩,m2⟩,m3⟩,m4⟩:=hm
 obtain⟨g1,f1⟩:=Bm m3
 obtain⟨g2,f2⟩:=Bm m4
 rw [g8 hp]
 exact⟨⟨g1,g2,⟨by simp [EM],by simp [EM],by simp [EM],by simp [EM],by simp [EM],by simp [EM],by simp [EM]⟩,by simp [EM],by simp [EM],by simp [EM],by simp [EM]⟩,⟨m0,rfl,rfl,rfl,rfl,rfl,rfl,rfl,rfl,rfl,rfl,rfl⟩⟩
def g7 (p:PolicyD) (l:List ActD):WorldD×List Int:=if polOk p=true/\l.length<=120 then gw l (fx p).1 [] else (hJ,[])
theorem vl (p:PolicyD):aP 85 [.ag p.cs] [] (.tu [.ag ((fx p).1.cs 0),.sc (.bo (fx p).2)]) ((fx p).1.hp true):=by
 have h1:=E1 1 11 p
 have h2:=E1 2 21 p
 cases hp:polOk p with
 |false=>
  rw [qn hp]
  rw [us hp] at h1 h2
  dsimp only at h1 h2⊢
  refine qE Tryz.func85 Tryz.ntmps85 Tryz.results85 fun E hE=>?_
  refine qK (h1) [] ?_
  refine qK (h2) [] ?_
  refine qJ (qO 21) ?_
  simp [hJ,dw]
 |true=>
  have i1:=p4 (s:=1) (.inl rfl) hp
  have i2:=p4 (s:=2) (.inr rfl) hp
  rw [show (10*1+1:Int)=11 from rfl] at i1
  rw [show (10*2+1:Int)=21 from rfl] at i2
  rw [i1] at h1
  rw [i2] at h2
  have hm:=List.all_eq_true.1 HF p (zv hp)
  simp only [Bool.and_eq_true] at hm
  obtain⟨⟨⟨⟨_,m1⟩,m2⟩,_⟩,_⟩:=hm
  have hM:=Hb (EO 1 p) (EO 2 p) (t8 m1) (t8 m2)
  rw [g8 hp]
  clear i1 i2 m1 m2
  generalize EO 1 p=a at*
  generalize EO 2 p=c at*
  obtain⟨M,hMM⟩:∃ M,M=pX a c:=⟨_,rfl⟩
  rw [<-hMM] at hM⊢
  clear hMM
  obtain⟨X,Y,ok⟩:=M
  dsimp only at hM⊢
  refine qE Tryz.func85 Tryz.ntmps85 Tryz.results85 fun E hE=>?_
  refine qK (h1) [] ?_
  refine qK (h2) [] ?_
  refine qK (hM) (qI 2 7++qI 10 7) ?_
  refine qP (qI 20 14++qO 2++qI 18 1++qO 4) ?_
  first|exact⟨⟩|simp [EM,aM]
theorem FI (p:PolicyD):aP 87 [.ag p.cs] [] (.tu [.ag ((fx p).1.cs 0),.sc (.bo (fx p).2)]) ((fx p).1.hp true):=by
 have h1:=Bh 1 11 p
 have h2:=Bh 2 21 p
 cases hp:polOk p with
 |false=>
  rw [qn hp]
  rw [us hp] at h1 h2
  dsimp only at h1 h2⊢
  refine qE Tryz.func87 Tryz.ntmps87 Tryz.results87 fun E hE=>?_
  refine qK (h1) [] ?_
  refine qK (h2) [] ?_
  refine qJ (qO 21) ?_
  simp [hJ,dw]
 |true=>
  have i1:=p4 (s:=1) (.inl rfl) hp
  have i2:=p4 (s:=2) (.inr rfl) hp
  rw [show (10*1+1:Int)=11 from rfl] at i1
  rw [show (10*2+1:Int)=21 from rfl] at i2
  rw [i1] at h1
  rw [i2] at h2
  have hm:=List.all_eq_true.1 HF p (zv hp)
  simp only [Bool.and_eq_true] at hm
  obtain⟨⟨⟨⟨_,m1⟩,m2⟩,_⟩,_⟩:=hm
  have hM:=Ci (EO 1 p) (EO 2 p) (t8 m1) (t8 m2)
  rw [g8 hp]
  clear i1 i2 m1 m2
  generalize EO 1 p=a at*
  generalize EO 2 p=c at*
  obtain⟨M,hMM⟩:∃ M,M=pX a c:=⟨_,rfl⟩
  rw [<-hMM] at hM⊢
  clear hMM
  obtain⟨X,Y,ok⟩:=M
  dsimp only at hM⊢
  refine qE Tryz.func87 Tryz.ntmps87 Tryz.results87 fun E hE=>?_
  refine qK (h1) [] ?_
  refine qK (h2) [] ?_
  refine qK (hM) (qI 2 7++qI 10 7) ?_
  refine qP (qI 20 14++qO 2++qI 18 1++qO 4) ?_
  first|exact⟨⟩|simp [EM,aM]
theorem GI (p:PolicyD) (l:List ActD) (hl:l.length<=1048576) (ha:∀ a∈l,a.text.length<=1048576):aP 30 [.ag p.cs,.sc (.sl 0 0 l.length)] [some ⟨l.map ActD.cs,28,113,false,true⟩]
  (.tu [.ag ((g7 p l).1.cs 1),.sc (.sl 22 0 (g7 p l).2.length)]) ([some ⟨l.map ActD.cs,28,113,false,true⟩]++((g7 p l).1.hp true++[some ⟨(g7 p l).2.map aM,1,3,true,true⟩])):=by
 have hW:=vl p
 by_cases hp:polOk p=true
 ·have h0:=(r9 hp).g
  rw [g8 hp] at hW h0
  dsimp only at hW h0
  by_cases h120:l.length<=120
  ·obtain⟨R,hR⟩:∃ R,R=g7 p l:=⟨_,rfl⟩
   rw [<-hR]
   rw [g7,if_pos ⟨hp,h120⟩,g8 hp] at hR
   dsimp only at hR
   generalize EM (pX (EO 1 p) (EO 2 p)).1 (pX (EO 1 p) (EO 2 p)).2.1=w0 at hW h0 hR
   refine gU Tryz.func30 Tryz.ntmps30 Tryz.results30 fun E hE=>?_
   refine qK (hW) [] ?_
   refine tD 1 hE (fun s (y:Nat×WorldD×List Int)=>s.at (qU [0,3,7,1,10,16,29,15]) [(28,.sc (.int .i64 (y.1:Nat))),(8,.sc (.sl 25 0 y.2.2.length))] ((s.hp.take 3)++(y.2.1.hp true++[some ⟨[WorldD.cs y.2.1 3],61,44,true,false⟩,some ⟨y.2.2.map aM,1,3,true,true⟩]))) (fun (y:Nat×WorldD×List Int)=>y.1<=l.length/\GoodW y.2.1 y.1/\y.2.2.length=y.1/\gw (l.drop y.1) y.2.1 y.2.2=R) (fun (y:Nat×WorldD×List Int)=>l.length - y.1) (0,w0,[]) (qI 0 25++qO 1) (⟨Nat.zero_le _,h0,rfl,hR.symm⟩) fun y hy N hN=>?_
   obtain⟨k,w,cs⟩:=y
   obtain⟨f1,f2,f3,f4⟩:=hy
   dsimp only at f1 f2 f3 f4
   refine qR ?_
   refine qB (fun h=>?_) fun h=>?_
   ·rw [Bn h] at f4
    have hak:=ha l[k] (List.getElem_mem h)
    have hD:=FM w l[k] (f2.d (by omega))
    have hG:=B5 f2 (a:=l[k]) hak
    generalize hx:l[k]=x at*
    obtain⟨Q,hQ⟩:∃ Q,Q=iP w x:=⟨_,rfl⟩
    rw [<-hQ] at hD hG f4
    try simp (disch:=omega) only [go_sem,seval,hx]
    refine qK (hD) (qI 3 21) ?_
    refine BE hN (k+1,Q.1,cs++[Q.2]) (qI 0 3++qI 27 21++qI 24 1++qI 50 1) (by (try dsimp only);exact⟨by omega,hG,by simp [f3],f4⟩) ?_
    first|exact⟨⟩|simp [aM]
   rw [B9 (by omega)] at f4
   subst f4
   refine qX ?_
   exact dk (qI 0 1++qI 3 21++qI 25 1)
  rw [g7,if_neg (fun hc=>h120 hc.2)]
  dsimp only
  generalize EM (pX (EO 1 p) (EO 2 p)).1 (pX (EO 1 p) (EO 2 p)).2.1=w0 at hW h0
  refine gU Tryz.func30 Tryz.ntmps30 Tryz.results30 fun E hE=>?_
  refine qK (hW) [] ?_
  refine ES (qI 0 1++qO 22) ?_
  first|exact⟨⟩|simp [hJ,dw]
 have hp:polOk p=false:=by simpa using hp
 rw [qn hp] at hW
 dsimp only at hW
 rw [g7,if_neg (fun hc=>by rw [hp] at hc;cases hc.1)]
 dsimp only
 refine gU Tryz.func30 Tryz.ntmps30 Tryz.results30 fun E hE=>?_
 refine qK (hW) [] ?_
 refine ES (qI 0 1++qO 22) ?_
 first|exact⟨⟩|simp [hJ,dw]
theorem GJ (p:PolicyD) (l:List ActD) (hl:l.length<=1048576) (ha:∀ a∈l,a.text.length<=1048576):aP 31 [.ag p.cs,.sc (.sl 0 0 l.length)] [some ⟨l.map ActD.cs,28,113,false,true⟩]
  (.tu [.ag ((g7 p l).1.cs 1),.sc (.sl 22 0 (g7 p l).2.length)]) ([some ⟨l.map ActD.cs,28,113,false,true⟩]++((g7 p l).1.hp true++[some ⟨(g7 p l).2.map aM,1,3,true,true⟩])):=by
 have hW:=FI p
 by_cases hp:polOk p=true
 ·have h0:=(r9 hp).g
  rw [g8 hp] at hW h0
  dsimp only at hW h0
  by_cases h120:l.length<=120
  ·obtain⟨R,hR⟩:∃ R,R=g7 p l:=⟨_,rfl⟩
   rw [<-hR]
   rw [g7,if_pos ⟨hp,h120⟩,g8 hp] at hR
   dsimp only at hR
   generalize EM (pX (EO 1 p) (EO 2 p)).1 (pX (EO 1 p) (EO 2 p)).2.1=w0 at hW h0 hR
   refine gU Tryz.func31 Tryz.ntmps31 Tryz.results31 fun E hE=>?_
   refine qK (hW) [] ?_
   refine tD 1 hE (fun s (y:Nat×WorldD×List Int)=>s.at (qU [0,1,2,1,7,1,10,35]) [(9,.sc (.int .i64 (y.1:Nat))),(8,.sc (.sl 25 0 y.2.2.length))] ((s.hp.take 3)++(y.2.1.hp true++[some ⟨[WorldD.cs y.2.1 3],61,44,true,false⟩,some ⟨y.2.2.map aM,1,3,true,true⟩]))) (fun (y:Nat×WorldD×List Int)=>y.1<=l.length/\GoodW y.2.1 y.1/\y.2.2.length=y.1/\gw (l.drop y.1) y.2.1 y.2.2=R) (fun (y:Nat×WorldD×List Int)=>l.length - y.1) (0,w0,[]) (qI 0 26) (⟨Nat.zero_le _,h0,rfl,hR.symm⟩) fun y hy N hN=>?_
   obtain⟨k,w,cs⟩:=y
   obtain⟨f1,f2,f3,f4⟩:=hy
   dsimp only at f1 f2 f3 f4
   refine qR ?_
   refine qB (fun h=>?_) fun h=>?_
   ·rw [Bn h] at f4
    have hak:=ha l[k] (List.getElem_mem h)
    have hD:=Hd w l[k] (f2.d (by omega))
    have hG:=B5 f2 (a:=l[k]) hak
    generalize hx:l[k]=x at*
    obtain⟨Q,hQ⟩:∃ Q,Q=iP w x:=⟨_,rfl⟩
    rw [<-hQ] at hD hG f4
    try simp (disch:=omega) only [go_sem,seval,hx]
    refine qD [0,1,2,3,4,5,6,7,8,9,10] ?_
    try simp (disch:=omega) only [go_sem,seval,hx]
    refine aQ (hD) (qI 3 21) ?_
    refine qG ?_
    refine BE hN (k+1,Q.1,cs++[Q.2]) (qI 0 3++qI 26 21++qI 24 1++qI 48 1) (by (try dsimp only);exact⟨by omega,hG,by simp [f3],f4⟩) ?_
    first|exact⟨⟩|simp [aM]
   rw [B9 (by omega)] at f4
   subst f4
   refine qX ?_
   exact dk (qI 0 1++qI 3 21++qI 25 1)
  rw [g7,if_neg (fun hc=>h120 hc.2)]
  dsimp only
  generalize EM (pX (EO 1 p) (EO 2 p)).1 (pX (EO 1 p) (EO 2 p)).2.1=w0 at hW h0
  refine gU Tryz.func31 Tryz.ntmps31 Tryz.results31 fun E hE=>?_
  refine qK (hW) [] ?_
  refine ES (qI 0 1++qO 21++qI 25 1) ?_
  first|exact⟨⟩|simp [hJ,dw]
 have hp:polOk p=false:=by simpa using hp
 rw [qn hp] at hW
 dsimp only at hW
 rw [g7,if_neg (fun hc=>by rw [hp] at hc;cases hc.1)]
 dsimp only
 refine gU Tryz.func31 Tryz.ntmps31 Tryz.results31 fun E hE=>?_
 refine qK (hW) [] ?_
 refine ES (qI 0 1++qO 21++qI 25 1) ?_
 first|exact⟨⟩|simp [hJ,dw]
theorem pb (b:List UInt8) (hb:b.length<=maxLen) (_:∀ x∈b,True):aP 7 [.sc (.sl 0 0 b.length)] [some ⟨b.map ew,1,5,false,true⟩] (.sc (.bo true)) [some ⟨b.map ew,1,5,false,true⟩]:=by
 refine qE Tryz.func7 Tryz.ntmps7 Tryz.results7 fun E hE=>?_
 refine qK (DF b hb) (qI 0 1) ?_
 refine qB (fun h=>?_) fun h=>?_
 ·exact qF (qI 0 1)
 obtain⟨p,l,hp,hl,ha,hD⟩:=FH b (by omega)
 have hpo:polOk p=true:=List.all_eq_true.1 (show (Er.all polOk)=true by decide) p hp
 have ht:∀ a∈l,a.text.length<=1048576:=fun a h=>by have:=(ha a h).2.1;omega
 have c1:=GI p l (by omega) ht
 have c2:=GJ p l (by omega) ht
 obtain⟨hg,hN⟩:GoodW (g7 p l).1 l.length/\AnsW (g7 p l).1:=by
  rw [g7,if_pos ⟨hpo,hl⟩]
  have h0:=r9 hpo
  have:=(sH (Q:=fun w k=>GoodW w k/\AnsW w) (P:=fun a=>a.text.length<=1048576) (fun w k a h ha=>⟨B5 h.1 ha,B_ h.2⟩) (l:=l) (cs:=[]) (k:=0) ⟨h0.g,h0.s.ans⟩ ht).1
  simpa using this
 obtain⟨R,hR⟩:∃ R,R=g7 p l:=⟨_,rfl⟩
 rw [<-hR] at c1 c2 hg hN
 clear hR
 obtain⟨w,cs⟩:=R
 dsimp only at c1 c2 hg hN
 have hs:=hg.s
 have hA:=hs.ansA
 have hB:=hs.ansB
 have s1:=hT w hs.ansA hs.ansB hs.a.halfs hs.a.subs hs.b.halfs hs.b.subs
 rw [hN.gatedW] at s1
 have s2:=f0 w.answersB 12 hB
 rw [hN.b.gated (by omega)] at s2
 have s3:=b5 w.a hs.a.halfs
 rw [hN.a.y.fresh] at s3
 have s4:=b5 w.b hs.b.halfs
 rw [hN.b.y.fresh] at s4
 have s5:=ft w.answersB (by omega)
 have s6:=ft w.answersA (by omega)
 have m1:=fun (t:Int)=>b4 w.answersB t hB
 have m2:=fun (t:Int)=>b4 w.answersA t hA
 have b1:∀ t:Int,1<=t/\t<=12->(vt w.answersB t:Int)<=3+t:=fun t h=>hN.b.most (by omega)
 have b2:∀ t:Int,1<=t/\t<=12->(vt w.answersA t:Int)<=3+t:=fun t h=>hN.a.most (by omega)
 have b3:∀ t:Int,1<=t/\t<=12->vt w.answersB 1<=vt w.answersB t:=fun t h=>hN.b.one (by omega)
 clear hg hN ha ht
 refine qK (hD) (qI 0 1) ?_
 refine qK (c1) (qI 1 1) ?_
 refine tD 1 hE (fun s (j:Nat)=>s.at (qU [0,1,2,1,6,1,10,43]) [(7,.sc (.int .i64 ((j:Nat)+1:Nat)))] (s.hp)) (fun (j:Nat)=>j<=12) (fun (j:Nat)=>12 - j) 0 (qI 0 26) (Nat.zero_le _) fun j hj N2 hN2=>?_
 have hj:=hj
 refine qR ?_
 refine qB (fun h8=>?_) fun h8=>?_
 ·have e1:=b1 ((j:Int)+1) (by omega)
  have e2:=b2 ((j:Int)+1) (by omega)
  have e3:=b3 ((j:Int)+1) (by omega)
  have n1:=m1 ((j:Int)+1)
  have n2:=m2 ((j:Int)+1)
  have n3:=m1 1
  generalize vt w.answersB ((j:Int)+1)=x1 at*
  generalize vt w.answersA ((j:Int)+1)=x2 at*
  generalize vt w.answersB 1=x3 at*
  refine qD [0,1,2,4,5,3,6,7,8,9,10,12,13,11,14,15,16,17,18,19,21,22,20,23,24,25] ?_
  refine aQ (n1) (qI 23 1) ?_
  refine aQ (n2) (qI 22 1) ?_
  refine aQ (n1) (qI 23 1) ?_
  refine aQ (n3) (qI 23 1) ?_
  refine qG ?_
  exact Cs hN2 (j+1) (qI 0 26) (by (try dsimp only);exact by omega)
 refine qK (c2) (qI 1 1) ?_
 refine qK (s1) (qI 3 21) ?_
 refine qK (s2) (qI 23 1) ?_
 refine qK (s3) (qI 3 7) ?_
 refine qK (s4) (qI 10 7) ?_
 refine qK (s5) (qI 23 1++qI 46 1) ?_
 refine qK (s6) (qI 22 1++qI 45 1) ?_
 exact qF (qI 0 1)
end
end Go.Proofs.YtjghbknhneffjaaGreat
