/-
  Texts merged for this claim by shake.py: what its proof needs.
-/
import Derived.Test.YtjghbknhneffjaaGreatZFnBaseL
import Derived.Test.YtjghbknhneffjaaGreatZFnBaseM
import Derived.Test.YtjghbknhneffjaaGreatZFnBaseN
import Derived.Test.YtjghbknhneffjaaGreatZFnB2A
import Derived.Test.YtjghbknhneffjaaGreatZFnB2C
import Derived.Test.YtjghbknhneffjaaGreatZFnB2F
set_option maxHeartbeats 16000000
set_option maxRecDepth 100000
set_option linter.unusedVariables false
set_option linter.unusedSimpArgs false
namespace Go.Proofs.YtjghbknhneffjaaGreat
section
open Go.RowKit
section
variable {P:Program} {β:Be} {s:S} {w:World} {tm:Array Value}
end
end
section
open Go.RowKit
theorem oi (o:OutD) (n:Int):aP 214 [.ag o.cs,.sc (.int .i64 n)] [] (.ag (nI o n).cs) []:=by
 obtain⟨R,hR⟩:∃ R,R=nI o n:=⟨_,rfl⟩
 rw [<-hR]
 refine fc Tryz.func214 (by kernel_rfl) rfl fun E hE=>ac 400 ?_
 simp (disch:=omega) only [Tryz.ntmps214,Tryz.results214,go_sem,seval]
 refine bc (qC) (c9 o) [] qM (by rfl) (ac 400 ?_)
 simp (disch:=omega) only [go_sem,seval]
 split<;>rename_i h1<;>(try simp only [beq_true,beq_false,Bool.not_eq_true',Bool.not_eq_false'] at h1)<;>simp (disch:=omega) only [go_sem,seval,h1]<;>(try simp only [decide_eq_true_eq,decide_eq_false_iff_not,beq_iff_eq,beq_eq_false_iff_ne,bne_iff_ne,bne_eq_false_iff_eq,ne_eq,Decidable.not_not,Bool.and_eq_true,Bool.and_eq_false_iff,Bool.or_eq_true,Bool.or_eq_false_iff,Int.ofNat_lt,Int.ofNat_le,Bool.not_eq_eq_eq_not,Bool.not_true,Bool.not_false] at h1)<;>try simp (disch:=omega) only [go_sem,seval]
 ·have h1':=h1
  simp only [outOk,gA,bj,Bool.and_eq_true,decide_eq_true_eq] at h1'
  obtain⟨⟨⟨⟨b0,b1⟩,r0,r1⟩,t0⟩,s0,s1⟩:=h1'
  rw [ym (by omega)] at s1
  split<;>rename_i h2<;>(try simp only [beq_true,beq_false,Bool.not_eq_true',Bool.not_eq_false'] at h2)<;>simp (disch:=omega) only [go_sem,seval,h2]<;>(try simp only [decide_eq_true_eq,decide_eq_false_iff_not,beq_iff_eq,beq_eq_false_iff_ne,bne_iff_ne,bne_eq_false_iff_eq,ne_eq,Decidable.not_not,Bool.and_eq_true,Bool.and_eq_false_iff,Bool.or_eq_true,Bool.or_eq_false_iff,Int.ofNat_lt,Int.ofNat_le,Bool.not_eq_eq_eq_not,Bool.not_true,Bool.not_false] at h2)<;>try simp (disch:=omega) only [go_sem,seval]
  ·split<;>rename_i h3<;>(try simp only [beq_true,beq_false,Bool.not_eq_true',Bool.not_eq_false'] at h3)<;>simp (disch:=omega) only [go_sem,seval,h3]<;>(try simp only [decide_eq_true_eq,decide_eq_false_iff_not,beq_iff_eq,beq_eq_false_iff_ne,bne_iff_ne,bne_eq_false_iff_eq,ne_eq,Decidable.not_not,Bool.and_eq_true,Bool.and_eq_false_iff,Bool.or_eq_true,Bool.or_eq_false_iff,Int.ofNat_lt,Int.ofNat_le,Bool.not_eq_eq_eq_not,Bool.not_true,Bool.not_false] at h3)<;>try simp (disch:=omega) only [go_sem,seval]
   ·rw [nI,if_neg (by rw [ym (by omega)];omega)] at hR
    subst hR
    refine aB [] (qC) _ (by simp only [go_sem];rfl) (by rfl) (by rfl) ?_
    simp (disch:=omega) only [go_sem,seval]
   rw [nI,if_pos ⟨h1,by omega,by rw [ym (by omega)];omega⟩] at hR
   subst hR
   by_cases h4:o.sent < n
   ·try simp (disch:=omega) only [go_sem,seval,h4]
    refine aB [] (qC) _ (by simp only [go_sem];rfl) (by rfl) (by rfl) ?_
    simp (disch:=omega) only [go_sem,seval]
    all_goals (try simp only [h4,if_true,if_false,go_sem])
    all_goals (repeat' first|rfl|constructor)
    try simp
   try simp (disch:=omega) only [go_sem,seval,h4]
   refine aB [] (qC) _ (by simp only [go_sem];rfl) (by rfl) (by rfl) ?_
   simp (disch:=omega) only [go_sem,seval]
   all_goals (try simp only [h4,if_true,if_false,go_sem])
   all_goals (repeat' first|rfl|constructor)
   try simp
  rw [nI,if_neg (by omega)] at hR
  subst hR
  refine aB [] (qC) _ (by simp only [go_sem];rfl) (by rfl) (by rfl) ?_
  simp (disch:=omega) only [go_sem,seval]
 rw [nI,if_neg (by simp [h1])] at hR
 subst hR
 refine aB [] (qC) _ (by simp only [go_sem];rfl) (by rfl) (by rfl) ?_
 simp (disch:=omega) only [go_sem,seval]
theorem fs (e:EndD) (x:LetterD) (hs:Small e):aP 136 [.ag (e.cs 0),.ag x.cs] (e.hp false) (.tu [.ag ((bf e x).1.cs 7),.sc (.sl 14 0 (bf e x).2.length)])
  (e.hp false++((bf e x).1.hp true++[some ⟨(bf e x).2.map LetterD.cs,19,48,true,true⟩])):=by
 have hC:=(qH (jF e))
 have hK:=(qH (ap e))
 have hS:=a6 e x (by have:=hs.subs;omega)
 have hbd:=rp e x
 have hL:=a1 x
 have hf:=rq (e:=e) (x:=x)
 have ht:=fun (n:Nat)=> @rr e x n
 generalize bf e x=R at*
 refine qE Tryz.func136 Tryz.ntmps136 Tryz.results136 fun E hE=>?_
 refine qK (hC) (qI 0 7) ?_
 refine qK (hS) (qI 0 7) ?_
 refine qK (hK) (qI 0 7) ?_
 refine qB (fun h1=>?_) fun h1=>?_
 ·refine qK (hL) [] ?_
  refine qB (fun h2=>?_) fun h2=>?_
  ·rcases hbd with hk|⟨hb0,hb1⟩
   ·rw [hf (a3 (by rintro⟨_,_,hh⟩;omega))]
    rw [hk]
    refine qX ?_
    exact qF (qI 0 7++qI 10 7++qO 1)
   obtain⟨n,hk⟩:=Int.eq_ofNat_of_zero_le hb0
   have hn:n < e.subs.length:=by omega
   rw [ht _ (ds h1 h2 hk) hk,gW hn,hk]
   have e1:=lG e.subs n { e.subs[n] with state:=4 }
   simp only [SubD.cs] at e1
   try simp (disch:=omega) only [go_sem,seval,e1]
   refine qP (qI 0 7++qI 10 7++qO 1) ?_
   first|exact⟨⟩|simp
  rw [hf (a3 (by rintro⟨_,hh,_⟩;rw [h2] at hh;cases hh))]
  refine qX ?_
  exact qF (qI 0 7++qI 10 7++qO 1)
 rw [hf (a3 (by rintro⟨hh,_⟩;rw [h1] at hh;cases hh))]
 refine qX ?_
 exact qF (qI 0 7++qI 10 7++qO 1)
theorem i0 (e:EndD) (x:LetterD) (hs:Small e):aP 135 [.ag (e.cs 0),.ag x.cs] (e.hp false) (.tu [.ag ((bA e x).1.cs 7),.sc (.sl 14 0 (bA e x).2.length)])
  (e.hp false++((bA e x).1.hp true++[some ⟨(bA e x).2.map LetterD.cs,19,48,true,true⟩])):=by
 have hC:=(qH (jF e))
 have hK:=(qH (ap e))
 have hS:=a6 e x (by have:=hs.subs;omega)
 have hbd:=rp e x
 have hL:=a1 x
 have hf:=tH (e:=e) (x:=x)
 have ht:= @tI e x
 generalize bA e x=R at*
 refine qE Tryz.func135 Tryz.ntmps135 Tryz.results135 fun E hE=>?_
 refine qK (hC) (qI 0 7) ?_
 refine qK (hK) (qI 0 7) ?_
 refine qB (fun h1=>?_) fun h1=>?_
 ·refine qK (hL) [] ?_
  refine qB (fun h2=>?_) fun h2=>?_
  ·refine qK (hS) (qI 0 7) ?_
   rcases hbd with hk|⟨hb0,hb1⟩
   ·rw [hf (a3 (by rintro⟨_,_,hh⟩;omega))]
    rw [hk]
    refine qX ?_
    exact qF (qI 0 7++qI 10 7++qO 1)
   obtain⟨n,hk⟩:=Int.eq_ofNat_of_zero_le hb0
   rw [ht (by rw [ds h1 h2 hk];omega),hk]
   refine qX ?_
   refine qK (oi e.out x.pos) [] ?_
   exact qF (qI 0 7++qI 10 7++qO 1)
  rw [hf (a3 (by rintro⟨_,hh,_⟩;rw [h2] at hh;cases hh))]
  refine qX ?_
  exact qF (qI 0 7++qI 10 7++qO 1)
 rw [hf (a3 (by rintro⟨hh,_⟩;rw [h1] at hh;cases hh))]
 refine qX ?_
 exact qF (qI 0 7++qI 10 7++qO 1)
theorem e4 (e:EndD) (x:LetterD) (hs:Small e):aP 130 [.ag (e.cs 0),.ag x.cs] (e.hp false) (.tu [.ag ((aE e x).1.cs 7),.sc (.sl 14 0 (aE e x).2.length)])
  (e.hp false++((aE e x).1.hp true++[some ⟨(aE e x).2.map LetterD.cs,19,48,true,true⟩])):=by
 have hC:=(qH (jF e))
 have hK:=(qH (ap e))
 have hS:=a7 e (roadOf x) (by have:=hs.subs;omega)
 have hL:=a1 x
 have hbd:=fP e.subs (roadOf x)
 have hf:=Dk (e:=e) (x:=x)
 have ht:=fun (n:Nat)=> @Dl e x n
 generalize aE e x=R at*
 refine qE Tryz.func130 Tryz.ntmps130 Tryz.results130 fun E hE=>?_
 refine qK (hC) (qI 0 7) ?_
 refine qD [0,1,2,3,4] ?_
 refine aQ (a5 x) [] ?_
 refine aQ (hS) (qI 0 7) ?_
 refine qG ?_
 rcases hbd with hk|⟨hb0,hb1⟩
 ·rw [hf (BJ hk),hk]
  refine qD [0,1,2,3,4,5,6,7,8,9,10,11,12,13,14,15,16,17,18,19,20,21,22,23,24,25,26,27,28,29] ?_
  refine aQ (hK) (qI 0 7) ?_
  refine qB (fun h1=>?_) fun h1=>?_
  ·refine aQ (hL) [] ?_
   refine qB (fun h2=>?_) fun h2=>?_
   ·refine qG ?_
    exact qF (qI 0 7++qI 10 7++qO 1)
   refine qG ?_
   exact qF (qI 0 7++qI 10 7++qO 1)
  refine qG ?_
  exact qF (qI 0 7++qI 10 7++qO 1)
 obtain⟨n,hk⟩:=Int.eq_ofNat_of_zero_le hb0
 have hn:n < e.subs.length:=by omega
 have ha:=BI hk hn
 rw [hk]
 refine qD [0,1,2,3,4,5,6,7,8,9,10,11,12,13,14,15,16,17,18,19,20,21,22,23,24,25,26,27,28,29] ?_
 refine aQ (hK) (qI 0 7) ?_
 refine qB (fun h1=>?_) fun h1=>?_
 ·refine aQ (hL) [] ?_
  refine qB (fun h2=>?_) fun h2=>?_
  ·refine qB (fun h3=>?_) fun h3=>?_
   ·refine qG ?_
    refine qB (fun h4=>?_) fun h4=>?_
    ·rw [ht _ (by rw [ha];simp [h1,h2,h3,h4]) hk,gW hn]
     have e1:=lG e.subs n { e.subs[n] with state:=3 }
     simp only [SubD.cs] at e1
     try simp (disch:=omega) only [go_sem,seval,e1]
     refine qP (qI 0 7++qI 10 7++qO 1) ?_
     first|exact⟨⟩|simp
    rw [hf (by rw [ha];simp [h1,h2,h3,h4])]
    refine qX ?_
    exact qF (qI 0 7++qI 10 7++qO 1)
   rw [hf (by rw [ha];simp [h1,h2,h3])]
   refine qG ?_
   exact qF (qI 0 7++qI 10 7++qO 1)
  rw [hf (by rw [ha];simp [h1,h2])]
  refine qG ?_
  exact qF (qI 0 7++qI 10 7++qO 1)
 rw [hf (by rw [ha];simp [h1])]
 refine qG ?_
 exact qF (qI 0 7++qI 10 7++qO 1)
theorem ka (e:EndD) (x:LetterD) (hs:Small e):aP 126 [.ag (e.cs 0),.ag x.cs] (e.hp false) (.tu [.ag ((aS e x).1.cs 7),.sc (.sl 14 0 (aS e x).2.length)])
  (e.hp false++((aS e x).1.hp true++[some ⟨(aS e x).2.map LetterD.cs,19,48,true,true⟩])):=by
 have hC:=(qH (jF e))
 have hK:=(qH (ap e))
 have hS:=a7 e (roadOf x) (by have:=hs.subs;omega)
 have hL:=a1 x
 have hbd:=fP e.subs (roadOf x)
 have hf:=BK (e:=e) (x:=x)
 have ht:=fun (n:Nat)=> @BL e x n
 generalize aS e x=R at*
 refine qE Tryz.func126 Tryz.ntmps126 Tryz.results126 fun E hE=>?_
 refine qK (hC) (qI 0 7) ?_
 refine qK (a5 x) [] ?_
 refine qK (hS) (qI 0 7) ?_
 rcases hbd with hk|⟨hb0,hb1⟩
 ·rw [hf (AA hk),hk]
  refine qX ?_
  refine qK (hK) (qI 0 7) ?_
  refine qB (fun h1=>?_) fun h1=>?_
  ·refine qK (hL) [] ?_
   refine qB (fun h2=>?_) fun h2=>?_
   ·refine qB (fun h3=>?_) fun h3=>?_
    ·refine qX ?_
     exact qF (qI 0 7++qI 10 7++qO 1)
    refine qX ?_
    exact qF (qI 0 7++qI 10 7++qO 1)
   refine qX ?_
   exact qF (qI 0 7++qI 10 7++qO 1)
  refine qX ?_
  exact qF (qI 0 7++qI 10 7++qO 1)
 obtain⟨n,hk⟩:=Int.eq_ofNat_of_zero_le hb0
 have hn:n < e.subs.length:=by omega
 have ha:=Az hk hn
 rw [hk]
 refine qX ?_
 refine qK (hK) (qI 0 7) ?_
 refine qB (fun h1=>?_) fun h1=>?_
 ·refine qK (hL) [] ?_
  refine qB (fun h2=>?_) fun h2=>?_
  ·refine qB (fun h3=>?_) fun h3=>?_
   ·refine qB (fun h4=>?_) fun h4=>?_
    ·refine qK (Bg _ _ _) [] ?_
     refine qB (fun h5=>?_) fun h5=>?_
     ·rw [hf (by rw [ha];simp [h1,h2,h3,h4,h5])]
      refine qX ?_
      exact qF (qI 0 7++qI 10 7++qO 1)
     rw [ht _ (by rw [ha];simp [h1,h2,h3,h4,h5]) hk hn]
     have e1:=lG e.subs n { e.subs[n] with state:=3 }
     have e2:=lG (e.subs.set n { e.subs[n] with state:=3 }) n { e.subs[n] with state:=3,give:=x.give }
     rw [List.set_set] at e2
     simp only [SubD.cs] at e1 e2
     refine qX ?_
     refine qK (n3 x.frm) [] ?_
     try simp (disch:=omega) only [go_sem,seval,e1,e2]
     refine aO [(4,5)] [(qU [0,7]),[0,1,2,3,5,4,6]] (by kernel_rfl) (qC) (by kernel_rfl) ?_
     simp only [bm]
     refine⟨aa 400 ?_,aa 400 ?_⟩
     all_goals simp (disch:=omega) only [go_sem,seval]
     all_goals
      refine aQ (a0 (roadOf x) { ah with kind:=3 }) [] ?_
      refine qG ?_
      refine aB (qI 0 7++qI 10 1++qI 19 1++qI 12 5++qI 20 1) (qC) _ (by simp only [go_sem];rfl) (by rfl) (by rfl) ?_
      simp (disch:=omega) only [go_sem,seval]
      try simp [dO,SubD.cs,LetterD.cs,roadOf,aq,ah]
      try omega
    rw [hf (by rw [ha];simp [h1,h2,h3,h4])]
    refine qX ?_
    exact qF (qI 0 7++qI 10 7++qO 1)
   rw [hf (by rw [ha];simp [h1,h2,h3])]
   refine qX ?_
   exact qF (qI 0 7++qI 10 7++qO 1)
  rw [hf (by rw [ha];simp [h1,h2])]
  refine qX ?_
  exact qF (qI 0 7++qI 10 7++qO 1)
 rw [hf (by rw [ha];simp [h1])]
 refine qX ?_
 exact qF (qI 0 7++qI 10 7++qO 1)
theorem o2 {α:Type} {f:α->List Sc} {l:List α} {a:α} {c:List Sc} (hc:f a=c):
  l.length+1+(l.length - l.length)=l.length+1/\l.map f++[c]++((l.map f).drop l.length).take (l.length - l.length)=(l++[a]).map f:=by
 rw [<-hc]
 simp
theorem o1 (l:List Int) (n:Int) (hl:l.length<=1048570):aP 211 [.sc (.sl 0 0 l.length),.sc (.int .i64 n)] [some ⟨l.map aM,1,3,false,true⟩]
  (.sc (.sl 1 0 (gf l n).length)) [some ⟨l.map aM,1,3,false,true⟩,some ⟨(gf l n).map aM,1,3,true,true⟩]:=by
 have ht:=fun k=> @BO l n k
 have hf:=fun k=> @BP l n k
 have he:= @BQ l n
 generalize gf l n=R at*
 refine qE Tryz.func211 Tryz.ntmps211 Tryz.results211 fun E hE=>?_
 refine jx 1 hE (fun s (k:Nat)=>s.at (qU [6,14]) [(5,.sc (.int .i64 (k:Nat)))] (s.hp)) (fun (k:Nat)=>k<=l.length/\k+((l.drop k).takeWhile (fun a=>decide (a < n))).length=gd l n) (fun (k:Nat)=>l.length - k) 0 (qI 0 1) (⟨Nat.zero_le _,by simp [gd]⟩) fun k hk N hN=>?_
 obtain⟨hk1,hk2⟩:=hk
 refine qR ?_
 refine qB (fun h=>?_) fun h=>?_
 ·rw [vw h] at hk2
  refine qX ?_
  refine qB (fun h2=>?_) fun h2=>?_
  ·rw [if_pos (by simp [h2])] at hk2
   exact qN hN (k+1) (qI 0 1) (by (try dsimp only);exact⟨by omega,by omega⟩)
  rw [if_neg (by simp;omega)] at hk2
  refine qX ?_
  refine qB (fun h3=>?_) fun h3=>?_
  ·rw [ht k (by omega) h h3]
   refine qK (iK l (by omega)) (qI 0 1) ?_
   exact qF (qI 0 2)
  rw [hf k (by omega) h h3]
  have hlt:(l.take k).length=k:=by simp;omega
  have hC:=iK (l.take k) (by omega)
  rw [hlt] at hC
  refine aO [(3,5),(3,9),(5,9),(6,9)] [[0,1,2,4,7,8,3,5,6,9,10,11],[0,1,2,4,7,8,3,5,9,6,10,11],[0,1,2,4,7,8,3,9,5,6,10,11],[0,1,2,4,7,8,9,3,5,6,10,11],[0,1,2,4,7,8,5,3,6,9,10,11],[0,1,2,4,7,8,5,3,9,6,10,11],[0,1,2,4,7,8,5,9,3,6,10,11],[0,1,2,4,7,8,9,5,3,6,10,11]] (by kernel_rfl) (qC) (by kernel_rfl) ?_
  simp only [bm]
  refine⟨aa 400 ?_,aa 400 ?_,aa 400 ?_,aa 400 ?_,aa 400 ?_,aa 400 ?_,aa 400 ?_,aa 400 ?_⟩
  all_goals simp (disch:=omega) only [go_sem,seval]
  all_goals
   refine aQ (hC) [some (0,some 0)] ?_
   refine qG ?_
   refine qJ (qI 0 1++qI 4 1) ?_
   exact oO rfl hk1
 rw [yS (by omega)] at hk2
 obtain rfl:k=l.length:=by omega
 rw [he (by omega)]
 refine qX ?_
 refine aO [(3,5),(3,9),(5,9),(6,9)] [[0,1,2,4,7,8,3,5,6,9,10,11],[0,1,2,4,7,8,3,5,9,6,10,11],[0,1,2,4,7,8,3,9,5,6,10,11],[0,1,2,4,7,8,9,3,5,6,10,11],[0,1,2,4,7,8,5,3,6,9,10,11],[0,1,2,4,7,8,5,3,9,6,10,11],[0,1,2,4,7,8,5,9,3,6,10,11],[0,1,2,4,7,8,9,5,3,6,10,11]] (by kernel_rfl) (qC) (by kernel_rfl) ?_
 simp only [bm]
 refine⟨aa 400 ?_,aa 400 ?_,aa 400 ?_,aa 400 ?_,aa 400 ?_,aa 400 ?_,aa 400 ?_,aa 400 ?_⟩
 all_goals simp (disch:=omega) only [go_sem,seval]
 all_goals
  refine aQ (iK l (by omega)) (qI 0 1) ?_
  refine qG ?_
  refine qJ (qI 0 1++qI 4 1) ?_
  exact o2 rfl
theorem lo (e:EndD) (x:LetterD) (hs:Small e):aP 132 [.ag (e.cs 0),.ag x.cs] (e.hp false) (.tu [.ag ((bD e x).1.cs 7),.sc (.sl 14 0 (bD e x).2.length)])
  (e.hp false++((bD e x).1.hp true++[some ⟨(bD e x).2.map LetterD.cs,19,48,true,true⟩])):=by
 have hC:=(qH (jF e))
 have hK:=(qH (ap e))
 have hA:=b6 e.own x.id (by have:=hs.own;omega)
 have hS:=a6 e x (by have:=hs.subs;omega)
 have hL:=a1 x
 have hbs:=rp e x
 have hbA:=fQ e.own x.id
 have hbd:=f9 e x
 have hf:=ue (e:=e) (x:=x)
 have ht:=fun (n:Nat)=> @uf e x n
 have hok:=hZ.eq_1 e x
 generalize bD e x=R at*
 refine qE Tryz.func132 Tryz.ntmps132 Tryz.results132 fun E hE=>?_
 refine qK (hC) (qI 0 7) ?_
 refine qK (hA) (qI 0 1) ?_
 rcases hbA with hi|⟨hi0,hi1⟩
 ·rw [hi]
  refine qX ?_
  rcases hbs with hk|⟨hk0,hk1⟩
  ·refine qD [0,1,2,3,4,5,6,7,8,9,10,11,12,13,14,15,16,17,18,19,20,21,22,23,24,25,26] ?_
   refine aQ (hK) (qI 0 7) ?_
   refine qB (fun h1=>?_) fun h1=>?_
   ·refine aQ (hL) [] ?_
    refine qB (fun h2=>?_) fun h2=>?_
    ·refine aQ (hS) (qI 0 7) ?_
     rw [hk]
     refine qX ?_
     rw [hf (oQ hi)]
     refine qG ?_
     exact qF (qI 0 7++qI 10 7++qO 1)
    rw [hf (oQ hi)]
    refine qG ?_
    exact qF (qI 0 7++qI 10 7++qO 1)
   rw [hf (oQ hi)]
   refine qG ?_
   exact qF (qI 0 7++qI 10 7++qO 1)
  obtain⟨n,hk⟩:=Int.eq_ofNat_of_zero_le hk0
  have hn:n < e.subs.length:=by omega
  refine qD [0,1,2,3,4,5,6,7,8,9,10,11,12,13,14,15,16,17,18,19,20,21,22,23,24,25,26] ?_
  refine aQ (hK) (qI 0 7) ?_
  refine qB (fun h1=>?_) fun h1=>?_
  ·refine aQ (hL) [] ?_
   refine qB (fun h2=>?_) fun h2=>?_
   ·refine aQ (hS) (qI 0 7) ?_
    rw [hk]
    refine qX ?_
    have hon:=ds h1 h2 hk
    rw [hf (oQ hi)]
    refine qG ?_
    exact qF (qI 0 7++qI 10 7++qO 1)
   rw [hf (oQ hi)]
   refine qG ?_
   exact qF (qI 0 7++qI 10 7++qO 1)
  rw [hf (oQ hi)]
  refine qG ?_
  exact qF (qI 0 7++qI 10 7++qO 1)
 obtain⟨i,hi⟩:=Int.eq_ofNat_of_zero_le hi0
 have hil:i < e.own.length:=by omega
 rw [hi]
 refine qX ?_
 rcases hbs with hk|⟨hk0,hk1⟩
 ·refine qD [0,1,2,3,4,5,6,7,8,9,10,11,12,13,14,15,16,17,18,19,20,21,22,23,24,25,26] ?_
  refine aQ (hK) (qI 0 7) ?_
  refine qB (fun h1=>?_) fun h1=>?_
  ·refine aQ (hL) [] ?_
   refine qB (fun h2=>?_) fun h2=>?_
   ·refine aQ (hS) (qI 0 7) ?_
    rw [hk]
    refine qX ?_
    rw [hf (by rw [kq hi hil];have:=a3 (e:=e) (x:=x) (by rintro⟨_,_,hh⟩;omega);simp;omega)]
    refine qG ?_
    exact qF (qI 0 7++qI 10 7++qO 1)
   rw [hf (by rw [kq hi hil];have:=a3 (e:=e) (x:=x) (by rintro⟨_,hh,_⟩;rw [h2] at hh;cases hh);simp;omega)]
   refine qG ?_
   exact qF (qI 0 7++qI 10 7++qO 1)
  rw [hf (by rw [kq hi hil];have:=a3 (e:=e) (x:=x) (by rintro⟨hh,_⟩;rw [h1] at hh;cases hh);simp;omega)]
  refine qG ?_
  exact qF (qI 0 7++qI 10 7++qO 1)
 obtain⟨n,hk⟩:=Int.eq_ofNat_of_zero_le hk0
 have hn:n < e.subs.length:=by omega
 refine qD [0,1,2,3,4,5,6,7,8,9,10,11,12,13,14,15,16,17,18,19,20,21,22,23,24,25,26] ?_
 refine aQ (hK) (qI 0 7) ?_
 refine qB (fun h1=>?_) fun h1=>?_
 ·refine aQ (hL) [] ?_
  refine qB (fun h2=>?_) fun h2=>?_
  ·refine aQ (hS) (qI 0 7) ?_
   rw [hk]
   refine qX ?_
   have hon:=ds h1 h2 hk
   refine qG ?_
   refine qB (fun h5=>?_) fun h5=>?_
   ·rw [ht _ (by rw [kq hi hil];simp [hon,h5]) hi hil]
    refine qX ?_
    refine qP (qI 0 7++qI 10 7++qO 1) ?_
    first|exact⟨⟩|simp [List.map_set,AddrD.cs]
   rw [hf (by rw [kq hi hil];simp [h5])]
   refine qX ?_
   exact qF (qI 0 7++qI 10 7++qO 1)
  rw [hf (by rw [kq hi hil];have:=a3 (e:=e) (x:=x) (by rintro⟨_,hh,_⟩;rw [h2] at hh;cases hh);simp;omega)]
  refine qG ?_
  exact qF (qI 0 7++qI 10 7++qO 1)
 rw [hf (by rw [kq hi hil];have:=a3 (e:=e) (x:=x) (by rintro⟨hh,_⟩;rw [h1] at hh;cases hh);simp;omega)]
 refine qG ?_
 exact qF (qI 0 7++qI 10 7++qO 1)
theorem lp (e:EndD) (x:LetterD) (hs:Small e):aP 133 [.ag (e.cs 0),.ag x.cs] (e.hp false) (.tu [.ag ((bE e x).1.cs 7),.sc (.sl 14 0 (bE e x).2.length)])
  (e.hp false++((bE e x).1.hp true++[some ⟨(bE e x).2.map LetterD.cs,19,48,true,true⟩])):=by
 have hC:=(qH (jF e))
 have hK:=(qH (ap e))
 have hA:=b6 e.far x.id (by have:=hs.far;omega)
 have hD:=kn e.far x.id (by have:=hs.far;omega)
 have hS:=a6 e x (by have:=hs.subs;omega)
 have hL:=a1 x
 have hbs:=rp e x
 have hbA:=fQ e.far x.id
 have hbd:=f9 e x
 have hf:=ui (e:=e) (x:=x)
 have ht:=fun (n:Nat)=> @uj e x n
 have hok:=mJ.eq_1 e x
 have hpl:=jJ e.over x.id
 generalize bE e x=R at*
 refine qE Tryz.func133 Tryz.ntmps133 Tryz.results133 fun E hE=>?_
 refine qK (hC) (qI 0 7) ?_
 refine qK (hA) (qI 1 1) ?_
 rcases hbA with hi|⟨hi0,hi1⟩
 ·rw [hi]
  refine qX ?_
  rcases hbs with hk|⟨hk0,hk1⟩
  ·refine qK (hK) (qI 0 7) ?_
   refine qB (fun h1=>?_) fun h1=>?_
   ·refine qK (hL) [] ?_
    refine qB (fun h2=>?_) fun h2=>?_
    ·refine qK (hS) (qI 0 7) ?_
     rw [hk]
     refine qX ?_
     rw [hf (by rw [hok];have:=a3 (e:=e) (x:=x) (by rintro⟨_,_,hh⟩;omega);simp;omega)]
     refine qX ?_
     exact qF (qI 0 7++qI 10 7++qO 1)
    rw [hf (by rw [hok];have:=a3 (e:=e) (x:=x) (by rintro⟨_,hh,_⟩;rw [h2] at hh;cases hh);simp;omega)]
    refine qX ?_
    exact qF (qI 0 7++qI 10 7++qO 1)
   rw [hf (by rw [hok];have:=a3 (e:=e) (x:=x) (by rintro⟨hh,_⟩;rw [h1] at hh;cases hh);simp;omega)]
   refine qX ?_
   exact qF (qI 0 7++qI 10 7++qO 1)
  obtain⟨n,hk⟩:=Int.eq_ofNat_of_zero_le hk0
  have hn:n < e.subs.length:=by omega
  refine qK (hK) (qI 0 7) ?_
  refine qB (fun h1=>?_) fun h1=>?_
  ·refine qK (hL) [] ?_
   refine qB (fun h2=>?_) fun h2=>?_
   ·refine qK (hS) (qI 0 7) ?_
    rw [hk]
    refine qX ?_
    have hon:=ds h1 h2 hk
    have hq1:=h1
    rw [hf (by rw [hok];simp [hi])]
    refine qX ?_
    exact qF (qI 0 7++qI 10 7++qO 1)
   rw [hf (by rw [hok];have:=a3 (e:=e) (x:=x) (by rintro⟨_,hh,_⟩;rw [h2] at hh;cases hh);simp;omega)]
   refine qX ?_
   exact qF (qI 0 7++qI 10 7++qO 1)
  rw [hf (by rw [hok];have:=a3 (e:=e) (x:=x) (by rintro⟨hh,_⟩;rw [h1] at hh;cases hh);simp;omega)]
  refine qX ?_
  exact qF (qI 0 7++qI 10 7++qO 1)
 obtain⟨i,hi⟩:=Int.eq_ofNat_of_zero_le hi0
 have hil:i < e.far.length:=by omega
 rw [hi]
 refine qX ?_
 rcases hbs with hk|⟨hk0,hk1⟩
 ·refine qK (hK) (qI 0 7) ?_
  refine qB (fun h1=>?_) fun h1=>?_
  ·refine qK (hL) [] ?_
   refine qB (fun h2=>?_) fun h2=>?_
   ·refine qK (hS) (qI 0 7) ?_
    rw [hk]
    refine qX ?_
    rw [hf (by rw [hok];have:=a3 (e:=e) (x:=x) (by rintro⟨_,_,hh⟩;omega);simp;omega)]
    refine qX ?_
    exact qF (qI 0 7++qI 10 7++qO 1)
   rw [hf (by rw [hok];have:=a3 (e:=e) (x:=x) (by rintro⟨_,hh,_⟩;rw [h2] at hh;cases hh);simp;omega)]
   refine qX ?_
   exact qF (qI 0 7++qI 10 7++qO 1)
  rw [hf (by rw [hok];have:=a3 (e:=e) (x:=x) (by rintro⟨hh,_⟩;rw [h1] at hh;cases hh);simp;omega)]
  refine qX ?_
  exact qF (qI 0 7++qI 10 7++qO 1)
 obtain⟨n,hk⟩:=Int.eq_ofNat_of_zero_le hk0
 have hn:n < e.subs.length:=by omega
 refine qK (hK) (qI 0 7) ?_
 refine qB (fun h1=>?_) fun h1=>?_
 ·refine qK (hL) [] ?_
  refine qB (fun h2=>?_) fun h2=>?_
  ·refine qK (hS) (qI 0 7) ?_
   rw [hk]
   refine qX ?_
   have hon:=ds h1 h2 hk
   have hq1:=h1
   rw [ht _ (by rw [hok];simp [hon,hi]) hi hil]
   have hdl:(be e.far x.id).1.length<=e.far.length:=by rw [mG hi];simp;omega
   refine qX ?_
   refine qK (hD) (qI 1 1) ?_
   refine qK (o1 e.over x.id (by have:=uk hq1;omega)) (qI 6 1) ?_
   refine gN 7 hE (fun s (k:Nat)=>s.at (qU [0,4,7,1,9,50,61,17]) [(60,.sc (.int .i64 (k:Nat)))] (s.hp.set 12 (some ⟨(dE e.far[i].addr e.subs k).map SubD.cs,10,101,true,true⟩))) (fun (k:Nat)=>k<=e.subs.length) (fun (k:Nat)=>e.subs.length - k) 0 (qI 0 20) (qC) (Nat.zero_le _) (bw (by rfl) (by rfl) ?_) fun k hk N hN=>?_
   ·refine qX ?_
    rw [uh]
   refine ac 400 ?_
   have hsb:=hs.subs
   have hgl:(dE e.far[i].addr e.subs k).length=e.subs.length:=wW
   refine qX ?_
   refine qB (fun h=>?_) fun h=>?_
   ·have hg:∀ p:k < (dE e.far[i].addr e.subs k).length,(dE e.far[i].addr e.subs k)[k]'p=e.subs[k]:=by
     intro p
     have hq:=yX (a:=e.far[i].addr) h
     rw [List.getElem?_eq_getElem p] at hq
     exact Option.some.inj hq
    try simp (disch:=omega) only [go_sem,seval,hg]
    refine qB (fun h9=>?_) fun h9=>?_
    ·refine qX ?_
     refine⟨qC,hN _ (k+1) (qI 0 20) (by (try dsimp only);exact by omega) (by (try dsimp only);omega) (bw (by rfl) (by rfl) ?_)⟩
     refine qX ?_
     rw [<-wX h,List.map_set]
     simp [jP,h9,hg,SubD.cs]
    refine qX ?_
    refine⟨qC,hN _ (k+1) (qI 0 20) (by (try dsimp only);exact by omega) (by (try dsimp only);omega) (bw (by rfl) (by rfl) ?_)⟩
    refine qX ?_
    rw [ug h h9]
   have hkl:k=e.subs.length:=by omega
   subst hkl
   rw [wY]
   refine qX ?_
   exact qF (qI 0 7++qI 10 1++qI 18 1++qI 12 4++qI 19 1++qO 1)
  rw [hf (by rw [hok];have:=a3 (e:=e) (x:=x) (by rintro⟨_,hh,_⟩;rw [h2] at hh;cases hh);simp;omega)]
  refine qX ?_
  exact qF (qI 0 7++qI 10 7++qO 1)
 rw [hf (by rw [hok];have:=a3 (e:=e) (x:=x) (by rintro⟨hh,_⟩;rw [h1] at hh;cases hh);simp;omega)]
 refine qX ?_
 exact qF (qI 0 7++qI 10 7++qO 1)
end
end Go.Proofs.YtjghbknhneffjaaGreat
