/-
  Texts merged for this claim by shake.py: what its proof needs.
-/
import Derived.Test.YtjghbknhneffjaaGreatZFnBaseA
import Derived.Test.YtjghbknhneffjaaGreatZFnBaseB
import Derived.Test.YtjghbknhneffjaaGreatZFnBaseC
import Derived.Test.YtjghbknhneffjaaGreatZFnBaseD
import Derived.Test.YtjghbknhneffjaaGreatZFnBaseE
set_option maxHeartbeats 16000000
set_option maxRecDepth 100000
set_option linter.unusedVariables false
set_option linter.unusedSimpArgs false
namespace Go.Proofs.YtjghbknhneffjaaGreat
section
open Go.RowKit
def EO (s:Int) (p:PolicyD):EndD:=⟨s,0,0,0,p,eK (10*s+1),[],[],[],⟨1,3,3⟩,⟨[],0,0,120⟩,⟨0,[],[]⟩,[],[],1000+s,0,0⟩
def t7 (e:EndD):Bool:=decide (e.own.length<=1048576) && decide (e.far.length<=1048576) && decide (e.subs.length<=1048576) && decide (e.halfs.length<=1048576) && decide (e.inp.list.length<=1048576) && decide (e.done.length<=1048576) && decide (e.over.length<=1048576)
theorem t8 {e:EndD} (h:t7 e=true):Small e:=by
 simp only [t7,Bool.and_eq_true,decide_eq_true_eq] at h
 exact⟨h.1.1.1.1.1.1,h.1.1.1.1.1.2,h.1.1.1.1.2,h.1.1.1.2,h.1.1.2,h.1.2,h.2⟩
def cd {α:Type} (f:α->α) (l:List α) (k:Nat):List α:=(l.take k).map f++l.drop k
theorem xh {α:Type} {f:α->α} {l:List α} {k:Nat}:(cd f l k).length=l.length:=by simp [cd];omega
theorem zr {α:Type} {f:α->α} {l:List α} {k:Nat} (h:k < l.length):(cd f l k)[k]? =some l[k]:=by
 have h1:((l.take k).map f).length=k:=by simp;omega
 rw [cd,List.getElem?_append_right (by omega),List.drop_eq_getElem_cons h,h1]
 simp
theorem xi {α:Type} {f:α->α} {l:List α} {k:Nat} (h:k < l.length):∀ p:k < (cd f l k).length,(cd f l k)[k]'p=l[k]:=by
 intro p
 have hq:=zr (f:=f) h
 rw [List.getElem?_eq_getElem p] at hq
 exact Option.some.inj hq
theorem xj {α:Type} {f:α->α} {l:List α} {k:Nat} (h:k < l.length):(cd f l k).set k (f l[k])=cd f l (k+1):=by
 have h1:((l.take k).map f).length=k:=by simp;omega
 rw [cd,cd,List.set_append_right _ _ (by omega),List.take_succ_eq_append_getElem h,List.map_append,h1]
 simp
 rw [List.drop_eq_getElem_cons h]
 rfl
theorem uB {α:Type} {f:α->α} {l:List α} {k:Nat} (h:k < l.length) (hs:f l[k]=l[k]):cd f l (k+1)=cd f l k:=by
 rw [cd,cd,List.take_succ_eq_append_getElem h,List.map_append,List.drop_eq_getElem_cons h]
 simp [hs]
theorem uC {α:Type} {f:α->α} {l:List α}:cd f l 0=l:=by simp [cd]
theorem xk {α:Type} {f:α->α} {l:List α}:cd f l l.length=l.map f:=by simp [cd]
theorem xl {α:Type} {p:α->Bool} {l:List α} {k:Nat} (h:k < l.length):(l.drop k).all p=(p l[k] && (l.drop (k+1)).all p):=by
 rw [List.drop_eq_getElem_cons h,List.all_cons]
theorem uD {α β:Type} {f:α->List β} {l:List α} {k:Nat} (h:k < l.length):(l.drop k).flatMap f=f l[k]++(l.drop (k+1)).flatMap f:=by
 rw [List.drop_eq_getElem_cons h,List.flatMap_cons]
theorem kw (e:EndD) (s:SubD):(di e s).length<=1:=by
 rw [di];split
 ·split
  ·simp
  split
  ·simp
  split<;>simp
 simp
theorem lL {α β:Type} {f:α->List β} (hf:∀ a,(f a).length<=1):∀ (l:List α),(l.flatMap f).length<=l.length
 |[]=>by simp
 |a::l=>by
  have h1:=hf a
  have h2:=lL hf l
  rw [List.flatMap_cons,List.length_append,List.length_cons]
  omega
theorem nm (l:List HalfD) (n:Int):(bx l n).length<=l.length:=List.length_filter_le _ _
theorem jX (e:EndD):(bX e).length<=e.own.length:=by
 rw [bX];split
 ·rw [List.length_map];exact List.length_filter_le _ _
 simp
theorem o_ {e:EndD} (h:af e=true) {k:Nat} (hk:k < e.subs.length):1<=e.subs[k].state/\e.subs[k].state<=4/\0<=e.subs[k].tries/\e.subs[k].tries<=1000000000:=by
 have h1:dy (cz e.subs) e.subs.length=true:=by
  simp only [af,Bool.and_eq_true] at h
  simp_all
 have h2:=iz h1 hk
 simp only [cz,bW hk,bj,gA,List.all_cons,List.all_nil,Bool.and_eq_true,decide_eq_true_eq] at h2
 omega
theorem B3 {e:EndD} (h:AT e=false):cQ e=(e,[]):=if_neg (by simp [h])
theorem zt {e:EndD} (h:AT e=true) (h2:e.state=2):cQ e=bQ { eR e with subs:=e.subs.map cW } (e.subs.flatMap (di e)):=by rw [cQ,if_pos h,if_pos h2]
theorem zu {e:EndD} (h:AT e=true) (h2:¬ e.state=2):cQ e=bQ (eR e) []:=by rw [cQ,if_pos h,if_neg h2]
theorem B4 {e:EndD} {tk:SubD->SubD} {tl:SubD->List LetterD} (h:AT e=true) (h1:tk=fun s=>if e.state=2 then cW s else s) (h2:tl=fun s=>if e.state=2 then di e s else []):
  cQ e=bQ { e with now:=e.now+1,bucket:=cr e.bucket,halfs:=bx e.halfs (e.now+1),out:=fi e.out,subs:=e.subs.map tk } (e.subs.flatMap tl):=by
 by_cases hs:e.state=2
 ·have a1:tk=cW:=by rw [h1];funext s;exact if_pos hs
  have a2:tl=di e:=by rw [h2];funext s;exact if_pos hs
  rw [zt h hs,a1,a2];rfl
 have a1:tk=fun s=>s:=by rw [h1];funext s;exact if_neg hs
 have a2:tl=fun s=>[]:=by rw [h2];funext s;exact if_neg hs
 have e1:e.subs.flatMap (fun s:SubD=>([]:List LetterD))=[]:=by simp
 have e2:e.subs.map (fun s:SubD=>s)=e.subs:=by simp
 rw [zu h hs,a1,a2,e1,e2];rfl
theorem zw {f:SubD->SubD} (h:∀ s,f s=s) (l:List SubD) (k:Nat):cd f l k=l:=by
 have hf:f=fun s=>s:=funext h
 rw [cd,hf];simp
theorem uE {s:SubD} (h:¬ (s.state=1\/s.state=2)):cW s=s:=if_neg h
theorem uF {e:EndD} {s:SubD} (h:¬ (s.state=1\/s.state=2)):di e s=[]:=if_neg h
theorem uG {s:SubD} (h:s.state=2) (h2:9<=s.tries+1):cW s={ s with tries:=s.tries+1,state:=4 }:=by rw [cW,if_pos (.inr h),if_pos ⟨h,h2⟩]
theorem uH {e:EndD} {s:SubD} (h:s.state=2) (h2:9<=s.tries+1):di e s=[]:=by rw [di,if_pos (.inr h),if_pos ⟨h,h2⟩]
theorem zx {s:SubD} (h:s.state=1\/s.state=2) (h2:¬ (s.state=2/\9<=s.tries+1)):cW s={ s with tries:=s.tries+1 }:=by rw [cW,if_pos h,if_neg h2]
theorem uI {e:EndD} {s:SubD} (h:s.state=1\/s.state=2) (h2:¬ (s.state=2/\9<=s.tries+1)) (h3:¬ (s.tries+1).tmod 3=0):di e s=[]:=by rw [di,if_pos h,if_neg h2,if_pos h3]
theorem xm {e:EndD} {s:SubD} (h:s.state=1) (h3:(s.tries+1).tmod 3=0):di e s=[eM e s]:=by rw [di,if_pos (.inl h),if_neg (by omega),if_neg (by simp [h3]),if_pos h]
theorem sw {e:EndD} {s:SubD} (h:s.state=2) (h2:¬ 9<=s.tries+1) (h3:(s.tries+1).tmod 3=0):di e s=[cb e s]:=by rw [di,if_pos (.inr h),if_neg (by omega),if_neg (by simp [h3]),if_neg (by omega)]
def wroteB (w:WorldD) (side:Int) (t u:List UInt8):WorldD:=if side=1 then { w with wroteA:=w.wroteA++t,readA:=w.readA++u } else { w with wroteB:=w.wroteB++t,readB:=w.readB++u }
theorem sx (w:WorldD) (side:Int) (t:List UInt8):wroteB w side t []=dT w side t:=by
 rw [wroteB,dT];split<;>simp
theorem sy (w:WorldD) (side:Int) (t:List UInt8):wroteB w side [] t=bR w side t:=by
 rw [wroteB,bR];split<;>simp
structure SmallS (w:WorldD):Prop where
 wa:w.wroteA.length<=1099511627776
 wb:w.wroteB.length<=1099511627776
 ra:w.readA.length<=1099511627776
 rb:w.readB.length<=1099511627776
theorem es (w:WorldD) (side:Int) (t u:List UInt8) (h:SmallS w) (ht:t.length<=1048576) (hu:u.length<=1048576):aP 249 [.ag (w.cs 0),.sc (.int .i64 side),.sc (.st t),.sc (.st u)] (w.hp false) (.ag ((wroteB w side t u).cs 0)) (w.hp false):=by
 have h1:=h.wa
 have h2:=h.wb
 have h3:=h.ra
 have h4:=h.rb
 obtain⟨R,hR⟩:∃ R,R=wroteB w side t u:=⟨_,rfl⟩
 rw [<-hR]
 rw [wroteB] at hR
 refine qE Tryz.func249 Tryz.ntmps249 Tryz.results249 fun E hE=>?_
 refine qB (fun b=>?_) fun b=>?_
 ·rw [if_pos b] at hR
  subst hR
  refine qX ?_
  exact qF (qI 0 21)
 rw [if_neg b] at hR
 subst hR
 refine qX ?_
 exact qF (qI 0 21)
theorem ld (l:List LetterD) (k:Nat) (hl:l.length<=1048576) (hk:k < l.length):aP 257 [.sc (.sl 0 0 l.length),.sc (.int .i64 (k:Nat))] [some ⟨l.map LetterD.cs,19,48,false,true⟩] (.sc (.sl 1 0 (l.length - 1))) [some ⟨l.map LetterD.cs,19,48,false,true⟩,some ⟨(l.take k++l.drop (k+1)).map LetterD.cs,19,48,true,true⟩]:=by
 have hlt:(l.take k).length=k:=by simp;omega
 have hlt2:(List.take k (List.map LetterD.cs l)).length=k:=by simp;omega
 refine qE Tryz.func257 Tryz.ntmps257 Tryz.results257 fun E hE=>?_
 refine qX ?_
 refine aB (qI 0 1++qI 3 1) (qC) _ (by simp only [go_sem];rfl) (by rfl) (by rfl) ?_
 simp (disch:=omega) only [go_sem,seval]
 try rw [<-List.map_take]
 exact⟨by omega,(oP hk).2⟩
theorem pf (e:EndD) (hs:Small e) (ht:e.out.text.length<=1048576):aP 252 [.ag (e.cs 0)] (e.hp false) (.tu [.ag ((cQ e).1.cs 7),.sc (.sl 14 0 (cQ e).2.length)])
  (e.hp false++((cQ e).1.hp true++[some ⟨(cQ e).2.map LetterD.cs,19,48,true,true⟩])):=by
 have hC:=(qH (aj e))
 have hK:=(qH (au e))
 have hsb:=hs.subs
 have hso:=hs.own
 have hsh:=hs.halfs
 have hF:=sj e.bucket
 have hY:=qi e.halfs (e.now+1) hs.halfs
 have hAn:=xb e.out
 have hyl:=nm e.halfs (e.now+1)
 have hat:(fi e.out).text.length<=1048576:=by rw [fi];split<;>exact ht
 have hf:=B3 (e:=e)
 have hto:=zt (e:=e)
 have hti:=zu (e:=e)
 have htu:= @B4 e
 have hok:AT e=(af e && decide (e.now < 1000000000) && e.subs.all fun s=>decide (s.tries < 1000000000)):=rfl
 have hsm0:Small { e with now:=e.now+1,bucket:=cr e.bucket,halfs:=bx e.halfs (e.now+1),out:=fi e.out }:=⟨hs.own,hs.far,hs.subs,by dsimp only;omega,hs.list,hs.done,hs.over⟩
 have hsm1:Small { e with now:=e.now+1,bucket:=cr e.bucket,halfs:=bx e.halfs (e.now+1),out:=fi e.out,subs:=e.subs.map cW }:=⟨hs.own,hs.far,by dsimp only;rw [List.length_map];exact hs.subs,by dsimp only;omega,hs.list,hs.done,hs.over⟩
 have hfl:(e.subs.flatMap (di e)).length<=e.subs.length:=lL (kw e) _
 obtain⟨R,hR⟩:∃ R,R=cQ e:=⟨_,rfl⟩
 rw [<-hR] at hf hto hti
 simp only [<-hR] at htu
 rw [<-hR]
 clear hR
 refine gU Tryz.func252 Tryz.ntmps252 Tryz.results252 fun E hE=>?_
 refine qK (hC) (qI 0 7) ?_
 refine qK (hK) (qI 0 7) ?_
 refine qB (fun h1=>?_) fun h1=>?_
 ·have hnow:=kl h1
  by_cases h2:e.now < 1000000000
  ·refine qX ?_
   refine tD 7 hE (fun s (i:Nat)=>s.at (qU [0,1,3,1,11,29]) [(6,.sc (.int .i64 (i:Nat)))] (s.hp)) (fun (i:Nat)=>i<=e.subs.length/\(e.subs.drop i).all (fun s=>decide (s.tries < 1000000000))=e.subs.all (fun s=>decide (s.tries < 1000000000))) (fun (i:Nat)=>e.subs.length - i) 0 (qI 0 18) (⟨Nat.zero_le _,rfl⟩) fun i hi N hN=>?_
   obtain⟨g1,g2⟩:=hi
   refine qR ?_
   refine qB (fun b=>?_) fun b=>?_
   ·rw [xl b] at g2
    have hg:=aT (enc:=SubD.cs) b
    have hsub:=o_ h1 b
    try simp (disch:=omega) only [go_sem,seval,hg]
    refine qB (fun b2=>?_) fun b2=>?_
    ·rw [decide_eq_false (by omega),Bool.false_and] at g2
     rw [hf (by rw [hok,<-g2];simp)]
     refine qX ?_
     exact dk (qI 0 7++qI 9 7++qI 17 1)
    rw [decide_eq_true (by omega),Bool.true_and] at g2
    refine qX ?_
    exact Cs hN (i+1) (qI 0 18) (by (try dsimp only);exact⟨by omega,g2⟩)
   rw [List.drop_eq_nil_of_le (by omega),List.all_nil] at g2
   have hall:=g2.symm
   have hall2:∀ (k:Nat) (hk:k < e.subs.length),e.subs[k].tries < 1000000000:=fun k hk=>by
    have:=List.all_eq_true.1 hall e.subs[k] (List.getElem_mem hk)
    simpa using this
   have htk:AT e=true:=by rw [hok,h1,decide_eq_true h2,hall];rfl
   refine qX ?_
   refine qK (hF) [] ?_
   refine qK (hY) (qI 3 1) ?_
   refine qK (hAn) [] ?_
   obtain⟨tk,htk1⟩:∃ f:SubD->SubD,f=fun s=>if e.state=2 then cW s else s:=⟨_,rfl⟩
   obtain⟨tl,htl1⟩:∃ f:SubD->List LetterD,f=fun s=>if e.state=2 then di e s else []:=⟨_,rfl⟩
   have hR:=htu htk htk1 htl1
   have hsmu:Small { e with now:=e.now+1,bucket:=cr e.bucket,halfs:=bx e.halfs (e.now+1),out:=fi e.out,subs:=e.subs.map tk }:=⟨hs.own,hs.far,by dsimp only;rw [List.length_map];exact hs.subs,by dsimp only;omega,hs.list,hs.done,hs.over⟩
   have hflu:(e.subs.flatMap tl).length<=e.subs.length:=lL (fun s=>by rw [htl1];dsimp only;split;exact kw e s;simp) _
   obtain⟨LL,hLL⟩:∃ L,L=e.subs.flatMap tl:=⟨_,rfl⟩
   rw [<-hLL] at hR hflu
   clear htu hto hti hf
   refine qX ?_
   refine ju 7 hE (fun s (y:Nat×List LetterD)=>s.at (qU [0,1,6,1,8,1,11,120]) [(7,.sc (.int .i64 (y.1:Nat))),(5,.sc (.sl 17 0 y.2.length))] ((s.hp.set 11 (some ⟨(cd tk e.subs y.1).map SubD.cs,10,101,true,true⟩)).set 17 (some ⟨y.2.map LetterD.cs,19,48,true,true⟩))) (fun (y:Nat×List LetterD)=>y.1<=e.subs.length/\y.2.length<=y.1/\LL=y.2++(e.subs.drop y.1).flatMap tl) (fun (y:Nat×List LetterD)=>e.subs.length - y.1) (0,[]) (qI 0 19) (qC) (⟨Nat.zero_le _,Nat.zero_le _,hLL⟩) (ab (by rfl) (by rfl) ?_) fun y hy N2 hN2=>?_
   ·try simp (disch:=omega) only [go_sem,seval]
    try rw [uC]
   obtain⟨k,l⟩:=y
   obtain⟨f1,f2,f3⟩:=hy
   dsimp only at f1 f2 f3
   refine ac 400 ?_
   have hgl:(cd tk e.subs k).length=e.subs.length:=xh
   refine qX ?_
   by_cases hopen:k < e.subs.length/\e.state=2
   ·obtain⟨b,h2s⟩:=hopen
    have etk:tk=cW:=by rw [htk1];funext s;exact if_pos h2s
    have etl:tl=di e:=by rw [htl1];funext s;exact if_pos h2s
    clear htk1 htl1
    subst etk etl
    refine qX ?_
    have hg:=xi (f:=cW) b
    have hsub:=o_ h1 b
    have htr:=hall2 k b
    rw [uD b] at f3
    have hset:=xj (f:=cW) b
    have hsame:=uB (f:=cW) b
    obtain⟨s0,hs0⟩:∃ s,s=e.subs[k]:=⟨_,rfl⟩
    rw [<-hs0] at hsub htr f3 hset hsame
    have hg':∀ p:k < (cd cW e.subs k).length,(cd cW e.subs k)[k]'p=s0:=fun p=>by rw [hg p,hs0]
    clear hg
    by_cases c1:s0.state=1\/s0.state=2
    ·by_cases c2:s0.state=2/\9<=s0.tries+1
     ·have tS:=uG c2.1 c2.2
      rw [uH c2.1 c2.2,List.nil_append] at f3
      obtain⟨c3,c4⟩:=c2
      try simp (disch:=omega) only [go_sem,seval,hg',c3]
      refine⟨qC,hN2 _ (k+1,l) (qI 0 19) (by (try dsimp only);exact⟨by omega,by omega,f3⟩) (by (try dsimp only);omega) (ab (by rfl) (by rfl) ?_)⟩
      refine qX ?_
      rw [<-hset,tS,List.map_set]
      try simp [SubD.cs,c3]
     have tS:=zx c1 c2
     by_cases c5:(s0.tries+1).tmod 3=0
     ·rcases c1 with c1|c1
      ·rw [xm c1 c5] at f3
       have hL:aP 281 [.ag (EndD.cs { e with now:=e.now+1,bucket:=cr e.bucket,halfs:=bx e.halfs (e.now+1),out:=fi e.out,subs:=(cd cW e.subs k).set k { s0 with tries:=s0.tries+1,state:=1 } } 0),.ag (SubD.cs { s0 with state:=1 })] (EndD.hp { e with now:=e.now+1,bucket:=cr e.bucket,halfs:=bx e.halfs (e.now+1),out:=fi e.out,subs:=(cd cW e.subs k).set k { s0 with tries:=s0.tries+1,state:=1 } } false) (.ag (eM e s0).cs) (EndD.hp { e with now:=e.now+1,bucket:=cr e.bucket,halfs:=bx e.halfs (e.now+1),out:=fi e.out,subs:=(cd cW e.subs k).set k { s0 with tries:=s0.tries+1,state:=1 } } false):=jT _ _ (show bj e.side 1 2=true from nh h1)
       try simp (disch:=omega) only [go_sem,seval,hg',c1,c5]
       refine qK (hL) (qI 9 3++qI 18 1++qI 13 3) ?_
       refine⟨qC,hN2 _ (k+1,l++[eM e s0]) (qI 0 17++qI 21 1++qI 18 1) (by (try dsimp only);exact⟨by omega,by simp;omega,by simpa using f3⟩) (by (try dsimp only);omega) (ab (by rfl) (by rfl) ?_)⟩
       refine qX ?_
       rw [<-hset,tS,List.map_set]
       try simp [SubD.cs,c1,LetterD.cs]
      rw [sw c1 (by omega) c5] at f3
      have hL:aP 225 [.ag (EndD.cs { e with now:=e.now+1,bucket:=cr e.bucket,halfs:=bx e.halfs (e.now+1),out:=fi e.out,subs:=(cd cW e.subs k).set k { s0 with tries:=s0.tries+1,state:=2 } } 0),.ag (SubD.cs { s0 with state:=2 })] (EndD.hp { e with now:=e.now+1,bucket:=cr e.bucket,halfs:=bx e.halfs (e.now+1),out:=fi e.out,subs:=(cd cW e.subs k).set k { s0 with tries:=s0.tries+1,state:=2 } } false) (.ag (cb e s0).cs) (EndD.hp { e with now:=e.now+1,bucket:=cr e.bucket,halfs:=bx e.halfs (e.now+1),out:=fi e.out,subs:=(cd cW e.subs k).set k { s0 with tries:=s0.tries+1,state:=2 } } false):=g_ _ _
      try simp (disch:=omega) only [go_sem,seval,hg',c1,c5]
      refine qK (hL) (qI 9 3++qI 18 1++qI 13 3) ?_
      refine⟨qC,hN2 _ (k+1,l++[cb e s0]) (qI 0 17++qI 21 1++qI 18 1) (by (try dsimp only);exact⟨by omega,by simp;omega,by simpa using f3⟩) (by (try dsimp only);omega) (ab (by rfl) (by rfl) ?_)⟩
      refine qX ?_
      rw [<-hset,tS,List.map_set]
      try simp [SubD.cs,c1,LetterD.cs]
     rw [uI c1 c2 c5,List.nil_append] at f3
     have c6:0 < (s0.tries+1).tmod 3:=by have:=Int.tmod_nonneg 3 (show 0<=s0.tries+1 by omega);omega
     rcases c1 with c1|c1
     ·try simp (disch:=omega) only [go_sem,seval,hg',c1]
      refine⟨qC,hN2 _ (k+1,l) (qI 0 19) (by (try dsimp only);exact⟨by omega,by omega,f3⟩) (by (try dsimp only);omega) (ab (by rfl) (by rfl) ?_)⟩
      refine qX ?_
      rw [<-hset,tS,List.map_set]
      try simp [SubD.cs,c1]
     try simp (disch:=omega) only [go_sem,seval,hg',c1]
     refine⟨qC,hN2 _ (k+1,l) (qI 0 19) (by (try dsimp only);exact⟨by omega,by omega,f3⟩) (by (try dsimp only);omega) (ab (by rfl) (by rfl) ?_)⟩
     refine qX ?_
     rw [<-hset,tS,List.map_set]
     try simp [SubD.cs,c1]
    rw [uF c1,List.nil_append] at f3
    try simp (disch:=omega) only [go_sem,seval,hg']
    refine⟨qC,hN2 _ (k+1,l) (qI 0 19) (by (try dsimp only);exact⟨by omega,by omega,f3⟩) (by (try dsimp only);omega) (ab (by rfl) (by rfl) ?_)⟩
    refine qX ?_
    rw [hsame (uE c1)]
   have hst:cd tk e.subs k=e.subs.map tk:=by
    by_cases h2s:e.state=2
    ·rw [show k=e.subs.length by omega,xk]
    have hid:∀ s,tk s=s:=fun s=>by rw [htk1];exact if_neg h2s
    have hf2:tk=fun s=>s:=funext hid
    rw [zw hid,hf2];simp
   have hlf:LL=l:=by
    by_cases h2s:e.state=2
    ·rw [f3,List.drop_eq_nil_of_le (by omega),List.flatMap_nil,List.append_nil]
    have hf2:tl=fun s=>[]:=by rw [htl1];funext s;exact if_neg h2s
    rw [f3,hf2];simp
   rw [hst]
   subst hlf
   by_cases b:k < e.subs.length
   all_goals
    have hT:=nl { e with now:=e.now+1,bucket:=cr e.bucket,halfs:=bx e.halfs (e.now+1),out:=fi e.out,subs:=e.subs.map tk } hsmu
    have hTl:=jX { e with now:=e.now+1,bucket:=cr e.bucket,halfs:=bx e.halfs (e.now+1),out:=fi e.out,subs:=e.subs.map tk }
    have hml:(e.subs.map tk).length=e.subs.length:=List.length_map ..
    rw [bQ] at hR
    obtain⟨EX,hEX⟩:∃ E,E={ e with now:=e.now+1,bucket:=cr e.bucket,halfs:=bx e.halfs (e.now+1),out:=fi e.out,subs:=e.subs.map tk }:=⟨_,rfl⟩
    rw [<-hEX] at hR
    have hsx:Small EX:=by rw [hEX];exact hsmu
    have hatx:EX.out.text.length<=1048576:=by rw [hEX];exact hat
    obtain⟨TT,hTT⟩:∃ T,T=bX EX:=⟨_,rfl⟩
    rw [<-hTT] at hR
    rw [<-hEX,<-hTT] at hTl
    rw [show bX { e with now:=e.now+1,bucket:=cr e.bucket,halfs:=bx e.halfs (e.now+1),out:=fi e.out,subs:=e.subs.map tk }=TT by rw [hTT,hEX]] at hT
    have hxo:EX.own.length<=1048576:=hsx.own
    refine qX ?_
    refine qK (hT) (qI 9 3++qI 18 1++qI 13 3) ?_
    refine ju 7 hE (fun s (y:Nat×EndD×List LetterD)=>s.at (qU [0,2,6,3,10,138]) [(9,.sc (.int .i64 (y.1:Nat))),(5,.sc (.sl 17 0 y.2.2.length))] ((s.hp.take 9)++(y.2.1.hp true++[some ⟨[y.2.1.cs 9],25,38,true,false⟩,some ⟨y.2.2.map LetterD.cs,19,48,true,true⟩]))) (fun (y:Nat×EndD×List LetterD)=>y.1<=3/\Small y.2.1/\y.2.1.out.text.length<=1048576/\y.2.2.length<=2097152+y.1/\R=((cu (3 - y.1) y.2.1).1,y.2.2++(cu (3 - y.1) y.2.1).2)) (fun (y:Nat×EndD×List LetterD)=>3 - y.1) (0,EX,LL++TT) (qI 0 12++qI 18 1++qI 13 4++qI 20 1) (qC) (⟨by omega,hsx,hatx,by simp only [List.length_append];omega,hR⟩) (ab (by rfl) (by rfl) ?_) fun y hy N2 hN2=>?_
    ·rw [hEX]
     try simp (disch:=omega) only [go_sem,seval]
     try simp
    obtain⟨n,e1,l⟩:=y
    obtain⟨h1',h2',h3',h4',h5'⟩:=hy
    dsimp only at h1' h2' h3' h4' h5'
    have hP:=o0 e1 h2' h3'
    have hp1:=nd e1
    have hps:=ja h2'
    have hpt:(cL e1).1.out.text.length<=1048576:=by rw [kt];exact h3'
    refine qR ?_
    refine qB (fun b3=>?_) fun b3=>?_
    ·rw [ne (by omega)] at h5'
     obtain⟨pr,hpr⟩:∃ p,p=cL e1:=⟨_,rfl⟩
     rw [<-hpr] at hP hp1 hps hpt h5'
     obtain⟨e2,l2⟩:=pr
     dsimp only at hP hp1 hps hpt h5'
     rw [<-List.append_assoc] at h5'
     refine qX ?_
     refine qK (hP) (qI 9 7) ?_
     refine BE hN2 (n+1,e2,l++l2) (qI 0 9++qI 19 7++qI 16 1++qI 27 1) (by (try dsimp only);exact⟨by omega,hps,hpt,by simp only [List.length_append];omega,h5'⟩) ?_
     first|exact⟨⟩|simp
    have e3:n=3:=by omega
    subst e3
    simp only [Nat.sub_self,cu,List.append_nil] at h5'
    subst h5'
    refine qX ?_
    exact dk (qI 0 7++qI 9 7++qI 17 1)
  rw [hf (by rw [hok];simp [h2])]
  refine qX ?_
  exact dk (qI 0 7++qI 9 7++qI 17 1)
 rw [hf (by rw [hok];simp [h1])]
 refine qX ?_
 exact dk (qI 0 7++qI 9 7++qI 17 1)
theorem B8 (a:ActD):aP 168 [.ag a.cs] [] (.sc (.bo (cO a))) []:=by
 refine qE Tryz.func168 Tryz.ntmps168 Tryz.results168 fun E hE=>?_
 refine qK (ak _ _ _) [] ?_
 refine qB (fun h1=>?_) fun h1=>?_
 ·refine qK (ak _ _ _) [] ?_
  refine qB (fun h2=>?_) fun h2=>?_
  ·refine qK (am _) [] ?_
   refine qB (fun h3=>?_) fun h3=>?_
   ·refine qK (am _) [] ?_
    refine qB (fun h4=>?_) fun h4=>?_
    ·refine qJ [] ?_
     simp [cO,h1,h2,h3,h4]
     omega
    refine qJ [] ?_
    simp [cO,h1,h2,h3,h4]
   refine qJ [] ?_
   simp [cO,h1,h2,h3]
  refine qJ [] ?_
  simp [cO,h1,h2]
 refine qJ [] ?_
 simp [cO,h1]
def zJ (e:EndD):Bool:=t7 e && decide (e.inp.list=[]) && decide (e.inp.ready.length=0) && decide (e.out.text.length=0) && decide (e.subs.length<=100) && decide (e.far.length<=100)
theorem Bm {e:EndD} (h:zJ e=true):GoodE e/\EL e:=by
 simp only [zJ,Bool.and_eq_true,decide_eq_true_eq] at h
 obtain⟨⟨⟨⟨⟨h1,h2⟩,h3⟩,h4⟩,h5⟩,h6⟩:=h
 exact⟨⟨t8 h1,⟨by rw [h2];decide,by omega,fun x hx=>by rw [h2] at hx;simp at hx⟩,by omega⟩,h5,h6⟩
def EM (x y:EndD):WorldD:=⟨x,y,[],[],[],[],[],[],⟨[5,7],[]⟩,[],[],[]⟩
def startE (x y:EndD):Bool:=af x && af y && decide (x.state=2/\y.state=2/\x.side=1/\y.side=2/\x.key=1001/\y.key=1002/\x.peer=1002/\y.peer=1001/\x.draw=1005/\y.draw=1006/\x.now=0/\y.now=0) &&
 decide (x.halfs=[]/\y.halfs=[]/\x.own=eK 11/\y.own=eK 21/\x.far=dO 21/\y.far=dO 11/\x.bucket=⟨1,3,3⟩/\y.bucket=⟨1,3,3⟩) &&
 decide (x.out=⟨[],0,0,120⟩/\y.out=⟨[],0,0,120⟩) && decide (x.inp.read=0/\x.inp.ready=[]/\x.inp.list=[]/\y.inp.read=0/\y.inp.ready=[]/\y.inp.list=[]) &&
 decide (x.subs=[⟨⟨11,21,0⟩,3,false,0,0,1004,1003,0⟩]/\y.subs=[⟨⟨21,11,0⟩,3,false,0,0,1003,1004,0⟩])
structure Start (w:WorldD):Prop where
 e:startE w.a w.b=true
 bag:w.bag=[]
 past:w.past=[]
 keys:w.known.keys=[5,7]
 tags:w.known.tags=[]
 nums:w.nums=[]
 wa:w.wroteA=[]
 wb:w.wroteB=[]
 ra:w.readA=[]
 rb:w.readB=[]
 na:w.answersA=[]
 nb:w.answersB=[]
end
section
open Go
theorem fk {P:Program} {S:FuncId->Prop} (hS:∀ g,S g->∀ h∈(P.funcs[g]?).elim [] P.leadsTo,S h):∀ (n:Nat) (todo seen:List FuncId),(∀ x∈todo,S x)->(∀ x∈seen,S x)->∀ x∈P.closureVia n todo seen,S x
 |0,todo,seen,_,hs,x,hx=>by
  unfold Program.closureVia at hx
  exact hs x (List.mem_reverse.1 hx)
 |n+1,[],seen,_,hs,x,hx=>by
  unfold Program.closureVia at hx
  exact hs x (List.mem_reverse.1 hx)
 |n+1,f::todo,seen,ht,hs,x,hx=>by
  unfold Program.closureVia at hx
  split at hx
  ·exact fk hS n todo seen (fun y hy=>ht y (List.mem_cons_of_mem _ hy)) hs x hx
  refine fk hS n _ (f::seen) (fun y hy=>?_) (fun y hy=>?_) x hx
  ·rcases List.mem_append.1 hy with hy|hy
   ·exact hS f (ht f (List.mem_cons_self ..)) y hy
   exact ht y (List.mem_cons_of_mem _ hy)
  rcases List.mem_cons.1 hy with rfl|hy
  ·exact ht y (List.mem_cons_self ..)
  exact hs y hy
theorem Bo {P:Program} {S:FuncId->Prop} (hS:∀ g,S g->∀ h∈(P.funcs[g]?).elim [] P.leadsTo,S h) {f:FuncId} (hf:S f):∀ x∈P.closure f,S x:=
 fk hS _ [f] [] (fun x hx=>by rw [List.mem_singleton.1 hx];exact hf) (fun x hx=>by cases hx)
def oc (l:List Nat):List Char:=l.map Char.ofNat
theorem qt (a b:List Nat):oc (a++b)=oc a++oc b:=by simp [oc]
theorem nD (a:Nat) (b:List Nat):oc (a::b)=Char.ofNat a::oc b:=rfl
theorem ly {c:Char} (h:c≠Char.ofNat 32) (r:List Char):wordsSigns (c::r)=match wordsSigns r with
  |w::ws=>(c::w)::ws
  |[]=>[[c]]:=by
 conv=>lhs;unfold wordsSigns
 split
 ·rename_i e
  simp at e
 ·rename_i r' e
  obtain⟨e1,_⟩:=List.cons.inj e
  exact absurd e1 h
 rename_i c' r' _ e
 obtain⟨e1,e2⟩:=List.cons.inj e
 subst e1;subst e2
 rfl
theorem dx:∀ {w:List Char} (r:List Char),(∀ c∈w,c≠Char.ofNat 32)->wordsSigns (w++Char.ofNat 32::r)=w::wordsSigns r
 |[],r,_=>by
  show wordsSigns (Char.ofNat 32::r)=[]::wordsSigns r
  conv=>lhs;unfold wordsSigns
  rfl
 |c::w,r,h=>by
  rw [List.cons_append,ly (h c (List.mem_cons_self ..)),dx r (fun x hx=>h x (List.mem_cons_of_mem _ hx))]
def lN (l:List Nat):Bool:=(oc l).all fun c=>c != Char.ofNat 32
theorem il {l:List Nat} (h:lN l=true):∀ c∈oc l,c≠Char.ofNat 32:=by
 intro c hc
 have:=List.all_eq_true.1 h c hc
 simpa using this
theorem uT {P:Program} {a b c r:List Nat} (h:P.initOrder=String.ofList (oc (a++32::(b++32::(c++32::r))))) (ha:lN a=true) (hb:lN b=true) (hc:lN c=true)
  (hm:((oc a == "harness".toList || oc a == "ownmain".toList) && isSumSigns (oc b))=true):∃ rest,behindMainWord (wordsSigns P.initOrder.toList)=oc c::rest:=by
 refine⟨wordsSigns (oc r),?_⟩
 rw [h,String.toList_ofList,qt,nD,qt,nD,qt,nD,dx _ (il ha),dx _ (il hb),dx _ (il hc)]
 exact if_pos hm
def sO:List Nat:=[99,117,116]
theorem zT {P:Program} {rest:List (List Char)} (h:behindMainWord (wordsSigns P.initOrder.toList)=oc sO::rest):P.make=some .cut:=by
 unfold Program.make
 rw [h]
 rfl
theorem xI {P:Program} {rest:List (List Char)} (h:behindMainWord (wordsSigns P.initOrder.toList)=oc sO::rest):P.liftsFinal=false:=by
 unfold Program.liftsFinal Program.headLifts
 rw [h]
 rfl
theorem A5 {P:Program} {rest:List (List Char)} (h:behindMainWord (wordsSigns P.initOrder.toList)=oc sO::rest) (l1:P.laysLater=false) (l2:P.bearsReflect=false) (l3:P.doorRows=[]):P.mayEnter=true:=by
 have l4:P.doorFits []=true:=by
  unfold Program.doorFits
  rw [l3]
  rfl
 unfold Program.mayEnter
 rw [h]
 show ((_ || _) || _)=true
 have e:stripLifts liftWords (oc sO::rest)=([],oc sO::rest):=rfl
 rw [e,l1,l2,l4]
 simp only [List.contains_nil,Bool.and_true,Bool.not_false,Bool.or_true,List.head?_cons]
 rw [show (some (oc sO) == some "cut".toList)=true from by kernel_rfl]
 simp
def Cj (P:Program) (f:FuncId) (fn:Func) (s:ChangeSpec) (c:OpenClaim):Bool:=
 c.wf (OpenSpec.ofChange s) && laidOutB P && mapsRowed P &&
 fn.params.all (P.readableRec ·) && namedTie P c.named s.vars &&
 (c.stops == []) && (P.stops == []) && (c.knobs == []) && (P.stopKnobs == []) &&
 (c.maps == (fn.params.toList++s.plain.varTypes P).any (P.mapsRec ·)) && (c.ifaces == (fn.params.toList++s.plain.varTypes P).any (P.ifacesRec ·)) && (c.mapsOut == P.mapsAmong fn.resultTypes.toList) &&
 (c.loops == (fn.params.toList++s.plain.varTypes P).any (P.loopsFrom ·)) && (c.wideKeys == (fn.params.toList++s.plain.varTypes P++fn.resultTypes.toList).any (P.wideKeysFrom ·)) &&
 s.vars.all (P.varReadable ·) && fn.resultTypes.all (fun t=>P.readableRec t && decide (t < P.types.size)) && (c.ifacesOut == fn.resultTypes.toList.any (P.ifacesRec ·)) && (c.loopsOut == fn.resultTypes.toList.any (P.loopsFrom ·)) && (c.plainKeys == P.plainKeys) && c.shortTexts.isNone && P.stopsHeard && (c.kinds == (if c.domain.isEmpty then [] else fn.params.toList.map fun t=>match P.underlying t with|some (.int k)=>some k|_=>none)) && (c.pinned == c.pinnedBy) &&
 (c.veiled == (fn.params.toList++s.plain.varTypes P++fn.resultTypes.toList).any (P.veiledRec ·)) && c.veiledFits P fn.params.toList (fn.params.toList++s.plain.varTypes P++fn.resultTypes.toList)
end
section
open Go
theorem kB:∃ rest,behindMainWord (wordsSigns Tryz.prog.initOrder.toList)=oc sO::rest:=
 uT (a:=[104,97,114,110,101,115,115]) (b:=[97,99,54,49,52,98,98,51,50,56,52,102,54,48,53,52,101,57,52,50,52,100,54,51,55,50,54,49,48,51,101,57,102,52,56,100,56,55,48,49,53,51,57,52,56,48,101,101,97,57,98,99,57,49,99,48,99,48,101,49,57,48,57,99]) (c:=sO) (r:=[97,116,32,108,111,111,112,46,101,120,97,109,112,108,101,47,103,48,48,57,54,55,47,108,97,119,115,46,70,110,73,110,106,101,99,116,101,100,32,108,111,111,112,46,101,120,97,109,112,108,101,47,103,48,48,57,54,55,47,108,97,119,115,46,70,110,67,97,108,109,32,108,111,111,112,46,101,120,97,109,112,108,101,47,103,48,48,57,54,55,47,108,97,119,115,46,70,110,84,111,112,32,108,111,111,112,46,101,120,97,109,112,108,101,47,103,48,48,57,54,55,47,108,97,119,115,46,70,110,67,97,114,114,105,101,100,32,108,111,111,112,46,101,120,97,109,112,108,101,47,103,48,48,57,54,55,47,108,97,119,115,46,70,110,87,105,110,100,111,119,115,32,108,111,111,112,46,101,120,97,109,112,108,101,47,103,48,48,57,54,55,47,108,97,119,115,46,70,110,81,117,105,101,116]) (by kernel_rfl) (by kernel_rfl) (by kernel_rfl) (by kernel_rfl) (by kernel_rfl)
theorem Ca:Tryz.prog.laysLater=false:=by kernel_rfl
theorem Cb:Tryz.prog.bearsReflect=false:=by kernel_rfl
theorem Cc:Tryz.prog.doorRows=[]:=by kernel_rfl
theorem D0:Tryz.prog.mayEnter=true:=kB.elim fun _ h=>A5 h Ca Cb Cc
theorem Ck:Tryz.prog.liftsFinal=false:=kB.elim fun _ h=>xI h
theorem DH:Tryz.prog.make=some .cut:=kB.elim fun _ h=>zT h
end
end Go.Proofs.YtjghbknhneffjaaGreat
