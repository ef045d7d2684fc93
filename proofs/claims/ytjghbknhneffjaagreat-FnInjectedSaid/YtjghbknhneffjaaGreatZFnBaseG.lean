/-
  Texts merged for this claim by shake.py: what its proof needs.
-/
import Derived.Test.YtjghbknhneffjaaGreatZFnBaseA
import Derived.Test.YtjghbknhneffjaaGreatZFnBaseB
import Derived.Test.YtjghbknhneffjaaGreatZFnBaseC
import Derived.Test.YtjghbknhneffjaaGreatZFnBaseD
import Derived.Test.YtjghbknhneffjaaGreatZFnBaseE
set_option maxHeartbeats 16000000
set_option maxRecDepth 100000
set_option linter.unusedVariables false
set_option linter.unusedSimpArgs false
namespace Go.Proofs.YtjghbknhneffjaaGreat
section
open Go.RowKit
def Er:List PolicyD:=[⟨1,0⟩,⟨2,1⟩,⟨2,2⟩,⟨2,3⟩,⟨2,4⟩,⟨3,0⟩]
theorem yA (b:List UInt8) (c:CurD) (hc:c.ok b):∃ (p:PolicyD) (c':CurD),c'.ok b/\p∈Er/\aP 83 [.sc (.pt 1 0 0)] (c.hp b) (.ag p.cs) (c'.hp b):=by
 have h3:=ai b c hc 3
 have o3:=CurD.below_ok hc 3
 have b3:=c.below_lt b (n:=3) (by omega)
 generalize c.below b 3=r3 at h3 o3 b3
 obtain⟨v,c1⟩:=r3
 dsimp only at h3 o3 b3
 have hv:v=0\/v=1\/v=2:=by omega
 rcases hv with rfl|rfl|rfl
 ·refine⟨⟨1,0⟩,c1,o3,by decide,?_⟩
  refine qE Tryz.func83 Tryz.ntmps83 Tryz.results83 fun E hE=>?_
  refine qK (h3) (qI 0 2) ?_
  exact qF (qI 0 2)
 ·have h4:=ai b c1 o3 4
  have o4:=CurD.below_ok o3 4
  have b4:=c1.below_lt b (n:=4) (by omega)
  generalize c1.below b 4=r4 at h4 o4 b4
  obtain⟨u,c2⟩:=r4
  dsimp only at h4 o4 b4
  refine⟨⟨2,1+u⟩,c2,o4,?_,?_⟩
  ·have hu:u=0\/u=1\/u=2\/u=3:=by omega
   rcases hu with rfl|rfl|rfl|rfl<;>decide
  refine qE Tryz.func83 Tryz.ntmps83 Tryz.results83 fun E hE=>?_
  refine qK (h3) (qI 0 2) ?_
  refine qK (h4) (qI 0 2) ?_
  exact qF (qI 0 2)
 refine⟨⟨3,0⟩,c1,o3,by decide,?_⟩
 refine qE Tryz.func83 Tryz.ntmps83 Tryz.results83 fun E hE=>?_
 refine qK (h3) (qI 0 2) ?_
 exact qF (qI 0 2)
def DP (a b:AddrD):RoadD:=⟨a.addr,b.addr,0⟩
theorem sq {far l:List AddrD} {acc:List RoadD} {k:Nat} (h:k < l.length):f6 far acc (l.drop k)=f6 far ((acc++far.map (DP l[k])).take 8) (l.drop (k+1)):=by
 rw [List.drop_eq_getElem_cons h,f6]
 rfl
theorem zp {acc:List RoadD} {far:List AddrD} {f:AddrD->RoadD} {j:Nat} {r:List RoadD} (h:j < far.length) (hr:r=(acc++(far.take j).map f).take 8) (hl:r.length < 8):r++[f far[j]]=(acc++(far.take (j+1)).map f).take 8:=by
 have h1:(acc++(far.take j).map f).length < 8:=by
  rw [hr,List.length_take] at hl
  omega
 rw [List.take_of_length_le (by omega)] at hr
 rw [List.take_succ_eq_append_getElem h,List.map_append,<-List.append_assoc,<-hr,List.map_singleton,List.take_of_length_le]
 rw [<-hr] at h1
 simp
 omega
theorem zq {acc:List RoadD} {far:List AddrD} {f:AddrD->RoadD} {j i:Nat} {r:List RoadD} (hji:j<=i) (hi:i<=far.length) (hr:r=(acc++(far.take j).map f).take 8) (hl:¬ r.length < 8):r=(acc++(far.take i).map f).take 8:=by
 have h1:8<=(acc++(far.take j).map f).length:=by
  rw [hr,List.length_take] at hl
  omega
 have e:far.take i=far.take j++(far.take i).drop j:=by
  conv=>lhs;rw [<-List.take_append_drop j (far.take i)]
  rw [List.take_take,Nat.min_eq_left hji]
 rw [e,List.map_append,<-List.append_assoc,List.take_append_of_le_length h1,hr]
theorem ni (o f:Int) (n:Nat):jB o f (n+1)=jB o f n++[⟨o,f,(n:Int)⟩]:=by
 simp [jB,List.range_succ]
theorem fR (o f:Int) (n:Nat):(jB o f n).length=n:=by simp [jB]
theorem nj {far:List AddrD}:∀ {l:List AddrD} {acc:List RoadD},acc.length<=8->(f6 far acc l).length<=8
 |[],acc,h=>h
 |a::r,acc,h=>by
  rw [f6]
  exact nj (by rw [List.length_take];omega)
theorem sr {l:List AddrD} (h:0 < l.length):yG l=l[0].addr:=by
 cases l with
 |nil=>simp at h
 |cons a r=>rfl
theorem uy (p:PolicyD) (own far:List AddrD):(wanted p own far).length<=8:=by
 rw [wanted]
 split
 ·rename_i h
  split
  ·exact nj (Nat.zero_le _)
  rw [fR]
  split
  ·rename_i h2
   have h1:=h.1
   rw [polOk,if_pos h2] at h1
   simp only [bj,Bool.and_eq_true,decide_eq_true_eq] at h1
   omega
  omega
 simp
theorem nW (p:PolicyD) (own far:List AddrD) (hp:p.wf) (h1:own.length<=1048576) (h2:far.length<=1048576):aP 284 [.ag p.cs,.sc (.sl 0 0 own.length),.sc (.sl 1 0 far.length)] [some ⟨own.map AddrD.cs,4,103,false,true⟩,some ⟨far.map AddrD.cs,4,103,false,true⟩] (.sc (.sl 2 0 (wanted p own far).length)) [some ⟨own.map AddrD.cs,4,103,false,true⟩,some ⟨far.map AddrD.cs,4,103,false,true⟩,some ⟨(wanted p own far).map RoadD.cs,3,99,true,true⟩]:=by
 obtain⟨m,hm⟩:∃ m,m=wanted p own far:=⟨_,rfl⟩
 rw [<-hm]
 rw [wanted] at hm
 refine qE Tryz.func284 Tryz.ntmps284 Tryz.results284 fun E hE=>?_
 refine qK (eq p) [] ?_
 refine qB (fun g1=>?_) fun g1=>?_
 ·refine qK (ak _ _ _) [] ?_
  refine qB (fun g2=>?_) fun g2=>?_
  ·refine qK (ak _ _ _) [] ?_
   refine qB (fun g3=>?_) fun g3=>?_
   ·rw [if_neg (by simp [g3])] at hm
    subst hm
    exact qF (qI 0 2++qI 3 1)
   have g2':=g2
   have g3':=g3
   simp only [bj,Bool.and_eq_true,decide_eq_true_eq] at g2' g3'
   rw [if_pos ⟨g1,g2,g3⟩] at hm
   refine qX ?_
   refine qB (fun g4=>?_) fun g4=>?_
   ·rw [if_pos g4] at hm
    refine qX ?_
    refine jx 2 hE (fun s (x:Nat×List RoadD)=>s.at (qU [0,1,9,1,12,51]) [(8,.sc (.int .i64 (x.1:Nat))),(7,.sc (.sl 3 0 x.2.length))] ([some ⟨own.map AddrD.cs,4,103,false,true⟩,some ⟨far.map AddrD.cs,4,103,false,true⟩,some ⟨[p.cs],2,25,true,false⟩,some ⟨x.2.map RoadD.cs,3,99,true,true⟩])) (fun (x:Nat×List RoadD)=>x.1<=own.length/\x.2.length<=8/\f6 far x.2 (own.drop x.1)=m) (fun (x:Nat×List RoadD)=>own.length - x.1) (0,[]) (qI 0 4) (⟨Nat.zero_le _,Nat.zero_le _,hm.symm⟩) fun x hx N hN=>?_
    obtain⟨k,acc⟩:=x
    obtain⟨hk1,hk2,hk3⟩:=hx
    dsimp only at hk1 hk2 hk3
    refine qR ?_
    refine qB (fun h=>?_) fun h=>?_
    ·rw [sq h] at hk3
     refine qX ?_
     refine jx 2 hE (fun s (y:Nat×List RoadD)=>s.at (qU [0,1,12,23,36,27]) [(9,.sc (.int .i64 (y.1:Nat))),(7,.sc (.sl 3 0 y.2.length))] ([some ⟨own.map AddrD.cs,4,103,false,true⟩,some ⟨far.map AddrD.cs,4,103,false,true⟩,some ⟨[p.cs],2,25,true,false⟩,some ⟨y.2.map RoadD.cs,3,99,true,true⟩])) (fun (y:Nat×List RoadD)=>y.1<=far.length/\y.2.length<=8/\y.2=(acc++(far.take y.1).map (DP own[k])).take 8) (fun (y:Nat×List RoadD)=>far.length - y.1) (0,acc) (qI 0 4) (⟨Nat.zero_le _,hk2,by simp;rw [List.take_of_length_le hk2]⟩) fun y hy N2 hN2=>?_
     obtain⟨j,r⟩:=y
     obtain⟨hy1,hy2,hy3⟩:=hy
     dsimp only at hy1 hy2 hy3
     refine qR ?_
     refine qB (fun h5=>?_) fun h5=>?_
     ·refine qX ?_
      refine qB (fun h6=>?_) fun h6=>?_
      ·have hl8:r.length < 8:=by omega
       have ht:=zp h5 hy3 hl8
       refine qD [0,1,2,3,4,5,6,7,8,9,10,11,12,13,14] ?_
       refine qG ?_
       refine⟨qC,hN2 _ (j+1,r++[DP own[k] far[j]]) (qI 0 3++qI 5 1) (by (try dsimp only);exact⟨by omega,by simp;omega,ht⟩) (by (try dsimp only);omega) (bw (by rfl) (by rfl) ?_)⟩
       refine qX ?_
       simp [DP,RoadD.cs]
      have ht:=zq (i:=far.length) hy1 (Nat.le_refl _) hy3 (by omega)
      rw [List.take_length] at ht
      rw [<-ht] at hk3
      exact qN hN (k+1,r) (qI 0 4) (by (try dsimp only);exact⟨by omega,hy2,hk3⟩)
     have e:j=far.length:=by omega
     subst e
     rw [List.take_length] at hy3
     rw [<-hy3] at hk3
     exact qN hN (k+1,r) (qI 0 4) (by (try dsimp only);exact⟨by omega,hy2,hk3⟩)
    rw [List.drop_eq_nil_of_le (by omega),f6] at hk3
    subst hk3
    exact qF (qI 0 2++qI 3 1)
   rw [if_neg g4] at hm
   have ho:0 < own.length:=by omega
   have hf:0 < far.length:=by omega
   rw [sr ho,sr hf] at hm
   obtain⟨c,hc,hc0,hc8⟩:∃ c:Nat,m=jB own[0].addr far[0].addr c/\(if p.kind=2 then p.many else 1)=(c:Int)/\c<=8:=by
    by_cases h2:p.kind=2
    ·have h:=g1
     rw [polOk,if_pos h2] at h
     simp only [bj,Bool.and_eq_true,decide_eq_true_eq] at h
     rw [if_pos h2] at hm
     exact⟨p.many.toNat,hm,by rw [if_pos h2];omega,by omega⟩
    rw [if_neg h2] at hm
    exact⟨1,hm,by rw [if_neg h2];rfl,by omega⟩
   refine qX ?_
   refine qB (fun g5=>?_) fun g5=>?_
   ·rw [if_pos g5] at hc0
    rw [hc0]
    refine qX ?_
    refine gN 2 hE (fun s (x:Nat)=>s.at (qU [0,1,3,1,8,2,12,75]) [(11,.sc (.int .i64 (x:Nat))),(7,.sc (.sl 3 0 x))] ([some ⟨own.map AddrD.cs,4,103,false,true⟩,some ⟨far.map AddrD.cs,4,103,false,true⟩,some ⟨[p.cs],2,25,true,false⟩,some ⟨(jB own[0].addr far[0].addr x).map RoadD.cs,3,99,true,true⟩])) (fun (x:Nat)=>x<=c) (fun (x:Nat)=>c - x) 0 (qI 0 4) (qC) (Nat.zero_le _) (bw (by rfl) (by rfl) ?_) fun x hx N hN=>?_
    ·refine qX ?_
     first|rfl|exact⟨hc0.symm,rfl⟩|skip
    refine ac 400 ?_
    have hml:=fR own[0].addr far[0].addr x
    refine qX ?_
    refine qB (fun h=>?_) fun h=>?_
    ·refine qD [0,1,2,3,4,5,6,7,8,9,10,11,12,13] ?_
     refine qG ?_
     refine sR hN (x+1) (qI 0 3++qI 5 1) (by (try dsimp only);exact (by omega)) ?_
     first|exact⟨⟩|simp [ni,RoadD.cs]
    have e:x=c:=by omega
    subst e
    subst hc
    rw [fR]
    exact qF (qI 0 2++qI 3 1)
   rw [if_neg g5] at hc0
   have hc1:c=1:=by omega
   subst hc1
   refine gN 2 hE (fun s (x:Nat)=>s.at (qU [0,1,3,1,8,2,12,75]) [(11,.sc (.int .i64 (x:Nat))),(7,.sc (.sl 3 0 x))] ([some ⟨own.map AddrD.cs,4,103,false,true⟩,some ⟨far.map AddrD.cs,4,103,false,true⟩,some ⟨[p.cs],2,25,true,false⟩,some ⟨(jB own[0].addr far[0].addr x).map RoadD.cs,3,99,true,true⟩])) (fun (x:Nat)=>x<=1) (fun (x:Nat)=>1 - x) 0 (qI 0 4) (qC) (Nat.zero_le _) (bw (by rfl) (by rfl) ?_) fun x hx N hN=>?_
   ·refine qX ?_
    first|rfl|exact⟨hc0.symm,rfl⟩|skip
   refine ac 400 ?_
   have hml:=fR own[0].addr far[0].addr x
   refine qX ?_
   refine qB (fun h=>?_) fun h=>?_
   ·refine qD [0,1,2,3,4,5,6,7,8,9,10,11,12,13] ?_
    refine qG ?_
    refine sR hN (x+1) (qI 0 3++qI 5 1) (by (try dsimp only);exact (by omega)) ?_
    first|exact⟨⟩|simp [ni,RoadD.cs]
   have e:x=1:=by omega
   subst e
   subst hc
   rw [fR]
   exact qF (qI 0 2++qI 3 1)
  rw [if_neg (by simp [g2])] at hm
  subst hm
  exact qF (qI 0 2++qI 3 1)
 rw [if_neg (by simp [g1])] at hm
 subst hm
 exact qF (qI 0 2++qI 3 1)
theorem nk {e:EndD} {r:RoadD} {b:Bool} (hs:Small e):Small (dz e r b).1:=by
 rw [dz];split
 ·rename_i h
  simp only [w_,Bool.and_eq_true,decide_eq_true_eq] at h
  exact⟨hs.own,hs.far,by simp only [List.length_append,List.length_singleton];omega,hs.halfs,hs.list,hs.done,hs.over⟩
 exact hs
theorem ss (e:EndD) (r:RoadD) (b:Bool):(dz e r b).2.length<=1:=by
 rw [dz];split<;>simp
theorem uz {far:List AddrD} {e:EndD} {l:List RoadD} {k:Nat} (h:k < l.length):dS far e (l.drop k)=
  ((dS far (dz e l[k] (aZ far l[k].far)).1 (l.drop (k+1))).1,(dz e l[k] (aZ far l[k].far)).2++(dS far (dz e l[k] (aZ far l[k].far)).1 (l.drop (k+1))).2):=by
 rw [List.drop_eq_getElem_cons h];rfl
theorem xd {far:List AddrD} {e:EndD} {l:List RoadD} {k:Nat} (h:l.length<=k):dS far e (l.drop k)=(e,[]):=by
 rw [List.drop_eq_nil_of_le h];rfl
theorem Dv {e:EndD} (h:¬ (af e=true/\e.side=1)):bb e=(e,[]):=if_neg h
theorem Dw {e:EndD} (h:af e=true/\e.side=1):bb e=dS e.far e (ei (wanted e.policy e.own e.far) (fj e.subs)):=if_pos h
theorem jW (a b:List RoadD):(ei a b).length<=64:=by
 rw [ei];split
 ·rename_i h;exact Nat.le_trans (List.length_filter_le _ _) h.1
 simp
theorem xe {e:EndD} (h:af e=true):e.policy.wf:=by
 have hp:polOk e.policy=true:=by simp only [af,Bool.and_eq_true] at h;simp_all
 rw [polOk] at hp
 split at hp
 ·rename_i hk
  simp only [bj,Bool.and_eq_true,decide_eq_true_eq] at hp
  exact⟨⟨by omega,by omega⟩,⟨by omega,by omega⟩⟩
 simp only [Bool.and_eq_true,Bool.or_eq_true,beq_iff_eq] at hp
 exact⟨⟨by omega,by omega⟩,⟨by omega,by omega⟩⟩
theorem xf (l:List SubD):(fj l).length<=l.length:=by
 rw [fj,List.length_map];exact List.length_filter_le _ _
theorem lc (e:EndD) (hs:Small e):aP 253 [.ag (e.cs 0)] (e.hp false) (.tu [.ag ((bb e).1.cs 7),.sc (.sl 14 0 (bb e).2.length)])
  (e.hp false++((bb e).1.hp true++[some ⟨(bb e).2.map LetterD.cs,19,48,true,true⟩])):=by
 have hC:=(qH (aj e))
 have hK:=(qH (au e))
 have hsub:=hs.subs
 have hsf:=hs.far
 have hso:=hs.own
 have hf:=Dv (e:=e)
 have ht:=Dw (e:=e)
 have hH:=sk e hs.subs
 have hhl:=xf e.subs
 have hM64:=jW (wanted e.policy e.own e.far) (fj e.subs)
 obtain⟨R,hR⟩:∃ R,R=bb e:=⟨_,rfl⟩
 rw [<-hR] at hf ht
 rw [<-hR]
 clear hR
 refine gU Tryz.func253 Tryz.ntmps253 Tryz.results253 fun E hE=>?_
 refine qK (hC) (qI 0 7) ?_
 refine qK (hK) (qI 0 7) ?_
 refine qB (fun h1=>?_) fun h1=>?_
 ·refine qB (fun h2=>?_) fun h2=>?_
  rotate_left
  ·have hR:=ht ⟨h1,h2⟩
   have hWa:=nW e.policy e.own e.far (xe h1) (by omega) (by omega)
   have hMi:=my (wanted e.policy e.own e.far) (fj e.subs) (by have:=uy e.policy e.own e.far;omega) (by omega)
   generalize hMM:ei (wanted e.policy e.own e.far) (fj e.subs)=M at*
   clear hMM
   refine qD [0,1,2,3,4,5,7,6,8,9,10] ?_
   refine aQ (hWa) (qI 0 2) ?_
   refine aQ (hH) (qI 0 7) ?_
   refine aQ (hMi) (qI 18 2) ?_
   refine qG ?_
   refine tD 7 hE (fun s (y:Nat×EndD×List LetterD)=>s.at (qU [0,1,8,71]) [(7,.sc (.int .i64 (y.1:Nat))),(6,.sc (.sl 17 0 M.length)),(5,.sc (.sl 18 0 y.2.2.length))] ((s.hp.take 9)++(y.2.1.hp true++[some ⟨[y.2.1.cs 9],25,38,true,false⟩,some ⟨M.map RoadD.cs,3,99,true,true⟩,some ⟨y.2.2.map LetterD.cs,19,48,true,true⟩]))) (fun (y:Nat×EndD×List LetterD)=>y.1<=M.length/\Small y.2.1/\y.2.2.length<=y.1/\R=((dS e.far y.2.1 (M.drop y.1)).1,y.2.2++(dS e.far y.2.1 (M.drop y.1)).2)) (fun (y:Nat×EndD×List LetterD)=>M.length - y.1) (0,e,[]) (qI 0 17++qI 20 1++qI 17 1) (⟨Nat.zero_le _,hs,Nat.le_refl _,hR⟩) fun y hy N hN=>?_
   obtain⟨i,e1,l⟩:=y
   obtain⟨g1,g2,g3,g4⟩:=hy
   dsimp only at g1 g2 g3 g4
   refine qR ?_
   refine qB (fun b=>?_) fun b=>?_
   ·rw [uz b] at g4
    have hg:=aT (enc:=RoadD.cs) b
    generalize hr:M[i]=r at*
    have hJ:=xc e1 r (aZ e.far r.far) g2
    have hj1:=ss e1 r (aZ e.far r.far)
    have hjs:=nk (r:=r) (b:=aZ e.far r.far) g2
    obtain⟨pr,hpr⟩:∃ p,p=dz e1 r (aZ e.far r.far):=⟨_,rfl⟩
    rw [<-hpr] at hJ hj1 hjs g4
    obtain⟨e2,l2⟩:=pr
    dsimp only at hJ hj1 hjs g4
    rw [<-List.append_assoc] at g4
    try simp (disch:=omega) only [go_sem,seval,hg,hr]
    refine tD 7 hE (fun s (z:Nat×Bool)=>s.at (qU [0,1,11,26,38,41]) [(9,.sc (.int .i64 (z.1:Nat))),(8,.sc (.bo z.2))] (s.hp)) (fun (z:Nat×Bool)=>z.1<=e.far.length/\z.2=aZ (e.far.take z.1) r.far) (fun (z:Nat×Bool)=>e.far.length - z.1) (0,false) (qI 0 19) (⟨Nat.zero_le _,rfl⟩) fun z hz N2 hN2=>?_
    obtain⟨k,sb⟩:=z
    obtain⟨f1,f2⟩:=hz
    dsimp only at f1 f2
    refine qR ?_
    refine qB (fun c1=>?_) fun c1=>?_
    ·have hgf:=aT (enc:=AddrD.cs) c1
     have hsn:=jU (n:=r.far) c1
     rw [<-f2] at hsn
     refine qD [0,1,2,3,4,5,6,7,8,9,10,11] ?_
     try simp (disch:=omega) only [go_sem,seval,hgf,hg,hr]
     refine qG ?_
     refine qB (fun c2=>?_) fun c2=>?_
     ·rw [if_pos c2] at hsn
      try simp (disch:=omega) only [go_sem,seval,hgf]
      exact Cs hN2 (k+1,e.far[k].spare) (qI 0 19) (by (try dsimp only);exact⟨by omega,hsn.symm⟩)
     rw [if_neg c2] at hsn
     refine qX ?_
     exact Cs hN2 (k+1,sb) (qI 0 19) (by (try dsimp only);exact⟨by omega,hsn.symm⟩)
    have e3:k=e.far.length:=by omega
    subst e3
    rw [List.take_length] at f2
    subst f2
    refine qX ?_
    refine qD [0,1,2,3,4,5,6,7,8,9,10,11] ?_
    try simp (disch:=omega) only [go_sem,seval,hg,hr]
    refine aQ (hJ) (qI 9 7) ?_
    refine qG ?_
    refine BE hN (i+1,e2,l++l2) (qI 0 9++qI 20 7++qI 16 2++qI 28 1) (by (try dsimp only);exact⟨by omega,hjs,by simp only [List.length_append];omega,g4⟩) ?_
    first|exact⟨⟩|simp
   rw [xd (by omega),List.append_nil] at g4
   subst g4
   refine qX ?_
   exact dk (qI 0 7++qI 9 7++qI 18 1)
  rw [hf (fun h=>h2 h.2)]
  refine qX ?_
  exact dk (qI 0 7++qI 9 7++qI 17 1)
 rw [hf (fun h=>by rw [h1] at h;cases h.1)]
 refine qX ?_
 exact dk (qI 0 7++qI 9 7++qI 17 1)
theorem xn {e:EndD} (h:af e=true):e.own.length<=6:=by
 simp only [af,Bool.and_eq_true] at h
 exact gg (by simp_all)
theorem EJ {e:EndD} {a:AddrD} (h:AR e a=false):az e a=(e,false):=by rw [az,if_neg (by simp [h])]
theorem EK {e:EndD} {a:AddrD} (h:AR e a=true):az e a=({ e with own:=(aJ e.own { a with told:=false }).1 },(aJ e.own { a with told:=false }).2):=by rw [az,if_pos h]
theorem Dx {e:EndD} {a:AddrD} (h:(aJ e.own { a with told:=false }).2=false):az e a=(e,false):=by
 rw [az];split
 ·have:aJ e.own { a with told:=false }=(e.own,false):=by
   rw [aJ] at h⊢;split
   ·rename_i hh;rw [if_pos hh] at h;cases h
   rfl
  rw [this]
 rfl
theorem fy (e:EndD) (a:AddrD) (hs:Small e):aP 254 [.ag (e.cs 0),.ag a.cs] (e.hp false) (.tu [.ag ((az e a).1.cs 7),.sc (.bo (az e a).2)]) (e.hp false++(az e a).1.hp true):=by
 have hC:=(qH (aj e))
 have hK:=(qH (au e))
 have hA:=cm e.own a.id (by have:=hs.own;omega)
 have hH:=eA e.done a.id (by have:=hs.done;omega)
 have hP:=fun h=>eW e.own { a with told:=false } h
 have hf:=EJ (e:=e) (a:=a)
 have ht:=EK (e:=e) (a:=a)
 have ht2:=Dx (e:=e) (a:=a)
 have hok:AR e a=(af e && decide (aG e.own a.id < 0) && !mq e.done a.id):=rfl
 generalize az e a=R at*
 generalize aJ e.own { a with told:=false }=pa at*
 obtain⟨own1,ok1⟩:=pa
 dsimp only at hP ht ht2
 refine gU Tryz.func254 Tryz.ntmps254 Tryz.results254 fun E hE=>?_
 refine qK (hC) (qI 0 7) ?_
 refine qK (hP (by have:=hs.own;omega)) (qI 0 1) ?_
 refine qK (hK) (qI 0 7) ?_
 refine qB (fun b1=>?_) fun b1=>?_
 ·cases ok1 with
  |false=>
   rw [ht2 rfl]
   refine qX ?_
   exact dk (qI 0 7++qI 10 7)
  |true=>
   refine qX ?_
   refine qK (hA) (qI 0 1) ?_
   refine qB (fun b2=>?_) fun b2=>?_
   ·refine qK (hH) (qI 5 1) ?_
    refine qB (fun b3=>?_) fun b3=>?_
    ·rw [hf (by rw [hok];simp [b3])]
     refine qX ?_
     exact dk (qI 0 7++qI 10 7)
    rw [ht (by rw [hok,b1,decide_eq_true (by omega),b3];rfl)]
    refine qX ?_
    exact dk (qI 0 7++qI 18 1++qI 11 6)
   rw [hf (by rw [hok,decide_eq_false (by omega)];simp)]
   refine qX ?_
   exact dk (qI 0 7++qI 10 7)
 rw [hf (by simp [hok,b1])]
 refine qX ?_
 exact dk (qI 0 7++qI 10 7)
theorem sG {l:List LetterD} {p:Nat} (h:p < l.length):oX l (Int.toNat (p:Int))=l[p]:=by simp [oX,h]
theorem kz (l:List LetterD) (p:Nat):fF l (p:Int)=l.take p++l.drop (p+1):=rfl
theorem gv {l:List LetterD} {p:Nat} (h:p < l.length):(fF l (p:Int)).length=l.length - 1:=by
 rw [kz,List.length_append,List.length_take,List.length_drop];omega
theorem Dy {w:WorldD} {s m:Int} {p:Nat} {t:List UInt8} {ad:AddrD} {le:LetterD} (h:¬ p < w.bag.length):ce w ⟨8,s,(p:Nat),m,t,ad,le⟩=(w,1):=by
 unfold ce;dsimp only;rw [if_pos (.inl rfl),if_pos (by omega)]
theorem Dz {w:WorldD} {s m:Int} {p:Nat} {t:List UInt8} {ad:AddrD} {le:LetterD} (h:p < w.bag.length):ce w ⟨8,s,(p:Nat),m,t,ad,le⟩=(eF { w with bag:=fF w.bag (p:Nat) } w.bag[p],0):=by
 unfold ce;dsimp only;rw [if_pos (.inl rfl),if_neg (by omega),if_pos rfl,sG h]
theorem DA {w:WorldD} {s m:Int} {p:Nat} {t:List UInt8} {ad:AddrD} {le:LetterD} (h:¬ p < w.bag.length):ce w ⟨9,s,(p:Nat),m,t,ad,le⟩=(w,1):=by
 unfold ce;dsimp only;rw [if_pos (.inr rfl),if_pos (by omega)]
theorem DB {w:WorldD} {s m:Int} {p:Nat} {t:List UInt8} {ad:AddrD} {le:LetterD} (h:p < w.bag.length):ce w ⟨9,s,(p:Nat),m,t,ad,le⟩=({ w with bag:=fF w.bag (p:Nat) },0):=by
 unfold ce;dsimp only;rw [if_pos (.inr rfl),if_neg (by omega),if_neg (by omega)]
theorem B6 {w:WorldD} {s m:Int} {p:Nat} {t:List UInt8} {ad:AddrD} {le:LetterD} (h:¬ p < w.bag.length\/40<=w.bag.length):ce w ⟨10,s,(p:Nat),m,t,ad,le⟩=(w,1):=by
 unfold ce;dsimp only;rw [if_neg (by omega),if_pos rfl,if_pos (by omega)]
theorem B7 {w:WorldD} {s m:Int} {p:Nat} {t:List UInt8} {ad:AddrD} {le:LetterD} (h:p < w.bag.length) (h2:¬ 40<=w.bag.length):ce w ⟨10,s,(p:Nat),m,t,ad,le⟩=({ w with bag:=w.bag++[w.bag[p]] },0):=by
 unfold ce;dsimp only;rw [if_neg (by omega),if_pos rfl,if_neg (by omega),sG h]
end
end Go.Proofs.YtjghbknhneffjaaGreat
