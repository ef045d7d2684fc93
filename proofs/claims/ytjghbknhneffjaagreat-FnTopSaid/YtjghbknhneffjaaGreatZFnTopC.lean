/-
  Texts merged for this claim by shake.py: what its proof needs.
-/
import Derived.Test.YtjghbknhneffjaaGreatZFnB2K
import Derived.Test.YtjghbknhneffjaaGreatZFnB2L
import Derived.Test.YtjghbknhneffjaaGreatZFnTopB
set_option maxHeartbeats 16000000
set_option maxRecDepth 100000
set_option linter.unusedVariables false
set_option linter.unusedSimpArgs false
namespace Go.Proofs.YtjghbknhneffjaaGreat
section
open Go.RowKit
end
section
open Go.RowKit
section
variable {P:Program} {β:Be} {s:S} {a:Act} {w:World} {o:Oper} {r:OpR} {ty:TypeId}
end
end
section
open Go.RowKit
section
variable {P:Program} {β:Be} {s:S} {a:Act} {w:World} {o:Oper} {r:OpR} {ty:TypeId}
end
end
section
open Go.RowKit
end
section
open Go.ChangeShapes Go.WideShapes Go.ChangeAt Go.RowKit
end
section
open Go.RowKit
end
section
end
section
end
section
end
section
open Go.RowKit
theorem Fq {b:BucketD} (h:bucketOk b=true):bucketOk (bI b).1=true:=by
 rw [bI];split
 ·rename_i hc
  simp only [bucketOk,Bool.and_eq_true,vP] at h⊢
  have:=hc.2
  omega
 exact h
theorem FO {b:BucketD} (h:bucketOk b=true):bucketOk (cr b)=true:=by
 rw [cr,if_pos h]
 simp only [bucketOk,Bool.and_eq_true,vP] at h⊢
 omega
theorem u3 {o:OutD}:outOk o=true↔FineO o:=by
 refine⟨gp,fun h=>?_⟩
 obtain⟨h1,h2,h3,h4,h5⟩:=h
 simp only [outOk,gA,bj,Bool.and_eq_true,decide_eq_true_eq]
 rw [ym (by omega)]
 omega
theorem HY {o:OutD} {n:Int} (h:outOk o=true) (hn:N9 n):outOk (nI o n)=true:=by
 have F:=gp h
 obtain⟨h1,h2,h3,h4,h5⟩:=F
 rw [nI];split
 ·rename_i hc
  obtain⟨_,c1,c2⟩:=hc
  rw [ym (by omega)] at c2
  rw [u3]
  refine⟨hn,h2,?_,?_⟩
  ·simp only [List.length_drop];omega
  simp only [List.length_drop];split<;>omega
 exact h
theorem wp {l:List Int} {n:Int}:mq l n=true↔n∈l:=by simp [mq]
theorem HI {l:List Int} {n:Int}:mq l n=false↔¬ n∈l:=by rw [<-wp];simp
theorem ws {l:List SubD} {r:RoadD} (h:0<=aU l r):∃ n:Nat,aU l r=(n:Int)/\∃ hn:n < l.length,¬ l[n].state=4/\l[n].road=r/\∀ (i:Nat) (hi:i < n),l[i].state=4\/¬ l[i].road=r:=by
 obtain⟨n,hn⟩:=xG h
 exact⟨n,hn,EV.1 hn⟩
theorem Fr {l:List HalfD} {r:RoadD} (h:0<=a_ l r):∃ n:Nat,a_ l r=(n:Int)/\∃ hn:n < l.length,l[n].road=r:=by
 obtain⟨n,hn⟩:=xG h
 obtain⟨h1,h2,_⟩:=xE.1 hn
 exact⟨n,hn,h1,g9.1 h2⟩
theorem EW {l:List AddrD} {k:Int} (h:0<=aG l k):∃ n:Nat,aG l k=(n:Int)/\∃ hn:n < l.length,l[n].id=k:=by
 obtain⟨n,hn⟩:=xG h
 obtain⟨h1,h2,_⟩:=xE.1 hn
 exact⟨n,hn,h1,by simpa using h2⟩
theorem Hh {e:EndD} {x:LetterD} (h:0<=fo e x):∃ n:Nat,fo e x=(n:Int)/\cF e x=(n:Int)/\∃ hn:n < e.subs.length,e.subs[n].state=3/\e.subs[n].take=x.sgn/\e.subs[n].road=roadOf x/\dZ x=true:=by
 rcases f9 e x with h0|⟨n,h1,h2,h3,_,h5⟩
 ·omega
 refine⟨n,h1,h2,h3,?_⟩
 rw [cF] at h2
 split at h2
 ·omega
 rename_i h6
 split at h2
 ·rename_i h7
  obtain⟨m,hm,hmn,_,hr,_⟩:=ws (show 0<=aU e.subs (roadOf x) by omega)
  have:m=n:=by omega
  subst this
  rw [hm,Int.toNat_natCast,ke hmn] at h7
  exact⟨h7.1,h7.2,hr,h5⟩
 omega
theorem Hi {x:LetterD} (h:dZ x=true):RN (roadOf x):=by
 obtain⟨h1,h2,h3,_⟩:=v2 h
 exact⟨h2,h1,h3⟩
theorem GY {e:EndD} {x:LetterD} (h:OkE e) (hst:e.state=2):OkE (bM e x).1/\(bM e x).1.state=2:=by
 refine jS (Q:=fun r=>OkE r.1/\r.1.state=2) ⟨h,hst⟩ ?_ ?_ ?_ ?_ ?_ ?_ ?_ ?_ ?_ ?_ ?_ ?_
 ·unfold ax;split
  ·rename_i hk
   simp only [f8,Bool.and_eq_true,decide_eq_true_eq] at hk
   omega
  exact⟨h,hst⟩
 ·unfold aS;split
  ·rename_i hk
   simp only [i2,Bool.and_eq_true,decide_eq_true_eq] at hk
   omega
  exact⟨h,hst⟩
 ·unfold br;split
  ·rename_i hk
   simp only [rF,Bool.and_eq_true,decide_eq_true_eq,vP] at hk
   obtain⟨⟨⟨⟨⟨⟨⟨⟨⟨k1,k2⟩,k3⟩,k4⟩,k5⟩,k6⟩,k7⟩,k8⟩,k9⟩,k10⟩:=hk
   have hd:N9 (e.draw+4):=⟨by omega,by omega⟩
   split
   ·rename_i hs
    simp only [fg,Bool.and_eq_true,decide_eq_true_eq] at hs
    obtain⟨n,e1,hn,_⟩:=Fr hs.1.1
    refine⟨⟨h.side,h.state,h.pol,h.own,h.far,?_,Fq h.bucket,h.out,h.inp,h.done,h.over,h.subs8,h.nums,h.subs⟩,hst⟩
    dsimp only
    rw [wP,e1,Int.toNat_natCast,g0 hn]
    refine h.halfs.pt (by simp) fun i h1 h2=>?_
    rw [List.getElem_set]
    have hel:=h.halfs.el _ (List.getElem_mem h2)
    split
    ·rename_i e;subst e
     exact⟨⟨hel.1,hel.2.1,hel.2.2.1,hel.2.2.2.1,hel.2.2.2.2.1,by have:=h.nums.2.2.2.1;simp only [N9] at this⊢;omega⟩,rfl⟩
    exact⟨hel,rfl⟩
   refine⟨⟨h.side,h.state,h.pol,h.own,h.far,?_,Fq h.bucket,h.out,h.inp,h.done,h.over,h.subs8,⟨h.nums.1,h.nums.2.1,hd,h.nums.2.2.2⟩,h.subs⟩,hst⟩
   dsimp only
   rw [bJ];split
   ·rename_i hh;exact E2.1 hh
   exact h.halfs
  exact⟨h,hst⟩
 ·unfold ay;split
  ·rename_i hk
   simp only [tO,Bool.and_eq_true,decide_eq_true_eq] at hk
   obtain⟨⟨⟨⟨⟨k1,k2⟩,k3⟩,k4⟩,k5⟩,k6⟩:=hk
   obtain⟨n,e1,hn,_,_,_⟩:=ws k4
   rw [e1,Int.toNat_natCast,ke hn] at k5
   obtain⟨_,_,_,x1,x2,_⟩:=v2 k2
   have hel:=h.subs.el _ (List.getElem_mem hn)
   refine⟨⟨h.side,h.state,h.pol,h.own,h.far,h.halfs,h.bucket,h.out,h.inp,h.done,h.over,by dsimp only;rw [List.length_set];exact h.subs8,h.nums,?_⟩,hst⟩
   dsimp only
   rw [e1,Int.toNat_natCast,ke hn]
   exact h.subs.set hn ⟨by simp [mD],hel.2.1,hel.2.2.1,x1,x2,hel.2.2.2.2.2.1,by simp [mD,N9]⟩ rfl fun h4=>by omega
  exact⟨h,hst⟩
 ·unfold ao;split
  ·rename_i hk
   simp only [mE,Bool.and_eq_true,decide_eq_true_eq] at hk
   split
   ·rename_i ha
    simp only [rE,Bool.and_eq_true,decide_eq_true_eq] at ha
    obtain⟨i,e2,hi,_⟩:=Fr ha.1.1
    have hel:=h.halfs.el _ (List.getElem_mem hi)
    have hsu:SuE (jI (roadOf x) (wP e x)):=by
     rw [wP,e2,Int.toNat_natCast,g0 hi]
     exact⟨by simp [jI],Hi hk.1.2,hel.2.2.1,hel.2.1,hel.2.2.2.1,hel.2.2.2.2.1,by simp [jI,N9]⟩
    refine⟨⟨h.side,h.state,h.pol,h.own,h.far,h.halfs.drop,h.bucket,h.out,h.inp,h.done,h.over,?_,h.nums,?_⟩,hst⟩
    ·dsimp only
     split<;>simp only [bP,List.length_append,List.length_set,List.length_singleton]<;>omega
    dsimp only
    split
    ·rename_i h0
     obtain⟨n,e1,hn,k1,k2,k3⟩:=ws h0
     rw [e1,Int.toNat_natCast]
     refine (h.subs.st4 hn).app hsu fun y hy=>?_
     rw [gW hn] at hy
     obtain⟨j,hj,rfl⟩:=List.getElem_of_mem hy
     rw [List.getElem_set]
     split
     ·exact .inl rfl
     rename_i hnj
     rw [List.length_set] at hj
     have hq:=h.subs.pw
     rw [List.pairwise_iff_getElem] at hq
     have:e.subs[j].state=4\/¬ e.subs[j].road=e.subs[n].road:=by
      rcases Nat.lt_or_gt_of_ne hnj with hl|hl
      ·rcases hq n j hn hj hl with q|q|q
       ·exact absurd q k1
       ·exact .inl q
       exact .inr fun hc=>q hc.symm
      rcases hq j n hj hn hl with q|q|q
      ·exact .inl q
      ·exact absurd q k1
      exact .inr q
     rw [k2] at this
     exact this
    rename_i h0
    refine h.subs.app hsu fun y hy=>?_
    exact FN.1 (show aU e.subs (roadOf x) < 0 by omega) y hy
   split<;>exact⟨h,hst⟩
  exact⟨h,hst⟩
 ·unfold aE;dsimp only;split
  ·rename_i hk
   simp only [mu,Bool.and_eq_true,decide_eq_true_eq] at hk
   obtain⟨⟨⟨⟨k1,k2⟩,k3⟩,k4⟩,k5⟩:=hk
   obtain⟨n,e1,hn,_,_,_⟩:=ws k3
   rw [e1,Int.toNat_natCast,ke hn] at k4
   refine⟨⟨h.side,h.state,h.pol,h.own,h.far,h.halfs,h.bucket,h.out,h.inp,h.done,h.over,by dsimp only;rw [bP,List.length_set];exact h.subs8,h.nums,?_⟩,hst⟩
   dsimp only
   rw [e1,Int.toNat_natCast,gW hn]
   exact h.subs.set hn ((h.subs.el _ (List.getElem_mem hn)).st (by omega)) rfl fun h4=>by omega
  exact⟨h,hst⟩
 ·unfold bC;split
  ·rename_i hk
   simp only [lH,Bool.and_eq_true,Bool.not_eq_true',HI] at hk
   exact⟨⟨h.side,h.state,h.pol,h.own,h.far.put,h.halfs,h.bucket,h.out,h.inp,h.done,h.over.put hk.1.1.2,h.subs8,h.nums,h.subs⟩,hst⟩
  exact⟨h,hst⟩
 ·unfold bD;dsimp only;split
  ·rename_i hk
   simp only [hZ,Bool.and_eq_true,decide_eq_true_eq] at hk
   obtain⟨n,e1,hn,_⟩:=EW hk.1.2
   have hp:∀ (i:Nat) (h1:i < (e.own.set (aG e.own x.id).toNat { kU e.own (aG e.own x.id).toNat with told:=true }).length) (h2:i < e.own.length),
     (e.own.set (aG e.own x.id).toNat { kU e.own (aG e.own x.id).toNat with told:=true })[i].id=e.own[i].id/\(e.own.set (aG e.own x.id).toNat { kU e.own (aG e.own x.id).toNat with told:=true })[i].addr=e.own[i].addr:=by
    intro i h1 h2
    rw [List.getElem_set]
    split
    ·rename_i he
     rw [e1,Int.toNat_natCast] at he
     subst he
     rw [e1,Int.toNat_natCast,hV hn]
     exact⟨rfl,rfl⟩
    exact⟨rfl,rfl⟩
   refine⟨⟨h.side,h.state,h.pol,h.own.pt (by simp) hp,h.far,h.halfs,h.bucket,h.out,h.inp,h.done.pt fun a ha=>?_,h.over,h.subs8,h.nums,h.subs⟩,hst⟩
   obtain⟨j,hj,rfl⟩:=List.getElem_of_mem ha
   have hj':=hj
   rw [List.length_set] at hj'
   exact⟨e.own[j],List.getElem_mem hj',(hp j hj hj').1.symm⟩
  exact⟨h,hst⟩
 ·unfold bE;dsimp only;split
  ·rename_i hk
   simp only [mJ,Bool.and_eq_true,decide_eq_true_eq] at hk
   obtain⟨n,e1,hn,e2⟩:=EW hk.2
   refine⟨⟨h.side,h.state,h.pol,h.own,h.far.drop,h.halfs,h.bucket,h.out,h.inp,h.done,h.over.drop h.far ⟨_,List.getElem_mem hn,e2⟩,by dsimp only;rw [List.length_map];exact h.subs8,h.nums,h.subs.map fun s hs=>?_⟩,hst⟩
   rw [jP];split
   ·exact⟨(h.subs.el s hs).st (by omega),rfl,fun _=>rfl⟩
   exact⟨h.subs.el s hs,rfl,fun h=>h⟩
  exact⟨h,hst⟩
 ·unfold bF;split
  ·refine⟨⟨h.side,h.state,h.pol,h.own,h.far,h.halfs,h.bucket,h.out,?_,h.done,h.over,h.subs8,h.nums,h.subs⟩,hst⟩
   dsimp only
   rw [rX]
   rcases rW e.inp x.pos x.text with hp|hp
   ·rw [hp];exact h.inp
   exact hp
  exact⟨h,hst⟩
 ·unfold bA;dsimp only;split
  ·rename_i hk
   obtain⟨n,_,_,hn,_,_,_,hl⟩:=Hh hk
   obtain⟨_,_,_,_,_,_,_,_,hp⟩:=v2 hl
   exact⟨⟨h.side,h.state,h.pol,h.own,h.far,h.halfs,h.bucket,HY h.out hp,h.inp,h.done,h.over,h.subs8,h.nums,h.subs⟩,hst⟩
  exact⟨h,hst⟩
 unfold bf;dsimp only;split
 ·rename_i hk
  obtain⟨n,_,e1,hn,_⟩:=Hh hk
  refine⟨⟨h.side,h.state,h.pol,h.own,h.far,h.halfs,h.bucket,h.out,h.inp,h.done,h.over,by dsimp only;rw [bP,List.length_set];exact h.subs8,h.nums,?_⟩,hst⟩
  dsimp only
  rw [e1,Int.toNat_natCast]
  exact h.subs.st4 hn
 exact⟨h,hst⟩
theorem Gt {o:OutD} (F:FineO o):((cy o).length:Int)<=o.base+(o.text.length:Int) - o.sent:=by
 have:=F.sent
 simp only [cy,List.length_take,List.length_drop]
 omega
theorem GN {o:OutD} (h:outOk o=true):outOk (qg o)=true:=by
 rw [qg];split
 ·have F:=gp h
  have hl:=Gt F
  obtain⟨h1,h2,h3,h4,h5⟩:=F
  rw [u3]
  exact⟨h1,h2,h3,by dsimp only;omega⟩
 exact h
theorem HJ {n:Int} (h:N9 n):N9 (i8 n):=by
 simp only [N9] at h⊢
 rw [i8];split<;>omega
theorem F8 {e:EndD} (h:OkE e):OkE (cL e).1:=by
 unfold cL;split
 ·exact⟨h.side,h.state,h.pol,h.own,h.far,h.halfs,h.bucket,GN h.out,h.inp,h.done,h.over,h.subs8,⟨h.nums.1,h.nums.2.1,h.nums.2.2.1,h.nums.2.2.2.1,HJ h.nums.2.2.2.2⟩,h.subs⟩
 exact h
theorem v3 {e:EndD}:(cL e).1.state=e.state:=by unfold cL;split<;>rfl
theorem Fs:∀ {k:Nat} {e:EndD},OkE e->OkE (cu k e).1/\(cu k e).1.state=e.state
 |0,e,h=>⟨h,rfl⟩
 |k+1,e,h=>by
  obtain⟨h1,h2⟩:=Fs (k:=k) (F8 h)
  exact⟨h1,h2.trans v3⟩
theorem Hj {o:OutD} {t:List UInt8} (h:outOk o=true):outOk (eL o t).1=true:=by
 rw [eL];split
 ·obtain⟨h1,h2,h3,h4,h5⟩:=gp h
  rw [u3]
  refine⟨h1,h2,?_,?_⟩
  ·simp only [List.length_append,List.length_take,i9];omega
  simp only [List.length_append,List.length_take,i9];omega
 exact h
theorem Ft {e:EndD} {t:List UInt8} (h:OkE e):OkE (cc e t).1/\(cc e t).1.state=e.state:=by
 unfold cc;split
 ·exact⟨⟨h.side,h.state,h.pol,h.own,h.far,h.halfs,h.bucket,Hj h.out,h.inp,h.done,h.over,h.subs8,h.nums,h.subs⟩,rfl⟩
 exact⟨h,rfl⟩
theorem HZ {p:PiecesD} {m:Int} (h:piecesOk p=true) (hs:SmallP p):piecesOk (bK p m).1=true:=by
 rw [bK];split
 ·rename_i hk
  simp only [sg,Bool.and_eq_true,decide_eq_true_eq] at hk
  have F:=dt h hs
  have hr:=F.ready
  have hr0:=F.r0
  have hn:=F.next
  have hN:w9 p m<=p.ready.length:=Nat.min_le_right _ _
  simp only [piecesOk,gA,Bool.and_eq_true,decide_eq_true_eq] at h⊢
  obtain⟨⟨⟨⟨a1,a2⟩,a3⟩,a4⟩,a5⟩:=h
  have hle:=vy (M:=200) fun x hx=>(F.texts x hx).1
  have hm:p.list.length*200<=20*200:=Nat.mul_le_mul_right _ F.list
  refine⟨⟨⟨⟨by omega,by omega⟩,a3⟩,?_⟩,?_⟩
  ·rw [mt,mM (by omega) (by omega)] at a4
   show fD ((p.ready.drop (w9 p m)).length:Int) p.list<=200
   rw [mM (by omega) (by rw [List.length_drop];omega),List.length_drop]
   omega
  have e:nextOf ⟨p.read+(w9 p m:Int),p.ready.drop (w9 p m),p.list⟩=nextOf p:=by
   rw [hn,nextOf,ym (by simp only [List.length_drop];omega)]
   simp only [List.length_drop]
   omega
  rw [e];exact a5
 exact h
theorem HK {e:EndD} {m:Int} (h:OkE e) (hs:SmallP e.inp):OkE (bi e m).1/\(bi e m).1.state=e.state:=by
 unfold bi;split
 ·exact⟨⟨h.side,h.state,h.pol,h.own,h.far,h.halfs,h.bucket,h.out,HZ h.inp hs,h.done,h.over,h.subs8,h.nums,h.subs⟩,rfl⟩
 exact⟨h,rfl⟩
theorem GZ {o:OutD} (h:outOk o=true):outOk (fi o)=true:=by
 rw [fi,if_pos h]
 obtain⟨h1,h2,h3,h4,h5⟩:=gp h
 rw [u3]
 exact⟨h1,h2,h3,by dsimp only;omega⟩
theorem Fu {e:EndD} {l:List LetterD} (h:OkE e):OkE (bQ e l).1/\(bQ e l).1.state=e.state:=Fs h
theorem H0 {e:EndD} (h:OkE e):OkE (cQ e).1/\(cQ e).1.state=e.state:=by
 unfold cQ;split
 ·rename_i hk
  simp only [AT,Bool.and_eq_true,decide_eq_true_eq,List.all_eq_true] at hk
  have h0:∀ s:List SubD,s.length<=8->SuOk s->OkE { eR e with subs:=s }:=fun s h8 hs=>
   ⟨h.side,h.state,h.pol,h.own,h.far,h.halfs.young,FO h.bucket,GZ h.out,h.inp,h.done,h.over,h8,⟨h.nums.1,h.nums.2.1,h.nums.2.2.1,by have:=h.nums.2.2.2.1;simp only [N9,eR] at this⊢;omega,h.nums.2.2.2.2⟩,hs⟩
  split
  ·refine Fu (h0 _ (by rw [List.length_map];exact h.subs8) (h.subs.map fun s hs=>?_))
   have hel:=h.subs.el s hs
   have ht:=hk.2 s hs
   have hN:N9 (s.tries+1):=by have:=hel.2.2.2.2.2.2;simp only [N9] at this⊢;omega
   rw [cW];split
   ·rename_i hc
    split
    ·exact⟨⟨by simp,hel.2.1,hel.2.2.1,hel.2.2.2.1,hel.2.2.2.2.1,hel.2.2.2.2.2.1,hN⟩,rfl,fun _=>rfl⟩
    exact⟨⟨hel.1,hel.2.1,hel.2.2.1,hel.2.2.2.1,hel.2.2.2.2.1,hel.2.2.2.2.2.1,hN⟩,rfl,fun h=>h⟩
   exact⟨hel,rfl,fun h=>h⟩
  exact Fu (h0 e.subs h.subs8 h.subs)
 exact⟨h,rfl⟩
theorem G0 {e:EndD} {r:RoadD} {b:Bool} (h:OkE e):OkE (dz e r b).1/\(dz e r b).1.state=e.state:=by
 unfold dz;split
 ·rename_i hk
  simp only [w_,Bool.and_eq_true,decide_eq_true_eq,vP,u0] at hk
  obtain⟨⟨⟨⟨⟨⟨⟨k1,k2⟩,k3⟩,k4⟩,k5⟩,k6⟩,k7⟩,k8⟩:=hk
  refine⟨⟨h.side,h.state,h.pol,h.own,h.far,h.halfs,h.bucket,h.out,h.inp,h.done,h.over,by simp only [List.length_append,List.length_singleton];omega,⟨h.nums.1,h.nums.2.1,⟨by dsimp only;omega,by dsimp only;omega⟩,h.nums.2.2.2⟩,?_⟩,rfl⟩
  refine h.subs.app ⟨by simp [eN],k3,?_,?_,?_,?_,?_⟩ fun x hx=>FN.1 k4 x hx
  all_goals simp only [eN,N9];omega
 exact⟨h,rfl⟩
theorem Gu {far:List AddrD}:∀ {l:List RoadD} {e:EndD},OkE e->OkE (dS far e l).1/\(dS far e l).1.state=e.state
 |[],e,h=>⟨h,rfl⟩
 |r::l,e,h=>by
  obtain⟨h1,h2⟩:=G0 (r:=r) (b:=aZ far r.far) h
  obtain⟨h3,h4⟩:=Gu (far:=far) (l:=l) h1
  exact⟨h3,h4.trans h2⟩
theorem G1 {e:EndD} {a:ActD} (h:OkE e) (hs:SmallP e.inp):OkE (ie e a).1/\(ie e a).1.state=e.state:=by
 unfold ie
 split
 ·obtain⟨h1,h2⟩:=Ft (t:=a.text) h
  obtain⟨h3,h4⟩:=Fs (k:=3) h1
  exact⟨h3,h4.trans h2⟩
 split
 ·exact HK h hs
 split
 ·exact H0 h
 split
 ·unfold bb;split
  ·exact Gu h
  exact⟨h,rfl⟩
 split
 ·unfold az;split
  ·rename_i hk
   simp only [AR,Bool.and_eq_true,Bool.not_eq_true',HI] at hk
   exact⟨⟨h.side,h.state,h.pol,h.own.put,h.far,h.halfs,h.bucket,h.out,h.inp,h.done.put hk.2,h.over,h.subs8,h.nums,h.subs⟩,rfl⟩
  exact⟨h,rfl⟩
 split
 ·unfold iA;split
  ·rename_i hk
   simp only [Du,Bool.and_eq_true,decide_eq_true_eq] at hk
   obtain⟨n,e1,hn,e2⟩:=EW hk.2
   refine⟨⟨h.side,h.state,h.pol,h.own.drop,h.far,h.halfs,h.bucket,h.out,h.inp,h.done.drop h.own ⟨_,List.getElem_mem hn,e2⟩,h.over,by dsimp only;rw [ic,List.length_map];exact h.subs8,h.nums,h.subs.map fun s hs=>?_⟩,rfl⟩
   rw [Dt];split
   ·exact⟨(h.subs.el s hs).st (by omega),rfl,fun _=>rfl⟩
   exact⟨h.subs.el s hs,rfl,fun h=>h⟩
  exact⟨h,rfl⟩
 unfold ks;split
 ·rename_i hk
  simp only [EE,Bool.and_eq_true,decide_eq_true_eq,vP] at hk
  obtain⟨n,hn⟩:=Int.eq_ofNat_of_zero_le hk.1.2.1
  refine⟨⟨h.side,h.state,h.pol,h.own,h.far,h.halfs,h.bucket,h.out,h.inp,h.done,h.over,by dsimp only;rw [bP,List.length_set];exact h.subs8,h.nums,?_⟩,rfl⟩
  dsimp only
  rw [hn,Int.toNat_natCast]
  exact h.subs.st4 (by omega)
 exact⟨h,rfl⟩
theorem PutA.core {w w':WorldD} (P:PutA w w') (C:Core w):Core w':=by
 refine⟨P.ok,by rw [P.hb];exact C.okb,P.st,by rw [P.hb];exact C.stb,P.sd,by rw [P.hb];exact C.sib,by rw [P.ky];exact C.ka,by rw [P.hb];exact C.kb,by rw [P.ky,P.hb];exact C.kk,by rw [P.pe,P.hb];exact C.pa,by rw [P.hb,P.ky];exact C.pb,by rw [P.known];exact C.keys,by rw [P.known,P.nums];exact C.tags,⟨P.dr.1,by have:=C.da.2;have:=P.dr.2;omega⟩,by rw [P.hb];exact C.db,?_,by rw [P.nums,P.hb];exact P.sa,P.sad,?_,by rw [P.nums];exact P.ha,?_,by rw [P.hb];exact C.hbd,P.oa,by rw [P.hb];exact C.ob,by rw [P.hb];exact P.fa,?_,P.oia,by rw [P.wroteB,P.hb];exact C.oib,by rw [P.wroteB];exact P.iia,?_⟩
 ·rw [P.nums,P.hb]
  intro n hn
  have:=C.nn n hn
  have hd:=P.dr.2
  exact⟨fun h=>by have:=this.1 h;omega,this.2⟩
 ·rw [P.nums,P.hb]
  intro t ht
  have S:=C.sb t ht
  obtain⟨s,h1,h2,h3,h4,h5⟩:=S.like
  obtain⟨s',g1,g2⟩:=P.evo s h1
  obtain⟨r1,r2,r3⟩:=g2.rest h2
  exact⟨S.t4,S.tn,S.st,s',g1,r1,by rw [g2.road];exact h3,by rw [g2.take];exact h4,by rw [r3];exact h5⟩
 ·rw [P.nums,P.hb]
  intro h hh
  have S:=C.hb h hh
  refine⟨S.m4,S.sep,S.th.imp id fun⟨q1,s,h1,h2,h3,h4,h5⟩=>?_⟩
  obtain⟨s',g1,g2⟩:=P.evo s h1
  exact⟨q1,s',g1,by rw [g2.mine];exact h2,by rw [g2.mine];exact h3,by rw [g2.take];exact h4,by rw [g2.road];exact h5⟩
 ·rw [P.hb]
  exact fun f hf=>⟨(C.fb f hf).1,P.tl _ _ (C.fb f hf).2⟩
 rw [P.readB,P.hb]
 obtain⟨t,ht⟩:=P.wroteA
 rw [ht];exact C.iib.app t
theorem PutB.core {w w':WorldD} (P:PutB w w') (C:Core w):Core w':=by
 refine⟨by rw [P.ha];exact C.oka,P.ok,by rw [P.ha];exact C.sta,P.st,by rw [P.ha];exact C.sia,P.sd,by rw [P.ha];exact C.ka,by rw [P.ky];exact C.kb,by rw [P.ky,P.ha];exact C.kk,by rw [P.ha,P.ky];exact C.pa,by rw [P.pe,P.ha];exact C.pb,by rw [P.known];exact C.keys,by rw [P.known,P.nums];exact C.tags,by rw [P.ha];exact C.da,⟨P.dr.1,by have:=C.db.2;have:=P.dr.2;omega⟩,?_,?_,by rw [P.ha];exact C.sad,by rw [P.nums,P.ha];exact P.sb,by rw [P.nums,P.ha];exact C.ha,by rw [P.nums,P.ha];exact P.hb,P.hbd,by rw [P.ha];exact C.oa,P.ob,?_,by rw [P.ha];exact P.fb,by rw [P.wroteA,P.ha];exact C.oia,P.oib,?_,by rw [P.wroteA];exact P.iib⟩
 ·rw [P.nums,P.ha]
  intro n hn
  have:=C.nn n hn
  have hd:=P.dr.2
  exact⟨this.1,fun h=>by have:=this.2 h;omega⟩
 ·rw [P.nums,P.ha]
  intro s hs
  have S:=C.sa s hs
  refine⟨S.t4,S.tn,S.mine,S.own,S.far,⟨Int.lt_of_lt_of_le S.th.1 P.dr.2,fun h hh hm=>?_⟩,fun h3=>?_,S.ask⟩
  ·rcases P.hev h hh with g|⟨k,g1,g2,g3,g4,g5⟩
   ·have:=S.th.1;omega
   obtain⟨q1,q2,q3⟩:=S.th.2 k g1 (by omega)
   exact⟨by rw [<-g3];exact q1,by rw [<-g4];exact q2,by rw [<-g5];exact q3⟩
  obtain⟨t,g1,g2,g3,g4⟩:=S.on h3
  obtain⟨t',k1,k2,k3,k4⟩:=P.evo t g1
  exact⟨t',k1,by rw [k2];exact g2,by rw [k3];exact g3,by rw [k4];exact g4⟩
 ·rw [P.ha]
  exact fun f hf=>⟨(C.fa f hf).1,P.tl _ _ (C.fa f hf).2⟩
 rw [P.readA,P.ha]
 obtain⟨t,ht⟩:=P.wroteB
 rw [ht];exact C.iia.app t
theorem SubsKeep.st4 (l:List SubD) (n:Nat):SubsKeep l (bP l n 4):=by
 refine⟨by simp [bP],fun i h1 h2=>?_⟩
 simp only [bP,List.getElem_set]
 split
 ·rename_i e;subst e
  rw [ke h2]
  exact⟨rfl,rfl,rfl,rfl,rfl,.inr rfl⟩
 exact SubKeep.refl _
theorem H9 (e:EndD) (h:Small e):aP 69 [.ag (e.cs 0),.ag (e.cs 7)] (e.hp false++e.hp false) (.sc (.bo true)) (e.hp false++e.hp false):=Gc e h.own h.far h.subs h.halfs h.list h.done h.over
theorem FC (w:WorldD) (h:SmallW w):aP 15 [.ag (w.cs 0),.ag (w.cs 21)] (w.hp false++w.hp false) (.sc (.bo true)) (w.hp false++w.hp false):=by
 have h1:=h.bag
 have h2:=h.past
 have h3:=h.keys
 have h4:=h.tags
 have h5:=h.nums
 have h6:=h.ansA
 have h7:=h.ansB
 refine qE Tryz.func15 Tryz.ntmps15 Tryz.results15 fun E hE=>?_
 refine qK (H9 w.a h.a) (qI 0 7++qI 21 7) ?_
 refine qK (H9 w.b h.b) (qI 7 7++qI 28 7) ?_
 refine qK (sz w.bag (by omega)) (qI 14 1++qI 35 1) ?_
 refine qK (sz w.past (by omega)) (qI 15 1++qI 36 1) ?_
 refine qK (FB w.known (by omega) (by omega)) (qI 16 2++qI 37 2) ?_
 refine qK (ft w.nums (by omega)) (qI 18 1++qI 39 1) ?_
 refine qK (ft w.answersA (by omega)) (qI 19 1++qI 40 1) ?_
 refine qK (ft w.answersB (by omega)) (qI 20 1++qI 41 1) ?_
 exact qF (qI 0 42)
end
end Go.Proofs.YtjghbknhneffjaaGreat
