/-
  Texts merged for this claim by shake.py: what its proof needs.
-/
import Derived.Test.YtjghbknhneffjaaGreatZFnBaseL
import Derived.Test.YtjghbknhneffjaaGreatZFnBaseM
import Derived.Test.YtjghbknhneffjaaGreatZFnBaseN
set_option maxHeartbeats 16000000
set_option maxRecDepth 100000
set_option linter.unusedVariables false
set_option linter.unusedSimpArgs false
namespace Go.Proofs.YtjghbknhneffjaaGreat
section
open Go.RowKit
section
variable {P:Program} {β:Be} {s:S} {a:Act} {w:World} {o:Oper} {r:OpR} {ty:TypeId}
end
end
section
open Go.RowKit
end
section
open Go.RowKit
theorem qYq {p:Prop} (e:p:=by simp (disch:=omega) only [go_sem,seval]):p:=e
section
variable {P:Program} {E:Entry} {F:S->Prop} {c q:Prop}
end
end
section
open Go.ChangeShapes Go.WideShapes Go.ChangeAt Go.RowKit
end
section
open Go.RowKit
theorem oT {l:List Int} {k:Nat} (h:k < l.length):(l.map aM)[k]? =some [.int .i64 l[k]]:=by simp [aM,h]
end
section
end
section
theorem a3 {e:EndD} {x:LetterD} (h:¬ (af e=true/\dZ x=true/\0<=cF e x)):¬ 0<=fo e x:=by
 rw [fo]
 split
 ·rename_i hc
  simp only [Bool.and_eq_true] at hc
  exact fun hk=>h ⟨hc.1,hc.2,hk⟩
 omega
theorem ds {e:EndD} {x:LetterD} {n:Nat} (h1:af e=true) (h2:dZ x=true) (h:cF e x=(n:Int)):fo e x=(n:Int):=by
 rw [fo,h1,h2,h]
 rfl
end
section
open Go.RowKit
theorem a4 (l:List Int) (hl:l.length<=1000000):aP 119 [.sc (.sl 0 0 l.length)] [some ⟨l.map aM,1,3,false,true⟩] (.sc (.bo (l.all gA))) [some ⟨l.map aM,1,3,false,true⟩]:=by
 refine qE Tryz.func119 Tryz.ntmps119 Tryz.results119 fun E hE=>?_
 refine gN 1 hE (fun s k=>s.at (qU [4,1,8,7]) [(7,.sc (.int .i64 (k:Nat)))] s.hp) (fun k=>k<=l.length/\l.all gA=(l.drop k).all gA) (fun k=>l.length - k) 0 (qI 0 1) trivial ⟨Nat.zero_le _,by simp⟩ (bw (by rfl) (by rfl) ?_) fun k hk N hN=>?_
 ·exact qYq
 obtain⟨hk1,hk2⟩:=hk
 refine ac 100 ?_
 refine qX ?_
 refine qB (fun h=>?_) fun h=>?_
 ·try simp (disch:=omega) only [go_sem,seval,oT h]
  refine bc (by omega) (Bg _ _ _) [] qM (by rfl) (ac 400 ?_)
  simp (disch:=omega) only [go_sem,seval]
  rw [List.drop_eq_getElem_cons h,List.all_cons] at hk2
  refine qB (fun h2=>?_) fun h2=>?_
  ·refine aB (qI 0 1) (trivial) _ (by simp only [go_sem];rfl) (by rfl) (by rfl) ?_
   simp (disch:=omega) only [go_sem,seval]
   have:gA l[k]=false:=by simp [gA,bj] at h2⊢;omega
   rw [hk2,this,Bool.false_and]
  refine⟨trivial,hN _ (k+1) (qI 0 1) (⟨by omega,?_⟩) (by (try dsimp only);omega) (bw (by rfl) (by rfl) ?_)⟩
  ·have:gA l[k]=true:=by simp [gA,bj] at h2⊢;omega
   rw [hk2,this,Bool.true_and]
  exact qYq
 refine aB (qI 0 1) (trivial) _ (by simp only [go_sem];rfl) (by rfl) (by rfl) ?_
 simp (disch:=omega) only [go_sem,seval]
 rw [hk2,List.drop_eq_nil_of_le (by omega),List.all_nil]
theorem a1 (x:LetterD):aP 56 [.ag x.cs] [] (.sc (.bo (dZ x))) []:=by
 refine qE Tryz.func56 Tryz.ntmps56 Tryz.results56 fun E hE=>?_
 refine qK (Bg _ _ _) [] ?_
 refine qB (fun h1=>?_) fun h1=>?_
 ·refine qK (a4 (iv x) (by show 16<=1000000;omega)) (qI 2 1) ?_
  refine qB (fun h2=>?_) fun h2=>?_
  ·refine qJ [] ?_
   simp [dZ,h1,h2]
   omega
  refine qJ [] ?_
  simp [dZ,h1,h2]
 refine qJ [] ?_
 simp [dZ,h1]
theorem d5 (p:PolicyD):aP 160 [.ag p.cs] [] (.sc (.bo (polOk p))) []:=by
 refine qE Tryz.func160 Tryz.ntmps160 Tryz.results160 fun E hE=>?_
 refine qB (fun h1=>?_) fun h1=>?_
 ·refine qK (Bg _ _ _) [] ?_
  refine qJ [] ?_
  simp [polOk,h1]
 refine qB (fun h2=>?_) fun h2=>?_
 ·refine qB (fun h3=>?_) fun h3=>?_
  ·refine qJ [] ?_
   simp [polOk,h1,h2,h3]
  refine qJ [] ?_
  simp [polOk,h1,h2,h3]
 refine qJ [] ?_
 simp [polOk,h1,h2]
theorem c0 (p:PiecesD):aP 213 [.ag (p.cs 0)] (p.hp false) (.sc (.int .i64 (nextOf p))) (p.hp false):=by
 refine qE Tryz.func213 Tryz.ntmps213 Tryz.results213 fun E hE=>?_
 refine qP (qI 0 1) ?_
 first|exact⟨⟩|rfl
theorem cT (l:List HalfD) (r:RoadD) (hl:l.length<=1048576):aP 197 [.sc (.sl 0 0 l.length),.ag r.cs] [some ⟨l.map HalfD.cs,8,121,false,true⟩] (.sc (.int .i64 (a_ l r))) [some ⟨l.map HalfD.cs,8,121,false,true⟩]:=by
 refine qE Tryz.func197 Tryz.ntmps197 Tryz.results197 fun E hE=>?_
 refine jx 1 hE (fun s (k:Nat)=>s.at (qU [0,2,4,3,10,10]) [(9,.sc (.int .i64 (k:Nat)))] (s.hp)) (fun (k:Nat)=>k<=l.length/\ck (fun h:HalfD=>dM h.road r) k (l.drop k)=a_ l r) (fun (k:Nat)=>l.length - k) 0 (qI 0 2) (⟨Nat.zero_le _,rfl⟩) fun k hk N hN=>?_
 obtain⟨hk1,hk2⟩:=hk
 refine qR ?_
 refine qB (fun h=>?_) fun h=>?_
 ·rw [iZ h] at hk2
  refine qX ?_
  refine qB (fun h2=>?_) fun h2=>?_
  ·rw [mv h2,if_pos rfl] at hk2
   refine qP (qI 0 1) ?_
   first|exact⟨⟩|exact hk2
  rw [mw h2,if_neg (by simp)] at hk2
  exact qN hN (k+1) (qI 0 2) (by (try dsimp only);exact⟨by omega,hk2⟩)
 rw [kh (by omega)] at hk2
 refine qP (qI 0 1) ?_
 first|exact⟨⟩|exact hk2
theorem b6 (l:List AddrD) (n:Int) (hl:l.length<=1048576):aP 208 [.sc (.sl 0 0 l.length),.sc (.int .i64 n)] [some ⟨l.map AddrD.cs,4,103,false,true⟩] (.sc (.int .i64 (aG l n))) [some ⟨l.map AddrD.cs,4,103,false,true⟩]:=by
 refine qE Tryz.func208 Tryz.ntmps208 Tryz.results208 fun E hE=>?_
 refine jx 1 hE (fun s (k:Nat)=>s.at (qU [0,1,4,3,10,10]) [(9,.sc (.int .i64 (k:Nat)))] (s.hp)) (fun (k:Nat)=>k<=l.length/\ck (fun a:AddrD=>a.id == n) k (l.drop k)=aG l n) (fun (k:Nat)=>l.length - k) 0 (qI 0 1) (⟨Nat.zero_le _,rfl⟩) fun k hk N hN=>?_
 obtain⟨hk1,hk2⟩:=hk
 refine qR ?_
 refine qB (fun h=>?_) fun h=>?_
 ·rw [iZ h] at hk2
  refine qX ?_
  refine qB (fun h2=>?_) fun h2=>?_
  ·rw [if_pos (by simp [h2])] at hk2
   refine qP (qI 0 1) ?_
   first|exact⟨⟩|exact hk2
  rw [if_neg (by simp [h2])] at hk2
  exact qN hN (k+1) (qI 0 1) (by (try dsimp only);exact⟨by omega,hk2⟩)
 rw [kh (by omega)] at hk2
 refine qP (qI 0 1) ?_
 first|exact⟨⟩|exact hk2
theorem a7 (e:EndD) (r:RoadD) (hl:e.subs.length<=1048576):aP 178 [.ag (e.cs 0),.ag r.cs] (e.hp false) (.sc (.int .i64 (aU e.subs r))) (e.hp false):=by
 refine qE Tryz.func178 Tryz.ntmps178 Tryz.results178 fun E hE=>?_
 refine jx 7 hE (fun s (k:Nat)=>s.at (qU [0,3,4,4,11,15]) [(10,.sc (.int .i64 (k:Nat)))] (s.hp)) (fun (k:Nat)=>k<=e.subs.length/\ck (fun s:SubD=>s.state != 4 && dM s.road r) k (e.subs.drop k)=aU e.subs r) (fun (k:Nat)=>e.subs.length - k) 0 (qI 0 9) (⟨Nat.zero_le _,rfl⟩) fun k hk N hN=>?_
 obtain⟨hk1,hk2⟩:=hk
 refine qR ?_
 refine qB (fun h=>?_) fun h=>?_
 ·rw [iZ h] at hk2
  refine qX ?_
  refine qB (fun h2=>?_) fun h2=>?_
  ·refine qB (fun h3=>?_) fun h3=>?_
   ·rw [if_pos (by simp [mv h3,h2])] at hk2
    refine qP (qI 0 7) ?_
    first|exact⟨⟩|exact hk2
   rw [if_neg (by simp [mw h3])] at hk2
   exact qN hN (k+1) (qI 0 9) (by (try dsimp only);exact⟨by omega,hk2⟩)
  rw [if_neg (by simp [h2])] at hk2
  refine qX ?_
  exact qN hN (k+1) (qI 0 9) (by (try dsimp only);exact⟨by omega,hk2⟩)
 rw [kh (by omega)] at hk2
 refine qP (qI 0 7) ?_
 first|exact⟨⟩|exact hk2
theorem b7 (r:RoadD):aP 177 [.ag r.cs] [] (.sc (.bo (ms r))) []:=by
 refine qE Tryz.func177 Tryz.ntmps177 Tryz.results177 fun E hE=>?_
 refine qK (a4 [r.own,r.far,r.port] (by simp)) (qI 1 1) ?_
 refine qP [] ?_
 first|exact⟨⟩|simp [ms,Bool.and_assoc]
theorem c9 (x:OutD):aP 174 [.ag x.cs] [] (.sc (.bo (outOk x))) []:=by
 refine qE Tryz.func174 Tryz.ntmps174 Tryz.results174 fun E hE=>?_
 refine qK (a4 [x.base] (by simp)) (qI 1 1) ?_
 have e1:[x.base].all gA=gA x.base:=by simp
 rw [e1]
 refine qX ?_
 refine qB (fun h1=>?_) fun h1=>?_
 ·refine qK (Bg _ _ _) [] ?_
  refine qB (fun h2=>?_) fun h2=>?_
  ·refine qB (fun h3=>?_) fun h3=>?_
   ·refine qK (Bg _ _ _) [] ?_
    refine qJ [] ?_
    simp [outOk,h1,h2,h3]
   refine qJ [] ?_
   simp [outOk,h1,h2,h3]
  refine qJ [] ?_
  simp [outOk,h1,h2]
 refine qJ [] ?_
 simp [outOk,h1]
theorem n0 (p:PiecesD) (hl:p.list.length<=1048576):aP 258 [.ag (p.cs 0)] (p.hp false) (.sc (.int .i64 (mt p))) (p.hp false):=by
 refine qE Tryz.func258 Tryz.ntmps258 Tryz.results258 fun E hE=>?_
 refine jx 1 hE (fun s (x:Nat×Int)=>s.at (qU [0,2,5,5,13,9]) [(12,.sc (.int .i64 (x.1:Nat))),(3,.sc (.int .i64 x.2))] (s.hp)) (fun (x:Nat×Int)=>x.1<=p.list.length/\fD x.2 (p.list.drop x.1)=mt p) (fun (x:Nat×Int)=>p.list.length - x.1) (0,(p.ready.length:Int)) (qI 0 2) (⟨Nat.zero_le _,rfl⟩) fun x hx N hN=>?_
 obtain⟨k,n⟩:=x
 obtain⟨hk1,hk2⟩:=hx
 dsimp only at hk1 hk2
 refine qR ?_
 refine qB (fun h=>?_) fun h=>?_
 ·rw [rm h] at hk2
  refine qX ?_
  exact qN hN (k+1,IntKind.i64.wrap (n+(p.list[k].text.length:Int))) (qI 0 2) (by (try dsimp only);exact⟨by omega,hk2⟩)
 rw [List.drop_eq_nil_of_le (by omega),fD] at hk2
 refine qP (qI 0 1) ?_
 first|exact⟨⟩|exact hk2
theorem c8 (b:BucketD):aP 173 [.ag b.cs] [] (.sc (.bo (bucketOk b))) []:=by
 refine qE Tryz.func173 Tryz.ntmps173 Tryz.results173 fun E hE=>?_
 refine qK (Bg _ _ _) [] ?_
 refine qB (fun h1=>?_) fun h1=>?_
 ·refine qK (Bg _ _ _) [] ?_
  refine qB (fun h2=>?_) fun h2=>?_
  ·refine qK (Bg _ _ _) [] ?_
   refine qJ [] ?_
   simp [bucketOk,h1,h2]
  refine qJ [] ?_
  simp [bucketOk,h1,h2]
 refine qJ [] ?_
 simp [bucketOk,h1]
theorem da (l:List AddrD) (hl:l.length<=1048577):aP 171 [.sc (.sl 0 0 l.length)] [some ⟨l.map AddrD.cs,4,103,false,true⟩] (.sc (.bo (aX l))) [some ⟨l.map AddrD.cs,4,103,false,true⟩]:=by
 refine qE Tryz.func171 Tryz.ntmps171 Tryz.results171 fun E hE=>?_
 refine qB (fun g1=>?_) fun g1=>?_
 ·have hr:aX l=false:=by simp [aX];omega
  rw [hr]
  exact qF (qI 0 1)
 have hr:aX l=dy (gB l) l.length:=by simp [aX];omega
 rw [hr]
 refine qX ?_
 refine jx 1 hE (fun s (k:Nat)=>s.at (qU [2,3,6,4,13,44]) [(12,.sc (.int .i64 (k:Nat)))] (s.hp)) (fun (k:Nat)=>k<=l.length/\∀ j,j < k->gB l j=true) (fun (k:Nat)=>l.length - k) 0 (qI 0 1) (⟨Nat.zero_le _,fun j hj=>absurd hj (Nat.not_lt_zero _)⟩) fun k hk N hN=>?_
 obtain⟨hk1,hk2⟩:=hk
 refine qR ?_
 refine qB (fun h=>?_) fun h=>?_
 ·have hA:=i1 h
  obtain⟨a,ha⟩:∃ a,a=l[k]:=⟨_,rfl⟩
  refine qX ?_
  refine qD [0,1,2,3,4,5,6,7,8,9,10,11,12,13,14,15,16,17,18,19,20,21,22,23,24] ?_
  refine aQ (Bg _ _ _) [] ?_
  refine qB (fun h2=>?_) fun h2=>?_
  ·refine aQ (Bg _ _ _) [] ?_
   refine qB (fun h3=>?_) fun h3=>?_
   ·by_cases h0:k=0
    ·subst h0
     refine qX ?_
     refine qG ?_
     refine jx 1 hE (fun s (i:Nat)=>s.at (qU [2,1,6,4,14,27,42,2,47,10]) [(46,.sc (.int .i64 (i:Nat)))] (s.hp)) (fun (i:Nat)=>i<=0) (fun (i:Nat)=>0 - i) 0 (qI 0 2) (Nat.zero_le _) fun i hi N2 hN2=>?_
     refine ac 400 ?_
     have e:i=0:=by omega
     subst e
     refine qX ?_
     have hg:gB l 0=true:=by
      rw [gB,hA]
      simp [h2,h3]
     exact qN hN (0+1) (qI 0 1) (by (try dsimp only);exact⟨by omega,ee hk2 hg⟩)
    have hk':k - 1 < l.length:=by omega
    have hA':=i1 hk'
    obtain⟨m,rfl⟩:∃ m,k=m+1:=⟨k - 1,by omega⟩
    have em:m+1 - 1=m:=by omega
    have em2:((m+1:Nat):Int) - 1=(m:Int):=by omega
    have em3:(m:Int)+1 - 1=(m:Int):=by omega
    have hm:m < l.length:=by omega
    try simp (disch:=omega) only [go_sem,seval,em2,em3,aT hm]
    refine⟨by (try simp (disch:=omega) only [go_sem,List.length_set,seval,em2,em3])<;>omega,ac 400 ?_⟩
    refine qX ?_
    refine qB (fun h5=>?_) fun h5=>?_
    ·have hb:gB l (m+1)=false:=by
      rw [gB,hA,hA']
      simp
      omega
     rw [al h hb]
     exact qF (qI 0 1)
    have h5':l[m].id < l[m+1].id:=by omega
    refine jx 1 hE (fun s (i:Nat)=>s.at (qU [2,1,6,4,14,27,42,2,47,10]) [(46,.sc (.int .i64 (i:Nat)))] (s.hp)) (fun (i:Nat)=>i<=m+1/\((l.take (m+1)).drop i).all (fun b=> !(l[m+1].addr == b.addr))=(l.take (m+1)).all (fun b=> !(l[m+1].addr == b.addr))) (fun (i:Nat)=>m+1 - i) 0 (qI 0 2) (⟨Nat.zero_le _,rfl⟩) fun i hi N2 hN2=>?_
    obtain⟨hi1,hi2⟩:=hi
    refine qR ?_
    refine qB (fun h6=>?_) fun h6=>?_
    ·rw [nJ (by omega) (by omega)] at hi2
     have hil:i < l.length:=by omega
     try simp (disch:=omega) only [go_sem,seval,aT hil]
     refine qB (fun h7=>?_) fun h7=>?_
     ·have hb:gB l (m+1)=false:=by
       rw [gB,hA,<-hi2]
       simp [h7]
      rw [al h hb]
      exact qF (qI 0 1)
     have h7':¬ l[m+1].addr=l[i].addr:=fun e=>h7 (by first|exact e|exact e.symm)
     rw [show (!(l[m+1].addr == l[i].addr))=true from by simp [h7'],Bool.true_and] at hi2
     exact qN hN2 (i+1) (qI 0 2) (by (try dsimp only);exact⟨by omega,hi2⟩)
    rw [List.drop_eq_nil_of_le (by simp;omega),List.all_nil] at hi2
    have hg:gB l (m+1)=true:=by
     rw [gB,hA,<-hi2]
     simp [h2,h3,i1 hm,h5']
    exact qN hN (m+1+1) (qI 0 1) (by (try dsimp only);exact⟨by omega,ee hk2 hg⟩)
   have hb:gB l k=false:=by simp [gB,hA,h3]
   rw [al h hb]
   refine qG ?_
   exact qF (qI 0 1)
  have hb:gB l k=false:=by simp [gB,hA,h2]
  rw [al h hb]
  refine qG ?_
  exact qF (qI 0 1)
 have e:k=l.length:=by omega
 subst e
 rw [ed hk2]
 exact qF (qI 0 1)
theorem eb (l:List HalfD) (hl:l.length<=1048576):aP 172 [.sc (.sl 0 0 l.length)] [some ⟨l.map HalfD.cs,8,121,false,true⟩] (.sc (.bo (cv l))) [some ⟨l.map HalfD.cs,8,121,false,true⟩]:=by
 refine qE Tryz.func172 Tryz.ntmps172 Tryz.results172 fun E hE=>?_
 refine qB (fun g1=>?_) fun g1=>?_
 ·have hr:cv l=false:=by simp [cv];omega
  rw [hr]
  exact qF (qI 0 1)
 have hr:cv l=dy (fO l) l.length:=by simp [cv];omega
 rw [hr]
 refine qX ?_
 refine jx 1 hE (fun s (k:Nat)=>s.at (qU [2,6,11,32]) [(10,.sc (.int .i64 (k:Nat)))] (s.hp)) (fun (k:Nat)=>k<=l.length/\∀ j,j < k->fO l j=true) (fun (k:Nat)=>l.length - k) 0 (qI 0 1) (⟨Nat.zero_le _,fun j hj=>absurd hj (Nat.not_lt_zero _)⟩) fun k hk N hN=>?_
 obtain⟨hk1,hk2⟩:=hk
 refine qR ?_
 refine qB (fun h=>?_) fun h=>?_
 ·have hA:=tG h
  refine qX ?_
  refine qK (cT l l[k].road hl) (qI 0 1) ?_
  refine qB (fun h2=>?_) fun h2=>?_
  ·refine qK (b7 l[k].road) [] ?_
   refine qB (fun h3=>?_) fun h3=>?_
   ·refine qK (a4 [l[k].theirs,l[k].mine,l[k].give,l[k].take,l[k].till] (by simp)) (qI 2 1) ?_
    generalize hq:[l[k].theirs,l[k].mine,l[k].give,l[k].take,l[k].till].all gA=q
    refine qB (fun h4=>?_) fun h4=>?_
    ·have hb:fO l k=false:=by simp [fO,hA,hq,h4]
     rw [al h hb]
     exact qF (qI 0 1)
    have hg:fO l k=true:=by simp [fO,hA,hq,h4,h2,h3]
    exact qN hN (k+1) (qI 0 1) (by (try dsimp only);exact⟨by omega,ee hk2 hg⟩)
   have hb:fO l k=false:=by simp [fO,hA,h3]
   rw [al h hb]
   exact qF (qI 0 1)
  have hb:fO l k=false:=by simp [fO,hA,h2]
  rw [al h hb]
  exact qF (qI 0 1)
 have e:k=l.length:=by omega
 subst e
 rw [ed hk2]
 exact qF (qI 0 1)
theorem a2 (p:PiecesD) (hl:p.list.length<=1048576):aP 175 [.ag (p.cs 0)] (p.hp false) (.sc (.bo (piecesOk p))) (p.hp false):=by
 refine qE Tryz.func175 Tryz.ntmps175 Tryz.results175 fun E hE=>?_
 refine qK (a4 [p.read] (by simp)) (qI 2 1) ?_
 have e1:[p.read].all gA=gA p.read:=by simp
 rw [e1]
 refine qX ?_
 refine qB (fun g1=>?_) fun g1=>?_
 ·skip
  refine qB (fun g2=>?_) fun g2=>?_
  ·skip
   have hr:piecesOk p=false:=by simp [piecesOk,g2];try omega
   rw [hr]
   exact qF (qI 0 1)
  skip
  refine qK (c0 p) (qI 0 1) ?_
  refine jx 1 hE (fun s (x:Nat×Int)=>s.at (qU [0,1,2,1,5,15,23,24]) [(22,.sc (.int .i64 (x.1:Nat))),(3,.sc (.int .i64 x.2))] (s.hp)) (fun (x:Nat×Int)=>x.1<=p.list.length/\gV x.2 (p.list.drop x.1)=gV (nextOf p) p.list) (fun (x:Nat×Int)=>p.list.length - x.1) (0,nextOf p) (qI 0 3) (⟨Nat.zero_le _,rfl⟩) fun x hx N hN=>?_
  obtain⟨k,en⟩:=x
  obtain⟨hk1,hk2⟩:=hx
  dsimp only at hk1 hk2
  refine qR ?_
  refine qB (fun h=>?_) fun h=>?_
  ·refine qX ?_
   have fx:gV en (p.list.drop k)=(!(p.list[k].text == []) && decide (p.list[k].pos<=2000000000) && decide (en < p.list[k].pos) && gV (IntKind.i64.wrap (p.list[k].pos+(p.list[k].text.length:Int))) (p.list.drop (k+1))):=wE h
   have ft:(p.list[k].text == [])=decide ((p.list[k].text.length:Int)=0):=by
    cases p.list[k].text with
    |nil=>rfl
    |cons a r=>simp;omega
   by_cases t1:(p.list[k].text.length:Int)=0
   ·have ft':(p.list[k].text == [])=true:=by rw [ft];exact decide_eq_true t1
    have fx':gV en (p.list.drop k)=false:=by rw [fx,ft'];simp
    try simp (disch:=omega) only [go_sem,seval,ft']
    have hr:piecesOk p=false:=by simp [piecesOk,<-hk2,fx']
    rw [hr]
    exact qF (qI 0 1)
   have ft':(p.list[k].text == [])=false:=by rw [ft];exact decide_eq_false t1
   by_cases t2:p.list[k].pos<=2000000000
   ·by_cases t3:en < p.list[k].pos
    ·have fx':gV en (p.list.drop k)=gV (IntKind.i64.wrap (p.list[k].pos+(p.list[k].text.length:Int))) (p.list.drop (k+1)):=by rw [fx,ft'];simp [t2,t3]
     try simp (disch:=omega) only [go_sem,seval,ft']
     rw [fx'] at hk2
     refine qX ?_
     exact qN hN (k+1,IntKind.i64.wrap (p.list[k].pos+(p.list[k].text.length:Int))) (qI 0 3) (by (try dsimp only);exact⟨by omega,hk2⟩)
    have fx':gV en (p.list.drop k)=false:=by rw [fx,ft'];simp [t3]
    try simp (disch:=omega) only [go_sem,seval,ft']
    have hr:piecesOk p=false:=by simp [piecesOk,<-hk2,fx']
    rw [hr]
    exact qF (qI 0 1)
   have fx':gV en (p.list.drop k)=false:=by rw [fx,ft'];simp [t2]
   by_cases t3:en < p.list[k].pos
   ·try simp (disch:=omega) only [go_sem,seval,ft']
    have hr:piecesOk p=false:=by simp [piecesOk,<-hk2,fx']
    rw [hr]
    exact qF (qI 0 1)
   try simp (disch:=omega) only [go_sem,seval,ft']
   have hr:piecesOk p=false:=by simp [piecesOk,<-hk2,fx']
   rw [hr]
   exact qF (qI 0 1)
  rw [List.drop_eq_nil_of_le (by omega),gV] at hk2
  have g2':(p.list.length:Int)<=20:=by omega
  have hr:piecesOk p=decide (mt p<=200):=by simp [piecesOk,<-hk2,g1,g2']
  rw [hr]
  refine qX ?_
  refine qK (n0 p hl) (qI 0 1) ?_
  exact qF (qI 0 1)
 skip
 have hr:piecesOk p=false:=by simp [piecesOk,g1];try omega
 rw [hr]
 exact qF (qI 0 1)
theorem n2 (l:List Int) (hl:l.length<=1048576):aP 259 [.sc (.sl 0 0 l.length)] [some ⟨l.map aM,1,3,false,true⟩] (.sc (.bo (dy (cK l) l.length))) [some ⟨l.map aM,1,3,false,true⟩]:=by
 refine qE Tryz.func259 Tryz.ntmps259 Tryz.results259 fun E hE=>?_
 refine jx 1 hE (fun s (k:Nat)=>s.at (qU [2,1,4,16]) [(3,.sc (.int .i64 (k:Nat)))] (s.hp)) (fun (k:Nat)=>1<=k/\(k<=l.length\/k=1)/\∀ j,j < k->cK l j=true) (fun (k:Nat)=>l.length - k) 1 (qI 0 1) (⟨by decide,.inr rfl,fun j hj=>by rw [show j=0 from by omega];rfl⟩) fun k hk N hN=>?_
 obtain⟨hk0,hk1,hk2⟩:=hk
 refine qR ?_
 obtain⟨m,rfl⟩:∃ m,k=m+1:=⟨k - 1,by omega⟩
 have em2:((m+1:Nat):Int) - 1=(m:Int):=by omega
 have em3:(m:Int)+1 - 1=(m:Int):=by omega
 refine qX ?_
 refine qB (fun h=>?_) fun h=>?_
 ·have hm:m < l.length:=by omega
  have h':m+1 < l.length:=by omega
  refine qD [0,1,2,3,4,5,6,7,8,9] ?_
  try simp (disch:=omega) only [go_sem,seval,em2,em3,aT hm,aT h']
  refine⟨by (try simp (disch:=omega) only [go_sem,List.length_set,seval,em2,em3])<;>omega,ac 400 ?_⟩
  refine qX ?_
  refine qB (fun h3=>?_) fun h3=>?_
  ·have hb:cK l (m+1)=false:=by
    rw [cK,pQ h',show m+1 - 1=m from rfl,pQ hm]
    simp
    omega
   rw [al h' hb]
   exact qF (qI 0 1)
  have hg:cK l (m+1)=true:=by
   rw [cK,pQ h',show m+1 - 1=m from rfl,pQ hm]
   simp
   omega
  exact qN hN (m+1+1) (qI 0 1) (by (try dsimp only);exact⟨by omega,by omega,ee hk2 hg⟩)
 rw [ed (fun j hj=>hk2 j (by omega))]
 exact qF (qI 0 1)
theorem fa (l:List Int) (m:List AddrD) (hl:l.length<=1048576) (hm:m.length<=1048576):aP 176 [.sc (.sl 0 0 l.length),.sc (.sl 1 0 m.length)] [some ⟨l.map aM,1,3,false,true⟩,some ⟨m.map AddrD.cs,4,103,false,true⟩] (.sc (.bo (oH l m))) [some ⟨l.map aM,1,3,false,true⟩,some ⟨m.map AddrD.cs,4,103,false,true⟩]:=by
 refine qE Tryz.func176 Tryz.ntmps176 Tryz.results176 fun E hE=>?_
 refine qK (n2 l hl) (qI 0 1) ?_
 rw [oH]
 generalize dy (cK l) l.length=q
 cases q with
 |false=>
  refine qX ?_
  exact qF (qI 0 2)
 |true=>
  rw [Bool.true_and]
  refine qX ?_
  refine jx 2 hE (fun s (k:Nat)=>s.at (qU [0,1,4,1,6,4,13,13]) [(12,.sc (.int .i64 (k:Nat)))] (s.hp)) (fun (k:Nat)=>k<=l.length/\∀ j,j < k->fE l m j=true) (fun (k:Nat)=>l.length - k) 0 (qI 0 2) (⟨Nat.zero_le _,fun j hj=>absurd hj (Nat.not_lt_zero _)⟩) fun k hk N hN=>?_
  obtain⟨hk1,hk2⟩:=hk
  refine qR ?_
  refine qB (fun h=>?_) fun h=>?_
  ·refine qX ?_
   refine qK (Bg _ _ _) [] ?_
   refine qB (fun h2=>?_) fun h2=>?_
   ·refine qK (b6 m l[k] hm) (qI 1 1) ?_
    refine qB (fun h3=>?_) fun h3=>?_
    ·have hb:fE l m k=false:=by rw [fE,pQ h];simp [h2];omega
     rw [al h hb]
     exact qF (qI 0 2)
    have hg:fE l m k=true:=by rw [fE,pQ h];simp [h2];omega
    exact qN hN (k+1) (qI 0 2) (by (try dsimp only);exact⟨by omega,ee hk2 hg⟩)
   have hb:fE l m k=false:=by rw [fE,pQ h];simp [h2]
   rw [al h hb]
   exact qF (qI 0 2)
  have e:k=l.length:=by omega
  subst e
  rw [ed hk2]
  exact qF (qI 0 2)
theorem ap (e:EndD) (h0:e.own.length<=1048576) (h1:e.far.length<=1048576) (h2:e.subs.length<=1048576) (h3:e.halfs.length<=1048576) (h4:e.inp.list.length<=1048576) (h5:e.done.length<=1048576) (h6:e.over.length<=1048576):aP 89 [.ag (e.cs 0)] (e.hp false) (.sc (.bo (af e))) (e.hp false):=by
 refine qE Tryz.func89 Tryz.ntmps89 Tryz.results89 fun E hE=>?_
 refine qK (Bg _ _ _) [] ?_
 refine qB (fun g1=>?_) fun g1=>?_
 ·skip
  refine qK (Bg _ _ _) [] ?_
  refine qB (fun g2=>?_) fun g2=>?_
  ·skip
   refine qK (d5 e.policy) [] ?_
   refine qB (fun g3=>?_) fun g3=>?_
   ·skip
    refine qK (da e.own (by omega)) (qI 0 1) ?_
    refine qB (fun g4=>?_) fun g4=>?_
    ·skip
     refine qK (da e.far (by omega)) (qI 1 1) ?_
     refine qB (fun g5=>?_) fun g5=>?_
     ·skip
      refine qK (eb e.halfs h3) (qI 3 1) ?_
      refine qB (fun g6=>?_) fun g6=>?_
      ·skip
       refine qK (c8 e.bucket) [] ?_
       refine qB (fun g7=>?_) fun g7=>?_
       ·skip
        refine qK (c9 e.out) [] ?_
        refine qB (fun g8=>?_) fun g8=>?_
        ·skip
         refine qK (a2 e.inp h4) (qI 4 1) ?_
         refine qB (fun g9=>?_) fun g9=>?_
         ·skip
          have hr:af e=false:=by first|(simp [af,g9];done)|(simp [af];intros;omega)
          rw [hr]
          exact qF (qI 0 7)
         skip
         refine qX ?_
         refine qK (fa e.done e.own h5 h0) (qI 5 1++qI 0 1) ?_
         refine qB (fun g10=>?_) fun g10=>?_
         ·skip
          refine qK (fa e.over e.far h6 h1) (qI 6 1++qI 1 1) ?_
          refine qB (fun g11=>?_) fun g11=>?_
          ·skip
           refine qB (fun g12=>?_) fun g12=>?_
           ·skip
            refine qK (a4 [e.key,e.peer,e.draw,e.now,e.pick] (by simp)) (qI 8 1) ?_
            generalize hq:[e.key,e.peer,e.draw,e.now,e.pick].all gA=q
            refine qB (fun g13=>?_) fun g13=>?_
            ·skip
             have hr:af e=false:=by first|(simp [af,hq,g13];done)|(simp [af];intros;omega)
             rw [hr]
             exact qF (qI 0 7)
            skip
            refine qX ?_
            refine jx 7 hE (fun s (k:Nat)=>s.at (qU [0,1,2,91,96,41]) [(95,.sc (.int .i64 (k:Nat)))] (s.hp)) (fun (k:Nat)=>k<=e.subs.length/\∀ j,j < k->cz e.subs j=true) (fun (k:Nat)=>e.subs.length - k) 0 (qI 0 9) (⟨Nat.zero_le _,fun j hj=>absurd hj (Nat.not_lt_zero _)⟩) fun k hk N hN=>?_
            obtain⟨hk1,hk2⟩:=hk
            refine qR ?_
            refine qB (fun h=>?_) fun h=>?_
            ·have hA:=ke h
             refine qX ?_
             refine qK (Bg _ _ _) [] ?_
             refine qB (fun s1=>?_) fun s1=>?_
             ·skip
              refine qK (b7 e.subs[k].road) [] ?_
              refine qB (fun s2=>?_) fun s2=>?_
              ·skip
               refine qK (a4 [e.subs[k].mine,e.subs[k].theirs,e.subs[k].give,e.subs[k].take,e.subs[k].tries] (by simp)) (qI 10 1) ?_
               generalize hsq:[e.subs[k].mine,e.subs[k].theirs,e.subs[k].give,e.subs[k].take,e.subs[k].tries].all gA=sq
               refine qB (fun s3=>?_) fun s3=>?_
               ·skip
                have hb:cz e.subs k=false:=by simp [cz,hA,hsq,s3]
                have hu:=al h hb
                have hr:af e=false:=by simp [af,hu]
                rw [hr]
                exact qF (qI 0 7)
               skip
               refine qX ?_
               refine qB (fun s4=>?_) fun s4=>?_
               ·refine qK (a7 e e.subs[k].road h2) (qI 0 7) ?_
                refine qB (fun s5=>?_) fun s5=>?_
                ·skip
                 have hb:cz e.subs k=false:=by simp [cz,hA,s1,s2,hsq,s3,s4,s5]
                 have hu:=al h hb
                 have hr:af e=false:=by simp [af,hu]
                 rw [hr]
                 exact qF (qI 0 7)
                skip
                have hg:cz e.subs k=true:=by first|(simp [cz,hA,s1,s2,hsq,s3,s4,s5];done)|(simp [cz,hA,s1,s2,hsq,s3,s4,s5];decide)
                exact qN hN (k+1) (qI 0 9) (by (try dsimp only);exact⟨by omega,ee hk2 hg⟩)
               skip
               have hg:cz e.subs k=true:=by first|(simp [cz,hA,s1,s2,hsq,s3,s4];done)|(simp [cz,hA,s1,s2,hsq,s3,s4];decide)
               exact qN hN (k+1) (qI 0 9) (by (try dsimp only);exact⟨by omega,ee hk2 hg⟩)
              skip
              have hb:cz e.subs k=false:=by simp [cz,hA,s2]
              have hu:=al h hb
              have hr:af e=false:=by simp [af,hu]
              rw [hr]
              exact qF (qI 0 7)
             skip
             have hb:cz e.subs k=false:=by simp [cz,hA,s1]
             have hu:=al h hb
             have hr:af e=false:=by simp [af,hu]
             rw [hr]
             exact qF (qI 0 7)
            have ek:k=e.subs.length:=by omega
            subst ek
            have hu:=ed hk2
            have g12':(e.subs.length:Int)<=8:=by omega
            have hr:af e=true:=by simp [af,g1,g2,g3,g4,g5,g6,g7,g8,g9,g10,g11,g12',hq,g13,hu]
            rw [hr]
            exact qF (qI 0 7)
           skip
           have hr:af e=false:=by first|(simp [af,g12];done)|(simp [af];intros;omega)
           rw [hr]
           exact qF (qI 0 7)
          skip
          have hr:af e=false:=by first|(simp [af,g11];done)|(simp [af];intros;omega)
          rw [hr]
          exact qF (qI 0 7)
         skip
         have hr:af e=false:=by first|(simp [af,g10];done)|(simp [af];intros;omega)
         rw [hr]
         exact qF (qI 0 7)
        skip
        have hr:af e=false:=by first|(simp [af,g8];done)|(simp [af];intros;omega)
        rw [hr]
        exact qF (qI 0 7)
       skip
       have hr:af e=false:=by first|(simp [af,g7];done)|(simp [af];intros;omega)
       rw [hr]
       exact qF (qI 0 7)
      skip
      have hr:af e=false:=by first|(simp [af,g6];done)|(simp [af];intros;omega)
      rw [hr]
      exact qF (qI 0 7)
     skip
     have hr:af e=false:=by first|(simp [af,g5];done)|(simp [af];intros;omega)
     rw [hr]
     exact qF (qI 0 7)
    skip
    have hr:af e=false:=by first|(simp [af,g4];done)|(simp [af];intros;omega)
    rw [hr]
    exact qF (qI 0 7)
   skip
   have hr:af e=false:=by first|(simp [af,g3];done)|(simp [af];intros;omega)
   rw [hr]
   exact qF (qI 0 7)
  skip
  have hr:af e=false:=by first|(simp [af,g2];done)|(simp [af];intros;omega)
  rw [hr]
  exact qF (qI 0 7)
 skip
 have hr:af e=false:=by first|(simp [af,g1];done)|(simp [af];intros;omega)
 rw [hr]
 exact qF (qI 0 7)
theorem a5 (x:LetterD):aP 192 [.ag x.cs] [] (.ag (roadOf x).cs) []:=by
 refine qE Tryz.func192 Tryz.ntmps192 Tryz.results192 fun E hE=>?_
 refine qP [] ?_
 first|exact⟨⟩|simp [roadOf]
theorem a0 (r:RoadD) (x:LetterD):aP 196 [.ag r.cs,.ag x.cs] [] (.ag (aq r x).cs) []:=by
 refine qE Tryz.func196 Tryz.ntmps196 Tryz.results196 fun E hE=>?_
 refine qP [] ?_
 first|exact⟨⟩|simp [aq]
theorem b8 (a b c d:Int):aP 201 [.sc (.int .i64 a),.sc (.int .i64 b),.sc (.int .i64 c),.sc (.int .i64 d)] [] (.ag (TagD.cs ⟨1,a,b,c,d⟩)) []:=by
 refine qE Tryz.func201 Tryz.ntmps201 Tryz.results201 fun E hE=>?_
 exact qF []
theorem a9 (a b c d:Int):aP 203 [.sc (.int .i64 a),.sc (.int .i64 b),.sc (.int .i64 c),.sc (.int .i64 d)] [] (.ag (TagD.cs ⟨2,a,b,c,d⟩)) []:=by
 refine qE Tryz.func203 Tryz.ntmps203 Tryz.results203 fun E hE=>?_
 exact qF []
theorem el (a b c d:Int):aP 207 [.sc (.int .i64 a),.sc (.int .i64 b),.sc (.int .i64 c),.sc (.int .i64 d)] [] (.ag (TagD.cs ⟨3,a,b,c,d⟩)) []:=by
 refine qE Tryz.func207 Tryz.ntmps207 Tryz.results207 fun E hE=>?_
 exact qF []
theorem d6 (s:Int):aP 198 [.sc (.int .i64 s)] [] (.sc (.int .i64 (ey s))) []:=by
 obtain⟨R,hR⟩:∃ R,R=ey s:=⟨_,rfl⟩
 rw [<-hR]
 refine qE Tryz.func198 Tryz.ntmps198 Tryz.results198 fun E hE=>?_
 refine qK (Bg _ _ _) [] ?_
 refine qB (fun h1=>?_) fun h1=>?_
 ·refine qJ [] ?_
  rw [hR,ey,if_neg (by simp [h1])]
 have h1':=h1
 simp only [bj,Bool.and_eq_true,decide_eq_true_eq] at h1'
 refine qJ [] ?_
 rw [hR,ey,if_pos h1]
theorem nn (b:BucketD):aP 199 [.ag b.cs] [] (.tu [.ag (bI b).1.cs,.sc (.bo (bI b).2)]) []:=by
 obtain⟨R,hR⟩:∃ R,R=bI b:=⟨_,rfl⟩
 rw [<-hR]
 refine qE Tryz.func199 Tryz.ntmps199 Tryz.results199 fun E hE=>?_
 refine qK (c8 b) [] ?_
 refine qB (fun h1=>?_) fun h1=>?_
 ·refine qB (fun h2=>?_) fun h2=>?_
  ·rw [bI,if_neg (by omega)] at hR
   subst hR
   exact qF []
  rw [bI,if_pos ⟨h1,h2⟩] at hR
  subst hR
  have h1':=h1
  simp only [bucketOk,bj,Bool.and_eq_true,decide_eq_true_eq] at h1'
  exact qF []
 rw [bI,if_neg (by simp [h1])] at hR
 subst hR
 exact qF []
theorem a6 (e:EndD) (x:LetterD) (hl:e.subs.length<=1048576):aP 206 [.ag (e.cs 0),.ag x.cs] (e.hp false) (.sc (.int .i64 (cF e x))) (e.hp false):=by
 obtain⟨R,hR⟩:∃ R,R=cF e x:=⟨_,rfl⟩
 rw [<-hR]
 have hS:=a7 e (roadOf x) hl
 simp only [cF] at hR
 generalize hk:aU e.subs (roadOf x)=k at hS hR
 have hbd:=fP e.subs (roadOf x)
 rw [hk] at hbd
 refine qE Tryz.func206 Tryz.ntmps206 Tryz.results206 fun E hE=>?_
 refine qD [0,1,2,3,4] ?_
 refine aQ (a5 x) [] ?_
 refine aQ (hS) (qI 0 7) ?_
 refine qG ?_
 rcases hbd with rfl|⟨hb0,hb1⟩
 ·refine qD [0,1,2,3,4,5,6,7,8,9,10,11,12,13,14,15,16,17,18,19,20,21] ?_
  refine qG ?_
  refine qJ (qI 0 7) ?_
  rw [hR]
  rfl
 obtain⟨n,rfl⟩:=Int.eq_ofNat_of_zero_le hb0
 have hn:n < e.subs.length:=by omega
 have hsub:aN e.subs (n:Int).toNat=e.subs[n]:=by simp [aN,List.getD_eq_getElem?_getD,hn]
 rw [if_neg (by omega),hsub] at hR
 refine qD [0,1,2,3,4,5,6,7,8,9,10,11,12,13,14,15,16,17,18,19,20,21] ?_
 refine qB (fun h1=>?_) fun h1=>?_
 ·refine qG ?_
  refine qB (fun h2=>?_) fun h2=>?_
  ·rw [if_neg (fun h=>h2 h.2)] at hR
   refine qJ (qI 0 7) ?_
   exact hR.symm
  rw [if_pos ⟨h1,h2⟩] at hR
  refine qJ (qI 0 7) ?_
  exact hR.symm
 rw [if_neg (fun h=>h1 h.1)] at hR
 refine qG ?_
 refine qJ (qI 0 7) ?_
 exact hR.symm
theorem db (l:List HalfD) (h:HalfD) (hl:l.length<=1000000):aP 200 [.sc (.sl 0 0 l.length),.ag h.cs] [some ⟨l.map HalfD.cs,8,121,false,true⟩]
  (.tu [.sc (.sl 1 0 (bJ l h).1.length),.sc (.bo (bJ l h).2)]) [some ⟨l.map HalfD.cs,8,121,false,true⟩,some ⟨(bJ l h).1.map HalfD.cs,8,121,true,true⟩]:=by
 have hA:=cT l h.road (by omega)
 have hbd:=ix l h.road
 have hO:=eb (cx l h) (by have:=dN l h;omega)
 have hll:=dN l h
 have hL:=cx.eq_1 l h
 have ht:=oI (l:=l) (h:=h)
 have hf:=wF (l:=l) (h:=h)
 generalize cx l h=L at*
 generalize bJ l h=R at*
 generalize a_ l h.road=k at hA hbd hL
 refine qE Tryz.func200 Tryz.ntmps200 Tryz.results200 fun E hE=>?_
 refine qK (mz l (by omega)) (qI 0 1) ?_
 refine qK (hA) (qI 0 1) ?_
 rcases hbd with rfl|⟨hb0,hb1⟩
 ·rw [if_neg (by omega)] at hL
  subst hL
  have e:=yP l h
  simp only [HalfD.cs] at e
  rw [List.length_append] at hO
  try simp (disch:=omega) only [go_sem,seval,e]
  refine qK (hO) (qI 4 1) ?_
  refine qB (fun h1=>?_) fun h1=>?_
  ·rw [hf h1]
   refine qK (mz l (by omega)) (qI 0 1) ?_
   exact qF (qI 0 1++qI 5 1)
  rw [ht h1]
  try simp only [List.length_set]
  exact qF (qI 0 1++qI 4 1)
 obtain⟨n,rfl⟩:=Int.eq_ofNat_of_zero_le hb0
 rw [if_pos hb0,Int.toNat_natCast] at hL
 subst hL
 have e:=yN l n h
 simp only [HalfD.cs] at e
 rw [List.length_set] at hO
 try simp (disch:=omega) only [go_sem,seval,e]
 refine qK (hO) (qI 2 1) ?_
 refine qB (fun h1=>?_) fun h1=>?_
 ·rw [hf h1]
  refine qK (mz l (by omega)) (qI 0 1) ?_
  exact qF (qI 0 1++qI 3 1)
 rw [ht h1]
 try simp only [List.length_set]
 exact qF (qI 0 1++qI 2 1)
theorem d3 (o:OutD) (ho:o.text.length<=1048576):aP 296 [.ag o.cs] [] (.tu [.ag (dF o).1.cs,.sc (.bo (dF o).2)]) []:=by
 have hf:=Ds (o:=o)
 have ht:=BX (o:=o)
 have hK:=c9 o
 generalize dF o=R at*
 refine qE Tryz.func296 Tryz.ntmps296 Tryz.results296 fun E hE=>?_
 refine qK (hK) [] ?_
 refine qB (fun b1=>?_) fun b1=>?_
 ·have F:=gp b1
  have f1:=F.base
  have f2:=F.room
  have f3:=F.len
  obtain⟨k,hk⟩:∃ k:Nat,o.sent - o.base=(k:Int):=⟨(o.sent - o.base).toNat,by have:=F.sent;omega⟩
  have f4:=F.sent
  refine qX ?_
  refine qB (fun b2=>?_) fun b2=>?_
  ·rw [hf (by simp [gC,b2])]
   refine qX ?_
   exact qF []
  have hnt:cy o=(o.text.drop k).take 20:=by rw [cy,hk,Int.toNat_natCast]
  rw [ht (by simp [gC,b1];omega),hnt]
  try simp (disch:=omega) only [go_sem,seval,hk]
  refine qD [0,1,2,3,4,5,6,7,8,9] ?_
  refine⟨qC,ac 400 ?_⟩
  by_cases h5:((o.text.drop k).length:Int) < 20
  ·have h6:(o.text.drop k).take 20=o.text.drop k:=List.take_of_length_le (by omega)
   rw [h6]
   simp only [List.length_drop] at h5
   try simp (disch:=omega) only [go_sem,seval,h5]
   refine aB [] (qC) _ (by simp only [go_sem];rfl) (by rfl) (by rfl) ?_
   simp (disch:=omega) only [go_sem,seval]
   try simp [h5,h6]
   try exact List.take_of_length_le (by simp)
  simp only [List.length_drop] at h5
  try simp (disch:=omega) only [go_sem,seval,h5]
  refine qP [] ?_
  first|exact⟨⟩|simp [h5]
 rw [hf (by simp [gC,b1])]
 refine qX ?_
 exact qF []
theorem oj (o:OutD):aP 269 [.ag o.cs] [] (.ag (fi o).cs) []:=by
 have hK:=c9 o
 obtain⟨R,hR⟩:∃ R,R=fi o:=⟨_,rfl⟩
 rw [<-hR]
 refine qE Tryz.func269 Tryz.ntmps269 Tryz.results269 fun E hE=>?_
 refine qK (hK) [] ?_
 refine qB (fun b1=>?_) fun b1=>?_
 ·rw [fi,if_pos b1] at hR
  subst hR
  refine qX ?_
  exact qF []
 rw [fi,if_neg (by simp [b1])] at hR
 subst hR
 refine qX ?_
 exact qF []
theorem nw (o:OutD) (ho:o.text.length<=1048576) (h:gC o=true):aP 298 [.ag o.cs] [] (.ag (OutD.cs { o with sent:=o.sent+((cy o).length:Int) })) []:=by
 have hN:=d3 o ho
 rw [BX h] at hN
 have F:=gp (by simp only [gC,Bool.and_eq_true] at h;exact h.1:outOk o=true)
 have hl:=ux F
 have f1:=F.base
 have f2:=F.room
 have f3:=F.len
 have f4:=F.sent
 refine qE Tryz.func298 Tryz.ntmps298 Tryz.results298 fun E hE=>?_
 refine qK (hN) [] ?_
 exact qF []
theorem o3 {p:PiecesD} {m:Int} (h:0<=m):(if (p.ready.length:Int) < m then (p.ready.length:Int) else m)=(w9 p m:Int):=by
 rw [w9]
 split<;>omega
theorem go (p:PiecesD) (m:Int) (hs:SmallP p):aP 266 [.ag (p.cs 0),.sc (.int .i64 m)] (p.hp false) (.tu [.ag ((bK p m).1.cs 1),.sc (.st (bK p m).2)]) (p.hp false++(bK p m).1.hp true):=by
 have hf:=EC (p:=p) (m:=m)
 have ht:=EB (p:=p) (m:=m)
 have hC:=lq p hs.list
 have hK:=a2 p hs.list
 generalize bK p m=R at*
 refine gU Tryz.func266 Tryz.ntmps266 Tryz.results266 fun E hE=>?_
 refine qK (hC) (qI 0 1) ?_
 refine qK (hK) (qI 0 1) ?_
 refine qB (fun b1=>?_) fun b1=>?_
 ·have F:=dt b1 hs
  have f0:=F.r0
  have f1:=F.r1
  have f2:=F.ready
  refine qB (fun b2=>?_) fun b2=>?_
  ·rw [hf (by simp only [sg,Bool.and_eq_false_iff,decide_eq_false_iff_not];omega)]
   refine qX ?_
   exact dk (qI 0 1++qI 3 1)
  have hm:=o3 (p:=p) (m:=m) (by omega)
  have hle:=B0 (p:=p) (m:=m)
  have hok:sg p m=decide (p.read+(w9 p m:Int)<=1000000000):=by rw [sg,b1,decide_eq_true (show 0<=m by omega)];rfl
  generalize w9 p m=N at*
  try simp (disch:=omega) only [go_sem,seval,hm]
  refine qB (fun b3=>?_) fun b3=>?_
  ·rw [hf (by rw [hok];simp;omega)]
   refine qX ?_
   exact dk (qI 0 1++qI 3 1)
  rw [ht (by rw [hok];simp;omega)]
  refine qX ?_
  refine cG [(2,5),(4,5)] [(2,4)] [[0,1,3,2,4,5,6],[0,1,3,2,5,4,6],[0,1,3,5,2,4,6]] 1 hE (fun s=>s.at (qU [39,5]) [(5,.sc (.st (p.ready.take N)))] (s.hp.set 2 (some ⟨[[.int .i64 (p.read+(N:Int)),.st (p.ready.drop N),.sl 3 0 p.list.length]],3,35,true,false⟩))) (by kernel_rfl) (qC) (by kernel_rfl) ?_ (ac 400 ?_)
  rotate_left
  rotate_right
  simp only [bm]
  refine⟨aa 400 ?_,aa 400 ?_,aa 400 ?_⟩
  ·simp (disch:=omega) only [go_sem]
   refine⟨qC,(qI 0 5),ab (by rfl) (by rfl) ?_⟩
   try simp (disch:=omega) only [go_sem,seval]
  ·simp (disch:=omega) only [go_sem]
   refine⟨qC,(qI 0 5),ab (by rfl) (by rfl) ?_⟩
   try simp (disch:=omega) only [go_sem,seval]
  ·simp (disch:=omega) only [go_sem]
   refine⟨qC,(qI 0 5),ab (by rfl) (by rfl) ?_⟩
   try simp (disch:=omega) only [go_sem,seval]
  refine qX ?_
  exact dk (qI 0 1++qI 3 1)
 rw [hf (by simp [sg,b1])]
 refine qX ?_
 exact dk (qI 0 1++qI 3 1)
theorem m6 (e:EndD) (m:Int) (hs:Small e) (hsp:SmallP e.inp):aP 240 [.ag (e.cs 0),.sc (.int .i64 m)] (e.hp false) (.tu [.ag ((bi e m).1.cs 7),.sc (.st (bi e m).2)]) (e.hp false++(bi e m).1.hp true):=by
 have hC:=(qH (jF e))
 have hK:=(qH (ap e))
 have hA:=go e.inp m hsp
 have hf:=AQ (e:=e) (m:=m)
 have htt:=AP (e:=e) (m:=m)
 generalize bi e m=R at*
 refine qE Tryz.func240 Tryz.ntmps240 Tryz.results240 fun E hE=>?_
 refine qK (hC) (qI 0 7) ?_
 refine qK (hK) (qI 0 7) ?_
 refine qB (fun b1=>?_) fun b1=>?_
 ·rw [hf b1]
  refine qX ?_
  exact qF (qI 0 7++qI 9 7)
 rw [htt b1]
 refine qX ?_
 refine qK (hA) (qI 4 1) ?_
 exact qF (qI 0 7++qI 9 4++qI 17 1++qI 14 2)
end
end Go.Proofs.YtjghbknhneffjaaGreat
