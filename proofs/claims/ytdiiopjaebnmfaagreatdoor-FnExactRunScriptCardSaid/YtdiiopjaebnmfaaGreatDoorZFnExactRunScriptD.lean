/- Lemmas of this claim. -/
import Derived.Test.YtdiiopjaebnmfaaGreatDoorZFnExactRunScriptC
set_option maxHeartbeats 16000000
set_option maxRecDepth 100000
set_option linter.unusedVariables false
set_option linter.unusedSimpArgs false
namespace Go.Proofs.YtdiiopjaebnmfaaGreatDoor
open _root_.Go.Proofs.Tryz
open _root_.List renaming take_of_length_le->zk,getD_eq_getElem?_getD->P6,drop_eq_nil_of_le->P8,length_take->P9,take_succ_eq_append_getElem->P_,map_append->Qa,take_length->Qb,getElem?_eq_getElem->Qc,append_assoc->Qd,getElem_take->Qe,getElem_mem->Qf,mem_append->Qg,map_take->Qh,map_drop->Qi
open _root_.Nat renaming zero_le->zG,le_refl->Qj
open _root_.Bool renaming and_eq_true->P7
section
open Go.RowKit
theorem nB (e:EndD) (s:SubD):aP 147 [.ag (e.cs 0),.ag s.cs] (e.hp false) (.ag (cF e s).cs) (e.hp false):=by
 refine qE func147 ntmps147 results147 fun E hE=>?_
 refine qD [0,1,2,3,4,5,6,7,8,9,10,11,12,13] ?_
 refine aE (gW _ _ _ _) [] ?_
 refine aE (bB s.road { ac with kind:=6,tag:=⟨2,e.key,e.peer,s.mine,s.theirs⟩}) [] ?_
 refine qG ?_
 refine qP (qI 0 7) ?_
 first|exact⟨⟩|simp [cF]
theorem ou (e:EndD) (s:SubD):aP 224 [.ag (e.cs 0),.ag s.cs] (e.hp false) (.ag (cF e s).cs) (e.hp false):=by
 refine qE func224 ntmps224 results224 fun E hE=>?_
 refine qD [0,1,2,3,4,5,6,7,8,9,10,11,12,13] ?_
 refine aE (gX _ _ _ _) [] ?_
 refine aE (a_ s.road { ac with kind:=6,tag:=⟨2,e.key,e.peer,s.mine,s.theirs⟩}) [] ?_
 refine qG ?_
 refine qP (qI 0 7) ?_
 first|exact⟨⟩|simp [cF]
theorem gI (r:RoadD) (n:Int):aP 248 [.ag r.cs,.sc (.int .i64 n)] [] (.sc (.sl 0 0 1)) [some ⟨[(vT r n).cs],19,36,true,true⟩]:=by
 refine qE func248 ntmps248 results248 fun E hE=>?_
 refine qK (bB r { ac with kind:=7,sgn:=n }) [] ?_
 refine qP (qI 1 1) ?_
 first|exact⟨⟩|simp [vT]
theorem j9 (s:SubD):aP 286 [.ag s.cs] [] (.ag (vT s.road s.give).cs) []:=by
 refine qE func286 ntmps286 results286 fun E hE=>?_
 refine qK (a_ s.road { ac with kind:=7,sgn:=s.give }) [] ?_
 refine qP [] ?_
 first|exact⟨⟩|simp [vT]
theorem zV (l:List HalfD) (r:RoadD) (hl:l.length<=1048576):aP 247 [.sc (.sl 0 0 l.length),.ag r.cs] [some ⟨l.map HalfD.cs,8,214,false,true⟩]
  (.sc (.sl 1 0 (dO l r).length)) [some ⟨l.map HalfD.cs,8,214,false,true⟩,some ⟨(dO l r).map HalfD.cs,8,214,true,true⟩]:=by
 have hA:=j6 l r hl
 have hbd:=iJ l r
 have hf:= @xP l r
 have ht:=fun n=> @xQ l r n
 generalize dO l r=R at*
 refine qE func247 ntmps247 results247 fun E hE=>?_
 refine qK (hA) (qI 0 1) ?_
 rcases hbd with hk|⟨hb0,hb1⟩
 ·rw [hf hk,hk]
  refine qX ?_
  refine qK (fG l hl) (qI 0 1) ?_
  exact qF (qI 0 1++qI 2 1)
 obtain⟨n,hk⟩:=Int.eq_ofNat_of_zero_le hb0
 rw [ht _ hk,hk]
 refine qX ?_
 refine qD [0,1,2,4,5,6,7,3,8,9] ?_
 have hlt:(l.take n).length=n:=by simp;omega
 have hlt2:(List.take n (List.map HalfD.cs l)).length=n:=by simp;omega
 have hC:=fG (l.take n) zS
 rw [P9,show min n l.length=n by omega] at hC
 refine aE (hC) [some (0,some 0)] ?_
 refine qG ?_
 refine qJ (qI 0 1++qI 3 1) ?_
 refine⟨by simp;omega,?_⟩
 simp only [Qa,Qh,Qi]
 congr 1
 exact zk zP
theorem zW (l:List HalfD) (r:RoadD) (hl:l.length<=1048576):aP 285 [.sc (.sl 0 0 l.length),.ag r.cs] [some ⟨l.map HalfD.cs,8,214,false,true⟩]
  (.sc (.sl 1 0 (dO l r).length)) [some ⟨l.map HalfD.cs,8,214,false,true⟩,some ⟨(dO l r).map HalfD.cs,8,214,true,true⟩]:=by
 have hA:=j7 l r hl
 have hbd:=iJ l r
 have hf:= @xP l r
 have ht:=fun n=> @xQ l r n
 generalize dO l r=R at*
 refine qE func285 ntmps285 results285 fun E hE=>?_
 refine qK (hA) (qI 0 1) ?_
 rcases hbd with hk|⟨hb0,hb1⟩
 ·rw [hf hk,hk]
  refine qX ?_
  exact qF (qI 0 1++qI 3 1)
 obtain⟨n,hk⟩:=Int.eq_ofNat_of_zero_le hb0
 have hlt:(l.take n).length=n:=by simp;omega
 have hlt2:(List.take n (List.map HalfD.cs l)).length=n:=by simp;omega
 rw [ht _ hk,hk]
 refine qX ?_
 refine qJ (qI 0 1++qI 4 1) ?_
 refine⟨by simp;omega,?_⟩
 simp only [Qa,Qh,Qi]
 congr 1
 exact zk zP
def NU (a b:AddrD):RoadD:=⟨a.addr,b.addr,0⟩
theorem vu {far l:List AddrD} {acc:List RoadD} {k:Nat} (h:k < l.length):kV far acc (l.drop k)=kV far ((acc++far.map (NU l[k])).take 8) (l.drop (k+1)):=by
 rw [List.drop_eq_getElem_cons h,kV]
 rfl
theorem EV {acc:List RoadD} {far:List AddrD} {f:AddrD->RoadD} {j:Nat} {r:List RoadD} (h:j < far.length) (hr:r=(acc++(far.take j).map f).take 8) (hl:r.length < 8):r++[f far[j]]=(acc++(far.take (j+1)).map f).take 8:=by
 have h1:(acc++(far.take j).map f).length < 8:=by
  rw [hr,P9] at hl
  omega
 rw [zk zO] at hr
 rw [P_ h,Qa,<-Qd,<-hr,List.map_singleton,zk]
 rw [<-hr] at h1
 simp
 omega
theorem EW {acc:List RoadD} {far:List AddrD} {f:AddrD->RoadD} {j i:Nat} {r:List RoadD} (hji:j<=i) (hi:i<=far.length) (hr:r=(acc++(far.take j).map f).take 8) (hl:¬ r.length < 8):r=(acc++(far.take i).map f).take 8:=by
 have h1:8<=(acc++(far.take j).map f).length:=by
  rw [hr,P9] at hl
  omega
 have e:far.take i=far.take j++(far.take i).drop j:=by
  conv=>lhs;rw [<-List.take_append_drop j (far.take i)]
  rw [List.take_take,Nat.min_eq_left hji]
 rw [e,Qa,<-Qd,List.take_append_of_le_length h1,hr]
theorem rh (o f:Int) (n:Nat):oe o f (n+1)=oe o f n++[⟨o,f,(n:Int)⟩]:=by
 simp [oe,List.range_succ]
theorem jH (o f:Int) (n:Nat):(oe o f n).length=n:=by simp [oe]
theorem yy {far:List AddrD}:∀ {l:List AddrD} {acc:List RoadD},acc.length<=8->(kV far acc l).length<=8
 |[],acc,h=>h
 |a::r,acc,h=>by
  rw [kV]
  exact yy (by rw [P9];omega)
theorem sY {l:List AddrD} (h:0 < l.length):Kn l=l[0].addr:=by
 cases l with
 |nil=>simp at h
 |cons a r=>rfl
theorem yz (p:PolicyD) (own far:List AddrD):(wanted p own far).length<=8:=by
 rw [wanted]
 split
 ·rename_i h
  split
  ·exact yy (zG _)
  rw [jH]
  split
  ·rename_i h2
   have h1:=h.1
   rw [polOk,if_pos h2] at h1
   simp only [bU,P7,decide_eq_true_eq] at h1
   omega
  omega
 simp
theorem Ai (p:PolicyD) (own far:List AddrD) (hp:p.wf) (h1:own.length<=1048576) (h2:far.length<=1048576):aP 149 [.ag p.cs,.sc (.sl 0 0 own.length),.sc (.sl 1 0 far.length)] [some ⟨own.map AddrD.cs,4,32,false,true⟩,some ⟨far.map AddrD.cs,4,32,false,true⟩] (.sc (.sl 2 0 (wanted p own far).length)) [some ⟨own.map AddrD.cs,4,32,false,true⟩,some ⟨far.map AddrD.cs,4,32,false,true⟩,some ⟨(wanted p own far).map RoadD.cs,3,113,true,true⟩]:=by
 obtain⟨m,hm⟩:∃ m,m=wanted p own far:=⟨_,rfl⟩
 rw [<-hm]
 rw [wanted] at hm
 refine qE func149 ntmps149 results149 fun E hE=>?_
 refine qK (jM p) [] ?_
 refine qB (fun g1=>?_) fun g1=>?_
 ·refine qK (aS _ _ _) [] ?_
  refine qB (fun g2=>?_) fun g2=>?_
  ·refine qK (aS _ _ _) [] ?_
   refine qB (fun g3=>?_) fun g3=>?_
   ·rw [if_neg (by simp [g3])] at hm
    subst hm
    exact qF (qI 0 2++qO 1)
   have g2':=g2
   have g3':=g3
   simp only [bU,P7,decide_eq_true_eq] at g2' g3'
   rw [if_pos ⟨g1,g2,g3⟩] at hm
   refine qX ?_
   refine qB (fun g4=>?_) fun g4=>?_
   ·rw [if_pos g4] at hm
    refine qX ?_
    refine fJ 2 hE (fun s (x:Nat×List RoadD)=>s.at (qU [0,1,9,1,11,1,13,18,34,22]) [(33,.sc (.int .i64 (x.1:Nat))),(7,.sc (.sl 3 0 x.2.length))] ([some ⟨own.map AddrD.cs,4,32,false,true⟩,some ⟨far.map AddrD.cs,4,32,false,true⟩,some ⟨[p.cs],2,25,true,false⟩,some ⟨x.2.map RoadD.cs,3,113,true,true⟩])) (fun (x:Nat×List RoadD)=>x.1<=own.length/\x.2.length<=8/\kV far x.2 (own.drop x.1)=m) (fun (x:Nat×List RoadD)=>own.length - x.1) (0,[]) (qI 0 3++qO 1) (⟨zG _,zG _,hm.symm⟩) fun x hx N hN=>?_
    obtain⟨k,acc⟩:=x
    obtain⟨hk1,hk2,hk3⟩:=hx
    dsimp only at hk1 hk2 hk3
    refine qR ?_
    refine qB (fun h=>?_) fun h=>?_
    ·rw [vu h] at hk3
     refine qX ?_
     refine fJ 2 hE (fun s (y:Nat×List RoadD)=>s.at (qU [0,1,11,1,13,18,35,2,40,16]) [(39,.sc (.int .i64 (y.1:Nat))),(7,.sc (.sl 3 0 y.2.length))] ([some ⟨own.map AddrD.cs,4,32,false,true⟩,some ⟨far.map AddrD.cs,4,32,false,true⟩,some ⟨[p.cs],2,25,true,false⟩,some ⟨y.2.map RoadD.cs,3,113,true,true⟩,some ⟨[AddrD.cs own[k]],4,32,true,false⟩])) (fun (y:Nat×List RoadD)=>y.1<=far.length/\y.2.length<=8/\y.2=(acc++(far.take y.1).map (NU own[k])).take 8) (fun (y:Nat×List RoadD)=>far.length - y.1) (0,acc) (qI 0 5) (⟨zG _,hk2,by simp;rw [zk hk2]⟩) fun y hy N2 hN2=>?_
     obtain⟨j,r⟩:=y
     obtain⟨hy1,hy2,hy3⟩:=hy
     dsimp only at hy1 hy2 hy3
     refine qR ?_
     refine qB (fun h5=>?_) fun h5=>?_
     ·refine qX ?_
      refine qB (fun h6=>?_) fun h6=>?_
      ·have hl8:r.length < 8:=zO
       have ht:=EV h5 hy3 hl8
       refine⟨qC,hN2 _ (j+1,r++[NU own[k] far[j]]) (qI 0 3++qI 7 1++qI 4 1) (by (try dsimp only);exact⟨zO,by simp;omega,ht⟩) (by (try dsimp only);omega) (aw zF zF ?_)⟩
       refine qX ?_
       simp [NU,RoadD.cs]
      have ht:=EW (i:=j+1) zO zO hy3 zO
      exact qN hN2 (j+1,r) (qI 0 5) (by (try dsimp only);exact⟨zO,hy2,ht⟩)
     have e:j=far.length:=zO
     subst e
     rw [Qb] at hy3
     rw [<-hy3] at hk3
     exact qN hN (k+1,r) (qI 0 4) (by (try dsimp only);exact⟨zO,hy2,hk3⟩)
    rw [P8 zO,kV] at hk3
    subst hk3
    exact qF (qI 0 2++qI 3 1)
   rw [if_neg g4] at hm
   have ho:0 < own.length:=zO
   have hf:0 < far.length:=zO
   rw [sY ho,sY hf] at hm
   obtain⟨c,hc,hc0,hc8⟩:∃ c:Nat,m=oe own[0].addr far[0].addr c/\(if 1 < p.many then p.many else 1)=(c:Int)/\c<=8:=by
    by_cases h2:p.kind=2
    ·have h:=g1
     rw [polOk,if_pos h2] at h
     simp only [bU,P7,decide_eq_true_eq] at h
     rw [if_pos h2] at hm
     exact⟨p.many.toNat,hm,by split<;>omega,zO⟩
    rw [if_neg h2] at hm
    have h:=g1
    rw [polOk,if_neg h2] at h
    simp only [P7,beq_iff_eq] at h
    exact⟨1,hm,by rw [if_neg zO];rfl,zO⟩
   refine qX ?_
   refine dI 2 hE (fun s (x:Nat)=>s.at (qU [0,1,9,1,11,1,13,64]) [(12,.sc (.int .i64 (x:Nat))),(7,.sc (.sl 3 0 x))] ([some ⟨own.map AddrD.cs,4,32,false,true⟩,some ⟨far.map AddrD.cs,4,32,false,true⟩,some ⟨[p.cs],2,25,true,false⟩,some ⟨(oe own[0].addr far[0].addr x).map RoadD.cs,3,113,true,true⟩])) (fun (x:Nat)=>x<=c) (fun (x:Nat)=>c - x) 0 (qI 0 3++qO 1) (qC) (zG _) (aw zF zF ?_) fun x hx N hN=>?_
   ·try simp (disch:=omega) only [go_sem,seval]
    try rfl
   refine ab 400 ?_
   have hml:=jH own[0].addr far[0].addr x
   try simp (disch:=omega) only [go_sem,seval,hc0]
   refine qB (fun h=>?_) fun h=>?_
   ·refine qD [0,1,2,3,4,5,6,7,8,9,10,11,12,13] ?_
    refine qG ?_
    refine lr hN (x+1) (qI 0 3++qI 5 1) (by (try dsimp only);exact zO) ?_
    first|exact⟨⟩|simp [rh,RoadD.cs]
   have e:x=c:=zO
   subst e
   subst hc
   rw [jH]
   exact qF (qI 0 2++qI 3 1)
  rw [if_neg (by simp [g2])] at hm
  subst hm
  exact qF (qI 0 2++qO 1)
 rw [if_neg (by simp [g1])] at hm
 subst hm
 exact qF (qI 0 2++qO 1)
theorem Aj (p:PolicyD) (own far:List AddrD) (hp:p.wf) (h1:own.length<=1048576) (h2:far.length<=1048576):aP 227 [.ag p.cs,.sc (.sl 0 0 own.length),.sc (.sl 1 0 far.length)] [some ⟨own.map AddrD.cs,4,32,false,true⟩,some ⟨far.map AddrD.cs,4,32,false,true⟩] (.sc (.sl 2 0 (wanted p own far).length)) [some ⟨own.map AddrD.cs,4,32,false,true⟩,some ⟨far.map AddrD.cs,4,32,false,true⟩,some ⟨(wanted p own far).map RoadD.cs,3,113,true,true⟩]:=by
 obtain⟨m,hm⟩:∃ m,m=wanted p own far:=⟨_,rfl⟩
 rw [<-hm]
 rw [wanted] at hm
 refine qE func227 ntmps227 results227 fun E hE=>?_
 refine qK (ie p) [] ?_
 refine qB (fun g1=>?_) fun g1=>?_
 ·refine qK (aJ _ _ _) [] ?_
  refine qB (fun g2=>?_) fun g2=>?_
  ·refine qK (aJ _ _ _) [] ?_
   refine qB (fun g3=>?_) fun g3=>?_
   ·rw [if_neg (by simp [g3])] at hm
    subst hm
    exact qF (qI 0 2++qI 3 1)
   have g2':=g2
   have g3':=g3
   simp only [bU,P7,decide_eq_true_eq] at g2' g3'
   rw [if_pos ⟨g1,g2,g3⟩] at hm
   refine qX ?_
   refine qB (fun g4=>?_) fun g4=>?_
   ·rw [if_pos g4] at hm
    refine qX ?_
    refine fJ 2 hE (fun s (x:Nat×List RoadD)=>s.at (qU [0,1,9,1,12,51]) [(8,.sc (.int .i64 (x.1:Nat))),(7,.sc (.sl 3 0 x.2.length))] ([some ⟨own.map AddrD.cs,4,32,false,true⟩,some ⟨far.map AddrD.cs,4,32,false,true⟩,some ⟨[p.cs],2,25,true,false⟩,some ⟨x.2.map RoadD.cs,3,113,true,true⟩])) (fun (x:Nat×List RoadD)=>x.1<=own.length/\x.2.length<=8/\kV far x.2 (own.drop x.1)=m) (fun (x:Nat×List RoadD)=>own.length - x.1) (0,[]) (qI 0 4) (⟨zG _,zG _,hm.symm⟩) fun x hx N hN=>?_
    obtain⟨k,acc⟩:=x
    obtain⟨hk1,hk2,hk3⟩:=hx
    dsimp only at hk1 hk2 hk3
    refine qR ?_
    refine qB (fun h=>?_) fun h=>?_
    ·rw [vu h] at hk3
     refine qX ?_
     refine fJ 2 hE (fun s (y:Nat×List RoadD)=>s.at (qU [0,1,12,23,36,27]) [(9,.sc (.int .i64 (y.1:Nat))),(7,.sc (.sl 3 0 y.2.length))] ([some ⟨own.map AddrD.cs,4,32,false,true⟩,some ⟨far.map AddrD.cs,4,32,false,true⟩,some ⟨[p.cs],2,25,true,false⟩,some ⟨y.2.map RoadD.cs,3,113,true,true⟩])) (fun (y:Nat×List RoadD)=>y.1<=far.length/\y.2.length<=8/\y.2=(acc++(far.take y.1).map (NU own[k])).take 8) (fun (y:Nat×List RoadD)=>far.length - y.1) (0,acc) (qI 0 4) (⟨zG _,hk2,by simp;rw [zk hk2]⟩) fun y hy N2 hN2=>?_
     obtain⟨j,r⟩:=y
     obtain⟨hy1,hy2,hy3⟩:=hy
     dsimp only at hy1 hy2 hy3
     refine qR ?_
     refine qB (fun h5=>?_) fun h5=>?_
     ·refine qX ?_
      refine qB (fun h6=>?_) fun h6=>?_
      ·have hl8:r.length < 8:=zO
       have ht:=EV h5 hy3 hl8
       refine qD [0,1,2,3,4,5,6,7,8,9,10,11,12,13,14] ?_
       refine qG ?_
       refine⟨qC,hN2 _ (j+1,r++[NU own[k] far[j]]) (qI 0 3++qI 5 1) (by (try dsimp only);exact⟨zO,by simp;omega,ht⟩) (by (try dsimp only);omega) (aw zF zF ?_)⟩
       refine qX ?_
       simp [NU,RoadD.cs]
      have ht:=EW (i:=far.length) hy1 (Qj _) hy3 zO
      rw [Qb] at ht
      rw [<-ht] at hk3
      exact qN hN (k+1,r) (qI 0 4) (by (try dsimp only);exact⟨zO,hy2,hk3⟩)
     have e:j=far.length:=zO
     subst e
     rw [Qb] at hy3
     rw [<-hy3] at hk3
     exact qN hN (k+1,r) (qI 0 4) (by (try dsimp only);exact⟨zO,hy2,hk3⟩)
    rw [P8 zO,kV] at hk3
    subst hk3
    exact qF (qI 0 2++qI 3 1)
   rw [if_neg g4] at hm
   have ho:0 < own.length:=zO
   have hf:0 < far.length:=zO
   rw [sY ho,sY hf] at hm
   obtain⟨c,hc,hc0,hc8⟩:∃ c:Nat,m=oe own[0].addr far[0].addr c/\(if p.kind=2 then p.many else 1)=(c:Int)/\c<=8:=by
    by_cases h2:p.kind=2
    ·have h:=g1
     rw [polOk,if_pos h2] at h
     simp only [bU,P7,decide_eq_true_eq] at h
     rw [if_pos h2] at hm
     exact⟨p.many.toNat,hm,by rw [if_pos h2];omega,zO⟩
    rw [if_neg h2] at hm
    exact⟨1,hm,by rw [if_neg h2];rfl,zO⟩
   refine qX ?_
   refine qB (fun g5=>?_) fun g5=>?_
   ·rw [if_pos g5] at hc0
    rw [hc0]
    refine qX ?_
    refine dI 2 hE (fun s (x:Nat)=>s.at (qU [0,1,3,1,8,2,12,75]) [(11,.sc (.int .i64 (x:Nat))),(7,.sc (.sl 3 0 x))] ([some ⟨own.map AddrD.cs,4,32,false,true⟩,some ⟨far.map AddrD.cs,4,32,false,true⟩,some ⟨[p.cs],2,25,true,false⟩,some ⟨(oe own[0].addr far[0].addr x).map RoadD.cs,3,113,true,true⟩])) (fun (x:Nat)=>x<=c) (fun (x:Nat)=>c - x) 0 (qI 0 4) (qC) (zG _) (aw zF zF ?_) fun x hx N hN=>?_
    ·refine qX ?_
     first|rfl|exact⟨hc0.symm,rfl⟩|skip
    refine ab 400 ?_
    have hml:=jH own[0].addr far[0].addr x
    refine qX ?_
    refine qB (fun h=>?_) fun h=>?_
    ·refine qD [0,1,2,3,4,5,6,7,8,9,10,11,12,13] ?_
     refine qG ?_
     refine lr hN (x+1) (qI 0 3++qI 5 1) (by (try dsimp only);exact zO) ?_
     first|exact⟨⟩|simp [rh,RoadD.cs]
    have e:x=c:=zO
    subst e
    subst hc
    rw [jH]
    exact qF (qI 0 2++qI 3 1)
   rw [if_neg g5] at hc0
   have hc1:c=1:=zO
   subst hc1
   refine dI 2 hE (fun s (x:Nat)=>s.at (qU [0,1,3,1,8,2,12,75]) [(11,.sc (.int .i64 (x:Nat))),(7,.sc (.sl 3 0 x))] ([some ⟨own.map AddrD.cs,4,32,false,true⟩,some ⟨far.map AddrD.cs,4,32,false,true⟩,some ⟨[p.cs],2,25,true,false⟩,some ⟨(oe own[0].addr far[0].addr x).map RoadD.cs,3,113,true,true⟩])) (fun (x:Nat)=>x<=1) (fun (x:Nat)=>1 - x) 0 (qI 0 4) (qC) (zG _) (aw zF zF ?_) fun x hx N hN=>?_
   ·refine qX ?_
    first|rfl|exact⟨hc0.symm,rfl⟩|skip
   refine ab 400 ?_
   have hml:=jH own[0].addr far[0].addr x
   refine qX ?_
   refine qB (fun h=>?_) fun h=>?_
   ·refine qD [0,1,2,3,4,5,6,7,8,9,10,11,12,13] ?_
    refine qG ?_
    refine lr hN (x+1) (qI 0 3++qI 5 1) (by (try dsimp only);exact zO) ?_
    first|exact⟨⟩|simp [rh,RoadD.cs]
   have e:x=1:=zO
   subst e
   subst hc
   rw [jH]
   exact qF (qI 0 2++qI 3 1)
  rw [if_neg (by simp [g2])] at hm
  subst hm
  exact qF (qI 0 2++qI 3 1)
 rw [if_neg (by simp [g1])] at hm
 subst hm
 exact qF (qI 0 2++qI 3 1)
theorem vN:∀ {l acc r:List UInt8},dU acc l=some r->r.length<=acc.length+l.length
 |a::b::l,acc,r,h=>by
  rw [dU] at h
  split at h
  ·cases h
  have:=vN h
  simp at this⊢
  omega
 |[],acc,r,h=>by simp [dU] at h;subst h;simp
 |[_],acc,r,h=>by simp [dU] at h;subst h;simp
theorem oN (l:List UInt8):(ee l).1.length<=l.length:=by
 rw [ee]
 split
 ·simp
 cases h:dU [] l with
 |none=>simp [xe]
 |some r=>
  have:=vN h
  simpa [xe] using this
theorem uD {y:UInt8}:∀ {l:List UInt8} {acc:List (List UInt8)} {cur s:List UInt8},s∈eQ y acc cur l->s∈acc\/s.length<=cur.length+l.length
 |[],acc,cur,s,h=>by
  rw [eQ] at h
  rcases Qg.1 h with h|h
  ·exact .inl h
  simp at h;subst h;exact .inr zP
 |b::r,acc,cur,s,h=>by
  rw [eQ] at h
  split at h
  ·rcases uD h with h|h
   ·rcases Qg.1 h with h|h
    ·exact .inl h
    simp at h;subst h;exact .inr zP
   exact .inr (by simp at h⊢;omega)
  rcases uD h with h|h
  ·exact .inl h
  exact .inr (by simp at h⊢;omega)
theorem zq {y:UInt8} (l s:List UInt8) (h:s∈d9 y l):s.length<=l.length:=by
 rcases uD h with h|h
 ·cases h
 simpa using h
theorem Lv {n:List Int} (hn:n.length=18):∃ a0 a1 a2 a3 a4 a5 a6 a7 a8 a9 a10 a11 a12 a13 a14 a15 a16 a17,n=[a0,a1,a2,a3,a4,a5,a6,a7,a8,a9,a10,a11,a12,a13,a14,a15,a16,a17]:=by
 match n,hn with
 |[a0,a1,a2,a3,a4,a5,a6,a7,a8,a9,a10,a11,a12,a13,a14,a15,a16,a17],_=>exact⟨a0,a1,a2,a3,a4,a5,a6,a7,a8,a9,a10,a11,a12,a13,a14,a15,a16,a17,rfl⟩
theorem zr (l:List (List UInt8)):(br (l.drop 0)).map (([]:List Int)++ ·)=br l:=by
 rw [List.drop_zero]
 cases br l<;>rfl
theorem Dt {l:List (List UInt8)} {k:Nat} {acc:List Int} {R:Option (List Int)} (h:k < l.length) (hr:(br (l.drop k)).map (acc++ ·)=R):(if (cj l[k]).2 then (br (l.drop (k+1))).map ((acc++[(cj l[k]).1])++ ·) else none)=R:=by
 rw [F3 h] at hr
 rw [<-hr]
 split
 ·cases br (l.drop (k+1)) with
  |none=>rfl
  |some m=>simp
 rfl
theorem GK {l:List (List UInt8)} {k:Nat} {acc:List Int} {R:Option (List Int)} (h:l.length<=k) (hr:(br (l.drop k)).map (acc++ ·)=R):R=some acc:=by
 rw [P8 h,br] at hr
 rw [<-hr]
 simp
theorem pG (l:List UInt8) (hl:l.length<=1048576):aP 65 [.sc (.st l)] [] (.tu [.ag (wo l).1.cs,.sc (.bo (wo l).2)]) []:=by
 obtain⟨R,hR⟩:∃ R,R=wo l:=⟨_,rfl⟩
 rw [<-hR]
 refine qE func65 ntmps65 results65 fun E hE=>?_
 refine qB (fun h1=>?_) fun h1=>?_
 ·rw [Kh zO] at hR
  subst hR
  refine qP [] ?_
  first|exact⟨⟩|simp [ac]
 refine ai (qC) (Eb l ?_) [] qM zF (ab 400 ?_)
 ·omega
 simp (disch:=omega) only [go_sem,seval]
 rw [wo] at hR
 generalize hp:d9 44 l=p at hR
 refine qX ?_
 refine qB (fun h2=>?_) fun h2=>?_
 ·rw [if_neg zO] at hR
  subst hR
  refine qP [] ?_
  first|exact⟨⟩|simp [ac]
 have h19:p.length=19:=zO
 rw [if_pos h19] at hR
 have hq:(p.take 18).length=18:=by simp;omega
 refine dI 0 hE (fun s (x:Nat×List Int)=>s.at (qU [3,1,7,2,12,30]) [(6,.sc (.int .i64 (x.1:Nat))),(5,.sc (.sl 2 0 x.2.length))] ([some ⟨[ac.cs],19,36,true,false⟩,some ⟨p.map aD,1,9,true,true⟩,some ⟨x.2.map bh,1,3,true,true⟩])) (fun (x:Nat×List Int)=>x.1<=18/\x.2.length=x.1/\(br ((p.take 18).drop x.1)).map (x.2++ ·)=br (p.take 18)) (fun (x:Nat×List Int)=>18 - x.1) (0,[]) (qI 0 3) (qC) (⟨zG _,rfl,zr _⟩) (aw zF zF ?_) fun x hx N hN=>?_
 ·try simp (disch:=omega) only [go_sem,seval]
  try simp [ac]
 obtain⟨k,n⟩:=x
 obtain⟨hk1,hk2,hk3⟩:=hx
 dsimp only at hk1 hk2 hk3
 refine qR ?_
 refine qB (fun h3=>?_) fun h3=>?_
 ·have hs:=Dt zO hk3
  rw [Qe] at hs
  have hkp:k < p.length:=zO
  try simp (disch:=omega) only [go_sem,seval,dZ hkp]
  refine qK (ma _) [] ?_
  refine qB (fun h4=>?_) fun h4=>?_
  ·rw [h4,if_neg zP] at hs
   rw [<-hs,Cc] at hR
   subst hR
   refine qP [] ?_
   first|exact⟨⟩|simp [ac]
  rw [h4,if_pos rfl] at hs
  refine lr hN (k+1,n++[(cj p[k]).1]) (qI 0 2++qI 4 1) (by (try dsimp only);exact⟨zO,by simp;omega,hs⟩) ?_
  first|exact⟨⟩|simp [bh]
 have hk:k=18:=zO
 subst hk
 have hn:=GK zO hk3
 have hwf:=mb hn
 rw [hn,Cc,P6,Qc (show 18 < p.length by omega)] at hR
 simp only [Option.getD_some] at hR
 have h18:18 < p.length:=zO
 try simp (disch:=omega) only [go_sem,seval,dZ h18]
 refine qK (xl _) [] ?_
 have hul:=oN p[18]
 obtain⟨a0,a1,a2,a3,a4,a5,a6,a7,a8,a9,a10,a11,a12,a13,a14,a15,a16,a17,rfl⟩:=Lv (show n.length=18 by omega)
 have hX:lw [a0,a1,a2,a3,a4,a5,a6,a7,a8,a9,a10,a11,a12,a13,a14,a15,a16,a17] (bR [a0,a1,a2,a3,a4,a5,a6,a7,a8,a9,a10,a11,a12,a13,a14,a15,a16,a17] 16 == 1) (ee p[18]).1=⟨a0,a1,a2,a3,a4,a5,a6,a7,a8,⟨a9,a10,a11,a12,a13⟩,a14,a15,a16 == 1,a17,(ee p[18]).1⟩:=rfl
 have hps:p[18].length<=1048576:=by
  have:=zq l p[18] (by rw [hp];exact Qf _)
  omega
 have hXw:=xo hwf (bR [a0,a1,a2,a3,a4,a5,a6,a7,a8,a9,a10,a11,a12,a13,a14,a15,a16,a17] 16 == 1) (t:=(ee p[18]).1) (by simp only [maxLen];omega)
 rw [hX] at hR hXw
 refine qB (fun h5=>?_) fun h5=>?_
 ·rw [if_neg (by rw [h5];simp)] at hR
  subst hR
  refine qP [] ?_
  first|exact⟨⟩|simp [ac]
 rw [h5] at hR
 simp only [true_and] at hR
 refine qX ?_
 refine qD [0,1,2,3,4,5,6,7,8,9,10,11,12,13,14,15,16,17,18,19,20,21,22,23,24,25,26,27,28,29,30,31,32,33,34,35,36,37,38,39,40,41,42,43,44,45,46,47,48,49,50,51,52,53,54,55,56,57,58,59] ?_
 refine qG ?_
 refine qK (nA _ hXw) [] ?_
 refine qB (fun h6=>?_) fun h6=>?_
 ·rw [if_neg h6] at hR
  subst hR
  refine qP [] ?_
  first|exact⟨⟩|simp [ac]
 rw [if_pos h6] at hR
 subst hR
 refine qP [] ?_
 first|exact⟨⟩|simp
def zt (n:List Int):List Sc:=(lw n false []).cs
theorem Jp (n:List Int) {k:Nat} (h:k < 18):BS (zt n) k 1=true:=by
 match k,h with
 |0,_|1,_|2,_|3,_|4,_|5,_|6,_|7,_|8,_|9,_|10,_|11,_|12,_|13,_|14,_|15,_|16,_|17,_=>rfl
 |m+18,h=>exact absurd h zO
theorem Lw {n:List Int} {k:Nat} (hk:k < 18) (h16:k≠16) (v:Int) (hn:n.length=18):LI (zt n) k [.int .i64 v]=zt (n.set k v):=IB hk h16 v hn
theorem MR (n:List Int) (v:Int):zt (n.set 16 v)=zt n:=Ki v
def MS (k:Nat):List Sc:=if k=16 then [.pt 2 0 0] else [.pt 1 0 k]
def MT:List (List Sc):=(List.range 18).map MS
theorem Du:MT=[[.pt 1 0 0],[.pt 1 0 1],[.pt 1 0 2],[.pt 1 0 3],[.pt 1 0 4],[.pt 1 0 5],[.pt 1 0 6],[.pt 1 0 7],[.pt 1 0 8],[.pt 1 0 9],[.pt 1 0 10],[.pt 1 0 11],[.pt 1 0 12],[.pt 1 0 13],[.pt 1 0 14],[.pt 1 0 15],[.pt 2 0 0],[.pt 1 0 17]]:=rfl
theorem Fo {k:Nat} (h:k < 18):MT[k]? =some (MS k):=by simp [MT,h]
theorem MU:MS 16=[.pt 2 0 0]:=rfl
theorem MV {k:Nat} (h:k≠16):MS k=[.pt 1 0 k]:=if_neg h
theorem GL {n:List Int} (h:n.length=18) (v:Int):bR (n.set 16 v) 16=v:=by
 simp [bR,h]
theorem Jq {n:List Int} {k:Nat} (h:k≠16) (v:Int):bR (n.set k v) 16=bR n 16:=by
 rw [bR,bR,P6,P6,List.getElem?_set_ne h]
theorem Fp {n:List Int} {k:Nat} (h:k < n.length) (v:Int):(n.set k v).take (k+1)=n.take k++[v]:=by
 rw [P_ (by simpa using h),List.getElem_set_self,List.take_set_of_le (Qj _)]
theorem Dv (ρ:cO) (n:List Int):cM ρ (zt n) (zt n):=by
 simp [zt,lw,LetterD.cs,cM,LY]
theorem pH (l:List UInt8) (hl:l.length<=1048576):aP 75 [.sc (.st l)] [] (.tu [.ag (wo l).1.cs,.sc (.bo (wo l).2)]) []:=by
 obtain⟨R,hR⟩:∃ R,R=wo l:=⟨_,rfl⟩
 rw [<-hR]
 refine qE func75 ntmps75 results75 fun E hE=>?_
 refine ai (qC) (Kg l ?_) [] qM zF (ab 400 ?_)
 ·omega
 simp (disch:=omega) only [go_sem,seval]
 rw [wo] at hR
 generalize hp:d9 44 l=p at hR
 refine qK (ny ac 0) (qI 1 2) ?_
 refine qB (fun h2=>?_) fun h2=>?_
 ·rw [if_neg zO] at hR
  subst hR
  refine qP [] ?_
  first|exact⟨⟩|simp [ac]
 have h19:p.length=19:=zO
 rw [if_pos h19] at hR
 have hq:(p.take 18).length=18:=by simp;omega
 have hz:zt [0,0,0,0,0,0,0,0,0,0,0,0,0,0,0,0,0,0]=[.int .i64 0,.int .i64 0,.int .i64 0,.int .i64 0,.int .i64 0,.int .i64 0,.int .i64 0,.int .i64 0,.int .i64 0,.int .i64 0,.int .i64 0,.int .i64 0,.int .i64 0,.int .i64 0,.int .i64 0,.int .i64 0,.bo false,.int .i64 0,.st []]:=rfl
 have hz6:bR [0,0,0,0,0,0,0,0,0,0,0,0,0,0,0,0,0,0] 16=0:=rfl
 refine qX ?_
 refine dI 0 hE (fun s (x:Nat×List Int)=>s.at (qU [3,1,8,4,14,10,27,19]) [(26,.sc (.int .i64 (x.1:Nat)))] ([some ⟨[ac.cs],19,36,true,false⟩,some ⟨[zt x.2],19,36,true,false⟩,some ⟨[[.int .i64 (bR x.2 16)]],1,3,true,false⟩,some ⟨p.map aD,1,9,true,true⟩,some ⟨MT,1,164,true,false⟩])) (fun (x:Nat×List Int)=>x.1<=18/\x.2.length=18/\(br ((p.take 18).drop x.1)).map (x.2.take x.1++ ·)=br (p.take 18)) (fun (x:Nat×List Int)=>18 - x.1) (0,List.replicate 18 0) (qI 0 5) (qC) (⟨zG _,rfl,zr _⟩) (aw zF zF ?_) fun x hx N hN=>?_
 ·try simp (disch:=omega) only [go_sem,seval,Du,hz,hz6]
  try simp [ac]
 obtain⟨k,n⟩:=x
 obtain⟨hk1,hk2,hk3⟩:=hx
 dsimp only at hk1 hk2 hk3
 refine qR ?_
 refine qB (fun h3=>?_) fun h3=>?_
 ·have hs:=Dt zO hk3
  rw [Qe] at hs
  have hkp:k < p.length:=zO
  have h18:k < 18:=zO
  by_cases h16:k=16
  ·subst h16
   try simp (disch:=omega) only [go_sem,seval,dZ hkp,Fo h18,MU]
   refine qK (jv _) [] ?_
   refine qB (fun h4=>?_) fun h4=>?_
   ·rw [h4,if_neg zP] at hs
    rw [<-hs,Cc] at hR
    subst hR
    refine qP [] ?_
    first|exact⟨⟩|simp [ac]
   rw [h4,if_pos rfl,<-Fp zO] at hs
   refine qX ?_
   refine⟨qC,hN _ (17,n.set 16 (cj p[16]).1) (qI 0 5) (by (try dsimp only);exact⟨zO,by simp;omega,hs⟩) (by (try dsimp only);omega) (aw zF zF ?_)⟩
   try simp (disch:=omega) only [go_sem,seval,MR,GL hk2,Du]
   first|exact⟨rfl,Dv _ _⟩|exact Dv _ _
  have hf:=Jp n h18
  try simp (disch:=omega) only [go_sem,seval,dZ hkp,Fo h18,MV h16]
  refine qK (jv _) [] ?_
  refine qB (fun h4=>?_) fun h4=>?_
  ·rw [h4,if_neg zP] at hs
   rw [<-hs,Cc] at hR
   subst hR
   refine qP [] ?_
   first|exact⟨⟩|simp [ac]
  rw [h4,if_pos rfl,<-Fp zO] at hs
  try simp (disch:=omega) only [go_sem,seval,hf,Lw h18 h16 _ hk2]
  refine⟨qC,hN _ (k+1,n.set k (cj p[k]).1) (qI 0 5) (by (try dsimp only);exact⟨zO,by simp;omega,hs⟩) (by (try dsimp only);omega) (aw zF zF ?_)⟩
  try simp (disch:=omega) only [go_sem,seval,Jq h16,Du]
  exact Dv _ _
 have hk:k=18:=zO
 subst hk
 have hn:=GK zO hk3
 rw [show n.take 18=n from zk zO] at hn
 have hwf:=mb hn
 rw [hn,Cc,P6,Qc (show 18 < p.length by omega)] at hR
 simp only [Option.getD_some] at hR
 have h18:18 < p.length:=zO
 have hps:p[18].length<=1048576:=by
  have:=zq l p[18] (by rw [hp];exact Qf _)
  omega
 try simp (disch:=omega) only [go_sem,seval,dZ h18]
 refine ai (qC) (xm _ ?_) [] qM zF (ab 400 ?_)
 ·omega
 simp (disch:=omega) only [go_sem,seval]
 have hul:=oN p[18]
 obtain⟨a0,a1,a2,a3,a4,a5,a6,a7,a8,a9,a10,a11,a12,a13,a14,a15,a16,a17,rfl⟩:=Lv hk2
 have hX:lw [a0,a1,a2,a3,a4,a5,a6,a7,a8,a9,a10,a11,a12,a13,a14,a15,a16,a17] (bR [a0,a1,a2,a3,a4,a5,a6,a7,a8,a9,a10,a11,a12,a13,a14,a15,a16,a17] 16 == 1) (ee p[18]).1=⟨a0,a1,a2,a3,a4,a5,a6,a7,a8,⟨a9,a10,a11,a12,a13⟩,a14,a15,a16 == 1,a17,(ee p[18]).1⟩:=rfl
 have hC:zt [a0,a1,a2,a3,a4,a5,a6,a7,a8,a9,a10,a11,a12,a13,a14,a15,a16,a17]=[.int .i64 a0,.int .i64 a1,.int .i64 a2,.int .i64 a3,.int .i64 a4,.int .i64 a5,.int .i64 a6,.int .i64 a7,.int .i64 a8,.int .i64 a9,.int .i64 a10,.int .i64 a11,.int .i64 a12,.int .i64 a13,.int .i64 a14,.int .i64 a15,.bo false,.int .i64 a17,.st []]:=rfl
 have h6:bR [a0,a1,a2,a3,a4,a5,a6,a7,a8,a9,a10,a11,a12,a13,a14,a15,a16,a17] 16=a16:=rfl
 have hXw:=xo hwf (bR [a0,a1,a2,a3,a4,a5,a6,a7,a8,a9,a10,a11,a12,a13,a14,a15,a16,a17] 16 == 1) (t:=(ee p[18]).1) (by simp only [maxLen];omega)
 rw [hX] at hR hXw
 try simp (disch:=omega) only [go_sem,seval,hC,h6]
 refine qB (fun h5=>?_) fun h5=>?_
 ·rw [h5] at hR
  simp only [true_and] at hR
  refine qX ?_
  refine qK (nz _ hXw) [] ?_
  refine qB (fun h7=>?_) fun h7=>?_
  ·rw [if_neg h7] at hR
   subst hR
   refine qP [] ?_
   first|exact⟨⟩|simp [ac]
  rw [if_pos h7] at hR
  subst hR
  refine qP [] ?_
  first|exact⟨⟩|simp
 rw [if_neg (by rw [h5];simp)] at hR
 subst hR
 refine qP [] ?_
 first|exact⟨⟩|simp [ac]
end
end Go.Proofs.YtdiiopjaebnmfaaGreatDoor
