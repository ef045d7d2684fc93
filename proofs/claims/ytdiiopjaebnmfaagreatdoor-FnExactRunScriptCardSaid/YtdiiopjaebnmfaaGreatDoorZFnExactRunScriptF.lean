/- Lemmas of this claim. -/
import Derived.Test.YtdiiopjaebnmfaaGreatDoorZFnExactRunScriptC
set_option maxHeartbeats 16000000
set_option maxRecDepth 100000
set_option linter.unusedVariables false
set_option linter.unusedSimpArgs false
namespace Go.Proofs.YtdiiopjaebnmfaaGreatDoor
open _root_.Go.Proofs.Tryz
open _root_.Int renaming eq_ofNat_of_zero_le->zk
open _root_.Nat renaming zero_le->zG,le_refl->P_
open _root_.List renaming length_set->P6,map_take->P7,map_set->P8,getElem?_eq_getElem->P9,drop_length->Qa,set_set->Qb
section
open Go.RowKit
theorem vO (l:List UInt8) (hln:l.length<=1073741000):aP 29 [.sc (.st l)] [] (.sc (.sl 0 0 (d9 10 l).length)) [some ⟨(d9 10 l).map aD,1,9,true,true⟩]:=by
 refine qE func29 ntmps29 results29 fun E hE=>?_
 refine fJ 0 hE (fun s (x:Nat×Nat×List (List UInt8))=>s.at (qU [6,25]) [(5,.sc (.int .i64 (x.1:Nat))),(4,.sc (.int .i64 (x.2.1:Nat))),(3,.sc (.sl 0 0 x.2.2.length))] ([some ⟨x.2.2.map aD,1,9,true,true⟩])) (fun (x:Nat×Nat×List (List UInt8))=>x.2.2.length<=x.1/\((x.1<=l.length/\x.2.1<=x.1/\eQ 10 x.2.2 ((l.take x.1).drop x.2.1) (l.drop x.1)=d9 10 l)\/(x.1=l.length+1/\x.2.2=d9 10 l))) (fun (x:Nat×Nat×List (List UInt8))=>l.length+1 - x.1) (0,0,[]) [none] (⟨zG _,.inl ⟨zG _,P_ _,rfl⟩⟩) fun x hx N hN=>?_
 obtain⟨k,fr,acc⟩:=x
 obtain⟨hn,hx⟩:=hx
 dsimp only at hn hx
 refine qR ?_
 refine qB (fun h=>?_) fun h=>?_
 ·obtain⟨hk,hfr,hx⟩:k<=l.length/\fr<=k/\eQ 10 acc ((l.take k).drop fr) (l.drop k)=d9 10 l:=by
   rcases hx with hx|hx
   ·exact hx
   omega
  refine qB (fun h2=>?_) fun h2=>?_
  ·have h':k < l.length:=zO
   rw [mE h'] at hx
   try simp (disch:=omega) only [go_sem,seval,dv _ h']
   refine qB (fun h3=>?_) fun h3=>?_
   ·have h4:l[k]=10:=UInt8.toNat_inj.1 (by show l[k].toNat=10;omega)
    rw [if_pos h4] at hx
    refine qX ?_
    refine⟨qC,hN _ (k+1,k+1,acc++[(l.take k).drop fr]) (qI 2 1) (by (try dsimp only);exact⟨by simp;omega,.inl ⟨zO,P_ _,by simpa using hx⟩⟩) (by (try dsimp only);omega) (aw zF zF ?_)⟩
    refine qX ?_
    simp [aD]
   have h4:l[k]≠10:=fun e=>by rw [e] at h3;exact h3 rfl
   rw [if_neg h4,<-eP h' hfr] at hx
   refine qX ?_
   exact qN hN (k+1,fr,acc) (qI 0 1) (by (try dsimp only);exact⟨zO,.inl ⟨zO,zO,hx⟩⟩)
  have h':k=l.length:=zO
  subst h'
  rw [Qa,eQ] at hx
  refine qX ?_
  refine⟨qC,hN _ (l.length+1,l.length+1,acc++[(l.take l.length).drop fr]) (qI 2 1) (by (try dsimp only);exact⟨by simp;omega,.inr ⟨rfl,hx⟩⟩) (by (try dsimp only);omega) (aw zF zF ?_)⟩
  refine qX ?_
  simp [aD]
 obtain⟨hk,hx⟩:k=l.length+1/\acc=d9 10 l:=by
  rcases hx with hx|hx
  ·omega
  exact hx
 subst hx
 exact qF (qI 0 1)
theorem zC (l:List UInt8) (hln:l.length<=1073741000):aP 37 [.sc (.st l),.sc (.int .u8 10)] [] (.sc (.sl 0 0 (d9 10 l).length)) [some ⟨(d9 10 l).map aD,1,9,true,true⟩]:=by
 refine qE func37 ntmps37 results37 fun E hE=>?_
 refine fJ 0 hE (fun s (x:Nat×Nat×List (List UInt8))=>s.at (qU [8,27]) [(7,.sc (.int .i64 (x.1:Nat))),(6,.sc (.int .i64 (x.2.1:Nat))),(5,.sc (.sl 0 0 x.2.2.length))] ([some ⟨x.2.2.map aD,1,9,true,true⟩])) (fun (x:Nat×Nat×List (List UInt8))=>x.2.2.length<=x.1/\((x.1<=l.length/\x.2.1<=x.1/\eQ 10 x.2.2 ((l.take x.1).drop x.2.1) (l.drop x.1)=d9 10 l)\/(x.1=l.length+1/\x.2.2=d9 10 l))) (fun (x:Nat×Nat×List (List UInt8))=>l.length+1 - x.1) (0,0,[]) (qI 0 1) (⟨zG _,.inl ⟨zG _,P_ _,rfl⟩⟩) fun x hx N hN=>?_
 obtain⟨k,fr,acc⟩:=x
 obtain⟨hn,hx⟩:=hx
 dsimp only at hn hx
 refine qR ?_
 refine qB (fun h=>?_) fun h=>?_
 ·obtain⟨hk,hfr,hx⟩:k<=l.length/\fr<=k/\eQ 10 acc ((l.take k).drop fr) (l.drop k)=d9 10 l:=by
   rcases hx with hx|hx
   ·exact hx
   omega
  refine qB (fun h2=>?_) fun h2=>?_
  ·have h':k < l.length:=zO
   rw [mE h'] at hx
   try simp (disch:=omega) only [go_sem,seval,dv _ h']
   refine qB (fun h3=>?_) fun h3=>?_
   ·have h4:l[k]=10:=UInt8.toNat_inj.1 (by show l[k].toNat=10;omega)
    rw [if_pos h4] at hx
    refine qX ?_
    refine⟨qC,hN _ (k+1,k+1,acc++[(l.take k).drop fr]) (qI 2 1) (by (try dsimp only);exact⟨by simp;omega,.inl ⟨zO,P_ _,by simpa using hx⟩⟩) (by (try dsimp only);omega) (aw zF zF ?_)⟩
    refine qX ?_
    simp [aD]
   have h4:l[k]≠10:=fun e=>by rw [e] at h3;exact h3 rfl
   rw [if_neg h4,<-eP h' hfr] at hx
   refine qX ?_
   exact qN hN (k+1,fr,acc) (qI 0 1) (by (try dsimp only);exact⟨zO,.inl ⟨zO,zO,hx⟩⟩)
  have h':k=l.length:=zO
  subst h'
  rw [Qa,eQ] at hx
  refine qX ?_
  refine⟨qC,hN _ (l.length+1,l.length+1,acc++[(l.take l.length).drop fr]) (qI 2 1) (by (try dsimp only);exact⟨by simp;omega,.inr ⟨rfl,hx⟩⟩) (by (try dsimp only);omega) (aw zF zF ?_)⟩
  refine qX ?_
  simp [aD]
 obtain⟨hk,hx⟩:k=l.length+1/\acc=d9 10 l:=by
  rcases hx with hx|hx
  ·omega
  exact hx
 subst hx
 exact qF (qI 0 1)
theorem IL (o:OutD) (n:Int):aP 251 [.ag o.cs,.sc (.int .i64 n)] [] (.ag (came o n).cs) []:=by
 obtain⟨R,hR⟩:∃ R,R=came o n:=⟨_,rfl⟩
 rw [<-hR]
 refine au func251 zXk rfl fun E hE=>ab 400 ?_
 simp (disch:=omega) only [ntmps251,results251,go_sem,seval]
 refine ai (qC) (kW o) [] qM zF (ab 400 ?_)
 simp (disch:=omega) only [go_sem,seval]
 split<;>rename_i h1<;>(try simp only [zR] at h1)<;>simp (disch:=omega) only [go_sem,seval,h1]<;>(try simp only [zQ] at h1)<;>try simp (disch:=omega) only [go_sem,seval]
 ·have h1':=h1
  simp only [outOk,fv,bU,Bool.and_eq_true,decide_eq_true_eq] at h1'
  obtain⟨⟨⟨⟨b0,b1⟩,r0,r1⟩,t0⟩,s0,s1⟩:=h1'
  rw [He zO] at s1
  split<;>rename_i h2<;>(try simp only [zR] at h2)<;>simp (disch:=omega) only [go_sem,seval,h2]<;>(try simp only [zQ] at h2)<;>try simp (disch:=omega) only [go_sem,seval]
  ·split<;>rename_i h3<;>(try simp only [zR] at h3)<;>simp (disch:=omega) only [go_sem,seval,h3]<;>(try simp only [zQ] at h3)<;>try simp (disch:=omega) only [go_sem,seval]
   ·rw [came,if_neg (by rw [He zO];omega)] at hR
    subst hR
    refine aj [] (qC) _ zXg zF zF ?_
    simp (disch:=omega) only [go_sem,seval]
   rw [came,if_pos ⟨h1,zO,by rw [He zO];omega⟩] at hR
   subst hR
   by_cases h4:o.sent < n
   ·try simp (disch:=omega) only [go_sem,seval,h4]
    refine aj [] (qC) _ zXg zF zF ?_
    simp (disch:=omega) only [go_sem,seval]
    all_goals (try simp only [h4,if_true,if_false,go_sem])
    all_goals (repeat' first|rfl|constructor)
    try simp
   try simp (disch:=omega) only [go_sem,seval,h4]
   refine aj [] (qC) _ zXg zF zF ?_
   simp (disch:=omega) only [go_sem,seval]
   all_goals (try simp only [h4,if_true,if_false,go_sem])
   all_goals (repeat' first|rfl|constructor)
   try simp
  rw [came,if_neg zO] at hR
  subst hR
  refine aj [] (qC) _ zXg zF zF ?_
  simp (disch:=omega) only [go_sem,seval]
 rw [came,if_neg (by simp [h1])] at hR
 subst hR
 refine aj [] (qC) _ zXg zF zF ?_
 simp (disch:=omega) only [go_sem,seval]
theorem IM (o:OutD) (n:Int):aP 289 [.ag o.cs,.sc (.int .i64 n)] [] (.ag (came o n).cs) []:=by
 obtain⟨R,hR⟩:∃ R,R=came o n:=⟨_,rfl⟩
 rw [<-hR]
 refine au func289 zXk rfl fun E hE=>ab 400 ?_
 simp (disch:=omega) only [ntmps289,results289,go_sem,seval]
 refine ai (qC) (kX o) [] qM zF (ab 400 ?_)
 simp (disch:=omega) only [go_sem,seval]
 split<;>rename_i h1<;>(try simp only [zR] at h1)<;>simp (disch:=omega) only [go_sem,seval,h1]<;>(try simp only [zQ] at h1)<;>try simp (disch:=omega) only [go_sem,seval]
 ·have h1':=h1
  simp only [outOk,fv,bU,Bool.and_eq_true,decide_eq_true_eq] at h1'
  obtain⟨⟨⟨⟨b0,b1⟩,r0,r1⟩,t0⟩,s0,s1⟩:=h1'
  rw [He zO] at s1
  split<;>rename_i h2<;>(try simp only [zR] at h2)<;>simp (disch:=omega) only [go_sem,seval,h2]<;>(try simp only [zQ] at h2)<;>try simp (disch:=omega) only [go_sem,seval]
  ·split<;>rename_i h3<;>(try simp only [zR] at h3)<;>simp (disch:=omega) only [go_sem,seval,h3]<;>(try simp only [zQ] at h3)<;>try simp (disch:=omega) only [go_sem,seval]
   ·rw [came,if_neg (by rw [He zO];omega)] at hR
    subst hR
    refine aj [] (qC) _ zXg zF zF ?_
    simp (disch:=omega) only [go_sem,seval]
   rw [came,if_pos ⟨h1,zO,by rw [He zO];omega⟩] at hR
   subst hR
   by_cases h4:o.sent < n
   ·try simp (disch:=omega) only [go_sem,seval,h4]
    refine aj [] (qC) _ zXg zF zF ?_
    simp (disch:=omega) only [go_sem,seval]
    all_goals (try simp only [h4,if_true,if_false,go_sem])
    all_goals (repeat' first|rfl|constructor)
    try simp
   try simp (disch:=omega) only [go_sem,seval,h4]
   refine aj [] (qC) _ zXg zF zF ?_
   simp (disch:=omega) only [go_sem,seval]
   all_goals (try simp only [h4,if_true,if_false,go_sem])
   all_goals (repeat' first|rfl|constructor)
   try simp
  rw [came,if_neg zO] at hR
  subst hR
  refine aj [] (qC) _ zXg zF zF ?_
  simp (disch:=omega) only [go_sem,seval]
 rw [came,if_neg (by simp [h1])] at hR
 subst hR
 refine aj [] (qC) _ zXg zF zF ?_
 simp (disch:=omega) only [go_sem,seval]
theorem jB (e:EndD) (x:LetterD) (hs:Small e):aP 287 [.ag (e.cs 0),.ag x.cs] (e.hp false) (.sc (.int .i64 (jj e x))) (e.hp false):=by
 have hK:=(qH (bz e))
 have hS:=zL e x (by have:=hs.subs;omega)
 obtain⟨R,hR⟩:∃ R,R=jj e x:=⟨_,rfl⟩
 rw [<-hR]
 rw [jj] at hR
 refine qE func287 ntmps287 results287 fun E hE=>?_
 refine qK (hK) (qI 0 7) ?_
 refine qB (fun h1=>?_) fun h1=>?_
 ·refine qK (dq x) [] ?_
  refine qB (fun h2=>?_) fun h2=>?_
  ·rw [if_neg (by simp [h1,h2])] at hR
   refine qJ (qI 0 7) ?_
   exact hR.symm
  rw [if_pos (by simp [h1,h2])] at hR
  refine qK (hS) (qI 0 7) ?_
  refine qJ (qI 0 7) ?_
  exact hR.symm
 rw [if_neg (by simp [h1])] at hR
 refine qJ (qI 0 7) ?_
 exact hR.symm
theorem xL (e:EndD) (x:LetterD) (hs:Small e):aP 203 [.ag (e.cs 0),.ag x.cs] (e.hp false) (.tu [.ag ((bP e x).1.cs 7),.sc (.sl 14 0 (bP e x).2.length)])
  (e.hp false++((bP e x).1.hp true++[some ⟨(bP e x).2.map LetterD.cs,19,36,true,true⟩])):=by
 have hC:=(qH (aG e))
 have hK:=(qH (bA e))
 have hS:=gc e x (by have:=hs.subs;omega)
 have hbd:=gG e x
 have hL:=bL x
 have hf:=vb (e:=e) (x:=x)
 have ht:=fun (n:Nat)=> @vd e x n
 generalize bP e x=R at*
 refine qE func203 ntmps203 results203 fun E hE=>?_
 refine qK (hC) (qI 0 7) ?_
 refine qK (hS) (qI 0 7) ?_
 refine qK (hK) (qI 0 7) ?_
 refine qB (fun h1=>?_) fun h1=>?_
 ·refine qK (hL) [] ?_
  refine qB (fun h2=>?_) fun h2=>?_
  ·rcases hbd with hk|⟨hb0,hb1⟩
   ·rw [hf (cW (by rintro⟨_,_,hh⟩;omega))]
    rw [hk]
    refine qX ?_
    exact qF (qI 0 7++qI 10 7++qO 1)
   obtain⟨n,hk⟩:=zk hb0
   have hn:n < e.subs.length:=zO
   rw [ht _ (ol h1 h2 hk) hk,fd hn,hk]
   have e1:=lB e.subs n { e.subs[n] with state:=4 }
   simp only [SubD.cs] at e1
   try simp (disch:=omega) only [go_sem,seval,e1]
   refine qP (qI 0 7++qI 10 7++qO 1) ?_
   first|exact⟨⟩|simp
  rw [hf (cW (by rintro⟨_,hh,_⟩;rw [h2] at hh;cases hh))]
  refine qX ?_
  exact qF (qI 0 7++qI 10 7++qO 1)
 rw [hf (cW (by rintro⟨hh,_⟩;rw [h1] at hh;cases hh))]
 refine qX ?_
 exact qF (qI 0 7++qI 10 7++qO 1)
theorem xM (e:EndD) (x:LetterD) (hs:Small e):aP 277 [.ag (e.cs 0),.ag x.cs] (e.hp false) (.tu [.ag ((bP e x).1.cs 7),.sc (.sl 14 0 (bP e x).2.length)])
  (e.hp false++((bP e x).1.hp true++[some ⟨(bP e x).2.map LetterD.cs,19,36,true,true⟩])):=by
 have hC:=(qH (aF e))
 have hK:=(qH (bz e))
 have hS:=jB e x hs
 have hbd:=iz e x
 have hf:=vb (e:=e) (x:=x)
 have ht:=fun (n:Nat)=> @vd e x n
 generalize bP e x=R at*
 refine qE func277 ntmps277 results277 fun E hE=>?_
 refine qK (hC) (qI 0 7) ?_
 refine qK (hS) (qI 0 7) ?_
 rcases hbd with hon|⟨n,hon,hk,hn,_,_⟩
 ·rw [hf zO,hon]
  refine qX ?_
  exact qF (qI 0 7++qI 10 7++qI 18 1)
 rw [ht _ hon hk,fd hn,hon]
 have e1:=lB e.subs n { e.subs[n] with state:=4 }
 simp only [SubD.cs] at e1
 try simp (disch:=omega) only [go_sem,seval,e1]
 refine qP (qI 0 7++qI 10 7++qI 18 1) ?_
 first|exact⟨⟩|simp
theorem zM (e:EndD) (x:LetterD) (hs:Small e):aP 202 [.ag (e.cs 0),.ag x.cs] (e.hp false) (.tu [.ag ((cm e x).1.cs 7),.sc (.sl 14 0 (cm e x).2.length)])
  (e.hp false++((cm e x).1.hp true++[some ⟨(cm e x).2.map LetterD.cs,19,36,true,true⟩])):=by
 have hC:=(qH (aG e))
 have hK:=(qH (bA e))
 have hS:=gc e x (by have:=hs.subs;omega)
 have hbd:=gG e x
 have hL:=bL x
 have hf:=xF (e:=e) (x:=x)
 have ht:= @xG e x
 generalize cm e x=R at*
 refine qE func202 ntmps202 results202 fun E hE=>?_
 refine qK (hC) (qI 0 7) ?_
 refine qK (hK) (qI 0 7) ?_
 refine qB (fun h1=>?_) fun h1=>?_
 ·refine qK (hL) [] ?_
  refine qB (fun h2=>?_) fun h2=>?_
  ·refine qK (hS) (qI 0 7) ?_
   rcases hbd with hk|⟨hb0,hb1⟩
   ·rw [hf (cW (by rintro⟨_,_,hh⟩;omega))]
    rw [hk]
    refine qX ?_
    exact qF (qI 0 7++qI 10 7++qO 1)
   obtain⟨n,hk⟩:=zk hb0
   rw [ht (by rw [ol h1 h2 hk];omega),hk]
   refine qX ?_
   refine qK (IL e.out x.pos) [] ?_
   exact qF (qI 0 7++qI 10 7++qO 1)
  rw [hf (cW (by rintro⟨_,hh,_⟩;rw [h2] at hh;cases hh))]
  refine qX ?_
  exact qF (qI 0 7++qI 10 7++qO 1)
 rw [hf (cW (by rintro⟨hh,_⟩;rw [h1] at hh;cases hh))]
 refine qX ?_
 exact qF (qI 0 7++qI 10 7++qO 1)
theorem zT (e:EndD) (x:LetterD) (hs:Small e):aP 276 [.ag (e.cs 0),.ag x.cs] (e.hp false) (.tu [.ag ((cm e x).1.cs 7),.sc (.sl 14 0 (cm e x).2.length)])
  (e.hp false++((cm e x).1.hp true++[some ⟨(cm e x).2.map LetterD.cs,19,36,true,true⟩])):=by
 have hC:=(qH (aF e))
 have hK:=(qH (bz e))
 have hS:=jB e x hs
 have hbd:=iz e x
 have hf:=xF (e:=e) (x:=x)
 have ht:= @xG e x
 generalize cm e x=R at*
 refine qE func276 ntmps276 results276 fun E hE=>?_
 refine qK (hC) (qI 0 7) ?_
 refine qK (hS) (qI 0 7) ?_
 rcases hbd with hon|⟨n,hon,hk,hn,_,_⟩
 ·rw [hf zO,hon]
  refine qX ?_
  exact qF (qI 0 7++qI 10 7++qI 18 1)
 rw [ht zO,hon]
 refine qX ?_
 refine qK (IM e.out x.pos) [] ?_
 exact qF (qI 0 7++qI 10 7++qI 18 1)
theorem ui (e:EndD) (x:LetterD) (hs:Small e):aP 197 [.ag (e.cs 0),.ag x.cs] (e.hp false) (.tu [.ag ((bl e x).1.cs 7),.sc (.sl 14 0 (bl e x).2.length)])
  (e.hp false++((bl e x).1.hp true++[some ⟨(bl e x).2.map LetterD.cs,19,36,true,true⟩])):=by
 have hC:=(qH (aG e))
 have hK:=(qH (bA e))
 have hS:=fT e (am x) (by have:=hs.subs;omega)
 have hL:=bL x
 have hbd:=f6 e.subs (am x)
 have hf:=M7 (e:=e) (x:=x)
 have ht:=fun (n:Nat)=> @M8 e x n
 generalize bl e x=R at*
 refine qE func197 ntmps197 results197 fun E hE=>?_
 refine qK (hC) (qI 0 7) ?_
 refine qD [0,1,2,3,4] ?_
 refine aE (eG x) [] ?_
 refine aE (hS) (qI 0 7) ?_
 refine qG ?_
 rcases hbd with hk|⟨hb0,hb1⟩
 ·rw [hf (Kt hk),hk]
  refine qD [0,1,2,3,4,5,6,7,8,9,10,11,12,13,14,15,16,17,18,19,20,21,22,23,24,25,26,27,28,29] ?_
  refine aE (hK) (qI 0 7) ?_
  refine qB (fun h1=>?_) fun h1=>?_
  ·refine aE (hL) [] ?_
   refine qB (fun h2=>?_) fun h2=>?_
   ·refine qG ?_
    exact qF (qI 0 7++qI 10 7++qO 1)
   refine qG ?_
   exact qF (qI 0 7++qI 10 7++qO 1)
  refine qG ?_
  exact qF (qI 0 7++qI 10 7++qO 1)
 obtain⟨n,hk⟩:=zk hb0
 have hn:n < e.subs.length:=zO
 have ha:=Ks hk hn
 rw [hk]
 refine qD [0,1,2,3,4,5,6,7,8,9,10,11,12,13,14,15,16,17,18,19,20,21,22,23,24,25,26,27,28,29] ?_
 refine aE (hK) (qI 0 7) ?_
 refine qB (fun h1=>?_) fun h1=>?_
 ·refine aE (hL) [] ?_
  refine qB (fun h2=>?_) fun h2=>?_
  ·refine qB (fun h3=>?_) fun h3=>?_
   ·refine qG ?_
    refine qB (fun h4=>?_) fun h4=>?_
    ·rw [ht _ (by rw [ha];simp [h1,h2,h3,h4]) hk,fd hn]
     have e1:=lB e.subs n { e.subs[n] with state:=3 }
     simp only [SubD.cs] at e1
     try simp (disch:=omega) only [go_sem,seval,e1]
     refine qP (qI 0 7++qI 10 7++qO 1) ?_
     first|exact⟨⟩|simp
    rw [hf (by rw [ha];simp [h1,h2,h3,h4])]
    refine qX ?_
    exact qF (qI 0 7++qI 10 7++qO 1)
   rw [hf (by rw [ha];simp [h1,h2,h3])]
   refine qG ?_
   exact qF (qI 0 7++qI 10 7++qO 1)
  rw [hf (by rw [ha];simp [h1,h2])]
  refine qG ?_
  exact qF (qI 0 7++qI 10 7++qO 1)
 rw [hf (by rw [ha];simp [h1])]
 refine qG ?_
 exact qF (qI 0 7++qI 10 7++qO 1)
theorem uj (e:EndD) (x:LetterD) (hs:Small e):aP 271 [.ag (e.cs 0),.ag x.cs] (e.hp false) (.tu [.ag ((bl e x).1.cs 7),.sc (.sl 14 0 (bl e x).2.length)])
  (e.hp false++((bl e x).1.hp true++[some ⟨(bl e x).2.map LetterD.cs,19,36,true,true⟩])):=by
 have hC:=(qH (aF e))
 have hK:=(qH (bz e))
 have hS:=fU e (am x) (by have:=hs.subs;omega)
 have hL:=dq x
 have hbd:=f6 e.subs (am x)
 have hf:=M7 (e:=e) (x:=x)
 have ht:=fun (n:Nat)=> @M8 e x n
 generalize bl e x=R at*
 refine qE func271 ntmps271 results271 fun E hE=>?_
 refine qK (hC) (qI 0 7) ?_
 refine qD [0,1,2,3,4] ?_
 refine aE (de x) [] ?_
 refine aE (hS) (qI 0 7) ?_
 refine qG ?_
 rcases hbd with hk|⟨hb0,hb1⟩
 ·rw [hf (Kt hk),hk]
  refine qD [0,1,2,3,4,5,6,7,8,9,10,11,12,13,14,15,16,17,18,19,20,21,22,23,24,25,26,27,28,29] ?_
  refine aE (hK) (qI 0 7) ?_
  refine qB (fun h1=>?_) fun h1=>?_
  ·refine aE (hL) [] ?_
   refine qB (fun h2=>?_) fun h2=>?_
   ·refine qG ?_
    exact qF (qI 0 7++qI 10 7++qI 18 1)
   refine qG ?_
   exact qF (qI 0 7++qI 10 7++qI 18 1)
  refine qG ?_
  exact qF (qI 0 7++qI 10 7++qI 18 1)
 obtain⟨n,hk⟩:=zk hb0
 have hn:n < e.subs.length:=zO
 have ha:=Ks hk hn
 rw [hk]
 refine qD [0,1,2,3,4,5,6,7,8,9,10,11,12,13,14,15,16,17,18,19,20,21,22,23,24,25,26,27,28,29] ?_
 refine aE (hK) (qI 0 7) ?_
 refine qB (fun h1=>?_) fun h1=>?_
 ·refine aE (hL) [] ?_
  refine qB (fun h2=>?_) fun h2=>?_
  ·refine qB (fun h3=>?_) fun h3=>?_
   ·refine qG ?_
    refine qB (fun h4=>?_) fun h4=>?_
    ·rw [ht _ (by rw [ha];simp [h1,h2,h3,h4]) hk,fd hn]
     have e1:=lB e.subs n { e.subs[n] with state:=3 }
     simp only [SubD.cs] at e1
     try simp (disch:=omega) only [go_sem,seval,e1]
     refine qP (qI 0 7++qI 10 7++qI 18 1) ?_
     first|exact⟨⟩|simp
    rw [hf (by rw [ha];simp [h1,h2,h3,h4])]
    refine qX ?_
    exact qF (qI 0 7++qI 10 7++qI 18 1)
   rw [hf (by rw [ha];simp [h1,h2,h3])]
   refine qG ?_
   exact qF (qI 0 7++qI 10 7++qI 18 1)
  rw [hf (by rw [ha];simp [h1,h2])]
  refine qG ?_
  exact qF (qI 0 7++qI 10 7++qI 18 1)
 rw [hf (by rw [ha];simp [h1])]
 refine qG ?_
 exact qF (qI 0 7++qI 10 7++qI 18 1)
theorem pU (e:EndD) (x:LetterD) (hs:Small e):aP 85 [.ag (e.cs 0),.ag x.cs] (e.hp false) (.tu [.ag ((bE e x).1.cs 7),.sc (.sl 14 0 (bE e x).2.length)])
  (e.hp false++((bE e x).1.hp true++[some ⟨(bE e x).2.map LetterD.cs,19,36,true,true⟩])):=by
 have hC:=(qH (aG e))
 have hK:=(qH (bA e))
 have hS:=fT e (am x) (by have:=hs.subs;omega)
 have hL:=bL x
 have hbd:=f6 e.subs (am x)
 have hf:=Ku (e:=e) (x:=x)
 have ht:=fun (n:Nat)=> @Kv e x n
 generalize bE e x=R at*
 refine qE func85 ntmps85 results85 fun E hE=>?_
 refine qK (hC) (qI 0 7) ?_
 refine qK (eG x) [] ?_
 refine qK (hS) (qI 0 7) ?_
 rcases hbd with hk|⟨hb0,hb1⟩
 ·rw [hf (Hl hk),hk]
  refine qX ?_
  refine qK (hK) (qI 0 7) ?_
  refine qB (fun h1=>?_) fun h1=>?_
  ·refine qK (hL) [] ?_
   refine qB (fun h2=>?_) fun h2=>?_
   ·refine qB (fun h3=>?_) fun h3=>?_
    ·refine qX ?_
     exact qF (qI 0 7++qI 10 7++qO 1)
    refine qX ?_
    exact qF (qI 0 7++qI 10 7++qO 1)
   refine qX ?_
   exact qF (qI 0 7++qI 10 7++qO 1)
  refine qX ?_
  exact qF (qI 0 7++qI 10 7++qO 1)
 obtain⟨n,hk⟩:=zk hb0
 have hn:n < e.subs.length:=zO
 have ha:=Hk hk hn
 rw [hk]
 refine qX ?_
 refine qK (hK) (qI 0 7) ?_
 refine qB (fun h1=>?_) fun h1=>?_
 ·refine qK (hL) [] ?_
  refine qB (fun h2=>?_) fun h2=>?_
  ·refine qB (fun h3=>?_) fun h3=>?_
   ·refine qB (fun h4=>?_) fun h4=>?_
    ·refine qK (aS _ _ _) [] ?_
     refine qB (fun h5=>?_) fun h5=>?_
     ·rw [hf (by rw [ha];simp [h1,h2,h3,h4,h5])]
      refine qX ?_
      exact qF (qI 0 7++qI 10 7++qO 1)
     rw [ht _ (by rw [ha];simp [h1,h2,h3,h4,h5]) hk hn]
     have e1:=lB e.subs n { e.subs[n] with state:=3 }
     have e2:=lB (e.subs.set n { e.subs[n] with state:=3 }) n { e.subs[n] with state:=3,give:=x.give }
     rw [Qb] at e2
     simp only [SubD.cs] at e1 e2
     refine qX ?_
     refine qK (Es x.frm) [] ?_
     try simp (disch:=omega) only [go_sem,seval,e1,e2]
     refine aB [(4,5)] [(qU [0,7]),[0,1,2,3,5,4,6]] zXk (qC) zXk ?_
     simp only [aM]
     refine⟨aa 400 ?_,aa 400 ?_⟩
     all_goals simp (disch:=omega) only [go_sem,seval]
     all_goals
      refine aE (bB (am x) { ac with kind:=3 }) [] ?_
      refine qG ?_
      refine aj (qI 0 7++qI 10 1++qI 19 1++qI 12 5++qI 20 1) (qC) _ zXg zF zF ?_
      simp (disch:=omega) only [go_sem,seval]
      try simp [gF,SubD.cs,LetterD.cs,am,bc,ac]
      try omega
    rw [hf (by rw [ha];simp [h1,h2,h3,h4])]
    refine qX ?_
    exact qF (qI 0 7++qI 10 7++qO 1)
   rw [hf (by rw [ha];simp [h1,h2,h3])]
   refine qX ?_
   exact qF (qI 0 7++qI 10 7++qO 1)
  rw [hf (by rw [ha];simp [h1,h2])]
  refine qX ?_
  exact qF (qI 0 7++qI 10 7++qO 1)
 rw [hf (by rw [ha];simp [h1])]
 refine qX ?_
 exact qF (qI 0 7++qI 10 7++qO 1)
theorem pV (e:EndD) (x:LetterD) (hs:Small e):aP 167 [.ag (e.cs 0),.ag x.cs] (e.hp false) (.tu [.ag ((bE e x).1.cs 7),.sc (.sl 14 0 (bE e x).2.length)])
  (e.hp false++((bE e x).1.hp true++[some ⟨(bE e x).2.map LetterD.cs,19,36,true,true⟩])):=by
 have hC:=(qH (aF e))
 have hK:=(qH (bz e))
 have hS:=fU e (am x) (by have:=hs.subs;omega)
 have hL:=dq x
 have hbd:=f6 e.subs (am x)
 have hf:=Ku (e:=e) (x:=x)
 have ht:=fun (n:Nat)=> @Kv e x n
 generalize bE e x=R at*
 refine qE func167 ntmps167 results167 fun E hE=>?_
 refine qK (hC) (qI 0 7) ?_
 refine qD [0,1,2,3,4] ?_
 refine aE (de x) [] ?_
 refine aE (hS) (qI 0 7) ?_
 refine qG ?_
 rcases hbd with hk|⟨hb0,hb1⟩
 ·rw [hf (Hl hk),hk]
  refine qX ?_
  refine qK (hK) (qI 0 7) ?_
  refine qB (fun h1=>?_) fun h1=>?_
  ·refine qK (hL) [] ?_
   refine qB (fun h2=>?_) fun h2=>?_
   ·refine qB (fun h3=>?_) fun h3=>?_
    ·refine qX ?_
     exact qF (qI 0 7++qI 10 7++qI 18 1)
    refine qX ?_
    exact qF (qI 0 7++qI 10 7++qI 18 1)
   refine qX ?_
   exact qF (qI 0 7++qI 10 7++qI 18 1)
  refine qX ?_
  exact qF (qI 0 7++qI 10 7++qI 18 1)
 obtain⟨n,hk⟩:=zk hb0
 have hn:n < e.subs.length:=zO
 have ha:=Hk hk hn
 rw [hk]
 refine qX ?_
 refine qK (hK) (qI 0 7) ?_
 refine qB (fun h1=>?_) fun h1=>?_
 ·refine qK (hL) [] ?_
  refine qB (fun h2=>?_) fun h2=>?_
  ·refine qB (fun h3=>?_) fun h3=>?_
   ·refine qB (fun h4=>?_) fun h4=>?_
    ·refine qK (aJ _ _ _) [] ?_
     refine qB (fun h5=>?_) fun h5=>?_
     ·rw [hf (by rw [ha];simp [h1,h2,h3,h4,h5])]
      refine qX ?_
      exact qF (qI 0 7++qI 10 7++qI 18 1)
     rw [ht _ (by rw [ha];simp [h1,h2,h3,h4,h5]) hk hn]
     have e1:=lB e.subs n { e.subs[n] with state:=3 }
     have e2:=lB (e.subs.set n { e.subs[n] with state:=3 }) n { e.subs[n] with state:=3,give:=x.give }
     rw [Qb] at e2
     simp only [SubD.cs] at e1 e2
     refine qX ?_
     refine qK (vg x.frm) [] ?_
     try simp (disch:=omega) only [go_sem,seval,e1,e2]
     refine aB [(0,7),(3,0),(5,0),(6,0)] [[1,2,4,3,5,6,0,7,8,9],[1,2,4,3,5,0,6,7,8,9],[1,2,4,3,0,5,6,7,8,9],[1,2,4,0,3,5,6,7,8,9],[1,2,4,3,5,6,7,0,8,9]] zXk (qC) zXk ?_
     simp only [aM]
     refine⟨aa 400 ?_,aa 400 ?_,aa 400 ?_,aa 400 ?_,aa 400 ?_⟩
     all_goals simp (disch:=omega) only [go_sem,seval]
     all_goals
      refine aE (de x) [] ?_
      refine aE (a_ (am x) { ac with kind:=3 }) [] ?_
      refine qG ?_
      refine aj (qI 0 7++qI 10 1++qI 19 1++qI 12 5++qI 21 1) (qC) _ zXg zF zF ?_
      simp (disch:=omega) only [go_sem,seval]
      try simp [gF,SubD.cs,LetterD.cs,am,bc,ac]
      try omega
    rw [hf (by rw [ha];simp [h1,h2,h3,h4])]
    refine qX ?_
    exact qF (qI 0 7++qI 10 7++qI 18 1)
   rw [hf (by rw [ha];simp [h1,h2,h3])]
   refine qX ?_
   exact qF (qI 0 7++qI 10 7++qI 18 1)
  rw [hf (by rw [ha];simp [h1,h2])]
  refine qX ?_
  exact qF (qI 0 7++qI 10 7++qI 18 1)
 rw [hf (by rw [ha];simp [h1])]
 refine qX ?_
 exact qF (qI 0 7++qI 10 7++qI 18 1)
theorem mh {α:Type} {f:α->List Sc} {l:List α} {n:Nat} (h:n < l.length):
  n+(l.length - (n+1))=(l.take n).length+(l.drop (n+1)).length/\(l.take n).map f++((l.map f).drop (n+1)).take (l.length - (n+1))=(l.take n++l.drop (n+1)).map f:=by
 refine⟨by simp;omega,?_⟩
 simp only [List.map_append,P7,List.map_drop]
 congr 1
 exact List.take_of_length_le zP
theorem pW (l:List AddrD) (r:Int) (hl:l.length<=1048576):aP 156 [.sc (.sl 0 0 l.length),.sc (.int .i64 r)] [some ⟨l.map AddrD.cs,4,32,false,true⟩]
  (.tu [.sc (.sl 1 0 (bC l r).1.length),.sc (.bo (bC l r).2)]) [some ⟨l.map AddrD.cs,4,32,false,true⟩,some ⟨(bC l r).1.map AddrD.cs,4,32,true,true⟩]:=by
 have hA:=fN l r hl
 have hbd:=eZ l r
 have hf:= @xU l r
 have ht:=fun n=> @jD l r n
 generalize bC l r=R at*
 refine qE func156 ntmps156 results156 fun E hE=>?_
 refine qK (hA) (qI 0 1) ?_
 rcases hbd with hk|⟨hb0,hb1⟩
 ·rw [hf hk,hk]
  refine qX ?_
  refine qK (cL l hl) (qI 0 1) ?_
  exact qF (qI 0 2)
 obtain⟨n,hk⟩:=zk hb0
 rw [ht _ hk,hk]
 refine qX ?_
 refine qD [0,1,2,4,5,6,7,3,8,9,10] ?_
 have hlt:(l.take n).length=n:=by simp;omega
 have hlt2:(List.take n (List.map AddrD.cs l)).length=n:=by simp;omega
 have hC:=cL (l.take n) zS
 rw [List.length_take,show min n l.length=n by omega] at hC
 refine aE (hC) [some (0,some 0)] ?_
 refine qG ?_
 refine qJ (qI 0 1++qI 2 1) ?_
 exact mh zO
theorem pX (l:List AddrD) (r:Int) (hl:l.length<=1048576):aP 231 [.sc (.sl 0 0 l.length),.sc (.int .i64 r)] [some ⟨l.map AddrD.cs,4,32,false,true⟩]
  (.tu [.sc (.sl 1 0 (bC l r).1.length),.sc (.bo (bC l r).2)]) [some ⟨l.map AddrD.cs,4,32,false,true⟩,some ⟨(bC l r).1.map AddrD.cs,4,32,true,true⟩]:=by
 have hA:=eF l r hl
 have hbd:=eZ l r
 have hf:= @xU l r
 have ht:=fun n=> @jD l r n
 generalize bC l r=R at*
 refine qE func231 ntmps231 results231 fun E hE=>?_
 refine qK (hA) (qI 0 1) ?_
 rcases hbd with hk|⟨hb0,hb1⟩
 ·rw [hf hk,hk]
  refine qX ?_
  exact qF (qI 0 1++qI 2 1)
 obtain⟨n,hk⟩:=zk hb0
 have hlt:(l.take n).length=n:=by simp;omega
 have hlt2:(List.take n (List.map AddrD.cs l)).length=n:=by simp;omega
 rw [ht _ hk,hk]
 refine qX ?_
 refine qJ (qI 0 1++qI 3 1) ?_
 rw [<-P7]
 exact mh zO
theorem mT (l:List AddrD) (a:AddrD) (hl:l.length<=1048576):aP 155 [.sc (.sl 0 0 l.length),.ag a.cs] [some ⟨l.map AddrD.cs,4,32,false,true⟩]
  (.tu [.sc (.sl 1 0 (bu l a).1.length),.sc (.bo (bu l a).2)]) [some ⟨l.map AddrD.cs,4,32,false,true⟩,some ⟨(bu l a).1.map AddrD.cs,4,32,true,true⟩]:=by
 have hA:=fN l a.id zO
 have hbd:=eZ l a.id
 have hO:=kx (dA l a) (by have:=ey l a;omega)
 have hll:=ey l a
 have hLt:=fun k=> @xS l a k
 have hLf:=fun k=> @xT l a k
 have ht:=Bc (l:=l) (a:=a)
 have hf:=ud (l:=l) (a:=a)
 have hbig:=vj (l:=l) (a:=a)
 generalize dA l a=L at*
 generalize bu l a=R at*
 refine qE func155 ntmps155 results155 fun E hE=>?_
 refine qK (cL l zO) (qI 0 1) ?_
 refine qK (hA) (qI 0 1) ?_
 rcases hbd with hat|⟨hb0,hb1⟩
 ·rw [hat]
  refine qX ?_
  refine fJ 1 hE (fun s (k:Nat)=>s.at (qU [1,1,8,28]) [(7,.sc (.int .i64 (k:Nat)))] (s.hp)) (fun (k:Nat)=>k<=l.length/\k+((l.drop k).takeWhile (fun b=>decide (b.id < a.id))).length=Eg l a.id) (fun (k:Nat)=>l.length - k) 0 (qI 0 3) (⟨zG _,by simp [Eg]⟩) fun k hk N hN=>?_
  obtain⟨hk1,hk2⟩:=hk
  refine qR ?_
  refine qD [0,1,2,3,4,5,6,7,8,9,10,11,12,13] ?_
  refine qB (fun h=>?_) fun h=>?_
  ·refine⟨qC,ab 400 ?_⟩
   rw [ws h] at hk2
   refine qX ?_
   refine qB (fun h2=>?_) fun h2=>?_
   ·rw [if_pos (by simp [h2])] at hk2
    exact qN hN (k+1) (qI 0 3) (by (try dsimp only);exact⟨zO,zO⟩)
   rw [if_neg zS] at hk2
   have hq:=hLf k hat zO
   have e1:(l.take k).map AddrD.cs++[a.cs]++((l.map AddrD.cs).drop k).take (l.length - k)=L.map AddrD.cs:=by rw [hq];exact (mg rfl hk1).2
   have e2:k+1+(l.length - k)=L.length:=by rw [hq];simp;omega
   have hlt:(l.take k).length=k:=by simp;omega
   have hlt2:((l.map AddrD.cs).take k).length=k:=by simp;omega
   have hC:=cL (l.take k) zO
   rw [hlt] at hC
   simp only [AddrD.cs] at e1
   refine aB [(3,5),(3,9),(5,9),(6,9)] [[0,1,2,4,7,8,3,5,6,9,10,11],[0,1,2,4,7,8,3,5,9,6,10,11],[0,1,2,4,7,8,3,9,5,6,10,11],[0,1,2,4,7,8,9,3,5,6,10,11],[0,1,2,4,7,8,5,3,6,9,10,11],[0,1,2,4,7,8,5,3,9,6,10,11],[0,1,2,4,7,8,5,9,3,6,10,11],[0,1,2,4,7,8,9,5,3,6,10,11]] zXk (qC) zXk ?_
   simp only [aM]
   refine⟨aa 400 ?_,aa 400 ?_,aa 400 ?_,aa 400 ?_,aa 400 ?_,aa 400 ?_,aa 400 ?_,aa 400 ?_⟩
   all_goals simp (disch:=omega) only [go_sem,seval]
   all_goals
    refine aE (hC) [some (0,some 0)] ?_
    refine⟨qC,ab 400 ?_⟩
    try simp (disch:=omega) only [go_sem,seval,e1,e2]
    refine qK (hO) (qI 6 1) ?_
    refine qB (fun h9=>?_) fun h9=>?_
    ·rw [hf h9]
     refine qX ?_
     refine qK (cL l zO) (qI 0 1) ?_
     exact qF (qI 0 1++qI 7 1)
    rw [ht h9]
    refine qX ?_
    exact qF (qI 0 1++qI 6 1)
  refine⟨qC,ab 400 ?_⟩
  rw [Ct zO] at hk2
  refine qX ?_
  have hq:=hLf k hat zO
  have e1:(l.take k).map AddrD.cs++[a.cs]++((l.map AddrD.cs).drop k).take (l.length - k)=L.map AddrD.cs:=by rw [hq];exact (mg rfl hk1).2
  have e2:k+1+(l.length - k)=L.length:=by rw [hq];simp;omega
  have hlt:(l.take k).length=k:=by simp;omega
  have hlt2:((l.map AddrD.cs).take k).length=k:=by simp;omega
  have hC:=cL (l.take k) zO
  rw [hlt] at hC
  simp only [AddrD.cs] at e1
  refine aB [(3,5),(3,9),(5,9),(6,9)] [[0,1,2,4,7,8,3,5,6,9,10,11],[0,1,2,4,7,8,3,5,9,6,10,11],[0,1,2,4,7,8,3,9,5,6,10,11],[0,1,2,4,7,8,9,3,5,6,10,11],[0,1,2,4,7,8,5,3,6,9,10,11],[0,1,2,4,7,8,5,3,9,6,10,11],[0,1,2,4,7,8,5,9,3,6,10,11],[0,1,2,4,7,8,9,5,3,6,10,11]] zXk (qC) zXk ?_
  simp only [aM]
  refine⟨aa 400 ?_,aa 400 ?_,aa 400 ?_,aa 400 ?_,aa 400 ?_,aa 400 ?_,aa 400 ?_,aa 400 ?_⟩
  all_goals simp (disch:=omega) only [go_sem,seval]
  all_goals
   refine aE (hC) [some (0,some 0)] ?_
   refine⟨qC,ab 400 ?_⟩
   try simp (disch:=omega) only [go_sem,seval,e1,e2]
   refine qK (hO) (qI 6 1) ?_
   refine qB (fun h9=>?_) fun h9=>?_
   ·rw [hf h9]
    refine qX ?_
    refine qK (cL l zO) (qI 0 1) ?_
    exact qF (qI 0 1++qI 7 1)
   rw [ht h9]
   refine qX ?_
   exact qF (qI 0 1++qI 6 1)
 obtain⟨n,hk⟩:=zk hb0
 have hn:n < l.length:=zO
 have e:=Eq l n a
 simp only [AddrD.cs] at e
 rw [hLt n hk] at hO ht hf
 rw [P6] at hO
 rw [hk]
 try simp (disch:=omega) only [go_sem,seval,e]
 refine qK (hO) (qI 2 1) ?_
 refine qB (fun h1=>?_) fun h1=>?_
 ·rw [hf h1]
  refine qX ?_
  refine qK (cL l zO) (qI 0 1) ?_
  exact qF (qI 0 1++qI 3 1)
 rw [ht h1]
 try simp only [P6]
 refine qX ?_
 exact qF (qI 0 1++qI 2 1)
theorem kA (l:List AddrD) (a:AddrD) (hl:l.length<=1048576):aP 162 [.sc (.sl 0 0 l.length),.ag a.cs] [some ⟨l.map AddrD.cs,4,32,false,true⟩]
  (.tu [.sc (.sl 1 0 (bu l a).1.length),.sc (.bo (bu l a).2)]) [some ⟨l.map AddrD.cs,4,32,false,true⟩,some ⟨(bu l a).1.map AddrD.cs,4,32,true,true⟩]:=by
 have hA:=eF l a.id zO
 have hbd:=eZ l a.id
 have hO:=mP (dA l a) (by have:=ey l a;omega)
 have hll:=ey l a
 have hLt:=fun k=> @xS l a k
 have hLf:=fun k=> @xT l a k
 have ht:=Bc (l:=l) (a:=a)
 have hf:=ud (l:=l) (a:=a)
 have hbig:=vj (l:=l) (a:=a)
 generalize dA l a=L at*
 generalize bu l a=R at*
 refine qE func162 ntmps162 results162 fun E hE=>?_
 refine qB (fun h0=>?_) fun h0=>?_
 ·rw [hbig zO]
  refine qX ?_
  exact qF (qI 0 1++qI 3 1)
 refine qX ?_
 refine qK (hA) (qI 0 1) ?_
 rcases hbd with hat|⟨hb0,hb1⟩
 ·rw [hat]
  refine qX ?_
  refine fJ 1 hE (fun s (k:Nat)=>s.at (qU [1,1,9,36]) [(8,.sc (.int .i64 (k:Nat)))] (s.hp)) (fun (k:Nat)=>k<=l.length/\k+((l.drop k).takeWhile (fun b=>decide (b.id < a.id))).length=Eg l a.id) (fun (k:Nat)=>l.length - k) 0 (qI 0 6) (⟨zG _,by simp [Eg]⟩) fun k hk N hN=>?_
  obtain⟨hk1,hk2⟩:=hk
  refine qR ?_
  refine qD [0,1,2,3,4,5,6,7,8,9,10,11,12,13] ?_
  refine qB (fun h=>?_) fun h=>?_
  ·refine⟨qC,ab 400 ?_⟩
   rw [ws h] at hk2
   refine qX ?_
   refine qB (fun h2=>?_) fun h2=>?_
   ·rw [if_pos (by simp [h2])] at hk2
    exact qN hN (k+1) (qI 0 6) (by (try dsimp only);exact⟨zO,zO⟩)
   rw [if_neg zS] at hk2
   have hq:=hLf k hat zO
   have e1:(l.take k).map AddrD.cs++[a.cs]++((l.map AddrD.cs).drop k).take (l.length - k)=L.map AddrD.cs:=by rw [hq];exact (mg rfl hk1).2
   have e2:k+1+(l.length - k)=L.length:=by rw [hq];simp;omega
   have hlt:(l.take k).length=k:=by simp;omega
   have hlt2:((l.map AddrD.cs).take k).length=k:=by simp;omega
   have e3:((l.map AddrD.cs).take k)=(l.take k).map AddrD.cs:=P7.symm
   simp only [AddrD.cs] at e1
   refine aB [(0,5),(0,6),(4,5),(4,6)] [[1,2,3,0,4,5,6,7,8],[1,2,3,0,5,4,6,7,8],[1,2,3,0,5,6,4,7,8],[1,2,3,5,0,4,6,7,8],[1,2,3,5,0,6,4,7,8],[1,2,3,5,6,0,4,7,8]] zXk (qC) zXk ?_
   simp only [aM]
   refine⟨aa 400 ?_,aa 400 ?_,aa 400 ?_,aa 400 ?_,aa 400 ?_,aa 400 ?_⟩
   all_goals simp (disch:=omega) only [go_sem,seval]
   all_goals
    refine⟨qC,ab 400 ?_⟩
    try simp (disch:=omega) only [go_sem,seval,e1,e2,e3]
    refine qK (hO) (qI 10 1) ?_
    refine qB (fun h9=>?_) fun h9=>?_
    ·rw [hf h9]
     refine qX ?_
     exact qF (qI 0 1++qI 3 1)
    rw [ht h9]
    refine qX ?_
    exact qF (qI 0 1++qI 10 1)
  refine⟨qC,ab 400 ?_⟩
  rw [Ct zO] at hk2
  refine qX ?_
  have hq:=hLf k hat zO
  have e1:(l.take k).map AddrD.cs++[a.cs]++((l.map AddrD.cs).drop k).take (l.length - k)=L.map AddrD.cs:=by rw [hq];exact (mg rfl hk1).2
  have e2:k+1+(l.length - k)=L.length:=by rw [hq];simp;omega
  have hlt:(l.take k).length=k:=by simp;omega
  have hlt2:((l.map AddrD.cs).take k).length=k:=by simp;omega
  have e3:((l.map AddrD.cs).take k)=(l.take k).map AddrD.cs:=P7.symm
  simp only [AddrD.cs] at e1
  refine aB [(0,5),(0,6),(4,5),(4,6)] [[1,2,3,0,4,5,6,7,8],[1,2,3,0,5,4,6,7,8],[1,2,3,0,5,6,4,7,8],[1,2,3,5,0,4,6,7,8],[1,2,3,5,0,6,4,7,8],[1,2,3,5,6,0,4,7,8]] zXk (qC) zXk ?_
  simp only [aM]
  refine⟨aa 400 ?_,aa 400 ?_,aa 400 ?_,aa 400 ?_,aa 400 ?_,aa 400 ?_⟩
  all_goals simp (disch:=omega) only [go_sem,seval]
  all_goals
   refine⟨qC,ab 400 ?_⟩
   try simp (disch:=omega) only [go_sem,seval,e1,e2,e3]
   refine qK (hO) (qI 10 1) ?_
   refine qB (fun h9=>?_) fun h9=>?_
   ·rw [hf h9]
    refine qX ?_
    exact qF (qI 0 1++qI 3 1)
   rw [ht h9]
   refine qX ?_
   exact qF (qI 0 1++qI 10 1)
 obtain⟨n,hk⟩:=zk hb0
 have hn:n < l.length:=zO
 have e:=Eq l n a
 simp only [AddrD.cs] at e
 rw [hLt n hk] at hO ht hf
 rw [P6] at hO
 rw [hk]
 try simp (disch:=omega) only [go_sem,seval,e]
 refine qK (hO) (qI 5 1) ?_
 refine qB (fun h1=>?_) fun h1=>?_
 ·rw [hf h1]
  refine qX ?_
  exact qF (qI 0 1++qI 3 1)
 rw [ht h1]
 try simp only [P6]
 refine qX ?_
 exact qF (qI 0 1++qI 5 1)
theorem z6 (e:EndD) (x:LetterD) (hs:Small e):aP 198 [.ag (e.cs 0),.ag x.cs] (e.hp false) (.tu [.ag ((cv e x).1.cs 7),.sc (.sl 14 0 (cv e x).2.length)])
  (e.hp false++((cv e x).1.hp true++[some ⟨(cv e x).2.map LetterD.cs,19,36,true,true⟩])):=by
 have hC:=(qH (aG e))
 have hK:=(qH (bA e))
 have hA:=fN e.far x.id (by have:=hs.far;omega)
 have hH:=gH e.over x.id (by have:=hs.over;omega)
 have hS:=gc e x (by have:=hs.subs;omega)
 have hL:=bL x
 have hbs:=gG e x
 have hbA:=eZ e.far x.id
 have hbd:=iz e x
 have hf:=qu (e:=e) (x:=x)
 have ht:=fun (n:Nat)=> @qv e x n
 have hok:=lC.eq_1 e x
 generalize cv e x=R at*
 refine qE func198 ntmps198 results198 fun E hE=>?_
 refine qK (hC) (qI 0 7) ?_
 refine qK (hS) (qI 0 7) ?_
 have hcmp:=TagD.cmp x.tag ⟨3,e.peer,e.key,x.id,x.addr⟩
 simp only [TagD.cs,go_sem] at hcmp
 rcases hbs with hk|⟨hk0,hk1⟩
 ·rw [hk]
  refine qX ?_
  refine qD [0,1,2,3,4,5,6,7,8,9,10,11,12,13,14,15,16,17,18,19,20,21,22,23,24,25,26,27,28,29,30,31,32] ?_
  refine aE (hK) (qI 0 7) ?_
  refine qB (fun h1=>?_) fun h1=>?_
  ·refine aE (hL) [] ?_
   refine qB (fun h2=>?_) fun h2=>?_
   ·rw [hf (by rw [hok];have:=cW (e:=e) (x:=x) (by rintro⟨_,_,hh⟩;omega);simp;omega)]
    refine qG ?_
    exact qF (qI 0 7++qI 10 7++qO 1)
   rw [hf (by rw [hok];have:=cW (e:=e) (x:=x) (by rintro⟨_,hh,_⟩;rw [h2] at hh;cases hh);simp;omega)]
   refine qG ?_
   exact qF (qI 0 7++qI 10 7++qO 1)
  rw [hf (by rw [hok];have:=cW (e:=e) (x:=x) (by rintro⟨hh,_⟩;rw [h1] at hh;cases hh);simp;omega)]
  refine qG ?_
  exact qF (qI 0 7++qI 10 7++qO 1)
 obtain⟨n,hk⟩:=zk hk0
 have hn:n < e.subs.length:=zO
 rw [hk]
 refine qX ?_
 refine qD [0,1,2,3,4,5,6,7,8,9,10,11,12,13,14,15,16,17,18,19,20,21,22,23,24,25,26,27,28,29,30,31,32] ?_
 refine aE (hK) (qI 0 7) ?_
 refine qB (fun h1=>?_) fun h1=>?_
 ·refine aE (hL) [] ?_
  refine qB (fun h2=>?_) fun h2=>?_
  ·have hon:=ol h1 h2 hk
   have hq1:=h1
   refine aE (sw _ _ _ _) [] ?_
   try simp (disch:=omega) only [go_sem,seval,hcmp]
   refine qB (fun h4=>?_) fun h4=>?_
   ·refine aE (hH) (qI 6 1) ?_
    refine qG ?_
    refine qB (fun h5=>?_) fun h5=>?_
    ·rw [hf (by rw [hok];simp [h5])]
     refine qX ?_
     exact qF (qI 0 7++qI 10 7++qO 1)
    refine qX ?_
    refine qK (hA) (qI 1 1) ?_
    rcases hbA with hi|⟨hi0,hi1⟩
    ·rw [hi]
     refine qX ?_
     have hoth:=xV hi
     refine qD [0,1,2,3,4,5,6,7,8,9,10,11,12] ?_
     refine qG ?_
     have hP:=mT e.far (jb x) (by have:=iL hq1;omega)
     obtain⟨Q,hQ⟩:∃ Q,Q=bu e.far (jb x):=⟨_,rfl⟩
     have hQl:Q.1.length<=1048576:=by rw [hQ];have:=iL hq1;have:=ey e.far (jb x);unfold bu;split<;>dsimp only<;>omega
     rw [<-hQ] at hP
     refine qX ?_
     refine qK (hP) (qI 1 1) ?_
     refine qB (fun h7=>?_) fun h7=>?_
     ·rw [hf (by rw [hok,<-hQ];simp [h7])]
      refine qX ?_
      exact qF (qI 0 7++qI 10 7++qO 1)
     rw [ht _ (by rw [hok,hoth,<-hQ];simp [hon,h4,h5,h7]) hon hn,<-hQ]
     refine qX ?_
     refine aB [(15,16)] [(qU [0,2,3,11,2,1,14,4]),(qU [0,2,3,11,2,1,14,1,16,1,15,1,17,1])] zXk (qC) zXk ?_
     simp only [aM]
     refine⟨aa 400 ?_,aa 400 ?_⟩
     all_goals simp (disch:=omega) only [go_sem,seval]
     all_goals
      refine aE (eG x) [] ?_
      refine aE (bB (am x) { ac with kind:=9,sgn:=e.subs[n].give,id:=x.id,addr:=x.addr }) [] ?_
      refine qG ?_
      refine qP (qI 0 7++qI 10 1++qI 18 1++qI 12 5++qI 19 1) ?_
      first|exact⟨⟩|simp [xX,bc,LetterD.cs]
    obtain⟨i,hi⟩:=zk hi0
    have hil:i < e.far.length:=zO
    have hoth:=xW hi hil
    rw [hi]
    refine qX ?_
    refine qD [0,1,2,3,4,5,6,7,8,9,10,11,12] ?_
    refine qG ?_
    refine qB (fun h6=>?_) fun h6=>?_
    ·rw [hf (by rw [hok,hoth];simp [h6])]
     refine qX ?_
     exact qF (qI 0 7++qI 10 7++qO 1)
    simp only [h6,decide_true,Bool.not_true] at hoth
    have hP:=mT e.far (jb x) (by have:=iL hq1;omega)
    obtain⟨Q,hQ⟩:∃ Q,Q=bu e.far (jb x):=⟨_,rfl⟩
    have hQl:Q.1.length<=1048576:=by rw [hQ];have:=iL hq1;have:=ey e.far (jb x);unfold bu;split<;>dsimp only<;>omega
    rw [<-hQ] at hP
    refine qX ?_
    refine qK (hP) (qI 1 1) ?_
    refine qB (fun h7=>?_) fun h7=>?_
    ·rw [hf (by rw [hok,<-hQ];simp [h7])]
     refine qX ?_
     exact qF (qI 0 7++qI 10 7++qO 1)
    rw [ht _ (by rw [hok,hoth,<-hQ];simp [hon,h4,h5,h7]) hon hn,<-hQ]
    refine qX ?_
    refine aB [(15,16)] [(qU [0,2,3,11,2,1,14,4]),(qU [0,2,3,11,2,1,14,1,16,1,15,1,17,1])] zXk (qC) zXk ?_
    simp only [aM]
    refine⟨aa 400 ?_,aa 400 ?_⟩
    all_goals simp (disch:=omega) only [go_sem,seval]
    all_goals
     refine aE (eG x) [] ?_
     refine aE (bB (am x) { ac with kind:=9,sgn:=e.subs[n].give,id:=x.id,addr:=x.addr }) [] ?_
     refine qG ?_
     refine qP (qI 0 7++qI 10 1++qI 18 1++qI 12 5++qI 19 1) ?_
     first|exact⟨⟩|simp [xX,bc,LetterD.cs]
   rw [hf (by rw [hok];simp [h4])]
   refine qG ?_
   exact qF (qI 0 7++qI 10 7++qO 1)
  rw [hf (by rw [hok];have:=cW (e:=e) (x:=x) (by rintro⟨_,hh,_⟩;rw [h2] at hh;cases hh);simp;omega)]
  refine qG ?_
  exact qF (qI 0 7++qI 10 7++qO 1)
 rw [hf (by rw [hok];have:=cW (e:=e) (x:=x) (by rintro⟨hh,_⟩;rw [h1] at hh;cases hh);simp;omega)]
 refine qG ?_
 exact qF (qI 0 7++qI 10 7++qO 1)
theorem z7 (e:EndD) (x:LetterD) (hs:Small e):aP 272 [.ag (e.cs 0),.ag x.cs] (e.hp false) (.tu [.ag ((cv e x).1.cs 7),.sc (.sl 14 0 (cv e x).2.length)])
  (e.hp false++((cv e x).1.hp true++[some ⟨(cv e x).2.map LetterD.cs,19,36,true,true⟩])):=by
 have hC:=(qH (aF e))
 have hK:=(qH (bz e))
 have hA:=eF e.far x.id (by have:=hs.far;omega)
 have hH:=iK e.over x.id (by have:=hs.over;omega)
 have hS:=jB e x hs
 have hbA:=eZ e.far x.id
 have hbd:=iz e x
 have hf:=qu (e:=e) (x:=x)
 have ht:=fun (n:Nat)=> @qv e x n
 have hok:=lC.eq_1 e x
 generalize cv e x=R at*
 refine qE func272 ntmps272 results272 fun E hE=>?_
 refine qK (hC) (qI 0 7) ?_
 refine qK (hS) (qI 0 7) ?_
 have hcmp:=TagD.cmp x.tag ⟨3,e.peer,e.key,x.id,x.addr⟩
 simp only [TagD.cs,go_sem] at hcmp
 rcases hbd with hon|⟨n,hon,hk,hn,hq1,hq2⟩
 ·rw [hf (by rw [hok];simp [hon]),hon]
  refine qX ?_
  refine qD [0,1,2,3,4,5,6,7,8,9,10,11,12,13,14,15,16,17,18,19,20,21,22] ?_
  refine qG ?_
  exact qF (qI 0 7++qI 10 7++qI 18 1)
 rw [hon]
 refine qX ?_
 refine qD [0,1,2,3,4,5,6,7,8,9,10,11,12,13,14,15,16,17,18,19,20,21,22] ?_
 refine aE (sx _ _ _ _) [] ?_
 try simp (disch:=omega) only [go_sem,seval,hcmp]
 refine qB (fun h4=>?_) fun h4=>?_
 ·refine aE (hH) (qI 6 1) ?_
  refine qG ?_
  refine qB (fun h5=>?_) fun h5=>?_
  ·rw [hf (by rw [hok];simp [h5])]
   refine qX ?_
   exact qF (qI 0 7++qI 10 7++qI 18 1)
  refine qX ?_
  refine qK (hA) (qI 1 1) ?_
  rcases hbA with hi|⟨hi0,hi1⟩
  ·rw [hi]
   refine qX ?_
   have hoth:=xV hi
   refine qD [0,1,2,3,4,5,6,7,8,9,10,11,12] ?_
   refine qG ?_
   have hP:=kA e.far (jb x) (by have:=iL hq1;omega)
   obtain⟨Q,hQ⟩:∃ Q,Q=bu e.far (jb x):=⟨_,rfl⟩
   have hQl:Q.1.length<=1048576:=by rw [hQ];have:=iL hq1;have:=ey e.far (jb x);unfold bu;split<;>dsimp only<;>omega
   rw [<-hQ] at hP
   refine qX ?_
   refine qK (hP) (qI 1 1) ?_
   refine qB (fun h7=>?_) fun h7=>?_
   ·rw [hf (by rw [hok,<-hQ];simp [h7])]
    refine qX ?_
    exact qF (qI 0 7++qI 10 7++qI 18 1)
   rw [ht _ (by rw [hok,hoth,<-hQ];simp [hon,h4,h5,h7]) hon hn,<-hQ]
   refine qX ?_
   refine aB [(0,17),(3,0),(15,0),(16,0)] [(qU [1,2,4,11,3,1,15,2,0,1,17,3]),(qU [1,2,4,11,3,1,15,1,0,1,16,4]),(qU [1,2,4,11,3,1,0,1,15,5]),(qU [1,2,4,11,0,1,3,1,15,5]),(qU [1,2,4,11,3,1,15,3,0,1,18,2])] zXk (qC) zXk ?_
   simp only [aM]
   refine⟨aa 400 ?_,aa 400 ?_,aa 400 ?_,aa 400 ?_,aa 400 ?_⟩
   all_goals simp (disch:=omega) only [go_sem,seval]
   all_goals
    refine aE (de x) [] ?_
    refine aE (a_ (am x) { ac with kind:=9,sgn:=e.subs[n].give,id:=x.id,addr:=x.addr }) [] ?_
    refine qG ?_
    refine qP (qI 0 7++qI 10 1++qI 19 1++qI 12 5++qI 21 1) ?_
    first|exact⟨⟩|simp [xX,bc,LetterD.cs]
  obtain⟨i,hi⟩:=zk hi0
  have hil:i < e.far.length:=zO
  have hoth:=xW hi hil
  rw [hi]
  refine qX ?_
  refine qD [0,1,2,3,4,5,6,7,8,9,10,11,12] ?_
  refine qG ?_
  refine qB (fun h6=>?_) fun h6=>?_
  ·rw [hf (by rw [hok,hoth];simp [h6])]
   refine qX ?_
   exact qF (qI 0 7++qI 10 7++qI 18 1)
  simp only [h6,decide_true,Bool.not_true] at hoth
  have hP:=kA e.far (jb x) (by have:=iL hq1;omega)
  obtain⟨Q,hQ⟩:∃ Q,Q=bu e.far (jb x):=⟨_,rfl⟩
  have hQl:Q.1.length<=1048576:=by rw [hQ];have:=iL hq1;have:=ey e.far (jb x);unfold bu;split<;>dsimp only<;>omega
  rw [<-hQ] at hP
  refine qX ?_
  refine qK (hP) (qI 1 1) ?_
  refine qB (fun h7=>?_) fun h7=>?_
  ·rw [hf (by rw [hok,<-hQ];simp [h7])]
   refine qX ?_
   exact qF (qI 0 7++qI 10 7++qI 18 1)
  rw [ht _ (by rw [hok,hoth,<-hQ];simp [hon,h4,h5,h7]) hon hn,<-hQ]
  refine qX ?_
  refine aB [(0,17),(3,0),(15,0),(16,0)] [(qU [1,2,4,11,3,1,15,2,0,1,17,3]),(qU [1,2,4,11,3,1,15,1,0,1,16,4]),(qU [1,2,4,11,3,1,0,1,15,5]),(qU [1,2,4,11,0,1,3,1,15,5]),(qU [1,2,4,11,3,1,15,3,0,1,18,2])] zXk (qC) zXk ?_
  simp only [aM]
  refine⟨aa 400 ?_,aa 400 ?_,aa 400 ?_,aa 400 ?_,aa 400 ?_⟩
  all_goals simp (disch:=omega) only [go_sem,seval]
  all_goals
   refine aE (de x) [] ?_
   refine aE (a_ (am x) { ac with kind:=9,sgn:=e.subs[n].give,id:=x.id,addr:=x.addr }) [] ?_
   refine qG ?_
   refine qP (qI 0 7++qI 10 1++qI 19 1++qI 12 5++qI 21 1) ?_
   first|exact⟨⟩|simp [xX,bc,LetterD.cs]
 rw [hf (by rw [hok];simp [h4])]
 refine qG ?_
 exact qF (qI 0 7++qI 10 7++qI 18 1)
theorem z8 (e:EndD) (x:LetterD) (hs:Small e):aP 199 [.ag (e.cs 0),.ag x.cs] (e.hp false) (.tu [.ag ((cx e x).1.cs 7),.sc (.sl 14 0 (cx e x).2.length)])
  (e.hp false++((cx e x).1.hp true++[some ⟨(cx e x).2.map LetterD.cs,19,36,true,true⟩])):=by
 have hC:=(qH (aG e))
 have hK:=(qH (bA e))
 have hA:=fN e.own x.id (by have:=hs.own;omega)
 have hS:=gc e x (by have:=hs.subs;omega)
 have hL:=bL x
 have hbs:=gG e x
 have hbA:=eZ e.own x.id
 have hbd:=iz e x
 have hf:=qw (e:=e) (x:=x)
 have ht:=fun (n:Nat)=> @qx e x n
 have hok:=ki.eq_1 e x
 generalize cx e x=R at*
 refine qE func199 ntmps199 results199 fun E hE=>?_
 refine qK (hC) (qI 0 7) ?_
 refine qK (hA) (qI 0 1) ?_
 rcases hbA with hi|⟨hi0,hi1⟩
 ·rw [hi]
  refine qX ?_
  rcases hbs with hk|⟨hk0,hk1⟩
  ·refine qD [0,1,2,3,4,5,6,7,8,9,10,11,12,13,14,15,16,17,18,19,20,21,22,23,24,25,26] ?_
   refine aE (hK) (qI 0 7) ?_
   refine qB (fun h1=>?_) fun h1=>?_
   ·refine aE (hL) [] ?_
    refine qB (fun h2=>?_) fun h2=>?_
    ·refine aE (hS) (qI 0 7) ?_
     rw [hk]
     refine qX ?_
     rw [hf (iM hi)]
     refine qG ?_
     exact qF (qI 0 7++qI 10 7++qO 1)
    rw [hf (iM hi)]
    refine qG ?_
    exact qF (qI 0 7++qI 10 7++qO 1)
   rw [hf (iM hi)]
   refine qG ?_
   exact qF (qI 0 7++qI 10 7++qO 1)
  obtain⟨n,hk⟩:=zk hk0
  have hn:n < e.subs.length:=zO
  refine qD [0,1,2,3,4,5,6,7,8,9,10,11,12,13,14,15,16,17,18,19,20,21,22,23,24,25,26] ?_
  refine aE (hK) (qI 0 7) ?_
  refine qB (fun h1=>?_) fun h1=>?_
  ·refine aE (hL) [] ?_
   refine qB (fun h2=>?_) fun h2=>?_
   ·refine aE (hS) (qI 0 7) ?_
    rw [hk]
    refine qX ?_
    have hon:=ol h1 h2 hk
    rw [hf (iM hi)]
    refine qG ?_
    exact qF (qI 0 7++qI 10 7++qO 1)
   rw [hf (iM hi)]
   refine qG ?_
   exact qF (qI 0 7++qI 10 7++qO 1)
  rw [hf (iM hi)]
  refine qG ?_
  exact qF (qI 0 7++qI 10 7++qO 1)
 obtain⟨i,hi⟩:=zk hi0
 have hil:i < e.own.length:=zO
 rw [hi]
 refine qX ?_
 rcases hbs with hk|⟨hk0,hk1⟩
 ·refine qD [0,1,2,3,4,5,6,7,8,9,10,11,12,13,14,15,16,17,18,19,20,21,22,23,24,25,26] ?_
  refine aE (hK) (qI 0 7) ?_
  refine qB (fun h1=>?_) fun h1=>?_
  ·refine aE (hL) [] ?_
   refine qB (fun h2=>?_) fun h2=>?_
   ·refine aE (hS) (qI 0 7) ?_
    rw [hk]
    refine qX ?_
    rw [hf (by rw [gd hi hil];have:=cW (e:=e) (x:=x) (by rintro⟨_,_,hh⟩;omega);simp;omega)]
    refine qG ?_
    exact qF (qI 0 7++qI 10 7++qO 1)
   rw [hf (by rw [gd hi hil];have:=cW (e:=e) (x:=x) (by rintro⟨_,hh,_⟩;rw [h2] at hh;cases hh);simp;omega)]
   refine qG ?_
   exact qF (qI 0 7++qI 10 7++qO 1)
  rw [hf (by rw [gd hi hil];have:=cW (e:=e) (x:=x) (by rintro⟨hh,_⟩;rw [h1] at hh;cases hh);simp;omega)]
  refine qG ?_
  exact qF (qI 0 7++qI 10 7++qO 1)
 obtain⟨n,hk⟩:=zk hk0
 have hn:n < e.subs.length:=zO
 refine qD [0,1,2,3,4,5,6,7,8,9,10,11,12,13,14,15,16,17,18,19,20,21,22,23,24,25,26] ?_
 refine aE (hK) (qI 0 7) ?_
 refine qB (fun h1=>?_) fun h1=>?_
 ·refine aE (hL) [] ?_
  refine qB (fun h2=>?_) fun h2=>?_
  ·refine aE (hS) (qI 0 7) ?_
   rw [hk]
   refine qX ?_
   have hon:=ol h1 h2 hk
   refine qG ?_
   refine qB (fun h5=>?_) fun h5=>?_
   ·rw [ht _ (by rw [gd hi hil];simp [hon,h5]) hi hil]
    refine qX ?_
    refine qP (qI 0 7++qI 10 7++qO 1) ?_
    first|exact⟨⟩|simp [P8,AddrD.cs]
   rw [hf (by rw [gd hi hil];simp [h5])]
   refine qX ?_
   exact qF (qI 0 7++qI 10 7++qO 1)
  rw [hf (by rw [gd hi hil];have:=cW (e:=e) (x:=x) (by rintro⟨_,hh,_⟩;rw [h2] at hh;cases hh);simp;omega)]
  refine qG ?_
  exact qF (qI 0 7++qI 10 7++qO 1)
 rw [hf (by rw [gd hi hil];have:=cW (e:=e) (x:=x) (by rintro⟨hh,_⟩;rw [h1] at hh;cases hh);simp;omega)]
 refine qG ?_
 exact qF (qI 0 7++qI 10 7++qO 1)
theorem z9 (e:EndD) (x:LetterD) (hs:Small e):aP 200 [.ag (e.cs 0),.ag x.cs] (e.hp false) (.tu [.ag ((cy e x).1.cs 7),.sc (.sl 14 0 (cy e x).2.length)])
  (e.hp false++((cy e x).1.hp true++[some ⟨(cy e x).2.map LetterD.cs,19,36,true,true⟩])):=by
 have hC:=(qH (aG e))
 have hK:=(qH (bA e))
 have hA:=fN e.far x.id (by have:=hs.far;omega)
 have hD:=pW e.far x.id (by have:=hs.far;omega)
 have hS:=gc e x (by have:=hs.subs;omega)
 have hL:=bL x
 have hbs:=gG e x
 have hbA:=eZ e.far x.id
 have hbd:=iz e x
 have hf:=x3 (e:=e) (x:=x)
 have ht:=fun (n:Nat)=> @x4 e x n
 have hok:=qy.eq_1 e x
 have hpl:=ow e.over x.id
 generalize cy e x=R at*
 refine qE func200 ntmps200 results200 fun E hE=>?_
 refine qK (hC) (qI 0 7) ?_
 refine qK (hA) (qI 1 1) ?_
 rcases hbA with hi|⟨hi0,hi1⟩
 ·rw [hi]
  refine qX ?_
  rcases hbs with hk|⟨hk0,hk1⟩
  ·refine qK (hK) (qI 0 7) ?_
   refine qB (fun h1=>?_) fun h1=>?_
   ·refine qK (hL) [] ?_
    refine qB (fun h2=>?_) fun h2=>?_
    ·refine qK (hS) (qI 0 7) ?_
     rw [hk]
     refine qX ?_
     rw [hf (by rw [hok];have:=cW (e:=e) (x:=x) (by rintro⟨_,_,hh⟩;omega);simp;omega)]
     refine qX ?_
     exact qF (qI 0 7++qI 10 7++qO 1)
    rw [hf (by rw [hok];have:=cW (e:=e) (x:=x) (by rintro⟨_,hh,_⟩;rw [h2] at hh;cases hh);simp;omega)]
    refine qX ?_
    exact qF (qI 0 7++qI 10 7++qO 1)
   rw [hf (by rw [hok];have:=cW (e:=e) (x:=x) (by rintro⟨hh,_⟩;rw [h1] at hh;cases hh);simp;omega)]
   refine qX ?_
   exact qF (qI 0 7++qI 10 7++qO 1)
  obtain⟨n,hk⟩:=zk hk0
  have hn:n < e.subs.length:=zO
  refine qK (hK) (qI 0 7) ?_
  refine qB (fun h1=>?_) fun h1=>?_
  ·refine qK (hL) [] ?_
   refine qB (fun h2=>?_) fun h2=>?_
   ·refine qK (hS) (qI 0 7) ?_
    rw [hk]
    refine qX ?_
    have hon:=ol h1 h2 hk
    have hq1:=h1
    rw [hf (by rw [hok];simp [hi])]
    refine qX ?_
    exact qF (qI 0 7++qI 10 7++qO 1)
   rw [hf (by rw [hok];have:=cW (e:=e) (x:=x) (by rintro⟨_,hh,_⟩;rw [h2] at hh;cases hh);simp;omega)]
   refine qX ?_
   exact qF (qI 0 7++qI 10 7++qO 1)
  rw [hf (by rw [hok];have:=cW (e:=e) (x:=x) (by rintro⟨hh,_⟩;rw [h1] at hh;cases hh);simp;omega)]
  refine qX ?_
  exact qF (qI 0 7++qI 10 7++qO 1)
 obtain⟨i,hi⟩:=zk hi0
 have hil:i < e.far.length:=zO
 rw [hi]
 refine qX ?_
 rcases hbs with hk|⟨hk0,hk1⟩
 ·refine qK (hK) (qI 0 7) ?_
  refine qB (fun h1=>?_) fun h1=>?_
  ·refine qK (hL) [] ?_
   refine qB (fun h2=>?_) fun h2=>?_
   ·refine qK (hS) (qI 0 7) ?_
    rw [hk]
    refine qX ?_
    rw [hf (by rw [hok];have:=cW (e:=e) (x:=x) (by rintro⟨_,_,hh⟩;omega);simp;omega)]
    refine qX ?_
    exact qF (qI 0 7++qI 10 7++qO 1)
   rw [hf (by rw [hok];have:=cW (e:=e) (x:=x) (by rintro⟨_,hh,_⟩;rw [h2] at hh;cases hh);simp;omega)]
   refine qX ?_
   exact qF (qI 0 7++qI 10 7++qO 1)
  rw [hf (by rw [hok];have:=cW (e:=e) (x:=x) (by rintro⟨hh,_⟩;rw [h1] at hh;cases hh);simp;omega)]
  refine qX ?_
  exact qF (qI 0 7++qI 10 7++qO 1)
 obtain⟨n,hk⟩:=zk hk0
 have hn:n < e.subs.length:=zO
 refine qK (hK) (qI 0 7) ?_
 refine qB (fun h1=>?_) fun h1=>?_
 ·refine qK (hL) [] ?_
  refine qB (fun h2=>?_) fun h2=>?_
  ·refine qK (hS) (qI 0 7) ?_
   rw [hk]
   refine qX ?_
   have hon:=ol h1 h2 hk
   have hq1:=h1
   rw [ht _ (by rw [hok];simp [hon,hi]) hi hil]
   have hdl:(bC e.far x.id).1.length<=e.far.length:=by rw [jD hi];simp;omega
   refine qX ?_
   refine qK (hD) (qI 1 1) ?_
   refine qK (Ev e.over x.id (by have:=x6 hq1;omega)) (qI 6 1) ?_
   refine dI 7 hE (fun s (k:Nat)=>s.at (qU [0,4,7,1,9,50,61,17]) [(60,.sc (.int .i64 (k:Nat)))] (s.hp.set 12 (some ⟨(gp e.far[i].addr e.subs k).map SubD.cs,10,115,true,true⟩))) (fun (k:Nat)=>k<=e.subs.length) (fun (k:Nat)=>e.subs.length - k) 0 (qI 0 20) (qC) (zG _) (aw zF zF ?_) fun k hk N hN=>?_
   ·refine qX ?_
    rw [xZ]
   refine ab 400 ?_
   have hsb:=hs.subs
   have hgl:(gp e.far[i].addr e.subs k).length=e.subs.length:=Bi
   refine qX ?_
   refine qB (fun h=>?_) fun h=>?_
   ·have hg:∀ p:k < (gp e.far[i].addr e.subs k).length,(gp e.far[i].addr e.subs k)[k]'p=e.subs[k]:=by
     intro p
     have hq:=Ew (a:=e.far[i].addr) h
     rw [P9 p] at hq
     exact Option.some.inj hq
    try simp (disch:=omega) only [go_sem,seval,hg]
    refine qB (fun h9=>?_) fun h9=>?_
    ·refine qX ?_
     refine⟨qC,hN _ (k+1) (qI 0 20) (by (try dsimp only);exact by omega) (by (try dsimp only);omega) (aw zF zF ?_)⟩
     refine qX ?_
     rw [<-Bj h,P8]
     simp [oy,h9,hg,SubD.cs]
    refine qX ?_
    refine⟨qC,hN _ (k+1) (qI 0 20) (by (try dsimp only);exact by omega) (by (try dsimp only);omega) (aw zF zF ?_)⟩
    refine qX ?_
    rw [xY h h9]
   have hkl:k=e.subs.length:=zO
   subst hkl
   rw [Bk]
   refine qX ?_
   exact qF (qI 0 7++qI 10 1++qI 18 1++qI 12 4++qI 19 1++qO 1)
  rw [hf (by rw [hok];have:=cW (e:=e) (x:=x) (by rintro⟨_,hh,_⟩;rw [h2] at hh;cases hh);simp;omega)]
  refine qX ?_
  exact qF (qI 0 7++qI 10 7++qO 1)
 rw [hf (by rw [hok];have:=cW (e:=e) (x:=x) (by rintro⟨hh,_⟩;rw [h1] at hh;cases hh);simp;omega)]
 refine qX ?_
 exact qF (qI 0 7++qI 10 7++qO 1)
theorem z_ (e:EndD) (x:LetterD) (hs:Small e):aP 273 [.ag (e.cs 0),.ag x.cs] (e.hp false) (.tu [.ag ((cx e x).1.cs 7),.sc (.sl 14 0 (cx e x).2.length)])
  (e.hp false++((cx e x).1.hp true++[some ⟨(cx e x).2.map LetterD.cs,19,36,true,true⟩])):=by
 have hC:=(qH (aF e))
 have hK:=(qH (bz e))
 have hA:=eF e.own x.id (by have:=hs.own;omega)
 have hS:=jB e x hs
 have hbA:=eZ e.own x.id
 have hbd:=iz e x
 have hf:=qw (e:=e) (x:=x)
 have ht:=fun (n:Nat)=> @qx e x n
 have hok:=ki.eq_1 e x
 generalize cx e x=R at*
 refine qE func273 ntmps273 results273 fun E hE=>?_
 refine qK (hC) (qI 0 7) ?_
 refine qK (hA) (qI 0 1) ?_
 rcases hbA with hi|⟨hi0,hi1⟩
 ·rw [hi]
  refine qX ?_
  refine qD [0,1,2,3,4,5,6,7,8,9,10,11,12,13,14,15,16,17,18] ?_
  refine aE (hS) (qI 0 7) ?_
  rcases hbd with hon|⟨n,hon,hk,hn,hq1,hq2⟩
  ·rw [hon]
   refine qX ?_
   rw [hf (iM hi)]
   refine qG ?_
   exact qF (qI 0 7++qI 10 7++qI 18 1)
  rw [hon]
  refine qX ?_
  rw [hf (iM hi)]
  refine qG ?_
  exact qF (qI 0 7++qI 10 7++qI 18 1)
 obtain⟨i,hi⟩:=zk hi0
 have hil:i < e.own.length:=zO
 rw [hi]
 refine qX ?_
 refine qD [0,1,2,3,4,5,6,7,8,9,10,11,12,13,14,15,16,17,18] ?_
 refine aE (hS) (qI 0 7) ?_
 rcases hbd with hon|⟨n,hon,hk,hn,hq1,hq2⟩
 ·rw [hon]
  refine qX ?_
  rw [hf (by rw [gd hi hil];have:=hon;simp;omega)]
  refine qG ?_
  exact qF (qI 0 7++qI 10 7++qI 18 1)
 rw [hon]
 refine qX ?_
 refine qG ?_
 refine qB (fun h5=>?_) fun h5=>?_
 ·rw [ht _ (by rw [gd hi hil];simp [hon,h5]) hi hil]
  refine qX ?_
  refine qP (qI 0 7++qI 10 7++qI 18 1) ?_
  first|exact⟨⟩|simp [P8,AddrD.cs]
 rw [hf (by rw [gd hi hil];simp [h5])]
 refine qX ?_
 exact qF (qI 0 7++qI 10 7++qI 18 1)
theorem Aa (e:EndD) (x:LetterD) (hs:Small e):aP 274 [.ag (e.cs 0),.ag x.cs] (e.hp false) (.tu [.ag ((cy e x).1.cs 7),.sc (.sl 14 0 (cy e x).2.length)])
  (e.hp false++((cy e x).1.hp true++[some ⟨(cy e x).2.map LetterD.cs,19,36,true,true⟩])):=by
 have hC:=(qH (aF e))
 have hK:=(qH (bz e))
 have hA:=eF e.far x.id (by have:=hs.far;omega)
 have hD:=pX e.far x.id (by have:=hs.far;omega)
 have hS:=jB e x hs
 have hbA:=eZ e.far x.id
 have hbd:=iz e x
 have hf:=x3 (e:=e) (x:=x)
 have ht:=fun (n:Nat)=> @x4 e x n
 have hok:=qy.eq_1 e x
 have hpl:=ow e.over x.id
 generalize cy e x=R at*
 refine qE func274 ntmps274 results274 fun E hE=>?_
 refine qK (hC) (qI 0 7) ?_
 refine qK (hA) (qI 1 1) ?_
 rcases hbA with hi|⟨hi0,hi1⟩
 ·rw [hi]
  refine qX ?_
  refine qK (hS) (qI 0 7) ?_
  rcases hbd with hon|⟨n,hon,hk,hn,hq1,hq2⟩
  ·rw [hon]
   refine qX ?_
   rw [hf (by rw [hok];have:=hon;simp;omega)]
   refine qX ?_
   exact qF (qI 0 7++qI 10 7++qI 18 1)
  rw [hon]
  refine qX ?_
  rw [hf (by rw [hok];simp [hi])]
  refine qX ?_
  exact qF (qI 0 7++qI 10 7++qI 18 1)
 obtain⟨i,hi⟩:=zk hi0
 have hil:i < e.far.length:=zO
 rw [hi]
 refine qX ?_
 refine qK (hS) (qI 0 7) ?_
 rcases hbd with hon|⟨n,hon,hk,hn,hq1,hq2⟩
 ·rw [hon]
  refine qX ?_
  rw [hf (by rw [hok];have:=hon;simp;omega)]
  refine qX ?_
  exact qF (qI 0 7++qI 10 7++qI 18 1)
 rw [hon]
 refine qX ?_
 rw [ht _ (by rw [hok];simp [hon,hi]) hi hil]
 have hdl:(bC e.far x.id).1.length<=e.far.length:=by rw [jD hi];simp;omega
 refine qX ?_
 refine qK (vk e.over x.id (by have:=x6 hq1;omega)) (qI 6 1) ?_
 refine qK (hD) (qI 1 1) ?_
 refine dI 7 hE (fun s (k:Nat)=>s.at (qU [0,2,3,1,9,58]) [(8,.sc (.int .i64 (k:Nat)))] (s.hp.set 12 (some ⟨(gp e.far[i].addr e.subs k).map SubD.cs,10,115,true,true⟩))) (fun (k:Nat)=>k<=e.subs.length) (fun (k:Nat)=>e.subs.length - k) 0 (qI 0 20) (qC) (zG _) (aw zF zF ?_) fun k hk N hN=>?_
 ·refine qX ?_
  rw [xZ]
 refine ab 400 ?_
 have hsb:=hs.subs
 have hgl:(gp e.far[i].addr e.subs k).length=e.subs.length:=Bi
 refine qX ?_
 refine qB (fun h=>?_) fun h=>?_
 ·have hg:∀ p:k < (gp e.far[i].addr e.subs k).length,(gp e.far[i].addr e.subs k)[k]'p=e.subs[k]:=by
   intro p
   have hq:=Ew (a:=e.far[i].addr) h
   rw [P9 p] at hq
   exact Option.some.inj hq
  try simp (disch:=omega) only [go_sem,seval,hg]
  refine qD [0,1,2,3,4,5,6,7,8,9,10,11,12,13] ?_
  refine⟨qC,ab 400 ?_⟩
  try simp (disch:=omega) only [go_sem,seval,hg]
  refine qB (fun h9=>?_) fun h9=>?_
  ·refine qX ?_
   refine⟨qC,hN _ (k+1) (qI 0 20) (by (try dsimp only);exact by omega) (by (try dsimp only);omega) (aw zF zF ?_)⟩
   refine qX ?_
   rw [<-Bj h,P8]
   simp [oy,h9,hg,SubD.cs]
  refine qX ?_
  refine⟨qC,hN _ (k+1) (qI 0 20) (by (try dsimp only);exact by omega) (by (try dsimp only);omega) (aw zF zF ?_)⟩
  refine qX ?_
  rw [xY h h9]
 have hkl:k=e.subs.length:=zO
 subst hkl
 rw [Bk]
 refine qX ?_
 exact qF (qI 0 7++qI 10 1++qI 19 1++qI 12 4++qI 18 1++qI 20 1)
end
end Go.Proofs.YtdiiopjaebnmfaaGreatDoor
