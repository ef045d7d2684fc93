/- Lemmas of this claim. -/
import Derived.Test.YtdiiopjaebnmfaaGreatDoorZFnExactRunScriptG
set_option maxHeartbeats 16000000
set_option maxRecDepth 100000
set_option linter.unusedVariables false
set_option linter.unusedSimpArgs false
namespace Go.Proofs.YtdiiopjaebnmfaaGreatDoor
open _root_.Go.Proofs.Tryz
open _root_.Nat renaming zero_le->zk,zero_add->P_
open _root_.List renaming getD_eq_getElem?_getD->zG,append_nil->P7,getElem?_cons_succ->P8,map_cons->P9,map_nil->Qa
open _root_.Bool renaming and_eq_true->P6
section
open Go.RowKit
def NA:Nat->Nat->cO->Bool
 |0,n0,ρ=>ρ.all fun|some (n,_)=>decide (n0<=n)|none=>true
 |k+1,n0,some (n,none)::ρ=>n == n0 && NA k (n0+1) ρ
 |_,_,_=>false
theorem JU:∀ {k n0:Nat} {ρ:cO},NA k n0 ρ=true->(∀ i,i < k->ρ[i]? =some (some (n0+i,none)))/\(∀ i n d,k<=i->ρ[i]? =some (some (n,d))->n0+k<=n)
 |0,n0,ρ,h=>by
  refine⟨fun i hi=>by omega,fun i n d _ hr=>?_⟩
  have:=List.all_eq_true.1 (by simpa [NA] using h) _ (List.mem_of_getElem? hr)
  simpa using this
 |k+1,n0,ρ,h=>by
  cases ρ with
  |nil=>cases h
  |cons x ρ=>
   cases x with
   |none=>cases h
   |some x=>
    obtain⟨n,d⟩:=x
    cases d with
    |some d=>cases h
    |none=>
     simp only [NA,P6,beq_iff_eq] at h
     obtain⟨rfl,h⟩:=h
     obtain⟨h1,h2⟩:=JU h
     refine⟨fun i hi=>?_,fun i m d hi hr=>?_⟩
     ·cases i with
      |zero=>simp
      |succ i=>
       rw [P8,h1 i zO]
       simp only [zXi,Prod.mk.injEq,and_true]
       omega
     cases i with
     |zero=>omega
     |succ i=>
      rw [P8] at hr
      have h4:=h2 i m d zO hr
      omega
theorem Io {E:Entry} {n0:Nat} (hE:E.h.length=n0) {ρ:cO} {t s:S} (hid:NA n0 0 ρ=true) (hsep:e9 ρ t.hp=true) (hsl:Fv ρ t.sl s.sl) (hhp:lY ρ s.hp ρ t.hp) {β:Be} {a:Act} {w:World} (hs:Sim E β s a w):Sim E (fZ β ρ) t a w:=by
 obtain⟨hlo,hhi⟩:=JU hid
 have hlen:=jr hhp
 have hl0:n0<=t.hp.length:=by
  rw [<-hlen]
  rcases Nat.lt_or_ge ρ.length n0 with h1|h1
  ·have:=hlo ρ.length h1
   rw [List.getElem?_eq_none (Nat.le_refl _)] at this
   cases this
  exact h1
 refine⟨hs.dfr,B1 hsl hs.sl,B0 hs.hp hhp hsep,hs.ent,?_⟩
 have st:=hs.st
 refine⟨fun o p hp=>?_,st.os,st.tape,st.output,st.size,st.block,by rw [hE];exact hl0,fun o ob hlt ho=>?_,fun o ob p hge ho hp=>?_⟩
 ·have hlt:o < n0:=by rw [<-hE,<-hs.ent];exact (List.getElem?_eq_some_iff.1 hp).1
  have h1:=hlo o hlt
  rw [P_] at h1
  rw [bY β h1]
  dsimp only
  rw [zG,st.le o p hp]
  rfl
 ·rw [hE] at hlt
  have h1:=hlo o hlt
  rw [P_] at h1
  rcases gU hhp ho with⟨hr,_⟩|⟨n,d,ob',hr,hn,hob⟩
  ·rw [h1] at hr;cases hr
  rw [h1] at hr
  simp only [zXi,Prod.mk.injEq] at hr
  obtain⟨rfl,rfl⟩:=hr
  obtain⟨ob0,ho0,hown0⟩:=st.old o ob' (by rw [hE];exact hlt) hn
  exact⟨ob0,ho0,fun h=>hown0 (mz hob h).2⟩
 rw [hE] at hge
 rcases gU hhp ho with⟨hr,_⟩|⟨n,d,ob',hr,hn,hob⟩
 ·rw [bY β hr] at hp;cases hp
 have hge':=hhi o n d hge hr
 rw [bY β hr] at hp
 cases d with
 |none=>
  simp only [zXi] at hp
  rw [zG] at hp
  have hb:β[n]? =some (some p):=by
   cases h:β[n]? with
   |none=>rw [h] at hp;cases hp
   |some z=>rw [h] at hp;simp only [Option.getD_some] at hp;rw [hp]
  exact st.fresh n ob' p (by rw [hE];omega) hn hb
 |some d=>
  simp only [zXi] at hp
  rw [zG] at hp
  cases h:β[n]? with
  |none=>rw [h] at hp;cases hp
  |some z=>
   rw [h] at hp
   simp only [Option.getD_some] at hp
   cases z with
   |none=>cases hp
   |some q=>
    simp only [Option.map_some,zXi] at hp
    have:=st.fresh n ob' q (by rw [hE];omega) hn h
    rw [<-hp]
    exact this
def NB (P:Program) (rs:List ResultVar) (n0:Nat) (res:AV) (h':Hp) (s:S):Prop:=
 ∃ v ρ,rG P s rs=some v/\NA n0 0 ρ=true/\e9 ρ h'=true/\Fu ρ res v/\lY ρ s.hp ρ h'
theorem cY {P:Program} {E:Entry} {rs:List ResultVar} {n0:Nat} {res:AV} {h':Hp} {s:S} {c:Prop} (ρ:cO) (hc:c) (v:AV) (hr:rG P s rs=some v) (hid:NA n0 0 ρ=true) (hsep:e9 ρ h'=true) (hm:Fu ρ res v/\lY ρ s.hp ρ h'):
  iA P E (NB P rs n0 res h') (.fin s c):=⟨hc,v,ρ,hr,hid,hsep,hm.1,hm.2⟩
theorem Ip {P:Program} {f:FuncId} {fn:Func} {c:Code} (hf:P.funcs[f]? =some fn) (hname:(fn.name == "runtime.NumGoroutine")=false) (hb:fn.body=some c) {args:List AV} {h h':Hp} {res:AV}
  (H:∀ E:Entry,E.h.length=h.length->iA P E (NB P fn.results.toList h.length res h') (.go [.code c] ⟨nR fn.ntmps args,h⟩ True)):ic P f args h res h':=by
 refine⟨⟨fn,hf,hname,by rw [hb];rfl⟩,fun β w vs hs hvs=>?_⟩
 refine calls_of_wp hf hb ?_
 let E:Entry:=⟨β,h,w⟩
 have hd:=(H E rfl).2
 refine hd β _ w ⟨rfl,wg hvs,hs,hs.len,StepR.refl β h w hs.len⟩ _ fun e s' β' a' w' hK hs'=>?_
 have key:NB P fn.results.toList h.length res h' s'->a'.defers=[]/\∃ v,(results fn a'.tmps).run P w'=.ok v w'/\∃ β'' u,Ending.returned v=.returned u/\iq β'' res u/\HSim β'' h' w'/\StepR β β'' h h' w w':=by
  intro⟨v,ρ,hr,hid,hsep,hav,hhp⟩
  obtain⟨u,hrun,hu⟩:=B6 hs'.hp hs'.sl hr
  have hsim:=Io (E:=E) rfl (t:=⟨[],h'⟩) (s:=⟨[],s'.hp⟩) hid hsep trivial hhp (β:=β') (a:=a') (w:=w') ⟨hs'.dfr,⟨fun i hi=>by simp [Slots.has] at hi,fun i x hx=>by simp [Slots.get] at hx⟩,hs'.hp,hs'.ent,hs'.st⟩
  exact⟨hs'.dfr,u,hrun,fZ β' ρ,u,rfl,AD hav hu,hsim.hp,hsim.st⟩
 cases e with
 |normal=>exact key hK
 |ret=>exact key hK
 |_=>exact hK.elim
theorem kI {α:Type} {l:List α} {p:α->Bool} {k:Nat} (h:k < l.length):(l.drop k).filter p=if p l[k] then l[k]::(l.drop (k+1)).filter p else (l.drop (k+1)).filter p:=by
 rw [List.drop_eq_getElem_cons h,List.filter_cons]
theorem ml {α:Type} {l:List α} {p:α->Bool} {k:Nat} (h:l.length<=k):(l.drop k).filter p=[]:=by
 rw [List.drop_eq_nil_of_le h];rfl
theorem qd {b:BucketD} (h:bucketOk b=true):0<=b.rate/\b.rate<=100/\1<=b.burst/\b.burst<=100/\0<=b.cur/\b.cur<=b.burst:=by
 simp only [bucketOk,bU,P6,decide_eq_true_eq] at h
 omega
theorem EM {b:BucketD} (h:bucketOk b=true):dR b={ b with cur:=min b.burst (b.cur+b.rate) }:=if_pos h
theorem EN {b:BucketD} (h:bucketOk b=false):dR b=b:=if_neg (by simp [h])
theorem EO (b:BucketD):aP 142 [.ag b.cs,.sc (.int .i64 1)] [] (.ag (dR b).cs) []:=by
 have hK:=jQ b
 have hN:=cI [1] zP
 have hf:=EN (b:=b)
 have ht:=EM (b:=b)
 generalize dR b=R at*
 refine qE func142 ntmps142 results142 fun E hE=>?_
 refine qK (hK) [] ?_
 refine qB (fun b1=>?_) fun b1=>?_
 ·have F:=qd b1
  rw [show ([1]:List Int).all fv=true from rfl] at hN
  refine qK (hN) (qI 2 1) ?_
  rw [ht b1]
  by_cases hm:b.cur+b.rate < b.burst
  ·rw [show min b.burst (b.cur+b.rate)=b.cur+b.rate by omega]
   try simp (disch:=omega) only [go_sem,seval,Int.mul_one,hm]
   refine qP [] ?_
   first|exact⟨⟩|simp [hm]
  rw [show min b.burst (b.cur+b.rate)=b.burst by omega]
  try simp (disch:=omega) only [go_sem,seval,Int.mul_one,hm]
  refine qP [] ?_
  first|exact⟨⟩|simp [hm]
 rw [hf b1]
 refine qX ?_
 exact qF []
theorem EP (b:BucketD):aP 220 [.ag b.cs,.sc (.int .i64 1)] [] (.ag (dR b).cs) []:=by
 have hK:=jR b
 have hN:=aJ 1 0 1000000000
 have hf:=EN (b:=b)
 have ht:=EM (b:=b)
 generalize dR b=R at*
 refine qE func220 ntmps220 results220 fun E hE=>?_
 refine qK (hK) [] ?_
 refine qB (fun b1=>?_) fun b1=>?_
 ·have F:=qd b1
  rw [show bU 1 0 1000000000=true from rfl] at hN
  refine qK (hN) [] ?_
  rw [ht b1]
  have hB:aP 261 [.sc (.int .i64 (b.cur+b.rate)),.sc (.int .i64 0),.sc (.int .i64 b.burst)] [] (.sc (.int .i64 (min b.burst (b.cur+b.rate)))) []:=by
   refine qE func261 ntmps261 results261 fun E hE=>?_
   refine qB (fun c1=>?_) fun c1=>?_
   ·rw [show min b.burst (b.cur+b.rate)=b.burst by omega]
    refine qX ?_
    exact qF []
   rw [show min b.burst (b.cur+b.rate)=b.cur+b.rate by omega]
   refine qX ?_
   exact qF []
  try simp (disch:=omega) only [go_sem,seval,Int.mul_one]
  refine qK (hB) [] ?_
  exact qF []
 rw [hf b1]
 refine qX ?_
 exact qF []
theorem CU (l:List HalfD) (now:Int) (hl:l.length<=1048576):aP 143 [.sc (.sl 0 0 l.length),.sc (.int .i64 now)] [some ⟨l.map HalfD.cs,8,214,false,true⟩] (.sc (.sl 1 0 (co l now).length)) [some ⟨l.map HalfD.cs,8,214,false,true⟩,some ⟨(co l now).map HalfD.cs,8,214,true,true⟩]:=by
 obtain⟨R,hR⟩:∃ R,R=co l now:=⟨_,rfl⟩
 rw [<-hR]
 rw [co] at hR
 refine qE func143 ntmps143 results143 fun E hE=>?_
 refine fJ 1 hE (fun s (x:Nat×List HalfD)=>s.at (qU [0,1,7,1,11,12]) [(10,.sc (.int .i64 (x.1:Nat))),(5,.sc (.sl 1 0 x.2.length))] (s.hp++[some ⟨x.2.map HalfD.cs,8,214,true,true⟩])) (fun (x:Nat×List HalfD)=>x.1<=l.length/\x.2.length<=x.1/\R=x.2++(l.drop x.1).filter (fun h=>decide (now < h.till))) (fun (x:Nat×List HalfD)=>l.length - x.1) (0,[]) (qI 0 1++qO 1) (⟨zk _,zk _,hR⟩) fun x hx N hN=>?_
 obtain⟨k,acc⟩:=x
 obtain⟨h1,h2,h3⟩:=hx
 dsimp only at h1 h2 h3
 refine qR ?_
 refine qB (fun h=>?_) fun h=>?_
 ·rw [kI h] at h3
  have hg:=aC (enc:=HalfD.cs) h
  try simp (disch:=omega) only [go_sem,seval,hg]
  refine qB (fun b2=>?_) fun b2=>?_
  ·rw [if_pos (by simpa using b2)] at h3
   refine⟨qC,hN _ (k+1,acc++[l[k]]) (qI 0 1++qI 4 1) (by (try dsimp only);exact⟨zO,by simp;omega,by simpa using h3⟩) (by (try dsimp only);omega) (aw zF zF ?_)⟩
   refine qX ?_
   simp [HalfD.cs]
  rw [if_neg (by simpa using b2)] at h3
  exact qN hN (k+1,acc) (qI 0 2) (by (try dsimp only);exact⟨zO,zO,h3⟩)
 rw [ml zO,P7] at h3
 subst h3
 exact qF (qI 0 2)
theorem CV (l:List HalfD) (now:Int) (hl:l.length<=1048576):aP 221 [.sc (.sl 0 0 l.length),.sc (.int .i64 now)] [some ⟨l.map HalfD.cs,8,214,false,true⟩] (.sc (.sl 1 0 (co l now).length)) [some ⟨l.map HalfD.cs,8,214,false,true⟩,some ⟨(co l now).map HalfD.cs,8,214,true,true⟩]:=by
 obtain⟨R,hR⟩:∃ R,R=co l now:=⟨_,rfl⟩
 rw [<-hR]
 rw [co] at hR
 refine qE func221 ntmps221 results221 fun E hE=>?_
 refine fJ 1 hE (fun s (x:Nat×List HalfD)=>s.at (qU [7,21]) [(6,.sc (.int .i64 (x.1:Nat))),(5,.sc (.sl 1 0 x.2.length))] ((s.hp.take 1)++[some ⟨x.2.map HalfD.cs,8,214,true,true⟩])) (fun (x:Nat×List HalfD)=>x.1<=l.length/\x.2.length<=x.1/\R=x.2++(l.drop x.1).filter (fun h=>decide (now < h.till))) (fun (x:Nat×List HalfD)=>l.length - x.1) (0,[]) (qI 0 2) (⟨zk _,zk _,hR⟩) fun x hx N hN=>?_
 obtain⟨k,acc⟩:=x
 obtain⟨h1,h2,h3⟩:=hx
 dsimp only at h1 h2 h3
 refine qR ?_
 refine qB (fun h=>?_) fun h=>?_
 ·rw [kI h] at h3
  have hg:=aC (enc:=HalfD.cs) h
  try simp (disch:=omega) only [go_sem,seval,hg]
  refine qB (fun b2=>?_) fun b2=>?_
  ·rw [if_pos (by simpa using b2)] at h3
   try simp (disch:=omega) only [go_sem,seval,hg]
   refine⟨qC,hN _ (k+1,acc++[l[k]]) (qI 0 1++qI 3 1) (by (try dsimp only);exact⟨zO,by simp;omega,by simpa using h3⟩) (by (try dsimp only);omega) (aw zF zF ?_)⟩
   refine qX ?_
   simp [HalfD.cs]
  rw [if_neg (by simpa using b2)] at h3
  exact qN hN (k+1,acc) (qI 0 2) (by (try dsimp only);exact⟨zO,zO,h3⟩)
 rw [ml zO,P7] at h3
 subst h3
 exact qF (qI 0 2)
theorem nE (e:EndD) (s:SubD) (h:bU e.side 1 2=true):aP 146 [.ag (e.cs 0),.ag s.cs] (e.hp false) (.ag (ia e s).cs) (e.hp false):=by
 have hT:=pS (3 - e.side)
 have hB:aP 134 [.ag s.road.cs,.ag (LetterD.cs { ac with kind:=4,token:=eu (3 - e.side),nonce:=s.mine,give:=s.take,spare:=s.spare })] [] (.ag (ia e s).cs) []:=bB s.road { ac with kind:=4,token:=eu (3 - e.side),nonce:=s.mine,give:=s.take,spare:=s.spare }
 simp only [bU,P6,decide_eq_true_eq] at h
 refine qE func146 ntmps146 results146 fun E hE=>?_
 refine qD [0,1,2,3,4,6,7,8,9,10,11,5,12,13,14] ?_
 refine aE (hT) [] ?_
 refine aE (hB) [] ?_
 refine qG ?_
 refine qP (qI 0 7) ?_
 first|exact⟨⟩|rfl
theorem sV (e:EndD) (s:SubD) (h:bU e.side 1 2=true):aP 223 [.ag (e.cs 0),.ag s.cs] (e.hp false) (.ag (ia e s).cs) (e.hp false):=by
 have hT:=pT (3 - e.side)
 have hB:aP 213 [.ag s.road.cs,.ag (LetterD.cs { ac with kind:=4,token:=eu (3 - e.side),nonce:=s.mine,give:=s.take,spare:=s.spare })] [] (.ag (ia e s).cs) []:=a_ s.road { ac with kind:=4,token:=eu (3 - e.side),nonce:=s.mine,give:=s.take,spare:=s.spare }
 simp only [bU,P6,decide_eq_true_eq] at h
 refine qE func223 ntmps223 results223 fun E hE=>?_
 refine qD [0,1,2,3,4,6,7,8,9,10,11,5,12,13,14] ?_
 refine aE (hT) [] ?_
 refine aE (hB) [] ?_
 refine qG ?_
 refine qP (qI 0 7) ?_
 first|exact⟨⟩|rfl
theorem EQ (e:EndD) (hl:e.subs.length<=1048576):aP 150 [.ag (e.cs 0)] (e.hp false) (.sc (.sl 7 0 (gk e.subs).length)) (e.hp false++[some ⟨(gk e.subs).map RoadD.cs,3,113,true,true⟩]):=by
 obtain⟨R,hR⟩:∃ R,R=gk e.subs:=⟨_,rfl⟩
 rw [<-hR]
 rw [gk] at hR
 refine qE func150 ntmps150 results150 fun E hE=>?_
 refine fJ 7 hE (fun s (x:Nat×List RoadD)=>s.at (qU [0,2,5,2,10,12]) [(9,.sc (.int .i64 (x.1:Nat))),(3,.sc (.sl 8 0 x.2.length))] ((s.hp.take 8)++[some ⟨x.2.map RoadD.cs,3,113,true,true⟩])) (fun (x:Nat×List RoadD)=>x.1<=e.subs.length/\x.2.length<=x.1/\R=x.2++((e.subs.drop x.1).filter (fun s=>s.state != 4)).map SubD.road) (fun (x:Nat×List RoadD)=>e.subs.length - x.1) (0,[]) (qI 0 8++qO 1) (⟨zk _,zk _,hR⟩) fun x hx N hN=>?_
 obtain⟨k,acc⟩:=x
 obtain⟨h1,h2,h3⟩:=hx
 dsimp only at h1 h2 h3
 refine qR ?_
 refine qB (fun h=>?_) fun h=>?_
 ·rw [kI h] at h3
  have hg:=aC (enc:=SubD.cs) h
  try simp (disch:=omega) only [go_sem,seval,hg]
  refine qB (fun b2=>?_) fun b2=>?_
  ·rw [if_pos (by simpa using b2),P9] at h3
   try simp (disch:=omega) only [go_sem,seval,hg]
   refine⟨qC,hN _ (k+1,acc++[e.subs[k].road]) (qI 0 8++qI 11 1) (by (try dsimp only);exact⟨zO,by simp;omega,by simpa using h3⟩) (by (try dsimp only);omega) (aw zF zF ?_)⟩
   refine qX ?_
   simp [RoadD.cs]
  rw [if_neg (by simpa using b2)] at h3
  exact qN hN (k+1,acc) (qI 0 9) (by (try dsimp only);exact⟨zO,zO,h3⟩)
 rw [ml zO,Qa,P7] at h3
 subst h3
 exact qF (qI 0 7++qI 8 1)
theorem ER (e:EndD) (hl:e.subs.length<=1048576):aP 228 [.ag (e.cs 0)] (e.hp false) (.sc (.sl 7 0 (gk e.subs).length)) (e.hp false++[some ⟨(gk e.subs).map RoadD.cs,3,113,true,true⟩]):=by
 obtain⟨R,hR⟩:∃ R,R=gk e.subs:=⟨_,rfl⟩
 rw [<-hR]
 rw [gk] at hR
 refine qE func228 ntmps228 results228 fun E hE=>?_
 refine fJ 7 hE (fun s (x:Nat×List RoadD)=>s.at (qU [0,1,5,24]) [(4,.sc (.int .i64 (x.1:Nat))),(3,.sc (.sl 8 0 x.2.length))] ((s.hp.take 8)++[some ⟨x.2.map RoadD.cs,3,113,true,true⟩])) (fun (x:Nat×List RoadD)=>x.1<=e.subs.length/\x.2.length<=x.1/\R=x.2++((e.subs.drop x.1).filter (fun s=>s.state != 4)).map SubD.road) (fun (x:Nat×List RoadD)=>e.subs.length - x.1) (0,[]) (qI 0 9) (⟨zk _,zk _,hR⟩) fun x hx N hN=>?_
 obtain⟨k,acc⟩:=x
 obtain⟨h1,h2,h3⟩:=hx
 dsimp only at h1 h2 h3
 refine qR ?_
 refine qB (fun h=>?_) fun h=>?_
 ·rw [kI h] at h3
  have hg:=aC (enc:=SubD.cs) h
  try simp (disch:=omega) only [go_sem,seval,hg]
  refine qB (fun b2=>?_) fun b2=>?_
  ·rw [if_pos (by simpa using b2),P9] at h3
   try simp (disch:=omega) only [go_sem,seval,hg]
   refine⟨qC,hN _ (k+1,acc++[e.subs[k].road]) (qI 0 8++qI 10 1) (by (try dsimp only);exact⟨zO,by simp;omega,by simpa using h3⟩) (by (try dsimp only);omega) (aw zF zF ?_)⟩
   refine qX ?_
   simp [RoadD.cs]
  rw [if_neg (by simpa using b2)] at h3
  exact qN hN (k+1,acc) (qI 0 9) (by (try dsimp only);exact⟨zO,zO,h3⟩)
 rw [ml zO,Qa,P7] at h3
 subst h3
 exact qF (qI 0 7++qI 8 1)
end
end Go.Proofs.YtdiiopjaebnmfaaGreatDoor
