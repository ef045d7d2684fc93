/- Lemmas of this claim. -/
import Derived.Test.YtdiiopjaebnmfaaGreatDoorZFnExactRunScriptC
set_option maxHeartbeats 16000000
set_option maxRecDepth 100000
set_option linter.unusedVariables false
set_option linter.unusedSimpArgs false
namespace Go.Proofs.YtdiiopjaebnmfaaGreatDoor
open _root_.Go.Proofs.Tryz
open _root_.Bool renaming and_eq_true->zk,and_assoc->P_
open _root_.List renaming map_set->zG,nil_append->P6,append_assoc->P7,mem_flatMap->P8,mem_append->P9,mem_cons->Qa
section
def dN (a:ActD):Bool:=bU a.kind 1 12 && bU a.side 1 2 && (fv a.pos && fv a.many) && decide (a.text.length<=120)
def ah:AddrD:=⟨0,0,false,false⟩
def bw:ActD:=⟨0,0,0,0,[],ah,ac⟩
def cq (a:ActD):ActD:=
  ⟨a.kind,if a.kind<=7 then a.side else 1,if a.kind=1\/a.kind=2\/a.kind=3\/a.kind=4\/a.kind=5\/a.kind=11 then 0 else a.pos,if a.kind=2 then a.many else 0,if a.kind=1 then a.text else [],
    if a.kind=5 then⟨a.addr.id,a.addr.addr,a.addr.spare,false⟩ else ah,if a.kind=11 then a.letter else ac⟩
def pD (t:List UInt8):List UInt8:=if mD t=[] then [45] else mD t
def cH (a:ActD):List (List UInt8):=
  if a.kind=1 then [pD a.text] else if a.kind=2 then [dp a.many] else if a.kind=3\/a.kind=4 then [] else
  if a.kind=5 then [dp a.addr.id,dp a.addr.addr,dp (cond a.addr.spare 1 0)] else if a.kind=11 then [ef a.letter] else [dp a.pos]
def aU (a:ActD):List (List UInt8):=(if a.kind<=7 then [dp a.side] else [])++cH a
def aN (a:ActD):Bool:=
  (decide (7 < a.kind) || fv a.side) &&
  (if a.kind=1 then true else if a.kind=2 then fv a.many else if a.kind=3\/a.kind=4 then true else
   if a.kind=5 then fv a.addr.id && fv a.addr.addr else if a.kind=11 then !(ef a.letter == []) else fv a.pos)
def actTab:List (List UInt8):=[[],[119,114,105,116,101],[114,101,97,100],[116,105,99,107],[109,97,110,97,103,101],[97,100,100,114],[100,114,111,112],[114,101,115,101,116],[100,101,108,105,118,101,114],[108,111,115,101],[99,111,112,121],[105,110,106,101,99,116],[97,103,97,105,110]]
def actParts (a:ActD):List (List UInt8):=actTab.getD a.kind.toNat []::aU a
def actGood (a:ActD):Bool:=dN a && decide (cq a=a) && aN a
def bM (a:ActD):List UInt8:=if actGood a then bF [32] (actParts a) else []
theorem F4 (n:Nat):∀ acc:List UInt8,kg 0 (eT n acc)=kg n acc:=by
  induction n using Nat.strongRecOn with
  |_ n ih=>
    intro acc
    have dig:∀ k:Nat,k < 10->(UInt8.ofNat (48+k)).toNat=48+k:=fun k hk=>by rw [UInt8.toNat_ofNat'];omega
    rw [eT]
    split
    · rename_i h
      rw [kg,dig n h,if_neg zO]
      congr 1
      omega
    · rw [ih (n / 10) zO,kg,dig (n % 10) zO,if_neg zO]
      congr 1
      omega
theorem e_ {n:Int}:fv n=true↔0<=n/\n<=1000000000:=by simp [fv]
theorem bG {n:Int} (h:0<=n/\n<=1000000000):cj (dp n)=(n,true):=by
  have hl:(dp n).length<=10:=by
    rw [dp,if_neg zO]
    have:=rO 9 n.natAbs [] zO
    simpa using this
  have hr:kg 0 (dp n)=some n:=by
    rw [dp,if_neg zO,F4,kg]
    congr 1
    omega
  rw [cj,if_neg zO,hr,l9,if_neg]
  rintro (h'|h')
  · omega
  · exact h' rfl
theorem AX {n:Nat} (h:n < 16):jY (nV n)=n:=by
  have:∀ m:Fin 16,jY (nV m.1)=(m.1:Int):=by decide
  exact this ⟨n,h⟩
theorem rW:∀ (t acc:List UInt8),dU acc (lR t)=some (acc++t)
  |[],acc=>by simp [lR,dU]
  |b::t,acc=>by
    have hb:=b.toNat_lt
    have e:lR (b::t)=nV (b.toNat / 16)::nV (b.toNat % 16)::lR t:=rfl
    rw [e,dU,AX zO,AX zO,if_neg zO,rW t]
    have h2:(16*((b.toNat / 16:Nat):Int)+((b.toNat % 16:Nat):Int)).toNat=b.toNat:=zO
    rw [h2]
    simp
theorem xp {t:List UInt8} (h:t.length<=20000):ee (lR t)=(t,true):=by
  have hl:=fL t
  rw [ee,if_neg zO,rW]
  rfl
theorem qp {y:UInt8}:∀ {s r cur:List UInt8} {acc:List (List UInt8)},(∀ b∈s,b≠y)->eQ y acc cur (s++r)=eQ y acc (cur++s) r
  |[],r,cur,acc,_=>by simp
  |b::s,r,cur,acc,h=>by
    rw [List.cons_append,eQ,if_neg (h b zP),qp (fun x hx=>h x (by simp [hx]))]
    simp
theorem tY:∀ {l:List Int} {acc:List UInt8},gB acc l=acc++l.flatMap fun n=>dp n++[44]
  |[],acc=>by simp [gB]
  |n::r,acc=>by
    rw [gB,tY]
    simp
theorem Ec (n:Nat):∀ acc:List UInt8,(∀ b∈acc,48<=b.toNat/\b.toNat<=57)->∀ b∈eT n acc,48<=b.toNat/\b.toNat<=57:=by
  induction n using Nat.strongRecOn with
  |_ n ih=>
    intro acc ha
    have dig:∀ k:Nat,k < 10->(UInt8.ofNat (48+k)).toNat=48+k:=fun k hk=>by rw [UInt8.toNat_ofNat'];omega
    have step:∀ k:Nat,k < 10->∀ b∈UInt8.ofNat (48+k)::acc,48<=b.toNat/\b.toNat<=57:=by
      intro k hk b hb
      rcases Qa.1 hb with rfl|hb
      · rw [dig k hk];omega
      · exact ha b hb
    rw [eT]
    split
    · rename_i h
      exact step n h
    · exact ih (n / 10) zO _ (step (n % 10) zO)
theorem qq {n:Int} (h:0<=n):∀ b∈dp n,48<=b.toNat/\b.toNat<=57:=by
  rw [dp,if_neg zO]
  exact Ec _ _ zP
theorem NK (n:Int):dp n≠[]:=by
  intro h
  rw [dp] at h
  have:=rN n.natAbs []
  split at h
  · cases h
  · rw [h] at this;simp at this
theorem Hi {n:Nat} (h:n < 16):48<=(nV n).toNat/\(nV n).toNat<=102:=by
  have:∀ m:Fin 16,48<=(nV m.1).toNat/\(nV m.1).toNat<=102:=by decide
  exact this ⟨n,h⟩
theorem tZ {t:List UInt8}:∀ b∈lR t,48<=b.toNat/\b.toNat<=102:=by
  intro b hb
  simp only [lR,P8,Qa,List.not_mem_nil,or_false] at hb
  obtain⟨c,_,rfl|rfl⟩:=hb
  · have:=c.toNat_lt;exact Hi zO
  · exact Hi zO
theorem AY:∀ {l:List Int} {acc:List (List UInt8)} {t:List UInt8},(∀ n∈l,0<=n)->(∀ b∈t,b≠44)->eQ 44 acc [] ((l.flatMap fun n=>dp n++[44])++t)=acc++l.map dp++[t]
  |[],acc,t,_,ht=>by
    have:=qp (y:=44) (s:=t) (r:=[]) (cur:=[]) (acc:=acc) ht
    simp only [List.append_nil,P6] at this
    simp [this,eQ]
  |n::l,acc,t,h,ht=>by
    have hd:∀ b∈dp n,b≠44:=fun b hb e=>by
      have:=qq (h n zP) b hb
      subst e
      exact absurd this.1 zD
    rw [List.flatMap_cons,P7,P7,qp hd,List.singleton_append,eQ,if_pos rfl,P6,AY (fun x hx=>h x (by simp [hx])) ht]
    simp
theorem AZ:∀ {l:List Int},(∀ n∈l,0<=n/\n<=1000000000)->br (l.map dp)=some l
  |[],_=>rfl
  |n::l,h=>by
    rw [List.map_cons,br,bG (h n zP),AZ (fun x hx=>h x (by simp [hx]))]
    rfl
theorem F5 (x:LetterD):lw (cC x) (bR (cC x) 16 == 1) x.text=x:=by
  obtain⟨k,f,t,p,ke,to,no,gi,si,⟨a,b,c,d,e⟩,id,ad,sp,po,te⟩:=x
  cases sp<;>rfl
theorem xq {x:LetterD} (h:cU x=true):x.text.length<=20:=by
  simp only [cU,zk,decide_eq_true_eq] at h
  exact h.2
theorem n_ {x:LetterD} (h:cU x=true):wo (ef x)=(x,true):=by
  have ht:=xq h
  have hi:=qo h
  have hw:ef x=(cC x).flatMap (fun n=>dp n++[44])++lR x.text:=by
    rw [ef,if_pos h,tY,mD,if_pos zO,P6]
  have hc:d9 44 (ef x)=(cC x).map dp++[lR x.text]:=by
    rw [d9,hw,AY (fun n hn=>(hi n hn).1) (fun b hb e=>by
      have:=(tZ b hb).1
      subst e
      exact absurd this zD)]
    rfl
  have h18:((cC x).map dp).length=18:=rfl
  rw [wo,hc,if_pos zF,List.take_left' h18,AZ hi,Cc]
  have e:((cC x).map dp++[lR x.text]).getD 18 []=lR x.text:=rfl
  rw [e,xp zO]
  dsimp only
  rw [F5,if_pos ⟨rfl,rfl⟩]
theorem xr {x:LetterD}:ef x≠[]↔cU x=true:=by
  constructor
  · intro h
    cases hk:cU x with
    |true=>rfl
    |false=>exact absurd (by simp [ef,hk]) h
  · intro h e
    have h1:=n_ h
    rw [e] at h1
    have:(wo []).2=false:=rfl
    rw [h1] at this
    cases this
theorem Cd {x:LetterD} (h:cU x=true):∀ b∈ef x,32 < b.toNat/\b.toNat<=126:=by
  have ht:=xq h
  have hi:=qo h
  intro b hb
  rw [ef,if_pos h,tY,mD,if_pos zO,P6] at hb
  rcases P9.1 hb with hb|hb
  · obtain⟨n,hn,hb⟩:=P8.1 hb
    rcases P9.1 hb with hb|hb
    · have:=qq (hi n hn).1 b hb
      omega
    · simp at hb;subst hb;decide
  · have:=tZ b hb
    omega
end
section
open Go.RowKit
theorem zX (e:EndD) (x:LetterD) (hs:Small e):aP 194 [.ag (e.cs 0),.ag x.cs] (e.hp false) (.tu [.ag ((cc e x).1.cs 7),.sc (.sl 14 0 (cc e x).2.length)])
  (e.hp false++((cc e x).1.hp true++[some ⟨(cc e x).2.map LetterD.cs,19,36,true,true⟩])):=by
 have hC:=(qH (aG e))
 have hK:=(qH (bA e))
 have hH:=j6 e.halfs (am x) (by have:=hs.halfs;omega)
 have hO:=jO e x.to (by have:=hs.own;omega)
 have hT:=Cp e.bucket
 have hL:=bL x
 have hTk:=pS e.side
 have hbH:=iJ e.halfs (am x)
 have hf:=NP (e:=e) (x:=x)
 have hns:=fun i=> @NQ e x i
 have hnn:= @NR e x
 have hok:=qt.eq_1 e x
 generalize cc e x=R at*
 refine qE func194 ntmps194 results194 fun E hE=>?_
 refine qK (hC) (qI 0 7) ?_
 refine qK (eG x) [] ?_
 refine qK (hH) (qI 3 1) ?_
 rcases hbH with hi|⟨hi0,hi1⟩
 ·rw [hi]
  refine qX ?_
  refine qD [0,1,2,3,4,5,6,7,8,9,10,11,12,13,14,15,16,17,18,19,20,21,22,23,24,25,26,27,28,29,30,31,32,33,34,35,36,37,38,39,40,41,42,43,44,45,46,47,48,49,50,51,52,53] ?_
  refine aE (hK) (qI 0 7) ?_
  refine qB (fun h1=>?_) fun h1=>?_
  ·refine aE (hL) [] ?_
   refine qB (fun h2=>?_) fun h2=>?_
   ·refine qB (fun h3=>?_) fun h3=>?_
    ·refine aE (hTk) [] ?_
     refine qB (fun h4=>?_) fun h4=>?_
     ·refine aE (hO) (qI 0 7) ?_
      refine qB (fun h5=>?_) fun h5=>?_
      ·refine qB (fun h6=>?_) fun h6=>?_
       ·refine qB (fun h7=>?_) fun h7=>?_
        ·refine aE (f7 e) (qI 0 7) ?_
         refine qB (fun h8=>?_) fun h8=>?_
         ·refine qG ?_
          refine qB (fun h9=>?_) fun h9=>?_
          ·rw [hf (by rw [hok];first|(simp [h1,h2,h3,h4,h5,h6,h8,h9,hi];done)|(simp [h1,h2,h3,h4,h5,h6,h8,h9,hi];intros;omega))]
           exact qF (qI 0 7++qI 10 7++qO 1)
          refine qX ?_
          refine qK (hT) [] ?_
          refine qB (fun h10=>?_) fun h10=>?_
          ·rw [hf (by rw [hok];first|(simp [h1,h2,h3,h4,h5,h6,h8,h9,h10,hi];done)|(simp [h1,h2,h3,h4,h5,h6,h8,h9,h10,hi];intros;omega))]
           exact qF (qI 0 7++qI 10 7++qO 1)
          have hnow:=kG h1
          have hok':qt e x=true:=by rw [hok];have:=ci (bO h1);have:=dB h1;simp [h1,h2,h3,h4,h5,h6,h8,h9,h10,hi];try omega
          refine qX ?_
          have hsm:fH e x=false:=Bg hi
          refine qD [0,1,2,3,4,5,6,7,8,9,10,11,12,13,14,15,16,17,18,19,20,21,22,23] ?_
          refine qG ?_
          rw [hnn hok' hsm]
          refine qX ?_
          have hP:=mR e.halfs (aL e x) (by have:=ci (bO h1);omega)
          obtain⟨Q,hQ⟩:∃ Q,Q=ck e.halfs (aL e x):=⟨_,rfl⟩
          rw [<-hQ] at hP⊢
          have hQl:Q.1.length<=1048576:=by rw [hQ];have:=ci (bO h1);have:=dW e.halfs (aL e x);unfold ck;split<;>dsimp only<;>omega
          refine qK (gY { e with bucket:=(ce e.bucket).1 } h8) (qI 10 8) ?_
          refine qK (hP) (qI 13 1) ?_
          refine aB [(17,18)] [(qU [0,10,11,4,10,1,15,5]),(qU [0,10,11,4,10,1,15,2,18,1,17,1,19,1])] zXk (qC) zXk ?_
          simp only [aM]
          refine⟨aa 400 ?_,aa 400 ?_⟩
          all_goals simp (disch:=omega) only [go_sem,seval]
          all_goals
           refine aE (i8 _ _ _ _) [] ?_
           refine aE (bB (am x) { ac with kind:=5,tag:=⟨1,e.key,e.peer,(aL e x).mine,(aL e x).theirs⟩,nonce:=(aL e x).mine,give:=(aL e x).take }) [] ?_
           refine qG ?_
           refine aj (qI 0 7++qI 10 3++qI 21 1++qI 14 3++qI 22 1) (qC) _ zXg zF zF ?_
           simp (disch:=omega) only [go_sem,seval]
           try simp [zG,HalfD.cs,kZ,aL,bc,LetterD.cs,ac]
           try omega
         rw [hf (by rw [hok];first|(simp [h1,h2,h3,h4,h5,h6,h8,hi];done)|(simp [h1,h2,h3,h4,h5,h6,h8,hi];intros;omega))]
         refine qG ?_
         exact qF (qI 0 7++qI 10 7++qO 1)
        rw [hf (by rw [hok];first|(simp [h1,h2,h3,h4,h5,h6,h7,hi];done)|(simp [h1,h2,h3,h4,h5,h6,h7,hi];intros;omega))]
        refine qG ?_
        exact qF (qI 0 7++qI 10 7++qO 1)
       rw [hf (by rw [hok];first|(simp [h1,h2,h3,h4,h5,h6,hi];done)|(simp [h1,h2,h3,h4,h5,h6,hi];intros;omega))]
       refine qG ?_
       exact qF (qI 0 7++qI 10 7++qO 1)
      rw [hf (by rw [hok];first|(simp [h1,h2,h3,h4,h5,hi];done)|(simp [h1,h2,h3,h4,h5,hi];intros;omega))]
      refine qG ?_
      exact qF (qI 0 7++qI 10 7++qO 1)
     rw [hf (by rw [hok];first|(simp [h1,h2,h3,h4,hi];done)|(simp [h1,h2,h3,h4,hi];intros;omega))]
     refine qG ?_
     exact qF (qI 0 7++qI 10 7++qO 1)
    rw [hf (by rw [hok];first|(simp [h1,h2,h3,hi];done)|(simp [h1,h2,h3,hi];intros;omega))]
    refine qG ?_
    exact qF (qI 0 7++qI 10 7++qO 1)
   rw [hf (by rw [hok];first|(simp [h1,h2,hi];done)|(simp [h1,h2,hi];intros;omega))]
   refine qG ?_
   exact qF (qI 0 7++qI 10 7++qO 1)
  rw [hf (by rw [hok];first|(simp [h1,hi];done)|(simp [h1,hi];intros;omega))]
  refine qG ?_
  exact qF (qI 0 7++qI 10 7++qO 1)
 obtain⟨i,hi⟩:=Int.eq_ofNat_of_zero_le hi0
 have hil:i < e.halfs.length:=zO
 rw [hi]
 refine qX ?_
 refine qD [0,1,2,3,4,5,6,7,8,9,10,11,12,13,14,15,16,17,18,19,20,21,22,23,24,25,26,27,28,29,30,31,32,33,34,35,36,37,38,39,40,41,42,43,44,45,46,47,48,49,50,51,52,53] ?_
 refine aE (hK) (qI 0 7) ?_
 refine qB (fun h1=>?_) fun h1=>?_
 ·refine aE (hL) [] ?_
  refine qB (fun h2=>?_) fun h2=>?_
  ·refine qB (fun h3=>?_) fun h3=>?_
   ·refine aE (hTk) [] ?_
    refine qB (fun h4=>?_) fun h4=>?_
    ·refine aE (hO) (qI 0 7) ?_
     refine qB (fun h5=>?_) fun h5=>?_
     ·refine qB (fun h6=>?_) fun h6=>?_
      ·refine aE (f7 e) (qI 0 7) ?_
       refine qB (fun h8=>?_) fun h8=>?_
       ·refine qG ?_
        refine qB (fun h9=>?_) fun h9=>?_
        ·rw [hf (by rw [hok];first|(simp [h1,h2,h3,h4,h5,h6,h8,h9,hi];done)|(simp [h1,h2,h3,h4,h5,h6,h8,h9,hi];intros;omega))]
         exact qF (qI 0 7++qI 10 7++qO 1)
        refine qX ?_
        refine qK (hT) [] ?_
        refine qB (fun h10=>?_) fun h10=>?_
        ·rw [hf (by rw [hok];first|(simp [h1,h2,h3,h4,h5,h6,h8,h9,h10,hi];done)|(simp [h1,h2,h3,h4,h5,h6,h8,h9,h10,hi];intros;omega))]
         exact qF (qI 0 7++qI 10 7++qO 1)
        have hnow:=kG h1
        have hok':qt e x=true:=by rw [hok];have:=ci (bO h1);have:=dB h1;simp [h1,h2,h3,h4,h5,h6,h8,h9,h10,hi];try omega
        refine qX ?_
        refine qD [0,1,2,3,4,5,6,7,8,9,10,11,12,13,14,15,16,17,18,19,20,21,22,23] ?_
        refine qB (fun h11=>?_) fun h11=>?_
        ·refine qG ?_
         refine qB (fun h12=>?_) fun h12=>?_
         ·have hsm:fH e x=true:=by rw [kH hi hil];simp [h11,h12]
          rw [hns _ hok' hsm hi hil]
          have hrd:=vh hi hil
          refine qX ?_
          refine aB [(17,18)] [(qU [0,10,11,4,10,1,15,5]),(qU [0,10,11,4,10,1,15,2,18,1,17,1,19,1])] zXk (qC) zXk ?_
          simp only [aM]
          refine⟨aa 400 ?_,aa 400 ?_⟩
          all_goals simp (disch:=omega) only [go_sem,seval]
          all_goals
           refine aE (i8 _ _ _ _) [] ?_
           refine aE (bB (am x) { ac with kind:=5,tag:=⟨1,e.key,e.peer,(e.halfs[i]).mine,(e.halfs[i]).theirs⟩,nonce:=(e.halfs[i]).mine,give:=(e.halfs[i]).take }) [] ?_
           refine qG ?_
           refine aj (qI 0 7++qI 10 7++qI 21 1) (qC) _ zXg zF zF ?_
           simp (disch:=omega) only [go_sem,seval]
           try simp [zG,HalfD.cs,kZ,aL,bc,LetterD.cs,ac]
           try omega
         have hsm:fH e x=false:=by rw [kH hi hil];simp [h11,h12]
         rw [hnn hok' hsm]
         refine qX ?_
         have hP:=mR e.halfs (aL e x) (by have:=ci (bO h1);omega)
         obtain⟨Q,hQ⟩:∃ Q,Q=ck e.halfs (aL e x):=⟨_,rfl⟩
         rw [<-hQ] at hP⊢
         have hQl:Q.1.length<=1048576:=by rw [hQ];have:=ci (bO h1);have:=dW e.halfs (aL e x);unfold ck;split<;>dsimp only<;>omega
         refine qK (gY { e with bucket:=(ce e.bucket).1 } h8) (qI 10 8) ?_
         refine qK (hP) (qI 13 1) ?_
         refine aB [(17,18)] [(qU [0,10,11,4,10,1,15,5]),(qU [0,10,11,4,10,1,15,2,18,1,17,1,19,1])] zXk (qC) zXk ?_
         simp only [aM]
         refine⟨aa 400 ?_,aa 400 ?_⟩
         all_goals simp (disch:=omega) only [go_sem,seval]
         all_goals
          refine aE (i8 _ _ _ _) [] ?_
          refine aE (bB (am x) { ac with kind:=5,tag:=⟨1,e.key,e.peer,(aL e x).mine,(aL e x).theirs⟩,nonce:=(aL e x).mine,give:=(aL e x).take }) [] ?_
          refine qG ?_
          refine aj (qI 0 7++qI 10 3++qI 21 1++qI 14 3++qI 22 1) (qC) _ zXg zF zF ?_
          simp (disch:=omega) only [go_sem,seval]
          try simp [zG,HalfD.cs,kZ,aL,bc,LetterD.cs,ac]
          try omega
        have hsm:fH e x=false:=by rw [kH hi hil];simp [h11]
        refine qG ?_
        rw [hnn hok' hsm]
        refine qX ?_
        have hP:=mR e.halfs (aL e x) (by have:=ci (bO h1);omega)
        obtain⟨Q,hQ⟩:∃ Q,Q=ck e.halfs (aL e x):=⟨_,rfl⟩
        rw [<-hQ] at hP⊢
        have hQl:Q.1.length<=1048576:=by rw [hQ];have:=ci (bO h1);have:=dW e.halfs (aL e x);unfold ck;split<;>dsimp only<;>omega
        refine qK (gY { e with bucket:=(ce e.bucket).1 } h8) (qI 10 8) ?_
        refine qK (hP) (qI 13 1) ?_
        refine aB [(17,18)] [(qU [0,10,11,4,10,1,15,5]),(qU [0,10,11,4,10,1,15,2,18,1,17,1,19,1])] zXk (qC) zXk ?_
        simp only [aM]
        refine⟨aa 400 ?_,aa 400 ?_⟩
        all_goals simp (disch:=omega) only [go_sem,seval]
        all_goals
         refine aE (i8 _ _ _ _) [] ?_
         refine aE (bB (am x) { ac with kind:=5,tag:=⟨1,e.key,e.peer,(aL e x).mine,(aL e x).theirs⟩,nonce:=(aL e x).mine,give:=(aL e x).take }) [] ?_
         refine qG ?_
         refine aj (qI 0 7++qI 10 3++qI 21 1++qI 14 3++qI 22 1) (qC) _ zXg zF zF ?_
         simp (disch:=omega) only [go_sem,seval]
         try simp [zG,HalfD.cs,kZ,aL,bc,LetterD.cs,ac]
         try omega
       rw [hf (by rw [hok];first|(simp [h1,h2,h3,h4,h5,h6,h8,hi];done)|(simp [h1,h2,h3,h4,h5,h6,h8,hi];intros;omega))]
       refine qG ?_
       exact qF (qI 0 7++qI 10 7++qO 1)
      rw [hf (by rw [hok];first|(simp [h1,h2,h3,h4,h5,h6,hi];done)|(simp [h1,h2,h3,h4,h5,h6,hi];intros;omega))]
      refine qG ?_
      exact qF (qI 0 7++qI 10 7++qO 1)
     rw [hf (by rw [hok];first|(simp [h1,h2,h3,h4,h5,hi];done)|(simp [h1,h2,h3,h4,h5,hi];intros;omega))]
     refine qG ?_
     exact qF (qI 0 7++qI 10 7++qO 1)
    rw [hf (by rw [hok];first|(simp [h1,h2,h3,h4,hi];done)|(simp [h1,h2,h3,h4,hi];intros;omega))]
    refine qG ?_
    exact qF (qI 0 7++qI 10 7++qO 1)
   rw [hf (by rw [hok];first|(simp [h1,h2,h3,hi];done)|(simp [h1,h2,h3,hi];intros;omega))]
   refine qG ?_
   exact qF (qI 0 7++qI 10 7++qO 1)
  rw [hf (by rw [hok];first|(simp [h1,h2,hi];done)|(simp [h1,h2,hi];intros;omega))]
  refine qG ?_
  exact qF (qI 0 7++qI 10 7++qO 1)
 rw [hf (by rw [hok];first|(simp [h1,hi];done)|(simp [h1,hi];intros;omega))]
 refine qG ?_
 exact qF (qI 0 7++qI 10 7++qO 1)
theorem zY (e:EndD) (x:LetterD) (hs:Small e):aP 268 [.ag (e.cs 0),.ag x.cs] (e.hp false) (.tu [.ag ((cc e x).1.cs 7),.sc (.sl 14 0 (cc e x).2.length)])
  (e.hp false++((cc e x).1.hp true++[some ⟨(cc e x).2.map LetterD.cs,19,36,true,true⟩])):=by
 have hC:=(qH (aF e))
 have hK:=(qH (bz e))
 have hH:=j7 e.halfs (am x) (by have:=hs.halfs;omega)
 have hO:=jP e x.to (by have:=hs.own;omega)
 have hT:=Cq e.bucket
 have hL:=dq x
 have hTk:=pT e.side
 have hbH:=iJ e.halfs (am x)
 have hf:=NP (e:=e) (x:=x)
 have hns:=fun i=> @NQ e x i
 have hnn:= @NR e x
 have hok:=qt.eq_1 e x
 generalize cc e x=R at*
 refine qE func268 ntmps268 results268 fun E hE=>?_
 refine qK (hC) (qI 0 7) ?_
 refine qK (de x) [] ?_
 refine qK (hH) (qI 3 1) ?_
 rcases hbH with hi|⟨hi0,hi1⟩
 ·rw [hi]
  refine qX ?_
  refine qD [0,1,2,3,4,5,6,7,8,9,10,11,12,13,14,15,16,17,18,19,20,21,22,23,24,25,26,27,28,29,30,31,32,33,34,35,36,37,38,39,40,41,42,43,44,45,46,47,48,49,50,51,52,53] ?_
  refine aE (hK) (qI 0 7) ?_
  refine qB (fun h1=>?_) fun h1=>?_
  ·refine aE (hL) [] ?_
   refine qB (fun h2=>?_) fun h2=>?_
   ·refine qB (fun h3=>?_) fun h3=>?_
    ·refine aE (hTk) [] ?_
     refine qB (fun h4=>?_) fun h4=>?_
     ·refine aE (hO) (qI 0 7) ?_
      refine qB (fun h5=>?_) fun h5=>?_
      ·refine qB (fun h6=>?_) fun h6=>?_
       ·refine qB (fun h7=>?_) fun h7=>?_
        ·refine aE (ij e) (qI 0 7) ?_
         refine qB (fun h8=>?_) fun h8=>?_
         ·refine qG ?_
          refine qB (fun h9=>?_) fun h9=>?_
          ·rw [hf (by rw [hok];first|(simp [h1,h2,h3,h4,h5,h6,h8,h9,hi];done)|(simp [h1,h2,h3,h4,h5,h6,h8,h9,hi];intros;omega))]
           exact qF (qI 0 7++qI 10 7++qI 18 1)
          refine qX ?_
          refine qK (hT) [] ?_
          refine qB (fun h10=>?_) fun h10=>?_
          ·rw [hf (by rw [hok];first|(simp [h1,h2,h3,h4,h5,h6,h8,h9,h10,hi];done)|(simp [h1,h2,h3,h4,h5,h6,h8,h9,h10,hi];intros;omega))]
           exact qF (qI 0 7++qI 10 7++qI 18 1)
          have hnow:=kG h1
          have hok':qt e x=true:=by rw [hok];have:=ci (bO h1);have:=dB h1;simp [h1,h2,h3,h4,h5,h6,h8,h9,h10,hi];try omega
          refine qX ?_
          have hsm:fH e x=false:=Bg hi
          refine qD [0,1,2,3,4,5,6,7,8,9,10,11,12,13,14,15,16,17,18,19,20,21,22,23] ?_
          refine qG ?_
          rw [hnn hok' hsm]
          refine qX ?_
          have hP:=kz e.halfs (aL e x) (by have:=ci (bO h1);omega)
          obtain⟨Q,hQ⟩:∃ Q,Q=ck e.halfs (aL e x):=⟨_,rfl⟩
          rw [<-hQ] at hP⊢
          have hQl:Q.1.length<=1048576:=by rw [hQ];have:=ci (bO h1);have:=dW e.halfs (aL e x);unfold ck;split<;>dsimp only<;>omega
          have h8':=h8
          simp only [bU,zk,decide_eq_true_eq] at h8'
          have hd1:bU e.draw 1 999999998=true:=by simp only [bU,zk,decide_eq_true_eq];omega
          have hd2:bU (e.draw+2) 1 999999998=true:=by simp only [bU,zk,decide_eq_true_eq];omega
          refine qK (cQ { e with bucket:=(ce e.bucket).1 } ⟨hs.own,hs.far,hs.subs,hs.halfs,hs.list,hs.done,hs.over⟩ hd1) (qI 10 7) ?_
          refine qK (cQ { e with bucket:=(ce e.bucket).1,draw:=e.draw+2 } ⟨hs.own,hs.far,hs.subs,hs.halfs,hs.list,hs.done,hs.over⟩ hd2) (qI 22 7) ?_
          refine qK (hP) (qI 32 1) ?_
          refine aB [(0,19),(11,0),(17,0),(18,0)] [(qU [1,10,12,4,11,1,16,3,0,1,19,3]),(qU [1,10,12,4,11,1,16,2,0,1,18,4]),(qU [1,10,12,4,11,1,16,1,0,1,17,5]),(qU [1,10,12,4,0,1,11,1,16,6]),(qU [1,10,12,4,11,1,16,4,0,1,20,2])] zXk (qC) zXk ?_
          simp only [aM]
          refine⟨aa 400 ?_,aa 400 ?_,aa 400 ?_,aa 400 ?_,aa 400 ?_⟩
          all_goals simp (disch:=omega) only [go_sem,seval]
          all_goals
           refine aE (i9 _ _ _ _) [] ?_
           refine aE (a_ (am x) { ac with kind:=5,tag:=⟨1,e.key,e.peer,(aL e x).mine,(aL e x).theirs⟩,nonce:=(aL e x).mine,give:=(aL e x).take }) [] ?_
           refine qG ?_
           refine aj (qI 0 7++qI 29 3++qI 36 1++qI 33 3++qI 38 1) (qC) _ zXg zF zF ?_
           simp (disch:=omega) only [go_sem,seval]
           try simp [zG,HalfD.cs,kZ,aL,bc,LetterD.cs,ac]
           try omega
         rw [hf (by rw [hok];first|(simp [h1,h2,h3,h4,h5,h6,h8,hi];done)|(simp [h1,h2,h3,h4,h5,h6,h8,hi];intros;omega))]
         refine qG ?_
         exact qF (qI 0 7++qI 10 7++qI 18 1)
        rw [hf (by rw [hok];first|(simp [h1,h2,h3,h4,h5,h6,h7,hi];done)|(simp [h1,h2,h3,h4,h5,h6,h7,hi];intros;omega))]
        refine qG ?_
        exact qF (qI 0 7++qI 10 7++qI 18 1)
       rw [hf (by rw [hok];first|(simp [h1,h2,h3,h4,h5,h6,hi];done)|(simp [h1,h2,h3,h4,h5,h6,hi];intros;omega))]
       refine qG ?_
       exact qF (qI 0 7++qI 10 7++qI 18 1)
      rw [hf (by rw [hok];first|(simp [h1,h2,h3,h4,h5,hi];done)|(simp [h1,h2,h3,h4,h5,hi];intros;omega))]
      refine qG ?_
      exact qF (qI 0 7++qI 10 7++qI 18 1)
     rw [hf (by rw [hok];first|(simp [h1,h2,h3,h4,hi];done)|(simp [h1,h2,h3,h4,hi];intros;omega))]
     refine qG ?_
     exact qF (qI 0 7++qI 10 7++qI 18 1)
    rw [hf (by rw [hok];first|(simp [h1,h2,h3,hi];done)|(simp [h1,h2,h3,hi];intros;omega))]
    refine qG ?_
    exact qF (qI 0 7++qI 10 7++qI 18 1)
   rw [hf (by rw [hok];first|(simp [h1,h2,hi];done)|(simp [h1,h2,hi];intros;omega))]
   refine qG ?_
   exact qF (qI 0 7++qI 10 7++qI 18 1)
  rw [hf (by rw [hok];first|(simp [h1,hi];done)|(simp [h1,hi];intros;omega))]
  refine qG ?_
  exact qF (qI 0 7++qI 10 7++qI 18 1)
 obtain⟨i,hi⟩:=Int.eq_ofNat_of_zero_le hi0
 have hil:i < e.halfs.length:=zO
 rw [hi]
 refine qX ?_
 refine qD [0,1,2,3,4,5,6,7,8,9,10,11,12,13,14,15,16,17,18,19,20,21,22,23,24,25,26,27,28,29,30,31,32,33,34,35,36,37,38,39,40,41,42,43,44,45,46,47,48,49,50,51,52,53] ?_
 refine aE (hK) (qI 0 7) ?_
 refine qB (fun h1=>?_) fun h1=>?_
 ·refine aE (hL) [] ?_
  refine qB (fun h2=>?_) fun h2=>?_
  ·refine qB (fun h3=>?_) fun h3=>?_
   ·refine aE (hTk) [] ?_
    refine qB (fun h4=>?_) fun h4=>?_
    ·refine aE (hO) (qI 0 7) ?_
     refine qB (fun h5=>?_) fun h5=>?_
     ·refine qB (fun h6=>?_) fun h6=>?_
      ·refine aE (ij e) (qI 0 7) ?_
       refine qB (fun h8=>?_) fun h8=>?_
       ·refine qG ?_
        refine qB (fun h9=>?_) fun h9=>?_
        ·rw [hf (by rw [hok];first|(simp [h1,h2,h3,h4,h5,h6,h8,h9,hi];done)|(simp [h1,h2,h3,h4,h5,h6,h8,h9,hi];intros;omega))]
         exact qF (qI 0 7++qI 10 7++qI 18 1)
        refine qX ?_
        refine qK (hT) [] ?_
        refine qB (fun h10=>?_) fun h10=>?_
        ·rw [hf (by rw [hok];first|(simp [h1,h2,h3,h4,h5,h6,h8,h9,h10,hi];done)|(simp [h1,h2,h3,h4,h5,h6,h8,h9,h10,hi];intros;omega))]
         exact qF (qI 0 7++qI 10 7++qI 18 1)
        have hnow:=kG h1
        have hok':qt e x=true:=by rw [hok];have:=ci (bO h1);have:=dB h1;simp [h1,h2,h3,h4,h5,h6,h8,h9,h10,hi];try omega
        refine qX ?_
        refine qD [0,1,2,3,4,5,6,7,8,9,10,11,12,13,14,15,16,17,18,19,20,21,22,23] ?_
        refine qB (fun h11=>?_) fun h11=>?_
        ·refine qG ?_
         refine qB (fun h12=>?_) fun h12=>?_
         ·have hsm:fH e x=true:=by rw [kH hi hil];simp [h11,h12]
          rw [hns _ hok' hsm hi hil]
          have hrd:=vh hi hil
          have hP:=kz e.halfs { e.halfs[i] with till:=e.now+6 } (by have:=ci (bO h1);omega)
          rw [Cs (bO h1) hil (by simp only [fv,zk,decide_eq_true_eq];omega) (by rw [hrd];exact hi)] at hP
          refine qX ?_
          refine qK (hP) (qI 13 1) ?_
          refine aB [(0,19),(11,0),(17,0),(18,0)] [(qU [1,10,12,4,11,1,16,3,0,1,19,3]),(qU [1,10,12,4,11,1,16,2,0,1,18,4]),(qU [1,10,12,4,11,1,16,1,0,1,17,5]),(qU [1,10,12,4,0,1,11,1,16,6]),(qU [1,10,12,4,11,1,16,4,0,1,20,2])] zXk (qC) zXk ?_
          simp only [aM]
          refine⟨aa 400 ?_,aa 400 ?_,aa 400 ?_,aa 400 ?_,aa 400 ?_⟩
          all_goals simp (disch:=omega) only [go_sem,seval]
          all_goals
           refine aE (i9 _ _ _ _) [] ?_
           refine aE (a_ (am x) { ac with kind:=5,tag:=⟨1,e.key,e.peer,(e.halfs[i]).mine,(e.halfs[i]).theirs⟩,nonce:=(e.halfs[i]).mine,give:=(e.halfs[i]).take }) [] ?_
           refine qG ?_
           refine aj (qI 0 7++qI 10 3++qI 22 1++qI 14 3++qI 24 1) (qC) _ zXg zF zF ?_
           simp (disch:=omega) only [go_sem,seval]
           try simp [zG,HalfD.cs,kZ,aL,bc,LetterD.cs,ac]
           try omega
         have hsm:fH e x=false:=by rw [kH hi hil];simp [h11,h12]
         rw [hnn hok' hsm]
         refine qX ?_
         have hP:=kz e.halfs (aL e x) (by have:=ci (bO h1);omega)
         obtain⟨Q,hQ⟩:∃ Q,Q=ck e.halfs (aL e x):=⟨_,rfl⟩
         rw [<-hQ] at hP⊢
         have hQl:Q.1.length<=1048576:=by rw [hQ];have:=ci (bO h1);have:=dW e.halfs (aL e x);unfold ck;split<;>dsimp only<;>omega
         have h8':=h8
         simp only [bU,zk,decide_eq_true_eq] at h8'
         have hd1:bU e.draw 1 999999998=true:=by simp only [bU,zk,decide_eq_true_eq];omega
         have hd2:bU (e.draw+2) 1 999999998=true:=by simp only [bU,zk,decide_eq_true_eq];omega
         refine qK (cQ { e with bucket:=(ce e.bucket).1 } ⟨hs.own,hs.far,hs.subs,hs.halfs,hs.list,hs.done,hs.over⟩ hd1) (qI 10 7) ?_
         refine qK (cQ { e with bucket:=(ce e.bucket).1,draw:=e.draw+2 } ⟨hs.own,hs.far,hs.subs,hs.halfs,hs.list,hs.done,hs.over⟩ hd2) (qI 22 7) ?_
         refine qK (hP) (qI 32 1) ?_
         refine aB [(0,19),(11,0),(17,0),(18,0)] [(qU [1,10,12,4,11,1,16,3,0,1,19,3]),(qU [1,10,12,4,11,1,16,2,0,1,18,4]),(qU [1,10,12,4,11,1,16,1,0,1,17,5]),(qU [1,10,12,4,0,1,11,1,16,6]),(qU [1,10,12,4,11,1,16,4,0,1,20,2])] zXk (qC) zXk ?_
         simp only [aM]
         refine⟨aa 400 ?_,aa 400 ?_,aa 400 ?_,aa 400 ?_,aa 400 ?_⟩
         all_goals simp (disch:=omega) only [go_sem,seval]
         all_goals
          refine aE (i9 _ _ _ _) [] ?_
          refine aE (a_ (am x) { ac with kind:=5,tag:=⟨1,e.key,e.peer,(aL e x).mine,(aL e x).theirs⟩,nonce:=(aL e x).mine,give:=(aL e x).take }) [] ?_
          refine qG ?_
          refine aj (qI 0 7++qI 29 3++qI 36 1++qI 33 3++qI 38 1) (qC) _ zXg zF zF ?_
          simp (disch:=omega) only [go_sem,seval]
          try simp [zG,HalfD.cs,kZ,aL,bc,LetterD.cs,ac]
          try omega
        have hsm:fH e x=false:=by rw [kH hi hil];simp [h11]
        refine qG ?_
        rw [hnn hok' hsm]
        refine qX ?_
        have hP:=kz e.halfs (aL e x) (by have:=ci (bO h1);omega)
        obtain⟨Q,hQ⟩:∃ Q,Q=ck e.halfs (aL e x):=⟨_,rfl⟩
        rw [<-hQ] at hP⊢
        have hQl:Q.1.length<=1048576:=by rw [hQ];have:=ci (bO h1);have:=dW e.halfs (aL e x);unfold ck;split<;>dsimp only<;>omega
        have h8':=h8
        simp only [bU,zk,decide_eq_true_eq] at h8'
        have hd1:bU e.draw 1 999999998=true:=by simp only [bU,zk,decide_eq_true_eq];omega
        have hd2:bU (e.draw+2) 1 999999998=true:=by simp only [bU,zk,decide_eq_true_eq];omega
        refine qK (cQ { e with bucket:=(ce e.bucket).1 } ⟨hs.own,hs.far,hs.subs,hs.halfs,hs.list,hs.done,hs.over⟩ hd1) (qI 10 7) ?_
        refine qK (cQ { e with bucket:=(ce e.bucket).1,draw:=e.draw+2 } ⟨hs.own,hs.far,hs.subs,hs.halfs,hs.list,hs.done,hs.over⟩ hd2) (qI 22 7) ?_
        refine qK (hP) (qI 32 1) ?_
        refine aB [(0,19),(11,0),(17,0),(18,0)] [(qU [1,10,12,4,11,1,16,3,0,1,19,3]),(qU [1,10,12,4,11,1,16,2,0,1,18,4]),(qU [1,10,12,4,11,1,16,1,0,1,17,5]),(qU [1,10,12,4,0,1,11,1,16,6]),(qU [1,10,12,4,11,1,16,4,0,1,20,2])] zXk (qC) zXk ?_
        simp only [aM]
        refine⟨aa 400 ?_,aa 400 ?_,aa 400 ?_,aa 400 ?_,aa 400 ?_⟩
        all_goals simp (disch:=omega) only [go_sem,seval]
        all_goals
         refine aE (i9 _ _ _ _) [] ?_
         refine aE (a_ (am x) { ac with kind:=5,tag:=⟨1,e.key,e.peer,(aL e x).mine,(aL e x).theirs⟩,nonce:=(aL e x).mine,give:=(aL e x).take }) [] ?_
         refine qG ?_
         refine aj (qI 0 7++qI 29 3++qI 36 1++qI 33 3++qI 38 1) (qC) _ zXg zF zF ?_
         simp (disch:=omega) only [go_sem,seval]
         try simp [zG,HalfD.cs,kZ,aL,bc,LetterD.cs,ac]
         try omega
       rw [hf (by rw [hok];first|(simp [h1,h2,h3,h4,h5,h6,h8,hi];done)|(simp [h1,h2,h3,h4,h5,h6,h8,hi];intros;omega))]
       refine qG ?_
       exact qF (qI 0 7++qI 10 7++qI 18 1)
      rw [hf (by rw [hok];first|(simp [h1,h2,h3,h4,h5,h6,hi];done)|(simp [h1,h2,h3,h4,h5,h6,hi];intros;omega))]
      refine qG ?_
      exact qF (qI 0 7++qI 10 7++qI 18 1)
     rw [hf (by rw [hok];first|(simp [h1,h2,h3,h4,h5,hi];done)|(simp [h1,h2,h3,h4,h5,hi];intros;omega))]
     refine qG ?_
     exact qF (qI 0 7++qI 10 7++qI 18 1)
    rw [hf (by rw [hok];first|(simp [h1,h2,h3,h4,hi];done)|(simp [h1,h2,h3,h4,hi];intros;omega))]
    refine qG ?_
    exact qF (qI 0 7++qI 10 7++qI 18 1)
   rw [hf (by rw [hok];first|(simp [h1,h2,h3,hi];done)|(simp [h1,h2,h3,hi];intros;omega))]
   refine qG ?_
   exact qF (qI 0 7++qI 10 7++qI 18 1)
  rw [hf (by rw [hok];first|(simp [h1,h2,hi];done)|(simp [h1,h2,hi];intros;omega))]
  refine qG ?_
  exact qF (qI 0 7++qI 10 7++qI 18 1)
 rw [hf (by rw [hok];first|(simp [h1,hi];done)|(simp [h1,hi];intros;omega))]
 refine qG ?_
 exact qF (qI 0 7++qI 10 7++qI 18 1)
theorem bT (n:Int) (hn:bN n) (ok:Bool) (l:List (List UInt8)) (hl:l.length<=100):aP 123 [.sc (.int .i64 n),.sc (.pt 0 0 0),.sc (.pt 1 0 0)] [some ⟨[[.bo ok]],1,4,true,false⟩,some ⟨[[.sl 2 0 l.length]],1,39,true,false⟩,some ⟨l.map aD,1,9,true,true⟩]
  (.tu []) [some ⟨[[.bo (ok && fv n)]],1,4,true,false⟩,some ⟨[[.sl 3 0 (l.length+1)]],1,39,true,false⟩,none,some ⟨(l++[dp n]).map aD,1,9,true,true⟩]:=by
 have e:[n].all fv=fv n:=by simp
 cases ok with
 |true=>
  refine qE func123 ntmps123 results123 fun E hE=>?_
  refine qK (cI [n] (by show 1<=1000000;decide)) (qI 3 1) ?_
  refine qD [0,1,2,3,4,5] ?_
  refine aE (aZ n hn) [] ?_
  refine qG ?_
  refine qJ (qI 0 3++qI 5 1) ?_
  simp [aD]
 |false=>
  refine qE func123 ntmps123 results123 fun E hE=>?_
  refine qD [0,1,2,3,4,5] ?_
  refine aE (aZ n hn) [] ?_
  refine qG ?_
  refine qJ (qI 0 3++qI 4 1) ?_
  simp [aD]
theorem Dx:((#[]:Array Operand).size=0)=True:=eq_true rfl
attribute [go_sem] Dx
theorem zu (b:Bool):bN (cond b 1 0):=by cases b<;>exact⟨by decide,by decide⟩
theorem Pj (b:Bool):fv (cond b 1 0)=true:=by cases b<;>decide
theorem GM (a:ActD) (hw:a.wf) (hk:1<=a.kind/\a.kind<=12):aP 78 [.ag a.cs] [] (.tu [.sc (.sl 0 0 (aU a).length),.ag (cq a).cs,.sc (.bo (aN a))]) [some ⟨(aU a).map aD,1,9,true,true⟩]:=by
 obtain⟨k,s,p,m,t,ad,le⟩:=a
 have hs:bN s:=hw.2.1
 have hp:bN p:=hw.2.2.1
 have hm:bN m:=hw.2.2.2.1
 have hi:bN ad.id:=hw.2.2.2.2.2.1
 have hd:bN ad.addr:=hw.2.2.2.2.2.2.1
 have hle:le.wf:=hw.2.2.2.2.2.2.2
 dsimp only at hk
 rcases (by omega:k=1\/k=2\/k=3\/k=4\/k=5\/k=6\/k=7\/k=8\/k=9\/k=10\/k=11\/k=12) with rfl|rfl|rfl|rfl|rfl|rfl|rfl|rfl|rfl|rfl|rfl|rfl
 ·refine au func78 zXk rfl fun E hE=>ab 400 ?_
  simp (disch:=omega) only [ntmps78,results78,go_sem,Nat.reduceEqDiff,Nat.reduceAdd,Nat.reduceSub,Int.reduceAdd,Int.reduceSub,Int.reduceToNat]
  refine ai (qC) (bT s hs (true) [] (by show 0<=100;omega)) (qI 4 1++qI 3 1++qO 1) qM zF (ab 400 ?_)
  simp (disch:=omega) only [go_sem,Nat.reduceEqDiff,Nat.reduceAdd,Nat.reduceSub,Int.reduceAdd,Int.reduceSub,Int.reduceToNat]
  refine ai (qC) (D9 t) [] qM zF (ab 400 ?_)
  simp (disch:=omega) only [go_sem,Nat.reduceEqDiff,Nat.reduceAdd,Nat.reduceSub,Int.reduceAdd,Int.reduceSub,Int.reduceToNat]
  split<;>rename_i hx<;>(try simp only [zR] at hx)<;>simp (disch:=omega) only [go_sem,Nat.reduceEqDiff,Nat.reduceAdd,Nat.reduceSub,Int.reduceAdd,Int.reduceSub,Int.reduceToNat,hx]<;>(try simp only [zQ] at hx)<;>try simp (disch:=omega) only [go_sem,Nat.reduceEqDiff,Nat.reduceAdd,Nat.reduceSub,Int.reduceAdd,Int.reduceSub,Int.reduceToNat]
  ·try simp (disch:=omega) only [go_sem,Nat.reduceEqDiff,Nat.reduceAdd,Nat.reduceSub,Int.reduceAdd,Int.reduceSub,Int.reduceToNat]
   refine aB [(2,4)] [[0,1,3,2,4,5],[0,1,3,4,2,5]] zXk (qC) zXk ?_
   simp only [aM]
   refine⟨aa 400 ?_,aa 400 ?_⟩
   ·simp (disch:=omega) only [go_sem]
    refine⟨qC,ab 400 ?_⟩
    try simp (disch:=omega) only [go_sem,Nat.reduceEqDiff,Nat.reduceAdd,Nat.reduceSub,Int.reduceAdd,Int.reduceSub,Int.reduceToNat]
    refine aj (qI 7 1) (qC) _ zXg zF zF ?_
    simp (disch:=omega) only [go_sem,Nat.reduceEqDiff,Nat.reduceAdd,Nat.reduceSub,Int.reduceAdd,Int.reduceSub,Int.reduceToNat]
    simp [cq,ah,ac,aU,cH,aN,aD,pD,hx]
   simp (disch:=omega) only [go_sem]
   refine⟨qC,ab 400 ?_⟩
   try simp (disch:=omega) only [go_sem,Nat.reduceEqDiff,Nat.reduceAdd,Nat.reduceSub,Int.reduceAdd,Int.reduceSub,Int.reduceToNat]
   refine aj (qI 7 1) (qC) _ zXg zF zF ?_
   simp (disch:=omega) only [go_sem,Nat.reduceEqDiff,Nat.reduceAdd,Nat.reduceSub,Int.reduceAdd,Int.reduceSub,Int.reduceToNat]
   simp [cq,ah,ac,aU,cH,aN,aD,pD,hx]
  try simp (disch:=omega) only [go_sem,Nat.reduceEqDiff,Nat.reduceAdd,Nat.reduceSub,Int.reduceAdd,Int.reduceSub,Int.reduceToNat]
  refine aB [(2,4)] [[0,1,3,2,4,5],[0,1,3,4,2,5]] zXk (qC) zXk ?_
  simp only [aM]
  refine⟨aa 400 ?_,aa 400 ?_⟩
  ·simp (disch:=omega) only [go_sem]
   refine⟨qC,ab 400 ?_⟩
   try simp (disch:=omega) only [go_sem,Nat.reduceEqDiff,Nat.reduceAdd,Nat.reduceSub,Int.reduceAdd,Int.reduceSub,Int.reduceToNat]
   refine aj (qI 7 1) (qC) _ zXg zF zF ?_
   simp (disch:=omega) only [go_sem,Nat.reduceEqDiff,Nat.reduceAdd,Nat.reduceSub,Int.reduceAdd,Int.reduceSub,Int.reduceToNat]
   simp [cq,ah,ac,aU,cH,aN,aD,pD,hx]
  simp (disch:=omega) only [go_sem]
  refine⟨qC,ab 400 ?_⟩
  try simp (disch:=omega) only [go_sem,Nat.reduceEqDiff,Nat.reduceAdd,Nat.reduceSub,Int.reduceAdd,Int.reduceSub,Int.reduceToNat]
  refine aj (qI 7 1) (qC) _ zXg zF zF ?_
  simp (disch:=omega) only [go_sem,Nat.reduceEqDiff,Nat.reduceAdd,Nat.reduceSub,Int.reduceAdd,Int.reduceSub,Int.reduceToNat]
  simp [cq,ah,ac,aU,cH,aN,aD,pD,hx]
 ·refine au func78 zXk rfl fun E hE=>ab 400 ?_
  simp (disch:=omega) only [ntmps78,results78,go_sem,Nat.reduceEqDiff,Nat.reduceAdd,Nat.reduceSub,Int.reduceAdd,Int.reduceSub,Int.reduceToNat]
  refine ai (qC) (bT s hs (true) [] (by show 0<=100;omega)) (qI 4 1++qI 3 1++qO 1) qM zF (ab 400 ?_)
  simp (disch:=omega) only [go_sem,Nat.reduceEqDiff,Nat.reduceAdd,Nat.reduceSub,Int.reduceAdd,Int.reduceSub,Int.reduceToNat]
  refine ai (qC) (bT m hm (true && fv s) [dp s] (by show 1<=100;omega)) (qI 4 1++qI 3 1++qI 5 1) qM zF (ab 400 ?_)
  simp (disch:=omega) only [go_sem,Nat.reduceEqDiff,Nat.reduceAdd,Nat.reduceSub,Int.reduceAdd,Int.reduceSub,Int.reduceToNat]
  refine aB [(2,4)] [[0,1,3,2,4,5],[0,1,3,4,2,5]] zXk (qC) zXk ?_
  simp only [aM]
  refine⟨aa 400 ?_,aa 400 ?_⟩
  ·simp (disch:=omega) only [go_sem]
   refine⟨qC,ab 400 ?_⟩
   try simp (disch:=omega) only [go_sem,Nat.reduceEqDiff,Nat.reduceAdd,Nat.reduceSub,Int.reduceAdd,Int.reduceSub,Int.reduceToNat]
   refine aj (qI 6 1) (qC) _ zXg zF zF ?_
   simp (disch:=omega) only [go_sem,Nat.reduceEqDiff,Nat.reduceAdd,Nat.reduceSub,Int.reduceAdd,Int.reduceSub,Int.reduceToNat]
   simp [cq,ah,ac,aU,cH,aN,aD]
  simp (disch:=omega) only [go_sem]
  refine⟨qC,ab 400 ?_⟩
  try simp (disch:=omega) only [go_sem,Nat.reduceEqDiff,Nat.reduceAdd,Nat.reduceSub,Int.reduceAdd,Int.reduceSub,Int.reduceToNat]
  refine aj (qI 6 1) (qC) _ zXg zF zF ?_
  simp (disch:=omega) only [go_sem,Nat.reduceEqDiff,Nat.reduceAdd,Nat.reduceSub,Int.reduceAdd,Int.reduceSub,Int.reduceToNat]
  simp [cq,ah,ac,aU,cH,aN,aD]
 ·refine au func78 zXk rfl fun E hE=>ab 400 ?_
  simp (disch:=omega) only [ntmps78,results78,go_sem,Nat.reduceEqDiff,Nat.reduceAdd,Nat.reduceSub,Int.reduceAdd,Int.reduceSub,Int.reduceToNat]
  refine ai (qC) (bT s hs (true) [] (by show 0<=100;omega)) (qI 4 1++qI 3 1++qO 1) qM zF (ab 400 ?_)
  simp (disch:=omega) only [go_sem,Nat.reduceEqDiff,Nat.reduceAdd,Nat.reduceSub,Int.reduceAdd,Int.reduceSub,Int.reduceToNat]
  refine aB [(2,4)] [[0,1,3,2,4,5],[0,1,3,4,2,5]] zXk (qC) zXk ?_
  simp only [aM]
  refine⟨aa 400 ?_,aa 400 ?_⟩
  ·simp (disch:=omega) only [go_sem]
   refine⟨qC,ab 400 ?_⟩
   try simp (disch:=omega) only [go_sem,Nat.reduceEqDiff,Nat.reduceAdd,Nat.reduceSub,Int.reduceAdd,Int.reduceSub,Int.reduceToNat]
   refine aj (qI 5 1) (qC) _ zXg zF zF ?_
   simp (disch:=omega) only [go_sem,Nat.reduceEqDiff,Nat.reduceAdd,Nat.reduceSub,Int.reduceAdd,Int.reduceSub,Int.reduceToNat]
   simp [cq,ah,ac,aU,cH,aN,aD]
  simp (disch:=omega) only [go_sem]
  refine⟨qC,ab 400 ?_⟩
  try simp (disch:=omega) only [go_sem,Nat.reduceEqDiff,Nat.reduceAdd,Nat.reduceSub,Int.reduceAdd,Int.reduceSub,Int.reduceToNat]
  refine aj (qI 5 1) (qC) _ zXg zF zF ?_
  simp (disch:=omega) only [go_sem,Nat.reduceEqDiff,Nat.reduceAdd,Nat.reduceSub,Int.reduceAdd,Int.reduceSub,Int.reduceToNat]
  simp [cq,ah,ac,aU,cH,aN,aD]
 ·refine au func78 zXk rfl fun E hE=>ab 400 ?_
  simp (disch:=omega) only [ntmps78,results78,go_sem,Nat.reduceEqDiff,Nat.reduceAdd,Nat.reduceSub,Int.reduceAdd,Int.reduceSub,Int.reduceToNat]
  refine ai (qC) (bT s hs (true) [] (by show 0<=100;omega)) (qI 4 1++qI 3 1++qO 1) qM zF (ab 400 ?_)
  simp (disch:=omega) only [go_sem,Nat.reduceEqDiff,Nat.reduceAdd,Nat.reduceSub,Int.reduceAdd,Int.reduceSub,Int.reduceToNat]
  refine aB [(2,4)] [[0,1,3,2,4,5],[0,1,3,4,2,5]] zXk (qC) zXk ?_
  simp only [aM]
  refine⟨aa 400 ?_,aa 400 ?_⟩
  ·simp (disch:=omega) only [go_sem]
   refine⟨qC,ab 400 ?_⟩
   try simp (disch:=omega) only [go_sem,Nat.reduceEqDiff,Nat.reduceAdd,Nat.reduceSub,Int.reduceAdd,Int.reduceSub,Int.reduceToNat]
   refine aj (qI 5 1) (qC) _ zXg zF zF ?_
   simp (disch:=omega) only [go_sem,Nat.reduceEqDiff,Nat.reduceAdd,Nat.reduceSub,Int.reduceAdd,Int.reduceSub,Int.reduceToNat]
   simp [cq,ah,ac,aU,cH,aN,aD]
  simp (disch:=omega) only [go_sem]
  refine⟨qC,ab 400 ?_⟩
  try simp (disch:=omega) only [go_sem,Nat.reduceEqDiff,Nat.reduceAdd,Nat.reduceSub,Int.reduceAdd,Int.reduceSub,Int.reduceToNat]
  refine aj (qI 5 1) (qC) _ zXg zF zF ?_
  simp (disch:=omega) only [go_sem,Nat.reduceEqDiff,Nat.reduceAdd,Nat.reduceSub,Int.reduceAdd,Int.reduceSub,Int.reduceToNat]
  simp [cq,ah,ac,aU,cH,aN,aD]
 ·refine au func78 zXk rfl fun E hE=>ab 400 ?_
  simp (disch:=omega) only [ntmps78,results78,go_sem,Nat.reduceEqDiff,Nat.reduceAdd,Nat.reduceSub,Int.reduceAdd,Int.reduceSub,Int.reduceToNat]
  refine ai (qC) (bT s hs (true) [] (by show 0<=100;omega)) (qI 4 1++qI 3 1++qO 1) qM zF (ab 400 ?_)
  simp (disch:=omega) only [go_sem,Nat.reduceEqDiff,Nat.reduceAdd,Nat.reduceSub,Int.reduceAdd,Int.reduceSub,Int.reduceToNat]
  refine ai (qC) (bT ad.id hi (true && fv s) [dp s] (by show 1<=100;omega)) (qI 4 1++qI 3 1++qI 5 1) qM zF (ab 400 ?_)
  simp (disch:=omega) only [go_sem,Nat.reduceEqDiff,Nat.reduceAdd,Nat.reduceSub,Int.reduceAdd,Int.reduceSub,Int.reduceToNat]
  refine ai (qC) (bT ad.addr hd (true && fv s && fv ad.id) [dp s,dp ad.id] (by show 2<=100;omega)) (qI 4 1++qI 3 1++qI 6 1) qM zF (ab 400 ?_)
  simp (disch:=omega) only [go_sem,Nat.reduceEqDiff,Nat.reduceAdd,Nat.reduceSub,Int.reduceAdd,Int.reduceSub,Int.reduceToNat]
  refine ai (qC) (D8 ad.spare) [] qM zF (ab 400 ?_)
  simp (disch:=omega) only [go_sem,Nat.reduceEqDiff,Nat.reduceAdd,Nat.reduceSub,Int.reduceAdd,Int.reduceSub,Int.reduceToNat]
  refine ai (qC) (bT (cond ad.spare 1 0) (zu _) (true && fv s && fv ad.id && fv ad.addr) [dp s,dp ad.id,dp ad.addr] (by show 3<=100;omega)) (qI 4 1++qI 3 1++qI 7 1) qM zF (ab 400 ?_)
  simp (disch:=omega) only [go_sem,Nat.reduceEqDiff,Nat.reduceAdd,Nat.reduceSub,Int.reduceAdd,Int.reduceSub,Int.reduceToNat]
  refine aB [(2,4)] [[0,1,3,2,4,5],[0,1,3,4,2,5]] zXk (qC) zXk ?_
  simp only [aM]
  refine⟨aa 400 ?_,aa 400 ?_⟩
  ·simp (disch:=omega) only [go_sem]
   refine⟨qC,ab 400 ?_⟩
   try simp (disch:=omega) only [go_sem,Nat.reduceEqDiff,Nat.reduceAdd,Nat.reduceSub,Int.reduceAdd,Int.reduceSub,Int.reduceToNat]
   refine aj (qI 8 1) (qC) _ zXg zF zF ?_
   simp (disch:=omega) only [go_sem,Nat.reduceEqDiff,Nat.reduceAdd,Nat.reduceSub,Int.reduceAdd,Int.reduceSub,Int.reduceToNat]
   simp [cq,ah,ac,aU,cH,aN,aD,Pj,P_]
  simp (disch:=omega) only [go_sem]
  refine⟨qC,ab 400 ?_⟩
  try simp (disch:=omega) only [go_sem,Nat.reduceEqDiff,Nat.reduceAdd,Nat.reduceSub,Int.reduceAdd,Int.reduceSub,Int.reduceToNat]
  refine aj (qI 8 1) (qC) _ zXg zF zF ?_
  simp (disch:=omega) only [go_sem,Nat.reduceEqDiff,Nat.reduceAdd,Nat.reduceSub,Int.reduceAdd,Int.reduceSub,Int.reduceToNat]
  simp [cq,ah,ac,aU,cH,aN,aD,Pj,P_]
 ·refine au func78 zXk rfl fun E hE=>ab 400 ?_
  simp (disch:=omega) only [ntmps78,results78,go_sem,Nat.reduceEqDiff,Nat.reduceAdd,Nat.reduceSub,Int.reduceAdd,Int.reduceSub,Int.reduceToNat]
  refine ai (qC) (bT s hs (true) [] (by show 0<=100;omega)) (qI 4 1++qI 3 1++qO 1) qM zF (ab 400 ?_)
  simp (disch:=omega) only [go_sem,Nat.reduceEqDiff,Nat.reduceAdd,Nat.reduceSub,Int.reduceAdd,Int.reduceSub,Int.reduceToNat]
  refine ai (qC) (bT p hp (true && fv s) [dp s] (by show 1<=100;omega)) (qI 4 1++qI 3 1++qI 5 1) qM zF (ab 400 ?_)
  simp (disch:=omega) only [go_sem,Nat.reduceEqDiff,Nat.reduceAdd,Nat.reduceSub,Int.reduceAdd,Int.reduceSub,Int.reduceToNat]
  refine aB [(2,4)] [[0,1,3,2,4,5],[0,1,3,4,2,5]] zXk (qC) zXk ?_
  simp only [aM]
  refine⟨aa 400 ?_,aa 400 ?_⟩
  ·simp (disch:=omega) only [go_sem]
   refine⟨qC,ab 400 ?_⟩
   try simp (disch:=omega) only [go_sem,Nat.reduceEqDiff,Nat.reduceAdd,Nat.reduceSub,Int.reduceAdd,Int.reduceSub,Int.reduceToNat]
   refine aj (qI 6 1) (qC) _ zXg zF zF ?_
   simp (disch:=omega) only [go_sem,Nat.reduceEqDiff,Nat.reduceAdd,Nat.reduceSub,Int.reduceAdd,Int.reduceSub,Int.reduceToNat]
   simp [cq,ah,ac,aU,cH,aN,aD]
  simp (disch:=omega) only [go_sem]
  refine⟨qC,ab 400 ?_⟩
  try simp (disch:=omega) only [go_sem,Nat.reduceEqDiff,Nat.reduceAdd,Nat.reduceSub,Int.reduceAdd,Int.reduceSub,Int.reduceToNat]
  refine aj (qI 6 1) (qC) _ zXg zF zF ?_
  simp (disch:=omega) only [go_sem,Nat.reduceEqDiff,Nat.reduceAdd,Nat.reduceSub,Int.reduceAdd,Int.reduceSub,Int.reduceToNat]
  simp [cq,ah,ac,aU,cH,aN,aD]
 ·refine au func78 zXk rfl fun E hE=>ab 400 ?_
  simp (disch:=omega) only [ntmps78,results78,go_sem,Nat.reduceEqDiff,Nat.reduceAdd,Nat.reduceSub,Int.reduceAdd,Int.reduceSub,Int.reduceToNat]
  refine ai (qC) (bT s hs (true) [] (by show 0<=100;omega)) (qI 4 1++qI 3 1++qO 1) qM zF (ab 400 ?_)
  simp (disch:=omega) only [go_sem,Nat.reduceEqDiff,Nat.reduceAdd,Nat.reduceSub,Int.reduceAdd,Int.reduceSub,Int.reduceToNat]
  refine ai (qC) (bT p hp (true && fv s) [dp s] (by show 1<=100;omega)) (qI 4 1++qI 3 1++qI 5 1) qM zF (ab 400 ?_)
  simp (disch:=omega) only [go_sem,Nat.reduceEqDiff,Nat.reduceAdd,Nat.reduceSub,Int.reduceAdd,Int.reduceSub,Int.reduceToNat]
  refine aB [(2,4)] [[0,1,3,2,4,5],[0,1,3,4,2,5]] zXk (qC) zXk ?_
  simp only [aM]
  refine⟨aa 400 ?_,aa 400 ?_⟩
  ·simp (disch:=omega) only [go_sem]
   refine⟨qC,ab 400 ?_⟩
   try simp (disch:=omega) only [go_sem,Nat.reduceEqDiff,Nat.reduceAdd,Nat.reduceSub,Int.reduceAdd,Int.reduceSub,Int.reduceToNat]
   refine aj (qI 6 1) (qC) _ zXg zF zF ?_
   simp (disch:=omega) only [go_sem,Nat.reduceEqDiff,Nat.reduceAdd,Nat.reduceSub,Int.reduceAdd,Int.reduceSub,Int.reduceToNat]
   simp [cq,ah,ac,aU,cH,aN,aD]
  simp (disch:=omega) only [go_sem]
  refine⟨qC,ab 400 ?_⟩
  try simp (disch:=omega) only [go_sem,Nat.reduceEqDiff,Nat.reduceAdd,Nat.reduceSub,Int.reduceAdd,Int.reduceSub,Int.reduceToNat]
  refine aj (qI 6 1) (qC) _ zXg zF zF ?_
  simp (disch:=omega) only [go_sem,Nat.reduceEqDiff,Nat.reduceAdd,Nat.reduceSub,Int.reduceAdd,Int.reduceSub,Int.reduceToNat]
  simp [cq,ah,ac,aU,cH,aN,aD]
 ·refine au func78 zXk rfl fun E hE=>ab 400 ?_
  simp (disch:=omega) only [ntmps78,results78,go_sem,Nat.reduceEqDiff,Nat.reduceAdd,Nat.reduceSub,Int.reduceAdd,Int.reduceSub,Int.reduceToNat]
  refine ai (qC) (bT p hp (true) [] (by show 0<=100;omega)) (qI 4 1++qI 3 1++qO 1) qM zF (ab 400 ?_)
  simp (disch:=omega) only [go_sem,Nat.reduceEqDiff,Nat.reduceAdd,Nat.reduceSub,Int.reduceAdd,Int.reduceSub,Int.reduceToNat]
  refine aB [(2,4)] [[0,1,3,2,4,5],[0,1,3,4,2,5]] zXk (qC) zXk ?_
  simp only [aM]
  refine⟨aa 400 ?_,aa 400 ?_⟩
  ·simp (disch:=omega) only [go_sem]
   refine⟨qC,ab 400 ?_⟩
   try simp (disch:=omega) only [go_sem,Nat.reduceEqDiff,Nat.reduceAdd,Nat.reduceSub,Int.reduceAdd,Int.reduceSub,Int.reduceToNat]
   refine aj (qI 5 1) (qC) _ zXg zF zF ?_
   simp (disch:=omega) only [go_sem,Nat.reduceEqDiff,Nat.reduceAdd,Nat.reduceSub,Int.reduceAdd,Int.reduceSub,Int.reduceToNat]
   simp [cq,ah,ac,aU,cH,aN,aD]
  simp (disch:=omega) only [go_sem]
  refine⟨qC,ab 400 ?_⟩
  try simp (disch:=omega) only [go_sem,Nat.reduceEqDiff,Nat.reduceAdd,Nat.reduceSub,Int.reduceAdd,Int.reduceSub,Int.reduceToNat]
  refine aj (qI 5 1) (qC) _ zXg zF zF ?_
  simp (disch:=omega) only [go_sem,Nat.reduceEqDiff,Nat.reduceAdd,Nat.reduceSub,Int.reduceAdd,Int.reduceSub,Int.reduceToNat]
  simp [cq,ah,ac,aU,cH,aN,aD]
 ·refine au func78 zXk rfl fun E hE=>ab 400 ?_
  simp (disch:=omega) only [ntmps78,results78,go_sem,Nat.reduceEqDiff,Nat.reduceAdd,Nat.reduceSub,Int.reduceAdd,Int.reduceSub,Int.reduceToNat]
  refine ai (qC) (bT p hp (true) [] (by show 0<=100;omega)) (qI 4 1++qI 3 1++qO 1) qM zF (ab 400 ?_)
  simp (disch:=omega) only [go_sem,Nat.reduceEqDiff,Nat.reduceAdd,Nat.reduceSub,Int.reduceAdd,Int.reduceSub,Int.reduceToNat]
  refine aB [(2,4)] [[0,1,3,2,4,5],[0,1,3,4,2,5]] zXk (qC) zXk ?_
  simp only [aM]
  refine⟨aa 400 ?_,aa 400 ?_⟩
  ·simp (disch:=omega) only [go_sem]
   refine⟨qC,ab 400 ?_⟩
   try simp (disch:=omega) only [go_sem,Nat.reduceEqDiff,Nat.reduceAdd,Nat.reduceSub,Int.reduceAdd,Int.reduceSub,Int.reduceToNat]
   refine aj (qI 5 1) (qC) _ zXg zF zF ?_
   simp (disch:=omega) only [go_sem,Nat.reduceEqDiff,Nat.reduceAdd,Nat.reduceSub,Int.reduceAdd,Int.reduceSub,Int.reduceToNat]
   simp [cq,ah,ac,aU,cH,aN,aD]
  simp (disch:=omega) only [go_sem]
  refine⟨qC,ab 400 ?_⟩
  try simp (disch:=omega) only [go_sem,Nat.reduceEqDiff,Nat.reduceAdd,Nat.reduceSub,Int.reduceAdd,Int.reduceSub,Int.reduceToNat]
  refine aj (qI 5 1) (qC) _ zXg zF zF ?_
  simp (disch:=omega) only [go_sem,Nat.reduceEqDiff,Nat.reduceAdd,Nat.reduceSub,Int.reduceAdd,Int.reduceSub,Int.reduceToNat]
  simp [cq,ah,ac,aU,cH,aN,aD]
 ·refine au func78 zXk rfl fun E hE=>ab 400 ?_
  simp (disch:=omega) only [ntmps78,results78,go_sem,Nat.reduceEqDiff,Nat.reduceAdd,Nat.reduceSub,Int.reduceAdd,Int.reduceSub,Int.reduceToNat]
  refine ai (qC) (bT p hp (true) [] (by show 0<=100;omega)) (qI 4 1++qI 3 1++qO 1) qM zF (ab 400 ?_)
  simp (disch:=omega) only [go_sem,Nat.reduceEqDiff,Nat.reduceAdd,Nat.reduceSub,Int.reduceAdd,Int.reduceSub,Int.reduceToNat]
  refine aB [(2,4)] [[0,1,3,2,4,5],[0,1,3,4,2,5]] zXk (qC) zXk ?_
  simp only [aM]
  refine⟨aa 400 ?_,aa 400 ?_⟩
  ·simp (disch:=omega) only [go_sem]
   refine⟨qC,ab 400 ?_⟩
   try simp (disch:=omega) only [go_sem,Nat.reduceEqDiff,Nat.reduceAdd,Nat.reduceSub,Int.reduceAdd,Int.reduceSub,Int.reduceToNat]
   refine aj (qI 5 1) (qC) _ zXg zF zF ?_
   simp (disch:=omega) only [go_sem,Nat.reduceEqDiff,Nat.reduceAdd,Nat.reduceSub,Int.reduceAdd,Int.reduceSub,Int.reduceToNat]
   simp [cq,ah,ac,aU,cH,aN,aD]
  simp (disch:=omega) only [go_sem]
  refine⟨qC,ab 400 ?_⟩
  try simp (disch:=omega) only [go_sem,Nat.reduceEqDiff,Nat.reduceAdd,Nat.reduceSub,Int.reduceAdd,Int.reduceSub,Int.reduceToNat]
  refine aj (qI 5 1) (qC) _ zXg zF zF ?_
  simp (disch:=omega) only [go_sem,Nat.reduceEqDiff,Nat.reduceAdd,Nat.reduceSub,Int.reduceAdd,Int.reduceSub,Int.reduceToNat]
  simp [cq,ah,ac,aU,cH,aN,aD]
 ·refine au func78 zXk rfl fun E hE=>ab 400 ?_
  simp (disch:=omega) only [ntmps78,results78,go_sem,Nat.reduceEqDiff,Nat.reduceAdd,Nat.reduceSub,Int.reduceAdd,Int.reduceSub,Int.reduceToNat]
  refine ai (qC) (nz le hle) [] qM zF (ab 400 ?_)
  simp (disch:=omega) only [go_sem,Nat.reduceEqDiff,Nat.reduceAdd,Nat.reduceSub,Int.reduceAdd,Int.reduceSub,Int.reduceToNat]
  refine aB [(2,4)] [[0,1,3,2,4,5],[0,1,3,4,2,5]] zXk (qC) zXk ?_
  simp only [aM]
  refine⟨aa 400 ?_,aa 400 ?_⟩
  ·simp (disch:=omega) only [go_sem]
   refine⟨qC,ab 400 ?_⟩
   try simp (disch:=omega) only [go_sem,Nat.reduceEqDiff,Nat.reduceAdd,Nat.reduceSub,Int.reduceAdd,Int.reduceSub,Int.reduceToNat]
   refine aj (qI 6 1) (qC) _ zXg zF zF ?_
   simp (disch:=omega) only [go_sem,Nat.reduceEqDiff,Nat.reduceAdd,Nat.reduceSub,Int.reduceAdd,Int.reduceSub,Int.reduceToNat]
   simp [cq,ah,ac,aU,cH,aN,aD]
  simp (disch:=omega) only [go_sem]
  refine⟨qC,ab 400 ?_⟩
  try simp (disch:=omega) only [go_sem,Nat.reduceEqDiff,Nat.reduceAdd,Nat.reduceSub,Int.reduceAdd,Int.reduceSub,Int.reduceToNat]
  refine aj (qI 6 1) (qC) _ zXg zF zF ?_
  simp (disch:=omega) only [go_sem,Nat.reduceEqDiff,Nat.reduceAdd,Nat.reduceSub,Int.reduceAdd,Int.reduceSub,Int.reduceToNat]
  simp [cq,ah,ac,aU,cH,aN,aD]
 refine au func78 zXk rfl fun E hE=>ab 400 ?_
 simp (disch:=omega) only [ntmps78,results78,go_sem,Nat.reduceEqDiff,Nat.reduceAdd,Nat.reduceSub,Int.reduceAdd,Int.reduceSub,Int.reduceToNat]
 refine ai (qC) (bT p hp (true) [] (by show 0<=100;omega)) (qI 4 1++qI 3 1++qO 1) qM zF (ab 400 ?_)
 simp (disch:=omega) only [go_sem,Nat.reduceEqDiff,Nat.reduceAdd,Nat.reduceSub,Int.reduceAdd,Int.reduceSub,Int.reduceToNat]
 refine aB [(2,4)] [[0,1,3,2,4,5],[0,1,3,4,2,5]] zXk (qC) zXk ?_
 simp only [aM]
 refine⟨aa 400 ?_,aa 400 ?_⟩
 ·simp (disch:=omega) only [go_sem]
  refine⟨qC,ab 400 ?_⟩
  try simp (disch:=omega) only [go_sem,Nat.reduceEqDiff,Nat.reduceAdd,Nat.reduceSub,Int.reduceAdd,Int.reduceSub,Int.reduceToNat]
  refine aj (qI 5 1) (qC) _ zXg zF zF ?_
  simp (disch:=omega) only [go_sem,Nat.reduceEqDiff,Nat.reduceAdd,Nat.reduceSub,Int.reduceAdd,Int.reduceSub,Int.reduceToNat]
  simp [cq,ah,ac,aU,cH,aN,aD]
 simp (disch:=omega) only [go_sem]
 refine⟨qC,ab 400 ?_⟩
 try simp (disch:=omega) only [go_sem,Nat.reduceEqDiff,Nat.reduceAdd,Nat.reduceSub,Int.reduceAdd,Int.reduceSub,Int.reduceToNat]
 refine aj (qI 5 1) (qC) _ zXg zF zF ?_
 simp (disch:=omega) only [go_sem,Nat.reduceEqDiff,Nat.reduceAdd,Nat.reduceSub,Int.reduceAdd,Int.reduceSub,Int.reduceToNat]
 simp [cq,ah,ac,aU,cH,aN,aD]
end
end Go.Proofs.YtdiiopjaebnmfaaGreatDoor
