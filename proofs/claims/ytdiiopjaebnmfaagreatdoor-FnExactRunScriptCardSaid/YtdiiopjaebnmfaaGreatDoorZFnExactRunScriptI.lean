/- Lemmas of this claim. -/
import Derived.Test.YtdiiopjaebnmfaaGreatDoorZFnExactRunScriptF
import Derived.Test.YtdiiopjaebnmfaaGreatDoorZFnExactRunScriptH
set_option maxHeartbeats 16000000
set_option maxRecDepth 100000
set_option linter.unusedVariables false
set_option linter.unusedSimpArgs false
namespace Go.Proofs.YtdiiopjaebnmfaaGreatDoor
open _root_.Go.Proofs.Tryz
open _root_.Bool renaming and_eq_true->zk
open _root_.List renaming getD_eq_getElem?_getD->zG,getElem?_eq_getElem->P6,length_set->P8,append_nil->P9,map_append->P_,map_cons->Qa,map_nil->Qc
open _root_.Nat renaming zero_le->P7,add_zero->Qb
section
open Go.RowKit
theorem m9 {l:List AddrD} (h:cd l=true):∀ (d i:Nat) (hj:i+d+1 < l.length),l[i].id < l[i+d+1].id
 |0,i,hj=>by
  simp only [cd,zk] at h
  have:=jS h.2 (show i+1 < l.length by omega)
  simp only [ig,zk,Bool.or_eq_true,beq_iff_eq,decide_eq_true_eq,Nat.add_sub_cancel] at this
  have h1:=this.1.2
  rw [LH,LH,zG,zG,P6 (show i < l.length by omega),P6 (show i+1 < l.length by omega)] at h1
  simp only [Option.getD_some] at h1
  simp only [Qb]
  omega
 |d+1,i,hj=>by
  have h1:=m9 h 0 i zO
  have h2:=m9 h d (i+1) zO
  simp only [Qb] at h1
  have e:i+1+d+1=i+(d+1)+1:=zO
  simp only [e] at h2
  omega
theorem EY {l:List AddrD} (h:cd l=true) {i j:Nat} (hi:i < l.length) (hj:j < l.length) (he:l[i].id=l[j].id):i=j:=by
 rcases Nat.lt_trichotomy i j with hl|hl|hl
 ·have:=m9 h (j - i - 1) i zO
  have e:i+(j - i - 1)+1=j:=zO
  simp only [e] at this
  omega
 ·exact hl
 have:=m9 h (i - j - 1) j zO
 have e:j+(i - j - 1)+1=i:=zO
 simp only [e] at this
 omega
theorem Gk {l:List AddrD} (h:cd l=true) {a:AddrD} (ha:a∈l):∃ j:Nat,∃ hj:j < l.length,bs l a.id=(j:Int)/\l[j]=a:=by
 obtain⟨i,hi,rfl⟩:=List.getElem_of_mem ha
 rcases sh (p:=fun b:AddrD=>b.id == l[i].id) (l:=l) with h1|⟨h1,h2⟩
 ·exfalso
  have hx:∀ (m:List AddrD) (k:Nat) (b:AddrD),b∈m->(b.id == l[i].id)=true->eD (fun b:AddrD=>b.id == l[i].id) k m≠ -1:=by
   intro m
   induction m with
   |nil=>intro k b hb;cases hb
   |cons c m ih=>
    intro k b hb hp
    rw [eD]
    split
    ·omega
    rename_i hc
    rcases List.mem_cons.1 hb with rfl|hb
    ·exact absurd hp hc
    exact ih (k+1) b hb hp
  exact hx l 0 l[i] ha zP h1
 obtain⟨n,hn⟩:=Int.eq_ofNat_of_zero_le h1
 obtain⟨hl,hp⟩:=xN hn
 have hid:l[n].id=l[i].id:=by simpa using hp
 obtain rfl:=EY h hl hi hid
 exact⟨n,hi,hn,rfl⟩
def oJ (l:List AddrD):List AddrD:=l.filter fun a=> !a.told
theorem O8 {e:EndD} (h:IU e=false):df e=[]:=if_neg (by simp [h])
theorem O9 {e:EndD} {k:Nat} (h:IU e=true) (hk:(jm e.subs).headD 0=k) (hl:k < e.subs.length):df e=(oJ e.own).map (ys e e.subs[k]):=by rw [df,if_pos h,hk,bQ hl];rfl
theorem Bw {l:List Nat} (h:0 < l.length):l.headD 0=l[0]:=by cases l with|nil=>simp at h|cons a r=>rfl
theorem Ak (l:List AddrD) (hl:l.length<=1048576):aP 264 [.sc (.sl 0 0 l.length)] [some ⟨l.map AddrD.cs,4,32,false,true⟩] (.sc (.sl 1 0 (oJ l).length)) [some ⟨l.map AddrD.cs,4,32,false,true⟩,some ⟨((oJ l).map AddrD.id).map bh,1,3,true,true⟩]:=by
 obtain⟨R,hR⟩:∃ R,R=oJ l:=⟨_,rfl⟩
 rw [<-hR]
 rw [oJ] at hR
 refine qE func264 ntmps264 results264 fun E hE=>?_
 refine fJ 1 hE (fun s (x:Nat×List AddrD)=>s.at (qU [5,21]) [(4,.sc (.int .i64 (x.1:Nat))),(3,.sc (.sl 1 0 x.2.length))] ((s.hp.take 1)++[some ⟨(x.2.map AddrD.id).map bh,1,3,true,true⟩])) (fun (x:Nat×List AddrD)=>x.1<=l.length/\x.2.length<=x.1/\R=x.2++(l.drop x.1).filter (fun a=> !a.told)) (fun (x:Nat×List AddrD)=>l.length - x.1) (0,[]) (qI 0 2) (⟨P7 _,P7 _,hR⟩) fun x hx N hN=>?_
 obtain⟨k,acc⟩:=x
 obtain⟨h1,h2,h3⟩:=hx
 dsimp only at h1 h2 h3
 refine qR ?_
 refine qB (fun h=>?_) fun h=>?_
 ·rw [kI h] at h3
  have hg:=aC (enc:=AddrD.cs) h
  try simp (disch:=omega) only [go_sem,seval,hg]
  cases ht:l[k].told with
  |true=>
   rw [if_neg (by simp [ht])] at h3
   try simp (disch:=omega) only [go_sem,seval,ht]
   exact qN hN (k+1,acc) (qI 0 2) (by (try dsimp only);exact⟨zO,zO,h3⟩)
  |false=>
   rw [if_pos (by simp [ht])] at h3
   try simp (disch:=omega) only [go_sem,seval,ht,hg]
   refine⟨qC,hN _ (k+1,acc++[l[k]]) (qI 0 1++qI 3 1) (by (try dsimp only);exact⟨zO,by simp;omega,by simpa using h3⟩) (by (try dsimp only);omega) (aw zF zF ?_)⟩
   refine qX ?_
   simp [bh]
 rw [ml zO,P9] at h3
 subst h3
 exact qF (qI 0 2)
theorem EZ {e:EndD} (h:aq e=true):cd e.own=true:=by
 simp only [aq,zk] at h
 simp_all
theorem yC (e:EndD) (hs:Small e):aP 190 [.ag (e.cs 0)] (e.hp false) (.sc (.sl 7 0 (df e).length)) (e.hp false++[some ⟨(df e).map LetterD.cs,19,36,true,true⟩]):=by
 have hN:=ue e (by have:=hs.subs;omega)
 have hK:=(qH (bA e))
 have hown:=hs.own
 have hf:=O8 (e:=e)
 have ht:= @O9 e
 have hok:IU e=(aq e && decide (e.state=2) && !decide ((jm e.subs).length=0)):=rfl
 obtain⟨R,hR⟩:∃ R,R=df e:=⟨_,rfl⟩
 rw [<-hR] at hf ht
 rw [<-hR]
 clear hR
 refine ix func190 ntmps190 results190 fun E hE=>?_
 refine qK (hN) (qI 0 7) ?_
 refine qK (hK) (qI 0 7) ?_
 refine qB (fun h1=>?_) fun h1=>?_
 ·refine qB (fun h2=>?_) fun h2=>?_
  ·by_cases h3:(jm e.subs).length=0
   ·rw [hf (by rw [hok];simp [h3])]
    try simp (disch:=omega) only [go_sem,seval,h3]
    exact cP (qI 0 7++qO 1)
   have hpos:0 < (jm e.subs).length:=zO
   have hk:=t7 hpos
   have hR:=ht (by rw [hok];simp [h1,h2,h3]) (Bw hpos) hk
   have hgo:=aC (enc:=ll) hpos
   generalize hk0:(jm e.subs)[0]=k0 at*
   have hgs:=aC (enc:=SubD.cs) hk
   generalize hss:e.subs[k0]=s0 at*
   refine qX ?_
   refine qD [0,1,2,3,4,5,6,7,8] ?_
   try simp (disch:=omega) only [go_sem,seval,hgo,hk0,ll,hgs,hss]
   refine qG ?_
   refine pB 7 hE (fun s (y:Nat×List LetterD)=>s.at (qU [0,1,3,1,7,24,34,31]) [(33,.sc (.int .i64 (y.1:Nat))),(5,.sc (.sl 10 0 y.2.length))] ((s.hp.take 10)++[some ⟨y.2.map LetterD.cs,19,36,true,true⟩])) (fun (y:Nat×List LetterD)=>y.1<=e.own.length/\y.2.length<=y.1/\R=y.2++((e.own.drop y.1).filter (fun a=> !a.told)).map (ys e s0)) (fun (y:Nat×List LetterD)=>e.own.length - y.1) (0,[]) (qI 0 10++qO 1) (⟨P7 _,P7 _,hR⟩) fun y hy N hN=>?_
   obtain⟨i,l⟩:=y
   obtain⟨g1,g2,g3⟩:=hy
   dsimp only at g1 g2 g3
   refine qR ?_
   refine qB (fun b=>?_) fun b=>?_
   ·rw [kI b] at g3
    have hg:=aC (enc:=AddrD.cs) b
    generalize hae:e.own[i]=a at*
    try simp (disch:=omega) only [go_sem,seval,hg,hae]
    cases htd:a.told with
    |true=>
     rw [if_neg (by simp [htd])] at g3
     try simp (disch:=omega) only [go_sem,seval,htd]
     exact Mc hN (i+1,l) (qI 0 11) (by (try dsimp only);exact⟨zO,zO,g3⟩)
    |false=>
     rw [if_pos (by simp [htd]),Qa] at g3
     try simp (disch:=omega) only [go_sem,seval,htd]
     refine qD [0,1,2,3,4,5,6,7,8,9,10,11,12,13,14,15,16,17,18,19,20,21,22,23,24] ?_
     refine aE (sw e.key e.peer a.id a.addr) [] ?_
     refine aE (bB s0.road { ac with kind:=8,tag:=⟨3,e.key,e.peer,a.id,a.addr⟩,sgn:=s0.give,id:=a.id,addr:=a.addr,spare:=a.spare }) [] ?_
     refine qG ?_
     refine⟨qC,hN _ (i+1,l++[ys e s0 a]) (qI 0 10++qI 13 1) (by (try dsimp only);exact⟨zO,by simp;omega,by simpa using g3⟩) (by (try dsimp only);omega) (ae zF zF ?_)⟩
     refine qX ?_
     rw [P_]
     rfl
   rw [ml zO,Qc,P9] at g3
   subst g3
   refine qX ?_
   exact cP (qI 0 7++qI 10 1)
  rw [hf (by rw [hok];simp [h2])]
  refine qX ?_
  exact cP (qI 0 7++qO 1)
 rw [hf (by rw [hok];simp [h1])]
 refine qX ?_
 exact cP (qI 0 7++qO 1)
theorem yD (e:EndD) (hs:Small e):aP 225 [.ag (e.cs 0)] (e.hp false) (.sc (.sl 7 0 (df e).length)) (e.hp false++[some ⟨(df e).map LetterD.cs,19,36,true,true⟩]):=by
 have hN:=uf e (by have:=hs.subs;omega)
 have hK:=(qH (bz e))
 have hown:=hs.own
 have hf:=O8 (e:=e)
 have ht:= @O9 e
 have hok:IU e=(aq e && decide (e.state=2) && !decide ((jm e.subs).length=0)):=rfl
 obtain⟨R,hR⟩:∃ R,R=df e:=⟨_,rfl⟩
 rw [<-hR] at hf ht
 rw [<-hR]
 clear hR
 refine ix func225 ntmps225 results225 fun E hE=>?_
 refine qK (hN) (qI 0 7) ?_
 refine qK (hK) (qI 0 7) ?_
 refine qB (fun h1=>?_) fun h1=>?_
 ·refine qB (fun h2=>?_) fun h2=>?_
  ·by_cases h3:(jm e.subs).length=0
   ·rw [hf (by rw [hok];simp [h3])]
    try simp (disch:=omega) only [go_sem,seval,h3]
    exact cP (qI 0 7++qI 8 1)
   have hpos:0 < (jm e.subs).length:=zO
   have hk:=t7 hpos
   have hR:=ht (by rw [hok];simp [h1,h2,h3]) (Bw hpos) hk
   have hgo:=aC (enc:=ll) hpos
   generalize hk0:(jm e.subs)[0]=k0 at*
   have hgs:=aC (enc:=SubD.cs) hk
   generalize hss:e.subs[k0]=s0 at*
   refine qX ?_
   refine qD [0,1,2,3,4,5,6,7,8] ?_
   try simp (disch:=omega) only [go_sem,seval,hgo,hk0,ll,hgs,hss]
   refine qG ?_
   have hU:=Ak e.own hown
   have hul:(oJ e.own).length<=e.own.length:=List.length_filter_le _ _
   have hmem:∀ a∈oJ e.own,a∈e.own:=fun a ha=>(List.mem_filter.1 ha).1
   generalize oJ e.own=U at*
   refine qK (hU) (qI 0 1) ?_
   refine pB 7 hE (fun s (y:Nat×List LetterD)=>s.at (qU [0,1,4,1,8,69]) [(7,.sc (.int .i64 (y.1:Nat))),(5,.sc (.pt 9 0 0)),(6,.sc (.sl 10 0 U.length)),(3,.sc (.sl 11 0 y.2.length))] ((s.hp.take 8)++(((s.hp.drop 9).take 3)++[some ⟨y.2.map LetterD.cs,19,36,true,true⟩]))) (fun (y:Nat×List LetterD)=>y.1<=U.length/\y.2.length<=y.1/\R=y.2++(U.drop y.1).map (ys e s0)) (fun (y:Nat×List LetterD)=>U.length - y.1) (0,[]) (qI 0 8++qI 9 3++qI 8 1) (⟨P7 _,P7 _,hR⟩) fun y hy N hN=>?_
   obtain⟨i,l⟩:=y
   obtain⟨g1,g2,g3⟩:=hy
   dsimp only at g1 g2 g3
   refine qR ?_
   refine qB (fun b=>?_) fun b=>?_
   ·rw [List.drop_eq_getElem_cons b,Qa] at g3
    have hbl:i < (U.map AddrD.id).length:=by simpa using b
    have hg:=aC (enc:=bh) hbl
    rw [List.getElem_map] at hg
    obtain⟨j,hj,hat,hja⟩:=Gk (EZ h1) (hmem U[i] (List.getElem_mem b))
    have hA:=eF e.own U[i].id hown
    rw [hat] at hA
    have hgj:=aC (enc:=AddrD.cs) hj
    rw [hja] at hgj
    generalize hae:U[i]=a at*
    simp only [bh] at hg
    have hel:e.own[j]=a:=hja
    refine qX ?_
    refine aR [(8,11),(11,9),(11,10)] [(8,9),(9,10)] [(qU [0,9,11,1,9,2,12,1]),(qU [0,10,11,1,10,1,12,1]),(qU [0,13]),(qU [0,8,11,1,8,3,12,1])] 7 hE (fun s=>s.at (qU [42,11]) [(8,.sc (.pt 12 0 0))] (s.hp++[some ⟨[a.cs],4,32,true,false⟩])) zXk (qC) zXk ?_ (ab 400 ?_)
    rotate_left
    rotate_right
    simp only [aM]
    refine⟨aa 400 ?_,aa 400 ?_,aa 400 ?_,aa 400 ?_⟩
    ·simp (disch:=omega) only [go_sem,hg,hae]
     refine aE (hA) (qI 0 1) ?_
     simp (disch:=omega) only [go_sem,hgj,hel]
     refine⟨by (try simp (disch:=omega) only [go_sem,P8,seval,hgj,hel])<;>omega,(qI 0 13),ae zF zF ?_⟩
     try simp (disch:=omega) only [go_sem,seval]
    ·simp (disch:=omega) only [go_sem,hg,hae]
     refine aE (hA) (qI 0 1) ?_
     simp (disch:=omega) only [go_sem,hgj,hel]
     refine⟨by (try simp (disch:=omega) only [go_sem,P8,seval,hgj,hel])<;>omega,(qI 0 13),ae zF zF ?_⟩
     try simp (disch:=omega) only [go_sem,seval]
    ·simp (disch:=omega) only [go_sem,hg,hae]
     refine aE (hA) (qI 0 1) ?_
     simp (disch:=omega) only [go_sem,hgj,hel]
     refine⟨by (try simp (disch:=omega) only [go_sem,P8,seval,hgj,hel])<;>omega,(qI 0 13),ae zF zF ?_⟩
     try simp (disch:=omega) only [go_sem,seval]
    ·simp (disch:=omega) only [go_sem,hg,hae]
     refine aE (hA) (qI 0 1) ?_
     simp (disch:=omega) only [go_sem,hgj,hel]
     refine⟨by (try simp (disch:=omega) only [go_sem,P8,seval,hgj,hel])<;>omega,(qI 0 13),ae zF zF ?_⟩
     try simp (disch:=omega) only [go_sem,seval]
    refine qX ?_
    refine qD [0,1,2,3,4,5,6,7,8,9,10,11,12,13,14,15,16,17,18,19,20,21,22,23,24] ?_
    refine aE (sx e.key e.peer a.id a.addr) [] ?_
    refine aE (a_ s0.road { ac with kind:=8,tag:=⟨3,e.key,e.peer,a.id,a.addr⟩,sgn:=s0.give,id:=a.id,addr:=a.addr,spare:=a.spare }) [] ?_
    refine qG ?_
    refine⟨qC,hN _ (i+1,l++[ys e s0 a]) (qI 0 11++qI 14 1) (by (try dsimp only);exact⟨zO,by simp;omega,by simpa using g3⟩) (by (try dsimp only);omega) (ae zF zF ?_)⟩
    refine qX ?_
    rw [P_]
    rfl
   rw [List.drop_eq_nil_of_le zO,Qc,P9] at g3
   subst g3
   refine qX ?_
   exact cP (qI 0 7++qI 11 1)
  rw [hf (by rw [hok];simp [h2])]
  refine qX ?_
  exact cP (qI 0 7++qI 8 1)
 rw [hf (by rw [hok];simp [h1])]
 refine qX ?_
 exact cP (qI 0 7++qI 8 1)
theorem zb (r b:Int):aP 163 [.sc (.int .i64 r),.sc (.int .i64 b)] [] (.tu [.ag (BucketD.cs (if bucketOk ⟨r,b,b⟩ then⟨r,b,b⟩ else⟨0,0,0⟩)),.sc (.bo (bucketOk ⟨r,b,b⟩))]) []:=by
 obtain⟨R,hR⟩:∃ R,R=(if bucketOk ⟨r,b,b⟩ then (⟨r,b,b⟩:BucketD) else⟨0,0,0⟩):=⟨_,rfl⟩
 rw [<-hR]
 refine qE func163 ntmps163 results163 fun E hE=>?_
 refine qK (jR ⟨r,b,b⟩) [] ?_
 refine qB (fun h1=>?_) fun h1=>?_
 ·rw [h1,if_neg zP] at hR
  subst hR
  refine qP [] ?_
  first|exact⟨⟩|exact⟨⟨rfl,rfl,rfl⟩,h1⟩
 rw [h1,if_pos rfl] at hR
 subst hR
 refine qP [] ?_
 first|exact⟨⟩|exact⟨⟨rfl,rfl,rfl⟩,h1⟩
theorem Fd (n:Int):bu [] ⟨0,n,false,true⟩=if cd (gQ n) then (gQ n,true) else ([],false):=rfl
theorem Fe:bucketOk ⟨1,3,3⟩=true:=by decide
theorem zc {who n:Int} {p:PolicyD} (h:(bU who 1 2 && polOk p && cd (gQ n))=false):fW who n p=(di,false):=by rw [fW,if_neg (by simp [h])]
theorem tj {who n:Int} {p:PolicyD} (h:(bU who 1 2 && polOk p && cd (gQ n))=true):fW who n p=(⟨who,0,0,0,p,gQ n,[],[],[],⟨1,3,3⟩,⟨[],0,0,120⟩,⟨0,[],[]⟩,[],[],1000+who,0,0⟩,true):=if_pos h
theorem vH (who n:Int) (p:PolicyD):aP 106 [.sc (.int .i64 who),.sc (.int .i64 n),.ag p.cs] [] (.tu [.ag ((fW who n p).1.cs 0),.sc (.bo (fW who n p).2)]) ((fW who n p).1.hp true):=by
 have hA:=kA [] ⟨0,n,false,true⟩ zP
 have hB:=zb 1 3
 rw [Fe,if_pos rfl] at hB
 rw [Fd] at hA
 have hf:= @zc who n p
 have ht:= @tj who n p
 generalize fW who n p=R at*
 have hl:(gQ n).length=1:=rfl
 cases hok:cd (gQ n) with
 |false=>
  rw [hok,if_neg zP] at hA
  rw [hf (by simp [hok])]
  refine qE func106 ntmps106 results106 fun E hE=>?_
  refine qK (hA) (qI 2 1) ?_
  refine qK (aJ _ _ _) [] ?_
  refine qB (fun h1=>?_) fun h1=>?_
  ·refine qK (ie p) [] ?_
   refine qB (fun h2=>?_) fun h2=>?_
   ·refine qJ (qO 7) ?_
    simp [di]
   refine qJ (qO 7) ?_
   simp [di]
  refine qJ (qO 7) ?_
  simp [di]
 |true=>
  rw [hok,if_pos rfl] at hA
  refine qE func106 ntmps106 results106 fun E hE=>?_
  refine qK (hA) (qI 2 1) ?_
  refine qK (aJ _ _ _) [] ?_
  refine qB (fun h1=>?_) fun h1=>?_
  ·refine qK (ie p) [] ?_
   refine qB (fun h2=>?_) fun h2=>?_
   ·rw [ht (by simp [h1,h2,hok])]
    simp only [bU,zk,decide_eq_true_eq] at h1
    refine qX ?_
    refine qK (hB) [] ?_
    exact qF (qI 3 1++qO 6)
   rw [hf (by simp [h2])]
   refine qX ?_
   refine qJ (qO 7) ?_
   simp [di]
  rw [hf (by simp [h1])]
  refine qJ (qO 7) ?_
  simp [di]
theorem HS {e:EndD} {n:Int} (h:uu e n=false):gR e n=(e,[]):=by rw [gR,if_neg (by simp [h])]
theorem HT {e:EndD} {n:Int} {a:AddrD} (h:uu e n=true) (ha:e.own.getD 0 default=a):gR e n=({ e with state:=1,key:=e.draw,subs:=e.subs++[⟨⟨a.addr,n,0⟩,1,false,0,0,0,e.draw+2,0⟩],draw:=e.draw+4 },
  [bc ⟨a.addr,n,0⟩ { ac with kind:=1,key:=e.draw,give:=e.draw+2 }]):=by rw [gR,if_pos h,mo,ha]
theorem Ja (e:EndD) (n:Int) (hs:Small e):aP 83 [.ag (e.cs 0),.sc (.int .i64 n)] (e.hp false) (.tu [.ag ((gR e n).1.cs 7),.sc (.sl 14 0 (gR e n).2.length)])
  (e.hp false++((gR e n).1.hp true++[some ⟨(gR e n).2.map LetterD.cs,19,36,true,true⟩])):=by
 have hC:=(qH (aG e))
 have hK:=(qH (bA e))
 have hf:=HS (e:=e) (n:=n)
 have ht:= @HT e n
 have hk:=uu.eq_1 e n
 have hS:=fun r=>fT e r (by have:=hs.subs;omega)
 rw [mo] at hk
 generalize gR e n=R at*
 refine qE func83 ntmps83 results83 fun E hE=>?_
 refine qK (hC) (qI 0 7) ?_
 refine qK (hK) (qI 0 7) ?_
 refine qB (fun h1=>?_) fun h1=>?_
 ·refine qB (fun h2=>?_) fun h2=>?_
  ·refine qB (fun h3=>?_) fun h3=>?_
   ·refine qK (aS _ _ _) [] ?_
    refine qB (fun h4=>?_) fun h4=>?_
    ·refine qB (fun h5=>?_) fun h5=>?_
     ·refine qK (f7 e) (qI 0 7) ?_
      refine qB (fun h6=>?_) fun h6=>?_
      ·rw [hf (by rw [hk];first|(simp [h6];done)|(simp [h6];intros;omega))]
       exact qF (qI 0 7++qI 9 7++qO 1)
      obtain⟨a,ha⟩:∃ a,e.own[0]' zO=a:=⟨_,rfl⟩
      have ha2:e.own.getD 0 default=a:=by rw [<-ha,zG,P6 zO];rfl
      rw [ha2] at hk
      try simp (disch:=omega) only [go_sem,seval,ha]
      refine qK (hS ⟨a.addr,n,0⟩) (qI 0 7) ?_
      refine qB (fun h7=>?_) fun h7=>?_
      ·rw [hf (by rw [hk];first|(simp [h7];done)|(simp [h7];intros;omega))]
       exact qF (qI 0 7++qI 9 7++qO 1)
      rw [ht (a:=a) (by rw [hk,h1,h4,h6,decide_eq_true (by omega:e.state=0),decide_eq_false (by omega:¬ e.own.length=0),decide_eq_true (by have:=dB h1;omega:e.subs.length < 8),decide_eq_true (by omega:bK e.subs ⟨a.addr,n,0⟩< 0)];rfl) ha2]
      refine qK (gY e h6) (qI 9 8) ?_
      refine aB [(6,7)] [(qU [0,9]),[0,1,2,3,4,5,7,6,8]] zXk (qC) zXk ?_
      simp only [aM]
      refine⟨aa 400 ?_,aa 400 ?_⟩
      all_goals simp (disch:=omega) only [go_sem,seval]
      all_goals
       refine aE (bB ⟨a.addr,n,0⟩ { ac with kind:=1,key:=e.draw,give:=e.draw+2 }) [] ?_
       refine qG ?_
       refine qP (qI 0 7++qI 9 2++qI 19 1++qI 12 4++qI 20 1) ?_
       first|exact⟨⟩|simp [SubD.cs,LetterD.cs,bc,ac]
     rw [hf (by rw [hk];first|(simp [h5];done)|(simp [h5];intros;omega))]
     exact qF (qI 0 7++qI 9 7++qO 1)
    rw [hf (by rw [hk];first|(simp [h4];done)|(simp [h4];intros;omega))]
    exact qF (qI 0 7++qI 9 7++qO 1)
   rw [hf (by rw [hk,decide_eq_true (by omega:e.own.length=0)];simp)]
   exact qF (qI 0 7++qI 9 7++qO 1)
  rw [hf (by rw [hk];first|(simp [h2];done)|(simp [h2];intros;omega))]
  exact qF (qI 0 7++qI 9 7++qO 1)
 rw [hf (by rw [hk];first|(simp [h1];done)|(simp [h1];intros;omega))]
 exact qF (qI 0 7++qI 9 7++qO 1)
theorem Jb (e:EndD) (n:Int) (hs:Small e):aP 165 [.ag (e.cs 0),.sc (.int .i64 n)] (e.hp false) (.tu [.ag ((gR e n).1.cs 7),.sc (.sl 14 0 (gR e n).2.length)])
  (e.hp false++((gR e n).1.hp true++[some ⟨(gR e n).2.map LetterD.cs,19,36,true,true⟩])):=by
 have hC:=(qH (aF e))
 have hK:=(qH (bz e))
 have hf:=HS (e:=e) (n:=n)
 have ht:= @HT e n
 have hk:=uu.eq_1 e n
 have hS:=fun r=>fU e r (by have:=hs.subs;omega)
 rw [mo] at hk
 generalize gR e n=R at*
 refine qE func165 ntmps165 results165 fun E hE=>?_
 refine qK (hC) (qI 0 7) ?_
 refine qD [0,1,2,3,4,5,6,7,8,9,10,11,12,13,14,15,16,17,18,19,20,21,22,23,24,25,26,27,28,29,30,31,32,33,34,35,36,37,38,39,40,41] ?_
 refine aE (hK) (qI 0 7) ?_
 refine qB (fun h1=>?_) fun h1=>?_
 ·refine qB (fun h2=>?_) fun h2=>?_
  ·refine qB (fun h3=>?_) fun h3=>?_
   ·refine aE (aJ _ _ _) [] ?_
    refine qB (fun h4=>?_) fun h4=>?_
    ·obtain⟨a,ha⟩:∃ a,e.own[0]' zO=a:=⟨_,rfl⟩
     have ha2:e.own.getD 0 default=a:=by rw [<-ha,zG,P6 zO];rfl
     rw [ha2] at hk
     try simp (disch:=omega) only [go_sem,seval,ha]
     refine aE (hS ⟨a.addr,n,0⟩) (qI 0 7) ?_
     refine qB (fun h7=>?_) fun h7=>?_
     ·refine qB (fun h5=>?_) fun h5=>?_
      ·refine aE (ij e) (qI 0 7) ?_
       refine qG ?_
       refine qB (fun h6=>?_) fun h6=>?_
       ·rw [hf (by rw [hk];first|(simp [h6];done)|(simp [h6];intros;omega))]
        exact qF (qI 0 7++qI 9 7++qI 17 1)
       rw [ht (a:=a) (by rw [hk,h1,h4,h6,decide_eq_true (by omega:e.state=0),decide_eq_false (by omega:¬ e.own.length=0),decide_eq_true (by have:=dB h1;omega:e.subs.length < 8),decide_eq_true (by omega:bK e.subs ⟨a.addr,n,0⟩< 0)];rfl) ha2]
       have h8':=h6
       simp only [bU,zk,decide_eq_true_eq] at h8'
       have hd1:bU e.draw 1 999999998=true:=by simp only [bU,zk,decide_eq_true_eq];omega
       have hd2:bU (e.draw+2) 1 999999998=true:=by simp only [bU,zk,decide_eq_true_eq];omega
       refine qK (cQ e hs hd1) (qI 9 7) ?_
       refine qK (cQ { e with draw:=e.draw+2 } ⟨hs.own,hs.far,hs.subs,hs.halfs,hs.list,hs.done,hs.over⟩ hd2) (qI 18 7) ?_
       try simp (disch:=omega) only [go_sem,seval,ha]
       refine qK (j8 { e with state:=1,key:=e.draw,draw:=e.draw+2+2 } ⟨⟨a.addr,n,0⟩,1,false,0,0,0,e.draw+2,0⟩ (by have:=dB h1;dsimp only;omega)) (qI 25 7) ?_
       refine aB [(0,9),(7,0),(8,0)] [(qU [1,8,0,1,9,3]),(qU [1,7,0,1,8,4]),(qU [1,6,0,1,7,5]),(qU [1,9,0,1,10,2])] zXk (qC) zXk ?_
       simp only [aM]
       refine⟨aa 400 ?_,aa 400 ?_,aa 400 ?_,aa 400 ?_⟩
       all_goals simp (disch:=omega) only [go_sem,seval]
       all_goals
        refine aE (a_ ⟨a.addr,n,0⟩ { ac with kind:=1,key:=e.draw,give:=e.draw+2 }) [] ?_
        refine qG ?_
        refine aj (qI 0 7++qI 25 2++qI 33 1++qI 28 4++qI 35 1) (qC) _ zXg zF zF ?_
        simp (disch:=omega) only [go_sem,seval]
        try simp [SubD.cs,LetterD.cs,bc,ac]
        try omega
      rw [hf (by rw [hk];first|(simp [h5];done)|(simp [h5];intros;omega))]
      refine qG ?_
      exact qF (qI 0 7++qI 9 7++qI 17 1)
     rw [hf (by rw [hk];first|(simp [h7];done)|(simp [h7];intros;omega))]
     refine qG ?_
     exact qF (qI 0 7++qI 9 7++qI 17 1)
    rw [hf (by rw [hk];first|(simp [h4];done)|(simp [h4];intros;omega))]
    refine qG ?_
    exact qF (qI 0 7++qI 9 7++qI 17 1)
   rw [hf (by rw [hk,decide_eq_true (by omega:e.own.length=0)];simp)]
   refine qG ?_
   exact qF (qI 0 7++qI 9 7++qI 17 1)
  rw [hf (by rw [hk];first|(simp [h2];done)|(simp [h2];intros;omega))]
  refine qG ?_
  exact qF (qI 0 7++qI 9 7++qI 17 1)
 rw [hf (by rw [hk];first|(simp [h1];done)|(simp [h1];intros;omega))]
 refine qG ?_
 exact qF (qI 0 7++qI 9 7++qI 17 1)
theorem vK (who n:Int) (p:PolicyD):aP 53 [.sc (.int .i64 who),.sc (.int .i64 n),.ag p.cs] [] (.tu [.ag ((fW who n p).1.cs 0),.sc (.bo (fW who n p).2)]) ((fW who n p).1.hp true):=by
 have hA:=kx (gQ n) (by simp [gQ])
 have hB:=xK 1 3
 rw [Fe,if_pos rfl] at hB
 have hf:= @zc who n p
 have ht:= @tj who n p
 have hl:(gQ n).length=1:=rfl
 have hcs:(gQ n).map AddrD.cs=[AddrD.cs ⟨0,n,false,true⟩]:=rfl
 rw [hl,hcs] at hA
 generalize fW who n p=R at*
 refine qE func53 ntmps53 results53 fun E hE=>?_
 refine qK (aS _ _ _) [] ?_
 refine qB (fun h1=>?_) fun h1=>?_
 ·refine qK (jM p) [] ?_
  refine qB (fun h2=>?_) fun h2=>?_
  ·refine qK (hA) (qI 2 1) ?_
   refine qB (fun h3=>?_) fun h3=>?_
   ·rw [hf (by simp [h3])]
    refine qJ (qO 7) ?_
    simp [di]
   rw [ht (by simp [h1,h2,h3])]
   simp only [bU,zk,decide_eq_true_eq] at h1
   refine qX ?_
   refine qK (hB) [] ?_
   refine qP (qI 2 1++qO 6) ?_
   first|exact⟨⟩|simp [gQ,AddrD.cs]
  rw [hf (by simp [h2])]
  refine qX ?_
  refine qJ (qO 7) ?_
  simp [di]
 rw [hf (by simp [h1])]
 refine qX ?_
 refine qJ (qO 7) ?_
 simp [di]
end
end Go.Proofs.YtdiiopjaebnmfaaGreatDoor
