/- Lemmas of this claim. -/
import Derived.Test.YteknmpdmhiomgaaGreatZFnCalmJ
set_option maxHeartbeats 16000000
set_option maxRecDepth 100000
set_option linter.unusedVariables false
set_option linter.unusedSimpArgs false
namespace Go.Proofs.YteknmpdmhiomgaaGreat
open _root_.Go.Proofs.Tryz
open _root_.Bool renaming and_eq_true->RP,not_eq_true'->R9,or_eq_true->Se,not_eq_true->SZ,or_eq_false_iff->S6,not_eq_false'->Ta,true_and->Td
open _root_.List renaming getElem_mem->RQ,mem_singleton->RR,pairwise_iff_getElem->RU,getElem_of_mem->RV,mem_append->RW,mem_or_eq_of_mem_set->RX,mem_append_left->RY,mem_cons_of_mem->RZ,getElem_set->R0,length_set->R1,length_append->R2,mem_cons_self->R3,append_nil->R4,all_eq_true->R5,length_drop->R6,mem_cons->R7,mem_map->R8,pairwise_singleton->R_,length_cons->Sa,mem_iff_getElem->Sb,any_eq_true->Sd,mem_take_iff_getElem->Sf,length_singleton->Sg,pairwise_append->Sh,length_take->Sl,mem_set->Sm,mem_filter->Sn,mem_drop_iff_getElem->So,takeWhile_cons->Sp,drop_append_of_le_length->Sq,take_append_drop->Sr,forall_mem_cons->Ss,getD_eq_getElem?_getD->Su,length_map->Sv,getElem?_eq_getElem->Sw,pairwise_cons->Sx,set_cons_succ->Sy,filterMap_cons_some->Sz,append_assoc->SD,getElem_cons_zero->SF,all_cons->SG,mem_append_right->SH,mem_of_mem_take->SI,all_nil->SJ,nodup_cons->SK,drop_drop->SL,drop_sublist->SR,getElem_map->SV,mem_flatMap->SX,cons_append->SY,length_nil->S2,singleton_append->S3,filterMap_append->S4,mem_of_mem_drop->S5,map_cons->S7,dropWhile_cons->S8,filter_sublist->S9,getElem_set_ne->S_,pairwise_map->Tb,filter_nil->Tc,map_map->Te
open _root_.Int renaming le_refl->RS,toNat_natCast->RT,le_trans->Sj,eq_ofNat_of_zero_le->SC,lt_of_lt_of_le->SQ,le_of_eq->S0
open _root_.Nat renaming le_refl->Si,lt_trichotomy->Sk,eq_zero_or_pos->SM,add_sub_cancel->SN,lt_or_gt_of_ne->SP,le_trans->SU,min_le_right->SW
section
open Go.RowKit
def ar (k s m:Int):ActD:=⟨k,s,0,m,[],⟨0,0,false,false⟩,af⟩
attribute [go_sem] ar af
def aY:Nat->WorldD->WorldD
 |0,w=>w
 |n+1,w=>if w.bag.length=0 then w else aY n (aJ w (ar 8 1 0)).1
def calm3 (w:WorldD):WorldD:=(aJ (aJ (aJ w (ar 4 1 0)).1 (ar 3 1 0)).1 (ar 3 2 0)).1
def cH (w:WorldD):WorldD:=(aJ (aJ w (ar 2 1 200)).1 (ar 2 2 200)).1
def calmRound (w:WorldD):WorldD:=cH (aY 400 (calm3 w))
def bI:Nat->WorldD->WorldD
 |0,w=>w
 |n+1,w=>bI n (calmRound w)
def eR (w:WorldD) (n:Int):WorldD:=bI (min n 60).toNat w
theorem Gn {w:WorldD} {a:ActD} {k:Nat} (h:GoodW w k) (h1:¬ a.kind=1) (h2:¬ a.kind=2):GoodW (dE w a) k:=by
 rw [dE,if_neg h1,if_neg h2];exact h
theorem eO {w:WorldD} {a:ActD} {k:Nat} (h:GoodW w k) (h1:¬ a.kind=1) (h2:¬ a.kind=2):GoodW (aJ w a).1 k:=by
 have hb:=xO w.bag a.pos h.r.bag
 have hl:=h.r.bag
 unfold aJ;split
 ·split
  ·unfold dR;split
   ·exact h
   exact rc (nZ (Gn h h1 h2) (AN (mK h)))
  unfold cc;repeat' split
  all_goals first
   |exact h
   |exact xN (lQ h hb)
   |exact lQ h hb
   |exact lQ h (by simp only [R2,Sg];omega)
 exact h
theorem vb:∀ {n:Nat} {w:WorldD} {k:Nat},GoodW w k->GoodW (aY n w) k
 |0,w,k,h=>h
 |n+1,w,k,h=>by
  rw [aY];split
  ·exact h
  exact vb (eO h (by simp [ar]) (by simp [ar]))
theorem Gp {w:WorldD} {k:Nat} (h:GoodW w k):GoodW (calm3 w) k:=
 eO (eO (eO h (by simp [ar]) (by simp [ar])) (by simp [ar]) (by simp [ar])) (by simp [ar]) (by simp [ar])
theorem Cq {w:WorldD} {k:Nat} (h:GoodW w k):GoodW (cH w) (k+2):=ku (ku h (by simp [ar])) (by simp [ar])
theorem n7 {w:WorldD} {k:Nat} (h:GoodW w k):GoodW (calmRound w) (k+2):=Cq (vb (Gp h))
theorem x6:∀ {n:Nat} {w:WorldD} {k:Nat},GoodW w k->GoodW (bI n w) (k+2*n)
 |0,w,k,h=>h
 |n+1,w,k,h=>by
  have:=x6 (n:=n) (n7 h)
  rw [show k+2*(n+1)=k+2+2*n by omega];exact this
theorem Et {n k:Nat} {w:WorldD} (hk:k < n) (hb:¬ w.bag.length=0):aY (n - k) w=aY (n - (k+1)) (aJ w (ar 8 1 0)).1:=by
 rw [show n - k=(n - (k+1))+1 by omega,aY,if_neg hb]
theorem Gq {n k:Nat} {w:WorldD} (h:n<=k\/w.bag.length=0):aY (n - k) w=w:=by
 rcases SM (n - k) with h0|h0
 ·rw [h0];rfl
 rw [show n - k=(n - k - 1)+1 by omega,aY,if_pos zO]
def N9 (n:Int):Prop:=0<=n/\n<=1000000000
theorem Gt {n:Int}:gp n=true↔N9 n:=by simp [gp,N9]
theorem dt {n a b:Int}:cv n a b=true↔a<=n/\n<=b:=by simp [cv]
def RN (r:RoadD):Prop:=N9 r.own/\N9 r.far/\N9 r.port
theorem lR {r:RoadD}:nA r=true↔RN r:=by simp [nA,RN,Gt,and_assoc]
theorem cy {a b:RoadD}:dL a b=true↔a=b:=⟨tJ,fun h=>by subst h;simp [dL]⟩
theorem AY {α:Type} {p:α->Bool}:∀ {l:List α} {k j:Nat},dT p k l=((k+j:Nat):Int)↔∃ h:j < l.length,p l[j]=true/\∀ (i:Nat) (hi:i < j),p (l[i]' zO)=false
 |[],k,j=>by
  rw [dT]
  constructor
  ·intro h;omega
  rintro⟨h,_⟩;simp at h
 |a::r,k,j=>by
  rw [dT]
  by_cases hp:p a=true
  ·rw [if_pos hp]
   constructor
   ·intro h
    obtain rfl:j=0:=zO
    exact⟨zP,hp,fun i hi=>by omega⟩
   rintro⟨h,h1,h2⟩
   rcases j with _|j
   ·simp
   have:=h2 0 zO
   simp only [SF] at this
   rw [hp] at this
   cases this
  rw [if_neg hp]
  have hp':p a=false:=by simpa using hp
  rcases j with _|j
  ·constructor
   ·intro h
    rcases rK (p:=p) (l:=r) (k:=k+1) with h'|h'<;>omega
   rintro⟨h,h1,_⟩
   simp only [SF] at h1
   exact absurd h1 hp
  rw [show k+(j+1)=(k+1)+j by omega,AY (l:=r)]
  constructor
  ·rintro⟨h,h1,h2⟩
   refine⟨by simp;omega,by simpa using h1,fun i hi=>?_⟩
   rcases i with _|i
   ·simpa using hp'
   simpa using h2 i zO
  rintro⟨h,h1,h2⟩
  refine⟨by simpa using h,by simpa using h1,fun i hi=>?_⟩
  have:=h2 (i+1) zO
  simpa using this
theorem jc {α:Type} {p:α->Bool} {l:List α} {j:Nat}:jL p l=(j:Int)↔∃ h:j < l.length,p l[j]=true/\∀ (i:Nat) (hi:i < j),p (l[i]' zO)=false:=by
 have:=AY (p:=p) (l:=l) (k:=0) (j:=j)
 rw [Nat.zero_add] at this
 exact this
theorem AZ {α:Type} {p:α->Bool}:∀ {l:List α} {k:Nat},dT p k l < 0↔∀ x∈l,p x=false
 |[],k=>by simp [dT]
 |a::r,k=>by
  rw [dT]
  by_cases hp:p a=true
  ·rw [if_pos hp]
   constructor
   ·intro h;omega
   intro h;rw [h a zP] at hp;cases hp
  rw [if_neg hp,AZ (l:=r)]
  constructor
  ·intro h x hx
   rcases R7.1 hx with rfl|hx
   ·simpa using hp
   exact h x hx
  intro h x hx;exact h x (RZ _ hx)
theorem t7 {α:Type} {p:α->Bool} {l:List α}:jL p l < 0↔∀ x∈l,p x=false:=AZ
theorem oX {α:Type} {p:α->Bool} {l:List α} (h:0<=jL p l):∃ n:Nat,jL p l=(n:Int):=⟨(jL p l).toNat,zO⟩
theorem oY {α:Type} (l:List α) (n:Nat):(l.take n++l.drop (n+1)).Sublist l:=by
 rw [<-List.eraseIdx_eq_take_drop_succ]
 exact List.eraseIdx_sublist ..
def AdR (a b:AddrD):Prop:=a.id < b.id/\¬ a.addr=b.addr
def AdE (a:AddrD):Prop:=(0<=a.id/\a.id<=255)/\1<=a.addr/\a.addr<=65535
structure AdOk (l:List AddrD):Prop where
 len:l.length<=6
 el:∀ a∈l,AdE a
 pw:l.Pairwise AdR
theorem oc {l:List AddrD}:bN l=true↔AdOk l:=by
 simp only [bN,RP,decide_eq_true_eq]
 constructor
 ·rintro⟨h1,h2⟩
  have he:∀ (j:Nat) (hj:j < l.length),AdE l[j]/\(∀ i,i+1=j->(MD l i).id < l[j].id)/\∀ b∈l.take j,¬ l[j].addr=b.addr:=by
   intro j hj
   have:=ji h2 hj
   simp only [gr,lg hj,RP,dt,Se,beq_iff_eq,decide_eq_true_eq,R5,R9,beq_eq_false_iff_ne] at this
   obtain⟨⟨⟨a1,a2⟩,a3⟩,a4⟩:=this
   refine⟨⟨a1,a2⟩,fun i hi=>?_,a4⟩
   rcases a3 with a3|a3
   ·omega
   subst hi;simpa using a3
  have hid:∀ (j i:Nat) (hj:j < l.length) (hi:i < j),l[i].id < l[j].id:=by
   intro j
   induction j with
   |zero=>intro i hj hi;omega
   |succ j ih=>
    intro i hj hi
    have h3:=(he (j+1) hj).2.1 j rfl
    rw [lg zO] at h3
    by_cases hij:i=j
    ·subst hij;exact h3
    have:=ih i zO zO;omega
  refine⟨zO,fun a ha=>?_,?_⟩
  ·obtain⟨j,hj,rfl⟩:=RV ha
   exact (he j hj).1
  rw [RU]
  intro i j hi hj hij
  refine⟨hid j i hj hij,fun hc=>?_⟩
  refine (he j hj).2.2 l[i] ?_ hc.symm
  rw [Sf]
  exact⟨i,zO,rfl⟩
 rintro⟨h1,h2,h3⟩
 rw [RU] at h3
 refine⟨zO,di fun j hj=>?_⟩
 have hm:=h2 l[j] (RQ hj)
 simp only [gr,lg hj,RP,dt,Se,beq_iff_eq,decide_eq_true_eq,R5,R9,beq_eq_false_iff_ne]
 refine⟨⟨⟨hm.1,hm.2⟩,?_⟩,fun b hb=>?_⟩
 ·rcases SM j with h0|h0
  ·exact .inl h0
  refine .inr ?_
  rw [lg zO]
  exact (h3 (j - 1) j zO hj zO).1
 rw [Sf] at hb
 obtain⟨i,hi,rfl⟩:=hb
 exact fun hc=>(h3 i j zO hj zO).2 hc.symm
theorem AdOk.sub {l m:List AddrD} (h:AdOk l) (s:m.Sublist l):AdOk m:=⟨SU s.length_le h.len,fun a ha=>h.el a (s.subset ha),h.pw.sublist s⟩
theorem AdOk.drop {l:List AddrD} {n:Int} (h:AdOk l):AdOk (bQ l n).1:=by
 rw [bQ];split
 ·exact h
 exact h.sub (oY l _)
theorem AdOk.put {l:List AddrD} {a:AddrD} (h:AdOk l):AdOk (aS l a).1:=by
 rw [aS];split
 ·rename_i hk;exact oc.1 hk
 exact h
theorem AdOk.pt {l m:List AddrD} (h:AdOk l) (hl:m.length=l.length) (hp:∀ (i:Nat) (h1:i < m.length) (h2:i < l.length),m[i].id=l[i].id/\m[i].addr=l[i].addr):AdOk m:=by
 refine⟨by rw [hl];exact h.len,fun a ha=>?_,?_⟩
 ·obtain⟨j,hj,rfl⟩:=RV ha
  obtain⟨e1,e2⟩:=hp j hj zO
  have:=h.el l[j] (RQ _)
  rw [AdE,e1,e2];exact this
 have hq:=h.pw
 rw [RU] at hq⊢
 intro i j hi hj hij
 obtain⟨e1,e2⟩:=hp i hi zO
 obtain⟨f1,f2⟩:=hp j hj zO
 have:=hq i j zO zO hij
 rw [AdR,e1,e2,f1,f2];exact this
theorem iL {l:List AddrD} {n:Int} {a:AddrD} (h:a∈(bQ l n).1):a∈l:=by
 rw [bQ] at h;split at h
 ·exact h
 exact (oY l _).subset h
theorem h_ {l:List AddrD} {a b:AddrD} (h:b∈(aS l a).1):b=a\/b∈l:=by
 rw [aS] at h;split at h
 ·dsimp only at h
  rw [cp] at h;split at h
  ·rcases RX h with h|h
   ·exact .inr h
   exact .inl h
  rcases RW.1 h with h|h
  ·rcases RW.1 h with h|h
   ·exact .inr (SI h)
   exact .inl (RR.1 h)
  exact .inr (S5 h)
 exact .inr h
structure IdOk (l:List Int) (t:List AddrD):Prop where
 pw:l.Pairwise fun a b=>a < b
 el:∀ n∈l,(0<=n/\n<=255)/\∀ a∈t,¬ a.id=n
theorem kV {l:List Int} {n:Nat} (h:n < l.length):l.getD n 0=l[n]:=by rw [Su,Sw h];rfl
theorem mO {l:List AddrD} {n:Int}:aW l n < 0↔∀ a∈l,¬ a.id=n:=by
 rw [aW,t7]
 simp
theorem JG {l:List Int} {t:List AddrD}:pD l t=true↔IdOk l t:=by
 simp only [pD,RP]
 constructor
 ·rintro⟨h1,h2⟩
  have hc:∀ (j:Nat) (hj:j+1 < l.length),l[j] < l[j+1]:=by
   intro j hj
   have:=ji h1 hj
   simp only [dv,Se,beq_iff_eq,decide_eq_true_eq,SN,kV hj,kV (show j < l.length by omega)] at this
   rcases this with h|h
   ·omega
   exact h
  have hid:∀ (j i:Nat) (hj:j < l.length) (hi:i < j),l[i] < l[j]:=by
   intro j
   induction j with
   |zero=>intro i hj hi;omega
   |succ j ih=>
    intro i hj hi
    have h3:=hc j hj
    by_cases hij:i=j
    ·subst hij;exact h3
    have:=ih i zO zO;omega
  refine⟨?_,fun n hn=>?_⟩
  ·rw [RU]
   intro i j hi hj hij
   exact hid j i hj hij
  obtain⟨j,hj,rfl⟩:=RV hn
  have:=ji h2 hj
  simp only [ij,RP,dt,decide_eq_true_eq,kV hj] at this
  exact⟨this.1,mO.1 this.2⟩
 rintro⟨h1,h2⟩
 rw [RU] at h1
 refine⟨di fun j hj=>?_,di fun j hj=>?_⟩
 ·simp only [dv,Se,beq_iff_eq,decide_eq_true_eq]
  rcases SM j with h0|h0
  ·exact .inl h0
  refine .inr ?_
  rw [kV hj,kV (show j - 1 < l.length by omega)]
  exact h1 (j - 1) j zO hj zO
 have:=h2 l[j] (RQ hj)
 simp only [ij,RP,dt,decide_eq_true_eq,kV hj]
 exact⟨this.1,mO.2 this.2⟩
theorem H5 {α:Type} {p:α->Bool}:∀ (l:List α),l.take (l.takeWhile p).length=l.takeWhile p
 |[]=>rfl
 |a::r=>by
  rw [Sp];split
  ·rw [Sa,List.take_succ_cons,H5 r]
  rfl
theorem H6 {α:Type} {p:α->Bool}:∀ (l:List α),l.drop (l.takeWhile p).length=l.dropWhile p
 |[]=>rfl
 |a::r=>by
  rw [Sp,S8];split
  ·rename_i h
   rw [Sa,List.drop_succ_cons,H6 r]
  rfl
theorem LG {α:Type} {p:α->Bool}:∀ (l:List α),∀ x∈l.takeWhile p,p x=true
 |[],x,h=>by simp at h
 |a::r,x,h=>by
  rw [Sp] at h;split at h
  ·rename_i hp
   rcases R7.1 h with rfl|h
   ·exact hp
   exact LG r x h
  simp at h
theorem H7 {α:Type} {p:α->Bool}:∀ {l r:List α} {y:α},l.dropWhile p=y::r->p y=false
 |[],r,y,h=>by simp at h
 |a::l,r,y,h=>by
  rw [S8] at h;split at h
  ·exact H7 h
  rename_i hp
  injection h with h1 _
  rw [<-h1];simpa using hp
theorem QJ {l:List Int} {n:Int}:∀ x∈l.take (kH l n),x < n:=by
 intro x hx
 rw [kH,H5] at hx
 simpa using LG l x hx
theorem QK {l:List Int} {n:Int} (hp:l.Pairwise fun a b=>a < b):∀ x∈l.drop (kH l n),n<=x:=by
 have e:l.drop (kH l n)=l.dropWhile fun a=>decide (a < n):=by rw [kH,H6]
 have hq:(l.drop (kH l n)).Pairwise fun a b=>a < b:=hp.sublist (SR _ _)
 rw [e] at hq⊢
 cases hd:l.dropWhile fun a=>decide (a < n) with
 |nil=>simp
 |cons y r=>
  rw [hd] at hq
  have hy:¬ y < n:=by simpa using H7 hd
  intro x hx
  rcases R7.1 hx with rfl|hx
  ·omega
  have:=(Sx.1 hq).1 x hx;omega
theorem LH {l:List Int} {n x:Int} (h:x∈jw l n):x=n\/x∈l:=by
 rw [jw] at h;split at h
 ·exact .inr h
 rcases RW.1 h with h|h
 ·rcases RW.1 h with h|h
  ·exact .inr (SI h)
  exact .inl (RR.1 h)
 exact .inr (S5 h)
theorem Ey {l:List Int} {n:Int}:n∈jw l n:=by
 rw [jw];split
 ·rename_i h
  obtain⟨h1,h2⟩:=h
  rw [kV h1] at h2
  rw [<-h2];exact RQ _
 simp
theorem Ez {l:List Int} {n x:Int} (h:x∈l):x∈jw l n:=by
 rw [jw];split
 ·exact h
 have:=Sr (kH l n) l
 rw [<-this] at h
 rcases RW.1 h with h|h
 ·exact RY _ (RY _ h)
 exact SH _ h
theorem NQ {l:List Int} {n:Int} (hp:l.Pairwise fun a b=>a < b):(jw l n).Pairwise fun a b=>a < b:=by
 rw [jw];split
 ·exact hp
 rename_i hn
 have h1:=QJ (l:=l) (n:=n)
 have h2:=QK (n:=n) hp
 have h3:∀ x∈l.drop (kH l n),n < x:=by
  intro x hx
  have hx':=h2 x hx
  by_cases he:x=n
  ·exfalso
   have hq:(l.drop (kH l n)).Pairwise fun a b=>a < b:=hp.sublist (SR _ _)
   by_cases hl:kH l n < l.length
   ·rw [List.drop_eq_getElem_cons hl] at hx hq h2
    rcases R7.1 hx with hx|hx
    ·exact hn ⟨hl,by rw [kV hl,<-hx,he]⟩
    have:=(Sx.1 hq).1 x hx
    have:=h2 l[kH l n] (R3 ..)
    omega
   rw [List.drop_eq_nil_of_le zO] at hx;simp at hx
  omega
 rw [Sh,Sh]
 refine⟨⟨hp.sublist (List.take_sublist _ _),R_ ..,fun a ha b hb=>?_⟩,hp.sublist (SR _ _),fun a ha b hb=>?_⟩
 ·rw [RR.1 hb];exact h1 a ha
 rcases RW.1 ha with ha|ha
 ·have:=h1 a ha;have:=h3 b hb;omega
 rw [RR.1 ha];exact h3 b hb
theorem IdOk.drop {l:List Int} {t:List AddrD} {n:Int} (h:IdOk l t) (ht:AdOk t) (hn:∃ a∈t,a.id=n):IdOk (jw l n) (bQ t n).1:=by
 obtain⟨q,hq,hqn⟩:=hn
 refine⟨NQ h.pw,fun x hx=>?_⟩
 rcases LH hx with rfl|hx
 ·refine⟨by have:=(ht.el q hq).1;omega,fun a ha=>?_⟩
  have h0:¬ aW t x < 0:=fun hc=>mO.1 hc q hq hqn
  rw [bQ,if_neg h0] at ha
  obtain⟨k,hk⟩:=oX (show 0<=jL (fun a=>a.id == x) t by rw [aW] at h0;omega)
  obtain⟨hkl,hk1,_⟩:=jc.1 hk
  rw [aW,hk] at ha
  dsimp only at ha
  rw [RT] at ha
  have hpw:=ht.pw
  rw [RU] at hpw
  simp only [beq_iff_eq] at hk1
  rcases RW.1 ha with ha|ha
  ·rw [Sf] at ha
   obtain⟨i,hi,rfl⟩:=ha
   have:=(hpw i k zO hkl zO).1
   omega
  rw [So] at ha
  obtain⟨i,hi,rfl⟩:=ha
  have:=(hpw k (k+1+i) hkl zO zO).1
  omega
 have:=h.el x hx
 exact⟨this.1,fun a ha=>this.2 a (iL ha)⟩
theorem IdOk.put {l:List Int} {t:List AddrD} {a:AddrD} (h:IdOk l t) (hn:¬ a.id∈l):IdOk l (aS t a).1:=by
 refine⟨h.pw,fun x hx=>?_⟩
 have:=h.el x hx
 refine⟨this.1,fun b hb=>?_⟩
 rcases h_ hb with rfl|hb
 ·exact fun hc=>hn (hc▸hx)
 exact this.2 b hb
def HaE (h:HalfD):Prop:=RN h.road/\N9 h.theirs/\N9 h.mine/\N9 h.give/\N9 h.take/\N9 h.till
structure HaOk (l:List HalfD):Prop where
 len:l.length<=4
 el:∀ h∈l,HaE h
 pw:l.Pairwise fun a b=>¬ a.road=b.road
theorem od {l:List HalfD}:c_ l=true↔HaOk l:=by
 simp only [c_,RP,decide_eq_true_eq]
 have hat:∀ (j:Nat) (hj:j < l.length),bj l l[j].road=(j:Int)↔∀ (i:Nat) (hi:i < j),¬ l[i].road=l[j].road:=by
  intro j hj
  rw [bj,jc]
  constructor
  ·rintro⟨_,_,h⟩ i hi
   have:=h i hi
   intro hc
   rw [hc,cy.2 rfl] at this
   cases this
  intro h
  exact⟨hj,cy.2 rfl,fun i hi=>by
   cases hq:dL l[i].road l[j].road with
   |false=>rfl
   |true=>exact absurd (cy.1 hq) (h i hi)⟩
 have hel:∀ (j:Nat) (hj:j < l.length),gu l j=true↔HaE l[j]/\bj l l[j].road=(j:Int):=by
  intro j hj
  simp only [gu,wF hj,RP,lR,SG,SJ,Gt,beq_iff_eq,and_true,HaE]
 constructor
 ·rintro⟨h1,h2⟩
  have hu:=fun (j:Nat) (hj:j < l.length)=>(hel j hj).1 (ji h2 hj)
  refine⟨zO,fun h hh=>?_,?_⟩
  ·obtain⟨j,hj,rfl⟩:=RV hh
   exact (hu j hj).1
  rw [RU]
  intro i j hi hj hij
  exact (hat j hj).1 (hu j hj).2 i hij
 rintro⟨h1,h2,h3⟩
 rw [RU] at h3
 exact⟨zO,di fun j hj=>(hel j hj).2 ⟨h2 _ (RQ hj),(hat j hj).2 fun i hi=>h3 i j zO hj hi⟩⟩
theorem HaOk.sub {l m:List HalfD} (h:HaOk l) (s:m.Sublist l):HaOk m:=⟨SU s.length_le h.len,fun a ha=>h.el a (s.subset ha),h.pw.sublist s⟩
theorem HaOk.drop {l:List HalfD} {r:RoadD} (h:HaOk l):HaOk (bH l r):=by
 rw [bH];split
 ·exact h
 exact h.sub (oY l _)
theorem HaOk.young {l:List HalfD} {n:Int} (h:HaOk l):HaOk (ci l n):=h.sub S9
def SuE (s:SubD):Prop:=(1<=s.state/\s.state<=4)/\RN s.road/\N9 s.mine/\N9 s.theirs/\N9 s.give/\N9 s.take/\N9 s.tries
structure SuOk (l:List SubD):Prop where
 el:∀ s∈l,SuE s
 pw:l.Pairwise fun a b=>a.state=4\/b.state=4\/¬ a.road=b.road
theorem j6 {l:List SubD} {r:RoadD}:bF l r < 0↔∀ s∈l,s.state=4\/¬ s.road=r:=by
 rw [bF,t7]
 refine forall_congr' fun s=>forall_congr' fun hs=>?_
 by_cases h1:s.state=4
 ·simp [h1]
 by_cases h2:s.road=r
 ·subst h2;simp [h1,cy]
 have:dL s.road r=false:=by
  cases hq:dL s.road r with
  |false=>rfl
  |true=>exact absurd (cy.1 hq) h2
 simp [this,h2]
theorem oZ {l:List SubD} {r:RoadD} {n:Nat}:bF l r=(n:Int)↔∃ h:n < l.length,¬ l[n].state=4/\l[n].road=r/\∀ (i:Nat) (hi:i < n),l[i].state=4\/¬ l[i].road=r:=by
 rw [bF,jc]
 refine exists_congr fun h=>?_
 have hp:∀ s:SubD,(s.state != 4 && dL s.road r)=false↔s.state=4\/¬ s.road=r:=by
  intro s
  by_cases h1:s.state=4
  ·simp [h1]
  cases hq:dL s.road r with
  |false=>simp [h1,show ¬ s.road=r from fun hc=>by rw [cy.2 hc] at hq;cases hq]
  |true=>simp [h1,cy.1 hq]
 simp only [hp]
 rw [<-and_assoc]
 refine and_congr_left fun _=>?_
 simp [cy]
theorem Gu {l:List SubD}:fG (dj l) l.length=true↔SuOk l:=by
 have hel:∀ (j:Nat) (hj:j < l.length),dj l j=true↔SuE l[j]/\(l[j].state=4\/bF l l[j].road=(j:Int)):=by
  intro j hj
  simp only [dj,bE hj,RP,dt,lR,SG,SJ,Gt,beq_iff_eq,and_true,Se,SuE]
  constructor
  ·rintro⟨⟨⟨a,b⟩,c⟩,d⟩;exact⟨⟨a,b,c⟩,d⟩
  rintro⟨⟨a,b,c⟩,d⟩;exact⟨⟨⟨a,b⟩,c⟩,d⟩
 constructor
 ·intro h2
  have hu:=fun (j:Nat) (hj:j < l.length)=>(hel j hj).1 (ji h2 hj)
  refine⟨fun s hs=>?_,?_⟩
  ·obtain⟨j,hj,rfl⟩:=RV hs
   exact (hu j hj).1
  rw [RU]
  intro i j hi hj hij
  rcases (hu j hj).2 with h|h
  ·exact .inr (.inl h)
  obtain⟨_,_,_,h⟩:=oZ.1 h
  rcases h i hij with h|h
  ·exact .inl h
  exact .inr (.inr h)
 rintro⟨h2,h3⟩
 rw [RU] at h3
 refine di fun j hj=>(hel j hj).2 ⟨h2 _ (RQ hj),?_⟩
 by_cases h4:l[j].state=4
 ·exact .inl h4
 refine .inr (oZ.2 ⟨hj,h4,rfl,fun i hi=>?_⟩)
 rcases h3 i j zO hj hi with h|h|h
 ·exact .inl h
 ·exact absurd h h4
 exact .inr h
theorem SuOk.pt {l m:List SubD} (h:SuOk l) (hl:m.length=l.length) (hp:∀ (i:Nat) (h1:i < m.length) (h2:i < l.length),SuE m[i]/\m[i].road=l[i].road/\(l[i].state=4->m[i].state=4)):SuOk m:=by
 refine⟨fun s hs=>?_,?_⟩
 ·obtain⟨j,hj,rfl⟩:=RV hs
  exact (hp j hj zO).1
 have hq:=h.pw
 rw [RU] at hq⊢
 intro i j hi hj hij
 obtain⟨_,e1,e2⟩:=hp i hi zO
 obtain⟨_,f1,f2⟩:=hp j hj zO
 rcases hq i j zO zO hij with h|h|h
 ·exact .inl (e2 h)
 ·exact .inr (.inl (f2 h))
 rw [e1,f1];exact .inr (.inr h)
theorem SuOk.set {l:List SubD} {n:Nat} {s:SubD} (h:SuOk l) (hn:n < l.length) (hs:SuE s) (hr:s.road=l[n].road) (h4:l[n].state=4->s.state=4):SuOk (l.set n s):=by
 refine h.pt zP fun i h1 h2=>?_
 rw [R0]
 split
 ·rename_i e;subst e;exact⟨hs,hr,h4⟩
 exact⟨h.el _ (RQ h2),rfl,fun h=>h⟩
theorem SuOk.map {l:List SubD} {f:SubD->SubD} (h:SuOk l) (hf:∀ s∈l,SuE (f s)/\(f s).road=s.road/\(s.state=4->(f s).state=4)):SuOk (l.map f):=
 h.pt zP fun i h1 h2=>by rw [SV];exact hf _ (RQ h2)
theorem SuOk.app {l:List SubD} {s:SubD} (h:SuOk l) (hs:SuE s) (hr:∀ x∈l,x.state=4\/¬ x.road=s.road):SuOk (l++[s]):=by
 refine⟨fun x hx=>?_,?_⟩
 ·rcases RW.1 hx with hx|hx
  ·exact h.el x hx
  rw [RR.1 hx];exact hs
 rw [Sh]
 refine⟨h.pw,R_ ..,fun a ha b hb=>?_⟩
 rw [RR.1 hb]
 rcases hr a ha with h|h
 ·exact .inl h
 exact .inr (.inr h)
theorem SuE.st {s:SubD} {n:Int} (h:SuE s) (hn:1<=n/\n<=4):SuE { s with state:=n }:=⟨hn,h.2⟩
theorem SuOk.st4 {l:List SubD} {n:Nat} (h:SuOk l) (hn:n < l.length):SuOk (cq l n 4):=by
 rw [dA hn]
 exact h.set hn ((h.el _ (RQ hn)).st zO) rfl fun _=>rfl
structure OkE (e:EndD):Prop where
 side:1<=e.side/\e.side<=2
 state:0<=e.state/\e.state<=2
 pol:polOk e.policy=true
 own:AdOk e.own
 far:AdOk e.far
 halfs:HaOk e.halfs
 bucket:bucketOk e.bucket=true
 out:outOk e.out=true
 inp:piecesOk e.inp=true
 done:IdOk e.done e.own
 over:IdOk e.over e.far
 subs8:e.subs.length<=8
 nums:N9 e.key/\N9 e.peer/\N9 e.draw/\N9 e.now/\N9 e.pick
 subs:SuOk e.subs
theorem bg {e:EndD}:ai e=true↔OkE e:=by
 simp only [ai,RP,dt,oc,od,JG,Gu,SG,SJ,Gt,decide_eq_true_eq,and_true]
 constructor
 ·rintro⟨⟨⟨⟨⟨⟨⟨⟨⟨⟨⟨⟨⟨a1,a2⟩,a3⟩,a4⟩,a5⟩,a6⟩,a7⟩,a8⟩,a9⟩,a10⟩,a11⟩,a12⟩,a13⟩,a14⟩
  exact⟨a1,a2,a3,a4,a5,a6,a7,a8,a9,a10,a11,zO,a13,a14⟩
 rintro⟨a1,a2,a3,a4,a5,a6,a7,a8,a9,a10,a11,a12,a13,a14⟩
 exact⟨⟨⟨⟨⟨⟨⟨⟨⟨⟨⟨⟨⟨a1,a2⟩,a3⟩,a4⟩,a5⟩,a6⟩,a7⟩,a8⟩,a9⟩,a10⟩,a11⟩,zO⟩,a13⟩,a14⟩
theorem mP {x:LetterD} (h:du x=true):N9 x.frm/\N9 x.to/\N9 x.port/\N9 x.nonce/\N9 x.give/\N9 x.sgn/\N9 x.id/\N9 x.addr/\N9 x.pos:=by
 simp only [du,cv,eU,SG,SJ,gp,RP,decide_eq_true_eq,Bool.and_true] at h
 simp only [N9]
 omega
theorem HaOk.pt {l m:List HalfD} (h:HaOk l) (hl:m.length=l.length) (hp:∀ (i:Nat) (h1:i < m.length) (h2:i < l.length),HaE m[i]/\m[i].road=l[i].road):HaOk m:=by
 refine⟨by rw [hl];exact h.len,fun a ha=>?_,?_⟩
 ·obtain⟨j,hj,rfl⟩:=RV ha
  exact (hp j hj zO).1
 have hq:=h.pw
 rw [RU] at hq⊢
 intro i j hi hj hij
 rw [(hp i hi zO).2,(hp j hj zO).2]
 exact hq i j zO zO hij
theorem IdOk.pt {l:List Int} {t u:List AddrD} (h:IdOk l t) (hu:∀ a∈u,∃ b∈t,b.id=a.id):IdOk l u:=⟨h.pw,fun n hn=>⟨(h.el n hn).1,fun a ha=>by
 obtain⟨b,hb,e⟩:=hu a ha
 rw [<-e];exact (h.el n hn).2 b hb⟩⟩
theorem yb {b:BucketD} (h:bucketOk b=true):bucketOk (bl b).1=true:=by
 rw [bl];split
 ·rename_i hc
  simp only [bucketOk,RP,dt] at h⊢
  have:=hc.2
  omega
 exact h
theorem A1 {b:BucketD} (h:bucketOk b=true):bucketOk (cW b)=true:=by
 rw [cW,if_pos h]
 simp only [bucketOk,RP,dt] at h⊢
 omega
theorem o0 {o:OutD}:outOk o=true↔FineO o:=by
 refine⟨cg,fun h=>?_⟩
 obtain⟨h1,h2,h3,h4,h5⟩:=h
 simp only [outOk,gp,cv,RP,decide_eq_true_eq]
 rw [yV zO]
 omega
theorem NR {o:OutD} {n:Int} (h:outOk o=true) (hn:N9 n):outOk (came o n)=true:=by
 have F:=cg h
 obtain⟨h1,h2,h3,h4,h5⟩:=F
 rw [came];split
 ·rename_i hc
  obtain⟨_,c1,c2⟩:=hc
  rw [yV zO] at c2
  rw [o0]
  refine⟨hn,h2,?_,?_⟩
  ·simp only [R6];omega
  simp only [R6];split<;>omega
 exact h
theorem sK {l:List Int} {n:Int}:m8 l n=true↔n∈l:=by simp [m8]
theorem LI {l:List Int} {n:Int}:m8 l n=false↔¬ n∈l:=by rw [<-sK];simp
theorem lS {l:List SubD} {r:RoadD} (h:0<=bF l r):∃ n:Nat,bF l r=(n:Int)/\∃ hn:n < l.length,¬ l[n].state=4/\l[n].road=r/\∀ (i:Nat) (hi:i < n),l[i].state=4\/¬ l[i].road=r:=by
 obtain⟨n,hn⟩:=oX h
 exact⟨n,hn,oZ.1 hn⟩
theorem jI {l:List HalfD} {r:RoadD} (h:0<=bj l r):∃ n:Nat,bj l r=(n:Int)/\∃ hn:n < l.length,l[n].road=r:=by
 obtain⟨n,hn⟩:=oX h
 obtain⟨h1,h2,_⟩:=jc.1 hn
 exact⟨n,hn,h1,cy.1 h2⟩
theorem lr {l:List AddrD} {k:Int} (h:0<=aW l k):∃ n:Nat,aW l k=(n:Int)/\∃ hn:n < l.length,l[n].id=k:=by
 obtain⟨n,hn⟩:=oX h
 obtain⟨h1,h2,_⟩:=jc.1 hn
 exact⟨n,hn,h1,by simpa using h2⟩
theorem Ct {e:EndD} {x:LetterD} (h:0<=iP e x):∃ n:Nat,iP e x=(n:Int)/\cA e x=(n:Int)/\∃ hn:n < e.subs.length,e.subs[n].state=3/\e.subs[n].take=x.sgn/\e.subs[n].road=roadOf x/\du x=true:=by
 rcases gD e x with h0|⟨n,h1,h2,h3,_,h5⟩
 ·omega
 refine⟨n,h1,h2,h3,?_⟩
 rw [cA] at h2
 split at h2
 ·omega
 rename_i h6
 split at h2
 ·rename_i h7
  obtain⟨m,hm,hmn,_,hr,_⟩:=lS (show 0<=bF e.subs (roadOf x) by omega)
  have:m=n:=zO
  subst this
  rw [hm,RT,bE hmn] at h7
  exact⟨h7.1,h7.2,hr,h5⟩
 omega
theorem A2 {x:LetterD} (h:du x=true):RN (roadOf x):=by
 obtain⟨h1,h2,h3,_⟩:=mP h
 exact⟨h2,h1,h3⟩
theorem H8 {e:EndD} {x:LetterD} (h:OkE e) (hst:e.state=2):OkE (aG e x).1/\(aG e x).1.state=2:=by
 refine nQ (Q:=fun r=>OkE r.1/\r.1.state=2) ⟨h,hst⟩ ?_ ?_ ?_ ?_ ?_ ?_ ?_ ?_ ?_ ?_ ?_ ?_
 ·unfold aI;split
  ·rename_i hk
   simp only [iy,RP,decide_eq_true_eq] at hk
   omega
  exact⟨h,hst⟩
 ·unfold br;split
  ·rename_i hk
   simp only [lh,RP,decide_eq_true_eq] at hk
   omega
  exact⟨h,hst⟩
 ·unfold bK;split
  ·rename_i hk
   simp only [ll,RP,decide_eq_true_eq,dt] at hk
   obtain⟨⟨⟨⟨⟨⟨⟨⟨⟨k1,k2⟩,k3⟩,k4⟩,k5⟩,k6⟩,k7⟩,k8⟩,k9⟩,k10⟩:=hk
   have hd:N9 (e.draw+4):=⟨zO,zO⟩
   split
   ·rename_i hs
    simp only [dO,RP,decide_eq_true_eq] at hs
    obtain⟨n,e1,hn,_⟩:=jI hs.1.1
    refine⟨⟨h.side,h.state,h.pol,h.own,h.far,?_,yb h.bucket,h.out,h.inp,h.done,h.over,h.subs8,h.nums,h.subs⟩,hst⟩
    dsimp only
    rw [qb,e1,RT,eK hn]
    refine h.halfs.pt zP fun i h1 h2=>?_
    rw [R0]
    have hel:=h.halfs.el _ (RQ h2)
    split
    ·rename_i e;subst e
     exact⟨⟨hel.1,hel.2.1,hel.2.2.1,hel.2.2.2.1,hel.2.2.2.2.1,by have:=h.nums.2.2.2.1;simp only [N9] at this⊢;omega⟩,rfl⟩
    exact⟨hel,rfl⟩
   refine⟨⟨h.side,h.state,h.pol,h.own,h.far,?_,yb h.bucket,h.out,h.inp,h.done,h.over,h.subs8,⟨h.nums.1,h.nums.2.1,hd,h.nums.2.2.2⟩,h.subs⟩,hst⟩
   dsimp only
   rw [aX];split
   ·rename_i hh;exact od.1 hh
   exact h.halfs
  exact⟨h,hst⟩
 ·unfold aF;split
  ·rename_i hk
   simp only [rS,RP,decide_eq_true_eq] at hk
   obtain⟨⟨⟨⟨⟨k1,k2⟩,k3⟩,k4⟩,k5⟩,k6⟩:=hk
   obtain⟨n,e1,hn,_,_,_⟩:=lS k4
   rw [e1,RT,bE hn] at k5
   obtain⟨_,_,_,x1,x2,_⟩:=mP k2
   have hel:=h.subs.el _ (RQ hn)
   refine⟨⟨h.side,h.state,h.pol,h.own,h.far,h.halfs,h.bucket,h.out,h.inp,h.done,h.over,by dsimp only;rw [R1];exact h.subs8,h.nums,?_⟩,hst⟩
   dsimp only
   rw [e1,RT,bE hn]
   exact h.subs.set hn ⟨by simp [ed],hel.2.1,hel.2.2.1,x1,x2,hel.2.2.2.2.2.1,by simp [ed,N9]⟩ rfl fun h4=>by omega
  exact⟨h,hst⟩
 ·unfold aq;split
  ·rename_i hk
   simp only [lj,RP,decide_eq_true_eq] at hk
   split
   ·rename_i ha
    simp only [pL,RP,decide_eq_true_eq] at ha
    obtain⟨i,e2,hi,_⟩:=jI ha.1.1
    have hel:=h.halfs.el _ (RQ hi)
    have hsu:SuE (fi (roadOf x) (qb e x)):=by
     rw [qb,e2,RT,eK hi]
     exact⟨by simp [fi],A2 hk.1.2,hel.2.2.1,hel.2.1,hel.2.2.2.1,hel.2.2.2.2.1,by simp [fi,N9]⟩
    refine⟨⟨h.side,h.state,h.pol,h.own,h.far,h.halfs.drop,h.bucket,h.out,h.inp,h.done,h.over,?_,h.nums,?_⟩,hst⟩
    ·dsimp only
     split<;>simp only [cq,R2,R1,Sg]<;>omega
    dsimp only
    split
    ·rename_i h0
     obtain⟨n,e1,hn,k1,k2,k3⟩:=lS h0
     rw [e1,RT]
     refine (h.subs.st4 hn).app hsu fun y hy=>?_
     rw [dA hn] at hy
     obtain⟨j,hj,rfl⟩:=RV hy
     rw [R0]
     split
     ·exact .inl rfl
     rename_i hnj
     rw [R1] at hj
     have hq:=h.subs.pw
     rw [RU] at hq
     have:e.subs[j].state=4\/¬ e.subs[j].road=e.subs[n].road:=by
      rcases SP hnj with hl|hl
      ·rcases hq n j hn hj hl with q|q|q
       ·exact absurd q k1
       ·exact .inl q
       exact .inr fun hc=>q hc.symm
      rcases hq j n hj hn hl with q|q|q
      ·exact .inl q
      ·exact absurd q k1
      exact .inr q
     rw [k2] at this
     exact this
    rename_i h0
    refine h.subs.app hsu fun y hy=>?_
    exact j6.1 (show bF e.subs (roadOf x) < 0 by omega) y hy
   split<;>exact⟨h,hst⟩
  exact⟨h,hst⟩
 ·unfold aM;dsimp only;split
  ·rename_i hk
   simp only [lG,RP,decide_eq_true_eq] at hk
   obtain⟨⟨⟨⟨k1,k2⟩,k3⟩,k4⟩,k5⟩:=hk
   obtain⟨n,e1,hn,_,_,_⟩:=lS k3
   rw [e1,RT,bE hn] at k4
   refine⟨⟨h.side,h.state,h.pol,h.own,h.far,h.halfs,h.bucket,h.out,h.inp,h.done,h.over,by dsimp only;rw [cq,R1];exact h.subs8,h.nums,?_⟩,hst⟩
   dsimp only
   rw [e1,RT,dA hn]
   exact h.subs.set hn ((h.subs.el _ (RQ hn)).st zO) rfl fun h4=>by omega
  exact⟨h,hst⟩
 ·unfold bW;split
  ·rename_i hk
   simp only [gG,RP,R9,LI] at hk
   exact⟨⟨h.side,h.state,h.pol,h.own,h.far.put,h.halfs,h.bucket,h.out,h.inp,h.done,h.over.put hk.1.1.2,h.subs8,h.nums,h.subs⟩,hst⟩
  exact⟨h,hst⟩
 ·unfold bY;dsimp only;split
  ·rename_i hk
   simp only [iG,RP,decide_eq_true_eq] at hk
   obtain⟨n,e1,hn,_⟩:=lr hk.1.2
   have hp:∀ (i:Nat) (h1:i < (e.own.set (aW e.own x.id).toNat { nJ e.own (aW e.own x.id).toNat with told:=true }).length) (h2:i < e.own.length),
     (e.own.set (aW e.own x.id).toNat { nJ e.own (aW e.own x.id).toNat with told:=true })[i].id=e.own[i].id/\(e.own.set (aW e.own x.id).toNat { nJ e.own (aW e.own x.id).toNat with told:=true })[i].addr=e.own[i].addr:=by
    intro i h1 h2
    rw [R0]
    split
    ·rename_i he
     rw [e1,RT] at he
     subst he
     rw [e1,RT,gy hn]
     exact⟨rfl,rfl⟩
    exact⟨rfl,rfl⟩
   refine⟨⟨h.side,h.state,h.pol,h.own.pt zP hp,h.far,h.halfs,h.bucket,h.out,h.inp,h.done.pt fun a ha=>?_,h.over,h.subs8,h.nums,h.subs⟩,hst⟩
   obtain⟨j,hj,rfl⟩:=RV ha
   have hj':=hj
   rw [R1] at hj'
   exact⟨e.own[j],RQ hj',(hp j hj hj').1.symm⟩
  exact⟨h,hst⟩
 ·unfold bZ;dsimp only;split
  ·rename_i hk
   simp only [qj,RP,decide_eq_true_eq] at hk
   obtain⟨n,e1,hn,e2⟩:=lr hk.2
   refine⟨⟨h.side,h.state,h.pol,h.own,h.far.drop,h.halfs,h.bucket,h.out,h.inp,h.done,h.over.drop h.far ⟨_,RQ hn,e2⟩,by dsimp only;rw [Sv];exact h.subs8,h.nums,h.subs.map fun s hs=>?_⟩,hst⟩
   rw [lK];split
   ·exact⟨(h.subs.el s hs).st zO,rfl,fun _=>rfl⟩
   exact⟨h.subs.el s hs,rfl,fun h=>h⟩
  exact⟨h,hst⟩
 ·unfold b_;split
  ·refine⟨⟨h.side,h.state,h.pol,h.own,h.far,h.halfs,h.bucket,h.out,?_,h.done,h.over,h.subs8,h.nums,h.subs⟩,hst⟩
   dsimp only
   rw [qk]
   rcases kS e.inp x.pos x.text with hp|hp
   ·rw [hp];exact h.inp
   exact hp
  exact⟨h,hst⟩
 ·unfold bR;dsimp only;split
  ·rename_i hk
   obtain⟨n,_,_,hn,_,_,_,hl⟩:=Ct hk
   obtain⟨_,_,_,_,_,_,_,_,hp⟩:=mP hl
   exact⟨⟨h.side,h.state,h.pol,h.own,h.far,h.halfs,h.bucket,NR h.out hp,h.inp,h.done,h.over,h.subs8,h.nums,h.subs⟩,hst⟩
  exact⟨h,hst⟩
 unfold bG;dsimp only;split
 ·rename_i hk
  obtain⟨n,_,e1,hn,_⟩:=Ct hk
  refine⟨⟨h.side,h.state,h.pol,h.own,h.far,h.halfs,h.bucket,h.out,h.inp,h.done,h.over,by dsimp only;rw [cq,R1];exact h.subs8,h.nums,?_⟩,hst⟩
  dsimp only
  rw [e1,RT]
  exact h.subs.st4 hn
 exact⟨h,hst⟩
theorem EA {o:OutD} (F:FineO o):((bU o).length:Int)<=o.base+(o.text.length:Int) - o.sent:=by
 have:=F.sent
 simp only [bU,Sl,R6]
 omega
theorem Gv {o:OutD} (h:outOk o=true):outOk (eN o)=true:=by
 rw [eN];split
 ·have F:=cg h
  have hl:=EA F
  obtain⟨h1,h2,h3,h4,h5⟩:=F
  rw [o0]
  exact⟨h1,h2,h3,by dsimp only;omega⟩
 exact h
theorem LJ {n:Int} (h:N9 n):N9 (gM n):=by
 simp only [N9] at h⊢
 rw [gM];split<;>omega
theorem vH {e:EndD} (h:OkE e):OkE (cB e).1:=by
 unfold cB;split
 ·exact⟨h.side,h.state,h.pol,h.own,h.far,h.halfs,h.bucket,Gv h.out,h.inp,h.done,h.over,h.subs8,⟨h.nums.1,h.nums.2.1,h.nums.2.2.1,h.nums.2.2.2.1,LJ h.nums.2.2.2.2⟩,h.subs⟩
 exact h
theorem re {e:EndD}:(cB e).1.state=e.state:=by unfold cB;split<;>rfl
theorem yc:∀ {k:Nat} {e:EndD},OkE e->OkE (pushN k e).1/\(pushN k e).1.state=e.state
 |0,e,h=>⟨h,rfl⟩
 |k+1,e,h=>by
  obtain⟨h1,h2⟩:=yc (k:=k) (vH h)
  exact⟨h1,h2.trans re⟩
theorem JH {o:OutD} {t:List UInt8} (h:outOk o=true):outOk (dp o t).1=true:=by
 rw [dp];split
 ·obtain⟨h1,h2,h3,h4,h5⟩:=cg h
  rw [o0]
  refine⟨h1,h2,?_,?_⟩
  ·simp only [R2,Sl,nR];omega
  simp only [R2,Sl,nR];omega
 exact h
theorem yd {e:EndD} {t:List UInt8} (h:OkE e):OkE (cO e t).1/\(cO e t).1.state=e.state:=by
 unfold cO;split
 ·exact⟨⟨h.side,h.state,h.pol,h.own,h.far,h.halfs,h.bucket,JH h.out,h.inp,h.done,h.over,h.subs8,h.nums,h.subs⟩,rfl⟩
 exact⟨h,rfl⟩
theorem H9 {p:PiecesD} {m:Int} (h:piecesOk p=true) (hs:SmallP p):piecesOk (aZ p m).1=true:=by
 rw [aZ];split
 ·rename_i hk
  simp only [qw,RP,decide_eq_true_eq] at hk
  have F:=ax h hs
  have hr:=F.ready
  have hr0:=F.r0
  have hn:=F.next
  have hN:tQ p m<=p.ready.length:=SW _ _
  simp only [piecesOk,gp,RP,decide_eq_true_eq] at h⊢
  obtain⟨⟨⟨⟨a1,a2⟩,a3⟩,a4⟩,a5⟩:=h
  have hle:=BU (M:=200) fun x hx=>(F.texts x hx).1
  have hm:p.list.length*200<=20*200:=Nat.mul_le_mul_right _ F.list
  refine⟨⟨⟨⟨zO,zO⟩,a3⟩,?_⟩,?_⟩
  ·rw [lc,km zO zO] at a4
   show iX ((p.ready.drop (tQ p m)).length:Int) p.list<=200
   rw [km zO (by rw [R6];omega),R6]
   omega
  have e:nextOf ⟨p.read+(tQ p m:Int),p.ready.drop (tQ p m),p.list⟩=nextOf p:=by
   rw [hn,nextOf,yV (by simp only [R6];omega)]
   simp only [R6]
   omega
  rw [e];exact a5
 exact h
theorem LK {e:EndD} {m:Int} (h:OkE e) (hs:SmallP e.inp):OkE (az e m).1/\(az e m).1.state=e.state:=by
 unfold az;split
 ·exact⟨⟨h.side,h.state,h.pol,h.own,h.far,h.halfs,h.bucket,h.out,H9 h.inp hs,h.done,h.over,h.subs8,h.nums,h.subs⟩,rfl⟩
 exact⟨h,rfl⟩
theorem H_ {o:OutD} (h:outOk o=true):outOk (dQ o)=true:=by
 rw [dQ,if_pos h]
 obtain⟨h1,h2,h3,h4,h5⟩:=cg h
 rw [o0]
 exact⟨h1,h2,h3,by dsimp only;omega⟩
theorem ye {e:EndD} {l:List LetterD} (h:OkE e):OkE (bu e l).1/\(bu e l).1.state=e.state:=yc h
theorem NS {e:EndD} (h:OkE e):OkE (tick e).1/\(tick e).1.state=e.state:=by
 unfold tick;split
 ·rename_i hk
  simp only [yQ,RP,decide_eq_true_eq,R5] at hk
  have h0:∀ s:List SubD,s.length<=8->SuOk s->OkE { tick0 e with subs:=s }:=fun s h8 hs=>
   ⟨h.side,h.state,h.pol,h.own,h.far,h.halfs.young,A1 h.bucket,H_ h.out,h.inp,h.done,h.over,h8,⟨h.nums.1,h.nums.2.1,h.nums.2.2.1,by have:=h.nums.2.2.2.1;simp only [N9,tick0] at this⊢;omega,h.nums.2.2.2.2⟩,hs⟩
  split
  ·refine ye (h0 _ (by rw [Sv];exact h.subs8) (h.subs.map fun s hs=>?_))
   have hel:=h.subs.el s hs
   have ht:=hk.2 s hs
   have hN:N9 (s.tries+1):=by have:=hel.2.2.2.2.2.2;simp only [N9] at this⊢;omega
   rw [tickS];split
   ·rename_i hc
    split
    ·exact⟨⟨zP,hel.2.1,hel.2.2.1,hel.2.2.2.1,hel.2.2.2.2.1,hel.2.2.2.2.2.1,hN⟩,rfl,fun _=>rfl⟩
    exact⟨⟨hel.1,hel.2.1,hel.2.2.1,hel.2.2.2.1,hel.2.2.2.2.1,hel.2.2.2.2.2.1,hN⟩,rfl,fun h=>h⟩
   exact⟨hel,rfl,fun h=>h⟩
  exact ye (h0 e.subs h.subs8 h.subs)
 exact⟨h,rfl⟩
theorem Cu {e:EndD} {r:RoadD} {b:Bool} (h:OkE e):OkE (join e r b).1/\(join e r b).1.state=e.state:=by
 unfold join;split
 ·rename_i hk
  simp only [tR,RP,decide_eq_true_eq,dt,lR] at hk
  obtain⟨⟨⟨⟨⟨⟨⟨k1,k2⟩,k3⟩,k4⟩,k5⟩,k6⟩,k7⟩,k8⟩:=hk
  refine⟨⟨h.side,h.state,h.pol,h.own,h.far,h.halfs,h.bucket,h.out,h.inp,h.done,h.over,by simp only [R2,Sg];omega,⟨h.nums.1,h.nums.2.1,⟨by dsimp only;omega,by dsimp only;omega⟩,h.nums.2.2.2⟩,?_⟩,rfl⟩
  refine h.subs.app ⟨by simp [bL],k3,?_,?_,?_,?_,?_⟩ fun x hx=>j6.1 k4 x hx
  all_goals simp only [bL,N9];omega
 exact⟨h,rfl⟩
theorem EB {far:List AddrD}:∀ {l:List RoadD} {e:EndD},OkE e->OkE (cF far e l).1/\(cF far e l).1.state=e.state
 |[],e,h=>⟨h,rfl⟩
 |r::l,e,h=>by
  obtain⟨h1,h2⟩:=Cu (r:=r) (b:=aC far r.far) h
  obtain⟨h3,h4⟩:=EB (far:=far) (l:=l) h1
  exact⟨h3,h4.trans h2⟩
theorem Ia {e:EndD} {a:ActD} (h:OkE e) (hs:SmallP e.inp):OkE (dl e a).1/\(dl e a).1.state=e.state:=by
 unfold dl
 split
 ·obtain⟨h1,h2⟩:=yd (t:=a.text) h
  obtain⟨h3,h4⟩:=yc (k:=3) h1
  exact⟨h3,h4.trans h2⟩
 split
 ·exact LK h hs
 split
 ·exact NS h
 split
 ·unfold manage;split
  ·exact EB h
  exact⟨h,rfl⟩
 split
 ·unfold aR;split
  ·rename_i hk
   simp only [F4,RP,R9,LI] at hk
   exact⟨⟨h.side,h.state,h.pol,h.own.put,h.far,h.halfs,h.bucket,h.out,h.inp,h.done.put hk.2,h.over,h.subs8,h.nums,h.subs⟩,rfl⟩
  exact⟨h,rfl⟩
 split
 ·unfold jV;split
  ·rename_i hk
   simp only [O5,RP,decide_eq_true_eq] at hk
   obtain⟨n,e1,hn,e2⟩:=lr hk.2
   refine⟨⟨h.side,h.state,h.pol,h.own.drop,h.far,h.halfs,h.bucket,h.out,h.inp,h.done.drop h.own ⟨_,RQ hn,e2⟩,h.over,by dsimp only;rw [jA,Sv];exact h.subs8,h.nums,h.subs.map fun s hs=>?_⟩,rfl⟩
   rw [HR];split
   ·exact⟨(h.subs.el s hs).st zO,rfl,fun _=>rfl⟩
   exact⟨h.subs.el s hs,rfl,fun h=>h⟩
  exact⟨h,rfl⟩
 unfold mC;split
 ·rename_i hk
  simp only [NH,RP,decide_eq_true_eq,dt] at hk
  obtain⟨n,hn⟩:=SC hk.1.2.1
  refine⟨⟨h.side,h.state,h.pol,h.own,h.far,h.halfs,h.bucket,h.out,h.inp,h.done,h.over,by dsimp only;rw [cq,R1];exact h.subs8,h.nums,?_⟩,rfl⟩
  dsimp only
  rw [hn,RT]
  exact h.subs.st4 zO
 exact⟨h,rfl⟩
def bk (r:RoadD):RoadD:=⟨r.far,r.own,r.port⟩
theorem fF (r:RoadD):bk (bk r)=r:=rfl
theorem bz (r:RoadD) (x:LetterD):roadOf (ah r x)=bk r:=rfl
def Loose (nums:List Int) (n:Int):Prop:=n < 1000\/n∈nums
def Slice (W:List UInt8) (p:Int) (t:List UInt8):Prop:=0<=p/\p+(t.length:Int)<=W.length/\t=(W.drop p.toNat).take t.length
theorem Slice.app {W:List UInt8} {p:Int} {t:List UInt8} (h:Slice W p t) (V:List UInt8):Slice (W++V) p t:=by
 obtain⟨h0,h1,h2⟩:=h
 refine⟨h0,by simp only [R2];omega,?_⟩
 rw [Sq zO,List.take_append_of_le_length (by simp only [R6];omega)]
 exact h2
def Told (e:EndD) (i d:Int):Prop:=(∃ q∈e.own,q.id=i/\q.addr=d)\/i∈e.done
structure LetI (w:WorldD) (x:LetterD):Prop where
 a4:sideAt x.to=1->x.kind=4->Loose w.nums x.nonce
 a5:sideAt x.to=1->x.kind=5->∀ m,x.tag=⟨1,w.b.key,w.a.key,x.nonce,m⟩->Loose w.nums m\/(x.nonce < w.b.draw/\∀ h∈w.b.halfs,h.mine=x.nonce->h.theirs=m/\h.take=x.give/\h.road=bk (roadOf x))
 a6:sideAt x.to=1->x.kind=6->∀ m n,¬ x.tag=⟨2,w.b.key,w.a.key,m,n⟩
 a7:sideAt x.to=1->x.kind=7->Loose w.nums x.sgn\/∃ t∈w.b.subs,t.give=x.sgn
 a8:sideAt x.to=1->x.kind=8->∀ i d,x.tag=⟨3,w.b.key,w.a.key,i,d⟩->sideAt d=2/\Told w.b i d
 a11:sideAt x.to=1->x.kind=11->Loose w.nums x.sgn\/Slice w.wroteB x.pos x.text
 b4:sideAt x.to=2->x.kind=4->Loose w.nums x.nonce\/∃ s∈w.a.subs,1000<=s.mine/\x.nonce=s.mine/\x.give=s.take/\roadOf x=bk s.road
 b6:sideAt x.to=2->x.kind=6->∀ m n,x.tag=⟨2,w.a.key,w.b.key,m,n⟩->∃ s∈w.a.subs,¬ s.state=1/\1000<=s.mine/\m=s.mine/\n=s.theirs/\roadOf x=bk s.road
 b8:sideAt x.to=2->x.kind=8->∀ i d,x.tag=⟨3,w.a.key,w.b.key,i,d⟩->sideAt d=1/\Told w.a i d
 b11:sideAt x.to=2->x.kind=11->Loose w.nums x.sgn\/Slice w.wroteA x.pos x.text
structure SubTo (s s':SubD):Prop where
 road:s'.road=s.road
 mine:s'.mine=s.mine
 take:s'.take=s.take
 rest:¬ s.state=1->¬ s'.state=1/\s'.theirs=s.theirs/\s'.give=s.give
theorem SubTo.refl (s:SubD):SubTo s s:=⟨rfl,rfl,rfl,fun h=>⟨h,rfl,rfl⟩⟩
structure Le (w w':WorldD):Prop where
 ka:w'.a.key=w.a.key
 kb:w'.b.key=w.b.key
 nums:∀ n∈w.nums,n∈w'.nums
 sa:∀ s∈w.a.subs,∃ s'∈w'.a.subs,SubTo s s'
 sb:∀ t∈w.b.subs,∃ t'∈w'.b.subs,t'.give=t.give
 db:w.b.draw<=w'.b.draw
 hb:∀ h'∈w'.b.halfs,w.b.draw<=h'.mine\/∃ h∈w.b.halfs,h.mine=h'.mine/\h.theirs=h'.theirs/\h.take=h'.take/\h.road=h'.road
 ta:∀ i d,Told w.a i d->Told w'.a i d
 tb:∀ i d,Told w.b i d->Told w'.b i d
 wa:∃ t,w'.wroteA=w.wroteA++t
 wb:∃ t,w'.wroteB=w.wroteB++t
theorem Loose.mono {l m:List Int} {n:Int} (h:Loose l n) (g:∀ n∈l,n∈m):Loose m n:=h.imp id (g n)
theorem LetI.mono {w w':WorldD} {x:LetterD} (L:LetI w x) (h:Le w w'):LetI w' x:=by
 refine⟨?_,?_,?_,?_,?_,?_,?_,?_,?_,?_⟩
 ·exact fun h1 h2=>(L.a4 h1 h2).mono h.nums
 ·intro h1 h2 m h3
  rw [h.ka,h.kb] at h3
  rcases L.a5 h1 h2 m h3 with q|⟨q1,q2⟩
  ·exact .inl (q.mono h.nums)
  refine .inr ⟨SQ q1 h.db,fun k hk hm=>?_⟩
  rcases h.hb k hk with g|⟨k',g1,g2,g3,g4,g5⟩
  ·omega
  rw [<-g3,<-g4,<-g5];exact q2 k' g1 zO
 ·intro h1 h2;rw [h.ka,h.kb];exact L.a6 h1 h2
 ·intro h1 h2
  rcases L.a7 h1 h2 with q|⟨t,q1,q2⟩
  ·exact .inl (q.mono h.nums)
  obtain⟨t',g1,g2⟩:=h.sb t q1
  exact .inr ⟨t',g1,g2.trans q2⟩
 ·intro h1 h2 i d h3
  rw [h.ka,h.kb] at h3
  obtain⟨q1,q2⟩:=L.a8 h1 h2 i d h3
  exact⟨q1,h.tb i d q2⟩
 ·intro h1 h2
  rcases L.a11 h1 h2 with q|q
  ·exact .inl (q.mono h.nums)
  obtain⟨t,e⟩:=h.wb
  rw [e];exact .inr (q.app t)
 ·intro h1 h2
  rcases L.b4 h1 h2 with q|⟨s,q1,q2,q3,q4,q5⟩
  ·exact .inl (q.mono h.nums)
  obtain⟨s',g1,g2⟩:=h.sa s q1
  exact .inr ⟨s',g1,by rw [g2.mine];exact q2,by rw [g2.mine];exact q3,by rw [g2.take];exact q4,by rw [g2.road];exact q5⟩
 ·intro h1 h2 m n h3
  rw [h.ka,h.kb] at h3
  obtain⟨s,q1,q2,q3,q4,q5,q6⟩:=L.b6 h1 h2 m n h3
  obtain⟨s',g1,g2⟩:=h.sa s q1
  obtain⟨r1,r2,r3⟩:=g2.rest q2
  exact⟨s',g1,r1,by rw [g2.mine];exact q3,by rw [g2.mine];exact q4,by rw [r2];exact q5,by rw [g2.road];exact q6⟩
 ·intro h1 h2 i d h3
  rw [h.ka,h.kb] at h3
  obtain⟨q1,q2⟩:=L.b8 h1 h2 i d h3
  exact⟨q1,h.ta i d q2⟩
 intro h1 h2
 rcases L.b11 h1 h2 with q|q
 ·exact .inl (q.mono h.nums)
 obtain⟨t,e⟩:=h.wa
 rw [e];exact .inr (q.app t)
structure SubA (nums:List Int) (da db:Int) (hb:List HalfD) (sb:List SubD) (s:SubD):Prop where
 t4:s.take % 4=3/\1000<=s.take/\s.take < da
 tn:¬ s.take∈nums
 mine:s.mine=0\/(s.mine+2=s.take/\¬ s.mine∈nums)
 own:sideAt s.road.own=1
 far:sideAt s.road.far=2
 th:s.theirs < db/\∀ h∈hb,h.mine=s.theirs->h.theirs=s.mine/\h.take=s.give/\h.road=bk s.road
 on:s.state=3->∃ t∈sb,t.road=bk s.road/\t.take=s.give/\t.give=s.take
 ask:s.state=1\/s.state=2->1000<=s.mine
structure SubB (nums:List Int) (db:Int) (sa:List SubD) (t:SubD):Prop where
 t4:t.take % 4=0/\1000<=t.take/\t.take < db
 tn:¬ t.take∈nums
 st:t.state=3\/t.state=4
 like:∃ s∈sa,¬ s.state=1/\s.road=bk t.road/\s.take=t.give/\s.give=t.take
structure HalfA (nums:List Int) (da:Int) (sa:List SubD) (h:HalfD):Prop where
 m4:h.mine % 4=1/\1000<=h.mine/\h.mine+2 < da/\h.take=h.mine+2
 sep:∀ s∈sa,¬ s.take=h.take
 th:Loose nums h.theirs
structure HalfB (nums:List Int) (db:Int) (sa sb:List SubD) (h:HalfD):Prop where
 m4:h.mine % 4=2/\1000<=h.mine/\h.mine+2 < db/\h.take=h.mine+2
 sep:∀ t∈sb,¬ t.take=h.take
 th:Loose nums h.theirs\/(¬ h.take∈nums/\∃ s∈sa,1000<=s.mine/\s.mine=h.theirs/\s.take=h.give/\s.road=bk h.road)
structure OutI (W:List UInt8) (o:OutD):Prop where
 base:0<=o.base/\o.base+(o.text.length:Int)=W.length
 text:o.text=W.drop o.base.toNat
structure InI (W R:List UInt8) (p:PiecesD):Prop where
 read:p.read=R.length
 pre:∃ T,W=R++p.ready++T
 list:∀ x∈p.list,Slice W x.pos x.text
structure Core (w:WorldD):Prop where
 oka:OkE w.a
 okb:OkE w.b
 sta:w.a.state=2
 stb:w.b.state=2
 sia:w.a.side=1
 sib:w.b.side=2
 ka:1000<=w.a.key
 kb:1000<=w.b.key
 kk:¬ w.a.key=w.b.key
 pa:w.a.peer=w.b.key
 pb:w.b.peer=w.a.key
 keys:w.known.keys=[5,7]
 tags:∀ u∈w.known.tags,u.kind=1/\Loose w.nums u.b
 da:w.a.draw % 4=1/\1000<=w.a.draw
 db:w.b.draw % 4=2/\1000<=w.b.draw
 nn:∀ n∈w.nums,(n % 2=1->n < w.a.draw)/\(n % 2=0->n < w.b.draw)
 sa:∀ s∈w.a.subs,SubA w.nums w.a.draw w.b.draw w.b.halfs w.b.subs s
 sad:w.a.subs.Pairwise fun s t=>¬ s.take=t.take
 sb:∀ t∈w.b.subs,SubB w.nums w.b.draw w.a.subs t
 ha:∀ h∈w.a.halfs,HalfA w.nums w.a.draw w.a.subs h
 hb:∀ h∈w.b.halfs,HalfB w.nums w.b.draw w.a.subs w.b.subs h
 hbd:w.b.halfs.Pairwise fun h k=>¬ h.take=k.take
 oa:∀ q∈w.a.own,sideAt q.addr=1
 ob:∀ q∈w.b.own,sideAt q.addr=2
 fa:∀ f∈w.a.far,sideAt f.addr=2/\Told w.b f.id f.addr
 fb:∀ f∈w.b.far,sideAt f.addr=1/\Told w.a f.id f.addr
 oia:OutI w.wroteA w.a.out
 oib:OutI w.wroteB w.b.out
 iia:InI w.wroteB w.readA w.a.inp
 iib:InI w.wroteA w.readB w.b.inp
structure Inv (w:WorldD):Prop where
 c:Core w
 bag:∀ x∈w.bag,LetI w x
 past:∀ x∈w.past,LetI w x
theorem kz {l:List SubD} (h:l.Pairwise fun s t=>¬ s.take=t.take) {s t:SubD} (hs:s∈l) (ht:t∈l) (e:s.take=t.take):s=t:=by
 obtain⟨i,hi,rfl⟩:=RV hs
 obtain⟨j,hj,rfl⟩:=RV ht
 rw [RU] at h
 rcases Sk i j with hl|hl|hl
 ·exact absurd e (h i j hi hj hl)
 ·subst hl;rfl
 exact absurd e.symm (h j i hj hi hl)
structure Free (w:WorldD) (x:LetterD):Prop where
 kind:x.tag.kind=1
 th:Loose w.nums x.tag.b
 sgn:x.sgn=0
 sa:∀ s∈w.a.subs,¬ s.take=x.give/\¬ s.take=x.nonce/\(s.mine=0\/¬ s.mine=x.nonce/\¬ s.mine=x.give)
 sb:∀ t∈w.b.subs,¬ t.take=x.give/\¬ t.take=x.nonce
 hb:∀ h∈w.b.halfs,h.take=x.give\/h.take=x.nonce->Loose w.nums h.theirs
 pos:1000<=x.nonce/\1000<=x.give
 nn:∀ n,n=x.nonce\/n=x.give->(n % 2=1->n < w.a.draw)/\(n % 2=0->n < w.b.draw)
structure Post (w:WorldD) (x:LetterD):Prop where
 some:sideAt x.to=0\/LetI w x
 none:sideAt x.to=0->Free w x
theorem yf {l:List Int} {n m:Int} (h:m∈dD l n):m=n/\0 < n\/m∈l:=by
 rw [dD] at h;split at h
 ·rename_i hc
  rcases RW.1 h with h|h
  ·exact .inr h
  exact .inl ⟨RR.1 h,hc.1⟩
 exact .inr h
theorem lU {l:List Int} {n m:Int} (h:m∈l):m∈dD l n:=by
 rw [dD];split
 ·exact RY _ h
 exact h
theorem JI {w:WorldD} {x:LetterD} (h:sideAt x.to=0):LetI w x:=by
 constructor<;>(intro h1;omega)
theorem Post.let {w:WorldD} {x:LetterD} (h:Post w x):LetI w x:=h.some.elim JI id
theorem sL {w w':WorldD} (ha:w'.a=w.a) (hb:w'.b=w.b) (hn:∀ n∈w.nums,n∈w'.nums) (h1:w'.wroteA=w.wroteA) (h2:w'.wroteB=w.wroteB):Le w w':=by
 refine⟨by rw [ha],by rw [hb],hn,fun s hs=>⟨s,by rw [ha];exact hs,SubTo.refl s⟩,fun t ht=>⟨t,by rw [hb];exact ht,rfl⟩,by rw [hb];exact RS _,fun h hh=>.inr ⟨h,by rw [hb] at hh;exact hh,rfl,rfl,rfl,rfl⟩,fun i d h=>by rw [ha];exact h,fun i d h=>by rw [hb];exact h,⟨[],by rw [h1,R4]⟩,⟨[],by rw [h2,R4]⟩⟩
theorem Post.mono {w w':WorldD} {x:LetterD} (h:Post w x) (L:Le w w') (ha:w'.a=w.a) (hb:w'.b=w.b):Post w' x:=by
 refine⟨h.some.imp id fun q=>q.mono L,fun h0=>?_⟩
 have F:=h.none h0
 exact⟨F.kind,F.th.mono L.nums,F.sgn,by rw [ha];exact F.sa,by rw [hb];exact F.sb,by rw [hb];exact fun k hk hq=>(F.hb k hk hq).mono L.nums,F.pos,by rw [ha,hb];exact F.nn⟩
theorem Gw {k:KnownD} {t u:TagD} (h:u∈(eS k t).tags):u=t\/u∈k.tags:=by
 rw [eS] at h;split at h
 ·rcases RW.1 h with h|h
  ·exact .inr h
  exact .inl (RR.1 h)
 exact .inr h
theorem yg {w:WorldD} {side:Int} {x:LetterD} (h:Core w):Core (jN side w x):=⟨h.oka,h.okb,h.sta,h.stb,h.sia,h.sib,h.ka,h.kb,h.kk,h.pa,h.pb,h.keys,h.tags,h.da,h.db,h.nn,h.sa,h.sad,h.sb,h.ha,h.hb,h.hbd,h.oa,h.ob,h.fa,h.fb,h.oia,h.oib,h.iia,h.iib⟩
theorem EC {w:WorldD} {l:List LetterD} (h:Core w):Core { w with bag:=l }:=⟨h.oka,h.okb,h.sta,h.stb,h.sia,h.sib,h.ka,h.kb,h.kk,h.pa,h.pb,h.keys,h.tags,h.da,h.db,h.nn,h.sa,h.sad,h.sb,h.ha,h.hb,h.hbd,h.oa,h.ob,h.fa,h.fb,h.oia,h.oib,h.iia,h.iib⟩
theorem Gx {w:WorldD} {x:LetterD} (h:Core w) (F:Free w x):Core (mZ w x):=by
 have hn:∀ n∈(mZ w x).nums,n=x.nonce\/n=x.give\/n∈w.nums:=by
  intro n hm
  rcases yf hm with⟨_,h0⟩|hm
  ·rw [F.sgn] at h0;omega
  rcases yf hm with⟨e,_⟩|hm
  ·exact .inr (.inl e)
  rcases yf hm with⟨e,_⟩|hm
  ·exact .inl e
  exact .inr (.inr hm)
 have ho:∀ n∈w.nums,n∈(mZ w x).nums:=fun n hm=>lU (lU (lU hm))
 refine⟨h.oka,h.okb,h.sta,h.stb,h.sia,h.sib,h.ka,h.kb,h.kk,h.pa,h.pb,?_,?_,h.da,h.db,?_,?_,h.sad,?_,?_,?_,h.hbd,h.oa,h.ob,h.fa,h.fb,h.oia,h.oib,h.iia,h.iib⟩
 ·rw [mZ,i8];exact h.keys
 ·intro u hu
  rcases Gw hu with rfl|hu
  ·exact⟨F.kind,F.th.mono ho⟩
  exact⟨(h.tags u hu).1,(h.tags u hu).2.mono ho⟩
 ·intro n hm
  rcases hn n hm with e|e|e
  ·exact F.nn n (.inl e)
  ·exact F.nn n (.inr e)
  exact h.nn n e
 ·intro s hs
  have S:=h.sa s hs
  obtain⟨f1,f2,f3⟩:=F.sa s hs
  refine⟨S.t4,fun hc=>?_,?_,S.own,S.far,S.th,S.on,S.ask⟩
  ·rcases hn _ hc with e|e|e
   ·exact f2 e
   ·exact f1 e
   exact S.tn e
  rcases S.mine with m|⟨m1,m2⟩
  ·exact .inl m
  rcases f3 with f3|⟨f3,f4⟩
  ·exact .inl f3
  refine .inr ⟨m1,fun hc=>?_⟩
  rcases hn _ hc with e|e|e
  ·exact f3 e
  ·exact f4 e
  exact m2 e
 ·intro t ht
  have S:=h.sb t ht
  obtain⟨f1,f2⟩:=F.sb t ht
  refine⟨S.t4,fun hc=>?_,S.st,S.like⟩
  rcases hn _ hc with e|e|e
  ·exact f2 e
  ·exact f1 e
  exact S.tn e
 ·intro k hk
  have S:=h.ha k hk
  exact⟨S.m4,S.sep,S.th.mono ho⟩
 intro k hk
 have S:=h.hb k hk
 refine⟨S.m4,S.sep,?_⟩
 rcases S.th with q|⟨q1,q2⟩
 ·exact .inl (q.mono ho)
 by_cases hf:k.take=x.give\/k.take=x.nonce
 ·exact .inl ((F.hb k hk hf).mono ho)
 refine .inr ⟨fun hc=>?_,q2⟩
 rcases hn _ hc with e|e|e
 ·exact hf (.inr e)
 ·exact hf (.inl e)
 exact q1 e
theorem t8 {w:WorldD} {side:Int} {x:LetterD} (h:Inv w) (P:Post w x):Inv (aU side w x)/\Le w (aU side w x)/\(aU side w x).a=w.a/\(aU side w x).b=w.b:=by
 obtain⟨e1,e2,e3,e4,_,_⟩:=i9 (side:=side) (w:=w) (x:=x)
 have hpast:∀ y∈fm w.past x,y=x\/y∈w.past:=by
  intro y hy
  rw [fm] at hy;split at hy
  ·rcases RW.1 hy with hy|hy
   ·exact .inr hy
   exact .inl (RR.1 hy)
  exact .inr hy
 have hbag:∀ y∈pm w.bag x,y=x\/y∈w.bag:=by
  intro y hy
  rw [pm] at hy;split at hy
  ·rcases RW.1 hy with hy|hy
   ·exact .inr hy
   exact .inl (RR.1 hy)
  exact .inr hy
 have hL:=P.let
 by_cases h0:sideAt x.to=0
 ·have hl:Le w (aU side w x):=sL e1 e2 (by rw [aU,if_pos h0];exact fun n hm=>lU (lU (lU hm))) e3 e4
  refine⟨?_,hl,e1,e2⟩
  have hc:=Gx (w:=jN side w x) (x:=x) (yg h.c) ⟨(P.none h0).kind,(P.none h0).th,(P.none h0).sgn,(P.none h0).sa,(P.none h0).sb,(P.none h0).hb,(P.none h0).pos,(P.none h0).nn⟩
  refine⟨by rw [aU,if_pos h0];exact hc,fun y hy=>?_,fun y hy=>?_⟩
  ·rw [aU,if_pos h0] at hy
   exact (h.bag y hy).mono hl
  rw [aU,if_pos h0] at hy
  rcases hpast y hy with rfl|hy
  ·exact hL.mono hl
  exact (h.past y hy).mono hl
 have hl:Le w (aU side w x):=sL e1 e2 (by rw [aU,if_neg h0];exact fun n hm=>hm) e3 e4
 refine⟨?_,hl,e1,e2⟩
 refine⟨by rw [aU,if_neg h0];exact EC (yg h.c),fun y hy=>?_,fun y hy=>?_⟩
 ·rw [aU,if_neg h0] at hy
  rcases hbag y hy with rfl|hy
  ·exact hL.mono hl
  exact (h.bag y hy).mono hl
 rw [aU,if_neg h0] at hy
 rcases hpast y hy with rfl|hy
 ·exact hL.mono hl
 exact (h.past y hy).mono hl
theorem A3 {side:Int}:∀ {l:List LetterD} {w:WorldD},Inv w->(∀ x∈l,Post w x)->Inv (al side w l)
 |[],w,h,_=>h
 |x::l,w,h,P=>by
  obtain⟨h1,h2,h3,h4⟩:=t8 (side:=side) h (P x zP)
  exact A3 (l:=l) h1 fun y hy=>(P y (by simp [hy])).mono h2 h3 h4
theorem InI.app {W R:List UInt8} {p:PiecesD} (h:InI W R p) (V:List UInt8):InI (W++V) R p:=by
 obtain⟨T,hT⟩:=h.pre
 exact⟨h.read,⟨T++V,by rw [hT];simp⟩,fun x hx=>(h.list x hx).app V⟩
structure PutA (w w':WorldD):Prop where
 hb:w'.b=w.b
 nums:w'.nums=w.nums
 known:w'.known=w.known
 readB:w'.readB=w.readB
 wroteB:w'.wroteB=w.wroteB
 wroteA:∃ t,w'.wroteA=w.wroteA++t
 ok:OkE w'.a
 st:w'.a.state=2
 sd:w'.a.side=1
 ky:w'.a.key=w.a.key
 pe:w'.a.peer=w.a.peer
 dr:w'.a.draw % 4=1/\w.a.draw<=w'.a.draw
 evo:∀ s∈w.a.subs,∃ s'∈w'.a.subs,SubTo s s'
 sa:∀ s∈w'.a.subs,SubA w.nums w'.a.draw w.b.draw w.b.halfs w.b.subs s
 sad:w'.a.subs.Pairwise fun s t=>¬ s.take=t.take
 ha:∀ h∈w'.a.halfs,HalfA w.nums w'.a.draw w'.a.subs h
 oa:∀ q∈w'.a.own,sideAt q.addr=1
 fa:∀ f∈w'.a.far,sideAt f.addr=2/\Told w.b f.id f.addr
 tl:∀ i d,Told w.a i d->Told w'.a i d
 oia:OutI w'.wroteA w'.a.out
 iia:InI w.wroteB w'.readA w'.a.inp
theorem PutA.le {w w':WorldD} (P:PutA w w'):Le w w':=
 ⟨P.ky,by rw [P.hb],by rw [P.nums];exact fun n h=>h,P.evo,fun t ht=>⟨t,by rw [P.hb];exact ht,rfl⟩,by rw [P.hb];exact RS _,fun h hh=>.inr ⟨h,by rw [P.hb] at hh;exact hh,rfl,rfl,rfl,rfl⟩,P.tl,fun i d h=>by rw [P.hb];exact h,P.wroteA,⟨[],by rw [P.wroteB,R4]⟩⟩
theorem PutA.core {w w':WorldD} (P:PutA w w') (C:Core w):Core w':=by
 refine⟨P.ok,by rw [P.hb];exact C.okb,P.st,by rw [P.hb];exact C.stb,P.sd,by rw [P.hb];exact C.sib,by rw [P.ky];exact C.ka,by rw [P.hb];exact C.kb,by rw [P.ky,P.hb];exact C.kk,by rw [P.pe,P.hb];exact C.pa,by rw [P.hb,P.ky];exact C.pb,by rw [P.known];exact C.keys,by rw [P.known,P.nums];exact C.tags,⟨P.dr.1,by have:=C.da.2;have:=P.dr.2;omega⟩,by rw [P.hb];exact C.db,?_,by rw [P.nums,P.hb];exact P.sa,P.sad,?_,by rw [P.nums];exact P.ha,?_,by rw [P.hb];exact C.hbd,P.oa,by rw [P.hb];exact C.ob,by rw [P.hb];exact P.fa,?_,P.oia,by rw [P.wroteB,P.hb];exact C.oib,by rw [P.wroteB];exact P.iia,?_⟩
 ·rw [P.nums,P.hb]
  intro n hn
  have:=C.nn n hn
  have hd:=P.dr.2
  exact⟨fun h=>by have:=this.1 h;omega,this.2⟩
 ·rw [P.nums,P.hb]
  intro t ht
  have S:=C.sb t ht
  obtain⟨s,h1,h2,h3,h4,h5⟩:=S.like
  obtain⟨s',g1,g2⟩:=P.evo s h1
  obtain⟨r1,r2,r3⟩:=g2.rest h2
  exact⟨S.t4,S.tn,S.st,s',g1,r1,by rw [g2.road];exact h3,by rw [g2.take];exact h4,by rw [r3];exact h5⟩
 ·rw [P.nums,P.hb]
  intro h hh
  have S:=C.hb h hh
  refine⟨S.m4,S.sep,S.th.imp id fun⟨q1,s,h1,h2,h3,h4,h5⟩=>?_⟩
  obtain⟨s',g1,g2⟩:=P.evo s h1
  exact⟨q1,s',g1,by rw [g2.mine];exact h2,by rw [g2.mine];exact h3,by rw [g2.take];exact h4,by rw [g2.road];exact h5⟩
 ·rw [P.hb]
  exact fun f hf=>⟨(C.fb f hf).1,P.tl _ _ (C.fb f hf).2⟩
 rw [P.readB,P.hb]
 obtain⟨t,ht⟩:=P.wroteA
 rw [ht];exact C.iib.app t
structure PutB (w w':WorldD):Prop where
 ha:w'.a=w.a
 nums:w'.nums=w.nums
 known:w'.known=w.known
 readA:w'.readA=w.readA
 wroteA:w'.wroteA=w.wroteA
 wroteB:∃ t,w'.wroteB=w.wroteB++t
 ok:OkE w'.b
 st:w'.b.state=2
 sd:w'.b.side=2
 ky:w'.b.key=w.b.key
 pe:w'.b.peer=w.b.peer
 dr:w'.b.draw % 4=2/\w.b.draw<=w'.b.draw
 evo:∀ t∈w.b.subs,∃ t'∈w'.b.subs,t'.road=t.road/\t'.take=t.take/\t'.give=t.give
 sb:∀ t∈w'.b.subs,SubB w.nums w'.b.draw w.a.subs t
 hb:∀ h∈w'.b.halfs,HalfB w.nums w'.b.draw w.a.subs w'.b.subs h
 hbd:w'.b.halfs.Pairwise fun h k=>¬ h.take=k.take
 hev:∀ h'∈w'.b.halfs,w.b.draw<=h'.mine\/∃ h∈w.b.halfs,h.mine=h'.mine/\h.theirs=h'.theirs/\h.take=h'.take/\h.road=h'.road
 ob:∀ q∈w'.b.own,sideAt q.addr=2
 fb:∀ f∈w'.b.far,sideAt f.addr=1/\Told w.a f.id f.addr
 tl:∀ i d,Told w.b i d->Told w'.b i d
 oib:OutI w'.wroteB w'.b.out
 iib:InI w.wroteA w'.readB w'.b.inp
theorem PutB.le {w w':WorldD} (P:PutB w w'):Le w w':=
 ⟨by rw [P.ha],P.ky,by rw [P.nums];exact fun n h=>h,fun s hs=>⟨s,by rw [P.ha];exact hs,SubTo.refl s⟩,fun t ht=>by obtain⟨t',g1,_,_,g2⟩:=P.evo t ht;exact⟨t',g1,g2⟩,P.dr.2,P.hev,fun i d h=>by rw [P.ha];exact h,P.tl,⟨[],by rw [P.wroteA,R4]⟩,P.wroteB⟩
theorem PutB.core {w w':WorldD} (P:PutB w w') (C:Core w):Core w':=by
 refine⟨by rw [P.ha];exact C.oka,P.ok,by rw [P.ha];exact C.sta,P.st,by rw [P.ha];exact C.sia,P.sd,by rw [P.ha];exact C.ka,by rw [P.ky];exact C.kb,by rw [P.ky,P.ha];exact C.kk,by rw [P.ha,P.ky];exact C.pa,by rw [P.pe,P.ha];exact C.pb,by rw [P.known];exact C.keys,by rw [P.known,P.nums];exact C.tags,by rw [P.ha];exact C.da,⟨P.dr.1,by have:=C.db.2;have:=P.dr.2;omega⟩,?_,?_,by rw [P.ha];exact C.sad,by rw [P.nums,P.ha];exact P.sb,by rw [P.nums,P.ha];exact C.ha,by rw [P.nums,P.ha];exact P.hb,P.hbd,by rw [P.ha];exact C.oa,P.ob,?_,by rw [P.ha];exact P.fb,by rw [P.wroteA,P.ha];exact C.oia,P.oib,?_,by rw [P.wroteA];exact P.iib⟩
 ·rw [P.nums,P.ha]
  intro n hn
  have:=C.nn n hn
  have hd:=P.dr.2
  exact⟨this.1,fun h=>by have:=this.2 h;omega⟩
 ·rw [P.nums,P.ha]
  intro s hs
  have S:=C.sa s hs
  refine⟨S.t4,S.tn,S.mine,S.own,S.far,⟨SQ S.th.1 P.dr.2,fun h hh hm=>?_⟩,fun h3=>?_,S.ask⟩
  ·rcases P.hev h hh with g|⟨k,g1,g2,g3,g4,g5⟩
   ·have:=S.th.1;omega
   obtain⟨q1,q2,q3⟩:=S.th.2 k g1 zO
   exact⟨by rw [<-g3];exact q1,by rw [<-g4];exact q2,by rw [<-g5];exact q3⟩
  obtain⟨t,g1,g2,g3,g4⟩:=S.on h3
  obtain⟨t',k1,k2,k3,k4⟩:=P.evo t g1
  exact⟨t',k1,by rw [k2];exact g2,by rw [k3];exact g3,by rw [k4];exact g4⟩
 ·rw [P.ha]
  exact fun f hf=>⟨(C.fa f hf).1,P.tl _ _ (C.fa f hf).2⟩
 rw [P.readA,P.ha]
 obtain⟨t,ht⟩:=P.wroteB
 rw [ht];exact C.iia.app t
structure SubKeep (s s':SubD):Prop where
 road:s'.road=s.road
 mine:s'.mine=s.mine
 theirs:s'.theirs=s.theirs
 give:s'.give=s.give
 take:s'.take=s.take
 state:s'.state=s.state\/s'.state=4
theorem SubKeep.refl (s:SubD):SubKeep s s:=⟨rfl,rfl,rfl,rfl,rfl,.inl rfl⟩
theorem SubKeep.to {s s':SubD} (h:SubKeep s s'):SubTo s s':=⟨h.road,h.mine,h.take,fun h1=>⟨by rcases h.state with g|g<;>omega,h.theirs,h.give⟩⟩
theorem SubKeep.subA {nums:List Int} {da db:Int} {hb:List HalfD} {sb:List SubD} {s s':SubD} (h:SubKeep s s') (S:SubA nums da db hb sb s):SubA nums da db hb sb s':=by
 refine⟨by rw [h.take];exact S.t4,by rw [h.take];exact S.tn,by rw [h.mine,h.take];exact S.mine,by rw [h.road];exact S.own,by rw [h.road];exact S.far,by rw [h.theirs,h.mine,h.give,h.road];exact S.th,fun h3=>?_,fun h1=>?_⟩
 ·rw [h.road,h.give,h.take]
  exact S.on (by rcases h.state with g|g<;>omega)
 rw [h.mine];exact S.ask (by rcases h.state with g|g<;>omega)
theorem SubKeep.subB {nums:List Int} {db:Int} {sa:List SubD} {t t':SubD} (h:SubKeep t t') (S:SubB nums db sa t):SubB nums db sa t':=
 ⟨by rw [h.take];exact S.t4,by rw [h.take];exact S.tn,by rcases h.state with g|g<;>(rw [g];first|exact S.st|exact .inr rfl),by rw [h.road,h.give,h.take];exact S.like⟩
structure SubsKeep (l m:List SubD):Prop where
 len:m.length=l.length
 at_:∀ (i:Nat) (h1:i < m.length) (h2:i < l.length),SubKeep l[i] m[i]
theorem SubsKeep.refl (l:List SubD):SubsKeep l l:=⟨rfl,fun i h1 h2=>SubKeep.refl _⟩
theorem SubsKeep.map {l:List SubD} {f:SubD->SubD} (h:∀ s∈l,SubKeep s (f s)):SubsKeep l (l.map f):=⟨zP,fun i h1 h2=>by rw [SV];exact h _ (RQ h2)⟩
theorem SubsKeep.st4 (l:List SubD) (n:Nat):SubsKeep l (cq l n 4):=by
 refine⟨by simp [cq],fun i h1 h2=>?_⟩
 simp only [cq,R0]
 split
 ·rename_i e;subst e
  rw [bE h2]
  exact⟨rfl,rfl,rfl,rfl,rfl,.inr rfl⟩
 exact SubKeep.refl _
theorem SubsKeep.old {l m:List SubD} (h:SubsKeep l m) {s:SubD} (hs:s∈m):∃ r∈l,SubKeep r s:=by
 obtain⟨i,hi,rfl⟩:=RV hs
 have:=h.len
 exact⟨l[i],RQ zO,h.at_ i hi zO⟩
theorem SubsKeep.new {l m:List SubD} (h:SubsKeep l m) {s:SubD} (hs:s∈l):∃ r∈m,SubKeep s r:=by
 obtain⟨i,hi,rfl⟩:=RV hs
 have:=h.len
 exact⟨m[i],RQ zO,h.at_ i zO hi⟩
theorem SubsKeep.pw {l m:List SubD} (h:SubsKeep l m) (p:l.Pairwise fun s t=>¬ s.take=t.take):m.Pairwise fun s t=>¬ s.take=t.take:=by
 rw [RU] at p⊢
 have:=h.len
 intro i j hi hj hij
 rw [(h.at_ i hi zO).take,(h.at_ j hj zO).take]
 exact p i j zO zO hij
def HalfKeep (h h':HalfD):Prop:=h.mine=h'.mine/\h.theirs=h'.theirs/\h.take=h'.take/\h.road=h'.road/\h.give=h'.give
theorem HalfKeep.refl (h:HalfD):HalfKeep h h:=⟨rfl,rfl,rfl,rfl,rfl⟩
structure MildA (w w':WorldD):Prop where
 hb:w'.b=w.b
 nums:w'.nums=w.nums
 known:w'.known=w.known
 readB:w'.readB=w.readB
 wroteB:w'.wroteB=w.wroteB
 wroteA:∃ t,w'.wroteA=w.wroteA++t
 ok:OkE w'.a/\w'.a.state=2
 sd:w'.a.side=w.a.side/\w'.a.key=w.a.key/\w'.a.peer=w.a.peer/\w'.a.draw=w.a.draw
 subs:SubsKeep w.a.subs w'.a.subs
 halfs:∀ h'∈w'.a.halfs,∃ h∈w.a.halfs,HalfKeep h h'
 oa:∀ q∈w'.a.own,sideAt q.addr=1
 fa:∀ f∈w'.a.far,sideAt f.addr=2/\Told w.b f.id f.addr
 tl:∀ i d,Told w.a i d->Told w'.a i d
 oia:OutI w'.wroteA w'.a.out
 iia:InI w.wroteB w'.readA w'.a.inp
theorem MildA.put {w w':WorldD} (M:MildA w w') (C:Core w):PutA w w':=by
 obtain⟨d1,d2,d3,d4⟩:=M.sd
 refine⟨M.hb,M.nums,M.known,M.readB,M.wroteB,M.wroteA,M.ok.1,M.ok.2,d1.trans C.sia,d2,d3,by rw [d4];exact⟨C.da.1,RS _⟩,fun s hs=>?_,fun s hs=>?_,M.subs.pw C.sad,fun h hh=>?_,M.oa,M.fa,M.tl,M.oia,M.iia⟩
 ·obtain⟨r,h1,h2⟩:=M.subs.new hs
  exact⟨r,h1,h2.to⟩
 ·obtain⟨r,h1,h2⟩:=M.subs.old hs
  rw [d4];exact h2.subA (C.sa r h1)
 obtain⟨k,h1,h2,h3,h4,h5⟩:=M.halfs h hh
 have S:=C.ha k h1
 refine⟨by rw [d4,<-h2,<-h4];exact S.m4,fun s hs=>?_,by rw [<-h3];exact S.th⟩
 obtain⟨r,g1,g2⟩:=M.subs.old hs
 rw [<-h4,g2.take];exact S.sep r g1
structure MildB (w w':WorldD):Prop where
 ha:w'.a=w.a
 nums:w'.nums=w.nums
 known:w'.known=w.known
 readA:w'.readA=w.readA
 wroteA:w'.wroteA=w.wroteA
 wroteB:∃ t,w'.wroteB=w.wroteB++t
 ok:OkE w'.b/\w'.b.state=2
 sd:w'.b.side=w.b.side/\w'.b.key=w.b.key/\w'.b.peer=w.b.peer/\w'.b.draw=w.b.draw
 subs:SubsKeep w.b.subs w'.b.subs
 halfs:w'.b.halfs.Sublist w.b.halfs
 ob:∀ q∈w'.b.own,sideAt q.addr=2
 fb:∀ f∈w'.b.far,sideAt f.addr=1/\Told w.a f.id f.addr
 tl:∀ i d,Told w.b i d->Told w'.b i d
 oib:OutI w'.wroteB w'.b.out
 iib:InI w.wroteA w'.readB w'.b.inp
theorem MildB.put {w w':WorldD} (M:MildB w w') (C:Core w):PutB w w':=by
 obtain⟨d1,d2,d3,d4⟩:=M.sd
 refine⟨M.ha,M.nums,M.known,M.readA,M.wroteA,M.wroteB,M.ok.1,M.ok.2,d1.trans C.sib,d2,d3,by rw [d4];exact⟨C.db.1,RS _⟩,fun s hs=>?_,fun s hs=>?_,fun h hh=>?_,C.hbd.sublist M.halfs,fun h hh=>.inr ⟨h,M.halfs.subset hh,rfl,rfl,rfl,rfl⟩,M.ob,M.fb,M.tl,M.oib,M.iib⟩
 ·obtain⟨r,h1,h2⟩:=M.subs.new hs
  exact⟨r,h1,h2.road,h2.take,h2.give⟩
 ·obtain⟨r,h1,h2⟩:=M.subs.old hs
  rw [d4];exact h2.subB (C.sb r h1)
 have S:=C.hb h (M.halfs.subset hh)
 refine⟨by rw [d4];exact S.m4,fun s hs=>?_,S.th⟩
 obtain⟨r,g1,g2⟩:=M.subs.old hs
 rw [g2.take];exact S.sep r g1
def vf (W:List UInt8) (n k:Nat):List UInt8:=(W.drop n).take k
theorem Cw (W:List UInt8) (n k m:Nat):vf W n k++vf W (n+k) m=vf W n (k+m):=by
 rw [vf,vf,vf,List.take_add,SL]
theorem LM (W:List UInt8) (n k j:Nat):(vf W n k).take j=vf W n (min j k):=by rw [vf,vf,List.take_take]
theorem yh (W:List UInt8) (n k j:Nat):(vf W n k).drop j=vf W (n+j) (k - j):=by
 rw [vf,vf,List.drop_take,SL]
theorem Cx {W:List UInt8} {n k:Nat} (h:n+k<=W.length):(vf W n k).length=k:=by
 rw [vf,Sl,R6];omega
theorem t9 {W t:List UInt8} {n:Nat}:Slice W (n:Int) t↔n+t.length<=W.length/\t=vf W n t.length:=by
 rw [Slice,RT]
 constructor
 ·rintro⟨_,h1,h2⟩;exact⟨zO,h2⟩
 rintro⟨h1,h2⟩;exact⟨zO,zO,h2⟩
theorem o_ {W:List UInt8} {n k:Nat} (h:n+k<=W.length):Slice W (n:Int) (vf W n k):=by
 rw [t9,Cx h];exact⟨h,rfl⟩
theorem Slice.nat {W t:List UInt8} {p:Int} (h:Slice W p t):∃ n k:Nat,p=(n:Int)/\t=vf W n k/\t.length=k/\n+k<=W.length:=by
 obtain⟨n,rfl⟩:=SC h.1
 obtain⟨h1,h2⟩:=t9.1 h
 exact⟨n,t.length,rfl,h2,rfl,h1⟩
theorem Slice.drop {W t:List UInt8} {p:Int} (h:Slice W p t) {d:Nat} (hd:d<=t.length):Slice W (p+(d:Int)) (t.drop d):=by
 obtain⟨n,k,rfl,h2,h3,h4⟩:=h.nat
 rw [h2,yh,show (n:Int)+(d:Int)=((n+d:Nat):Int) by omega]
 exact o_ zO
theorem ED {W:List UInt8} {a b:PieceD} (ha:Slice W a.pos a.text) (hb:Slice W b.pos b.text) (h1:b.pos<=a.pos+(a.text.length:Int)) (h2:a.pos<=b.pos+(b.text.length:Int)):Slice W (fk a b).pos (fk a b).text:=by
 obtain⟨n,k,e1,e2,e3,e4⟩:=ha.nat
 obtain⟨m,j,f1,f2,f3,f4⟩:=hb.nat
 rw [e3,e1,f1] at h1
 rw [f3,e1,f1] at h2
 rw [fk];split
 ·rename_i hlt
  rw [e1,f1] at hlt
  dsimp only
  rw [e1,f1,e2,f2,Cx e4,show ((n:Int) - (m:Int)).toNat=n - m by omega,LM,yh,show min (n - m) j=n - m by omega]
  have g:vf W m (n - m)++vf W n k++vf W (m+(n - m+k)) (j - (n - m+k))=vf W m (n - m+k+(j - (n - m+k))):=by
   have h3:=Cw W m (n - m) k
   rw [show m+(n - m)=n by omega] at h3
   rw [h3,Cw]
  rw [g]
  exact o_ zO
 rename_i hge
 rw [e1,f1] at hge
 dsimp only
 rw [e1,f1,e2,f2,Cx e4,show ((n:Int)+(k:Int) - (m:Int)).toNat=n+k - m by omega,yh,show m+(n+k - m)=n+k by omega,Cw]
 exact o_ zO
structure PpW (W:List UInt8) (g:PpS):Prop where
 own:Slice W g.own.pos g.own.text
 acc:∀ z∈g.acc,Slice W z.pos z.text
theorem sM {α:Type} {l:List α} {x:α} {P:α->Prop} (hl:∀ z∈l,P z) (hx:P x):∀ z∈l++[x],P z:=fun z hz=>by
 rcases RW.1 hz with hz|hz
 ·exact hl z hz
 rw [RR.1 hz];exact hx
theorem LN {W:List UInt8} {g:PpS} {x:PieceD} (h:PpW W g) (hx:Slice W x.pos x.text):PpW W (fQ g x):=by
 rw [fQ];split
 ·exact⟨h.own,sM h.acc hx⟩
 split
 ·refine⟨h.own,sM ?_ hx⟩
  split
  ·exact h.acc
  exact sM h.acc h.own
 exact⟨ED hx h.own zO zO,h.acc⟩
theorem Gy {W:List UInt8}:∀ {l:List PieceD} {g:PpS},PpW W g->(∀ x∈l,Slice W x.pos x.text)->PpW W (jH g l)
 |[],g,h,_=>h
 |x::l,g,h,hl=>Gy (l:=l) (LN h (hl x zP)) fun y hy=>hl y (by simp [hy])
theorem Ib {W:List UInt8} {g:PpS} (h:PpW W g):∀ z∈jM g,Slice W z.pos z.text:=by
 rw [jM];split
 ·exact h.acc
 exact sM h.acc h.own
theorem InI.next {W R:List UInt8} {p:PiecesD} (h:InI W R p) (F:FineP p):nextOf p=((R.length+p.ready.length:Nat):Int):=by
 rw [F.next,h.read];omega
theorem Ic {W R:List UInt8} {p:PiecesD} {n:Int} {t:List UInt8} (h:InI W R p) (F:FineP p) (ht:Slice W n t):InI W R (lM p n t):=by
 have hA:=Ib (Gy (l:=p.list) (g:=⟨⟨n,t⟩,false,[]⟩) ⟨ht,fun z hz=>by simp at hz⟩ h.list)
 rw [lM]
 generalize jM (jH ⟨⟨n,t⟩,false,[]⟩ p.list)=l at hA
 rw [mY];split
 ·rw [mX];split
  ·rename_i he
   cases l with
   |nil=>
    obtain⟨T,hT⟩:=h.pre
    have e:(default:PieceD).text=[]:=rfl
    exact⟨h.read,⟨T,by rw [List.headD_nil,e,R4];exact hT⟩,fun z hz=>by simp at hz⟩
   |cons y r=>
    rw [List.headD_cons] at he⊢
    refine⟨h.read,?_,fun z hz=>hA z (RZ _ hz)⟩
    have hy:=hA y zP
    rw [he,h.next F] at hy
    obtain⟨h1,h2⟩:=t9.1 hy
    obtain⟨T,hT⟩:=h.pre
    have hd:W.drop (R.length+p.ready.length)=T:=by
     rw [hT,Sq zP]
     simp
    refine⟨T.drop y.text.length,?_⟩
    rw [vf,hd] at h2
    dsimp only
    rw [hT]
    have:T=y.text++T.drop y.text.length:=by
     conv=>lhs;rw [<-Sr y.text.length T]
     rw [<-h2]
    conv=>lhs;rw [this]
    simp
  exact⟨h.read,h.pre,hA⟩
 exact h
theorem rf {W R:List UInt8} {p:PiecesD} {n:Int} {t:List UInt8} (h:InI W R p) (hs:SmallP p) (ht:Slice W n t):InI W R (putPiece p n t):=by
 rw [putPiece];split
 ·rename_i hk
  simp only [sh,RP] at hk
  have F:=ax hk.1.1 hs
  split
  ·exact h
  split
  ·have hd:=ht.drop (d:=(nextOf p - n).toNat) zO
   rw [show n+((nextOf p - n).toNat:Int)=nextOf p by omega] at hd
   exact Ic h F hd
  exact Ic h F ht
 exact h
theorem LO {W R:List UInt8} {p:PiecesD} {m:Int} (h:InI W R p):InI W (R++(aZ p m).2) (aZ p m).1:=by
 rw [aZ];split
 ·obtain⟨T,hT⟩:=h.pre
  refine⟨?_,⟨T,?_⟩,h.list⟩
  ·dsimp only
   rw [h.read]
   have:tQ p m<=p.ready.length:=SW _ _
   simp only [R2,Sl]
   omega
  dsimp only
  rw [hT]
  conv=>lhs;rw [<-Sr (tQ p m) p.ready]
  simp
 dsimp only
 rw [R4];exact h
theorem EE {W:List UInt8} {o:OutD} {t:List UInt8} (h:OutI W o):OutI (W++t.take (dp o t).2) (dp o t).1:=by
 rw [dp];split
 ·refine⟨⟨h.base.1,?_⟩,?_⟩
  ·have:=h.base.2
   have h2:=B8 o t
   simp only [R2,Sl]
   omega
  dsimp only
  have:=h.base
  rw [Sq zO,<-h.text]
 dsimp only
 rw [List.take_zero,R4];exact h
theorem LP {W:List UInt8} {o:OutD} {n:Int} (h:OutI W o):OutI W (came o n):=by
 rw [came];split
 ·rename_i hc
  obtain⟨h0,h1,h2⟩:=hc
  have F:=cg h0
  obtain⟨a1,a2,a3,a4⟩:=F
  rw [yV zO] at h2
  have hb:=h.base
  refine⟨⟨by dsimp only;omega,?_⟩,?_⟩
  ·simp only [R6];omega
  dsimp only
  rw [h.text,SL]
  congr 1
  omega
 exact h
theorem EF {W:List UInt8} {o o':OutD} (h:OutI W o) (h1:o'.base=o.base) (h2:o'.text=o.text):OutI W o':=⟨by rw [h1,h2];exact h.base,by rw [h1,h2];exact h.text⟩
theorem t_ {W:List UInt8} {o:OutD} (h:OutI W o):OutI W (eN o):=by
 rw [eN];split
 ·exact EF h rfl rfl
 exact h
theorem Cy {W:List UInt8} {o:OutD} (h:OutI W o):OutI W (dQ o):=by
 rw [dQ];split
 ·exact EF h rfl rfl
 exact h
theorem mQ {W:List UInt8} {o:OutD} (h:OutI W o) (ho:outOk o=true):Slice W o.sent (bU o):=by
 obtain⟨a1,a2,a3,a4⟩:=cg ho
 obtain⟨n,hn⟩:=SC (show 0<=o.sent by omega)
 have hb:=h.base
 have e:bU o=vf W n (min 20 (W.length - n)):=by
  rw [bU,h.text,SL,vf,show o.base.toNat+(o.sent - o.base).toNat=n by omega]
  rw [List.take_eq_take_iff]
  simp only [R6]
  omega
 rw [e,hn]
 exact o_ zO
def ic (w:WorldD) (e:EndD):WorldD:={ w with a:=e }
def inB (w:WorldD) (e:EndD):WorldD:={ w with b:=e }
structure Step (w w':WorldD) (l:List LetterD):Prop where
 c:Core w'
 le:Le w w'
 post:∀ x∈l,Post w' x
theorem PutA.step {w w':WorldD} {l:List LetterD} (P:PutA w w') (C:Core w) (h:Core w'->∀ x∈l,Post w' x):Step w w' l:=⟨P.core C,P.le,h (P.core C)⟩
theorem PutB.step {w w':WorldD} {l:List LetterD} (P:PutB w w') (C:Core w) (h:Core w'->∀ x∈l,Post w' x):Step w w' l:=⟨P.core C,P.le,h (P.core C)⟩
theorem ee {w:WorldD}:∀ x∈([]:List LetterD),Post w x:=fun x hx=>by simp at hx
theorem ef {w:WorldD} {y:LetterD} (h:Post w y):∀ x∈[y],Post w x:=fun x hx=>by rw [RR.1 hx];exact h
def vt (k:Int):Prop:=k=1\/k=2\/k=3\/k=9\/k=10\/k=12\/k=13
theorem pc {w:WorldD} {x:LetterD} (hk:vt x.kind) (hs:¬ sideAt x.to=0):Post w x:=by
 simp only [vt] at hk
 refine⟨.inr ?_,fun h=>absurd h hs⟩
 constructor<;>(intro _ h;omega)
theorem MildA.refl {w:WorldD} (C:Core w):MildA w w:=⟨rfl,rfl,rfl,rfl,rfl,⟨[],zP⟩,⟨C.oka,C.sta⟩,⟨rfl,rfl,rfl,rfl⟩,SubsKeep.refl _,fun h hh=>⟨h,hh,HalfKeep.refl h⟩,C.oa,C.fa,fun _ _ h=>h,C.oia,C.iia⟩
theorem MildB.refl {w:WorldD} (C:Core w):MildB w w:=⟨rfl,rfl,rfl,rfl,rfl,⟨[],zP⟩,⟨C.okb,C.stb⟩,⟨rfl,rfl,rfl,rfl⟩,SubsKeep.refl _,List.Sublist.refl _,C.ob,C.fb,fun _ _ h=>h,C.oib,C.iib⟩
theorem Id {w:WorldD} (C:Core w) {s:SubD} (hs:s∈w.a.subs):¬ Loose w.nums s.take:=fun h=>by
 have S:=C.sa s hs
 rcases h with h|h
 ·have:=S.t4;omega
 exact S.tn h
theorem Ie {w:WorldD} (C:Core w) {s:SubD} (hs:s∈w.a.subs) (h0:1000<=s.mine):¬ Loose w.nums s.mine:=fun h=>by
 have S:=C.sa s hs
 rcases h with h|h
 ·omega
 rcases S.mine with g|⟨_,g⟩
 ·omega
 exact g h
theorem NT {w:WorldD} (C:Core w) {t:SubD} (ht:t∈w.b.subs):¬ Loose w.nums t.take:=fun h=>by
 have S:=C.sb t ht
 rcases h with h|h
 ·have:=S.t4;omega
 exact S.tn h
theorem farB {w:WorldD} (C:Core w) {t:SubD} (ht:t∈w.b.subs):sideAt t.road.far=1/\sideAt t.road.own=2:=by
 obtain⟨s,h1,_,h3,_,_⟩:=(C.sb t ht).like
 have S:=C.sa s h1
 have g1:=S.own
 have g2:=S.far
 rw [h3] at g1 g2
 exact⟨g1,g2⟩
theorem LQ {w:WorldD} {x:LetterD} (C:Core w) (G:SmallP w.a.inp) (L:LetI w x) (hx:sideAt x.to=1):Step w (ic w (aG w.a x).1) (aG w.a x).2:=by
 have ok:=H8 (x:=x) C.oka C.sta
 have M0:=MildA.refl C
 have keep:Step w (ic w w.a) []:=(M0.put C).step C fun _=>ee
 have hk:=aG (e:=w.a) (x:=x)
 by_cases hc:bJ w.a x=true
 case neg=>rw [qm (by simpa using hc)];exact keep
 by_cases k1:x.kind=1
 ·rw [tM hc k1,aI,if_neg]
  ·exact keep
  simp only [iy,RP,decide_eq_true_eq];have:=C.sta;omega
 by_cases k2:x.kind=2
 ·rw [tN hc k2,br,if_neg]
  ·exact keep
  simp only [lh,RP,decide_eq_true_eq];have:=C.sta;omega
 by_cases k4:x.kind=4
 ·rw [qo hc k4] at ok⊢
  have hL:=L.a4 hx k4
  have ans:∀ (w':WorldD) (h:HalfD),Core w'->h∈w'.a.halfs->w'.a.key=w.a.key->w'.b.key=w.b.key->w'.b.draw=w.b.draw->Post w' (cC w.a (roadOf x) h):=by
   intro w' h C' hh e1 e2 e3
   have H:=C'.ha h hh
   have hm:=H.m4
   refine⟨.inr ?_,fun h0=>⟨rfl,H.th,rfl,fun s hs=>?_,fun t ht=>?_,fun k hk hq=>?_,⟨by simp only [cC,ah];omega,by simp only [cC,ah];omega⟩,fun n hn=>?_⟩⟩
   ·constructor<;>(intro q1 q2;simp only [cC,ah,af] at q2;try omega)
    intro m hm'
    simp only [cC,ah] at hm'
    have:=congrArg TagD.one hm'
    dsimp only at this
    exact absurd (this.symm.trans e1.symm) (fun hc=>C'.kk (by rw [<-hc]))
   ·have S:=C'.sa s hs
    have h1:=H.sep s hs
    have t4:=S.t4
    simp only [cC,ah]
    refine⟨by rw [hm.2.2.2] at h1⊢;exact h1,zO,?_⟩
    rcases S.mine with g|⟨g,_⟩
    ·exact .inl g
    exact .inr ⟨zO,zO⟩
   ·have t4:=(C'.sb t ht).t4
    simp only [cC,ah]
    omega
   ·have m4:=(C'.hb k hk).m4
    simp only [cC,ah] at hq
    omega
   simp only [cC,ah] at hn
   constructor<;>intro _<;>omega
  unfold bK at ok⊢
  split at ok
  case isFalse hk=>rw [if_neg hk];exact keep
  rename_i hk
  rw [if_pos hk]
  split at ok
  ·rename_i hs
   rw [if_pos hs]
   simp only [dO,RP,decide_eq_true_eq] at hs
   obtain⟨n,e1,hn,_⟩:=jI hs.1.1
   have M:MildA w (ic w { w.a with bucket:=(bl w.a.bucket).1,halfs:=w.a.halfs.set (bj w.a.halfs (roadOf x)).toNat { qb w.a x with till:=w.a.now+6 } }):=by
    refine⟨rfl,rfl,rfl,rfl,rfl,⟨[],by simp [ic]⟩,ok,⟨rfl,rfl,rfl,rfl⟩,SubsKeep.refl _,fun h hh=>?_,C.oa,C.fa,fun _ _ h=>h,C.oia,C.iia⟩
    rcases RX hh with hh|hh
    ·exact⟨h,hh,HalfKeep.refl h⟩
    rw [hh,qb,e1,RT,eK hn]
    exact⟨_,RQ hn,rfl,rfl,rfl,rfl,rfl⟩
   refine (M.put C).step C fun C'=>ef ?_
   have hj:qb w.a x=w.a.halfs[n]:=by rw [qb,e1,RT,eK hn]
   have:=ans _ { qb w.a x with till:=w.a.now+6 } C' (by
    dsimp only [ic]
    rw [e1,RT]
    exact Sm hn _) rfl rfl rfl
   exact this
  rename_i hs
  rw [if_neg hs]
  simp only [ll,RP,decide_eq_true_eq,dt] at hk
  have hd:=hk.1.1.2
  have da:=C.da
  have hput:∀ h∈(aX w.a.halfs (aj w.a x)).1,h=aj w.a x\/h∈w.a.halfs:=by
   intro h hh
   rw [aX] at hh;split at hh
   ·dsimp only at hh
    rw [bP] at hh;split at hh
    ·rcases RX hh with hh|hh
     ·exact .inr hh
     exact .inl hh
    rcases RW.1 hh with hh|hh
    ·exact .inr hh
    exact .inl (RR.1 hh)
   exact .inr hh
  have P:PutA w (ic w { w.a with bucket:=(bl w.a.bucket).1,draw:=w.a.draw+4,halfs:=(aX w.a.halfs (aj w.a x)).1 }):=by
   refine⟨rfl,rfl,rfl,rfl,rfl,⟨[],by simp [ic]⟩,ok.1,ok.2,C.sia,rfl,rfl,⟨by dsimp only [ic];omega,by dsimp only [ic];omega⟩,fun s hs=>⟨s,hs,SubTo.refl s⟩,fun s hs=>?_,C.sad,fun h hh=>?_,C.oa,C.fa,fun _ _ h=>h,C.oia,C.iia⟩
   ·have S:=C.sa s hs
    exact⟨by have:=S.t4;dsimp only [ic];omega,S.tn,S.mine,S.own,S.far,S.th,S.on,S.ask⟩
   rcases hput h hh with rfl|hh
   ·refine⟨⟨by simp only [aj];omega,by simp only [aj];omega,by simp only [aj,ic];omega,by simp only [aj]⟩,fun s hs=>?_,hL⟩
    have:=(C.sa s hs).t4
    simp only [aj]
    omega
   have S:=C.ha h hh
   exact⟨by have:=S.m4;dsimp only [ic];omega,S.sep,S.th⟩
  refine P.step C fun C'=>ef ?_
  by_cases hin:aj w.a x∈(aX w.a.halfs (aj w.a x)).1
  ·exact ans _ _ C' hin rfl rfl rfl
  refine⟨.inr ?_,fun h0=>⟨rfl,hL,rfl,fun s hs=>?_,fun t ht=>?_,fun k hk hq=>?_,⟨by simp only [cC,ah,aj];omega,by simp only [cC,ah,aj];omega⟩,fun n hn=>?_⟩⟩
  ·constructor<;>(intro q1 q2;simp only [cC,ah,af] at q2;try omega)
   intro m hm'
   simp only [cC,ah] at hm'
   have:=congrArg TagD.one hm'
   dsimp only [ic] at this
   exact absurd this C.kk
  ·have S:=C.sa s hs
   have t4:=S.t4
   simp only [cC,ah,aj]
   refine⟨zO,zO,?_⟩
   rcases S.mine with g|⟨g,_⟩
   ·exact .inl g
   exact .inr ⟨zO,zO⟩
  ·have t4:=(C.sb t ht).t4
   simp only [cC,ah,aj]
   omega
  ·have m4:=(C.hb k hk).m4
   simp only [cC,ah,aj] at hq
   omega
  simp only [cC,ah,aj] at hn
  dsimp only [ic]
  constructor<;>intro _<;>omega
 by_cases k5:x.kind=5
 ·rw [qp hc k5] at ok⊢
  unfold aF at ok⊢
  split at ok
  case isFalse hk=>rw [if_neg hk];exact keep
  rename_i hk
  rw [if_pos hk]
  simp only [rS,RP,decide_eq_true_eq] at hk
  obtain⟨⟨⟨⟨⟨q1,q2⟩,q3⟩,q4⟩,q5⟩,q6⟩:=hk
  obtain⟨n,e1,hn,_,hrd,_⟩:=lS q4
  rw [e1,RT,bE hn] at q5 q6 ok⊢
  rw [C.pa] at q6
  have hs:=RQ hn
  obtain⟨s,es⟩:∃ s,w.a.subs[n]=s:=⟨_,rfl⟩
  rw [es] at q5 q6 hs hrd ok⊢
  have S:=C.sa s hs
  have h1000:=S.ask (.inl q5)
  have hf:x.nonce < w.b.draw/\∀ h∈w.b.halfs,h.mine=x.nonce->h.theirs=s.mine/\h.take=x.give/\h.road=bk (roadOf x):=by
   rcases L.a5 hx k5 s.mine q6 with g|g
   ·exact absurd g (Ie C hs h1000)
   exact g
  have hat:∀ (i:Nat) (h1:i < (w.a.subs.set n (ed s x)).length) (h2:i < w.a.subs.length),SubTo w.a.subs[i] (w.a.subs.set n (ed s x))[i]/\((w.a.subs.set n (ed s x))[i]=ed s x\/(w.a.subs.set n (ed s x))[i]=w.a.subs[i]):=by
   intro i h1 h2
   rw [R0]
   split
   ·rename_i e;subst e
    rw [es]
    exact⟨⟨rfl,rfl,rfl,fun h=>absurd q5 h⟩,.inl rfl⟩
   exact⟨SubTo.refl _,.inr rfl⟩
  have hmem:ed s x∈w.a.subs.set n (ed s x):=Sm hn _
  have P:PutA w (ic w { w.a with subs:=w.a.subs.set n (ed s x) }):=by
   refine⟨rfl,rfl,rfl,rfl,rfl,⟨[],by simp [ic]⟩,ok.1,ok.2,C.sia,rfl,rfl,⟨C.da.1,RS _⟩,fun r hr=>?_,fun r hr=>?_,?_,fun h hh=>?_,C.oa,C.fa,fun _ _ h=>h,C.oia,C.iia⟩
   ·obtain⟨i,hi,rfl⟩:=RV hr
    exact⟨_,RQ (by simpa [ic] using hi),(hat i (by simpa using hi) hi).1⟩
   ·rcases RX hr with hr|hr
    ·exact C.sa r hr
    rw [hr]
    refine⟨S.t4,S.tn,S.mine,S.own,S.far,⟨hf.1,fun h hh hm=>?_⟩,fun h3=>by simp [ed] at h3,fun _=>h1000⟩
    obtain⟨g1,g2,g3⟩:=hf.2 h hh hm
    rw [<-hrd] at g3
    exact⟨g1,g2,g3⟩
   ·have p:=C.sad
    rw [RU] at p⊢
    intro i j hi hj hij
    dsimp only [ic] at hi hj⊢
    have hi':i < w.a.subs.length:=by simpa using hi
    have hj':j < w.a.subs.length:=by simpa using hj
    rw [(hat i hi hi').1.take,(hat j hj hj').1.take]
    exact p i j hi' hj' hij
   have H:=C.ha h hh
   refine⟨H.m4,fun r hr=>?_,H.th⟩
   rcases RX hr with hr|hr
   ·exact H.sep r hr
   rw [hr];exact H.sep s hs
  refine P.step C fun C'=>ef ⟨.inr ?_,fun h0=>?_⟩
  ·constructor<;>(intro p1 p2;simp only [bq,ah,af] at p2;try omega)
   ·intro m n hm
    have:sideAt s.road.far=1:=p1
    have:=S.far
    omega
   intro m n hm
   simp only [bq,ah,ic] at hm
   injection hm with _ _ _ hm hn'
   exact⟨ed s x,hmem,by simp [ed],h1000,hm.symm,hn'.symm,rfl⟩
  have:sideAt s.road.far=0:=h0
  have:=S.far
  omega
 by_cases k6:x.kind=6
 ·rw [qq hc k6]
  have hno:=L.a6 hx k6
  have hA:pL w.a x=false:=by
   cases hj:pL w.a x with
   |false=>rfl
   |true=>
    simp only [pL,RP,decide_eq_true_eq] at hj
    rw [C.pa] at hj
    exact absurd hj.2 (hno _ _)
  have hB:I_ w.a x=false:=by
   cases hj:I_ w.a x with
   |false=>rfl
   |true=>
    simp only [I_,RP,decide_eq_true_eq] at hj
    rw [C.pa] at hj
    exact absurd hj.2 (hno _ _)
  by_cases hI:lj w.a x=true
  ·rw [HK hI hA hB];exact keep
  rw [Nu (by simpa using hI)];exact keep
 by_cases k7:x.kind=7
 ·rw [qr hc k7] at ok⊢
  unfold aM at ok⊢
  dsimp only at ok⊢
  split at ok
  case isFalse hk=>rw [if_neg hk];exact keep
  rename_i hk
  rw [if_pos hk]
  simp only [lG,RP,decide_eq_true_eq] at hk
  obtain⟨⟨⟨⟨q1,q2⟩,q3⟩,q4⟩,q5⟩:=hk
  obtain⟨n,e1,hn,_,hr,_⟩:=lS q3
  rw [e1,RT] at q4 q5 ok⊢
  rw [bE hn] at q4 q5
  rw [dA hn] at ok⊢
  obtain⟨s,es⟩:∃ s,w.a.subs[n]=s:=⟨_,rfl⟩
  have hs:=RQ hn
  rw [es] at q4 q5 hs hr ok⊢
  have S:=C.sa s hs
  have hon:∃ t∈w.b.subs,t.road=bk s.road/\t.take=s.give/\t.give=s.take:=by
   rcases L.a7 hx k7 with g|⟨t,g1,g2⟩
   ·rw [<-q5] at g;exact absurd g (Id C hs)
   obtain⟨r,r1,r2,r3,r4,r5⟩:=(C.sb t g1).like
   have:r=s:=kz C.sad r1 hs (by rw [r4,g2,q5])
   subst this
   exact⟨t,g1,by rw [r3];rfl,r5.symm,r4.symm⟩
  have hat:∀ (i:Nat) (h1:i < (w.a.subs.set n { s with state:=3 }).length) (h2:i < w.a.subs.length),SubTo w.a.subs[i] (w.a.subs.set n { s with state:=3 })[i]:=by
   intro i h1 h2
   rw [R0]
   split
   ·rename_i e;subst e
    rw [es]
    exact⟨rfl,rfl,rfl,fun h=>⟨zP,rfl,rfl⟩⟩
   exact SubTo.refl _
  refine PutA.step ⟨rfl,rfl,rfl,rfl,rfl,⟨[],by simp [ic]⟩,ok.1,ok.2,C.sia,rfl,rfl,⟨C.da.1,RS _⟩,fun r hr=>?_,fun r hr=>?_,?_,fun h hh=>?_,C.oa,C.fa,fun _ _ h=>h,C.oia,C.iia⟩ C fun _=>ee
  ·obtain⟨i,hi,rfl⟩:=RV hr
   exact⟨_,RQ (by simpa [ic] using hi),hat i (by simpa using hi) hi⟩
  ·rcases RX hr with hr|hr
   ·exact C.sa r hr
   rw [hr]
   exact⟨S.t4,S.tn,S.mine,S.own,S.far,S.th,fun _=>hon,fun h=>by simp at h⟩
  ·have p:=C.sad
   rw [RU] at p⊢
   intro i j hi hj hij
   dsimp only [ic] at hi hj⊢
   have hi':i < w.a.subs.length:=by simpa using hi
   have hj':j < w.a.subs.length:=by simpa using hj
   rw [(hat i hi hi').take,(hat j hj hj').take]
   exact p i j hi' hj' hij
  have H:=C.ha h hh
  refine⟨H.m4,fun r hr=>?_,H.th⟩
  rcases RX hr with hr|hr
  ·exact H.sep r hr
  rw [hr];exact H.sep s hs
 by_cases k8:x.kind=8
 ·rw [qs hc k8] at ok⊢
  unfold bW at ok⊢
  split at ok
  case isFalse hk=>rw [if_neg hk];exact keep
  rename_i hk
  rw [if_pos hk]
  simp only [gG,RP,decide_eq_true_eq] at hk
  obtain⟨⟨⟨⟨q1,q2⟩,_⟩,_⟩,_⟩:=hk
  rw [C.pa] at q2
  obtain⟨t1,t2⟩:=L.a8 hx k8 _ _ q2
  obtain⟨n,e1,_,hn,_,_,hr,_⟩:=Ct q1
  refine PutA.step (MildA.put ⟨rfl,rfl,rfl,rfl,rfl,⟨[],by simp [ic]⟩,ok,⟨rfl,rfl,rfl,rfl⟩,SubsKeep.refl _,fun h hh=>⟨h,hh,HalfKeep.refl h⟩,C.oa,fun f hf=>?_,fun _ _ h=>h,C.oia,C.iia⟩ C) C fun C'=>ef (pc (by simp [vt,pM,ah]) ?_)
  ·rcases h_ hf with rfl|hf
   ·exact⟨t1,t2⟩
   exact C.fa f hf
  show ¬ sideAt (roadOf x).far=0
  rw [<-hr]
  have:=(C.sa _ (RQ hn)).far
  omega
 by_cases k9:x.kind=9
 ·rw [tO hc k9] at ok⊢
  unfold bY at ok⊢
  dsimp only at ok⊢
  split at ok
  case isFalse hk=>rw [if_neg hk];exact keep
  rename_i hk
  rw [if_pos hk]
  simp only [iG,RP,decide_eq_true_eq] at hk
  obtain⟨n,e1,hn,_⟩:=lr hk.1.2
  rw [e1,RT,gy hn] at ok⊢
  refine PutA.step (MildA.put ⟨rfl,rfl,rfl,rfl,rfl,⟨[],by simp [ic]⟩,ok,⟨rfl,rfl,rfl,rfl⟩,SubsKeep.refl _,fun h hh=>⟨h,hh,HalfKeep.refl h⟩,fun q hq=>?_,C.fa,fun i d h=>?_,C.oia,C.iia⟩ C) C fun _=>ee
  ·rcases RX hq with hq|hq
   ·exact C.oa q hq
   rw [hq];exact (show sideAt w.a.own[n].addr=1 from C.oa _ (RQ hn))
  rcases h with⟨q,h1,h2,h3⟩|h
  ·obtain⟨j,hj,rfl⟩:=RV h1
   by_cases hjn:n=j
   ·subst hjn
    exact .inl ⟨_,Sm hn _,h2,h3⟩
   refine .inl ⟨w.a.own[j],?_,h2,h3⟩
   dsimp only [ic]
   rw [Sb]
   exact⟨j,by simpa using hj,by rw [S_ hjn]⟩
  exact .inr h
 by_cases k10:x.kind=10
 ·rw [oM hc k10] at ok⊢
  unfold bZ at ok⊢
  dsimp only at ok⊢
  split at ok
  case isFalse hk=>rw [if_neg hk];exact keep
  rename_i hk
  rw [if_pos hk]
  refine PutA.step (MildA.put ⟨rfl,rfl,rfl,rfl,rfl,⟨[],by simp [ic]⟩,ok,⟨rfl,rfl,rfl,rfl⟩,SubsKeep.map fun s hs=>?_,fun h hh=>⟨h,hh,HalfKeep.refl h⟩,C.oa,fun f hf=>C.fa f (iL hf),fun _ _ h=>h,C.oia,C.iia⟩ C) C fun _=>ee
  rw [lK];split
  ·exact⟨rfl,rfl,rfl,rfl,rfl,.inr rfl⟩
  exact SubKeep.refl s
 by_cases k11:x.kind=11
 ·rw [mw hc k11] at ok⊢
  unfold b_ at ok⊢
  split at ok
  case isFalse hk=>rw [if_neg hk];exact keep
  rename_i hk
  rw [if_pos hk]
  simp only [ko,RP,decide_eq_true_eq] at hk
  obtain⟨n,e1,_,hn,_,ht,hr,_⟩:=Ct hk.1
  have hsl:Slice w.wroteB x.pos x.text:=by
   rcases L.a11 hx k11 with g|g
   ·rw [<-ht] at g;exact absurd g (Id C (RQ hn))
   exact g
  refine PutA.step (MildA.put ⟨rfl,rfl,rfl,rfl,rfl,⟨[],by simp [ic]⟩,ok,⟨rfl,rfl,rfl,rfl⟩,SubsKeep.refl _,fun h hh=>⟨h,hh,HalfKeep.refl h⟩,C.oa,C.fa,fun _ _ h=>h,C.oia,rf C.iia G hsl⟩ C) C fun C'=>ef (pc (by simp [vt,sr,ah]) ?_)
  show ¬ sideAt (roadOf x).far=0
  rw [<-hr]
  have:=(C.sa _ (RQ hn)).far
  omega
 by_cases k12:x.kind=12
 ·rw [my hc k12] at ok⊢
  unfold bR at ok⊢
  dsimp only at ok⊢
  split at ok
  case isFalse hk=>rw [if_neg hk];exact keep
  rename_i hk
  rw [if_pos hk]
  exact PutA.step (MildA.put ⟨rfl,rfl,rfl,rfl,rfl,⟨[],by simp [ic]⟩,ok,⟨rfl,rfl,rfl,rfl⟩,SubsKeep.refl _,fun h hh=>⟨h,hh,HalfKeep.refl h⟩,C.oa,C.fa,fun _ _ h=>h,LP C.oia,C.iia⟩ C) C fun _=>ee
 by_cases k13:x.kind=13
 ·rw [oN hc k13] at ok⊢
  unfold bG at ok⊢
  dsimp only at ok⊢
  split at ok
  case isFalse hk=>rw [if_neg hk];exact keep
  rename_i hk
  rw [if_pos hk]
  exact PutA.step (MildA.put ⟨rfl,rfl,rfl,rfl,rfl,⟨[],by simp [ic]⟩,ok,⟨rfl,rfl,rfl,rfl⟩,SubsKeep.st4 _ _,fun h hh=>⟨h,hh,HalfKeep.refl h⟩,C.oa,C.fa,fun _ _ h=>h,C.oia,C.iia⟩ C) C fun _=>ee
 rw [xc fun k hk=>by omega];exact keep
theorem If {l:List HalfD} {n:Nat} {q:HalfD} (p:l.Pairwise fun h k=>¬ h.take=k.take) (hq:∀ (i:Nat) (hi:i < l.length),¬ i=n->¬ l[i].take=q.take):(l.set n q).Pairwise fun h k=>¬ h.take=k.take:=by
 rw [RU] at p⊢
 intro i j hi hj hij
 have hi':i < l.length:=by simpa using hi
 have hj':j < l.length:=by simpa using hj
 rw [R0,R0]
 by_cases h1:n=i
 ·rw [if_pos h1,if_neg zO]
  exact fun hc=>hq j hj' zO hc.symm
 rw [if_neg h1]
 by_cases h2:n=j
 ·rw [if_pos h2];exact hq i hi' zO
 rw [if_neg h2];exact p i j hi' hj' hij
theorem LR {l:List HalfD} (h:l.Pairwise fun s t=>¬ s.take=t.take) {s t:HalfD} (hs:s∈l) (ht:t∈l) (e:s.take=t.take):s=t:=by
 obtain⟨i,hi,rfl⟩:=RV hs
 obtain⟨j,hj,rfl⟩:=RV ht
 rw [RU] at h
 rcases Sk i j with hl|hl|hl
 ·exact absurd e (h i j hi hj hl)
 ·subst hl;rfl
 exact absurd e.symm (h j i hj hi hl)
theorem LS {w:WorldD} {x:LetterD} (C:Core w) (G:SmallP w.b.inp) (L:LetI w x) (hx:sideAt x.to=2):Step w (inB w (aG w.b x).1) (aG w.b x).2:=by
 have ok:=H8 (x:=x) C.okb C.stb
 have M0:=MildB.refl C
 have keep:Step w (inB w w.b) []:=(M0.put C).step C fun _=>ee
 by_cases hc:bJ w.b x=true
 case neg=>rw [qm (by simpa using hc)];exact keep
 by_cases k1:x.kind=1
 ·rw [tM hc k1,aI,if_neg]
  ·exact keep
  simp only [iy,RP,decide_eq_true_eq];have:=C.stb;omega
 by_cases k2:x.kind=2
 ·rw [tN hc k2,br,if_neg]
  ·exact keep
  simp only [lh,RP,decide_eq_true_eq];have:=C.stb;omega
 by_cases k4:x.kind=4
 ·rw [qo hc k4] at ok⊢
  have hL:=L.b4 hx k4
  have ans:∀ (w':WorldD) (h:HalfD),Core w'->HalfB w'.nums w'.b.draw w'.a.subs w'.b.subs h->h.road=roadOf x->(∀ k∈w'.b.halfs,k.mine=h.mine->k.theirs=h.theirs/\k.take=h.take/\k.road=h.road)->(∀ k∈w'.b.halfs,k.take=h.take->k.theirs=h.theirs)->w'.a.key=w.a.key->w'.b.key=w.b.key->Post w' (cC w.b (roadOf x) h):=by
   intro w' h C' H hr hone htk e1 e2
   have hm:=H.m4
   refine⟨.inr ?_,fun h0=>?_⟩
   ·constructor<;>(intro q1 q2;simp only [cC,ah,af] at q2;try omega)
    intro m hm'
    simp only [cC,ah] at hm'
    injection hm' with _ _ _ _ hb
    refine .inr ⟨by simp only [cC,ah];omega,fun k hk hkm=>?_⟩
    obtain⟨g1,g2,g3⟩:=hone k hk hkm
    exact⟨by rw [g1,hb],g2,by rw [g3,hr];rfl⟩
   have hth:Loose w'.nums h.theirs:=by
    rcases H.th with g|⟨_,s,s1,_,_,_,s5⟩
    ·exact g
    have:=(C'.sa s s1).own
    rw [s5,hr] at this
    have h0':sideAt (roadOf x).far=0:=h0
    have:sideAt (roadOf x).far=1:=this
    omega
   refine⟨rfl,hth,rfl,fun s hs=>?_,fun t ht=>?_,fun k hk hq=>?_,⟨by simp only [cC,ah];omega,by simp only [cC,ah];omega⟩,fun n hn=>?_⟩
   ·have S:=C'.sa s hs
    have t4:=S.t4
    simp only [cC,ah]
    refine⟨zO,zO,?_⟩
    rcases S.mine with g|⟨g,_⟩
    ·exact .inl g
    exact .inr ⟨zO,zO⟩
   ·have t4:=(C'.sb t ht).t4
    have:=H.sep t ht
    simp only [cC,ah]
    exact⟨this,zO⟩
   ·have m4:=(C'.hb k hk).m4
    simp only [cC,ah] at hq
    rcases hq with hq|hq
    ·rw [htk k hk hq];exact hth
    omega
   simp only [cC,ah] at hn
   constructor<;>intro _<;>omega
  unfold bK at ok⊢
  split at ok
  case isFalse hk=>rw [if_neg hk];exact keep
  rename_i hk
  rw [if_pos hk]
  split at ok
  ·rename_i hs
   rw [if_pos hs]
   simp only [dO,RP,decide_eq_true_eq] at hs
   obtain⟨n,e1,hn,hrd⟩:=jI hs.1.1
   have hj:qb w.b x=w.b.halfs[n]:=by rw [qb,e1,RT,eK hn]
   rw [hj,e1,RT] at ok⊢
   obtain⟨q,hq⟩:∃ q,w.b.halfs[n]=q:=⟨_,rfl⟩
   have hqm:=RQ hn
   rw [hq] at ok hrd hqm⊢
   have H:=C.hb q hqm
   have hold:∀ k∈w.b.halfs.set n { q with till:=w.b.now+6 },∃ h∈w.b.halfs,HalfKeep h k:=by
    intro k hk
    rcases RX hk with hk|hk
    ·exact⟨k,hk,HalfKeep.refl k⟩
    rw [hk];exact⟨q,hqm,rfl,rfl,rfl,rfl,rfl⟩
   have HB:∀ k,(∃ h∈w.b.halfs,HalfKeep h k)->HalfB w.nums w.b.draw w.a.subs w.b.subs k:=by
    rintro k ⟨h,h1,h2,h3,h4,h5,h6⟩
    have S:=C.hb h h1
    exact⟨by rw [<-h2,<-h4];exact S.m4,by rw [<-h4];exact S.sep,by rw [<-h3,<-h4,<-h5,<-h6];exact S.th⟩
   have P:PutB w (inB w { w.b with bucket:=(bl w.b.bucket).1,halfs:=w.b.halfs.set n { q with till:=w.b.now+6 } }):=by
    refine⟨rfl,rfl,rfl,rfl,rfl,⟨[],by simp [inB]⟩,ok.1,ok.2,C.sib,rfl,rfl,⟨C.db.1,RS _⟩,fun t ht=>⟨t,ht,rfl,rfl,rfl⟩,C.sb,fun h hh=>HB h (hold h hh),?_,fun h hh=>?_,C.ob,C.fb,fun _ _ h=>h,C.oib,C.iib⟩
    ·refine If C.hbd fun i hi hin=>?_
     have p:=C.hbd
     rw [RU] at p
     dsimp only
     rw [<-hq]
     rcases SP hin with hl|hl
     ·exact p i n hi hn hl
     exact fun hc=>p n i hn hi hl hc.symm
    obtain⟨k,g1,g2,g3,g4,g5,_⟩:=hold h hh
    exact .inr ⟨k,g1,g2,g3,g4,g5⟩
   refine P.step C fun C'=>ef ?_
   have h1:∀ k∈w.b.halfs.set n { q with till:=w.b.now+6 },k.take=q.take->k.theirs=q.theirs/\k.take=q.take/\k.road=q.road:=by
    intro k hk ht
    obtain⟨h,g1,g2,g3,g4,g5,_⟩:=hold k hk
    have:h=q:=LR C.hbd g1 hqm (by rw [g4,ht])
    subst this
    exact⟨g3.symm,g4.symm,g5.symm⟩
   refine ans _ q C' H hrd (fun k hk hm=>?_) (fun k hk ht=>(h1 k hk ht).1) rfl rfl
   have m1:=(HB k (hold k hk)).m4
   have m2:=H.m4
   exact h1 k hk zO
  rename_i hs
  rw [if_neg hs]
  simp only [ll,RP,decide_eq_true_eq,dt] at hk
  have hd:=hk.1.1.2
  have db:=C.db
  have hnew:HalfB w.nums (w.b.draw+4) w.a.subs w.b.subs (aj w.b x):=by
   refine⟨⟨by simp only [aj];omega,by simp only [aj];omega,by simp only [aj];omega,by simp only [aj]⟩,fun t ht=>?_,?_⟩
   ·have:=(C.sb t ht).t4
    simp only [aj]
    omega
   rcases hL with g|⟨s,g1,g2,g3,g4,g5⟩
   ·exact .inl g
   refine .inr ⟨fun hc=>?_,s,g1,g2,g3.symm,g4.symm,?_⟩
   ·have:=(C.nn _ hc).2 (by simp only [aj];omega)
    simp only [aj] at this
    omega
   simp only [aj];rw [g5];rfl
  have hput:(∀ h∈(aX w.b.halfs (aj w.b x)).1,h=aj w.b x\/h∈w.b.halfs)/\(aX w.b.halfs (aj w.b x)).1.Pairwise fun h k=>¬ h.take=k.take:=by
   have hne:∀ h∈w.b.halfs,¬ h.take=(aj w.b x).take:=fun h hh=>by
    have:=(C.hb h hh).m4
    simp only [aj]
    omega
   rw [aX];split
   ·dsimp only
    rw [bP];split
    ·refine⟨fun h hh=>?_,If C.hbd fun i hi _=>hne _ (RQ hi)⟩
     rcases RX hh with hh|hh
     ·exact .inr hh
     exact .inl hh
    refine⟨fun h hh=>?_,?_⟩
    ·rcases RW.1 hh with hh|hh
     ·exact .inr hh
     exact .inl (RR.1 hh)
    rw [Sh]
    exact⟨C.hbd,R_ ..,fun a ha b hb=>by rw [RR.1 hb];exact hne a ha⟩
   exact⟨fun h hh=>.inr hh,C.hbd⟩
  have P:PutB w (inB w { w.b with bucket:=(bl w.b.bucket).1,draw:=w.b.draw+4,halfs:=(aX w.b.halfs (aj w.b x)).1 }):=by
   refine⟨rfl,rfl,rfl,rfl,rfl,⟨[],by simp [inB]⟩,ok.1,ok.2,C.sib,rfl,rfl,⟨by dsimp only [inB];omega,by dsimp only [inB];omega⟩,fun t ht=>⟨t,ht,rfl,rfl,rfl⟩,fun t ht=>?_,fun h hh=>?_,hput.2,fun h hh=>?_,C.ob,C.fb,fun _ _ h=>h,C.oib,C.iib⟩
   ·have S:=C.sb t ht
    exact⟨by have:=S.t4;dsimp only [inB];omega,S.tn,S.st,S.like⟩
   ·rcases hput.1 h hh with rfl|hh
    ·exact hnew
    have S:=C.hb h hh
    exact⟨by have:=S.m4;dsimp only [inB];omega,S.sep,S.th⟩
   rcases hput.1 h hh with rfl|hh
   ·exact .inl (RS _)
   exact .inr ⟨h,hh,rfl,rfl,rfl,rfl⟩
  refine P.step C fun C'=>ef ?_
  have h1:∀ k∈(aX w.b.halfs (aj w.b x)).1,k.take=(aj w.b x).take\/k.mine=(aj w.b x).mine->k=aj w.b x:=by
   intro k hk ht
   rcases hput.1 k hk with g|g
   ·exact g
   have:=(C.hb k g).m4
   simp only [aj] at ht
   omega
  exact ans _ (aj w.b x) C' hnew rfl (fun k hk hm=>by rw [h1 k hk (.inr hm)];exact⟨rfl,rfl,rfl⟩) (fun k hk ht=>by rw [h1 k hk (.inl ht)]) rfl rfl
 by_cases k5:x.kind=5
 ·rw [qp hc k5,Ns]
  ·exact keep
  cases hj:rS w.b x with
  |false=>rfl
  |true=>
   simp only [rS,RP,decide_eq_true_eq] at hj
   obtain⟨⟨⟨_,q4⟩,q5⟩,_⟩:=hj
   obtain⟨n,e1,hn,_⟩:=lS q4
   rw [e1,RT,bE hn] at q5
   have:=(C.sb _ (RQ hn)).st
   omega
 by_cases k6:x.kind=6
 ·rw [qq hc k6] at ok⊢
  have hL:=L.b6 hx k6
  unfold aq at ok⊢
  split at ok
  case isFalse hk=>rw [if_neg hk];exact keep
  rename_i hk
  rw [if_pos hk]
  split at ok
  ·rename_i ha
   rw [if_pos ha]
   simp only [pL,RP,decide_eq_true_eq] at ha
   obtain⟨⟨a1,a2⟩,a3⟩:=ha
   obtain⟨i,e1,hi,hrd⟩:=jI a1
   have hj:qb w.b x=w.b.halfs[i]:=by rw [qb,e1,RT,eK hi]
   rw [hj] at a3 ok⊢
   obtain⟨q,hq⟩:∃ q,w.b.halfs[i]=q:=⟨_,rfl⟩
   have hqm:=RQ hi
   rw [hq] at a3 ok hrd hqm⊢
   have H:=C.hb q hqm
   rw [C.pb] at a3
   obtain⟨s,s1,s2,s3,s4,s5,s6⟩:=hL _ _ a3
   have S:=C.sa s s1
   obtain⟨g1,g2,g3⟩:=S.th.2 q hqm s5
   have hau:¬ q.take∈w.nums/\∃ s∈w.a.subs,1000<=s.mine/\s.mine=q.theirs/\s.take=q.give/\s.road=bk q.road:=by
    rcases H.th with g|g
    ·rw [s4] at g;exact absurd g (Ie C s1 s3)
    exact g
   obtain⟨hn,r,r1,r2,r3,r4,r5⟩:=hau
   have hrs:r=s:=by
    refine kz C.sad r1 s1 ?_
    have m1:=(C.sa r r1).mine
    have m2:=S.mine
    omega
   subst hrs
   have hdr:bH w.b.halfs (roadOf x)=w.b.halfs.take i++w.b.halfs.drop (i+1):=qc e1
   have hsub:(bH w.b.halfs (roadOf x)).Sublist w.b.halfs:=by rw [hdr];exact oY _ _
   have hoth:∀ k∈bH w.b.halfs (roadOf x),¬ k.take=q.take:=by
    intro k hk
    have p:=C.hbd
    rw [RU] at p
    rw [hdr] at hk
    rw [<-hq]
    rcases RW.1 hk with hk|hk
    ·rw [Sf] at hk
     obtain⟨j,hj,rfl⟩:=hk
     exact p j i zO hi zO
    rw [So] at hk
    obtain⟨j,hj,rfl⟩:=hk
    exact fun hc=>p i (i+1+j) hi zO zO hc.symm
   obtain⟨l0,hl0⟩:∃ l0,(if 0<=bF w.b.subs (roadOf x) then cq w.b.subs (bF w.b.subs (roadOf x)).toNat 4 else w.b.subs)=l0:=⟨_,rfl⟩
   rw [hl0] at ok⊢
   have K:SubsKeep w.b.subs l0:=by
    rw [<-hl0];split
    ·exact SubsKeep.st4 _ _
    exact SubsKeep.refl _
   have hmem:fi (roadOf x) q∈l0++[fi (roadOf x) q]:=by simp
   have P:PutB w (inB w { w.b with subs:=l0++[fi (roadOf x) q],halfs:=bH w.b.halfs (roadOf x) }):=by
    refine⟨rfl,rfl,rfl,rfl,rfl,⟨[],by simp [inB]⟩,ok.1,ok.2,C.sib,rfl,rfl,⟨C.db.1,RS _⟩,fun t ht=>?_,fun t ht=>?_,fun h hh=>?_,C.hbd.sublist hsub,fun h hh=>.inr ⟨h,hsub.subset hh,rfl,rfl,rfl,rfl⟩,C.ob,C.fb,fun _ _ h=>h,C.oib,C.iib⟩
    ·obtain⟨u,u1,u2⟩:=K.new ht
     exact⟨u,RY _ u1,u2.road,u2.take,u2.give⟩
    ·rcases RW.1 ht with ht|ht
     ·obtain⟨u,u1,u2⟩:=K.old ht
      exact u2.subB (C.sb u u1)
     rw [RR.1 ht]
     have m4:=H.m4
     exact⟨by simp only [fi,inB];omega,hn,.inl rfl,r,r1,s2,by rw [r5,hrd];rfl,r4,g2.symm⟩
    have S':=C.hb h (hsub.subset hh)
    refine⟨S'.m4,fun t ht=>?_,S'.th⟩
    rcases RW.1 ht with ht|ht
    ·obtain⟨u,u1,u2⟩:=K.old ht
     rw [u2.take];exact S'.sep u u1
    rw [RR.1 ht]
    exact fun hc=>hoth h hh hc.symm
   refine P.step C fun C'=>ef ⟨.inr ?_,fun h0=>?_⟩
   ·constructor<;>(intro p1 p2;simp only [fH,ah,af] at p2;try omega)
    exact .inr ⟨_,hmem,rfl⟩
   have h0':sideAt (roadOf x).far=0:=h0
   have h3:=(farB C' (t:=fi (roadOf x) q) hmem).1
   have h3':sideAt (roadOf x).far=1:=h3
   omega
  rename_i ha
  rw [if_neg ha]
  split at ok
  ·rename_i hb
   rw [if_pos hb]
   simp only [I_,RP,decide_eq_true_eq] at hb
   obtain⟨n,e1,hn,_,hr,_⟩:=lS hb.1.1
   have hj:ME w.b x=w.b.subs[n]:=by rw [ME,e1,RT,bE hn]
   rw [hj]
   refine (M0.put C).step C fun C'=>ef ⟨.inr ?_,fun h0=>?_⟩
   ·constructor<;>(intro p1 p2;simp only [fH,ah,af] at p2;try omega)
    exact .inr ⟨_,RQ hn,rfl⟩
   have h0':sideAt (roadOf x).far=0:=h0
   have h3:=(farB C (RQ hn)).1
   rw [hr] at h3
   omega
  rename_i hb
  rw [if_neg hb];exact keep
 by_cases k7:x.kind=7
 ·rw [qr hc k7,K0]
  ·exact keep
  cases hj:lG w.b x with
  |false=>rfl
  |true=>
   simp only [lG,RP,decide_eq_true_eq] at hj
   obtain⟨⟨⟨_,q3⟩,q4⟩,_⟩:=hj
   obtain⟨n,e1,hn,_⟩:=lS q3
   rw [e1,RT,bE hn] at q4
   have:=(C.sb _ (RQ hn)).st
   omega
 by_cases k8:x.kind=8
 ·rw [qs hc k8] at ok⊢
  unfold bW at ok⊢
  split at ok
  case isFalse hk=>rw [if_neg hk];exact keep
  rename_i hk
  rw [if_pos hk]
  simp only [gG,RP,decide_eq_true_eq] at hk
  obtain⟨⟨⟨⟨q1,q2⟩,_⟩,_⟩,_⟩:=hk
  rw [C.pb] at q2
  obtain⟨t1,t2⟩:=L.b8 hx k8 _ _ q2
  obtain⟨n,e1,_,hn,_,_,hr,_⟩:=Ct q1
  refine PutB.step (MildB.put ⟨rfl,rfl,rfl,rfl,rfl,⟨[],by simp [inB]⟩,ok,⟨rfl,rfl,rfl,rfl⟩,SubsKeep.refl _,List.Sublist.refl _,C.ob,fun f hf=>?_,fun _ _ h=>h,C.oib,C.iib⟩ C) C fun C'=>ef (pc (by simp [vt,pM,ah]) ?_)
  ·rcases h_ hf with rfl|hf
   ·exact⟨t1,t2⟩
   exact C.fb f hf
  show ¬ sideAt (roadOf x).far=0
  rw [<-hr]
  have:=(farB C (RQ hn)).1
  omega
 by_cases k9:x.kind=9
 ·rw [tO hc k9] at ok⊢
  unfold bY at ok⊢
  dsimp only at ok⊢
  split at ok
  case isFalse hk=>rw [if_neg hk];exact keep
  rename_i hk
  rw [if_pos hk]
  simp only [iG,RP,decide_eq_true_eq] at hk
  obtain⟨n,e1,hn,_⟩:=lr hk.1.2
  rw [e1,RT,gy hn] at ok⊢
  refine PutB.step (MildB.put ⟨rfl,rfl,rfl,rfl,rfl,⟨[],by simp [inB]⟩,ok,⟨rfl,rfl,rfl,rfl⟩,SubsKeep.refl _,List.Sublist.refl _,fun q hq=>?_,C.fb,fun i d h=>?_,C.oib,C.iib⟩ C) C fun _=>ee
  ·rcases RX hq with hq|hq
   ·exact C.ob q hq
   rw [hq];exact (show sideAt w.b.own[n].addr=2 from C.ob _ (RQ hn))
  rcases h with⟨q,h1,h2,h3⟩|h
  ·obtain⟨j,hj,rfl⟩:=RV h1
   by_cases hjn:n=j
   ·subst hjn
    exact .inl ⟨_,Sm hn _,h2,h3⟩
   refine .inl ⟨w.b.own[j],?_,h2,h3⟩
   dsimp only [inB]
   rw [Sb]
   exact⟨j,by simpa using hj,by rw [S_ hjn]⟩
  exact .inr h
 by_cases k10:x.kind=10
 ·rw [oM hc k10] at ok⊢
  unfold bZ at ok⊢
  dsimp only at ok⊢
  split at ok
  case isFalse hk=>rw [if_neg hk];exact keep
  rename_i hk
  rw [if_pos hk]
  refine PutB.step (MildB.put ⟨rfl,rfl,rfl,rfl,rfl,⟨[],by simp [inB]⟩,ok,⟨rfl,rfl,rfl,rfl⟩,SubsKeep.map fun s hs=>?_,List.Sublist.refl _,C.ob,fun f hf=>C.fb f (iL hf),fun _ _ h=>h,C.oib,C.iib⟩ C) C fun _=>ee
  rw [lK];split
  ·exact⟨rfl,rfl,rfl,rfl,rfl,.inr rfl⟩
  exact SubKeep.refl s
 by_cases k11:x.kind=11
 ·rw [mw hc k11] at ok⊢
  unfold b_ at ok⊢
  split at ok
  case isFalse hk=>rw [if_neg hk];exact keep
  rename_i hk
  rw [if_pos hk]
  simp only [ko,RP,decide_eq_true_eq] at hk
  obtain⟨n,e1,_,hn,_,ht,hr,_⟩:=Ct hk.1
  have hsl:Slice w.wroteA x.pos x.text:=by
   rcases L.b11 hx k11 with g|g
   ·rw [<-ht] at g;exact absurd g (NT C (RQ hn))
   exact g
  refine PutB.step (MildB.put ⟨rfl,rfl,rfl,rfl,rfl,⟨[],by simp [inB]⟩,ok,⟨rfl,rfl,rfl,rfl⟩,SubsKeep.refl _,List.Sublist.refl _,C.ob,C.fb,fun _ _ h=>h,C.oib,rf C.iib G hsl⟩ C) C fun C'=>ef (pc (by simp [vt,sr,ah]) ?_)
  show ¬ sideAt (roadOf x).far=0
  rw [<-hr]
  have:=(farB C (RQ hn)).1
  omega
 by_cases k12:x.kind=12
 ·rw [my hc k12] at ok⊢
  unfold bR at ok⊢
  dsimp only at ok⊢
  split at ok
  case isFalse hk=>rw [if_neg hk];exact keep
  rename_i hk
  rw [if_pos hk]
  exact PutB.step (MildB.put ⟨rfl,rfl,rfl,rfl,rfl,⟨[],by simp [inB]⟩,ok,⟨rfl,rfl,rfl,rfl⟩,SubsKeep.refl _,List.Sublist.refl _,C.ob,C.fb,fun _ _ h=>h,LP C.oib,C.iib⟩ C) C fun _=>ee
 by_cases k13:x.kind=13
 ·rw [oN hc k13] at ok⊢
  unfold bG at ok⊢
  dsimp only at ok⊢
  split at ok
  case isFalse hk=>rw [if_neg hk];exact keep
  rename_i hk
  rw [if_pos hk]
  exact PutB.step (MildB.put ⟨rfl,rfl,rfl,rfl,rfl,⟨[],by simp [inB]⟩,ok,⟨rfl,rfl,rfl,rfl⟩,SubsKeep.st4 _ _,List.Sublist.refl _,C.ob,C.fb,fun _ _ h=>h,C.oib,C.iib⟩ C) C fun _=>ee
 rw [xc fun k hk=>by omega];exact keep
def Sent (w:WorldD) (l:List LetterD):Prop:=∀ x∈l,¬ sideAt x.to=0/\LetI w x
theorem Sent.post {w:WorldD} {l:List LetterD} (h:Sent w l):∀ x∈l,Post w x:=fun x hx=>⟨.inr (h x hx).2,fun h0=>absurd h0 (h x hx).1⟩
theorem Sent.mono {w w':WorldD} {l:List LetterD} (h:Sent w l) (L:Le w w'):Sent w' l:=fun x hx=>⟨(h x hx).1,(h x hx).2.mono L⟩
theorem gz {w:WorldD}:Sent w []:=fun x hx=>by simp at hx
theorem oe {w:WorldD} {x:LetterD} (h1:¬ sideAt x.to=0) (h2:LetI w x):Sent w [x]:=fun y hy=>by rw [RR.1 hy];exact⟨h1,h2⟩
theorem og {w:WorldD} {l m:List LetterD} (h:Sent w l) (g:Sent w m):Sent w (l++m):=fun x hx=>(RW.1 hx).elim (h x) (g x)
theorem pf {w:WorldD} {x:LetterD} (hk:vt x.kind):LetI w x:=by
  simp only [vt] at hk
  constructor<;>(intro _ h;omega)
theorem SubTo.trans {a b c:SubD} (h:SubTo a b) (g:SubTo b c):SubTo a c:=⟨g.road.trans h.road,g.mine.trans h.mine,g.take.trans h.take,fun h1=>by
  obtain⟨p1,p2,p3⟩:=h.rest h1
  obtain⟨q1,q2,q3⟩:=g.rest p1
  exact⟨q1,q2.trans p2,q3.trans p3⟩⟩
theorem Le.trans {a b c:WorldD} (h:Le a b) (g:Le b c):Le a c:=by
  refine⟨g.ka.trans h.ka,g.kb.trans h.kb,fun n hn=>g.nums n (h.nums n hn),fun s hs=>?_,fun t ht=>?_,Sj h.db g.db,fun k hk=>?_,fun i d q=>g.ta i d (h.ta i d q),fun i d q=>g.tb i d (h.tb i d q),?_,?_⟩
  · obtain⟨r,r1,r2⟩:=h.sa s hs
    obtain⟨u,u1,u2⟩:=g.sa r r1
    exact⟨u,u1,r2.trans u2⟩
  · obtain⟨r,r1,r2⟩:=h.sb t ht
    obtain⟨u,u1,u2⟩:=g.sb r r1
    exact⟨u,u1,u2.trans r2⟩
  · rcases g.hb k hk with q|⟨r,r1,r2,r3,r4,r5⟩
    · exact .inl (Sj h.db q)
    · rcases h.hb r r1 with q|⟨u,u1,u2,u3,u4,u5⟩
      · exact .inl zO
      · exact .inr ⟨u,u1,u2.trans r2,u3.trans r3,u4.trans r4,u5.trans r5⟩
  · obtain⟨t,e⟩:=h.wa;obtain⟨u,f⟩:=g.wa
    exact⟨t++u,by rw [f,e,SD]⟩
  · obtain⟨t,e⟩:=h.wb;obtain⟨u,f⟩:=g.wb
    exact⟨t++u,by rw [f,e,SD]⟩
structure Go1 (w w':WorldD) (l:List LetterD):Prop where
  c:Core w'
  le:Le w w'
  s:Sent w' l
theorem Go1.trans {a b c:WorldD} {l m:List LetterD} (h:Go1 a b l) (g:Go1 b c m):Go1 a c (l++m):=⟨g.c,h.le.trans g.le,og (h.s.mono g.le) g.s⟩
theorem Go1.step {w w':WorldD} {l:List LetterD} (h:Go1 w w' l):Step w w' l:=⟨h.c,h.le,h.s.post⟩
theorem vg {l:List AddrD} {a b:AddrD} (h:aW l a.id < 0) (hb:b∈l):b∈(aS l a).1:=by
  rw [aS];split
  · dsimp only
    rw [cp,if_neg zO]
    have:=Sr (tD l a.id) l
    rw [<-this] at hb
    rcases RW.1 hb with hb|hb
    · exact RY _ (RY _ hb)
    · exact SH _ hb
  · exact hb
theorem sN {l:List AddrD} {n:Int} {b:AddrD} (hb:b∈l) (hn:¬ b.id=n):b∈(bQ l n).1:=by
  rw [bQ];split
  · exact hb
  · rename_i h
    obtain⟨k,e,hk,hi⟩:=lr (show 0<=aW l n by omega)
    rw [e,RT]
    dsimp only
    obtain⟨j,hj,rfl⟩:=RV hb
    have hjk:¬ j=k:=fun hc=>by subst hc;exact hn hi
    rcases SP hjk with hl|hl
    · refine RY _ ?_
      rw [Sf]
      exact⟨j,zO,rfl⟩
    · refine SH _ ?_
      rw [So]
      exact⟨j - (k+1),zO,by congr 1;omega⟩
theorem yi {l:List SubD} {k:Nat} (h:k∈gV l):bt l k∈l:=by
  obtain⟨h1,_⟩:=rJ h
  rw [bE h1];exact RQ h1
theorem uc {l:List Nat} (h:¬ l.length=0):l.headD 0∈l:=by
  cases l with
  |nil=>simp at h
  |cons a r=>simp
theorem dx (s:SubD):SubKeep s (tickS s):=by
  rw [tickS];split
  · split
    · exact⟨rfl,rfl,rfl,rfl,rfl,.inr rfl⟩
    · exact⟨rfl,rfl,rfl,rfl,rfl,.inl rfl⟩
  · exact SubKeep.refl s
theorem oh {e:EndD} (h:OkE e) (hk:yQ e=true):OkE { tick0 e with subs:=e.subs.map tickS }:=by
  simp only [yQ,RP,decide_eq_true_eq,R5] at hk
  refine⟨h.side,h.state,h.pol,h.own,h.far,h.halfs.young,A1 h.bucket,H_ h.out,h.inp,h.done,h.over,by dsimp only;rw [Sv];exact h.subs8,⟨h.nums.1,h.nums.2.1,h.nums.2.2.1,by have:=h.nums.2.2.2.1;simp only [N9,tick0] at this⊢;omega,h.nums.2.2.2.2⟩,h.subs.map fun s hs=>?_⟩
  have hel:=h.subs.el s hs
  have ht:=hk.2 s hs
  have hN:N9 (s.tries+1):=by have:=hel.2.2.2.2.2.2;simp only [N9] at this⊢;omega
  rw [tickS];split
  · split
    · exact⟨⟨zP,hel.2.1,hel.2.2.1,hel.2.2.2.1,hel.2.2.2.2.1,hel.2.2.2.2.2.1,hN⟩,rfl,fun _=>rfl⟩
    · exact⟨⟨hel.1,hel.2.1,hel.2.2.1,hel.2.2.2.1,hel.2.2.2.2.1,hel.2.2.2.2.2.1,hN⟩,rfl,fun h=>h⟩
  · exact⟨hel,rfl,fun h=>h⟩
theorem Oy {w w':WorldD} {l:List LetterD} (M:MildA w w') (C:Core w) (h:Core w'->Sent w' l):Go1 w w' l:=⟨(M.put C).core C,(M.put C).le,h ((M.put C).core C)⟩
theorem sP {w:WorldD} (C:Core w):Go1 w w []:=Oy (MildA.refl C) C fun _=>gz
theorem Cz {w:WorldD} (C:Core w) {s:SubD} (hs:s∈w.a.subs):¬ sideAt s.road.far=0/\¬ sideAt s.road.far=1:=by
  have:=(C.sa s hs).far
  omega
theorem QL {w:WorldD} (C:Core w):Go1 w (ic w (cB w.a).1) (cB w.a).2:=by
  have ok:=vH C.oka
  have st:=(re (e:=w.a)).trans C.sta
  unfold cB at ok st⊢
  split at ok
  · rename_i hk
    rw [if_pos hk] at st⊢
    refine Oy ⟨rfl,rfl,rfl,rfl,rfl,⟨[],by simp [ic]⟩,⟨ok,st⟩,⟨rfl,rfl,rfl,rfl⟩,SubsKeep.refl _,fun h hh=>⟨h,hh,HalfKeep.refl h⟩,C.oa,C.fa,fun _ _ h=>h,t_ C.oia,C.iia⟩ C fun C'=>?_
    simp only [gN,RP,decide_eq_true_eq,fZ] at hk
    rcases jj w.a with h0|⟨m,hm,e⟩
    · omega
    · rw [e,RT,bE hm]
      obtain⟨f0,f1⟩:=Cz C (RQ hm)
      refine oe f0 ?_
      have hs:=mQ C.oia hk.1.1
      constructor<;>(intro q1 q2;simp only [uU,ah,af] at q1 q2;try omega)
      first|exact .inr hs|exact absurd q1 f1
  · rename_i hk
    rw [if_neg hk]
    exact sP C
theorem Gz:∀ {k:Nat} {w:WorldD},Core w->Go1 w (ic w (pushN k w.a).1) (pushN k w.a).2
  |0,w,C=>sP C
  |k+1,w,C=>by
    have h1:=QL C
    have h2:=Gz (k:=k) h1.c
    exact h1.trans h2
theorem QM {w:WorldD} (C:Core w):Sent w (tellAddrs w.a):=by
  unfold tellAddrs;split
  · rename_i hk
    simp only [zn,RP,decide_eq_true_eq,R9,decide_eq_false_iff_not] at hk
    intro x hx
    obtain⟨q,hq,rfl⟩:=R8.1 hx
    have hq':=(Sn.1 hq).1
    have hs:=yi (uc hk.2)
    obtain⟨f0,f1⟩:=Cz C hs
    refine⟨f0,?_⟩
    constructor<;>(intro q1 q2;simp only [lN,ah,af] at q1 q2;try omega)
    all_goals
      intro i d hm
      first
        |exact absurd q1 f1
        | (simp only [lN,ah] at hm
           injection hm with _ _ _ hi hd
           exact⟨by rw [<-hd];exact C.oa q hq',.inl ⟨q,hq',hi,hd⟩⟩)
  · exact gz
theorem LT {w:WorldD} {l:List LetterD} (C:Core w) (hl:Sent w l):Go1 w (ic w (bu w.a l).1) (bu w.a l).2:=by
  have h:=Gz (k:=3) C
  exact⟨h.c,h.le,og (og (hl.mono h.le) ((QM C).mono h.le)) h.s⟩
theorem LU {w:WorldD} (C:Core w):Go1 w (ic w (tick w.a).1) (tick w.a).2:=by
  have hst:=C.sta
  unfold tick
  by_cases hk:yQ w.a=true
  · rw [if_pos hk,if_pos hst]
    have ok:OkE { tick0 w.a with subs:=w.a.subs.map tickS }:=oh C.oka hk
    have M:MildA w (ic w { tick0 w.a with subs:=w.a.subs.map tickS }):=by
      refine⟨rfl,rfl,rfl,rfl,rfl,⟨[],by simp [ic]⟩,⟨ok,hst⟩,⟨rfl,rfl,rfl,rfl⟩,SubsKeep.map fun s _=>dx s,fun h hh=>⟨h,(Sn.1 hh).1,HalfKeep.refl h⟩,C.oa,C.fa,fun _ _ h=>h,Cy C.oia,C.iia⟩
    have g:Go1 w (ic w { tick0 w.a with subs:=w.a.subs.map tickS }) (w.a.subs.flatMap (tickL w.a)):=by
      refine Oy M C fun C' x hx=>?_
      obtain⟨s,hs,hx⟩:=SX.1 hx
      have S:=C.sa s hs
      have hf:=S.far
      rw [tickL] at hx
      split at hx
      case isFalse=>simp at hx
      rename_i h12
      have h1000:=S.ask h12
      split at hx
      · simp at hx
      rename_i hn9
      split at hx
      · simp at hx
      have hin:tickS s∈(ic w { tick0 w.a with subs:=w.a.subs.map tickS }).a.subs:=List.mem_map_of_mem hs
      have K:=dx s
      split at hx
      · rw [RR.1 hx]
        refine⟨by show ¬ sideAt s.road.far=0;omega,?_⟩
        constructor<;>(intro q1 q2;simp only [dB,ah,af] at q1 q2;try omega)
        exact .inr ⟨_,hin,by rw [K.mine];exact h1000,K.mine.symm,K.take.symm,by rw [K.road];rfl⟩
      · rename_i h1
        rw [RR.1 hx]
        refine⟨by show ¬ sideAt s.road.far=0;omega,?_⟩
        constructor<;>(intro q1 q2;simp only [bq,ah,af] at q1 q2;try omega)
        intro m n hm
        simp only [bq,ah,ic] at hm
        injection hm with _ _ _ hm hn'
        exact⟨_,hin,by rcases K.state with q|q<;>omega,by rw [K.mine];exact h1000,by rw [K.mine];exact hm.symm,by rw [K.theirs];exact hn'.symm,by rw [K.road];rfl⟩
    have t:=LT g.c g.s
    exact⟨t.c,g.le.trans t.le,t.s⟩
  · rw [if_neg hk];exact sP C
theorem Oz {w:WorldD} (C:Core w) (r:RoadD) (b:Bool):Go1 w (ic w (join w.a r b).1) (join w.a r b).2:=by
  have ok:=Cu (r:=r) (b:=b) C.oka
  unfold join at ok⊢
  split at ok
  · rename_i hk
    rw [if_pos hk]
    simp only [tR,RP,decide_eq_true_eq,dt,lR] at hk
    obtain⟨⟨⟨⟨⟨⟨⟨k1,k2⟩,k3⟩,k4⟩,k5⟩,k6⟩,k7⟩,k8⟩:=hk
    have da:=C.da
    simp only [ownsAddr,fR,Sd,beq_iff_eq] at k5 k6
    obtain⟨q,q1,q2⟩:=k5
    obtain⟨f,f1,f2⟩:=k6
    have ho:=C.oa q q1
    have hf:=(C.fa f f1).1
    rw [q2] at ho
    rw [f2] at hf
    have hmem:bL w.a r b∈w.a.subs++[bL w.a r b]:=by simp
    have P:PutA w (ic w { w.a with subs:=w.a.subs++[bL w.a r b],draw:=w.a.draw+4 }):=by
      refine⟨rfl,rfl,rfl,rfl,rfl,⟨[],by simp [ic]⟩,ok.1,ok.2.trans C.sta,C.sia,rfl,rfl,⟨by dsimp only [ic];omega,by dsimp only [ic];omega⟩,fun s hs=>⟨s,RY _ hs,SubTo.refl s⟩,fun s hs=>?_,?_,fun h hh=>?_,C.oa,C.fa,fun _ _ h=>h,C.oia,C.iia⟩
      · rcases RW.1 hs with hs|hs
        · have S:=C.sa s hs
          exact⟨by have:=S.t4;dsimp only [ic];omega,S.tn,S.mine,S.own,S.far,S.th,S.on,S.ask⟩
        · rw [RR.1 hs]
          refine⟨by simp only [bL,ic];omega,fun hc=>?_,.inr ⟨rfl,fun hc=>?_⟩,ho,hf,⟨by have:=C.db;simp only [bL];omega,fun h hh hm=>?_⟩,fun h3=>by simp [bL] at h3,fun _=>by simp only [bL];omega⟩
          · have:=(C.nn _ hc).1 (by simp only [bL];omega)
            simp only [bL] at this
            omega
          · have:=(C.nn _ hc).1 (by simp only [bL];omega)
            simp only [bL] at this
            omega
          · have:=(C.hb h hh).m4
            simp only [bL] at hm
            omega
      · dsimp only [ic]
        rw [Sh]
        refine⟨C.sad,R_ ..,fun s hs t ht=>?_⟩
        rw [RR.1 ht]
        have:=(C.sa s hs).t4
        simp only [bL]
        omega
      · have S:=C.ha h hh
        refine⟨by have:=S.m4;dsimp only [ic];omega,fun s hs=>?_,S.th⟩
        rcases RW.1 hs with hs|hs
        · exact S.sep s hs
        · rw [RR.1 hs]
          have:=S.m4
          simp only [bL]
          omega
    refine⟨P.core C,P.le,oe ?_ ?_⟩
    · show ¬ sideAt r.far=0
      omega
    · constructor<;>(intro q1 q2;simp only [dB,bL,ah,af] at q1 q2;try omega)
      exact .inr ⟨_,hmem,by simp only [bL];omega,rfl,rfl,rfl⟩
  · rename_i hk
    rw [if_neg hk];exact sP C
theorem GB {far:List AddrD}:∀ {l:List RoadD} {w:WorldD},Core w->Go1 w (ic w (cF far w.a l).1) (cF far w.a l).2
  |[],w,C=>sP C
  |r::l,w,C=>by
    have h1:=Oz C r (aC far r.far)
    have h2:=GB (far:=far) (l:=l) h1.c
    exact h1.trans h2
theorem Pc {w:WorldD} {a:ActD} (C:Core w) (G:SmallP w.a.inp) (hs:a.side=1) (hb:cx w a=false):Go1 w (aL (dE w a) 1 (dl w.a a).1) (dl w.a a).2:=by
  have ok:=Ia (a:=a) C.oka G
  have hE:bS w a.side=w.a:=by rw [hs];rfl
  have heo:ai w.a=true:=bg.2 C.oka
  have hset:∀ (u:WorldD) (e:EndD),aL u 1 e={ u with a:=e }:=fun u e=>rfl
  rw [hset]
  unfold dl at ok⊢
  unfold dE
  rw [hE]
  by_cases k1:a.kind=1
  · simp only [if_pos k1]
    rw [eT,if_pos hs]
    have ok1:=yd (t:=a.text) C.oka
    have hw:cO w.a a.text=({ w.a with out:=(dp w.a.out a.text).1 },(dp w.a.out a.text).2):=B7 heo
    rw [hw] at ok1
    rw [hw,bs,hw]
    dsimp only
    have M:MildA w { w with wroteA:=w.wroteA++a.text.take (dp w.a.out a.text).2,a:={ w.a with out:=(dp w.a.out a.text).1 } }:=
      ⟨rfl,rfl,rfl,rfl,rfl,⟨_,rfl⟩,⟨ok1.1,ok1.2.trans C.sta⟩,⟨rfl,rfl,rfl,rfl⟩,SubsKeep.refl _,fun h hh=>⟨h,hh,HalfKeep.refl h⟩,C.oa,C.fa,fun _ _ h=>h,EE C.oia,C.iia⟩
    have g:=Oy M C fun _=>gz
    have g2:=Gz (k:=3) g.c
    exact g.trans g2
  simp only [if_neg k1] at ok⊢
  by_cases k2:a.kind=2
  · simp only [if_pos k2] at ok⊢
    rw [cj,if_pos hs]
    have hr:az w.a a.many=({ w.a with inp:=(aZ w.a.inp a.many).1 },(aZ w.a.inp a.many).2):=su heo
    rw [hr] at ok⊢
    exact Oy ⟨rfl,rfl,rfl,rfl,rfl,⟨[],zP⟩,⟨ok.1,ok.2.trans C.sta⟩,⟨rfl,rfl,rfl,rfl⟩,SubsKeep.refl _,fun h hh=>⟨h,hh,HalfKeep.refl h⟩,C.oa,C.fa,fun _ _ h=>h,C.oia,LO C.iia⟩ C fun _=>gz
  simp only [if_neg k2] at ok⊢
  by_cases k3:a.kind=3
  · simp only [if_pos k3]
    exact LU C
  simp only [if_neg k3] at ok⊢
  by_cases k4:a.kind=4
  · simp only [if_pos k4]
    unfold manage
    split
    · exact GB C
    · exact sP C
  simp only [if_neg k4] at ok⊢
  by_cases k5:a.kind=5
  · simp only [if_pos k5] at ok⊢
    unfold aR at ok⊢
    split at ok
    · rename_i hk
      rw [if_pos hk]
      simp only [F4,RP,decide_eq_true_eq] at hk
      simp only [cx,k5,decide_true,Td,S6,Ta,decide_eq_true_eq,hs] at hb
      refine Oy ⟨rfl,rfl,rfl,rfl,rfl,⟨[],zP⟩,⟨ok.1,ok.2.trans C.sta⟩,⟨rfl,rfl,rfl,rfl⟩,SubsKeep.refl _,fun h hh=>⟨h,hh,HalfKeep.refl h⟩,fun q hq=>?_,C.fa,fun i d h=>?_,C.oia,C.iia⟩ C fun _=>gz
      · rcases h_ hq with rfl|hq
        · exact hb.1
        · exact C.oa q hq
      · rcases h with⟨q,h1,h2,h3⟩|h
        · exact .inl ⟨q,vg hk.1.2 h1,h2,h3⟩
        · exact .inr h
    · rename_i hk
      rw [if_neg hk];exact sP C
  simp only [if_neg k5] at ok⊢
  by_cases k6:a.kind=6
  · simp only [if_pos k6] at ok⊢
    unfold jV at ok⊢
    split at ok
    · rename_i hk
      rw [if_pos hk]
      have K:SubsKeep w.a.subs (jA w.a a.pos):=SubsKeep.map fun s _=>by
        rw [HR];split
        · exact⟨rfl,rfl,rfl,rfl,rfl,.inr rfl⟩
        · exact SubKeep.refl s
      refine Oy ⟨rfl,rfl,rfl,rfl,rfl,⟨[],zP⟩,⟨ok.1,ok.2.trans C.sta⟩,⟨rfl,rfl,rfl,rfl⟩,K,fun h hh=>⟨h,hh,HalfKeep.refl h⟩,fun q hq=>C.oa q (iL hq),C.fa,fun i d h=>?_,C.oia,C.iia⟩ C fun C' x hx=>?_
      · rcases h with⟨q,h1,h2,h3⟩|h
        · by_cases hn:q.id=a.pos
          · exact .inr (by dsimp only;rw [<-h2,hn];exact Ey)
          · exact .inl ⟨q,sN h1 hn,h2,h3⟩
        · exact .inr (Ez h)
      · obtain⟨k,hk2,rfl⟩:=R8.1 hx
        exact⟨(Cz C' (yi hk2)).1,pf (by simp [vt,HS,ah])⟩
    · rename_i hk
      rw [if_neg hk];exact sP C
  simp only [if_neg k6] at ok⊢
  unfold mC at ok⊢
  split at ok
  · rename_i hk
    rw [if_pos hk]
    simp only [NH,RP,decide_eq_true_eq,dt] at hk
    refine Oy ⟨rfl,rfl,rfl,rfl,rfl,⟨[],zP⟩,⟨ok.1,ok.2.trans C.sta⟩,⟨rfl,rfl,rfl,rfl⟩,SubsKeep.st4 _ _,fun h hh=>⟨h,hh,HalfKeep.refl h⟩,C.oa,C.fa,fun _ _ h=>h,C.oia,C.iia⟩ C fun _=>oe ?_ (pf (by simp [vt,ah]))
    have hl:a.pos.toNat < w.a.subs.length:=zO
    rw [bE hl]
    exact (Cz C (RQ hl)).1
  · rename_i hk
    rw [if_neg hk];exact sP C
theorem OA {w w':WorldD} {l:List LetterD} (M:MildB w w') (C:Core w) (h:Core w'->Sent w' l):Go1 w w' l:=⟨(M.put C).core C,(M.put C).le,h ((M.put C).core C)⟩
theorem yj {w:WorldD} (C:Core w):Go1 w w []:=OA (MildB.refl C) C fun _=>gz
theorem CA {w:WorldD} (C:Core w) {s:SubD} (hs:s∈w.b.subs):¬ sideAt s.road.far=0/\¬ sideAt s.road.far=2:=by
  have:=(farB C hs).1
  omega
theorem QN {w:WorldD} (C:Core w):Go1 w (inB w (cB w.b).1) (cB w.b).2:=by
  have ok:=vH C.okb
  have st:=(re (e:=w.b)).trans C.stb
  unfold cB at ok st⊢
  split at ok
  · rename_i hk
    rw [if_pos hk] at st⊢
    refine OA ⟨rfl,rfl,rfl,rfl,rfl,⟨[],by simp [inB]⟩,⟨ok,st⟩,⟨rfl,rfl,rfl,rfl⟩,SubsKeep.refl _,List.Sublist.refl _,C.ob,C.fb,fun _ _ h=>h,t_ C.oib,C.iib⟩ C fun C'=>?_
    simp only [gN,RP,decide_eq_true_eq,fZ] at hk
    rcases jj w.b with h0|⟨m,hm,e⟩
    · omega
    · rw [e,RT,bE hm]
      obtain⟨f0,f1⟩:=CA C (RQ hm)
      refine oe f0 ?_
      have hs:=mQ C.oib hk.1.1
      constructor<;>(intro q1 q2;simp only [uU,ah,af] at q1 q2;try omega)
      first|exact .inr hs|exact absurd q1 f1
  · rename_i hk
    rw [if_neg hk]
    exact yj C
theorem GC:∀ {k:Nat} {w:WorldD},Core w->Go1 w (inB w (pushN k w.b).1) (pushN k w.b).2
  |0,w,C=>yj C
  |k+1,w,C=>by
    have h1:=QN C
    have h2:=GC (k:=k) h1.c
    exact h1.trans h2
theorem QO {w:WorldD} (C:Core w):Sent w (tellAddrs w.b):=by
  unfold tellAddrs;split
  · rename_i hk
    simp only [zn,RP,decide_eq_true_eq,R9,decide_eq_false_iff_not] at hk
    intro x hx
    obtain⟨q,hq,rfl⟩:=R8.1 hx
    have hq':=(Sn.1 hq).1
    have hs:=yi (uc hk.2)
    obtain⟨f0,f1⟩:=CA C hs
    refine⟨f0,?_⟩
    constructor<;>(intro q1 q2;simp only [lN,ah,af] at q1 q2;try omega)
    all_goals
      intro i d hm
      first
        |exact absurd q1 f1
        | (simp only [lN,ah] at hm
           injection hm with _ _ _ hi hd
           exact⟨by rw [<-hd];exact C.ob q hq',.inl ⟨q,hq',hi,hd⟩⟩)
  · exact gz
theorem LW {w:WorldD} {l:List LetterD} (C:Core w) (hl:Sent w l):Go1 w (inB w (bu w.b l).1) (bu w.b l).2:=by
  have h:=GC (k:=3) C
  exact⟨h.c,h.le,og (og (hl.mono h.le) ((QO C).mono h.le)) h.s⟩
theorem OB {w:WorldD} (C:Core w):Go1 w (inB w (tick w.b).1) (tick w.b).2:=by
  have hst:=C.stb
  unfold tick
  by_cases hk:yQ w.b=true
  · rw [if_pos hk,if_pos hst]
    have ok:OkE { tick0 w.b with subs:=w.b.subs.map tickS }:=oh C.okb hk
    have M:MildB w (inB w { tick0 w.b with subs:=w.b.subs.map tickS }):=by
      refine⟨rfl,rfl,rfl,rfl,rfl,⟨[],by simp [inB]⟩,⟨ok,hst⟩,⟨rfl,rfl,rfl,rfl⟩,SubsKeep.map fun s _=>dx s,S9,C.ob,C.fb,fun _ _ h=>h,Cy C.oib,C.iib⟩
    have g:Go1 w (inB w { tick0 w.b with subs:=w.b.subs.map tickS }) (w.b.subs.flatMap (tickL w.b)):=by
      refine OA M C fun C' x hx=>?_
      obtain⟨s,hs,hx⟩:=SX.1 hx
      have S:=(C.sb s hs).st
      rw [tickL,if_neg zO] at hx
      simp at hx
    have t:=LW g.c g.s
    exact⟨t.c,g.le.trans t.le,t.s⟩
  · rw [if_neg hk];exact yj C
theorem QP {w:WorldD} {a:ActD} (C:Core w) (G:SmallP w.b.inp) (hs:a.side=2) (hb:cx w a=false):Go1 w (aL (dE w a) 2 (dl w.b a).1) (dl w.b a).2:=by
  have ok:=Ia (a:=a) C.okb G
  have hE:bS w a.side=w.b:=by rw [hs];rfl
  have heo:ai w.b=true:=bg.2 C.okb
  have hset:∀ (u:WorldD) (e:EndD),aL u 2 e={ u with b:=e }:=fun u e=>rfl
  rw [hset]
  unfold dl at ok⊢
  unfold dE
  rw [hE]
  by_cases k1:a.kind=1
  · simp only [if_pos k1]
    rw [eT,if_neg zO]
    have ok1:=yd (t:=a.text) C.okb
    have hw:cO w.b a.text=({ w.b with out:=(dp w.b.out a.text).1 },(dp w.b.out a.text).2):=B7 heo
    rw [hw] at ok1
    rw [hw,bs,hw]
    dsimp only
    have M:MildB w { w with wroteB:=w.wroteB++a.text.take (dp w.b.out a.text).2,b:={ w.b with out:=(dp w.b.out a.text).1 } }:=
      ⟨rfl,rfl,rfl,rfl,rfl,⟨_,rfl⟩,⟨ok1.1,ok1.2.trans C.stb⟩,⟨rfl,rfl,rfl,rfl⟩,SubsKeep.refl _,List.Sublist.refl _,C.ob,C.fb,fun _ _ h=>h,EE C.oib,C.iib⟩
    have g:=OA M C fun _=>gz
    have g2:=GC (k:=3) g.c
    exact g.trans g2
  simp only [if_neg k1] at ok⊢
  by_cases k2:a.kind=2
  · simp only [if_pos k2] at ok⊢
    rw [cj,if_neg zO]
    have hr:az w.b a.many=({ w.b with inp:=(aZ w.b.inp a.many).1 },(aZ w.b.inp a.many).2):=su heo
    rw [hr] at ok⊢
    exact OA ⟨rfl,rfl,rfl,rfl,rfl,⟨[],zP⟩,⟨ok.1,ok.2.trans C.stb⟩,⟨rfl,rfl,rfl,rfl⟩,SubsKeep.refl _,List.Sublist.refl _,C.ob,C.fb,fun _ _ h=>h,C.oib,LO C.iib⟩ C fun _=>gz
  simp only [if_neg k2] at ok⊢
  by_cases k3:a.kind=3
  · simp only [if_pos k3]
    exact OB C
  simp only [if_neg k3] at ok⊢
  by_cases k4:a.kind=4
  · simp only [if_pos k4]
    unfold manage
    rw [if_neg (fun hc=>by have:=C.sib;omega)]
    exact yj C
  simp only [if_neg k4] at ok⊢
  by_cases k5:a.kind=5
  · simp only [if_pos k5] at ok⊢
    unfold aR at ok⊢
    split at ok
    · rename_i hk
      rw [if_pos hk]
      simp only [F4,RP,decide_eq_true_eq] at hk
      simp only [cx,k5,decide_true,Td,S6,Ta,decide_eq_true_eq,hs] at hb
      refine OA ⟨rfl,rfl,rfl,rfl,rfl,⟨[],zP⟩,⟨ok.1,ok.2.trans C.stb⟩,⟨rfl,rfl,rfl,rfl⟩,SubsKeep.refl _,List.Sublist.refl _,fun q hq=>?_,C.fb,fun i d h=>?_,C.oib,C.iib⟩ C fun _=>gz
      · rcases h_ hq with rfl|hq
        · exact hb.1
        · exact C.ob q hq
      · rcases h with⟨q,h1,h2,h3⟩|h
        · exact .inl ⟨q,vg hk.1.2 h1,h2,h3⟩
        · exact .inr h
    · rename_i hk
      rw [if_neg hk];exact yj C
  simp only [if_neg k5] at ok⊢
  by_cases k6:a.kind=6
  · simp only [if_pos k6] at ok⊢
    unfold jV at ok⊢
    split at ok
    · rename_i hk
      rw [if_pos hk]
      have K:SubsKeep w.b.subs (jA w.b a.pos):=SubsKeep.map fun s _=>by
        rw [HR];split
        · exact⟨rfl,rfl,rfl,rfl,rfl,.inr rfl⟩
        · exact SubKeep.refl s
      refine OA ⟨rfl,rfl,rfl,rfl,rfl,⟨[],zP⟩,⟨ok.1,ok.2.trans C.stb⟩,⟨rfl,rfl,rfl,rfl⟩,K,List.Sublist.refl _,fun q hq=>C.ob q (iL hq),C.fb,fun i d h=>?_,C.oib,C.iib⟩ C fun C' x hx=>?_
      · rcases h with⟨q,h1,h2,h3⟩|h
        · by_cases hn:q.id=a.pos
          · exact .inr (by dsimp only;rw [<-h2,hn];exact Ey)
          · exact .inl ⟨q,sN h1 hn,h2,h3⟩
        · exact .inr (Ez h)
      · obtain⟨k,hk2,rfl⟩:=R8.1 hx
        exact⟨(CA C' (yi hk2)).1,pf (by simp [vt,HS,ah])⟩
    · rename_i hk
      rw [if_neg hk];exact yj C
  simp only [if_neg k6] at ok⊢
  unfold mC at ok⊢
  split at ok
  · rename_i hk
    rw [if_pos hk]
    simp only [NH,RP,decide_eq_true_eq,dt] at hk
    refine OA ⟨rfl,rfl,rfl,rfl,rfl,⟨[],zP⟩,⟨ok.1,ok.2.trans C.stb⟩,⟨rfl,rfl,rfl,rfl⟩,SubsKeep.st4 _ _,List.Sublist.refl _,C.ob,C.fb,fun _ _ h=>h,C.oib,C.iib⟩ C fun _=>oe ?_ (pf (by simp [vt,ah]))
    have hl:a.pos.toNat < w.b.subs.length:=zO
    rw [bE hl]
    exact (CA C (RQ hl)).1
  · rename_i hk
    rw [if_neg hk];exact yj C
theorem GD {w:WorldD} {x:LetterD} (C:Core w) (h:oP w x=true):(∀ k a b m n,x.tag=⟨k,a,b,m,n⟩->1000<=a->¬ k=0->k=1/\Loose w.nums n)/\Loose w.nums x.nonce/\Loose w.nums x.sgn/\Loose w.nums x.give:=by
 simp only [oP,RP,R9,decide_eq_false_iff_not,SG,SJ,Se,decide_eq_true_eq,sK,and_true] at h
 obtain⟨⟨⟨h1,h2⟩,h3⟩,_,q2,q3,q4⟩:=h
 refine⟨fun k a b m n he ha hk=>?_,q2,q4,q3⟩
 simp only [iw,Se,decide_eq_true_eq,RP,sK,Sd] at h3
 rw [he] at h3
 rcases h3 with (h3|h3)|⟨u,u1,u2⟩
 ·rw [kN] at h3
  injection h3 with e
  exact absurd e hk
 ·rw [C.keys] at h3
  simp only [R7,List.not_mem_nil,or_false] at h3
  omega
 have:=C.tags u (SI u1)
 rw [u2] at this
 exact this
theorem EG {w:WorldD} {x:LetterD} (C:Core w) (h:oP w x=true):LetI w x:=by
 obtain⟨no,q2,q4,_⟩:=GD C h
 have n1:∀ k a b m n,x.tag=⟨k,a,b,m,n⟩->1000<=a->¬ k=0->¬ k=1->False:=fun k a b m n he ha hk h1=>h1 (no k a b m n he ha hk).1
 exact⟨fun _ _=>q2,fun _ _ m hm=>.inl (no _ _ _ _ _ hm C.kb zD).2,fun _ _ m n hm=>n1 _ _ _ _ _ hm C.kb zD zD,fun _ _=>.inl q4,fun _ _ i d hm=>(n1 _ _ _ _ _ hm C.kb zD zD).elim,fun _ _=>.inl q4,fun _ _=>.inl q2,fun _ _ m n hm=>(n1 _ _ _ _ _ hm C.ka zD zD).elim,fun _ _ i d hm=>(n1 _ _ _ _ _ hm C.ka zD zD).elim,fun _ _=>.inl q4⟩
theorem Inv.step {w w':WorldD} {l:List LetterD} {side:Int} (h:Inv w) (S:Step w w' l) (hb:w'.bag=w.bag) (hp:w'.past=w.past):Inv (al side w' l):=
 A3 ⟨S.c,fun x hx=>(h.bag x (hb▸hx)).mono S.le,fun x hx=>(h.past x (hp▸hx)).mono S.le⟩ S.post
theorem CB {w:WorldD} {l:List LetterD} (h:Inv w) (hl:∀ x∈l,LetI w x):Inv { w with bag:=l }:=by
 have L:Le w { w with bag:=l }:=sL rfl rfl (fun _ h=>h) rfl rfl
 exact⟨EC h.c,fun x hx=>(hl x hx).mono L,fun x hx=>(h.past x hx).mono L⟩
theorem JJ {w:WorldD} {x:LetterD} (h:Inv w) (ga:SmallP w.a.inp) (gb:SmallP w.b.inp) (L:LetI w x):Inv (cU w x):=by
 rcases e6 x.to with h0|h0|h0
 ·rw [cU,if_pos h0];exact h
 ·rw [cU,if_neg zO,gL,if_pos (.inl h0),h0]
  exact h.step (LQ h.c ga L h0) rfl rfl
 rw [cU,if_neg zO,gL,if_pos (.inr h0),h0]
 exact h.step (LS h.c gb L h0) rfl rfl
theorem A4 (w:WorldD) (a:ActD) (s:Int) (e:EndD):(aL (dE w a) s e).bag=w.bag/\(aL (dE w a) s e).past=w.past:=by
 unfold aL dE eT cj
 repeat' split
 all_goals exact⟨rfl,rfl⟩
theorem lV {l:List LetterD} {n:Nat} (h:n < l.length):pN l n∈l:=by
 rw [pN,Su,Sw h];exact RQ h
theorem mR {l:List LetterD} {n:Int} {x:LetterD} (h:x∈gO l n):x∈l:=(oY l n.toNat).subset h
theorem A5 {w:WorldD} {a:ActD} (h:Inv w) (ga:SmallP w.a.inp) (gb:SmallP w.b.inp):Inv (aJ w a).1:=by
 unfold aJ;split
 ·rename_i hok
  have hs:=mN hok
  have hp:=tY hok
  split
  ·unfold dR;split
   ·exact h
   rename_i hb
   have hb:cx w a=false:=by simpa using hb
   obtain⟨k1,k2⟩:=A4 w a a.side (dl (bS w a.side) a).1
   rcases hs with hs|hs
   ·have g:=Pc h.c ga hs hb
    have hE:bS w a.side=w.a:=by rw [hs];rfl
    rw [hE] at k1 k2⊢
    rw [hs] at k1 k2⊢
    exact h.step g.step k1 k2
   have g:=QP h.c gb hs hb
   have hE:bS w a.side=w.b:=by rw [hs];rfl
   rw [hE] at k1 k2⊢
   rw [hs] at k1 k2⊢
   exact h.step g.step k1 k2
  have hout:Inv { w with bag:=gO w.bag a.pos }:=CB h fun x hx=>h.bag x (mR hx)
  have app:∀ x,LetI w x->Inv { w with bag:=w.bag++[x] }:=fun x hx=>CB h fun y hy=>by
   rcases RW.1 hy with hy|hy
   ·exact h.bag y hy
   rw [RR.1 hy];exact hx
  unfold cc
  split
  ·split
   ·exact h
   rename_i hl
   split
   ·refine JJ hout ga gb ?_
    exact (h.bag _ (lV (show a.pos.toNat < w.bag.length by omega))).mono (sL rfl rfl (fun _ h=>h) rfl rfl)
   exact hout
  split
  ·split
   ·exact h
   rename_i hl
   rw [not_or] at hl
   exact app _ (h.bag _ (lV zO))
  split
  ·split
   ·exact h
   rename_i hm
   split
   ·exact h
   exact app _ (EG h.c (by simpa using hm))
  split
  ·exact h
  rename_i hl
  rw [not_or] at hl
  exact app _ (h.past _ (lV zO))
 exact h
theorem Core.pairedA {w:WorldD} (C:Core w):mh w.a w.b=true:=by
 simp only [mh,R5,Se,bne_iff_ne,je,Sd]
 intro s hs
 by_cases h3:s.state=3
 ·obtain⟨t,t1,t2,t3,t4⟩:=(C.sa s hs).on h3
  refine .inr ⟨t,t1,?_⟩
  simp [jK,t2,bk,t3,t4]
 exact .inl h3
theorem Core.pairedB {w:WorldD} (C:Core w):mh w.b w.a=true:=by
 simp only [mh,R5,Se,bne_iff_ne,je,Sd]
 intro s hs
 obtain⟨t,t1,_,t2,t3,t4⟩:=(C.sb s hs).like
 refine .inr ⟨t,t1,?_⟩
 simp [jK,t2,bk,t3,t4]
theorem InI.begins {W R:List UInt8} {p:PiecesD} (h:InI W R p):begins W (R++p.ready)=true:=by
 obtain⟨T,hT⟩:=h.pre
 simp only [Go.Proofs.YteknmpdmhiomgaaGreat.begins,RP,decide_eq_true_eq,beq_iff_eq]
 rw [hT]
 exact⟨by simp only [R2];omega,List.take_left ..⟩
theorem Core.streams {w:WorldD} (C:Core w):jY w=true:=by
 rw [jY,C.iib.begins,C.iia.begins];rfl
theorem Core.roadsA {w:WorldD} (C:Core w):jo w.a=true:=by
 rw [jo,R5]
 intro s hs
 have S:=C.sa s hs
 rw [gq,S.own,S.far,C.sia];decide
theorem Core.roadsB {w:WorldD} (C:Core w):jo w.b=true:=by
 rw [jo,R5]
 intro s hs
 obtain⟨h1,h2⟩:=farB C hs
 rw [gq,h1,h2,C.sib];decide
theorem Ig {b:EndD} {f:AddrD} (h:Told b f.id f.addr):yW b f=true:=by
 simp only [yW,ownsAddr,Se,Sd,beq_iff_eq,sK]
 exact h.imp (fun⟨q,q1,_,q3⟩=>⟨q,q1,q3⟩) id
theorem Core.far_ {w:WorldD} (C:Core w):Ad w=true:=by
 simp only [Ad,KV,RP,R5]
 exact⟨fun f hf=>Ig (C.fa f hf).2,fun f hf=>Ig (C.fb f hf).2⟩
theorem Start.inv {w:WorldD} (S:Start w):Inv w:=by
 have h:=S.e
 simp only [startE,RP,decide_eq_true_eq] at h
 obtain⟨⟨⟨⟨⟨⟨oa,ob⟩,a1,a2,a3,a4,a5,a6,a7,a8,a9,a10,a11,a12⟩,b1,b2,b3,b4,b5,b6,b7,b8⟩,c1,c2⟩,d1,d2,d3,d4,d5,d6⟩,e1,e2⟩:=h
 refine⟨⟨bg.1 oa,bg.1 ob,a1,a2,a3,a4,zO,zO,zO,zO,zO,S.keys,by rw [S.tags];simp,zO,zO,by rw [S.nums];simp,?_,by rw [e1];simp,?_,by rw [b1];simp,by rw [b2];simp,by rw [b2];simp,by rw [b3];decide,by rw [b4];decide,?_,?_,by rw [S.wa,c1];exact⟨by decide,rfl⟩,by rw [S.wb,c2];exact⟨by decide,rfl⟩,by rw [S.wb,S.ra];exact⟨d1,⟨[],by rw [d2];rfl⟩,by rw [d3];simp⟩,by rw [S.wa,S.rb];exact⟨d4,⟨[],by rw [d5];rfl⟩,by rw [d6];simp⟩⟩,by rw [S.bag];simp,by rw [S.past];simp⟩
 ·rw [S.nums,b2,e1,e2,a9,a10]
  intro s hs
  rw [RR.1 hs]
  exact⟨by decide,zP,.inl rfl,by decide,by decide,⟨by decide,zP⟩,fun _=>⟨_,RR.2 rfl,rfl,rfl,rfl⟩,by decide⟩
 ·rw [S.nums,e1,e2,a10]
  intro s hs
  rw [RR.1 hs]
  exact⟨by decide,zP,.inl rfl,⟨_,RR.2 rfl,by decide,rfl,rfl,rfl⟩⟩
 ·rw [b5]
  intro f hf
  rw [e_,RR] at hf
  rw [hf]
  exact⟨by decide,.inl ⟨⟨0,21,false,true⟩,by rw [b4];simp [gj],rfl,rfl⟩⟩
 rw [b6]
 intro f hf
 rw [e_,RR] at hf
 rw [hf]
 exact⟨by decide,.inl ⟨⟨0,11,false,true⟩,by rw [b3];simp [gj],rfl,rfl⟩⟩
theorem Start.ans {w:WorldD} (S:Start w):AnsW w:=by
 have h:=S.e
 simp only [startE,RP,decide_eq_true_eq] at h
 obtain⟨⟨⟨⟨⟨⟨oa,ob⟩,a1,a2,a3,a4,a5,a6,a7,a8,a9,a10,a11,a12⟩,b1,b2,b3,b4,b5,b6,b7,b8⟩,c1,c2⟩,d1,d2,d3,d4,d5,d6⟩,e1,e2⟩:=h
 have y:∀ e:EndD,e.now=0->e.bucket=⟨1,3,3⟩->e.halfs=[]->e.subs.length<=8->AnsI [] e:=fun e h1 h2 h3 h4=>
  ⟨⟨zO,by rw [h2],by rw [h2],by rw [h2];decide,by rw [h3];simp,by rw [h3];simp,h4⟩,zP,fun f hf=>by rw [h2];simp only [cntF,Tc,S2];omega,fun f g hf hg=>by simp only [cntF,Tc,S2];omega⟩
 exact⟨by rw [S.na];exact y _ a11 b7 b1 (by rw [e1];decide),by rw [S.nb];exact y _ a12 b8 b2 (by rw [e2];decide)⟩
structure Same4 (e e':EndD):Prop where
 subs:e'.subs=e.subs
 far:e'.far=e.far
 inp:e'.inp=e.inp
 out:e'.out=e.out
theorem Same4.refl (e:EndD):Same4 e e:=⟨rfl,rfl,rfl,rfl⟩
theorem Core.safe {w:WorldD} (C:Core w):safeWorld w=true:=by
 rw [safeWorld,bg.2 C.oka,bg.2 C.okb,C.pairedA,C.pairedB,C.streams,C.roadsA,C.roadsB,C.far_];rfl
structure Life (w:WorldD) (k:Nat):Prop where
 g:GoodW w k
 i:Inv w
 n:AnsW w
theorem Life.step {w:WorldD} {a:ActD} {k:Nat} (h:Life w k) (ha:a.text.length<=1048576):Life (aJ w a).1 (k+1):=⟨ku h.g ha,A5 h.i h.g.a.p h.g.b.p,ya h.n⟩
def rdA:RoadD:=⟨11,21,0⟩
def subA0:SubD:=⟨rdA,3,false,0,0,1004,1003,0⟩
def subB0:SubD:=⟨bk rdA,3,false,0,0,1003,1004,0⟩
def Later (s t:SubD):Prop:=s.road=t.road->s.state=4/\(t.state=1\/s.theirs < t.theirs)
structure CS (sa sb:List SubD) (hb:List HalfD):Prop where
 a0:∃ r,sa=subA0::r
 b0:∃ r,sb=subB0::r
 pw:sa.Pairwise Later
 hl:∀ s∈sa,¬ s.state=1->∀ h∈hb,h.road=bk s.road->s.theirs<=h.mine
 on:∀ s∈sa,¬ s.state=4->∀ t∈sb,t.give=s.take->t.state=3
 xx:∀ s∈sa,∀ t∈sb,t.give=s.take->t.theirs=s.mine/\t.mine=s.theirs
 tr:∀ s∈sa,s.state=2->s.tries<=8
theorem vI {s:SubD} (h:s.state=4):tickS s=s:=by rw [tickS,if_neg zO]
theorem sQ {s:SubD} (h:s.state=1):(tickS s).state=1:=by rw [tickS,if_pos (.inl h),if_neg zO];exact h
theorem CD {s:SubD} (h:s.state=3):tickS s=s:=by rw [tickS,if_neg zO]
theorem GG {s:SubD} (h:¬ (tickS s).state=1):¬ s.state=1:=fun hc=>h (sQ hc)
theorem GH {s:SubD} (h:¬ (tickS s).state=4):¬ s.state=4:=fun hc=>h (by rw [vI hc];exact hc)
theorem CS.tick {sa sb:List SubD} {hb:List HalfD} (K:CS sa sb hb):CS (sa.map tickS) sb hb:=by
 obtain⟨r,hr⟩:=K.a0
 refine⟨⟨r.map tickS,by rw [hr,S7,CD zF]⟩,K.b0,?_,fun s hs h1 h hh hr=>?_,fun s hs h4 t ht hg=>?_,fun s hs t ht hg=>?_,fun s hs h2=>?_⟩
 ·rw [Tb]
  refine K.pw.imp fun {s t} h hr=>?_
  have k1:=dx s
  have k2:=dx t
  rw [k1.road,k2.road] at hr
  obtain⟨e1,e2⟩:=h hr
  refine⟨by rw [vI e1];exact e1,?_⟩
  rcases e2 with e2|e2
  ·exact .inl (sQ e2)
  exact .inr (by rw [k1.theirs,k2.theirs];exact e2)
 ·obtain⟨q,hq,rfl⟩:=R8.1 hs
  have k:=dx q
  rw [k.road] at hr
  rw [k.theirs]
  exact K.hl q hq (GG h1) h hh hr
 ·obtain⟨q,hq,rfl⟩:=R8.1 hs
  rw [(dx q).take] at hg
  exact K.on q hq (GH h4) t ht hg
 ·obtain⟨q,hq,rfl⟩:=R8.1 hs
  have k:=dx q
  rw [k.take] at hg
  rw [k.mine,k.theirs]
  exact K.xx q hq t ht hg
 obtain⟨q,hq,rfl⟩:=R8.1 hs
 rw [tickS] at h2⊢
 split at h2
 ·rename_i hc
  rw [if_pos hc]
  split at h2
  ·simp at h2
  rename_i hn
  rw [if_neg hn]
  dsimp only at h2⊢
  omega
 rename_i hc
 rw [if_neg hc];omega
theorem CS.half {sa sb:List SubD} {hb hb':List HalfD} (K:CS sa sb hb) {d:Int} (hd:∀ s∈sa,s.theirs < d) (h:∀ k∈hb',d<=k.mine\/∃ q∈hb,q.mine=k.mine/\q.road=k.road):CS sa sb hb':=by
 refine⟨K.a0,K.b0,K.pw,fun s hs h1 k hk hr=>?_,K.on,K.xx,K.tr⟩
 rcases h k hk with e|⟨q,q1,q2,q3⟩
 ·have:=hd s hs;omega
 rw [<-q2];exact K.hl s hs h1 q q1 (by rw [q3];exact hr)
theorem CS.sub {sa sb:List SubD} {hb hb':List HalfD} (K:CS sa sb hb) (h:∀ k∈hb',k∈hb):CS sa sb hb':=⟨K.a0,K.b0,K.pw,fun s hs h1 k hk hr=>K.hl s hs h1 k (h k hk) hr,K.on,K.xx,K.tr⟩
theorem CS.ask {sa sb:List SubD} {hb:List HalfD} (K:CS sa sb hb) {n:SubD} (h1:n.state=1) (hr:∀ s∈sa,s.state=4\/¬ s.road=n.road) (hg:∀ t∈sb,¬ t.give=n.take):CS (sa++[n]) sb hb:=by
 obtain⟨r,e⟩:=K.a0
 have mem:∀ s∈sa++[n],s∈sa\/s=n:=fun s hs=>by
  rcases RW.1 hs with hs|hs
  ·exact .inl hs
  exact .inr (RR.1 hs)
 refine⟨⟨r++[n],by rw [e,SY]⟩,K.b0,?_,fun s hs g=>?_,fun s hs g t ht gt=>?_,fun s hs t ht gt=>?_,fun s hs g=>?_⟩
 ·rw [Sh]
  refine⟨K.pw,R_ ..,fun s hs t ht e=>?_⟩
  rw [RR.1 ht] at e⊢
  rcases hr s hs with q|q
  ·exact⟨q,.inl h1⟩
  exact absurd e q
 ·rcases mem s hs with hs|rfl
  ·exact K.hl s hs g
  exact absurd h1 g
 ·rcases mem s hs with hs|rfl
  ·exact K.on s hs g t ht gt
  exact absurd gt (hg t ht)
 ·rcases mem s hs with hs|rfl
  ·exact K.xx s hs t ht gt
  exact absurd gt (hg t ht)
 rcases mem s hs with hs|rfl
 ·exact K.tr s hs g
 omega
theorem LX {α:Type} {R:α->α->Prop} {l:List α} {n:Nat} {x:α} (hn:n < l.length) (p:l.Pairwise R) (h1:∀ (i:Nat) (hi:i < n),R (l[i]' zO) x) (h2:∀ (j:Nat) (hj:j < l.length),n < j->R x l[j]):(l.set n x).Pairwise R:=by
 rw [RU] at p⊢
 intro i j hi hj hij
 rw [R1] at hi hj
 rw [R0,R0]
 split
 ·split
  ·omega
  rename_i e _;subst e;exact h2 j hj hij
 split
 ·rename_i e;subst e;exact h1 i hij
 exact p i j hi hj hij
theorem Later.at {sa:List SubD} (p:sa.Pairwise Later) {i j:Nat} (hi:i < sa.length) (hj:j < sa.length) (h:i < j):Later sa[i] sa[j]:=by
 rw [RU] at p;exact p i j hi hj h
theorem CS.first {sa sb:List SubD} {hb:List HalfD} (K:CS sa sb hb) {s:SubD} (hs:s∈sa) (h:s.road=rdA):s=subA0:=by
 obtain⟨r,e⟩:=K.a0
 have p:=K.pw
 rw [e] at hs p
 rcases R7.1 hs with hs|hs
 ·exact hs
 have:=(Sx.1 p).1 s hs h.symm
 exact absurd this.1 zD
theorem CS.back {sa sb:List SubD} {hb:List HalfD} (K:CS sa sb hb) {n:Nat} (hn:n < sa.length) (h1:sa[n].state=1) {x:LetterD} (ho:∀ (i:Nat) (hi:i < n),(sa[i]' zO).road=sa[n].road->(sa[i]' zO).theirs < x.nonce) (hh:∀ h∈hb,h.road=bk sa[n].road->x.nonce<=h.mine)
  (hg:∀ t∈sb,¬ t.give=sa[n].take):CS (sa.set n (ed sa[n] x)) sb hb:=by
 obtain⟨r,e⟩:=K.a0
 have h0:¬ n=0:=fun hc=>by subst hc;simp [e,subA0] at h1
 have mem:∀ s∈sa.set n (ed sa[n] x),s∈sa\/s=ed sa[n] x:=fun s hs=>RX hs
 refine⟨⟨r.set (n - 1) (ed sa[n] x),?_⟩,K.b0,?_,fun s hs g=>?_,fun s hs g t ht gt=>?_,fun s hs t ht gt=>?_,fun s hs g=>?_⟩
 ·obtain⟨m,rfl⟩:∃ m,n=m+1:=⟨n - 1,zO⟩
  conv=>lhs;rw [show sa.set (m+1) (ed sa[m+1] x)=(subA0::r).set (m+1) (ed sa[m+1] x) by rw [<-e]]
  rw [Sy,SN]
 ·refine LX hn K.pw (fun i hi hr=>?_) (fun j hj hl hr=>?_)
  ·exact⟨(Later.at K.pw zO hn hi hr).1,.inr (ho i hi hr)⟩
  have:=(Later.at K.pw hn hj hl hr).1
  omega
 ·rcases mem s hs with hs|rfl
  ·exact K.hl s hs g
  exact hh
 ·rcases mem s hs with hs|rfl
  ·exact K.on s hs g t ht gt
  exact absurd gt (hg t ht)
 ·rcases mem s hs with hs|rfl
  ·exact K.xx s hs t ht gt
  exact absurd gt (hg t ht)
 rcases mem s hs with hs|rfl
 ·exact K.tr s hs g
 simp [ed]
theorem CS.ack {sa sb:List SubD} {hb:List HalfD} (K:CS sa sb hb) {n:Nat} (hn:n < sa.length) (h2:sa[n].state=2):CS (sa.set n { sa[n] with state:=3 }) sb hb:=by
 obtain⟨r,e⟩:=K.a0
 have h0:¬ n=0:=fun hc=>by subst hc;simp [e,subA0] at h2
 have mem:∀ s∈sa.set n { sa[n] with state:=3 },s∈sa\/s={ sa[n] with state:=3 }:=fun s hs=>RX hs
 have hm:=RQ hn
 refine⟨⟨r.set (n - 1) { sa[n] with state:=3 },?_⟩,K.b0,?_,fun s hs g=>?_,fun s hs g t ht gt=>?_,fun s hs t ht gt=>?_,fun s hs g=>?_⟩
 ·obtain⟨m,rfl⟩:∃ m,n=m+1:=⟨n - 1,zO⟩
  conv=>lhs;rw [show sa.set (m+1) { sa[m+1] with state:=3 }=(subA0::r).set (m+1) { sa[m+1] with state:=3 } by rw [<-e]]
  rw [Sy,SN]
 ·refine LX hn K.pw (fun i hi hr=>?_) (fun j hj hl hr=>?_)
  ·obtain⟨q1,q2⟩:=Later.at K.pw zO hn hi hr
   exact⟨q1,.inr (by rcases q2 with q2|q2;omega;exact q2)⟩
  have:=(Later.at K.pw hn hj hl hr).1
  omega
 ·rcases mem s hs with hs|rfl
  ·exact K.hl s hs g
  exact K.hl sa[n] hm zO
 ·rcases mem s hs with hs|rfl
  ·exact K.on s hs g t ht gt
  exact K.on sa[n] hm zO t ht gt
 ·rcases mem s hs with hs|rfl
  ·exact K.xx s hs t ht gt
  exact K.xx sa[n] hm t ht gt
 rcases mem s hs with hs|rfl
 ·exact K.tr s hs g
 simp at g
theorem ym {w:WorldD} (C:Core w) {s t:SubD} (hs:s∈w.a.subs) (ht:t∈w.a.subs) (h:1000<=s.mine) (e:s.mine=t.mine):s=t:=by
 have h1:=(C.sa s hs).mine
 have h2:=(C.sa t ht).mine
 exact kz C.sad hs ht zO
theorem CS.done {w:WorldD} (C:Core w) (K:CS w.a.subs w.b.subs w.b.halfs) {h:HalfD} (hh:h∈w.b.halfs) (hn:w.nums=[]) {m:List SubD} (a:SubD) (ha:a∈w.a.subs) (a1:¬ a.state=1) (a2:a.mine=h.theirs) (a3:a.theirs=h.mine) (a4:h.road=bk a.road) (a5:1000<=a.mine)
  (hm:m=w.b.subs\/∃ (n:Nat) (hn:n < w.b.subs.length),w.b.subs[n].road=h.road/\¬ w.b.subs[n].state=4/\m=w.b.subs.set n { w.b.subs[n] with state:=4 }):
  CS w.a.subs (m++[fi h.road h]) (bH w.b.halfs h.road):=by
 obtain⟨r,e⟩:=K.b0
 have H:=C.hb h hh
 obtain⟨s3,s31,s32,s33,s34,s35⟩:∃ s∈w.a.subs,1000<=s.mine/\s.mine=h.theirs/\s.take=h.give/\s.road=bk h.road:=by
  rcases H.th with g|⟨_,g⟩
  ·rcases g with g|g
   ·omega
   rw [hn] at g;simp at g
  exact g
 have ea:a=s3:=ym C ha s31 a5 zO
 subst ea
 have hnew:∀ t∈m,(t∈w.b.subs\/∃ q∈w.b.subs,q.road=h.road/\¬ q.state=4/\t={ q with state:=4 }):=by
  intro t ht
  rcases hm with rfl|⟨n,hn,e1,e2,rfl⟩
  ·exact .inl ht
  rcases RX ht with ht|ht
  ·exact .inl ht
  exact .inr ⟨_,RQ hn,e1,e2,ht⟩
 have mem:∀ t∈m++[fi h.road h],t∈m\/t=fi h.road h:=fun t ht=>by
  rcases RW.1 ht with ht|ht
  ·exact .inl ht
  exact .inr (RR.1 ht)
 have hsub:∀ k∈bH w.b.halfs h.road,k∈w.b.halfs:=fun k hk=>by
  rw [bH] at hk;split at hk
  ·exact hk
  exact (oY _ _).subset hk
 have hmine:∀ s∈w.a.subs,h.give=s.take->s=a:=fun s hs hg=>kz C.sad hs ha (by rw [s34];exact hg.symm)
 refine⟨K.a0,?_,K.pw,fun s hs g k hk=>K.hl s hs g k (hsub k hk),fun s hs g t ht gt=>?_,fun s hs t ht gt=>?_,K.tr⟩
 ·rcases hm with rfl|⟨n,hn,e1,e2,rfl⟩
  ·exact⟨r++[fi h.road h],by rw [e,SY]⟩
  have h0:¬ n=0:=fun hc=>by
   subst hc
   have e3:w.b.subs[0]=subB0:=by simp [e]
   rw [e3,a4] at e1
   have:a.road=rdA:=by
    have:=congrArg bk e1
    rw [fF] at this
    rw [<-this];rfl
   have:=K.first ha this
   rw [this] at a5
   simp [subA0] at a5
  obtain⟨k,rfl⟩:∃ k,n=k+1:=⟨n - 1,zO⟩
  refine⟨r.set k { w.b.subs[k+1] with state:=4 }++[fi h.road h],?_⟩
  conv=>lhs;rw [show w.b.subs.set (k+1) { w.b.subs[k+1] with state:=4 }=(subB0::r).set (k+1) { w.b.subs[k+1] with state:=4 } by rw [<-e]]
  rw [Sy,SY]
 ·rcases mem t ht with ht|rfl
  ·rcases hnew t ht with ht|⟨q,q1,q2,q3,rfl⟩
   ·exact K.on s hs g t ht gt
   exfalso
   have gt':q.give=s.take:=gt
   obtain⟨z,z1,z2,z3,z4,z5⟩:=(C.sb q q1).like
   have ez:z=s:=kz C.sad z1 hs (by rw [z4];exact gt')
   subst ez
   have hrd:z.road=a.road:=by rw [z3,q2,s35]
   by_cases hza:z=a
   ·subst hza
    have:=(C.sa z hs).th.2 h hh a3.symm
    exact H.sep q q1 (by rw [this.2.1,z5])
   obtain⟨i,hi,ei⟩:=RV hs
   obtain⟨j,hj,ej⟩:=RV ha
   rcases Sk i j with hl|hl|hl
   ·have:=(Later.at K.pw hi hj hl (by rw [ei,ej];exact hrd)).1
    rw [ei] at this
    exact g this
   ·subst hl;exact hza (by rw [<-ei,ej])
   have:=(Later.at K.pw hj hi hl (by rw [ei,ej];exact hrd.symm)).2
   rw [ei,ej] at this
   have h2:=K.hl z hs z2 h hh (by rw [hrd];exact a4)
   rcases this with q|q
   ·exact z2 q
   omega
  rfl
 rcases mem t ht with ht|rfl
 ·rcases hnew t ht with ht|⟨q,q1,q2,q3,rfl⟩
  ·exact K.xx s hs t ht gt
  exact K.xx s hs q q1 gt
 have:=hmine s hs gt
 subst this
 exact⟨a2.symm,a3.symm⟩
theorem JK {e:EndD} {x:LetterD} {Q:EndD×List LetterD->Prop} (h0:Q (e,[])) (h1:x.kind=1->Q (aI e x)) (h2:x.kind=2->Q (br e x)) (h4:x.kind=4->Q (bK e x)) (h5:x.kind=5->Q (aF e x)) (h6:x.kind=6->Q (aq e x)) (h7:x.kind=7->Q (aM e x)) (h8:x.kind=8->Q (bW e x)) (h9:x.kind=9->Q (bY e x)) (h10:x.kind=10->Q (bZ e x)) (h11:x.kind=11->Q (b_ e x)) (h12:x.kind=12->Q (bR e x)) (h13:x.kind=13->Q (bG e x)):Q (aG e x):=by
 by_cases hc:bJ e x=true
 ·by_cases k1:x.kind=1
  ·rw [tM hc k1];exact h1 k1
  by_cases k2:x.kind=2
  ·rw [tN hc k2];exact h2 k2
  by_cases k4:x.kind=4
  ·rw [qo hc k4];exact h4 k4
  by_cases k5:x.kind=5
  ·rw [qp hc k5];exact h5 k5
  by_cases k6:x.kind=6
  ·rw [qq hc k6];exact h6 k6
  by_cases k7:x.kind=7
  ·rw [qr hc k7];exact h7 k7
  by_cases k8:x.kind=8
  ·rw [qs hc k8];exact h8 k8
  by_cases k9:x.kind=9
  ·rw [tO hc k9];exact h9 k9
  by_cases k10:x.kind=10
  ·rw [oM hc k10];exact h10 k10
  by_cases k11:x.kind=11
  ·rw [mw hc k11];exact h11 k11
  by_cases k12:x.kind=12
  ·rw [my hc k12];exact h12 k12
  by_cases k13:x.kind=13
  ·rw [oN hc k13];exact h13 k13
  rw [aG,if_pos hc,if_neg k1,if_neg k2,if_neg k4,if_neg k5,if_neg k6,if_neg k7,if_neg k8,if_neg k9,if_neg k10,if_neg k11,if_neg k12,if_neg k13];exact h0
 rw [qm (by simpa using hc)];exact h0
def GA (sb:List SubD) (s:SubD):Prop:=(s.give=0\/s.give=s.theirs+2\/∃ t∈sb,t.take=s.give)/\∀ t∈sb,t.take=s.give->t.give=s.take
def LC (w:WorldD) (x:LetterD):Prop:=sideAt x.to=1->x.kind=5->∀ m,x.tag=⟨1,w.b.key,w.a.key,x.nonce,m⟩->Loose w.nums m\/(x.give=x.nonce+2/\∀ t∈w.b.subs,t.take=x.give->t.give=m+2)
theorem GA.like {sb:List SubD} {s r:SubD} (h:GA sb s) (h1:r.give=s.give) (h2:r.theirs=s.theirs) (h3:r.take=s.take):GA sb r:=by
 unfold GA at h⊢;rw [h1,h2,h3];exact h
theorem GA.zero {w:WorldD} (C:Core w) {s:SubD} (h:s.give=0):GA w.b.subs s:=⟨.inl h,fun t ht e=>by have:=(C.sb t ht).t4;omega⟩
structure HA (w:WorldD) (x:LetterD) (r:EndD×List LetterD):Prop where
 ga:(∀ s∈w.a.subs,GA w.b.subs s)->∀ s∈r.1.subs,GA w.b.subs s
 lt:∀ y∈r.2,¬ y.kind=11/\(y.kind=5->y.tag.one=w.a.key)
 ip:r.1.inp=w.a.inp\/(x.kind=11/\(∃ s∈w.a.subs,s.take=x.sgn)/\r.1.inp=putPiece w.a.inp x.pos x.text)
theorem Pd {y:LetterD} {P:LetterD->Prop} (h:P y):∀ z∈[y],P z:=fun z hz=>by rw [RR.1 hz];exact h
theorem HA.stay {w:WorldD} {x:LetterD}:HA w x (w.a,[]):=⟨fun h=>h,fun y hy=>by simp at hy,.inl rfl⟩
structure NewB (w:WorldD) (m:List SubD):Prop where
 ev:∀ t∈w.b.subs,∃ t'∈m,t'.road=t.road/\t'.take=t.take/\t'.give=t.give
 nb:∀ t'∈m,(∃ t∈w.b.subs,t'.take=t.take/\t'.give=t.give)\/∃ q∈w.b.halfs,t'.take=q.take/\t'.give=q.give/\∃ r∈w.a.subs,1000<=r.mine/\r.mine=q.theirs/\r.take=q.give
 pw:(w.b.subs.Pairwise fun s t=>¬ s.take=t.take)->m.Pairwise fun s t=>¬ s.take=t.take
theorem NewB.keep {w:WorldD} {m:List SubD} (K:SubsKeep w.b.subs m):NewB w m:=
 ⟨fun t ht=>by obtain⟨u,u1,u2⟩:=K.new ht;exact⟨u,u1,u2.road,u2.take,u2.give⟩,fun t ht=>by obtain⟨u,u1,u2⟩:=K.old ht;exact .inl ⟨u,u1,u2.take,u2.give⟩,K.pw⟩
structure HB (w:WorldD) (x:LetterD) (r:EndD×List LetterD):Prop where
 nb:NewB w r.1.subs
 lt:∀ y∈r.2,¬ y.kind=11/\(y.kind=5->y.give=y.nonce+2/\∀ t∈r.1.subs,¬ t.take=y.give)
 ip:r.1.inp=w.b.inp\/(x.kind=11/\(∃ s∈w.b.subs,s.take=x.sgn)/\r.1.inp=putPiece w.b.inp x.pos x.text)
theorem HB.stay {w:WorldD} {x:LetterD}:HB w x (w.b,[]):=⟨.keep (SubsKeep.refl _),fun y hy=>by simp at hy,.inl rfl⟩
inductive HF (e:EndD) (x:LetterD):EndD×List LetterD->Prop
 |stay:HF e x (e,[])
 |other (r:EndD×List LetterD) (k:x.kind=1\/x.kind=2\/x.kind=10\/x.kind=13):HF e x r
 |join1 (k:x.kind=4) (ok:ll e x=true) (n:Nat) (hn:n < e.halfs.length) (hr:e.halfs[n].road=roadOf x) (h1:e.halfs[n].theirs=x.nonce) (h2:e.halfs[n].give=x.give):
   HF e x ({ e with bucket:=(bl e.bucket).1,halfs:=e.halfs.set n { e.halfs[n] with till:=e.now+6 } },[cC e (roadOf x) e.halfs[n]])
 |join2 (k:x.kind=4) (ok:ll e x=true) (no:dO e x=false):
   HF e x ({ e with bucket:=(bl e.bucket).1,draw:=e.draw+4,halfs:=(aX e.halfs (aj e x)).1 },[cC e (roadOf x) (aj e x)])
 |back (k:x.kind=5) (n:Nat) (hn:n < e.subs.length) (h1:e.subs[n].state=1) (hr:e.subs[n].road=roadOf x) (ht:x.tag=⟨1,e.peer,e.key,x.nonce,e.subs[n].mine⟩):
   HF e x ({ e with subs:=e.subs.set n (ed e.subs[n] x) },[bq e (ed e.subs[n] x)])
 |done1 (k:x.kind=6) (i:Nat) (hi:i < e.halfs.length) (hr:e.halfs[i].road=roadOf x) (h8:e.subs.length < 8) (ht:x.tag=⟨2,e.peer,e.key,e.halfs[i].theirs,e.halfs[i].mine⟩) (m:List SubD)
   (hm:m=e.subs\/∃ (n:Nat) (hn:n < e.subs.length),e.subs[n].road=roadOf x/\¬ e.subs[n].state=4/\m=e.subs.set n { e.subs[n] with state:=4 }):
   HF e x ({ e with subs:=m++[fi (roadOf x) e.halfs[i]],halfs:=bH e.halfs (roadOf x) },[fH (roadOf x) e.halfs[i].give])
 |done2 (k:x.kind=6) (n:Nat) (hn:n < e.subs.length) (h3:e.subs[n].state=3) (hr:e.subs[n].road=roadOf x) (ht:x.tag=⟨2,e.peer,e.key,e.subs[n].theirs,e.subs[n].mine⟩):
   HF e x (e,[fH (roadOf x) e.subs[n].give])
 |ack (k:x.kind=7) (n:Nat) (hn:n < e.subs.length) (h2:e.subs[n].state=2) (hr:e.subs[n].road=roadOf x) (ht:e.subs[n].take=x.sgn):
   HF e x ({ e with subs:=e.subs.set n { e.subs[n] with state:=3 } },[])
 |addr (k:x.kind=8) (n:Nat) (hn:n < e.subs.length) (h3:e.subs[n].state=3) (hr:e.subs[n].road=roadOf x) (hs:e.subs[n].take=x.sgn) (ht:x.tag=⟨3,e.peer,e.key,x.id,x.addr⟩) (hp:(aS e.far (fD x)).2=true):
   HF e x ({ e with far:=(aS e.far (fD x)).1 },[pM x e.subs[n].give])
 |echo (k:x.kind=9) (i:Nat) (hi:i < e.own.length) (h1:e.own[i].id=x.id) (h2:e.own[i].addr=x.addr):
   HF e x ({ e with own:=e.own.set i { e.own[i] with told:=true } },[])
 |data (k:x.kind=11) (n:Nat) (hn:n < e.subs.length) (h3:e.subs[n].state=3) (hr:e.subs[n].road=roadOf x) (hs:e.subs[n].take=x.sgn):
   HF e x ({ e with inp:=qk e x },[sr x e.subs[n].give (nextOf (qk e x))])
 |came (k:x.kind=12) (n:Nat) (hn:n < e.subs.length) (h3:e.subs[n].state=3) (hr:e.subs[n].road=roadOf x) (hs:e.subs[n].take=x.sgn):
   HF e x ({ e with out:=came e.out x.pos },[])
theorem eD (e:EndD) (x:LetterD):HF e x (aG e x):=by
 refine JK .stay (fun k=>.other _ zO) (fun k=>.other _ zO) (fun k=>?_) (fun k=>?_) (fun k=>?_) (fun k=>?_) (fun k=>?_) (fun k=>?_) (fun k=>.other _ zO) (fun k=>?_) (fun k=>?_) (fun k=>.other _ zO)
 ·by_cases h:ll e x=true
  ·by_cases hs:dO e x=true
   ·have hs':=hs
    simp only [dO,RP,decide_eq_true_eq] at hs'
    obtain⟨n,e1,hn,hr⟩:=jI hs'.1.1
    have hj:qb e x=e.halfs[n]:=by rw [qb,e1,RT,eK hn]
    rw [hj] at hs'
    rw [Nv h hs e1 hn]
    exact .join1 k h n hn hr hs'.1.2 hs'.2
   have hs':dO e x=false:=by simpa using hs
   rw [Nw h hs']
   exact .join2 k h hs'
  rw [O0 (by simpa using h)];exact .stay
 ·by_cases h:rS e x=true
  ·have h':=h
   simp only [rS,RP,decide_eq_true_eq] at h'
   obtain⟨⟨⟨_,q4⟩,q5⟩,q6⟩:=h'
   obtain⟨n,e1,hn,_,hr,_⟩:=lS q4
   rw [e1,RT,cI hn] at q5 q6
   rw [Nt h e1 hn]
   exact .back k n hn q5 hr q6
  rw [Ns (by simpa using h)];exact .stay
 ·by_cases h:lj e x=true
  ·by_cases ha:pL e x=true
   ·have ha':=ha
    simp only [pL,RP,decide_eq_true_eq] at ha'
    obtain⟨i,e1,hi,hr⟩:=jI ha'.1.1
    have hj:qb e x=e.halfs[i]:=by rw [qb,e1,RT,eK hi]
    rw [hj] at ha'
    rcases fh e.subs (roadOf x) with g|g
    ·rw [Ld h ha e1 hi g]
     exact .done1 k i hi hr ha'.1.2 ha'.2 _ (.inl rfl)
    obtain⟨n,e2,hn,n4,hrn,_⟩:=lS g.1
    rw [Lc h ha e1 hi e2 hn]
    exact .done1 k i hi hr ha'.1.2 ha'.2 _ (.inr ⟨n,hn,hrn,n4,rfl⟩)
   have ha':pL e x=false:=by simpa using ha
   by_cases hb:I_ e x=true
   ·have hb':=hb
    simp only [I_,RP,decide_eq_true_eq] at hb'
    obtain⟨n,e2,hn,n4,hrn,_⟩:=lS hb'.1.1
    have hj:ME e x=e.subs[n]:=by rw [ME,e2,RT,cI hn]
    rw [hj] at hb'
    rw [OZ h ha' hb e2 hn]
    exact .done2 k n hn hb'.1.2 hrn hb'.2
   rw [HK h ha' (by simpa using hb)];exact .stay
  rw [Nu (by simpa using h)];exact .stay
 ·rw [aM];(try dsimp only);split
  ·rename_i hk
   simp only [lG,RP,decide_eq_true_eq] at hk
   obtain⟨⟨⟨_,q3⟩,q4⟩,q5⟩:=hk
   obtain⟨n,e1,hn,_,hr,_⟩:=lS q3
   rw [e1,RT] at q4 q5⊢
   rw [cI hn] at q4 q5
   rw [dA hn]
   exact .ack k n hn q4 hr q5
  exact .stay
 ·by_cases h:gG e x=true
  ·have h':=h
   simp only [gG,RP,decide_eq_true_eq] at h'
   obtain⟨⟨⟨⟨q1,q2⟩,q3⟩,q4⟩,q5⟩:=h'
   obtain⟨n,e1,_,hn,h3,hs,hr,_⟩:=Ct q1
   rw [mt h e1 hn]
   exact .addr k n hn h3 hr hs q2 q5
  rw [qg (by simpa using h)];exact .stay
 ·by_cases h:iG e x=true
  ·have h':=h
   simp only [iG,RP,decide_eq_true_eq] at h'
   obtain⟨i,e1,hi,h1⟩:=lr h'.1.2
   rw [qi h e1 hi]
   have h2:=h'.2
   rw [e1,RT,gy hi] at h2
   exact .echo k i hi h1 h2
  rw [qh (by simpa using h)];exact .stay
 ·by_cases h:ko e x=true
  ·have h':=h
   simp only [ko,RP,decide_eq_true_eq] at h'
   obtain⟨n,e1,_,hn,h3,hs,hr,_⟩:=Ct h'.1
   rw [mv h e1 hn]
   exact .data k n hn h3 hr hs
  rw [ql (by simpa using h)];exact .stay
 rw [bR];(try dsimp only);split
 ·rename_i hk
  obtain⟨n,_,_,hn,h3,hs,hr,_⟩:=Ct hk
  exact .came k n hn h3 hr hs
 exact .stay
def Shape (b:Int) (l:List AddrD):Prop:=∃ (s t:Bool) (r:List AddrD),l=⟨0,b+1,s,t⟩::r/\∀ q∈r,q.id=1/\q.addr=b+2
def zB (b:Int) (a:AddrD):Prop:=a.id=0/\a.addr=b+1\/a.id=1/\a.addr=b+2
theorem Shape.fits {b:Int} {l:List AddrD} (h:Shape b l) {a:AddrD} (ha:a∈l):zB b a:=by
 obtain⟨s,t,r,rfl,hr⟩:=h
 rcases R7.1 ha with rfl|ha
 ·exact .inl ⟨rfl,rfl⟩
 exact .inr (hr a ha)
theorem LY {c:AddrD} {r:List AddrD} {n:Int} (h:c.id=n):aW (c::r) n=0:=by
 have:=(jc (p:=fun a:AddrD=>a.id == n) (l:=c::r) (j:=0)).2 ⟨zP,by simpa using h,fun i hi=>by omega⟩
 exact this
theorem Shape.set {b:Int} {l:List AddrD} (h:Shape b l) {i:Nat} {a:AddrD} (hi:i < l.length) (h1:a.id=l[i].id) (h2:a.addr=l[i].addr):Shape b (l.set i a):=by
 obtain⟨s,t,r,rfl,hr⟩:=h
 rcases i with _|i
 ·refine⟨a.spare,a.told,r,?_,hr⟩
  simp only [SF] at h1 h2
  rw [List.set_cons_zero,<-h1,<-h2]
 refine⟨s,t,r.set i a,by rw [Sy],fun q hq=>?_⟩
 simp only [List.getElem_cons_succ] at h1 h2
 rcases RX hq with hq|hq
 ·exact hr q hq
 rw [hq,h1,h2];exact hr _ (RQ _)
theorem Shape.put {b:Int} {l:List AddrD} (h:Shape b l) {a:AddrD} (ha:zB b a):Shape b (aS l a).1/\((aS l a).2=true->a∈(aS l a).1)/\∀ f∈l,∃ f'∈(aS l a).1,f'.id=f.id:=by
 have h':=h
 obtain⟨s,t,r,rfl,hr⟩:=h
 by_cases hok:bN (cp (⟨0,b+1,s,t⟩::r) a)=true
 ·rw [lF hok]
  dsimp only
  by_cases hat:0<=aW (⟨0,b+1,s,t⟩::r) a.id
  ·rw [cp,if_pos hat]
   obtain⟨n,e,hn,hid⟩:=lr hat
   rw [e,RT]
   refine⟨h'.set hn hid.symm ?_,fun _=>Sm hn a,fun f hf=>?_⟩
   ·have:=h'.fits (RQ hn)
    simp only [zB] at this ha
    omega
   obtain⟨j,hj,rfl⟩:=RV hf
   by_cases hjn:j=n
   ·subst hjn;exact⟨a,Sm hn a,hid.symm⟩
   refine⟨_,Sb.2 ⟨j,by rw [R1];exact hj,rfl⟩,?_⟩
   rw [R0,if_neg zO]
  rw [cp,if_neg hat]
  have h1:a.id=1:=by
   rcases ha with ha|ha
   ·exact absurd (show 0<=aW (⟨0,b+1,s,t⟩::r) a.id by rw [LY (by exact ha.1.symm)];exact RS _) hat
   exact ha.1
  have hlow:tD (⟨0,b+1,s,t⟩::r) a.id=1:=by
   rw [tD,Sp,if_pos (by simp [h1])]
   have:(r.takeWhile fun q=>decide (q.id < a.id))=[]:=by
    cases r with
    |nil=>rfl
    |cons q r=>
     rw [Sp,if_neg]
     have:=(hr q (R3 ..)).1
     simp [this,h1]
   rw [this];rfl
  rw [hlow]
  refine⟨⟨s,t,a::r,rfl,fun q hq=>?_⟩,fun _=>by simp,fun f hf=>⟨f,?_,rfl⟩⟩
  ·rcases R7.1 hq with rfl|hq
   ·exact⟨h1,by rcases ha with ha|ha<;>omega⟩
   exact hr q hq
  rcases R7.1 hf with rfl|hf
  ·simp
  simp [hf]
 rw [oI (by simpa using hok)]
 exact⟨h',fun h=>(by cases h),fun f hf=>⟨f,hf,rfl⟩⟩
theorem vh {f f':List AddrD} (hf:f.map AddrD.addr=f'.map AddrD.addr):∀ {l l':List AddrD} {acc:List RoadD},l.map AddrD.addr=l'.map AddrD.addr->gJ f acc l=gJ f' acc l'
 |[],[],acc,_=>rfl
 |[],_::_,acc,h=>by simp at h
 |_::_,[],acc,h=>by simp at h
 |a::l,a'::l',acc,h=>by
  simp only [S7,List.cons.injEq] at h
  have e:(f.map fun b=>(⟨a.addr,b.addr,0⟩:RoadD))=f'.map fun b=>(⟨a'.addr,b.addr,0⟩:RoadD):=by
   have h1:(f.map fun b=>(⟨a.addr,b.addr,0⟩:RoadD))=(f.map AddrD.addr).map fun x=>(⟨a.addr,x,0⟩:RoadD):=by simp [Te]
   have h2:(f'.map fun b=>(⟨a'.addr,b.addr,0⟩:RoadD))=(f'.map AddrD.addr).map fun x=>(⟨a'.addr,x,0⟩:RoadD):=by simp [Te]
   rw [h1,h2,hf,h.1]
  rw [gJ,gJ,e]
  exact vh hf h.2
theorem yn {l l':List AddrD} (h:l.map AddrD.addr=l'.map AddrD.addr):Af l=Af l':=by
 cases l<;>cases l'<;>simp_all [Af]
theorem EH {p:PolicyD} {o o' f f':List AddrD} (ho:o.map AddrD.addr=o'.map AddrD.addr) (hf:f.map AddrD.addr=f'.map AddrD.addr):wanted p o f=wanted p o' f':=by
 have l1:o.length=o'.length:=by have:=congrArg List.length ho;simpa using this
 have l2:f.length=f'.length:=by have:=congrArg List.length hf;simpa using this
 unfold wanted
 rw [l1,l2,vh hf ho,yn ho,yn hf]
def ones (b:Int) (two:Bool):List AddrD:=if two then [⟨0,b+1,false,false⟩,⟨1,b+2,false,false⟩] else [⟨0,b+1,false,false⟩]
def hasTwo (l:List AddrD):Bool:=l.any fun a=>a.id == 1
theorem Shape.ones {b:Int} {l:List AddrD} (h:Shape b l) (ok:AdOk l):l.map AddrD.addr=(Go.Proofs.YteknmpdmhiomgaaGreat.ones b (hasTwo l)).map AddrD.addr:=by
 obtain⟨s,t,r,rfl,hr⟩:=h
 rcases r with _|⟨q,r⟩
 ·simp [hasTwo,Go.Proofs.YteknmpdmhiomgaaGreat.ones]
 obtain⟨q1,q2⟩:=hr q (R3 ..)
 have:r=[]:=by
  rcases r with _|⟨z,r⟩
  ·rfl
  have p:=ok.pw
  simp only [Sx] at p
  have h1:=(p.2.1 z (R3 ..)).1
  have h2:=(hr z zP).1
  omega
 subst this
 simp [hasTwo,Go.Proofs.YteknmpdmhiomgaaGreat.ones,q1,q2]
def wants (p:PolicyD) (two far2:Bool):List RoadD:=wanted p (ones 10 two) (ones 20 far2)
theorem pg {p:PolicyD} {o f:List AddrD} (ho:Shape 10 o) (oo:AdOk o) (hf:Shape 20 f) (of:AdOk f):wanted p o f=wants p (hasTwo o) (hasTwo f):=EH (ho.ones oo) (hf.ones of)
theorem GI:(pols.all fun p=>[false,true].all fun a=>[false,true].all fun b=>
  decide ((wants p a b).length<=4) && (wants p a b).contains rdA && decide ((wants p a b).Nodup) &&
  (wants p a b).all (fun r=>((ones 10 a).any fun q=>q.addr == r.own) && ((ones 20 b).any fun q=>q.addr == r.far) && decide (0<=r.port) && decide (r.port<=3)) &&
  (wants p false b).all (fun r=>(wants p a b).contains r) && (wants p a false).all (fun r=>(wants p a b).contains r))=true:=by decide+kernel
structure WantF (p:PolicyD) (a b:Bool):Prop where
 len:(wants p a b).length<=4
 first:rdA∈wants p a b
 nd:(wants p a b).Nodup
 el:∀ r∈wants p a b,(∃ q∈ones 10 a,q.addr=r.own)/\(∃ q∈ones 20 b,q.addr=r.far)/\0<=r.port/\r.port<=3
 up1:∀ r∈wants p false b,r∈wants p a b
 up2:∀ r∈wants p a false,r∈wants p a b
theorem lu {p:PolicyD} (hp:p∈pols) (a b:Bool):WantF p a b:=by
 have h:=R5.1 GI p hp
 have h:=R5.1 h a (by cases a<;>simp)
 have h:=R5.1 h b (by cases b<;>simp)
 simp only [RP,decide_eq_true_eq,R5,List.contains_iff_mem,Sd,beq_iff_eq] at h
 obtain⟨⟨⟨⟨⟨h1,h2⟩,h3⟩,h4⟩,h5⟩,h6⟩:=h
 exact⟨h1,h2,h3,fun r hr=>by obtain⟨⟨⟨g1,g2⟩,g3⟩,g4⟩:=h4 r hr;exact⟨g1,g2,g3,g4⟩,h5,h6⟩
theorem yo {p:PolicyD} (hp:p∈pols) {a b a' b':Bool} (ha:a=true->a'=true) (hb:b=true->b'=true) {r:RoadD} (h:r∈wants p a b):r∈wants p a' b':=by
 have h1:r∈wants p a' b:=by
  cases a
  ·exact (lu hp a' b).up1 r h
  rw [ha rfl];exact h
 cases b
 ·exact (lu hp a' b').up2 r h1
 rw [hb rfl];exact h1
structure CL (w:WorldD) (x:LetterD):Prop where
 kind:4<=x.kind/\x.kind<=12/\¬ x.kind=10
 to:¬ sideAt x.to=0
 to2:x.kind=4\/x.kind=6->sideAt x.to=2
 to1:x.kind=5\/x.kind=7->sideAt x.to=1
 k4:x.kind=4->1000<=x.nonce
 k5:x.kind=5->∃ (j:Nat) (hj:j < w.a.subs.length),1000<=w.a.subs[j].mine/\x.tag=⟨1,w.b.key,w.a.key,x.nonce,w.a.subs[j].mine⟩/\w.a.subs[j].road=roadOf x/\x.nonce < w.b.draw/\
  (∀ (i:Nat) (hi:i < j),(w.a.subs[i]' zO).road=roadOf x->(w.a.subs[i]' zO).theirs < x.nonce)/\∀ h∈w.b.halfs,h.road=bk (roadOf x)->x.nonce<=h.mine
 k9:x.kind=9->sideAt x.to=2->x.id=1->∃ f∈w.a.far,f.id=1
 k12a:x.kind=12->sideAt x.to=1->x.pos<=nextOf w.b.inp
 k12b:x.kind=12->sideAt x.to=2->x.pos<=nextOf w.a.inp
structure CE (p:PolicyD) (w:WorldD):Prop where
 cs:CS w.a.subs w.b.subs w.b.halfs
 nums:w.nums=[]
 pol:w.a.policy=p
 ownA:Shape 10 w.a.own
 farA:Shape 20 w.a.far
 ownB:Shape 20 w.b.own
 farB:Shape 10 w.b.far
 done:w.a.done=[]/\w.b.done=[]
 over:w.a.over=[]/\w.b.over=[]
 room:w.a.out.room=120/\w.b.out.room=120
 told:∀ q∈w.b.own,q.id=1->q.told=true->∃ f∈w.a.far,f.id=1
 want:∀ s∈w.a.subs,s.road∈wants p (hasTwo w.a.own) (hasTwo w.a.far)
 baseA:w.a.out.base<=nextOf w.b.inp
 baseB:w.b.out.base<=nextOf w.a.inp
 hth:∀ h∈w.b.halfs,1000<=h.theirs
structure EvoA (l m:List SubD):Prop where
 len:l.length<=m.length
 at_:∀ (i:Nat) (h:i < l.length) (h':i < m.length),m[i].road=l[i].road/\m[i].mine=l[i].mine/\m[i].take=l[i].take/\(l[i].state=4->m[i].state=4/\m[i].theirs=l[i].theirs)
theorem EvoA.refl (l:List SubD):EvoA l l:=⟨Si _,fun i h h'=>⟨rfl,rfl,rfl,fun h=>⟨h,rfl⟩⟩⟩
theorem EvoA.app (l r:List SubD):EvoA l (l++r):=⟨zP,fun i h h'=>by rw [List.getElem_append_left h];exact⟨rfl,rfl,rfl,fun h=>⟨h,rfl⟩⟩⟩
theorem EvoA.set {l:List SubD} {n:Nat} {s:SubD} (hn:n < l.length) (h1:s.road=l[n].road) (h2:s.mine=l[n].mine) (h3:s.take=l[n].take) (h4:¬ l[n].state=4):EvoA l (l.set n s):=by
 refine⟨zP,fun i h h'=>?_⟩
 rw [R0]
 split
 ·rename_i e;subst e;exact⟨h1,h2,h3,fun h=>absurd h h4⟩
 exact⟨rfl,rfl,rfl,fun h=>⟨h,rfl⟩⟩
theorem EvoA.tick (l:List SubD):EvoA l (l.map tickS):=⟨zP,fun i h h'=>by
 rw [SV]
 have k:=dx l[i]
 exact⟨k.road,k.mine,k.take,fun h4=>⟨by rw [vI h4];exact h4,k.theirs⟩⟩⟩
theorem EvoA.trans {l m n:List SubD} (h:EvoA l m) (g:EvoA m n):EvoA l n:=by
 refine⟨SU h.len g.len,fun i hi hi'=>?_⟩
 have hm:i < m.length:=by have:=h.len;omega
 obtain⟨a1,a2,a3,a4⟩:=h.at_ i hi hm
 obtain⟨b1,b2,b3,b4⟩:=g.at_ i hm hi'
 refine⟨b1.trans a1,b2.trans a2,b3.trans a3,fun hs=>?_⟩
 obtain⟨c1,c2⟩:=a4 hs
 obtain⟨d1,d2⟩:=b4 c1
 exact⟨d1,d2.trans c2⟩
theorem CL.mono {w w':WorldD} {x:LetterD} (L:CL w x) (P:w.a.subs.Pairwise Later) (E:Le w w') (ea:EvoA w.a.subs w'.a.subs) (fa:∀ f∈w.a.far,∃ f'∈w'.a.far,f'.id=f.id) (na:nextOf w.a.inp<=nextOf w'.a.inp) (nb:nextOf w.b.inp<=nextOf w'.b.inp):CL w' x:=by
 refine⟨L.kind,L.to,L.to2,L.to1,L.k4,fun k=>?_,fun k h1 h2=>?_,fun k h1=>?_,fun k h1=>?_⟩
 ·obtain⟨j,hj,a1,a2,a3,a4,a5,a6⟩:=L.k5 k
  have hj':j < w'.a.subs.length:=by have:=ea.len;omega
  obtain⟨b1,b2,_,_⟩:=ea.at_ j hj hj'
  refine⟨j,hj',by rw [b2];exact a1,by rw [b2,E.ka,E.kb];exact a2,b1.trans a3,SQ a4 E.db,fun i hi hr=>?_,fun h hh hr=>?_⟩
  ·have hil:i < w.a.subs.length:=zO
   obtain⟨c1,c2,_,c3⟩:=ea.at_ i hil zO
   rw [c1] at hr
   have h4:=(Later.at P hil hj hi (by rw [hr,a3])).1
   rw [(c3 h4).2];exact a5 i hi hr
  rcases E.hb h hh with g|⟨q,q1,q2,_,_,q5⟩
  ·omega
  rw [<-q2];exact a6 q q1 (by rw [q5];exact hr)
 ·obtain⟨f,f1,f2⟩:=L.k9 k h1 h2
  obtain⟨f',g1,g2⟩:=fa f f1
  exact⟨f',g1,g2.trans f2⟩
 ·exact Sj (L.k12a k h1) nb
 exact Sj (L.k12b k h1) na
theorem Ih {l:List SubD} (h:l.Pairwise fun s t=>¬ s.take=t.take) {i j:Nat} (hi:i < l.length) (hj:j < l.length) (e:l[i].take=l[j].take):i=j:=by
 rw [RU] at h
 rcases Sk i j with g|g|g
 ·exact absurd e (h i j hi hj g)
 ·exact g
 exact absurd e.symm (h j i hj hi g)
theorem EI {l:List HalfD} (h:l.Pairwise fun a b=>¬ a.road=b.road) {s t:HalfD} (hs:s∈l) (ht:t∈l) (e:s.road=t.road):s=t:=by
 obtain⟨i,hi,rfl⟩:=RV hs
 obtain⟨j,hj,rfl⟩:=RV ht
 rw [RU] at h
 rcases Sk i j with g|g|g
 ·exact absurd e (h i j hi hj g)
 ·subst g;rfl
 exact absurd e.symm (h j i hj hi g)
theorem vi (p:PiecesD) (n:Int) (t:List UInt8):(putPiece p n t).read=p.read/\∃ r,(putPiece p n t).ready=p.ready++r:=by
 unfold putPiece lM mY mX
 repeat' split
 all_goals first
  |exact⟨rfl,[],(R4 _).symm⟩
  |exact⟨rfl,_,rfl⟩
theorem yp {p:PiecesD} {n:Int} {t:List UInt8} (hs:SmallP p) (ok:piecesOk p=true):nextOf p<=nextOf (putPiece p n t):=by
 rcases kS p n t with e|e
 ·rw [e];exact RS _
 rw [(ax ok hs).next,(ax e (kp hs)).next]
 obtain⟨h1,r,h2⟩:=vi p n t
 rw [h1,h2,R2]
 omega
theorem ud {o:OutD} {n m:Int} (h:o.base<=m) (hn:n<=m):(came o n).base<=m:=by
 unfold came;split
 ·exact hn
 exact h
theorem A6 {o:OutD} {n:Int}:(came o n).room=o.room:=by unfold came;split<;>rfl
theorem jD {l m:List AddrD} (h:∀ f∈l,∃ f'∈m,f'.id=f.id) (k:hasTwo l=true):hasTwo m=true:=by
 simp only [hasTwo,Sd,beq_iff_eq] at k⊢
 obtain⟨f,f1,f2⟩:=k
 obtain⟨g,g1,g2⟩:=h f f1
 exact⟨g,g1,g2.trans f2⟩
theorem Ii {l:List AddrD} {i:Nat} (hi:i < l.length) {a:AddrD} (h:a.id=l[i].id):∀ f∈l,∃ f'∈l.set i a,f'.id=f.id:=by
 intro f hf
 obtain⟨j,hj,rfl⟩:=RV hf
 by_cases e:i=j
 ·subst e;exact⟨a,Sm hi a,h⟩
 refine⟨l[j],Sb.2 ⟨j,by rw [R1];exact hj,?_⟩,rfl⟩
 rw [R0,if_neg e]
theorem yq {l:List HalfD} {r:RoadD}:bj l r < 0↔∀ h∈l,¬ h.road=r:=by
 rw [bj,t7]
 constructor
 ·intro h q hq e
  have:=h q hq
  rw [<-SZ,cy] at this
  exact this e
 intro h q hq
 rw [<-SZ,cy]
 exact h q hq
theorem GJ {l:List HalfD} {h:HalfD} (H:HaOk l) (hh:HaE h) (hl:¬ (bj l h.road < 0/\4<=l.length)):c_ (bP l h)=true:=by
 rw [od,bP]
 split
 ·rename_i h0
  obtain⟨n,e,hn,hr⟩:=jI h0
  rw [e,RT]
  refine H.pt zP fun i h1 h2=>?_
  rw [R0]
  split
  ·rename_i q;subst q;exact⟨hh,hr.symm⟩
  exact⟨H.el _ (RQ h2),rfl⟩
 rename_i h0
 have hno:=yq.1 (by omega:bj l h.road < 0)
 refine⟨by rw [R2,Sg];have:=H.len;omega,fun k hk=>?_,?_⟩
 ·rcases RW.1 hk with hk|hk
  ·exact H.el k hk
  rw [RR.1 hk];exact hh
 rw [Sh]
 exact⟨H.pw,R_ ..,fun a ha b hb=>by rw [RR.1 hb];exact hno a ha⟩
theorem sR (l:List HalfD) (h:HalfD):h∈bP l h:=by
 rw [bP];split
 ·rename_i h0
  obtain⟨n,e,hn,_⟩:=jI h0
  rw [e,RT]
  exact Sm hn h
 simp
theorem GK {l:List HalfD} {h k:HalfD} (hk:k∈(aX l h).1):k=h\/k∈l:=by
 rw [aX] at hk;split at hk
 ·dsimp only at hk
  rw [bP] at hk;split at hk
  ·rcases RX hk with hk|hk
   ·exact .inr hk
   exact .inl hk
  rcases RW.1 hk with hk|hk
  ·exact .inr hk
  exact .inl (RR.1 hk)
 exact .inr hk
theorem A7 {n:Int} (h:1000<=n):¬ Loose [] n:=by
 rintro (h1|h1)
 ·omega
 simp at h1
structure CStep (p:PolicyD) (w w':WorldD) (l:List LetterD):Prop where
 e:CE p w'
 ea:EvoA w.a.subs w'.a.subs
 fa:∀ f∈w.a.far,∃ f'∈w'.a.far,f'.id=f.id
 na:nextOf w.a.inp<=nextOf w'.a.inp
 nb:nextOf w.b.inp<=nextOf w'.b.inp
 ls:∀ y∈l,CL w' y
theorem yr {w:WorldD} {y:LetterD} (k:y.kind=6\/y.kind=7\/y.kind=8\/y.kind=11) (h0:¬ sideAt y.to=0) (h2:y.kind=6->sideAt y.to=2) (h1:y.kind=7->sideAt y.to=1):CL w y:=
 ⟨zO,h0,fun h=>h2 zO,fun h=>h1 zO,fun h=>by omega,fun h=>by omega,fun h=>by omega,fun h=>by omega,fun h=>by omega⟩
theorem lx {w:WorldD} {y:LetterD} (h:CL w y):∀ z∈[y],CL w z:=fun z hz=>by rw [RR.1 hz];exact h
theorem ol {w:WorldD}:∀ z∈([]:List LetterD),CL w z:=fun z hz=>by simp at hz
theorem RK:4<=(5:Int)/\(5:Int)<=12/\¬ (5:Int)=10:=by decide
theorem RL:4<=(9:Int)/\(9:Int)<=12/\¬ (9:Int)=10:=by decide
theorem QQ:4<=(12:Int)/\(12:Int)<=12/\¬ (12:Int)=10:=by decide
theorem LZ {p:PolicyD} {w:WorldD} {x:LetterD} (hp:p∈pols) (C:Core w) (G:SmallP w.a.inp) (L:LetI w x) (E:CE p w) (X:CL w x) (hx:sideAt x.to=1):CStep p w (ic w (aG w.a x).1) (aG w.a x).2:=by
 have F:=eD w.a x
 have S:=LQ C G L hx
 have kk:=X.kind
 generalize aG w.a x=r at F S⊢
 have same:∀ f∈w.a.far,∃ f'∈w.a.far,f'.id=f.id:=fun f hf=>⟨f,hf,rfl⟩
 have side:∀ {n:Nat} (hn:n < w.a.subs.length),sideAt w.a.subs[n].road.far=2:=fun hn=>(C.sa _ (RQ hn)).far
 cases F with
 |stay=>exact⟨E,EvoA.refl _,same,RS _,RS _,ol⟩
 |other r k=>omega
 |join1 k=>have:=X.to2 (.inl k);omega
 |join2 k=>have:=X.to2 (.inl k);omega
 |done1 k=>have:=X.to2 (.inr k);omega
 |done2 k=>have:=X.to2 (.inr k);omega
 |back k n hn h1 hr ht=>
  obtain⟨j,hj,a1,a2,a3,a4,a5,a6⟩:=X.k5 k
  have em:w.a.subs[n].mine=w.a.subs[j].mine:=congrArg TagD.b (ht.symm.trans a2)
  have hm:=RQ hn
  have ask:=(C.sa _ hm).ask (.inl h1)
  have e1:w.a.subs[n]=w.a.subs[j]:=ym C hm (RQ hj) ask em
  have enj:n=j:=Ih C.sad hn hj (by rw [e1])
  subst enj
  have hg:∀ t∈w.b.subs,¬ t.give=w.a.subs[n].take:=fun t ht' hc=>by
   obtain⟨s,s1,s2,s3,s4,s5⟩:=(C.sb t ht').like
   have:=kz C.sad s1 hm (s4.trans hc)
   rw [this] at s2;exact s2 h1
  have K:=E.cs.back hn h1 (x:=x) (fun i hi hr'=>a5 i hi (hr'.trans hr)) (fun h hh hr'=>a6 h hh (by rw [hr',hr])) hg
  refine⟨⟨K,E.nums,E.pol,E.ownA,E.farA,E.ownB,E.farB,E.done,E.over,E.room,E.told,fun s hs=>?_,E.baseA,E.baseB,E.hth⟩,EvoA.set hn rfl rfl rfl zO,same,RS _,RS _,lx ?_⟩
  ·rcases RX hs with hs|rfl
   ·exact E.want s hs
   exact E.want w.a.subs[n] hm
  have sd:=side hn
  exact yr (.inl rfl) (by show ¬ sideAt w.a.subs[n].road.far=0;omega) (fun _=>sd) (fun h=>by cases h)
 |ack k n hn h2 hr ht=>
  have hm:=RQ hn
  refine⟨⟨E.cs.ack hn h2,E.nums,E.pol,E.ownA,E.farA,E.ownB,E.farB,E.done,E.over,E.room,E.told,fun s hs=>?_,E.baseA,E.baseB,E.hth⟩,EvoA.set hn rfl rfl rfl zO,same,RS _,RS _,ol⟩
  rcases RX hs with hs|rfl
  ·exact E.want s hs
  exact E.want w.a.subs[n] hm
 |addr k n hn h3 hr hs ht hp1=>
  obtain⟨d1,d2⟩:=L.a8 hx k x.id x.addr (by rw [ht,C.pa])
  have hf:zB 20 (fD x):=by
   rcases d2 with⟨q,q1,q2,q3⟩|d2
   ·have:=E.ownB.fits q1
    simp only [zB,fD] at this⊢
    omega
   rw [E.done.2] at d2;simp at d2
  obtain⟨p1,p2,p3⟩:=E.farA.put hf
  refine⟨⟨E.cs,E.nums,E.pol,E.ownA,p1,E.ownB,E.farB,E.done,E.over,E.room,fun q hq h1 h2=>?_,fun s hs=>yo hp id (jD p3) (E.want s hs),E.baseA,E.baseB,E.hth⟩,EvoA.refl _,p3,RS _,RS _,lx ?_⟩
  ·obtain⟨f,f1,f2⟩:=E.told q hq h1 h2
   obtain⟨f',g1,g2⟩:=p3 f f1
   exact⟨f',g1,g2.trans f2⟩
  have sd:=side hn
  rw [hr] at sd
  have sd:sideAt x.frm=2:=sd
  refine⟨RL,by show ¬ sideAt x.frm=0;omega,fun h=>(by rcases h with h|h<;>cases h),fun h=>(by rcases h with h|h<;>cases h),fun h=>(by cases h),fun h=>(by cases h),fun _ _ h1=>⟨fD x,p2 hp1,h1⟩,fun h=>(by cases h),fun h=>(by cases h)⟩
 |echo k i hi h1 h2=>
  refine⟨⟨E.cs,E.nums,E.pol,E.ownA.set hi rfl rfl,E.farA,E.ownB,E.farB,E.done,E.over,E.room,E.told,fun s hs=>yo hp (jD (Ii hi (a:={ w.a.own[i] with told:=true }) rfl)) id (E.want s hs),E.baseA,E.baseB,E.hth⟩,EvoA.refl _,same,RS _,RS _,ol⟩
 |data k n hn h3 hr hs=>
  have nx:=yp (n:=x.pos) (t:=x.text) G C.oka.inp
  refine⟨⟨E.cs,E.nums,E.pol,E.ownA,E.farA,E.ownB,E.farB,E.done,E.over,E.room,E.told,E.want,E.baseA,Sj E.baseB nx,E.hth⟩,EvoA.refl _,same,nx,RS _,lx ?_⟩
  have sd:=side hn
  rw [hr] at sd
  have sd:sideAt x.frm=2:=sd
  refine⟨QQ,by show ¬ sideAt x.frm=0;omega,fun h=>(by rcases h with h|h<;>cases h),fun h=>(by rcases h with h|h<;>cases h),fun h=>(by cases h),fun h=>(by cases h),fun h=>(by cases h),fun _ h=>?_,fun _ h=>RS _⟩
  have h:sideAt x.frm=1:=h
  omega
 |came k n hn h3 hr hs=>
  have ho:=X.k12a k hx
  exact⟨⟨E.cs,E.nums,E.pol,E.ownA,E.farA,E.ownB,E.farB,E.done,E.over,⟨A6.trans E.room.1,E.room.2⟩,E.told,E.want,ud E.baseA ho,E.baseB,E.hth⟩,EvoA.refl _,same,RS _,RS _,ol⟩
theorem A8 {w:WorldD} {x:LetterD} (C:Core w) (ok:ll w.b x=true):aX w.b.halfs (aj w.b x)=(bP w.b.halfs (aj w.b x),true):=by
 have hk:=ok
 simp only [ll,RP,decide_eq_true_eq,dt,R9,Bool.and_eq_false_iff,decide_eq_false_iff_not] at hk
 obtain⟨⟨⟨⟨⟨⟨⟨⟨⟨hk1,hk2⟩,_⟩,_⟩,_⟩,_⟩,hk6⟩,hk7⟩,hk8⟩,_⟩:=hk
 obtain⟨_,_,_,n4,n5,_⟩:=mP hk2
 have hne:HaE (aj w.b x):=by
  have n9:=C.okb.nums
  refine⟨A2 hk2,n4,n9.2.2.1,n5,?_,?_⟩
  ·simp only [aj,N9];omega
  have:=n9.2.2.2.1
  simp only [aj,N9] at this⊢;omega
 refine oH (GJ C.okb.halfs hne ?_)
 rintro⟨g1,g2⟩
 have g1:bj w.b.halfs (roadOf x) < 0:=g1
 rcases hk6 with g|g<;>omega
theorem OC {p:PolicyD} {w:WorldD} {x:LetterD} (hp:p∈pols) (C:Core w) (G:SmallP w.b.inp) (L:LetI w x) (E:CE p w) (X:CL w x) (hx:sideAt x.to=2):CStep p w (inB w (aG w.b x).1) (aG w.b x).2:=by
 have F:=eD w.b x
 have S:=LS C G L hx
 have kk:=X.kind
 generalize aG w.b x=r at F S⊢
 have same:∀ f∈w.a.far,∃ f'∈w.a.far,f'.id=f.id:=fun f hf=>⟨f,hf,rfl⟩
 have side:∀ {n:Nat} (hn:n < w.b.subs.length),sideAt w.b.subs[n].road.far=1:=fun hn=>(farB C (RQ hn)).1
 have thd:∀ s∈w.a.subs,s.theirs < w.b.draw:=fun s hs=>(C.sa s hs).th.1
 have asks:x.kind=4->∃ (j:Nat) (hj:j < w.a.subs.length),1000<=w.a.subs[j].mine/\x.nonce=w.a.subs[j].mine/\x.give=w.a.subs[j].take/\roadOf x=bk w.a.subs[j].road:=fun k=>by
  rcases L.b4 hx k with g|⟨s,s1,s2,s3,s4,s5⟩
  ·rw [E.nums] at g;exact absurd g (A7 (X.k4 k))
  obtain⟨j,hj,rfl⟩:=RV s1
  exact⟨j,hj,s2,s3,s4,s5⟩
 cases F with
 |stay=>exact⟨E,EvoA.refl _,same,RS _,RS _,ol⟩
 |other r k=>omega
 |back k=>have:=X.to1 (.inl k);omega
 |ack k=>have:=X.to1 (.inr k);omega
 |join1 k ok n hn hr h1 h2=>
  obtain⟨j,hj,s2,s3,s4,s5⟩:=asks k
  have hh:=RQ hn
  have H:=C.hb _ hh
  have m4:=H.m4
  have hold:∀ q∈w.b.halfs.set n { w.b.halfs[n] with till:=w.b.now+6 },∃ h∈w.b.halfs,h.mine=q.mine/\h.road=q.road/\h.theirs=q.theirs:=fun q hq=>by
   rcases RX hq with hq|rfl
   ·exact⟨q,hq,rfl,rfl,rfl⟩
   exact⟨_,hh,rfl,rfl,rfl⟩
  refine⟨⟨E.cs.half thd fun q hq=>.inr (by obtain⟨g,g1,g2,g3,_⟩:=hold q hq;exact⟨g,g1,g2,g3⟩),E.nums,E.pol,E.ownA,E.farA,E.ownB,E.farB,E.done,E.over,E.room,E.told,E.want,E.baseA,E.baseB,fun q hq=>(by obtain⟨g,g1,_,_,g4⟩:=hold q hq;rw [<-g4];exact E.hth g g1)⟩,EvoA.refl _,same,RS _,RS _,lx ?_⟩
  have sd:sideAt (roadOf x).far=1:=by rw [s5];exact (C.sa _ (RQ hj)).own
  refine⟨RK,by show ¬ sideAt (roadOf x).far=0;omega,fun h=>(by rcases h with h|h<;>cases h),fun _=>sd,fun h=>(by cases h),fun _=>⟨j,hj,s2,?_,?_,?_,fun i hi e=>?_,fun q hq e=>?_⟩,fun h=>(by cases h),fun h=>(by cases h),fun h=>(by cases h)⟩
  ·show (⟨1,w.b.key,w.b.peer,w.b.halfs[n].mine,w.b.halfs[n].theirs⟩:TagD)=⟨1,w.b.key,w.a.key,w.b.halfs[n].mine,w.a.subs[j].mine⟩
   rw [C.pb,h1,s3]
  ·show w.a.subs[j].road=bk (roadOf x)
   rw [s5,fF]
  ·show w.b.halfs[n].mine < w.b.draw
   omega
  ·show w.a.subs[i].theirs < w.b.halfs[n].mine
   have e':w.a.subs[i].road=bk (roadOf x):=e
   rw [s5,fF] at e'
   have hil:i < w.a.subs.length:=zO
   have l4:=(Later.at E.cs.pw hil hj hi e').1
   have le:=E.cs.hl _ (RQ hil) zO _ hh (by rw [hr,s5,e'])
   have ne:¬ w.b.halfs[n].mine=w.a.subs[i].theirs:=fun hc=>by
    have:=((C.sa _ (RQ hil)).th.2 _ hh hc).1
    rw [h1,s3] at this
    have e2:=ym C (RQ hj) (RQ hil) s2 this
    have:=Ih C.sad hj hil (by rw [e2])
    omega
   omega
  show w.b.halfs[n].mine<=q.mine
  obtain⟨h,q1,q2,q3,_⟩:=hold q hq
  have e':q.road=bk (bk (roadOf x)):=e
  rw [fF] at e'
  have:=EI C.okb.halfs.pw q1 hh (by rw [q3,e',hr])
  rw [<-q2,this]
  exact RS _
 |join2 k ok no=>
  obtain⟨j,hj,s2,s3,s4,s5⟩:=asks k
  have hput:=A8 C ok
  have S':=S.c.okb.halfs.pw
  rw [hput] at S'⊢
  have hin:∀ q∈bP w.b.halfs (aj w.b x),q=aj w.b x\/q∈w.b.halfs:=fun q hq=>GK (h:=aj w.b x) (by rw [hput];exact hq)
  refine⟨⟨E.cs.half thd fun q hq=>?_,E.nums,E.pol,E.ownA,E.farA,E.ownB,E.farB,E.done,E.over,E.room,E.told,E.want,E.baseA,E.baseB,fun q hq=>(by rcases hin q hq with rfl|hq;exact X.k4 k;exact E.hth q hq)⟩,EvoA.refl _,same,RS _,RS _,lx ?_⟩
  ·rcases hin q hq with rfl|hq
   ·exact .inl (RS _)
   exact .inr ⟨q,hq,rfl,rfl⟩
  have sd:sideAt (roadOf x).far=1:=by rw [s5];exact (C.sa _ (RQ hj)).own
  refine⟨RK,by show ¬ sideAt (roadOf x).far=0;omega,fun h=>(by rcases h with h|h<;>cases h),fun _=>sd,fun h=>(by cases h),fun _=>⟨j,hj,s2,?_,?_,?_,fun i hi e=>?_,fun q hq e=>?_⟩,fun h=>(by cases h),fun h=>(by cases h),fun h=>(by cases h)⟩
  ·show (⟨1,w.b.key,w.b.peer,w.b.draw,x.nonce⟩:TagD)=⟨1,w.b.key,w.a.key,w.b.draw,w.a.subs[j].mine⟩
   rw [C.pb,s3]
  ·show w.a.subs[j].road=bk (roadOf x)
   rw [s5,fF]
  ·show w.b.draw < w.b.draw+4
   omega
  ·exact thd _ (RQ zO)
  show w.b.draw<=q.mine
  have e':q.road=bk (bk (roadOf x)):=e
  rw [fF] at e'
  have:=EI S' hq (sR _ _) e'
  rw [this]
  exact RS _
 |done1 k i hi hr h8 ht m hm=>
  have hh:=RQ hi
  obtain⟨s,s1,s2,s3,s4,s5,s6⟩:=L.b6 hx k w.b.halfs[i].theirs w.b.halfs[i].mine (by rw [ht,C.pb])
  have hm':=hm
  rw [<-hr] at hm'
  have K:=CS.done C E.cs hh E.nums s s1 s2 s4.symm s5.symm (by rw [hr,s6]) s3 hm'
  rw [hr] at K
  refine⟨⟨K,E.nums,E.pol,E.ownA,E.farA,E.ownB,E.farB,E.done,E.over,E.room,E.told,E.want,E.baseA,E.baseB,fun q hq=>E.hth q (n_.1 q hq)⟩,EvoA.refl _,same,RS _,RS _,lx ?_⟩
  have sd:sideAt (roadOf x).far=1:=by rw [s6];exact (C.sa _ s1).own
  exact yr (.inr (.inl rfl)) (by show ¬ sideAt (roadOf x).far=0;omega) (fun h=>by cases h) (fun _=>sd)
 |done2 k n hn h3 hr ht=>
  have sd:=side hn
  rw [hr] at sd
  exact⟨E,EvoA.refl _,same,RS _,RS _,lx (yr (.inr (.inl rfl)) (by show ¬ sideAt (roadOf x).far=0;omega) (fun h=>by cases h) (fun _=>sd))⟩
 |addr k n hn h3 hr hs ht hp1=>
  obtain⟨d1,d2⟩:=L.b8 hx k x.id x.addr (by rw [ht,C.pb])
  have hf:zB 10 (fD x):=by
   rcases d2 with⟨q,q1,q2,q3⟩|d2
   ·have:=E.ownA.fits q1
    simp only [zB,fD] at this⊢
    omega
   rw [E.done.1] at d2;simp at d2
  obtain⟨p1,p2,p3⟩:=E.farB.put hf
  refine⟨⟨E.cs,E.nums,E.pol,E.ownA,E.farA,E.ownB,p1,E.done,E.over,E.room,E.told,E.want,E.baseA,E.baseB,E.hth⟩,EvoA.refl _,same,RS _,RS _,lx ?_⟩
  have sd:=side hn
  rw [hr] at sd
  have sd:sideAt x.frm=1:=sd
  refine⟨RL,by show ¬ sideAt x.frm=0;omega,fun h=>(by rcases h with h|h<;>cases h),fun h=>(by rcases h with h|h<;>cases h),fun h=>(by cases h),fun h=>(by cases h),fun _ h=>?_,fun h=>(by cases h),fun h=>(by cases h)⟩
  have h:sideAt x.frm=2:=h
  omega
 |echo k i hi h1 h2=>
  refine⟨⟨E.cs,E.nums,E.pol,E.ownA,E.farA,E.ownB.set hi rfl rfl,E.farB,E.done,E.over,E.room,fun q hq g1 g2=>?_,E.want,E.baseA,E.baseB,E.hth⟩,EvoA.refl _,same,RS _,RS _,ol⟩
  rcases RX hq with hq|rfl
  ·exact E.told q hq g1 g2
  exact X.k9 k hx (h1.symm.trans g1)
 |data k n hn h3 hr hs=>
  have nx:=yp (n:=x.pos) (t:=x.text) G C.okb.inp
  refine⟨⟨E.cs,E.nums,E.pol,E.ownA,E.farA,E.ownB,E.farB,E.done,E.over,E.room,E.told,E.want,Sj E.baseA nx,E.baseB,E.hth⟩,EvoA.refl _,same,RS _,nx,lx ?_⟩
  have sd:=side hn
  rw [hr] at sd
  have sd:sideAt x.frm=1:=sd
  refine⟨QQ,by show ¬ sideAt x.frm=0;omega,fun h=>(by rcases h with h|h<;>cases h),fun h=>(by rcases h with h|h<;>cases h),fun h=>(by cases h),fun h=>(by cases h),fun h=>(by cases h),fun _ h=>RS _,fun _ h=>?_⟩
  have h:sideAt x.frm=2:=h
  omega
 |came k n hn h3 hr hs=>
  have ho:=X.k12b k hx
  exact⟨⟨E.cs,E.nums,E.pol,E.ownA,E.farA,E.ownB,E.farB,E.done,E.over,⟨E.room.1,A6.trans E.room.2⟩,E.told,E.want,E.baseA,ud E.baseB ho,E.hth⟩,EvoA.refl _,same,RS _,RS _,ol⟩
def QR (r:RoadD) (x:LetterD):Prop:=x.frm=r.own/\x.to=r.far/\x.port=r.port
theorem L4 {l:List SubD} {n:Nat} (h:n∈eH l):n∈gV l:=by
 rw [eH] at h;split at h
 ·exact h
 exact (Sn.1 h).1
theorem ys {e:EndD} (h:0<=bc e):∃ s∈e.subs,s.state=3/\bt e.subs (bc e).toNat=s:=by
 rw [bc] at h⊢;split at h
 ·rename_i hc
  have hz:e.pick.toNat % (eH e.subs).length < (eH e.subs).length:=Nat.mod_lt _ zO
  rw [if_pos hc,RT,Su,Sw hz,Option.getD_some]
  obtain⟨hn,h3⟩:=rJ (L4 (RQ hz))
  exact⟨_,RQ hn,h3,bE hn⟩
 omega
def PA (w:WorldD) (x:LetterD):Prop:=Slice w.wroteA x.pos x.text/\∃ s∈w.a.subs,¬ s.state=1/\QR s.road x/\x.sgn=s.give/\∃ t∈w.b.subs,t.take=x.sgn/\t.give=s.take
def PB (w:WorldD) (x:LetterD):Prop:=Slice w.wroteB x.pos x.text/\∃ t∈w.b.subs,QR t.road x/\x.sgn=t.give
def PD (w:WorldD) (x:LetterD):Prop:=x.kind=11->PA w x\/PB w x
def CovI (s:Int) (l:List LetterD) (R:List UInt8) (p:PiecesD):Prop:=l.length < 150->∀ W,(∀ x∈l,x.kind=11->sideAt x.to=s->Slice W x.pos x.text)->InI W R p
structure Car (w:WorldD):Prop where
 sbd:w.b.subs.Pairwise fun s t=>¬ s.take=t.take
 ga:∀ s∈w.a.subs,GA w.b.subs s
 lb:∀ x∈w.bag,LC w x
 lp:∀ x∈w.past,LC w x
 bd:∀ x∈w.bag,x.kind=11->Loose w.nums x.sgn\/150<=w.past.length\/x∈w.past
 pd:∀ x∈w.past,PD w x
 ca:CovI 1 w.past w.readA w.a.inp
 cb:CovI 2 w.past w.readB w.b.inp
theorem LC.mono {w w':WorldD} {x:LetterD} (C:Core w) (L:LetI w x) (K:LC w x) (E:Le w w') (N:NewB w w'.b.subs):LC w' x:=by
 intro h1 h2 m h3
 rw [E.ka,E.kb] at h3
 rcases L.a5 h1 h2 m h3 with g|⟨g1,g2⟩
 ·exact .inl (g.mono E.nums)
 rcases K h1 h2 m h3 with g|⟨k1,k2⟩
 ·exact .inl (g.mono E.nums)
 refine .inr ⟨k1,fun t ht e=>?_⟩
 rcases N.nb t ht with⟨u,u1,u2,u3⟩|⟨q,q1,q2,q3,r,r1,r2,r3,r4⟩
 ·rw [u3];exact k2 u u1 (by rw [<-u2];exact e)
 have m4:=(C.hb q q1).m4
 obtain⟨p1,_,_⟩:=g2 q q1 zO
 have m2:=(C.sa r r1).mine
 omega
theorem PD.mono {w w':WorldD} {x:LetterD} (K:PD w x) (E:Le w w') (N:NewB w w'.b.subs):PD w' x:=by
 intro hk
 rcases K hk with⟨q0,s,s1,s2,s3,s4,t,t1,t2,t3⟩|⟨q0,t,t1,t2,t3⟩
 ·obtain⟨s',r1,r2⟩:=E.sa s s1
  obtain⟨p1,p2,p3⟩:=r2.rest s2
  obtain⟨u,u1,_,u2,u3⟩:=N.ev t t1
  obtain⟨v,hv⟩:=E.wa
  exact .inl ⟨by rw [hv];exact q0.app v,s',r1,p1,by rw [r2.road];exact s3,by rw [p3];exact s4,u,u1,u2.trans t2,by rw [u3,r2.take];exact t3⟩
 obtain⟨u,u1,u0,u2,u3⟩:=N.ev t t1
 obtain⟨v,hv⟩:=E.wb
 exact .inr ⟨by rw [hv];exact q0.app v,u,u1,by rw [u0];exact t2,by rw [u3];exact t3⟩
theorem Car.put {w w':WorldD} (I:Inv w) (K:Car w) (E:Le w w') (N:NewB w w'.b.subs) (hb:w'.bag=w.bag) (hp:w'.past=w.past) (ga:∀ s∈w'.a.subs,GA w'.b.subs s) (ca:CovI 1 w.past w'.readA w'.a.inp) (cb:CovI 2 w.past w'.readB w'.b.inp):Car w':=by
 refine⟨N.pw K.sbd,ga,?_,?_,?_,?_,by rw [hp];exact ca,by rw [hp];exact cb⟩
 ·rw [hb];exact fun x hx=>(K.lb x hx).mono I.c (I.bag x hx) E N
 ·rw [hp];exact fun x hx=>(K.lp x hx).mono I.c (I.past x hx) E N
 ·rw [hb,hp];exact fun x hx k=>(K.bd x hx k).imp (fun g=>g.mono E.nums) id
 rw [hp];exact fun x hx=>(K.pd x hx).mono E N
theorem CovI.more {s:Int} {l:List LetterD} {x:LetterD} {R:List UInt8} {p:PiecesD} (h:CovI s l R p):CovI s (fm l x) R p:=by
 intro hl W hW
 rw [fm] at hl hW
 split at hl
 ·rename_i h1
  rw [if_pos h1] at hW
  exact h h1 W fun y hy=>hW y (RY _ hy)
 rename_i h1
 omega
theorem JL {w:WorldD} {side:Int} {x:LetterD} (I:Inv w) (K:Car w) (P:Post w x) (hl:LC w x) (hd:PD w x):Car (aU side w x):=by
 obtain⟨I',E,ea,eb⟩:=t8 (side:=side) I P
 obtain⟨_,_,_,_,er,es⟩:=i9 (side:=side) (w:=w) (x:=x)
 have N:NewB w (aU side w x).b.subs:=by rw [eb];exact .keep (SubsKeep.refl _)
 have hp:(aU side w x).past=fm w.past x:=by unfold aU;split<;>rfl
 have hb:∀ y∈(aU side w x).bag,y=x\/y∈w.bag:=by
  intro y hy
  unfold aU at hy;split at hy
  ·exact .inr hy
  dsimp only at hy
  rw [pm] at hy;split at hy
  ·rcases RW.1 hy with hy|hy
   ·exact .inr hy
   exact .inl (RR.1 hy)
  exact .inr hy
 have hq:∀ y∈fm w.past x,y=x\/y∈w.past:=by
  intro y hy
  rw [fm] at hy;split at hy
  ·rcases RW.1 hy with hy|hy
   ·exact .inr hy
   exact .inl (RR.1 hy)
  exact .inr hy
 have hin:x∈fm w.past x\/150<=(fm w.past x).length:=by
  rw [fm];split
  ·exact .inl zP
  exact .inr zO
 have hold:∀ y∈w.past,y∈fm w.past x:=fun y hy=>by
  rw [fm];split
  ·exact RY _ hy
  exact hy
 have hlen:w.past.length<=(fm w.past x).length:=by
  rw [fm];split
  ·simp
  exact Si _
 refine⟨by rw [eb];exact K.sbd,by rw [ea,eb];exact K.ga,fun y hy=>?_,fun y hy=>?_,fun y hy k=>?_,fun y hy=>?_,by rw [hp,er,ea];exact K.ca.more,by rw [hp,es,eb];exact K.cb.more⟩
 ·rcases hb y hy with rfl|hy
  ·exact hl.mono I.c P.let E N
  exact (K.lb y hy).mono I.c (I.bag y hy) E N
 ·rw [hp] at hy
  rcases hq y hy with rfl|hy
  ·exact hl.mono I.c P.let E N
  exact (K.lp y hy).mono I.c (I.past y hy) E N
 ·rw [hp]
  rcases hb y hy with rfl|hy
  ·exact .inr hin.symm
  rcases K.bd y hy k with g|g|g
  ·exact .inl (g.mono E.nums)
  ·exact .inr (.inl zO)
  exact .inr (.inr (hold y g))
 rw [hp] at hy
 rcases hq y hy with rfl|hy
 ·exact hd.mono E N
 exact (K.pd y hy).mono E N
theorem A9 {side:Int}:∀ {l:List LetterD} {w:WorldD},Inv w->Car w->(∀ x∈l,Post w x)->(∀ x∈l,LC w x/\PD w x)->Car (al side w l)
 |[],w,I,K,_,_=>K
 |x::l,w,I,K,P,Q=>by
  obtain⟨I',E,ea,eb⟩:=t8 (side:=side) I (P x zP)
  have N:NewB w (aU side w x).b.subs:=by rw [eb];exact .keep (SubsKeep.refl _)
  exact A9 (l:=l) I' (JL I K (P x zP) (Q x zP).1 (Q x zP).2) (fun y hy=>(P y (by simp [hy])).mono E ea eb) fun y hy=>
   ⟨(Q y (by simp [hy])).1.mono I.c (P y (by simp [hy])).let E N,(Q y (by simp [hy])).2.mono E N⟩
theorem Car.step {w w':WorldD} {l:List LetterD} {side:Int} (I:Inv w) (S:Step w w' l) (hb:w'.bag=w.bag) (hp:w'.past=w.past) (K':Car w') (Q:∀ x∈l,LC w' x/\PD w' x):Car (al side w' l):=
 A9 ⟨S.c,fun x hx=>(I.bag x (hb▸hx)).mono S.le,fun x hx=>(I.past x (hp▸hx)).mono S.le⟩ K' S.post Q
theorem Car.bag {w:WorldD} {l:List LetterD} (K:Car w) (h:∀ x∈l,LC w x) (g:∀ x∈l,x.kind=11->Loose w.nums x.sgn\/150<=w.past.length\/x∈w.past):Car { w with bag:=l }:=⟨K.sbd,K.ga,h,K.lp,g,K.pd,K.ca,K.cb⟩
theorem NU {e:EndD}:∀ y∈(cB e).2,y.kind=11/\∃ s∈e.subs,y.to=s.road.far:=by
 unfold cB;split
 ·rename_i hk
  simp only [gN,RP,decide_eq_true_eq] at hk
  obtain⟨s,s1,s2,s3⟩:=ys hk.2
  rw [s3]
  exact Pd ⟨rfl,s,s1,rfl⟩
 intro y hy;simp at hy
theorem sS:∀ {k:Nat} {e:EndD},∀ y∈(pushN k e).2,y.kind=11/\∃ s∈e.subs,y.to=s.road.far
 |0,e=>fun y hy=>by simp [pushN] at hy
 |k+1,e=>fun y hy=>by
  rcases RW.1 hy with hy|hy
  ·exact NU y hy
  have:=sS y hy
  rw [AT] at this
  exact this
structure SameE (e e':EndD):Prop where
 subs:e'.subs=e.subs
 own:e'.own=e.own
 far:e'.far=e.far
 pol:e'.policy=e.policy
 done:e'.done=e.done
 over:e'.over=e.over
 halfs:e'.halfs=e.halfs
 inp:e'.inp=e.inp
 base:e'.out.base=e.out.base
 room:e'.out.room=e.out.room
theorem SameE.refl (e:EndD):SameE e e:=⟨rfl,rfl,rfl,rfl,rfl,rfl,rfl,rfl,rfl,rfl⟩
theorem SameE.trans {a b c:EndD} (h:SameE a b) (g:SameE b c):SameE a c:=
 ⟨g.subs.trans h.subs,g.own.trans h.own,g.far.trans h.far,g.pol.trans h.pol,g.done.trans h.done,g.over.trans h.over,g.halfs.trans h.halfs,g.inp.trans h.inp,g.base.trans h.base,g.room.trans h.room⟩
theorem yt (o:OutD):(eN o).base=o.base/\(eN o).room=o.room:=by unfold eN;split<;>exact⟨rfl,rfl⟩
theorem vJ (o:OutD):(dQ o).base=o.base/\(dQ o).room=o.room:=by unfold dQ;split<;>exact⟨rfl,rfl⟩
theorem A_ (o:OutD) (t:List UInt8):(dp o t).1.base=o.base/\(dp o t).1.room=o.room:=by unfold dp;split<;>exact⟨rfl,rfl⟩
theorem JM {e:EndD}:SameE e (cB e).1:=by
 unfold cB;split
 ·exact⟨rfl,rfl,rfl,rfl,rfl,rfl,rfl,rfl,(yt _).1,(yt _).2⟩
 exact SameE.refl e
theorem ff:∀ {k:Nat} {e:EndD},SameE e (pushN k e).1
 |0,e=>SameE.refl e
 |k+1,e=>JM.trans ff
theorem kA {e:EndD} {t:List UInt8}:SameE e (cO e t).1:=by
 unfold cO;split
 ·exact⟨rfl,rfl,rfl,rfl,rfl,rfl,rfl,rfl,(A_ _ _).1,(A_ _ _).2⟩
 exact SameE.refl e
theorem CE.endA {p:PolicyD} {w w':WorldD} (E:CE p w) (S:SameE w.a w'.a) (hb:w'.b=w.b) (hn:w'.nums=w.nums):CE p w':=by
 refine⟨?_,?_,?_,?_,?_,?_,?_,?_,?_,?_,?_,?_,?_,?_,?_⟩
 ·rw [S.subs,hb];exact E.cs
 ·rw [hn];exact E.nums
 ·rw [S.pol];exact E.pol
 ·rw [S.own];exact E.ownA
 ·rw [S.far];exact E.farA
 ·rw [hb];exact E.ownB
 ·rw [hb];exact E.farB
 ·rw [hb,S.done];exact E.done
 ·rw [hb,S.over];exact E.over
 ·rw [hb,S.room];exact E.room
 ·rw [hb,S.far];exact E.told
 ·rw [S.subs,S.own,S.far];exact E.want
 ·rw [S.base,hb];exact E.baseA
 ·rw [hb,S.inp];exact E.baseB
 rw [hb];exact E.hth
theorem CE.endB {p:PolicyD} {w w':WorldD} (E:CE p w) (S:SameE w.b w'.b) (ha:w'.a=w.a) (hn:w'.nums=w.nums):CE p w':=by
 refine⟨?_,?_,?_,?_,?_,?_,?_,?_,?_,?_,?_,?_,?_,?_,?_⟩
 ·rw [S.subs,S.halfs,ha];exact E.cs
 ·rw [hn];exact E.nums
 ·rw [ha];exact E.pol
 ·rw [ha];exact E.ownA
 ·rw [ha];exact E.farA
 ·rw [S.own];exact E.ownB
 ·rw [S.far];exact E.farB
 ·rw [ha,S.done];exact E.done
 ·rw [ha,S.over];exact E.over
 ·rw [ha,S.room];exact E.room
 ·rw [ha,S.own];exact E.told
 ·rw [ha];exact E.want
 ·rw [ha,S.inp];exact E.baseA
 ·rw [ha,S.base];exact E.baseB
 rw [S.halfs];exact E.hth
theorem CE.same {p:PolicyD} {w w':WorldD} (E:CE p w) (ha:w'.a=w.a) (hb:w'.b=w.b) (hn:w'.nums=w.nums):CE p w':=E.endA (by rw [ha];exact SameE.refl _) hb hn
theorem CL.same {w w':WorldD} {x:LetterD} (L:CL w x) (ha:w'.a=w.a) (hb:w'.b=w.b):CL w' x:=by
 cases w;cases w'
 dsimp only at ha hb
 subst ha;subst hb
 exact⟨L.kind,L.to,L.to2,L.to1,L.k4,L.k5,L.k9,L.k12a,L.k12b⟩
theorem RF {w:WorldD} {y:LetterD} (k:y.kind=4) (h2:sideAt y.to=2) (hn:1000<=y.nonce):CL w y:=
 ⟨zO,zO,fun _=>h2,fun h=>by omega,fun _=>hn,fun h=>by omega,fun h=>by omega,fun h=>by omega,fun h=>by omega⟩
def MF (y:LetterD):Prop:=(y.kind=6\/y.kind=8\/y.kind=11\/y.kind=4/\1000<=y.nonce)/\¬ sideAt y.to=0/\(y.kind=4\/y.kind=6->sideAt y.to=2)
theorem MF.cl {w:WorldD} {y:LetterD} (h:MF y):CL w y:=by
 obtain⟨h1,h2,h3⟩:=h
 exact⟨zO,h2,h3,fun h=>by omega,fun h=>by omega,fun h=>by omega,fun h=>by omega,fun h=>by omega,fun h=>by omega⟩
theorem sT {e:EndD} {k:Nat} (h:∀ s∈e.subs,¬ sideAt s.road.far=0):∀ y∈(pushN k e).2,MF y:=by
 intro y hy
 obtain⟨h1,s,s1,s2⟩:=sS y hy
 exact⟨.inr (.inr (.inl h1)),by rw [s2];exact h s s1,fun h=>by omega⟩
theorem EJ {e:EndD} (h:∀ s∈e.subs,¬ sideAt s.road.far=0):∀ y∈tellAddrs e,MF y:=by
 unfold tellAddrs;split
 ·rename_i hk
  simp only [zn,RP,R9,decide_eq_false_iff_not] at hk
  intro y hy
  obtain⟨q,_,rfl⟩:=R8.1 hy
  exact⟨.inr (.inl rfl),h _ (yi (uc hk.2)),fun h=>by rcases h with h|h<;>cases h⟩
 intro y hy;simp at hy
theorem L5 {w:WorldD} (C:Core w) {s:SubD} (hs:s∈w.a.subs):∀ y∈tickL w.a s,MF y:=by
 intro y hy
 have S:=C.sa s hs
 have h2:sideAt s.road.far=2:=S.far
 rw [tickL] at hy
 repeat' split at hy
 all_goals first
  |(simp at hy;done)
  |(rename_i h1;rw [RR.1 hy];exact⟨.inr (.inr (.inr ⟨rfl,S.ask (.inl h1)⟩)),by show ¬ sideAt s.road.far=0;omega,fun _=>h2⟩)
  |(rw [RR.1 hy];exact⟨.inl rfl,by show ¬ sideAt s.road.far=0;omega,fun _=>h2⟩)
theorem MF.all {p:PolicyD} {w:WorldD} {l:List LetterD} (h:∀ y∈l,MF y):∀ y∈l,CL w y:=fun y hy=>(h y hy).cl
theorem OD {w:WorldD} (C:Core w):∀ s∈w.a.subs,¬ sideAt s.road.far=0:=fun s hs=>by have:=(C.sa s hs).far;omega
theorem OE {w:WorldD} (C:Core w):∀ s∈w.b.subs,¬ sideAt s.road.far=0:=fun s hs=>by have:=(farB C hs).1;omega
theorem JN {p:PiecesD} {m:Int} (hs:SmallP p) (ok:piecesOk p=true):nextOf (aZ p m).1=nextOf p:=by
 have ok':=H9 (m:=m) ok hs
 rw [(ax ok hs).next,(ax ok' (xM hs)).next]
 unfold aZ;split
 ·have h2:tQ p m<=p.ready.length:=by unfold tQ;exact SW _ _
  simp only [R6]
  omega
 rfl
theorem ph {e:EndD} {m:Int} (hs:SmallP e.inp) (ok:OkE e):nextOf (az e m).1.inp=nextOf e.inp:=by
 unfold az;split
 ·exact JN hs ok.inp
 rfl
theorem iM (l:List AddrD):∀ f∈l,∃ f'∈l,f'.id=f.id:=fun f hf=>⟨f,hf,rfl⟩
theorem CStep.endA {p:PolicyD} {w w':WorldD} {l:List LetterD} (E:CE p w) (S:SameE w.a w'.a) (hb:w'.b=w.b) (hn:w'.nums=w.nums) (hl:∀ y∈l,MF y):CStep p w w' l:=
 ⟨E.endA S hb hn,by rw [S.subs];exact EvoA.refl _,by rw [S.far];exact iM _,by rw [S.inp];exact RS _,by rw [hb];exact RS _,fun y hy=>(hl y hy).cl⟩
theorem CStep.endB {p:PolicyD} {w w':WorldD} {l:List LetterD} (E:CE p w) (S:SameE w.b w'.b) (ha:w'.a=w.a) (hn:w'.nums=w.nums) (hl:∀ y∈l,MF y):CStep p w w' l:=
 ⟨E.endB S ha hn,by rw [ha];exact EvoA.refl _,by rw [ha];exact iM _,by rw [ha];exact RS _,by rw [S.inp];exact RS _,fun y hy=>(hl y hy).cl⟩
theorem om:∀ y∈([]:List LetterD),MF y:=fun y hy=>by simp at hy
theorem JO {p:PolicyD} {w:WorldD} (C:Core w) (E:CE p w) {r:RoadD} {b:Bool} (hr:r∈wants p (hasTwo w.a.own) (hasTwo w.a.far)):CStep p w (ic w (join w.a r b).1) (join w.a r b).2:=by
 unfold join;split
 case isFalse=>exact CStep.endA E (SameE.refl _) rfl rfl om
 rename_i hk
 simp only [tR,RP,decide_eq_true_eq,dt] at hk
 obtain⟨⟨⟨⟨⟨⟨⟨_,_⟩,_⟩,k4⟩,_⟩,k6⟩,k7⟩,k8⟩:=hk
 have hg:∀ t∈w.b.subs,¬ t.give=w.a.draw+2:=fun t ht hc=>by
  obtain⟨s,s1,_,_,s4,_⟩:=(C.sb t ht).like
  have:=(C.sa s s1).t4
  omega
 have K:=E.cs.ask (n:=bL w.a r b) rfl (j6.1 k4) hg
 refine⟨⟨K,E.nums,E.pol,E.ownA,E.farA,E.ownB,E.farB,E.done,E.over,E.room,E.told,fun s hs=>?_,E.baseA,E.baseB,E.hth⟩,EvoA.app _ _,iM _,RS _,RS _,lx ?_⟩
 ·rcases RW.1 hs with hs|hs
  ·exact E.want s hs
  rw [RR.1 hs];exact hr
 have d:=C.da
 simp only [fR,Sd,beq_iff_eq] at k6
 obtain⟨f,f1,f2⟩:=k6
 have:=(C.fa f f1).1
 rw [f2] at this
 exact RF rfl this (by show 1000<=w.a.draw;omega)
theorem CStep.trans {p:PolicyD} {u v w:WorldD} {l m:List LetterD} (P:u.a.subs.Pairwise Later) (h:CStep p u v l) (L:Le v w) (g:CStep p v w m):CStep p u w (l++m):=by
 refine⟨g.e,h.ea.trans g.ea,fun f hf=>?_,Sj h.na g.na,Sj h.nb g.nb,fun y hy=>?_⟩
 ·obtain⟨f1,a1,a2⟩:=h.fa f hf
  obtain⟨f2,b1,b2⟩:=g.fa f1 a1
  exact⟨f2,b1,b2.trans a2⟩
 rcases RW.1 hy with hy|hy
 ·exact (h.ls y hy).mono h.e.cs.pw L g.ea g.fa g.na g.nb
 exact g.ls y hy
theorem NV (e:EndD) (r:RoadD) (b:Bool):(join e r b).1.own=e.own/\(join e r b).1.far=e.far:=by unfold join;split<;>exact⟨rfl,rfl⟩
theorem EK {p:PolicyD} {far:List AddrD}:∀ {l:List RoadD} {w:WorldD},Core w->CE p w->(∀ r∈l,r∈wants p (hasTwo w.a.own) (hasTwo w.a.far))->CStep p w (ic w (cF far w.a l).1) (cF far w.a l).2
 |[],w,C,E,_=>CStep.endA E (SameE.refl _) rfl rfl om
 |r::l,w,C,E,h=>by
  have j:=JO (b:=aC far r.far) C E (h r (R3 ..))
  have C1:=(Oz C r (aC far r.far)).c
  have o:=NV w.a r (aC far r.far)
  have hr:∀ q∈l,q∈wants p (hasTwo (ic w (join w.a r (aC far r.far)).1).a.own) (hasTwo (ic w (join w.a r (aC far r.far)).1).a.far):=fun q hq=>by
   show q∈wants p (hasTwo (join w.a r (aC far r.far)).1.own) (hasTwo (join w.a r (aC far r.far)).1.far)
   rw [o.1,o.2]
   exact h q (RZ _ hq)
  have g:=EK (far:=far) C1 j.e hr
  exact CStep.trans E.cs.pw j (GB (far:=far) (l:=l) C1).le g
theorem JP {p:PolicyD} {w:WorldD} {a:ActD} (hp:p∈pols) (C:Core w) (G:SmallP w.a.inp) (E:CE p w) (A:CalmA a) (hs:a.side=1) (hk:a.kind<=7):CStep p w (aL (dE w a) 1 (dl w.a a).1) (dl w.a a).2:=by
 have kk:=A.k
 unfold dl dE
 split
 ·rename_i k
  exact CStep.endA E (kA.trans ff) (by unfold eT;split<;>rfl) (by unfold eT;split<;>rfl) (sT (by rw [kA.subs];exact OD C))
 split
 ·rename_i k
  have nx:=ph (m:=a.many) G C.oka
  have hr:cj w a.side (az (bS w a.side) a.many).2={ w with readA:=w.readA++(az (bS w a.side) a.many).2 }:=by rw [cj,if_pos hs]
  rw [hr]
  have q:(az w.a a.many).1={ w.a with inp:=(az w.a a.many).1.inp }:=by unfold az;split<;>rfl
  rw [q]
  refine⟨⟨E.cs,E.nums,E.pol,E.ownA,E.farA,E.ownB,E.farB,E.done,E.over,E.room,E.told,E.want,E.baseA,?_,E.hth⟩,EvoA.refl _,iM _,?_,RS _,ol⟩
  ·exact Sj E.baseB (S0 nx.symm)
  exact S0 nx.symm
 split
 ·rename_i k1 k2 k
  have C':=(LU C).c
  have hw:aL w 1 (tick w.a).1=ic w (tick w.a).1:=rfl
  rw [hw]
  unfold tick at C'⊢
  split at C'
  case isFalse hc=>rw [if_neg hc];exact CStep.endA E (SameE.refl _) rfl rfl om
  rename_i hc
  rw [if_pos hc]
  rw [if_pos C.sta] at C'⊢
  unfold bu at C'⊢
  dsimp only at C'⊢
  have sides:∀ s∈w.a.subs.map tickS,¬ sideAt s.road.far=0:=fun s hs=>by
   obtain⟨q,q1,rfl⟩:=R8.1 hs
   rw [(dx q).road]
   exact OD C q q1
  have E1:CE p (ic w { tick0 w.a with subs:=w.a.subs.map tickS }):=by
   refine⟨E.cs.tick,E.nums,E.pol,E.ownA,E.farA,E.ownB,E.farB,E.done,E.over,⟨(vJ _).2.trans E.room.1,E.room.2⟩,E.told,fun s hs=>?_,?_,E.baseB,E.hth⟩
   ·obtain⟨q,q1,rfl⟩:=R8.1 hs
    rw [(dx q).road]
    exact E.want q q1
   show (dQ w.a.out).base<=nextOf w.b.inp
   rw [(vJ _).1];exact E.baseA
  have sm:=ff (k:=3) (e:={ tick0 w.a with subs:=w.a.subs.map tickS })
  refine⟨E1.endA sm rfl rfl,?_,?_,?_,RS _,fun y hy=>?_⟩
  ·show EvoA w.a.subs (pushN 3 { tick0 w.a with subs:=w.a.subs.map tickS }).1.subs
   rw [sm.subs];exact EvoA.tick _
  ·show ∀ f∈w.a.far,∃ f'∈(pushN 3 { tick0 w.a with subs:=w.a.subs.map tickS }).1.far,f'.id=f.id
   rw [sm.far];exact iM _
  ·show nextOf w.a.inp<=nextOf (pushN 3 { tick0 w.a with subs:=w.a.subs.map tickS }).1.inp
   rw [sm.inp];exact RS _
  rcases RW.1 hy with hy|hy
  ·rcases RW.1 hy with hy|hy
   ·obtain⟨s,s1,s2⟩:=SX.1 hy
    exact (L5 C s1 y s2).cl
   exact (EJ sides y hy).cl
  exact (sT sides y hy).cl
 split
 ·rename_i k1 k2 k3 k
  have hw:aL w 1 (manage w.a).1=ic w (manage w.a).1:=rfl
  rw [hw]
  unfold manage;split
  ·refine EK C E fun r hr=>?_
   rw [cQ] at hr;split at hr
   ·have:=(Sn.1 hr).1
    rw [pg E.ownA C.oka.own E.farA C.oka.far,E.pol] at this
    exact this
   simp at hr
  exact CStep.endA E (SameE.refl _) rfl rfl om
 split
 ·rename_i k1 k2 k3 k4 k
  obtain⟨a1,a2⟩:=A.ad k
  have hw:aL w 1 (aR w.a a.addr).1=ic w (aR w.a a.addr).1:=rfl
  rw [hw]
  unfold aR;split
  ·obtain⟨p1,p2,p3⟩:=E.ownA.put (a:={ a.addr with told:=false }) (.inr ⟨a1,by show a.addr.addr=10+2;omega⟩)
   exact⟨⟨E.cs,E.nums,E.pol,p1,E.farA,E.ownB,E.farB,E.done,E.over,E.room,E.told,fun s hs=>yo hp (jD p3) id (E.want s hs),E.baseA,E.baseB,E.hth⟩,EvoA.refl _,iM _,RS _,RS _,ol⟩
  exact CStep.endA E (SameE.refl _) rfl rfl om
 omega
theorem yu {l:List SubD} (h:∀ t∈l,t.state=3\/t.state=4):l.map tickS=l:=by
 conv=>rhs;rw [<-List.map_id l]
 refine List.map_congr_left fun t ht=>?_
 rcases h t ht with h|h
 ·exact CD h
 exact vI h
theorem CF {e:EndD} {l:List SubD} (h:∀ t∈l,t.state=3\/t.state=4):l.flatMap (tickL e)=[]:=by
 rw [List.flatMap_eq_nil_iff]
 intro t ht
 rw [tickL,if_neg (by rcases h t ht with h|h<;>omega)]
theorem JQ {p:PolicyD} {w:WorldD} {a:ActD} (hp:p∈pols) (C:Core w) (G:SmallP w.b.inp) (E:CE p w) (A:CalmA a) (hs:a.side=2) (hk:a.kind<=7):CStep p w (aL (dE w a) 2 (dl w.b a).1) (dl w.b a).2:=by
 have kk:=A.k
 have h12:¬ a.side=1:=zO
 unfold dl dE
 split
 ·rename_i k
  exact CStep.endB E (kA.trans ff) (by unfold eT;split<;>rfl) (by unfold eT;split<;>rfl) (sT (by rw [kA.subs];exact OE C))
 split
 ·rename_i k
  have nx:=ph (m:=a.many) G C.okb
  have hr:cj w a.side (az (bS w a.side) a.many).2={ w with readB:=w.readB++(az (bS w a.side) a.many).2 }:=by rw [cj,if_neg h12]
  rw [hr]
  have q:(az w.b a.many).1={ w.b with inp:=(az w.b a.many).1.inp }:=by unfold az;split<;>rfl
  rw [q]
  refine⟨⟨E.cs,E.nums,E.pol,E.ownA,E.farA,E.ownB,E.farB,E.done,E.over,E.room,E.told,E.want,?_,E.baseB,E.hth⟩,EvoA.refl _,iM _,RS _,?_,ol⟩
  ·exact Sj E.baseA (S0 nx.symm)
  exact S0 nx.symm
 split
 ·rename_i k1 k2 k
  have hw:aL w 2 (tick w.b).1=inB w (tick w.b).1:=rfl
  rw [hw]
  have st:∀ t∈w.b.subs,t.state=3\/t.state=4:=fun t ht=>(C.sb t ht).st
  unfold tick
  split
  case isFalse hc=>exact CStep.endB E (SameE.refl _) rfl rfl om
  rw [if_pos C.stb,yu st,CF st]
  unfold bu
  dsimp only
  have sides:∀ s∈w.b.subs,¬ sideAt s.road.far=0:=OE C
  have E1:CE p (inB w { tick0 w.b with subs:=w.b.subs }):=by
   refine⟨E.cs.sub fun k hk=>(Sn.1 hk).1,E.nums,E.pol,E.ownA,E.farA,E.ownB,E.farB,E.done,E.over,⟨E.room.1,(vJ _).2.trans E.room.2⟩,E.told,E.want,E.baseA,?_,fun q hq=>E.hth q (Sn.1 hq).1⟩
   show (dQ w.b.out).base<=nextOf w.a.inp
   rw [(vJ _).1];exact E.baseB
  have sm:=ff (k:=3) (e:={ tick0 w.b with subs:=w.b.subs })
  refine⟨E1.endB sm rfl rfl,EvoA.refl _,iM _,RS _,?_,fun y hy=>?_⟩
  ·show nextOf w.b.inp<=nextOf (pushN 3 { tick0 w.b with subs:=w.b.subs }).1.inp
   rw [sm.inp];exact RS _
  rcases RW.1 hy with hy|hy
  ·rcases RW.1 hy with hy|hy
   ·simp at hy
   exact (EJ (e:={ tick0 w.b with subs:=w.b.subs }) sides y hy).cl
  exact (sT (e:={ tick0 w.b with subs:=w.b.subs }) sides y hy).cl
 split
 ·rename_i k1 k2 k3 k
  have hw:aL w 2 (manage w.b).1=inB w (manage w.b).1:=rfl
  rw [hw,manage,if_neg (by have:=C.sib;omega)]
  exact CStep.endB E (SameE.refl _) rfl rfl om
 split
 ·rename_i k1 k2 k3 k4 k
  obtain⟨a1,a2⟩:=A.ad k
  have hw:aL w 2 (aR w.b a.addr).1=inB w (aR w.b a.addr).1:=rfl
  rw [hw]
  unfold aR;split
  ·obtain⟨p1,p2,p3⟩:=E.ownB.put (a:={ a.addr with told:=false }) (.inr ⟨a1,by show a.addr.addr=20+2;omega⟩)
   refine⟨⟨E.cs,E.nums,E.pol,E.ownA,E.farA,p1,E.farB,E.done,E.over,E.room,fun q hq g1 g2=>?_,E.want,E.baseA,E.baseB,E.hth⟩,EvoA.refl _,iM _,RS _,RS _,ol⟩
   rcases h_ hq with rfl|hq
   ·cases g2
   exact E.told q hq g1 g2
  exact CStep.endB E (SameE.refl _) rfl rfl om
 omega
structure CW (p:PolicyD) (w:WorldD):Prop where
 e:CE p w
 l:∀ x∈w.bag,CL w x
theorem L6 {p:PolicyD} {side:Int} {w:WorldD} {y:LetterD} (W:CW p w) (Y:CL w y):CW p (aU side w y)/\(aU side w y).a=w.a/\(aU side w y).b=w.b:=by
 rw [aU,if_neg Y.to]
 refine⟨⟨W.e.same rfl rfl rfl,fun x hx=>?_⟩,rfl,rfl⟩
 have hx:x∈pm w.bag y:=hx
 rw [pm] at hx;split at hx
 ·rcases RW.1 hx with hx|hx
  ·exact (W.l x hx).same rfl rfl
  rw [RR.1 hx];exact Y.same rfl rfl
 exact (W.l x hx).same rfl rfl
theorem EL {p:PolicyD} {side:Int}:∀ {l:List LetterD} {w:WorldD},CW p w->(∀ y∈l,CL w y)->CW p (al side w l)
 |[],w,W,_=>W
 |y::l,w,W,h=>by
  obtain⟨h1,h2,h3⟩:=L6 (side:=side) W (h y (R3 ..))
  exact EL (l:=l) h1 fun z hz=>(h z (RZ _ hz)).same h2 h3
theorem CStep.cw {p:PolicyD} {w w':WorldD} {l:List LetterD} {side:Int} (W:CW p w) (S:CStep p w w' l) (L:Le w w') (hb:w'.bag=w.bag):CW p (al side w' l):=
 EL ⟨S.e,fun x hx=>(W.l x (hb▸hx)).mono W.e.cs.pw L S.ea S.fa S.na S.nb⟩ S.ls
theorem L7 {p:PolicyD} {w:WorldD} {x:LetterD} (hp:p∈pols) (I:Inv w) (ga:SmallP w.a.inp) (gb:SmallP w.b.inp) (W:CW p w) (L:LetI w x) (X:CL w x):CW p (cU w x):=by
 rcases e6 x.to with h0|h0|h0
 ·exact absurd h0 X.to
 ·rw [cU,if_neg zO,gL,if_pos (.inl h0),h0]
  exact (LZ hp I.c ga L W.e X h0).cw W (LQ I.c ga L h0).le rfl
 rw [cU,if_neg zO,gL,if_pos (.inr h0),h0]
 exact (OC hp I.c gb L W.e X h0).cw W (LS I.c gb L h0).le rfl
theorem CW.out {p:PolicyD} {w:WorldD} (W:CW p w) {l:List LetterD} (h:∀ x∈l,x∈w.bag):CW p { w with bag:=l }:=⟨W.e.same rfl rfl rfl,fun x hx=>(W.l x (h x hx)).same rfl rfl⟩
theorem yv {p:PolicyD} {w:WorldD} {a:ActD} (hp:p∈pols) (I:Inv w) (ga:SmallP w.a.inp) (gb:SmallP w.b.inp) (W:CW p w) (A:CalmA a):CW p (aJ w a).1:=by
 unfold aJ;split
 case isFalse=>exact W
 rename_i hok
 have hs:=mN hok
 split
 ·rename_i h7
  unfold dR;split
  ·exact W
  rename_i hb
  have hb:cx w a=false:=by simpa using hb
  obtain⟨k1,k2⟩:=A4 w a a.side (dl (bS w a.side) a).1
  rcases hs with hs|hs
  ·have hE:bS w a.side=w.a:=by rw [hs];rfl
   rw [hE] at k1 k2⊢
   rw [hs] at k1 k2⊢
   exact (JP hp I.c ga W.e A hs h7).cw W (Pc I.c ga hs hb).le k1
  have hE:bS w a.side=w.b:=by rw [hs];rfl
  rw [hE] at k1 k2⊢
  rw [hs] at k1 k2⊢
  exact (JQ hp I.c gb W.e A hs h7).cw W (QP I.c gb hs hb).le k1
 rename_i h7
 have kk:=A.k
 have hp0:=tY hok
 unfold cc
 split
 ·split
  ·exact W
  rename_i hl
  split
  ·have hx:pN w.bag a.pos.toNat∈w.bag:=lV zO
   refine L7 hp (CB I fun x hx=>I.bag x (mR hx)) ga gb (W.out fun x hx=>mR hx) ?_ ((W.l _ hx).same rfl rfl)
   exact (I.bag _ hx).mono (sL rfl rfl (fun _ h=>h) rfl rfl)
  exact W.out fun x hx=>mR hx
 split
 ·split
  ·exact W
  rename_i hl
  rw [not_or] at hl
  refine W.out fun x hx=>?_
  rcases RW.1 hx with hx|hx
  ·exact hx
  rw [RR.1 hx];exact lV zO
 omega
theorem Start.cw {w:WorldD} (S:Start w) (T:Start2 w):CW w.a.policy w:=by
 have h:=S.e
 simp only [startE,RP,decide_eq_true_eq] at h
 obtain⟨⟨⟨⟨⟨⟨okx,oky⟩,h1,h2,h3,h4,h5,h6,h7,h8,h9,h10,h11,h12⟩,g1,g2,g3,g4,g5,g6,g7,g8⟩,o1,o2⟩,i1,i2,i3,i4,i5,i6⟩,s1,s2⟩:=h
 have n1:nextOf w.a.inp=0:=by unfold nextOf;rw [i1,i2];rfl
 have n2:nextOf w.b.inp=0:=by unfold nextOf;rw [i4,i5];rfl
 have a0:w.a.subs=[subA0]:=s1
 have b0:w.b.subs=[subB0]:=s2
 refine⟨⟨⟨⟨[],a0⟩,⟨[],b0⟩,by rw [a0];exact R_ ..,fun s _ _ k hk=>by rw [g2] at hk;simp at hk,fun s hs _ t ht _=>?_,fun s hs t ht _=>?_,fun s hs e=>?_⟩,S.nums,rfl,⟨false,true,[],g3,zP⟩,⟨false,true,[],g5,zP⟩,⟨false,true,[],g4,zP⟩,⟨false,true,[],g6,zP⟩,T.done,T.over,⟨by rw [o1],by rw [o2]⟩,fun q hq e=>?_,fun s hs=>?_,by rw [o1,n2];exact RS _,by rw [o2,n1];exact RS _,fun q hq=>(by rw [g2] at hq;simp at hq)⟩,fun x hx=>by rw [S.bag] at hx;simp at hx⟩
 ·rw [b0] at ht;rw [RR.1 ht];rfl
 ·rw [a0] at hs;rw [b0] at ht;rw [RR.1 hs,RR.1 ht];exact⟨rfl,rfl⟩
 ·rw [a0] at hs;rw [RR.1 hs] at e;simp [subA0] at e
 ·rw [g4] at hq;rw [gj,RR] at hq;rw [hq] at e;simp at e
 rw [a0] at hs;rw [RR.1 hs];exact (lu T.pol _ _).first
structure CntE (e e':EndD):Prop where
 now:e'.now<=e.now+1
 draw:e'.draw<=e.draw+40
 tr:∀ s∈e'.subs,s.tries<=0\/∃ q∈e.subs,s.tries<=q.tries+1
theorem CntE.same {e e':EndD} (h1:e'.now<=e.now+1) (h2:e'.draw<=e.draw+40) (h3:e'.subs=e.subs):CntE e e':=⟨h1,h2,fun s hs=>.inr ⟨s,h3▸hs,zO⟩⟩
theorem CntE.refl (e:EndD):CntE e e:=CntE.same zO zO rfl
theorem GL {l:List SubD} {n:Nat} {q:SubD} (hn:n < l.length) (hq:q.tries<=0\/q.tries<=l[n].tries+1):∀ s∈l.set n q,s.tries<=0\/∃ r∈l,s.tries<=r.tries+1:=by
 intro s hs
 rcases RX hs with hs|rfl
 ·exact .inr ⟨s,hs,zO⟩
 rcases hq with h|h
 ·exact .inl h
 exact .inr ⟨_,RQ hn,h⟩
theorem EM {e:EndD} {x:LetterD} (kk:4<=x.kind/\x.kind<=12/\¬ x.kind=10):CntE e (aG e x).1:=by
 have F:=eD e x
 generalize aG e x=r at F⊢
 cases F with
 |stay=>exact CntE.refl e
 |other r k=>omega
 |join1 k ok n hn hr h1 h2=>exact CntE.same (by dsimp only;omega) (by dsimp only;omega) rfl
 |join2 k ok no=>exact CntE.same (by dsimp only;omega) (by dsimp only;omega) rfl
 |back k n hn h1 hr ht=>exact⟨by dsimp only;omega,by dsimp only;omega,GL hn (.inl (RS _))⟩
 |done1 k i hi hr h8 ht m hm=>
  refine⟨by dsimp only;omega,by dsimp only;omega,fun s hs=>?_⟩
  rcases RW.1 hs with hs|hs
  ·rcases hm with rfl|⟨n,hn,_,_,rfl⟩
   ·exact .inr ⟨s,hs,zO⟩
   exact GL hn (.inr (by dsimp only;omega)) s hs
  rw [RR.1 hs];exact .inl (RS _)
 |done2=>exact CntE.refl e
 |ack k n hn h2 hr ht=>exact⟨by dsimp only;omega,by dsimp only;omega,GL hn (.inr (by dsimp only;omega))⟩
 |addr=>exact CntE.same (by dsimp only;omega) (by dsimp only;omega) rfl
 |echo=>exact CntE.same (by dsimp only;omega) (by dsimp only;omega) rfl
 |data=>exact CntE.same (by dsimp only;omega) (by dsimp only;omega) rfl
 |came=>exact CntE.same (by dsimp only;omega) (by dsimp only;omega) rfl
theorem Ij {e:EndD}:(cB e).1.now=e.now/\(cB e).1.draw=e.draw:=by unfold cB;split<;>exact⟨rfl,rfl⟩
theorem lW:∀ {k:Nat} {e:EndD},(pushN k e).1.now=e.now/\(pushN k e).1.draw=e.draw
 |0,e=>⟨rfl,rfl⟩
 |k+1,e=>⟨(lW (k:=k)).1.trans Ij.1,(lW (k:=k)).2.trans Ij.2⟩
theorem EN {e:EndD} {t:List UInt8}:(cO e t).1.now=e.now/\(cO e t).1.draw=e.draw:=by unfold cO;split<;>exact⟨rfl,rfl⟩
theorem kB {far:List AddrD}:∀ {l:List RoadD} {e:EndD},∃ news:List SubD,(cF far e l).1={ e with subs:=e.subs++news,draw:=(cF far e l).1.draw }/\(cF far e l).2=news.map (dB e)/\(∀ s∈news,s.state=1/\s.tries=0)/\(cF far e l).1.draw<=e.draw+4*(l.length:Int)/\e.draw<=(cF far e l).1.draw
 |[],e=>⟨[],by simp [cF],rfl,fun s hs=>by simp at hs,by simp [cF],by simp [cF]⟩
 |r::l,e=>by
  by_cases hk:tR e r=true
  ·have hj:join e r (aC far r.far)=({ e with subs:=e.subs++[bL e r (aC far r.far)],draw:=e.draw+4 },[dB e (bL e r (aC far r.far))]):=if_pos hk
   obtain⟨news,h1,h2,h3,h4,h5⟩:=kB (far:=far) (l:=l) (e:=(join e r (aC far r.far)).1)
   rw [cF]
   rw [hj] at h1 h2 h4 h5⊢
   dsimp only at h1 h2 h4 h5⊢
   refine⟨bL e r (aC far r.far)::news,?_,?_,fun s hs=>?_,by rw [Sa];omega,zO⟩
   ·rw [h1,SD,S3]
   ·rw [h2,S7];rfl
   rcases R7.1 hs with rfl|hs
   ·exact⟨rfl,rfl⟩
   exact h3 s hs
  have hj:join e r (aC far r.far)=(e,[]):=if_neg hk
  obtain⟨news,h1,h2,h3,h4,h5⟩:=kB (far:=far) (l:=l) (e:=e)
  rw [cF,hj]
  refine⟨news,h1,by rw [h2];rfl,h3,?_,h5⟩
  show (cF far e l).1.draw<=_
  rw [Sa];omega
theorem L8 (s:SubD):(tickS s).tries<=s.tries+1:=by
 unfold tickS
 repeat' split
 all_goals first
  |omega
  |(dsimp only;omega)
theorem Ik {e:EndD} {a:ActD} (A:CalmA a) (h7:a.kind<=7) (hm:a.kind=4->(cQ (wanted e.policy e.own e.far) (cE e.subs)).length<=10):CntE e (dl e a).1:=by
 have kk:=A.k
 unfold dl
 split
 ·exact CntE.same (by have:=lW (k:=3) (e:=(cO e a.text).1);have:=EN (e:=e) (t:=a.text);unfold bs;omega) (by have:=lW (k:=3) (e:=(cO e a.text).1);have:=EN (e:=e) (t:=a.text);unfold bs;omega) (fS.trans kA.subs)
 split
 ·unfold az;split
  ·exact CntE.same (by dsimp only;omega) (by dsimp only;omega) rfl
  exact CntE.refl e
 split
 ·unfold tick;split
  ·split
   ·unfold bu
    have h:=lW (k:=3) (e:={ tick0 e with subs:=e.subs.map tickS })
    refine⟨by dsimp only;rw [h.1];exact RS _,by dsimp only;rw [h.2];show e.draw<=e.draw+40;omega,fun s hs=>?_⟩
    have hs:s∈(pushN 3 { tick0 e with subs:=e.subs.map tickS }).1.subs:=hs
    rw [fS] at hs
    obtain⟨q,q1,rfl⟩:=R8.1 hs
    exact .inr ⟨q,q1,L8 q⟩
   unfold bu
   have h:=lW (k:=3) (e:=tick0 e)
   exact CntE.same (by dsimp only;rw [h.1];exact RS _) (by dsimp only;rw [h.2];show e.draw<=e.draw+40;omega) fS
  exact CntE.refl e
 split
 ·rename_i k4
  have hm:=hm k4
  unfold manage;split
  ·obtain⟨news,h1,h2,h3,h4,h5⟩:=kB (far:=e.far) (l:=cQ (wanted e.policy e.own e.far) (cE e.subs)) (e:=e)
   refine⟨?_,zO,fun s hs=>?_⟩
   ·rw [h1];dsimp only;omega
   rw [h1] at hs
   rcases RW.1 hs with hs|hs
   ·exact .inr ⟨s,hs,zO⟩
   exact .inl (by have:=(h3 s hs).2;omega)
  exact CntE.refl e
 split
 ·unfold aR;split
  ·exact CntE.same (by dsimp only;omega) (by dsimp only;omega) rfl
  exact CntE.refl e
 omega
structure Cnt (w:WorldD) (k:Nat):Prop where
 na:w.a.now<=(k:Int)
 nb:w.b.now<=(k:Int)
 da:w.a.draw<=2000+40*(k:Int)
 db:w.b.draw<=2000+40*(k:Int)
 tr:∀ s∈w.a.subs,s.tries<=(k:Int)
 trb:∀ s∈w.b.subs,s.tries<=(k:Int)
theorem Cnt.up {w:WorldD} {k:Nat} (h:Cnt w k):Cnt w (k+1):=⟨by have:=h.na;omega,by have:=h.nb;omega,by have:=h.da;omega,by have:=h.db;omega,fun s hs=>by have:=h.tr s hs;omega,fun s hs=>by have:=h.trb s hs;omega⟩
theorem Cnt.stepA {w w':WorldD} {k:Nat} (h:Cnt w k) (S:CntE w.a w'.a) (hb:w'.b=w.b):Cnt w' (k+1):=by
 have h1:=S.now;have h2:=S.draw
 have g1:=h.na;have g2:=h.nb;have g3:=h.da;have g4:=h.db
 refine⟨zO,by rw [hb];omega,zO,by rw [hb];omega,fun s hs=>?_,fun s hs=>?_⟩
 ·rcases S.tr s hs with q|⟨r,r1,r2⟩
  ·omega
  have:=h.tr r r1;omega
 have:=h.trb s (hb▸hs);omega
theorem Cnt.stepB {w w':WorldD} {k:Nat} (h:Cnt w k) (S:CntE w.b w'.b) (ha:w'.a=w.a):Cnt w' (k+1):=by
 have h1:=S.now;have h2:=S.draw
 have g1:=h.na;have g2:=h.nb;have g3:=h.da;have g4:=h.db
 refine⟨by rw [ha];omega,zO,by rw [ha];omega,zO,fun s hs=>?_,fun s hs=>?_⟩
 ·have:=h.tr s (ha▸hs);omega
 rcases S.tr s hs with q|⟨r,r1,r2⟩
 ·omega
 have:=h.trb r r1;omega
theorem Cnt.same {w w':WorldD} {k:Nat} (h:Cnt w k) (ha:w'.a=w.a) (hb:w'.b=w.b):Cnt w' k:=⟨by rw [ha];exact h.na,by rw [hb];exact h.nb,by rw [ha];exact h.da,by rw [hb];exact h.db,by rw [ha];exact h.tr,by rw [hb];exact h.trb⟩
theorem vj {p:PolicyD} {w:WorldD} (hp:p∈pols) (C:Core w) (E:CE p w) (l:List RoadD):(cQ (wanted w.a.policy w.a.own w.a.far) l).length<=4:=by
 rw [cQ];split
 ·rw [pg E.ownA C.oka.own E.farA C.oka.far,E.pol]
  exact SU (List.length_filter_le _ _) (lu hp _ _).len
 simp
theorem JR {p:PolicyD} {w:WorldD} {x:LetterD} {k:Nat} (h:Cnt w k) (X:CL w x):Cnt (cU w x) (k+1):=by
 rcases e6 x.to with h0|h0|h0
 ·exact absurd h0 X.to
 ·rw [cU,if_neg zO,gL,if_pos (.inl h0),h0]
  have e:=dm (side:=1) (l:=(aG w.a x).2) (w:=aL w 1 (aG w.a x).1)
  refine h.stepA ?_ (e.2.1.trans rfl)
  show CntE w.a (al 1 (aL w 1 (aG w.a x).1) (aG w.a x).2).a
  rw [e.1]
  exact EM X.kind
 rw [cU,if_neg zO,gL,if_pos (.inr h0),h0]
 have e:=dm (side:=2) (l:=(aG w.b x).2) (w:=aL w 2 (aG w.b x).1)
 refine h.stepB ?_ (e.1.trans rfl)
 show CntE w.b (al 2 (aL w 2 (aG w.b x).1) (aG w.b x).2).b
 rw [e.2.1]
 exact EM X.kind
theorem L9 (w:WorldD) (a:ActD) (e:EndD):(aL (dE w a) 1 e).a=e/\(aL (dE w a) 1 e).b=w.b:=⟨rfl,(t6 w a).2.1⟩
theorem L_ (w:WorldD) (a:ActD) (e:EndD):(aL (dE w a) 2 e).b=e/\(aL (dE w a) 2 e).a=w.a:=⟨rfl,(t6 w a).1⟩
theorem Ma {e:EndD} (h:¬ e.side=1):manage e=(e,[]):=by rw [manage,if_neg (fun h2=>h h2.2)]
theorem Ba {p:PolicyD} {w:WorldD} {a:ActD} {k:Nat} (hp:p∈pols) (C:Core w) (W:CW p w) (h:Cnt w k) (A:CalmA a):Cnt (aJ w a).1 (k+1):=by
 unfold aJ;split
 case isFalse=>exact h.up
 rename_i hok
 have hs:=mN hok
 split
 ·rename_i h7
  unfold dR;split
  ·exact h.up
  rcases hs with hs|hs
  ·have hE:bS w a.side=w.a:=by rw [hs];rfl
   rw [hE,hs]
   have e:=dm (side:=1) (l:=(dl w.a a).2) (w:=aL (dE w a) 1 (dl w.a a).1)
   have q:=L9 w a (dl w.a a).1
   refine h.stepA ?_ (e.2.1.trans q.2)
   show CntE w.a (al 1 (aL (dE w a) 1 (dl w.a a).1) (dl w.a a).2).a
   rw [e.1,q.1]
   exact Ik A h7 fun _=>by have:=vj hp C W.e (cE w.a.subs);omega
  have hE:bS w a.side=w.b:=by rw [hs];rfl
  rw [hE,hs]
  have e:=dm (side:=2) (l:=(dl w.b a).2) (w:=aL (dE w a) 2 (dl w.b a).1)
  have q:=L_ w a (dl w.b a).1
  refine h.stepB ?_ (e.1.trans q.2)
  show CntE w.b (al 2 (aL (dE w a) 2 (dl w.b a).1) (dl w.b a).2).b
  rw [e.2.1,q.1]
  by_cases k4:a.kind=4
  ·have hm:dl w.b a=manage w.b:=by simp [dl,k4]
   rw [hm,Ma (by have:=C.sib;omega)]
   exact CntE.refl _
  exact Ik A h7 fun k=>absurd k k4
 rename_i h7
 have kk:=A.k
 unfold cc
 split
 ·split
  ·exact h.up
  rename_i hl
  split
  ·have hx:pN w.bag a.pos.toNat∈w.bag:=lV (by have:=tY hok;omega)
   exact JR (p:=p) (h.same rfl rfl) ((W.l _ hx).same rfl rfl)
  exact h.up.same rfl rfl
 split
 ·split
  ·exact h.up
  exact h.up.same rfl rfl
 omega
structure LV (p:PolicyD) (w:WorldD) (k:Nat):Prop where
 life:∃ j,Life w j
 cw:CW p w
 cnt:Cnt w k
theorem LV.i {p:PolicyD} {w:WorldD} {k:Nat} (h:LV p w k):Inv w:=by obtain⟨j,h⟩:=h.life;exact h.i
theorem LV.c {p:PolicyD} {w:WorldD} {k:Nat} (h:LV p w k):Core w:=h.i.c
theorem LV.ga {p:PolicyD} {w:WorldD} {k:Nat} (h:LV p w k):SmallP w.a.inp:=by obtain⟨j,h⟩:=h.life;exact h.g.a.p
theorem LV.gb {p:PolicyD} {w:WorldD} {k:Nat} (h:LV p w k):SmallP w.b.inp:=by obtain⟨j,h⟩:=h.life;exact h.g.b.p
theorem LV.y {p:PolicyD} {w:WorldD} {k:Nat} (h:LV p w k):YoungE w.a/\YoungE w.b:=by obtain⟨j,h⟩:=h.life;exact⟨h.n.a.y,h.n.b.y⟩
theorem LV.done {p:PolicyD} {w:WorldD} {a:ActD} {k:Nat} (hp:p∈pols) (h:LV p w k) (A:CalmA a) (ht:a.text.length<=1048576):LV p (aJ w a).1 (k+1):=by
 obtain⟨j,hj⟩:=h.life
 exact⟨⟨j+1,hj.step ht⟩,yv hp h.i h.ga h.gb h.cw A,Ba hp h.c h.cw h.cnt A⟩
theorem j7 {side:Int}:∀ {l:List LetterD} {w:WorldD},(∀ y∈l,¬ sideAt y.to=0)->w.bag.length+l.length<=40->(al side w l).bag=w.bag++l
 |[],w,_,_=>by rw [R4];rfl
 |y::l,w,h,hl=>by
  have hy:=h y (R3 ..)
  have e:aU side w y={ jN side w y with bag:=w.bag++[y] }:=by
   rw [aU,if_neg hy,xg (by rw [Sa] at hl;omega)]
  have:=j7 (side:=side) (l:=l) (w:=aU side w y) (fun z hz=>h z (RZ _ hz)) (by rw [e];dsimp only;rw [R2,Sg];rw [Sa] at hl;omega)
  show (al side (aU side w y) l).bag=w.bag++(y::l)
  rw [this,e]
  dsimp only
  rw [SD,S3]
def dlv (w:WorldD):WorldD:=(aJ w (ar 8 1 0)).1
theorem QS:CalmA (ar 8 1 0):=⟨by decide,by decide⟩
theorem LV.dlv {p:PolicyD} {w:WorldD} {k:Nat} (hp:p∈pols) (h:LV p w k):LV p (dlv w) (k+1):=h.done hp QS (by simp [ar])
theorem Mb {w:WorldD} {x:LetterD} {l:List LetterD} (hb:w.bag=x::l):dlv w=cU { w with bag:=l } x:=by
 have e:dlv w=(cc w (ar 8 1 0)).1:=by unfold dlv aJ;rw [if_pos zD,if_neg zD]
 rw [e]
 unfold cc
 rw [if_pos (.inl rfl),if_neg (by rw [hb];simp [ar]),if_pos (show (ar 8 1 0).kind=8 from rfl),hb]
 rfl
theorem CW.x {p:PolicyD} {w:WorldD} {x:LetterD} {l:List LetterD} (W:CW p w) (hb:w.bag=x::l):CL w x:=W.l x (by rw [hb];exact R3 ..)
theorem EO {p:PolicyD} {w:WorldD} {k:Nat} {x:LetterD} {l:List LetterD} (hp:p∈pols) (h:LV p w k) (hb:w.bag=x::l) (hl:w.bag.length<=40) (hx:sideAt x.to=1):
  (dlv w).a=(aG w.a x).1/\(dlv w).b=w.b/\(dlv w).bag=l++(aG w.a x).2/\(dlv w).wroteA=w.wroteA/\(dlv w).wroteB=w.wroteB/\(dlv w).readA=w.readA/\(dlv w).readB=w.readB:=by
 rw [Mb hb,cU,if_neg zO,gL,if_pos (.inl hx),hx]
 have e:=dm (side:=1) (l:=(aG w.a x).2) (w:=aL { w with bag:=l } 1 (aG w.a x).1)
 refine⟨e.1,e.2.1,?_,e.2.2.1,e.2.2.2.1,e.2.2.2.2.1,e.2.2.2.2.2⟩
 have S:=LZ hp h.c h.ga (h.i.bag x (by rw [hb];exact R3 ..)) h.cw.e (h.cw.x hb) hx
 exact j7 (fun y hy=>(S.ls y hy).to) (by
  have:=jz (e:=w.a) (x:=x)
  rw [hb,Sa] at hl
  show l.length+(aG w.a x).2.length<=40
  omega)
theorem EP {p:PolicyD} {w:WorldD} {k:Nat} {x:LetterD} {l:List LetterD} (hp:p∈pols) (h:LV p w k) (hb:w.bag=x::l) (hl:w.bag.length<=40) (hx:sideAt x.to=2):
  (dlv w).b=(aG w.b x).1/\(dlv w).a=w.a/\(dlv w).bag=l++(aG w.b x).2/\(dlv w).wroteA=w.wroteA/\(dlv w).wroteB=w.wroteB/\(dlv w).readA=w.readA/\(dlv w).readB=w.readB:=by
 rw [Mb hb,cU,if_neg zO,gL,if_pos (.inr hx),hx]
 have e:=dm (side:=2) (l:=(aG w.b x).2) (w:=aL { w with bag:=l } 2 (aG w.b x).1)
 refine⟨e.2.1,e.1,?_,e.2.2.1,e.2.2.2.1,e.2.2.2.2.1,e.2.2.2.2.2⟩
 have S:=OC hp h.c h.gb (h.i.bag x (by rw [hb];exact R3 ..)) h.cw.e (h.cw.x hb) hx
 exact j7 (fun y hy=>(S.ls y hy).to) (by
  have:=jz (e:=w.b) (x:=x)
  rw [hb,Sa] at hl
  show l.length+(aG w.b x).2.length<=40
  omega)
def jr (x:LetterD):Option RoadD:=if x.kind=5\/x.kind=7 then some (roadOf x) else if x.kind=4\/x.kind=6 then some (bk (roadOf x)) else none
def askL (s:SubD):LetterD:=ah s.road { af with kind:=4,token:=102,nonce:=s.mine,give:=s.take,spare:=s.spare }
def bckL (ka kb:Int) (h:HalfD):LetterD:=ah h.road { af with kind:=5,tag:=⟨1,kb,ka,h.mine,h.theirs⟩,nonce:=h.mine,give:=h.take }
def kC (ka kb:Int) (s:SubD):LetterD:=ah s.road { af with kind:=6,tag:=⟨2,ka,kb,s.mine,s.theirs⟩}
theorem CG (s:SubD):jr (askL s)=some s.road:=by
 rw [jr,if_neg (by rintro (h|h)<;>cases h),if_pos (.inl rfl),askL,bz,fF]
theorem yw (ka kb:Int) (h:HalfD):jr (bckL ka kb h)=some (bk h.road):=by
 rw [jr,if_pos (.inl rfl),bckL,bz]
theorem CH (ka kb:Int) (s:SubD):jr (kC ka kb s)=some s.road:=by
 rw [jr,if_neg (by rintro (h|h)<;>cases h),if_pos (.inr rfl),kC,bz,fF]
theorem Mc (r:RoadD) (g:Int):jr (fH r g)=some (bk r):=by
 rw [jr,if_pos (.inr rfl),fH,bz]
theorem Il {x:LetterD} (h:x.kind=8\/x.kind=9\/x.kind=11\/x.kind=12):jr x=none:=by
 rw [jr,if_neg zO,if_neg zO]
theorem yx {x:LetterD} {l:List LetterD} (h:((x::l).filterMap jr).Nodup):(l.filterMap jr).Nodup:=
 h.sublist ((List.sublist_cons_self x l).filterMap jr)
theorem ue {x:LetterD} {l:List LetterD} (h:((x::l).filterMap jr).Nodup) {r:RoadD} (hx:jr x=some r) {y:LetterD} (hy:y∈l):¬ jr y=some r:=fun hc=>by
 rw [Sz hx,SK] at h
 exact h.1 (List.mem_filterMap.2 ⟨y,hy,hc⟩)
theorem Im {l m:List LetterD} (h:(l.filterMap jr).Nodup) (hm:∀ y∈m,jr y=none):((l++m).filterMap jr).Nodup:=by
 rw [S4,List.filterMap_eq_nil_iff.2 hm,R4]
 exact h
theorem GM {x y:LetterD} {l:List LetterD} {r:RoadD} (h:((x::l).filterMap jr).Nodup) (hx:jr x=some r) (hy:jr y=some r):((l++[y]).filterMap jr).Nodup:=by
 rw [Sz hx,SK] at h
 rw [S4,Sz hy,List.filterMap_nil,List.nodup_append]
 refine⟨h.2,R_ ..,fun a ha b hb=>?_⟩
 rw [RR.1 hb]
 intro e
 exact h.1 (e▸ha)
def Mt (h:HalfD) (s:SubD):Prop:=h.road=bk s.road/\h.theirs=s.mine/\h.give=s.take
def T2 (ka kb:Int) (H:List HalfD) (bag:List LetterD) (s:SubD):Prop:=kC ka kb s∈bag/\∃ h∈H,Mt h s/\h.mine=s.theirs
def T3 (bag:List LetterD) (s:SubD):Prop:=fH (bk s.road) s.take∈bag
def Went (ka kb:Int) (H:List HalfD) (bag:List LetterD) (s t:SubD):Prop:=(s.state=1\/s.state=2)/\t.road=s.road/\(t.state=3\/t.state=2/\(T2 ka kb H bag t\/T3 bag t))
structure Dr (ka kb:Int) (S T:List SubD) (H:List HalfD) (bag:List LetterD):Prop where
 len:T.length=S.length
 nd:(bag.filterMap jr).Nodup
 ask:∀ x∈bag,x.kind=4->∃ s∈T,s.state=1/\x=askL s
 bck:∀ x∈bag,x.kind=5->∃ s∈T,s.state=1/\∃ h∈H,Mt h s/\x=bckL ka kb h
 st:∀ (n:Nat) (hn:n < T.length) (hs:n < S.length),T[n]=S[n]\/Went ka kb H bag S[n] T[n]
theorem T2.kind {ka kb:Int} {s:SubD}:(kC ka kb s).kind=6:=rfl
theorem T3.kind {r:RoadD} {g:Int}:(fH r g).kind=7:=rfl
theorem gk {x y:LetterD} {l:List LetterD} (h:y∈x::l) (hk:¬ x.kind=y.kind):y∈l:=by
 rcases R7.1 h with rfl|h
 ·exact absurd rfl hk
 exact h
theorem Dr.mild {ka kb:Int} {S T:List SubD} {H:List HalfD} {x:LetterD} {l m:List LetterD} (D:Dr ka kb S T H (x::l)) (k:x.kind=8\/x.kind=9\/x.kind=11\/x.kind=12) (hm:∀ y∈m,y.kind=9\/y.kind=12):Dr ka kb S T H (l++m):=by
 have dn:∀ y∈l++m,y.kind=4\/y.kind=5->y∈x::l:=fun y hy k=>by
  rcases RW.1 hy with hy|hy
  ·exact RZ _ hy
  have:=hm y hy;omega
 refine⟨D.len,Im (yx D.nd) fun y hy=>Il (by have:=hm y hy;omega),fun y hy k=>D.ask y (dn y hy (.inl k)) k,fun y hy k=>D.bck y (dn y hy (.inr k)) k,fun n hn hs=>?_⟩
 rcases D.st n hn hs with h|⟨h1,h2,h3⟩
 ·exact .inl h
 refine .inr ⟨h1,h2,?_⟩
 rcases h3 with h|⟨h4,h5⟩
 ·exact .inl h
 refine .inr ⟨h4,?_⟩
 rcases h5 with⟨a,b⟩|a
 ·exact .inl ⟨RY _ (gk a (by rw [T2.kind];omega)),b⟩
 exact .inr (RY _ (gk a (by rw [T3.kind];omega)))
theorem Dr.ask0 {ka kb:Int} {S T:List SubD} {H:List HalfD} {x:LetterD} {l:List LetterD} (D:Dr ka kb S T H (x::l)) (k:x.kind=4):Dr ka kb S T H l:=by
 refine⟨D.len,yx D.nd,fun y hy=>D.ask y (RZ _ hy),fun y hy=>D.bck y (RZ _ hy),fun n hn hs=>?_⟩
 rcases D.st n hn hs with h|⟨h1,h2,h3⟩
 ·exact .inl h
 refine .inr ⟨h1,h2,?_⟩
 rcases h3 with h|⟨h4,h5⟩
 ·exact .inl h
 refine .inr ⟨h4,?_⟩
 rcases h5 with⟨a,b⟩|a
 ·exact .inl ⟨gk a (by rw [T2.kind];omega),b⟩
 exact .inr (gk a (by rw [T3.kind];omega))
def Bb (r:RoadD) (H H':List HalfD):Prop:=∀ h∈H,¬ h.road=r->∃ h'∈H',h'.road=h.road/\h'.theirs=h.theirs/\h'.give=h.give/\h'.mine=h.mine/\h'.take=h.take
theorem Io {ka kb:Int} {h h':HalfD} (e:h'.road=h.road/\h'.theirs=h.theirs/\h'.give=h.give/\h'.mine=h.mine/\h'.take=h.take):bckL ka kb h'=bckL ka kb h:=by
 unfold bckL;rw [e.1,e.2.1,e.2.2.2.1,e.2.2.2.2]
theorem Mt.eq {h h':HalfD} {s:SubD} (M:Mt h s) (e:h'.road=h.road/\h'.theirs=h.theirs/\h'.give=h.give/\h'.mine=h.mine/\h'.take=h.take):Mt h' s:=⟨e.1.trans M.1,e.2.1.trans M.2.1,e.2.2.1.trans M.2.2⟩
theorem GN {r q:RoadD} (h:bk r=bk q):r=q:=by rw [<-fF r,h,fF]
theorem Dr.ask1 {ka kb:Int} {S T:List SubD} {H H':List HalfD} {s:SubD} {h0:HalfD} {l:List LetterD} (D:Dr ka kb S T H (askL s::l)) (hs:s∈T) (h1:s.state=1) (hst:Bb (bk s.road) H H') (hh:h0∈H') (hm:Mt h0 s):Dr ka kb S T H' (l++[bckL ka kb h0]):=by
 have jx:=CG s
 have jy:jr (bckL ka kb h0)=some s.road:=by rw [yw,hm.1,fF]
 have tl:∀ {y:LetterD},y∈askL s::l->¬ y.kind=4->y∈l:=fun hy k=>gk hy (by show ¬ (4:Int)=_;omega)
 refine⟨D.len,GM D.nd jx jy,fun y hy k=>?_,fun y hy k=>?_,fun n hn hs'=>?_⟩
 ·rcases RW.1 hy with hy|hy
  ·exact D.ask y (RZ _ hy) k
  rw [RR.1 hy] at k;cases k
 ·rcases RW.1 hy with hy|hy
  ·obtain⟨q,q1,q2,h,g1,g2,g3⟩:=D.bck y (RZ _ hy) k
   have ne:¬ h.road=bk s.road:=fun hc=>ue D.nd jx hy (by rw [g3,yw,hc,fF])
   obtain⟨h',e1,e2⟩:=hst h g1 ne
   exact⟨q,q1,q2,h',e1,g2.eq e2,by rw [g3,Io e2]⟩
  exact⟨s,hs,h1,h0,hh,hm,RR.1 hy⟩
 rcases D.st n hn hs' with h|⟨a1,a2,a3⟩
 ·exact .inl h
 refine .inr ⟨a1,a2,?_⟩
 rcases a3 with h|⟨h4,h5⟩
 ·exact .inl h
 refine .inr ⟨h4,?_⟩
 rcases h5 with⟨a,h,g1,g2,g3⟩|a
 ·have hl:=tl a (by rw [T2.kind];omega)
  have ne:¬ h.road=bk s.road:=fun hc=>ue D.nd jx hl (by rw [CH];rw [g2.1] at hc;rw [GN hc])
  obtain⟨h',e1,e2⟩:=hst h g1 ne
  exact .inl ⟨RY _ hl,h',e1,g2.eq e2,e2.2.2.2.1.trans g3⟩
 exact .inr (RY _ (tl a (by rw [T3.kind];omega)))
theorem oq {T:List SubD} (ok:SuOk T) {s t:SubD} (hs:s∈T) (ht:t∈T) (h1:¬ s.state=4) (h2:¬ t.state=4) (e:s.road=t.road):s=t:=by
 obtain⟨i,hi,rfl⟩:=RV hs
 obtain⟨j,hj,rfl⟩:=RV ht
 have p:=ok.pw
 rw [RU] at p
 rcases Sk i j with g|g|g
 ·rcases p i j hi hj g with h|h|h
  ·exact absurd h h1
  ·exact absurd h h2
  exact absurd e h
 ·subst g;rfl
 rcases p j i hj hi g with h|h|h
 ·exact absurd h h2
 ·exact absurd h h1
 exact absurd e.symm h
theorem Dr.bck1 {ka kb:Int} {S T:List SubD} {H:List HalfD} {h0:HalfD} {l:List LetterD} (ok:SuOk T) (D:Dr ka kb S T H (bckL ka kb h0::l)) {n:Nat} (hn:n < T.length) (h1:T[n].state=1) (hh:h0∈H) (hm:Mt h0 T[n]) {t:SubD} (ht:t={ T[n] with state:=2,theirs:=h0.mine,give:=h0.take,tries:=0 }):Dr ka kb S (T.set n t) H (l++[kC ka kb t]):=by
 have jx:jr (bckL ka kb h0)=some T[n].road:=by rw [yw,hm.1,fF]
 have tr:t.road=T[n].road:=by rw [ht]
 have ts:t.state=2:=by rw [ht]
 have jy:jr (kC ka kb t)=some T[n].road:=by rw [CH,tr]
 have tl:∀ {y:LetterD},y∈bckL ka kb h0::l->¬ y.kind=5->y∈l:=fun hy k=>gk hy (by show ¬ (5:Int)=_;omega)
 have old:∀ s∈T,s.state=1->¬ s.road=T[n].road->s∈T.set n t:=fun s hs h1 hne=>by
  obtain⟨i,hi,rfl⟩:=RV hs
  refine Sb.2 ⟨i,by rw [R1];exact hi,?_⟩
  rw [R0,if_neg (fun hc=>by subst hc;exact hne rfl)]
 refine⟨by rw [R1];exact D.len,GM D.nd jx jy,fun y hy k=>?_,fun y hy k=>?_,fun i hi hs'=>?_⟩
 ·rcases RW.1 hy with hy|hy
  ·obtain⟨s,s1,s2,s3⟩:=D.ask y (RZ _ hy) k
   exact⟨s,old s s1 s2 fun hc=>ue D.nd jx hy (by rw [s3,CG,hc]),s2,s3⟩
  rw [RR.1 hy] at k;cases k
 ·rcases RW.1 hy with hy|hy
  ·obtain⟨s,s1,s2,h,g1,g2,g3⟩:=D.bck y (RZ _ hy) k
   exact⟨s,old s s1 s2 fun hc=>ue D.nd jx hy (by rw [g3,yw,g2.1,fF,hc]),s2,h,g1,g2,g3⟩
  rw [RR.1 hy] at k;cases k
 rw [R0]
 have hi':i < T.length:=by rw [R1] at hi;exact hi
 split
 ·rename_i e
  subst e
  have hS:S[n].state=1/\T[n].road=S[n].road:=by
   rcases D.st n hn hs' with h|⟨a1,a2,a3⟩
   ·rw [<-h];exact⟨h1,rfl⟩
   rcases a3 with h|⟨h,_⟩<;>omega
  refine .inr ⟨.inl hS.1,tr.trans hS.2,.inr ⟨ts,.inl ⟨zP,h0,hh,⟨by rw [tr];exact hm.1,?_,?_⟩,?_⟩⟩⟩
  ·rw [ht];exact hm.2.1
  ·rw [ht];exact hm.2.2
  rw [ht]
 rcases D.st i hi' hs' with h|⟨a1,a2,a3⟩
 ·exact .inl h
 refine .inr ⟨a1,a2,?_⟩
 rcases a3 with h|⟨h4,h5⟩
 ·exact .inl h
 refine .inr ⟨h4,?_⟩
 rcases h5 with⟨a,b⟩|a
 ·exact .inl ⟨RY _ (tl a (by rw [T2.kind];omega)),b⟩
 exact .inr (RY _ (tl a (by rw [T3.kind];omega)))
theorem Dr.done1 {ka kb:Int} {S T:List SubD} {H H':List HalfD} {x:LetterD} {l m:List LetterD} (D:Dr ka kb S T H (x::l)) (k:x.kind=6) (hst:Bb (roadOf x) H H') (hm:m=[]\/∃ g,m=[fH (roadOf x) g])
  (ht:∀ s∈T,s.state=2->x=kC ka kb s->(∃ h∈H,Mt h s/\h.mine=s.theirs)->m=[fH (bk s.road) s.take]):Dr ka kb S T H' (l++m):=by
 have jx:jr x=some (bk (roadOf x)):=by rw [jr,if_neg zO,if_pos (.inr k)]
 have mk:∀ y∈m,y.kind=7/\jr y=some (bk (roadOf x)):=fun y hy=>by
  rcases hm with rfl|⟨g,rfl⟩
  ·simp at hy
  rw [RR.1 hy];exact⟨rfl,Mc _ _⟩
 have nd:((l++m).filterMap jr).Nodup:=by
  rcases hm with rfl|⟨g,rfl⟩
  ·rw [R4];exact yx D.nd
  exact GM D.nd jx (Mc _ _)
 refine⟨D.len,nd,fun y hy k4=>?_,fun y hy k5=>?_,fun n hn hs'=>?_⟩
 ·rcases RW.1 hy with hy|hy
  ·exact D.ask y (RZ _ hy) k4
  have:=(mk y hy).1;omega
 ·rcases RW.1 hy with hy|hy
  ·obtain⟨q,q1,q2,h,g1,g2,g3⟩:=D.bck y (RZ _ hy) k5
   have ne:¬ h.road=roadOf x:=fun hc=>ue D.nd jx hy (by rw [g3,yw,hc])
   obtain⟨h',e1,e2⟩:=hst h g1 ne
   exact⟨q,q1,q2,h',e1,g2.eq e2,by rw [g3,Io e2]⟩
  have:=(mk y hy).1;omega
 rcases D.st n hn hs' with h|⟨a1,a2,a3⟩
 ·exact .inl h
 refine .inr ⟨a1,a2,?_⟩
 rcases a3 with h|⟨h4,h5⟩
 ·exact .inl h
 refine .inr ⟨h4,?_⟩
 rcases h5 with⟨a,h,g1,g2,g3⟩|a
 ·rcases R7.1 a with e|hl
  ·have:=ht _ (RQ hn) h4 e.symm ⟨h,g1,g2,g3⟩
   exact .inr (by show _∈l++m;rw [this];simp)
  have ne:¬ h.road=roadOf x:=fun hc=>ue D.nd jx hl (by rw [CH,<-hc,g2.1,fF])
  obtain⟨h',e1,e2⟩:=hst h g1 ne
  exact .inl ⟨RY _ hl,h',e1,g2.eq e2,e2.2.2.2.1.trans g3⟩
 exact .inr (RY _ (gk a (by rw [T3.kind];omega)))
theorem Dr.ack0 {ka kb:Int} {S T:List SubD} {H:List HalfD} {x:LetterD} {l:List LetterD} (D:Dr ka kb S T H (x::l)) (k:x.kind=7) (hx:∀ s∈T,s.state=2->¬ x=fH (bk s.road) s.take):Dr ka kb S T H l:=by
 refine⟨D.len,yx D.nd,fun y hy=>D.ask y (RZ _ hy),fun y hy=>D.bck y (RZ _ hy),fun n hn hs=>?_⟩
 rcases D.st n hn hs with h|⟨h1,h2,h3⟩
 ·exact .inl h
 refine .inr ⟨h1,h2,?_⟩
 rcases h3 with h|⟨h4,h5⟩
 ·exact .inl h
 refine .inr ⟨h4,?_⟩
 rcases h5 with⟨a,b⟩|a
 ·exact .inl ⟨gk a (by rw [T2.kind];omega),b⟩
 rcases R7.1 a with e|hl
 ·exact absurd e.symm (hx _ (RQ hn) h4)
 exact .inr hl
theorem Dr.ack1 {ka kb:Int} {S T:List SubD} {H:List HalfD} {x:LetterD} {l:List LetterD} (ok:SuOk T) (D:Dr ka kb S T H (x::l)) (k:x.kind=7) {n:Nat} (hn:n < T.length) (h2:T[n].state=2) (hr:T[n].road=roadOf x):Dr ka kb S (T.set n { T[n] with state:=3 }) H l:=by
 have jx:jr x=some (roadOf x):=by rw [jr,if_pos (.inr k)]
 have old:∀ s∈T,s.state=1->s∈T.set n { T[n] with state:=3 }:=fun s hs h1=>by
  obtain⟨i,hi,rfl⟩:=RV hs
  refine Sb.2 ⟨i,by rw [R1];exact hi,?_⟩
  rw [R0,if_neg (fun hc=>by subst hc;omega)]
 refine⟨by rw [R1];exact D.len,yx D.nd,fun y hy k4=>?_,fun y hy k5=>?_,fun i hi hs=>?_⟩
 ·obtain⟨s,s1,s2,s3⟩:=D.ask y (RZ _ hy) k4
  exact⟨s,old s s1 s2,s2,s3⟩
 ·obtain⟨s,s1,s2,s3⟩:=D.bck y (RZ _ hy) k5
  exact⟨s,old s s1 s2,s2,s3⟩
 rw [R0]
 have hi':i < T.length:=by rw [R1] at hi;exact hi
 split
 ·rename_i e
  subst e
  have hS:(S[n].state=1\/S[n].state=2)/\T[n].road=S[n].road:=by
   rcases D.st n hn hs with h|⟨a1,a2,_⟩
   ·rw [<-h];exact⟨.inr h2,rfl⟩
   exact⟨a1,a2⟩
  exact .inr ⟨hS.1,hS.2,.inl rfl⟩
 rename_i hne
 rcases D.st i hi' hs with h|⟨a1,a2,a3⟩
 ·exact .inl h
 refine .inr ⟨a1,a2,?_⟩
 rcases a3 with h|⟨h4,h5⟩
 ·exact .inl h
 refine .inr ⟨h4,?_⟩
 rcases h5 with⟨a,b⟩|a
 ·exact .inl ⟨gk a (by rw [T2.kind];omega),b⟩
 refine .inr ?_
 rcases R7.1 a with e|hl
 ·have:roadOf x=T[i].road:=by rw [<-e,fH,bz,fF]
  have:=oq ok (RQ hn) (RQ hi') zO zO (hr.trans this)
  have p:=ok.pw
  rw [RU] at p
  rcases Sk i n with g|g|g
  ·rcases p i n hi' hn g with q|q|q
   ·omega
   ·omega
   exact absurd (by rw [this]) q
  ·exact absurd g.symm hne
  rcases p n i hn hi' g with q|q|q
  ·omega
  ·omega
  exact absurd (by rw [this]) q
 exact hl
structure MildH (e:EndD) (r:EndD×List LetterD):Prop where
 subs:r.1.subs=e.subs
 halfs:r.1.halfs=e.halfs
 bucket:r.1.bucket=e.bucket
 side:r.1.side=e.side
 key:r.1.key=e.key
 peer:r.1.peer=e.peer
 lt:∀ y∈r.2,y.kind=9\/y.kind=12
theorem lX {e:EndD} {x:LetterD} (k:x.kind=8\/x.kind=9\/x.kind=11\/x.kind=12):MildH e (aG e x):=by
 have F:=eD e x
 generalize aG e x=r at F⊢
 have no:∀ y∈([]:List LetterD),y.kind=9\/y.kind=12:=fun y hy=>by simp at hy
 cases F with
 |stay=>exact⟨rfl,rfl,rfl,rfl,rfl,rfl,no⟩
 |other r k=>omega
 |join1 k=>omega
 |join2 k=>omega
 |back k=>omega
 |done1 k=>omega
 |done2 k=>omega
 |ack k=>omega
 |addr=>exact⟨rfl,rfl,rfl,rfl,rfl,rfl,fun y hy=>by rw [RR.1 hy];exact .inl rfl⟩
 |echo=>exact⟨rfl,rfl,rfl,rfl,rfl,rfl,no⟩
 |data=>exact⟨rfl,rfl,rfl,rfl,rfl,rfl,fun y hy=>by rw [RR.1 hy];exact .inr rfl⟩
 |came=>exact⟨rfl,rfl,rfl,rfl,rfl,rfl,no⟩
theorem lY {e:EndD} {x:LetterD} (kk:4<=x.kind/\x.kind<=12/\¬ x.kind=10):(aG e x).1.key=e.key/\(aG e x).1.peer=e.peer/\(aG e x).1.side=e.side/\e.subs.length<=(aG e x).1.subs.length/\(¬ x.kind=4->(aG e x).1.bucket=e.bucket):=by
 have F:=eD e x
 generalize aG e x=r at F⊢
 cases F with
 |stay=>exact⟨rfl,rfl,rfl,Si _,fun _=>rfl⟩
 |other r k=>omega
 |join1 k=>exact⟨rfl,rfl,rfl,Si _,fun h=>absurd k h⟩
 |join2 k=>exact⟨rfl,rfl,rfl,Si _,fun h=>absurd k h⟩
 |back k n hn=>exact⟨rfl,rfl,rfl,by dsimp only;rw [R1];exact Si _,fun _=>rfl⟩
 |done1 k i hi hr h8 ht m hm=>
  refine⟨rfl,rfl,rfl,?_,fun _=>rfl⟩
  dsimp only
  rw [R2,Sg]
  rcases hm with rfl|⟨n,hn,_,_,rfl⟩
  ·omega
  rw [R1];omega
 |done2=>exact⟨rfl,rfl,rfl,Si _,fun _=>rfl⟩
 |ack k n hn=>exact⟨rfl,rfl,rfl,by dsimp only;rw [R1];exact Si _,fun _=>rfl⟩
 |addr=>exact⟨rfl,rfl,rfl,Si _,fun _=>rfl⟩
 |echo=>exact⟨rfl,rfl,rfl,Si _,fun _=>rfl⟩
 |data=>exact⟨rfl,rfl,rfl,Si _,fun _=>rfl⟩
 |came=>exact⟨rfl,rfl,rfl,Si _,fun _=>rfl⟩
theorem sU {l:List SubD} {n:Nat} (ok:SuOk l) (hn:n < l.length) (h4:¬ l[n].state=4):bF l l[n].road=(n:Int):=by
 rw [oZ]
 refine⟨hn,h4,rfl,fun i hi=>?_⟩
 have p:=ok.pw
 rw [RU] at p
 rcases p i n zO hn hi with h|h|h
 ·exact .inl h
 ·exact absurd h h4
 exact .inr h
theorem JS {l:List HalfD} {n:Nat} (ok:HaOk l) (hn:n < l.length):bj l l[n].road=(n:Int):=by
 rw [bj,jc]
 refine⟨hn,by rw [cy],fun i hi=>?_⟩
 have p:=ok.pw
 rw [RU] at p
 rw [<-SZ,cy]
 exact p i n zO hn hi
theorem kD {x:LetterD} (k:1<=x.kind/\x.kind<=13) (t:x.text.length<=20) (n:∀ v∈eU x,N9 v):du x=true:=by
 simp only [du,RP,dt,R5,decide_eq_true_eq,Gt]
 exact⟨⟨k,n⟩,t⟩
theorem cS:N9 0:=⟨by decide,by decide⟩
theorem NW {s:SubD} (S:SuE s):du (askL s)=true:=by
 obtain⟨_,⟨r1,r2,r3⟩,s1,s2,s3,s4,s5⟩:=S
 refine kD ⟨by show (1:Int)<=4;decide,by show (4:Int)<=13;decide⟩ (by simp [askL,ah,af]) ?_
 simp only [eU,askL,ah,af,Ss]
 have h2:N9 102:=⟨by decide,by decide⟩
 exact⟨r1,r2,r3,cS,h2,s1,s4,cS,cS,cS,cS,cS,cS,cS,cS,cS,fun _ h=>by simp at h⟩
theorem NX {ka kb:Int} {h:HalfD} (H:HaE h) (ha:N9 ka) (hb:N9 kb):du (bckL ka kb h)=true:=by
 obtain⟨⟨r1,r2,r3⟩,s1,s2,s3,s4,s5⟩:=H
 refine kD ⟨by show (1:Int)<=5;decide,by show (5:Int)<=13;decide⟩ (by simp [bckL,ah,af]) ?_
 simp only [eU,bckL,ah,af,Ss]
 have h1:N9 1:=⟨by decide,by decide⟩
 exact⟨r1,r2,r3,cS,cS,s2,s4,cS,cS,cS,cS,h1,hb,ha,s2,s1,fun _ h=>by simp at h⟩
theorem NY {ka kb:Int} {s:SubD} (S:SuE s) (ha:N9 ka) (hb:N9 kb):du (kC ka kb s)=true:=by
 obtain⟨_,⟨r1,r2,r3⟩,s1,s2,s3,s4,s5⟩:=S
 refine kD ⟨by show (1:Int)<=6;decide,by show (6:Int)<=13;decide⟩ (by simp [kC,ah,af]) ?_
 simp only [eU,kC,ah,af,Ss]
 have h2:N9 2:=⟨by decide,by decide⟩
 exact⟨r1,r2,r3,cS,cS,cS,cS,cS,cS,cS,cS,h2,ha,hb,s1,s2,fun _ h=>by simp at h⟩
theorem NZ {s:SubD} (S:SuE s):du (fH (bk s.road) s.take)=true:=by
 obtain⟨_,⟨r1,r2,r3⟩,s1,s2,s3,s4,s5⟩:=S
 refine kD ⟨by show (1:Int)<=7;decide,by show (7:Int)<=13;decide⟩ (by simp [fH,ah,af]) ?_
 simp only [eU,fH,bk,ah,af,Ss]
 exact⟨r2,r1,r3,cS,cS,cS,cS,s4,cS,cS,cS,cS,cS,cS,cS,cS,fun _ h=>by simp at h⟩
theorem yy {b:Int} {l:List AddrD} {n:Int} (h:Shape b l) (ok:AdOk l) (hq:∃ q∈ones b (hasTwo l),q.addr=n):∃ a∈l,a.addr=n:=by
 obtain⟨q,q1,q2⟩:=hq
 have:n∈l.map AddrD.addr:=by rw [h.ones ok];exact R8.2 ⟨q,q1,q2⟩
 obtain⟨a,a1,a2⟩:=R8.1 this
 exact⟨a,a1,a2⟩
theorem CI {p:PolicyD} {w:WorldD} (hp:p∈pols) (C:Core w) (E:CE p w) {s:SubD} (hs:s∈w.a.subs):ownsAddr w.a.own s.road.own=true:=by
 obtain⟨a,a1,a2⟩:=yy E.ownA C.oka.own ((lu hp _ _).el _ (E.want s hs)).1
 simp only [ownsAddr,Sd,beq_iff_eq]
 exact⟨a,a1,a2⟩
theorem Ip {p:PolicyD} {w:WorldD} (hp:p∈pols) (C:Core w) (E:CE p w) {r:RoadD} (hr:r∈wants p (hasTwo w.a.own) (hasTwo w.a.far)):(∃ f∈w.a.far,f.addr=r.far)/\ownsAddr w.b.own r.far=true:=by
 obtain⟨f,f1,f2⟩:=yy E.farA C.oka.far ((lu hp _ _).el _ hr).2.1
 refine⟨⟨f,f1,f2⟩,?_⟩
 rcases (C.fa f f1).2 with⟨q,q1,_,q3⟩|q
 ·simp only [ownsAddr,Sd,beq_iff_eq]
  exact⟨q,q1,q3.trans f2⟩
 rw [E.done.2] at q;simp at q
theorem GO {p:PolicyD} {w:WorldD} (hp:p∈pols) (C:Core w) (E:CE p w) {s:SubD} (hs:s∈w.a.subs):ownsAddr w.b.own s.road.far=true:=(Ip hp C E (E.want s hs)).2
theorem JT {p:PolicyD} {w:WorldD} (hp:p∈pols) (C:Core w) (E:CE p w) {n:Nat} (hn:n < w.a.subs.length) (h2:w.a.subs[n].state=2):
  aG w.a (fH (bk w.a.subs[n].road) w.a.subs[n].take)=({ w.a with subs:=w.a.subs.set n { w.a.subs[n] with state:=3 } },[]):=by
 have hm:=RQ hn
 have S:=C.oka.subs.el _ hm
 have lo:=NZ S
 have ro:roadOf (fH (bk w.a.subs[n].road) w.a.subs[n].take)=w.a.subs[n].road:=by rw [fH,bz,fF]
 have ho:bJ w.a (fH (bk w.a.subs[n].road) w.a.subs[n].take)=true:=by
  rw [bJ,bg.2 C.oka,lo]
  exact CI hp C E hm
 have ix:=sU C.oka.subs hn zO
 have ok:lG w.a (fH (bk w.a.subs[n].road) w.a.subs[n].take)=true:=by
  rw [FO (n:=n) (by rw [ro];exact ix) hn,bg.2 C.oka,lo]
  simp [h2,fH,ah]
 rw [qr ho rfl,K1 ok (by rw [ro];exact ix),dA hn]
theorem GP {p:PolicyD} {w:WorldD} (hp:p∈pols) (C:Core w) (E:CE p w) {n:Nat} (hn:n < w.a.subs.length) (h1:w.a.subs[n].state=1) {h:HalfD} (hh:h∈w.b.halfs) (hm:Mt h w.a.subs[n]):
  aG w.a (bckL w.a.key w.b.key h)=({ w.a with subs:=w.a.subs.set n { w.a.subs[n] with state:=2,theirs:=h.mine,give:=h.take,tries:=0 } },[kC w.a.key w.b.key { w.a.subs[n] with state:=2,theirs:=h.mine,give:=h.take,tries:=0 }]):=by
 have hsm:=RQ hn
 have N:=C.oka.nums
 have lo:=NX (ka:=w.a.key) (kb:=w.b.key) (C.okb.halfs.el h hh) N.1 C.okb.nums.1
 have ro:roadOf (bckL w.a.key w.b.key h)=w.a.subs[n].road:=by rw [bckL,bz,hm.1,fF]
 have ow:ownsAddr w.a.own (bckL w.a.key w.b.key h).to=true:=by
  show ownsAddr w.a.own h.road.far=true
  rw [hm.1]
  exact CI hp C E hsm
 have ho:bJ w.a (bckL w.a.key w.b.key h)=true:=by
  rw [bJ,bg.2 C.oka,lo,ow];rfl
 have ix:=sU C.oka.subs hn zO
 have ok:rS w.a (bckL w.a.key w.b.key h)=true:=by
  rw [La (n:=n) (by rw [ro];exact ix) hn,bg.2 C.oka,lo]
  simp [C.sta,h1,bckL,ah,C.pa,hm.2.1]
 rw [qp ho rfl,Nt ok (by rw [ro];exact ix) hn]
 have e:∀ t,bq w.a t=kC w.a.key w.b.key t:=fun t=>by unfold bq kC;rw [C.pa]
 rw [e]
 rfl
theorem GQ {p:PolicyD} {w:WorldD} (hp:p∈pols) (C:Core w) (E:CE p w) (h8:w.b.subs.length < 8) {s:SubD} (hs:s∈w.a.subs) {h:HalfD} (hh:h∈w.b.halfs) (hm:Mt h s) (h2:h.mine=s.theirs):
  (aG w.b (kC w.a.key w.b.key s)).2=[fH (bk s.road) s.take]:=by
 obtain⟨i,hi,rfl⟩:=RV hh
 have lo:=NY (ka:=w.a.key) (kb:=w.b.key) (C.oka.subs.el s hs) C.oka.nums.1 C.okb.nums.1
 have ro:roadOf (kC w.a.key w.b.key s)=bk s.road:=by rw [kC,bz]
 have ow:ownsAddr w.b.own (kC w.a.key w.b.key s).to=true:=GO hp C E hs
 have ho:bJ w.b (kC w.a.key w.b.key s)=true:=by
  rw [bJ,bg.2 C.okb,lo,ow];rfl
 have ix:=JS C.okb.halfs hi
 rw [hm.1] at ix
 have k1:lj w.b (kC w.a.key w.b.key s)=true:=by
  rw [lj,bg.2 C.okb,lo]
  simp [C.stb]
 have k2:pL w.b (kC w.a.key w.b.key s)=true:=by
  rw [iZ (i:=i) (by rw [ro];exact ix) hi]
  simp [h8,kC,ah,C.pb,hm.2.1,h2]
 rw [qq ho rfl,aq,if_pos k1,if_pos k2]
 have hj:qb w.b (kC w.a.key w.b.key s)=w.b.halfs[i]:=by rw [qb,ro,ix,RT,eK hi]
 rw [hj,ro,hm.2.2]
theorem EQ {α:Type} [DecidableEq α]:∀ {l m:List α},l.Nodup->(∀ x∈l,x∈m)->l.length<=m.length
 |[],m,_,_=>Nat.zero_le _
 |x::l,m,h,hm=>by
  rw [SK] at h
  have hx:=hm x (R3 ..)
  have:=EQ (l:=l) (m:=m.erase x) h.2 fun y hy=>by
   refine (List.mem_erase_of_ne ?_).2 (hm y (RZ _ hy))
   intro e;subst e;exact h.1 hy
  rw [List.length_erase_of_mem hx] at this
  have:0 < m.length:=List.length_pos_of_mem hx
  rw [Sa];omega
theorem JU {p:PolicyD} {w:WorldD} (C:Core w) (E:CE p w) {h:HalfD} (hh:h∈w.b.halfs):bk h.road∈wants p (hasTwo w.a.own) (hasTwo w.a.far):=by
 rcases (C.hb h hh).th with g|⟨_,s,s1,s2,s3,s4,s5⟩
 ·rw [E.nums] at g
  exact absurd g (A7 (E.hth h hh))
 rw [<-s5];exact E.want s s1
theorem GR {p:PolicyD} {w:WorldD} {k:Nat} (hp:p∈pols) (L:LV p w k) (hk:k<=1000000) (h8:w.b.subs.length < 8) {s:SubD} (hs:s∈w.a.subs) (hb:1<=w.b.bucket.cur):
  ∃ h,(aG w.b (askL s)).2=[cC w.b (roadOf (askL s)) h]:=by
 have C:=L.c
 have E:=L.cw.e
 have Y:=L.y.2
 have lo:=NW (C.oka.subs.el s hs)
 have ro:roadOf (askL s)=bk s.road:=by rw [askL,bz]
 have ow:ownsAddr w.b.own (askL s).to=true:=GO hp C E hs
 have ho:bJ w.b (askL s)=true:=by rw [bJ,bg.2 C.okb,lo,ow];rfl
 have q1:=L.cnt.nb
 have q2:=L.cnt.db
 have q3:=C.db
 have tk:(bl w.b.bucket).2=true:=by
  rw [bl,if_pos ⟨kw Y,zO⟩]
 have hf:¬ (bj w.b.halfs (roadOf (askL s)) < 0/\4<=w.b.halfs.length):=by
  rintro⟨g1,g2⟩
  rw [ro,yq] at g1
  have nd:((bk (bk s.road))::w.b.halfs.map fun h=>bk h.road).Nodup:=by
   rw [SK]
   refine⟨fun hc=>?_,?_⟩
   ·obtain⟨h,h1,h2⟩:=R8.1 hc
    exact g1 h h1 (GN h2)
   have pw:=C.okb.halfs.pw
   rw [List.nodup_iff_pairwise_ne,Tb]
   exact pw.imp fun h e=>h (GN e)
  have:=EQ (m:=wants p (hasTwo w.a.own) (hasTwo w.a.far)) nd fun r hr=>by
   rcases R7.1 hr with rfl|hr
   ·rw [fF];exact E.want s hs
   obtain⟨h,h1,rfl⟩:=R8.1 hr
   exact JU C E h1
  rw [Sa,Sv] at this
  have:=(lu hp (hasTwo w.a.own) (hasTwo w.a.far)).len
  omega
 have ok:ll w.b (askL s)=true:=by
  have t2:(askL s).token=d_ w.b.side:=by rw [C.sib];rfl
  simp only [ll,RP,decide_eq_true_eq,dt,R9]
  refine⟨⟨⟨⟨⟨⟨⟨⟨⟨bg.2 C.okb,lo⟩,C.stb⟩,t2⟩,ow⟩,h8⟩,?_⟩,zO,zO⟩,zO⟩,tk⟩
  by_cases g1:bj w.b.halfs (roadOf (askL s)) < 0
  ·by_cases g2:4<=w.b.halfs.length
   ·exact absurd ⟨g1,g2⟩ hf
   simp [g2]
  simp [g1]
 rw [qo ho rfl]
 by_cases hsm:dO w.b (askL s)=true
 ·have hs':=hsm
  simp only [dO,RP,decide_eq_true_eq] at hs'
  obtain⟨n,e1,hn,hr⟩:=jI hs'.1.1
  exact⟨_,by rw [Nv ok hsm e1 hn]⟩
 exact⟨_,by rw [Nw ok (by simpa using hsm)]⟩
def MG (S:List SubD) (w:WorldD):Prop:=Dr w.a.key w.b.key S w.a.subs w.b.halfs w.bag
def Pr (S T:List SubD) (bag:List LetterD) (cur:Int):Prop:=(∃ (n:Nat) (hn:n < T.length) (hs:n < S.length),S[n].state=1/\(¬ T[n].state=1\/∃ x∈bag,x.kind=5/\jr x=some T[n].road))\/((∃ x∈bag,x.kind=4)/\1<=cur)
def Pz (S:List SubD) (w:WorldD):Prop:=Pr S w.a.subs w.bag w.b.bucket.cur
theorem Pr.keep {S T:List SubD} {x:LetterD} {l m:List LetterD} {cur cur':Int} (P:Pr S T (x::l) cur) (h5:¬ x.kind=5) (h4:¬ x.kind=4) (hc:cur'=cur):Pr S T (l++m) cur':=by
 rcases P with⟨n,hn,hs,h1,h2⟩|⟨⟨y,y1,y2⟩,h⟩
 ·refine .inl ⟨n,hn,hs,h1,?_⟩
  rcases h2 with h2|⟨y,y1,y2,y3⟩
  ·exact .inl h2
  exact .inr ⟨y,RY _ (gk y1 zO),y2,y3⟩
 exact .inr ⟨⟨y,RY _ (gk y1 zO),y2⟩,zO⟩
theorem yz {r:RoadD} {H:List HalfD}:Bb r H H:=fun h hh _=>⟨h,hh,rfl,rfl,rfl,rfl,rfl⟩
theorem GS {r:RoadD} {H:List HalfD}:Bb r H (bH H r):=fun h hh hne=>by
 refine⟨h,?_,rfl,rfl,rfl,rfl,rfl⟩
 rw [bH];split
 ·exact hh
 rename_i h0
 obtain⟨n,e,hn,hr⟩:=jI (l:=H) (r:=r) zO
 rw [e,RT]
 obtain⟨i,hi,rfl⟩:=RV hh
 have hin:¬ i=n:=fun hc=>by subst hc;exact hne hr
 rw [RW]
 rcases Nat.lt_or_ge i n with g|g
 ·exact .inl (Sf.2 ⟨i,zO,rfl⟩)
 refine .inr (So.2 ⟨i - (n+1),zO,?_⟩)
 congr 1;omega
theorem JV {H:List HalfD} {q:HalfD}:Bb q.road H (bP H q):=fun h hh hne=>by
 refine⟨h,?_,rfl,rfl,rfl,rfl,rfl⟩
 rw [bP];split
 ·rename_i h0
  obtain⟨n,e,hn,hr⟩:=jI h0
  rw [e,RT]
  obtain⟨i,hi,rfl⟩:=RV hh
  have hin:¬ n=i:=fun hc=>by subst hc;exact hne hr
  exact Sb.2 ⟨i,by rw [R1];exact hi,by rw [R0,if_neg hin]⟩
 exact RY _ hh
theorem JW {r:RoadD} {H:List HalfD} {n:Nat} {q:HalfD} (hn:n < H.length) (hr:H[n].road=r):Bb r H (H.set n q):=fun h hh hne=>by
 refine⟨h,?_,rfl,rfl,rfl,rfl,rfl⟩
 obtain⟨i,hi,rfl⟩:=RV hh
 have hin:¬ n=i:=fun hc=>by subst hc;exact hne hr
 exact Sb.2 ⟨i,by rw [R1];exact hi,by rw [R0,if_neg hin]⟩
theorem ER {w:WorldD} (C:Core w) {r:RoadD} {h:HalfD} (hr:h.road=r):cC w.b r h=bckL w.a.key w.b.key h:=by
 subst hr
 unfold cC bckL
 rw [C.pb]
theorem ot {w:WorldD} (h:¬ w.bag=[]):∃ x l,w.bag=x::l:=by
 cases e:w.bag with
 |nil=>exact absurd e h
 |cons x l=>exact⟨x,l,rfl⟩
theorem MG.step {p:PolicyD} {w:WorldD} {k:Nat} {S:List SubD} (hp:p∈pols) (L:LV p w k) (hk:k<=1000000) (hl:w.bag.length<=40) (h8:w.b.subs.length < 8) (hne:¬ w.bag=[]) (D:MG S w):MG S (dlv w)/\(Pz S w->Pz S (dlv w)):=by
 obtain⟨x,l,hb⟩:=ot hne
 have C:=L.c
 have E:=L.cw.e
 have X:=L.cw.x hb
 have kk:=X.kind
 have K:4<=x.kind/\x.kind<=12/\¬ x.kind=10:=kk
 unfold MG at D⊢
 unfold Pz
 rw [hb] at D⊢
 rcases e6 x.to with h0|h0|h0
 ·exact absurd h0 X.to
 ·obtain⟨ea,eb,eg,_⟩:=EO hp L hb hl h0
  have k4:¬ x.kind=4:=fun h=>by have:=X.to2 (.inl h);omega
  have k6:¬ x.kind=6:=fun h=>by have:=X.to2 (.inr h);omega
  obtain⟨y1,y2,y3,_,_⟩:=lY (e:=w.a) K
  rw [ea,eb,eg,y1]
  by_cases k5:x.kind=5
  ·obtain⟨s,s1,s2,h,g1,g2,g3⟩:=D.bck x (R3 ..) k5
   obtain⟨n,hn,rfl⟩:=RV s1
   have hr:=GP hp C E hn s2 g1 g2
   rw [<-g3] at hr
   rw [hr]
   rw [g3] at D
   refine⟨D.bck1 C.oka.subs hn s2 g1 g2 rfl,fun _=>.inl ⟨n,by dsimp only;rw [R1];exact hn,by rw [<-D.len];exact hn,?_,.inl ?_⟩⟩
   ·have hs:n < S.length:=by rw [<-D.len];exact hn
    rcases D.st n hn hs with h|⟨_,_,h|⟨h,_⟩⟩
    ·rw [<-h];exact s2
    ·omega
    omega
   dsimp only
   rw [List.getElem_set_self]
   show ¬ (2:Int)=1
   decide
  by_cases k7:x.kind=7
  ·by_cases hx:∃ (n:Nat) (hn:n < w.a.subs.length),w.a.subs[n].state=2/\x=fH (bk w.a.subs[n].road) w.a.subs[n].take
   ·obtain⟨n,hn,h2,hx⟩:=hx
    have hr:=JT hp C E hn h2
    rw [<-hx] at hr
    rw [hr]
    dsimp only
    rw [R4]
    refine⟨D.ack1 C.oka.subs k7 hn h2 (by rw [hx,fH,bz,fF]),fun P=>?_⟩
    rcases P with⟨i,hi,hs,q1,q2⟩|⟨⟨y,y1,y2⟩,h⟩
    ·refine .inl ⟨i,by rw [R1];exact hi,hs,q1,?_⟩
     rw [R0]
     split
     ·exact .inl (by show ¬ (3:Int)=1;decide)
     rcases q2 with q2|⟨y,y1,y2,y3⟩
     ·exact .inl q2
     exact .inr ⟨y,gk y1 zO,y2,y3⟩
    exact .inr ⟨⟨y,gk y1 zO,y2⟩,h⟩
   have F:=eD w.a x
   generalize aG w.a x=r at F
   cases F with
   |stay=>
    dsimp only
    refine⟨?_,fun P=>P.keep k5 k4 rfl⟩
    rw [R4]
    refine D.ack0 k7 fun s hs h2 hc=>hx ?_
    obtain⟨n,hn,rfl⟩:=RV hs
    exact⟨n,hn,h2,hc⟩
   |other r k=>omega
   |join1 k=>omega
   |join2 k=>omega
   |back k=>omega
   |done1 k=>omega
   |done2 k=>omega
   |ack k n hn h2 hr ht=>
    dsimp only
    refine⟨?_,fun P=>?_⟩
    ·rw [R4];exact D.ack1 C.oka.subs k7 hn h2 hr
    rcases P with⟨i,hi,hs,q1,q2⟩|⟨⟨y,y1,y2⟩,h⟩
    ·refine .inl ⟨i,by rw [R1];exact hi,hs,q1,?_⟩
     rw [R0]
     split
     ·exact .inl (by show ¬ (3:Int)=1;decide)
     rcases q2 with q2|⟨y,y1,y2,y3⟩
     ·exact .inl q2
     exact .inr ⟨y,RY _ (gk y1 zO),y2,y3⟩
    exact .inr ⟨⟨y,RY _ (gk y1 zO),y2⟩,h⟩
   |addr k=>omega
   |echo k=>omega
   |data k=>omega
   |came k=>omega
  have M:=lX (e:=w.a) (x:=x) zO
  rw [M.subs]
  exact⟨D.mild zO M.lt,fun P=>P.keep k5 k4 rfl⟩
 obtain⟨eb,ea,eg,_⟩:=EP hp L hb hl h0
 have k5:¬ x.kind=5:=fun h=>by have:=X.to1 (.inl h);omega
 have k7:¬ x.kind=7:=fun h=>by have:=X.to1 (.inr h);omega
 obtain⟨y1,y2,y3,_,y5⟩:=lY (e:=w.b) K
 rw [ea,eb,eg,y1]
 by_cases k4:x.kind=4
 ·obtain⟨s,s1,s2,s3⟩:=D.ask x (R3 ..) k4
  subst s3
  have ro:roadOf (askL s)=bk s.road:=by rw [askL,bz]
  have prog:Pr S w.a.subs (askL s::l) w.b.bucket.cur->Pr S w.a.subs (l++(aG w.b (askL s)).2) (aG w.b (askL s)).1.bucket.cur:=fun P=>by
   rcases P with⟨i,hi,hs,q1,q2⟩|⟨_,h⟩
   ·refine .inl ⟨i,hi,hs,q1,?_⟩
    rcases q2 with q2|⟨y,y1,y2,y3⟩
    ·exact .inl q2
    exact .inr ⟨y,RY _ (gk y1 zO),y2,y3⟩
   obtain⟨h1,e1⟩:=GR hp L hk h8 s1 h
   obtain⟨n,hn,rfl⟩:=RV s1
   have hs:n < S.length:=by rw [<-D.len];exact hn
   refine .inl ⟨n,hn,hs,?_,.inr ⟨cC w.b (roadOf (askL w.a.subs[n])) h1,by rw [e1];simp,rfl,?_⟩⟩
   ·rcases D.st n hn hs with h|⟨_,_,h|⟨h,_⟩⟩
    ·rw [<-h];exact s2
    ·omega
    omega
   rw [jr,if_pos (.inl rfl),cC,bz,ro,fF]
  refine⟨?_,prog⟩
  have F:=eD w.b (askL s)
  generalize aG w.b (askL s)=r at F
  cases F with
  |stay=>rw [R4];exact D.ask0 rfl
  |other r k=>omega
  |join1 k ok n hn hr h1 h2=>
   rw [ER C hr]
   have e:bckL w.a.key w.b.key w.b.halfs[n]=bckL w.a.key w.b.key { w.b.halfs[n] with till:=w.b.now+6 }:=rfl
   rw [e]
   exact D.ask1 s1 s2 (JW hn (hr.trans ro)) (Sm hn _) ⟨hr.trans ro,h1,h2⟩
  |join2 k ok no=>
   rw [ER C (r:=roadOf (askL s)) (h:=aj w.b (askL s)) rfl]
   have hput:=A8 C ok
   rw [hput]
   have st:=JV (H:=w.b.halfs) (q:=aj w.b (askL s))
   have er:(aj w.b (askL s)).road=bk s.road:=ro
   rw [er] at st
   exact D.ask1 s1 s2 st (sR _ _) ⟨er,rfl,rfl⟩
  |back k=>omega
  |done1 k=>omega
  |done2 k=>omega
  |ack k=>omega
  |addr k=>omega
  |echo k=>omega
  |data k=>omega
  |came k=>omega
 by_cases k6:x.kind=6
 ·rw [y5 k4]
  refine⟨?_,fun P=>P.keep k5 k4 rfl⟩
  have tr:∀ s∈w.a.subs,s.state=2->x=kC w.a.key w.b.key s->(∃ h∈w.b.halfs,Mt h s/\h.mine=s.theirs)->(aG w.b x).2=[fH (bk s.road) s.take]:=by
   rintro s hs h2 rfl ⟨h,g1,g2,g3⟩
   exact GQ hp C E h8 hs g1 g2 g3
  have F:=eD w.b x
  generalize aG w.b x=r at F tr
  cases F with
  |stay=>exact D.done1 k6 yz (.inl rfl) tr
  |other r k=>omega
  |join1 k=>omega
  |join2 k=>omega
  |back k=>omega
  |done1 k i hi hr h9 ht m hm=>exact D.done1 k6 GS (.inr ⟨_,rfl⟩) tr
  |done2 k n hn h3 hr ht=>exact D.done1 k6 yz (.inr ⟨_,rfl⟩) tr
  |ack k=>omega
  |addr k=>omega
  |echo k=>omega
  |data k=>omega
  |came k=>omega
 have M:=lX (e:=w.b) (x:=x) zO
 rw [M.halfs,M.bucket]
 exact⟨D.mild zO M.lt,fun P=>P.keep k5 k4 rfl⟩
def Mr (l:List LetterD):Nat:=(l.filter fun x=> !decide (sideAt x.to=0)).length
theorem JZ {side:Int} {w:WorldD} {x:LetterD} (h:w.bag.length<=40):(aU side w x).bag.length=min 40 (w.bag.length+(if sideAt x.to=0 then 0 else 1)):=by
 rw [aU];split
 ·show w.bag.length=_;omega
 show (pm w.bag x).length=_
 rw [pm];split
 ·simp;omega
 omega
theorem G0 {side:Int} {w:WorldD} {x:LetterD} (h:w.past.length<=150):(aU side w x).past.length=min 150 (w.past.length+1):=by
 have e:(aU side w x).past=fm w.past x:=by rw [aU];split<;>rfl
 rw [e,fm];split
 ·simp;omega
 omega
theorem Bj {side:Int}:∀ {l:List LetterD} {w:WorldD},w.bag.length<=40->w.past.length<=150->(al side w l).bag.length=min 40 (w.bag.length+Mr l)/\(al side w l).past.length=min 150 (w.past.length+l.length)
 |[],w,h1,h2=>by
  rw [show al side w []=w from rfl,show Mr []=0 from rfl,S2];omega
 |x::l,w,h1,h2=>by
  have e1:=JZ (side:=side) (x:=x) h1
  have e2:=G0 (side:=side) (x:=x) h2
  obtain⟨g1,g2⟩:=Bj (side:=side) (l:=l) (w:=aU side w x) zO zO
  have e3:Mr (x::l)=(if sideAt x.to=0 then 0 else 1)+Mr l:=by
   by_cases h0:sideAt x.to=0<;>simp [Mr,h0];omega
  rw [show al side w (x::l)=al side (aU side w x) l from rfl,g1,g2,e1,e2,e3,Sa]
  omega
def BagW (w:WorldD):Prop:=w.bag.length<=40/\w.past.length<=150
theorem yF {side:Int} {l:List LetterD} {w:WorldD} (h:BagW w):BagW (al side w l):=by
 obtain⟨h1,h2⟩:=Bj (side:=side) (l:=l) h.1 h.2
 constructor<;>omega
theorem ox {w:WorldD} {s:Int} {e:EndD} (h:BagW w):BagW (aL w s e):=by unfold aL;split<;>exact h
theorem J0 {w:WorldD} {a:ActD} (h:BagW w):BagW (dE w a):=by
 unfold dE eT cj;repeat' split
 all_goals exact h
theorem G1 {w:WorldD} {x:LetterD} (h:BagW w):BagW (cU w x):=by
 rw [cU];split
 ·exact h
 rw [gL];split
 ·exact yF (ox h)
 exact ox h
theorem mT {w:WorldD} {a:ActD} (h:BagW w):BagW (aJ w a).1:=by
 have hb:BagW { w with bag:=gO w.bag a.pos }:=⟨by have:=h.1;simp only [gO,R2,Sl,R6];omega,h.2⟩
 have ha:∀ x,¬ 40<=w.bag.length->BagW { w with bag:=w.bag++[x] }:=fun x hx=>⟨by simp only [R2,Sg];omega,h.2⟩
 unfold aJ;split
 ·split
  ·unfold dR;split
   ·exact h
   exact yF (ox (J0 h))
  rw [cc]
  split
  ·split
   ·exact h
   split
   ·exact G1 hb
   exact hb
  split
  ·split
   ·exact h
   rename_i hh;exact ha _ (fun h40=>hh (.inr h40))
  split
  ·split
   ·exact h
   split
   ·exact h
   rename_i hh;exact ha _ hh
  split
  ·exact h
  rename_i hh;exact ha _ (fun h40=>hh (.inr (.inr h40)))
 exact h
def G6:Hp->Bool
 |[]=>true
 |some ob::h=> !ob.own && G6 h
 |none::h=>G6 h
theorem yM:∀ {h:Hp} {o:Nat} {ob:AObj},G6 h=true->h[o]? =some (some ob)->ob.own=false
 |some x::h,0,ob,hr,ho=>by
  simp only [G6,RP,R9] at hr
  simp at ho
  subst ho
  exact hr.1
 |some x::h,o+1,ob,hr,ho=>by
  simp only [G6,RP] at hr
  exact yM hr.2 (by simpa using ho)
 |none::h,0,ob,hr,ho=>by simp at ho
 |none::h,o+1,ob,hr,ho=>yM (h:=h) hr (by simpa using ho)
 |[],o,ob,_,ho=>by simp at ho
theorem Mz {β:Be} {w:World}:∀ {l:Be} {h:Hp},Pv β w l h->G6 h=true
 |[],[],_=>rfl
 |p::l,some ob::h,hr=>by
  have:=Mz hr.2
  simp [G6,hr.1.1,this]
 |[],_::_,h=>h.elim
 |_::_,[],h=>h.elim
 |_::_,none::_,h=>h.elim
theorem MA {P:Program} {f:FuncId} {args:List AV} {b:Bool} {h h':Hp} (ct:fL P f args h (.sc (.bo b)) h') {β:Be} {w:World} (hr:Pv β w β h) {vs:List Value} (hvs:L2 (gm β) args vs):
  Calls P f vs.toArray w fun e w'=>e=.returned (.bool b)/\Below w.heap.size w w':=
 (ct.2 β w vs (KB hr) hvs).mono fun e w' ⟨β',v,he,hv,hh,hst⟩=>by
  have hv':v=.bool b:=hv
  subst hv'
  exact⟨he,⟨hst.os,hst.tape,hst.output,hst.size,fun k hk=>hst.block k hk fun⟨o,ob,p,ho,hown,hp,_⟩=>by
   rw [yM (Mz hr) ho] at hown
   cases hown⟩⟩
end
end Go.Proofs.YteknmpdmhiomgaaGreat
