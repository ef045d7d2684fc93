/-
  Texts merged for this claim by shake.py: what its proof needs.
-/
import Derived.Test.YtjghbknhneffjaaGreatZFnBaseL
import Derived.Test.YtjghbknhneffjaaGreatZFnBaseM
import Derived.Test.YtjghbknhneffjaaGreatZFnBaseN
import Derived.Test.YtjghbknhneffjaaGreatZFnCarriedA
set_option maxHeartbeats 16000000
set_option maxRecDepth 100000
set_option linter.unusedVariables false
set_option linter.unusedSimpArgs false
namespace Go.Proofs.YtjghbknhneffjaaGreat
section
open Go.RowKit
section
variable {P:Program} {β:Be} {s:S} {a:Act} {w:World} {o:Oper} {r:OpR} {ty:TypeId}
end
end
section
open Go.RowKit
section
variable {P:Program} {β:Be} {s:S} {a:Act} {w:World} {o:Oper} {r:OpR} {ty:TypeId}
end
end
section
open Go.RowKit
end
section
end
section
open Go.RowKit
end
section
end
section
open Go.RowKit
theorem Qr {α β:Type} {f:α->β} {l:List α} {k:Nat} (h:k < l.length):(l.drop k).map f=f l[k]::(l.drop (k+1)).map f:=by
 rw [List.drop_eq_getElem_cons h,List.map_cons]
def Py (n:Int):List LetterD->Int
 |[]=>n
 |x::r=>Py (if x.kind=11 then IntKind.i64.wrap (n+(x.text.length:Int)) else n) r
def w1 (s:SubD) (x:LetterD):Bool:=x.frm == s.road.own && x.to == s.road.far && x.port == s.road.port && x.sgn == s.give
def PC (past:List LetterD) (s:SubD):Int:=Py 0 (past.filter (w1 s))
def PH (w:WorldD) (side:Int):List Int:=if side=1\/side=2 then (bB w side).subs.map (PC w.past) else []
theorem PU {l:List LetterD} {n:Int} {k:Nat} (h:k < l.length):Py n (l.drop k)=Py (if l[k].kind=11 then IntKind.i64.wrap (n+(l[k].text.length:Int)) else n) (l.drop (k+1)):=by
 rw [List.drop_eq_getElem_cons h,Py]
theorem P8 {α:Type} {p:α->Bool} {l:List α} {k:Nat} (h:k < l.length):(l.drop k).filter p=if p l[k] then l[k]::(l.drop (k+1)).filter p else (l.drop (k+1)).filter p:=by
 rw [List.drop_eq_getElem_cons h,List.filter_cons]
theorem PL (l:List LetterD) (hl:l.length<=1048576):aP 36 [.sc (.sl 0 0 l.length)] [some ⟨l.map LetterD.cs,19,48,false,true⟩] (.sc (.int .i64 (Py 0 l))) [some ⟨l.map LetterD.cs,19,48,false,true⟩]:=by
 refine qE Tryz.func36 Tryz.ntmps36 Tryz.results36 fun E hE=>?_
 refine jx 1 hE (fun s (x:Nat×Int)=>s.at (qU [0,1,5,1,9,12]) [(8,.sc (.int .i64 (x.1:Nat))),(3,.sc (.int .i64 x.2))] (s.hp)) (fun (x:Nat×Int)=>x.1<=l.length/\Py x.2 (l.drop x.1)=Py 0 l) (fun (x:Nat×Int)=>l.length - x.1) (0,0) (qI 0 1) (⟨Nat.zero_le _,rfl⟩) fun x hx N hN=>?_
 obtain⟨k,n⟩:=x
 obtain⟨hk1,hk2⟩:=hx
 dsimp only at hk1 hk2
 refine qR ?_
 refine qB (fun h=>?_) fun h=>?_
 ·rw [PU h] at hk2
  refine qX ?_
  refine qB (fun h2=>?_) fun h2=>?_
  ·rw [if_pos h2] at hk2
   exact qN hN (k+1,IntKind.i64.wrap (n+(l[k].text.length:Int))) (qI 0 1) (by (try dsimp only);exact⟨by omega,hk2⟩)
  rw [if_neg h2] at hk2
  exact qN hN (k+1,n) (qI 0 1) (by (try dsimp only);exact⟨by omega,hk2⟩)
 rw [List.drop_eq_nil_of_le (by omega),Py] at hk2
 refine qP (qI 0 1) ?_
 first|exact⟨⟩|exact hk2
theorem Qx {s:SubD} {x:LetterD} (h1:x.frm=s.road.own) (h2:x.to=s.road.far) (h3:x.port=s.road.port) (h4:x.sgn=s.give):w1 s x=true:=by simp [w1,h1,h2,h3,h4]
theorem PP {s:SubD} {x:LetterD} (h:¬ x.frm=s.road.own\/¬ x.to=s.road.far\/¬ x.port=s.road.port\/¬ x.sgn=s.give):w1 s x=false:=by
 rw [w1]
 rcases h with h|h|h|h<;>simp [h]
end
section
open Go.RowKit
section
variable {P:Program} {β:Be}
end
end
section
open Go.RowKit
def FewW (w:WorldD):Prop:=EL w.a/\EL w.b
theorem HX {n:Int}:gA n=true↔N9 n:=by simp [gA,N9]
theorem u0 {r:RoadD}:ms r=true↔RN r:=by simp [ms,RN,HX,and_assoc]
theorem g9 {a b:RoadD}:dM a b=true↔a=b:=⟨oM,fun h=>by subst h;simp [dM]⟩
theorem Hg {l:List Int} {t:List AddrD}:oH l t=true↔IdOk l t:=by
 simp only [oH,Bool.and_eq_true]
 constructor
 ·rintro⟨h1,h2⟩
  have hc:∀ (j:Nat) (hj:j+1 < l.length),l[j] < l[j+1]:=by
   intro j hj
   have:=iz h1 hj
   simp only [cK,Bool.or_eq_true,beq_iff_eq,decide_eq_true_eq,Nat.add_sub_cancel,A1 hj,A1 (show j < l.length by omega)] at this
   rcases this with h|h
   ·omega
   exact h
  have hid:∀ (j i:Nat) (hj:j < l.length) (hi:i < j),l[i] < l[j]:=by
   intro j
   induction j with
   |zero=>intro i hj hi;omega
   |succ j ih=>
    intro i hj hi
    have h3:=hc j hj
    by_cases hij:i=j
    ·subst hij;exact h3
    have:=ih i (by omega) (by omega);omega
  refine⟨?_,fun n hn=>?_⟩
  ·rw [List.pairwise_iff_getElem]
   intro i j hi hj hij
   exact hid j i hj hij
  obtain⟨j,hj,rfl⟩:=List.getElem_of_mem hn
  have:=iz h2 hj
  simp only [fE,Bool.and_eq_true,vP,decide_eq_true_eq,A1 hj] at this
  exact⟨this.1,uR.1 this.2⟩
 rintro⟨h1,h2⟩
 rw [List.pairwise_iff_getElem] at h1
 refine⟨ed fun j hj=>?_,ed fun j hj=>?_⟩
 ·simp only [cK,Bool.or_eq_true,beq_iff_eq,decide_eq_true_eq]
  rcases Nat.eq_zero_or_pos j with h0|h0
  ·exact .inl h0
  refine .inr ?_
  rw [A1 hj,A1 (show j - 1 < l.length by omega)]
  exact h1 (j - 1) j (by omega) hj (by omega)
 have:=h2 l[j] (List.getElem_mem hj)
 simp only [fE,Bool.and_eq_true,vP,decide_eq_true_eq,A1 hj]
 exact⟨this.1,uR.2 this.2⟩
theorem Gr {l:List Int} {n:Int}:n∈gf l n:=by
 rw [gf];split
 ·rename_i h
  obtain⟨h1,h2⟩:=h
  rw [A1 h1] at h2
  rw [<-h2];exact List.getElem_mem _
 simp
theorem Gs {l:List Int} {n x:Int} (h:x∈l):x∈gf l n:=by
 rw [gf];split
 ·exact h
 have:=List.take_append_drop (gd l n) l
 rw [<-this] at h
 rcases List.mem_append.1 h with h|h
 ·exact List.mem_append_left _ (List.mem_append_left _ h)
 exact List.mem_append_right _ h
theorem E2 {l:List HalfD}:cv l=true↔HaOk l:=by
 simp only [cv,Bool.and_eq_true,decide_eq_true_eq]
 have hat:∀ (j:Nat) (hj:j < l.length),a_ l l[j].road=(j:Int)↔∀ (i:Nat) (hi:i < j),¬ l[i].road=l[j].road:=by
  intro j hj
  rw [a_,xE]
  constructor
  ·rintro⟨_,_,h⟩ i hi
   have:=h i hi
   intro hc
   rw [hc,g9.2 rfl] at this
   cases this
  intro h
  exact⟨hj,g9.2 rfl,fun i hi=>by
   cases hq:dM l[i].road l[j].road with
   |false=>rfl
   |true=>exact absurd (g9.1 hq) (h i hi)⟩
 have hel:∀ (j:Nat) (hj:j < l.length),fO l j=true↔HaE l[j]/\a_ l l[j].road=(j:Int):=by
  intro j hj
  simp only [fO,tG hj,Bool.and_eq_true,u0,List.all_cons,List.all_nil,HX,beq_iff_eq,and_true,HaE]
 constructor
 ·rintro⟨h1,h2⟩
  have hu:=fun (j:Nat) (hj:j < l.length)=>(hel j hj).1 (iz h2 hj)
  refine⟨by omega,fun h hh=>?_,?_⟩
  ·obtain⟨j,hj,rfl⟩:=List.getElem_of_mem hh
   exact (hu j hj).1
  rw [List.pairwise_iff_getElem]
  intro i j hi hj hij
  exact (hat j hj).1 (hu j hj).2 i hij
 rintro⟨h1,h2,h3⟩
 rw [List.pairwise_iff_getElem] at h3
 exact⟨by omega,ed fun j hj=>(hel j hj).2 ⟨h2 _ (List.getElem_mem hj),(hat j hj).2 fun i hi=>h3 i j (by omega) hj hi⟩⟩
theorem HaOk.young {l:List HalfD} {n:Int} (h:HaOk l):HaOk (bx l n):=h.sub List.filter_sublist
theorem FN {l:List SubD} {r:RoadD}:aU l r < 0↔∀ s∈l,s.state=4\/¬ s.road=r:=by
 rw [aU,xF]
 refine forall_congr' fun s=>forall_congr' fun hs=>?_
 by_cases h1:s.state=4
 ·simp [h1]
 by_cases h2:s.road=r
 ·subst h2;simp [h1,g9]
 have:dM s.road r=false:=by
  cases hq:dM s.road r with
  |false=>rfl
  |true=>exact absurd (g9.1 hq) h2
 simp [this,h2]
theorem EV {l:List SubD} {r:RoadD} {n:Nat}:aU l r=(n:Int)↔∃ h:n < l.length,¬ l[n].state=4/\l[n].road=r/\∀ (i:Nat) (hi:i < n),l[i].state=4\/¬ l[i].road=r:=by
 rw [aU,xE]
 refine exists_congr fun h=>?_
 have hp:∀ s:SubD,(s.state != 4 && dM s.road r)=false↔s.state=4\/¬ s.road=r:=by
  intro s
  by_cases h1:s.state=4
  ·simp [h1]
  cases hq:dM s.road r with
  |false=>simp [h1,show ¬ s.road=r from fun hc=>by rw [g9.2 hc] at hq;cases hq]
  |true=>simp [h1,g9.1 hq]
 simp only [hp]
 rw [<-and_assoc]
 refine and_congr_left fun _=>?_
 simp [g9]
theorem GM {l:List SubD}:dy (cz l) l.length=true↔SuOk l:=by
 have hel:∀ (j:Nat) (hj:j < l.length),cz l j=true↔SuE l[j]/\(l[j].state=4\/aU l l[j].road=(j:Int)):=by
  intro j hj
  simp only [cz,ke hj,Bool.and_eq_true,vP,u0,List.all_cons,List.all_nil,HX,beq_iff_eq,and_true,Bool.or_eq_true,SuE]
  constructor
  ·rintro⟨⟨⟨a,b⟩,c⟩,d⟩;exact⟨⟨a,b,c⟩,d⟩
  rintro⟨⟨a,b,c⟩,d⟩;exact⟨⟨⟨a,b⟩,c⟩,d⟩
 constructor
 ·intro h2
  have hu:=fun (j:Nat) (hj:j < l.length)=>(hel j hj).1 (iz h2 hj)
  refine⟨fun s hs=>?_,?_⟩
  ·obtain⟨j,hj,rfl⟩:=List.getElem_of_mem hs
   exact (hu j hj).1
  rw [List.pairwise_iff_getElem]
  intro i j hi hj hij
  rcases (hu j hj).2 with h|h
  ·exact .inr (.inl h)
  obtain⟨_,_,_,h⟩:=EV.1 h
  rcases h i hij with h|h
  ·exact .inl h
  exact .inr (.inr h)
 rintro⟨h2,h3⟩
 rw [List.pairwise_iff_getElem] at h3
 refine ed fun j hj=>(hel j hj).2 ⟨h2 _ (List.getElem_mem hj),?_⟩
 by_cases h4:l[j].state=4
 ·exact .inl h4
 refine .inr (EV.2 ⟨hj,h4,rfl,fun i hi=>?_⟩)
 rcases h3 i j (by omega) hj hi with h|h|h
 ·exact .inl h
 ·exact absurd h h4
 exact .inr h
theorem SuOk.st4 {l:List SubD} {n:Nat} (h:SuOk l) (hn:n < l.length):SuOk (bP l n 4):=by
 rw [gW hn]
 exact h.set hn ((h.el _ (List.getElem_mem hn)).st (by omega)) rfl fun _=>rfl
theorem p5 {e:EndD}:af e=true↔OkE e:=by
 simp only [af,Bool.and_eq_true,vP,sM,E2,Hg,GM,List.all_cons,List.all_nil,HX,decide_eq_true_eq,and_true]
 constructor
 ·rintro⟨⟨⟨⟨⟨⟨⟨⟨⟨⟨⟨⟨⟨a1,a2⟩,a3⟩,a4⟩,a5⟩,a6⟩,a7⟩,a8⟩,a9⟩,a10⟩,a11⟩,a12⟩,a13⟩,a14⟩
  exact⟨a1,a2,a3,a4,a5,a6,a7,a8,a9,a10,a11,by omega,a13,a14⟩
 rintro⟨a1,a2,a3,a4,a5,a6,a7,a8,a9,a10,a11,a12,a13,a14⟩
 exact⟨⟨⟨⟨⟨⟨⟨⟨⟨⟨⟨⟨⟨a1,a2⟩,a3⟩,a4⟩,a5⟩,a6⟩,a7⟩,a8⟩,a9⟩,a10⟩,a11⟩,by omega⟩,a13⟩,a14⟩
theorem v2 {x:LetterD} (h:dZ x=true):N9 x.frm/\N9 x.to/\N9 x.port/\N9 x.nonce/\N9 x.give/\N9 x.sgn/\N9 x.id/\N9 x.addr/\N9 x.pos:=by
 simp only [dZ,bj,iv,List.all_cons,List.all_nil,gA,Bool.and_eq_true,decide_eq_true_eq,Bool.and_true] at h
 simp only [N9]
 omega
theorem Fq {b:BucketD} (h:bucketOk b=true):bucketOk (bI b).1=true:=by
 rw [bI];split
 ·rename_i hc
  simp only [bucketOk,Bool.and_eq_true,vP] at h⊢
  have:=hc.2
  omega
 exact h
theorem FO {b:BucketD} (h:bucketOk b=true):bucketOk (cr b)=true:=by
 rw [cr,if_pos h]
 simp only [bucketOk,Bool.and_eq_true,vP] at h⊢
 omega
theorem u3 {o:OutD}:outOk o=true↔FineO o:=by
 refine⟨gp,fun h=>?_⟩
 obtain⟨h1,h2,h3,h4,h5⟩:=h
 simp only [outOk,gA,bj,Bool.and_eq_true,decide_eq_true_eq]
 rw [ym (by omega)]
 omega
theorem HY {o:OutD} {n:Int} (h:outOk o=true) (hn:N9 n):outOk (nI o n)=true:=by
 have F:=gp h
 obtain⟨h1,h2,h3,h4,h5⟩:=F
 rw [nI];split
 ·rename_i hc
  obtain⟨_,c1,c2⟩:=hc
  rw [ym (by omega)] at c2
  rw [u3]
  refine⟨hn,h2,?_,?_⟩
  ·simp only [List.length_drop];omega
  simp only [List.length_drop];split<;>omega
 exact h
theorem wp {l:List Int} {n:Int}:mq l n=true↔n∈l:=by simp [mq]
theorem HI {l:List Int} {n:Int}:mq l n=false↔¬ n∈l:=by rw [<-wp];simp
theorem ws {l:List SubD} {r:RoadD} (h:0<=aU l r):∃ n:Nat,aU l r=(n:Int)/\∃ hn:n < l.length,¬ l[n].state=4/\l[n].road=r/\∀ (i:Nat) (hi:i < n),l[i].state=4\/¬ l[i].road=r:=by
 obtain⟨n,hn⟩:=xG h
 exact⟨n,hn,EV.1 hn⟩
theorem Fr {l:List HalfD} {r:RoadD} (h:0<=a_ l r):∃ n:Nat,a_ l r=(n:Int)/\∃ hn:n < l.length,l[n].road=r:=by
 obtain⟨n,hn⟩:=xG h
 obtain⟨h1,h2,_⟩:=xE.1 hn
 exact⟨n,hn,h1,g9.1 h2⟩
theorem EW {l:List AddrD} {k:Int} (h:0<=aG l k):∃ n:Nat,aG l k=(n:Int)/\∃ hn:n < l.length,l[n].id=k:=by
 obtain⟨n,hn⟩:=xG h
 obtain⟨h1,h2,_⟩:=xE.1 hn
 exact⟨n,hn,h1,by simpa using h2⟩
theorem Hh {e:EndD} {x:LetterD} (h:0<=fo e x):∃ n:Nat,fo e x=(n:Int)/\cF e x=(n:Int)/\∃ hn:n < e.subs.length,e.subs[n].state=3/\e.subs[n].take=x.sgn/\e.subs[n].road=roadOf x/\dZ x=true:=by
 rcases f9 e x with h0|⟨n,h1,h2,h3,_,h5⟩
 ·omega
 refine⟨n,h1,h2,h3,?_⟩
 rw [cF] at h2
 split at h2
 ·omega
 rename_i h6
 split at h2
 ·rename_i h7
  obtain⟨m,hm,hmn,_,hr,_⟩:=ws (show 0<=aU e.subs (roadOf x) by omega)
  have:m=n:=by omega
  subst this
  rw [hm,Int.toNat_natCast,ke hmn] at h7
  exact⟨h7.1,h7.2,hr,h5⟩
 omega
theorem Hi {x:LetterD} (h:dZ x=true):RN (roadOf x):=by
 obtain⟨h1,h2,h3,_⟩:=v2 h
 exact⟨h2,h1,h3⟩
theorem GY {e:EndD} {x:LetterD} (h:OkE e) (hst:e.state=2):OkE (bM e x).1/\(bM e x).1.state=2:=by
 refine jS (Q:=fun r=>OkE r.1/\r.1.state=2) ⟨h,hst⟩ ?_ ?_ ?_ ?_ ?_ ?_ ?_ ?_ ?_ ?_ ?_ ?_
 ·unfold ax;split
  ·rename_i hk
   simp only [f8,Bool.and_eq_true,decide_eq_true_eq] at hk
   omega
  exact⟨h,hst⟩
 ·unfold aS;split
  ·rename_i hk
   simp only [i2,Bool.and_eq_true,decide_eq_true_eq] at hk
   omega
  exact⟨h,hst⟩
 ·unfold br;split
  ·rename_i hk
   simp only [rF,Bool.and_eq_true,decide_eq_true_eq,vP] at hk
   obtain⟨⟨⟨⟨⟨⟨⟨⟨⟨k1,k2⟩,k3⟩,k4⟩,k5⟩,k6⟩,k7⟩,k8⟩,k9⟩,k10⟩:=hk
   have hd:N9 (e.draw+4):=⟨by omega,by omega⟩
   split
   ·rename_i hs
    simp only [fg,Bool.and_eq_true,decide_eq_true_eq] at hs
    obtain⟨n,e1,hn,_⟩:=Fr hs.1.1
    refine⟨⟨h.side,h.state,h.pol,h.own,h.far,?_,Fq h.bucket,h.out,h.inp,h.done,h.over,h.subs8,h.nums,h.subs⟩,hst⟩
    dsimp only
    rw [wP,e1,Int.toNat_natCast,g0 hn]
    refine h.halfs.pt (by simp) fun i h1 h2=>?_
    rw [List.getElem_set]
    have hel:=h.halfs.el _ (List.getElem_mem h2)
    split
    ·rename_i e;subst e
     exact⟨⟨hel.1,hel.2.1,hel.2.2.1,hel.2.2.2.1,hel.2.2.2.2.1,by have:=h.nums.2.2.2.1;simp only [N9] at this⊢;omega⟩,rfl⟩
    exact⟨hel,rfl⟩
   refine⟨⟨h.side,h.state,h.pol,h.own,h.far,?_,Fq h.bucket,h.out,h.inp,h.done,h.over,h.subs8,⟨h.nums.1,h.nums.2.1,hd,h.nums.2.2.2⟩,h.subs⟩,hst⟩
   dsimp only
   rw [bJ];split
   ·rename_i hh;exact E2.1 hh
   exact h.halfs
  exact⟨h,hst⟩
 ·unfold ay;split
  ·rename_i hk
   simp only [tO,Bool.and_eq_true,decide_eq_true_eq] at hk
   obtain⟨⟨⟨⟨⟨k1,k2⟩,k3⟩,k4⟩,k5⟩,k6⟩:=hk
   obtain⟨n,e1,hn,_,_,_⟩:=ws k4
   rw [e1,Int.toNat_natCast,ke hn] at k5
   obtain⟨_,_,_,x1,x2,_⟩:=v2 k2
   have hel:=h.subs.el _ (List.getElem_mem hn)
   refine⟨⟨h.side,h.state,h.pol,h.own,h.far,h.halfs,h.bucket,h.out,h.inp,h.done,h.over,by dsimp only;rw [List.length_set];exact h.subs8,h.nums,?_⟩,hst⟩
   dsimp only
   rw [e1,Int.toNat_natCast,ke hn]
   exact h.subs.set hn ⟨by simp [mD],hel.2.1,hel.2.2.1,x1,x2,hel.2.2.2.2.2.1,by simp [mD,N9]⟩ rfl fun h4=>by omega
  exact⟨h,hst⟩
 ·unfold ao;split
  ·rename_i hk
   simp only [mE,Bool.and_eq_true,decide_eq_true_eq] at hk
   split
   ·rename_i ha
    simp only [rE,Bool.and_eq_true,decide_eq_true_eq] at ha
    obtain⟨i,e2,hi,_⟩:=Fr ha.1.1
    have hel:=h.halfs.el _ (List.getElem_mem hi)
    have hsu:SuE (jI (roadOf x) (wP e x)):=by
     rw [wP,e2,Int.toNat_natCast,g0 hi]
     exact⟨by simp [jI],Hi hk.1.2,hel.2.2.1,hel.2.1,hel.2.2.2.1,hel.2.2.2.2.1,by simp [jI,N9]⟩
    refine⟨⟨h.side,h.state,h.pol,h.own,h.far,h.halfs.drop,h.bucket,h.out,h.inp,h.done,h.over,?_,h.nums,?_⟩,hst⟩
    ·dsimp only
     split<;>simp only [bP,List.length_append,List.length_set,List.length_singleton]<;>omega
    dsimp only
    split
    ·rename_i h0
     obtain⟨n,e1,hn,k1,k2,k3⟩:=ws h0
     rw [e1,Int.toNat_natCast]
     refine (h.subs.st4 hn).app hsu fun y hy=>?_
     rw [gW hn] at hy
     obtain⟨j,hj,rfl⟩:=List.getElem_of_mem hy
     rw [List.getElem_set]
     split
     ·exact .inl rfl
     rename_i hnj
     rw [List.length_set] at hj
     have hq:=h.subs.pw
     rw [List.pairwise_iff_getElem] at hq
     have:e.subs[j].state=4\/¬ e.subs[j].road=e.subs[n].road:=by
      rcases Nat.lt_or_gt_of_ne hnj with hl|hl
      ·rcases hq n j hn hj hl with q|q|q
       ·exact absurd q k1
       ·exact .inl q
       exact .inr fun hc=>q hc.symm
      rcases hq j n hj hn hl with q|q|q
      ·exact .inl q
      ·exact absurd q k1
      exact .inr q
     rw [k2] at this
     exact this
    rename_i h0
    refine h.subs.app hsu fun y hy=>?_
    exact FN.1 (show aU e.subs (roadOf x) < 0 by omega) y hy
   split<;>exact⟨h,hst⟩
  exact⟨h,hst⟩
 ·unfold aE;dsimp only;split
  ·rename_i hk
   simp only [mu,Bool.and_eq_true,decide_eq_true_eq] at hk
   obtain⟨⟨⟨⟨k1,k2⟩,k3⟩,k4⟩,k5⟩:=hk
   obtain⟨n,e1,hn,_,_,_⟩:=ws k3
   rw [e1,Int.toNat_natCast,ke hn] at k4
   refine⟨⟨h.side,h.state,h.pol,h.own,h.far,h.halfs,h.bucket,h.out,h.inp,h.done,h.over,by dsimp only;rw [bP,List.length_set];exact h.subs8,h.nums,?_⟩,hst⟩
   dsimp only
   rw [e1,Int.toNat_natCast,gW hn]
   exact h.subs.set hn ((h.subs.el _ (List.getElem_mem hn)).st (by omega)) rfl fun h4=>by omega
  exact⟨h,hst⟩
 ·unfold bC;split
  ·rename_i hk
   simp only [lH,Bool.and_eq_true,Bool.not_eq_true',HI] at hk
   exact⟨⟨h.side,h.state,h.pol,h.own,h.far.put,h.halfs,h.bucket,h.out,h.inp,h.done,h.over.put hk.1.1.2,h.subs8,h.nums,h.subs⟩,hst⟩
  exact⟨h,hst⟩
 ·unfold bD;dsimp only;split
  ·rename_i hk
   simp only [hZ,Bool.and_eq_true,decide_eq_true_eq] at hk
   obtain⟨n,e1,hn,_⟩:=EW hk.1.2
   have hp:∀ (i:Nat) (h1:i < (e.own.set (aG e.own x.id).toNat { kU e.own (aG e.own x.id).toNat with told:=true }).length) (h2:i < e.own.length),
     (e.own.set (aG e.own x.id).toNat { kU e.own (aG e.own x.id).toNat with told:=true })[i].id=e.own[i].id/\(e.own.set (aG e.own x.id).toNat { kU e.own (aG e.own x.id).toNat with told:=true })[i].addr=e.own[i].addr:=by
    intro i h1 h2
    rw [List.getElem_set]
    split
    ·rename_i he
     rw [e1,Int.toNat_natCast] at he
     subst he
     rw [e1,Int.toNat_natCast,hV hn]
     exact⟨rfl,rfl⟩
    exact⟨rfl,rfl⟩
   refine⟨⟨h.side,h.state,h.pol,h.own.pt (by simp) hp,h.far,h.halfs,h.bucket,h.out,h.inp,h.done.pt fun a ha=>?_,h.over,h.subs8,h.nums,h.subs⟩,hst⟩
   obtain⟨j,hj,rfl⟩:=List.getElem_of_mem ha
   have hj':=hj
   rw [List.length_set] at hj'
   exact⟨e.own[j],List.getElem_mem hj',(hp j hj hj').1.symm⟩
  exact⟨h,hst⟩
 ·unfold bE;dsimp only;split
  ·rename_i hk
   simp only [mJ,Bool.and_eq_true,decide_eq_true_eq] at hk
   obtain⟨n,e1,hn,e2⟩:=EW hk.2
   refine⟨⟨h.side,h.state,h.pol,h.own,h.far.drop,h.halfs,h.bucket,h.out,h.inp,h.done,h.over.drop h.far ⟨_,List.getElem_mem hn,e2⟩,by dsimp only;rw [List.length_map];exact h.subs8,h.nums,h.subs.map fun s hs=>?_⟩,hst⟩
   rw [jP];split
   ·exact⟨(h.subs.el s hs).st (by omega),rfl,fun _=>rfl⟩
   exact⟨h.subs.el s hs,rfl,fun h=>h⟩
  exact⟨h,hst⟩
 ·unfold bF;split
  ·refine⟨⟨h.side,h.state,h.pol,h.own,h.far,h.halfs,h.bucket,h.out,?_,h.done,h.over,h.subs8,h.nums,h.subs⟩,hst⟩
   dsimp only
   rw [rX]
   rcases rW e.inp x.pos x.text with hp|hp
   ·rw [hp];exact h.inp
   exact hp
  exact⟨h,hst⟩
 ·unfold bA;dsimp only;split
  ·rename_i hk
   obtain⟨n,_,_,hn,_,_,_,hl⟩:=Hh hk
   obtain⟨_,_,_,_,_,_,_,_,hp⟩:=v2 hl
   exact⟨⟨h.side,h.state,h.pol,h.own,h.far,h.halfs,h.bucket,HY h.out hp,h.inp,h.done,h.over,h.subs8,h.nums,h.subs⟩,hst⟩
  exact⟨h,hst⟩
 unfold bf;dsimp only;split
 ·rename_i hk
  obtain⟨n,_,e1,hn,_⟩:=Hh hk
  refine⟨⟨h.side,h.state,h.pol,h.own,h.far,h.halfs,h.bucket,h.out,h.inp,h.done,h.over,by dsimp only;rw [bP,List.length_set];exact h.subs8,h.nums,?_⟩,hst⟩
  dsimp only
  rw [e1,Int.toNat_natCast]
  exact h.subs.st4 hn
 exact⟨h,hst⟩
theorem Gt {o:OutD} (F:FineO o):((cy o).length:Int)<=o.base+(o.text.length:Int) - o.sent:=by
 have:=F.sent
 simp only [cy,List.length_take,List.length_drop]
 omega
theorem GN {o:OutD} (h:outOk o=true):outOk (qg o)=true:=by
 rw [qg];split
 ·have F:=gp h
  have hl:=Gt F
  obtain⟨h1,h2,h3,h4,h5⟩:=F
  rw [u3]
  exact⟨h1,h2,h3,by dsimp only;omega⟩
 exact h
theorem HJ {n:Int} (h:N9 n):N9 (i8 n):=by
 simp only [N9] at h⊢
 rw [i8];split<;>omega
theorem F8 {e:EndD} (h:OkE e):OkE (cL e).1:=by
 unfold cL;split
 ·exact⟨h.side,h.state,h.pol,h.own,h.far,h.halfs,h.bucket,GN h.out,h.inp,h.done,h.over,h.subs8,⟨h.nums.1,h.nums.2.1,h.nums.2.2.1,h.nums.2.2.2.1,HJ h.nums.2.2.2.2⟩,h.subs⟩
 exact h
theorem v3 {e:EndD}:(cL e).1.state=e.state:=by unfold cL;split<;>rfl
theorem Fs:∀ {k:Nat} {e:EndD},OkE e->OkE (cu k e).1/\(cu k e).1.state=e.state
 |0,e,h=>⟨h,rfl⟩
 |k+1,e,h=>by
  obtain⟨h1,h2⟩:=Fs (k:=k) (F8 h)
  exact⟨h1,h2.trans v3⟩
theorem Hj {o:OutD} {t:List UInt8} (h:outOk o=true):outOk (eL o t).1=true:=by
 rw [eL];split
 ·obtain⟨h1,h2,h3,h4,h5⟩:=gp h
  rw [u3]
  refine⟨h1,h2,?_,?_⟩
  ·simp only [List.length_append,List.length_take,i9];omega
  simp only [List.length_append,List.length_take,i9];omega
 exact h
theorem Ft {e:EndD} {t:List UInt8} (h:OkE e):OkE (cc e t).1/\(cc e t).1.state=e.state:=by
 unfold cc;split
 ·exact⟨⟨h.side,h.state,h.pol,h.own,h.far,h.halfs,h.bucket,Hj h.out,h.inp,h.done,h.over,h.subs8,h.nums,h.subs⟩,rfl⟩
 exact⟨h,rfl⟩
theorem HZ {p:PiecesD} {m:Int} (h:piecesOk p=true) (hs:SmallP p):piecesOk (bK p m).1=true:=by
 rw [bK];split
 ·rename_i hk
  simp only [sg,Bool.and_eq_true,decide_eq_true_eq] at hk
  have F:=dt h hs
  have hr:=F.ready
  have hr0:=F.r0
  have hn:=F.next
  have hN:w9 p m<=p.ready.length:=Nat.min_le_right _ _
  simp only [piecesOk,gA,Bool.and_eq_true,decide_eq_true_eq] at h⊢
  obtain⟨⟨⟨⟨a1,a2⟩,a3⟩,a4⟩,a5⟩:=h
  have hle:=vy (M:=200) fun x hx=>(F.texts x hx).1
  have hm:p.list.length*200<=20*200:=Nat.mul_le_mul_right _ F.list
  refine⟨⟨⟨⟨by omega,by omega⟩,a3⟩,?_⟩,?_⟩
  ·rw [mt,mM (by omega) (by omega)] at a4
   show fD ((p.ready.drop (w9 p m)).length:Int) p.list<=200
   rw [mM (by omega) (by rw [List.length_drop];omega),List.length_drop]
   omega
  have e:nextOf ⟨p.read+(w9 p m:Int),p.ready.drop (w9 p m),p.list⟩=nextOf p:=by
   rw [hn,nextOf,ym (by simp only [List.length_drop];omega)]
   simp only [List.length_drop]
   omega
  rw [e];exact a5
 exact h
theorem HK {e:EndD} {m:Int} (h:OkE e) (hs:SmallP e.inp):OkE (bi e m).1/\(bi e m).1.state=e.state:=by
 unfold bi;split
 ·exact⟨⟨h.side,h.state,h.pol,h.own,h.far,h.halfs,h.bucket,h.out,HZ h.inp hs,h.done,h.over,h.subs8,h.nums,h.subs⟩,rfl⟩
 exact⟨h,rfl⟩
theorem GZ {o:OutD} (h:outOk o=true):outOk (fi o)=true:=by
 rw [fi,if_pos h]
 obtain⟨h1,h2,h3,h4,h5⟩:=gp h
 rw [u3]
 exact⟨h1,h2,h3,by dsimp only;omega⟩
theorem Fu {e:EndD} {l:List LetterD} (h:OkE e):OkE (bQ e l).1/\(bQ e l).1.state=e.state:=Fs h
theorem H0 {e:EndD} (h:OkE e):OkE (cQ e).1/\(cQ e).1.state=e.state:=by
 unfold cQ;split
 ·rename_i hk
  simp only [AT,Bool.and_eq_true,decide_eq_true_eq,List.all_eq_true] at hk
  have h0:∀ s:List SubD,s.length<=8->SuOk s->OkE { eR e with subs:=s }:=fun s h8 hs=>
   ⟨h.side,h.state,h.pol,h.own,h.far,h.halfs.young,FO h.bucket,GZ h.out,h.inp,h.done,h.over,h8,⟨h.nums.1,h.nums.2.1,h.nums.2.2.1,by have:=h.nums.2.2.2.1;simp only [N9,eR] at this⊢;omega,h.nums.2.2.2.2⟩,hs⟩
  split
  ·refine Fu (h0 _ (by rw [List.length_map];exact h.subs8) (h.subs.map fun s hs=>?_))
   have hel:=h.subs.el s hs
   have ht:=hk.2 s hs
   have hN:N9 (s.tries+1):=by have:=hel.2.2.2.2.2.2;simp only [N9] at this⊢;omega
   rw [cW];split
   ·rename_i hc
    split
    ·exact⟨⟨by simp,hel.2.1,hel.2.2.1,hel.2.2.2.1,hel.2.2.2.2.1,hel.2.2.2.2.2.1,hN⟩,rfl,fun _=>rfl⟩
    exact⟨⟨hel.1,hel.2.1,hel.2.2.1,hel.2.2.2.1,hel.2.2.2.2.1,hel.2.2.2.2.2.1,hN⟩,rfl,fun h=>h⟩
   exact⟨hel,rfl,fun h=>h⟩
  exact Fu (h0 e.subs h.subs8 h.subs)
 exact⟨h,rfl⟩
theorem G0 {e:EndD} {r:RoadD} {b:Bool} (h:OkE e):OkE (dz e r b).1/\(dz e r b).1.state=e.state:=by
 unfold dz;split
 ·rename_i hk
  simp only [w_,Bool.and_eq_true,decide_eq_true_eq,vP,u0] at hk
  obtain⟨⟨⟨⟨⟨⟨⟨k1,k2⟩,k3⟩,k4⟩,k5⟩,k6⟩,k7⟩,k8⟩:=hk
  refine⟨⟨h.side,h.state,h.pol,h.own,h.far,h.halfs,h.bucket,h.out,h.inp,h.done,h.over,by simp only [List.length_append,List.length_singleton];omega,⟨h.nums.1,h.nums.2.1,⟨by dsimp only;omega,by dsimp only;omega⟩,h.nums.2.2.2⟩,?_⟩,rfl⟩
  refine h.subs.app ⟨by simp [eN],k3,?_,?_,?_,?_,?_⟩ fun x hx=>FN.1 k4 x hx
  all_goals simp only [eN,N9];omega
 exact⟨h,rfl⟩
theorem Gu {far:List AddrD}:∀ {l:List RoadD} {e:EndD},OkE e->OkE (dS far e l).1/\(dS far e l).1.state=e.state
 |[],e,h=>⟨h,rfl⟩
 |r::l,e,h=>by
  obtain⟨h1,h2⟩:=G0 (r:=r) (b:=aZ far r.far) h
  obtain⟨h3,h4⟩:=Gu (far:=far) (l:=l) h1
  exact⟨h3,h4.trans h2⟩
theorem G1 {e:EndD} {a:ActD} (h:OkE e) (hs:SmallP e.inp):OkE (ie e a).1/\(ie e a).1.state=e.state:=by
 unfold ie
 split
 ·obtain⟨h1,h2⟩:=Ft (t:=a.text) h
  obtain⟨h3,h4⟩:=Fs (k:=3) h1
  exact⟨h3,h4.trans h2⟩
 split
 ·exact HK h hs
 split
 ·exact H0 h
 split
 ·unfold bb;split
  ·exact Gu h
  exact⟨h,rfl⟩
 split
 ·unfold az;split
  ·rename_i hk
   simp only [AR,Bool.and_eq_true,Bool.not_eq_true',HI] at hk
   exact⟨⟨h.side,h.state,h.pol,h.own.put,h.far,h.halfs,h.bucket,h.out,h.inp,h.done.put hk.2,h.over,h.subs8,h.nums,h.subs⟩,rfl⟩
  exact⟨h,rfl⟩
 split
 ·unfold iA;split
  ·rename_i hk
   simp only [Du,Bool.and_eq_true,decide_eq_true_eq] at hk
   obtain⟨n,e1,hn,e2⟩:=EW hk.2
   refine⟨⟨h.side,h.state,h.pol,h.own.drop,h.far,h.halfs,h.bucket,h.out,h.inp,h.done.drop h.own ⟨_,List.getElem_mem hn,e2⟩,h.over,by dsimp only;rw [ic,List.length_map];exact h.subs8,h.nums,h.subs.map fun s hs=>?_⟩,rfl⟩
   rw [Dt];split
   ·exact⟨(h.subs.el s hs).st (by omega),rfl,fun _=>rfl⟩
   exact⟨h.subs.el s hs,rfl,fun h=>h⟩
  exact⟨h,rfl⟩
 unfold ks;split
 ·rename_i hk
  simp only [EE,Bool.and_eq_true,decide_eq_true_eq,vP] at hk
  obtain⟨n,hn⟩:=Int.eq_ofNat_of_zero_le hk.1.2.1
  refine⟨⟨h.side,h.state,h.pol,h.own,h.far,h.halfs,h.bucket,h.out,h.inp,h.done,h.over,by dsimp only;rw [bP,List.length_set];exact h.subs8,h.nums,?_⟩,rfl⟩
  dsimp only
  rw [hn,Int.toNat_natCast]
  exact h.subs.st4 (by omega)
 exact⟨h,rfl⟩
structure Inv (w:WorldD):Prop where
 c:Core w
 bag:∀ x∈w.bag,LetI w x
 past:∀ x∈w.past,LetI w x
theorem Gv {l:List SubD} (h:l.Pairwise fun s t=>¬ s.take=t.take) {s t:SubD} (hs:s∈l) (ht:t∈l) (e:s.take=t.take):s=t:=by
 obtain⟨i,hi,rfl⟩:=List.getElem_of_mem hs
 obtain⟨j,hj,rfl⟩:=List.getElem_of_mem ht
 rw [List.pairwise_iff_getElem] at h
 rcases Nat.lt_trichotomy i j with hl|hl|hl
 ·exact absurd e (h i j hi hj hl)
 ·subst hl;rfl
 exact absurd e.symm (h j i hj hi hl)
theorem Fv {l:List Int} {n m:Int} (h:m∈cP l n):m=n/\0 < n\/m∈l:=by
 rw [cP] at h;split at h
 ·rename_i hc
  rcases List.mem_append.1 h with h|h
  ·exact .inr h
  exact .inl ⟨List.mem_singleton.1 h,hc.1⟩
 exact .inr h
theorem sp {l:List Int} {n m:Int} (h:m∈l):m∈cP l n:=by
 rw [cP];split
 ·exact List.mem_append_left _ h
 exact h
theorem Hk {w:WorldD} {x:LetterD} (h:sideAt x.to=0):LetI w x:=by
 constructor<;>(intro h1;omega)
theorem Post.let {w:WorldD} {x:LetterD} (h:Post w x):LetI w x:=h.some.elim Hk id
theorem E8 {w w':WorldD} (ha:w'.a=w.a) (hb:w'.b=w.b) (hn:∀ n∈w.nums,n∈w'.nums) (h1:w'.wroteA=w.wroteA) (h2:w'.wroteB=w.wroteB):Le w w':=by
 refine⟨by rw [ha],by rw [hb],hn,fun s hs=>⟨s,by rw [ha];exact hs,SubTo.refl s⟩,fun t ht=>⟨t,by rw [hb];exact ht,rfl⟩,by rw [hb];exact Int.le_refl _,fun h hh=>.inr ⟨h,by rw [hb] at hh;exact hh,rfl,rfl,rfl,rfl⟩,fun i d h=>by rw [ha];exact h,fun i d h=>by rw [hb];exact h,⟨[],by rw [h1,List.append_nil]⟩,⟨[],by rw [h2,List.append_nil]⟩⟩
theorem GO {k:KnownD} {t u:TagD} (h:u∈(ez k t).tags):u=t\/u∈k.tags:=by
 rw [ez] at h;split at h
 ·rcases List.mem_append.1 h with h|h
  ·exact .inr h
  exact .inl (List.mem_singleton.1 h)
 exact .inr h
theorem Fw {w:WorldD} {side:Int} {x:LetterD} (h:Core w):Core (mU side w x):=⟨h.oka,h.okb,h.sta,h.stb,h.sia,h.sib,h.ka,h.kb,h.kk,h.pa,h.pb,h.keys,h.tags,h.da,h.db,h.nn,h.sa,h.sad,h.sb,h.ha,h.hb,h.hbd,h.oa,h.ob,h.fa,h.fb,h.oia,h.oib,h.iia,h.iib⟩
theorem Gw {w:WorldD} {l:List LetterD} (h:Core w):Core { w with bag:=l }:=⟨h.oka,h.okb,h.sta,h.stb,h.sia,h.sib,h.ka,h.kb,h.kk,h.pa,h.pb,h.keys,h.tags,h.da,h.db,h.nn,h.sa,h.sad,h.sb,h.ha,h.hb,h.hbd,h.oa,h.ob,h.fa,h.fb,h.oia,h.oib,h.iia,h.iib⟩
theorem GP {w:WorldD} {x:LetterD} (h:Core w) (F:Free w x):Core (vH w x):=by
 have hn:∀ n∈(vH w x).nums,n=x.nonce\/n=x.give\/n∈w.nums:=by
  intro n hm
  rcases Fv hm with⟨_,h0⟩|hm
  ·rw [F.sgn] at h0;omega
  rcases Fv hm with⟨e,_⟩|hm
  ·exact .inr (.inl e)
  rcases Fv hm with⟨e,_⟩|hm
  ·exact .inl e
  exact .inr (.inr hm)
 have ho:∀ n∈w.nums,n∈(vH w x).nums:=fun n hm=>sp (sp (sp hm))
 refine⟨h.oka,h.okb,h.sta,h.stb,h.sia,h.sib,h.ka,h.kb,h.kk,h.pa,h.pb,?_,?_,h.da,h.db,?_,?_,h.sad,?_,?_,?_,h.hbd,h.oa,h.ob,h.fa,h.fb,h.oia,h.oib,h.iia,h.iib⟩
 ·rw [vH,i4];exact h.keys
 ·intro u hu
  rcases GO hu with rfl|hu
  ·exact⟨F.kind,F.th.mono ho⟩
  exact⟨(h.tags u hu).1,(h.tags u hu).2.mono ho⟩
 ·intro n hm
  rcases hn n hm with e|e|e
  ·exact F.nn n (.inl e)
  ·exact F.nn n (.inr e)
  exact h.nn n e
 ·intro s hs
  have S:=h.sa s hs
  obtain⟨f1,f2,f3⟩:=F.sa s hs
  refine⟨S.t4,fun hc=>?_,?_,S.own,S.far,S.th,S.on,S.ask⟩
  ·rcases hn _ hc with e|e|e
   ·exact f2 e
   ·exact f1 e
   exact S.tn e
  rcases S.mine with m|⟨m1,m2⟩
  ·exact .inl m
  rcases f3 with f3|⟨f3,f4⟩
  ·exact .inl f3
  refine .inr ⟨m1,fun hc=>?_⟩
  rcases hn _ hc with e|e|e
  ·exact f3 e
  ·exact f4 e
  exact m2 e
 ·intro t ht
  have S:=h.sb t ht
  obtain⟨f1,f2⟩:=F.sb t ht
  refine⟨S.t4,fun hc=>?_,S.st,S.like⟩
  rcases hn _ hc with e|e|e
  ·exact f2 e
  ·exact f1 e
  exact S.tn e
 ·intro k hk
  have S:=h.ha k hk
  exact⟨S.m4,S.sep,S.th.mono ho⟩
 intro k hk
 have S:=h.hb k hk
 refine⟨S.m4,S.sep,?_⟩
 rcases S.th with q|⟨q1,q2⟩
 ·exact .inl (q.mono ho)
 by_cases hf:k.take=x.give\/k.take=x.nonce
 ·exact .inl ((F.hb k hk hf).mono ho)
 refine .inr ⟨fun hc=>?_,q2⟩
 rcases hn _ hc with e|e|e
 ·exact hf (.inr e)
 ·exact hf (.inl e)
 exact q1 e
theorem Hl {w:WorldD} {side:Int} {x:LetterD} (h:Inv w) (P:Post w x):Inv (cn side w x)/\Le w (cn side w x)/\(cn side w x).a=w.a/\(cn side w x).b=w.b:=by
 obtain⟨e1,e2,e3,e4,_,_⟩:=gm (side:=side) (w:=w) (x:=x)
 have hpast:∀ y∈mS w.past x,y=x\/y∈w.past:=by
  intro y hy
  rw [mS] at hy;split at hy
  ·rcases List.mem_append.1 hy with hy|hy
   ·exact .inr hy
   exact .inl (List.mem_singleton.1 hy)
  exact .inr hy
 have hbag:∀ y∈ut w.bag x,y=x\/y∈w.bag:=by
  intro y hy
  rw [ut] at hy;split at hy
  ·rcases List.mem_append.1 hy with hy|hy
   ·exact .inr hy
   exact .inl (List.mem_singleton.1 hy)
  exact .inr hy
 have hL:=P.let
 by_cases h0:sideAt x.to=0
 ·have hl:Le w (cn side w x):=E8 e1 e2 (by rw [cn,if_pos h0];exact fun n hm=>sp (sp (sp hm))) e3 e4
  refine⟨?_,hl,e1,e2⟩
  have hc:=GP (w:=mU side w x) (x:=x) (Fw h.c) ⟨(P.none h0).kind,(P.none h0).th,(P.none h0).sgn,(P.none h0).sa,(P.none h0).sb,(P.none h0).hb,(P.none h0).pos,(P.none h0).nn⟩
  refine⟨by rw [cn,if_pos h0];exact hc,fun y hy=>?_,fun y hy=>?_⟩
  ·rw [cn,if_pos h0] at hy
   exact (h.bag y hy).mono hl
  rw [cn,if_pos h0] at hy
  rcases hpast y hy with rfl|hy
  ·exact hL.mono hl
  exact (h.past y hy).mono hl
 have hl:Le w (cn side w x):=E8 e1 e2 (by rw [cn,if_neg h0];exact fun n hm=>hm) e3 e4
 refine⟨?_,hl,e1,e2⟩
 refine⟨by rw [cn,if_neg h0];exact Gw (Fw h.c),fun y hy=>?_,fun y hy=>?_⟩
 ·rw [cn,if_neg h0] at hy
  rcases hbag y hy with rfl|hy
  ·exact hL.mono hl
  exact (h.bag y hy).mono hl
 rw [cn,if_neg h0] at hy
 rcases hpast y hy with rfl|hy
 ·exact hL.mono hl
 exact (h.past y hy).mono hl
theorem FP {side:Int}:∀ {l:List LetterD} {w:WorldD},Inv w->(∀ x∈l,Post w x)->Inv (an side w l)
 |[],w,h,_=>h
 |x::l,w,h,P=>by
  obtain⟨h1,h2,h3,h4⟩:=Hl (side:=side) h (P x (by simp))
  exact FP (l:=l) h1 fun y hy=>(P y (by simp [hy])).mono h2 h3 h4
theorem PutA.core {w w':WorldD} (P:PutA w w') (C:Core w):Core w':=by
 refine⟨P.ok,by rw [P.hb];exact C.okb,P.st,by rw [P.hb];exact C.stb,P.sd,by rw [P.hb];exact C.sib,by rw [P.ky];exact C.ka,by rw [P.hb];exact C.kb,by rw [P.ky,P.hb];exact C.kk,by rw [P.pe,P.hb];exact C.pa,by rw [P.hb,P.ky];exact C.pb,by rw [P.known];exact C.keys,by rw [P.known,P.nums];exact C.tags,⟨P.dr.1,by have:=C.da.2;have:=P.dr.2;omega⟩,by rw [P.hb];exact C.db,?_,by rw [P.nums,P.hb];exact P.sa,P.sad,?_,by rw [P.nums];exact P.ha,?_,by rw [P.hb];exact C.hbd,P.oa,by rw [P.hb];exact C.ob,by rw [P.hb];exact P.fa,?_,P.oia,by rw [P.wroteB,P.hb];exact C.oib,by rw [P.wroteB];exact P.iia,?_⟩
 ·rw [P.nums,P.hb]
  intro n hn
  have:=C.nn n hn
  have hd:=P.dr.2
  exact⟨fun h=>by have:=this.1 h;omega,this.2⟩
 ·rw [P.nums,P.hb]
  intro t ht
  have S:=C.sb t ht
  obtain⟨s,h1,h2,h3,h4,h5⟩:=S.like
  obtain⟨s',g1,g2⟩:=P.evo s h1
  obtain⟨r1,r2,r3⟩:=g2.rest h2
  exact⟨S.t4,S.tn,S.st,s',g1,r1,by rw [g2.road];exact h3,by rw [g2.take];exact h4,by rw [r3];exact h5⟩
 ·rw [P.nums,P.hb]
  intro h hh
  have S:=C.hb h hh
  refine⟨S.m4,S.sep,S.th.imp id fun⟨q1,s,h1,h2,h3,h4,h5⟩=>?_⟩
  obtain⟨s',g1,g2⟩:=P.evo s h1
  exact⟨q1,s',g1,by rw [g2.mine];exact h2,by rw [g2.mine];exact h3,by rw [g2.take];exact h4,by rw [g2.road];exact h5⟩
 ·rw [P.hb]
  exact fun f hf=>⟨(C.fb f hf).1,P.tl _ _ (C.fb f hf).2⟩
 rw [P.readB,P.hb]
 obtain⟨t,ht⟩:=P.wroteA
 rw [ht];exact C.iib.app t
theorem PutB.core {w w':WorldD} (P:PutB w w') (C:Core w):Core w':=by
 refine⟨by rw [P.ha];exact C.oka,P.ok,by rw [P.ha];exact C.sta,P.st,by rw [P.ha];exact C.sia,P.sd,by rw [P.ha];exact C.ka,by rw [P.ky];exact C.kb,by rw [P.ky,P.ha];exact C.kk,by rw [P.ha,P.ky];exact C.pa,by rw [P.pe,P.ha];exact C.pb,by rw [P.known];exact C.keys,by rw [P.known,P.nums];exact C.tags,by rw [P.ha];exact C.da,⟨P.dr.1,by have:=C.db.2;have:=P.dr.2;omega⟩,?_,?_,by rw [P.ha];exact C.sad,by rw [P.nums,P.ha];exact P.sb,by rw [P.nums,P.ha];exact C.ha,by rw [P.nums,P.ha];exact P.hb,P.hbd,by rw [P.ha];exact C.oa,P.ob,?_,by rw [P.ha];exact P.fb,by rw [P.wroteA,P.ha];exact C.oia,P.oib,?_,by rw [P.wroteA];exact P.iib⟩
 ·rw [P.nums,P.ha]
  intro n hn
  have:=C.nn n hn
  have hd:=P.dr.2
  exact⟨this.1,fun h=>by have:=this.2 h;omega⟩
 ·rw [P.nums,P.ha]
  intro s hs
  have S:=C.sa s hs
  refine⟨S.t4,S.tn,S.mine,S.own,S.far,⟨Int.lt_of_lt_of_le S.th.1 P.dr.2,fun h hh hm=>?_⟩,fun h3=>?_,S.ask⟩
  ·rcases P.hev h hh with g|⟨k,g1,g2,g3,g4,g5⟩
   ·have:=S.th.1;omega
   obtain⟨q1,q2,q3⟩:=S.th.2 k g1 (by omega)
   exact⟨by rw [<-g3];exact q1,by rw [<-g4];exact q2,by rw [<-g5];exact q3⟩
  obtain⟨t,g1,g2,g3,g4⟩:=S.on h3
  obtain⟨t',k1,k2,k3,k4⟩:=P.evo t g1
  exact⟨t',k1,by rw [k2];exact g2,by rw [k3];exact g3,by rw [k4];exact g4⟩
 ·rw [P.ha]
  exact fun f hf=>⟨(C.fa f hf).1,P.tl _ _ (C.fa f hf).2⟩
 rw [P.readA,P.ha]
 obtain⟨t,ht⟩:=P.wroteB
 rw [ht];exact C.iia.app t
theorem SubsKeep.st4 (l:List SubD) (n:Nat):SubsKeep l (bP l n 4):=by
 refine⟨by simp [bP],fun i h1 h2=>?_⟩
 simp only [bP,List.getElem_set]
 split
 ·rename_i e;subst e
  rw [ke h2]
  exact⟨rfl,rfl,rfl,rfl,rfl,.inr rfl⟩
 exact SubKeep.refl _
theorem F9 (W:List UInt8) (n k m:Nat):A3 W n k++A3 W (n+k) m=A3 W n (k+m):=by
 rw [A3,A3,A3,List.take_add,List.drop_drop]
theorem HL (W:List UInt8) (n k j:Nat):(A3 W n k).take j=A3 W n (min j k):=by rw [A3,A3,List.take_take]
theorem Gx {W:List UInt8} {a b:PieceD} (ha:Slice W a.pos a.text) (hb:Slice W b.pos b.text) (h1:b.pos<=a.pos+(a.text.length:Int)) (h2:a.pos<=b.pos+(b.text.length:Int)):Slice W (fh a b).pos (fh a b).text:=by
 obtain⟨n,k,e1,e2,e3,e4⟩:=ha.nat
 obtain⟨m,j,f1,f2,f3,f4⟩:=hb.nat
 rw [e3,e1,f1] at h1
 rw [f3,e1,f1] at h2
 rw [fh];split
 ·rename_i hlt
  rw [e1,f1] at hlt
  dsimp only
  rw [e1,f1,e2,f2,A4 e4,show ((n:Int) - (m:Int)).toNat=n - m by omega,HL,zQ,show min (n - m) j=n - m by omega]
  have g:A3 W m (n - m)++A3 W n k++A3 W (m+(n - m+k)) (j - (n - m+k))=A3 W m (n - m+k+(j - (n - m+k))):=by
   have h3:=F9 W m (n - m) k
   rw [show m+(n - m)=n by omega] at h3
   rw [h3,F9]
  rw [g]
  exact xH (by omega)
 rename_i hge
 rw [e1,f1] at hge
 dsimp only
 rw [e1,f1,e2,f2,A4 e4,show ((n:Int)+(k:Int) - (m:Int)).toNat=n+k - m by omega,zQ,show m+(n+k - m)=n+k by omega,F9]
 exact xH (by omega)
structure PpW (W:List UInt8) (g:PpS):Prop where
 own:Slice W g.own.pos g.own.text
 acc:∀ z∈g.acc,Slice W z.pos z.text
theorem w2 {α:Type} {l:List α} {x:α} {P:α->Prop} (hl:∀ z∈l,P z) (hx:P x):∀ z∈l++[x],P z:=fun z hz=>by
 rcases List.mem_append.1 hz with hz|hz
 ·exact hl z hz
 rw [List.mem_singleton.1 hz];exact hx
theorem HM {W:List UInt8} {g:PpS} {x:PieceD} (h:PpW W g) (hx:Slice W x.pos x.text):PpW W (gh g x):=by
 rw [gh];split
 ·exact⟨h.own,w2 h.acc hx⟩
 split
 ·refine⟨h.own,w2 ?_ hx⟩
  split
  ·exact h.acc
  exact w2 h.acc h.own
 exact⟨Gx hx h.own (by omega) (by omega),h.acc⟩
theorem HN {W:List UInt8}:∀ {l:List PieceD} {g:PpS},PpW W g->(∀ x∈l,Slice W x.pos x.text)->PpW W (mO g l)
 |[],g,h,_=>h
 |x::l,g,h,hl=>HN (l:=l) (HM h (hl x (by simp))) fun y hy=>hl y (by simp [hy])
theorem H1 {W:List UInt8} {g:PpS} (h:PpW W g):∀ z∈iN g,Slice W z.pos z.text:=by
 rw [iN];split
 ·exact h.acc
 exact w2 h.acc h.own
theorem G2 {W R:List UInt8} {p:PiecesD} {n:Int} {t:List UInt8} (h:InI W R p) (F:FineP p) (ht:Slice W n t):InI W R (kW p n t):=by
 have hA:=H1 (HN (l:=p.list) (g:=⟨⟨n,t⟩,false,[]⟩) ⟨ht,fun z hz=>by simp at hz⟩ h.list)
 rw [kW]
 generalize iN (mO ⟨⟨n,t⟩,false,[]⟩ p.list)=l at hA
 rw [iO];split
 ·rw [kV];split
  ·rename_i he
   cases l with
   |nil=>
    obtain⟨T,hT⟩:=h.pre
    have e:(default:PieceD).text=[]:=rfl
    exact⟨h.read,⟨T,by rw [List.headD_nil,e,List.append_nil];exact hT⟩,fun z hz=>by simp at hz⟩
   |cons y r=>
    rw [List.headD_cons] at he⊢
    refine⟨h.read,?_,fun z hz=>hA z (List.mem_cons_of_mem _ hz)⟩
    have hy:=hA y (by simp)
    rw [he,h.next F] at hy
    obtain⟨h1,h2⟩:=pn.1 hy
    obtain⟨T,hT⟩:=h.pre
    have hd:W.drop (R.length+p.ready.length)=T:=by
     rw [hT,List.drop_append_of_le_length (by simp)]
     simp
    refine⟨T.drop y.text.length,?_⟩
    rw [A3,hd] at h2
    dsimp only
    rw [hT]
    have:T=y.text++T.drop y.text.length:=by
     conv=>lhs;rw [<-List.take_append_drop y.text.length T]
     rw [<-h2]
    conv=>lhs;rw [this]
    simp
  exact⟨h.read,h.pre,hA⟩
 exact h
theorem Fx {W R:List UInt8} {p:PiecesD} {n:Int} {t:List UInt8} (h:InI W R p) (hs:SmallP p) (ht:Slice W n t):InI W R (bs p n t):=by
 rw [bs];split
 ·rename_i hk
  simp only [qa,Bool.and_eq_true] at hk
  have F:=dt hk.1.1 hs
  split
  ·exact h
  split
  ·have hd:=ht.drop (d:=(nextOf p - n).toNat) (by omega)
   rw [show n+((nextOf p - n).toNat:Int)=nextOf p by omega] at hd
   exact G2 h F hd
  exact G2 h F ht
 exact h
theorem HO {W R:List UInt8} {p:PiecesD} {m:Int} (h:InI W R p):InI W (R++(bK p m).2) (bK p m).1:=by
 rw [bK];split
 ·obtain⟨T,hT⟩:=h.pre
  refine⟨?_,⟨T,?_⟩,h.list⟩
  ·dsimp only
   rw [h.read]
   have:w9 p m<=p.ready.length:=Nat.min_le_right _ _
   simp only [List.length_append,List.length_take]
   omega
  dsimp only
  rw [hT]
  conv=>lhs;rw [<-List.take_append_drop (w9 p m) p.ready]
  simp
 dsimp only
 rw [List.append_nil];exact h
theorem Gy {W:List UInt8} {o:OutD} {t:List UInt8} (h:OutI W o):OutI (W++t.take (eL o t).2) (eL o t).1:=by
 rw [eL];split
 ·refine⟨⟨h.base.1,?_⟩,?_⟩
  ·have:=h.base.2
   have h2:=vJ o t
   simp only [List.length_append,List.length_take]
   omega
  dsimp only
  have:=h.base
  rw [List.drop_append_of_le_length (by omega),<-h.text]
 dsimp only
 rw [List.take_zero,List.append_nil];exact h
theorem HP {W:List UInt8} {o:OutD} {n:Int} (h:OutI W o):OutI W (nI o n):=by
 rw [nI];split
 ·rename_i hc
  obtain⟨h0,h1,h2⟩:=hc
  have F:=gp h0
  obtain⟨a1,a2,a3,a4⟩:=F
  rw [ym (by omega)] at h2
  have hb:=h.base
  refine⟨⟨by dsimp only;omega,?_⟩,?_⟩
  ·simp only [List.length_drop];omega
  dsimp only
  rw [h.text,List.drop_drop]
  congr 1
  omega
 exact h
theorem Gz {W:List UInt8} {o o':OutD} (h:OutI W o) (h1:o'.base=o.base) (h2:o'.text=o.text):OutI W o':=⟨by rw [h1,h2];exact h.base,by rw [h1,h2];exact h.text⟩
theorem FQ {W:List UInt8} {o:OutD} (h:OutI W o):OutI W (qg o):=by
 rw [qg];split
 ·exact Gz h rfl rfl
 exact h
theorem HQ {W:List UInt8} {o:OutD} (h:OutI W o):OutI W (fi o):=by
 rw [fi];split
 ·exact Gz h rfl rfl
 exact h
theorem w3 {W:List UInt8} {o:OutD} (h:OutI W o) (ho:outOk o=true):Slice W o.sent (cy o):=by
 obtain⟨a1,a2,a3,a4⟩:=gp ho
 obtain⟨n,hn⟩:=Int.eq_ofNat_of_zero_le (show 0<=o.sent by omega)
 have hb:=h.base
 have e:cy o=A3 W n (min 20 (W.length - n)):=by
  rw [cy,h.text,List.drop_drop,A3,show o.base.toNat+(o.sent - o.base).toNat=n by omega]
  rw [List.take_eq_take_iff]
  simp only [List.length_drop]
  omega
 rw [e,hn]
 exact xH (by omega)
def p3 (w:WorldD) (e:EndD):WorldD:={ w with a:=e }
structure Step (w w':WorldD) (l:List LetterD):Prop where
 c:Core w'
 le:Le w w'
 post:∀ x∈l,Post w' x
theorem PutA.step {w w':WorldD} {l:List LetterD} (P:PutA w w') (C:Core w) (h:Core w'->∀ x∈l,Post w' x):Step w w' l:=⟨P.core C,P.le,h (P.core C)⟩
theorem PutB.step {w w':WorldD} {l:List LetterD} (P:PutB w w') (C:Core w) (h:Core w'->∀ x∈l,Post w' x):Step w w' l:=⟨P.core C,P.le,h (P.core C)⟩
theorem em {w:WorldD}:∀ x∈([]:List LetterD),Post w x:=fun x hx=>by simp at hx
theorem en {w:WorldD} {y:LetterD} (h:Post w y):∀ x∈[y],Post w x:=fun x hx=>by rw [List.mem_singleton.1 hx];exact h
def E6 (k:Int):Prop:=k=1\/k=2\/k=3\/k=9\/k=10\/k=12\/k=13
theorem u4 {w:WorldD} {x:LetterD} (hk:E6 x.kind) (hs:¬ sideAt x.to=0):Post w x:=by
 simp only [E6] at hk
 refine⟨.inr ?_,fun h=>absurd h hs⟩
 constructor<;>(intro _ h;omega)
theorem G3 {w:WorldD} (C:Core w) {s:SubD} (hs:s∈w.a.subs):¬ Loose w.nums s.take:=fun h=>by
 have S:=C.sa s hs
 rcases h with h|h
 ·have:=S.t4;omega
 exact S.tn h
theorem G4 {w:WorldD} (C:Core w) {s:SubD} (hs:s∈w.a.subs) (h0:1000<=s.mine):¬ Loose w.nums s.mine:=fun h=>by
 have S:=C.sa s hs
 rcases h with h|h
 ·omega
 rcases S.mine with g|⟨_,g⟩
 ·omega
 exact g h
theorem H2 {w:WorldD} (C:Core w) {t:SubD} (ht:t∈w.b.subs):¬ Loose w.nums t.take:=fun h=>by
 have S:=C.sb t ht
 rcases h with h|h
 ·have:=S.t4;omega
 exact S.tn h
theorem Hm {w:WorldD} (C:Core w) {t:SubD} (ht:t∈w.b.subs):sideAt t.road.far=1/\sideAt t.road.own=2:=by
 obtain⟨s,h1,_,h3,_,_⟩:=(C.sb t ht).like
 have S:=C.sa s h1
 have g1:=S.own
 have g2:=S.far
 rw [h3] at g1 g2
 exact⟨g1,g2⟩
theorem In {w:WorldD} {x:LetterD} (C:Core w) (G:SmallP w.a.inp) (L:LetI w x) (hx:sideAt x.to=1):Step w (p3 w (bM w.a x).1) (bM w.a x).2:=by
 have ok:=GY (x:=x) C.oka C.sta
 have M0:=MildA.refl C
 have keep:Step w (p3 w w.a) []:=(M0.put C).step C fun _=>em
 have hk:=bM (e:=w.a) (x:=x)
 by_cases hc:cp w.a x=true
 case neg=>rw [ur (by simpa using hc)];exact keep
 by_cases k1:x.kind=1
 ·rw [y3 hc k1,ax,if_neg]
  ·exact keep
  simp only [f8,Bool.and_eq_true,decide_eq_true_eq];have:=C.sta;omega
 by_cases k2:x.kind=2
 ·rw [y4 hc k2,aS,if_neg]
  ·exact keep
  simp only [i2,Bool.and_eq_true,decide_eq_true_eq];have:=C.sta;omega
 by_cases k4:x.kind=4
 ·rw [y5 hc k4] at ok⊢
  have hL:=L.a4 hx k4
  -- what is answered for a half open road of ours
  have ans:∀ (w':WorldD) (h:HalfD),Core w'->h∈w'.a.halfs->w'.a.key=w.a.key->w'.b.key=w.b.key->w'.b.draw=w.b.draw->Post w' (kT w.a (roadOf x) h):=by
   intro w' h C' hh e1 e2 e3
   have H:=C'.ha h hh
   have hm:=H.m4
   refine⟨.inr ?_,fun h0=>⟨rfl,H.th,rfl,fun s hs=>?_,fun t ht=>?_,fun k hk hq=>?_,⟨by simp only [kT,aq];omega,by simp only [kT,aq];omega⟩,fun n hn=>?_⟩⟩
   ·constructor<;>(intro q1 q2;simp only [kT,aq,ah] at q2;try omega)
    intro m hm'
    simp only [kT,aq] at hm'
    have:=congrArg TagD.one hm'
    dsimp only at this
    exact absurd (this.symm.trans e1.symm) (fun hc=>C'.kk (by rw [<-hc]))
   ·have S:=C'.sa s hs
    have h1:=H.sep s hs
    have t4:=S.t4
    simp only [kT,aq]
    refine⟨by rw [hm.2.2.2] at h1⊢;exact h1,by omega,?_⟩
    rcases S.mine with g|⟨g,_⟩
    ·exact .inl g
    exact .inr ⟨by omega,by omega⟩
   ·have t4:=(C'.sb t ht).t4
    simp only [kT,aq]
    omega
   ·have m4:=(C'.hb k hk).m4
    simp only [kT,aq] at hq
    omega
   simp only [kT,aq] at hn
   constructor<;>intro _<;>omega
  unfold br at ok⊢
  split at ok
  case isFalse hk=>rw [if_neg hk];exact keep
  rename_i hk
  rw [if_pos hk]
  split at ok
  ·rename_i hs
   rw [if_pos hs]
   simp only [fg,Bool.and_eq_true,decide_eq_true_eq] at hs
   obtain⟨n,e1,hn,_⟩:=Fr hs.1.1
   have M:MildA w (p3 w { w.a with bucket:=(bI w.a.bucket).1,halfs:=w.a.halfs.set (a_ w.a.halfs (roadOf x)).toNat { wP w.a x with till:=w.a.now+6 } }):=by
    refine⟨rfl,rfl,rfl,rfl,rfl,⟨[],by simp [p3]⟩,ok,⟨rfl,rfl,rfl,rfl⟩,SubsKeep.refl _,fun h hh=>?_,C.oa,C.fa,fun _ _ h=>h,C.oia,C.iia⟩
    rcases List.mem_or_eq_of_mem_set hh with hh|hh
    ·exact⟨h,hh,HalfKeep.refl h⟩
    rw [hh,wP,e1,Int.toNat_natCast,g0 hn]
    exact⟨_,List.getElem_mem hn,rfl,rfl,rfl,rfl,rfl⟩
   refine (M.put C).step C fun C'=>en ?_
   have hj:wP w.a x=w.a.halfs[n]:=by rw [wP,e1,Int.toNat_natCast,g0 hn]
   have:=ans _ { wP w.a x with till:=w.a.now+6 } C' (by
    dsimp only [p3]
    rw [e1,Int.toNat_natCast]
    exact List.mem_set hn _) rfl rfl rfl
   exact this
  rename_i hs
  rw [if_neg hs]
  simp only [rF,Bool.and_eq_true,decide_eq_true_eq,vP] at hk
  have hd:=hk.1.1.2
  have da:=C.da
  have hput:∀ h∈(bJ w.a.halfs (aK w.a x)).1,h=aK w.a x\/h∈w.a.halfs:=by
   intro h hh
   rw [bJ] at hh;split at hh
   ·dsimp only at hh
    rw [cx] at hh;split at hh
    ·rcases List.mem_or_eq_of_mem_set hh with hh|hh
     ·exact .inr hh
     exact .inl hh
    rcases List.mem_append.1 hh with hh|hh
    ·exact .inr hh
    exact .inl (List.mem_singleton.1 hh)
   exact .inr hh
  have P:PutA w (p3 w { w.a with bucket:=(bI w.a.bucket).1,draw:=w.a.draw+4,halfs:=(bJ w.a.halfs (aK w.a x)).1 }):=by
   refine⟨rfl,rfl,rfl,rfl,rfl,⟨[],by simp [p3]⟩,ok.1,ok.2,C.sia,rfl,rfl,⟨by dsimp only [p3];omega,by dsimp only [p3];omega⟩,fun s hs=>⟨s,hs,SubTo.refl s⟩,fun s hs=>?_,C.sad,fun h hh=>?_,C.oa,C.fa,fun _ _ h=>h,C.oia,C.iia⟩
   ·have S:=C.sa s hs
    exact⟨by have:=S.t4;dsimp only [p3];omega,S.tn,S.mine,S.own,S.far,S.th,S.on,S.ask⟩
   rcases hput h hh with rfl|hh
   ·refine⟨⟨by simp only [aK];omega,by simp only [aK];omega,by simp only [aK,p3];omega,by simp only [aK]⟩,fun s hs=>?_,hL⟩
    have:=(C.sa s hs).t4
    simp only [aK]
    omega
   have S:=C.ha h hh
   exact⟨by have:=S.m4;dsimp only [p3];omega,S.sep,S.th⟩
  refine P.step C fun C'=>en ?_
  by_cases hin:aK w.a x∈(bJ w.a.halfs (aK w.a x)).1
  ·exact ans _ _ C' hin rfl rfl rfl
  -- a half open road that was not laid: its numbers are drawn all the same
  refine⟨.inr ?_,fun h0=>⟨rfl,hL,rfl,fun s hs=>?_,fun t ht=>?_,fun k hk hq=>?_,⟨by simp only [kT,aq,aK];omega,by simp only [kT,aq,aK];omega⟩,fun n hn=>?_⟩⟩
  ·constructor<;>(intro q1 q2;simp only [kT,aq,ah] at q2;try omega)
   intro m hm'
   simp only [kT,aq] at hm'
   have:=congrArg TagD.one hm'
   dsimp only [p3] at this
   exact absurd this C.kk
  ·have S:=C.sa s hs
   have t4:=S.t4
   simp only [kT,aq,aK]
   refine⟨by omega,by omega,?_⟩
   rcases S.mine with g|⟨g,_⟩
   ·exact .inl g
   exact .inr ⟨by omega,by omega⟩
  ·have t4:=(C.sb t ht).t4
   simp only [kT,aq,aK]
   omega
  ·have m4:=(C.hb k hk).m4
   simp only [kT,aq,aK] at hq
   omega
  simp only [kT,aq,aK] at hn
  dsimp only [p3]
  constructor<;>intro _<;>omega
 by_cases k5:x.kind=5
 ·rw [y6 hc k5] at ok⊢
  unfold ay at ok⊢
  split at ok
  case isFalse hk=>rw [if_neg hk];exact keep
  rename_i hk
  rw [if_pos hk]
  simp only [tO,Bool.and_eq_true,decide_eq_true_eq] at hk
  obtain⟨⟨⟨⟨⟨q1,q2⟩,q3⟩,q4⟩,q5⟩,q6⟩:=hk
  obtain⟨n,e1,hn,_,hrd,_⟩:=ws q4
  rw [e1,Int.toNat_natCast,ke hn] at q5 q6 ok⊢
  rw [C.pa] at q6
  have hs:=List.getElem_mem hn
  obtain⟨s,es⟩:∃ s,w.a.subs[n]=s:=⟨_,rfl⟩
  rw [es] at q5 q6 hs hrd ok⊢
  have S:=C.sa s hs
  have h1000:=S.ask (.inl q5)
  have hf:x.nonce < w.b.draw/\∀ h∈w.b.halfs,h.mine=x.nonce->h.theirs=s.mine/\h.take=x.give/\h.road=bk (roadOf x):=by
   rcases L.a5 hx k5 s.mine q6 with g|g
   ·exact absurd g (G4 C hs h1000)
   exact g
  have hat:∀ (i:Nat) (h1:i < (w.a.subs.set n (mD s x)).length) (h2:i < w.a.subs.length),SubTo w.a.subs[i] (w.a.subs.set n (mD s x))[i]/\((w.a.subs.set n (mD s x))[i]=mD s x\/(w.a.subs.set n (mD s x))[i]=w.a.subs[i]):=by
   intro i h1 h2
   rw [List.getElem_set]
   split
   ·rename_i e;subst e
    rw [es]
    exact⟨⟨rfl,rfl,rfl,fun h=>absurd q5 h⟩,.inl rfl⟩
   exact⟨SubTo.refl _,.inr rfl⟩
  have hmem:mD s x∈w.a.subs.set n (mD s x):=List.mem_set hn _
  have P:PutA w (p3 w { w.a with subs:=w.a.subs.set n (mD s x) }):=by
   refine⟨rfl,rfl,rfl,rfl,rfl,⟨[],by simp [p3]⟩,ok.1,ok.2,C.sia,rfl,rfl,⟨C.da.1,Int.le_refl _⟩,fun r hr=>?_,fun r hr=>?_,?_,fun h hh=>?_,C.oa,C.fa,fun _ _ h=>h,C.oia,C.iia⟩
   ·obtain⟨i,hi,rfl⟩:=List.getElem_of_mem hr
    exact⟨_,List.getElem_mem (by simpa [p3] using hi),(hat i (by simpa using hi) hi).1⟩
   ·rcases List.mem_or_eq_of_mem_set hr with hr|hr
    ·exact C.sa r hr
    rw [hr]
    refine⟨S.t4,S.tn,S.mine,S.own,S.far,⟨hf.1,fun h hh hm=>?_⟩,fun h3=>by simp [mD] at h3,fun _=>h1000⟩
    obtain⟨g1,g2,g3⟩:=hf.2 h hh hm
    rw [<-hrd] at g3
    exact⟨g1,g2,g3⟩
   ·have p:=C.sad
    rw [List.pairwise_iff_getElem] at p⊢
    intro i j hi hj hij
    dsimp only [p3] at hi hj⊢
    have hi':i < w.a.subs.length:=by simpa using hi
    have hj':j < w.a.subs.length:=by simpa using hj
    rw [(hat i hi hi').1.take,(hat j hj hj').1.take]
    exact p i j hi' hj' hij
   have H:=C.ha h hh
   refine⟨H.m4,fun r hr=>?_,H.th⟩
   rcases List.mem_or_eq_of_mem_set hr with hr|hr
   ·exact H.sep r hr
   rw [hr];exact H.sep s hs
  refine P.step C fun C'=>en ⟨.inr ?_,fun h0=>?_⟩
  ·constructor<;>(intro p1 p2;simp only [cb,aq,ah] at p2;try omega)
   ·intro m n hm
    have:sideAt s.road.far=1:=p1
    have:=S.far
    omega
   intro m n hm
   simp only [cb,aq,p3] at hm
   injection hm with _ _ _ hm hn'
   exact⟨mD s x,hmem,by simp [mD],h1000,hm.symm,hn'.symm,rfl⟩
  have:sideAt s.road.far=0:=h0
  have:=S.far
  omega
 by_cases k6:x.kind=6
 ·rw [y7 hc k6]
  have hno:=L.a6 hx k6
  have hA:rE w.a x=false:=by
   cases hj:rE w.a x with
   |false=>rfl
   |true=>
    simp only [rE,Bool.and_eq_true,decide_eq_true_eq] at hj
    rw [C.pa] at hj
    exact absurd hj.2 (hno _ _)
  have hB:BN w.a x=false:=by
   cases hj:BN w.a x with
   |false=>rfl
   |true=>
    simp only [BN,Bool.and_eq_true,decide_eq_true_eq] at hj
    rw [C.pa] at hj
    exact absurd hj.2 (hno _ _)
  by_cases hI:mE w.a x=true
  ·rw [Dp hI hA hB];exact keep
  rw [Ev (by simpa using hI)];exact keep
 by_cases k7:x.kind=7
 ·rw [y8 hc k7] at ok⊢
  unfold aE at ok⊢
  dsimp only at ok⊢
  split at ok
  case isFalse hk=>rw [if_neg hk];exact keep
  rename_i hk
  rw [if_pos hk]
  simp only [mu,Bool.and_eq_true,decide_eq_true_eq] at hk
  obtain⟨⟨⟨⟨q1,q2⟩,q3⟩,q4⟩,q5⟩:=hk
  obtain⟨n,e1,hn,_,hr,_⟩:=ws q3
  rw [e1,Int.toNat_natCast] at q4 q5 ok⊢
  rw [ke hn] at q4 q5
  rw [gW hn] at ok⊢
  obtain⟨s,es⟩:∃ s,w.a.subs[n]=s:=⟨_,rfl⟩
  have hs:=List.getElem_mem hn
  rw [es] at q4 q5 hs hr ok⊢
  have S:=C.sa s hs
  have hon:∃ t∈w.b.subs,t.road=bk s.road/\t.take=s.give/\t.give=s.take:=by
   rcases L.a7 hx k7 with g|⟨t,g1,g2⟩
   ·rw [<-q5] at g;exact absurd g (G3 C hs)
   obtain⟨r,r1,r2,r3,r4,r5⟩:=(C.sb t g1).like
   have:r=s:=Gv C.sad r1 hs (by rw [r4,g2,q5])
   subst this
   exact⟨t,g1,by rw [r3];rfl,r5.symm,r4.symm⟩
  have hat:∀ (i:Nat) (h1:i < (w.a.subs.set n { s with state:=3 }).length) (h2:i < w.a.subs.length),SubTo w.a.subs[i] (w.a.subs.set n { s with state:=3 })[i]:=by
   intro i h1 h2
   rw [List.getElem_set]
   split
   ·rename_i e;subst e
    rw [es]
    exact⟨rfl,rfl,rfl,fun h=>⟨by simp,rfl,rfl⟩⟩
   exact SubTo.refl _
  refine PutA.step ⟨rfl,rfl,rfl,rfl,rfl,⟨[],by simp [p3]⟩,ok.1,ok.2,C.sia,rfl,rfl,⟨C.da.1,Int.le_refl _⟩,fun r hr=>?_,fun r hr=>?_,?_,fun h hh=>?_,C.oa,C.fa,fun _ _ h=>h,C.oia,C.iia⟩ C fun _=>em
  ·obtain⟨i,hi,rfl⟩:=List.getElem_of_mem hr
   exact⟨_,List.getElem_mem (by simpa [p3] using hi),hat i (by simpa using hi) hi⟩
  ·rcases List.mem_or_eq_of_mem_set hr with hr|hr
   ·exact C.sa r hr
   rw [hr]
   exact⟨S.t4,S.tn,S.mine,S.own,S.far,S.th,fun _=>hon,fun h=>by simp at h⟩
  ·have p:=C.sad
   rw [List.pairwise_iff_getElem] at p⊢
   intro i j hi hj hij
   dsimp only [p3] at hi hj⊢
   have hi':i < w.a.subs.length:=by simpa using hi
   have hj':j < w.a.subs.length:=by simpa using hj
   rw [(hat i hi hi').take,(hat j hj hj').take]
   exact p i j hi' hj' hij
  have H:=C.ha h hh
  refine⟨H.m4,fun r hr=>?_,H.th⟩
  rcases List.mem_or_eq_of_mem_set hr with hr|hr
  ·exact H.sep r hr
  rw [hr];exact H.sep s hs
 by_cases k8:x.kind=8
 ·rw [y9 hc k8] at ok⊢
  unfold bC at ok⊢
  split at ok
  case isFalse hk=>rw [if_neg hk];exact keep
  rename_i hk
  rw [if_pos hk]
  simp only [lH,Bool.and_eq_true,decide_eq_true_eq] at hk
  obtain⟨⟨⟨⟨q1,q2⟩,_⟩,_⟩,_⟩:=hk
  rw [C.pa] at q2
  obtain⟨t1,t2⟩:=L.a8 hx k8 _ _ q2
  obtain⟨n,e1,_,hn,_,_,hr,_⟩:=Hh q1
  refine PutA.step (MildA.put ⟨rfl,rfl,rfl,rfl,rfl,⟨[],by simp [p3]⟩,ok,⟨rfl,rfl,rfl,rfl⟩,SubsKeep.refl _,fun h hh=>⟨h,hh,HalfKeep.refl h⟩,C.oa,fun f hf=>?_,fun _ _ h=>h,C.oia,C.iia⟩ C) C fun C'=>en (u4 (by simp [E6,rO,aq]) ?_)
  ·rcases sN hf with rfl|hf
   ·exact⟨t1,t2⟩
   exact C.fa f hf
  show ¬ sideAt (roadOf x).far=0
  rw [<-hr]
  have:=(C.sa _ (List.getElem_mem hn)).far
  omega
 by_cases k9:x.kind=9
 ·rw [y_ hc k9] at ok⊢
  unfold bD at ok⊢
  dsimp only at ok⊢
  split at ok
  case isFalse hk=>rw [if_neg hk];exact keep
  rename_i hk
  rw [if_pos hk]
  simp only [hZ,Bool.and_eq_true,decide_eq_true_eq] at hk
  obtain⟨n,e1,hn,_⟩:=EW hk.1.2
  rw [e1,Int.toNat_natCast,hV hn] at ok⊢
  refine PutA.step (MildA.put ⟨rfl,rfl,rfl,rfl,rfl,⟨[],by simp [p3]⟩,ok,⟨rfl,rfl,rfl,rfl⟩,SubsKeep.refl _,fun h hh=>⟨h,hh,HalfKeep.refl h⟩,fun q hq=>?_,C.fa,fun i d h=>?_,C.oia,C.iia⟩ C) C fun _=>em
  ·rcases List.mem_or_eq_of_mem_set hq with hq|hq
   ·exact C.oa q hq
   rw [hq];exact (show sideAt w.a.own[n].addr=1 from C.oa _ (List.getElem_mem hn))
  rcases h with⟨q,h1,h2,h3⟩|h
  ·obtain⟨j,hj,rfl⟩:=List.getElem_of_mem h1
   by_cases hjn:n=j
   ·subst hjn
    exact .inl ⟨_,List.mem_set hn _,h2,h3⟩
   refine .inl ⟨w.a.own[j],?_,h2,h3⟩
   dsimp only [p3]
   rw [List.mem_iff_getElem]
   exact⟨j,by simpa using hj,by rw [List.getElem_set_ne hjn]⟩
  exact .inr h
 by_cases k10:x.kind=10
 ·rw [vB hc k10] at ok⊢
  unfold bE at ok⊢
  dsimp only at ok⊢
  split at ok
  case isFalse hk=>rw [if_neg hk];exact keep
  rename_i hk
  rw [if_pos hk]
  refine PutA.step (MildA.put ⟨rfl,rfl,rfl,rfl,rfl,⟨[],by simp [p3]⟩,ok,⟨rfl,rfl,rfl,rfl⟩,SubsKeep.map fun s hs=>?_,fun h hh=>⟨h,hh,HalfKeep.refl h⟩,C.oa,fun f hf=>C.fa f (qs hf),fun _ _ h=>h,C.oia,C.iia⟩ C) C fun _=>em
  rw [jP];split
  ·exact⟨rfl,rfl,rfl,rfl,rfl,.inr rfl⟩
  exact SubKeep.refl s
 by_cases k11:x.kind=11
 ·rw [vC hc k11] at ok⊢
  unfold bF at ok⊢
  split at ok
  case isFalse hk=>rw [if_neg hk];exact keep
  rename_i hk
  rw [if_pos hk]
  simp only [qb,Bool.and_eq_true,decide_eq_true_eq] at hk
  obtain⟨n,e1,_,hn,_,ht,hr,_⟩:=Hh hk.1
  have hsl:Slice w.wroteB x.pos x.text:=by
   rcases L.a11 hx k11 with g|g
   ·rw [<-ht] at g;exact absurd g (G3 C (List.getElem_mem hn))
   exact g
  refine PutA.step (MildA.put ⟨rfl,rfl,rfl,rfl,rfl,⟨[],by simp [p3]⟩,ok,⟨rfl,rfl,rfl,rfl⟩,SubsKeep.refl _,fun h hh=>⟨h,hh,HalfKeep.refl h⟩,C.oa,C.fa,fun _ _ h=>h,C.oia,Fx C.iia G hsl⟩ C) C fun C'=>en (u4 (by simp [E6,vA,aq]) ?_)
  show ¬ sideAt (roadOf x).far=0
  rw [<-hr]
  have:=(C.sa _ (List.getElem_mem hn)).far
  omega
 by_cases k12:x.kind=12
 ·rw [vD hc k12] at ok⊢
  unfold bA at ok⊢
  dsimp only at ok⊢
  split at ok
  case isFalse hk=>rw [if_neg hk];exact keep
  rename_i hk
  rw [if_pos hk]
  exact PutA.step (MildA.put ⟨rfl,rfl,rfl,rfl,rfl,⟨[],by simp [p3]⟩,ok,⟨rfl,rfl,rfl,rfl⟩,SubsKeep.refl _,fun h hh=>⟨h,hh,HalfKeep.refl h⟩,C.oa,C.fa,fun _ _ h=>h,HP C.oia,C.iia⟩ C) C fun _=>em
 by_cases k13:x.kind=13
 ·rw [vE hc k13] at ok⊢
  unfold bf at ok⊢
  dsimp only at ok⊢
  split at ok
  case isFalse hk=>rw [if_neg hk];exact keep
  rename_i hk
  rw [if_pos hk]
  exact PutA.step (MildA.put ⟨rfl,rfl,rfl,rfl,rfl,⟨[],by simp [p3]⟩,ok,⟨rfl,rfl,rfl,rfl⟩,SubsKeep.st4 _ _,fun h hh=>⟨h,hh,HalfKeep.refl h⟩,C.oa,C.fa,fun _ _ h=>h,C.oia,C.iia⟩ C) C fun _=>em
 rw [y2 fun k hk=>by omega];exact keep
theorem G5 {l:List HalfD} {n:Nat} {q:HalfD} (p:l.Pairwise fun h k=>¬ h.take=k.take) (hq:∀ (i:Nat) (hi:i < l.length),¬ i=n->¬ l[i].take=q.take):(l.set n q).Pairwise fun h k=>¬ h.take=k.take:=by
 rw [List.pairwise_iff_getElem] at p⊢
 intro i j hi hj hij
 have hi':i < l.length:=by simpa using hi
 have hj':j < l.length:=by simpa using hj
 rw [List.getElem_set,List.getElem_set]
 by_cases h1:n=i
 ·rw [if_pos h1,if_neg (by omega)]
  exact fun hc=>hq j hj' (by omega) hc.symm
 rw [if_neg h1]
 by_cases h2:n=j
 ·rw [if_pos h2];exact hq i hi' (by omega)
 rw [if_neg h2];exact p i j hi' hj' hij
theorem HR {l:List HalfD} (h:l.Pairwise fun s t=>¬ s.take=t.take) {s t:HalfD} (hs:s∈l) (ht:t∈l) (e:s.take=t.take):s=t:=by
 obtain⟨i,hi,rfl⟩:=List.getElem_of_mem hs
 obtain⟨j,hj,rfl⟩:=List.getElem_of_mem ht
 rw [List.pairwise_iff_getElem] at h
 rcases Nat.lt_trichotomy i j with hl|hl|hl
 ·exact absurd e (h i j hi hj hl)
 ·subst hl;rfl
 exact absurd e.symm (h j i hj hi hl)
theorem Io {w:WorldD} {x:LetterD} (C:Core w) (G:SmallP w.b.inp) (L:LetI w x) (hx:sideAt x.to=2):Step w (inB w (bM w.b x).1) (bM w.b x).2:=by
 have ok:=GY (x:=x) C.okb C.stb
 have M0:=MildB.refl C
 have keep:Step w (inB w w.b) []:=(M0.put C).step C fun _=>em
 by_cases hc:cp w.b x=true
 case neg=>rw [ur (by simpa using hc)];exact keep
 by_cases k1:x.kind=1
 ·rw [y3 hc k1,ax,if_neg]
  ·exact keep
  simp only [f8,Bool.and_eq_true,decide_eq_true_eq];have:=C.stb;omega
 by_cases k2:x.kind=2
 ·rw [y4 hc k2,aS,if_neg]
  ·exact keep
  simp only [i2,Bool.and_eq_true,decide_eq_true_eq];have:=C.stb;omega
 by_cases k4:x.kind=4
 ·rw [y5 hc k4] at ok⊢
  have hL:=L.b4 hx k4
  have ans:∀ (w':WorldD) (h:HalfD),Core w'->HalfB w'.nums w'.b.draw w'.a.subs w'.b.subs h->h.road=roadOf x->(∀ k∈w'.b.halfs,k.mine=h.mine->k.theirs=h.theirs/\k.take=h.take/\k.road=h.road)->(∀ k∈w'.b.halfs,k.take=h.take->k.theirs=h.theirs)->w'.a.key=w.a.key->w'.b.key=w.b.key->Post w' (kT w.b (roadOf x) h):=by
   intro w' h C' H hr hone htk e1 e2
   have hm:=H.m4
   refine⟨.inr ?_,fun h0=>?_⟩
   ·constructor<;>(intro q1 q2;simp only [kT,aq,ah] at q2;try omega)
    intro m hm'
    simp only [kT,aq] at hm'
    injection hm' with _ _ _ _ hb
    refine .inr ⟨by simp only [kT,aq];omega,fun k hk hkm=>?_⟩
    obtain⟨g1,g2,g3⟩:=hone k hk hkm
    exact⟨by rw [g1,hb],g2,by rw [g3,hr];rfl⟩
   have hth:Loose w'.nums h.theirs:=by
    rcases H.th with g|⟨_,s,s1,_,_,_,s5⟩
    ·exact g
    have:=(C'.sa s s1).own
    rw [s5,hr] at this
    have h0':sideAt (roadOf x).far=0:=h0
    have:sideAt (roadOf x).far=1:=this
    omega
   refine⟨rfl,hth,rfl,fun s hs=>?_,fun t ht=>?_,fun k hk hq=>?_,⟨by simp only [kT,aq];omega,by simp only [kT,aq];omega⟩,fun n hn=>?_⟩
   ·have S:=C'.sa s hs
    have t4:=S.t4
    simp only [kT,aq]
    refine⟨by omega,by omega,?_⟩
    rcases S.mine with g|⟨g,_⟩
    ·exact .inl g
    exact .inr ⟨by omega,by omega⟩
   ·have t4:=(C'.sb t ht).t4
    have:=H.sep t ht
    simp only [kT,aq]
    exact⟨this,by omega⟩
   ·have m4:=(C'.hb k hk).m4
    simp only [kT,aq] at hq
    rcases hq with hq|hq
    ·rw [htk k hk hq];exact hth
    omega
   simp only [kT,aq] at hn
   constructor<;>intro _<;>omega
  unfold br at ok⊢
  split at ok
  case isFalse hk=>rw [if_neg hk];exact keep
  rename_i hk
  rw [if_pos hk]
  split at ok
  ·rename_i hs
   rw [if_pos hs]
   simp only [fg,Bool.and_eq_true,decide_eq_true_eq] at hs
   obtain⟨n,e1,hn,hrd⟩:=Fr hs.1.1
   have hj:wP w.b x=w.b.halfs[n]:=by rw [wP,e1,Int.toNat_natCast,g0 hn]
   rw [hj,e1,Int.toNat_natCast] at ok⊢
   obtain⟨q,hq⟩:∃ q,w.b.halfs[n]=q:=⟨_,rfl⟩
   have hqm:=List.getElem_mem hn
   rw [hq] at ok hrd hqm⊢
   have H:=C.hb q hqm
   have hold:∀ k∈w.b.halfs.set n { q with till:=w.b.now+6 },∃ h∈w.b.halfs,HalfKeep h k:=by
    intro k hk
    rcases List.mem_or_eq_of_mem_set hk with hk|hk
    ·exact⟨k,hk,HalfKeep.refl k⟩
    rw [hk];exact⟨q,hqm,rfl,rfl,rfl,rfl,rfl⟩
   have HB:∀ k,(∃ h∈w.b.halfs,HalfKeep h k)->HalfB w.nums w.b.draw w.a.subs w.b.subs k:=by
    rintro k ⟨h,h1,h2,h3,h4,h5,h6⟩
    have S:=C.hb h h1
    exact⟨by rw [<-h2,<-h4];exact S.m4,by rw [<-h4];exact S.sep,by rw [<-h3,<-h4,<-h5,<-h6];exact S.th⟩
   have P:PutB w (inB w { w.b with bucket:=(bI w.b.bucket).1,halfs:=w.b.halfs.set n { q with till:=w.b.now+6 } }):=by
    refine⟨rfl,rfl,rfl,rfl,rfl,⟨[],by simp [inB]⟩,ok.1,ok.2,C.sib,rfl,rfl,⟨C.db.1,Int.le_refl _⟩,fun t ht=>⟨t,ht,rfl,rfl,rfl⟩,C.sb,fun h hh=>HB h (hold h hh),?_,fun h hh=>?_,C.ob,C.fb,fun _ _ h=>h,C.oib,C.iib⟩
    ·refine G5 C.hbd fun i hi hin=>?_
     have p:=C.hbd
     rw [List.pairwise_iff_getElem] at p
     dsimp only
     rw [<-hq]
     rcases Nat.lt_or_gt_of_ne hin with hl|hl
     ·exact p i n hi hn hl
     exact fun hc=>p n i hn hi hl hc.symm
    obtain⟨k,g1,g2,g3,g4,g5,_⟩:=hold h hh
    exact .inr ⟨k,g1,g2,g3,g4,g5⟩
   refine P.step C fun C'=>en ?_
   have h1:∀ k∈w.b.halfs.set n { q with till:=w.b.now+6 },k.take=q.take->k.theirs=q.theirs/\k.take=q.take/\k.road=q.road:=by
    intro k hk ht
    obtain⟨h,g1,g2,g3,g4,g5,_⟩:=hold k hk
    have:h=q:=HR C.hbd g1 hqm (by rw [g4,ht])
    subst this
    exact⟨g3.symm,g4.symm,g5.symm⟩
   refine ans _ q C' H hrd (fun k hk hm=>?_) (fun k hk ht=>(h1 k hk ht).1) rfl rfl
   have m1:=(HB k (hold k hk)).m4
   have m2:=H.m4
   exact h1 k hk (by omega)
  rename_i hs
  rw [if_neg hs]
  simp only [rF,Bool.and_eq_true,decide_eq_true_eq,vP] at hk
  have hd:=hk.1.1.2
  have db:=C.db
  have hnew:HalfB w.nums (w.b.draw+4) w.a.subs w.b.subs (aK w.b x):=by
   refine⟨⟨by simp only [aK];omega,by simp only [aK];omega,by simp only [aK];omega,by simp only [aK]⟩,fun t ht=>?_,?_⟩
   ·have:=(C.sb t ht).t4
    simp only [aK]
    omega
   rcases hL with g|⟨s,g1,g2,g3,g4,g5⟩
   ·exact .inl g
   refine .inr ⟨fun hc=>?_,s,g1,g2,g3.symm,g4.symm,?_⟩
   ·have:=(C.nn _ hc).2 (by simp only [aK];omega)
    simp only [aK] at this
    omega
   simp only [aK];rw [g5];rfl
  have hput:(∀ h∈(bJ w.b.halfs (aK w.b x)).1,h=aK w.b x\/h∈w.b.halfs)/\(bJ w.b.halfs (aK w.b x)).1.Pairwise fun h k=>¬ h.take=k.take:=by
   have hne:∀ h∈w.b.halfs,¬ h.take=(aK w.b x).take:=fun h hh=>by
    have:=(C.hb h hh).m4
    simp only [aK]
    omega
   rw [bJ];split
   ·dsimp only
    rw [cx];split
    ·refine⟨fun h hh=>?_,G5 C.hbd fun i hi _=>hne _ (List.getElem_mem hi)⟩
     rcases List.mem_or_eq_of_mem_set hh with hh|hh
     ·exact .inr hh
     exact .inl hh
    refine⟨fun h hh=>?_,?_⟩
    ·rcases List.mem_append.1 hh with hh|hh
     ·exact .inr hh
     exact .inl (List.mem_singleton.1 hh)
    rw [List.pairwise_append]
    exact⟨C.hbd,List.pairwise_singleton ..,fun a ha b hb=>by rw [List.mem_singleton.1 hb];exact hne a ha⟩
   exact⟨fun h hh=>.inr hh,C.hbd⟩
  have P:PutB w (inB w { w.b with bucket:=(bI w.b.bucket).1,draw:=w.b.draw+4,halfs:=(bJ w.b.halfs (aK w.b x)).1 }):=by
   refine⟨rfl,rfl,rfl,rfl,rfl,⟨[],by simp [inB]⟩,ok.1,ok.2,C.sib,rfl,rfl,⟨by dsimp only [inB];omega,by dsimp only [inB];omega⟩,fun t ht=>⟨t,ht,rfl,rfl,rfl⟩,fun t ht=>?_,fun h hh=>?_,hput.2,fun h hh=>?_,C.ob,C.fb,fun _ _ h=>h,C.oib,C.iib⟩
   ·have S:=C.sb t ht
    exact⟨by have:=S.t4;dsimp only [inB];omega,S.tn,S.st,S.like⟩
   ·rcases hput.1 h hh with rfl|hh
    ·exact hnew
    have S:=C.hb h hh
    exact⟨by have:=S.m4;dsimp only [inB];omega,S.sep,S.th⟩
   rcases hput.1 h hh with rfl|hh
   ·exact .inl (Int.le_refl _)
   exact .inr ⟨h,hh,rfl,rfl,rfl,rfl⟩
  refine P.step C fun C'=>en ?_
  have h1:∀ k∈(bJ w.b.halfs (aK w.b x)).1,k.take=(aK w.b x).take\/k.mine=(aK w.b x).mine->k=aK w.b x:=by
   intro k hk ht
   rcases hput.1 k hk with g|g
   ·exact g
   have:=(C.hb k g).m4
   simp only [aK] at ht
   omega
  exact ans _ (aK w.b x) C' hnew rfl (fun k hk hm=>by rw [h1 k hk (.inr hm)];exact⟨rfl,rfl,rfl⟩) (fun k hk ht=>by rw [h1 k hk (.inl ht)]) rfl rfl
 by_cases k5:x.kind=5
 ·rw [y6 hc k5,Et]
  ·exact keep
  cases hj:tO w.b x with
  |false=>rfl
  |true=>
   simp only [tO,Bool.and_eq_true,decide_eq_true_eq] at hj
   obtain⟨⟨⟨_,q4⟩,q5⟩,_⟩:=hj
   obtain⟨n,e1,hn,_⟩:=ws q4
   rw [e1,Int.toNat_natCast,ke hn] at q5
   have:=(C.sb _ (List.getElem_mem hn)).st
   omega
 by_cases k6:x.kind=6
 ·rw [y7 hc k6] at ok⊢
  have hL:=L.b6 hx k6
  unfold ao at ok⊢
  split at ok
  case isFalse hk=>rw [if_neg hk];exact keep
  rename_i hk
  rw [if_pos hk]
  split at ok
  ·rename_i ha
   rw [if_pos ha]
   simp only [rE,Bool.and_eq_true,decide_eq_true_eq] at ha
   obtain⟨⟨a1,a2⟩,a3⟩:=ha
   obtain⟨i,e1,hi,hrd⟩:=Fr a1
   have hj:wP w.b x=w.b.halfs[i]:=by rw [wP,e1,Int.toNat_natCast,g0 hi]
   rw [hj] at a3 ok⊢
   obtain⟨q,hq⟩:∃ q,w.b.halfs[i]=q:=⟨_,rfl⟩
   have hqm:=List.getElem_mem hi
   rw [hq] at a3 ok hrd hqm⊢
   have H:=C.hb q hqm
   rw [C.pb] at a3
   obtain⟨s,s1,s2,s3,s4,s5,s6⟩:=hL _ _ a3
   have S:=C.sa s s1
   obtain⟨g1,g2,g3⟩:=S.th.2 q hqm s5
   have hau:¬ q.take∈w.nums/\∃ s∈w.a.subs,1000<=s.mine/\s.mine=q.theirs/\s.take=q.give/\s.road=bk q.road:=by
    rcases H.th with g|g
    ·rw [s4] at g;exact absurd g (G4 C s1 s3)
    exact g
   obtain⟨hn,r,r1,r2,r3,r4,r5⟩:=hau
   have hrs:r=s:=by
    refine Gv C.sad r1 s1 ?_
    have m1:=(C.sa r r1).mine
    have m2:=S.mine
    omega
   subst hrs
   have hdr:bz w.b.halfs (roadOf x)=w.b.halfs.take i++w.b.halfs.drop (i+1):=tR e1
   have hsub:(bz w.b.halfs (roadOf x)).Sublist w.b.halfs:=by rw [hdr];exact qr _ _
   have hoth:∀ k∈bz w.b.halfs (roadOf x),¬ k.take=q.take:=by
    intro k hk
    have p:=C.hbd
    rw [List.pairwise_iff_getElem] at p
    rw [hdr] at hk
    rw [<-hq]
    rcases List.mem_append.1 hk with hk|hk
    ·rw [List.mem_take_iff_getElem] at hk
     obtain⟨j,hj,rfl⟩:=hk
     exact p j i (by omega) hi (by omega)
    rw [List.mem_drop_iff_getElem] at hk
    obtain⟨j,hj,rfl⟩:=hk
    exact fun hc=>p i (i+1+j) hi (by omega) (by omega) hc.symm
   obtain⟨l0,hl0⟩:∃ l0,(if 0<=aU w.b.subs (roadOf x) then bP w.b.subs (aU w.b.subs (roadOf x)).toNat 4 else w.b.subs)=l0:=⟨_,rfl⟩
   rw [hl0] at ok⊢
   have K:SubsKeep w.b.subs l0:=by
    rw [<-hl0];split
    ·exact SubsKeep.st4 _ _
    exact SubsKeep.refl _
   have hmem:jI (roadOf x) q∈l0++[jI (roadOf x) q]:=by simp
   have P:PutB w (inB w { w.b with subs:=l0++[jI (roadOf x) q],halfs:=bz w.b.halfs (roadOf x) }):=by
    refine⟨rfl,rfl,rfl,rfl,rfl,⟨[],by simp [inB]⟩,ok.1,ok.2,C.sib,rfl,rfl,⟨C.db.1,Int.le_refl _⟩,fun t ht=>?_,fun t ht=>?_,fun h hh=>?_,C.hbd.sublist hsub,fun h hh=>.inr ⟨h,hsub.subset hh,rfl,rfl,rfl,rfl⟩,C.ob,C.fb,fun _ _ h=>h,C.oib,C.iib⟩
    ·obtain⟨u,u1,u2⟩:=K.new ht
     exact⟨u,List.mem_append_left _ u1,u2.road,u2.take,u2.give⟩
    ·rcases List.mem_append.1 ht with ht|ht
     ·obtain⟨u,u1,u2⟩:=K.old ht
      exact u2.subB (C.sb u u1)
     rw [List.mem_singleton.1 ht]
     have m4:=H.m4
     exact⟨by simp only [jI,inB];omega,hn,.inl rfl,r,r1,s2,by rw [r5,hrd];rfl,r4,g2.symm⟩
    have S':=C.hb h (hsub.subset hh)
    refine⟨S'.m4,fun t ht=>?_,S'.th⟩
    rcases List.mem_append.1 ht with ht|ht
    ·obtain⟨u,u1,u2⟩:=K.old ht
     rw [u2.take];exact S'.sep u u1
    rw [List.mem_singleton.1 ht]
    exact fun hc=>hoth h hh hc.symm
   refine P.step C fun C'=>en ⟨.inr ?_,fun h0=>?_⟩
   ·constructor<;>(intro p1 p2;simp only [pY,aq,ah] at p2;try omega)
    exact .inr ⟨_,hmem,rfl⟩
   have h0':sideAt (roadOf x).far=0:=h0
   have h3:=(Hm C' (t:=jI (roadOf x) q) hmem).1
   have h3':sideAt (roadOf x).far=1:=h3
   omega
  rename_i ha
  rw [if_neg ha]
  split at ok
  ·rename_i hb
   rw [if_pos hb]
   simp only [BN,Bool.and_eq_true,decide_eq_true_eq] at hb
   obtain⟨n,e1,hn,_,hr,_⟩:=ws hb.1.1
   have hj:Cg w.b x=w.b.subs[n]:=by rw [Cg,e1,Int.toNat_natCast,ke hn]
   rw [hj]
   refine (M0.put C).step C fun C'=>en ⟨.inr ?_,fun h0=>?_⟩
   ·constructor<;>(intro p1 p2;simp only [pY,aq,ah] at p2;try omega)
    exact .inr ⟨_,List.getElem_mem hn,rfl⟩
   have h0':sideAt (roadOf x).far=0:=h0
   have h3:=(Hm C (List.getElem_mem hn)).1
   rw [hr] at h3
   omega
  rename_i hb
  rw [if_neg hb];exact keep
 by_cases k7:x.kind=7
 ·rw [y8 hc k7,Dk]
  ·exact keep
  cases hj:mu w.b x with
  |false=>rfl
  |true=>
   simp only [mu,Bool.and_eq_true,decide_eq_true_eq] at hj
   obtain⟨⟨⟨_,q3⟩,q4⟩,_⟩:=hj
   obtain⟨n,e1,hn,_⟩:=ws q3
   rw [e1,Int.toNat_natCast,ke hn] at q4
   have:=(C.sb _ (List.getElem_mem hn)).st
   omega
 by_cases k8:x.kind=8
 ·rw [y9 hc k8] at ok⊢
  unfold bC at ok⊢
  split at ok
  case isFalse hk=>rw [if_neg hk];exact keep
  rename_i hk
  rw [if_pos hk]
  simp only [lH,Bool.and_eq_true,decide_eq_true_eq] at hk
  obtain⟨⟨⟨⟨q1,q2⟩,_⟩,_⟩,_⟩:=hk
  rw [C.pb] at q2
  obtain⟨t1,t2⟩:=L.b8 hx k8 _ _ q2
  obtain⟨n,e1,_,hn,_,_,hr,_⟩:=Hh q1
  refine PutB.step (MildB.put ⟨rfl,rfl,rfl,rfl,rfl,⟨[],by simp [inB]⟩,ok,⟨rfl,rfl,rfl,rfl⟩,SubsKeep.refl _,List.Sublist.refl _,C.ob,fun f hf=>?_,fun _ _ h=>h,C.oib,C.iib⟩ C) C fun C'=>en (u4 (by simp [E6,rO,aq]) ?_)
  ·rcases sN hf with rfl|hf
   ·exact⟨t1,t2⟩
   exact C.fb f hf
  show ¬ sideAt (roadOf x).far=0
  rw [<-hr]
  have:=(Hm C (List.getElem_mem hn)).1
  omega
 by_cases k9:x.kind=9
 ·rw [y_ hc k9] at ok⊢
  unfold bD at ok⊢
  dsimp only at ok⊢
  split at ok
  case isFalse hk=>rw [if_neg hk];exact keep
  rename_i hk
  rw [if_pos hk]
  simp only [hZ,Bool.and_eq_true,decide_eq_true_eq] at hk
  obtain⟨n,e1,hn,_⟩:=EW hk.1.2
  rw [e1,Int.toNat_natCast,hV hn] at ok⊢
  refine PutB.step (MildB.put ⟨rfl,rfl,rfl,rfl,rfl,⟨[],by simp [inB]⟩,ok,⟨rfl,rfl,rfl,rfl⟩,SubsKeep.refl _,List.Sublist.refl _,fun q hq=>?_,C.fb,fun i d h=>?_,C.oib,C.iib⟩ C) C fun _=>em
  ·rcases List.mem_or_eq_of_mem_set hq with hq|hq
   ·exact C.ob q hq
   rw [hq];exact (show sideAt w.b.own[n].addr=2 from C.ob _ (List.getElem_mem hn))
  rcases h with⟨q,h1,h2,h3⟩|h
  ·obtain⟨j,hj,rfl⟩:=List.getElem_of_mem h1
   by_cases hjn:n=j
   ·subst hjn
    exact .inl ⟨_,List.mem_set hn _,h2,h3⟩
   refine .inl ⟨w.b.own[j],?_,h2,h3⟩
   dsimp only [inB]
   rw [List.mem_iff_getElem]
   exact⟨j,by simpa using hj,by rw [List.getElem_set_ne hjn]⟩
  exact .inr h
 by_cases k10:x.kind=10
 ·rw [vB hc k10] at ok⊢
  unfold bE at ok⊢
  dsimp only at ok⊢
  split at ok
  case isFalse hk=>rw [if_neg hk];exact keep
  rename_i hk
  rw [if_pos hk]
  refine PutB.step (MildB.put ⟨rfl,rfl,rfl,rfl,rfl,⟨[],by simp [inB]⟩,ok,⟨rfl,rfl,rfl,rfl⟩,SubsKeep.map fun s hs=>?_,List.Sublist.refl _,C.ob,fun f hf=>C.fb f (qs hf),fun _ _ h=>h,C.oib,C.iib⟩ C) C fun _=>em
  rw [jP];split
  ·exact⟨rfl,rfl,rfl,rfl,rfl,.inr rfl⟩
  exact SubKeep.refl s
 by_cases k11:x.kind=11
 ·rw [vC hc k11] at ok⊢
  unfold bF at ok⊢
  split at ok
  case isFalse hk=>rw [if_neg hk];exact keep
  rename_i hk
  rw [if_pos hk]
  simp only [qb,Bool.and_eq_true,decide_eq_true_eq] at hk
  obtain⟨n,e1,_,hn,_,ht,hr,_⟩:=Hh hk.1
  have hsl:Slice w.wroteA x.pos x.text:=by
   rcases L.b11 hx k11 with g|g
   ·rw [<-ht] at g;exact absurd g (H2 C (List.getElem_mem hn))
   exact g
  refine PutB.step (MildB.put ⟨rfl,rfl,rfl,rfl,rfl,⟨[],by simp [inB]⟩,ok,⟨rfl,rfl,rfl,rfl⟩,SubsKeep.refl _,List.Sublist.refl _,C.ob,C.fb,fun _ _ h=>h,C.oib,Fx C.iib G hsl⟩ C) C fun C'=>en (u4 (by simp [E6,vA,aq]) ?_)
  show ¬ sideAt (roadOf x).far=0
  rw [<-hr]
  have:=(Hm C (List.getElem_mem hn)).1
  omega
 by_cases k12:x.kind=12
 ·rw [vD hc k12] at ok⊢
  unfold bA at ok⊢
  dsimp only at ok⊢
  split at ok
  case isFalse hk=>rw [if_neg hk];exact keep
  rename_i hk
  rw [if_pos hk]
  exact PutB.step (MildB.put ⟨rfl,rfl,rfl,rfl,rfl,⟨[],by simp [inB]⟩,ok,⟨rfl,rfl,rfl,rfl⟩,SubsKeep.refl _,List.Sublist.refl _,C.ob,C.fb,fun _ _ h=>h,HP C.oib,C.iib⟩ C) C fun _=>em
 by_cases k13:x.kind=13
 ·rw [vE hc k13] at ok⊢
  unfold bf at ok⊢
  dsimp only at ok⊢
  split at ok
  case isFalse hk=>rw [if_neg hk];exact keep
  rename_i hk
  rw [if_pos hk]
  exact PutB.step (MildB.put ⟨rfl,rfl,rfl,rfl,rfl,⟨[],by simp [inB]⟩,ok,⟨rfl,rfl,rfl,rfl⟩,SubsKeep.st4 _ _,List.Sublist.refl _,C.ob,C.fb,fun _ _ h=>h,C.oib,C.iib⟩ C) C fun _=>em
 rw [y2 fun k hk=>by omega];exact keep
theorem l2 {w:WorldD}:Sent w []:=fun x hx=>by simp at hx
theorem ua {w:WorldD} {x:LetterD} (h1:¬ sideAt x.to=0) (h2:LetI w x):Sent w [x]:=fun y hy=>by rw [List.mem_singleton.1 hy];exact⟨h1,h2⟩
theorem u5 {w:WorldD} {x:LetterD} (hk:E6 x.kind):LetI w x:=by
  simp only [E6] at hk
  constructor<;>(intro _ h;omega)
theorem Go1.step {w w':WorldD} {l:List LetterD} (h:Go1 w w' l):Step w w' l:=⟨h.c,h.le,h.s.post⟩
theorem E3 {l:List AddrD} {a b:AddrD} (h:aG l a.id < 0) (hb:b∈l):b∈(aJ l a).1:=by
  rw [aJ];split
  · dsimp only
    rw [bO,if_neg (by omega)]
    have:=List.take_append_drop (wG l a.id) l
    rw [<-this] at hb
    rcases List.mem_append.1 hb with hb|hb
    · exact List.mem_append_left _ (List.mem_append_left _ hb)
    · exact List.mem_append_right _ hb
  · exact hb
theorem w4 {l:List AddrD} {n:Int} {b:AddrD} (hb:b∈l) (hn:¬ b.id=n):b∈(be l n).1:=by
  rw [be];split
  · exact hb
  · rename_i h
    obtain⟨k,e,hk,hi⟩:=EW (show 0<=aG l n by omega)
    rw [e,Int.toNat_natCast]
    dsimp only
    obtain⟨j,hj,rfl⟩:=List.getElem_of_mem hb
    have hjk:¬ j=k:=fun hc=>by subst hc;exact hn hi
    rcases Nat.lt_or_gt_of_ne hjk with hl|hl
    · refine List.mem_append_left _ ?_
      rw [List.mem_take_iff_getElem]
      exact⟨j,by omega,rfl⟩
    · refine List.mem_append_right _ ?_
      rw [List.mem_drop_iff_getElem]
      exact⟨j - (k+1),by omega,by congr 1;omega⟩
theorem F_ {l:List SubD} {k:Nat} (h:k∈j0 l):aN l k∈l:=by
  obtain⟨h1,_⟩:=pN h
  rw [ke h1];exact List.getElem_mem h1
theorem FR {l:List Nat} (h:¬ l.length=0):l.headD 0∈l:=by
  cases l with
  |nil=>simp at h
  |cons a r=>simp
theorem v4 (s:SubD):SubKeep s (cW s):=by
  rw [cW];split
  · split
    · exact⟨rfl,rfl,rfl,rfl,rfl,.inr rfl⟩
    · exact⟨rfl,rfl,rfl,rfl,rfl,.inl rfl⟩
  · exact SubKeep.refl s
theorem GA {e:EndD} (h:OkE e) (hk:AT e=true):OkE { eR e with subs:=e.subs.map cW }:=by
  simp only [AT,Bool.and_eq_true,decide_eq_true_eq,List.all_eq_true] at hk
  refine⟨h.side,h.state,h.pol,h.own,h.far,h.halfs.young,FO h.bucket,GZ h.out,h.inp,h.done,h.over,by dsimp only;rw [List.length_map];exact h.subs8,⟨h.nums.1,h.nums.2.1,h.nums.2.2.1,by have:=h.nums.2.2.2.1;simp only [N9,eR] at this⊢;omega,h.nums.2.2.2.2⟩,h.subs.map fun s hs=>?_⟩
  have hel:=h.subs.el s hs
  have ht:=hk.2 s hs
  have hN:N9 (s.tries+1):=by have:=hel.2.2.2.2.2.2;simp only [N9] at this⊢;omega
  rw [cW];split
  · split
    · exact⟨⟨by simp,hel.2.1,hel.2.2.1,hel.2.2.2.1,hel.2.2.2.2.1,hel.2.2.2.2.2.1,hN⟩,rfl,fun _=>rfl⟩
    · exact⟨⟨hel.1,hel.2.1,hel.2.2.1,hel.2.2.2.1,hel.2.2.2.2.1,hel.2.2.2.2.2.1,hN⟩,rfl,fun h=>h⟩
  · exact⟨hel,rfl,fun h=>h⟩
theorem H7 {w w':WorldD} {l:List LetterD} (M:MildA w w') (C:Core w) (h:Core w'->Sent w' l):Go1 w w' l:=⟨(M.put C).core C,(M.put C).le,h ((M.put C).core C)⟩
theorem w6 {w:WorldD} (C:Core w):Go1 w w []:=H7 (MildA.refl C) C fun _=>l2
theorem Ga {w:WorldD} (C:Core w) {s:SubD} (hs:s∈w.a.subs):¬ sideAt s.road.far=0/\¬ sideAt s.road.far=1:=by
  have:=(C.sa s hs).far
  omega
theorem Ip {w:WorldD} (C:Core w):Go1 w (p3 w (cL w.a).1) (cL w.a).2:=by
  have ok:=F8 C.oka
  have st:=(v3 (e:=w.a)).trans C.sta
  unfold cL at ok st⊢
  split at ok
  · rename_i hk
    rw [if_pos hk] at st⊢
    refine H7 ⟨rfl,rfl,rfl,rfl,rfl,⟨[],by simp [p3]⟩,⟨ok,st⟩,⟨rfl,rfl,rfl,rfl⟩,SubsKeep.refl _,fun h hh=>⟨h,hh,HalfKeep.refl h⟩,C.oa,C.fa,fun _ _ h=>h,FQ C.oia,C.iia⟩ C fun C'=>?_
    simp only [kr,Bool.and_eq_true,decide_eq_true_eq,gC] at hk
    rcases nU w.a with h0|⟨m,hm,e⟩
    · omega
    · rw [e,Int.toNat_natCast,ke hm]
      obtain⟨f0,f1⟩:=Ga C (List.getElem_mem hm)
      refine ua f0 ?_
      have hs:=w3 C.oia hk.1.1
      constructor<;>(intro q1 q2;simp only [vK,aq,ah] at q1 q2;try omega)
      first|exact .inr hs|exact absurd q1 f1
  · rename_i hk
    rw [if_neg hk]
    exact w6 C
theorem GQ:∀ {k:Nat} {w:WorldD},Core w->Go1 w (p3 w (cu k w.a).1) (cu k w.a).2
  |0,w,C=>w6 C
  |k+1,w,C=>by
    have h1:=Ip C
    have h2:=GQ (k:=k) h1.c
    exact h1.trans h2
theorem Iq {w:WorldD} (C:Core w):Sent w (bX w.a):=by
  unfold bX;split
  · rename_i hk
    simp only [AS,Bool.and_eq_true,decide_eq_true_eq,Bool.not_eq_true',decide_eq_false_iff_not] at hk
    intro x hx
    obtain⟨q,hq,rfl⟩:=List.mem_map.1 hx
    have hq':=(List.mem_filter.1 hq).1
    have hs:=F_ (FR hk.2)
    obtain⟨f0,f1⟩:=Ga C hs
    refine⟨f0,?_⟩
    constructor<;>(intro q1 q2;simp only [sh,aq,ah] at q1 q2;try omega)
    all_goals
      intro i d hm
      first
        |exact absurd q1 f1
        | (simp only [sh,aq] at hm
           injection hm with _ _ _ hi hd
           exact⟨by rw [<-hd];exact C.oa q hq',.inl ⟨q,hq',hi,hd⟩⟩)
  · exact l2
theorem HS {w:WorldD} {l:List LetterD} (C:Core w) (hl:Sent w l):Go1 w (p3 w (bQ w.a l).1) (bQ w.a l).2:=by
  have h:=GQ (k:=3) C
  exact⟨h.c,h.le,zR (zR (hl.mono h.le) ((Iq C).mono h.le)) h.s⟩
theorem Ir {w:WorldD} (C:Core w):Go1 w (p3 w (cQ w.a).1) (cQ w.a).2:=by
  have hst:=C.sta
  unfold cQ
  by_cases hk:AT w.a=true
  · rw [if_pos hk,if_pos hst]
    have ok:OkE { eR w.a with subs:=w.a.subs.map cW }:=GA C.oka hk
    have M:MildA w (p3 w { eR w.a with subs:=w.a.subs.map cW }):=by
      refine⟨rfl,rfl,rfl,rfl,rfl,⟨[],by simp [p3]⟩,⟨ok,hst⟩,⟨rfl,rfl,rfl,rfl⟩,SubsKeep.map fun s _=>v4 s,fun h hh=>⟨h,(List.mem_filter.1 hh).1,HalfKeep.refl h⟩,C.oa,C.fa,fun _ _ h=>h,HQ C.oia,C.iia⟩
    have g:Go1 w (p3 w { eR w.a with subs:=w.a.subs.map cW }) (w.a.subs.flatMap (di w.a)):=by
      refine H7 M C fun C' x hx=>?_
      obtain⟨s,hs,hx⟩:=List.mem_flatMap.1 hx
      have S:=C.sa s hs
      have hf:=S.far
      rw [di] at hx
      split at hx
      case isFalse=>simp at hx
      rename_i h12
      have h1000:=S.ask h12
      split at hx
      · simp at hx
      rename_i hn9
      split at hx
      · simp at hx
      have hin:cW s∈(p3 w { eR w.a with subs:=w.a.subs.map cW }).a.subs:=List.mem_map_of_mem hs
      have K:=v4 s
      split at hx
      · rw [List.mem_singleton.1 hx]
        refine⟨by show ¬ sideAt s.road.far=0;omega,?_⟩
        constructor<;>(intro q1 q2;simp only [eM,aq,ah] at q1 q2;try omega)
        exact .inr ⟨_,hin,by rw [K.mine];exact h1000,K.mine.symm,K.take.symm,by rw [K.road];rfl⟩
      · rename_i h1
        rw [List.mem_singleton.1 hx]
        refine⟨by show ¬ sideAt s.road.far=0;omega,?_⟩
        constructor<;>(intro q1 q2;simp only [cb,aq,ah] at q1 q2;try omega)
        intro m n hm
        simp only [cb,aq,p3] at hm
        injection hm with _ _ _ hm hn'
        exact⟨_,hin,by rcases K.state with q|q<;>omega,by rw [K.mine];exact h1000,by rw [K.mine];exact hm.symm,by rw [K.theirs];exact hn'.symm,by rw [K.road];rfl⟩
    have t:=HS g.c g.s
    exact⟨t.c,g.le.trans t.le,t.s⟩
  · rw [if_neg hk];exact w6 C
theorem Is {w:WorldD} (C:Core w) (r:RoadD) (b:Bool):Go1 w (p3 w (dz w.a r b).1) (dz w.a r b).2:=by
  have ok:=G0 (r:=r) (b:=b) C.oka
  unfold dz at ok⊢
  split at ok
  · rename_i hk
    rw [if_pos hk]
    simp only [w_,Bool.and_eq_true,decide_eq_true_eq,vP,u0] at hk
    obtain⟨⟨⟨⟨⟨⟨⟨k1,k2⟩,k3⟩,k4⟩,k5⟩,k6⟩,k7⟩,k8⟩:=hk
    have da:=C.da
    simp only [fN,eh,List.any_eq_true,beq_iff_eq] at k5 k6
    obtain⟨q,q1,q2⟩:=k5
    obtain⟨f,f1,f2⟩:=k6
    have ho:=C.oa q q1
    have hf:=(C.fa f f1).1
    rw [q2] at ho
    rw [f2] at hf
    have hmem:eN w.a r b∈w.a.subs++[eN w.a r b]:=by simp
    have P:PutA w (p3 w { w.a with subs:=w.a.subs++[eN w.a r b],draw:=w.a.draw+4 }):=by
      refine⟨rfl,rfl,rfl,rfl,rfl,⟨[],by simp [p3]⟩,ok.1,ok.2.trans C.sta,C.sia,rfl,rfl,⟨by dsimp only [p3];omega,by dsimp only [p3];omega⟩,fun s hs=>⟨s,List.mem_append_left _ hs,SubTo.refl s⟩,fun s hs=>?_,?_,fun h hh=>?_,C.oa,C.fa,fun _ _ h=>h,C.oia,C.iia⟩
      · rcases List.mem_append.1 hs with hs|hs
        · have S:=C.sa s hs
          exact⟨by have:=S.t4;dsimp only [p3];omega,S.tn,S.mine,S.own,S.far,S.th,S.on,S.ask⟩
        · rw [List.mem_singleton.1 hs]
          refine⟨by simp only [eN,p3];omega,fun hc=>?_,.inr ⟨rfl,fun hc=>?_⟩,ho,hf,⟨by have:=C.db;simp only [eN];omega,fun h hh hm=>?_⟩,fun h3=>by simp [eN] at h3,fun _=>by simp only [eN];omega⟩
          · have:=(C.nn _ hc).1 (by simp only [eN];omega)
            simp only [eN] at this
            omega
          · have:=(C.nn _ hc).1 (by simp only [eN];omega)
            simp only [eN] at this
            omega
          · have:=(C.hb h hh).m4
            simp only [eN] at hm
            omega
      · dsimp only [p3]
        rw [List.pairwise_append]
        refine⟨C.sad,List.pairwise_singleton ..,fun s hs t ht=>?_⟩
        rw [List.mem_singleton.1 ht]
        have:=(C.sa s hs).t4
        simp only [eN]
        omega
      · have S:=C.ha h hh
        refine⟨by have:=S.m4;dsimp only [p3];omega,fun s hs=>?_,S.th⟩
        rcases List.mem_append.1 hs with hs|hs
        · exact S.sep s hs
        · rw [List.mem_singleton.1 hs]
          have:=S.m4
          simp only [eN]
          omega
    refine⟨P.core C,P.le,ua ?_ ?_⟩
    · show ¬ sideAt r.far=0
      omega
    · constructor<;>(intro q1 q2;simp only [eM,eN,aq,ah] at q1 q2;try omega)
      exact .inr ⟨_,hmem,by simp only [eN];omega,rfl,rfl,rfl⟩
  · rename_i hk
    rw [if_neg hk];exact w6 C
theorem HT {far:List AddrD}:∀ {l:List RoadD} {w:WorldD},Core w->Go1 w (p3 w (dS far w.a l).1) (dS far w.a l).2
  |[],w,C=>w6 C
  |r::l,w,C=>by
    have h1:=Is C r (aZ far r.far)
    have h2:=HT (far:=far) (l:=l) h1.c
    exact h1.trans h2
theorem IH {w:WorldD} {a:ActD} (C:Core w) (G:SmallP w.a.inp) (hs:a.side=1) (hb:dl w a=false):Go1 w (cq (gD w a) 1 (ie w.a a).1) (ie w.a a).2:=by
  have ok:=G1 (a:=a) C.oka G
  have hE:bB w a.side=w.a:=by rw [hs];rfl
  have heo:af w.a=true:=p5.2 C.oka
  have hset:∀ (u:WorldD) (e:EndD),cq u 1 e={ u with a:=e }:=fun u e=>rfl
  rw [hset]
  unfold ie at ok⊢
  unfold gD
  rw [hE]
  by_cases k1:a.kind=1
  · simp only [if_pos k1]
    rw [dT,if_pos hs]
    have ok1:=Ft (t:=a.text) C.oka
    have hw:cc w.a a.text=({ w.a with out:=(eL w.a.out a.text).1 },(eL w.a.out a.text).2):=AN heo
    rw [hw] at ok1
    rw [hw,aA,hw]
    dsimp only
    have M:MildA w { w with wroteA:=w.wroteA++a.text.take (eL w.a.out a.text).2,a:={ w.a with out:=(eL w.a.out a.text).1 } }:=
      ⟨rfl,rfl,rfl,rfl,rfl,⟨_,rfl⟩,⟨ok1.1,ok1.2.trans C.sta⟩,⟨rfl,rfl,rfl,rfl⟩,SubsKeep.refl _,fun h hh=>⟨h,hh,HalfKeep.refl h⟩,C.oa,C.fa,fun _ _ h=>h,Gy C.oia,C.iia⟩
    have g:=H7 M C fun _=>l2
    have g2:=GQ (k:=3) g.c
    exact g.trans g2
  simp only [if_neg k1] at ok⊢
  by_cases k2:a.kind=2
  · simp only [if_pos k2] at ok⊢
    rw [bR,if_pos hs]
    have hr:bi w.a a.many=({ w.a with inp:=(bK w.a.inp a.many).1 },(bK w.a.inp a.many).2):=AP heo
    rw [hr] at ok⊢
    exact H7 ⟨rfl,rfl,rfl,rfl,rfl,⟨[],by simp⟩,⟨ok.1,ok.2.trans C.sta⟩,⟨rfl,rfl,rfl,rfl⟩,SubsKeep.refl _,fun h hh=>⟨h,hh,HalfKeep.refl h⟩,C.oa,C.fa,fun _ _ h=>h,C.oia,HO C.iia⟩ C fun _=>l2
  simp only [if_neg k2] at ok⊢
  by_cases k3:a.kind=3
  · simp only [if_pos k3]
    exact Ir C
  simp only [if_neg k3] at ok⊢
  by_cases k4:a.kind=4
  · simp only [if_pos k4]
    unfold bb
    split
    · exact HT C
    · exact w6 C
  simp only [if_neg k4] at ok⊢
  by_cases k5:a.kind=5
  · simp only [if_pos k5] at ok⊢
    unfold az at ok⊢
    split at ok
    · rename_i hk
      rw [if_pos hk]
      simp only [AR,Bool.and_eq_true,decide_eq_true_eq] at hk
      simp only [dl,k5,decide_true,Bool.true_and,Bool.or_eq_false_iff,Bool.not_eq_false',decide_eq_true_eq,hs] at hb
      refine H7 ⟨rfl,rfl,rfl,rfl,rfl,⟨[],by simp⟩,⟨ok.1,ok.2.trans C.sta⟩,⟨rfl,rfl,rfl,rfl⟩,SubsKeep.refl _,fun h hh=>⟨h,hh,HalfKeep.refl h⟩,fun q hq=>?_,C.fa,fun i d h=>?_,C.oia,C.iia⟩ C fun _=>l2
      · rcases sN hq with rfl|hq
        · exact hb.1
        · exact C.oa q hq
      · rcases h with⟨q,h1,h2,h3⟩|h
        · exact .inl ⟨q,E3 hk.1.2 h1,h2,h3⟩
        · exact .inr h
    · rename_i hk
      rw [if_neg hk];exact w6 C
  simp only [if_neg k5] at ok⊢
  by_cases k6:a.kind=6
  · simp only [if_pos k6] at ok⊢
    unfold iA at ok⊢
    split at ok
    · rename_i hk
      rw [if_pos hk]
      have K:SubsKeep w.a.subs (ic w.a a.pos):=SubsKeep.map fun s _=>by
        rw [Dt];split
        · exact⟨rfl,rfl,rfl,rfl,rfl,.inr rfl⟩
        · exact SubKeep.refl s
      refine H7 ⟨rfl,rfl,rfl,rfl,rfl,⟨[],by simp⟩,⟨ok.1,ok.2.trans C.sta⟩,⟨rfl,rfl,rfl,rfl⟩,K,fun h hh=>⟨h,hh,HalfKeep.refl h⟩,fun q hq=>C.oa q (qs hq),C.fa,fun i d h=>?_,C.oia,C.iia⟩ C fun C' x hx=>?_
      · rcases h with⟨q,h1,h2,h3⟩|h
        · by_cases hn:q.id=a.pos
          · exact .inr (by dsimp only;rw [<-h2,hn];exact Gr)
          · exact .inl ⟨q,w4 h1 hn,h2,h3⟩
        · exact .inr (Gs h)
      · obtain⟨k,hk2,rfl⟩:=List.mem_map.1 hx
        exact⟨(Ga C' (F_ hk2)).1,u5 (by simp [E6,Bj,aq])⟩
    · rename_i hk
      rw [if_neg hk];exact w6 C
  simp only [if_neg k6] at ok⊢
  unfold ks at ok⊢
  split at ok
  · rename_i hk
    rw [if_pos hk]
    simp only [EE,Bool.and_eq_true,decide_eq_true_eq,vP] at hk
    refine H7 ⟨rfl,rfl,rfl,rfl,rfl,⟨[],by simp⟩,⟨ok.1,ok.2.trans C.sta⟩,⟨rfl,rfl,rfl,rfl⟩,SubsKeep.st4 _ _,fun h hh=>⟨h,hh,HalfKeep.refl h⟩,C.oa,C.fa,fun _ _ h=>h,C.oia,C.iia⟩ C fun _=>ua ?_ (u5 (by simp [E6,aq]))
    have hl:a.pos.toNat < w.a.subs.length:=by omega
    rw [ke hl]
    exact (Ga C (List.getElem_mem hl)).1
  · rename_i hk
    rw [if_neg hk];exact w6 C
theorem H8 {w w':WorldD} {l:List LetterD} (M:MildB w w') (C:Core w) (h:Core w'->Sent w' l):Go1 w w' l:=⟨(M.put C).core C,(M.put C).le,h ((M.put C).core C)⟩
theorem Fy {w:WorldD} (C:Core w):Go1 w w []:=H8 (MildB.refl C) C fun _=>l2
theorem Gb {w:WorldD} (C:Core w) {s:SubD} (hs:s∈w.b.subs):¬ sideAt s.road.far=0/\¬ sideAt s.road.far=2:=by
  have:=(Hm C hs).1
  omega
theorem It {w:WorldD} (C:Core w):Go1 w (inB w (cL w.b).1) (cL w.b).2:=by
  have ok:=F8 C.okb
  have st:=(v3 (e:=w.b)).trans C.stb
  unfold cL at ok st⊢
  split at ok
  · rename_i hk
    rw [if_pos hk] at st⊢
    refine H8 ⟨rfl,rfl,rfl,rfl,rfl,⟨[],by simp [inB]⟩,⟨ok,st⟩,⟨rfl,rfl,rfl,rfl⟩,SubsKeep.refl _,List.Sublist.refl _,C.ob,C.fb,fun _ _ h=>h,FQ C.oib,C.iib⟩ C fun C'=>?_
    simp only [kr,Bool.and_eq_true,decide_eq_true_eq,gC] at hk
    rcases nU w.b with h0|⟨m,hm,e⟩
    · omega
    · rw [e,Int.toNat_natCast,ke hm]
      obtain⟨f0,f1⟩:=Gb C (List.getElem_mem hm)
      refine ua f0 ?_
      have hs:=w3 C.oib hk.1.1
      constructor<;>(intro q1 q2;simp only [vK,aq,ah] at q1 q2;try omega)
      first|exact .inr hs|exact absurd q1 f1
  · rename_i hk
    rw [if_neg hk]
    exact Fy C
theorem GR:∀ {k:Nat} {w:WorldD},Core w->Go1 w (inB w (cu k w.b).1) (cu k w.b).2
  |0,w,C=>Fy C
  |k+1,w,C=>by
    have h1:=It C
    have h2:=GR (k:=k) h1.c
    exact h1.trans h2
theorem Iu {w:WorldD} (C:Core w):Sent w (bX w.b):=by
  unfold bX;split
  · rename_i hk
    simp only [AS,Bool.and_eq_true,decide_eq_true_eq,Bool.not_eq_true',decide_eq_false_iff_not] at hk
    intro x hx
    obtain⟨q,hq,rfl⟩:=List.mem_map.1 hx
    have hq':=(List.mem_filter.1 hq).1
    have hs:=F_ (FR hk.2)
    obtain⟨f0,f1⟩:=Gb C hs
    refine⟨f0,?_⟩
    constructor<;>(intro q1 q2;simp only [sh,aq,ah] at q1 q2;try omega)
    all_goals
      intro i d hm
      first
        |exact absurd q1 f1
        | (simp only [sh,aq] at hm
           injection hm with _ _ _ hi hd
           exact⟨by rw [<-hd];exact C.ob q hq',.inl ⟨q,hq',hi,hd⟩⟩)
  · exact l2
theorem HU {w:WorldD} {l:List LetterD} (C:Core w) (hl:Sent w l):Go1 w (inB w (bQ w.b l).1) (bQ w.b l).2:=by
  have h:=GR (k:=3) C
  exact⟨h.c,h.le,zR (zR (hl.mono h.le) ((Iu C).mono h.le)) h.s⟩
theorem Iv {w:WorldD} (C:Core w):Go1 w (inB w (cQ w.b).1) (cQ w.b).2:=by
  have hst:=C.stb
  unfold cQ
  by_cases hk:AT w.b=true
  · rw [if_pos hk,if_pos hst]
    have ok:OkE { eR w.b with subs:=w.b.subs.map cW }:=GA C.okb hk
    have M:MildB w (inB w { eR w.b with subs:=w.b.subs.map cW }):=by
      refine⟨rfl,rfl,rfl,rfl,rfl,⟨[],by simp [inB]⟩,⟨ok,hst⟩,⟨rfl,rfl,rfl,rfl⟩,SubsKeep.map fun s _=>v4 s,List.filter_sublist,C.ob,C.fb,fun _ _ h=>h,HQ C.oib,C.iib⟩
    have g:Go1 w (inB w { eR w.b with subs:=w.b.subs.map cW }) (w.b.subs.flatMap (di w.b)):=by
      refine H8 M C fun C' x hx=>?_
      obtain⟨s,hs,hx⟩:=List.mem_flatMap.1 hx
      have S:=(C.sb s hs).st
      rw [di,if_neg (by omega)] at hx
      simp at hx
    have t:=HU g.c g.s
    exact⟨t.c,g.le.trans t.le,t.s⟩
  · rw [if_neg hk];exact Fy C
theorem II {w:WorldD} {a:ActD} (C:Core w) (G:SmallP w.b.inp) (hs:a.side=2) (hb:dl w a=false):Go1 w (cq (gD w a) 2 (ie w.b a).1) (ie w.b a).2:=by
  have ok:=G1 (a:=a) C.okb G
  have hE:bB w a.side=w.b:=by rw [hs];rfl
  have heo:af w.b=true:=p5.2 C.okb
  have hset:∀ (u:WorldD) (e:EndD),cq u 2 e={ u with b:=e }:=fun u e=>rfl
  rw [hset]
  unfold ie at ok⊢
  unfold gD
  rw [hE]
  by_cases k1:a.kind=1
  · simp only [if_pos k1]
    rw [dT,if_neg (by omega)]
    have ok1:=Ft (t:=a.text) C.okb
    have hw:cc w.b a.text=({ w.b with out:=(eL w.b.out a.text).1 },(eL w.b.out a.text).2):=AN heo
    rw [hw] at ok1
    rw [hw,aA,hw]
    dsimp only
    have M:MildB w { w with wroteB:=w.wroteB++a.text.take (eL w.b.out a.text).2,b:={ w.b with out:=(eL w.b.out a.text).1 } }:=
      ⟨rfl,rfl,rfl,rfl,rfl,⟨_,rfl⟩,⟨ok1.1,ok1.2.trans C.stb⟩,⟨rfl,rfl,rfl,rfl⟩,SubsKeep.refl _,List.Sublist.refl _,C.ob,C.fb,fun _ _ h=>h,Gy C.oib,C.iib⟩
    have g:=H8 M C fun _=>l2
    have g2:=GR (k:=3) g.c
    exact g.trans g2
  simp only [if_neg k1] at ok⊢
  by_cases k2:a.kind=2
  · simp only [if_pos k2] at ok⊢
    rw [bR,if_neg (by omega)]
    have hr:bi w.b a.many=({ w.b with inp:=(bK w.b.inp a.many).1 },(bK w.b.inp a.many).2):=AP heo
    rw [hr] at ok⊢
    exact H8 ⟨rfl,rfl,rfl,rfl,rfl,⟨[],by simp⟩,⟨ok.1,ok.2.trans C.stb⟩,⟨rfl,rfl,rfl,rfl⟩,SubsKeep.refl _,List.Sublist.refl _,C.ob,C.fb,fun _ _ h=>h,C.oib,HO C.iib⟩ C fun _=>l2
  simp only [if_neg k2] at ok⊢
  by_cases k3:a.kind=3
  · simp only [if_pos k3]
    exact Iv C
  simp only [if_neg k3] at ok⊢
  by_cases k4:a.kind=4
  · simp only [if_pos k4]
    unfold bb
    rw [if_neg (fun hc=>by have:=C.sib;omega)]
    exact Fy C
  simp only [if_neg k4] at ok⊢
  by_cases k5:a.kind=5
  · simp only [if_pos k5] at ok⊢
    unfold az at ok⊢
    split at ok
    · rename_i hk
      rw [if_pos hk]
      simp only [AR,Bool.and_eq_true,decide_eq_true_eq] at hk
      simp only [dl,k5,decide_true,Bool.true_and,Bool.or_eq_false_iff,Bool.not_eq_false',decide_eq_true_eq,hs] at hb
      refine H8 ⟨rfl,rfl,rfl,rfl,rfl,⟨[],by simp⟩,⟨ok.1,ok.2.trans C.stb⟩,⟨rfl,rfl,rfl,rfl⟩,SubsKeep.refl _,List.Sublist.refl _,fun q hq=>?_,C.fb,fun i d h=>?_,C.oib,C.iib⟩ C fun _=>l2
      · rcases sN hq with rfl|hq
        · exact hb.1
        · exact C.ob q hq
      · rcases h with⟨q,h1,h2,h3⟩|h
        · exact .inl ⟨q,E3 hk.1.2 h1,h2,h3⟩
        · exact .inr h
    · rename_i hk
      rw [if_neg hk];exact Fy C
  simp only [if_neg k5] at ok⊢
  by_cases k6:a.kind=6
  · simp only [if_pos k6] at ok⊢
    unfold iA at ok⊢
    split at ok
    · rename_i hk
      rw [if_pos hk]
      have K:SubsKeep w.b.subs (ic w.b a.pos):=SubsKeep.map fun s _=>by
        rw [Dt];split
        · exact⟨rfl,rfl,rfl,rfl,rfl,.inr rfl⟩
        · exact SubKeep.refl s
      refine H8 ⟨rfl,rfl,rfl,rfl,rfl,⟨[],by simp⟩,⟨ok.1,ok.2.trans C.stb⟩,⟨rfl,rfl,rfl,rfl⟩,K,List.Sublist.refl _,fun q hq=>C.ob q (qs hq),C.fb,fun i d h=>?_,C.oib,C.iib⟩ C fun C' x hx=>?_
      · rcases h with⟨q,h1,h2,h3⟩|h
        · by_cases hn:q.id=a.pos
          · exact .inr (by dsimp only;rw [<-h2,hn];exact Gr)
          · exact .inl ⟨q,w4 h1 hn,h2,h3⟩
        · exact .inr (Gs h)
      · obtain⟨k,hk2,rfl⟩:=List.mem_map.1 hx
        exact⟨(Gb C' (F_ hk2)).1,u5 (by simp [E6,Bj,aq])⟩
    · rename_i hk
      rw [if_neg hk];exact Fy C
  simp only [if_neg k6] at ok⊢
  unfold ks at ok⊢
  split at ok
  · rename_i hk
    rw [if_pos hk]
    simp only [EE,Bool.and_eq_true,decide_eq_true_eq,vP] at hk
    refine H8 ⟨rfl,rfl,rfl,rfl,rfl,⟨[],by simp⟩,⟨ok.1,ok.2.trans C.stb⟩,⟨rfl,rfl,rfl,rfl⟩,SubsKeep.st4 _ _,List.Sublist.refl _,C.ob,C.fb,fun _ _ h=>h,C.oib,C.iib⟩ C fun _=>ua ?_ (u5 (by simp [E6,aq]))
    have hl:a.pos.toNat < w.b.subs.length:=by omega
    rw [ke hl]
    exact (Gb C (List.getElem_mem hl)).1
  · rename_i hk
    rw [if_neg hk];exact Fy C
theorem GS {w:WorldD} {x:LetterD} (C:Core w) (h:xa w x=true):(∀ k a b m n,x.tag=⟨k,a,b,m,n⟩->1000<=a->¬ k=0->k=1/\Loose w.nums n)/\Loose w.nums x.nonce/\Loose w.nums x.sgn/\Loose w.nums x.give:=by
 simp only [xa,Bool.and_eq_true,Bool.not_eq_true',decide_eq_false_iff_not,List.all_cons,List.all_nil,Bool.or_eq_true,decide_eq_true_eq,wp,and_true] at h
 obtain⟨⟨⟨h1,h2⟩,h3⟩,_,q2,q3,q4⟩:=h
 refine⟨fun k a b m n he ha hk=>?_,q2,q4,q3⟩
 simp only [f7,Bool.or_eq_true,decide_eq_true_eq,Bool.and_eq_true,wp,List.any_eq_true] at h3
 rw [he] at h3
 rcases h3 with (h3|h3)|⟨u,u1,u2⟩
 ·rw [lF] at h3
  injection h3 with e
  exact absurd e hk
 ·rw [C.keys] at h3
  simp only [List.mem_cons,List.not_mem_nil,or_false] at h3
  omega
 have:=C.tags u (List.mem_of_mem_take u1)
 rw [u2] at this
 exact this
theorem GB {w:WorldD} {x:LetterD} (C:Core w) (h:xa w x=true):LetI w x:=by
 obtain⟨no,q2,q4,_⟩:=GS C h
 have n1:∀ k a b m n,x.tag=⟨k,a,b,m,n⟩->1000<=a->¬ k=0->¬ k=1->False:=fun k a b m n he ha hk h1=>h1 (no k a b m n he ha hk).1
 exact⟨fun _ _=>q2,fun _ _ m hm=>.inl (no _ _ _ _ _ hm C.kb (by decide)).2,fun _ _ m n hm=>n1 _ _ _ _ _ hm C.kb (by decide) (by decide),fun _ _=>.inl q4,fun _ _ i d hm=>(n1 _ _ _ _ _ hm C.kb (by decide) (by decide)).elim,fun _ _=>.inl q4,fun _ _=>.inl q2,fun _ _ m n hm=>(n1 _ _ _ _ _ hm C.ka (by decide) (by decide)).elim,fun _ _ i d hm=>(n1 _ _ _ _ _ hm C.ka (by decide) (by decide)).elim,fun _ _=>.inl q4⟩
theorem Inv.step {w w':WorldD} {l:List LetterD} {side:Int} (h:Inv w) (S:Step w w' l) (hb:w'.bag=w.bag) (hp:w'.past=w.past):Inv (an side w' l):=
 FP ⟨S.c,fun x hx=>(h.bag x (hb▸hx)).mono S.le,fun x hx=>(h.past x (hp▸hx)).mono S.le⟩ S.post
theorem G6 {w:WorldD} {l:List LetterD} (h:Inv w) (hl:∀ x∈l,LetI w x):Inv { w with bag:=l }:=by
 have L:Le w { w with bag:=l }:=E8 rfl rfl (fun _ h=>h) rfl rfl
 exact⟨Gw h.c,fun x hx=>(hl x hx).mono L,fun x hx=>(h.past x hx).mono L⟩
theorem Hn {w:WorldD} {x:LetterD} (h:Inv w) (ga:SmallP w.a.inp) (gb:SmallP w.b.inp) (L:LetI w x):Inv (eF w x):=by
 rcases oU x.to with h0|h0|h0
 ·rw [eF,if_pos h0];exact h
 ·rw [eF,if_neg (by omega),qe,if_pos (.inl h0),h0]
  exact h.step (In h.c ga L h0) rfl rfl
 rw [eF,if_neg (by omega),qe,if_pos (.inr h0),h0]
 exact h.step (Io h.c gb L h0) rfl rfl
theorem Ho (w:WorldD) (a:ActD) (s:Int) (e:EndD):(cq (gD w a) s e).bag=w.bag/\(cq (gD w a) s e).past=w.past:=by
 unfold cq gD dT bR
 repeat' split
 all_goals exact⟨rfl,rfl⟩
theorem Fz {l:List LetterD} {n:Nat} (h:n < l.length):oX l n∈l:=by
 rw [oX,List.getD_eq_getElem?_getD,List.getElem?_eq_getElem h];exact List.getElem_mem h
theorem GT {l:List LetterD} {n:Int} {x:LetterD} (h:x∈fF l n):x∈l:=(qr l n.toNat).subset h
theorem Hq {w:WorldD} {a:ActD} (h:Inv w) (ga:SmallP w.a.inp) (gb:SmallP w.b.inp):Inv (iP w a).1:=by
 unfold iP;split
 ·rename_i hok
  have hs:=uQ hok
  have hp:=Hf hok
  split
  ·unfold eX;split
   ·exact h
   rename_i hb
   have hb:dl w a=false:=by simpa using hb
   obtain⟨k1,k2⟩:=Ho w a a.side (ie (bB w a.side) a).1
   rcases hs with hs|hs
   ·have g:=IH h.c ga hs hb
    have hE:bB w a.side=w.a:=by rw [hs];rfl
    rw [hE] at k1 k2⊢
    rw [hs] at k1 k2⊢
    exact h.step g.step k1 k2
   have g:=II h.c gb hs hb
   have hE:bB w a.side=w.b:=by rw [hs];rfl
   rw [hE] at k1 k2⊢
   rw [hs] at k1 k2⊢
   exact h.step g.step k1 k2
  have hout:Inv { w with bag:=fF w.bag a.pos }:=G6 h fun x hx=>h.bag x (GT hx)
  have app:∀ x,LetI w x->Inv { w with bag:=w.bag++[x] }:=fun x hx=>G6 h fun y hy=>by
   rcases List.mem_append.1 hy with hy|hy
   ·exact h.bag y hy
   rw [List.mem_singleton.1 hy];exact hx
  unfold ce
  split
  ·split
   ·exact h
   rename_i hl
   split
   ·refine Hn hout ga gb ?_
    exact (h.bag _ (Fz (show a.pos.toNat < w.bag.length by omega))).mono (E8 rfl rfl (fun _ h=>h) rfl rfl)
   exact hout
  split
  ·split
   ·exact h
   rename_i hl
   rw [not_or] at hl
   exact app _ (h.bag _ (Fz (by omega)))
  split
  ·split
   ·exact h
   rename_i hm
   split
   ·exact h
   exact app _ (GB h.c (by simpa using hm))
  split
  ·exact h
  rename_i hl
  rw [not_or] at hl
  exact app _ (h.past _ (Fz (by omega)))
 exact h
theorem Start.inv {w:WorldD} (S:Start w):Inv w:=by
 have h:=S.e
 simp only [startE,Bool.and_eq_true,decide_eq_true_eq] at h
 obtain⟨⟨⟨⟨⟨⟨oa,ob⟩,a1,a2,a3,a4,a5,a6,a7,a8,a9,a10,a11,a12⟩,b1,b2,b3,b4,b5,b6,b7,b8⟩,c1,c2⟩,d1,d2,d3,d4,d5,d6⟩,e1,e2⟩:=h
 refine⟨⟨p5.1 oa,p5.1 ob,a1,a2,a3,a4,by omega,by omega,by omega,by omega,by omega,S.keys,by rw [S.tags];simp,by omega,by omega,by rw [S.nums];simp,?_,by rw [e1];simp,?_,by rw [b1];simp,by rw [b2];simp,by rw [b2];simp,by rw [b3];decide,by rw [b4];decide,?_,?_,by rw [S.wa,c1];exact⟨by decide,rfl⟩,by rw [S.wb,c2];exact⟨by decide,rfl⟩,by rw [S.wb,S.ra];exact⟨d1,⟨[],by rw [d2];rfl⟩,by rw [d3];simp⟩,by rw [S.wa,S.rb];exact⟨d4,⟨[],by rw [d5];rfl⟩,by rw [d6];simp⟩⟩,by rw [S.bag];simp,by rw [S.past];simp⟩
 ·rw [S.nums,b2,e1,e2,a9,a10]
  intro s hs
  rw [List.mem_singleton.1 hs]
  exact⟨by decide,by simp,.inl rfl,by decide,by decide,⟨by decide,by simp⟩,fun _=>⟨_,List.mem_singleton.2 rfl,rfl,rfl,rfl⟩,by decide⟩
 ·rw [S.nums,e1,e2,a10]
  intro s hs
  rw [List.mem_singleton.1 hs]
  exact⟨by decide,by simp,.inl rfl,⟨_,List.mem_singleton.2 rfl,by decide,rfl,rfl,rfl⟩⟩
 ·rw [b5]
  intro f hf
  rw [dO,List.mem_singleton] at hf
  rw [hf]
  exact⟨by decide,.inl ⟨⟨0,21,false,true⟩,by rw [b4];simp [eK],rfl,rfl⟩⟩
 rw [b6]
 intro f hf
 rw [dO,List.mem_singleton] at hf
 rw [hf]
 exact⟨by decide,.inl ⟨⟨0,11,false,true⟩,by rw [b3];simp [eK],rfl,rfl⟩⟩
structure Same4 (e e':EndD):Prop where
 subs:e'.subs=e.subs
 far:e'.far=e.far
 inp:e'.inp=e.inp
 out:e'.out=e.out
theorem Same4.refl (e:EndD):Same4 e e:=⟨rfl,rfl,rfl,rfl⟩
structure Life (w:WorldD) (k:Nat):Prop where
 g:GoodW w k
 i:Inv w
 n:AnsW w
theorem Life.step {w:WorldD} {a:ActD} {k:Nat} (h:Life w k) (ha:a.text.length<=1048576):Life (iP w a).1 (k+1):=⟨B5 h.g ha,Hq h.i h.g.a.p h.g.b.p,B_ h.n⟩
theorem Ni {e:EndD} {x:LetterD} {Q:EndD×List LetterD->Prop} (h0:Q (e,[])) (h1:x.kind=1->Q (ax e x)) (h2:x.kind=2->Q (aS e x)) (h4:x.kind=4->Q (br e x)) (h5:x.kind=5->Q (ay e x)) (h6:x.kind=6->Q (ao e x)) (h7:x.kind=7->Q (aE e x)) (h8:x.kind=8->Q (bC e x)) (h9:x.kind=9->Q (bD e x)) (h10:x.kind=10->Q (bE e x)) (h11:x.kind=11->Q (bF e x)) (h12:x.kind=12->Q (bA e x)) (h13:x.kind=13->Q (bf e x)):Q (bM e x):=by
 by_cases hc:cp e x=true
 ·by_cases k1:x.kind=1
  ·rw [y3 hc k1];exact h1 k1
  by_cases k2:x.kind=2
  ·rw [y4 hc k2];exact h2 k2
  by_cases k4:x.kind=4
  ·rw [y5 hc k4];exact h4 k4
  by_cases k5:x.kind=5
  ·rw [y6 hc k5];exact h5 k5
  by_cases k6:x.kind=6
  ·rw [y7 hc k6];exact h6 k6
  by_cases k7:x.kind=7
  ·rw [y8 hc k7];exact h7 k7
  by_cases k8:x.kind=8
  ·rw [y9 hc k8];exact h8 k8
  by_cases k9:x.kind=9
  ·rw [y_ hc k9];exact h9 k9
  by_cases k10:x.kind=10
  ·rw [vB hc k10];exact h10 k10
  by_cases k11:x.kind=11
  ·rw [vC hc k11];exact h11 k11
  by_cases k12:x.kind=12
  ·rw [vD hc k12];exact h12 k12
  by_cases k13:x.kind=13
  ·rw [vE hc k13];exact h13 k13
  rw [bM,if_pos hc,if_neg k1,if_neg k2,if_neg k4,if_neg k5,if_neg k6,if_neg k7,if_neg k8,if_neg k9,if_neg k10,if_neg k11,if_neg k12,if_neg k13];exact h0
 rw [ur (by simpa using hc)];exact h0
def GAq (sb:List SubD) (s:SubD):Prop:=(s.give=0\/s.give=s.theirs+2\/∃ t∈sb,t.take=s.give)/\∀ t∈sb,t.take=s.give->t.give=s.take
def LCq (w:WorldD) (x:LetterD):Prop:=sideAt x.to=1->x.kind=5->∀ m,x.tag=⟨1,w.b.key,w.a.key,x.nonce,m⟩->Loose w.nums m\/(x.give=x.nonce+2/\∀ t∈w.b.subs,t.take=x.give->t.give=m+2)
theorem GAq.like {sb:List SubD} {s r:SubD} (h:GAq sb s) (h1:r.give=s.give) (h2:r.theirs=s.theirs) (h3:r.take=s.take):GAq sb r:=by
 unfold GAq at h⊢;rw [h1,h2,h3];exact h
theorem GAq.zero {w:WorldD} (C:Core w) {s:SubD} (h:s.give=0):GAq w.b.subs s:=⟨.inl h,fun t ht e=>by have:=(C.sb t ht).t4;omega⟩
theorem P_ {sb l m:List SubD} (K:SubsKeep l m) (h:∀ s∈l,GAq sb s):∀ s∈m,GAq sb s:=fun s hs=>by
 obtain⟨r,r1,r2⟩:=K.old hs
 exact (h r r1).like r2.give r2.theirs r2.take
structure HAq (w:WorldD) (x:LetterD) (r:EndD×List LetterD):Prop where
 ga:(∀ s∈w.a.subs,GAq w.b.subs s)->∀ s∈r.1.subs,GAq w.b.subs s
 lt:∀ y∈r.2,¬ y.kind=11/\(y.kind=5->y.tag.one=w.a.key)
 ip:r.1.inp=w.a.inp\/(x.kind=11/\(∃ s∈w.a.subs,s.take=x.sgn)/\r.1.inp=bs w.a.inp x.pos x.text)
theorem OC {y:LetterD} {P:LetterD->Prop} (h:P y):∀ z∈[y],P z:=fun z hz=>by rw [List.mem_singleton.1 hz];exact h
theorem HAq.stay {w:WorldD} {x:LetterD}:HAq w x (w.a,[]):=⟨fun h=>h,fun y hy=>by simp at hy,.inl rfl⟩
theorem Qy {w:WorldD} {x:LetterD} (C:Core w) (L:LetI w x) (K:LCq w x) (hx:sideAt x.to=1):HAq w x (bM w.a x):=by
 refine Ni HAq.stay (fun _=>?_) (fun _=>?_) (fun k=>?_) (fun k=>?_) (fun k=>?_) (fun k=>?_) (fun _=>?_) (fun _=>?_) (fun _=>?_) (fun k=>?_) (fun _=>?_) (fun _=>?_)
 ·rw [ax,if_neg]
  ·exact HAq.stay
  simp only [f8,Bool.and_eq_true,decide_eq_true_eq];have:=C.sta;omega
 ·rw [aS,if_neg]
  ·exact HAq.stay
  simp only [i2,Bool.and_eq_true,decide_eq_true_eq];have:=C.sta;omega
 ·unfold br;repeat' split
  ·exact⟨fun h=>h,OC ⟨by simp [kT,aq],fun _=>rfl⟩,.inl rfl⟩
  ·exact⟨fun h=>h,OC ⟨by simp [kT,aq],fun _=>rfl⟩,.inl rfl⟩
  exact HAq.stay
 ·unfold ay;split
  case isFalse=>exact HAq.stay
  rename_i hk
  simp only [tO,Bool.and_eq_true,decide_eq_true_eq] at hk
  obtain⟨⟨⟨⟨⟨q1,q2⟩,q3⟩,q4⟩,q5⟩,q6⟩:=hk
  obtain⟨n,e1,hn,_,hrd,_⟩:=ws q4
  rw [e1,Int.toNat_natCast,ke hn] at q5 q6⊢
  rw [C.pa] at q6
  have hs:=List.getElem_mem hn
  have S:=C.sa _ hs
  have h1000:=S.ask (.inl q5)
  refine⟨fun h s hm=>?_,OC ⟨by simp [cb,aq],by simp [cb,aq]⟩,.inl rfl⟩
  rcases List.mem_or_eq_of_mem_set hm with hm|hm
  ·exact h s hm
  rw [hm]
  rcases K hx k _ q6 with g|⟨g1,g2⟩
  ·exact absurd g (G4 C hs h1000)
  refine⟨.inr (.inl g1),fun t ht e=>?_⟩
  rw [g2 t ht e]
  have:=S.mine
  show w.a.subs[n].mine+2=w.a.subs[n].take
  omega
 ·have hno:=L.a6 hx k
  have hA:rE w.a x=false:=by
   cases hj:rE w.a x with
   |false=>rfl
   |true=>
    simp only [rE,Bool.and_eq_true,decide_eq_true_eq] at hj
    rw [C.pa] at hj
    exact absurd hj.2 (hno _ _)
  have hB:BN w.a x=false:=by
   cases hj:BN w.a x with
   |false=>rfl
   |true=>
    simp only [BN,Bool.and_eq_true,decide_eq_true_eq] at hj
    rw [C.pa] at hj
    exact absurd hj.2 (hno _ _)
  by_cases hI:mE w.a x=true
  ·rw [Dp hI hA hB];exact HAq.stay
  rw [Ev (by simpa using hI)];exact HAq.stay
 ·rw [aE];(try dsimp only);split
  case isFalse=>exact HAq.stay
  rename_i hk
  simp only [mu,Bool.and_eq_true,decide_eq_true_eq] at hk
  obtain⟨n,e1,hn,_⟩:=ws hk.1.1.2
  refine⟨fun h s hm=>?_,fun y hy=>by simp at hy,.inl rfl⟩
  rw [e1,Int.toNat_natCast,gW hn] at hm
  rcases List.mem_or_eq_of_mem_set hm with hm|hm
  ·exact h s hm
  rw [hm];exact (h _ (List.getElem_mem hn)).like rfl rfl rfl
 ·unfold bC;split
  ·exact⟨fun h=>h,OC ⟨by simp [rO,aq],by simp [rO,aq]⟩,.inl rfl⟩
  exact HAq.stay
 ·unfold bD;(try dsimp only);split
  ·exact⟨fun h=>h,fun y hy=>by simp at hy,.inl rfl⟩
  exact HAq.stay
 ·unfold bE;(try dsimp only);split
  ·refine⟨P_ (SubsKeep.map fun s _=>?_),fun y hy=>by simp at hy,.inl rfl⟩
   rw [jP];split
   ·exact⟨rfl,rfl,rfl,rfl,rfl,.inr rfl⟩
   exact SubKeep.refl s
  exact HAq.stay
 ·unfold bF;split
  case isFalse=>exact HAq.stay
  rename_i hk
  simp only [qb,Bool.and_eq_true,decide_eq_true_eq] at hk
  obtain⟨n,_,_,hn,_,ht,_⟩:=Hh hk.1
  exact⟨fun h=>h,OC ⟨by simp [vA,aq],by simp [vA,aq]⟩,.inr ⟨k,⟨_,List.getElem_mem hn,ht⟩,rfl⟩⟩
 ·unfold bA;(try dsimp only);split
  ·exact⟨fun h=>h,fun y hy=>by simp at hy,.inl rfl⟩
  exact HAq.stay
 unfold bf;(try dsimp only);split
 ·exact⟨P_ (SubsKeep.st4 _ _),fun y hy=>by simp at hy,.inl rfl⟩
 exact HAq.stay
structure NewB (w:WorldD) (m:List SubD):Prop where
 ev:∀ t∈w.b.subs,∃ t'∈m,t'.road=t.road/\t'.take=t.take/\t'.give=t.give
 nb:∀ t'∈m,(∃ t∈w.b.subs,t'.take=t.take/\t'.give=t.give)\/∃ q∈w.b.halfs,t'.take=q.take/\t'.give=q.give/\∃ r∈w.a.subs,1000<=r.mine/\r.mine=q.theirs/\r.take=q.give
 pw:(w.b.subs.Pairwise fun s t=>¬ s.take=t.take)->m.Pairwise fun s t=>¬ s.take=t.take
theorem NewB.keep {w:WorldD} {m:List SubD} (K:SubsKeep w.b.subs m):NewB w m:=
 ⟨fun t ht=>by obtain⟨u,u1,u2⟩:=K.new ht;exact⟨u,u1,u2.road,u2.take,u2.give⟩,fun t ht=>by obtain⟨u,u1,u2⟩:=K.old ht;exact .inl ⟨u,u1,u2.take,u2.give⟩,K.pw⟩
structure HB (w:WorldD) (x:LetterD) (r:EndD×List LetterD):Prop where
 nb:NewB w r.1.subs
 lt:∀ y∈r.2,¬ y.kind=11/\(y.kind=5->y.give=y.nonce+2/\∀ t∈r.1.subs,¬ t.take=y.give)
 ip:r.1.inp=w.b.inp\/(x.kind=11/\(∃ s∈w.b.subs,s.take=x.sgn)/\r.1.inp=bs w.b.inp x.pos x.text)
theorem HB.stay {w:WorldD} {x:LetterD}:HB w x (w.b,[]):=⟨.keep (SubsKeep.refl _),fun y hy=>by simp at hy,.inl rfl⟩
theorem Qz {w:WorldD} {x:LetterD} (C:Core w) (L:LetI w x) (hx:sideAt x.to=2):HB w x (bM w.b x):=by
 have kr:NewB w w.b.subs:=.keep (SubsKeep.refl _)
 refine Ni HB.stay (fun _=>?_) (fun _=>?_) (fun k=>?_) (fun k=>?_) (fun k=>?_) (fun k=>?_) (fun _=>?_) (fun _=>?_) (fun _=>?_) (fun k=>?_) (fun _=>?_) (fun _=>?_)
 ·rw [ax,if_neg]
  ·exact HB.stay
  simp only [f8,Bool.and_eq_true,decide_eq_true_eq];have:=C.stb;omega
 ·rw [aS,if_neg]
  ·exact HB.stay
  simp only [i2,Bool.and_eq_true,decide_eq_true_eq];have:=C.stb;omega
 ·unfold br;split
  case isFalse=>exact HB.stay
  split
  ·rename_i hs
   simp only [fg,Bool.and_eq_true,decide_eq_true_eq] at hs
   obtain⟨n,e1,hn,hrd⟩:=Fr hs.1.1
   have hj:wP w.b x=w.b.halfs[n]:=by rw [wP,e1,Int.toNat_natCast,g0 hn]
   have H:=C.hb _ (List.getElem_mem hn)
   refine⟨kr,OC ⟨by simp [kT,aq],fun _=>?_⟩,.inl rfl⟩
   simp only [kT,aq]
   rw [hj]
   exact⟨H.m4.2.2.2,H.sep⟩
  refine⟨kr,OC ⟨by simp [kT,aq],fun _=>?_⟩,.inl rfl⟩
  simp only [kT,aq,aK]
  exact⟨trivial,fun t ht=>by have:=(C.sb t ht).t4;omega⟩
 ·rw [Et]
  ·exact HB.stay
  cases hj:tO w.b x with
  |false=>rfl
  |true=>
   simp only [tO,Bool.and_eq_true,decide_eq_true_eq] at hj
   obtain⟨⟨⟨_,q4⟩,q5⟩,_⟩:=hj
   obtain⟨n,e1,hn,_⟩:=ws q4
   rw [e1,Int.toNat_natCast,ke hn] at q5
   have:=(C.sb _ (List.getElem_mem hn)).st
   omega
 ·have hL:=L.b6 hx k
  unfold ao;split
  case isFalse=>exact HB.stay
  split
  ·rename_i ha
   simp only [rE,Bool.and_eq_true,decide_eq_true_eq] at ha
   obtain⟨⟨a1,a2⟩,a3⟩:=ha
   obtain⟨i,e1,hi,hrd⟩:=Fr a1
   have hj:wP w.b x=w.b.halfs[i]:=by rw [wP,e1,Int.toNat_natCast,g0 hi]
   rw [hj] at a3⊢
   have hqm:=List.getElem_mem hi
   have H:=C.hb _ hqm
   rw [C.pb] at a3
   obtain⟨s,s1,s2,s3,s4,s5,s6⟩:=hL _ _ a3
   have hau:∃ r∈w.a.subs,1000<=r.mine/\r.mine=w.b.halfs[i].theirs/\r.take=w.b.halfs[i].give:=by
    rcases H.th with g|⟨_,r,r1,r2,r3,r4,_⟩
    ·rw [s4] at g;exact absurd g (G4 C s1 s3)
    exact⟨r,r1,r2,r3,r4⟩
   obtain⟨l0,hl0⟩:∃ l0,(if 0<=aU w.b.subs (roadOf x) then bP w.b.subs (aU w.b.subs (roadOf x)).toNat 4 else w.b.subs)=l0:=⟨_,rfl⟩
   rw [hl0]
   have K:SubsKeep w.b.subs l0:=by
    rw [<-hl0];split
    ·exact SubsKeep.st4 _ _
    exact SubsKeep.refl _
   refine⟨⟨fun t ht=>?_,fun t ht=>?_,fun p=>?_⟩,OC ⟨by simp [pY,aq],by simp [pY,aq]⟩,.inl rfl⟩
   ·obtain⟨u,u1,u2⟩:=K.new ht
    exact⟨u,List.mem_append_left _ u1,u2.road,u2.take,u2.give⟩
   ·rcases List.mem_append.1 ht with ht|ht
    ·obtain⟨u,u1,u2⟩:=K.old ht
     exact .inl ⟨u,u1,u2.take,u2.give⟩
    rw [List.mem_singleton.1 ht]
    exact .inr ⟨_,hqm,rfl,rfl,hau⟩
   dsimp only
   rw [List.pairwise_append]
   refine⟨K.pw p,List.pairwise_singleton ..,fun a ha b hb=>?_⟩
   rw [List.mem_singleton.1 hb]
   obtain⟨u,u1,u2⟩:=K.old ha
   rw [u2.take]
   exact H.sep u u1
  split
  ·exact⟨kr,OC ⟨by simp [pY,aq],by simp [pY,aq]⟩,.inl rfl⟩
  exact HB.stay
 ·rw [aE];(try dsimp only);split
  case isFalse=>exact HB.stay
  rename_i hk
  simp only [mu,Bool.and_eq_true,decide_eq_true_eq] at hk
  obtain⟨n,e1,hn,_⟩:=ws hk.1.1.2
  have q:=hk.1.2
  rw [e1,Int.toNat_natCast,ke hn] at q
  have:=(C.sb _ (List.getElem_mem hn)).st
  omega
 ·unfold bC;split
  ·exact⟨kr,OC ⟨by simp [rO,aq],by simp [rO,aq]⟩,.inl rfl⟩
  exact HB.stay
 ·unfold bD;(try dsimp only);split
  ·exact⟨kr,fun y hy=>by simp at hy,.inl rfl⟩
  exact HB.stay
 ·unfold bE;(try dsimp only);split
  ·refine⟨.keep (SubsKeep.map fun s _=>?_),fun y hy=>by simp at hy,.inl rfl⟩
   rw [jP];split
   ·exact⟨rfl,rfl,rfl,rfl,rfl,.inr rfl⟩
   exact SubKeep.refl s
  exact HB.stay
 ·unfold bF;split
  case isFalse=>exact HB.stay
  rename_i hk
  simp only [qb,Bool.and_eq_true,decide_eq_true_eq] at hk
  obtain⟨n,_,_,hn,_,ht,_⟩:=Hh hk.1
  exact⟨kr,OC ⟨by simp [vA,aq],by simp [vA,aq]⟩,.inr ⟨k,⟨_,List.getElem_mem hn,ht⟩,rfl⟩⟩
 ·unfold bA;(try dsimp only);split
  ·exact⟨kr,fun y hy=>by simp at hy,.inl rfl⟩
  exact HB.stay
 unfold bf;(try dsimp only);split
 ·exact⟨.keep (SubsKeep.st4 _ _),fun y hy=>by simp at hy,.inl rfl⟩
 exact HB.stay
def OK (r:RoadD) (x:LetterD):Prop:=x.frm=r.own/\x.to=r.far/\x.port=r.port
def P4 (l:List SubD) (y:LetterD):Prop:=¬ y.kind=5/\(y.kind=11->∃ s∈l,s.state=3/\OK s.road y/\y.sgn=s.give)
theorem PN {l:List SubD} {y:LetterD} (h5:¬ y.kind=5) (h:¬ y.kind=11):P4 l y:=⟨h5,fun k=>absurd k h⟩
theorem NF {l:List SubD} {n:Nat} (h:n∈eP l):n∈j0 l:=by
 rw [eP] at h;split at h
 ·exact h
 exact (List.mem_filter.1 h).1
theorem Lp {e:EndD} (h:0<=bt e):∃ s∈e.subs,s.state=3/\aN e.subs (bt e).toNat=s:=by
 rw [bt] at h⊢;split at h
 ·rename_i hc
  have hz:e.pick.toNat % (eP e.subs).length < (eP e.subs).length:=Nat.mod_lt _ (by omega)
  rw [if_pos hc,Int.toNat_natCast,List.getD_eq_getElem?_getD,List.getElem?_eq_getElem hz,Option.getD_some]
  obtain⟨hn,h3⟩:=pN (NF (List.getElem_mem hz))
  exact⟨_,List.getElem_mem hn,h3,ke hn⟩
 omega
theorem QF {e:EndD}:∀ y∈(cL e).2,P4 e.subs y:=by
 unfold cL;split
 ·rename_i hk
  simp only [kr,Bool.and_eq_true,decide_eq_true_eq] at hk
  obtain⟨s,s1,s2,s3⟩:=Lp hk.2
  rw [s3]
  exact OC ⟨by simp [vK,aq],fun _=>⟨s,s1,s2,⟨rfl,rfl,rfl⟩,rfl⟩⟩
 intro y hy;simp at hy
theorem QG {e:EndD}:(cL e).1.inp=e.inp:=by unfold cL;split<;>rfl
theorem PQ:∀ {k:Nat} {e:EndD},(∀ y∈(cu k e).2,P4 e.subs y)/\(cu k e).1.inp=e.inp
 |0,e=>⟨fun y hy=>by simp [cu] at hy,rfl⟩
 |k+1,e=>by
  obtain⟨h1,h2⟩:=PQ (k:=k) (e:=(cL e).1)
  rw [xw] at h1
  refine⟨fun y hy=>?_,h2.trans QG⟩
  rcases List.mem_append.1 hy with hy|hy
  ·exact QF y hy
  exact h1 y hy
structure AEq (e:EndD) (a:ActD) (r:EndD×List LetterD):Prop where
 lt:∀ y∈r.2,P4 r.1.subs y
 sk:SubsKeep e.subs r.1.subs\/(e.side=1/\∀ s∈r.1.subs,s∈e.subs\/s.give=0)
 ip:r.1.inp=if a.kind=2 then (bi e a.many).1.inp else e.inp
theorem Qb {far:List AddrD}:∀ {l:List RoadD} {e:EndD},(∀ y∈(dS far e l).2,∀ m,P4 m y)/\(∀ s∈(dS far e l).1.subs,s∈e.subs\/s.give=0)/\(dS far e l).1.inp=e.inp
 |[],e=>⟨fun y hy=>by simp [dS] at hy,fun s h=>.inl h,rfl⟩
 |r::l,e=>by
  obtain⟨h1,h2,h3⟩:=Qb (far:=far) (l:=l) (e:=(dz e r (aZ far r.far)).1)
  have j:(∀ y∈(dz e r (aZ far r.far)).2,∀ m,P4 m y)/\(∀ s∈(dz e r (aZ far r.far)).1.subs,s∈e.subs\/s.give=0)/\(dz e r (aZ far r.far)).1.inp=e.inp:=by
   unfold dz;split
   ·refine⟨OC fun m=>PN (by simp [eM,aq]) (by simp [eM,aq]),fun s hs=>?_,rfl⟩
    rcases List.mem_append.1 hs with hs|hs
    ·exact .inl hs
    rw [List.mem_singleton.1 hs];exact .inr rfl
   exact⟨fun y hy=>by simp at hy,fun s h=>.inl h,rfl⟩
  obtain⟨j1,j2,j3⟩:=j
  refine⟨fun y hy=>?_,fun s hs=>?_,h3.trans j3⟩
  ·rcases List.mem_append.1 hy with hy|hy
   ·exact j1 y hy
   exact h1 y hy
  rcases h2 s hs with g|g
  ·exact j2 s g
  exact .inr g
theorem Qm {e:EndD} {a:ActD}:AEq e a (ie e a):=by
 have kr:=SubsKeep.refl e.subs
 have nil:∀ {l:List SubD},∀ y∈([]:List LetterD),P4 l y:=fun y hy=>by simp at hy
 unfold ie
 split
 ·rename_i k
  obtain⟨h1,h2⟩:=PQ (k:=3) (e:=(cc e a.text).1)
  have hs:(cc e a.text).1.subs=e.subs/\(cc e a.text).1.inp=e.inp:=by unfold cc;split<;>exact⟨rfl,rfl⟩
  refine⟨fun y hy=>?_,.inl ?_,?_⟩
  ·rw [aA,jf];exact h1 y hy
  ·rw [aA,jf,hs.1];exact kr
  rw [if_neg (by omega)];exact h2.trans hs.2
 split
 ·rename_i k
  have hs:(bi e a.many).1.subs=e.subs:=by unfold bi;split<;>rfl
  exact⟨nil,.inl (by rw [hs];exact kr),by rw [if_pos k]⟩
 rename_i k1 k2
 rw [show (AEq e a=AEq e a) from rfl]
 split
 ·unfold cQ;split
  case isFalse=>exact⟨nil,.inl kr,by rw [if_neg k2]⟩
  split
  ·obtain⟨h1,h2⟩:=PQ (k:=3) (e:={ eR e with subs:=e.subs.map cW })
   refine⟨fun y hy=>?_,.inl ?_,by rw [if_neg k2];exact h2⟩
   ·rw [bQ,jf]
    rw [bQ] at hy
    rcases List.mem_append.1 hy with hy|hy
    ·rcases List.mem_append.1 hy with hy|hy
     ·obtain⟨s,_,hy⟩:=List.mem_flatMap.1 hy
      rw [di] at hy
      repeat' split at hy
      all_goals first
       |(rw [List.mem_singleton.1 hy];exact PN (by simp [eM,cb,aq]) (by simp [eM,cb,aq]))
       |(simp at hy)
     unfold bX at hy;split at hy
     ·obtain⟨q,_,rfl⟩:=List.mem_map.1 hy
      exact PN (by simp [sh,aq]) (by simp [sh,aq])
     simp at hy
    exact h1 y hy
   rw [bQ,jf];exact SubsKeep.map fun s _=>v4 s
  obtain⟨h1,h2⟩:=PQ (k:=3) (e:=eR e)
  refine⟨fun y hy=>?_,.inl ?_,by rw [if_neg k2];exact h2⟩
  ·rw [bQ,jf]
   rw [bQ] at hy
   rcases List.mem_append.1 hy with hy|hy
   ·rcases List.mem_append.1 hy with hy|hy
    ·simp at hy
    unfold bX at hy;split at hy
    ·obtain⟨q,_,rfl⟩:=List.mem_map.1 hy
     exact PN (by simp [sh,aq]) (by simp [sh,aq])
    simp at hy
   exact h1 y hy
  rw [bQ,jf];exact kr
 split
 ·unfold bb;split
  ·rename_i hm
   obtain⟨h1,h2,h3⟩:=Qb (far:=e.far) (l:=ei (wanted e.policy e.own e.far) (fj e.subs)) (e:=e)
   exact⟨fun y hy=>h1 y hy _,.inr ⟨hm.2,h2⟩,by rw [if_neg k2];exact h3⟩
  exact⟨nil,.inl kr,by rw [if_neg k2]⟩
 split
 ·unfold az;split<;>exact⟨nil,.inl kr,by rw [if_neg k2]⟩
 split
 ·unfold iA;split
  ·refine⟨fun y hy=>?_,.inl (SubsKeep.map fun s _=>?_),by rw [if_neg k2]⟩
   ·obtain⟨q,_,rfl⟩:=List.mem_map.1 hy
    exact PN (by simp [Bj,aq]) (by simp [Bj,aq])
   rw [Dt];split
   ·exact⟨rfl,rfl,rfl,rfl,rfl,.inr rfl⟩
   exact SubKeep.refl s
  exact⟨nil,.inl kr,by rw [if_neg k2]⟩
 unfold ks;split
 ·exact⟨OC (PN (by simp [aq]) (by simp [aq])),.inl (SubsKeep.st4 _ _),by rw [if_neg k2]⟩
 exact⟨nil,.inl kr,by rw [if_neg k2]⟩
theorem Qn {W R:List UInt8} {e:EndD} {m:Int} (h:InI W R e.inp):InI W (R++(bi e m).2) (bi e m).1.inp:=by
 unfold bi;split
 ·exact HO h
 rw [List.append_nil];exact h
def PA (w:WorldD) (x:LetterD):Prop:=Slice w.wroteA x.pos x.text/\∃ s∈w.a.subs,¬ s.state=1/\OK s.road x/\x.sgn=s.give/\∃ t∈w.b.subs,t.take=x.sgn/\t.give=s.take
def PB (w:WorldD) (x:LetterD):Prop:=Slice w.wroteB x.pos x.text/\∃ t∈w.b.subs,OK t.road x/\x.sgn=t.give
def PD (w:WorldD) (x:LetterD):Prop:=x.kind=11->PA w x\/PB w x
def CovI (s:Int) (l:List LetterD) (R:List UInt8) (p:PiecesD):Prop:=l.length < 150->∀ W,(∀ x∈l,x.kind=11->sideAt x.to=s->Slice W x.pos x.text)->InI W R p
structure Car (w:WorldD):Prop where
 sbd:w.b.subs.Pairwise fun s t=>¬ s.take=t.take
 ga:∀ s∈w.a.subs,GAq w.b.subs s
 lb:∀ x∈w.bag,LCq w x
 lp:∀ x∈w.past,LCq w x
 bd:∀ x∈w.bag,x.kind=11->Loose w.nums x.sgn\/150<=w.past.length\/x∈w.past
 pd:∀ x∈w.past,PD w x
 ca:CovI 1 w.past w.readA w.a.inp
 cb:CovI 2 w.past w.readB w.b.inp
theorem QA {w:WorldD} {m:List SubD} (C:Core w) (N:NewB w m) {s:SubD} (hs:s∈w.a.subs) (K:GAq w.b.subs s):GAq m s:=by
 have S:=C.sa s hs
 refine⟨?_,fun t ht e=>?_⟩
 ·rcases K.1 with g|g|⟨t,t1,t2⟩
  ·exact .inl g
  ·exact .inr (.inl g)
  obtain⟨u,u1,_,u2,_⟩:=N.ev t t1
  exact .inr (.inr ⟨u,u1,by rw [u2];exact t2⟩)
 rcases N.nb t ht with⟨u,u1,u2,u3⟩|⟨q,q1,q2,q3,r,r1,r2,r3,r4⟩
 ·rw [u3];exact K.2 u u1 (by rw [<-u2];exact e)
 have H:=C.hb q q1
 have m4:=H.m4
 rw [q2] at e
 rw [q3]
 rcases K.1 with g|g|⟨u,t1,t2⟩
 ·omega
 ·obtain⟨p1,_,_⟩:=S.th.2 q q1 (by omega)
  have m1:=S.mine
  have m2:=(C.sa r r1).mine
  omega
 exact absurd (t2.trans e.symm) (H.sep u t1)
theorem LCq.mono {w w':WorldD} {x:LetterD} (C:Core w) (L:LetI w x) (K:LCq w x) (E:Le w w') (N:NewB w w'.b.subs):LCq w' x:=by
 intro h1 h2 m h3
 rw [E.ka,E.kb] at h3
 rcases L.a5 h1 h2 m h3 with g|⟨g1,g2⟩
 ·exact .inl (g.mono E.nums)
 rcases K h1 h2 m h3 with g|⟨k1,k2⟩
 ·exact .inl (g.mono E.nums)
 refine .inr ⟨k1,fun t ht e=>?_⟩
 rcases N.nb t ht with⟨u,u1,u2,u3⟩|⟨q,q1,q2,q3,r,r1,r2,r3,r4⟩
 ·rw [u3];exact k2 u u1 (by rw [<-u2];exact e)
 have m4:=(C.hb q q1).m4
 obtain⟨p1,_,_⟩:=g2 q q1 (by omega)
 have m2:=(C.sa r r1).mine
 omega
theorem PD.mono {w w':WorldD} {x:LetterD} (K:PD w x) (E:Le w w') (N:NewB w w'.b.subs):PD w' x:=by
 intro hk
 rcases K hk with⟨q0,s,s1,s2,s3,s4,t,t1,t2,t3⟩|⟨q0,t,t1,t2,t3⟩
 ·obtain⟨s',r1,r2⟩:=E.sa s s1
  obtain⟨p1,p2,p3⟩:=r2.rest s2
  obtain⟨u,u1,_,u2,u3⟩:=N.ev t t1
  obtain⟨v,hv⟩:=E.wa
  exact .inl ⟨by rw [hv];exact q0.app v,s',r1,p1,by rw [r2.road];exact s3,by rw [p3];exact s4,u,u1,u2.trans t2,by rw [u3,r2.take];exact t3⟩
 obtain⟨u,u1,u0,u2,u3⟩:=N.ev t t1
 obtain⟨v,hv⟩:=E.wb
 exact .inr ⟨by rw [hv];exact q0.app v,u,u1,by rw [u0];exact t2,by rw [u3];exact t3⟩
theorem Car.put {w w':WorldD} (I:Inv w) (K:Car w) (E:Le w w') (N:NewB w w'.b.subs) (hb:w'.bag=w.bag) (hp:w'.past=w.past) (ga:∀ s∈w'.a.subs,GAq w'.b.subs s) (ca:CovI 1 w.past w'.readA w'.a.inp) (cb:CovI 2 w.past w'.readB w'.b.inp):Car w':=by
 refine⟨N.pw K.sbd,ga,?_,?_,?_,?_,by rw [hp];exact ca,by rw [hp];exact cb⟩
 ·rw [hb];exact fun x hx=>(K.lb x hx).mono I.c (I.bag x hx) E N
 ·rw [hp];exact fun x hx=>(K.lp x hx).mono I.c (I.past x hx) E N
 ·rw [hb,hp];exact fun x hx k=>(K.bd x hx k).imp (fun g=>g.mono E.nums) id
 rw [hp];exact fun x hx=>(K.pd x hx).mono E N
theorem CovI.more {s:Int} {l:List LetterD} {x:LetterD} {R:List UInt8} {p:PiecesD} (h:CovI s l R p):CovI s (mS l x) R p:=by
 intro hl W hW
 rw [mS] at hl hW
 split at hl
 ·rename_i h1
  rw [if_pos h1] at hW
  exact h h1 W fun y hy=>hW y (List.mem_append_left _ hy)
 rename_i h1
 omega
theorem Nj {w:WorldD} {side:Int} {x:LetterD} (I:Inv w) (K:Car w) (P:Post w x) (hl:LCq w x) (hd:PD w x):Car (cn side w x):=by
 obtain⟨I',E,ea,eb⟩:=Hl (side:=side) I P
 obtain⟨_,_,_,_,er,es⟩:=gm (side:=side) (w:=w) (x:=x)
 have N:NewB w (cn side w x).b.subs:=by rw [eb];exact .keep (SubsKeep.refl _)
 have hp:(cn side w x).past=mS w.past x:=by unfold cn;split<;>rfl
 have hb:∀ y∈(cn side w x).bag,y=x\/y∈w.bag:=by
  intro y hy
  unfold cn at hy;split at hy
  ·exact .inr hy
  dsimp only at hy
  rw [ut] at hy;split at hy
  ·rcases List.mem_append.1 hy with hy|hy
   ·exact .inr hy
   exact .inl (List.mem_singleton.1 hy)
  exact .inr hy
 have hq:∀ y∈mS w.past x,y=x\/y∈w.past:=by
  intro y hy
  rw [mS] at hy;split at hy
  ·rcases List.mem_append.1 hy with hy|hy
   ·exact .inr hy
   exact .inl (List.mem_singleton.1 hy)
  exact .inr hy
 have hin:x∈mS w.past x\/150<=(mS w.past x).length:=by
  rw [mS];split
  ·exact .inl (by simp)
  exact .inr (by omega)
 have hold:∀ y∈w.past,y∈mS w.past x:=fun y hy=>by
  rw [mS];split
  ·exact List.mem_append_left _ hy
  exact hy
 have hlen:w.past.length<=(mS w.past x).length:=by
  rw [mS];split
  ·simp
  exact Nat.le_refl _
 refine⟨by rw [eb];exact K.sbd,by rw [ea,eb];exact K.ga,fun y hy=>?_,fun y hy=>?_,fun y hy k=>?_,fun y hy=>?_,by rw [hp,er,ea];exact K.ca.more,by rw [hp,es,eb];exact K.cb.more⟩
 ·rcases hb y hy with rfl|hy
  ·exact hl.mono I.c P.let E N
  exact (K.lb y hy).mono I.c (I.bag y hy) E N
 ·rw [hp] at hy
  rcases hq y hy with rfl|hy
  ·exact hl.mono I.c P.let E N
  exact (K.lp y hy).mono I.c (I.past y hy) E N
 ·rw [hp]
  rcases hb y hy with rfl|hy
  ·exact .inr hin.symm
  rcases K.bd y hy k with g|g|g
  ·exact .inl (g.mono E.nums)
  ·exact .inr (.inl (by omega))
  exact .inr (.inr (hold y g))
 rw [hp] at hy
 rcases hq y hy with rfl|hy
 ·exact hd.mono E N
 exact (K.pd y hy).mono E N
theorem LO {side:Int}:∀ {l:List LetterD} {w:WorldD},Inv w->Car w->(∀ x∈l,Post w x)->(∀ x∈l,LCq w x/\PD w x)->Car (an side w l)
 |[],w,I,K,_,_=>K
 |x::l,w,I,K,P,Q=>by
  obtain⟨I',E,ea,eb⟩:=Hl (side:=side) I (P x (by simp))
  have N:NewB w (cn side w x).b.subs:=by rw [eb];exact .keep (SubsKeep.refl _)
  exact LO (l:=l) I' (Nj I K (P x (by simp)) (Q x (by simp)).1 (Q x (by simp)).2) (fun y hy=>(P y (by simp [hy])).mono E ea eb) fun y hy=>
   ⟨(Q y (by simp [hy])).1.mono I.c (P y (by simp [hy])).let E N,(Q y (by simp [hy])).2.mono E N⟩
theorem Car.step {w w':WorldD} {l:List LetterD} {side:Int} (I:Inv w) (S:Step w w' l) (hb:w'.bag=w.bag) (hp:w'.past=w.past) (K':Car w') (Q:∀ x∈l,LCq w' x/\PD w' x):Car (an side w' l):=
 LO ⟨S.c,fun x hx=>(I.bag x (hb▸hx)).mono S.le,fun x hx=>(I.past x (hp▸hx)).mono S.le⟩ K' S.post Q
theorem Qs {w:WorldD} {x:LetterD} (I:Inv w) (K:Car w) (ga:SmallP w.a.inp) (gb:SmallP w.b.inp) (L:LetI w x) (Q:LCq w x) (B:x.kind=11->Loose w.nums x.sgn\/150<=w.past.length\/x∈w.past):Car (eF w x):=by
 have C:=I.c
 rcases oU x.to with h0|h0|h0
 ·rw [eF,if_pos h0];exact K
 ·rw [eF,if_neg (by omega),qe,if_pos (.inl h0),h0]
  have S:=In C ga L h0
  have H:=Qy C L Q h0
  have N:NewB w (p3 w (bM w.a x).1).b.subs:=.keep (SubsKeep.refl _)
  refine Car.step I S rfl rfl (K.put I S.le N rfl rfl (H.ga K.ga) (fun hl W hW=>?_) K.cb) fun y hy=>⟨fun _ k5 m hm=>?_,fun k=>absurd k (H.lt y hy).1⟩
  ·rcases H.ip with e|⟨k,⟨s,hs,ht⟩,e⟩
   ·show InI W w.readA (bM w.a x).1.inp;rw [e];exact K.ca hl W hW
   show InI W w.readA (bM w.a x).1.inp;rw [e]
   refine Fx (K.ca hl W hW) ga ?_
   rcases B k with g|g|g
   ·rw [<-ht] at g;exact absurd g (G3 C hs)
   ·omega
   exact hW x g k h0
  have h1:=(H.lt y hy).2 k5
  rw [hm] at h1
  exact absurd h1.symm C.kk
 rw [eF,if_neg (by omega),qe,if_pos (.inr h0),h0]
 have S:=Io C gb L h0
 have H:=Qz C L h0
 refine Car.step I S rfl rfl (K.put I S.le H.nb rfl rfl (fun s hs=>QA C H.nb hs (K.ga s hs)) K.ca fun hl W hW=>?_) fun y hy=>⟨fun _ k5 m hm=>?_,fun k=>absurd k (H.lt y hy).1⟩
 ·rcases H.ip with e|⟨k,⟨s,hs,ht⟩,e⟩
  ·show InI W w.readB (bM w.b x).1.inp;rw [e];exact K.cb hl W hW
  show InI W w.readB (bM w.b x).1.inp;rw [e]
  refine Fx (K.cb hl W hW) gb ?_
  rcases B k with g|g|g
  ·rw [<-ht] at g;exact absurd g (H2 C hs)
  ·omega
  exact hW x g k h0
 obtain⟨g1,g2⟩:=(H.lt y hy).2 k5
 exact .inr ⟨g1,fun t ht e=>absurd e (g2 t ht)⟩
theorem QB {w:WorldD} {a:ActD} (I:Inv w) (K:Car w) (ga:SmallP w.a.inp) (gb:SmallP w.b.inp) (hs:a.side=1\/a.side=2) (hb:dl w a=false):Car (an a.side (cq (gD w a) a.side (ie (bB w a.side) a).1) (ie (bB w a.side) a).2):=by
 have C:=I.c
 obtain⟨k1,k2⟩:=Ho w a a.side (ie (bB w a.side) a).1
 obtain⟨ea,eb,_,_⟩:=xB w a
 rcases hs with hs|hs
 ·have g:=(IH C ga hs hb).step
  have hE:bB w a.side=w.a:=by rw [hs];rfl
  have hrB:(gD w a).readB=w.readB:=by
   by_cases h1:a.kind=1<;>by_cases h2:a.kind=2<;>simp [gD,dT,bR,h1,h2,hs]
  have hrA:(gD w a).readA=if a.kind=2 then w.readA++(bi w.a a.many).2 else w.readA:=by
   unfold gD dT bR;rw [if_pos hs,if_pos hs,hE]
   by_cases h1:a.kind=1
   ·rw [if_pos h1,if_neg (by omega)]
   rw [if_neg h1];split<;>rfl
  rw [hE] at k1 k2⊢
  rw [hs] at k1 k2⊢
  have A:=Qm (e:=w.a) (a:=a)
  have e1:(cq (gD w a) 1 (ie w.a a).1).a=(ie w.a a).1:=rfl
  have e2:(cq (gD w a) 1 (ie w.a a).1).b=w.b:=eb
  have N:NewB w (cq (gD w a) 1 (ie w.a a).1).b.subs:=by rw [e2];exact .keep (SubsKeep.refl _)
  refine Car.step I g k1 k2 (K.put I g.le N k1 k2 ?_ (fun hl W hW=>?_) ?_) fun y hy=>?_
  ·rw [e1,e2]
   rcases A.sk with h|⟨_,h⟩
   ·exact P_ h K.ga
   exact fun s hs=>(h s hs).elim (K.ga s) fun g=>GAq.zero C g
  ·rw [e1,A.ip]
   show InI W (gD w a).readA _
   rw [hrA]
   by_cases h2:a.kind=2
   ·rw [if_pos h2,if_pos h2];exact Qn (K.ca hl W hW)
   rw [if_neg h2,if_neg h2];exact K.ca hl W hW
  ·rw [e2]
   show CovI 2 w.past (gD w a).readB _
   rw [hrB];exact K.cb
  obtain⟨p1,p2⟩:=A.lt y hy
  refine⟨fun _ k5=>absurd k5 p1,fun k=>.inl ?_⟩
  obtain⟨s,s1,s2,s3,s4⟩:=p2 k
  have C':=g.c
  have S:=C'.sa s (by rw [e1];exact s1)
  obtain⟨t,t1,t2,t3,t4⟩:=S.on s2
  refine⟨?_,s,by rw [e1];exact s1,by omega,s3,s4,t,t1,t3.trans s4.symm,t4⟩
  rcases (g.post y hy).let.b11 (by rw [s3.2.1];exact S.far) k with q|q
  ·rw [s4,<-t3] at q;exact absurd q (H2 C' t1)
  exact q
 have g:=(II C gb hs hb).step
 have hE:bB w a.side=w.b:=by rw [hs];rfl
 have hrA:(gD w a).readA=w.readA:=by
  by_cases h1:a.kind=1<;>by_cases h2:a.kind=2<;>simp [gD,dT,bR,h1,h2,hs]
 have hrB:(gD w a).readB=if a.kind=2 then w.readB++(bi w.b a.many).2 else w.readB:=by
  unfold gD dT bR;rw [hE,hs]
  by_cases h1:a.kind=1
  ·rw [if_pos h1,if_neg (show ¬ a.kind=2 by omega)];rfl
  rw [if_neg h1];split<;>rfl
 rw [hE] at k1 k2⊢
 rw [hs] at k1 k2⊢
 have A:=Qm (e:=w.b) (a:=a)
 have e1:(cq (gD w a) 2 (ie w.b a).1).b=(ie w.b a).1:=rfl
 have e2:(cq (gD w a) 2 (ie w.b a).1).a=w.a:=ea
 have N:NewB w (cq (gD w a) 2 (ie w.b a).1).b.subs:=by
  rw [e1]
  rcases A.sk with h|⟨h,_⟩
  ·exact .keep h
  have:=C.sib;omega
 refine Car.step I g k1 k2 (K.put I g.le N k1 k2 ?_ ?_ (fun hl W hW=>?_)) fun y hy=>?_
 ·rw [e2];exact fun s hs=>QA C N hs (K.ga s hs)
 ·rw [e2]
  show CovI 1 w.past (gD w a).readA _
  rw [hrA];exact K.ca
 ·rw [e1,A.ip]
  show InI W (gD w a).readB _
  rw [hrB]
  by_cases h2:a.kind=2
  ·rw [if_pos h2,if_pos h2];exact Qn (K.cb hl W hW)
  rw [if_neg h2,if_neg h2];exact K.cb hl W hW
 obtain⟨p1,p2⟩:=A.lt y hy
 refine⟨fun _ k5=>absurd k5 p1,fun k=>.inr ?_⟩
 obtain⟨t,t1,_,t3,t4⟩:=p2 k
 have C':=g.c
 have ht:t∈(cq (gD w a) 2 (ie w.b a).1).b.subs:=by rw [e1];exact t1
 obtain⟨s,s1,_,_,s4,_⟩:=(C'.sb t ht).like
 refine⟨?_,t,ht,t3,t4⟩
 rcases (g.post y hy).let.a11 (by rw [t3.2.1];exact (Hm C' ht).1) k with q|q
 ·rw [t4,<-s4] at q;exact absurd q (G3 C' s1)
 exact q
theorem Car.bag {w:WorldD} {l:List LetterD} (K:Car w) (h:∀ x∈l,LCq w x) (g:∀ x∈l,x.kind=11->Loose w.nums x.sgn\/150<=w.past.length\/x∈w.past):Car { w with bag:=l }:=⟨K.sbd,K.ga,h,K.lp,g,K.pd,K.ca,K.cb⟩
theorem Qt {w:WorldD} {a:ActD} (I:Inv w) (K:Car w) (ga:SmallP w.a.inp) (gb:SmallP w.b.inp):Car (iP w a).1:=by
 unfold iP;split
 ·rename_i hok
  have hs:=uQ hok
  have hp:=Hf hok
  split
  ·unfold eX;split
   ·exact K
   rename_i hb
   exact QB I K ga gb hs (by simpa using hb)
  have hout:Car { w with bag:=fF w.bag a.pos }:=K.bag (fun x hx=>K.lb x (GT hx)) fun x hx=>K.bd x (GT hx)
  have app:∀ x,LCq w x->(x.kind=11->Loose w.nums x.sgn\/150<=w.past.length\/x∈w.past)->Car { w with bag:=w.bag++[x] }:=fun x h1 h2=>by
   refine K.bag (fun y hy=>?_) fun y hy=>?_
   ·rcases List.mem_append.1 hy with hy|hy
    ·exact K.lb y hy
    rw [List.mem_singleton.1 hy];exact h1
   rcases List.mem_append.1 hy with hy|hy
   ·exact K.bd y hy
   rw [List.mem_singleton.1 hy];exact h2
  unfold ce
  split
  ·split
   ·exact K
   rename_i hl
   split
   ·have hm:=Fz (l:=w.bag) (show a.pos.toNat < w.bag.length by omega)
    exact Qs (G6 I fun x hx=>I.bag x (GT hx)) hout ga gb ((I.bag _ hm).mono (E8 rfl rfl (fun _ h=>h) rfl rfl)) (K.lb _ hm) (K.bd _ hm)
   exact hout
  split
  ·split
   ·exact K
   rename_i hl
   rw [not_or] at hl
   have hm:=Fz (l:=w.bag) (show a.pos.toNat < w.bag.length by omega)
   exact app _ (K.lb _ hm) (K.bd _ hm)
  split
  ·split
   ·exact K
   rename_i hm
   split
   ·exact K
   obtain⟨no,_,q4,_⟩:=GS I.c (show xa w a.letter=true by simpa using hm)
   exact app _ (fun _ _ m hm=>.inl (no _ _ _ _ _ hm I.c.kb (by decide)).2) fun _=>.inl q4
  split
  ·exact K
  rename_i hl
  rw [not_or] at hl
  have hm:=Fz (l:=w.past) (show a.pos.toNat < w.past.length by omega)
  exact app _ (K.lp _ hm) fun _=>.inr (.inr hm)
 exact K
theorem Start.car {w:WorldD} (S:Start w):Car w:=by
 have h:=S.e
 simp only [startE,Bool.and_eq_true,decide_eq_true_eq] at h
 obtain⟨⟨⟨⟨⟨⟨oa,ob⟩,a1,a2,a3,a4,a5,a6,a7,a8,a9,a10,a11,a12⟩,b1,b2,b3,b4,b5,b6,b7,b8⟩,c1,c2⟩,d1,d2,d3,d4,d5,d6⟩,e1,e2⟩:=h
 refine⟨by rw [e2];simp,?_,by rw [S.bag];simp,by rw [S.past];simp,by rw [S.bag];simp,by rw [S.past];simp,fun _ W _=>?_,fun _ W _=>?_⟩
 ·rw [e1,e2]
  intro s hs
  rw [List.mem_singleton.1 hs]
  exact⟨.inr (.inr ⟨_,List.mem_singleton.2 rfl,rfl⟩),fun t ht _=>by rw [List.mem_singleton.1 ht]⟩
 ·rw [S.ra]
  exact⟨d1,⟨W,by simp [d2]⟩,by rw [d3];simp⟩
 rw [S.rb]
 exact⟨d4,⟨W,by simp [d5]⟩,by rw [d6];simp⟩
def PG (x:LetterD):Nat:=if x.kind=11 then x.text.length else 0
def PO:List Nat->Nat
 |[]=>0
 |n::l=>n+PO l
def Px (l:List LetterD):Nat:=PO (l.map PG)
theorem Pw (x:LetterD) (l:List LetterD):Px (x::l)=PG x+Px l:=rfl
theorem Qc {B:Nat}:∀ {l:List LetterD},(∀ x∈l,PG x<=B)->Px l<=B*l.length
 |[],_=>by simp [Px,PO]
 |x::l,h=>by
  have h1:=h x (by simp)
  have h2:=Qc (l:=l) fun y hy=>h y (by simp [hy])
  rw [Pw,List.length_cons,Nat.mul_succ];omega
theorem PJ {B:Nat}:∀ {l:List LetterD} {n:Nat},n+Px l<=9000000000000000000->Py (n:Int) l=((n+Px l:Nat):Int)
 |[],n,_=>by simp [Py,Px,PO]
 |x::l,n,h=>by
  rw [Pw] at h⊢
  rw [Py]
  by_cases hk:x.kind=11
  ·have e:PG x=x.text.length:=by rw [PG,if_pos hk]
   rw [e] at h⊢
   rw [if_pos hk,ym (by omega),<-Int.natCast_add,PJ (B:=B) (by omega),Nat.add_assoc]
  have e:PG x=0:=by rw [PG,if_neg hk]
  rw [e] at h⊢
  rw [if_neg hk,PJ (B:=B) (by omega),Nat.zero_add]
theorem Qd {l m:List LetterD} (h:l.Sublist m):Px l<=Px m:=by
 induction h with
 |slnil=>exact Nat.le_refl _
 |cons a _ ih=>rw [Pw];omega
 |cons_cons a _ ih=>rw [Pw,Pw];omega
def Pz (past:List LetterD) (L:List SubD):Nat:=PO (L.map fun s=>Px (past.filter (w1 s)))
def PF (L:List SubD) (x:LetterD):Nat:=(L.filter fun s=>w1 s x).length
theorem PK (x:LetterD) (l:List LetterD):∀ L:List SubD,Pz (x::l) L=PG x*PF L x+Pz l L
 |[]=>by simp [Pz,PF,PO]
 |s::L=>by
  have ih:=PK x l L
  simp only [Pz,PF,List.map_cons,PO,List.filter_cons] at ih⊢
  by_cases h:w1 s x=true
  ·simp only [h,if_true,Pw,List.length_cons,Nat.mul_succ];omega
  simp only [h,if_false,Bool.false_eq_true];omega
theorem PR:∀ L:List SubD,Pz [] L=0
 |[]=>rfl
 |s::L=>by
  have:=PR L
  simp only [Pz,List.map_cons,PO,List.filter_nil] at this⊢
  rw [this];rfl
theorem P5 (L M:List SubD):∀ {l:List LetterD},(∀ x∈l,x.kind=11->PF L x+PF M x=1)->Pz l L+Pz l M=Px l
 |[],_=>by rw [PR,PR];rfl
 |x::l,h=>by
  have ih:=P5 L M (l:=l) fun y hy=>h y (by simp [hy])
  rw [PK,PK,Pw]
  by_cases hk:x.kind=11
  ·have h1:=h x (by simp) hk
   have:PG x*PF L x+PG x*PF M x=PG x:=by rw [<-Nat.mul_add,h1,Nat.mul_one]
   omega
  rw [PG,if_neg hk,Nat.zero_mul,Nat.zero_mul];omega
theorem PY (L:List SubD) (p:LetterD->Bool):∀ {l:List LetterD},(∀ x∈l,p x=true->1<=PF L x)->Px (l.filter p)<=Pz l L
 |[],_=>by simp [Px,PO]
 |x::l,h=>by
  have ih:=PY L p (l:=l) fun y hy=>h y (by simp [hy])
  rw [PK,List.filter_cons]
  split
  ·rename_i hp
   have h1:=h x (by simp) hp
   have:PG x*1<=PG x*PF L x:=Nat.mul_le_mul_left _ h1
   rw [Pw];omega
  omega
theorem PE {s:SubD} {x:LetterD}:w1 s x=true↔OK s.road x/\x.sgn=s.give:=by
 simp only [w1,OK,Bool.and_eq_true,beq_iff_eq,and_assoc]
theorem Qo {L:List SubD} {x:LetterD} {s:SubD} (hd:L.Pairwise fun s t=>¬ s.take=t.take) (hs:s∈L) (h:w1 s x=true) (hu:∀ r∈L,w1 r x=true->r.take=s.take):PF L x=1:=by
 have hp:=hd.sublist (List.filter_sublist (p:=fun s=>w1 s x) (l:=L))
 have hm:s∈L.filter fun s=>w1 s x:=List.mem_filter.2 ⟨hs,h⟩
 have hall:∀ r∈L.filter (fun s=>w1 s x),r.take=s.take:=fun r hr=>hu r (List.mem_filter.1 hr).1 (List.mem_filter.1 hr).2
 unfold PF
 generalize L.filter (fun s=>w1 s x)=F at hp hm hall
 match F,hp,hm,hall with
 |[],_,hm,_=>simp at hm
 |[_],_,_,_=>rfl
 |a::b::r,hp,_,hall=>
  have h1:=hall a (by simp)
  have h2:=hall b (by simp)
  have:=(List.pairwise_cons.1 hp).1 b (by simp)
  omega
theorem Qe {L:List SubD} {x:LetterD} (h:∀ r∈L,¬ w1 r x=true):PF L x=0:=by
 rw [PF,List.filter_eq_nil_iff.2 h];rfl
theorem QI {w:WorldD} {x:LetterD} (C:Core w) (K:Car w) (h:PA w x):PF w.a.subs x=1/\PF w.b.subs x=0:=by
 obtain⟨_,s,s1,s2,s3,s4,t,t1,t2,t3⟩:=h
 refine⟨Qo C.sad s1 (PE.2 ⟨s3,s4⟩) fun r hr hx=>?_,Qe fun r hr hx=>?_⟩
 ·have h4:=(PE.1 hx).2
  have:=(K.ga r hr).2 t t1 (by rw [t2,h4])
  omega
 have h1:=(PE.1 hx).1.1
 have h2:=(Hm C hr).2
 have h3:=(C.sa s s1).own
 rw [<-h1,s3.1] at h2
 omega
theorem QJ {w:WorldD} {x:LetterD} (C:Core w) (K:Car w) (h:PB w x):PF w.a.subs x=0/\PF w.b.subs x=1:=by
 obtain⟨_,t,t1,t2,t3⟩:=h
 obtain⟨s,s1,_,_,s4,s5⟩:=(C.sb t t1).like
 refine⟨Qe fun r hr hx=>?_,Qo K.sbd t1 (PE.2 ⟨t2,t3⟩) fun r hr hx=>?_⟩
 ·have h1:=(PE.1 hx).1.1
  have h2:=(Hm C t1).2
  have h3:=(C.sa r hr).own
  rw [<-h1,t2.1] at h3
  omega
 have h4:=(PE.1 hx).2
 obtain⟨u,u1,_,_,u4,u5⟩:=(C.sb r hr).like
 have:u=s:=Gv C.sad u1 s1 (by rw [u4,s4,<-h4,<-t3])
 subst this
 rw [<-u5,<-s5]
theorem Qf {w:WorldD} (C:Core w) (K:Car w):Pz w.past w.a.subs+Pz w.past w.b.subs=Px w.past:=by
 refine P5 _ _ fun x hx hk=>?_
 rcases K.pd x hx hk with h|h
 ·obtain⟨h1,h2⟩:=QI C K h;omega
 obtain⟨h1,h2⟩:=QJ C K h;omega
def Qw (x:LetterD) (i:Nat):Bool:=decide (x.pos<=(i:Int)) && decide ((i:Int) < x.pos+(x.text.length:Int))
theorem Qp {x:LetterD} (h:0<=x.pos):∀ n:Nat,((((List.range n).filter (Qw x)).length:Nat):Int)<=if (n:Int)<=x.pos then 0 else if (n:Int)<=x.pos+(x.text.length:Int) then (n:Int) - x.pos else (x.text.length:Int)
 |0=>by simp [h]
 |n+1=>by
  have ih:=Qp h n
  rw [List.range_succ,List.filter_append,List.length_append]
  by_cases hx:Qw x n=true
  ·rw [List.filter_cons,if_pos hx]
   simp only [Qw,Bool.and_eq_true,decide_eq_true_eq] at hx
   simp only [List.filter_nil,List.length_singleton]
   split at ih<;>split<;>(try split at ih)<;>(try split)<;>omega
  rw [List.filter_cons,if_neg hx]
  simp only [List.filter_nil,List.length_nil]
  split at ih<;>split<;>(try split at ih)<;>(try split)<;>omega
theorem QK {x:LetterD} (h:0<=x.pos) (n:Nat):((List.range n).filter (Qw x)).length<=x.text.length:=by
 have:=Qp h n
 split at this
 ·omega
 split at this<;>omega
theorem P6 {p q:Nat->Bool}:∀ {l:List Nat},(l.filter fun i=>p i || q i).length<=(l.filter p).length+(l.filter q).length
 |[]=>by simp
 |a::l=>by
  have ih:=P6 (p:=p) (q:=q) (l:=l)
  simp only [List.filter_cons]
  cases p a<;>cases q a<;>simp<;>omega
theorem Qg (n:Nat):∀ {L:List LetterD},(∀ x∈L,0<=x.pos)->((List.range n).filter fun i=>L.any fun x=>Qw x i).length<=PO (L.map fun x=>x.text.length)
 |[],_=>by simp [PO]
 |x::L,h=>by
  have ih:=Qg n (L:=L) fun y hy=>h y (by simp [hy])
  have h1:=QK (h x (by simp)) n
  have h2:=P6 (p:=Qw x) (q:=fun i=>L.any fun y=>Qw y i) (l:=List.range n)
  simp only [List.any_cons,List.map_cons,PO]
  omega
def QC (b:UInt8):UInt8:=if b=0 then 1 else 0
theorem QD (b:UInt8):¬ QC b=b:=by
 rw [QC];split
 ·rename_i h;rw [h];decide
 rename_i h;exact fun e=>h e.symm
def PV (W:List UInt8) (L:List LetterD):List UInt8:=(List.range W.length).map fun i=>if (L.any fun x=>Qw x i)=true then W.getD i 0 else QC (W.getD i 0)
theorem PS (W:List UInt8) (L:List LetterD):(PV W L).length=W.length:=by simp [PV]
theorem Qh {W:List UInt8} {L:List LetterD} {x:LetterD} (hx:x∈L) (h:Slice W x.pos x.text):Slice (PV W L) x.pos x.text:=by
 obtain⟨h0,h1,h2⟩:=h
 refine⟨h0,by rw [PS];exact h1,?_⟩
 obtain⟨p,hp⟩:=Int.eq_ofNat_of_zero_le h0
 have hl:p+x.text.length<=W.length:=by omega
 rw [hp,Int.toNat_natCast] at h2⊢
 refine List.ext_getElem (by simp only [List.length_take,List.length_drop,PS];omega) fun i hi hj=>?_
 have e1:x.text[i]=W[p+i]:=by
  have:x.text[i]? =((W.drop p).take x.text.length)[i]? :=congrArg (fun l=>l[i]?) h2
  rw [List.getElem?_take_of_lt hi,List.getElem?_drop,List.getElem?_eq_getElem hi,List.getElem?_eq_getElem (by omega)] at this
  exact Option.some.inj this
 rw [List.getElem_take,List.getElem_drop,e1]
 have hc:(L.any fun x=>Qw x (p+i))=true:=List.any_eq_true.2 ⟨x,hx,by simp only [Qw,Bool.and_eq_true,decide_eq_true_eq];omega⟩
 simp only [PV,List.getElem_map,List.getElem_range]
 rw [if_pos hc,List.getD_eq_getElem?_getD,List.getElem?_eq_getElem (by omega),Option.getD_some]
theorem QH {W R:List UInt8} {p:PiecesD} {L:List LetterD} (h1:InI W R p) (h2:InI (PV W L) R p):∀ i,i < R.length+p.ready.length->(L.any fun x=>Qw x i)=true:=by
 intro i hi
 obtain⟨T,hT⟩:=h1.pre
 obtain⟨U,hU⟩:=h2.pre
 have hW:i < W.length:=by rw [hT];simp only [List.length_append];omega
 have e1:(PV W L)[i]? =W[i]? :=by
  rw [hU,List.getElem?_append_left (by simp only [List.length_append];omega)]
  conv=>rhs;rw [hT,List.getElem?_append_left (by simp only [List.length_append];omega)]
 by_cases hc:(L.any fun x=>Qw x i)=true
 ·exact hc
 rw [List.getElem?_eq_getElem (by rw [PS];exact hW),List.getElem?_eq_getElem hW] at e1
 have e2:=Option.some.inj e1
 simp only [PV,List.getElem_map,List.getElem_range] at e2
 rw [if_neg hc,List.getD_eq_getElem?_getD,List.getElem?_eq_getElem hW,Option.getD_some] at e2
 exact absurd e2 (QD _)
def Qk (s:Int) (x:LetterD):Bool:=decide (x.kind=11) && decide (sideAt x.to=s)
theorem P7:∀ {L:List LetterD},(∀ x∈L,x.kind=11)->PO (L.map fun x=>x.text.length)=Px L
 |[],_=>rfl
 |x::L,h=>by
  have ih:=P7 (L:=L) fun y hy=>h y (by simp [hy])
  rw [Pw,PG,if_pos (h x (by simp)),List.map_cons,PO,ih]
theorem Qq {W R:List UInt8} {p:PiecesD} {s:Int} {past:List LetterD} (h:InI W R p) (hl:past.length < 150) (K:CovI s past R p) (hs:∀ x∈past,Qk s x=true->Slice W x.pos x.text):R.length+p.ready.length<=Px (past.filter (Qk s)):=by
 have hm:∀ x∈past.filter (Qk s),x.kind=11:=fun x hx=>by
  have:=(List.mem_filter.1 hx).2
  simp only [Qk,Bool.and_eq_true,decide_eq_true_eq] at this
  exact this.1
 have hS:∀ x∈past.filter (Qk s),Slice W x.pos x.text:=fun x hx=>hs x (List.mem_filter.1 hx).1 (List.mem_filter.1 hx).2
 have h2:InI (PV W (past.filter (Qk s))) R p:=K hl _ fun x hx k t=>by
  have hx':x∈past.filter (Qk s):=List.mem_filter.2 ⟨hx,by simp only [Qk,Bool.and_eq_true,decide_eq_true_eq];exact⟨k,t⟩⟩
  exact Qh hx' (hS x hx')
 have hc:=QH h h2
 have h3:=Qg (R.length+p.ready.length) (L:=past.filter (Qk s)) fun x hx=>(hS x hx).1
 rw [List.filter_eq_self.2 fun i hi=>hc i (List.mem_range.1 hi),List.length_range,P7 hm] at h3
 exact h3
theorem Qu {w:WorldD} (C:Core w) (K:Car w) (G:SmallP w.b.inp) (hl:w.past.length < 150):nextOf w.b.inp<=(Pz w.past w.a.subs:Nat):=by
 rw [C.iib.next (dt C.okb.inp G)]
 have hA:∀ x∈w.past,Qk 2 x=true->PA w x:=fun x hx ht=>by
  simp only [Qk,Bool.and_eq_true,decide_eq_true_eq] at ht
  rcases K.pd x hx ht.1 with h|⟨_,t,t1,t2,_⟩
  ·exact h
  have:=(Hm C t1).1
  rw [<-t2.2.1] at this;omega
 have h1:=Qq C.iib hl K.cb fun x hx ht=>(hA x hx ht).1
 have h2:=PY w.a.subs (Qk 2) (l:=w.past) fun x hx ht=>by have:=(QI C K (hA x hx ht)).1;omega
 omega
theorem Qv {w:WorldD} (C:Core w) (K:Car w) (G:SmallP w.a.inp) (hl:w.past.length < 150):nextOf w.a.inp<=(Pz w.past w.b.subs:Nat):=by
 rw [C.iia.next (dt C.oka.inp G)]
 have hA:∀ x∈w.past,Qk 1 x=true->PB w x:=fun x hx ht=>by
  simp only [Qk,Bool.and_eq_true,decide_eq_true_eq] at ht
  rcases K.pd x hx ht.1 with⟨_,s,s1,_,s3,_⟩|h
  ·have:=(C.sa s s1).far
   rw [<-s3.2.1] at this;omega
  exact h
 have h1:=Qq C.iia hl K.ca fun x hx ht=>(hA x hx ht).1
 have h2:=PY w.b.subs (Qk 1) (l:=w.past) fun x hx ht=>by have:=(QJ C K (hA x hx ht)).2;omega
 omega
structure LifeC (w:WorldD) (k:Nat):Prop where
 l:Life w k
 c:Car w
theorem LifeC.step {w:WorldD} {a:ActD} {k:Nat} (h:LifeC w k) (ha:a.text.length<=1048576):LifeC (iP w a).1 (k+1):=⟨h.l.step ha,Qt h.l.i h.c h.l.g.a.p h.l.g.b.p⟩
theorem PX {w:WorldD} {k:Nat} (h:LifeC w k) (hk:k<=1000):Px w.past<=2000000000*1048576:=by
 refine Nat.le_trans (Qc (B:=2000000000) fun x hx=>?_) (Nat.mul_le_mul_left _ h.l.g.r.past)
 have ha:=h.l.g.wa
 have hb:=h.l.g.wb
 rw [PG];split
 ·rename_i hk11
  rcases h.c.pd x hx hk11 with⟨⟨p0,p1,_⟩,_⟩|⟨⟨p0,p1,_⟩,_⟩
  ·omega
  omega
 omega
theorem PZ {w:WorldD} {k:Nat} (h:LifeC w k) (hk:k<=1000) (s:SubD):PC w.past s=((Px (w.past.filter (w1 s)):Nat):Int):=by
 have h1:=PX h hk
 have h2:Px (w.past.filter (w1 s))<=Px w.past:=Qd List.filter_sublist
 have:=PJ (B:=0) (l:=w.past.filter (w1 s)) (n:=0) (by omega)
 rw [PC,show (0:Int)=((0:Nat):Int) from rfl,this,Nat.zero_add]
theorem P2 {w:WorldD} {k:Nat} (h:LifeC w k) (hk:k<=1000):Py 0 w.past=((Px w.past:Nat):Int):=by
 have h1:=PX h hk
 have:=PJ (B:=0) (l:=w.past) (n:=0) (by omega)
 rw [show (0:Int)=((0:Nat):Int) from rfl,this,Nat.zero_add]
theorem Qi {f:SubD->Int} {g:SubD->Nat}:∀ {L:List SubD},(∀ s∈L,f s=(g s:Int))->PI (L.map f)=((PO (L.map g):Nat):Int)
 |[],_=>rfl
 |s::L,h=>by
  rw [List.map_cons,PI,Qi (L:=L) fun r hr=>h r (by simp [hr]),h s (by simp),List.map_cons,PO];omega
theorem PW {w:WorldD} {k:Nat} (h:LifeC w k) (hk:k<=1000) (L:List SubD):PI (L.map (PC w.past))=((Pz w.past L:Nat):Int):=Qi fun s _=>PZ h hk s
theorem P0 {w:WorldD} {k:Nat} (h:LifeC w k) (hk:k<=1000) (L:List SubD):∀ v∈L.map (PC w.past),0<=v/\v<=2000000000*1048576:=fun v hv=>by
 obtain⟨s,_,rfl⟩:=List.mem_map.1 hv
 have h1:=PX h hk
 have h2:Px (w.past.filter (w1 s))<=Px w.past:=Qd List.filter_sublist
 rw [PZ h hk];omega
theorem QE {w:WorldD} {side:Int} (a2:w.a.subs.length<=1048576) (b2:w.b.subs.length<=1048576):(bB w side).subs.length<=1048576:=by
 rw [bB]
 split
 ·exact a2
 split
 ·exact b2
 exact Nat.zero_le _
theorem Ql {α β:Type} {f:α->β} {l:List α} {k:Nat} (h:l.length<=k):(l.drop k).map f=[]:=by
 rw [List.drop_eq_nil_of_le h,List.map_nil]
theorem PM (w:WorldD) (side:Int) (a0:w.a.own.length<=1048576) (a1:w.a.far.length<=1048576) (a2:w.a.subs.length<=1048576) (a3:w.a.halfs.length<=1048576) (a4:w.a.inp.list.length<=1048576) (a5:w.a.done.length<=1048576) (a6:w.a.over.length<=1048576) (b0:w.b.own.length<=1048576) (b1:w.b.far.length<=1048576) (b2:w.b.subs.length<=1048576) (b3:w.b.halfs.length<=1048576) (b4:w.b.inp.list.length<=1048576) (b5:w.b.done.length<=1048576) (b6:w.b.over.length<=1048576) (hp:w.past.length<=1048576):aP 35 [.ag (w.cs 0),.sc (.int .i64 side)] (w.hp false) (.sc (.sl 21 0 (PH w side).length)) (w.hp false++[some ⟨(PH w side).map aM,1,3,true,true⟩]):=by
 have hEA:=BM w side a0 a1 a2 a3 a4 a5 a6 b0 b1 b2 b3 b4 b5 b6
 obtain⟨m0,hm0⟩:∃ m,m=PH w side:=⟨_,rfl⟩
 have hel:=QE (w:=w) (side:=side) a2 b2
 rw [<-hm0]
 rw [PH] at hm0
 obtain⟨e,he⟩:∃ e,e=bB w side:=⟨_,rfl⟩
 rw [<-he] at hEA hm0 hel
 refine qE Tryz.func35 Tryz.ntmps35 Tryz.results35 fun E hE=>?_
 refine qK (Bg _ _ _) [] ?_
 refine qB (fun g1=>?_) fun g1=>?_
 ·have g1':¬ (side=1\/side=2):=by
   intro h
   rw [bj] at g1
   simp at g1
   omega
  rw [if_neg g1'] at hm0
  subst hm0
  exact qF (qI 0 21++qO 1)
 have g1':side=1\/side=2:=by
  rw [bj] at g1
  simp at g1
  omega
 rw [if_pos g1'] at hm0
 refine qX ?_
 refine qK (hEA) (qI 0 21) ?_
 refine jx 21 hE (fun s (x:Nat×List Int)=>s.at (qU [0,2,7,2,10,7,20,50]) [(19,.sc (.int .i64 (x.1:Nat))),(5,.sc (.sl 29 0 x.2.length))] (w.hp false++[some ⟨[w.cs 0],61,44,true,false⟩]++e.hp true++[some ⟨x.2.map aM,1,3,true,true⟩])) (fun (x:Nat×List Int)=>x.1<=e.subs.length/\x.2.length=x.1/\x.2++(e.subs.drop x.1).map (PC w.past)=m0) (fun (x:Nat×List Int)=>e.subs.length - x.1) (0,[]) (qI 0 29++qO 1) (⟨Nat.zero_le _,rfl,hm0.symm⟩) fun x hx N hN=>?_
 obtain⟨k,acc⟩:=x
 obtain⟨hk1,hk2,hk3⟩:=hx
 dsimp only at hk1 hk2 hk3
 refine qR ?_
 refine qB (fun h=>?_) fun h=>?_
 ·rw [Qr h] at hk3
  obtain⟨q,hq⟩:∃ q,q=w.past.filter (w1 e.subs[k]):=⟨_,rfl⟩
  have hql:q.length<=1048576:=by rw [hq];exact Nat.le_trans (List.length_filter_le _ _) hp
  rw [PC,<-hq] at hk3
  refine qX ?_
  generalize hsb:e.subs[k]=sb at hq⊢
  refine jx 21 hE (fun s (y:Nat×List LetterD)=>s.at (qU [0,2,10,7,21,3,27,43]) [(26,.sc (.int .i64 (y.1:Nat))),(8,.sc (.sl 31 0 y.2.length))] (w.hp false++[some ⟨[w.cs 0],61,44,true,false⟩]++e.hp true++[some ⟨acc.map aM,1,3,true,true⟩,some ⟨[sb.cs],10,101,true,false⟩,some ⟨y.2.map LetterD.cs,19,48,true,true⟩])) (fun (y:Nat×List LetterD)=>y.1<=w.past.length/\y.2.length<=y.1/\y.2++(w.past.drop y.1).filter (w1 sb)=q) (fun (y:Nat×List LetterD)=>w.past.length - y.1) (0,[]) (qI 0 31++qO 1) (⟨Nat.zero_le _,Nat.zero_le _,hq.symm⟩) fun y hy N2 hN2=>?_
  obtain⟨j,bcc⟩:=y
  obtain⟨hj1,hj2,hj3⟩:=hy
  dsimp only at hj1 hj2 hj3
  refine qR ?_
  refine qB (fun h2=>?_) fun h2=>?_
  ·rw [P8 h2] at hj3
   refine qX ?_
   refine qB (fun c1=>?_) fun c1=>?_
   ·refine qB (fun c2=>?_) fun c2=>?_
    ·refine qB (fun c3=>?_) fun c3=>?_
     ·refine qB (fun c4=>?_) fun c4=>?_
      ·rw [if_pos (Qx c1 c2 c3 c4)] at hj3
       refine sR hN2 (j+1,bcc++[w.past[j]]) (qI 0 31++qI 34 1) (by (try dsimp only);exact⟨by omega,by simp;omega,by simpa using hj3⟩) ?_
       first|exact⟨⟩|simp [LetterD.cs]
      rw [PP (.inr (.inr (.inr c4)))] at hj3
      rw [if_neg (by simp)] at hj3
      refine qX ?_
      exact qN hN2 (j+1,bcc) (qI 0 32) (by (try dsimp only);exact⟨by omega,by omega,hj3⟩)
     rw [PP (.inr (.inr (.inl c3)))] at hj3
     rw [if_neg (by simp)] at hj3
     refine qX ?_
     exact qN hN2 (j+1,bcc) (qI 0 32) (by (try dsimp only);exact⟨by omega,by omega,hj3⟩)
    rw [PP (.inr (.inl c2))] at hj3
    rw [if_neg (by simp)] at hj3
    refine qX ?_
    exact qN hN2 (j+1,bcc) (qI 0 32) (by (try dsimp only);exact⟨by omega,by omega,hj3⟩)
   rw [PP (.inl c1)] at hj3
   rw [if_neg (by simp)] at hj3
   refine qX ?_
   exact qN hN2 (j+1,bcc) (qI 0 32) (by (try dsimp only);exact⟨by omega,by omega,hj3⟩)
  rw [List.drop_eq_nil_of_le (by omega),List.filter_nil,List.append_nil] at hj3
  subst hj3
  refine qX ?_
  refine qK (PL _ hql) (qI 31 1) ?_
  refine sR hN (k+1,acc++[Py 0 bcc]) (qI 0 29++qI 33 1) (by (try dsimp only);exact⟨by omega,by simp;omega,by simpa using hk3⟩) ?_
  first|exact⟨⟩|simp [aM]
 rw [Ql (by omega),List.append_nil] at hk3
 subst hk3
 exact qF (qI 0 21++qI 29 1)
theorem P1 (l:List LetterD) (hl:l.length<=1048576):aP 37 [.sc (.sl 0 0 l.length)] [some ⟨l.map LetterD.cs,19,48,false,true⟩] (.sc (.int .i64 (Py 0 l))) [some ⟨l.map LetterD.cs,19,48,false,true⟩]:=by
 refine qE Tryz.func37 Tryz.ntmps37 Tryz.results37 fun E hE=>?_
 refine jx 1 hE (fun s (x:Nat×Int)=>s.at (qU [5,20]) [(4,.sc (.int .i64 (x.1:Nat))),(3,.sc (.int .i64 x.2))] (s.hp)) (fun (x:Nat×Int)=>x.1<=l.length/\Py x.2 (l.drop x.1)=Py 0 l) (fun (x:Nat×Int)=>l.length - x.1) (0,0) (qI 0 1) (⟨Nat.zero_le _,rfl⟩) fun x hx N hN=>?_
 obtain⟨k,n⟩:=x
 obtain⟨hk1,hk2⟩:=hx
 dsimp only at hk1 hk2
 refine qR ?_
 refine qB (fun h=>?_) fun h=>?_
 ·rw [PU h] at hk2
  refine qX ?_
  refine qB (fun h2=>?_) fun h2=>?_
  ·rw [if_pos h2] at hk2
   exact qN hN (k+1,IntKind.i64.wrap (n+(l[k].text.length:Int))) (qI 0 1) (by (try dsimp only);exact⟨by omega,hk2⟩)
  rw [if_neg h2] at hk2
  exact qN hN (k+1,n) (qI 0 1) (by (try dsimp only);exact⟨by omega,hk2⟩)
 rw [List.drop_eq_nil_of_le (by omega),Py] at hk2
 refine qP (qI 0 1) ?_
 first|exact⟨⟩|exact hk2
attribute [go_sem] List.append_eq
end
end Go.Proofs.YtjghbknhneffjaaGreat
