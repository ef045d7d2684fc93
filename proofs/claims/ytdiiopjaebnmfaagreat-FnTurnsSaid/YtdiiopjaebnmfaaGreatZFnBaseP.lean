/- Lemmas of this claim. -/
import Derived.Test.YtdiiopjaebnmfaaGreatZFnBaseL
set_option maxHeartbeats 16000000
set_option maxRecDepth 100000
set_option linter.unusedVariables false
set_option linter.unusedSimpArgs false
namespace Go.Proofs.YtdiiopjaebnmfaaGreat
open _root_.Go.Proofs.Tryz
open _root_.List renaming getElem_of_mem->KZ,length_set->K0,mem_append_left->K1,forall_mem_cons->K3,getElem_set->K4,append_nil->K5,mem_cons_self->K6,pairwise_iff_getElem->K7,mem_map->K8,mem_iff_getElem->K9,mem_singleton->K_,any_eq_true->La,getElem_mem->Lb,length_cons->Lc,nodup_cons->Ld
open _root_.Nat renaming le_refl->K2
section
open Go.RowKit
structure MildH (e:EndD) (r:EndD×List LetterD):Prop where
 subs:r.1.subs=e.subs
 halfs:r.1.halfs=e.halfs
 bucket:r.1.bucket=e.bucket
 side:r.1.side=e.side
 key:r.1.key=e.key
 peer:r.1.peer=e.peer
 lt:∀ y∈r.2,y.kind=9\/y.kind=12
theorem uA {e:EndD} {x:LetterD} (k:x.kind=8\/x.kind=9\/x.kind=11\/x.kind=12):MildH e (hear e x):=by
 have F:=eJ e x
 generalize hear e x=r at F⊢
 have no:∀ y∈([]:List LetterD),y.kind=9\/y.kind=12:=fun y hy=>by simp at hy
 cases F with
 |stay=>exact⟨rfl,rfl,rfl,rfl,rfl,rfl,no⟩
 |other r k=>omega
 |join1 k=>omega
 |join2 k=>omega
 |back k=>omega
 |done1 k=>omega
 |done2 k=>omega
 |ack k=>omega
 |addr=>exact⟨rfl,rfl,rfl,rfl,rfl,rfl,fun y hy=>by rw [K_.1 hy];exact .inl rfl⟩
 |echo=>exact⟨rfl,rfl,rfl,rfl,rfl,rfl,no⟩
 |data=>exact⟨rfl,rfl,rfl,rfl,rfl,rfl,fun y hy=>by rw [K_.1 hy];exact .inr rfl⟩
 |came=>exact⟨rfl,rfl,rfl,rfl,rfl,rfl,no⟩
theorem uB {e:EndD} {x:LetterD} (kk:4<=x.kind/\x.kind<=12/\¬ x.kind=10):(hear e x).1.key=e.key/\(hear e x).1.peer=e.peer/\(hear e x).1.side=e.side/\e.subs.length<=(hear e x).1.subs.length/\(¬ x.kind=4->(hear e x).1.bucket=e.bucket):=by
 have F:=eJ e x
 generalize hear e x=r at F⊢
 cases F with
 |stay=>exact⟨rfl,rfl,rfl,K2 _,fun _=>rfl⟩
 |other r k=>omega
 |join1 k=>exact⟨rfl,rfl,rfl,K2 _,fun h=>absurd k h⟩
 |join2 k=>exact⟨rfl,rfl,rfl,K2 _,fun h=>absurd k h⟩
 |back k n hn=>exact⟨rfl,rfl,rfl,by dsimp only;rw [K0];exact K2 _,fun _=>rfl⟩
 |done1 k i hi hr h8 ht m hm=>
  refine⟨rfl,rfl,rfl,?_,fun _=>rfl⟩
  dsimp only
  rw [List.length_append,List.length_singleton]
  rcases hm with rfl|⟨n,hn,_,_,rfl⟩
  ·omega
  rw [K0];omega
 |done2=>exact⟨rfl,rfl,rfl,K2 _,fun _=>rfl⟩
 |ack k n hn=>exact⟨rfl,rfl,rfl,by dsimp only;rw [K0];exact K2 _,fun _=>rfl⟩
 |addr=>exact⟨rfl,rfl,rfl,K2 _,fun _=>rfl⟩
 |echo=>exact⟨rfl,rfl,rfl,K2 _,fun _=>rfl⟩
 |data=>exact⟨rfl,rfl,rfl,K2 _,fun _=>rfl⟩
 |came=>exact⟨rfl,rfl,rfl,K2 _,fun _=>rfl⟩
theorem yt {l:List SubD} {n:Nat} (ok:SuOk l) (hn:n < l.length) (h4:¬ l[n].state=4):aN l l[n].road=(n:Int):=by
 rw [kv]
 refine⟨hn,h4,rfl,fun i hi=>?_⟩
 have p:=ok.pw
 rw [K7] at p
 rcases p i n zO hn hi with h|h|h
 ·exact .inl h
 ·exact absurd h h4
 exact .inr h
theorem Dj {l:List HalfD} {n:Nat} (ok:HaOk l) (hn:n < l.length):aJ l l[n].road=(n:Int):=by
 rw [aJ,fC]
 refine⟨hn,by rw [cg],fun i hi=>?_⟩
 have p:=ok.pw
 rw [K7] at p
 rw [<-Bool.not_eq_true,cg]
 exact p i n zO hn hi
theorem mK {x:LetterD} (k:1<=x.kind/\x.kind<=13) (t:x.text.length<=20) (n:∀ v∈ew x,N9 v):di x=true:=by
 simp only [di,Bool.and_eq_true,cm,List.all_eq_true,decide_eq_true_eq,EZ]
 exact⟨⟨k,n⟩,t⟩
theorem dG:N9 0:=⟨by decide,by decide⟩
theorem GV {s:SubD} (S:SuE s):di (askL s)=true:=by
 obtain⟨_,⟨r1,r2,r3⟩,s1,s2,s3,s4,s5⟩:=S
 refine mK ⟨by show (1:Int)<=4;decide,by show (4:Int)<=13;decide⟩ (by simp [askL,ae,aj]) ?_
 simp only [ew,askL,ae,aj,K3]
 have h2:N9 102:=⟨by decide,by decide⟩
 exact⟨r1,r2,r3,dG,h2,s1,s4,dG,dG,dG,dG,dG,dG,dG,dG,dG,fun _ h=>by simp at h⟩
theorem GW {ka kb:Int} {h:HalfD} (H:HaE h) (ha:N9 ka) (hb:N9 kb):di (bckL ka kb h)=true:=by
 obtain⟨⟨r1,r2,r3⟩,s1,s2,s3,s4,s5⟩:=H
 refine mK ⟨by show (1:Int)<=5;decide,by show (5:Int)<=13;decide⟩ (by simp [bckL,ae,aj]) ?_
 simp only [ew,bckL,ae,aj,K3]
 have h1:N9 1:=⟨by decide,by decide⟩
 exact⟨r1,r2,r3,dG,dG,s2,s4,dG,dG,dG,dG,h1,hb,ha,s2,s1,fun _ h=>by simp at h⟩
theorem GX {ka kb:Int} {s:SubD} (S:SuE s) (ha:N9 ka) (hb:N9 kb):di (gP ka kb s)=true:=by
 obtain⟨_,⟨r1,r2,r3⟩,s1,s2,s3,s4,s5⟩:=S
 refine mK ⟨by show (1:Int)<=6;decide,by show (6:Int)<=13;decide⟩ (by simp [gP,ae,aj]) ?_
 simp only [ew,gP,ae,aj,K3]
 have h2:N9 2:=⟨by decide,by decide⟩
 exact⟨r1,r2,r3,dG,dG,dG,dG,dG,dG,dG,dG,h2,ha,hb,s1,s2,fun _ h=>by simp at h⟩
theorem GY {s:SubD} (S:SuE s):di (dU (bk s.road) s.take)=true:=by
 obtain⟨_,⟨r1,r2,r3⟩,s1,s2,s3,s4,s5⟩:=S
 refine mK ⟨by show (1:Int)<=7;decide,by show (7:Int)<=13;decide⟩ (by simp [dU,ae,aj]) ?_
 simp only [ew,dU,bk,ae,aj,K3]
 exact⟨r2,r1,r3,dG,dG,dG,dG,s4,dG,dG,dG,dG,dG,dG,dG,dG,fun _ h=>by simp at h⟩
theorem Fy {b:Int} {l:List AddrD} {n:Int} (h:Shape b l) (ok:AdOk l) (hq:∃ q∈ones b (hasTwo l),q.addr=n):∃ a∈l,a.addr=n:=by
 obtain⟨q,q1,q2⟩:=hq
 have:n∈l.map AddrD.addr:=by rw [h.ones ok];exact K8.2 ⟨q,q1,q2⟩
 obtain⟨a,a1,a2⟩:=K8.1 this
 exact⟨a,a1,a2⟩
theorem Fz {p:PolicyD} {w:WorldD} (hp:p∈pols) (C:Core w) (E:CE p w) {s:SubD} (hs:s∈w.a.subs):cz w.a.own s.road.own=true:=by
 obtain⟨a,a1,a2⟩:=Fy E.ownA C.oka.own ((ly hp _ _).el _ (E.want s hs)).1
 simp only [cz,La,beq_iff_eq]
 exact⟨a,a1,a2⟩
theorem GZ {p:PolicyD} {w:WorldD} (hp:p∈pols) (C:Core w) (E:CE p w) {r:RoadD} (hr:r∈wants p (hasTwo w.a.own) (hasTwo w.a.far)):(∃ f∈w.a.far,f.addr=r.far)/\cz w.b.own r.far=true:=by
 obtain⟨f,f1,f2⟩:=Fy E.farA C.oka.far ((ly hp _ _).el _ hr).2.1
 refine⟨⟨f,f1,f2⟩,?_⟩
 rcases (C.fa f f1).2 with⟨q,q1,_,q3⟩|q
 ·simp only [cz,La,beq_iff_eq]
  exact⟨q,q1,q3.trans f2⟩
 rw [E.done.2] at q;simp at q
theorem FA {p:PolicyD} {w:WorldD} (hp:p∈pols) (C:Core w) (E:CE p w) {s:SubD} (hs:s∈w.a.subs):cz w.b.own s.road.far=true:=(GZ hp C E (E.want s hs)).2
theorem Dk {p:PolicyD} {w:WorldD} (hp:p∈pols) (C:Core w) (E:CE p w) {n:Nat} (hn:n < w.a.subs.length) (h2:w.a.subs[n].state=2):
  hear w.a (dU (bk w.a.subs[n].road) w.a.subs[n].take)=({ w.a with subs:=w.a.subs.set n { w.a.subs[n] with state:=3 } },[]):=by
 have hm:=Lb hn
 have S:=C.oka.subs.el _ hm
 have lo:=GY S
 have ro:roadOf (dU (bk w.a.subs[n].road) w.a.subs[n].take)=w.a.subs[n].road:=by rw [dU,bb,ee]
 have ho:bL w.a (dU (bk w.a.subs[n].road) w.a.subs[n].take)=true:=by
  rw [bL,cU.2 C.oka,lo]
  exact Fz hp C E hm
 have ix:=yt C.oka.subs hn zO
 have ok:iu w.a (dU (bk w.a.subs[n].road) w.a.subs[n].take)=true:=by
  rw [En (n:=n) (by rw [ro];exact ix) hn,cU.2 C.oka,lo]
  simp [h2,dU,ae]
 rw [ny ho rfl,Hf ok (by rw [ro];exact ix),cZ hn]
theorem AF {p:PolicyD} {w:WorldD} (hp:p∈pols) (C:Core w) (E:CE p w) {n:Nat} (hn:n < w.a.subs.length) (h1:w.a.subs[n].state=1) {h:HalfD} (hh:h∈w.b.halfs) (hm:Mt h w.a.subs[n]):
  hear w.a (bckL w.a.key w.b.key h)=({ w.a with subs:=w.a.subs.set n { w.a.subs[n] with state:=2,theirs:=h.mine,give:=h.take,tries:=0 } },[gP w.a.key w.b.key { w.a.subs[n] with state:=2,theirs:=h.mine,give:=h.take,tries:=0 }]):=by
 have hsm:=Lb hn
 have N:=C.oka.nums
 have lo:=GW (ka:=w.a.key) (kb:=w.b.key) (C.okb.halfs.el h hh) N.1 C.okb.nums.1
 have ro:roadOf (bckL w.a.key w.b.key h)=w.a.subs[n].road:=by rw [bckL,bb,hm.1,ee]
 have ow:cz w.a.own (bckL w.a.key w.b.key h).to=true:=by
  show cz w.a.own h.road.far=true
  rw [hm.1]
  exact Fz hp C E hsm
 have ho:bL w.a (bckL w.a.key w.b.key h)=true:=by
  rw [bL,cU.2 C.oka,lo,ow];rfl
 have ix:=yt C.oka.subs hn zO
 have ok:l_ w.a (bckL w.a.key w.b.key h)=true:=by
  rw [Hh (n:=n) (by rw [ro];exact ix) hn,cU.2 C.oka,lo]
  simp [C.sta,h1,bckL,ae,C.pa,hm.2.1]
 rw [nu ho rfl,HV ok (by rw [ro];exact ix) hn]
 have e:∀ t,bi w.a t=gP w.a.key w.b.key t:=fun t=>by unfold bi gP;rw [C.pa]
 rw [e]
 rfl
theorem AG {p:PolicyD} {w:WorldD} (hp:p∈pols) (C:Core w) (E:CE p w) (h8:w.b.subs.length < 8) {s:SubD} (hs:s∈w.a.subs) {h:HalfD} (hh:h∈w.b.halfs) (hm:Mt h s) (h2:h.mine=s.theirs):
  (hear w.b (gP w.a.key w.b.key s)).2=[dU (bk s.road) s.take]:=by
 obtain⟨i,hi,rfl⟩:=KZ hh
 have lo:=GX (ka:=w.a.key) (kb:=w.b.key) (C.oka.subs.el s hs) C.oka.nums.1 C.okb.nums.1
 have ro:roadOf (gP w.a.key w.b.key s)=bk s.road:=by rw [gP,bb]
 have ow:cz w.b.own (gP w.a.key w.b.key s).to=true:=FA hp C E hs
 have ho:bL w.b (gP w.a.key w.b.key s)=true:=by
  rw [bL,cU.2 C.okb,lo,ow];rfl
 have ix:=Dj C.okb.halfs hi
 rw [hm.1] at ix
 have k1:kB w.b (gP w.a.key w.b.key s)=true:=by
  rw [kB,cU.2 C.okb,lo]
  simp [C.stb]
 have k2:oe w.b (gP w.a.key w.b.key s)=true:=by
  rw [lf (i:=i) (by rw [ro];exact ix) hi]
  simp [h8,gP,ae,C.pb,hm.2.1,h2]
 rw [nv ho rfl,ao,if_pos k1,if_pos k2]
 have hj:ld w.b (gP w.a.key w.b.key s)=w.b.halfs[i]:=by rw [ld,ro,ix,Int.toNat_natCast,df hi]
 rw [hj,ro,hm.2.2]
theorem yu {α:Type} [DecidableEq α]:∀ {l m:List α},l.Nodup->(∀ x∈l,x∈m)->l.length<=m.length
 |[],m,_,_=>Nat.zero_le _
 |x::l,m,h,hm=>by
  rw [Ld] at h
  have hx:=hm x (K6 ..)
  have:=yu (l:=l) (m:=m.erase x) h.2 fun y hy=>by
   refine (List.mem_erase_of_ne ?_).2 (hm y (List.mem_cons_of_mem _ hy))
   intro e;subst e;exact h.1 hy
  rw [List.length_erase_of_mem hx] at this
  have:0 < m.length:=List.length_pos_of_mem hx
  rw [Lc];omega
theorem Dl {p:PolicyD} {w:WorldD} (C:Core w) (E:CE p w) {h:HalfD} (hh:h∈w.b.halfs):bk h.road∈wants p (hasTwo w.a.own) (hasTwo w.a.far):=by
 rcases (C.hb h hh).th with g|⟨_,s,s1,s2,s3,s4,s5⟩
 ·rw [E.nums] at g
  exact absurd g (ur (E.hth h hh))
 rw [<-s5];exact E.want s s1
theorem AH {p:PolicyD} {w:WorldD} {k:Nat} (hp:p∈pols) (L:LV p w k) (hk:k<=1000000) (h8:w.b.subs.length < 8) {s:SubD} (hs:s∈w.a.subs) (hb:1<=w.b.bucket.cur):
  ∃ h,(hear w.b (askL s)).2=[bP w.b (roadOf (askL s)) h]:=by
 have C:=L.c
 have E:=L.cw.e
 have Y:=L.y.2
 have lo:=GV (C.oka.subs.el s hs)
 have ro:roadOf (askL s)=bk s.road:=by rw [askL,bb]
 have ow:cz w.b.own (askL s).to=true:=FA hp C E hs
 have ho:bL w.b (askL s)=true:=by rw [bL,cU.2 C.okb,lo,ow];rfl
 have q1:=L.cnt.nb
 have q2:=L.cnt.db
 have q3:=C.db
 have tk:(bf w.b.bucket).2=true:=by
  rw [bf,if_pos ⟨jT Y,zO⟩]
 have hf:¬ (aJ w.b.halfs (roadOf (askL s)) < 0/\4<=w.b.halfs.length):=by
  rintro⟨g1,g2⟩
  rw [ro,sr] at g1
  have nd:((bk (bk s.road))::w.b.halfs.map fun h=>bk h.road).Nodup:=by
   rw [Ld]
   refine⟨fun hc=>?_,?_⟩
   ·obtain⟨h,h1,h2⟩:=K8.1 hc
    exact g1 h h1 (AD h2)
   have pw:=C.okb.halfs.pw
   rw [List.nodup_iff_pairwise_ne,List.pairwise_map]
   exact pw.imp fun h e=>h (AD e)
  have:=yu (m:=wants p (hasTwo w.a.own) (hasTwo w.a.far)) nd fun r hr=>by
   rcases List.mem_cons.1 hr with rfl|hr
   ·rw [ee];exact E.want s hs
   obtain⟨h,h1,rfl⟩:=K8.1 hr
   exact Dl C E h1
  rw [Lc,List.length_map] at this
  have:=(ly hp (hasTwo w.a.own) (hasTwo w.a.far)).len
  omega
 have ok:ji w.b (askL s)=true:=by
  have t2:(askL s).token=eQ w.b.side:=by rw [C.sib];rfl
  simp only [ji,Bool.and_eq_true,decide_eq_true_eq,cm,Bool.not_eq_true']
  refine⟨⟨⟨⟨⟨⟨⟨⟨⟨cU.2 C.okb,lo⟩,C.stb⟩,t2⟩,ow⟩,h8⟩,?_⟩,zO,zO⟩,zO⟩,tk⟩
  by_cases g1:aJ w.b.halfs (roadOf (askL s)) < 0
  ·by_cases g2:4<=w.b.halfs.length
   ·exact absurd ⟨g1,g2⟩ hf
   simp [g2]
  simp [g1]
 rw [nr ho rfl]
 by_cases hsm:dq w.b (askL s)=true
 ·have hs':=hsm
  simp only [dq,Bool.and_eq_true,decide_eq_true_eq] at hs'
  obtain⟨n,e1,hn,hr⟩:=f7 hs'.1.1
  exact⟨_,by rw [HX ok hsm e1 hn]⟩
 exact⟨_,by rw [HY ok (by simpa using hsm)]⟩
def Kd (S:List SubD) (w:WorldD):Prop:=Dr w.a.key w.b.key S w.a.subs w.b.halfs w.bag
def Pr (S T:List SubD) (bag:List LetterD) (cur:Int):Prop:=(∃ (n:Nat) (hn:n < T.length) (hs:n < S.length),S[n].state=1/\(¬ T[n].state=1\/∃ x∈bag,x.kind=5/\jr x=some T[n].road))\/((∃ x∈bag,x.kind=4)/\1<=cur)
def KS (S:List SubD) (w:WorldD):Prop:=Pr S w.a.subs w.bag w.b.bucket.cur
theorem Pr.keep {S T:List SubD} {x:LetterD} {l m:List LetterD} {cur cur':Int} (P:Pr S T (x::l) cur) (h5:¬ x.kind=5) (h4:¬ x.kind=4) (hc:cur'=cur):Pr S T (l++m) cur':=by
 rcases P with⟨n,hn,hs,h1,h2⟩|⟨⟨y,y1,y2⟩,h⟩
 ·refine .inl ⟨n,hn,hs,h1,?_⟩
  rcases h2 with h2|⟨y,y1,y2,y3⟩
  ·exact .inl h2
  exact .inr ⟨y,K1 _ (dY y1 zO),y2,y3⟩
 exact .inr ⟨⟨y,K1 _ (dY y1 zO),y2⟩,zO⟩
theorem sB {r:RoadD} {H:List HalfD}:uz r H H:=fun h hh _=>⟨h,hh,rfl,rfl,rfl,rfl,rfl⟩
theorem AI {r:RoadD} {H:List HalfD}:uz r H (aS H r):=fun h hh hne=>by
 refine⟨h,?_,rfl,rfl,rfl,rfl,rfl⟩
 rw [aS];split
 ·exact hh
 rename_i h0
 obtain⟨n,e,hn,hr⟩:=f7 (l:=H) (r:=r) zO
 rw [e,Int.toNat_natCast]
 obtain⟨i,hi,rfl⟩:=KZ hh
 have hin:¬ i=n:=fun hc=>by subst hc;exact hne hr
 rw [List.mem_append]
 rcases Nat.lt_or_ge i n with g|g
 ·exact .inl (List.mem_take_iff_getElem.2 ⟨i,zO,rfl⟩)
 refine .inr (List.mem_drop_iff_getElem.2 ⟨i - (n+1),zO,?_⟩)
 congr 1;omega
theorem Dm {H:List HalfD} {q:HalfD}:uz q.road H (a_ H q):=fun h hh hne=>by
 refine⟨h,?_,rfl,rfl,rfl,rfl,rfl⟩
 rw [a_];split
 ·rename_i h0
  obtain⟨n,e,hn,hr⟩:=f7 h0
  rw [e,Int.toNat_natCast]
  obtain⟨i,hi,rfl⟩:=KZ hh
  have hin:¬ n=i:=fun hc=>by subst hc;exact hne hr
  exact K9.2 ⟨i,by rw [K0];exact hi,by rw [K4,if_neg hin]⟩
 exact K1 _ hh
theorem Dn {r:RoadD} {H:List HalfD} {n:Nat} {q:HalfD} (hn:n < H.length) (hr:H[n].road=r):uz r H (H.set n q):=fun h hh hne=>by
 refine⟨h,?_,rfl,rfl,rfl,rfl,rfl⟩
 obtain⟨i,hi,rfl⟩:=KZ hh
 have hin:¬ n=i:=fun hc=>by subst hc;exact hne hr
 exact K9.2 ⟨i,by rw [K0];exact hi,by rw [K4,if_neg hin]⟩
theorem yv {w:WorldD} (C:Core w) {r:RoadD} {h:HalfD} (hr:h.road=r):bP w.b r h=bckL w.a.key w.b.key h:=by
 subst hr
 unfold bP bckL
 rw [C.pb]
theorem FB {w:WorldD} (h:¬ w.bag=[]):∃ x l,w.bag=x::l:=by
 cases e:w.bag with
 |nil=>exact absurd e h
 |cons x l=>exact⟨x,l,rfl⟩
theorem Kd.step {p:PolicyD} {w:WorldD} {k:Nat} {S:List SubD} (hp:p∈pols) (L:LV p w k) (hk:k<=1000000) (hl:w.bag.length<=40) (h8:w.b.subs.length < 8) (hne:¬ w.bag=[]) (D:Kd S w):Kd S (vZ w)/\(KS S w->KS S (vZ w)):=by
 obtain⟨x,l,hb⟩:=FB hne
 have C:=L.c
 have E:=L.cw.e
 have X:=L.cw.x hb
 have kk:=X.kind
 have K:4<=x.kind/\x.kind<=12/\¬ x.kind=10:=kk
 unfold Kd at D⊢
 unfold KS
 rw [hb] at D⊢
 rcases iy x.to with h0|h0|h0
 ·exact absurd h0 X.to
 ·obtain⟨ea,eb,eg,_⟩:=JS hp L hb hl h0
  have k4:¬ x.kind=4:=fun h=>by have:=X.to2 (.inl h);omega
  have k6:¬ x.kind=6:=fun h=>by have:=X.to2 (.inr h);omega
  obtain⟨y1,y2,y3,_,_⟩:=uB (e:=w.a) K
  rw [ea,eb,eg,y1]
  by_cases k5:x.kind=5
  ·obtain⟨s,s1,s2,h,g1,g2,g3⟩:=D.bck x (K6 ..) k5
   obtain⟨n,hn,rfl⟩:=KZ s1
   have hr:=AF hp C E hn s2 g1 g2
   rw [<-g3] at hr
   rw [hr]
   rw [g3] at D
   refine⟨D.bck1 C.oka.subs hn s2 g1 g2 rfl,fun _=>.inl ⟨n,by dsimp only;rw [K0];exact hn,by rw [<-D.len];exact hn,?_,.inl ?_⟩⟩
   ·have hs:n < S.length:=by rw [<-D.len];exact hn
    rcases D.st n hn hs with h|⟨_,_,h|⟨h,_⟩⟩
    ·rw [<-h];exact s2
    ·omega
    omega
   dsimp only
   rw [List.getElem_set_self]
   show ¬ (2:Int)=1
   decide
  by_cases k7:x.kind=7
  ·by_cases hx:∃ (n:Nat) (hn:n < w.a.subs.length),w.a.subs[n].state=2/\x=dU (bk w.a.subs[n].road) w.a.subs[n].take
   ·obtain⟨n,hn,h2,hx⟩:=hx
    have hr:=Dk hp C E hn h2
    rw [<-hx] at hr
    rw [hr]
    dsimp only
    rw [K5]
    refine⟨D.ack1 C.oka.subs k7 hn h2 (by rw [hx,dU,bb,ee]),fun P=>?_⟩
    rcases P with⟨i,hi,hs,q1,q2⟩|⟨⟨y,y1,y2⟩,h⟩
    ·refine .inl ⟨i,by rw [K0];exact hi,hs,q1,?_⟩
     rw [K4]
     split
     ·exact .inl (by show ¬ (3:Int)=1;decide)
     rcases q2 with q2|⟨y,y1,y2,y3⟩
     ·exact .inl q2
     exact .inr ⟨y,dY y1 zO,y2,y3⟩
    exact .inr ⟨⟨y,dY y1 zO,y2⟩,h⟩
   have F:=eJ w.a x
   generalize hear w.a x=r at F
   cases F with
   |stay=>
    dsimp only
    refine⟨?_,fun P=>P.keep k5 k4 rfl⟩
    rw [K5]
    refine D.ack0 k7 fun s hs h2 hc=>hx ?_
    obtain⟨n,hn,rfl⟩:=KZ hs
    exact⟨n,hn,h2,hc⟩
   |other r k=>omega
   |join1 k=>omega
   |join2 k=>omega
   |back k=>omega
   |done1 k=>omega
   |done2 k=>omega
   |ack k n hn h2 hr ht=>
    dsimp only
    refine⟨?_,fun P=>?_⟩
    ·rw [K5];exact D.ack1 C.oka.subs k7 hn h2 hr
    rcases P with⟨i,hi,hs,q1,q2⟩|⟨⟨y,y1,y2⟩,h⟩
    ·refine .inl ⟨i,by rw [K0];exact hi,hs,q1,?_⟩
     rw [K4]
     split
     ·exact .inl (by show ¬ (3:Int)=1;decide)
     rcases q2 with q2|⟨y,y1,y2,y3⟩
     ·exact .inl q2
     exact .inr ⟨y,K1 _ (dY y1 zO),y2,y3⟩
    exact .inr ⟨⟨y,K1 _ (dY y1 zO),y2⟩,h⟩
   |addr k=>omega
   |echo k=>omega
   |data k=>omega
   |came k=>omega
  have M:=uA (e:=w.a) (x:=x) zO
  rw [M.subs]
  exact⟨D.mild zO M.lt,fun P=>P.keep k5 k4 rfl⟩
 obtain⟨eb,ea,eg,_⟩:=JT hp L hb hl h0
 have k5:¬ x.kind=5:=fun h=>by have:=X.to1 (.inl h);omega
 have k7:¬ x.kind=7:=fun h=>by have:=X.to1 (.inr h);omega
 obtain⟨y1,y2,y3,_,y5⟩:=uB (e:=w.b) K
 rw [ea,eb,eg,y1]
 by_cases k4:x.kind=4
 ·obtain⟨s,s1,s2,s3⟩:=D.ask x (K6 ..) k4
  subst s3
  have ro:roadOf (askL s)=bk s.road:=by rw [askL,bb]
  have prog:Pr S w.a.subs (askL s::l) w.b.bucket.cur->Pr S w.a.subs (l++(hear w.b (askL s)).2) (hear w.b (askL s)).1.bucket.cur:=fun P=>by
   rcases P with⟨i,hi,hs,q1,q2⟩|⟨_,h⟩
   ·refine .inl ⟨i,hi,hs,q1,?_⟩
    rcases q2 with q2|⟨y,y1,y2,y3⟩
    ·exact .inl q2
    exact .inr ⟨y,K1 _ (dY y1 zO),y2,y3⟩
   obtain⟨h1,e1⟩:=AH hp L hk h8 s1 h
   obtain⟨n,hn,rfl⟩:=KZ s1
   have hs:n < S.length:=by rw [<-D.len];exact hn
   refine .inl ⟨n,hn,hs,?_,.inr ⟨bP w.b (roadOf (askL w.a.subs[n])) h1,by rw [e1];simp,rfl,?_⟩⟩
   ·rcases D.st n hn hs with h|⟨_,_,h|⟨h,_⟩⟩
    ·rw [<-h];exact s2
    ·omega
    omega
   rw [jr,if_pos (.inl rfl),bP,bb,ro,ee]
  refine⟨?_,prog⟩
  have F:=eJ w.b (askL s)
  generalize hear w.b (askL s)=r at F
  cases F with
  |stay=>rw [K5];exact D.ask0 rfl
  |other r k=>omega
  |join1 k ok n hn hr h1 h2=>
   rw [yv C hr]
   have e:bckL w.a.key w.b.key w.b.halfs[n]=bckL w.a.key w.b.key { w.b.halfs[n] with till:=w.b.now+6 }:=rfl
   rw [e]
   exact D.ask1 s1 s2 (Dn hn (hr.trans ro)) (List.mem_set hn _) ⟨hr.trans ro,h1,h2⟩
  |join2 k ok no=>
   rw [yv C (r:=roadOf (askL s)) (h:=ai w.b (askL s)) rfl]
   have hput:=ut C ok
   rw [hput]
   have st:=Dm (H:=w.b.halfs) (q:=ai w.b (askL s))
   have er:(ai w.b (askL s)).road=bk s.road:=ro
   rw [er] at st
   exact D.ask1 s1 s2 st (mG _ _) ⟨er,rfl,rfl⟩
  |back k=>omega
  |done1 k=>omega
  |done2 k=>omega
  |ack k=>omega
  |addr k=>omega
  |echo k=>omega
  |data k=>omega
  |came k=>omega
 by_cases k6:x.kind=6
 ·rw [y5 k4]
  refine⟨?_,fun P=>P.keep k5 k4 rfl⟩
  have tr:∀ s∈w.a.subs,s.state=2->x=gP w.a.key w.b.key s->(∃ h∈w.b.halfs,Mt h s/\h.mine=s.theirs)->(hear w.b x).2=[dU (bk s.road) s.take]:=by
   rintro s hs h2 rfl ⟨h,g1,g2,g3⟩
   exact AG hp C E h8 hs g1 g2 g3
  have F:=eJ w.b x
  generalize hear w.b x=r at F tr
  cases F with
  |stay=>exact D.done1 k6 sB (.inl rfl) tr
  |other r k=>omega
  |join1 k=>omega
  |join2 k=>omega
  |back k=>omega
  |done1 k i hi hr h9 ht m hm=>exact D.done1 k6 AI (.inr ⟨_,rfl⟩) tr
  |done2 k n hn h3 hr ht=>exact D.done1 k6 sB (.inr ⟨_,rfl⟩) tr
  |ack k=>omega
  |addr k=>omega
  |echo k=>omega
  |data k=>omega
  |came k=>omega
 have M:=uA (e:=w.b) (x:=x) zO
 rw [M.halfs,M.bucket]
 exact⟨D.mild zO M.lt,fun P=>P.keep k5 k4 rfl⟩
end
end Go.Proofs.YtdiiopjaebnmfaaGreat
