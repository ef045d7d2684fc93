/- Lemmas of this claim. -/
import Derived.Test.YtdiiopjaebnmfaaGreatDoorZFnExactRunScriptB
set_option maxHeartbeats 16000000
set_option maxRecDepth 100000
set_option linter.unusedVariables false
set_option linter.unusedSimpArgs false
namespace Go.Proofs.YtdiiopjaebnmfaaGreatDoor
open _root_.Go.Proofs.Tryz
open _root_.Bool renaming and_eq_true->zk,or_eq_true->Qr,true_and->Qu,false_eq_true->QC,not_false->QN,and_true->QO,not_true->QQ
open _root_.Nat renaming zero_le->zG,not_lt_zero->Qk,le_trans->QB,mod_lt->QK
open _root_.List renaming drop_eq_nil_of_le->P6,drop_eq_getElem_cons->P8,getD_eq_getElem?_getD->P9,length_set->P_,append_nil->Qa,all_eq_true->Qb,length_append->Qc,length_cons->Qd,getElem?_eq_getElem->Qe,mem_cons->Qg,getElem_mem->Qh,take_succ_eq_append_getElem->Qi,mem_range->Ql,mem_append->Qn,all_cons->Qo,any_eq_true->Qp,length_filter_le->Qq,filter_nil->Qs,map_set->Qt,map_nil->Qv,nodup_cons->Qw,length_nil->Qx,take_of_length_le->Qy,contains_iff_mem->Qz,all_nil->QA,mem_singleton->QD,nodup_append->QE,all_eq_false->QF,cons_append->QG,take_length->QH,getElem_set->QI,length_map->QJ,map_append->QL,map_cons->QP
open _root_.Int renaming toNat_natCast->P7,eq_ofNat_of_zero_le->Qm,natCast_add->QM
open _root_.Array renaming getD_eq_getD_getElem?->Qf,getElem?_eq_getElem->Qj
section
open Go.RowKit
def xa (P:Program) (r:Array Oper) (i j:Oper):Bool:=
 DT i.dst j.dst && uP i.dst (g_ r j) && uP j.dst (g_ r i) && (pL P i == 0 && pL P j != 5 || pL P i == 1 && (pL P j != 4 && pL P j != 3))
def Pu (P:Program) (o:Oper) (s s':S):Prop:=
 (∃ x,bX P s o.type o.op=some x/\x.c/\s'=s.put o.dst x.v x.hp)\/
 (∃ (y:Operand) (args:Array Operand) (at_:Array TypeId) (f:Nat) (caps:List Sc) (avs:List AV) (res:AV) (h':Hp),o.op=.call ⟨.value y,args,at_⟩/\s.ev y=some (.cl f caps)/\s.evs args.toList=some avs/\
  ic P f (avs++nN caps) s.hp res h'/\s'=s.put o.dst (some res) h')
def ed (P:Program) (r:Array Oper) (i:Nat) (s s':S):Prop:=
 match r[i]? with
 |none=>s'=s
 |some o=>match fP r s o with
  |some true=>Pu P o s s'
  |some false=>s'=s.put o.dst (some (.tu [])) s.hp
  |none=>False
def FR (P:Program) (r:Array Oper):List Nat->S->S->Prop
 |[],s,s'=>s'=s
 |i::l,s,s''=>∃ s',ed P r i s s'/\FR P r l s' s''
theorem N4 {P:Program} {r:Array Oper} {i j:Nat} {oi oj:Oper} (hi:r[i]? =some oi) (hj:r[j]? =some oj) (hind:xa P r oi oj=true) {s s1 s2:S} (h1:ed P r i s s1) (h2:ed P r j s1 s2):
  ∃ s1',ed P r j s s1'/\ed P r i s1' s2:=by
 simp only [xa,zk,Qr,beq_iff_eq,bne_iff_ne] at hind
 obtain⟨⟨⟨hne,hij⟩,hji⟩,hcls⟩:=hind
 have hci:pL P oi=0\/pL P oi=1:=by rcases hcls with h|h;exact .inl h.1;exact .inr h.1
 unfold ed at h1 h2
 rw [hi] at h1
 rw [hj] at h2
 dsimp only at h1 h2
 have key:∃ v,s1=s.put oi.dst v s.hp/\∀ (t:S),jX (g_ r oi) s t->(pL P oi=0\/Hp.ext s.hp t.hp)->ed P r i t (t.put oi.dst v t.hp):=by
  split at h1
  ·rename_i hg
   rcases h1 with⟨x,hx,hc,rfl⟩|⟨y,args,at_,f,caps,avs,res,h',ho,_⟩
   ·have hx2:x.hp=s.hp/\∀ t:S,jX (g_ r oi) s t->(pL P oi=0\/Hp.ext s.hp t.hp)->bX P t oi.type oi.op=some ⟨x.v,t.hp,x.c⟩:=by
     have eqv:∀ t:S,jX (g_ r oi) s t->bX P t oi.type oi.op=bX P ⟨s.sl,t.hp⟩ oi.type oi.op:=fun t ha=>(iH (s:=⟨s.sl,t.hp⟩) (s':=t) rfl (fun q hq=>eW ha q hq)).symm
     rcases hci with h0|h0
     ·obtain⟨e1,e2⟩:=nS h0 hx
      exact⟨e1,fun t ha _=>by rw [eqv t ha];exact e2 t.hp⟩
     obtain⟨e1,e2⟩:=wV h0 hx
     exact⟨e1,fun t ha he=>by rw [eqv t ha];exact e2 t.hp (he.resolve_left (by rw [h0];simp))⟩
    refine⟨x.v,by rw [hx2.1],fun t ha he=>?_⟩
    unfold ed
    rw [hi]
    dsimp only
    rw [<-cG ha,hg]
    exact .inl ⟨_,hx2.2 t ha he,hc,rfl⟩
   exfalso
   have:pL P oi=3:=by unfold pL;rw [ho];rfl
   omega
  ·rename_i hg
   refine⟨some (.tu []),h1,fun t ha _=>?_⟩
   unfold ed
   rw [hi]
   dsimp only
   rw [<-cG ha,hg]
  exact h1.elim
 obtain⟨v,rfl,hstep⟩:=key
 have hal:jX (g_ r oj) s (s.put oi.dst v s.hp):=iG hij
 have hhp:(s.put oi.dst v s.hp).hp=s.hp:=kd _ _ _ _
 rw [<-cG hal] at h2
 have fin:∀ (u:Option AV) (h':Hp),s2=(s.put oi.dst v s.hp).put oj.dst u h'->(pL P oi=0\/Hp.ext s.hp h')->ed P r j s (s.put oj.dst u h')->∃ s1',ed P r j s s1'/\ed P r i s1' s2:=by
  intro u h' he hx hj'
  refine⟨s.put oj.dst u h',hj',?_⟩
  have h3:=hstep (s.put oj.dst u h') (iG hji) (by rw [kd];exact hx)
  rw [kd] at h3
  rw [he,wh s v u s.hp h' hne]
  exact h3
 split at h2
 ·rename_i hg
  rcases h2 with⟨x,hx,hc,rfl⟩|⟨y,args,at_,f,caps,avs,res,h',ho,hy,ha,hcall,rfl⟩
  ·have hx':bX P s oj.type oj.op=some x:=by rw [iH (s:=s) (s':=s.put oi.dst v s.hp) hhp.symm (eW hal)];exact hx
   refine fin x.v x.hp rfl ?_ ?_
   ·rcases hcls with h0|h0
    ·exact .inl h0.1
    right
    have h4:pL P oj≠4:=h0.2.1
    exact Ha hx' h4
   unfold ed
   rw [hj]
   dsimp only
   rw [hg]
   exact .inl ⟨x,hx',hc,rfl⟩
  have hal':=eW hal
  rw [ho] at hal'
  have e1:s.ev y=some (.cl f caps):=by
   rw [iS (s:=s) (s':=s.put oi.dst v s.hp) (x:=y) (fun t ht=>hal' t (fQ (by subst ht;simp [Op.operands,Call.operands])))]
   exact hy
  have e2:s.evs args.toList=some avs:=by
   rw [l6 (s:=s) (s':=s.put oi.dst v s.hp) (l:=args.toList) (fun z hz=>iS fun t ht=>hal' t (fQ (by subst ht;simp [Op.operands,Call.operands];right;simpa using hz)))]
   exact ha
  rw [hhp] at hcall
  refine fin (some res) h' rfl (.inl (by
   have h3:pL P oj=3:=by unfold pL;rw [ho];rfl
   rcases hcls with h|h
   ·exact h.1
   exact absurd h3 h.2.2)) ?_
  unfold ed
  rw [hj]
  dsimp only
  rw [hg]
  exact .inr ⟨y,args,at_,f,caps,avs,res,h',ho,e1,e2,hcall,rfl⟩
 ·rename_i hg
  refine fin (some (.tu [])) s.hp (by rw [h2,hhp]) (.inr fun o ob h=>h) ?_
  unfold ed
  rw [hj]
  dsimp only
  rw [hg]
 exact h2.elim
theorem Nz {P:Program} {r:Array Oper} {i j:Nat} {oi oj:Oper} (hi:r[i]? =some oi) (hj:r[j]? =some oj) (hind:lQ P r oi oj=true) {s s1 s2:S} (h1:ed P r i s s1) (h2:ed P r j s1 s2):
  ∃ s1',ed P r j s s1'/\ed P r i s1' s2:=by
 simp only [lQ,zk,beq_iff_eq] at hind
 obtain⟨⟨⟨hne,hij⟩,hji⟩,hcj⟩:=hind
 unfold ed at h1 h2
 rw [hi] at h1
 rw [hj] at h2
 dsimp only at h1 h2
 have key:∃ v hp,s1=s.put oi.dst v hp/\∀ (t:S),jX (g_ r oi) s t->t.hp=s.hp->ed P r i t (t.put oi.dst v hp):=by
  split at h1
  ·rename_i hg
   rcases h1 with⟨x,hx,hc,rfl⟩|⟨y,args,at_,f,caps,avs,res,h',ho,hy,ha,hcall,rfl⟩
   ·refine⟨x.v,x.hp,rfl,fun t ha he=>?_⟩
    unfold ed
    rw [hi]
    dsimp only
    rw [<-cG ha,hg]
    exact .inl ⟨x,by rw [<-iH he.symm (eW ha)];exact hx,hc,rfl⟩
   refine⟨some res,h',rfl,fun t hal he=>?_⟩
   unfold ed
   rw [hi]
   dsimp only
   rw [<-cG hal,hg]
   have hal':=eW hal
   rw [ho] at hal'
   have e1:t.ev y=some (.cl f caps):=by
    rw [<-iS (s:=s) (s':=t) (x:=y) (fun q hq=>hal' q (fQ (by subst hq;simp [Op.operands,Call.operands])))]
    exact hy
   have e2:t.evs args.toList=some avs:=by
    rw [<-l6 (s:=s) (s':=t) (l:=args.toList) (fun z hz=>iS fun q hq=>hal' q (fQ (by subst hq;simp [Op.operands,Call.operands];right;simpa using hz)))]
    exact ha
   exact .inr ⟨y,args,at_,f,caps,avs,res,h',ho,e1,e2,by rw [he];exact hcall,rfl⟩
  ·rename_i hg
   refine⟨some (.tu []),s.hp,h1,fun t ha he=>?_⟩
   unfold ed
   rw [hi]
   dsimp only
   rw [<-cG ha,hg]
   dsimp only
   rw [he]
  exact h1.elim
 obtain⟨v,hp,rfl,hstep⟩:=key
 have hal:jX (g_ r oj) s (s.put oi.dst v hp):=iG hij
 rw [<-cG hal] at h2
 have fin:∀ (u:Option AV),s2=(s.put oi.dst v hp).put oj.dst u hp->ed P r j s (s.put oj.dst u s.hp)->∃ s1',ed P r j s s1'/\ed P r i s1' s2:=by
  intro u he hj'
  refine⟨s.put oj.dst u s.hp,hj',?_⟩
  have h3:=hstep (s.put oj.dst u s.hp) (iG hji) (kd _ _ _ _)
  rw [he,wh s v u hp hp hne]
  have e:∀ (a b:S) (d:Option Tmp) (x:Option AV) (h:Hp),a.sl=b.sl->a.put d x h=b.put d x h:=by
   intro a b d x h hab
   cases d<;>simp [S.put,hab]
  rw [e (s.put oj.dst u hp) (s.put oj.dst u s.hp) oi.dst v hp (by cases oj.dst<;>rfl)]
  exact h3
 split at h2
 ·rename_i hg
  rcases h2 with⟨x,hx,hc,rfl⟩|⟨y,args,at_,f,caps,avs,res,h',ho,_⟩
  ·have hx1:bX P ⟨s.sl,hp⟩ oj.type oj.op=some x:=by
    rw [iH (s:=⟨s.sl,hp⟩) (s':=s.put oi.dst v hp) (by rw [kd]) (fun q hq=>eW hal q hq)]
    exact hx
   obtain⟨e1,e2⟩:=nS hcj hx1
   have e3:=e2 s.hp
   refine fin x.v (by rw [e1]) ?_
   unfold ed
   rw [hj]
   dsimp only
   rw [hg]
   exact .inl ⟨_,e3,hc,rfl⟩
  exfalso
  have:pL P oj=3:=by unfold pL;rw [ho];rfl
  omega
 ·rename_i hg
  refine fin (some (.tu [])) (by rw [h2,kd]) ?_
  unfold ed
  rw [hj]
  dsimp only
  rw [hg]
 exact h2.elim
def FS (P:Program) (r:Array Oper) (T:List Nat) (ex:List (Nat×Nat)) (p q:Nat):Bool:=
 p != q && !(T.getD p 0).testBit q &&
 ((T.getD q 0).testBit p || ex.contains (p,q) || match r[p]?,r[q]? with
  |some x,some y=>xa P r x y || lQ P r x y
  |_,_=>false)
def tV (P:Program) (r:Array Oper) (T:List Nat) (ex:List (Nat×Nat)):List Nat->Bool
 |[]=>true
 |p::l=>l.all (FS P r T ex p) && tV P r T ex l
theorem AN {P:Program} {r:Array Oper} {T:List Nat} {ex:List (Nat×Nat)} {i:Nat}:∀ {l m:List Nat},tV P r T ex (l++i::m)=true->tV P r T ex (l++m)=true
 |[],m,h=>by simp only [List.nil_append,tV,zk] at h⊢;exact h.2
 |p::l,m,h=>by
  simp only [QG,tV,zk,Qb] at h⊢
  refine⟨fun q hq=>h.1 q ?_,AN h.2⟩
  simp only [Qn,Qg] at hq⊢
  exact hq.imp id .inr
theorem Hc {P:Program} {r:Array Oper} {T:List Nat} {ex:List (Nat×Nat)} {i p:Nat}:∀ {l m:List Nat},tV P r T ex (l++i::m)=true->p∈l->FS P r T ex p i=true
 |[],m,_,h=>by simp at h
 |q::l,m,h,hp=>by
  simp only [QG,tV,zk,Qb] at h
  rcases Qg.1 hp with rfl|hp
  ·exact h.1 i zP
  exact Hc h.2 hp
theorem AO {P:Program} {r:Array Oper} {T:List Nat} {ex:List (Nat×Nat)} {i p:Nat} {l:List Nat} (h:tV P r T ex (i::l)=true) (hp:p∈l):FS P r T ex i p=true:=by
 simp only [tV,zk,Qb] at h
 exact h.1 p hp
theorem xb {P:Program} {r:Array Oper} {T:List Nat} {ex:List (Nat×Nat)}:∀ {l:List Nat},tV P r T ex l=true->l.Nodup
 |[],_=>List.nodup_nil
 |p::l,h=>by
  refine Qw.2 ⟨fun hp=>?_,xb (by simp only [tV,zk] at h;exact h.2)⟩
  have:=AO h hp
  simp [FS] at this
theorem xc {P:Program} {r:Array Oper} {i:Nat}:∀ {l m:List Nat} {s s':S},(∀ p∈l,∃ x y,r[p]? =some x/\r[i]? =some y/\(xa P r x y || lQ P r x y)=true)->FR P r (l++i::m) s s'->FR P r (i::(l++m)) s s'
 |[],m,s,s',_,h=>h
 |p::l,m,s,s',hl,h=>by
  obtain⟨s1,h1,h2⟩:=h
  obtain⟨s2,h3,h4⟩:=xc (fun q hq=>hl q (List.mem_cons_of_mem _ hq)) h2
  obtain⟨x,y,hx,hy,hind⟩:=hl p zP
  rcases (Qr _ _).mp hind with hind|hind
  ·obtain⟨s1',h5,h6⟩:=N4 hx hy hind h1 h3
   exact⟨s1',h5,s2,h6,h4⟩
  obtain⟨s1',h5,h6⟩:=Nz hx hy hind h1 h3
  exact⟨s1',h5,s2,h6,h4⟩
theorem JT {P:Program} {E:Entry} {r:Array Oper} {i:Nat} {s s1:S} {β:Be} {a:Act} {w:World} {Q:Exit->Act->World->Prop} {K:Act->World->Prop} (h:ed P r i s s1) (hs:Sim E β s a w) (hK:∀ β' a' w',Sim E β' s1 a' w'->K a' w'):wpOp P r Q i K a w:=by
 unfold wpOp
 unfold ed at h
 split at h
 ·rename_i hi
  subst h
  rw [hi]
  exact hK β a w hs
 rename_i o ho
 rw [ho]
 dsimp only
 split at h
 ·rename_i hg
  rw [if_pos (mw hs.sl hg)]
  refine .inl ?_
  unfold Oper.wp
  rcases h with⟨x,hx,hc,rfl⟩|⟨y,args,at_,f,caps,avs,res,h',hop,hy,ha,⟨⟨fn,hfn,hname,hbody⟩,hcall⟩,rfl⟩
  ·obtain⟨β',w',hst,hh,hx'⟩:=tM hs.hp hs.sl hx hc
   rcases hx' with⟨v,av,hrun,hv,hr⟩|⟨hrun,hv⟩
   ·rw [hrun]
    rw [hv] at hK
    exact hK β' _ w' (iw hs hst hh o.dst hr)
   rw [hrun]
   rw [hv] at hK
   exact hK β' _ w' (fK hs hst hh o.dst undef)
  obtain⟨cvs,hxe,hcl⟩:iq β (.cl f caps) (a.eval y):=et hs.sl hy
  have hav:=GZ hs.sl ha
  have hvs:L2 (iq β) (avs++nN caps) (args.toList.map a.eval++cvs):=hav.append (v_ hcl)
  have hrun:(execOp a.eval o).run P w=.ok (.enter f (args.toList.map a.eval++cvs).toArray) w:=by
   unfold execOp
   rw [hop]
   have e1:args.map a.eval=(args.toList.map a.eval).toArray:=by apply Array.ext';simp
   have hname':¬ fn.name= "runtime.NumGoroutine":=by simpa using hname
   simp only [resolve,hxe,Deferred.ofValue,invoke,callFunc,Sem.run_bind,run_program,Sem.run_pure,Result.andThen_ok,hfn,e1]
   simp [hname',hbody]
  rw [hrun,Oper.upon_enter]
  refine (hcall β w _ hs.hp hvs).mono fun e w' ⟨β',v,he,hr,hh,hst⟩=>?_
  subst he
  exact hK β' _ w' (iw hs hst hh o.dst hr)
 ·rename_i hg
  rw [mw hs.sl hg]
  subst h
  exact hK β _ w (iw hs (StepR.refl β s.hp w hs.hp.len) hs.hp o.dst ⟨[],rfl,trivial⟩)
 exact h.elim
theorem uT {P:Program} {E:Entry} {r:Array Oper} {Q:Exit->Act->World->Prop} {ex:List (Nat×Nat)} {s':S} (hback:rI r=true) (hQ:∀ β' a' w',Sim E β' s' a' w'->Q .normal a' w'):
  ∀ (τ:List Nat) (fuel:Nat) (listed:Array Bool) (σ:List Nat) (s:S) (β:Be) (a:Act) (w:World),uR r fuel listed τ->listed.size=r.size->σ.length<=fuel->(∀ i,i∈σ↔i < r.size/\listed.getD i true=false)->FP r listed->
   tV P r (Hb r) ex σ=true->(∀ p q,ex.contains (p,q)=true->p∈σ->q∈σ->bZ τ p q=true)->FR P r σ s s'->Sim E β s a w->wpOps P r Q τ a w
 |[],fuel,listed,σ,s,β,a,w,hd,hsz,hf,hm,hc,hok,hx,hrun,hs=>by
  have hnil:σ=[]:=by
   rcases AL hd with rfl|hd
   ·exact List.length_eq_zero_iff.1 zO
   cases σ with
   |nil=>rfl
   |cons p l=>
    exfalso
    have hp:=(hm p).1 zP
    have:p∈Region.ready .any r listed:=by
     refine l7.2 ⟨r[p],Qj hp.1,hp.2,fun e he hb=>?_⟩
     have hbit:((Hb r).getD p 0).testBit e.on=true:=(wX (Qj hp.1) e.on).2 ⟨e,he,hb,.inl rfl⟩
     have hlt0:=wj hback (Qj hp.1) he hb
     have hlt:e.on < r.size:=Nat.lt_trans hlt0 hp.1
     cases hl:listed.getD e.on false with
     |true=>rfl
     |false=>
      exfalso
      have hl':listed.getD e.on true=false:=by
       rw [Qf,Qj zO] at hl⊢
       exact hl
      have hmem:e.on∈p::l:=(hm e.on).2 ⟨hlt,hl'⟩
      rcases Qg.1 hmem with hep|hmem
      ·omega
      have:=AO hok hmem
      simp only [FS,zk,Bool.not_eq_true'] at this
      rw [this.1.2] at hbit
      cases hbit
    rw [hd] at this
    simp at this
  subst hnil
  have:s'=s:=hrun
  subst this
  exact hQ β a w hs
 |i::τ,0,listed,σ,s,β,a,w,hd,_,_,_,_,_,_,_,_=>hd.elim
 |i::τ,fuel+1,listed,σ,s,β,a,w,hd,hsz,hf,hm,hc,hok,hx,hrun,hs=>by
  obtain⟨hi,hd⟩:=hd
  obtain⟨o,ho,h1,h2⟩:=l7.1 hi
  have hil:i < r.size:=(Array.getElem?_eq_some_iff.1 ho).1
  have hiσ:i∈σ:=(hm i).2 ⟨hil,h1⟩
  obtain⟨l,m,rfl⟩:=List.append_of_mem hiσ
  have hnd:=xb hok
  have hfront:∀ p∈l,∃ x y,r[p]? =some x/\r[i]? =some y/\(xa P r x y || lQ P r x y)=true:=by
   intro p hp
   have hpl:=(hm p).1 (by simp [hp])
   have h3:=Hc hok hp
   have hpi:p≠i:=by
    intro e
    subst e
    simp [FS] at h3
   simp only [FS,zk,Qr] at h3
   rcases h3.2 with (h4|h4)|h4
   ·exfalso
    have:=wY hc i o ho h2 p h4
    have h5:=hpl.2
    rw [Qf,Qj zO] at this h5
    simp only [Option.getD_some] at this h5
    rw [this] at h5
    cases h5
   ·exfalso
    have:=hx p i h4 (by simp [hp]) zP
    simp [bZ,hpi,Ne.symm hpi] at this
   split at h4
   ·rename_i x y hx hy
    exact⟨x,y,hx,hy,h4⟩
   cases h4
  obtain⟨s1,h3,h4⟩:=xc hfront hrun
  have hset:∀ (j:Nat) (d:Bool),(listed.setIfInBounds i true).getD j d=if i=j then true else listed.getD j d:=fun j d=>wZ zO
  rw [wpOps_cons]
  refine JT h3 hs fun β' a' w' hs'=>?_
  refine uT hback hQ τ fuel (listed.setIfInBounds i true) (l++m) s1 β' a' w' hd (by simpa using hsz) ?_ ?_ ?_ (AN hok) ?_ h4 hs'
  ·simp only [Qc,Qd] at hf⊢
   omega
  ·intro j
   have hj:=hm j
   rw [hset]
   have hd1:i ∉ l/\i ∉ m:=by
    rw [QE] at hnd
    exact⟨fun h=>hnd.2.2 i h i zP rfl,(Qw.1 hnd.2.1).1⟩
   simp only [Qn,Qg] at hj⊢
   by_cases hij:i=j
   ·subst hij
    simp [hd1.1,hd1.2]
   rw [if_neg hij,<-hj]
   simp [Ne.symm hij]
  ·intro j oj hj hl e he hb
   rw [hset] at hl⊢
   by_cases hij:i=j
   ·subst hij
    rw [hj] at ho
    cases ho
    split
    ·rfl
    exact h2 e he hb
   rw [if_neg hij] at hl
   split
   ·rfl
   exact hc j oj hj hl e he hb
  intro p q hpq hp hq
  have hd1:i ∉ l/\i ∉ m:=by
   rw [QE] at hnd
   exact⟨fun h=>hnd.2.2 i h i zP rfl,(Qw.1 hnd.2.1).1⟩
  have hne:∀ x∈l++m,i≠x:=by
   intro x hx e
   subst e
   exact (Qn.1 hx).elim hd1.1 hd1.2
  have hin:∀ x∈l++m,x∈l++i::m:=by
   intro x hx
   simp only [Qn,Qg] at hx⊢
   exact hx.imp id .inr
  have:=hx p q hpq (hin p hp) (hin q hq)
  simpa [bZ,hne p hp,hne q hq] using this
def FT (P:Program) (r:Array Oper) (U:List (Nat×Nat)) (os:List (List Nat)):Bool:=
 rI r && U.all (fun u=>u.1 != u.2) && os.all (fun σ=>σ.length == r.size && (List.range r.size).all σ.contains && σ.all fun i=>decide (i < r.size)) &&
 (let T:=Hb r;(oU U).all fun ex=>N3 r ex || os.any fun σ=>tV P r T ex σ)
theorem Ik {P:Program} {E:Entry} {id:Nat} {r:Array Oper} {U:List (Nat×Nat)} {os:List (List Nat)} (hP:P.follows .mixedOrders=true) (hcov:FT P r U os=true) {s:S} {K:S->Prop}
  (h:∀ σ∈os,∃ s',FR P r σ s s'/\∀ β a w,Sim E β s' a w->∃ β' t,K t/\Sim E β' t a w):uK P E (.region id r true) s fun e s'=>e=.normal/\K s':=by
 intro β a w hs Q hQ
 refine wp_region_draw fun t=>?_
 simp only [Region.schedule,hP,Bool.true_or,if_true]
 simp only [FT,zk] at hcov
 obtain⟨⟨⟨hback,hU⟩,hperm⟩,hch⟩:=hcov
 have hd:=nT (r:=r) r.size t (Array.replicate r.size false)
 obtain⟨ex,hex,hbef⟩:=oV (Region.linearise .any r t) (U:=U) fun u hu=>by
  have:=Qb.1 hU u hu
  simpa using this
 have hsome:=Qb.1 hch ex hex
 rcases Bool.or_eq_true_iff.1 hsome with hbad|hsome
 ·exfalso
  obtain⟨u,hu,hbad⟩:=Qp.1 hbad
  obtain⟨v,hv,hbad⟩:=Qp.1 hbad
  simp only [zk,beq_iff_eq,bne_iff_ne,ne_eq,decide_eq_true_eq] at hbad
  obtain⟨h1,h2,h3,h4,h5,h6⟩:=hbad
  have b1:=hbef u.1 u.2 (by rw [Qz];exact hu)
  have b2:=hbef v.1 v.2 (by rw [Qz];exact hv)
  rw [h1] at b2
  unfold DZ at h5
  split at h5
  ·rename_i o ho
   obtain⟨e,he,he2⟩:=Qp.1 h5
   simp only [zk,beq_iff_eq] at he2
   have b3:=ko hback hd ho he he2.1 he2.2 zP (by simp [Qf,h6])
   exact qk h4 h3 h2 b1 b3 b2
  cases h5
 obtain⟨σ,hσ,hok⟩:=Qp.1 hsome
 have hp:=Qb.1 hperm σ hσ
 simp only [zk,beq_iff_eq,Qb,Ql,decide_eq_true_eq] at hp
 obtain⟨⟨hlen,hall⟩,hlt⟩:=hp
 obtain⟨s',hrun,hK⟩:=h σ hσ
 have hs2:Sim E β s a { w with drawn:=w.drawn+1 }:=⟨hs.dfr,hs.sl,⟨hs.hp.len,hs.hp.ob,hs.hp.flat,hs.hp.apart⟩,hs.ent,⟨hs.st.le,hs.st.os,hs.st.tape,hs.st.output,hs.st.size,hs.st.block,hs.st.len,hs.st.old,hs.st.fresh⟩⟩
 refine uT hback (fun β' a' w' hs'=>let⟨β2,t2,hk2,hs2⟩:=hK β' a' w' hs';hQ .normal t2 β2 a' w' ⟨rfl,hk2⟩ hs2) (Region.linearise .any r t) r.size _ σ s β a _ hd zP zO (fun i=>?_) (fun i o ho hl=>?_) hok (fun p q hpq _ _=>hbef p q hpq) hrun hs2
 ·constructor
  ·intro hi
   refine⟨hlt i hi,?_⟩
   simp [Qf,hlt i hi]
  rintro⟨hi,_⟩
  simpa using hall i hi
 exfalso
 simp only [Qf,Array.getElem?_replicate] at hl
 split at hl<;>cases hl
def FU (P:Program) (r:Array Oper) (G:S->Prop):M3->Prop
 | .go l s c=>c/\∃ s',FR P r l s s'/\G s'
 | .call f args d l s c=>c/\∃ res h',ic P f args s.hp res h'/\∃ s',FR P r l (s.put d (some res) h') s'/\G s'
 | .fin s c=>c/\G s
 | .bad=>False
theorem Il {P:Program} {r:Array Oper} {G:S->Prop} {l:List Nat} {s:S} {c:Prop} (h:FU P r G (AM P r l s c)):FU P r G (.go l s c):=by
 cases l with
 |nil=>exact⟨h.1,s,rfl,h.2⟩
 |cons i l=>
  simp only [AM] at h
  split at h
  ·rename_i o ho
   split at h
   ·rename_i b hg
    cases b with
    |true=>
     unfold wk at h
     dsimp only at h
     split at h
     ·rename_i x args at_ hop
      split at h
      ·rename_i f caps avs hx ha
       obtain⟨hc,res,h',hcall,s',hrun,hG⟩:=h
       refine⟨hc,s',⟨_,?_,hrun⟩,hG⟩
       unfold ed
       rw [ho]
       dsimp only
       rw [hg]
       exact .inr ⟨x,args,at_,f,caps,avs,res,h',hop,hx,ha,hcall,rfl⟩
      exact h.elim
     split at h
     ·rename_i v hp d hx
      obtain⟨⟨hc,hd⟩,s',hrun,hG⟩:=h
      refine⟨hc,s',⟨_,?_,hrun⟩,hG⟩
      unfold ed
      rw [ho]
      dsimp only
      rw [hg]
      exact .inl ⟨_,hx,hd,rfl⟩
     exact h.elim
    |false=>
     obtain⟨hc,s',hrun,hG⟩:=h
     refine⟨hc,s',⟨_,?_,hrun⟩,hG⟩
     unfold ed
     rw [ho]
     dsimp only
     rw [hg]
   exact h.elim
  exact h.elim
theorem kR {P:Program} {r:Array Oper} {G:S->Prop}:∀ (n:Nat) {x:M3},FU P r G (Ih P r n x)->FU P r G x
 |0,x,h=>h
 |n+1,.go l s c,h=>Il (kR n h)
 |n+1,.call ..,h=>h
 |n+1,.fin ..,h=>h
 |n+1,.bad,h=>h
theorem Im {P:Program} {E:Entry} {F:S->Prop} {id:Nat} {r:Array Oper} {k:List gz} {s:S} {c:Prop} (U:List (Nat×Nat)) (os:List (List Nat)) (hP:P.follows .mixedOrders=true) (hc:c) (hcov:FT P r U os=true)
  (h:aM (fun σ=>FU P r (fun s'=>iA P E F (.go k s' True)) (.go σ s True)) os):iA P E F (.draw id r k s c):=by
 refine⟨hc,iR (Ik hP hcov (K:=fun s'=>iA P E F (.go k s' True)) fun σ hσ=>let⟨s',h1,h2⟩:=(l8 h σ hσ).2;⟨s',h1,fun β a w hs=>⟨β,s',h2,hs⟩⟩) fun e s' hk=>?_⟩
 obtain⟨rfl,hk⟩:=hk
 exact hk.2
theorem AP {P:Program} {r:Array Oper} {G:S->Prop} {f:Nat} {avs:List AV} {d:Option Tmp} {l:List Nat} {s:S} {c:Prop} {args0:List AV} {h0 h0':Hp} {res0:AV} (hc:c) (ct:ic P f args0 h0 res0 h0') (ρ:cO)
  (hm:rz ρ args0 avs/\lY ρ s.hp ρ h0) (hsep:e9 ρ h0=true) (h:FU P r G (.go l (s.put d (some (l5 ρ s.hp.length res0)) (fu ρ h0 h0' s.hp)) True)):FU P r G (.call f avs d l s c):=by
 obtain⟨_,s',hrun,hG⟩:=h
 exact⟨hc,_,_,wR ct ρ hm.1 hm.2 hsep,s',hrun,hG⟩
end
section
theorem xn:∀ {l:List Int} {acc:List UInt8},(∀ n∈l,0<=n/\n<=1000000000)->(gB acc l).length<=acc.length+11*l.length
 |[],acc,_=>by simp [gB]
 |n::r,acc,h=>by
  rw [gB]
  have h1:=xn (l:=r) (acc:=acc++(dp n++[44])) (fun x hx=>h x (by simp [hx]))
  obtain⟨h2,h3⟩:=h n zP
  have h4:(dp n).length<=10:=by
   rw [dp,if_neg zO]
   have:=rO 9 n.natAbs [] zO
   simpa using this
  simp only [Qc,Qd,Qx] at h1⊢
  omega
theorem qo {x:LetterD} (h:cU x=true):∀ n∈cC x,0<=n/\n<=1000000000:=by
 simp only [cU,bU,jL,Qo,QA,fv,zk,decide_eq_true_eq,QO] at h
 intro n hn
 simp only [cC,Qg,List.not_mem_nil,or_false] at hn
 rcases hn with rfl|rfl|rfl|rfl|rfl|rfl|rfl|rfl|rfl|rfl|rfl|rfl|rfl|rfl|rfl|rfl|rfl|rfl<;>first|omega|(cases x.spare<;>decide)
theorem nZ (x:LetterD):(ef x).length<=400:=by
 rw [ef]
 split
 ·rename_i h
  have h1:=xn (acc:=[]) (qo h)
  have h2:x.text.length<=20:=by
   simp only [cU,zk,decide_eq_true_eq] at h
   exact h.2
  have h3:(mD x.text).length<=40:=by
   rw [mD,if_pos zO,fL];omega
  have h4:(cC x).length=18:=rfl
  rw [Qc]
  simp only [Qx] at h1
  omega
 simp
def ac:LetterD:=⟨0,0,0,0,0,0,0,0,0,⟨0,0,0,0,0⟩,0,0,false,0,[]⟩
def bR (n:List Int) (k:Nat):Int:=n.getD k 0
def lw (n:List Int) (spare:Bool) (text:List UInt8):LetterD:=⟨bR n 0,bR n 1,bR n 2,bR n 3,bR n 4,bR n 5,bR n 6,bR n 7,bR n 8,⟨bR n 9,bR n 10,bR n 11,bR n 12,bR n 13⟩,bR n 14,bR n 15,spare,bR n 17,text⟩
def br:List (List UInt8)->Option (List Int)
 |[]=>some []
 |s::r=>if (cj s).2 then (br r).map ((cj s).1:: ·) else none
def Cc (s:List UInt8) (t:List UInt8):Option (List Int)->LetterD×Bool
 |none=>(ac,false)
 |some n=>if (ee t).2=true/\ef (lw n (bR n 16 == 1) (ee t).1)=s then (lw n (bR n 16 == 1) (ee t).1,true) else (ac,false)
def wo (s:List UInt8):LetterD×Bool:=
 if (d9 44 s).length=19 then Cc s ((d9 44 s).getD 18 []) (br ((d9 44 s).take 18)) else (ac,false)
theorem Kh {s:List UInt8} (h:400 < s.length):wo s=(ac,false):=by
 rw [wo]
 split
 ·cases hr:br ((d9 44 s).take 18) with
  |none=>rfl
  |some n=>
   rw [Cc,if_neg]
   rintro⟨_,he⟩
   have:=nZ (lw n (bR n 16 == 1) (ee ((d9 44 s).getD 18 [])).1)
   rw [he] at this
   omega
 rfl
theorem F3 {l:List (List UInt8)} {k:Nat} (h:k < l.length):br (l.drop k)=if (cj l[k]).2 then (br (l.drop (k+1))).map ((cj l[k]).1:: ·) else none:=by
 rw [P8 h,br]
theorem tX:∀ {l:List (List UInt8)} {n:List Int},br l=some n->n.length=l.length
 |[],n,h=>by simp [br] at h;subst h;rfl
 |s::r,n,h=>by
  rw [br] at h
  split at h
  ·simp only [Option.map_eq_some_iff] at h
   obtain⟨m,hm,rfl⟩:=h
   simp [tX hm]
  cases h
theorem mb:∀ {l:List (List UInt8)} {n:List Int},br l=some n->∀ x∈n,bN x
 |[],n,h=>by simp [br] at h;subst h;simp
 |s::r,n,h=>by
  rw [br] at h
  split at h
  ·simp only [Option.map_eq_some_iff] at h
   obtain⟨m,hm,rfl⟩:=h
   intro x hx
   rcases Qg.1 hx with rfl|hx
   ·exact qm s
   exact mb hm x hx
  cases h
theorem dw {n:List Int} (h:∀ x∈n,bN x) (k:Nat):bN (bR n k):=by
 rw [bR,P9]
 cases hk:n[k]? with
 |none=>exact⟨by decide,by decide⟩
 |some x=>exact h x (List.mem_of_getElem? hk)
theorem xo {n:List Int} (h:∀ x∈n,bN x) (b:Bool) {t:List UInt8} (ht:t.length<=maxLen):(lw n b t).wf:=
 ⟨dw h _,dw h _,dw h _,dw h _,dw h _,dw h _,dw h _,dw h _,dw h _,dw h _,dw h _,dw h _,dw h _,dw h _,dw h _,dw h _,dw h _,ht⟩
theorem IB {n:List Int} {k:Nat} (hk:k < 18) (h16:k≠16) (v:Int) (hn:n.length=18):LI (lw n false []).cs k [.int .i64 v]=(lw (n.set k v) false []).cs:=by
 obtain⟨a0,a1,a2,a3,a4,a5,a6,a7,a8,a9,a10,a11,a12,a13,a14,a15,a16,a17,rfl⟩:∃ a0 a1 a2 a3 a4 a5 a6 a7 a8 a9 a10 a11 a12 a13 a14 a15 a16 a17,n=[a0,a1,a2,a3,a4,a5,a6,a7,a8,a9,a10,a11,a12,a13,a14,a15,a16,a17]:=by
  match n,hn with
  |[a0,a1,a2,a3,a4,a5,a6,a7,a8,a9,a10,a11,a12,a13,a14,a15,a16,a17],_=>exact⟨a0,a1,a2,a3,a4,a5,a6,a7,a8,a9,a10,a11,a12,a13,a14,a15,a16,a17,rfl⟩
 match k,hk,h16 with
 |0,_,_|1,_,_|2,_,_|3,_,_|4,_,_|5,_,_|6,_,_|7,_,_|8,_,_|9,_,_|10,_,_|11,_,_|12,_,_|13,_,_|14,_,_|15,_,_|17,_,_=>rfl
 |16,_,h=>exact absurd rfl h
 |n+18,h,_=>exact absurd h zO
theorem Ki {n:List Int} (v:Int):(lw (n.set 16 v) false []).cs=(lw n false []).cs:=by
 simp [lw,bR]
end
section
open Go.ChangeShapes Go.WideShapes Go.ChangeAt Go.RowKit
structure PiecesD where
 read:Int
 ready:List UInt8
 list:List PieceD
deriving DecidableEq,Inhabited
def PiecesD.cs (x:PiecesD) (o:Nat):List Sc:=[.int .i64 x.read,.st x.ready,.sl (o+0) 0 x.list.length]
def PiecesD.hp (x:PiecesD) (own:Bool):Hp:=[some ⟨x.list.map PieceD.cs,2,223,own,true⟩]
structure KnownD where
 keys:List Int
 tags:List TagD
deriving DecidableEq,Inhabited
def KnownD.cs (x:KnownD) (o:Nat):List Sc:=[.sl (o+0) 0 x.keys.length,.sl (o+1) 0 x.tags.length]
def KnownD.hp (x:KnownD) (own:Bool):Hp:=[some ⟨x.keys.map bh,1,3,own,true⟩,some ⟨x.tags.map TagD.cs,5,34,own,true⟩]
structure EndD where
 side:Int
 state:Int
 key:Int
 peer:Int
 policy:PolicyD
 own:List AddrD
 far:List AddrD
 subs:List SubD
 halfs:List HalfD
 bucket:BucketD
 out:OutD
 inp:PiecesD
 done:List Int
 over:List Int
 draw:Int
 now:Int
 pick:Int
deriving DecidableEq,Inhabited
def EndD.cs (x:EndD) (o:Nat):List Sc:=[.int .i64 x.side,.int .i64 x.state,.int .i64 x.key,.int .i64 x.peer,.int .i64 x.policy.kind,.int .i64 x.policy.many,.sl (o+0) 0 x.own.length,.sl (o+1) 0 x.far.length,.sl (o+2) 0 x.subs.length,.sl (o+3) 0 x.halfs.length,.int .i64 x.bucket.rate,.int .i64 x.bucket.burst,.int .i64 x.bucket.cur,.st x.out.text,.int .i64 x.out.base,.int .i64 x.out.sent,.int .i64 x.out.room,.int .i64 x.inp.read,.st x.inp.ready,.sl (o+4) 0 x.inp.list.length,.sl (o+5) 0 x.done.length,.sl (o+6) 0 x.over.length,.int .i64 x.draw,.int .i64 x.now,.int .i64 x.pick]
def EndD.hp (x:EndD) (own:Bool):Hp:=[some ⟨x.own.map AddrD.cs,4,32,own,true⟩,some ⟨x.far.map AddrD.cs,4,32,own,true⟩,some ⟨x.subs.map SubD.cs,10,115,own,true⟩,some ⟨x.halfs.map HalfD.cs,8,214,own,true⟩,some ⟨x.inp.list.map PieceD.cs,2,223,own,true⟩,some ⟨x.done.map bh,1,3,own,true⟩,some ⟨x.over.map bh,1,3,own,true⟩]
def EndD.wf (x:EndD):Prop:=bN x.side/\bN x.state/\bN x.key/\bN x.peer/\bN x.policy.kind/\bN x.policy.many/\bN x.bucket.rate/\bN x.bucket.burst/\bN x.bucket.cur/\x.out.text.length<=maxLen/\bN x.out.base/\bN x.out.sent/\bN x.out.room/\bN x.inp.read/\x.inp.ready.length<=maxLen/\bN x.draw/\bN x.now/\bN x.pick/\(∀ y∈x.own,AddrD.wf y)/\(∀ y∈x.far,AddrD.wf y)/\(∀ y∈x.subs,SubD.wf y)/\(∀ y∈x.halfs,HalfD.wf y)/\(∀ y∈x.inp.list,PieceD.wf y)/\(∀ y∈x.done,bN y)/\(∀ y∈x.over,bN y)/\x.own.length<=maxLen/\x.far.length<=maxLen/\x.subs.length<=maxLen/\x.halfs.length<=maxLen/\x.inp.list.length<=maxLen/\x.done.length<=maxLen/\x.over.length<=maxLen
attribute [go_sem] PiecesD.cs PiecesD.hp KnownD.cs KnownD.hp EndD.cs EndD.hp
end
section
open Go.ChangeShapes Go.WideShapes Go.ChangeAt Go.RowKit
structure WorldD where
 a:EndD
 b:EndD
 bag:List LetterD
 past:List LetterD
 wroteA:List UInt8
 wroteB:List UInt8
 readA:List UInt8
 readB:List UInt8
 known:KnownD
 nums:List Int
 answersA:List Int
 answersB:List Int
deriving DecidableEq,Inhabited
def WorldD.cs (x:WorldD) (o:Nat):List Sc:=[.int .i64 x.a.side,.int .i64 x.a.state,.int .i64 x.a.key,.int .i64 x.a.peer,.int .i64 x.a.policy.kind,.int .i64 x.a.policy.many,.sl (o+0) 0 x.a.own.length,.sl (o+1) 0 x.a.far.length,.sl (o+2) 0 x.a.subs.length,.sl (o+3) 0 x.a.halfs.length,.int .i64 x.a.bucket.rate,.int .i64 x.a.bucket.burst,.int .i64 x.a.bucket.cur,.st x.a.out.text,.int .i64 x.a.out.base,.int .i64 x.a.out.sent,.int .i64 x.a.out.room,.int .i64 x.a.inp.read,.st x.a.inp.ready,.sl (o+4) 0 x.a.inp.list.length,.sl (o+5) 0 x.a.done.length,.sl (o+6) 0 x.a.over.length,.int .i64 x.a.draw,.int .i64 x.a.now,.int .i64 x.a.pick,.int .i64 x.b.side,.int .i64 x.b.state,.int .i64 x.b.key,.int .i64 x.b.peer,.int .i64 x.b.policy.kind,.int .i64 x.b.policy.many,.sl (o+7) 0 x.b.own.length,.sl (o+8) 0 x.b.far.length,.sl (o+9) 0 x.b.subs.length,.sl (o+10) 0 x.b.halfs.length,.int .i64 x.b.bucket.rate,.int .i64 x.b.bucket.burst,.int .i64 x.b.bucket.cur,.st x.b.out.text,.int .i64 x.b.out.base,.int .i64 x.b.out.sent,.int .i64 x.b.out.room,.int .i64 x.b.inp.read,.st x.b.inp.ready,.sl (o+11) 0 x.b.inp.list.length,.sl (o+12) 0 x.b.done.length,.sl (o+13) 0 x.b.over.length,.int .i64 x.b.draw,.int .i64 x.b.now,.int .i64 x.b.pick,.sl (o+14) 0 x.bag.length,.sl (o+15) 0 x.past.length,.st x.wroteA,.st x.wroteB,.st x.readA,.st x.readB,.sl (o+16) 0 x.known.keys.length,.sl (o+17) 0 x.known.tags.length,.sl (o+18) 0 x.nums.length,.sl (o+19) 0 x.answersA.length,.sl (o+20) 0 x.answersB.length]
def WorldD.hp (x:WorldD) (own:Bool):Hp:=[some ⟨x.a.own.map AddrD.cs,4,32,own,true⟩,some ⟨x.a.far.map AddrD.cs,4,32,own,true⟩,some ⟨x.a.subs.map SubD.cs,10,115,own,true⟩,some ⟨x.a.halfs.map HalfD.cs,8,214,own,true⟩,some ⟨x.a.inp.list.map PieceD.cs,2,223,own,true⟩,some ⟨x.a.done.map bh,1,3,own,true⟩,some ⟨x.a.over.map bh,1,3,own,true⟩,some ⟨x.b.own.map AddrD.cs,4,32,own,true⟩,some ⟨x.b.far.map AddrD.cs,4,32,own,true⟩,some ⟨x.b.subs.map SubD.cs,10,115,own,true⟩,some ⟨x.b.halfs.map HalfD.cs,8,214,own,true⟩,some ⟨x.b.inp.list.map PieceD.cs,2,223,own,true⟩,some ⟨x.b.done.map bh,1,3,own,true⟩,some ⟨x.b.over.map bh,1,3,own,true⟩,some ⟨x.bag.map LetterD.cs,19,36,own,true⟩,some ⟨x.past.map LetterD.cs,19,36,own,true⟩,some ⟨x.known.keys.map bh,1,3,own,true⟩,some ⟨x.known.tags.map TagD.cs,5,34,own,true⟩,some ⟨x.nums.map bh,1,3,own,true⟩,some ⟨x.answersA.map bh,1,3,own,true⟩,some ⟨x.answersB.map bh,1,3,own,true⟩]
attribute [go_sem] WorldD.cs WorldD.hp
end
section
def ll (n:Nat):List Sc:=[.int .i64 (n:Int)]
attribute [go_sem] ll
theorem Km {α:Type} {p:α->Bool} {l:List α} {k:Nat} (h:k < l.length):(l.drop k).all p=(p l[k] && (l.drop (k+1)).all p):=by
 rw [P8 h,Qo]
theorem gE {α:Type} {p:α->Bool} {l:List α} {k:Nat} (h:k < l.length):(l.drop k).any p=(p l[k] || (l.drop (k+1)).any p):=by
 rw [P8 h,List.any_cons]
theorem fR {α:Type} {p:α->Bool} {l:List α} {k:Nat} (h:l.length<=k):(l.drop k).any p=false:=by
 rw [P6 h,List.any_nil]
def O0 (now:Int) (h:HalfD):Bool:=decide (h.till<=now) || decide (6 < IntKind.u64.wrap (IntKind.u64.wrap h.till - IntKind.u64.wrap now))
def fresh (e:EndD):Bool:=e.halfs.all fun h=> !O0 e.now h
def bj (n:Int):Int:=if bU n 10 19 then 1 else if bU n 20 29 then 2 else 0
def j4 (own:List AddrD) (n:Int):Bool:=own.any fun a=>a.addr == n
def nF (l:List Int) (n:Int):Bool:=l.any fun a=>a == n
def od (k:Nat):List SubD->List Nat
 |[]=>[]
 |s::r=>if s.state=3 then k::od (k+1) r else od (k+1) r
def jm (l:List SubD):List Nat:=od 0 l
theorem A7 {l:List SubD} {k:Nat} (h:k < l.length):od k (l.drop k)=if l[k].state=3 then k::od (k+1) (l.drop (k+1)) else od (k+1) (l.drop (k+1)):=by
 rw [P8 h,od]
theorem xy:∀ {l r:List SubD} {k:Nat},r=l.drop k->∀ n∈od k r,∃ h:n < l.length,l[n].state=3
 |l,[],k,hr,n,hn=>by simp [od] at hn
 |l,s::r,k,hr,n,hn=>by
  have hk:k < l.length:=by
   have:=congrArg List.length hr
   simp at this;omega
  rw [P8 hk] at hr
  obtain⟨h1,h2⟩:=List.cons.inj hr
  rw [od] at hn
  split at hn
  ·rename_i hs
   rcases Qg.1 hn with rfl|hn
   ·exact⟨hk,by rw [<-h1];exact hs⟩
   exact xy h2 n hn
  exact xy h2 n hn
theorem rX {l:List SubD} {n:Nat} (h:n∈jm l):∃ h:n < l.length,l[n].state=3:=xy (l:=l) zP n h
theorem t7 {l:List SubD} {k:Nat} (h:k < (jm l).length):(jm l)[k] < l.length:=(rX (Qh h)).1
theorem Ee:∀ {l:List SubD} {k:Nat},(od k l).length<=l.length
 |[],k=>by simp [od]
 |s::r,k=>by
  rw [od]
  have:=Ee (l:=r) (k:=k+1)
  split<;>simp<;>omega
theorem mL (l:List SubD):(jm l).length<=l.length:=Ee
def bH (l:List SubD) (n:Nat):SubD:=l.getD n default
theorem eI {l:List SubD} {n:Nat} (h:n < l.length):bH l n=l[n]:=by
 rw [bH,P9,Qe h];rfl
def PW (t h:List UInt8):Bool:=decide (h.length<=t.length) && t.take h.length == h
def bucketOk (b:BucketD):Bool:=bU b.rate 0 100 && bU b.burst 1 100 && bU b.cur 0 b.burst
def kV (far:List AddrD) (acc:List RoadD):List AddrD->List RoadD
 |[]=>acc
 |a::r=>kV far ((acc++far.map fun b=>(⟨a.addr,b.addr,0⟩:RoadD)).take 8) r
def oe (o f:Int) (n:Nat):List RoadD:=(List.range n).map fun (k:Nat)=>(⟨o,f,(k:Int)⟩:RoadD)
def Kn (l:List AddrD):Int:=match l with
 |[]=>0
 |a::_=>a.addr
def wanted (p:PolicyD) (own far:List AddrD):List RoadD:=
 if polOk p=true/\bU own.length 1 6=true/\bU far.length 1 6=true then
  (if p.kind=1 then kV far [] own else oe (Kn own) (Kn far) (if p.kind=2 then p.many.toNat else 1))
 else []
def ew (a b:RoadD):Bool:=a.own == b.own && (a.far == b.far && a.port == b.port)
def jN (l:List RoadD) (r:RoadD):Bool:=l.any fun x=>ew x r
def fS (want have_:List RoadD):List RoadD:=if want.length<=64/\have_.length<=64 then want.filter fun r=> !jN have_ r else []
end
section
def Hj (l:List SubD) (n:Nat):Bool:= !(bH l n).spare
def fF (l:List SubD):List Nat:=if ((jm l).filter (Hj l)).length=0 then jm l else (jm l).filter (Hj l)
theorem Ko {l:List SubD} {n:Nat} (h:n∈fF l):n < l.length:=by
 rw [fF] at h
 split at h
 ·exact (rX h).1
 exact (rX (List.mem_filter.1 h).1).1
theorem A8 (l:List SubD):(fF l).length<=l.length:=by
 rw [fF]
 split
 ·exact mL l
 exact QB (Qq _ _) (mL l)
end
section
abbrev lz:=List UInt8
def xz (r:RoadD):lz:=dp r.own++[45]++dp r.far++[58]++dp r.port
def iB (n:Int):lz:=if n=1 then [97,115,107,101,100] else if n=2 then [104,97,108,102] else if n=3 then [111,110] else if n=4 then [103,111,110,101] else [63]
def O1 (e:EndD):lz:=[101,110,100,32]++dp e.side++[32,115,116,97,116,101,32]++dp e.state++[32,110,111,119,32]++dp e.now
def rY (i:Nat) (s:SubD):lz:=[115,117,98,32]++dp (i:Int)++[32]++xz s.road++[32]++iB s.state
def zE (i:Nat) (s:SubD):lz:=if s.spare then rY i s++[32,115,112,97,114,101] else rY i s
def rZ (a:AddrD):lz:=[111,119,110,32]++dp a.id++[32]++dp a.addr
def xA (a:AddrD):lz:=if a.told then rZ a else rZ a++[32,117,110,116,111,108,100]
def xB (a:AddrD):lz:=[102,97,114,32]++dp a.id++[32]++dp a.addr
def Kp (e:EndD):lz:=[115,101,110,116,32]++dp e.out.base++[32,111,102,32]++dp (IntKind.i64.wrap (e.out.base+(e.out.text.length:Int)))
def nextOf (p:PiecesD):Int:=IntKind.i64.wrap (p.read+(p.ready.length:Int))
def Kq (e:EndD):lz:=[114,101,97,100,32]++dp e.inp.read++[32,111,102,32]++dp (nextOf e.inp)
def og (k:Nat):List SubD->List lz
 |[]=>[]
 |s::r=>zE k s::og (k+1) r
theorem xC {l:List SubD} {k:Nat} (h:k < l.length):og k (l.drop k)=zE k l[k]::og (k+1) (l.drop (k+1)):=by
 rw [P8 h,og]
theorem A9:∀ {l:List SubD} {k:Nat},(og k l).length=l.length
 |[],_=>rfl
 |s::r,k=>by rw [og,Qd,A9,Qd]
def r_ (e:EndD):List lz:=O1 e::og 0 e.subs
def se (e:EndD):List lz:=r_ e++e.own.map xA
def Ef (e:EndD):List lz:=se e++e.far.map xB
def f5 (e:EndD):List lz:=Ef e++[Kp e,Kq e]
theorem t8 (e:EndD):(r_ e).length=e.subs.length+1:=by rw [r_,Qd,A9]
theorem t9 (e:EndD):(se e).length=e.subs.length+1+e.own.length:=by rw [se,Qc,t8,QJ]
theorem t_ (e:EndD):(Ef e).length=e.subs.length+1+e.own.length+e.far.length:=by rw [Ef,Qc,t9,QJ]
theorem dV (e:EndD):(f5 e).length=e.subs.length+3+e.own.length+e.far.length:=by
 rw [f5,Qc,t_]
 simp
 omega
theorem kt (n:Int):bN (IntKind.i64.wrap n):=by
 rw [IntKind.wrap_i64]
 constructor<;>omega
theorem A_ {r:RoadD} (h:r.wf):(xz r).length<=65:=by
 have h1:=bi h.1
 have h2:=bi h.2.1
 have h3:=bi h.2.2
 simp only [xz,Qc,Qd,Qx]
 omega
theorem xD (n:Int):(iB n).length<=5:=by
 rw [iB]
 split
 ·decide
 split
 ·decide
 split
 ·decide
 split<;>decide
end
section
def eD {α:Type} (p:α->Bool) (k:Nat):List α->Int
 |[]=> -1
 |x::r=>if p x then (k:Int) else eD p (k+1) r
def km {α:Type} (p:α->Bool) (l:List α):Int:=eD p 0 l
theorem jx {α:Type} {p:α->Bool} {l:List α} {k:Nat} (h:k < l.length):eD p k (l.drop k)=if p l[k] then (k:Int) else eD p (k+1) (l.drop (k+1)):=by
 rw [P8 h,eD]
theorem kF {α:Type} {p:α->Bool} {l:List α} {k:Nat} (h:l.length<=k):eD p k (l.drop k)= -1:=by
 rw [P6 h,eD]
def bV (l:List HalfD) (r:RoadD):Int:=km (fun h=>ew h.road r) l
def bs (l:List AddrD) (n:Int):Int:=km (fun a=>a.id == n) l
def bK (l:List SubD) (r:RoadD):Int:=km (fun s=>s.state != 4 && ew s.road r) l
def oh (r:RoadD):Bool:=fv r.own && fv r.far && fv r.port
def outOk (o:OutD):Bool:=fv o.base && bU o.room 1 200 && decide ((o.text.length:Int)<=o.room) && bU o.sent o.base (IntKind.i64.wrap (o.base+(o.text.length:Int)))
def jy (n:Int):List PieceD->Int
 |[]=>n
 |x::r=>jy (IntKind.i64.wrap (n+(x.text.length:Int))) r
def mM (p:PiecesD):Int:=jy (p.ready.length:Int) p.list
theorem u9 {l:List PieceD} {n:Int} {k:Nat} (h:k < l.length):jy n (l.drop k)=jy (IntKind.i64.wrap (n+(l[k].text.length:Int))) (l.drop (k+1)):=by
 rw [P8 h,jy]
def jA (en:Int):List PieceD->Bool
 |[]=>true
 |x::r=> !(x.text == []) && decide (x.pos<=2000000000) && decide (en < x.pos) && jA (IntKind.i64.wrap (x.pos+(x.text.length:Int))) r
theorem Ba {l:List PieceD} {n:Int} {k:Nat} (h:k < l.length):jA n (l.drop k)=(!(l[k].text == []) && decide (l[k].pos<=2000000000) && decide (n < l[k].pos) && jA (IntKind.i64.wrap (l[k].pos+(l[k].text.length:Int))) (l.drop (k+1))):=by
 rw [P8 h,jA]
def piecesOk (p:PiecesD):Bool:=fv p.read && decide ((p.list.length:Int)<=20) && decide (mM p<=200) && jA (nextOf p) p.list
def gw (p:Nat->Bool) (n:Nat):Bool:=(List.range n).all p
theorem dG {p:Nat->Bool} {n:Nat} (h:∀ j,j < n->p j=true):gw p n=true:=by
 simp only [gw,Qb,Ql]
 exact h
theorem aA {p:Nat->Bool} {n j:Nat} (hj:j < n) (h:p j=false):gw p n=false:=by
 cases hu:gw p n with
 |false=>rfl
 |true=>
  simp only [gw,Qb,Ql] at hu
  rw [hu j hj] at h
  cases h
theorem Kr {p q:Nat->Bool} {n:Nat}:gw (fun j=>p j && q j) n=(gw p n && gw q n):=by
 cases h:gw p n with
 |false=>
  simp only [gw,QF,Ql] at h
  obtain⟨j,hj,h⟩:=h
  rw [Bool.false_and]
  exact aA hj (by simp at h;simp [h])
 |true=>
  rw [Qu]
  cases hq:gw q n with
  |false=>
   simp only [gw,QF,Ql] at hq
   obtain⟨j,hj,hq⟩:=hq
   exact aA hj (by simp at hq;simp [hq])
  |true=>
   simp only [gw,Qb,Ql] at h hq
   exact dG fun j hj=>by rw [h j hj,hq j hj];rfl
def LH (l:List AddrD) (j:Nat):AddrD:=l.getD j default
theorem lU {l:List AddrD} {n:Nat} (h:n < l.length):LH l n=l[n]:=by
 rw [LH,P9,Qe h];rfl
def ig (l:List AddrD) (j:Nat):Bool:=bU (LH l j).id 0 255 && bU (LH l j).addr 1 65535 && (j == 0 || decide ((LH l (j - 1)).id < (LH l j).id)) && (l.take j).all fun b=> !((LH l j).addr == b.addr)
def cd (l:List AddrD):Bool:=decide ((l.length:Int)<=6) && gw (ig l) l.length
def Mw (l:List HalfD) (j:Nat):HalfD:=l.getD j default
theorem xE {l:List HalfD} {n:Nat} (h:n < l.length):Mw l n=l[n]:=by
 rw [Mw,P9,Qe h];rfl
def ii (l:List HalfD) (j:Nat):Bool:=oh (Mw l j).road && [(Mw l j).theirs,(Mw l j).mine,(Mw l j).give,(Mw l j).take,(Mw l j).till].all fv && bV l (Mw l j).road == (j:Int)
def dx (l:List HalfD):Bool:=decide ((l.length:Int)<=4) && gw (ii l) l.length
def dQ (l:List Int) (j:Nat):Bool:=j == 0 || decide (l.getD (j - 1) 0 < l.getD j 0)
def iP (l:List Int) (there:List AddrD) (j:Nat):Bool:=bU (l.getD j 0) 0 255 && decide (bs there (l.getD j 0) < 0)
def pO (l:List Int) (there:List AddrD):Bool:=gw (dQ l) l.length && gw (iP l there) l.length
def dH (l:List SubD) (j:Nat):Bool:=bU (bH l j).state 1 4 && oh (bH l j).road && [(bH l j).mine,(bH l j).theirs,(bH l j).give,(bH l j).take,(bH l j).tries].all fv && ((bH l j).state == 4 || bK l (bH l j).road == (j:Int))
def aq (e:EndD):Bool:=
 bU e.side 1 2 && bU e.state 0 2 && polOk e.policy && cd e.own && cd e.far && dx e.halfs && bucketOk e.bucket && outOk e.out && piecesOk e.inp &&
 pO e.done e.own && pO e.over e.far && decide ((e.subs.length:Int)<=8) && [e.key,e.peer,e.draw,e.now,e.pick].all fv && gw (dH e.subs) e.subs.length
end
section
theorem sf {α:Type} {p:α->Bool}:∀ {l:List α} {k:Nat},eD p k l= -1\/((k:Int)<=eD p k l/\eD p k l < (k:Int)+l.length)
 |[],k=>.inl rfl
 |a::r,k=>by
  rw [eD]
  split
  ·right;simp only [Qd];omega
  rcases sf (p:=p) (l:=r) (k:=k+1) with h|h
  ·exact .inl h
  right;simp only [Qd];omega
theorem sh {α:Type} {p:α->Bool} {l:List α}:km p l= -1\/(0<=km p l/\km p l < l.length):=by
 have:=sf (p:=p) (l:=l) (k:=0)
 rw [km]
 omega
theorem f6 (l:List SubD) (r:RoadD):bK l r= -1\/(0<=bK l r/\bK l r < l.length):=sh
theorem iJ (l:List HalfD) (r:RoadD):bV l r= -1\/(0<=bV l r/\bV l r < l.length):=sh
theorem eZ (l:List AddrD) (n:Int):bs l n= -1\/(0<=bs l n/\bs l n < l.length):=sh
def am (x:LetterD):RoadD:=⟨x.to,x.frm,x.port⟩
def bc (r:RoadD) (x:LetterD):LetterD:={ x with frm:=r.own,to:=r.far,port:=r.port }
def eu (s:Int):Int:=if bU s 1 2 then 100+s else 0
def ce (b:BucketD):BucketD×Bool:=if bucketOk b=true/\b.cur≠0 then (⟨b.rate,b.burst,b.cur - 1⟩,true) else (b,false)
def came (o:OutD) (gw:Int):OutD:=
 if outOk o=true/\o.base < gw/\gw<=IntKind.i64.wrap (o.base+(o.text.length:Int)) then⟨o.text.drop (gw - o.base).toNat,gw,if o.sent < gw then gw else o.sent,o.room⟩ else o
def mN:TagD:=⟨0,0,0,0,0⟩
def iX (k:KnownD) (t:TagD):Bool:=decide (t=mN) || (nF k.keys t.one && nF k.keys t.two) || (k.tags.take 300).any fun u=>decide (u=t)
def fM (k:KnownD) (t:TagD):KnownD:=if iX k t=false/\k.tags.length < 300 then { k with tags:=k.tags++[t] } else k
def dy (e:EndD) (x:LetterD):Int:=
 let k:=bK e.subs (am x)
 if k < 0 then -1 else if (bH e.subs k.toNat).state=3/\(bH e.subs k.toNat).take=x.sgn then k else -1
def eR (l:List HalfD) (h:HalfD):List HalfD:=if 0<=bV l h.road then l.set (bV l h.road).toNat h else l++[h]
def ck (l:List HalfD) (h:HalfD):List HalfD×Bool:=if dx (eR l h) then (eR l h,true) else (l,false)
theorem uc {l:List HalfD} {h:HalfD} (e:dx (eR l h)=true):ck l h=(eR l h,true):=if_pos e
theorem Bb {l:List HalfD} {h:HalfD} (e:dx (eR l h)=false):ck l h=(l,false):=if_neg (by simp [e])
theorem dW (l:List HalfD) (h:HalfD):(eR l h).length<=l.length+1:=by
 rw [eR]
 split<;>simp
def dO (l:List HalfD) (r:RoadD):List HalfD:=if bV l r < 0 then l else l.take (bV l r).toNat++l.drop ((bV l r).toNat+1)
def Eg (l:List AddrD) (n:Int):Nat:=(l.takeWhile fun a=>decide (a.id < n)).length
def dA (l:List AddrD) (a:AddrD):List AddrD:=if 0<=bs l a.id then l.set (bs l a.id).toNat a else l.take (Eg l a.id)++[a]++l.drop (Eg l a.id)
def bu (l:List AddrD) (a:AddrD):List AddrD×Bool:=if cd (dA l a) then (dA l a,true) else (l,false)
theorem Bc {l:List AddrD} {a:AddrD} (e:cd (dA l a)=true):bu l a=(dA l a,true):=if_pos e
theorem ud {l:List AddrD} {a:AddrD} (e:cd (dA l a)=false):bu l a=(l,false):=if_neg (by simp [e])
def bC (l:List AddrD) (n:Int):List AddrD×Bool:=if bs l n < 0 then (l,false) else (l.take (bs l n).toNat++l.drop ((bs l n).toNat+1),true)
structure Small (e:EndD):Prop where
 own:e.own.length<=1048576
 far:e.far.length<=1048576
 subs:e.subs.length<=1048576
 halfs:e.halfs.length<=1048576
 list:e.inp.list.length<=1048576
 done:e.done.length<=1048576
 over:e.over.length<=1048576
def gF (n:Int):List AddrD:=[⟨0,n,false,true⟩]
def ku (e:EndD) (x:LetterD):Bool:=
 aq e && cU x && decide (e.state=0) && j4 e.own x.to && bU x.frm 1 65535 && decide (bK e.subs (am x) < 0) && decide (e.subs.length < 8) && bU e.draw 1 999999996
def aW (e:EndD) (x:LetterD):EndD×List LetterD:=
 if ku e x then ({ e with state:=2,key:=e.draw,peer:=x.key,far:=gF x.frm,subs:=e.subs++[⟨am x,3,false,0,0,x.give,e.draw+2,0⟩],draw:=e.draw+4 },
  [bc (am x) { ac with kind:=2,key:=e.draw,give:=e.draw+2 }]) else (e,[])
theorem u_ {e:EndD} {x:LetterD} (h:ku e x=true):aW e x=({ e with state:=2,key:=e.draw,peer:=x.key,far:=gF x.frm,subs:=e.subs++[⟨am x,3,false,0,0,x.give,e.draw+2,0⟩],draw:=e.draw+4 },
  [bc (am x) { ac with kind:=2,key:=e.draw,give:=e.draw+2 }]):=if_pos h
theorem va {e:EndD} {x:LetterD} (h:ku e x=false):aW e x=(e,[]):=if_neg (by simp [h])
theorem gG (e:EndD) (x:LetterD):dy e x= -1\/(0<=dy e x/\dy e x < e.subs.length):=by
 simp only [dy]
 rcases f6 e.subs (am x) with h|⟨h1,h2⟩
 ·rw [if_pos zO];exact .inl rfl
 rw [if_neg zO]
 split
 ·exact .inr ⟨h1,h2⟩
 exact .inl rfl
def jj (e:EndD) (x:LetterD):Int:=if aq e && cU x then dy e x else -1
def cE (l:List SubD) (k:Nat) (c:Int):List SubD:=l.set k { bH l k with state:=c }
def bP (e:EndD) (x:LetterD):EndD×List LetterD:=(if 0<=jj e x then { e with subs:=cE e.subs (dy e x).toNat 4 } else e,[])
def cm (e:EndD) (x:LetterD):EndD×List LetterD:=(if 0<=jj e x then { e with out:=came e.out x.pos } else e,[])
def sj (e:EndD) (x:LetterD):Bool:=aq e && cU x && decide (0<=bK e.subs (am x)) && decide ((bH e.subs (bK e.subs (am x)).toNat).state=2) && decide ((bH e.subs (bK e.subs (am x)).toNat).take=x.sgn)
def bl (e:EndD) (x:LetterD):EndD×List LetterD:=(if sj e x then { e with subs:=cE e.subs (bK e.subs (am x)).toNat 3 } else e,[])
def mO (e:EndD) (x:LetterD):Bool:=aq e && cU x && decide (e.state=1) && decide (0<=bK e.subs (am x)) && decide ((bH e.subs (bK e.subs (am x)).toNat).state=1) && bU x.frm 1 65535
def bE (e:EndD) (x:LetterD):EndD×List LetterD:=
 if mO e x then ({ e with state:=2,peer:=x.key,far:=gF x.frm,subs:=e.subs.set (bK e.subs (am x)).toNat { bH e.subs (bK e.subs (am x)).toNat with state:=3,give:=x.give } },[bc (am x) { ac with kind:=3 }]) else (e,[])
theorem bQ {l:List SubD} {n:Nat} (h:n < l.length):bH l n=l[n]:=by simp [bH,List.getD_eq_getElem?_getD,h]
theorem cW {e:EndD} {x:LetterD} (h:¬ (aq e=true/\cU x=true/\0<=dy e x)):¬ 0<=jj e x:=by
 rw [jj]
 split
 ·rename_i hc
  simp only [zk] at hc
  exact fun hk=>h ⟨hc.1,hc.2,hk⟩
 omega
theorem ol {e:EndD} {x:LetterD} {n:Nat} (h1:aq e=true) (h2:cU x=true) (h:dy e x=(n:Int)):jj e x=(n:Int):=by
 rw [jj,h1,h2,h]
 rfl
theorem vb {e:EndD} {x:LetterD} (h:¬ 0<=jj e x):bP e x=(e,[]):=by rw [bP,if_neg h]
theorem vd {e:EndD} {x:LetterD} {n:Nat} (h:jj e x=(n:Int)) (h2:dy e x=(n:Int)):bP e x=({ e with subs:=cE e.subs n 4 },[]):=by
 rw [bP,if_pos zO,h2]
 rfl
theorem xF {e:EndD} {x:LetterD} (h:¬ 0<=jj e x):cm e x=(e,[]):=by rw [cm,if_neg h]
theorem xG {e:EndD} {x:LetterD} (h:0<=jj e x):cm e x=({ e with out:=came e.out x.pos },[]):=by rw [cm,if_pos h]
theorem iz (e:EndD) (x:LetterD):jj e x= -1\/∃ n:Nat,jj e x=(n:Int)/\dy e x=(n:Int)/\n < e.subs.length/\aq e=true/\cU x=true:=by
 rw [jj]
 split
 ·rename_i hc
  simp only [zk] at hc
  rcases gG e x with h|⟨h1,h2⟩
  ·exact .inl h
  exact .inr ⟨(dy e x).toNat,zO,zO,zO,hc.1,hc.2⟩
 exact .inl rfl
theorem fd {l:List SubD} {n:Nat} (h:n < l.length) (c:Int):cE l n c=l.set n { l[n] with state:=c }:=by rw [cE,bQ h]
theorem M7 {e:EndD} {x:LetterD} (h:sj e x=false):bl e x=(e,[]):=by rw [bl,if_neg (by simp [h])]
theorem M8 {e:EndD} {x:LetterD} {n:Nat} (h:sj e x=true) (hk:bK e.subs (am x)=(n:Int)):bl e x=({ e with subs:=cE e.subs n 3 },[]):=by
 rw [bl,if_pos h,hk]
 rfl
theorem Ks {e:EndD} {x:LetterD} {n:Nat} (hk:bK e.subs (am x)=(n:Int)) (hn:n < e.subs.length):sj e x=(aq e && cU x && decide (e.subs[n].state=2) && decide (e.subs[n].take=x.sgn)):=by
 rw [sj,hk,P7,bQ hn]
 simp
theorem Kt {e:EndD} {x:LetterD} (hk:bK e.subs (am x)= -1):sj e x=false:=by
 rw [sj,hk]
 simp
theorem Ku {e:EndD} {x:LetterD} (h:mO e x=false):bE e x=(e,[]):=by rw [bE,if_neg (by simp [h])]
theorem Kv {e:EndD} {x:LetterD} {n:Nat} (h:mO e x=true) (hk:bK e.subs (am x)=(n:Int)) (hn:n < e.subs.length):bE e x=({ e with state:=2,peer:=x.key,far:=gF x.frm,subs:=e.subs.set n { e.subs[n] with state:=3,give:=x.give } },[bc (am x) { ac with kind:=3 }]):=by
 rw [bE,if_pos h,hk,P7,bQ hn]
theorem Hk {e:EndD} {x:LetterD} {n:Nat} (hk:bK e.subs (am x)=(n:Int)) (hn:n < e.subs.length):mO e x=(aq e && cU x && decide (e.state=1) && decide (e.subs[n].state=1) && bU x.frm 1 65535):=by
 rw [mO,hk,P7,bQ hn]
 simp
theorem Hl {e:EndD} {x:LetterD} (hk:bK e.subs (am x)= -1):mO e x=false:=by
 rw [mO,hk]
 simp
end
section
open Go.RowKit
theorem fe (n:Int):aP 97 [.sc (.int .i64 n)] [] (.sc (.int .i64 (bj n))) []:=by
 refine qE func97 ntmps97 results97 fun E hE=>?_
 refine qK (aS _ _ _) [] ?_
 refine qB (fun h1=>?_) fun h1=>?_
 ·refine qJ [] ?_
  simp [bj,h1]
 refine qK (aS _ _ _) [] ?_
 refine qB (fun h2=>?_) fun h2=>?_
 ·refine qJ [] ?_
  simp [bj,h1,h2]
 refine qJ [] ?_
 simp [bj,h1,h2]
theorem ff (n:Int):aP 111 [.sc (.int .i64 n)] [] (.sc (.int .i64 (bj n))) []:=by
 refine qE func111 ntmps111 results111 fun E hE=>?_
 refine qK (aJ _ _ _) [] ?_
 refine qB (fun h1=>?_) fun h1=>?_
 ·have h1':=h1
  simp only [bU,zk,decide_eq_true_eq] at h1'
  have hd:n.tdiv 10=n / 10:=Int.tdiv_eq_ediv_of_nonneg zO
  refine qJ [] ?_
  rw [bj]
  by_cases h2:n<=19
  ·rw [if_pos (by simp [bU];omega)];omega
  rw [if_neg (by simp [bU];omega),if_pos (by simp [bU];omega)];omega
 have h1':=h1
 simp only [bU,Bool.and_eq_false_iff,decide_eq_false_iff_not] at h1'
 refine qJ [] ?_
 rw [bj,if_neg (by simp [bU];omega),if_neg (by simp [bU];omega)]
theorem jO (e:EndD) (n:Int) (hl:e.own.length<=1048576):aP 137 [.ag (e.cs 0),.sc (.int .i64 n)] (e.hp false) (.sc (.bo (j4 e.own n))) (e.hp false):=by
 refine qE func137 ntmps137 results137 fun E hE=>?_
 refine fJ 7 hE (fun s (k:Nat)=>s.at (qU [0,1,2,1,4,1,6,2,11,8]) [(10,.sc (.int .i64 (k:Nat)))] (s.hp)) (fun (k:Nat)=>k<=e.own.length/\(e.own.drop k).any (fun a=>a.addr == n)=j4 e.own n) (fun (k:Nat)=>e.own.length - k) 0 (qI 0 8) (⟨zG _,rfl⟩) fun k hk N hN=>?_
 obtain⟨hk1,hk2⟩:=hk
 refine qR ?_
 refine qB (fun h=>?_) fun h=>?_
 ·rw [gE h] at hk2
  refine qX ?_
  refine qB (fun h2=>?_) fun h2=>?_
  ·have hp:(e.own[k].addr == n)=true:=by simp [h2]
   rw [hp] at hk2
   refine qJ (qI 0 7) ?_
   exact hk2
  have hp:(e.own[k].addr == n)=false:=by simp [h2]
  rw [hp] at hk2
  exact qN hN (k+1) (qI 0 8) (by (try dsimp only);exact⟨zO,hk2⟩)
 rw [fR zO] at hk2
 refine qJ (qI 0 7) ?_
 exact hk2
theorem gH (l:List Int) (n:Int) (hl:l.length<=1048576):aP 154 [.sc (.sl 0 0 l.length),.sc (.int .i64 n)] [some ⟨l.map bh,1,3,false,true⟩] (.sc (.bo (nF l n))) [some ⟨l.map bh,1,3,false,true⟩]:=by
 refine qE func154 ntmps154 results154 fun E hE=>?_
 refine fJ 1 hE (fun s (k:Nat)=>s.at (qU [0,1,4,1,6,1,10,7]) [(9,.sc (.int .i64 (k:Nat)))] (s.hp)) (fun (k:Nat)=>k<=l.length/\(l.drop k).any (fun a=>a == n)=nF l n) (fun (k:Nat)=>l.length - k) 0 (qI 0 1) (⟨zG _,rfl⟩) fun k hk N hN=>?_
 obtain⟨hk1,hk2⟩:=hk
 refine qR ?_
 refine qB (fun h=>?_) fun h=>?_
 ·rw [gE h] at hk2
  refine qX ?_
  refine qB (fun h2=>?_) fun h2=>?_
  ·have hp:(l[k] == n)=true:=by simp [h2]
   rw [hp] at hk2
   refine qJ (qI 0 1) ?_
   exact hk2
  have hp:(l[k] == n)=false:=by simp [h2]
  rw [hp] at hk2
  exact qN hN (k+1) (qI 0 1) (by (try dsimp only);exact⟨zO,hk2⟩)
 rw [fR zO] at hk2
 refine qJ (qI 0 1) ?_
 exact hk2
theorem jP (e:EndD) (n:Int) (hl:e.own.length<=1048576):aP 214 [.ag (e.cs 0),.sc (.int .i64 n)] (e.hp false) (.sc (.bo (j4 e.own n))) (e.hp false):=by
 refine qE func214 ntmps214 results214 fun E hE=>?_
 refine fJ 7 hE (fun s (k:Nat)=>s.at (qU [0,1,4,1,6,15]) [(5,.sc (.int .i64 (k:Nat)))] (s.hp)) (fun (k:Nat)=>k<=e.own.length/\(e.own.drop k).any (fun a=>a.addr == n)=j4 e.own n) (fun (k:Nat)=>e.own.length - k) 0 (qI 0 8) (⟨zG _,rfl⟩) fun k hk N hN=>?_
 obtain⟨hk1,hk2⟩:=hk
 refine qR ?_
 refine qB (fun h=>?_) fun h=>?_
 ·rw [gE h] at hk2
  refine qX ?_
  refine qB (fun h2=>?_) fun h2=>?_
  ·have hp:(e.own[k].addr == n)=true:=by simp [h2]
   rw [hp] at hk2
   refine qJ (qI 0 7) ?_
   exact hk2
  have hp:(e.own[k].addr == n)=false:=by simp [h2]
  rw [hp] at hk2
  exact qN hN (k+1) (qI 0 8) (by (try dsimp only);exact⟨zO,hk2⟩)
 rw [fR zO] at hk2
 refine qJ (qI 0 7) ?_
 exact hk2
theorem iK (l:List Int) (n:Int) (hl:l.length<=1048576):aP 181 [.sc (.sl 0 0 l.length),.sc (.int .i64 n)] [some ⟨l.map bh,1,3,false,true⟩] (.sc (.bo (nF l n))) [some ⟨l.map bh,1,3,false,true⟩]:=by
 refine qE func181 ntmps181 results181 fun E hE=>?_
 refine fJ 1 hE (fun s (k:Nat)=>s.at (qU [4,1,6,12]) [(5,.sc (.int .i64 (k:Nat)))] (s.hp)) (fun (k:Nat)=>k<=l.length/\(l.drop k).any (fun a=>a == n)=nF l n) (fun (k:Nat)=>l.length - k) 0 (qI 0 1) (⟨zG _,rfl⟩) fun k hk N hN=>?_
 obtain⟨hk1,hk2⟩:=hk
 refine qR ?_
 refine qB (fun h=>?_) fun h=>?_
 ·rw [gE h] at hk2
  refine qX ?_
  refine qB (fun h2=>?_) fun h2=>?_
  ·have hp:(l[k] == n)=true:=by simp [h2]
   rw [hp] at hk2
   refine qJ (qI 0 1) ?_
   exact hk2
  have hp:(l[k] == n)=false:=by simp [h2]
  rw [hp] at hk2
  exact qN hN (k+1) (qI 0 1) (by (try dsimp only);exact⟨zO,hk2⟩)
 rw [fR zO] at hk2
 refine qJ (qI 0 1) ?_
 exact hk2
theorem ue (e:EndD) (hl:e.subs.length<=1048576):aP 158 [.ag (e.cs 0)] (e.hp false) (.sc (.sl 7 0 (jm e.subs).length)) (e.hp false++[some ⟨(jm e.subs).map ll,1,3,true,true⟩]):=by
 refine qE func158 ntmps158 results158 fun E hE=>?_
 refine fJ 7 hE (fun s (x:Nat×List Nat)=>s.at (qU [0,2,4,3,10,12]) [(9,.sc (.int .i64 (x.1:Nat))),(3,.sc (.sl 8 0 x.2.length))] (e.hp false++[some ⟨[e.cs 0],25,54,true,false⟩,some ⟨x.2.map ll,1,3,true,true⟩])) (fun (x:Nat×List Nat)=>x.1<=e.subs.length/\x.2.length<=x.1/\x.2++od x.1 (e.subs.drop x.1)=jm e.subs) (fun (x:Nat×List Nat)=>e.subs.length - x.1) (0,[]) (qI 0 8++qO 1) (⟨zG _,zG _,rfl⟩) fun x hx N hN=>?_
 obtain⟨k,acc⟩:=x
 obtain⟨hk1,hk2,hk3⟩:=hx
 dsimp only at hk1 hk2 hk3
 refine qR ?_
 refine qB (fun h=>?_) fun h=>?_
 ·rw [A7 h] at hk3
  refine qX ?_
  refine qB (fun h2=>?_) fun h2=>?_
  ·rw [if_pos h2] at hk3
   refine⟨qC,hN _ (k+1,acc++[k]) (qI 0 8++qI 11 1) (by (try dsimp only);exact⟨zO,by simp;omega,by simpa using hk3⟩) (by (try dsimp only);omega) (aw zF zF ?_)⟩
   refine qX ?_
   simp [ll]
  rw [if_neg h2] at hk3
  exact qN hN (k+1,acc) (qI 0 9) (by (try dsimp only);exact⟨zO,zO,hk3⟩)
 rw [P6 zO,od,Qa] at hk3
 subst hk3
 exact qF (qI 0 7++qI 8 1)
theorem uf (e:EndD) (hl:e.subs.length<=1048576):aP 232 [.ag (e.cs 0)] (e.hp false) (.sc (.sl 7 0 (jm e.subs).length)) (e.hp false++[some ⟨(jm e.subs).map ll,1,3,true,true⟩]):=by
 refine qE func232 ntmps232 results232 fun E hE=>?_
 refine fJ 7 hE (fun s (x:Nat×List Nat)=>s.at (qU [0,1,5,19]) [(4,.sc (.int .i64 (x.1:Nat))),(3,.sc (.sl 8 0 x.2.length))] (e.hp false++[some ⟨[e.cs 0],25,54,true,false⟩,some ⟨x.2.map ll,1,3,true,true⟩])) (fun (x:Nat×List Nat)=>x.1<=e.subs.length/\x.2.length<=x.1/\x.2++od x.1 (e.subs.drop x.1)=jm e.subs) (fun (x:Nat×List Nat)=>e.subs.length - x.1) (0,[]) (qI 0 9) (⟨zG _,zG _,rfl⟩) fun x hx N hN=>?_
 obtain⟨k,acc⟩:=x
 obtain⟨hk1,hk2,hk3⟩:=hx
 dsimp only at hk1 hk2 hk3
 refine qR ?_
 refine qB (fun h=>?_) fun h=>?_
 ·rw [A7 h] at hk3
  refine qX ?_
  refine qB (fun h2=>?_) fun h2=>?_
  ·rw [if_pos h2] at hk3
   refine⟨qC,hN _ (k+1,acc++[k]) (qI 0 8++qI 10 1) (by (try dsimp only);exact⟨zO,by simp;omega,by simpa using hk3⟩) (by (try dsimp only);omega) (aw zF zF ?_)⟩
   refine qX ?_
   simp [ll]
  rw [if_neg h2] at hk3
  exact qN hN (k+1,acc) (qI 0 9) (by (try dsimp only);exact⟨zO,zO,hk3⟩)
 rw [P6 zO,od,Qa] at hk3
 subst hk3
 exact qF (qI 0 7++qI 8 1)
theorem IE (a b c a' b' c':Int):qg Tryz.prog 113 [.int .i64 a,.int .i64 b,.int .i64 c] [.int .i64 a',.int .i64 b',.int .i64 c']=True:=by
 refine eq_true fun β w x y vs us hv hu=>?_
 obtain⟨v0,v1,v2,rfl⟩:∃ v0 v1 v2,vs=[v0,v1,v2]:=by
  match vs,hv with
  |[v0,v1,v2],_=>exact⟨_,_,_,rfl⟩
 obtain⟨u0,u1,u2,rfl⟩:∃ v0 v1 v2,us=[v0,v1,v2]:=by
  match us,hu with
  |[v0,v1,v2],_=>exact⟨_,_,_,rfl⟩
 obtain⟨rfl,rfl,rfl,_⟩:=hv
 obtain⟨rfl,rfl,rfl,_⟩:=hu
 have hu3:=underlying3
 have hg:=Tryz.eqGuardType113
 have hs:=Tryz.stoodInHeld113
 have hU:Tryz.prog.underlying 113=some (.struct (Tryz.prog.fieldsOf 113)):=by
  simp only [Program.fieldsOf,underlying113]
 have key:∀ q:Bool,q=cS [Sc.int IntKind.i64 a,Sc.int IntKind.i64 b,Sc.int IntKind.i64 c] [Sc.int IntKind.i64 a',Sc.int IntKind.i64 b',Sc.int IntKind.i64 c']↔q=(decide (a=a') && (decide (b=b') && decide (c=c'))):=by
  intro q
  simp only [cS,H7,QO]
  have e:∀ m n:Int,(m == n)=decide (m=n):=fun m n=>by by_cases h:m=n<;>simp [h]
  rw [e,e,e]
 have kk:=(key _).1 rfl
 rw [kk]
 constructor
 ·simp only [Sem.run_bind,run_eqGuard_agg _ _ _ _ _ _ _ hg,run_eql_struct,Result.andThen_ok,run_equalIn_agg _ _ _ _ _ hU hs]
  simp [Op.eqFields,Program.fieldsOf,underlying113,part,run_equalIn_int _ _ _ _ _ _ _ hu3]
  by_cases h1:a=a'<;>by_cases h2:b=b'<;>by_cases h3:c=c'<;>simp [h1,h2,h3]
 simp only [Sem.run_bind,run_eqGuard_agg _ _ _ _ _ _ _ hg,run_neq_struct,Result.andThen_ok,run_equalIn_agg _ _ _ _ _ hU hs]
 simp [Op.eqFields,Program.fieldsOf,underlying113,part,run_equalIn_int _ _ _ _ _ _ _ hu3]
 by_cases h1:a=a'<;>by_cases h2:b=b'<;>by_cases h3:c=c'<;>simp [h1,h2,h3]
attribute [go_sem] IE
theorem sn {α β:Type} {f:α->β} {l:List α} {k:Nat} (h:k < l.length):(l.drop k).map f=f l[k]::(l.drop (k+1)).map f:=by
 rw [P8 h,QP]
theorem lA {α:Type} {p:α->Bool} {l:List α} {k:Nat} (h:k < l.length):(l.drop k).filter p=if p l[k] then l[k]::(l.drop (k+1)).filter p else (l.drop (k+1)).filter p:=by
 rw [P8 h,List.filter_cons]
theorem mc {a b:RoadD} (h:a.own=b.own/\a.far=b.far/\a.port=b.port):ew a b=true:=by simp [ew,h]
theorem md {a b:RoadD} (h:¬ a.own=b.own\/¬ a.far=b.far\/¬ a.port=b.port):ew a b=false:=by
 rw [ew]
 rcases h with h|h|h<;>simp [h]
theorem Ch (l:List RoadD) (r:RoadD) (hl:l.length<=1048576):aP 193 [.sc (.sl 0 0 l.length),.ag r.cs] [some ⟨l.map RoadD.cs,3,113,false,true⟩] (.sc (.bo (jN l r))) [some ⟨l.map RoadD.cs,3,113,false,true⟩]:=by
 refine qE func193 ntmps193 results193 fun E hE=>?_
 refine fJ 1 hE (fun s (k:Nat)=>s.at (qU [0,2,4,1,6,1,10,7]) [(9,.sc (.int .i64 (k:Nat)))] (s.hp)) (fun (k:Nat)=>k<=l.length/\(l.drop k).any (fun x=>ew x r)=jN l r) (fun (k:Nat)=>l.length - k) 0 (qI 0 2) (⟨zG _,rfl⟩) fun k hk N hN=>?_
 obtain⟨hk1,hk2⟩:=hk
 refine qR ?_
 refine qB (fun h=>?_) fun h=>?_
 ·rw [gE h] at hk2
  refine qX ?_
  refine qB (fun h2=>?_) fun h2=>?_
  ·rw [mc h2] at hk2
   refine qJ (qI 0 1) ?_
   exact hk2
  rw [md h2] at hk2
  exact qN hN (k+1) (qI 0 2) (by (try dsimp only);exact⟨zO,hk2⟩)
 rw [fR zO] at hk2
 refine qJ (qI 0 1) ?_
 exact hk2
theorem Eh (l:List RoadD) (r:RoadD) (hl:l.length<=1048576):aP 266 [.sc (.sl 0 0 l.length),.ag r.cs] [some ⟨l.map RoadD.cs,3,113,false,true⟩] (.sc (.bo (jN l r))) [some ⟨l.map RoadD.cs,3,113,false,true⟩]:=by
 refine qE func266 ntmps266 results266 fun E hE=>?_
 refine fJ 1 hE (fun s (k:Nat)=>s.at (qU [1,1,4,1,6,12]) [(5,.sc (.int .i64 (k:Nat)))] (s.hp)) (fun (k:Nat)=>k<=l.length/\(l.drop k).any (fun x=>ew x r)=jN l r) (fun (k:Nat)=>l.length - k) 0 (qI 0 2) (⟨zG _,rfl⟩) fun k hk N hN=>?_
 obtain⟨hk1,hk2⟩:=hk
 refine qR ?_
 refine qB (fun h=>?_) fun h=>?_
 ·rw [gE h] at hk2
  refine qD [0,1,2,3,4,5] ?_
  refine qG ?_
  refine qB (fun h2=>?_) fun h2=>?_
  ·rw [mc h2] at hk2
   refine qJ (qI 0 1) ?_
   exact hk2
  rw [md h2] at hk2
  exact qN hN (k+1) (qI 0 2) (by (try dsimp only);exact⟨zO,hk2⟩)
 rw [fR zO] at hk2
 refine qJ (qI 0 1) ?_
 exact hk2
theorem xH (want hv:List RoadD) (h1:want.length<=1048576) (h2:hv.length<=1048576):aP 148 [.sc (.sl 0 0 want.length),.sc (.sl 1 0 hv.length)] [some ⟨want.map RoadD.cs,3,113,false,true⟩,some ⟨hv.map RoadD.cs,3,113,false,true⟩] (.sc (.sl 2 0 (fS want hv).length)) [some ⟨want.map RoadD.cs,3,113,false,true⟩,some ⟨hv.map RoadD.cs,3,113,false,true⟩,some ⟨(fS want hv).map RoadD.cs,3,113,true,true⟩]:=by
 obtain⟨m,hm⟩:∃ m,m=fS want hv:=⟨_,rfl⟩
 rw [<-hm]
 rw [fS] at hm
 refine qE func148 ntmps148 results148 fun E hE=>?_
 refine qB (fun h3=>?_) fun h3=>?_
 ·refine qB (fun h4=>?_) fun h4=>?_
  ·rw [if_neg zO] at hm
   subst hm
   exact qF (qI 0 2++qO 1)
  rw [if_pos zO] at hm
  refine qX ?_
  refine fJ 2 hE (fun s (x:Nat×List RoadD)=>s.at (qU [0,1,7,9,19,12]) [(18,.sc (.int .i64 (x.1:Nat))),(5,.sc (.sl 2 0 x.2.length))] ([some ⟨want.map RoadD.cs,3,113,false,true⟩,some ⟨hv.map RoadD.cs,3,113,false,true⟩,some ⟨x.2.map RoadD.cs,3,113,true,true⟩])) (fun (x:Nat×List RoadD)=>x.1<=want.length/\x.2.length<=x.1/\x.2++(want.drop x.1).filter (fun r=> !jN hv r)=m) (fun (x:Nat×List RoadD)=>want.length - x.1) (0,[]) (qI 0 2++qO 1) (⟨zG _,zG _,by rw [hm];rfl⟩) fun x hx N hN=>?_
  obtain⟨k,acc⟩:=x
  obtain⟨hk1,hk2,hk3⟩:=hx
  dsimp only at hk1 hk2 hk3
  refine qR ?_
  refine qB (fun h=>?_) fun h=>?_
  ·rw [lA h] at hk3
   refine qX ?_
   refine qK (Ch hv want[k] h2) (qI 1 1) ?_
   cases hh:jN hv want[k] with
   |true=>
    rw [hh] at hk3
    simp only [QQ,QC,if_false] at hk3
    refine qX ?_
    exact qN hN (k+1,acc) (qI 0 3) (by (try dsimp only);exact⟨zO,zO,hk3⟩)
   |false=>
    rw [hh] at hk3
    simp only [QN,if_true] at hk3
    refine qX ?_
    refine⟨qC,hN _ (k+1,acc++[want[k]]) (qI 0 2++qI 5 1) (by (try dsimp only);exact⟨zO,by simp;omega,by simpa using hk3⟩) (by (try dsimp only);omega) (aw zF zF ?_)⟩
    refine qX ?_
    simp [RoadD.cs]
  rw [P6 zO,Qs,Qa] at hk3
  subst hk3
  exact qF (qI 0 3)
 rw [if_neg zO] at hm
 subst hm
 exact qF (qI 0 2++qO 1)
theorem xI (want hv:List RoadD) (h1:want.length<=1048576) (h2:hv.length<=1048576):aP 226 [.sc (.sl 0 0 want.length),.sc (.sl 1 0 hv.length)] [some ⟨want.map RoadD.cs,3,113,false,true⟩,some ⟨hv.map RoadD.cs,3,113,false,true⟩] (.sc (.sl 2 0 (fS want hv).length)) [some ⟨want.map RoadD.cs,3,113,false,true⟩,some ⟨hv.map RoadD.cs,3,113,false,true⟩,some ⟨(fS want hv).map RoadD.cs,3,113,true,true⟩]:=by
 obtain⟨m,hm⟩:∃ m,m=fS want hv:=⟨_,rfl⟩
 rw [<-hm]
 have hg:want.length<=64/\hv.length<=64->m=want.filter fun r=> !jN hv r:=fun h=>by rw [hm,fS,if_pos h]
 have hb:¬ (want.length<=64/\hv.length<=64)->m=[]:=fun h=>by rw [hm,fS,if_neg h]
 clear hm
 refine qE func226 ntmps226 results226 fun E hE=>?_
 refine fJ 2 hE (fun s (x:Nat×List RoadD)=>s.at (qU [7,31]) [(6,.sc (.int .i64 (x.1:Nat))),(5,.sc (.sl 2 0 x.2.length))] ([some ⟨want.map RoadD.cs,3,113,false,true⟩,some ⟨hv.map RoadD.cs,3,113,false,true⟩,some ⟨x.2.map RoadD.cs,3,113,true,true⟩])) (fun (x:Nat×List RoadD)=>x.1<=want.length/\x.2.length<=x.1/\(want.length<=64/\hv.length<=64->x.2++(want.drop x.1).filter (fun r=> !jN hv r)=m)/\(¬ (want.length<=64/\hv.length<=64)->x.2=[])) (fun (x:Nat×List RoadD)=>want.length - x.1) (0,[]) (qI 0 3) (⟨zG _,zG _,fun h=>(hg h).symm,fun _=>rfl⟩) fun x hx N hN=>?_
 obtain⟨k,acc⟩:=x
 obtain⟨hk1,hk2,hk3,hk4⟩:=hx
 dsimp only at hk1 hk2 hk3 hk4
 refine qR ?_
 refine qB (fun h=>?_) fun h=>?_
 ·refine qB (fun h5=>?_) fun h5=>?_
  ·refine qB (fun h6=>?_) fun h6=>?_
   ·have hk5:=hk3 ⟨zO,zO⟩
    rw [lA h] at hk5
    refine qX ?_
    refine qK (Eh hv want[k] h2) (qI 1 1) ?_
    cases hh:jN hv want[k] with
    |true=>
     rw [hh] at hk5
     simp only [QQ,QC,if_false] at hk5
     refine qX ?_
     exact qN hN (k+1,acc) (qI 0 3) (by (try dsimp only);exact⟨zO,zO,fun _=>hk5,hk4⟩)
    |false=>
     rw [hh] at hk5
     simp only [QN,if_true] at hk5
     refine qX ?_
     refine⟨qC,hN _ (k+1,acc++[want[k]]) (qI 0 2++qI 4 1) (by (try dsimp only);exact⟨zO,by simp;omega,fun _=>by simpa using hk5,fun h=>absurd ⟨zO,zO⟩ h⟩) (by (try dsimp only);omega) (aw zF zF ?_)⟩
     refine qX ?_
     simp [RoadD.cs]
   have e:=hk4 zO
   have e2:=hb zO
   subst e
   subst e2
   exact qF (qI 0 3)
  have e:=hk4 zO
  have e2:=hb zO
  subst e
  subst e2
  exact qF (qI 0 3)
 have e:acc=m:=by
  by_cases hc:want.length<=64/\hv.length<=64
  ·have:=hk3 hc
   rw [P6 zO,Qs,Qa] at this
   exact this
  rw [hk4 hc,hb hc]
 subst e
 exact qF (qI 0 3)
theorem SubD.wf_road {s:SubD} (h:s.wf):s.road.wf:=⟨h.1,h.2.1,h.2.2.1⟩
theorem zH (r:RoadD) (hr:r.wf):aP 59 [.ag r.cs] [] (.sc (.st (xz r))) []:=by
 have h1:=bi hr.1
 have h2:=bi hr.2.1
 have h3:=bi hr.2.2
 refine qE func59 ntmps59 results59 fun E hE=>?_
 refine qD [0,1,4,5,9,10,2,3,6,7,8,11,12,13] ?_
 refine aE (aZ _ hr.1) [] ?_
 refine aE (aZ _ hr.2.1) [] ?_
 refine aE (aZ _ hr.2.2) [] ?_
 refine qG ?_
 refine qP [] ?_
 first|exact⟨⟩|simp [xz]
theorem xJ (n:Int):aP 60 [.sc (.int .i64 n)] [] (.sc (.st (iB n))) []:=by
 refine qE func60 ntmps60 results60 fun E hE=>?_
 refine qB (fun h1=>?_) fun h1=>?_
 ·refine qJ [] ?_
  simp [iB,h1]
 refine qB (fun h2=>?_) fun h2=>?_
 ·refine qJ [] ?_
  simp [iB,h1,h2]
 refine qB (fun h3=>?_) fun h3=>?_
 ·refine qJ [] ?_
  simp [iB,h1,h2,h3]
 refine qB (fun h4=>?_) fun h4=>?_
 ·refine qJ [] ?_
  simp [iB,h1,h2,h3,h4]
 refine qJ [] ?_
 simp [iB,h1,h2,h3,h4]
theorem j5 (p:PiecesD):aP 61 [.ag (p.cs 0)] (p.hp false) (.sc (.int .i64 (nextOf p))) (p.hp false):=by
 refine qE func61 ntmps61 results61 fun E hE=>?_
 refine qP (qI 0 1) ?_
 first|exact⟨⟩|rfl
theorem zJ (r:RoadD) (hr:r.wf):aP 113 [.ag r.cs] [] (.sc (.st (xz r))) []:=by
 have h1:=bi hr.1
 have h2:=bi hr.2.1
 have h3:=bi hr.2.2
 refine qE func113 ntmps113 results113 fun E hE=>?_
 refine qD [0,1,4,5,9,10,2,3,6,7,8,11,12,13] ?_
 refine aE (az _ hr.1) [] ?_
 refine aE (az _ hr.2.1) [] ?_
 refine aE (az _ hr.2.2) [] ?_
 refine qG ?_
 refine qP [] ?_
 first|exact⟨⟩|simp [xz]
theorem zK (n:Int):aP 114 [.sc (.int .i64 n)] [] (.sc (.st (iB n))) []:=by
 refine qE func114 ntmps114 results114 fun E hE=>?_
 refine qB (fun h1=>?_) fun h1=>?_
 ·refine qJ [] ?_
  simp [iB,h1]
 refine qB (fun h2=>?_) fun h2=>?_
 ·refine qJ [] ?_
  simp [iB,h1,h2]
 refine qB (fun h3=>?_) fun h3=>?_
 ·refine qJ [] ?_
  simp [iB,h1,h2,h3]
 refine qB (fun h4=>?_) fun h4=>?_
 ·refine qJ [] ?_
  simp [iB,h1,h2,h3,h4]
 refine qJ [] ?_
 simp [iB,h1,h2,h3,h4]
theorem fg (p:PiecesD):aP 115 [.ag (p.cs 0)] (p.hp false) (.sc (.int .i64 (nextOf p))) (p.hp false):=by
 refine qE func115 ntmps115 results115 fun E hE=>?_
 refine qP (qI 0 1) ?_
 first|exact⟨⟩|rfl
theorem eE (e:EndD) (hw:e.wf) (h1:e.subs.length<=1048576) (h2:e.own.length<=1048576) (h3:e.far.length<=1048576):aP 36 [.ag (e.cs 0)] (e.hp false) (.sc (.sl 7 0 (f5 e).length)) (e.hp false++[some ⟨(f5 e).map aD,1,9,true,true⟩]):=by
 have hw':=hw
 obtain⟨w0,w1,w2,w3,w4,w5,w6,w7,w8,w9,w10,w11,w12,w13,w14,w15,w16,w17,w18,w19,w20,_⟩:=hw'
 have d0:=bi w0
 have d1:=bi w1
 have d16:=bi w16
 have d10:=bi w10
 have d13:=bi w13
 have ds:=bi (kt (e.out.base+(e.out.text.length:Int)))
 have dn:=bi (show bN (nextOf e.inp) from kt _)
 have p1:=t8 e
 have p2:=t9 e
 have p3:=t_ e
 refine qE func36 ntmps36 results36 fun E hE=>?_
 refine qD [0,1,5,6,10,11,2,3,4,7,8,9,12,13,14,15] ?_
 refine aE (aZ _ w0) [] ?_
 refine aE (aZ _ w1) [] ?_
 refine aE (aZ _ w16) [] ?_
 refine qG ?_
 refine dI 7 hE (fun s (x:Nat×List lz)=>s.at (qU [0,1,4,3,12,16,31,26]) [(30,.sc (.int .i64 (x.1:Nat))),(3,.sc (.sl 8 0 x.2.length))] (e.hp false++[some ⟨[e.cs 0],25,54,true,false⟩,some ⟨x.2.map aD,1,9,true,true⟩])) (fun (x:Nat×List lz)=>x.1<=e.subs.length/\x.2.length=1+x.1/\x.2++og x.1 (e.subs.drop x.1)=r_ e) (fun (x:Nat×List lz)=>e.subs.length - x.1) (0,[O1 e]) (qI 0 9) (qC) (⟨zG _,rfl,rfl⟩) (aw zF zF ?_) fun x hx N hN=>?_
 ·try simp (disch:=omega) only [go_sem,seval]
  try rfl
  try exact⟨rfl,rfl⟩
  try simp [O1,aD]
 obtain⟨k,acc⟩:=x
 obtain⟨hk1,hk2,hk3⟩:=hx
 dsimp only at hk1 hk2 hk3
 refine qR ?_
 refine qB (fun h=>?_) fun h=>?_
 ·rw [xC h] at hk3
  have hs:SubD.wf e.subs[k]:=w20 _ (Qh h)
  have hkI:bN (k:Int):=⟨zO,zO⟩
  have dk:=bi hkI
  have dr:=A_ (SubD.wf_road hs)
  have dst:=xD e.subs[k].state
  refine qX ?_
  refine qD [0,4,5,9,10,1,2,3,6,7,8,11,12,13] ?_
  refine aE (aZ _ hkI) [] ?_
  refine aE (zH e.subs[k].road (SubD.wf_road hs)) [] ?_
  refine aE (xJ _) [] ?_
  refine qG ?_
  refine qB (fun h5=>?_) fun h5=>?_
  ·have es:zE k e.subs[k]=rY k e.subs[k]++[32,115,112,97,114,101]:=by simp [zE,h5]
   rw [es] at hk3
   refine lr hN (k+1,acc++[rY k e.subs[k]++[32,115,112,97,114,101]]) (qI 0 8++qI 11 1) (by (try dsimp only);exact⟨zO,by simp;omega,by simpa using hk3⟩) ?_
   first|exact⟨⟩|simp [aD,rY]
  have es:zE k e.subs[k]=rY k e.subs[k]:=by simp [zE,h5]
  rw [es] at hk3
  refine lr hN (k+1,acc++[rY k e.subs[k]]) (qI 0 8++qI 11 1) (by (try dsimp only);exact⟨zO,by simp;omega,by simpa using hk3⟩) ?_
  first|exact⟨⟩|simp [aD,rY]
 rw [P6 zO,og,Qa] at hk3
 subst hk3
 refine qX ?_
 refine dI 7 hE (fun s (x:Nat×List lz)=>s.at (qU [0,1,4,3,8,2,12,46,61,22]) [(60,.sc (.int .i64 (x.1:Nat))),(3,.sc (.sl 8 0 x.2.length))] (e.hp false++[some ⟨[e.cs 0],25,54,true,false⟩,some ⟨x.2.map aD,1,9,true,true⟩])) (fun (x:Nat×List lz)=>x.1<=e.own.length/\x.2.length=(r_ e).length+x.1/\x.2++(e.own.drop x.1).map xA=se e) (fun (x:Nat×List lz)=>e.own.length - x.1) (0,r_ e) (qI 0 9) (qC) (⟨zG _,rfl,rfl⟩) (aw zF zF ?_) fun x hx N hN=>?_
 ·try simp (disch:=omega) only [go_sem,seval]
  try rfl
 obtain⟨k,acc⟩:=x
 obtain⟨hk1,hk2,hk3⟩:=hx
 dsimp only at hk1 hk2 hk3
 refine qR ?_
 refine qB (fun h=>?_) fun h=>?_
 ·rw [sn h] at hk3
  have hs:AddrD.wf e.own[k]:=w18 _ (Qh h)
  have da:=bi hs.1
  have db:=bi hs.2
  refine qX ?_
  refine qD [0,1,5,6,2,3,4,7,8,9] ?_
  refine aE (aZ _ hs.1) [] ?_
  refine aE (aZ _ hs.2) [] ?_
  refine qG ?_
  cases h5:e.own[k].told with
  |false=>
   have es:xA e.own[k]=rZ e.own[k]++[32,117,110,116,111,108,100]:=by simp [xA,h5]
   rw [es] at hk3
   try simp (disch:=omega) only [go_sem,seval,h5]
   refine lr hN (k+1,acc++[rZ e.own[k]++[32,117,110,116,111,108,100]]) (qI 0 8++qI 11 1) (by (try dsimp only);exact⟨zO,by simp;omega,by simpa using hk3⟩) ?_
   first|exact⟨⟩|simp [aD,rZ]
  |true=>
   have es:xA e.own[k]=rZ e.own[k]:=by simp [xA,h5]
   rw [es] at hk3
   try simp (disch:=omega) only [go_sem,seval,h5]
   refine lr hN (k+1,acc++[rZ e.own[k]]) (qI 0 8++qI 11 1) (by (try dsimp only);exact⟨zO,by simp;omega,by simpa using hk3⟩) ?_
   first|exact⟨⟩|simp [aD,rZ]
 rw [P6 zO,Qv,Qa] at hk3
 subst hk3
 refine qX ?_
 refine dI 7 hE (fun s (x:Nat×List lz)=>s.at (qU [0,1,4,3,8,2,11,73,87,16]) [(86,.sc (.int .i64 (x.1:Nat))),(3,.sc (.sl 8 0 x.2.length))] (e.hp false++[some ⟨[e.cs 0],25,54,true,false⟩,some ⟨x.2.map aD,1,9,true,true⟩])) (fun (x:Nat×List lz)=>x.1<=e.far.length/\x.2.length=(se e).length+x.1/\x.2++(e.far.drop x.1).map xB=Ef e) (fun (x:Nat×List lz)=>e.far.length - x.1) (0,se e) (qI 0 9) (qC) (⟨zG _,rfl,rfl⟩) (aw zF zF ?_) fun x hx N hN=>?_
 ·try simp (disch:=omega) only [go_sem,seval]
  try rfl
 obtain⟨k,acc⟩:=x
 obtain⟨hk1,hk2,hk3⟩:=hx
 dsimp only at hk1 hk2 hk3
 refine qR ?_
 refine qB (fun h=>?_) fun h=>?_
 ·rw [sn h] at hk3
  have hs:AddrD.wf e.far[k]:=w19 _ (Qh h)
  have da:=bi hs.1
  have db:=bi hs.2
  refine qX ?_
  refine qD [0,1,2,6,7,3,4,5,8,9,10,11,12] ?_
  refine aE (aZ _ hs.1) [] ?_
  refine aE (aZ _ hs.2) [] ?_
  refine qG ?_
  refine lr hN (k+1,acc++[xB e.far[k]]) (qI 0 8++qI 11 1) (by (try dsimp only);exact⟨zO,by simp;omega,by simpa using hk3⟩) ?_
  first|exact⟨⟩|simp [aD,xB]
 rw [P6 zO,Qv,Qa] at hk3
 subst hk3
 refine qX ?_
 refine qD [0,1,2,3,7,8,9,10,11,12,13,14,17,18,19,23,24,4,5,6,15,16,20,21,22,25,26,27,28,29,30] ?_
 refine aE (aZ _ w10) [] ?_
 refine aE (aZ _ (kt (e.out.base+(e.out.text.length:Int)))) [] ?_
 refine aE (aZ _ w13) [] ?_
 refine aE (j5 e.inp) (qI 4 1) ?_
 refine aE (aZ _ (show bN (nextOf e.inp) from kt _)) [] ?_
 refine qG ?_
 refine qP (qI 0 7++qI 10 1) ?_
 first|exact⟨⟩|simp [f5,Kp,Kq,aD]
theorem pP (e:EndD) (hw:e.wf) (h1:e.subs.length<=1048576) (h2:e.own.length<=1048576) (h3:e.far.length<=1048576):aP 68 [.ag (e.cs 0)] (e.hp false) (.sc (.sl 7 0 (f5 e).length)) (e.hp false++[some ⟨(f5 e).map aD,1,9,true,true⟩]):=by
 have hw':=hw
 obtain⟨w0,w1,w2,w3,w4,w5,w6,w7,w8,w9,w10,w11,w12,w13,w14,w15,w16,w17,w18,w19,w20,_⟩:=hw'
 have d0:=bi w0
 have d1:=bi w1
 have d16:=bi w16
 have d10:=bi w10
 have d13:=bi w13
 have ds:=bi (kt (e.out.base+(e.out.text.length:Int)))
 have dn:=bi (show bN (nextOf e.inp) from kt _)
 have p1:=t8 e
 have p2:=t9 e
 have p3:=t_ e
 refine qE func68 ntmps68 results68 fun E hE=>?_
 refine qD [0,1,5,6,10,11,2,3,4,7,8,9,12,13,14,15] ?_
 refine aE (az _ w0) [] ?_
 refine aE (az _ w1) [] ?_
 refine aE (az _ w16) [] ?_
 refine qG ?_
 refine dI 7 hE (fun s (x:Nat×List lz)=>s.at (qU [0,1,5,1,9,55]) [(4,.sc (.int .i64 (x.1:Nat))),(3,.sc (.sl 8 0 x.2.length))] (e.hp false++[some ⟨[e.cs 0],25,54,true,false⟩,some ⟨x.2.map aD,1,9,true,true⟩])) (fun (x:Nat×List lz)=>x.1<=e.subs.length/\x.2.length=1+x.1/\x.2++og x.1 (e.subs.drop x.1)=r_ e) (fun (x:Nat×List lz)=>e.subs.length - x.1) (0,[O1 e]) (qI 0 9) (qC) (⟨zG _,rfl,rfl⟩) (aw zF zF ?_) fun x hx N hN=>?_
 ·try simp (disch:=omega) only [go_sem,seval]
  try rfl
  try exact⟨rfl,rfl⟩
  try simp [O1,aD]
 obtain⟨k,acc⟩:=x
 obtain⟨hk1,hk2,hk3⟩:=hx
 dsimp only at hk1 hk2 hk3
 refine qR ?_
 refine qB (fun h=>?_) fun h=>?_
 ·rw [xC h] at hk3
  have hs:SubD.wf e.subs[k]:=w20 _ (Qh h)
  have hkI:bN (k:Int):=⟨zO,zO⟩
  have dk:=bi hkI
  have dr:=A_ (SubD.wf_road hs)
  have dst:=xD e.subs[k].state
  refine qX ?_
  refine qD [0,4,5,6,7,8,9,13,14,15,16,17,18,1,2,3,10,11,12,19,20,21] ?_
  refine aE (az _ hkI) [] ?_
  refine aE (zJ e.subs[k].road (SubD.wf_road hs)) [] ?_
  refine aE (zK _) [] ?_
  refine qG ?_
  refine qB (fun h5=>?_) fun h5=>?_
  ·have es:zE k e.subs[k]=rY k e.subs[k]++[32,115,112,97,114,101]:=by simp [zE,h5]
   rw [es] at hk3
   refine lr hN (k+1,acc++[rY k e.subs[k]++[32,115,112,97,114,101]]) (qI 0 8++qI 10 1) (by (try dsimp only);exact⟨zO,by simp;omega,by simpa using hk3⟩) ?_
   first|exact⟨⟩|simp [aD,rY]
  have es:zE k e.subs[k]=rY k e.subs[k]:=by simp [zE,h5]
  rw [es] at hk3
  refine lr hN (k+1,acc++[rY k e.subs[k]]) (qI 0 8++qI 10 1) (by (try dsimp only);exact⟨zO,by simp;omega,by simpa using hk3⟩) ?_
  first|exact⟨⟩|simp [aD,rY]
 rw [P6 zO,og,Qa] at hk3
 subst hk3
 refine qX ?_
 refine dI 7 hE (fun s (x:Nat×List lz)=>s.at (qU [0,1,4,2,7,1,9,92]) [(6,.sc (.int .i64 (x.1:Nat))),(3,.sc (.sl 8 0 x.2.length))] (e.hp false++[some ⟨[e.cs 0],25,54,true,false⟩,some ⟨x.2.map aD,1,9,true,true⟩])) (fun (x:Nat×List lz)=>x.1<=e.own.length/\x.2.length=(r_ e).length+x.1/\x.2++(e.own.drop x.1).map xA=se e) (fun (x:Nat×List lz)=>e.own.length - x.1) (0,r_ e) (qI 0 9) (qC) (⟨zG _,rfl,rfl⟩) (aw zF zF ?_) fun x hx N hN=>?_
 ·try simp (disch:=omega) only [go_sem,seval]
  try rfl
 obtain⟨k,acc⟩:=x
 obtain⟨hk1,hk2,hk3⟩:=hx
 dsimp only at hk1 hk2 hk3
 refine qR ?_
 refine qB (fun h=>?_) fun h=>?_
 ·rw [sn h] at hk3
  have hs:AddrD.wf e.own[k]:=w18 _ (Qh h)
  have da:=bi hs.1
  have db:=bi hs.2
  refine qX ?_
  refine qD [0,1,2,3,4,5,9,10,11,12,13,14,6,7,8,15,16,17] ?_
  refine aE (az _ hs.1) [] ?_
  refine aE (az _ hs.2) [] ?_
  refine qG ?_
  cases h5:e.own[k].told with
  |false=>
   have es:xA e.own[k]=rZ e.own[k]++[32,117,110,116,111,108,100]:=by simp [xA,h5]
   rw [es] at hk3
   try simp (disch:=omega) only [go_sem,seval,h5]
   refine lr hN (k+1,acc++[rZ e.own[k]++[32,117,110,116,111,108,100]]) (qI 0 8++qI 10 1) (by (try dsimp only);exact⟨zO,by simp;omega,by simpa using hk3⟩) ?_
   first|exact⟨⟩|simp [aD,rZ]
  |true=>
   have es:xA e.own[k]=rZ e.own[k]:=by simp [xA,h5]
   rw [es] at hk3
   try simp (disch:=omega) only [go_sem,seval,h5]
   refine lr hN (k+1,acc++[rZ e.own[k]]) (qI 0 8++qI 10 1) (by (try dsimp only);exact⟨zO,by simp;omega,by simpa using hk3⟩) ?_
   first|exact⟨⟩|simp [aD,rZ]
 rw [P6 zO,Qv,Qa] at hk3
 subst hk3
 refine qX ?_
 refine dI 7 hE (fun s (x:Nat×List lz)=>s.at (qU [0,1,4,4,9,119]) [(8,.sc (.int .i64 (x.1:Nat))),(3,.sc (.sl 8 0 x.2.length))] (e.hp false++[some ⟨[e.cs 0],25,54,true,false⟩,some ⟨x.2.map aD,1,9,true,true⟩])) (fun (x:Nat×List lz)=>x.1<=e.far.length/\x.2.length=(se e).length+x.1/\x.2++(e.far.drop x.1).map xB=Ef e) (fun (x:Nat×List lz)=>e.far.length - x.1) (0,se e) (qI 0 9) (qC) (⟨zG _,rfl,rfl⟩) (aw zF zF ?_) fun x hx N hN=>?_
 ·try simp (disch:=omega) only [go_sem,seval]
  try rfl
 obtain⟨k,acc⟩:=x
 obtain⟨hk1,hk2,hk3⟩:=hx
 dsimp only at hk1 hk2 hk3
 refine qR ?_
 refine qB (fun h=>?_) fun h=>?_
 ·rw [sn h] at hk3
  have hs:AddrD.wf e.far[k]:=w19 _ (Qh h)
  have da:=bi hs.1
  have db:=bi hs.2
  refine qX ?_
  refine qD [0,1,2,3,4,5,6,10,11,12,13,14,15,7,8,9,16,17,18,19,20] ?_
  refine aE (az _ hs.1) [] ?_
  refine aE (az _ hs.2) [] ?_
  refine qG ?_
  refine lr hN (k+1,acc++[xB e.far[k]]) (qI 0 8++qI 10 1) (by (try dsimp only);exact⟨zO,by simp;omega,by simpa using hk3⟩) ?_
  first|exact⟨⟩|simp [aD,xB]
 rw [P6 zO,Qv,Qa] at hk3
 subst hk3
 refine qX ?_
 refine qD [0,1,2,3,7,8,9,10,11,12,13,14,4,5,6,15,16,17,18,19] ?_
 refine aE (az _ w10) [] ?_
 refine aE (az _ (kt (e.out.base+(e.out.text.length:Int)))) [] ?_
 refine qG ?_
 refine qD [0,1,2,3,7,8,4,5,6,9,10,11,12,13,14] ?_
 refine aE (az _ w13) [] ?_
 refine aE (fg e.inp) (qI 4 1) ?_
 refine aE (az _ (show bN (nextOf e.inp) from kt _)) [] ?_
 refine qG ?_
 refine qP (qI 0 7++qI 12 1) ?_
 first|exact⟨⟩|simp [f5,Kp,Kq,aD]
theorem j6 (l:List HalfD) (r:RoadD) (hl:l.length<=1048576):aP 236 [.sc (.sl 0 0 l.length),.ag r.cs] [some ⟨l.map HalfD.cs,8,214,false,true⟩] (.sc (.int .i64 (bV l r))) [some ⟨l.map HalfD.cs,8,214,false,true⟩]:=by
 refine qE func236 ntmps236 results236 fun E hE=>?_
 refine fJ 1 hE (fun s (k:Nat)=>s.at (qU [0,2,4,3,10,10]) [(9,.sc (.int .i64 (k:Nat)))] (s.hp)) (fun (k:Nat)=>k<=l.length/\eD (fun h:HalfD=>ew h.road r) k (l.drop k)=bV l r) (fun (k:Nat)=>l.length - k) 0 (qI 0 2) (⟨zG _,rfl⟩) fun k hk N hN=>?_
 obtain⟨hk1,hk2⟩:=hk
 refine qR ?_
 refine qB (fun h=>?_) fun h=>?_
 ·rw [jx h] at hk2
  refine qX ?_
  refine qB (fun h2=>?_) fun h2=>?_
  ·rw [mc h2,if_pos rfl] at hk2
   refine qP (qI 0 1) ?_
   first|exact⟨⟩|exact hk2
  rw [md h2,if_neg zP] at hk2
  exact qN hN (k+1) (qI 0 2) (by (try dsimp only);exact⟨zO,hk2⟩)
 rw [kF zO] at hk2
 refine qP (qI 0 1) ?_
 first|exact⟨⟩|exact hk2
theorem fN (l:List AddrD) (n:Int) (hl:l.length<=1048576):aP 153 [.sc (.sl 0 0 l.length),.sc (.int .i64 n)] [some ⟨l.map AddrD.cs,4,32,false,true⟩] (.sc (.int .i64 (bs l n))) [some ⟨l.map AddrD.cs,4,32,false,true⟩]:=by
 refine qE func153 ntmps153 results153 fun E hE=>?_
 refine fJ 1 hE (fun s (k:Nat)=>s.at (qU [0,1,4,3,10,10]) [(9,.sc (.int .i64 (k:Nat)))] (s.hp)) (fun (k:Nat)=>k<=l.length/\eD (fun a:AddrD=>a.id == n) k (l.drop k)=bs l n) (fun (k:Nat)=>l.length - k) 0 (qI 0 1) (⟨zG _,rfl⟩) fun k hk N hN=>?_
 obtain⟨hk1,hk2⟩:=hk
 refine qR ?_
 refine qB (fun h=>?_) fun h=>?_
 ·rw [jx h] at hk2
  refine qX ?_
  refine qB (fun h2=>?_) fun h2=>?_
  ·rw [if_pos (by simp [h2])] at hk2
   refine qP (qI 0 1) ?_
   first|exact⟨⟩|exact hk2
  rw [if_neg (by simp [h2])] at hk2
  exact qN hN (k+1) (qI 0 1) (by (try dsimp only);exact⟨zO,hk2⟩)
 rw [kF zO] at hk2
 refine qP (qI 0 1) ?_
 first|exact⟨⟩|exact hk2
theorem fT (e:EndD) (r:RoadD) (hl:e.subs.length<=1048576):aP 132 [.ag (e.cs 0),.ag r.cs] (e.hp false) (.sc (.int .i64 (bK e.subs r))) (e.hp false):=by
 refine qE func132 ntmps132 results132 fun E hE=>?_
 refine fJ 7 hE (fun s (k:Nat)=>s.at (qU [0,3,4,4,11,15]) [(10,.sc (.int .i64 (k:Nat)))] (s.hp)) (fun (k:Nat)=>k<=e.subs.length/\eD (fun s:SubD=>s.state != 4 && ew s.road r) k (e.subs.drop k)=bK e.subs r) (fun (k:Nat)=>e.subs.length - k) 0 (qI 0 9) (⟨zG _,rfl⟩) fun k hk N hN=>?_
 obtain⟨hk1,hk2⟩:=hk
 refine qR ?_
 refine qB (fun h=>?_) fun h=>?_
 ·rw [jx h] at hk2
  refine qX ?_
  refine qB (fun h2=>?_) fun h2=>?_
  ·refine qB (fun h3=>?_) fun h3=>?_
   ·rw [if_pos (by simp [mc h3,h2])] at hk2
    refine qP (qI 0 7) ?_
    first|exact⟨⟩|exact hk2
   rw [if_neg (by simp [md h3])] at hk2
   exact qN hN (k+1) (qI 0 9) (by (try dsimp only);exact⟨zO,hk2⟩)
  rw [if_neg (by simp [h2])] at hk2
  refine qX ?_
  exact qN hN (k+1) (qI 0 9) (by (try dsimp only);exact⟨zO,hk2⟩)
 rw [kF zO] at hk2
 refine qP (qI 0 7) ?_
 first|exact⟨⟩|exact hk2
theorem j7 (l:List HalfD) (r:RoadD) (hl:l.length<=1048576):aP 280 [.sc (.sl 0 0 l.length),.ag r.cs] [some ⟨l.map HalfD.cs,8,214,false,true⟩] (.sc (.int .i64 (bV l r))) [some ⟨l.map HalfD.cs,8,214,false,true⟩]:=by
 refine qE func280 ntmps280 results280 fun E hE=>?_
 refine fJ 1 hE (fun s (k:Nat)=>s.at (qU [1,1,4,1,6,14]) [(5,.sc (.int .i64 (k:Nat)))] (s.hp)) (fun (k:Nat)=>k<=l.length/\eD (fun h:HalfD=>ew h.road r) k (l.drop k)=bV l r) (fun (k:Nat)=>l.length - k) 0 (qI 0 2) (⟨zG _,rfl⟩) fun k hk N hN=>?_
 obtain⟨hk1,hk2⟩:=hk
 refine qR ?_
 refine qB (fun h=>?_) fun h=>?_
 ·rw [jx h] at hk2
  refine qD [0,1,2,3,4,5,6] ?_
  refine qG ?_
  refine qB (fun h2=>?_) fun h2=>?_
  ·rw [mc h2,if_pos rfl] at hk2
   refine qP (qI 0 1) ?_
   first|exact⟨⟩|exact hk2
  rw [md h2,if_neg zP] at hk2
  exact qN hN (k+1) (qI 0 2) (by (try dsimp only);exact⟨zO,hk2⟩)
 rw [kF zO] at hk2
 refine qP (qI 0 1) ?_
 first|exact⟨⟩|exact hk2
theorem eF (l:List AddrD) (n:Int) (hl:l.length<=1048576):aP 204 [.sc (.sl 0 0 l.length),.sc (.int .i64 n)] [some ⟨l.map AddrD.cs,4,32,false,true⟩] (.sc (.int .i64 (bs l n))) [some ⟨l.map AddrD.cs,4,32,false,true⟩]:=by
 refine qE func204 ntmps204 results204 fun E hE=>?_
 refine fJ 1 hE (fun s (k:Nat)=>s.at (qU [4,1,6,14]) [(5,.sc (.int .i64 (k:Nat)))] (s.hp)) (fun (k:Nat)=>k<=l.length/\eD (fun a:AddrD=>a.id == n) k (l.drop k)=bs l n) (fun (k:Nat)=>l.length - k) 0 (qI 0 1) (⟨zG _,rfl⟩) fun k hk N hN=>?_
 obtain⟨hk1,hk2⟩:=hk
 refine qR ?_
 refine qB (fun h=>?_) fun h=>?_
 ·rw [jx h] at hk2
  refine qX ?_
  refine qB (fun h2=>?_) fun h2=>?_
  ·rw [if_pos (by simp [h2])] at hk2
   refine qP (qI 0 1) ?_
   first|exact⟨⟩|exact hk2
  rw [if_neg (by simp [h2])] at hk2
  exact qN hN (k+1) (qI 0 1) (by (try dsimp only);exact⟨zO,hk2⟩)
 rw [kF zO] at hk2
 refine qP (qI 0 1) ?_
 first|exact⟨⟩|exact hk2
theorem fU (e:EndD) (r:RoadD) (hl:e.subs.length<=1048576):aP 209 [.ag (e.cs 0),.ag r.cs] (e.hp false) (.sc (.int .i64 (bK e.subs r))) (e.hp false):=by
 refine qE func209 ntmps209 results209 fun E hE=>?_
 refine fJ 7 hE (fun s (k:Nat)=>s.at (qU [0,2,4,1,6,25]) [(5,.sc (.int .i64 (k:Nat)))] (s.hp)) (fun (k:Nat)=>k<=e.subs.length/\eD (fun s:SubD=>s.state != 4 && ew s.road r) k (e.subs.drop k)=bK e.subs r) (fun (k:Nat)=>e.subs.length - k) 0 (qI 0 9) (⟨zG _,rfl⟩) fun k hk N hN=>?_
 obtain⟨hk1,hk2⟩:=hk
 refine qR ?_
 refine qB (fun h=>?_) fun h=>?_
 ·rw [jx h] at hk2
  refine qD [0,1,2,3,4,5,6,7,8,9,10,11,12,13,14,15,16] ?_
  refine qB (fun h2=>?_) fun h2=>?_
  ·refine qG ?_
   refine qB (fun h3=>?_) fun h3=>?_
   ·rw [if_pos (by simp [mc h2,h3])] at hk2
    refine qP (qI 0 7) ?_
    first|exact⟨⟩|exact hk2
   rw [if_neg (by simp [h3])] at hk2
   exact qN hN (k+1) (qI 0 9) (by (try dsimp only);exact⟨zO,hk2⟩)
  rw [if_neg (by simp [md h2])] at hk2
  refine qG ?_
  exact qN hN (k+1) (qI 0 9) (by (try dsimp only);exact⟨zO,hk2⟩)
 rw [kF zO] at hk2
 refine qP (qI 0 7) ?_
 first|exact⟨⟩|exact hk2
theorem iY (r:RoadD):aP 188 [.ag r.cs] [] (.sc (.bo (oh r))) []:=by
 refine qE func188 ntmps188 results188 fun E hE=>?_
 refine qK (cI [r.own,r.far,r.port] zP) (qI 1 1) ?_
 refine qP [] ?_
 first|exact⟨⟩|simp [oh,Bool.and_assoc]
theorem kw (r:RoadD):aP 255 [.ag r.cs] [] (.sc (.bo (oh r))) []:=by
 refine qE func255 ntmps255 results255 fun E hE=>?_
 refine qK (aT _) [] ?_
 refine qB (fun h1=>?_) fun h1=>?_
 ·refine qK (aT _) [] ?_
  refine qB (fun h2=>?_) fun h2=>?_
  ·refine qK (aT _) [] ?_
   refine qJ [] ?_
   simp [oh,h1,h2]
  refine qJ [] ?_
  simp [oh,h1,h2]
 refine qJ [] ?_
 simp [oh,h1]
theorem kW (x:OutD):aP 185 [.ag x.cs] [] (.sc (.bo (outOk x))) []:=by
 refine qE func185 ntmps185 results185 fun E hE=>?_
 refine qK (cI [x.base] zP) (qI 1 1) ?_
 have e1:[x.base].all fv=fv x.base:=by simp
 rw [e1]
 refine qX ?_
 refine qB (fun h1=>?_) fun h1=>?_
 ·refine qK (aS _ _ _) [] ?_
  refine qB (fun h2=>?_) fun h2=>?_
  ·refine qB (fun h3=>?_) fun h3=>?_
   ·refine qK (aS _ _ _) [] ?_
    refine qJ [] ?_
    simp [outOk,h1,h2,h3]
   refine qJ [] ?_
   simp [outOk,h1,h2,h3]
  refine qJ [] ?_
  simp [outOk,h1,h2]
 refine qJ [] ?_
 simp [outOk,h1]
theorem Ci (n:Int):bU n 0 1000000000=fv n:=rfl
theorem kX (x:OutD):aP 253 [.ag x.cs] [] (.sc (.bo (outOk x))) []:=by
 refine qE func253 ntmps253 results253 fun E hE=>?_
 refine qK (aJ _ _ _) [] ?_
 rw [Ci]
 refine qB (fun h1=>?_) fun h1=>?_
 ·refine qK (aJ _ _ _) [] ?_
  refine qB (fun h2=>?_) fun h2=>?_
  ·refine qB (fun h3=>?_) fun h3=>?_
   ·refine qK (aJ _ _ _) [] ?_
    refine qJ [] ?_
    simp [outOk,h1,h2,h3]
   refine qJ [] ?_
   simp [outOk,h1,h2,h3]
  refine qJ [] ?_
  simp [outOk,h1,h2]
 refine qJ [] ?_
 simp [outOk,h1]
theorem Ei (p:PiecesD) (hl:p.list.length<=1048576):aP 237 [.ag (p.cs 0)] (p.hp false) (.sc (.int .i64 (mM p))) (p.hp false):=by
 refine qE func237 ntmps237 results237 fun E hE=>?_
 refine fJ 1 hE (fun s (x:Nat×Int)=>s.at (qU [0,2,5,5,13,9]) [(12,.sc (.int .i64 (x.1:Nat))),(3,.sc (.int .i64 x.2))] (s.hp)) (fun (x:Nat×Int)=>x.1<=p.list.length/\jy x.2 (p.list.drop x.1)=mM p) (fun (x:Nat×Int)=>p.list.length - x.1) (0,(p.ready.length:Int)) (qI 0 2) (⟨zG _,rfl⟩) fun x hx N hN=>?_
 obtain⟨k,n⟩:=x
 obtain⟨hk1,hk2⟩:=hx
 dsimp only at hk1 hk2
 refine qR ?_
 refine qB (fun h=>?_) fun h=>?_
 ·rw [u9 h] at hk2
  refine qX ?_
  exact qN hN (k+1,IntKind.i64.wrap (n+(p.list[k].text.length:Int))) (qI 0 2) (by (try dsimp only);exact⟨zO,hk2⟩)
 rw [P6 zO,jy] at hk2
 refine qP (qI 0 1) ?_
 first|exact⟨⟩|exact hk2
theorem Ej (p:PiecesD) (hl:p.list.length<=1048576):aP 281 [.ag (p.cs 0)] (p.hp false) (.sc (.int .i64 (mM p))) (p.hp false):=by
 refine qE func281 ntmps281 results281 fun E hE=>?_
 refine fJ 1 hE (fun s (x:Nat×Int)=>s.at (qU [0,1,5,19]) [(4,.sc (.int .i64 (x.1:Nat))),(3,.sc (.int .i64 x.2))] (s.hp)) (fun (x:Nat×Int)=>x.1<=p.list.length/\jy x.2 (p.list.drop x.1)=mM p) (fun (x:Nat×Int)=>p.list.length - x.1) (0,(p.ready.length:Int)) (qI 0 2) (⟨zG _,rfl⟩) fun x hx N hN=>?_
 obtain⟨k,n⟩:=x
 obtain⟨hk1,hk2⟩:=hx
 dsimp only at hk1 hk2
 refine qR ?_
 refine qB (fun h=>?_) fun h=>?_
 ·rw [u9 h] at hk2
  refine qX ?_
  exact qN hN (k+1,IntKind.i64.wrap (n+(p.list[k].text.length:Int))) (qI 0 2) (by (try dsimp only);exact⟨zO,hk2⟩)
 rw [P6 zO,jy] at hk2
 refine qP (qI 0 1) ?_
 first|exact⟨⟩|exact hk2
theorem jQ (b:BucketD):aP 126 [.ag b.cs] [] (.sc (.bo (bucketOk b))) []:=by
 refine qE func126 ntmps126 results126 fun E hE=>?_
 refine qK (aS _ _ _) [] ?_
 refine qB (fun h1=>?_) fun h1=>?_
 ·refine qK (aS _ _ _) [] ?_
  refine qB (fun h2=>?_) fun h2=>?_
  ·refine qK (aS _ _ _) [] ?_
   refine qJ [] ?_
   simp [bucketOk,h1,h2]
  refine qJ [] ?_
  simp [bucketOk,h1,h2]
 refine qJ [] ?_
 simp [bucketOk,h1]
theorem jR (b:BucketD):aP 206 [.ag b.cs] [] (.sc (.bo (bucketOk b))) []:=by
 refine qE func206 ntmps206 results206 fun E hE=>?_
 refine qK (aJ _ _ _) [] ?_
 refine qB (fun h1=>?_) fun h1=>?_
 ·refine qK (aJ _ _ _) [] ?_
  refine qB (fun h2=>?_) fun h2=>?_
  ·refine qK (aJ _ _ _) [] ?_
   refine qJ [] ?_
   simp [bucketOk,h1,h2]
  refine qJ [] ?_
  simp [bucketOk,h1,h2]
 refine qJ [] ?_
 simp [bucketOk,h1]
theorem xK (r b:Int):aP 81 [.sc (.int .i64 r),.sc (.int .i64 b)] [] (.tu [.ag (BucketD.cs (if bucketOk ⟨r,b,b⟩ then⟨r,b,b⟩ else⟨0,0,0⟩)),.sc (.bo (bucketOk ⟨r,b,b⟩))]) []:=by
 obtain⟨R,hR⟩:∃ R,R=(if bucketOk ⟨r,b,b⟩ then (⟨r,b,b⟩:BucketD) else⟨0,0,0⟩):=⟨_,rfl⟩
 rw [<-hR]
 refine qE func81 ntmps81 results81 fun E hE=>?_
 refine qK (jQ ⟨r,b,b⟩) [] ?_
 refine qB (fun h1=>?_) fun h1=>?_
 ·rw [h1,if_neg zP] at hR
  subst hR
  refine qP [] ?_
  first|exact⟨⟩|exact⟨⟨rfl,rfl,rfl⟩,h1⟩
 rw [h1,if_pos rfl] at hR
 subst hR
 refine qP [] ?_
 first|exact⟨⟩|exact⟨⟨rfl,rfl,rfl⟩,h1⟩
theorem eg {p:Nat->Bool} {k:Nat} (h:∀ j,j < k->p j=true) (hk:p k=true):∀ j,j < k+1->p j=true:=by
 intro j hj
 rcases (by omega:j < k\/j=k) with h1|rfl
 ·exact h j h1
 exact hk
theorem pQ {α:Type} {p:α->Bool} {l:List α} {i k:Nat} (h:i < k) (hk:k<=l.length):(((l.take k).drop i).all p)=(p (l[i]' zO) && ((l.take k).drop (i+1)).all p):=by
 have hl:i < (l.take k).length:=by simp;omega
 rw [Km hl,List.getElem_take]
theorem kx (l:List AddrD) (hl:l.length<=1048577):aP 80 [.sc (.sl 0 0 l.length)] [some ⟨l.map AddrD.cs,4,32,false,true⟩] (.sc (.bo (cd l))) [some ⟨l.map AddrD.cs,4,32,false,true⟩]:=by
 refine qE func80 ntmps80 results80 fun E hE=>?_
 refine qB (fun g1=>?_) fun g1=>?_
 ·have hr:cd l=false:=by simp [cd];omega
  rw [hr]
  exact qF (qI 0 1)
 have hr:cd l=gw (ig l) l.length:=by simp [cd];omega
 rw [hr]
 refine qX ?_
 refine fJ 1 hE (fun s (k:Nat)=>s.at (qU [2,3,6,4,13,44]) [(12,.sc (.int .i64 (k:Nat)))] (s.hp)) (fun (k:Nat)=>k<=l.length/\∀ j,j < k->ig l j=true) (fun (k:Nat)=>l.length - k) 0 (qI 0 1) (⟨zG _,fun j hj=>absurd hj (Qk _)⟩) fun k hk N hN=>?_
 obtain⟨hk1,hk2⟩:=hk
 refine qR ?_
 refine qB (fun h=>?_) fun h=>?_
 ·have hA:=lU h
  obtain⟨a,ha⟩:∃ a,a=l[k]:=⟨_,rfl⟩
  refine qX ?_
  refine qD [0,1,2,3,4,5,6,7,8,9,10,11,12,13,14,15,16,17,18,19,20,21,22,23,24] ?_
  refine aE (aS _ _ _) [] ?_
  refine qB (fun h2=>?_) fun h2=>?_
  ·refine aE (aS _ _ _) [] ?_
   refine qB (fun h3=>?_) fun h3=>?_
   ·by_cases h0:k=0
    ·subst h0
     refine qX ?_
     refine qG ?_
     refine fJ 1 hE (fun s (i:Nat)=>s.at (qU [2,1,6,4,14,27,42,2,47,10]) [(46,.sc (.int .i64 (i:Nat)))] (s.hp)) (fun (i:Nat)=>i<=0) (fun (i:Nat)=>0 - i) 0 (qI 0 2) (zG _) fun i hi N2 hN2=>?_
     refine ab 400 ?_
     have e:i=0:=zO
     subst e
     refine qX ?_
     have hg:ig l 0=true:=by
      rw [ig,hA]
      simp [h2,h3]
     exact qN hN (0+1) (qI 0 1) (by (try dsimp only);exact⟨zO,eg hk2 hg⟩)
    have hk':k - 1 < l.length:=zO
    have hA':=lU hk'
    obtain⟨m,rfl⟩:∃ m,k=m+1:=⟨k - 1,zO⟩
    have em:m+1 - 1=m:=zO
    have em2:((m+1:Nat):Int) - 1=(m:Int):=zO
    have em3:(m:Int)+1 - 1=(m:Int):=zO
    have hm:m < l.length:=zO
    try simp (disch:=omega) only [go_sem,seval,em2,em3,aC hm]
    refine⟨by (try simp (disch:=omega) only [go_sem,P_,seval,em2,em3])<;>omega,ab 400 ?_⟩
    refine qX ?_
    refine qB (fun h5=>?_) fun h5=>?_
    ·have hb:ig l (m+1)=false:=by
      rw [ig,hA,hA']
      simp
      omega
     rw [aA h hb]
     exact qF (qI 0 1)
    have h5':l[m].id < l[m+1].id:=zO
    refine fJ 1 hE (fun s (i:Nat)=>s.at (qU [2,1,6,4,14,27,42,2,47,10]) [(46,.sc (.int .i64 (i:Nat)))] (s.hp)) (fun (i:Nat)=>i<=m+1/\((l.take (m+1)).drop i).all (fun b=> !(l[m+1].addr == b.addr))=(l.take (m+1)).all (fun b=> !(l[m+1].addr == b.addr))) (fun (i:Nat)=>m+1 - i) 0 (qI 0 2) (⟨zG _,rfl⟩) fun i hi N2 hN2=>?_
    obtain⟨hi1,hi2⟩:=hi
    refine qR ?_
    refine qB (fun h6=>?_) fun h6=>?_
    ·rw [pQ zO zO] at hi2
     have hil:i < l.length:=zO
     try simp (disch:=omega) only [go_sem,seval,aC hil]
     refine qB (fun h7=>?_) fun h7=>?_
     ·have hb:ig l (m+1)=false:=by
       rw [ig,hA,<-hi2]
       simp [h7]
      rw [aA h hb]
      exact qF (qI 0 1)
     have h7':¬ l[m+1].addr=l[i].addr:=fun e=>h7 (by first|exact e|exact e.symm)
     rw [show (!(l[m+1].addr == l[i].addr))=true from by simp [h7'],Qu] at hi2
     exact qN hN2 (i+1) (qI 0 2) (by (try dsimp only);exact⟨zO,hi2⟩)
    rw [P6 zS,QA] at hi2
    have hg:ig l (m+1)=true:=by
     rw [ig,hA,<-hi2]
     simp [h2,h3,lU hm,h5']
    exact qN hN (m+1+1) (qI 0 1) (by (try dsimp only);exact⟨zO,eg hk2 hg⟩)
   have hb:ig l k=false:=by simp [ig,hA,h3]
   rw [aA h hb]
   refine qG ?_
   exact qF (qI 0 1)
  have hb:ig l k=false:=by simp [ig,hA,h2]
  rw [aA h hb]
  refine qG ?_
  exact qF (qI 0 1)
 have e:k=l.length:=zO
 subst e
 rw [dG hk2]
 exact qF (qI 0 1)
theorem mP (l:List AddrD) (hl:l.length<=1048577):aP 205 [.sc (.sl 0 0 l.length)] [some ⟨l.map AddrD.cs,4,32,false,true⟩] (.sc (.bo (cd l))) [some ⟨l.map AddrD.cs,4,32,false,true⟩]:=by
 refine qE func205 ntmps205 results205 fun E hE=>?_
 refine qB (fun g1=>?_) fun g1=>?_
 ·have hr:cd l=false:=by simp [cd];omega
  rw [hr]
  exact qF (qI 0 1)
 have hr:cd l=gw (ig l) l.length:=by simp [cd];omega
 rw [hr]
 refine qX ?_
 refine fJ 1 hE (fun s (k:Nat)=>s.at (qU [2,1,4,53]) [(3,.sc (.int .i64 (k:Nat)))] (s.hp)) (fun (k:Nat)=>k<=l.length/\∀ j,j < k->ig l j=true) (fun (k:Nat)=>l.length - k) 0 (qI 0 1) (⟨zG _,fun j hj=>absurd hj (Qk _)⟩) fun k hk N hN=>?_
 obtain⟨hk1,hk2⟩:=hk
 refine qR ?_
 refine qB (fun h=>?_) fun h=>?_
 ·have hA:=lU h
  obtain⟨a,ha⟩:∃ a,a=l[k]:=⟨_,rfl⟩
  refine qX ?_
  refine qD [0,1,2,3,4,5,6,7,8,9,10,11,12,13,14,15,16,17,18,19,20,21,22,23,24] ?_
  refine aE (aJ _ _ _) [] ?_
  refine qB (fun h2=>?_) fun h2=>?_
  ·refine aE (aJ _ _ _) [] ?_
   refine qB (fun h3=>?_) fun h3=>?_
   ·by_cases h0:k=0
    ·subst h0
     refine qX ?_
     refine qG ?_
     refine fJ 1 hE (fun s (i:Nat)=>s.at (qU [2,1,6,6,13,30,44,13]) [(5,.sc (.int .i64 (i:Nat)))] (s.hp)) (fun (i:Nat)=>i<=0) (fun (i:Nat)=>0 - i) 0 (qI 0 2) (zG _) fun i hi N2 hN2=>?_
     refine ab 400 ?_
     have e:i=0:=zO
     subst e
     refine qX ?_
     have hg:ig l 0=true:=by
      rw [ig,hA]
      simp [h2,h3]
     exact qN hN (0+1) (qI 0 1) (by (try dsimp only);exact⟨zO,eg hk2 hg⟩)
    have hk':k - 1 < l.length:=zO
    have hA':=lU hk'
    obtain⟨m,rfl⟩:∃ m,k=m+1:=⟨k - 1,zO⟩
    have em:m+1 - 1=m:=zO
    have em2:((m+1:Nat):Int) - 1=(m:Int):=zO
    have em3:(m:Int)+1 - 1=(m:Int):=zO
    have hm:m < l.length:=zO
    try simp (disch:=omega) only [go_sem,seval,em2,em3,aC hm]
    refine⟨by (try simp (disch:=omega) only [go_sem,P_,seval,em2,em3])<;>omega,ab 400 ?_⟩
    refine qX ?_
    refine qB (fun h5=>?_) fun h5=>?_
    ·have hb:ig l (m+1)=false:=by
      rw [ig,hA,hA']
      simp
      omega
     rw [aA h hb]
     exact qF (qI 0 1)
    have h5':l[m].id < l[m+1].id:=zO
    refine fJ 1 hE (fun s (i:Nat)=>s.at (qU [2,1,6,6,13,30,44,13]) [(5,.sc (.int .i64 (i:Nat)))] (s.hp)) (fun (i:Nat)=>i<=m+1/\((l.take (m+1)).drop i).all (fun b=> !(l[m+1].addr == b.addr))=(l.take (m+1)).all (fun b=> !(l[m+1].addr == b.addr))) (fun (i:Nat)=>m+1 - i) 0 (qI 0 2) (⟨zG _,rfl⟩) fun i hi N2 hN2=>?_
    obtain⟨hi1,hi2⟩:=hi
    refine qR ?_
    refine qB (fun h6=>?_) fun h6=>?_
    ·rw [pQ zO zO] at hi2
     have hil:i < l.length:=zO
     try simp (disch:=omega) only [go_sem,seval,aC hil]
     refine qD [0,1,2,3,4,5,6,7] ?_
     refine qG ?_
     refine qB (fun h7=>?_) fun h7=>?_
     ·have hb:ig l (m+1)=false:=by
       rw [ig,hA,<-hi2]
       simp [h7]
      rw [aA h hb]
      exact qF (qI 0 1)
     have h7':¬ l[m+1].addr=l[i].addr:=fun e=>h7 (by first|exact e|exact e.symm)
     rw [show (!(l[m+1].addr == l[i].addr))=true from by simp [h7'],Qu] at hi2
     exact qN hN2 (i+1) (qI 0 2) (by (try dsimp only);exact⟨zO,hi2⟩)
    rw [P6 zS,QA] at hi2
    have hg:ig l (m+1)=true:=by
     rw [ig,hA,<-hi2]
     simp [h2,h3,lU hm,h5']
    exact qN hN (m+1+1) (qI 0 1) (by (try dsimp only);exact⟨zO,eg hk2 hg⟩)
   have hb:ig l k=false:=by simp [ig,hA,h3]
   rw [aA h hb]
   refine qG ?_
   exact qF (qI 0 1)
  have hb:ig l k=false:=by simp [ig,hA,h2]
  rw [aA h hb]
  refine qG ?_
  exact qF (qI 0 1)
 have e:k=l.length:=zO
 subst e
 rw [dG hk2]
 exact qF (qI 0 1)
theorem sr (l:List HalfD) (hl:l.length<=1048576):aP 184 [.sc (.sl 0 0 l.length)] [some ⟨l.map HalfD.cs,8,214,false,true⟩] (.sc (.bo (dx l))) [some ⟨l.map HalfD.cs,8,214,false,true⟩]:=by
 refine qE func184 ntmps184 results184 fun E hE=>?_
 refine qB (fun g1=>?_) fun g1=>?_
 ·have hr:dx l=false:=by simp [dx];omega
  rw [hr]
  exact qF (qI 0 1)
 have hr:dx l=gw (ii l) l.length:=by simp [dx];omega
 rw [hr]
 refine qX ?_
 refine fJ 1 hE (fun s (k:Nat)=>s.at (qU [2,6,11,32]) [(10,.sc (.int .i64 (k:Nat)))] (s.hp)) (fun (k:Nat)=>k<=l.length/\∀ j,j < k->ii l j=true) (fun (k:Nat)=>l.length - k) 0 (qI 0 1) (⟨zG _,fun j hj=>absurd hj (Qk _)⟩) fun k hk N hN=>?_
 obtain⟨hk1,hk2⟩:=hk
 refine qR ?_
 refine qB (fun h=>?_) fun h=>?_
 ·have hA:=xE h
  refine qX ?_
  refine qK (j6 l l[k].road hl) (qI 0 1) ?_
  refine qB (fun h2=>?_) fun h2=>?_
  ·refine qK (iY l[k].road) [] ?_
   refine qB (fun h3=>?_) fun h3=>?_
   ·refine qK (cI [l[k].theirs,l[k].mine,l[k].give,l[k].take,l[k].till] zP) (qI 2 1) ?_
    generalize hq:[l[k].theirs,l[k].mine,l[k].give,l[k].take,l[k].till].all fv=q
    refine qB (fun h4=>?_) fun h4=>?_
    ·have hb:ii l k=false:=by simp [ii,hA,hq,h4]
     rw [aA h hb]
     exact qF (qI 0 1)
    have hg:ii l k=true:=by simp [ii,hA,hq,h4,h2,h3]
    exact qN hN (k+1) (qI 0 1) (by (try dsimp only);exact⟨zO,eg hk2 hg⟩)
   have hb:ii l k=false:=by simp [ii,hA,h3]
   rw [aA h hb]
   exact qF (qI 0 1)
  have hb:ii l k=false:=by simp [ii,hA,h2]
  rw [aA h hb]
  exact qF (qI 0 1)
 have e:k=l.length:=zO
 subst e
 rw [dG hk2]
 exact qF (qI 0 1)
theorem ss (l:List HalfD) (hl:l.length<=1048576):aP 252 [.sc (.sl 0 0 l.length)] [some ⟨l.map HalfD.cs,8,214,false,true⟩] (.sc (.bo (dx l))) [some ⟨l.map HalfD.cs,8,214,false,true⟩]:=by
 refine qE func252 ntmps252 results252 fun E hE=>?_
 refine qB (fun g1=>?_) fun g1=>?_
 ·have hr:dx l=false:=by simp [dx];omega
  rw [hr]
  exact qF (qI 0 1)
 have hr:dx l=gw (ii l) l.length:=by simp [dx];omega
 rw [hr]
 refine qX ?_
 refine fJ 1 hE (fun s (k:Nat)=>s.at (qU [2,1,4,56]) [(3,.sc (.int .i64 (k:Nat)))] (s.hp)) (fun (k:Nat)=>k<=l.length/\∀ j,j < k->ii l j=true) (fun (k:Nat)=>l.length - k) 0 (qI 0 1) (⟨zG _,fun j hj=>absurd hj (Qk _)⟩) fun k hk N hN=>?_
 obtain⟨hk1,hk2⟩:=hk
 refine qR ?_
 refine qB (fun h=>?_) fun h=>?_
 ·have hA:=xE h
  refine qX ?_
  refine qK (kw l[k].road) [] ?_
  refine qB (fun h2=>?_) fun h2=>?_
  ·skip
   refine qK (aT l[k].theirs) [] ?_
   refine qB (fun n0=>?_) fun n0=>?_
   ·skip
    refine qK (aT l[k].mine) [] ?_
    refine qB (fun n1=>?_) fun n1=>?_
    ·skip
     refine qK (aT l[k].give) [] ?_
     refine qB (fun n2=>?_) fun n2=>?_
     ·skip
      refine qK (aT l[k].take) [] ?_
      refine qB (fun n3=>?_) fun n3=>?_
      ·skip
       refine qK (aT l[k].till) [] ?_
       refine qB (fun n4=>?_) fun n4=>?_
       ·skip
        refine qK (j7 l l[k].road hl) (qI 0 1) ?_
        refine qB (fun h4=>?_) fun h4=>?_
        ·have hb:ii l k=false:=by simp [ii,hA,h4]
         rw [aA h hb]
         exact qF (qI 0 1)
        have hg:ii l k=true:=by simp [ii,hA,h2,h4,n0,n1,n2,n3,n4]
        exact qN hN (k+1) (qI 0 1) (by (try dsimp only);exact⟨zO,eg hk2 hg⟩)
       have hb:ii l k=false:=by simp [ii,hA,n4]
       rw [aA h hb]
       exact qF (qI 0 1)
      have hb:ii l k=false:=by simp [ii,hA,n3]
      rw [aA h hb]
      exact qF (qI 0 1)
     have hb:ii l k=false:=by simp [ii,hA,n2]
     rw [aA h hb]
     exact qF (qI 0 1)
    have hb:ii l k=false:=by simp [ii,hA,n1]
    rw [aA h hb]
    exact qF (qI 0 1)
   have hb:ii l k=false:=by simp [ii,hA,n0]
   rw [aA h hb]
   exact qF (qI 0 1)
  have hb:ii l k=false:=by simp [ii,hA,h2]
  rw [aA h hb]
  exact qF (qI 0 1)
 have e:k=l.length:=zO
 subst e
 rw [dG hk2]
 exact qF (qI 0 1)
theorem pE {l:List Int} {k:Nat} (h:k < l.length):l.getD k 0=l[k]:=by
 rw [P9,Qe h];rfl
theorem cJ (p:PiecesD) (hl:p.list.length<=1048576):aP 186 [.ag (p.cs 0)] (p.hp false) (.sc (.bo (piecesOk p))) (p.hp false):=by
 refine qE func186 ntmps186 results186 fun E hE=>?_
 refine qK (cI [p.read] zP) (qI 2 1) ?_
 have e1:[p.read].all fv=fv p.read:=by simp
 rw [e1]
 refine qX ?_
 refine qB (fun g1=>?_) fun g1=>?_
 ·skip
  refine qB (fun g2=>?_) fun g2=>?_
  ·skip
   have hr:piecesOk p=false:=by simp [piecesOk,g2];try omega
   rw [hr]
   exact qF (qI 0 1)
  skip
  refine qK (j5 p) (qI 0 1) ?_
  refine fJ 1 hE (fun s (x:Nat×Int)=>s.at (qU [0,1,2,1,5,15,23,24]) [(22,.sc (.int .i64 (x.1:Nat))),(3,.sc (.int .i64 x.2))] (s.hp)) (fun (x:Nat×Int)=>x.1<=p.list.length/\jA x.2 (p.list.drop x.1)=jA (nextOf p) p.list) (fun (x:Nat×Int)=>p.list.length - x.1) (0,nextOf p) (qI 0 3) (⟨zG _,rfl⟩) fun x hx N hN=>?_
  obtain⟨k,en⟩:=x
  obtain⟨hk1,hk2⟩:=hx
  dsimp only at hk1 hk2
  refine qR ?_
  refine qB (fun h=>?_) fun h=>?_
  ·refine qX ?_
   have fx:jA en (p.list.drop k)=(!(p.list[k].text == []) && decide (p.list[k].pos<=2000000000) && decide (en < p.list[k].pos) && jA (IntKind.i64.wrap (p.list[k].pos+(p.list[k].text.length:Int))) (p.list.drop (k+1))):=Ba h
   have ft:(p.list[k].text == [])=decide ((p.list[k].text.length:Int)=0):=by
    cases p.list[k].text with
    |nil=>rfl
    |cons a r=>simp;omega
   by_cases t1:(p.list[k].text.length:Int)=0
   ·have ft':(p.list[k].text == [])=true:=by rw [ft];exact decide_eq_true t1
    have fx':jA en (p.list.drop k)=false:=by rw [fx,ft'];simp
    try simp (disch:=omega) only [go_sem,seval,ft']
    have hr:piecesOk p=false:=by simp [piecesOk,<-hk2,fx']
    rw [hr]
    exact qF (qI 0 1)
   have ft':(p.list[k].text == [])=false:=by rw [ft];exact decide_eq_false t1
   by_cases t2:p.list[k].pos<=2000000000
   ·by_cases t3:en < p.list[k].pos
    ·have fx':jA en (p.list.drop k)=jA (IntKind.i64.wrap (p.list[k].pos+(p.list[k].text.length:Int))) (p.list.drop (k+1)):=by rw [fx,ft'];simp [t2,t3]
     try simp (disch:=omega) only [go_sem,seval,ft']
     rw [fx'] at hk2
     refine qX ?_
     exact qN hN (k+1,IntKind.i64.wrap (p.list[k].pos+(p.list[k].text.length:Int))) (qI 0 3) (by (try dsimp only);exact⟨zO,hk2⟩)
    have fx':jA en (p.list.drop k)=false:=by rw [fx,ft'];simp [t3]
    try simp (disch:=omega) only [go_sem,seval,ft']
    have hr:piecesOk p=false:=by simp [piecesOk,<-hk2,fx']
    rw [hr]
    exact qF (qI 0 1)
   have fx':jA en (p.list.drop k)=false:=by rw [fx,ft'];simp [t2]
   by_cases t3:en < p.list[k].pos
   ·try simp (disch:=omega) only [go_sem,seval,ft']
    have hr:piecesOk p=false:=by simp [piecesOk,<-hk2,fx']
    rw [hr]
    exact qF (qI 0 1)
   try simp (disch:=omega) only [go_sem,seval,ft']
   have hr:piecesOk p=false:=by simp [piecesOk,<-hk2,fx']
   rw [hr]
   exact qF (qI 0 1)
  rw [P6 zO,jA] at hk2
  have g2':(p.list.length:Int)<=20:=zO
  have hr:piecesOk p=decide (mM p<=200):=by simp [piecesOk,<-hk2,g1,g2']
  rw [hr]
  refine qX ?_
  refine qK (Ei p hl) (qI 0 1) ?_
  exact qF (qI 0 1)
 skip
 have hr:piecesOk p=false:=by simp [piecesOk,g1];try omega
 rw [hr]
 exact qF (qI 0 1)
theorem cK (p:PiecesD) (hl:p.list.length<=1048576):aP 254 [.ag (p.cs 0)] (p.hp false) (.sc (.bo (piecesOk p))) (p.hp false):=by
 refine qE func254 ntmps254 results254 fun E hE=>?_
 refine qK (aJ _ _ _) [] ?_
 rw [Ci]
 refine qB (fun g1=>?_) fun g1=>?_
 ·skip
  refine qB (fun g2=>?_) fun g2=>?_
  ·skip
   refine qK (Ej p hl) (qI 0 1) ?_
   refine qB (fun g3=>?_) fun g3=>?_
   ·skip
    have hr:piecesOk p=false:=by simp [piecesOk,g3];try omega
    rw [hr]
    exact qF (qI 0 1)
   skip
   refine qK (fg p) (qI 0 1) ?_
   refine fJ 1 hE (fun s (x:Nat×Int)=>s.at (qU [0,1,2,1,5,51]) [(4,.sc (.int .i64 (x.1:Nat))),(3,.sc (.int .i64 x.2))] (s.hp)) (fun (x:Nat×Int)=>x.1<=p.list.length/\jA x.2 (p.list.drop x.1)=jA (nextOf p) p.list) (fun (x:Nat×Int)=>p.list.length - x.1) (0,nextOf p) (qI 0 2) (⟨zG _,rfl⟩) fun x hx N hN=>?_
   obtain⟨k,en⟩:=x
   obtain⟨hk1,hk2⟩:=hx
   dsimp only at hk1 hk2
   refine qR ?_
   refine qB (fun h=>?_) fun h=>?_
   ·refine qX ?_
    have fx:jA en (p.list.drop k)=(!(p.list[k].text == []) && decide (p.list[k].pos<=2000000000) && decide (en < p.list[k].pos) && jA (IntKind.i64.wrap (p.list[k].pos+(p.list[k].text.length:Int))) (p.list.drop (k+1))):=Ba h
    have ft:(p.list[k].text == [])=decide ((p.list[k].text.length:Int)=0):=by
     cases p.list[k].text with
     |nil=>rfl
     |cons a r=>simp;omega
    by_cases t1:(p.list[k].text.length:Int)=0
    ·have ft':(p.list[k].text == [])=true:=by rw [ft];exact decide_eq_true t1
     have fx':jA en (p.list.drop k)=false:=by rw [fx,ft'];simp
     try simp (disch:=omega) only [go_sem,seval,ft']
     have hr:piecesOk p=false:=by simp [piecesOk,<-hk2,fx']
     rw [hr]
     exact qF (qI 0 1)
    have ft':(p.list[k].text == [])=false:=by rw [ft];exact decide_eq_false t1
    by_cases t2:p.list[k].pos<=2000000000
    ·by_cases t3:en < p.list[k].pos
     ·have fx':jA en (p.list.drop k)=jA (IntKind.i64.wrap (p.list[k].pos+(p.list[k].text.length:Int))) (p.list.drop (k+1)):=by rw [fx,ft'];simp [t2,t3]
      try simp (disch:=omega) only [go_sem,seval,ft']
      rw [fx'] at hk2
      refine qX ?_
      exact qN hN (k+1,IntKind.i64.wrap (p.list[k].pos+(p.list[k].text.length:Int))) (qI 0 2) (by (try dsimp only);exact⟨zO,hk2⟩)
     have fx':jA en (p.list.drop k)=false:=by rw [fx,ft'];simp [t3]
     try simp (disch:=omega) only [go_sem,seval,ft']
     have hr:piecesOk p=false:=by simp [piecesOk,<-hk2,fx']
     rw [hr]
     exact qF (qI 0 1)
    have fx':jA en (p.list.drop k)=false:=by rw [fx,ft'];simp [t2]
    by_cases t3:en < p.list[k].pos
    ·try simp (disch:=omega) only [go_sem,seval,ft']
     have hr:piecesOk p=false:=by simp [piecesOk,<-hk2,fx']
     rw [hr]
     exact qF (qI 0 1)
    try simp (disch:=omega) only [go_sem,seval,ft']
    have hr:piecesOk p=false:=by simp [piecesOk,<-hk2,fx']
    rw [hr]
    exact qF (qI 0 1)
   rw [P6 zO,jA] at hk2
   have g2':(p.list.length:Int)<=20:=zO
   have g3':mM p<=200:=zO
   have hr:piecesOk p=true:=by simp [piecesOk,<-hk2,g1,g2',g3']
   rw [hr]
   exact qF (qI 0 1)
  skip
  have hr:piecesOk p=false:=by simp [piecesOk,g2];try omega
  rw [hr]
  exact qF (qI 0 1)
 skip
 have hr:piecesOk p=false:=by simp [piecesOk,g1];try omega
 rw [hr]
 exact qF (qI 0 1)
theorem Ek (l:List Int) (hl:l.length<=1048576):aP 238 [.sc (.sl 0 0 l.length)] [some ⟨l.map bh,1,3,false,true⟩] (.sc (.bo (gw (dQ l) l.length))) [some ⟨l.map bh,1,3,false,true⟩]:=by
 refine qE func238 ntmps238 results238 fun E hE=>?_
 refine fJ 1 hE (fun s (k:Nat)=>s.at (qU [2,1,4,16]) [(3,.sc (.int .i64 (k:Nat)))] (s.hp)) (fun (k:Nat)=>1<=k/\(k<=l.length\/k=1)/\∀ j,j < k->dQ l j=true) (fun (k:Nat)=>l.length - k) 1 (qI 0 1) (⟨by decide,.inr rfl,fun j hj=>by rw [show j=0 from by omega];rfl⟩) fun k hk N hN=>?_
 obtain⟨hk0,hk1,hk2⟩:=hk
 refine qR ?_
 obtain⟨m,rfl⟩:∃ m,k=m+1:=⟨k - 1,zO⟩
 have em2:((m+1:Nat):Int) - 1=(m:Int):=zO
 have em3:(m:Int)+1 - 1=(m:Int):=zO
 refine qX ?_
 refine qB (fun h=>?_) fun h=>?_
 ·have hm:m < l.length:=zO
  have h':m+1 < l.length:=zO
  refine qD [0,1,2,3,4,5,6,7,8,9] ?_
  try simp (disch:=omega) only [go_sem,seval,em2,em3,aC hm,aC h']
  refine⟨by (try simp (disch:=omega) only [go_sem,P_,seval,em2,em3])<;>omega,ab 400 ?_⟩
  refine qX ?_
  refine qB (fun h3=>?_) fun h3=>?_
  ·have hb:dQ l (m+1)=false:=by
    rw [dQ,pE h',show m+1 - 1=m from rfl,pE hm]
    simp
    omega
   rw [aA h' hb]
   exact qF (qI 0 1)
  have hg:dQ l (m+1)=true:=by
   rw [dQ,pE h',show m+1 - 1=m from rfl,pE hm]
   simp
   omega
  exact qN hN (m+1+1) (qI 0 1) (by (try dsimp only);exact⟨zO,zO,eg hk2 hg⟩)
 rw [dG (fun j hj=>hk2 j zO)]
 exact qF (qI 0 1)
theorem ve (l:List Int) (m:List AddrD) (hl:l.length<=1048576) (hm:m.length<=1048576):aP 187 [.sc (.sl 0 0 l.length),.sc (.sl 1 0 m.length)] [some ⟨l.map bh,1,3,false,true⟩,some ⟨m.map AddrD.cs,4,32,false,true⟩] (.sc (.bo (pO l m))) [some ⟨l.map bh,1,3,false,true⟩,some ⟨m.map AddrD.cs,4,32,false,true⟩]:=by
 refine qE func187 ntmps187 results187 fun E hE=>?_
 refine qK (Ek l hl) (qI 0 1) ?_
 rw [pO]
 generalize gw (dQ l) l.length=q
 cases q with
 |false=>
  refine qX ?_
  exact qF (qI 0 2)
 |true=>
  rw [Qu]
  refine qX ?_
  refine fJ 2 hE (fun s (k:Nat)=>s.at (qU [0,1,4,1,6,4,13,13]) [(12,.sc (.int .i64 (k:Nat)))] (s.hp)) (fun (k:Nat)=>k<=l.length/\∀ j,j < k->iP l m j=true) (fun (k:Nat)=>l.length - k) 0 (qI 0 2) (⟨zG _,fun j hj=>absurd hj (Qk _)⟩) fun k hk N hN=>?_
  obtain⟨hk1,hk2⟩:=hk
  refine qR ?_
  refine qB (fun h=>?_) fun h=>?_
  ·refine qX ?_
   refine qK (aS _ _ _) [] ?_
   refine qB (fun h2=>?_) fun h2=>?_
   ·refine qK (fN m l[k] hm) (qI 1 1) ?_
    refine qB (fun h3=>?_) fun h3=>?_
    ·have hb:iP l m k=false:=by rw [iP,pE h];simp [h2];omega
     rw [aA h hb]
     exact qF (qI 0 2)
    have hg:iP l m k=true:=by rw [iP,pE h];simp [h2];omega
    exact qN hN (k+1) (qI 0 2) (by (try dsimp only);exact⟨zO,eg hk2 hg⟩)
   have hb:iP l m k=false:=by rw [iP,pE h];simp [h2]
   rw [aA h hb]
   exact qF (qI 0 2)
  have e:k=l.length:=zO
  subst e
  rw [dG hk2]
  exact qF (qI 0 2)
theorem vf (l:List Int) (m:List AddrD) (hl:l.length<=1048576) (hm:m.length<=1048576):aP 256 [.sc (.sl 0 0 l.length),.sc (.sl 1 0 m.length)] [some ⟨l.map bh,1,3,false,true⟩,some ⟨m.map AddrD.cs,4,32,false,true⟩] (.sc (.bo (pO l m))) [some ⟨l.map bh,1,3,false,true⟩,some ⟨m.map AddrD.cs,4,32,false,true⟩]:=by
 rw [pO,<-Kr]
 refine au func256 zXk rfl fun E hE=>ab 400 ?_
 simp (disch:=omega) only [ntmps256,results256,go_sem,Nat.reduceEqDiff,Nat.reduceAdd,Nat.reduceSub,Int.reduceAdd,Int.reduceSub,Int.reduceToNat]
 refine dI 2 hE (fun s (k:Nat)=>s.at (qU [4,1,6,37]) [(5,.sc (.int .i64 (k:Nat)))] (s.hp)) (fun (k:Nat)=>k<=l.length/\∀ j,j < k->(fun j=>dQ l j && iP l m j) j=true) (fun (k:Nat)=>l.length - k) 0 (qI 0 2) (qC) (⟨zG _,fun j hj=>absurd hj (Qk _)⟩) (aw zF zF ?_) fun k hk N hN=>?_
 ·try simp (disch:=omega) only [go_sem,Nat.reduceEqDiff,Nat.reduceAdd,Nat.reduceSub,Int.reduceAdd,Int.reduceSub,Int.reduceToNat]
 obtain⟨hk1,hk2⟩:=hk
 refine ab 400 ?_
 try simp (disch:=omega) only [go_sem,Nat.reduceEqDiff,Nat.reduceAdd,Nat.reduceSub,Int.reduceAdd,Int.reduceSub,Int.reduceToNat]
 split<;>rename_i h<;>(try simp only [zR] at h)<;>simp (disch:=omega) only [go_sem,Nat.reduceEqDiff,Nat.reduceAdd,Nat.reduceSub,Int.reduceAdd,Int.reduceSub,Int.reduceToNat,h]<;>(try simp only [zQ] at h)<;>try simp (disch:=omega) only [go_sem,Nat.reduceEqDiff,Nat.reduceAdd,Nat.reduceSub,Int.reduceAdd,Int.reduceSub,Int.reduceToNat]
 ·refine ao (qU [0,31]) zXk (qC) zXk (aa 400 ?_)
  simp (disch:=omega) only [go_sem,Nat.reduceEqDiff,Nat.reduceAdd,Nat.reduceSub,Int.reduceAdd,Int.reduceSub,Int.reduceToNat]
  refine ak (qC) (aJ _ _ _) [] qM zF zF (aa 400 ?_)
  simp (disch:=omega) only [go_sem,Nat.reduceEqDiff,Nat.reduceAdd,Nat.reduceSub,Int.reduceAdd,Int.reduceSub,Int.reduceToNat]
  split<;>rename_i h2<;>(try simp only [zR] at h2)<;>simp (disch:=omega) only [go_sem,Nat.reduceEqDiff,Nat.reduceAdd,Nat.reduceSub,Int.reduceAdd,Int.reduceSub,Int.reduceToNat,h2]<;>(try simp only [zQ] at h2)<;>try simp (disch:=omega) only [go_sem,Nat.reduceEqDiff,Nat.reduceAdd,Nat.reduceSub,Int.reduceAdd,Int.reduceSub,Int.reduceToNat]
  ·by_cases h0:k=0
   ·subst h0
    try simp (disch:=omega) only [go_sem,Nat.reduceEqDiff,Nat.reduceAdd,Nat.reduceSub,Int.reduceAdd,Int.reduceSub,Int.reduceToNat]
    refine ak (qC) (eF m l[0] hm) (qI 1 1) qM zF zF (aa 400 ?_)
    simp (disch:=omega) only [go_sem,Nat.reduceEqDiff,Nat.reduceAdd,Nat.reduceSub,Int.reduceAdd,Int.reduceSub,Int.reduceToNat]
    refine⟨qC,ab 400 ?_⟩
    try simp (disch:=omega) only [go_sem,Nat.reduceEqDiff,Nat.reduceAdd,Nat.reduceSub,Int.reduceAdd,Int.reduceSub,Int.reduceToNat]
    split<;>rename_i h3<;>(try simp only [zR] at h3)<;>simp (disch:=omega) only [go_sem,Nat.reduceEqDiff,Nat.reduceAdd,Nat.reduceSub,Int.reduceAdd,Int.reduceSub,Int.reduceToNat,h3]<;>(try simp only [zQ] at h3)<;>try simp (disch:=omega) only [go_sem,Nat.reduceEqDiff,Nat.reduceAdd,Nat.reduceSub,Int.reduceAdd,Int.reduceSub,Int.reduceToNat]
    ·have hb:(fun j=>dQ l j && iP l m j) 0=false:=by
      show (dQ l 0 && iP l m 0)=false
      rw [iP,pE h];simp [h2];intro _;omega
     rw [aA h hb]
     refine aj (qI 0 2) (qC) _ zXg zF zF ?_
     simp (disch:=omega) only [go_sem,Nat.reduceEqDiff,Nat.reduceAdd,Nat.reduceSub,Int.reduceAdd,Int.reduceSub,Int.reduceToNat]
    have hg:(fun j=>dQ l j && iP l m j) 0=true:=by
     show (dQ l 0 && iP l m 0)=true
     rw [iP,pE h,dQ];simp [h2];omega
    refine⟨qC,hN _ (0+1) (qI 0 2) (by (try dsimp only);exact⟨zO,eg hk2 hg⟩) (by (try dsimp only);omega) (aw zF zF ?_)⟩
    try simp (disch:=omega) only [go_sem,Nat.reduceEqDiff,Nat.reduceAdd,Nat.reduceSub,Int.reduceAdd,Int.reduceSub,Int.reduceToNat]
   obtain⟨n,rfl⟩:∃ n,k=n+1:=⟨k - 1,zO⟩
   have em2:((n+1:Nat):Int) - 1=(n:Int):=zO
   have em3:(n:Int)+1 - 1=(n:Int):=zO
   have hn:n < l.length:=zO
   have h':n+1 < l.length:=zO
   try simp (disch:=omega) only [go_sem,Nat.reduceEqDiff,Nat.reduceAdd,Nat.reduceSub,Int.reduceAdd,Int.reduceSub,Int.reduceToNat,em2,em3,aC hn,aC h']
   split<;>rename_i h4<;>(try simp only [zR] at h4)<;>simp (disch:=omega) only [go_sem,Nat.reduceEqDiff,Nat.reduceAdd,Nat.reduceSub,Int.reduceAdd,Int.reduceSub,Int.reduceToNat,h4]<;>(try simp only [zQ] at h4)<;>try simp (disch:=omega) only [go_sem,Nat.reduceEqDiff,Nat.reduceAdd,Nat.reduceSub,Int.reduceAdd,Int.reduceSub,Int.reduceToNat]
   ·refine ak (by (try simp (disch:=omega) only [go_sem,P_,Nat.reduceEqDiff,Nat.reduceAdd,Nat.reduceSub,Int.reduceAdd,Int.reduceSub,Int.reduceToNat,em2,em3])<;>omega) (eF m l[n+1] hm) (qI 1 1) qM zF zF (aa 400 ?_)
    simp (disch:=omega) only [go_sem,Nat.reduceEqDiff,Nat.reduceAdd,Nat.reduceSub,Int.reduceAdd,Int.reduceSub,Int.reduceToNat]
    refine⟨by (try simp (disch:=omega) only [go_sem,P_,Nat.reduceEqDiff,Nat.reduceAdd,Nat.reduceSub,Int.reduceAdd,Int.reduceSub,Int.reduceToNat,em2,em3])<;>omega,ab 400 ?_⟩
    try simp (disch:=omega) only [go_sem,Nat.reduceEqDiff,Nat.reduceAdd,Nat.reduceSub,Int.reduceAdd,Int.reduceSub,Int.reduceToNat]
    split<;>rename_i h3<;>(try simp only [zR] at h3)<;>simp (disch:=omega) only [go_sem,Nat.reduceEqDiff,Nat.reduceAdd,Nat.reduceSub,Int.reduceAdd,Int.reduceSub,Int.reduceToNat,h3]<;>(try simp only [zQ] at h3)<;>try simp (disch:=omega) only [go_sem,Nat.reduceEqDiff,Nat.reduceAdd,Nat.reduceSub,Int.reduceAdd,Int.reduceSub,Int.reduceToNat]
    ·have hb:(fun j=>dQ l j && iP l m j) (n+1)=false:=by
      show (dQ l (n+1) && iP l m (n+1))=false
      rw [iP,pE h'];simp [h2];intro _;omega
     rw [aA h' hb]
     refine aj (qI 0 2) (qC) _ zXg zF zF ?_
     simp (disch:=omega) only [go_sem,Nat.reduceEqDiff,Nat.reduceAdd,Nat.reduceSub,Int.reduceAdd,Int.reduceSub,Int.reduceToNat]
    have hg:(fun j=>dQ l j && iP l m j) (n+1)=true:=by
     show (dQ l (n+1) && iP l m (n+1))=true
     rw [iP,pE h',dQ,pE h',show n+1 - 1=n from rfl,pE hn];simp [h2];constructor<;>omega
    refine⟨qC,hN _ (n+1+1) (qI 0 2) (by (try dsimp only);exact⟨zO,eg hk2 hg⟩) (by (try dsimp only);omega) (aw zF zF ?_)⟩
    try simp (disch:=omega) only [go_sem,Nat.reduceEqDiff,Nat.reduceAdd,Nat.reduceSub,Int.reduceAdd,Int.reduceSub,Int.reduceToNat]
   have hb:(fun j=>dQ l j && iP l m j) (n+1)=false:=by
    show (dQ l (n+1) && iP l m (n+1))=false
    rw [dQ,pE h',show n+1 - 1=n from rfl,pE hn];simp;omega
   rw [aA h' hb]
   refine⟨by (try simp (disch:=omega) only [go_sem,P_,Nat.reduceEqDiff,Nat.reduceAdd,Nat.reduceSub,Int.reduceAdd,Int.reduceSub,Int.reduceToNat,em2,em3])<;>omega,ab 400 ?_⟩
   try simp (disch:=omega) only [go_sem,Nat.reduceEqDiff,Nat.reduceAdd,Nat.reduceSub,Int.reduceAdd,Int.reduceSub,Int.reduceToNat]
   refine aj (qI 0 2) (qC) _ zXg zF zF ?_
   simp (disch:=omega) only [go_sem,Nat.reduceEqDiff,Nat.reduceAdd,Nat.reduceSub,Int.reduceAdd,Int.reduceSub,Int.reduceToNat]
  have hb:(fun j=>dQ l j && iP l m j) k=false:=by
   show (dQ l k && iP l m k)=false
   rw [iP,pE h];simp [h2]
  rw [aA h hb]
  refine⟨qC,ab 400 ?_⟩
  try simp (disch:=omega) only [go_sem,Nat.reduceEqDiff,Nat.reduceAdd,Nat.reduceSub,Int.reduceAdd,Int.reduceSub,Int.reduceToNat]
  refine aj (qI 0 2) (qC) _ zXg zF zF ?_
  simp (disch:=omega) only [go_sem,Nat.reduceEqDiff,Nat.reduceAdd,Nat.reduceSub,Int.reduceAdd,Int.reduceSub,Int.reduceToNat]
 have e:k=l.length:=zO
 subst e
 rw [dG hk2]
 refine aj (qI 0 2) (qC) _ zXg zF zF ?_
 simp (disch:=omega) only [go_sem,Nat.reduceEqDiff,Nat.reduceAdd,Nat.reduceSub,Int.reduceAdd,Int.reduceSub,Int.reduceToNat]
theorem bA (e:EndD) (h0:e.own.length<=1048576) (h1:e.far.length<=1048576) (h2:e.subs.length<=1048576) (h3:e.halfs.length<=1048576) (h4:e.inp.list.length<=1048576) (h5:e.done.length<=1048576) (h6:e.over.length<=1048576):aP 130 [.ag (e.cs 0)] (e.hp false) (.sc (.bo (aq e))) (e.hp false):=by
 refine qE func130 ntmps130 results130 fun E hE=>?_
 refine qK (aS _ _ _) [] ?_
 refine qB (fun g1=>?_) fun g1=>?_
 ·skip
  refine qK (aS _ _ _) [] ?_
  refine qB (fun g2=>?_) fun g2=>?_
  ·skip
   refine qK (jM e.policy) [] ?_
   refine qB (fun g3=>?_) fun g3=>?_
   ·skip
    refine qK (kx e.own zO) (qI 0 1) ?_
    refine qB (fun g4=>?_) fun g4=>?_
    ·skip
     refine qK (kx e.far zO) (qI 1 1) ?_
     refine qB (fun g5=>?_) fun g5=>?_
     ·skip
      refine qK (sr e.halfs h3) (qI 3 1) ?_
      refine qB (fun g6=>?_) fun g6=>?_
      ·skip
       refine qK (jQ e.bucket) [] ?_
       refine qB (fun g7=>?_) fun g7=>?_
       ·skip
        refine qK (kW e.out) [] ?_
        refine qB (fun g8=>?_) fun g8=>?_
        ·skip
         refine qK (cJ e.inp h4) (qI 4 1) ?_
         refine qB (fun g9=>?_) fun g9=>?_
         ·skip
          have hr:aq e=false:=by first|(simp [aq,g9];done)|(simp [aq];intros;omega)
          rw [hr]
          exact qF (qI 0 7)
         skip
         refine qX ?_
         refine qK (ve e.done e.own h5 h0) (qI 5 1++qI 0 1) ?_
         refine qB (fun g10=>?_) fun g10=>?_
         ·skip
          refine qK (ve e.over e.far h6 h1) (qI 6 1++qI 1 1) ?_
          refine qB (fun g11=>?_) fun g11=>?_
          ·skip
           refine qB (fun g12=>?_) fun g12=>?_
           ·skip
            refine qK (cI [e.key,e.peer,e.draw,e.now,e.pick] zP) (qI 8 1) ?_
            generalize hq:[e.key,e.peer,e.draw,e.now,e.pick].all fv=q
            refine qB (fun g13=>?_) fun g13=>?_
            ·skip
             have hr:aq e=false:=by first|(simp [aq,hq,g13];done)|(simp [aq];intros;omega)
             rw [hr]
             exact qF (qI 0 7)
            skip
            refine qX ?_
            refine fJ 7 hE (fun s (k:Nat)=>s.at (qU [0,1,2,91,96,41]) [(95,.sc (.int .i64 (k:Nat)))] (s.hp)) (fun (k:Nat)=>k<=e.subs.length/\∀ j,j < k->dH e.subs j=true) (fun (k:Nat)=>e.subs.length - k) 0 (qI 0 9) (⟨zG _,fun j hj=>absurd hj (Qk _)⟩) fun k hk N hN=>?_
            obtain⟨hk1,hk2⟩:=hk
            refine qR ?_
            refine qB (fun h=>?_) fun h=>?_
            ·have hA:=eI h
             refine qX ?_
             refine qK (aS _ _ _) [] ?_
             refine qB (fun s1=>?_) fun s1=>?_
             ·skip
              refine qK (iY e.subs[k].road) [] ?_
              refine qB (fun s2=>?_) fun s2=>?_
              ·skip
               refine qK (cI [e.subs[k].mine,e.subs[k].theirs,e.subs[k].give,e.subs[k].take,e.subs[k].tries] zP) (qI 10 1) ?_
               generalize hsq:[e.subs[k].mine,e.subs[k].theirs,e.subs[k].give,e.subs[k].take,e.subs[k].tries].all fv=sq
               refine qB (fun s3=>?_) fun s3=>?_
               ·skip
                have hb:dH e.subs k=false:=by simp [dH,hA,hsq,s3]
                have hu:=aA h hb
                have hr:aq e=false:=by simp [aq,hu]
                rw [hr]
                exact qF (qI 0 7)
               skip
               refine qX ?_
               refine qB (fun s4=>?_) fun s4=>?_
               ·refine qK (fT e e.subs[k].road h2) (qI 0 7) ?_
                refine qB (fun s5=>?_) fun s5=>?_
                ·skip
                 have hb:dH e.subs k=false:=by simp [dH,hA,s1,s2,hsq,s3,s4,s5]
                 have hu:=aA h hb
                 have hr:aq e=false:=by simp [aq,hu]
                 rw [hr]
                 exact qF (qI 0 7)
                skip
                have hg:dH e.subs k=true:=by first|(simp [dH,hA,s1,s2,hsq,s3,s4,s5];done)|(simp [dH,hA,s1,s2,hsq,s3,s4,s5];decide)
                exact qN hN (k+1) (qI 0 9) (by (try dsimp only);exact⟨zO,eg hk2 hg⟩)
               skip
               have hg:dH e.subs k=true:=by first|(simp [dH,hA,s1,s2,hsq,s3,s4];done)|(simp [dH,hA,s1,s2,hsq,s3,s4];decide)
               exact qN hN (k+1) (qI 0 9) (by (try dsimp only);exact⟨zO,eg hk2 hg⟩)
              skip
              have hb:dH e.subs k=false:=by simp [dH,hA,s2]
              have hu:=aA h hb
              have hr:aq e=false:=by simp [aq,hu]
              rw [hr]
              exact qF (qI 0 7)
             skip
             have hb:dH e.subs k=false:=by simp [dH,hA,s1]
             have hu:=aA h hb
             have hr:aq e=false:=by simp [aq,hu]
             rw [hr]
             exact qF (qI 0 7)
            have ek:k=e.subs.length:=zO
            subst ek
            have hu:=dG hk2
            have g12':(e.subs.length:Int)<=8:=zO
            have hr:aq e=true:=by simp [aq,g1,g2,g3,g4,g5,g6,g7,g8,g9,g10,g11,g12',hq,g13,hu]
            rw [hr]
            exact qF (qI 0 7)
           skip
           have hr:aq e=false:=by first|(simp [aq,g12];done)|(simp [aq];intros;omega)
           rw [hr]
           exact qF (qI 0 7)
          skip
          have hr:aq e=false:=by first|(simp [aq,g11];done)|(simp [aq];intros;omega)
          rw [hr]
          exact qF (qI 0 7)
         skip
         have hr:aq e=false:=by first|(simp [aq,g10];done)|(simp [aq];intros;omega)
         rw [hr]
         exact qF (qI 0 7)
        skip
        have hr:aq e=false:=by first|(simp [aq,g8];done)|(simp [aq];intros;omega)
        rw [hr]
        exact qF (qI 0 7)
       skip
       have hr:aq e=false:=by first|(simp [aq,g7];done)|(simp [aq];intros;omega)
       rw [hr]
       exact qF (qI 0 7)
      skip
      have hr:aq e=false:=by first|(simp [aq,g6];done)|(simp [aq];intros;omega)
      rw [hr]
      exact qF (qI 0 7)
     skip
     have hr:aq e=false:=by first|(simp [aq,g5];done)|(simp [aq];intros;omega)
     rw [hr]
     exact qF (qI 0 7)
    skip
    have hr:aq e=false:=by first|(simp [aq,g4];done)|(simp [aq];intros;omega)
    rw [hr]
    exact qF (qI 0 7)
   skip
   have hr:aq e=false:=by first|(simp [aq,g3];done)|(simp [aq];intros;omega)
   rw [hr]
   exact qF (qI 0 7)
  skip
  have hr:aq e=false:=by first|(simp [aq,g2];done)|(simp [aq];intros;omega)
  rw [hr]
  exact qF (qI 0 7)
 skip
 have hr:aq e=false:=by first|(simp [aq,g1];done)|(simp [aq];intros;omega)
 rw [hr]
 exact qF (qI 0 7)
theorem bz (e:EndD) (h0:e.own.length<=1048576) (h1:e.far.length<=1048576) (h2:e.subs.length<=1048576) (h3:e.halfs.length<=1048576) (h4:e.inp.list.length<=1048576) (h5:e.done.length<=1048576) (h6:e.over.length<=1048576):aP 208 [.ag (e.cs 0)] (e.hp false) (.sc (.bo (aq e))) (e.hp false):=by
 refine qE func208 ntmps208 results208 fun E hE=>?_
 refine qK (aJ _ _ _) [] ?_
 refine qB (fun g1=>?_) fun g1=>?_
 ·skip
  refine qK (aJ _ _ _) [] ?_
  refine qB (fun g2=>?_) fun g2=>?_
  ·skip
   refine qK (ie e.policy) [] ?_
   refine qB (fun g3=>?_) fun g3=>?_
   ·skip
    refine qK (mP e.own zO) (qI 0 1) ?_
    refine qB (fun g4=>?_) fun g4=>?_
    ·skip
     refine qK (mP e.far zO) (qI 1 1) ?_
     refine qB (fun g5=>?_) fun g5=>?_
     ·skip
      refine qK (ss e.halfs h3) (qI 3 1) ?_
      refine qB (fun g6=>?_) fun g6=>?_
      ·skip
       refine qK (jR e.bucket) [] ?_
       refine qB (fun g7=>?_) fun g7=>?_
       ·skip
        refine qK (kX e.out) [] ?_
        refine qB (fun g8=>?_) fun g8=>?_
        ·skip
         refine qK (cK e.inp h4) (qI 4 1) ?_
         refine qB (fun g9=>?_) fun g9=>?_
         ·skip
          refine qB (fun g12=>?_) fun g12=>?_
          ·skip
           have hr:aq e=false:=by first|(simp [aq,g12];done)|(simp [aq];intros;omega)
           rw [hr]
           exact qF (qI 0 7)
          skip
          refine qX ?_
          refine fJ 7 hE (fun s (k:Nat)=>s.at (qU [0,1,2,1,4,122]) [(3,.sc (.int .i64 (k:Nat)))] (s.hp)) (fun (k:Nat)=>k<=e.subs.length/\∀ j,j < k->dH e.subs j=true) (fun (k:Nat)=>e.subs.length - k) 0 (qI 0 8) (⟨zG _,fun j hj=>absurd hj (Qk _)⟩) fun k hk N hN=>?_
          obtain⟨hk1,hk2⟩:=hk
          refine qR ?_
          refine qB (fun h=>?_) fun h=>?_
          ·have hA:=eI h
           refine qX ?_
           refine qB (fun s4=>?_) fun s4=>?_
           ·refine qK (fU e e.subs[k].road h2) (qI 0 7) ?_
            refine qB (fun s5=>?_) fun s5=>?_
            ·skip
             have hb:dH e.subs k=false:=by simp [dH,hA,s4,s5]
             have hu:=aA h hb
             have hr:aq e=false:=by simp [aq,hu]
             rw [hr]
             exact qF (qI 0 7)
            refine qX ?_
            refine qK (aJ _ _ _) [] ?_
            refine qB (fun s1=>?_) fun s1=>?_
            ·skip
             refine qK (kw e.subs[k].road) [] ?_
             refine qB (fun s2=>?_) fun s2=>?_
             ·skip
              refine qK (aT e.subs[k].mine) [] ?_
              refine qB (fun s30=>?_) fun s30=>?_
              ·skip
               refine qK (aT e.subs[k].theirs) [] ?_
               refine qB (fun s31=>?_) fun s31=>?_
               ·skip
                refine qK (aT e.subs[k].give) [] ?_
                refine qB (fun s32=>?_) fun s32=>?_
                ·skip
                 refine qK (aT e.subs[k].take) [] ?_
                 refine qB (fun s33=>?_) fun s33=>?_
                 ·skip
                  refine qK (aT e.subs[k].tries) [] ?_
                  refine qB (fun s34=>?_) fun s34=>?_
                  ·skip
                   have hb:dH e.subs k=false:=by simp [dH,hA,s34]
                   have hu:=aA h hb
                   have hr:aq e=false:=by simp [aq,hu]
                   rw [hr]
                   exact qF (qI 0 7)
                  skip
                  have hg:dH e.subs k=true:=by first|(simp [dH,hA,s1,s2,s30,s31,s32,s33,s34,s4,s5];done)|(simp [dH,hA,s1,s2,s30,s31,s32,s33,s34,s4,s5];decide)
                  exact qN hN (k+1) (qI 0 8) (by (try dsimp only);exact⟨zO,eg hk2 hg⟩)
                 skip
                 have hb:dH e.subs k=false:=by simp [dH,hA,s33]
                 have hu:=aA h hb
                 have hr:aq e=false:=by simp [aq,hu]
                 rw [hr]
                 exact qF (qI 0 7)
                skip
                have hb:dH e.subs k=false:=by simp [dH,hA,s32]
                have hu:=aA h hb
                have hr:aq e=false:=by simp [aq,hu]
                rw [hr]
                exact qF (qI 0 7)
               skip
               have hb:dH e.subs k=false:=by simp [dH,hA,s31]
               have hu:=aA h hb
               have hr:aq e=false:=by simp [aq,hu]
               rw [hr]
               exact qF (qI 0 7)
              skip
              have hb:dH e.subs k=false:=by simp [dH,hA,s30]
              have hu:=aA h hb
              have hr:aq e=false:=by simp [aq,hu]
              rw [hr]
              exact qF (qI 0 7)
             skip
             have hb:dH e.subs k=false:=by simp [dH,hA,s2]
             have hu:=aA h hb
             have hr:aq e=false:=by simp [aq,hu]
             rw [hr]
             exact qF (qI 0 7)
            skip
            have hb:dH e.subs k=false:=by simp [dH,hA,s1]
            have hu:=aA h hb
            have hr:aq e=false:=by simp [aq,hu]
            rw [hr]
            exact qF (qI 0 7)
           refine qX ?_
           refine qK (aJ _ _ _) [] ?_
           refine qB (fun s1=>?_) fun s1=>?_
           ·skip
            refine qK (kw e.subs[k].road) [] ?_
            refine qB (fun s2=>?_) fun s2=>?_
            ·skip
             refine qK (aT e.subs[k].mine) [] ?_
             refine qB (fun s30=>?_) fun s30=>?_
             ·skip
              refine qK (aT e.subs[k].theirs) [] ?_
              refine qB (fun s31=>?_) fun s31=>?_
              ·skip
               refine qK (aT e.subs[k].give) [] ?_
               refine qB (fun s32=>?_) fun s32=>?_
               ·skip
                refine qK (aT e.subs[k].take) [] ?_
                refine qB (fun s33=>?_) fun s33=>?_
                ·skip
                 refine qK (aT e.subs[k].tries) [] ?_
                 refine qB (fun s34=>?_) fun s34=>?_
                 ·skip
                  have hb:dH e.subs k=false:=by simp [dH,hA,s34]
                  have hu:=aA h hb
                  have hr:aq e=false:=by simp [aq,hu]
                  rw [hr]
                  exact qF (qI 0 7)
                 skip
                 have hg:dH e.subs k=true:=by first|(simp [dH,hA,s1,s2,s30,s31,s32,s33,s34,s4];done)|(simp [dH,hA,s1,s2,s30,s31,s32,s33,s34,s4];decide)
                 exact qN hN (k+1) (qI 0 8) (by (try dsimp only);exact⟨zO,eg hk2 hg⟩)
                skip
                have hb:dH e.subs k=false:=by simp [dH,hA,s33]
                have hu:=aA h hb
                have hr:aq e=false:=by simp [aq,hu]
                rw [hr]
                exact qF (qI 0 7)
               skip
               have hb:dH e.subs k=false:=by simp [dH,hA,s32]
               have hu:=aA h hb
               have hr:aq e=false:=by simp [aq,hu]
               rw [hr]
               exact qF (qI 0 7)
              skip
              have hb:dH e.subs k=false:=by simp [dH,hA,s31]
              have hu:=aA h hb
              have hr:aq e=false:=by simp [aq,hu]
              rw [hr]
              exact qF (qI 0 7)
             skip
             have hb:dH e.subs k=false:=by simp [dH,hA,s30]
             have hu:=aA h hb
             have hr:aq e=false:=by simp [aq,hu]
             rw [hr]
             exact qF (qI 0 7)
            skip
            have hb:dH e.subs k=false:=by simp [dH,hA,s2]
            have hu:=aA h hb
            have hr:aq e=false:=by simp [aq,hu]
            rw [hr]
            exact qF (qI 0 7)
           skip
           have hb:dH e.subs k=false:=by simp [dH,hA,s1]
           have hu:=aA h hb
           have hr:aq e=false:=by simp [aq,hu]
           rw [hr]
           exact qF (qI 0 7)
          have ek:k=e.subs.length:=zO
          subst ek
          have hu:=dG hk2
          have g12':(e.subs.length:Int)<=8:=zO
          refine qX ?_
          refine qK (vf e.done e.own h5 h0) (qI 5 1++qI 0 1) ?_
          refine qB (fun g10=>?_) fun g10=>?_
          ·skip
           refine qK (vf e.over e.far h6 h1) (qI 6 1++qI 1 1) ?_
           refine qB (fun g11=>?_) fun g11=>?_
           ·skip
            have hr:aq e=false:=by first|(simp [aq,g11];done)|(simp [aq];intros;omega)
            rw [hr]
            exact qF (qI 0 7)
           skip
           refine qX ?_
           refine qK (aT e.key) [] ?_
           refine qB (fun n0=>?_) fun n0=>?_
           ·skip
            refine qK (aT e.peer) [] ?_
            refine qB (fun n1=>?_) fun n1=>?_
            ·skip
             refine qK (aT e.draw) [] ?_
             refine qB (fun n2=>?_) fun n2=>?_
             ·skip
              refine qK (aT e.now) [] ?_
              refine qB (fun n3=>?_) fun n3=>?_
              ·skip
               refine qK (aT e.pick) [] ?_
               refine qJ (qI 0 7) ?_
               simp [aq,g1,g2,g3,g4,g5,g6,g7,g8,g9,g10,g11,g12',hu,n0,n1,n2,n3]
              skip
              have hr:aq e=false:=by first|(simp [aq,n3];done)|(simp [aq];intros;omega)
              rw [hr]
              exact qF (qI 0 7)
             skip
             have hr:aq e=false:=by first|(simp [aq,n2];done)|(simp [aq];intros;omega)
             rw [hr]
             exact qF (qI 0 7)
            skip
            have hr:aq e=false:=by first|(simp [aq,n1];done)|(simp [aq];intros;omega)
            rw [hr]
            exact qF (qI 0 7)
           skip
           have hr:aq e=false:=by first|(simp [aq,n0];done)|(simp [aq];intros;omega)
           rw [hr]
           exact qF (qI 0 7)
          skip
          have hr:aq e=false:=by first|(simp [aq,g10];done)|(simp [aq];intros;omega)
          rw [hr]
          exact qF (qI 0 7)
         skip
         have hr:aq e=false:=by first|(simp [aq,g9];done)|(simp [aq];intros;omega)
         rw [hr]
         exact qF (qI 0 7)
        skip
        have hr:aq e=false:=by first|(simp [aq,g8];done)|(simp [aq];intros;omega)
        rw [hr]
        exact qF (qI 0 7)
       skip
       have hr:aq e=false:=by first|(simp [aq,g7];done)|(simp [aq];intros;omega)
       rw [hr]
       exact qF (qI 0 7)
      skip
      have hr:aq e=false:=by first|(simp [aq,g6];done)|(simp [aq];intros;omega)
      rw [hr]
      exact qF (qI 0 7)
     skip
     have hr:aq e=false:=by first|(simp [aq,g5];done)|(simp [aq];intros;omega)
     rw [hr]
     exact qF (qI 0 7)
    skip
    have hr:aq e=false:=by first|(simp [aq,g4];done)|(simp [aq];intros;omega)
    rw [hr]
    exact qF (qI 0 7)
   skip
   have hr:aq e=false:=by first|(simp [aq,g3];done)|(simp [aq];intros;omega)
   rw [hr]
   exact qF (qI 0 7)
  skip
  have hr:aq e=false:=by first|(simp [aq,g2];done)|(simp [aq];intros;omega)
  rw [hr]
  exact qF (qI 0 7)
 skip
 have hr:aq e=false:=by first|(simp [aq,g1];done)|(simp [aq];intros;omega)
 rw [hr]
 exact qF (qI 0 7)
def El (k:Int):List UInt8:=if k<=0 then [109,48] else 109::eT k.toNat []
theorem IF (n:Nat) (acc:List UInt8) (h:0 < n):eT n acc=if n / 10=0 then UInt8.ofNat (48+n % 10)::acc else eT (n / 10) (UInt8.ofNat (48+n % 10)::acc):=by
 rw [eT]
 by_cases h1:n < 10
 ·rw [dif_pos h1,if_pos zO,Nat.mod_eq_of_lt h1]
 rw [dif_neg h1,if_neg zO]
theorem pR (k:Int) (hk:k<=4611686018427387904):aP 43 [.sc (.int .i64 k)] [] (.sc (.st (El k))) []:=by
 refine qE func43 ntmps43 results43 fun E hE=>?_
 refine qB (fun h1=>?_) fun h1=>?_
 ·refine qJ [] ?_
  rw [El,if_pos h1]
 have hm:El k=109::eT k.toNat []:=by rw [El,if_neg h1]
 obtain⟨n,rfl⟩:=Qm (show 0<=k by omega)
 rw [P7] at hm
 refine qX ?_
 refine fJ 0 hE (fun s (x:Nat×List UInt8)=>s.at (qU [4,14]) [(0,.sc (.int .i64 (x.1:Nat))),(3,.sc (.st x.2))] (s.hp)) (fun (x:Nat×List UInt8)=>x.1<=4611686018427387904/\x.2.length<=20/\(if x.1=0 then x.2 else eT x.1 x.2)=eT n []) (fun (x:Nat×List UInt8)=>x.1) (n,[]) [] (⟨zO,zP,by rw [if_neg zO]⟩) fun x hx N hN=>?_
 obtain⟨m,acc⟩:=x
 obtain⟨hx1,hx3,hx4⟩:=hx
 dsimp only at hx1 hx3 hx4
 refine qR ?_
 refine qB (fun h2=>?_) fun h2=>?_
 ·have hb:m % 10 < 10:=QK _ zO
  have hlt:=rN m acc
  rw [if_neg zO] at hx4
  have hlen:=rP (n:=(n:Int)) ⟨zO,zO⟩
  rw [Int.natAbs_natCast] at hlen
  rw [hx4] at hlt
  rw [IF m acc zO] at hx4
  try simp (disch:=omega) only [go_sem,seval,tL]
  refine⟨by (try simp (disch:=omega) only [go_sem,P_,seval,nK])<;>omega,hN _ (m / 10,UInt8.ofNat (48+m % 10)::acc) [] (by (try dsimp only);exact⟨zO,by simp;omega,hx4⟩) (by (try dsimp only);omega) (aw zF zF ?_)⟩
  refine qX ?_
  first|rfl|(congr 2;omega)|(congr 1;congr 1;omega)|(refine⟨?_,?_⟩<;>first|omega|(congr 2;omega)|(congr 1;congr 1;omega))
 have e:m=0:=zO
 subst e
 rw [if_pos rfl] at hx4
 refine qJ [] ?_
 rw [hm,<-hx4]
 try rfl
def Hm {α:Type} (f:Int->α) (c:Int) (k0:Int) (n:Nat):List α:=(List.range n).map fun (j:Nat)=>f (k0+c*(j:Int))
theorem F8 {α:Type} {f:Int->α} {c k0:Int} {n:Nat}:(Hm f c k0 n).length=n:=by simp [Hm]
theorem Kw {α:Type} {f:Int->α} {c k0:Int} {n:Nat}:Hm f c k0 (n+1)=Hm f c k0 n++[f (k0+c*n)]:=by
 simp [Hm,List.range_succ]
theorem Mx {α:Type} {f:Int->α} {c k0:Int} {n k:Nat} (h:k < (Hm f c k0 n).length):(Hm f c k0 n)[k]=f (k0+c*k):=by simp [Hm]
theorem IG {α:Type} {l:List α} {k:Nat} (h:k < l.length) (v:α):(l.set k v).take (k+1)=l.take k++[v]:=by
 rw [Qi (by simpa using h),List.getElem_set_self,List.take_set_of_le (Nat.le_refl _)]
theorem Em {α:Type} {f:α->List Sc} {l:List α} {k:Nat} {v:List Sc} (h:k < l.length):((l.map f).set k v)[k]? =some v:=by
 rw [List.getElem?_set_self (by simpa using h)]
theorem Kx {l:List (List Sc)} {k:Nat} {v w:List Sc}:(l.set k v).set k w=l.set k w:=by simp
theorem su {α:Type} {f:α->List Sc} {l:List α} {k:Nat} {v:α} {w:List Sc} (h:f v=w):(l.map f).set k w=(l.set k v).map f:=by rw [Qt,h]
attribute [go_sem] Em Kx
def iZ (k:Int):(List UInt8):=El (k)
theorem ug (l:List (List UInt8)) (k0:Int) (hl:l.length<=16777216) (h0:0<=k0) (h1:k0<=1099511627776):aP 15 [.sc (.sl 0 0 l.length),.sc (.int .i64 k0)] [some ⟨l.map aD,1,9,true,true⟩] (.sc (.int .i64 (k0+1*(l.length:Int)))) [some ⟨(Hm iZ 1 k0 l.length).map aD,1,9,true,true⟩]:=by
 refine qE func15 ntmps15 results15 fun E hE=>?_
 refine fJ 1 hE (fun s (x:Nat×Int×List (List UInt8))=>s.at (qU [6,13]) [(5,.sc (.int .i64 (x.1:Nat))),(1,.sc (.int .i64 x.2.1))] ([some ⟨x.2.2.map aD,1,9,true,true⟩])) (fun (x:Nat×Int×List (List UInt8))=>x.1<=l.length/\x.2.2.length=l.length/\x.2.1=k0+1*(x.1:Int)/\x.2.2.take x.1=Hm iZ 1 k0 x.1) (fun (x:Nat×Int×List (List UInt8))=>l.length - x.1) (0,k0,l) (qI 0 1) (⟨zG _,rfl,zP,rfl⟩) fun x hx N hN=>?_
 obtain⟨i,k,m⟩:=x
 obtain⟨hx1,hx2,hx3,hx4⟩:=hx
 dsimp only at hx1 hx2 hx3 hx4
 refine qR ?_
 refine qB (fun h=>?_) fun h=>?_
 ·have hi:i < m.length:=zO
  try simp (disch:=omega) only [go_sem,seval,aC hi,dZ hi]
  refine qK (pR k zO) [] ?_
  have ht:=IG hi (iZ k)
  rw [hx4,hx3,<-Kw,<-hx3] at ht
  refine⟨qC,hN _ (i+1,k+1,m.set i (iZ k)) (qI 0 1) (by (try dsimp only);exact⟨zO,by simp;omega,zO,ht⟩) (by (try dsimp only);omega) (aw zF zF ?_)⟩
  try simp (disch:=omega) only [go_sem,seval]
  try exact⟨zO,su rfl⟩
  try exact su rfl
 have e:i=l.length:=zO
 subst e
 rw [Qy zO] at hx4
 subst hx4
 refine aj (qI 0 1) (qC) _ zXg zF zF ?_
 simp (disch:=omega) only [go_sem,seval]
 try exact hx3
 try exact⟨hx3,rfl⟩
theorem me (k0:Int) (n:Nat) (hl:n<=16777216) (h0:0<=k0) (h1:k0<=1099511627776):aP 16 [.sc (.sl 0 0 n),.sc (.int .i64 k0)] [some ⟨(Hm iZ 1 k0 n).map aD,1,9,false,true⟩] (.sc (.int .i64 (k0+1*(n:Int)))) [some ⟨(Hm iZ 1 k0 n).map aD,1,9,false,true⟩]:=by
 have hg:(Hm iZ 1 k0 n).length=n:=F8
 refine qE func16 ntmps16 results16 fun E hE=>?_
 refine fJ 1 hE (fun s (x:Nat×Int)=>s.at (qU [4,1,6,15]) [(5,.sc (.int .i64 (x.1:Nat))),(1,.sc (.int .i64 x.2))] (s.hp)) (fun (x:Nat×Int)=>x.1<=n/\x.2=k0+1*(x.1:Int)) (fun (x:Nat×Int)=>n - x.1) (0,k0) (qI 0 1) (⟨zG _,zP⟩) fun x hx N hN=>?_
 obtain⟨i,k⟩:=x
 obtain⟨hx1,hx3⟩:=hx
 dsimp only at hx1 hx3
 refine qR ?_
 refine qB (fun h=>?_) fun h=>?_
 ·have hi:i < (Hm iZ 1 k0 n).length:=zO
  have he:=Mx hi
  rw [<-hx3] at he
  refine qD [0,1,2,3,4,5,6] ?_
  try simp (disch:=omega) only [go_sem,seval,dZ hi,he]
  refine aE (pR k zO) [] ?_
  refine⟨qC,ab 400 ?_⟩
  try simp (disch:=omega) only [go_sem,seval,iZ,beq_self_eq_true]
  refine lr hN (i+1,k+1) (qI 0 1) (by (try dsimp only);exact⟨zO,zO⟩) ?_
  first|exact⟨⟩|omega
 have e:i=n:=zO
 subst e
 refine qP (qI 0 1) ?_
 first|exact⟨⟩|exact hx3
def di:EndD:=⟨0,0,0,0,⟨0,0⟩,[],[],[],[],⟨0,0,0⟩,⟨[],0,0,0⟩,⟨0,[],[]⟩,[],[],0,0,0⟩
def cV (w:WorldD) (side:Int):EndD:=if side=1 then w.a else if side=2 then w.b else di
theorem cL (l:List AddrD) (hl:l.length<=1048576):aP 127 [.sc (.sl 0 0 l.length)] [some ⟨l.map AddrD.cs,4,32,false,true⟩] (.sc (.sl 1 0 l.length)) [some ⟨l.map AddrD.cs,4,32,false,true⟩,some ⟨l.map AddrD.cs,4,32,true,true⟩]:=by
 refine qE func127 ntmps127 results127 fun E hE=>?_
 exact qF (qI 0 1++qI 2 1)
theorem fG (l:List HalfD) (hl:l.length<=1048576):aP 128 [.sc (.sl 0 0 l.length)] [some ⟨l.map HalfD.cs,8,214,false,true⟩] (.sc (.sl 1 0 l.length)) [some ⟨l.map HalfD.cs,8,214,false,true⟩,some ⟨l.map HalfD.cs,8,214,true,true⟩]:=by
 refine qE func128 ntmps128 results128 fun E hE=>?_
 exact qF (qI 0 1++qI 2 1)
theorem dt (l:List Int) (hl:l.length<=1048576):aP 89 [.sc (.sl 0 0 l.length)] [some ⟨l.map bh,1,3,false,true⟩] (.sc (.sl 1 0 l.length)) [some ⟨l.map bh,1,3,false,true⟩,some ⟨l.map bh,1,3,true,true⟩]:=by
 refine qE func89 ntmps89 results89 fun E hE=>?_
 exact qF (qI 0 1++qI 2 1)
theorem aI (p:PiecesD) (hl:p.list.length<=1048576):aP 129 [.ag (p.cs 0)] (p.hp false) (.ag (p.cs 1)) (p.hp false++p.hp true):=by
 refine qE func129 ntmps129 results129 fun E hE=>?_
 exact qF (qI 0 1++qI 4 1)
theorem mQ (p:PiecesD) (hl:p.list.length<=1048576):aP 207 [.ag (p.cs 0)] (p.hp false) (.ag (p.cs 1)) (p.hp false++p.hp true):=by
 refine qE func207 ntmps207 results207 fun E hE=>?_
 refine dI 1 hE (fun s (x:Nat×List PieceD)=>s.at (qU [0,1,5,16]) [(4,.sc (.int .i64 (x.1:Nat))),(3,.sc (.sl 3 0 x.2.length))] (p.hp false++[some ⟨[p.cs 0],3,51,true,false⟩,some ⟨[[.int .i64 0,.st [],.nil]],3,51,true,false⟩,some ⟨x.2.map PieceD.cs,2,223,true,true⟩])) (fun (x:Nat×List PieceD)=>x.1<=p.list.length/\x.2=p.list.take x.1) (fun (x:Nat×List PieceD)=>p.list.length - x.1) (0,[]) (qI 0 4) (qC) (⟨zG _,rfl⟩) (aw zF zF ?_) fun x hx N hN=>?_
 ·try simp (disch:=omega) only [go_sem,seval]
  try rfl
 obtain⟨k,acc⟩:=x
 obtain⟨hk1,hk2⟩:=hx
 dsimp only at hk1 hk2
 have ha:acc.length=k:=by rw [hk2,List.length_take];omega
 refine qR ?_
 refine qB (fun h=>?_) fun h=>?_
 ·refine qX ?_
  refine lr hN (k+1,acc++[p.list[k]]) (qI 0 3++qI 5 1) (by (try dsimp only);exact⟨zO,by rw [hk2,Qi h]⟩) ?_
  first|exact⟨⟩|simp [PieceD.cs]
 have ek:k=p.list.length:=zO
 rw [ek,QH] at hk2
 subst hk2
 refine qX ?_
 exact qF (qI 0 1++qI 3 1)
theorem aG (e:EndD) (h0:e.own.length<=1048576) (h1:e.far.length<=1048576) (h2:e.subs.length<=1048576) (h3:e.halfs.length<=1048576) (h4:e.inp.list.length<=1048576) (h5:e.done.length<=1048576) (h6:e.over.length<=1048576):aP 82 [.ag (e.cs 0)] (e.hp false) (.ag (e.cs 7)) (e.hp false++e.hp true):=by
 refine qE func82 ntmps82 results82 fun E hE=>?_
 refine qK (cL e.own h0) (qI 0 1) ?_
 refine qK (cL e.far h1) (qI 1 1) ?_
 refine qK (fG e.halfs h3) (qI 3 1) ?_
 refine qK (aI e.inp h4) (qI 4 1) ?_
 refine qK (dt e.done h5) (qI 5 1) ?_
 refine qK (dt e.over h6) (qI 6 1) ?_
 exact qF (qI 0 7++qI 9 2++qI 12 5)
theorem aF (e:EndD) (h0:e.own.length<=1048576) (h1:e.far.length<=1048576) (h2:e.subs.length<=1048576) (h3:e.halfs.length<=1048576) (h4:e.inp.list.length<=1048576) (h5:e.done.length<=1048576) (h6:e.over.length<=1048576):aP 164 [.ag (e.cs 0)] (e.hp false) (.ag (e.cs 7)) (e.hp false++e.hp true):=by
 refine qE func164 ntmps164 results164 fun E hE=>?_
 refine qK (mQ e.inp h4) (qI 4 1) ?_
 exact qF (qI 0 7++qI 14 1++qI 16 1++qI 18 1++qI 20 2++qI 10 1++qI 12 1)
theorem cf (w:WorldD) (side:Int) (a0:w.a.own.length<=1048576) (a1:w.a.far.length<=1048576) (a2:w.a.subs.length<=1048576) (a3:w.a.halfs.length<=1048576) (a4:w.a.inp.list.length<=1048576) (a5:w.a.done.length<=1048576) (a6:w.a.over.length<=1048576) (b0:w.b.own.length<=1048576) (b1:w.b.far.length<=1048576) (b2:w.b.subs.length<=1048576) (b3:w.b.halfs.length<=1048576) (b4:w.b.inp.list.length<=1048576) (b5:w.b.done.length<=1048576) (b6:w.b.over.length<=1048576):aP 90 [.ag (w.cs 0),.sc (.int .i64 side)] (w.hp false) (.ag ((cV w side).cs 21)) (w.hp false++(cV w side).hp true):=by
 obtain⟨e,he⟩:∃ e,e=cV w side:=⟨_,rfl⟩
 rw [<-he]
 rw [cV] at he
 refine qE func90 ntmps90 results90 fun E hE=>?_
 refine qB (fun h1=>?_) fun h1=>?_
 ·rw [if_pos h1] at he
  subst he
  refine qK (aG w.a a0 a1 a2 a3 a4 a5 a6) (qI 0 7) ?_
  exact qF (qI 0 21++qI 23 7)
 rw [if_neg h1] at he
 refine qB (fun h2=>?_) fun h2=>?_
 ·rw [if_pos h2] at he
  subst he
  refine qK (aG w.b b0 b1 b2 b3 b4 b5 b6) (qI 7 7) ?_
  exact qF (qI 0 21++qI 23 7)
 rw [if_neg h2] at he
 subst he
 refine qP (qI 0 21++qO 7) ?_
 first|exact⟨⟩|simp [di]
theorem cg (w:WorldD) (side:Int) (a0:w.a.own.length<=1048576) (a1:w.a.far.length<=1048576) (a2:w.a.subs.length<=1048576) (a3:w.a.halfs.length<=1048576) (a4:w.a.inp.list.length<=1048576) (a5:w.a.done.length<=1048576) (a6:w.a.over.length<=1048576) (b0:w.b.own.length<=1048576) (b1:w.b.far.length<=1048576) (b2:w.b.subs.length<=1048576) (b3:w.b.halfs.length<=1048576) (b4:w.b.inp.list.length<=1048576) (b5:w.b.done.length<=1048576) (b6:w.b.over.length<=1048576):aP 168 [.ag (w.cs 0),.sc (.int .i64 side)] (w.hp false) (.ag ((cV w side).cs 21)) (w.hp false++(cV w side).hp true):=by
 obtain⟨e,he⟩:∃ e,e=cV w side:=⟨_,rfl⟩
 rw [<-he]
 rw [cV] at he
 refine qE func168 ntmps168 results168 fun E hE=>?_
 refine qB (fun h1=>?_) fun h1=>?_
 ·rw [if_pos h1] at he
  subst he
  refine qK (aF w.a a0 a1 a2 a3 a4 a5 a6) (qI 0 7) ?_
  exact qF (qI 0 21++qI 23 7)
 rw [if_neg h1] at he
 refine qB (fun h2=>?_) fun h2=>?_
 ·rw [if_pos h2] at he
  subst he
  refine qK (aF w.b b0 b1 b2 b3 b4 b5 b6) (qI 7 7) ?_
  exact qF (qI 0 21++qI 23 7)
 rw [if_neg h2] at he
 subst he
 refine qP (qI 0 21++qO 7) ?_
 first|exact⟨⟩|simp [di]
attribute [go_sem] decide_true decide_false set_option linter.unusedSimpArgs false set_option maxRecDepth 20000
theorem eG (x:LetterD):aP 135 [.ag x.cs] [] (.ag (am x).cs) []:=by
 refine qE func135 ntmps135 results135 fun E hE=>?_
 refine qP [] ?_
 first|exact⟨⟩|simp [am]
theorem bB (r:RoadD) (x:LetterD):aP 134 [.ag r.cs,.ag x.cs] [] (.ag (bc r x).cs) []:=by
 refine qE func134 ntmps134 results134 fun E hE=>?_
 refine qP [] ?_
 first|exact⟨⟩|simp [bc]
theorem i8 (a b c d:Int):aP 246 [.sc (.int .i64 a),.sc (.int .i64 b),.sc (.int .i64 c),.sc (.int .i64 d)] [] (.ag (TagD.cs ⟨1,a,b,c,d⟩)) []:=by
 refine qE func246 ntmps246 results246 fun E hE=>?_
 exact qF []
theorem gW (a b c d:Int):aP 192 [.sc (.int .i64 a),.sc (.int .i64 b),.sc (.int .i64 c),.sc (.int .i64 d)] [] (.ag (TagD.cs ⟨2,a,b,c,d⟩)) []:=by
 refine qE func192 ntmps192 results192 fun E hE=>?_
 exact qF []
theorem sw (a b c d:Int):aP 243 [.sc (.int .i64 a),.sc (.int .i64 b),.sc (.int .i64 c),.sc (.int .i64 d)] [] (.ag (TagD.cs ⟨3,a,b,c,d⟩)) []:=by
 refine qE func243 ntmps243 results243 fun E hE=>?_
 exact qF []
theorem pS (s:Int):aP 191 [.sc (.int .i64 s)] [] (.sc (.int .i64 (eu s))) []:=by
 obtain⟨R,hR⟩:∃ R,R=eu s:=⟨_,rfl⟩
 rw [<-hR]
 refine qE func191 ntmps191 results191 fun E hE=>?_
 refine qK (aS _ _ _) [] ?_
 refine qB (fun h1=>?_) fun h1=>?_
 ·refine qJ [] ?_
  rw [hR,eu,if_neg (by simp [h1])]
 have h1':=h1
 simp only [bU,zk,decide_eq_true_eq] at h1'
 refine qJ [] ?_
 rw [hR,eu,if_pos h1]
theorem Cp (b:BucketD):aP 244 [.ag b.cs] [] (.tu [.ag (ce b).1.cs,.sc (.bo (ce b).2)]) []:=by
 obtain⟨R,hR⟩:∃ R,R=ce b:=⟨_,rfl⟩
 rw [<-hR]
 refine qE func244 ntmps244 results244 fun E hE=>?_
 refine qK (jQ b) [] ?_
 refine qB (fun h1=>?_) fun h1=>?_
 ·refine qB (fun h2=>?_) fun h2=>?_
  ·rw [ce,if_neg zO] at hR
   subst hR
   exact qF []
  rw [ce,if_pos ⟨h1,h2⟩] at hR
  subst hR
  have h1':=h1
  simp only [bucketOk,bU,zk,decide_eq_true_eq] at h1'
  exact qF []
 rw [ce,if_neg (by simp [h1])] at hR
 subst hR
 exact qF []
theorem gc (e:EndD) (x:LetterD) (hl:e.subs.length<=1048576):aP 249 [.ag (e.cs 0),.ag x.cs] (e.hp false) (.sc (.int .i64 (dy e x))) (e.hp false):=by
 obtain⟨R,hR⟩:∃ R,R=dy e x:=⟨_,rfl⟩
 rw [<-hR]
 have hS:=fT e (am x) hl
 simp only [dy] at hR
 generalize hk:bK e.subs (am x)=k at hS hR
 have hbd:=f6 e.subs (am x)
 rw [hk] at hbd
 refine qE func249 ntmps249 results249 fun E hE=>?_
 refine qD [0,1,2,3,4] ?_
 refine aE (eG x) [] ?_
 refine aE (hS) (qI 0 7) ?_
 refine qG ?_
 rcases hbd with rfl|⟨hb0,hb1⟩
 ·refine qD [0,1,2,3,4,5,6,7,8,9,10,11,12,13,14,15,16,17,18,19,20,21] ?_
  refine qG ?_
  refine qJ (qI 0 7) ?_
  rw [hR]
  rfl
 obtain⟨n,rfl⟩:=Int.eq_ofNat_of_zero_le hb0
 have hn:n < e.subs.length:=zO
 have hsub:bH e.subs (n:Int).toNat=e.subs[n]:=by simp [bH,List.getD_eq_getElem?_getD,hn]
 rw [if_neg zO,hsub] at hR
 refine qD [0,1,2,3,4,5,6,7,8,9,10,11,12,13,14,15,16,17,18,19,20,21] ?_
 refine qB (fun h1=>?_) fun h1=>?_
 ·refine qG ?_
  refine qB (fun h2=>?_) fun h2=>?_
  ·rw [if_neg (fun h=>h2 h.2)] at hR
   refine qJ (qI 0 7) ?_
   exact hR.symm
  rw [if_pos ⟨h1,h2⟩] at hR
  refine qJ (qI 0 7) ?_
  exact hR.symm
 rw [if_neg (fun h=>h1 h.1)] at hR
 refine qG ?_
 refine qJ (qI 0 7) ?_
 exact hR.symm
theorem de (x:LetterD):aP 215 [.ag x.cs] [] (.ag (am x).cs) []:=by
 refine qE func215 ntmps215 results215 fun E hE=>?_
 refine qP [] ?_
 first|exact⟨⟩|simp [am]
theorem a_ (r:RoadD) (x:LetterD):aP 213 [.ag r.cs,.ag x.cs] [] (.ag (bc r x).cs) []:=by
 refine qE func213 ntmps213 results213 fun E hE=>?_
 refine qP [] ?_
 first|exact⟨⟩|simp [bc]
theorem i9 (a b c d:Int):aP 284 [.sc (.int .i64 a),.sc (.int .i64 b),.sc (.int .i64 c),.sc (.int .i64 d)] [] (.ag (TagD.cs ⟨1,a,b,c,d⟩)) []:=by
 refine qE func284 ntmps284 results284 fun E hE=>?_
 exact qF []
theorem gX (a b c d:Int):aP 263 [.sc (.int .i64 a),.sc (.int .i64 b),.sc (.int .i64 c),.sc (.int .i64 d)] [] (.ag (TagD.cs ⟨2,a,b,c,d⟩)) []:=by
 refine qE func263 ntmps263 results263 fun E hE=>?_
 exact qF []
theorem sx (a b c d:Int):aP 265 [.sc (.int .i64 a),.sc (.int .i64 b),.sc (.int .i64 c),.sc (.int .i64 d)] [] (.ag (TagD.cs ⟨3,a,b,c,d⟩)) []:=by
 refine qE func265 ntmps265 results265 fun E hE=>?_
 exact qF []
theorem pT (s:Int):aP 262 [.sc (.int .i64 s)] [] (.sc (.int .i64 (eu s))) []:=by
 obtain⟨R,hR⟩:∃ R,R=eu s:=⟨_,rfl⟩
 rw [<-hR]
 refine qE func262 ntmps262 results262 fun E hE=>?_
 refine qK (aJ _ _ _) [] ?_
 refine qB (fun h1=>?_) fun h1=>?_
 ·refine qJ [] ?_
  rw [hR,eu,if_neg (by simp [h1])]
 have h1':=h1
 simp only [bU,zk,decide_eq_true_eq] at h1'
 refine qJ [] ?_
 rw [hR,eu,if_pos h1]
theorem Cq (b:BucketD):aP 282 [.ag b.cs] [] (.tu [.ag (ce b).1.cs,.sc (.bo (ce b).2)]) []:=by
 obtain⟨R,hR⟩:∃ R,R=ce b:=⟨_,rfl⟩
 rw [<-hR]
 refine qE func282 ntmps282 results282 fun E hE=>?_
 refine qK (jR b) [] ?_
 refine qB (fun h1=>?_) fun h1=>?_
 ·refine qB (fun h2=>?_) fun h2=>?_
  ·rw [ce,if_neg zO] at hR
   subst hR
   exact qF []
  rw [ce,if_pos ⟨h1,h2⟩] at hR
  subst hR
  have h1':=h1
  simp only [bucketOk,bU,zk,decide_eq_true_eq] at h1'
  exact qF []
 rw [ce,if_neg (by simp [h1])] at hR
 subst hR
 exact qF []
theorem zL (e:EndD) (x:LetterD) (hl:e.subs.length<=1048576):aP 290 [.ag (e.cs 0),.ag x.cs] (e.hp false) (.sc (.int .i64 (dy e x))) (e.hp false):=by
 obtain⟨R,hR⟩:∃ R,R=dy e x:=⟨_,rfl⟩
 rw [<-hR]
 have hS:=fU e (am x) hl
 simp only [dy] at hR
 generalize hk:bK e.subs (am x)=k at hS hR
 have hbd:=f6 e.subs (am x)
 rw [hk] at hbd
 refine qE func290 ntmps290 results290 fun E hE=>?_
 refine qD [0,1,2,3,4] ?_
 refine aE (de x) [] ?_
 refine aE (hS) (qI 0 7) ?_
 refine qG ?_
 rcases hbd with rfl|⟨hb0,hb1⟩
 ·refine qD [0,1,2,3,4,5,6,7,8,9,10,11,12,13,14,15,16,17,18,19,20,21] ?_
  refine qG ?_
  refine qJ (qI 0 7) ?_
  rw [hR]
  rfl
 obtain⟨n,rfl⟩:=Int.eq_ofNat_of_zero_le hb0
 have hn:n < e.subs.length:=zO
 have hsub:bH e.subs (n:Int).toNat=e.subs[n]:=by simp [bH,List.getD_eq_getElem?_getD,hn]
 rw [if_neg zO,hsub] at hR
 refine qD [0,1,2,3,4,5,6,7,8,9,10,11,12,13,14,15,16,17,18,19,20,21] ?_
 refine qB (fun h1=>?_) fun h1=>?_
 ·refine qG ?_
  refine qB (fun h2=>?_) fun h2=>?_
  ·rw [if_neg (fun h=>h2 h.2)] at hR
   refine qJ (qI 0 7) ?_
   exact hR.symm
  rw [if_pos ⟨h1,h2⟩] at hR
  refine qJ (qI 0 7) ?_
  exact hR.symm
 rw [if_neg (fun h=>h1 h.1)] at hR
 refine qG ?_
 refine qJ (qI 0 7) ?_
 exact hR.symm
theorem dB {e:EndD} (h:aq e=true):e.subs.length<=8:=by
 simp only [aq,zk,decide_eq_true_eq] at h
 omega
theorem Ep (l:List HalfD) (k:Nat) (h:HalfD):(l.map HalfD.cs).set k h.cs=(l.set k h).map HalfD.cs:=(Qt ..).symm
theorem Eq (l:List AddrD) (k:Nat) (h:AddrD):(l.map AddrD.cs).set k h.cs=(l.set k h).map AddrD.cs:=(Qt ..).symm
theorem lB (l:List SubD) (k:Nat) (h:SubD):(l.map SubD.cs).set k h.cs=(l.set k h).map SubD.cs:=(Qt ..).symm
theorem Er (l:List HalfD) (h:HalfD):l.map HalfD.cs++[h.cs]=(l++[h]).map HalfD.cs:=by simp
theorem mR (l:List HalfD) (h:HalfD) (hl:l.length<=1000000):aP 245 [.sc (.sl 0 0 l.length),.ag h.cs] [some ⟨l.map HalfD.cs,8,214,false,true⟩]
  (.tu [.sc (.sl 1 0 (ck l h).1.length),.sc (.bo (ck l h).2)]) [some ⟨l.map HalfD.cs,8,214,false,true⟩,some ⟨(ck l h).1.map HalfD.cs,8,214,true,true⟩]:=by
 have hA:=j6 l h.road zO
 have hbd:=iJ l h.road
 have hO:=sr (eR l h) (by have:=dW l h;omega)
 have hll:=dW l h
 have hL:=eR.eq_1 l h
 have ht:=uc (l:=l) (h:=h)
 have hf:=Bb (l:=l) (h:=h)
 generalize eR l h=L at*
 generalize ck l h=R at*
 generalize bV l h.road=k at hA hbd hL
 refine qE func245 ntmps245 results245 fun E hE=>?_
 refine qK (fG l zO) (qI 0 1) ?_
 refine qK (hA) (qI 0 1) ?_
 rcases hbd with rfl|⟨hb0,hb1⟩
 ·rw [if_neg zO] at hL
  subst hL
  have e:=Er l h
  simp only [HalfD.cs] at e
  rw [Qc] at hO
  try simp (disch:=omega) only [go_sem,seval,e]
  refine qK (hO) (qI 4 1) ?_
  refine qB (fun h1=>?_) fun h1=>?_
  ·rw [hf h1]
   refine qK (fG l zO) (qI 0 1) ?_
   exact qF (qI 0 1++qI 5 1)
  rw [ht h1]
  try simp only [P_]
  exact qF (qI 0 1++qI 4 1)
 obtain⟨n,rfl⟩:=Qm hb0
 rw [if_pos hb0,P7] at hL
 subst hL
 have e:=Ep l n h
 simp only [HalfD.cs] at e
 rw [P_] at hO
 try simp (disch:=omega) only [go_sem,seval,e]
 refine qK (hO) (qI 2 1) ?_
 refine qB (fun h1=>?_) fun h1=>?_
 ·rw [hf h1]
  refine qK (fG l zO) (qI 0 1) ?_
  exact qF (qI 0 1++qI 3 1)
 rw [ht h1]
 try simp only [P_]
 exact qF (qI 0 1++qI 2 1)
theorem kz (l:List HalfD) (h:HalfD) (hl:l.length<=1000000):aP 283 [.sc (.sl 0 0 l.length),.ag h.cs] [some ⟨l.map HalfD.cs,8,214,false,true⟩]
  (.tu [.sc (.sl 1 0 (ck l h).1.length),.sc (.bo (ck l h).2)]) [some ⟨l.map HalfD.cs,8,214,false,true⟩,some ⟨(ck l h).1.map HalfD.cs,8,214,true,true⟩]:=by
 have hA:=j7 l h.road zO
 have hbd:=iJ l h.road
 have hO:=ss (eR l h) (by have:=dW l h;omega)
 have hll:=dW l h
 have hL:=eR.eq_1 l h
 have ht:=uc (l:=l) (h:=h)
 have hf:=Bb (l:=l) (h:=h)
 generalize eR l h=L at*
 generalize ck l h=R at*
 generalize bV l h.road=k at hA hbd hL
 refine qE func283 ntmps283 results283 fun E hE=>?_
 refine qK (hA) (qI 0 1) ?_
 rcases hbd with rfl|⟨hb0,hb1⟩
 ·rw [if_neg zO] at hL
  subst hL
  have e:=Er l h
  simp only [HalfD.cs] at e
  rw [Qc] at hO
  try simp (disch:=omega) only [go_sem,seval,e]
  refine qK (hO) (qI 5 1) ?_
  refine qB (fun h1=>?_) fun h1=>?_
  ·rw [hf h1]
   exact qF (qI 0 1++qI 7 1)
  rw [ht h1]
  try simp only [P_]
  exact qF (qI 0 1++qI 5 1)
 obtain⟨n,rfl⟩:=Qm hb0
 rw [if_pos hb0,P7] at hL
 subst hL
 have e:=Ep l n h
 simp only [HalfD.cs] at e
 rw [P_] at hO
 try simp (disch:=omega) only [go_sem,seval,e]
 refine qK (hO) (qI 3 1) ?_
 refine qB (fun h1=>?_) fun h1=>?_
 ·rw [hf h1]
  exact qF (qI 0 1++qI 5 1)
 rw [ht h1]
 try simp only [P_]
 exact qF (qI 0 1++qI 3 1)
theorem f7 (e:EndD):aP 131 [.ag (e.cs 0)] (e.hp false) (.sc (.bo (bU e.draw 1 999999996))) (e.hp false):=by
 refine qE func131 ntmps131 results131 fun E hE=>?_
 refine qK (aS _ _ _) [] ?_
 exact qF (qI 0 7)
theorem ij (e:EndD):aP 210 [.ag (e.cs 0),.sc (.int .i64 2)] (e.hp false) (.sc (.bo (bU e.draw 1 999999996))) (e.hp false):=by
 refine au func210 zXk rfl fun E hE=>ab 400 ?_
 simp (disch:=omega) only [ntmps210,results210,go_sem,Nat.reduceEqDiff,Nat.reduceAdd,Nat.reduceSub,Int.reduceAdd,Int.reduceSub,Int.reduceToNat]
 refine ai (qC) (aJ _ _ _) [] qM zF (ab 400 ?_)
 simp (disch:=omega) only [go_sem,Nat.reduceEqDiff,Nat.reduceAdd,Nat.reduceSub,Int.reduceAdd,Int.reduceSub,Int.reduceToNat]
 refine aj (qI 0 7) (qC) _ zXg zF zF ?_
 simp (disch:=omega) only [go_sem,Nat.reduceEqDiff,Nat.reduceAdd,Nat.reduceSub,Int.reduceAdd,Int.reduceSub,Int.reduceToNat]
 rfl
theorem Es (n:Int):aP 138 [.sc (.int .i64 n)] [] (.sc (.sl 0 0 1)) [some ⟨(gF n).map AddrD.cs,4,32,true,true⟩]:=by
 refine qE func138 ntmps138 results138 fun E hE=>?_
 refine qJ (qI 0 1) ?_
 rfl
theorem vg (n:Int):aP 216 [.sc (.int .i64 n)] [] (.sc (.sl 0 0 1)) [some ⟨(gF n).map AddrD.cs,4,32,true,true⟩]:=by
 refine qE func216 ntmps216 results216 fun E hE=>?_
 refine qJ (qI 0 1) ?_
 rfl
def O2 (e:EndD) (a b c d i f g:Nat):List Sc:=[.int .i64 e.side,.int .i64 e.state,.int .i64 e.key,.int .i64 e.peer,.int .i64 e.policy.kind,.int .i64 e.policy.many,.sl a 0 e.own.length,.sl b 0 e.far.length,.sl c 0 e.subs.length,.sl d 0 e.halfs.length,.int .i64 e.bucket.rate,.int .i64 e.bucket.burst,.int .i64 e.bucket.cur,.st e.out.text,.int .i64 e.out.base,.int .i64 e.out.sent,.int .i64 e.out.room,.int .i64 e.inp.read,.st e.inp.ready,.sl i 0 e.inp.list.length,.sl f 0 e.done.length,.sl g 0 e.over.length,.int .i64 e.draw,.int .i64 e.now,.int .i64 e.pick]
attribute [go_sem] O2
theorem gY (e:EndD) (h:bU e.draw 1 999999996=true):aP 133 [.sc (.pt 7 0 0)] (e.hp false++[some ⟨[e.cs 0],25,54,true,false⟩]) (.tu [.sc (.int .i64 e.draw),.sc (.int .i64 (e.draw+2))])
  (e.hp false++[some ⟨[EndD.cs { e with draw:=e.draw+4 } 0],25,54,true,false⟩]):=by
 simp only [bU,zk,decide_eq_true_eq] at h
 refine qE func133 ntmps133 results133 fun E hE=>?_
 exact qF (qI 0 8)
theorem oq (e:EndD) (x:LetterD) (hs:Small e):aP 84 [.ag (e.cs 0),.ag x.cs] (e.hp false) (.tu [.ag ((aW e x).1.cs 7),.sc (.sl 14 0 (aW e x).2.length)])
  (e.hp false++((aW e x).1.hp true++[some ⟨(aW e x).2.map LetterD.cs,19,36,true,true⟩])):=by
 have hC:=(qH (aG e))
 have hK:=(qH (bA e))
 have hO:=jO e x.to (by have:=hs.own;omega)
 have hS:=fT e (am x) (by have:=hs.subs;omega)
 have hf:=va (e:=e) (x:=x)
 have ht:=u_ (e:=e) (x:=x)
 have hk:=ku.eq_1 e x
 generalize aW e x=R at*
 refine qE func84 ntmps84 results84 fun E hE=>?_
 refine qK (hC) (qI 0 7) ?_
 refine qK (eG x) [] ?_
 refine qK (hK) (qI 0 7) ?_
 refine qB (fun h1=>?_) fun h1=>?_
 ·refine qK (bL x) [] ?_
  refine qB (fun h2=>?_) fun h2=>?_
  ·refine qB (fun h3=>?_) fun h3=>?_
   ·refine qK (hO) (qI 0 7) ?_
    refine qB (fun h4=>?_) fun h4=>?_
    ·refine qK (aS _ _ _) [] ?_
     refine qB (fun h5=>?_) fun h5=>?_
     ·refine qK (hS) (qI 0 7) ?_
      refine qB (fun h6=>?_) fun h6=>?_
      ·refine qB (fun h7=>?_) fun h7=>?_
       ·refine qK (f7 e) (qI 0 7) ?_
        refine qB (fun h8=>?_) fun h8=>?_
        ·rw [hf (by rw [hk];first|(simp [h8];done)|(simp [h8];intros;omega))]
         exact qF (qI 0 7++qI 10 7++qO 1)
        rw [ht (by rw [hk];simp [h1,h2,h3,h4,h5,h8];omega)]
        refine qK (gY e h8) (qI 10 8) ?_
        refine qK (Es x.frm) [] ?_
        refine aB [(6,7)] [(qU [0,9]),[0,1,2,3,4,5,7,6,8]] zXk (qC) zXk ?_
        simp only [aM]
        refine⟨aa 400 ?_,aa 400 ?_⟩
        all_goals simp (disch:=omega) only [go_sem,seval]
        all_goals
         refine aE (bB (am x) { ac with kind:=2,key:=e.draw,give:=e.draw+2 }) [] ?_
         refine qG ?_
         refine qP (qI 0 7++qI 10 1++qI 19 1++qI 21 1++qI 13 4++qI 22 1) ?_
         first|exact⟨⟩|simp [gF,SubD.cs,LetterD.cs,am,bc,ac]
       rw [hf (by rw [hk];first|(simp [h7];done)|(simp [h7];intros;omega))]
       exact qF (qI 0 7++qI 10 7++qO 1)
      rw [hf (by rw [hk];first|(simp [h6];done)|(simp [h6];intros;omega))]
      exact qF (qI 0 7++qI 10 7++qO 1)
     rw [hf (by rw [hk];first|(simp [h5];done)|(simp [h5];intros;omega))]
     exact qF (qI 0 7++qI 10 7++qO 1)
    rw [hf (by rw [hk];first|(simp [h4];done)|(simp [h4];intros;omega))]
    exact qF (qI 0 7++qI 10 7++qO 1)
   rw [hf (by rw [hk];first|(simp [h3];done)|(simp [h3];intros;omega))]
   exact qF (qI 0 7++qI 10 7++qO 1)
  rw [hf (by rw [hk];first|(simp [h2];done)|(simp [h2];intros;omega))]
  exact qF (qI 0 7++qI 10 7++qO 1)
 rw [hf (by rw [hk];first|(simp [h1];done)|(simp [h1];intros;omega))]
 exact qF (qI 0 7++qI 10 7++qO 1)
def Ho (e:EndD):Hp:=[some ⟨e.own.map AddrD.cs,4,32,false,true⟩,some ⟨e.far.map AddrD.cs,4,32,false,true⟩,some ⟨e.subs.map SubD.cs,10,115,true,true⟩,some ⟨e.halfs.map HalfD.cs,8,214,false,true⟩,some ⟨e.inp.list.map PieceD.cs,2,223,false,true⟩,some ⟨e.done.map bh,1,3,false,true⟩,some ⟨e.over.map bh,1,3,false,true⟩]
attribute [go_sem] Ho
theorem j8 (e:EndD) (s:SubD) (hl:e.subs.length<=1000000):aP 212 [.ag (e.cs 0),.ag s.cs] (Ho e) (.ag (O2 { e with subs:=e.subs++[s] } 0 1 7 3 4 5 6))
  [some ⟨e.own.map AddrD.cs,4,32,false,true⟩,some ⟨e.far.map AddrD.cs,4,32,false,true⟩,none,some ⟨e.halfs.map HalfD.cs,8,214,false,true⟩,some ⟨e.inp.list.map PieceD.cs,2,223,false,true⟩,some ⟨e.done.map bh,1,3,false,true⟩,some ⟨e.over.map bh,1,3,false,true⟩,some ⟨(e.subs++[s]).map SubD.cs,10,115,true,true⟩]:=by
 refine qE func212 ntmps212 results212 fun E hE=>?_
 refine qJ (qI 0 7++qI 11 1) ?_
 simp [SubD.cs]
theorem Gb (e:EndD) (hs:Small e) (h:bU e.draw 1 999999998=true):aP 257 [.ag (e.cs 0)] (e.hp false) (.tu [.ag (EndD.cs { e with draw:=e.draw+2 } 7),.sc (.int .i64 e.draw)]) (e.hp false++e.hp true):=by
 have hC:=(qH (aF e))
 have hr:=aJ e.draw 1 999999998
 rw [h] at hr
 simp only [bU,zk,decide_eq_true_eq] at h
 refine qE func257 ntmps257 results257 fun E hE=>?_
 refine qK (hC) (qI 0 7) ?_
 refine qK (hr) [] ?_
 refine aB [(2,3)] [[0,1,2,3,4],[0,1,3,2,4]] zXk (qC) zXk ?_
 simp only [aM]
 refine⟨aa 400 ?_,aa 400 ?_⟩
 all_goals simp (disch:=omega) only [go_sem,seval]
 all_goals
  refine qG ?_
  exact qF (qI 0 7++qI 9 7)
theorem cQ (e:EndD) (hs:Small e) (h:bU e.draw 1 999999998=true):aP 211 [.ag (e.cs 0)] (e.hp false) (.tu [.ag (EndD.cs { e with draw:=e.draw+2 } 7),.sc (.int .i64 e.draw)]) (e.hp false++e.hp true):=by
 have hC:=Gb e hs h
 refine qE func211 ntmps211 results211 fun E hE=>?_
 refine qK (hC) (qI 0 7) ?_
 exact qF (qI 0 7++qI 9 7)
theorem ot (e:EndD) (x:LetterD) (hs:Small e):aP 166 [.ag (e.cs 0),.ag x.cs] (e.hp false) (.tu [.ag ((aW e x).1.cs 7),.sc (.sl 14 0 (aW e x).2.length)])
  (e.hp false++((aW e x).1.hp true++[some ⟨(aW e x).2.map LetterD.cs,19,36,true,true⟩])):=by
 have hC:=(qH (aF e))
 have hK:=(qH (bz e))
 have hO:=jP e x.to (by have:=hs.own;omega)
 have hS:=fU e (am x) (by have:=hs.subs;omega)
 have hf:=va (e:=e) (x:=x)
 have ht:=u_ (e:=e) (x:=x)
 have hk:=ku.eq_1 e x
 generalize aW e x=R at*
 refine qE func166 ntmps166 results166 fun E hE=>?_
 refine qK (hC) (qI 0 7) ?_
 refine qD [0,1,2,3,4,5,6,7,8,9,10,11,12,13,14,15,16,17,18,19,20,21,22,23,24,25,26,27,28,29,30,31,32,33,34,35,36,37,38,39,40,41,42,43] ?_
 refine aE (hK) (qI 0 7) ?_
 refine qB (fun h1=>?_) fun h1=>?_
 ·refine aE (dq x) [] ?_
  refine qB (fun h2=>?_) fun h2=>?_
  ·refine qB (fun h3=>?_) fun h3=>?_
   ·refine aE (hO) (qI 0 7) ?_
    refine qB (fun h4=>?_) fun h4=>?_
    ·refine aE (aJ _ _ _) [] ?_
     refine qB (fun h5=>?_) fun h5=>?_
     ·refine aE (de x) [] ?_
      refine aE (hS) (qI 0 7) ?_
      refine qB (fun h6=>?_) fun h6=>?_
      ·refine qB (fun h7=>?_) fun h7=>?_
       ·refine aE (ij e) (qI 0 7) ?_
        refine qG ?_
        refine qB (fun h8=>?_) fun h8=>?_
        ·rw [hf (by rw [hk];first|(simp [h8];done)|(simp [h8];intros;omega))]
         exact qF (qI 0 7++qI 10 7++qI 18 1)
        rw [ht (by rw [hk];have:=dB h1;simp [h1,h2,h3,h4,h5,h8];omega)]
        have h8':=h8
        simp only [bU,zk,decide_eq_true_eq] at h8'
        have hd1:bU e.draw 1 999999998=true:=by simp only [bU,zk,decide_eq_true_eq];omega
        have hd2:bU (e.draw+2) 1 999999998=true:=by simp only [bU,zk,decide_eq_true_eq];omega
        refine qK (cQ e hs hd1) (qI 10 7) ?_
        refine qK (cQ { e with draw:=e.draw+2 } ⟨hs.own,hs.far,hs.subs,hs.halfs,hs.list,hs.done,hs.over⟩ hd2) (qI 19 7) ?_
        refine qK (vg x.frm) [] ?_
        refine Im [(0,2),(2,4)] [[1,3,5,0,2,4,6,7,8],[1,3,5,0,4,2,6,7,8],[1,3,5,2,0,4,6,7,8],[1,3,5,4,2,0,6,7,8]] zXk (qC) zXk ?_
        simp only [aM]
        refine⟨kR 400 ?_,kR 400 ?_,kR 400 ?_,kR 400 ?_⟩
        all_goals simp (disch:=omega) only [go_sem,seval]
        all_goals
         refine AP (qC) (de x) [] qM zF (kR 400 ?_)
         simp (disch:=omega) only [go_sem,seval]
         refine AP (qC) (j8 { e with state:=2,key:=e.draw,peer:=x.key,far:=gF x.frm,draw:=e.draw+2+2 } ⟨am x,3,false,0,0,x.give,e.draw+2,0⟩ (by have:=dB h1;dsimp only;omega)) (qI 26 1++qI 33 1++qI 28 5) qM zF (kR 400 ?_)
         simp (disch:=omega) only [go_sem,seval]
         refine qG ?_
         refine aB [(0,9),(3,0),(7,0),(8,0)] [[1,2,4,5,6,3,7,8,0,9,10,11],[1,2,4,5,6,3,7,0,8,9,10,11],[1,2,4,5,6,3,0,7,8,9,10,11],[1,2,4,5,6,0,3,7,8,9,10,11],[1,2,4,5,6,3,7,8,9,0,10,11]] zXk (qC) zXk ?_
         simp only [aM]
         refine⟨aa 400 ?_,aa 400 ?_,aa 400 ?_,aa 400 ?_,aa 400 ?_⟩
         all_goals simp (disch:=omega) only [go_sem,seval]
         all_goals
          refine aE (de x) [] ?_
          refine aE (a_ (am x) { ac with kind:=2,key:=e.draw,give:=e.draw+2 }) [] ?_
          refine qG ?_
          refine aj (qI 0 7++qI 26 1++qI 33 2++qI 29 4++qI 36 1) (qC) _ zXg zF zF ?_
          simp (disch:=omega) only [go_sem,seval]
          try simp [gF,SubD.cs,LetterD.cs,am,bc,ac]
          try omega
       rw [hf (by rw [hk];first|(simp [h7];done)|(simp [h7];intros;omega))]
       refine qG ?_
       exact qF (qI 0 7++qI 10 7++qI 18 1)
      rw [hf (by rw [hk];first|(simp [h6];done)|(simp [h6];intros;omega))]
      refine qG ?_
      exact qF (qI 0 7++qI 10 7++qI 18 1)
     rw [hf (by rw [hk];first|(simp [h5];done)|(simp [h5];intros;omega))]
     refine qG ?_
     exact qF (qI 0 7++qI 10 7++qI 18 1)
    rw [hf (by rw [hk];first|(simp [h4];done)|(simp [h4];intros;omega))]
    refine qG ?_
    exact qF (qI 0 7++qI 10 7++qI 18 1)
   rw [hf (by rw [hk];first|(simp [h3];done)|(simp [h3];intros;omega))]
   refine qG ?_
   exact qF (qI 0 7++qI 10 7++qI 18 1)
  rw [hf (by rw [hk];first|(simp [h2];done)|(simp [h2];intros;omega))]
  refine qG ?_
  exact qF (qI 0 7++qI 10 7++qI 18 1)
 rw [hf (by rw [hk];first|(simp [h1];done)|(simp [h1];intros;omega))]
 refine qG ?_
 exact qF (qI 0 7++qI 10 7++qI 18 1)
theorem uk {a b:RoadD} (h:ew a b=true):a=b:=by
 have h':=h
 simp only [ew,zk,beq_iff_eq] at h'
 obtain⟨a1,a2,a3⟩:=a
 obtain⟨b1,b2,b3⟩:=b
 simp_all
theorem Et {α:Type} {p:α->Bool}:∀ {l:List α} {k n:Nat},eD p k l=((k+n:Nat):Int)->∃ h:n < l.length,p l[n]=true
 |[],k,n,h=>by rw [eD] at h;omega
 |a::r,k,n,h=>by
  rw [eD] at h
  split at h
  ·rename_i hp
   obtain rfl:n=0:=zO
   exact⟨zP,hp⟩
  rcases n with _|n
  ·rcases sf (p:=p) (l:=r) (k:=k+1) with h'|h'<;>omega
  obtain⟨h1,h2⟩:=Et (p:=p) (l:=r) (k:=k+1) (n:=n) (by rw [h];omega)
  exact⟨by simp;omega,by simpa using h2⟩
theorem xN {α:Type} {p:α->Bool} {l:List α} {n:Nat} (h:km p l=(n:Int)):∃ h:n < l.length,p l[n]=true:=Et (k:=0) (by rw [<-km,h];omega)
theorem xO {l:List SubD} {r:RoadD} {n:Nat} (h:bK l r=(n:Int)) (hn:n < l.length):l[n].road=r:=by
 obtain⟨_,hp⟩:=xN h
 simp only [zk] at hp
 exact uk hp.2
theorem vh {l:List HalfD} {r:RoadD} {n:Nat} (h:bV l r=(n:Int)) (hn:n < l.length):l[n].road=r:=by
 obtain⟨_,hp⟩:=xN h
 exact uk hp
theorem bO {e:EndD} (h:aq e=true):dx e.halfs=true:=by
 simp only [aq,zk] at h
 exact h.1.1.1.1.1.1.1.1.2
theorem kG {e:EndD} (h:aq e=true):0<=e.now/\e.now<=1000000000:=by
 simp only [aq,zk,Qo,fv,decide_eq_true_eq] at h
 obtain⟨⟨_,h⟩,_⟩:=h
 omega
theorem ci {l:List HalfD} (h:dx l=true):l.length<=4:=by
 simp only [dx,zk,decide_eq_true_eq] at h
 omega
def cF (e:EndD) (s:SubD):LetterD:=bc s.road { ac with kind:=6,tag:=⟨2,e.key,e.peer,s.mine,s.theirs⟩}
def zU (e:EndD) (x:LetterD):Bool:=
 aq e && cU x && decide (e.state=2) && decide (0<=bK e.subs (am x)) && decide ((bH e.subs (bK e.subs (am x)).toNat).state=1) && decide (x.tag=⟨1,e.peer,e.key,x.nonce,(bH e.subs (bK e.subs (am x)).toNat).mine⟩)
def mf (s:SubD) (x:LetterD):SubD:={ s with state:=2,theirs:=x.nonce,give:=x.give,tries:=0 }
def ba (e:EndD) (x:LetterD):EndD×List LetterD:=
 if zU e x then ({ e with subs:=e.subs.set (bK e.subs (am x)).toNat (mf (bH e.subs (bK e.subs (am x)).toNat) x) },[cF e (mf (bH e.subs (bK e.subs (am x)).toNat) x)]) else (e,[])
theorem NL {e:EndD} {x:LetterD} (h:zU e x=false):ba e x=(e,[]):=by rw [ba,if_neg (by simp [h])]
theorem NM {e:EndD} {x:LetterD} {n:Nat} (h:zU e x=true) (hk:bK e.subs (am x)=(n:Int)) (hn:n < e.subs.length):
  ba e x=({ e with subs:=e.subs.set n (mf e.subs[n] x) },[cF e (mf e.subs[n] x)]):=by
 rw [ba,if_pos h,hk,P7,bQ hn]
theorem M9 {e:EndD} {x:LetterD} {n:Nat} (hk:bK e.subs (am x)=(n:Int)) (hn:n < e.subs.length):
  zU e x=(aq e && cU x && decide (e.state=2) && decide (e.subs[n].state=1) && decide (x.tag=⟨1,e.peer,e.key,x.nonce,e.subs[n].mine⟩)):=by
 rw [zU,hk,P7,bQ hn]
 simp
theorem M_ {e:EndD} {x:LetterD} (hk:bK e.subs (am x)= -1):zU e x=false:=by
 rw [zU,hk]
 simp
def KB (l:List HalfD) (n:Nat):HalfD:=l.getD n default
theorem i_ {l:List HalfD} {n:Nat} (h:n < l.length):KB l n=l[n]:=by simp [KB,List.getD_eq_getElem?_getD,h]
def vT (r:RoadD) (give:Int):LetterD:=bc r { ac with kind:=7,sgn:=give }
def nG (e:EndD) (x:LetterD):Bool:=aq e && cU x && decide (e.state=2)
def Bf (e:EndD) (x:LetterD):HalfD:=KB e.halfs (bV e.halfs (am x)).toNat
def Na (e:EndD) (x:LetterD):SubD:=bH e.subs (bK e.subs (am x)).toNat
def vi (e:EndD) (x:LetterD):Bool:=decide (0<=bV e.halfs (am x)) && decide (e.subs.length < 8) && decide (x.tag=⟨2,e.peer,e.key,(Bf e x).theirs,(Bf e x).mine⟩)
def Mz (e:EndD) (x:LetterD):Bool:=decide (0<=bK e.subs (am x)) && decide ((Na e x).state=3) && decide (x.tag=⟨2,e.peer,e.key,(Na e x).theirs,(Na e x).mine⟩)
def kY (r:RoadD) (h:HalfD):SubD:=⟨r,3,false,h.mine,h.theirs,h.give,h.take,0⟩
def aH (e:EndD) (x:LetterD):EndD×List LetterD:=
 if nG e x then
  if vi e x then ({ e with subs:=(if 0<=bK e.subs (am x) then cE e.subs (bK e.subs (am x)).toNat 4 else e.subs)++[kY (am x) (Bf e x)],halfs:=dO e.halfs (am x) },[vT (am x) (Bf e x).give])
  else if Mz e x then (e,[vT (am x) (Na e x).give]) else (e,[])
 else (e,[])
theorem NN {e:EndD} {x:LetterD} (h:nG e x=false):aH e x=(e,[]):=by rw [aH,if_neg (by simp [h])]
theorem KC {e:EndD} {x:LetterD} (h:nG e x=true) (ha:vi e x=false) (hb:Mz e x=false):aH e x=(e,[]):=by rw [aH,if_pos h,if_neg (by simp [ha]),if_neg (by simp [hb])]
theorem NO {e:EndD} {x:LetterD} {n:Nat} (h:nG e x=true) (ha:vi e x=false) (hb:Mz e x=true) (hk:bK e.subs (am x)=(n:Int)) (hn:n < e.subs.length):
  aH e x=(e,[vT (am x) e.subs[n].give]):=by
 rw [aH,if_pos h,if_neg (by simp [ha]),if_pos hb,Na,hk,P7,bQ hn]
theorem KD {e:EndD} {x:LetterD} {i n:Nat} (h:nG e x=true) (ha:vi e x=true) (hi:bV e.halfs (am x)=(i:Int)) (hin:i < e.halfs.length) (hk:bK e.subs (am x)=(n:Int)) (hn:n < e.subs.length):
  aH e x=({ e with subs:=e.subs.set n { e.subs[n] with state:=4 }++[kY (am x) e.halfs[i]],halfs:=dO e.halfs (am x) },[vT (am x) e.halfs[i].give]):=by
 rw [aH,if_pos h,if_pos ha,Bf,hi,P7,i_ hin,hk,if_pos zO,P7,fd hn]
theorem KE {e:EndD} {x:LetterD} {i:Nat} (h:nG e x=true) (ha:vi e x=true) (hi:bV e.halfs (am x)=(i:Int)) (hin:i < e.halfs.length) (hk:bK e.subs (am x)= -1):
  aH e x=({ e with subs:=e.subs++[kY (am x) e.halfs[i]],halfs:=dO e.halfs (am x) },[vT (am x) e.halfs[i].give]):=by
 rw [aH,if_pos h,if_pos ha,Bf,hi,P7,i_ hin,hk,if_neg zO]
theorem kh {e:EndD} {x:LetterD} {i:Nat} (hi:bV e.halfs (am x)=(i:Int)) (hin:i < e.halfs.length):vi e x=(decide (e.subs.length < 8) && decide (x.tag=⟨2,e.peer,e.key,e.halfs[i].theirs,e.halfs[i].mine⟩)):=by
 rw [vi,Bf,hi,P7,i_ hin]
 simp
theorem Cr {e:EndD} {x:LetterD} (hi:bV e.halfs (am x)= -1):vi e x=false:=by
 rw [vi,hi]
 simp
theorem gj {e:EndD} {x:LetterD} {n:Nat} (hk:bK e.subs (am x)=(n:Int)) (hn:n < e.subs.length):Mz e x=(decide (e.subs[n].state=3) && decide (x.tag=⟨2,e.peer,e.key,e.subs[n].theirs,e.subs[n].mine⟩)):=by
 rw [Mz,Na,hk,P7,bQ hn]
 simp
theorem ul {e:EndD} {x:LetterD} (hk:bK e.subs (am x)= -1):Mz e x=false:=by
 rw [Mz,hk]
 simp
theorem xP {l:List HalfD} {r:RoadD} (h:bV l r= -1):dO l r=l:=by rw [dO,h,if_pos zO]
theorem xQ {l:List HalfD} {r:RoadD} {n:Nat} (h:bV l r=(n:Int)):dO l r=l.take n++l.drop (n+1):=by
 rw [dO,h,if_neg zO,P7]
def qt (e:EndD) (x:LetterD):Bool:=
 aq e && cU x && decide (e.state=2) && decide (x.token=eu e.side) && j4 e.own x.to && decide (e.subs.length < 8) &&
  !(decide (bV e.halfs (am x) < 0) && decide (4<=e.halfs.length)) && bU e.draw 1 999999996 && decide (e.now<=999999994) && (ce e.bucket).2
def fH (e:EndD) (x:LetterD):Bool:=decide (0<=bV e.halfs (am x)) && decide ((Bf e x).theirs=x.nonce) && decide ((Bf e x).give=x.give)
def kZ (e:EndD) (r:RoadD) (h:HalfD):LetterD:=bc r { ac with kind:=5,tag:=⟨1,e.key,e.peer,h.mine,h.theirs⟩,nonce:=h.mine,give:=h.take }
def aL (e:EndD) (x:LetterD):HalfD:=⟨am x,x.nonce,e.draw,x.give,e.draw+2,e.now+6⟩
def cc (e:EndD) (x:LetterD):EndD×List LetterD:=
 if qt e x then
  if fH e x then ({ e with bucket:=(ce e.bucket).1,halfs:=e.halfs.set (bV e.halfs (am x)).toNat { Bf e x with till:=e.now+6 } },[kZ e (am x) (Bf e x)])
  else ({ e with bucket:=(ce e.bucket).1,draw:=e.draw+4,halfs:=(ck e.halfs (aL e x)).1 },[kZ e (am x) (aL e x)])
 else (e,[])
theorem NP {e:EndD} {x:LetterD} (h:qt e x=false):cc e x=(e,[]):=by rw [cc,if_neg (by simp [h])]
theorem NQ {e:EndD} {x:LetterD} {i:Nat} (h:qt e x=true) (hs:fH e x=true) (hi:bV e.halfs (am x)=(i:Int)) (hin:i < e.halfs.length):
  cc e x=({ e with bucket:=(ce e.bucket).1,halfs:=e.halfs.set i { e.halfs[i] with till:=e.now+6 } },[kZ e (am x) e.halfs[i]]):=by
 rw [cc,if_pos h,if_pos hs,Bf,hi,P7,i_ hin]
theorem NR {e:EndD} {x:LetterD} (h:qt e x=true) (hs:fH e x=false):
  cc e x=({ e with bucket:=(ce e.bucket).1,draw:=e.draw+4,halfs:=(ck e.halfs (aL e x)).1 },[kZ e (am x) (aL e x)]):=by
 rw [cc,if_pos h,if_neg (by simp [hs])]
theorem kH {e:EndD} {x:LetterD} {i:Nat} (hi:bV e.halfs (am x)=(i:Int)) (hin:i < e.halfs.length):fH e x=(decide (e.halfs[i].theirs=x.nonce) && decide (e.halfs[i].give=x.give)):=by
 rw [fH,Bf,hi,P7,i_ hin]
 simp
theorem Bg {e:EndD} {x:LetterD} (hi:bV e.halfs (am x)= -1):fH e x=false:=by
 rw [fH,hi]
 simp
theorem Bh {α β:Type} {p:β->Bool} {f:α->β}:∀ {l:List α} {k:Nat},eD p k (l.map f)=eD (fun a=>p (f a)) k l
 |[],k=>rfl
 |a::r,k=>by
  rw [QP,eD,eD,Bh (l:=r)]
theorem xR (l:List HalfD) (r:RoadD):bV l r=km (fun q=>ew q r) (l.map HalfD.road):=(Bh (p:=fun q=>ew q r) (f:=HalfD.road) (l:=l) (k:=0)).symm
theorem IN {l:List HalfD} {i:Nat} (hi:i < l.length) (t:Int):(l.set i { l[i] with till:=t }).map HalfD.road=l.map HalfD.road:=by
 rw [Qt]
 apply List.ext_getElem
 ·simp
 intro n h1 h2
 rw [QI]
 split
 ·rename_i h;subst h;simp
 rfl
theorem Gc {l:List HalfD} {i:Nat} (hi:i < l.length) (t:Int) (r:RoadD):bV (l.set i { l[i] with till:=t }) r=bV l r:=by
 rw [xR,xR,IN]
theorem Eu {l:List HalfD} {i:Nat} (h:dx l=true) (hi:i < l.length) {t:Int} (ht:fv t=true):dx (l.set i { l[i] with till:=t })=true:=by
 simp only [dx,zk,P_] at h⊢
 refine⟨h.1,dG fun j hj=>?_⟩
 have hu:=h.2
 simp only [gw,Qb,Ql] at hu
 have hj':=hu j hj
 simp only [ii,Gc] at hj'⊢
 rw [xE hj] at hj'
 rw [xE (by simpa using hj),QI]
 split
 ·rename_i he
  subst he
  simp only [zk,Qo] at hj'⊢
  exact⟨⟨hj'.1.1,hj'.1.2.1,hj'.1.2.2.1,hj'.1.2.2.2.1,hj'.1.2.2.2.2.1,ht,hj'.1.2.2.2.2.2.2⟩,hj'.2⟩
 exact hj'
theorem Cs {l:List HalfD} {i:Nat} (h:dx l=true) (hi:i < l.length) {t:Int} (ht:fv t=true) (hk:bV l l[i].road=(i:Int)):
  ck l { l[i] with till:=t }=(l.set i { l[i] with till:=t },true):=by
 have e:eR l { l[i] with till:=t }=l.set i { l[i] with till:=t }:=by
  rw [eR,if_pos (by dsimp only;omega)]
  dsimp only
  rw [hk,P7]
 rw [uc (by rw [e];exact Eu h hi ht),e]
theorem ws {α:Type} {p:α->Bool} {l:List α} {k:Nat} (h:k < l.length):((l.drop k).takeWhile p).length=if p l[k] then ((l.drop (k+1)).takeWhile p).length+1 else 0:=by
 rw [P8 h,List.takeWhile_cons]
 split<;>simp
theorem Ct {α:Type} {p:α->Bool} {l:List α} {k:Nat} (h:l.length<=k):((l.drop k).takeWhile p).length=0:=by
 rw [P6 h]
 rfl
def lV (l:List Int) (n:Int):Nat:=(l.takeWhile fun a=>decide (a < n)).length
def jC (l:List Int) (n:Int):List Int:=if lV l n < l.length/\l.getD (lV l n) 0=n then l else l.take (lV l n)++[n]++l.drop (lV l n)
theorem KF {l:List Int} {n:Int} {k:Nat} (hk:lV l n=k) (h:k < l.length) (e:l[k]=n):jC l n=l:=by
 rw [jC,if_pos ⟨zO,by subst hk;simp [P9,h,e]⟩]
theorem KG {l:List Int} {n:Int} {k:Nat} (hk:lV l n=k) (h:k < l.length) (e:¬ l[k]=n):jC l n=l.take k++[n]++l.drop k:=by
 subst hk
 rw [jC,if_neg (fun hc=>e (by have:=hc.2;simpa [P9,h] using this))]
theorem KH {l:List Int} {n:Int} (hk:lV l n=l.length):jC l n=l++[n]:=by
 rw [jC,if_neg zO,hk]
 simp
theorem ow (l:List Int) (n:Int):(jC l n).length<=l.length+1:=by
 rw [jC]
 split
 ·omega
 simp;omega
theorem xS {l:List AddrD} {a:AddrD} {k:Nat} (h:bs l a.id=(k:Int)):dA l a=l.set k a:=by
 rw [dA,h,if_pos zO,P7]
theorem xT {l:List AddrD} {a:AddrD} {k:Nat} (h:bs l a.id= -1) (hk:Eg l a.id=k):dA l a=l.take k++[a]++l.drop k:=by
 rw [dA,h,if_neg zO,hk]
theorem MA (l:List AddrD) (n:Int):Eg l n<=l.length:=(List.takeWhile_prefix _).length_le
theorem ey (l:List AddrD) (a:AddrD):l.length<=(dA l a).length/\(dA l a).length<=l.length+1:=by
 have:=MA l a.id
 rw [dA]
 split<;>simp<;>omega
theorem mS {l:List AddrD} (h:cd l=true):l.length<=6:=by
 simp only [cd,zk,decide_eq_true_eq] at h
 omega
theorem vj {l:List AddrD} {a:AddrD} (h:6 < l.length):bu l a=(l,false):=by
 refine ud ?_
 cases hc:cd (dA l a) with
 |false=>rfl
 |true=>have:=mS hc;have:=(ey l a).1;omega
theorem xU {l:List AddrD} {n:Int} (h:bs l n= -1):bC l n=(l,false):=by rw [bC,h,if_pos zO]
theorem jD {l:List AddrD} {n:Int} {k:Nat} (h:bs l n=(k:Int)):bC l n=(l.take k++l.drop (k+1),true):=by
 rw [bC,h,if_neg zO,P7]
theorem iL {e:EndD} (h:aq e=true):e.far.length<=6:=by
 simp only [aq,zk] at h
 exact mS h.1.1.1.1.1.1.1.1.1.2
theorem mg {α:Type} {f:α->List Sc} {l:List α} {k:Nat} {a:α} {c:List Sc} (hc:f a=c) (h:k<=l.length):
  k+1+(l.length - k)=(l.take k).length+1+(l.drop k).length/\(l.take k).map f++[c]++((l.map f).drop k).take (l.length - k)=(l.take k++[a]++l.drop k).map f:=by
 refine⟨by simp;omega,?_⟩
 have e:((l.map f).drop k).take (l.length - k)=(l.map f).drop k:=Qy zP
 rw [<-hc,e]
 simp [List.map_take,List.map_drop]
theorem MB {α:Type} {f:α->List Sc} {l:List α} {a:α} {c:List Sc} (hc:f a=c):
  l.length+1+(l.length - l.length)=l.length+1/\l.map f++[c]++((l.map f).drop l.length).take (l.length - l.length)=(l++[a]).map f:=by
 rw [<-hc]
 simp
theorem Ev (l:List Int) (n:Int) (hl:l.length<=1048570):aP 157 [.sc (.sl 0 0 l.length),.sc (.int .i64 n)] [some ⟨l.map bh,1,3,false,true⟩]
  (.sc (.sl 1 0 (jC l n).length)) [some ⟨l.map bh,1,3,false,true⟩,some ⟨(jC l n).map bh,1,3,true,true⟩]:=by
 have ht:=fun k=> @KF l n k
 have hf:=fun k=> @KG l n k
 have he:= @KH l n
 generalize jC l n=R at*
 refine qE func157 ntmps157 results157 fun E hE=>?_
 refine fJ 1 hE (fun s (k:Nat)=>s.at (qU [6,14]) [(5,.sc (.int .i64 (k:Nat)))] (s.hp)) (fun (k:Nat)=>k<=l.length/\k+((l.drop k).takeWhile (fun a=>decide (a < n))).length=lV l n) (fun (k:Nat)=>l.length - k) 0 (qI 0 1) (⟨zG _,by simp [lV]⟩) fun k hk N hN=>?_
 obtain⟨hk1,hk2⟩:=hk
 refine qR ?_
 refine qB (fun h=>?_) fun h=>?_
 ·rw [ws h] at hk2
  refine qX ?_
  refine qB (fun h2=>?_) fun h2=>?_
  ·rw [if_pos (by simp [h2])] at hk2
   exact qN hN (k+1) (qI 0 1) (by (try dsimp only);exact⟨zO,zO⟩)
  rw [if_neg zS] at hk2
  refine qX ?_
  refine qB (fun h3=>?_) fun h3=>?_
  ·rw [ht k zO h h3]
   refine qK (dt l zO) (qI 0 1) ?_
   exact qF (qI 0 2)
  rw [hf k zO h h3]
  have hlt:(l.take k).length=k:=by simp;omega
  have hC:=dt (l.take k) zO
  rw [hlt] at hC
  refine aB [(3,5),(3,9),(5,9),(6,9)] [[0,1,2,4,7,8,3,5,6,9,10,11],[0,1,2,4,7,8,3,5,9,6,10,11],[0,1,2,4,7,8,3,9,5,6,10,11],[0,1,2,4,7,8,9,3,5,6,10,11],[0,1,2,4,7,8,5,3,6,9,10,11],[0,1,2,4,7,8,5,3,9,6,10,11],[0,1,2,4,7,8,5,9,3,6,10,11],[0,1,2,4,7,8,9,5,3,6,10,11]] zXk (qC) zXk ?_
  simp only [aM]
  refine⟨aa 400 ?_,aa 400 ?_,aa 400 ?_,aa 400 ?_,aa 400 ?_,aa 400 ?_,aa 400 ?_,aa 400 ?_⟩
  all_goals simp (disch:=omega) only [go_sem,seval]
  all_goals
   refine aE (hC) [some (0,some 0)] ?_
   refine qG ?_
   refine qJ (qI 0 1++qI 4 1) ?_
   exact mg rfl hk1
 rw [Ct zO] at hk2
 obtain rfl:k=l.length:=zO
 rw [he zO]
 refine qX ?_
 refine aB [(3,5),(3,9),(5,9),(6,9)] [[0,1,2,4,7,8,3,5,6,9,10,11],[0,1,2,4,7,8,3,5,9,6,10,11],[0,1,2,4,7,8,3,9,5,6,10,11],[0,1,2,4,7,8,9,3,5,6,10,11],[0,1,2,4,7,8,5,3,6,9,10,11],[0,1,2,4,7,8,5,3,9,6,10,11],[0,1,2,4,7,8,5,9,3,6,10,11],[0,1,2,4,7,8,9,5,3,6,10,11]] zXk (qC) zXk ?_
 simp only [aM]
 refine⟨aa 400 ?_,aa 400 ?_,aa 400 ?_,aa 400 ?_,aa 400 ?_,aa 400 ?_,aa 400 ?_,aa 400 ?_⟩
 all_goals simp (disch:=omega) only [go_sem,seval]
 all_goals
  refine aE (dt l zO) (qI 0 1) ?_
  refine qG ?_
  refine qJ (qI 0 1++qI 4 1) ?_
  exact MB rfl
theorem vk (l:List Int) (n:Int) (hl:l.length<=1048570):aP 230 [.sc (.sl 0 0 l.length),.sc (.int .i64 n)] [some ⟨l.map bh,1,3,false,true⟩]
  (.sc (.sl 1 0 (jC l n).length)) [some ⟨l.map bh,1,3,false,true⟩,some ⟨(jC l n).map bh,1,3,true,true⟩]:=by
 have ht:=fun k=> @KF l n k
 have hf:=fun k=> @KG l n k
 have he:= @KH l n
 have hlen:=ow l n
 generalize jC l n=R at*
 refine qE func230 ntmps230 results230 fun E hE=>?_
 refine fJ 1 hE (fun s (x:Nat×Bool×List Int)=>s.at (qU [8,34]) [(7,.sc (.int .i64 (x.1:Nat))),(6,.sc (.bo x.2.1)),(5,.sc (.sl 1 0 x.2.2.length))] ([some ⟨l.map bh,1,3,false,true⟩,some ⟨x.2.2.map bh,1,3,true,true⟩])) (fun (x:Nat×Bool×List Int)=>x.1<=l.length/\x.2.2.length<=x.1+1/\(x.2.1=true->x.2.2++l.drop x.1=R)/\(x.2.1=false->x.2.2=l.take x.1/\x.1+((l.drop x.1).takeWhile (fun a=>decide (a < n))).length=lV l n)) (fun (x:Nat×Bool×List Int)=>l.length - x.1) (0,false,[]) (qI 0 2) (⟨zG _,zP,zP,fun _=>⟨rfl,by simp [lV]⟩⟩) fun x hx N hN=>?_
 obtain⟨k,b,acc⟩:=x
 obtain⟨hk1,hk2,hk3,hk4⟩:=hx
 dsimp only at hk1 hk2 hk3 hk4
 refine qR ?_
 refine qB (fun h=>?_) fun h=>?_
 ·cases b with
  |true=>
   have hR:=hk3 rfl
   rw [P8 h] at hR
   refine qX ?_
   refine lr hN (k+1,true,acc++[l[k]]) (qI 0 1++qI 3 1) (by (try dsimp only);exact⟨zO,by simp;omega,fun _=>by simpa using hR,fun hc=>by cases hc⟩) ?_
   first|exact⟨⟩|simp [bh]
  |false=>
   obtain⟨ha,hw⟩:=hk4 rfl
   rw [ws h] at hw
   refine qX ?_
   refine qB (fun h2=>?_) fun h2=>?_
   ·refine qX ?_
    refine qB (fun h3=>?_) fun h3=>?_
    ·rw [if_neg zS] at hw
     have hR:=hf k zO h zO
     rw [P8 h] at hR
     refine qX ?_
     refine lr hN (k+1,true,acc++[n]++[l[k]]) (qI 0 1++qI 5 1) (by (try dsimp only);exact⟨zO,by rw [ha];simp;omega,fun _=>by rw [hR,ha];simp,fun hc=>by cases hc⟩) ?_
     first|exact⟨⟩|simp [bh]
    have hq:l[k]=n:=zO
    rw [if_neg zS] at hw
    have hR:=ht k zO h hq
    refine qX ?_
    refine lr hN (k+1,true,acc++[l[k]]) (qI 0 1++qI 3 1) (by (try dsimp only);exact⟨zO,by simp;omega,fun _=>by rw [hR,ha];simp [h],fun hc=>by cases hc⟩) ?_
    first|exact⟨⟩|simp [bh]
   rw [if_pos zS] at hw
   refine qX ?_
   refine lr hN (k+1,false,acc++[l[k]]) (qI 0 1++qI 3 1) (by (try dsimp only);exact⟨zO,by simp;omega,fun hc=>(by cases hc),fun _=>⟨by rw [ha];simp [h],zO⟩⟩) ?_
   first|exact⟨⟩|simp [bh]
 have hkl:k=l.length:=zO
 subst hkl
 cases b with
 |true=>
  have hR:=hk3 rfl
  rw [List.drop_length,Qa] at hR
  subst hR
  refine qX ?_
  exact qF (qI 0 2)
 |false=>
  obtain⟨ha,hw⟩:=hk4 rfl
  rw [Ct zO] at hw
  rw [he zO]
  rw [QH] at ha
  subst ha
  refine qX ?_
  refine qP (qI 0 1++qI 3 1) ?_
  first|exact⟨⟩|simp [bh]
def ox (l:List AddrD) (n:Nat):AddrD:=l.getD n default
theorem ja {l:List AddrD} {n:Nat} (h:n < l.length):ox l n=l[n]:=by simp [ox,List.getD_eq_getElem?_getD,h]
def jb (x:LetterD):AddrD:=⟨x.id,x.addr,x.spare,true⟩
def sD (e:EndD) (x:LetterD):Bool:=decide (0<=bs e.far x.id) && !decide ((ox e.far (bs e.far x.id).toNat).addr=x.addr)
theorem xV {e:EndD} {x:LetterD} (h:bs e.far x.id= -1):sD e x=false:=by rw [sD,h];rfl
theorem xW {e:EndD} {x:LetterD} {i:Nat} (h:bs e.far x.id=(i:Int)) (hi:i < e.far.length):sD e x= !decide (e.far[i].addr=x.addr):=by
 rw [sD,h,P7,ja hi]
 simp
def lC (e:EndD) (x:LetterD):Bool:=
 decide (0<=jj e x) && decide (x.tag=⟨3,e.peer,e.key,x.id,x.addr⟩) && !nF e.over x.id && !sD e x && (bu e.far (jb x)).2
def xX (x:LetterD) (n:Int):LetterD:=bc (am x) { ac with kind:=9,sgn:=n,id:=x.id,addr:=x.addr }
def cv (e:EndD) (x:LetterD):EndD×List LetterD:=
 if lC e x then ({ e with far:=(bu e.far (jb x)).1 },[xX x (bH e.subs (jj e x).toNat).give]) else (e,[])
theorem qu {e:EndD} {x:LetterD} (h:lC e x=false):cv e x=(e,[]):=by rw [cv,if_neg (by simp [h])]
theorem qv {e:EndD} {x:LetterD} {n:Nat} (h:lC e x=true) (ho:jj e x=(n:Int)) (hn:n < e.subs.length):
  cv e x=({ e with far:=(bu e.far (jb x)).1 },[xX x e.subs[n].give]):=by rw [cv,if_pos h,ho,P7,bQ hn]
def ki (e:EndD) (x:LetterD):Bool:=decide (0<=jj e x) && decide (0<=bs e.own x.id) && decide ((ox e.own (bs e.own x.id).toNat).addr=x.addr)
def cx (e:EndD) (x:LetterD):EndD×List LetterD:=
 (if ki e x then { e with own:=e.own.set (bs e.own x.id).toNat { ox e.own (bs e.own x.id).toNat with told:=true } } else e,[])
theorem qw {e:EndD} {x:LetterD} (h:ki e x=false):cx e x=(e,[]):=by rw [cx,if_neg (by simp [h])]
theorem qx {e:EndD} {x:LetterD} {i:Nat} (h:ki e x=true) (hi:bs e.own x.id=(i:Int)) (hl:i < e.own.length):
  cx e x=({ e with own:=e.own.set i { e.own[i] with told:=true } },[]):=by rw [cx,if_pos h,hi,P7,ja hl]
theorem gd {e:EndD} {x:LetterD} {i:Nat} (hi:bs e.own x.id=(i:Int)) (hl:i < e.own.length):ki e x=(decide (0<=jj e x) && decide (e.own[i].addr=x.addr)):=by
 rw [ki,hi,P7,ja hl]
 simp
theorem iM {e:EndD} {x:LetterD} (hi:bs e.own x.id= -1):ki e x=false:=by
 rw [ki,hi]
 simp
def oy (a:Int) (s:SubD):SubD:=if s.road.far=a then { s with state:=4 } else s
def gp (a:Int) (l:List SubD) (k:Nat):List SubD:=(l.take k).map (oy a)++l.drop k
theorem Bi {a:Int} {l:List SubD} {k:Nat}:(gp a l k).length=l.length:=by simp [gp];omega
theorem Ew {a:Int} {l:List SubD} {k:Nat} (h:k < l.length):(gp a l k)[k]? =some l[k]:=by
 have h1:((l.take k).map (oy a)).length=k:=by simp;omega
 rw [gp,List.getElem?_append_right zO,P8 h,h1]
 simp
theorem Bj {a:Int} {l:List SubD} {k:Nat} (h:k < l.length):(gp a l k).set k (oy a l[k])=gp a l (k+1):=by
 have h1:((l.take k).map (oy a)).length=k:=by simp;omega
 rw [gp,gp,List.set_append_right _ _ zO,Qi h,QL,h1]
 simp
 rw [P8 h]
 rfl
theorem xY {a:Int} {l:List SubD} {k:Nat} (h:k < l.length) (hs:¬ l[k].road.far=a):gp a l (k+1)=gp a l k:=by
 rw [gp,gp,Qi h,QL,P8 h]
 simp [oy,hs]
theorem xZ {a:Int} {l:List SubD}:gp a l 0=l:=by simp [gp]
theorem Bk {a:Int} {l:List SubD}:gp a l l.length=l.map (oy a):=by simp [gp]
def qy (e:EndD) (x:LetterD):Bool:=decide (0<=jj e x) && decide (0<=bs e.far x.id)
def cy (e:EndD) (x:LetterD):EndD×List LetterD:=
 (if qy e x then { e with far:=(bC e.far x.id).1,over:=jC e.over x.id,subs:=e.subs.map (oy (ox e.far (bs e.far x.id).toNat).addr) } else e,[])
theorem x3 {e:EndD} {x:LetterD} (h:qy e x=false):cy e x=(e,[]):=by rw [cy,if_neg (by simp [h])]
theorem x4 {e:EndD} {x:LetterD} {i:Nat} (h:qy e x=true) (hi:bs e.far x.id=(i:Int)) (hl:i < e.far.length):
  cy e x=({ e with far:=(bC e.far x.id).1,over:=jC e.over x.id,subs:=e.subs.map (oy e.far[i].addr) },[]):=by rw [cy,if_pos h,hi,P7,ja hl]
theorem jS {p:Nat->Bool} {n j:Nat} (h:gw p n=true) (hj:j < n):p j=true:=by
 simp only [gw,Qb,Ql] at h
 exact h j hj
theorem x5 {l:List Int} {m:List AddrD} (h:pO l m=true):l.length<=256:=by
 simp only [pO,zk] at h
 have hup:∀ j:Nat,j < l.length->(j:Int)<=l.getD j 0:=by
  intro j
  induction j with
  |zero=>
   intro hj
   have:=jS h.2 hj
   simp only [iP,bU,zk,decide_eq_true_eq] at this
   omega
  |succ j ih=>
   intro hj
   have h1:=ih zO
   have h2:=jS h.1 hj
   simp only [dQ,Qr,beq_iff_eq,decide_eq_true_eq,Nat.add_sub_cancel] at h2
   omega
 rcases Nat.eq_zero_or_pos l.length with h0|h0
 ·omega
 have h1:=hup (l.length - 1) zO
 have h2:=jS h.2 (j:=l.length - 1) zO
 simp only [iP,bU,zk,decide_eq_true_eq] at h2
 omega
theorem x6 {e:EndD} (h:aq e=true):e.over.length<=256:=by
 simp only [aq,zk] at h
 exact x5 h.1.1.1.2
def x7:List PieceD->Nat
 |[]=>0
 |x::r=>x.text.length+x7 r
theorem Cu {M:Nat}:∀ {l:List PieceD},(∀ x∈l,x.text.length<=M)->x7 l<=l.length*M
 |[],_=>by simp [x7]
 |x::r,h=>by
  have h1:=h x zP
  have h2:=Cu (l:=r) (M:=M) (fun y hy=>h y (by simp [hy]))
  simp only [x7,Qd,Nat.add_mul,Nat.one_mul]
  omega
theorem Ex:∀ {l:List PieceD} {x:PieceD},x∈l->x.text.length<=x7 l
 |[],x,h=>by simp at h
 |y::r,x,h=>by
  simp only [Qg] at h
  simp only [x7]
  rcases h with rfl|h
  ·omega
  have:=Ex h;omega
theorem mU:∀ {l:List PieceD} {n:Int},0<=n->n+(x7 l:Int)<=4611686018427387904->jy n l=n+(x7 l:Int)
 |[],n,h0,h=>by simp [jy,x7]
 |x::r,n,h0,h=>by
  simp only [x7,QM] at h
  rw [jy,He zO,mU zO zO]
  simp only [x7,QM]
  omega
theorem x8:∀ {l:List PieceD} {en:Int},0<=en->(∀ x∈l,x.text.length<=200)->jA en l=true->∀ x∈l,0<=x.pos/\x.pos<=2000000000
 |[],_,_,_,_=>by simp
 |y::r,en,h0,hl,h=>by
  simp only [jA,zk,decide_eq_true_eq] at h
  obtain⟨⟨⟨_,h1⟩,h2⟩,h3⟩:=h
  have hy:=hl y zP
  rw [He zO] at h3
  intro x hx
  simp only [Qg] at hx
  rcases hx with rfl|hx
  ·exact⟨zO,h1⟩
  exact x8 zO (fun z hz=>hl z (by simp [hz])) h3 x hx
structure SmallP (p:PiecesD):Prop where
 list:p.list.length<=1048576
 ready:p.ready.length<=1048576
 texts:∀ x∈p.list,x.text.length<=1048576
structure FineP (p:PiecesD):Prop where
 r0:0<=p.read
 r1:p.read<=1000000000
 list:p.list.length<=20
 ready:p.ready.length<=200
 texts:∀ x∈p.list,x.text.length<=200/\0<=x.pos/\x.pos<=2000000000
 next:nextOf p=p.read+(p.ready.length:Int)
theorem dX {p:PiecesD} (h:piecesOk p=true) (hs:SmallP p):FineP p:=by
 simp only [piecesOk,fv,zk,decide_eq_true_eq] at h
 obtain⟨⟨⟨⟨h0,h1⟩,h2⟩,h3⟩,h4⟩:=h
 have hle:=Cu hs.texts
 have hr:=hs.ready
 have hm:p.list.length*1048576<=20*1048576:=Nat.mul_le_mul_right _ zO
 rw [mM,mU zO zO] at h3
 have hn:nextOf p=p.read+(p.ready.length:Int):=by rw [nextOf,He zO]
 have ht:∀ x∈p.list,x.text.length<=200:=fun x hx=>by have:=Ex hx;omega
 refine⟨h0,h1,zO,zO,fun x hx=>⟨ht x hx,?_⟩,hn⟩
 rw [hn] at h4
 exact x8 zO ht h4 x hx
def jn (a b:PieceD):PieceD:=
 if b.pos < a.pos then⟨b.pos,b.text.take (a.pos - b.pos).toNat++a.text++b.text.drop ((a.pos - b.pos).toNat+a.text.length)⟩
 else⟨a.pos,a.text++b.text.drop (a.pos+(a.text.length:Int) - b.pos).toNat⟩
theorem Ey {a b:PieceD} {n:Nat} (h:a.pos - b.pos=(n:Int)) (h0:0 < n):jn a b=⟨b.pos,b.text.take n++a.text++b.text.drop (n+a.text.length)⟩:=by
 rw [jn,if_pos zO,h,P7]
theorem Ez {a b:PieceD} {n:Nat} (h:b.pos - a.pos=(n:Int)):jn a b=⟨a.pos,a.text++b.text.drop (a.text.length - n)⟩:=by
 rw [jn,if_neg zO,show (a.pos+(a.text.length:Int) - b.pos).toNat=a.text.length - n by omega]
theorem IP {a b:PieceD}:(jn a b).text.length<=a.text.length+b.text.length:=by
 rw [jn]
 split<;>simp<;>omega
theorem IQ {a b:PieceD}:(jn a b).pos=a.pos\/(jn a b).pos=b.pos:=by
 rw [jn]
 split
 ·exact .inr rfl
 exact .inl rfl
structure PpS where
 own:PieceD
 laid:Bool
 acc:List PieceD
def mV (g:PpS) (x:PieceD):PpS:=
 if x.pos+(x.text.length:Int) < g.own.pos then { g with acc:=g.acc++[x] }
 else if g.own.pos+(g.own.text.length:Int) < x.pos then⟨g.own,true,(if g.laid then g.acc else g.acc++[g.own])++[x]⟩
 else { g with own:=jn x g.own }
theorem sE {g:PpS} {x:PieceD} (h:x.pos+(x.text.length:Int) < g.own.pos):mV g x=⟨g.own,g.laid,g.acc++[x]⟩:=if_pos h
theorem sF {g:PpS} {x:PieceD} (h:¬ x.pos+(x.text.length:Int) < g.own.pos) (h2:g.own.pos+(g.own.text.length:Int) < x.pos):
  mV g x=⟨g.own,true,(if g.laid then g.acc else g.acc++[g.own])++[x]⟩:=by rw [mV,if_neg h,if_pos h2]
theorem sG {g:PpS} {x:PieceD} (h:¬ x.pos+(x.text.length:Int) < g.own.pos) (h2:¬ g.own.pos+(g.own.text.length:Int) < x.pos):
  mV g x=⟨jn x g.own,g.laid,g.acc⟩:=by rw [mV,if_neg h,if_neg h2]
def qz (g:PpS) (l:List PieceD):PpS:=l.foldl mV g
theorem oX {g:PpS} {l:List PieceD} {k:Nat} (h:k < l.length):qz g (l.drop k)=qz (mV g l[k]) (l.drop (k+1)):=by
 rw [P8 h]
 rfl
theorem sH {g:PpS} {l:List PieceD} {k:Nat} (h:l.length<=k):qz g (l.drop k)=g:=by
 rw [P6 h]
 rfl
def nC (g:PpS):List PieceD:=if g.laid then g.acc else g.acc++[g.own]
def vm (p:PiecesD) (l:List PieceD):PiecesD:=if (l.headD default).pos=nextOf p then⟨p.read,p.ready++(l.headD default).text,l.tail⟩ else⟨p.read,p.ready,l⟩
def pY (p:PiecesD) (l:List PieceD):PiecesD:=if piecesOk (vm p l) then vm p l else p
def x9 (p:PiecesD) (at':Int) (text:List UInt8):Bool:=piecesOk p && fv at' && bU (text.length:Int) 1 200
def vn (p:PiecesD) (at':Int) (text:List UInt8):PiecesD:=pY p (nC (qz ⟨⟨at',text⟩,false,[]⟩ p.list))
def cz (p:PiecesD) (at':Int) (text:List UInt8):PiecesD:=
 if x9 p at' text then
  if nextOf p - at'>=text.length then p
  else if 0 < nextOf p - at' then vn p (nextOf p) (text.drop (nextOf p - at').toNat) else vn p at' text
 else p
theorem O3 {p:PiecesD} {n:Int} {t:List UInt8} (h:x9 p n t=false):cz p n t=p:=by rw [cz,if_neg (by simp [h])]
theorem KI {p:PiecesD} {n:Int} {t:List UInt8} (h:x9 p n t=true) (h2:(t.length:Int)<=nextOf p - n):cz p n t=p:=by rw [cz,if_pos h,if_pos h2]
theorem KJ {p:PiecesD} {n:Int} {t:List UInt8} {k:Nat} (h:x9 p n t=true) (hk:nextOf p - n=(k:Int)) (h1:k < t.length) (h0:0 < k):cz p n t=vn p (nextOf p) (t.drop k):=by
 rw [cz,if_pos h,if_neg zO,if_pos zO,hk,P7]
theorem KL {p:PiecesD} {n:Int} {t:List UInt8} (h:x9 p n t=true) (h0:nextOf p<=n):cz p n t=vn p n t:=by
 have:bU (t.length:Int) 1 200=true:=by simp only [x9,zk] at h;exact h.2
 simp only [bU,zk,decide_eq_true_eq] at this
 rw [cz,if_pos h,if_neg zO,if_neg zO]
theorem fA {p:PiecesD} {l:List PieceD} (h:piecesOk (vm p l)=false):pY p l=p:=by rw [pY,if_neg (by simp [h])]
theorem fB {p:PiecesD} {l:List PieceD} (h:piecesOk (vm p l)=true):pY p l=vm p l:=by rw [pY,if_pos h]
structure PpI (k:Nat) (g:PpS):Prop where
 pos:0<=g.own.pos/\g.own.pos<=2000000000
 own:g.own.text.length<=200+200*k
 acc:g.acc.length<=k+(if g.laid then 1 else 0)
 texts:∀ z∈g.acc,z.text.length<=5000
 some:g.laid=true->g.acc≠[]
theorem oz {n:Int} {t:List UInt8} (h0:0<=n) (h1:n<=2000000000) (ht:t.length<=200):PpI 0 ⟨⟨n,t⟩,false,[]⟩:=
 ⟨⟨h0,h1⟩,by simpa using ht,zP,zP,zP⟩
theorem Bl {k:Nat} {g:PpS} {x:PieceD} (h:PpI k g) (hx:x.text.length<=200):PpI (k+1) ⟨g.own,g.laid,g.acc++[x]⟩:=by
 refine⟨h.pos,by have:=h.own;dsimp only;omega,?_,?_,zP⟩
 ·have:=h.acc
  simp only [Qc,List.length_singleton]
  split at this<;>simp_all<;>omega
 intro z hz
 simp only [Qn,QD] at hz
 rcases hz with hz|rfl
 ·exact h.texts z hz
 omega
theorem x_ {k:Nat} {g:PpS} {x:PieceD} (h:PpI k g) (hl:g.laid=true) (hx:x.text.length<=200):PpI (k+1) ⟨g.own,true,g.acc++[x]⟩:=by
 have:=Bl h hx
 rw [hl] at this
 exact this
theorem ya {k:Nat} {g:PpS} {x:PieceD} (h:PpI k g) (hk:k<=20) (hl:g.laid=false) (hx:x.text.length<=200):PpI (k+1) ⟨g.own,true,g.acc++[g.own]++[x]⟩:=by
 refine⟨h.pos,by have:=h.own;dsimp only;omega,?_,?_,zP⟩
 ·have:=h.acc
  rw [hl] at this
  simp at this⊢
  omega
 intro z hz
 have ho:=h.own
 simp only [Qn,QD] at hz
 rcases hz with (hz|rfl)|rfl
 ·exact h.texts z hz
 ·omega
 omega
theorem EA {k:Nat} {g:PpS} {x:PieceD} (h:PpI k g) (hx:x.text.length<=200) (h0:0<=x.pos) (h1:x.pos<=2000000000):PpI (k+1) ⟨jn x g.own,g.laid,g.acc⟩:=by
 have hp:=h.pos
 refine⟨?_,?_,?_,h.texts,h.some⟩
 ·dsimp only
  rcases IQ (a:=x) (b:=g.own) with e|e<;>rw [e]<;>omega
 ·have:=h.own
  have:=IP (a:=x) (b:=g.own)
  dsimp only
  omega
 have:=h.acc
 dsimp only
 omega
theorem mW {k:Nat} {g:PpS} (h:PpI k g) (hk:k<=20):∃ y r,nC g=y::r/\y.text.length<=5000/\(y::r).length<=100:=by
 have ha:=h.acc
 have ho:=h.own
 rw [nC]
 cases hl:g.laid with
 |true=>
  rw [hl] at ha
  simp at ha⊢
  cases hg:g.acc with
  |nil=>exact absurd hg (h.some hl)
  |cons y r=>
   rw [hg] at ha
   simp at ha
   exact⟨y,r,rfl,h.texts y (by simp [hg]),zO⟩
 |false=>
  rw [hl] at ha
  simp at ha⊢
  cases hg:g.acc with
  |nil=>exact⟨g.own,[],rfl,zO,zP⟩
  |cons y r=>
   rw [hg] at ha
   simp at ha
   exact⟨y,r++[g.own],zP,h.texts y (by simp [hg]),by simp;omega⟩
theorem lD {p:PiecesD} {y:PieceD} {r:List PieceD} (h:y.pos=nextOf p):vm p (y::r)=⟨p.read,p.ready++y.text,r⟩:=if_pos h
theorem lE {p:PiecesD} {y:PieceD} {r:List PieceD} (h:¬ y.pos=nextOf p):vm p (y::r)=⟨p.read,p.ready,y::r⟩:=if_neg h
theorem sI {p:PiecesD} {n:Int} {t:List UInt8} {G:PpS} {l:List PieceD} (hG:qz ⟨⟨n,t⟩,false,[]⟩ p.list=G) (hl:nC G=l):vn p n t=pY p l:=by rw [vn,hG,hl]
theorem EB {p:PiecesD} (h:piecesOk p=true):p.list.length<=20:=by
 simp only [piecesOk,zk,decide_eq_true_eq] at h
 omega
theorem KM (p:PiecesD) (l:List PieceD):pY p l=p\/piecesOk (pY p l)=true:=by
 rw [pY]
 split
 ·rename_i h;exact .inr h
 exact .inl rfl
theorem vp (p:PiecesD) (n:Int) (t:List UInt8):cz p n t=p\/piecesOk (cz p n t)=true:=by
 rw [cz]
 split
 ·split
  ·exact .inl rfl
  split<;>exact KM _ _
 exact .inl rfl
theorem oA {p:PiecesD} {n:Int} {t:List UInt8} (h:p.list.length<=1048576):(cz p n t).list.length<=1048576:=by
 rcases vp p n t with e|e
 ·rw [e];exact h
 have:=EB e;omega
def sK (e:EndD) (x:LetterD):PiecesD:=cz e.inp x.pos x.text
def qQ (e:EndD) (x:LetterD):Bool:=decide (0<=jj e x) && decide (nextOf (sK e x)<=1000000000)
def EC (x:LetterD) (n m:Int):LetterD:=bc (am x) { ac with kind:=12,sgn:=n,pos:=m }
def cA (e:EndD) (x:LetterD):EndD×List LetterD:=
 if qQ e x then ({ e with inp:=sK e x },[EC x (bH e.subs (jj e x).toNat).give (nextOf (sK e x))]) else (e,[])
theorem qT {e:EndD} {x:LetterD} (h:qQ e x=false):cA e x=(e,[]):=by rw [cA,if_neg (by simp [h])]
theorem q7 {e:EndD} {x:LetterD} {n:Nat} (h:qQ e x=true) (ho:jj e x=(n:Int)) (hn:n < e.subs.length):
  cA e x=({ e with inp:=sK e x },[EC x e.subs[n].give (nextOf (sK e x))]):=by rw [cA,if_pos h,ho,P7,bQ hn]
def EndD.hpS (x:EndD):Hp:=[some ⟨x.own.map AddrD.cs,4,32,true,true⟩,some ⟨x.far.map AddrD.cs,4,32,true,true⟩,some ⟨x.subs.map SubD.cs,10,115,true,true⟩,some ⟨x.halfs.map HalfD.cs,8,214,true,true⟩,some ⟨x.inp.list.map PieceD.cs,2,223,false,true⟩,some ⟨x.done.map bh,1,3,true,true⟩,some ⟨x.over.map bh,1,3,true,true⟩]
attribute [go_sem] EndD.hpS
def dJ (e:EndD) (x:LetterD):Bool:=aq e && cU x && j4 e.own x.to
def cR (e:EndD) (x:LetterD):EndD×List LetterD:=
 if dJ e x then
  if x.kind=1 then aW e x else if x.kind=2 then bE e x else if x.kind=4 then cc e x else if x.kind=5 then ba e x
  else if x.kind=6 then aH e x else if x.kind=7 then bl e x else if x.kind=8 then cv e x else if x.kind=9 then cx e x
  else if x.kind=10 then cy e x else if x.kind=11 then cA e x else if x.kind=12 then cm e x else if x.kind=13 then bP e x else (e,[])
 else (e,[])
theorem um {e:EndD} {x:LetterD} (h:dJ e x=false):cR e x=(e,[]):=by rw [cR,if_neg (by simp [h])]
theorem Gd {e:EndD} {x:LetterD} (h:∀ k:Int,k=1\/k=2\/4<=k/\k<=13->¬ x.kind=k):cR e x=(e,[]):=by
 by_cases hc:dJ e x=true
 ·rw [cR,if_pos hc,if_neg (h 1 zO),if_neg (h 2 zO),if_neg (h 4 zO),if_neg (h 5 zO),if_neg (h 6 zO),if_neg (h 7 zO),if_neg (h 8 zO),if_neg (h 9 zO),if_neg (h 10 zO),if_neg (h 11 zO),if_neg (h 12 zO),if_neg (h 13 zO)]
 exact um (by simpa using hc)
theorem yb {e:EndD} {x:LetterD} (h:dJ e x=true) (hk:x.kind=1):cR e x=aW e x:=by rw [cR,if_pos h];simp [hk]
theorem yc {e:EndD} {x:LetterD} (h:dJ e x=true) (hk:x.kind=2):cR e x=bE e x:=by rw [cR,if_pos h];simp [hk]
theorem Cw {e:EndD} {x:LetterD} (h:dJ e x=true) (hk:x.kind=4):cR e x=cc e x:=by rw [cR,if_pos h];simp [hk]
theorem Cx {e:EndD} {x:LetterD} (h:dJ e x=true) (hk:x.kind=5):cR e x=ba e x:=by rw [cR,if_pos h];simp [hk]
theorem Cy {e:EndD} {x:LetterD} (h:dJ e x=true) (hk:x.kind=6):cR e x=aH e x:=by rw [cR,if_pos h];simp [hk]
theorem Cz {e:EndD} {x:LetterD} (h:dJ e x=true) (hk:x.kind=7):cR e x=bl e x:=by rw [cR,if_pos h];simp [hk]
theorem CA {e:EndD} {x:LetterD} (h:dJ e x=true) (hk:x.kind=8):cR e x=cv e x:=by rw [cR,if_pos h];simp [hk]
theorem CB {e:EndD} {x:LetterD} (h:dJ e x=true) (hk:x.kind=9):cR e x=cx e x:=by rw [cR,if_pos h];simp [hk]
theorem sL {e:EndD} {x:LetterD} (h:dJ e x=true) (hk:x.kind=10):cR e x=cy e x:=by rw [cR,if_pos h];simp [hk]
theorem wt {e:EndD} {x:LetterD} (h:dJ e x=true) (hk:x.kind=11):cR e x=cA e x:=by rw [cR,if_pos h];simp [hk]
theorem wu {e:EndD} {x:LetterD} (h:dJ e x=true) (hk:x.kind=12):cR e x=cm e x:=by rw [cR,if_pos h];simp [hk]
theorem sM {e:EndD} {x:LetterD} (h:dJ e x=true) (hk:x.kind=13):cR e x=bP e x:=by rw [cR,if_pos h];simp [hk]
theorem Af (e:EndD) (hl:e.subs.length<=1048576):aP 278 [.ag (e.cs 0)] (e.hp false) (.sc (.sl 7 0 (fF e.subs).length)) (e.hp false++[some ⟨(fF e.subs).map ll,1,3,true,true⟩]):=by
 have hon:=mL e.subs
 obtain⟨q,hq⟩:∃ q,q=(jm e.subs).filter (Hj e.subs):=⟨_,rfl⟩
 have hc:fF e.subs=if q.length=0 then jm e.subs else q:=by rw [fF,hq]
 have hqn:q.length<=1048576:=by rw [hq];exact QB (Qq _ _) zO
 generalize fF e.subs=cn at hc
 refine qE func278 ntmps278 results278 fun E hE=>?_
 refine qK (ue e hl) (qI 0 7) ?_
 refine fJ 7 hE (fun s (x:Nat×List Nat)=>s.at (qU [0,1,6,3,12,15]) [(11,.sc (.int .i64 (x.1:Nat))),(3,.sc (.sl 9 0 x.2.length))] (e.hp false++[some ⟨[e.cs 0],25,54,true,false⟩,some ⟨(jm e.subs).map ll,1,3,true,true⟩,some ⟨x.2.map ll,1,3,true,true⟩])) (fun (x:Nat×List Nat)=>x.1<=(jm e.subs).length/\x.2.length<=x.1/\x.2++((jm e.subs).drop x.1).filter (Hj e.subs)=q) (fun (x:Nat×List Nat)=>(jm e.subs).length - x.1) (0,[]) (qI 0 9++qO 1) (⟨zG _,zG _,by rw [hq];rfl⟩) fun x hx N hN=>?_
 obtain⟨k,acc⟩:=x
 obtain⟨hk1,hk2,hk3⟩:=hx
 dsimp only at hk1 hk2 hk3
 refine qR ?_
 refine qB (fun h=>?_) fun h=>?_
 ·have hlt:=t7 h
  rw [lA h] at hk3
  refine qX ?_
  cases h2:e.subs[(jm e.subs)[k]].spare with
  |false=>
   have hp:Hj e.subs (jm e.subs)[k]=true:=by rw [Hj,eI hlt,h2];rfl
   rw [if_pos hp] at hk3
   try simp (disch:=omega) only [go_sem,seval,h2]
   refine lr hN (k+1,acc++[(jm e.subs)[k]]) (qI 0 9++qI 11 1) (by (try dsimp only);exact⟨zO,by simp;omega,by simpa using hk3⟩) ?_
   first|exact⟨⟩|simp [ll]
  |true=>
   have hp:Hj e.subs (jm e.subs)[k]=false:=by rw [Hj,eI hlt,h2];rfl
   rw [if_neg (by simp [hp])] at hk3
   try simp (disch:=omega) only [go_sem,seval,h2]
   exact qN hN (k+1,acc) (qI 0 10) (by (try dsimp only);exact⟨zO,zO,hk3⟩)
 rw [P6 zO,Qs,Qa] at hk3
 subst hk3
 refine qX ?_
 refine qB (fun h2=>?_) fun h2=>?_
 ·rw [if_pos zO] at hc
  subst hc
  exact qF (qI 0 7++qI 8 1)
 rw [if_neg zO] at hc
 subst hc
 exact qF (qI 0 7++qI 9 1)
def bD (e:EndD):Int:=if aq e=true/\(fF e.subs).length≠0 then (((fF e.subs).getD (e.pick.toNat % (fF e.subs).length) 0:Nat):Int) else -1
theorem pZ (e:EndD):bD e= -1\/∃ m:Nat,m < e.subs.length/\bD e=(m:Int):=by
 rw [bD]
 split
 ·rename_i h
  right
  have hz:e.pick.toNat % (fF e.subs).length < (fF e.subs).length:=QK _ zO
  refine⟨_,?_,rfl⟩
  rw [P9,Qe hz]
  exact Ko (Qh hz)
 exact .inl rfl
theorem lc {e:EndD} (h:aq e=true):0<=e.pick/\e.pick<=1000000000:=by
 simp only [aq,zk] at h
 have h1:=h.1.2
 simp only [Qo,zk,fv,decide_eq_true_eq] at h1
 exact h1.2.2.2.2.1
theorem yq {p:Int} {n:Nat} (hp:0<=p) (hn:0 < n):∃ z:Nat,p.tmod (n:Int)=(z:Int)/\z < n/\z=p.toNat % n:=by
 obtain⟨q,rfl⟩:=Qm hp
 refine⟨q % n,?_,QK _ hn,zP⟩
 rw [Int.tmod_eq_emod_of_nonneg zO]
 omega
theorem rc {e:EndD} {z:Nat} (h1:aq e=true) (hz:z < (fF e.subs).length) (hz2:z=e.pick.toNat % (fF e.subs).length):bD e=(((fF e.subs)[z]:Nat):Int):=by
 rw [bD,if_pos ⟨h1,zO⟩,<-hz2,P9,Qe hz]
 rfl
def jF (n:Int):Int:=if 1000000000<=n then 0 else n+1
def Hs (e:EndD):Nat->List Int->List Int
 |0,out=>out
 |f+1,out=>Hs { e with pick:=jF e.pick } f (if 0<=bD e then out.set (bD e).toNat (IntKind.i64.wrap (out.getD (bD e).toNat 0+1)) else out)
def P3 (e:EndD) (n:Int):List Int:=if aq e && bU n 0 100 then Hs e n.toNat (List.replicate e.subs.length 0) else []
theorem CO (e:EndD) (h0:e.own.length<=1048576) (h1:e.far.length<=1048576) (h2:e.subs.length<=1048576) (h3:e.halfs.length<=1048576) (h4:e.inp.list.length<=1048576) (h5:e.done.length<=1048576) (h6:e.over.length<=1048576):aP 240 [.ag (e.cs 0)] (e.hp false) (.sc (.int .i64 (bD e))) (e.hp false):=by
 have hcl:=A8 e.subs
 refine qE func240 ntmps240 results240 fun E hE=>?_
 refine qK (Af e h2) (qI 0 7) ?_
 refine qK (bA e h0 h1 h2 h3 h4 h5 h6) (qI 0 7) ?_
 refine qB (fun g1=>?_) fun g1=>?_
 ·refine qB (fun g2=>?_) fun g2=>?_
  ·have hr:bD e= -1:=by rw [bD,if_neg zO]
   rw [hr]
   exact qF (qI 0 7)
  have g2':(fF e.subs).length≠0:=zO
  have hpk:=lc g1
  obtain⟨z,hz,hz1,hz2⟩:=yq hpk.1 (show 0 < (fF e.subs).length by omega)
  rw [rc g1 hz1 hz2]
  try simp (disch:=omega) only [go_sem,seval,hz,aC hz1]
  exact qF (qI 0 7)
 have hr:bD e= -1:=by rw [bD,if_neg (by simp [g1])]
 rw [hr]
 exact qF (qI 0 7)
theorem CP (e:EndD) (h0:e.own.length<=1048576) (h1:e.far.length<=1048576) (h2:e.subs.length<=1048576) (h3:e.halfs.length<=1048576) (h4:e.inp.list.length<=1048576) (h5:e.done.length<=1048576) (h6:e.over.length<=1048576):aP 258 [.ag (e.cs 0)] (e.hp false) (.sc (.int .i64 (bD e))) (e.hp false):=by
 have hcl:=A8 e.subs
 have hon:=mL e.subs
 obtain⟨q,hq⟩:∃ q,q=(jm e.subs).filter (Hj e.subs):=⟨_,rfl⟩
 have hc:fF e.subs=if q.length=0 then jm e.subs else q:=by rw [fF,hq]
 have hqn:q.length<=1048576:=by rw [hq];exact QB (Qq _ _) zO
 refine qE func258 ntmps258 results258 fun E hE=>?_
 refine qK (bz e h0 h1 h2 h3 h4 h5 h6) (qI 0 7) ?_
 refine qB (fun g1=>?_) fun g1=>?_
 ·have hr:bD e= -1:=by rw [bD,if_neg (by simp [g1])]
  rw [hr]
  exact qF (qI 0 7)
 refine qK (uf e h2) (qI 0 7) ?_
 refine fJ 7 hE (fun s (x:Nat×List Nat)=>s.at (qU [0,1,6,29]) [(5,.sc (.int .i64 (x.1:Nat))),(4,.sc (.sl 9 0 x.2.length))] (e.hp false++[some ⟨[e.cs 0],25,54,true,false⟩,some ⟨(jm e.subs).map ll,1,3,true,true⟩,some ⟨x.2.map ll,1,3,true,true⟩])) (fun (x:Nat×List Nat)=>x.1<=(jm e.subs).length/\x.2.length<=x.1/\x.2++((jm e.subs).drop x.1).filter (Hj e.subs)=q) (fun (x:Nat×List Nat)=>(jm e.subs).length - x.1) (0,[]) (qI 0 10) (⟨zG _,zG _,by rw [hq];rfl⟩) fun x hx N hN=>?_
 obtain⟨k,acc⟩:=x
 obtain⟨hk1,hk2,hk3⟩:=hx
 dsimp only at hk1 hk2 hk3
 refine qR ?_
 refine qB (fun h=>?_) fun h=>?_
 ·have hlt:=t7 h
  rw [lA h] at hk3
  refine qD [0,1,2,3,4,5,6,7,8,9] ?_
  refine qX ?_
  refine qG ?_
  cases h8:e.subs[(jm e.subs)[k]].spare with
  |false=>
   have hp:Hj e.subs (jm e.subs)[k]=true:=by rw [Hj,eI hlt,h8];rfl
   rw [if_pos hp] at hk3
   try simp (disch:=omega) only [go_sem,seval,h8]
   refine lr hN (k+1,acc++[(jm e.subs)[k]]) (qI 0 9++qI 11 1) (by (try dsimp only);exact⟨zO,by simp;omega,by simpa using hk3⟩) ?_
   first|exact⟨⟩|simp [ll]
  |true=>
   have hp:Hj e.subs (jm e.subs)[k]=false:=by rw [Hj,eI hlt,h8];rfl
   rw [if_neg (by simp [hp])] at hk3
   try simp (disch:=omega) only [go_sem,seval,h8]
   exact qN hN (k+1,acc) (qI 0 10) (by (try dsimp only);exact⟨zO,zO,hk3⟩)
 rw [P6 zO,Qs,Qa] at hk3
 subst hk3
 refine qX ?_
 refine qB (fun h8=>?_) fun h8=>?_
 ·rw [if_pos zO] at hc
  refine qX ?_
  refine qB (fun h9=>?_) fun h9=>?_
  ·have hr:bD e= -1:=by rw [bD,if_neg (by rw [hc];omega)]
   rw [hr]
   exact qF (qI 0 7)
  rw [hc] at hcl
  have hl0:0 < (fF e.subs).length:=by rw [hc];omega
  have hpk:=lc g1
  obtain⟨z,hz,hz1,hz2⟩:=yq hpk.1 hl0
  have hn:=rc g1 hz1 hz2
  simp only [hc] at hz hz1 hn
  rw [hn]
  try simp (disch:=omega) only [go_sem,seval,hz,aC hz1]
  exact qF (qI 0 7)
 rw [if_neg zO] at hc
 refine qX ?_
 have hl0:0 < (fF e.subs).length:=by rw [hc];omega
 have hpk:=lc g1
 obtain⟨z,hz,hz1,hz2⟩:=yq hpk.1 hl0
 have hn:=rc g1 hz1 hz2
 simp only [hc] at hz hz1 hn
 rw [hn]
 try simp (disch:=omega) only [go_sem,seval,hz,aC hz1]
 exact qF (qI 0 7)
theorem Ag (n:Int) (hn:bN n):aP 242 [.sc (.int .i64 n)] [] (.sc (.int .i64 (jF n))) []:=by
 refine qE func242 ntmps242 results242 fun E hE=>?_
 refine qB (fun h=>?_) fun h=>?_
 ·rw [jF,if_pos h]
  exact qF []
 rw [jF,if_neg h]
 exact qF []
def gQ (n:Int):List AddrD:=[⟨0,n,false,true⟩]
def fW (who n:Int) (p:PolicyD):EndD×Bool:=
 if bU who 1 2 && polOk p && cd (gQ n) then (⟨who,0,0,0,p,gQ n,[],[],[],⟨1,3,3⟩,⟨[],0,0,120⟩,⟨0,[],[]⟩,[],[],1000+who,0,0⟩,true) else (di,false)
def mo (e:EndD) (to:Int):RoadD:=⟨(e.own.getD 0 default).addr,to,0⟩
def uu (e:EndD) (to:Int):Bool:=
 aq e && decide (e.state=0) && !decide (e.own.length=0) && bU to 1 65535 && decide (e.subs.length < 8) && bU e.draw 1 999999996 && decide (bK e.subs (mo e to) < 0)
def gR (e:EndD) (to:Int):EndD×List LetterD:=
 if uu e to then ({ e with state:=1,key:=e.draw,subs:=e.subs++[⟨mo e to,1,false,0,0,0,e.draw+2,0⟩],draw:=e.draw+4 },
  [bc (mo e to) { ac with kind:=1,key:=e.draw,give:=e.draw+2 }]) else (e,[])
def jh (a:EndD):List LetterD->EndD->EndD×EndD
 |[],b=>(a,b)
 |x::l,b=>jh ((aW b x).2.foldl (fun a y=>(bE a y).1) a) l (aW b x).1
def vY (a b:EndD):Bool:=decide (a.state=2) && decide (b.state=2) && decide (a.peer=b.key) && decide (b.peer=a.key)
def ib (a b:EndD):EndD×EndD×Bool:=
 if b.own.length=0 then (a,b,false)
 else
  let r:=jh (gR a (b.own.getD 0 default).addr).1 (gR a (b.own.getD 0 default).addr).2 b
  (r.1,r.2,vY r.1 r.2)
end
end Go.Proofs.YtdiiopjaebnmfaaGreatDoor
