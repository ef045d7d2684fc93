/- Lemmas of this claim. -/
import Derived.Test.YtdiiopjaebnmfaaGreatDoorZFnScriptsF
import Derived.Test.YtdiiopjaebnmfaaGreatDoorZFnScriptsG
import Derived.Test.YtdiiopjaebnmfaaGreatDoorZFnScriptsH
set_option maxHeartbeats 16000000
set_option maxRecDepth 100000
set_option linter.unusedVariables false
set_option linter.unusedSimpArgs false
namespace Go.Proofs.YtdiiopjaebnmfaaGreatDoor
open _root_.Go.Proofs.Tryz
open _root_.Bool renaming and_eq_true->Ru,eq_false_or_eq_true->RP,or_eq_true->RQ
open _root_.List renaming length_nil->Rv,getD_cons_zero->Rw,map_cons->Rx,sum_cons->Ry,map_nil->Rz,sum_nil->RA,getD_eq_getElem?_getD->RC,getElem?_eq_getElem->RE,mem_cons->RF,all_eq_true->RG,length_singleton->RH,length_append->RI,drop_eq_getElem_cons->RJ,drop_eq_nil_of_le->RK,any_eq_true->RL,mem_append->RM,length_cons->RO,nodup_cons->RR,contains_iff_mem->RS,nodup_append->RT,cons_append->RU,not_mem_nil->RV
open _root_.Array renaming getD_eq_getD_getElem?->RB,getElem?_eq_getElem->RD
section
open Go.RowKit
def uV (P:Program) (r:Array Oper) (i j:Oper):Bool:=
 BG i.dst j.dst && sQ i.dst (fS r j) && sQ j.dst (fS r i) && (nU P i == 0 && nU P j != 5 || nU P i == 1 && (nU P j != 4 && nU P j != 3))
def QC (P:Program) (o:Oper) (s s':S):Prop:=
 (∃ x,bR P s o.type o.op=some x/\x.c/\s'=s.put o.dst x.v x.hp)\/
 (∃ (y:Operand) (args:Array Operand) (at_:Array TypeId) (f:Nat) (caps:List Sc) (avs:List AV) (res:AV) (h':Hp),o.op=.call ⟨.value y,args,at_⟩/\s.ev y=some (.cl f caps)/\s.evs args.toList=some avs/\
  gB P f (avs++l7 caps) s.hp res h'/\s'=s.put o.dst (some res) h')
def dB (P:Program) (r:Array Oper) (i:Nat) (s s':S):Prop:=
 match r[i]? with
 |none=>s'=s
 |some o=>match eS r s o with
  |some true=>QC P o s s'
  |some false=>s'=s.put o.dst (some (.tu [])) s.hp
  |none=>False
def Ec (P:Program) (r:Array Oper):List Nat->S->S->Prop
 |[],s,s'=>s'=s
 |i::l,s,s''=>∃ s',dB P r i s s'/\Ec P r l s' s''
theorem O1 {P:Program} {r:Array Oper} {i j:Nat} {oi oj:Oper} (hi:r[i]? =some oi) (hj:r[j]? =some oj) (hind:uV P r oi oj=true) {s s1 s2:S} (h1:dB P r i s s1) (h2:dB P r j s1 s2):
  ∃ s1',dB P r j s s1'/\dB P r i s1' s2:=by
 simp only [uV,Ru,RQ,beq_iff_eq,bne_iff_ne] at hind
 obtain⟨⟨⟨hne,hij⟩,hji⟩,hcls⟩:=hind
 have hci:nU P oi=0\/nU P oi=1:=by rcases hcls with h|h;exact .inl h.1;exact .inr h.1
 unfold dB at h1 h2
 rw [hi] at h1
 rw [hj] at h2
 dsimp only at h1 h2
 have key:∃ v,s1=s.put oi.dst v s.hp/\∀ (t:S),iN (fS r oi) s t->(nU P oi=0\/Hp.ext s.hp t.hp)->dB P r i t (t.put oi.dst v t.hp):=by
  split at h1
  ·rename_i hg
   rcases h1 with⟨x,hx,hc,rfl⟩|⟨y,args,at_,f,caps,avs,res,h',ho,_⟩
   ·have hx2:x.hp=s.hp/\∀ t:S,iN (fS r oi) s t->(nU P oi=0\/Hp.ext s.hp t.hp)->bR P t oi.type oi.op=some ⟨x.v,t.hp,x.c⟩:=by
     have eqv:∀ t:S,iN (fS r oi) s t->bR P t oi.type oi.op=bR P ⟨s.sl,t.hp⟩ oi.type oi.op:=fun t ha=>(gp (s:=⟨s.sl,t.hp⟩) (s':=t) rfl (fun q hq=>ef ha q hq)).symm
     rcases hci with h0|h0
     ·obtain⟨e1,e2⟩:=ma h0 hx
      exact⟨e1,fun t ha _=>by rw [eqv t ha];exact e2 t.hp⟩
     obtain⟨e1,e2⟩:=uP h0 hx
     exact⟨e1,fun t ha he=>by rw [eqv t ha];exact e2 t.hp (he.resolve_left (by rw [h0];simp))⟩
    refine⟨x.v,by rw [hx2.1],fun t ha he=>?_⟩
    unfold dB
    rw [hi]
    dsimp only
    rw [<-cx ha,hg]
    exact .inl ⟨_,hx2.2 t ha he,hc,rfl⟩
   exfalso
   have:nU P oi=3:=by unfold nU;rw [ho];rfl
   omega
  ·rename_i hg
   refine⟨some (.tu []),h1,fun t ha _=>?_⟩
   unfold dB
   rw [hi]
   dsimp only
   rw [<-cx ha,hg]
  exact h1.elim
 obtain⟨v,rfl,hstep⟩:=key
 have hal:iN (fS r oj) s (s.put oi.dst v s.hp):=gn hij
 have hhp:(s.put oi.dst v s.hp).hp=s.hp:=iV _ _ _ _
 rw [<-cx hal] at h2
 have fin:∀ (u:Option AV) (h':Hp),s2=(s.put oi.dst v s.hp).put oj.dst u h'->(nU P oi=0\/Hp.ext s.hp h')->dB P r j s (s.put oj.dst u h')->∃ s1',dB P r j s s1'/\dB P r i s1' s2:=by
  intro u h' he hx hj'
  refine⟨s.put oj.dst u h',hj',?_⟩
  have h3:=hstep (s.put oj.dst u h') (gn hji) (by rw [iV];exact hx)
  rw [iV] at h3
  rw [he,ug s v u s.hp h' hne]
  exact h3
 split at h2
 ·rename_i hg
  rcases h2 with⟨x,hx,hc,rfl⟩|⟨y,args,at_,f,caps,avs,res,h',ho,hy,ha,hcall,rfl⟩
  ·have hx':bR P s oj.type oj.op=some x:=by rw [gp (s:=s) (s':=s.put oi.dst v s.hp) hhp.symm (ef hal)];exact hx
   refine fin x.v x.hp rfl ?_ ?_
   ·rcases hcls with h0|h0
    ·exact .inl h0.1
    right
    have h4:nU P oj≠4:=h0.2.1
    exact Gf hx' h4
   unfold dB
   rw [hj]
   dsimp only
   rw [hg]
   exact .inl ⟨x,hx',hc,rfl⟩
  have hal':=ef hal
  rw [ho] at hal'
  have e1:s.ev y=some (.cl f caps):=by
   rw [gF (s:=s) (s':=s.put oi.dst v s.hp) (x:=y) (fun t ht=>hal' t (eT (by subst ht;simp [Op.operands,Call.operands])))]
   exact hy
  have e2:s.evs args.toList=some avs:=by
   rw [kz (s:=s) (s':=s.put oi.dst v s.hp) (l:=args.toList) (fun z hz=>gF fun t ht=>hal' t (eT (by subst ht;simp [Op.operands,Call.operands];right;simpa using hz)))]
   exact ha
  rw [hhp] at hcall
  refine fin (some res) h' rfl (.inl (by
   have h3:nU P oj=3:=by unfold nU;rw [ho];rfl
   rcases hcls with h|h
   ·exact h.1
   exact absurd h3 h.2.2)) ?_
  unfold dB
  rw [hj]
  dsimp only
  rw [hg]
  exact .inr ⟨y,args,at_,f,caps,avs,res,h',ho,e1,e2,hcall,rfl⟩
 ·rename_i hg
  refine fin (some (.tu [])) s.hp (by rw [h2,hhp]) (.inr fun o ob h=>h) ?_
  unfold dB
  rw [hj]
  dsimp only
  rw [hg]
 exact h2.elim
theorem N4 {P:Program} {r:Array Oper} {i j:Nat} {oi oj:Oper} (hi:r[i]? =some oi) (hj:r[j]? =some oj) (hind:ki P r oi oj=true) {s s1 s2:S} (h1:dB P r i s s1) (h2:dB P r j s1 s2):
  ∃ s1',dB P r j s s1'/\dB P r i s1' s2:=by
 simp only [ki,Ru,beq_iff_eq] at hind
 obtain⟨⟨⟨hne,hij⟩,hji⟩,hcj⟩:=hind
 unfold dB at h1 h2
 rw [hi] at h1
 rw [hj] at h2
 dsimp only at h1 h2
 have key:∃ v hp,s1=s.put oi.dst v hp/\∀ (t:S),iN (fS r oi) s t->t.hp=s.hp->dB P r i t (t.put oi.dst v hp):=by
  split at h1
  ·rename_i hg
   rcases h1 with⟨x,hx,hc,rfl⟩|⟨y,args,at_,f,caps,avs,res,h',ho,hy,ha,hcall,rfl⟩
   ·refine⟨x.v,x.hp,rfl,fun t ha he=>?_⟩
    unfold dB
    rw [hi]
    dsimp only
    rw [<-cx ha,hg]
    exact .inl ⟨x,by rw [<-gp he.symm (ef ha)];exact hx,hc,rfl⟩
   refine⟨some res,h',rfl,fun t hal he=>?_⟩
   unfold dB
   rw [hi]
   dsimp only
   rw [<-cx hal,hg]
   have hal':=ef hal
   rw [ho] at hal'
   have e1:t.ev y=some (.cl f caps):=by
    rw [<-gF (s:=s) (s':=t) (x:=y) (fun q hq=>hal' q (eT (by subst hq;simp [Op.operands,Call.operands])))]
    exact hy
   have e2:t.evs args.toList=some avs:=by
    rw [<-kz (s:=s) (s':=t) (l:=args.toList) (fun z hz=>gF fun q hq=>hal' q (eT (by subst hq;simp [Op.operands,Call.operands];right;simpa using hz)))]
    exact ha
   exact .inr ⟨y,args,at_,f,caps,avs,res,h',ho,e1,e2,by rw [he];exact hcall,rfl⟩
  ·rename_i hg
   refine⟨some (.tu []),s.hp,h1,fun t ha he=>?_⟩
   unfold dB
   rw [hi]
   dsimp only
   rw [<-cx ha,hg]
   dsimp only
   rw [he]
  exact h1.elim
 obtain⟨v,hp,rfl,hstep⟩:=key
 have hal:iN (fS r oj) s (s.put oi.dst v hp):=gn hij
 rw [<-cx hal] at h2
 have fin:∀ (u:Option AV),s2=(s.put oi.dst v hp).put oj.dst u hp->dB P r j s (s.put oj.dst u s.hp)->∃ s1',dB P r j s s1'/\dB P r i s1' s2:=by
  intro u he hj'
  refine⟨s.put oj.dst u s.hp,hj',?_⟩
  have h3:=hstep (s.put oj.dst u s.hp) (gn hji) (iV _ _ _ _)
  rw [he,ug s v u hp hp hne]
  have e:∀ (a b:S) (d:Option Tmp) (x:Option AV) (h:Hp),a.sl=b.sl->a.put d x h=b.put d x h:=by
   intro a b d x h hab
   cases d<;>simp [S.put,hab]
  rw [e (s.put oj.dst u hp) (s.put oj.dst u s.hp) oi.dst v hp (by cases oj.dst<;>rfl)]
  exact h3
 split at h2
 ·rename_i hg
  rcases h2 with⟨x,hx,hc,rfl⟩|⟨y,args,at_,f,caps,avs,res,h',ho,_⟩
  ·have hx1:bR P ⟨s.sl,hp⟩ oj.type oj.op=some x:=by
    rw [gp (s:=⟨s.sl,hp⟩) (s':=s.put oi.dst v hp) (by rw [iV]) (fun q hq=>ef hal q hq)]
    exact hx
   obtain⟨e1,e2⟩:=ma hcj hx1
   have e3:=e2 s.hp
   refine fin x.v (by rw [e1]) ?_
   unfold dB
   rw [hj]
   dsimp only
   rw [hg]
   exact .inl ⟨_,e3,hc,rfl⟩
  exfalso
  have:nU P oj=3:=by unfold nU;rw [ho];rfl
  omega
 ·rename_i hg
  refine fin (some (.tu [])) (by rw [h2,iV]) ?_
  unfold dB
  rw [hj]
  dsimp only
  rw [hg]
 exact h2.elim
def Ed (P:Program) (r:Array Oper) (T:List Nat) (ex:List (Nat×Nat)) (p q:Nat):Bool:=
 p != q && !(T.getD p 0).testBit q &&
 ((T.getD q 0).testBit p || ex.contains (p,q) || match r[p]?,r[q]? with
  |some x,some y=>uV P r x y || ki P r x y
  |_,_=>false)
def rz (P:Program) (r:Array Oper) (T:List Nat) (ex:List (Nat×Nat)):List Nat->Bool
 |[]=>true
 |p::l=>l.all (Ed P r T ex p) && rz P r T ex l
theorem yq {P:Program} {r:Array Oper} {T:List Nat} {ex:List (Nat×Nat)} {i:Nat}:∀ {l m:List Nat},rz P r T ex (l++i::m)=true->rz P r T ex (l++m)=true
 |[],m,h=>by simp only [List.nil_append,rz,Ru] at h⊢;exact h.2
 |p::l,m,h=>by
  simp only [RU,rz,Ru,RG] at h⊢
  refine⟨fun q hq=>h.1 q ?_,yq h.2⟩
  simp only [RM,RF] at hq⊢
  exact hq.imp id .inr
theorem Gh {P:Program} {r:Array Oper} {T:List Nat} {ex:List (Nat×Nat)} {i p:Nat}:∀ {l m:List Nat},rz P r T ex (l++i::m)=true->p∈l->Ed P r T ex p i=true
 |[],m,_,h=>by simp at h
 |q::l,m,h,hp=>by
  simp only [RU,rz,Ru,RG] at h
  rcases RF.1 hp with rfl|hp
  ·exact h.1 i zP
  exact Gh h.2 hp
theorem yr {P:Program} {r:Array Oper} {T:List Nat} {ex:List (Nat×Nat)} {i p:Nat} {l:List Nat} (h:rz P r T ex (i::l)=true) (hp:p∈l):Ed P r T ex i p=true:=by
 simp only [rz,Ru,RG] at h
 exact h.1 p hp
theorem uW {P:Program} {r:Array Oper} {T:List Nat} {ex:List (Nat×Nat)}:∀ {l:List Nat},rz P r T ex l=true->l.Nodup
 |[],_=>List.nodup_nil
 |p::l,h=>by
  refine RR.2 ⟨fun hp=>?_,uW (by simp only [rz,Ru] at h;exact h.2)⟩
  have:=yr h hp
  simp [Ed] at this
theorem uX {P:Program} {r:Array Oper} {i:Nat}:∀ {l m:List Nat} {s s':S},(∀ p∈l,∃ x y,r[p]? =some x/\r[i]? =some y/\(uV P r x y || ki P r x y)=true)->Ec P r (l++i::m) s s'->Ec P r (i::(l++m)) s s'
 |[],m,s,s',_,h=>h
 |p::l,m,s,s',hl,h=>by
  obtain⟨s1,h1,h2⟩:=h
  obtain⟨s2,h3,h4⟩:=uX (fun q hq=>hl q (List.mem_cons_of_mem _ hq)) h2
  obtain⟨x,y,hx,hy,hind⟩:=hl p zP
  rcases (RQ _ _).mp hind with hind|hind
  ·obtain⟨s1',h5,h6⟩:=O1 hx hy hind h1 h3
   exact⟨s1',h5,s2,h6,h4⟩
  obtain⟨s1',h5,h6⟩:=N4 hx hy hind h1 h3
  exact⟨s1',h5,s2,h6,h4⟩
theorem Jv {P:Program} {E:Entry} {r:Array Oper} {i:Nat} {s s1:S} {β:Be} {a:Act} {w:World} {Q:Exit->Act->World->Prop} {K:Act->World->Prop} (h:dB P r i s s1) (hs:Sim E β s a w) (hK:∀ β' a' w',Sim E β' s1 a' w'->K a' w'):wpOp P r Q i K a w:=by
 unfold wpOp
 unfold dB at h
 split at h
 ·rename_i hi
  subst h
  rw [hi]
  exact hK β a w hs
 rename_i o ho
 rw [ho]
 dsimp only
 split at h
 ·rename_i hg
  rw [if_pos (kU hs.sl hg)]
  refine .inl ?_
  unfold Oper.wp
  rcases h with⟨x,hx,hc,rfl⟩|⟨y,args,at_,f,caps,avs,res,h',hop,hy,ha,⟨⟨fn,hfn,hname,hbody⟩,hcall⟩,rfl⟩
  ·obtain⟨β',w',hst,hh,hx'⟩:=ro hs.hp hs.sl hx hc
   rcases hx' with⟨v,av,hrun,hv,hr⟩|⟨hrun,hv⟩
   ·rw [hrun]
    rw [hv] at hK
    exact hK β' _ w' (f8 hs hst hh o.dst hr)
   rw [hrun]
   rw [hv] at hK
   exact hK β' _ w' (eM hs hst hh o.dst undef)
  obtain⟨cvs,hxe,hcl⟩:f9 β (.cl f caps) (a.eval y):=dG hs.sl hy
  have hav:=F2 hs.sl ha
  have hvs:L2 (f9 β) (avs++l7 caps) (args.toList.map a.eval++cvs):=hav.append (ud hcl)
  have hrun:(execOp a.eval o).run P w=.ok (.enter f (args.toList.map a.eval++cvs).toArray) w:=by
   unfold execOp
   rw [hop]
   have e1:args.map a.eval=(args.toList.map a.eval).toArray:=by apply Array.ext';simp
   have hname':¬ fn.name= "runtime.NumGoroutine":=by simpa using hname
   simp only [resolve,hxe,Deferred.ofValue,invoke,callFunc,Sem.run_bind,run_program,Sem.run_pure,Result.andThen_ok,hfn,e1]
   simp [hname',hbody]
  rw [hrun,Oper.upon_enter]
  refine (hcall β w _ hs.hp hvs).mono fun e w' ⟨β',v,he,hr,hh,hst⟩=>?_
  subst he
  exact hK β' _ w' (f8 hs hst hh o.dst hr)
 ·rename_i hg
  rw [kU hs.sl hg]
  subst h
  exact hK β _ w (f8 hs (StepR.refl β s.hp w hs.hp.len) hs.hp o.dst ⟨[],rfl,trivial⟩)
 exact h.elim
theorem sU {P:Program} {E:Entry} {r:Array Oper} {Q:Exit->Act->World->Prop} {ex:List (Nat×Nat)} {s':S} (hback:pC r=true) (hQ:∀ β' a' w',Sim E β' s' a' w'->Q .normal a' w'):
  ∀ (τ:List Nat) (fuel:Nat) (listed:Array Bool) (σ:List Nat) (s:S) (β:Be) (a:Act) (w:World),sS r fuel listed τ->listed.size=r.size->σ.length<=fuel->(∀ i,i∈σ↔i < r.size/\listed.getD i true=false)->Ea r listed->
   rz P r (Gg r) ex σ=true->(∀ p q,ex.contains (p,q)=true->p∈σ->q∈σ->bS τ p q=true)->Ec P r σ s s'->Sim E β s a w->wpOps P r Q τ a w
 |[],fuel,listed,σ,s,β,a,w,hd,hsz,hf,hm,hc,hok,hx,hrun,hs=>by
  have hnil:σ=[]:=by
   rcases yo hd with rfl|hd
   ·exact List.length_eq_zero_iff.1 zO
   cases σ with
   |nil=>rfl
   |cons p l=>
    exfalso
    have hp:=(hm p).1 zP
    have:p∈Region.ready .any r listed:=by
     refine kA.2 ⟨r[p],RD hp.1,hp.2,fun e he hb=>?_⟩
     have hbit:((Gg r).getD p 0).testBit e.on=true:=(uR (RD hp.1) e.on).2 ⟨e,he,hb,.inl rfl⟩
     have hlt0:=uh hback (RD hp.1) he hb
     have hlt:e.on < r.size:=Nat.lt_trans hlt0 hp.1
     cases hl:listed.getD e.on false with
     |true=>rfl
     |false=>
      exfalso
      have hl':listed.getD e.on true=false:=by
       rw [RB,RD zO] at hl⊢
       exact hl
      have hmem:e.on∈p::l:=(hm e.on).2 ⟨hlt,hl'⟩
      rcases RF.1 hmem with hep|hmem
      ·omega
      have:=yr hok hmem
      simp only [Ed,Ru,Bool.not_eq_true'] at this
      rw [this.1.2] at hbit
      cases hbit
    rw [hd] at this
    simp at this
  subst hnil
  have:s'=s:=hrun
  subst this
  exact hQ β a w hs
 |i::τ,0,listed,σ,s,β,a,w,hd,_,_,_,_,_,_,_,_=>hd.elim
 |i::τ,fuel+1,listed,σ,s,β,a,w,hd,hsz,hf,hm,hc,hok,hx,hrun,hs=>by
  obtain⟨hi,hd⟩:=hd
  obtain⟨o,ho,h1,h2⟩:=kA.1 hi
  have hil:i < r.size:=(Array.getElem?_eq_some_iff.1 ho).1
  have hiσ:i∈σ:=(hm i).2 ⟨hil,h1⟩
  obtain⟨l,m,rfl⟩:=List.append_of_mem hiσ
  have hnd:=uW hok
  have hfront:∀ p∈l,∃ x y,r[p]? =some x/\r[i]? =some y/\(uV P r x y || ki P r x y)=true:=by
   intro p hp
   have hpl:=(hm p).1 (by simp [hp])
   have h3:=Gh hok hp
   have hpi:p≠i:=by
    intro e
    subst e
    simp [Ed] at h3
   simp only [Ed,Ru,RQ] at h3
   rcases h3.2 with (h4|h4)|h4
   ·exfalso
    have:=uS hc i o ho h2 p h4
    have h5:=hpl.2
    rw [RB,RD zO] at this h5
    simp only [Option.getD_some] at this h5
    rw [this] at h5
    cases h5
   ·exfalso
    have:=hx p i h4 (by simp [hp]) zP
    simp [bS,hpi,Ne.symm hpi] at this
   split at h4
   ·rename_i x y hx hy
    exact⟨x,y,hx,hy,h4⟩
   cases h4
  obtain⟨s1,h3,h4⟩:=uX hfront hrun
  have hset:∀ (j:Nat) (d:Bool),(listed.setIfInBounds i true).getD j d=if i=j then true else listed.getD j d:=fun j d=>uT zO
  rw [wpOps_cons]
  refine Jv h3 hs fun β' a' w' hs'=>?_
  refine sU hback hQ τ fuel (listed.setIfInBounds i true) (l++m) s1 β' a' w' hd (by simpa using hsz) ?_ ?_ ?_ (yq hok) ?_ h4 hs'
  ·simp only [RI,RO] at hf⊢
   omega
  ·intro j
   have hj:=hm j
   rw [hset]
   have hd1:i ∉ l/\i ∉ m:=by
    rw [RT] at hnd
    exact⟨fun h=>hnd.2.2 i h i zP rfl,(RR.1 hnd.2.1).1⟩
   simp only [RM,RF] at hj⊢
   by_cases hij:i=j
   ·subst hij
    simp [hd1.1,hd1.2]
   rw [if_neg hij,<-hj]
   simp [Ne.symm hij]
  ·intro j oj hj hl e he hb
   rw [hset] at hl⊢
   by_cases hij:i=j
   ·subst hij
    rw [hj] at ho
    cases ho
    split
    ·rfl
    exact h2 e he hb
   rw [if_neg hij] at hl
   split
   ·rfl
   exact hc j oj hj hl e he hb
  intro p q hpq hp hq
  have hd1:i ∉ l/\i ∉ m:=by
   rw [RT] at hnd
   exact⟨fun h=>hnd.2.2 i h i zP rfl,(RR.1 hnd.2.1).1⟩
  have hne:∀ x∈l++m,i≠x:=by
   intro x hx e
   subst e
   exact (RM.1 hx).elim hd1.1 hd1.2
  have hin:∀ x∈l++m,x∈l++i::m:=by
   intro x hx
   simp only [RM,RF] at hx⊢
   exact hx.imp id .inr
  have:=hx p q hpq (hin p hp) (hin q hq)
  simpa [bS,hne p hp,hne q hq] using this
def Ee (P:Program) (r:Array Oper) (U:List (Nat×Nat)) (os:List (List Nat)):Bool:=
 pC r && U.all (fun u=>u.1 != u.2) && os.all (fun σ=>σ.length == r.size && (List.range r.size).all σ.contains && σ.all fun i=>decide (i < r.size)) &&
 (let T:=Gg r;(nc U).all fun ex=>O0 r ex || os.any fun σ=>rz P r T ex σ)
theorem Hm {P:Program} {E:Entry} {id:Nat} {r:Array Oper} {U:List (Nat×Nat)} {os:List (List Nat)} (hP:P.follows .mixedOrders=true) (hcov:Ee P r U os=true) {s:S} {K:S->Prop}
  (h:∀ σ∈os,∃ s',Ec P r σ s s'/\∀ β a w,Sim E β s' a w->∃ β' t,K t/\Sim E β' t a w):sL P E (.region id r true) s fun e s'=>e=.normal/\K s':=by
 intro β a w hs Q hQ
 refine wp_region_draw fun t=>?_
 simp only [Region.schedule,hP,Bool.true_or,if_true]
 simp only [Ee,Ru] at hcov
 obtain⟨⟨⟨hback,hU⟩,hperm⟩,hch⟩:=hcov
 have hd:=mb (r:=r) r.size t (Array.replicate r.size false)
 obtain⟨ex,hex,hbef⟩:=nf (Region.linearise .any r t) (U:=U) fun u hu=>by
  have:=RG.1 hU u hu
  simpa using this
 have hsome:=RG.1 hch ex hex
 rcases Bool.or_eq_true_iff.1 hsome with hbad|hsome
 ·exfalso
  obtain⟨u,hu,hbad⟩:=RL.1 hbad
  obtain⟨v,hv,hbad⟩:=RL.1 hbad
  simp only [Ru,beq_iff_eq,bne_iff_ne,ne_eq,decide_eq_true_eq] at hbad
  obtain⟨h1,h2,h3,h4,h5,h6⟩:=hbad
  have b1:=hbef u.1 u.2 (by rw [RS];exact hu)
  have b2:=hbef v.1 v.2 (by rw [RS];exact hv)
  rw [h1] at b2
  unfold BM at h5
  split at h5
  ·rename_i o ho
   obtain⟨e,he,he2⟩:=RL.1 h5
   simp only [Ru,beq_iff_eq] at he2
   have b3:=ja hback hd ho he he2.1 he2.2 zP (by simp [RB,h6])
   exact oA h4 h3 h2 b1 b3 b2
  cases h5
 obtain⟨σ,hσ,hok⟩:=RL.1 hsome
 have hp:=RG.1 hperm σ hσ
 simp only [Ru,beq_iff_eq,RG,List.mem_range,decide_eq_true_eq] at hp
 obtain⟨⟨hlen,hall⟩,hlt⟩:=hp
 obtain⟨s',hrun,hK⟩:=h σ hσ
 have hs2:Sim E β s a { w with drawn:=w.drawn+1 }:=⟨hs.dfr,hs.sl,⟨hs.hp.len,hs.hp.ob,hs.hp.flat,hs.hp.apart⟩,hs.ent,⟨hs.st.le,hs.st.os,hs.st.tape,hs.st.output,hs.st.size,hs.st.block,hs.st.len,hs.st.old,hs.st.fresh⟩⟩
 refine sU hback (fun β' a' w' hs'=>let⟨β2,t2,hk2,hs2⟩:=hK β' a' w' hs';hQ .normal t2 β2 a' w' ⟨rfl,hk2⟩ hs2) (Region.linearise .any r t) r.size _ σ s β a _ hd zP zO (fun i=>?_) (fun i o ho hl=>?_) hok (fun p q hpq _ _=>hbef p q hpq) hrun hs2
 ·constructor
  ·intro hi
   refine⟨hlt i hi,?_⟩
   simp [RB,hlt i hi]
  rintro⟨hi,_⟩
  simpa using hall i hi
 exfalso
 simp only [RB,Array.getElem?_replicate] at hl
 split at hl<;>cases hl
def Ef (P:Program) (r:Array Oper) (G:S->Prop):Ny->Prop
 | .go l s c=>c/\∃ s',Ec P r l s s'/\G s'
 | .call f args d l s c=>c/\∃ res h',gB P f args s.hp res h'/\∃ s',Ec P r l (s.put d (some res) h') s'/\G s'
 | .fin s c=>c/\G s
 | .bad=>False
theorem Hn {P:Program} {r:Array Oper} {G:S->Prop} {l:List Nat} {s:S} {c:Prop} (h:Ef P r G (yp P r l s c)):Ef P r G (.go l s c):=by
 cases l with
 |nil=>exact⟨h.1,s,rfl,h.2⟩
 |cons i l=>
  simp only [yp] at h
  split at h
  ·rename_i o ho
   split at h
   ·rename_i b hg
    cases b with
    |true=>
     unfold ui at h
     dsimp only at h
     split at h
     ·rename_i x args at_ hop
      split at h
      ·rename_i f caps avs hx ha
       obtain⟨hc,res,h',hcall,s',hrun,hG⟩:=h
       refine⟨hc,s',⟨_,?_,hrun⟩,hG⟩
       unfold dB
       rw [ho]
       dsimp only
       rw [hg]
       exact .inr ⟨x,args,at_,f,caps,avs,res,h',hop,hx,ha,hcall,rfl⟩
      exact h.elim
     split at h
     ·rename_i v hp d hx
      obtain⟨⟨hc,hd⟩,s',hrun,hG⟩:=h
      refine⟨hc,s',⟨_,?_,hrun⟩,hG⟩
      unfold dB
      rw [ho]
      dsimp only
      rw [hg]
      exact .inl ⟨_,hx,hd,rfl⟩
     exact h.elim
    |false=>
     obtain⟨hc,s',hrun,hG⟩:=h
     refine⟨hc,s',⟨_,?_,hrun⟩,hG⟩
     unfold dB
     rw [ho]
     dsimp only
     rw [hg]
   exact h.elim
  exact h.elim
theorem fm {P:Program} {r:Array Oper} {G:S->Prop}:∀ (n:Nat) {x:Ny},Ef P r G (Hj P r n x)->Ef P r G x
 |0,x,h=>h
 |n+1,.go l s c,h=>Hn (fm n h)
 |n+1,.call ..,h=>h
 |n+1,.fin ..,h=>h
 |n+1,.bad,h=>h
theorem ys {P:Program} {E:Entry} {F:S->Prop} {id:Nat} {r:Array Oper} {k:List fI} {s:S} {c:Prop} (U:List (Nat×Nat)) (os:List (List Nat)) (hP:P.follows .mixedOrders=true) (hc:c) (hcov:Ee P r U os=true)
  (h:a_ (fun σ=>Ef P r (fun s'=>gD P E F (.go k s' True)) (.go σ s True)) os):gD P E F (.draw id r k s c):=by
 refine⟨hc,gC (Hm hP hcov (K:=fun s'=>gD P E F (.go k s' True)) fun σ hσ=>let⟨s',h1,h2⟩:=(kB h σ hσ).2;⟨s',h1,fun β a w hs=>⟨β,s',h2,hs⟩⟩) fun e s' hk=>?_⟩
 obtain⟨rfl,hk⟩:=hk
 exact hk.2
theorem ng {P:Program} {r:Array Oper} {G:S->Prop} {f:Nat} {avs:List AV} {d:Option Tmp} {l:List Nat} {s:S} {c:Prop} {args0:List AV} {h0 h0':Hp} {res0:AV} (hc:c) (ct:gB P f args0 h0 res0 h0') (ρ:cW)
  (hm:rp ρ args0 avs/\lK ρ s.hp ρ h0) (hsep:eL ρ h0=true) (h:Ef P r G (.go l (s.put d (some (lM ρ s.hp.length res0)) (eG ρ h0 h0' s.hp)) True)):Ef P r G (.call f avs d l s c):=by
 obtain⟨_,s',hrun,hG⟩:=h
 exact⟨hc,_,_,uL ct ρ hm.1 hm.2 hsep,s',hrun,hG⟩
end
section
def bf (k s:Int):ActD:=⟨k,s,0,0,[],ae,ac⟩
def kindOf (s:List UInt8):Int:=if s=actTab.getD 12 [] then 12 else if s=actTab.getD 11 [] then 11 else if s=actTab.getD 10 [] then 10 else if s=actTab.getD 9 [] then 9 else if s=actTab.getD 8 [] then 8 else if s=actTab.getD 7 [] then 7 else if s=actTab.getD 6 [] then 6 else if s=actTab.getD 5 [] then 5 else if s=actTab.getD 4 [] then 4 else if s=actTab.getD 3 [] then 3 else if s=actTab.getD 2 [] then 2 else if s=actTab.getD 1 [] then 1 else 0
def selA (p:List (List UInt8)):ActD:=
 let k:=kindOf (p.getD 0 [])
 let s:=if 1<=k/\k<=7 then nX p 1 else 1
 if k=1 then⟨k,s,0,0,(if 2 < p.length then (fX (p.getD 2 [])).1 else []),ae,ac⟩ else
 if k=2 then⟨k,s,0,nX p 2,[],ae,ac⟩ else
 if k=5 then⟨k,s,0,0,[],⟨nX p 2,nX p 3,nX p 4 == 1,false⟩,ac⟩ else
 if k=6\/k=7 then⟨k,s,nX p 2,0,[],ae,ac⟩ else
 if k=11 then⟨k,s,0,0,[],ae,(DQ (p.getD 1 [])).1⟩ else
 if k=8\/k=9\/k=10\/k=12 then⟨k,s,nX p 1,0,[],ae,ac⟩ else⟨k,s,0,0,[],ae,ac⟩
def z7 (line:List UInt8):ActD×Bool:=
 if (bm line).2=true/\2<=(bm line).1.length/\aO (selA (bm line).1)≠[]/\aO (selA (bm line).1)=aX [32] (bm line).1 then (selA (bm line).1,true) else (gJ,false)
def tR (kind:Int) (a:ActD) (l:List Int):ActD×Bool:=
 if (l.length:Int)≠(if kind=1\/kind=3\/kind=4 then 0 else if kind=5 then 3 else 1) then (a,false) else
 if kind=5 then ({ a with addr:=⟨bT l 0,bT l 1,bT l 2 == 1,false⟩},true) else
 if kind=2 then ({ a with many:=bT l 0 },true) else
 if kind=1\/kind=3\/kind=4 then (a,true) else ({ a with pos:=bT l 0 },true)
def lf (kind:Int) (a:ActD):Option (List Int)->ActD×Bool
 |none=>(a,false)
 |some l=>if kind<=7 then (if l.length=0 then (a,false) else tR kind { a with side:=bT l 0 } (l.drop 1)) else tR kind a l
def iq (t:List UInt8):List UInt8×Bool:=if t=[45] then ([],true) else fX t
def rdF (kind:Int) (p:List (List UInt8)):ActD×Bool:=
 if kind=11 then (if p.length≠1 then (bf kind 1,false) else ({ bf kind 1 with letter:=(DQ (p.getD 0 [])).1 },(DQ (p.getD 0 [])).2)) else
 if kind=1 then (if p.length≠2 then (bf kind 1,false) else
  if (iq (p.getD 1 [])).2=false then ({ bf kind 1 with text:=(iq (p.getD 1 [])).1 },false) else lf kind { bf kind 1 with text:=(iq (p.getD 1 [])).1 } (aY (p.take 1))) else
 lf kind (bf kind 1) (aY p)
def z8 (parts:List (List UInt8)) (k:Int):Bool:=decide (parts.getD 0 []=actTab.getD k.toNat []) && ((rdF k (parts.drop 1)).2 && kE (aO (rdF k (parts.drop 1)).1) parts)
def oE (parts:List (List UInt8)):List Int->ActD×Bool
 |[]=>(gJ,false)
 |k::r=>if z8 parts k then ((rdF k (parts.drop 1)).1,true) else oE parts r
def z9:List Int:=[1,2,3,4,5,6,7,8,9,10,11,12]
def eE (line:List UInt8):ActD×Bool:=
 if (bm line).2=false\/(bm line).1.length=0 then (gJ,false) else oE (bm line).1 z9
theorem rH {a:ActD} (h:actGood a=true):a.kind=1\/a.kind=2\/a.kind=3\/a.kind=4\/a.kind=5\/a.kind=6\/a.kind=7\/a.kind=8\/a.kind=9\/a.kind=10\/a.kind=11\/a.kind=12:=by
 simp only [actGood,bG,dJ,Ru,decide_eq_true_eq] at h
 omega
inductive j4:ActD->Prop
 |write (s:Int) (t:List UInt8):(1<=s/\s<=2)->t.length<=120->j4 ⟨1,s,0,0,t,ae,ac⟩
 |read (s m:Int):(1<=s/\s<=2)->(0<=m/\m<=1000000000)->j4 ⟨2,s,0,m,[],ae,ac⟩
 |tick (s:Int):(1<=s/\s<=2)->j4 ⟨3,s,0,0,[],ae,ac⟩
 |manage (s:Int):(1<=s/\s<=2)->j4 ⟨4,s,0,0,[],ae,ac⟩
 |addr (s i d:Int) (b:Bool):(1<=s/\s<=2)->(0<=i/\i<=1000000000)->(0<=d/\d<=1000000000)->j4 ⟨5,s,0,0,[],⟨i,d,b,false⟩,ac⟩
 |drop (s n:Int):(1<=s/\s<=2)->(0<=n/\n<=1000000000)->j4 ⟨6,s,n,0,[],ae,ac⟩
 |reset (s n:Int):(1<=s/\s<=2)->(0<=n/\n<=1000000000)->j4 ⟨7,s,n,0,[],ae,ac⟩
 |deliver (n:Int):(0<=n/\n<=1000000000)->j4 ⟨8,1,n,0,[],ae,ac⟩
 |lose (n:Int):(0<=n/\n<=1000000000)->j4 ⟨9,1,n,0,[],ae,ac⟩
 |copy (n:Int):(0<=n/\n<=1000000000)->j4 ⟨10,1,n,0,[],ae,ac⟩
 |inject (x:LetterD):cO x=true->j4 ⟨11,1,0,0,[],ae,x⟩
 |again (n:Int):(0<=n/\n<=1000000000)->j4 ⟨12,1,n,0,[],ae,ac⟩
theorem fK {a:ActD} (h:actGood a=true):j4 a:=by
 have hk:=rH h
 obtain⟨k,s,p,m,t,ad,le⟩:=a
 simp only [actGood,bG,dJ,Ru,decide_eq_true_eq,ew] at h
 obtain⟨⟨⟨⟨⟨_,hs⟩,hp,hm⟩,ht⟩,htold⟩,hf⟩:=h
 try dsimp only at hk
 simp only [aD,Ru] at hf
 obtain⟨_,hf⟩:=hf
 simp only [cc,ActD.mk.injEq] at htold
 obtain⟨_,e1,e2,e3,e4,e5,e6⟩:=htold
 try dsimp only at hs hp hm ht hf e1 e2 e3 e4 e5 e6
 rcases hk with rfl|rfl|rfl|rfl|rfl|rfl|rfl|rfl|rfl|rfl|rfl|rfl<;>simp at e1 e2 e3 e4 e5 e6 hf<;>(try subst e1)<;>(try subst e2)<;>(try subst e3)<;>(try subst e4)<;>(try subst e5)<;>(try subst e6)
 ·exact .write _ _ hs ht
 ·exact .read _ _ hs hm
 ·exact .tick _ hs
 ·exact .manage _ hs
 ·obtain⟨i,d,b,td⟩:=ad
  simp only [AddrD.mk.injEq,true_and] at e5
  subst e5
  simp only [ew] at hf
  exact .addr _ _ _ _ hs hf.1 hf.2
 ·exact .drop _ _ hs hp
 ·exact .reset _ _ hs hp
 ·exact .deliver _ hp
 ·exact .lose _ hp
 ·exact .copy _ hp
 ·exact .inject _ (vn.1 hf)
 exact .again _ hp
theorem HD {t:List UInt8} (h:t.length<=120):mj t≠[]/\∀ b∈mj t,32 < b.toNat/\b.toNat<=126:=by
 rw [mj]
 split
 ·exact⟨zP,by intro b hb;simp at hb;subst hb;decide⟩
 rename_i hne
 refine⟨hne,fun b hb=>?_⟩
 rw [kZ,if_pos zO] at hb
 have:=rG b hb
 omega
theorem cR {n:Int} (h:0<=n):cr n≠[]/\∀ b∈cr n,32 < b.toNat/\b.toNat<=126:=⟨Od n,fun b hb=>by have:=oD h b hb;omega⟩
theorem sZ {t:List UInt8} (h:t.length<=120):iq (mj t)=(t,true):=by
 rw [mj]
 split
 ·rename_i he
  rw [kZ,if_pos zO] at he
  have hl:=eN t
  rw [he] at hl
  have:t=[]:=List.eq_nil_of_length_eq_zero (by simp at hl;omega)
  subst this
  rfl
 rename_i hne
 rw [kZ,if_pos zO] at hne⊢
 have hl:=eN t
 rw [iq,if_neg,vk zO]
 intro e
 rw [e] at hl
 simp at hl
 omega
theorem Et {t:List UInt8} (h:t.length<=120):(fX (mj t)).1=t:=by
 have h1:=sZ h
 rw [iq] at h1
 split at h1
 ·rename_i he
  have:t=[]:=(Prod.mk.inj h1).1.symm
  subst this
  rfl
 rw [h1]
theorem aI {s:List UInt8} {l:List (List UInt8)} (h:s≠[]/\∀ b∈s,32 < b.toNat/\b.toNat<=126) (hl:Clean l):Clean (s::l):=by
 intro x hx
 rcases RF.1 hx with rfl|hx
 ·exact h
 exact hl x hx
theorem eh:Clean []:=fun s hs=>by simp at hs
theorem yB:∀ k:Fin 12,(actTab.getD (k.1+1) []≠[]/\∀ b∈actTab.getD (k.1+1) [],32 < b.toNat/\b.toNat<=126)/\(actTab.getD (k.1+1) []).length<=7/\kindOf (actTab.getD (k.1+1) [])=(k.1:Int)+1:=by decide
theorem d_ {n:Int} (h:0<=n/\n<=1000000000):(cr n).length<=10:=by
 rw [cr,if_neg zO]
 have:=pI 9 n.natAbs [] zO
 simpa using this
theorem B1 {t:List UInt8} (h:t.length<=120):(mj t).length<=240:=by
 rw [mj]
 split
 ·simp
 rw [kZ,if_pos zO,eN];omega
theorem B2 (b:Bool):0<=(cond b 1 0:Int)/\(cond b 1 0:Int)<=1000000000:=by cases b<;>decide
structure PartsA (a:ActD):Prop where
 clean:Clean (actParts a)
 len:(actParts a).length<=5/\2<=(actParts a).length
 tot:tot (actParts a)<=590
 sel:selA (actParts a)=a
 rd:rdF a.kind ((actParts a).drop 1)=(a,true)
 word:(actParts a).getD 0 []=actTab.getD a.kind.toNat []
 kin:kindOf ((actParts a).getD 0 [])=a.kind
theorem cA {l:List (List UInt8)} {n:Int} {k:Nat} (h:l[k]? =some (cr n)) (hn:0<=n/\n<=1000000000):nX l k=n:=by
 obtain⟨h1,h2⟩:=List.getElem?_eq_some_iff.1 h
 rw [nX,dif_pos h1,h2,bl hn]
theorem eq {a:ActD} (h:j4 a):PartsA a:=by
 have T:=yB
 have W:∀ {s:Int},(1<=s/\s<=2)->0<=s/\s<=1000000000:=fun h=>by omega
 cases h with
 |write s t hs ht=>
  have e:actParts ⟨1,s,0,0,t,ae,ac⟩=[actTab.getD 1 [],cr s,mj t]:=rfl
  have l1:=d_ (W hs)
  have l2:=B1 ht
  refine⟨?_,?_,?_,?_,?_,rfl,(T 0).2.2⟩
  ·rw [e];exact aI (T 0).1 (aI (cR zO) (aI (HD ht) eh))
  ·rw [e];exact⟨zP,zP⟩
  ·rw [e];have:(actTab.getD 1 []).length<=7:=(T 0).2.1;simp only [tot,Rx,Rz,Ry,RA];omega
  ·rw [e]
   have hk:kindOf (actTab.getD 1 [])=1:=(T 0).2.2
   simp only [selA,Rw,hk]
   rw [cA (n:=s) rfl (W hs)]
   simp [Et ht]
  rw [e]
  simp [rdF,sZ ht,aY,bl (W hs),lf,tR,bT,bf]
 |read s m hs hm=>
  have e:actParts ⟨2,s,0,m,[],ae,ac⟩=[actTab.getD 2 [],cr s,cr m]:=rfl
  have l1:=d_ (W hs)
  have l2:=d_ hm
  refine⟨?_,?_,?_,?_,?_,rfl,(T 1).2.2⟩
  ·rw [e];exact aI (T 1).1 (aI (cR zO) (aI (cR zO) eh))
  ·rw [e];exact⟨zP,zP⟩
  ·rw [e];have:(actTab.getD 2 []).length<=7:=(T 1).2.1;simp only [tot,Rx,Rz,Ry,RA];omega
  ·rw [e]
   have hk:kindOf (actTab.getD 2 [])=2:=(T 1).2.2
   simp only [selA,Rw,hk]
   rw [cA (n:=s) rfl (W hs),cA (n:=m) rfl hm]
   simp
  rw [e]
  simp [rdF,aY,bl (W hs),bl hm,lf,tR,bT,bf]
 |tick s hs=>
  have e:actParts ⟨3,s,0,0,[],ae,ac⟩=[actTab.getD 3 [],cr s]:=rfl
  have l1:=d_ (W hs)
  refine⟨?_,?_,?_,?_,?_,rfl,(T 2).2.2⟩
  ·rw [e];exact aI (T 2).1 (aI (cR zO) eh)
  ·rw [e];exact⟨zP,zP⟩
  ·rw [e];have:(actTab.getD 3 []).length<=7:=(T 2).2.1;simp only [tot,Rx,Rz,Ry,RA];omega
  ·rw [e]
   have hk:kindOf (actTab.getD 3 [])=3:=(T 2).2.2
   simp only [selA,Rw,hk]
   rw [cA (n:=s) rfl (W hs)]
   simp
  rw [e]
  simp [rdF,aY,bl (W hs),lf,tR,bT,bf]
 |manage s hs=>
  have e:actParts ⟨4,s,0,0,[],ae,ac⟩=[actTab.getD 4 [],cr s]:=rfl
  have l1:=d_ (W hs)
  refine⟨?_,?_,?_,?_,?_,rfl,(T 3).2.2⟩
  ·rw [e];exact aI (T 3).1 (aI (cR zO) eh)
  ·rw [e];exact⟨zP,zP⟩
  ·rw [e];have:(actTab.getD 4 []).length<=7:=(T 3).2.1;simp only [tot,Rx,Rz,Ry,RA];omega
  ·rw [e]
   have hk:kindOf (actTab.getD 4 [])=4:=(T 3).2.2
   simp only [selA,Rw,hk]
   rw [cA (n:=s) rfl (W hs)]
   simp
  rw [e]
  simp [rdF,aY,bl (W hs),lf,tR,bT,bf]
 |addr s i d b hs hi hd=>
  have e:actParts ⟨5,s,0,0,[],⟨i,d,b,false⟩,ac⟩=[actTab.getD 5 [],cr s,cr i,cr d,cr (cond b 1 0)]:=rfl
  have l1:=d_ (W hs)
  have l2:=d_ hi
  have l3:=d_ hd
  have hb:=B2 b
  have l4:=d_ hb
  refine⟨?_,?_,?_,?_,?_,rfl,(T 4).2.2⟩
  ·rw [e];exact aI (T 4).1 (aI (cR zO) (aI (cR zO) (aI (cR zO) (aI (cR hb.1) eh))))
  ·rw [e];exact⟨zP,zP⟩
  ·rw [e];have:(actTab.getD 5 []).length<=7:=(T 4).2.1;simp only [tot,Rx,Rz,Ry,RA];omega
  ·rw [e]
   have hk:kindOf (actTab.getD 5 [])=5:=(T 4).2.2
   simp only [selA,Rw,hk]
   rw [cA (n:=s) rfl (W hs),cA (n:=i) rfl hi,cA (n:=d) rfl hd,cA (n:=cond b 1 0) rfl hb]
   cases b<;>simp
  rw [e]
  cases b<;>simp [rdF,aY,bl (W hs),bl hi,bl hd,bl (n:=0) zO,bl (n:=1) zO,lf,tR,bT,bf]
 |inject x hx=>
  have e:actParts ⟨11,1,0,0,[],ae,x⟩=[actTab.getD 11 [],du x]:=rfl
  have l1:=mh x
  refine⟨?_,?_,?_,?_,?_,rfl,(T 10).2.2⟩
  ·rw [e];exact aI (T 10).1 (aI ⟨vn.2 hx,z6 hx⟩ eh)
  ·rw [e];exact⟨zP,zP⟩
  ·rw [e];have:(actTab.getD 11 []).length<=7:=(T 10).2.1;simp only [tot,Rx,Rz,Ry,RA];omega
  ·rw [e]
   have hk:kindOf (actTab.getD 11 [])=11:=(T 10).2.2
   simp only [selA,Rw,hk]
   simp [ml hx]
  rw [e]
  simp [rdF,ml hx,bf]
 |drop s n hs hn=>
  have e:actParts ⟨6,s,n,0,[],ae,ac⟩=[actTab.getD 6 [],cr s,cr n]:=rfl
  have l1:=d_ (W hs)
  have l2:=d_ hn
  refine⟨?_,?_,?_,?_,?_,rfl,(T (6 - 1)).2.2⟩
  ·rw [e];exact aI (T (6 - 1)).1 (aI (cR zO) (aI (cR zO) eh))
  ·rw [e];exact⟨zP,zP⟩
  ·rw [e];have:(actTab.getD 6 []).length<=7:=(T (6 - 1)).2.1;simp only [tot,Rx,Rz,Ry,RA];omega
  ·rw [e]
   have hk:kindOf (actTab.getD 6 [])=6:=(T (6 - 1)).2.2
   simp only [selA,Rw,hk]
   rw [cA (n:=s) rfl (W hs),cA (n:=n) rfl hn]
   simp
  rw [e]
  simp [rdF,aY,bl (W hs),bl hn,lf,tR,bT,bf]
 |reset s n hs hn=>
  have e:actParts ⟨7,s,n,0,[],ae,ac⟩=[actTab.getD 7 [],cr s,cr n]:=rfl
  have l1:=d_ (W hs)
  have l2:=d_ hn
  refine⟨?_,?_,?_,?_,?_,rfl,(T (7 - 1)).2.2⟩
  ·rw [e];exact aI (T (7 - 1)).1 (aI (cR zO) (aI (cR zO) eh))
  ·rw [e];exact⟨zP,zP⟩
  ·rw [e];have:(actTab.getD 7 []).length<=7:=(T (7 - 1)).2.1;simp only [tot,Rx,Rz,Ry,RA];omega
  ·rw [e]
   have hk:kindOf (actTab.getD 7 [])=7:=(T (7 - 1)).2.2
   simp only [selA,Rw,hk]
   rw [cA (n:=s) rfl (W hs),cA (n:=n) rfl hn]
   simp
  rw [e]
  simp [rdF,aY,bl (W hs),bl hn,lf,tR,bT,bf]
 |deliver n hn=>
  have e:actParts ⟨8,1,n,0,[],ae,ac⟩=[actTab.getD 8 [],cr n]:=rfl
  have l2:=d_ hn
  refine⟨?_,?_,?_,?_,?_,rfl,(T (8 - 1)).2.2⟩
  ·rw [e];exact aI (T (8 - 1)).1 (aI (cR zO) eh)
  ·rw [e];exact⟨zP,zP⟩
  ·rw [e];have:(actTab.getD 8 []).length<=7:=(T (8 - 1)).2.1;simp only [tot,Rx,Rz,Ry,RA];omega
  ·rw [e]
   have hk:kindOf (actTab.getD 8 [])=8:=(T (8 - 1)).2.2
   simp only [selA,Rw,hk]
   rw [cA (n:=n) rfl hn]
   simp
  rw [e]
  simp [rdF,aY,bl hn,lf,tR,bT,bf]
 |lose n hn=>
  have e:actParts ⟨9,1,n,0,[],ae,ac⟩=[actTab.getD 9 [],cr n]:=rfl
  have l2:=d_ hn
  refine⟨?_,?_,?_,?_,?_,rfl,(T (9 - 1)).2.2⟩
  ·rw [e];exact aI (T (9 - 1)).1 (aI (cR zO) eh)
  ·rw [e];exact⟨zP,zP⟩
  ·rw [e];have:(actTab.getD 9 []).length<=7:=(T (9 - 1)).2.1;simp only [tot,Rx,Rz,Ry,RA];omega
  ·rw [e]
   have hk:kindOf (actTab.getD 9 [])=9:=(T (9 - 1)).2.2
   simp only [selA,Rw,hk]
   rw [cA (n:=n) rfl hn]
   simp
  rw [e]
  simp [rdF,aY,bl hn,lf,tR,bT,bf]
 |copy n hn=>
  have e:actParts ⟨10,1,n,0,[],ae,ac⟩=[actTab.getD 10 [],cr n]:=rfl
  have l2:=d_ hn
  refine⟨?_,?_,?_,?_,?_,rfl,(T (10 - 1)).2.2⟩
  ·rw [e];exact aI (T (10 - 1)).1 (aI (cR zO) eh)
  ·rw [e];exact⟨zP,zP⟩
  ·rw [e];have:(actTab.getD 10 []).length<=7:=(T (10 - 1)).2.1;simp only [tot,Rx,Rz,Ry,RA];omega
  ·rw [e]
   have hk:kindOf (actTab.getD 10 [])=10:=(T (10 - 1)).2.2
   simp only [selA,Rw,hk]
   rw [cA (n:=n) rfl hn]
   simp
  rw [e]
  simp [rdF,aY,bl hn,lf,tR,bT,bf]
 |again n hn=>
  have e:actParts ⟨12,1,n,0,[],ae,ac⟩=[actTab.getD 12 [],cr n]:=rfl
  have l2:=d_ hn
  refine⟨?_,?_,?_,?_,?_,rfl,(T (12 - 1)).2.2⟩
  ·rw [e];exact aI (T (12 - 1)).1 (aI (cR zO) eh)
  ·rw [e];exact⟨zP,zP⟩
  ·rw [e];have:(actTab.getD 12 []).length<=7:=(T (12 - 1)).2.1;simp only [tot,Rx,Rz,Ry,RA];omega
  ·rw [e]
   have hk:kindOf (actTab.getD 12 [])=12:=(T (12 - 1)).2.2
   simp only [selA,Rw,hk]
   rw [cA (n:=n) rfl hn]
   simp
  rw [e]
  simp [rdF,aY,bl hn,lf,tR,bT,bf]
theorem ey {a:ActD} (h:actGood a=true):aO a=aX [32] (actParts a):=if_pos h
theorem B3 {a:ActD} (h:aO a≠[]):actGood a=true:=by
 rw [aO] at h
 split at h
 ·assumption
 exact absurd rfl h
theorem JU {s:List UInt8} {r:List (List UInt8)} (h:s≠[]):aX [32] (s::r)≠[]:=by
 rw [f_]
 intro e
 exact h (List.append_eq_nil_iff.1 e).1
theorem oF {a:ActD} (h:actGood a=true):aO a≠[]:=by
 have hp:=(eq (fK h)).clean
 rw [ey h,actParts]
 exact JU (hp _ (by simp [actParts])).1
theorem vo {a:ActD} (h:actGood a=true):bm (aO a)=(actParts a,true):=by
 have hp:=eq (fK h)
 have hl:=ji (y:=[32]) (l:=actParts a)
 have h1:=hp.tot
 have h2:=hp.len
 simp only [RH,Nat.mul_one] at hl
 rw [ey h,bm,if_neg zO,ld hp.clean,kl,if_neg zO]
def ni (parts:List (List UInt8)):ActD×Bool:=if actGood (selA parts)=true/\actParts (selA parts)=parts then (selA parts,true) else (gJ,false)
theorem lg (line:List UInt8):z7 line=if (bm line).2=true then ni (bm line).1 else (gJ,false):=by
 rw [z7]
 have hc:=k_ line
 generalize bm line=q at hc
 obtain⟨p,ok⟩:=q
 dsimp only at hc⊢
 cases ok with
 |false=>simp
 |true=>
  simp only [true_and,if_true,ni]
  by_cases hg:actGood (selA p)=true
  ·have hp:=eq (fK hg)
   by_cases he:actParts (selA p)=p
   ·have h2:2<=p.length:=by
     have:=hp.len.2
     rw [he] at this
     exact this
    rw [if_pos ⟨h2,oF hg,by rw [ey hg,he]⟩,if_pos ⟨hg,he⟩]
   rw [if_neg,if_neg (fun h=>he h.2)]
   rintro⟨_,_,h⟩
   rw [ey hg] at h
   exact he (vf hp.clean hc h)
  rw [if_neg,if_neg (fun h=>hg h.1)]
  rintro⟨_,h,_⟩
  exact hg (B3 h)
theorem vp {a:ActD} {parts:List (List UInt8)} (hc:Clean parts):kE (aO a) parts=(actGood a && decide (actParts a=parts)):=by
 cases hg:actGood a with
 |false=>
  have:aO a=[]:=if_neg (by simp [hg])
  rw [this]
  simp [kE]
 |true=>
  have hp:=eq (fK hg)
  have hne:=oF hg
  rw [kE,vo hg]
  by_cases he:actParts a=parts
  ·subst he;simp [hne]
  have:aX [32] (actParts a)≠aX [32] parts:=fun h=>he (vf hp.clean hc h)
  simp [this,he]
theorem s8 {parts:List (List UInt8)}:∀ {l:List Int},(∀ k∈l,z8 parts k=false)->oE parts l=(gJ,false)
 |[],_=>rfl
 |k::r,h=>by rw [oE,if_neg (by simp [h k zP]),s8 fun x hx=>h x (by simp [hx])]
theorem rI {parts:List (List UInt8)} {k:Int} (hc:Clean parts) (hk:z8 parts k=true):actGood (selA parts)=true/\actParts (selA parts)=parts/\(rdF k (parts.drop 1)).1=selA parts:=by
 simp only [z8,vp hc,Ru,decide_eq_true_eq] at hk
 obtain⟨_,_,hg,he⟩:=hk
 have hp:=eq (fK hg)
 have hs:=hp.sel
 rw [he] at hs
 rw [hs]
 exact⟨hg,he,rfl⟩
theorem yC {parts:List (List UInt8)} (hc:Clean parts) (hg:actGood (selA parts)=true) (he:actParts (selA parts)=parts):∀ {l:List Int},(selA parts).kind∈l->oE parts l=(selA parts,true)
 |[],h=>by simp at h
 |k::r,h=>by
  have hp:=eq (fK hg)
  rw [oE]
  by_cases ht:z8 parts k=true
  ·rw [if_pos ht,(rI hc ht).2.2]
  rw [if_neg ht]
  refine yC hc hg he ?_
  rcases RF.1 h with rfl|h
  ·exfalso
   apply ht
   have h1:=hp.rd
   have h2:=hp.word
   rw [he] at h1 h2
   simp only [z8,vp hc,h1,hg,he,h2,decide_true,Bool.and_self]
  exact h
theorem oG (line:List UInt8):eE line=z7 line:=by
 rw [lg,eE]
 have hc:=k_ line
 generalize bm line=q at hc
 obtain⟨p,ok⟩:=q
 dsimp only at hc⊢
 cases ok with
 |false=>simp
 |true=>
  simp only [Bool.true_eq_false,false_or,if_true,ni]
  by_cases hg:actGood (selA p)=true/\actParts (selA p)=p
  ·have hp:=eq (fK hg.1)
   have hl:=hp.len
   rw [hg.2] at hl
   rw [if_pos hg,if_neg zO,yC hc hg.1 hg.2]
   have:=rH hg.1
   simp only [z9,RF,RV,or_false]
   exact this
  rw [if_neg hg]
  split
  ·rfl
  refine s8 fun k _=>?_
  cases ht:z8 p k with
  |false=>rfl
  |true=>exact absurd ⟨(rI hc ht).1,(rI hc ht).2.1⟩ hg
end
section
open Go.RowKit
def fV (n:Int):List AddrD:=[⟨0,n,false,true⟩]
def gg (who n:Int) (p:PolicyD):EndD×Bool:=
 if dJ who 1 2 && polOk p && dK (fV n) then (⟨who,0,0,0,p,fV n,[],[],[],⟨1,3,3⟩,⟨[],0,0,120⟩,⟨0,[],[]⟩,[],[],1000+who,0,0⟩,true) else (eY,false)
def mL (e:EndD) (to:Int):RoadD:=⟨(e.own.getD 0 default).addr,to,0⟩
def wL (e:EndD) (to:Int):Bool:=
 ax e && decide (e.state=0) && !decide (e.own.length=0) && dJ to 1 65535 && decide (e.subs.length < 8) && dJ e.draw 1 999999996 && decide (bE e.subs (mL e to) < 0)
def iU (e:EndD) (to:Int):EndD×List LetterD:=
 if wL e to then ({ e with state:=1,key:=e.draw,subs:=e.subs++[⟨mL e to,1,false,0,0,0,e.draw+2,0⟩],draw:=e.draw+4 },
  [aq (mL e to) { ac with kind:=1,key:=e.draw,give:=e.draw+2 }]) else (e,[])
def jN (a:EndD):List LetterD->EndD->EndD×EndD
 |[],b=>(a,b)
 |x::l,b=>jN ((aV b x).2.foldl (fun a y=>(bC a y).1) a) l (aV b x).1
def t9 (a b:EndD):Bool:=decide (a.state=2) && decide (b.state=2) && decide (a.peer=b.key) && decide (b.peer=a.key)
def jU (a b:EndD):EndD×EndD×Bool:=
 if b.own.length=0 then (a,b,false)
 else
  let r:=jN (iU a (b.own.getD 0 default).addr).1 (iU a (b.own.getD 0 default).addr).2 b
  (r.1,r.2,t9 r.1 r.2)
def eK (s:Int) (p:PolicyD):EndD:=⟨s,0,0,0,p,fV (10*s+1),[],[],[],⟨1,3,3⟩,⟨[],0,0,120⟩,⟨0,[],[]⟩,[],[],1000+s,0,0⟩
def wQ (e:EndD):Bool:=decide (e.own.length<=1048576) && decide (e.far.length<=1048576) && decide (e.subs.length<=1048576) && decide (e.halfs.length<=1048576) && decide (e.inp.list.length<=1048576) && decide (e.done.length<=1048576) && decide (e.over.length<=1048576)
theorem oU {e:EndD} (h:wQ e=true):Small e:=by
 simp only [wQ,Ru,decide_eq_true_eq] at h
 exact⟨h.1.1.1.1.1.1,h.1.1.1.1.1.2,h.1.1.1.1.2,h.1.1.1.2,h.1.1.2,h.1.2,h.2⟩
def i8:List ActD->WorldD->List Int->WorldD×List Int
 |[],w,cs=>(w,cs)
 |a::l,w,cs=>i8 l (dy w a).1 (cs++[(dy w a).2])
theorem CY {l:List ActD} {k:Nat} {w:WorldD} {cs:List Int} (h:k < l.length):i8 (l.drop k) w cs=i8 (l.drop (k+1)) (dy w l[k]).1 (cs++[(dy w l[k]).2]):=by
 rw [RJ h,i8]
theorem Fh {l:List ActD} {k:Nat} {w:WorldD} {cs:List Int} (h:l.length<=k):i8 (l.drop k) w cs=(w,cs):=by
 rw [RK h,i8]
theorem mN {Q:WorldD->Nat->Prop} {P:ActD->Prop} (hQ:∀ w k a,Q w k->P a->Q (dy w a).1 (k+1)):∀ {l:List ActD} {w:WorldD} {cs:List Int} {k:Nat},Q w k->(∀ a∈l,P a)->Q (i8 l w cs).1 (k+l.length)/\(i8 l w cs).2.length=cs.length+l.length
 |[],w,cs,k,h,_=>⟨h,rfl⟩
 |a::l,w,cs,k,h,hl=>by
  have h1:=mN hQ (l:=l) (cs:=cs++[(dy w a).2]) (hQ w k a h (hl a zP)) (fun x hx=>hl x (by simp [hx]))
  rw [i8,RO]
  refine⟨by rw [show k+(l.length+1)=k+1+l.length by omega];exact h1.1,by rw [h1.2,RI,RH];omega⟩
theorem KJ:bucketOk ⟨1,3,3⟩=true:=by decide
theorem CZ {who n:Int} {p:PolicyD} (h:(dJ who 1 2 && polOk p && dK (fV n))=false):gg who n p=(eY,false):=by rw [gg,if_neg (by simp [h])]
theorem wU {who n:Int} {p:PolicyD} (h:(dJ who 1 2 && polOk p && dK (fV n))=true):gg who n p=(⟨who,0,0,0,p,fV n,[],[],[],⟨1,3,3⟩,⟨[],0,0,120⟩,⟨0,[],[]⟩,[],[],1000+who,0,0⟩,true):=if_pos h
theorem M5 {e:EndD} {n:Int} (h:wL e n=false):iU e n=(e,[]):=by rw [iU,if_neg (by simp [h])]
theorem M6 {e:EndD} {n:Int} {a:AddrD} (h:wL e n=true) (ha:e.own.getD 0 default=a):iU e n=({ e with state:=1,key:=e.draw,subs:=e.subs++[⟨⟨a.addr,n,0⟩,1,false,0,0,0,e.draw+2,0⟩],draw:=e.draw+4 },
  [aq ⟨a.addr,n,0⟩ { ac with kind:=1,key:=e.draw,give:=e.draw+2 }]):=by rw [iU,if_pos h,mL,ha]
theorem Ik (e:EndD) (n:Int) (hs:Small e):aP 83 [.ag (e.cs 0),.sc (.int .i64 n)] (e.hp false) (.tu [.ag ((iU e n).1.cs 7),.sc (.sl 14 0 (iU e n).2.length)])
  (e.hp false++((iU e n).1.hp true++[some ⟨(iU e n).2.map LetterD.cs,19,36,true,true⟩])):=by
 have hC:=(qH (aB e))
 have hK:=(qH (bb e))
 have hf:=M5 (e:=e) (n:=n)
 have ht:= @M6 e n
 have hk:=wL.eq_1 e n
 have hS:=fun r=>eX e r (by have:=hs.subs;omega)
 rw [mL] at hk
 generalize iU e n=R at*
 refine qE func83 ntmps83 results83 fun E hE=>?_
 refine qK (hC) (qI 0 7) ?_
 refine qK (hK) (qI 0 7) ?_
 refine qB (fun h1=>?_) fun h1=>?_
 ·refine qB (fun h2=>?_) fun h2=>?_
  ·refine qB (fun h3=>?_) fun h3=>?_
   ·refine qK (aE _ _ _) [] ?_
    refine qB (fun h4=>?_) fun h4=>?_
    ·refine qB (fun h5=>?_) fun h5=>?_
     ·refine qK (eZ e) (qI 0 7) ?_
      refine qB (fun h6=>?_) fun h6=>?_
      ·rw [hf (by rw [hk];first|(simp [h6];done)|(simp [h6];intros;omega))]
       exact qF (qI 0 7++qI 9 7++qO 1)
      obtain⟨a,ha⟩:∃ a,e.own[0]' zO=a:=⟨_,rfl⟩
      have ha2:e.own.getD 0 default=a:=by rw [<-ha,RC,RE zO];rfl
      rw [ha2] at hk
      try simp (disch:=omega) only [go_sem,seval,ha]
      refine qK (hS ⟨a.addr,n,0⟩) (qI 0 7) ?_
      refine qB (fun h7=>?_) fun h7=>?_
      ·rw [hf (by rw [hk];first|(simp [h7];done)|(simp [h7];intros;omega))]
       exact qF (qI 0 7++qI 9 7++qO 1)
      rw [ht (a:=a) (by rw [hk,h1,h4,h6,decide_eq_true (by omega:e.state=0),decide_eq_false (by omega:¬ e.own.length=0),decide_eq_true (by have:=lj h1;omega:e.subs.length < 8),decide_eq_true (by omega:bE e.subs ⟨a.addr,n,0⟩< 0)];rfl) ha2]
      refine qK (fN e h6) (qI 9 8) ?_
      refine aQ [(6,7)] [(qU [0,9]),[0,1,2,3,4,5,7,6,8]] (by kernel_rfl) (qC) (by kernel_rfl) ?_
      simp only [a_]
      refine⟨ab 400 ?_,ab 400 ?_⟩
      all_goals simp (disch:=omega) only [go_sem,seval]
      all_goals
       refine b_ (bc ⟨a.addr,n,0⟩ { ac with kind:=1,key:=e.draw,give:=e.draw+2 }) [] ?_
       refine qG ?_
       refine qP (qI 0 7++qI 9 2++qI 19 1++qI 12 4++qI 20 1) ?_
       first|exact⟨⟩|simp [SubD.cs,LetterD.cs,aq,ac]
     rw [hf (by rw [hk];first|(simp [h5];done)|(simp [h5];intros;omega))]
     exact qF (qI 0 7++qI 9 7++qO 1)
    rw [hf (by rw [hk];first|(simp [h4];done)|(simp [h4];intros;omega))]
    exact qF (qI 0 7++qI 9 7++qO 1)
   rw [hf (by rw [hk,decide_eq_true (by omega:e.own.length=0)];simp)]
   exact qF (qI 0 7++qI 9 7++qO 1)
  rw [hf (by rw [hk];first|(simp [h2];done)|(simp [h2];intros;omega))]
  exact qF (qI 0 7++qI 9 7++qO 1)
 rw [hf (by rw [hk];first|(simp [h1];done)|(simp [h1];intros;omega))]
 exact qF (qI 0 7++qI 9 7++qO 1)
def OV (a:EndD) (y:LetterD):EndD:=(bC a y).1
theorem OJ {a b:EndD} (h:b.own.length=0):jU a b=(a,b,false):=if_pos h
theorem OK {a b:EndD} {h:AddrD} {x:EndD} {L:List LetterD} (hn:¬ b.own.length=0) (hb:b.own.getD 0 default=h) (ho:iU a h.addr=(x,L)):jU a b=((jN x L b).1,(jN x L b).2,t9 (jN x L b).1 (jN x L b).2):=by
 rw [jU,if_neg hn,hb,ho]
theorem Il (a:EndD) (n:Int):(iU a n).2.length<=1:=by rw [iU];split<;>simp
theorem C0 {a:EndD} {n:Int} (hs:Small a):Small (iU a n).1:=by
 rw [iU];split
 ·rename_i h
  simp only [wL,Ru,decide_eq_true_eq] at h
  exact⟨hs.own,hs.far,by simp only [RI,RH];omega,hs.halfs,hs.list,hs.done,hs.over⟩
 exact hs
theorem C2 {e:EndD} {x:LetterD} (hs:Small e):Small (aV e x).1:=by
 rw [aV];split
 ·rename_i h
  simp only [gO,Ru,decide_eq_true_eq] at h
  exact⟨hs.own,by simp [gf],by simp only [RI,RH];omega,hs.halfs,hs.list,hs.done,hs.over⟩
 exact hs
theorem Fi {e:EndD} {x:LetterD} (hs:Small e):Small (bC e x).1:=by
 rw [bC];split
 ·exact⟨hs.own,by simp [gf],by simpa only [List.length_set] using hs.subs,hs.halfs,hs.list,hs.done,hs.over⟩
 exact hs
theorem Im {e:EndD} {x:LetterD}:(aV e x).2.length<=1:=by rw [aV];split<;>simp
theorem C3 {x y:EndD} {l:List LetterD} {k:Nat} (h:k < l.length):jN x (l.drop k) y=jN ((aV y l[k]).2.foldl OV x) (l.drop (k+1)) (aV y l[k]).1:=by
 rw [RJ h];rfl
theorem Fj {x y:EndD} {l:List LetterD} {k:Nat} (h:l.length<=k):jN x (l.drop k) y=(x,y):=by
 rw [RK h];rfl
theorem Fk {x:EndD} {l:List LetterD} {k:Nat} (h:k < l.length):(l.drop k).foldl OV x=(l.drop (k+1)).foldl OV (bC x l[k]).1:=by
 rw [RJ h];rfl
theorem Io {x:EndD} {l:List LetterD} {k:Nat} (h:l.length<=k):(l.drop k).foldl OV x=x:=by
 rw [RK h];rfl
theorem Fl (x y:EndD):(x.state≠2/\t9 x y=false)\/(x.state=2/\y.state≠2/\t9 x y=false)\/(x.state=2/\y.state=2/\x.peer≠y.key/\t9 x y=false)\/(x.state=2/\y.state=2/\x.peer=y.key/\y.peer≠x.key/\t9 x y=false)\/(x.state=2/\y.state=2/\x.peer=y.key/\y.peer=x.key/\t9 x y=true):=by
 by_cases h1:x.state=2
 ·by_cases h2:y.state=2
  ·by_cases h3:x.peer=y.key
   ·by_cases h4:y.peer=x.key
    ·simp [t9,h1,h2,h3,h4]
    simp [t9,h1,h2,h3,h4]
   simp [t9,h1,h2,h3]
  simp [t9,h1,h2]
 simp [t9,h1]
theorem Ip (a b:EndD) (ha:Small a) (hb:Small b):aP 54 [.ag (a.cs 0),.ag (b.cs 7)] (a.hp false++b.hp false) (.tu [.ag ((jU a b).1.cs 14),.ag ((jU a b).2.1.cs 21),.sc (.bo (jU a b).2.2)])
  (a.hp false++(b.hp false++((jU a b).1.hp true++(jU a b).2.1.hp true))):=by
 have hCa:=aB a (by have:=ha.own;omega) (by have:=ha.far;omega) (by have:=ha.subs;omega) (by have:=ha.halfs;omega) (by have:=ha.list;omega) (by have:=ha.done;omega) (by have:=ha.over;omega)
 have hCb:=aB b (by have:=hb.own;omega) (by have:=hb.far;omega) (by have:=hb.subs;omega) (by have:=hb.halfs;omega) (by have:=hb.list;omega) (by have:=hb.done;omega) (by have:=hb.over;omega)
 have h0:= @OJ a b
 have ht:= @OK a b
 have hbo:=hb.own
 obtain⟨R,hR⟩:∃ R,R=jU a b:=⟨_,rfl⟩
 rw [<-hR] at h0 ht⊢
 clear hR
 refine yu func54 ntmps54 results54 fun E hE=>?_
 refine qB (fun h1=>?_) fun h1=>?_
 ·rw [h0 zO]
  refine qD [0,2,1,3,4,5,6] ?_
  refine b_ (hCa) (qI 0 7) ?_
  refine b_ (hCb) (qI 7 7) ?_
  refine qG ?_
  exact jh (qI 0 14++qI 18 14)
 obtain⟨d,hd⟩:∃ d,b.own[0]' zO=d:=⟨_,rfl⟩
 have hd2:b.own.getD 0 default=d:=by rw [<-hd,RC,RE zO];rfl
 have hO:=Ik a d.addr ha
 have hx1:=Il a d.addr
 have hxs:=C0 (n:=d.addr) ha
 obtain⟨P,hP⟩:∃ P,P=iU a d.addr:=⟨_,rfl⟩
 rw [<-hP] at hO hx1 hxs
 obtain⟨x,L⟩:=P
 dsimp only at hO hx1 hxs
 have ht:=ht zO hd2 hP.symm
 clear hP
 obtain⟨X,Y,hXY⟩:∃ X Y,jN x L b=(X,Y):=⟨_,_,rfl⟩
 rw [hXY] at ht
 dsimp only at ht
 subst ht
 refine qX ?_
 refine bj [(6,10)] [] [(qU [0,13]),(qU [0,6,10,1,6,4,11,2])] 14 hE (fun s=>s.at (qU [26,10]) [(7,.sc (.pt 26 0 0)),(8,.sc (.sl 25 0 L.length))] (s.hp++(x.hp true++[some ⟨L.map LetterD.cs,19,36,true,true⟩,some ⟨[EndD.cs x 18],25,54,true,false⟩]))) (by kernel_rfl) (qC) (by kernel_rfl) ?_ (aa 400 ?_)
 rotate_left
 rotate_right
 simp only [a_]
 refine⟨ab 400 ?_,ab 400 ?_⟩
 ·try simp (disch:=omega) only [go_sem,seval,hd]
  refine b_ (hO) (qI 0 7) ?_
  exact qZ (qI 0 27)
 ·try simp (disch:=omega) only [go_sem,seval,hd]
  refine b_ (hO) (qI 0 7) ?_
  exact qZ (qI 0 18++qI 19 8++qI 18 1)
 refine qX ?_
 refine qK (hCb) (qI 7 7) ?_
 refine qX ?_
 refine Eh 14 hE (fun s (y:Nat×EndD×EndD)=>s.at (qU [0,4,8,1,11,3,15,23,41,25]) [(40,.sc (.int .i64 (y.1:Nat)))] ((s.hp.take 18)++(y.2.1.hp true++(((s.hp.drop 25).take 1)++(some ⟨[EndD.cs y.2.1 18],25,54,true,false⟩::(y.2.2.hp true++[some ⟨[EndD.cs y.2.2 27],25,54,true,false⟩])))))) (fun (y:Nat×EndD×EndD)=>y.1<=L.length/\Small y.2.1/\Small y.2.2/\jN y.2.1 (L.drop y.1) y.2.2=(X,Y)) (fun (y:Nat×EndD×EndD)=>L.length - y.1) (0,x,b) (qI 0 35) (⟨Nat.zero_le _,hxs,hb,hXY⟩) fun y hy N hN=>?_
 obtain⟨k,u,y⟩:=y
 obtain⟨f1,f2,f3,f4⟩:=hy
 dsimp only at f1 f2 f3 f4
 refine qR ?_
 refine qB (fun b1=>?_) fun b1=>?_
 ·have hgl:=bt (enc:=LetterD.cs) b1
  rw [C3 b1] at f4
  have hH:=mt y L[k] f3
  have hHs:=C2 (x:=L[k]) f3
  have hH1:=Im (e:=y) (x:=L[k])
  generalize hl0:L[k]=l0 at*
  obtain⟨Q,hQ⟩:∃ Q,Q=aV y l0:=⟨_,rfl⟩
  rw [<-hQ] at hH hHs hH1 f4
  obtain⟨y1,bk⟩:=Q
  dsimp only at hH hHs hH1 f4
  try simp (disch:=omega) only [go_sem,seval,hl0]
  refine qK (hH) (qI 27 7) ?_
  refine qX ?_
  refine Eh 14 hE (fun s (z:Nat×EndD)=>s.at (qU [0,4,8,1,15,23,42,9,54,12]) [(53,.sc (.int .i64 (z.1:Nat)))] ((s.hp.take 18)++(z.2.hp true++(((s.hp.drop 25).take 1)++(some ⟨[EndD.cs z.2 18],25,54,true,false⟩::s.hp.drop 27))))) (fun (z:Nat×EndD)=>z.1<=bk.length/\Small z.2/\(bk.drop z.1).foldl OV z.2=bk.foldl OV u) (fun (z:Nat×EndD)=>bk.length - z.1) (0,u) (qI 0 45) (⟨Nat.zero_le _,f2,rfl⟩) fun z hz N2 hN2=>?_
  obtain⟨j,v⟩:=z
  obtain⟨q1,q2,q3⟩:=hz
  dsimp only at q1 q2 q3
  refine qR ?_
  refine qB (fun b2=>?_) fun b2=>?_
  ·have hgm:=bt (enc:=LetterD.cs) b2
   rw [Fk b2] at q3
   have hB:=oc v bk[j] q2
   have hBs:=Fi (x:=bk[j]) q2
   generalize hm0:bk[j]=m at*
   obtain⟨Q,hQ⟩:∃ Q,Q=bC v m:=⟨_,rfl⟩
   rw [<-hQ] at hB hBs q3
   try simp (disch:=omega) only [go_sem,seval,hm0]
   refine qK (hB) (qI 18 7) ?_
   refine qX ?_
   exact Qy hN2 (j+1,Q.1) (qI 0 18++qI 46 7++qI 25 20) (by (try dsimp only);exact⟨zO,hBs,q3⟩)
  rw [Io zO] at q3
  rw [<-q3] at f4
  refine qX ?_
  exact Qy hN (k+1,v,y1) (qI 0 27++qI 36 7++qI 34 1) (by (try dsimp only);exact⟨zO,q2,hHs,f4⟩)
 rw [Fj zO] at f4
 simp only [Prod.mk.injEq] at f4
 obtain⟨rfl,rfl⟩:=f4
 rcases Fl u y with⟨c1,hm⟩|⟨c1,c2,hm⟩|⟨c1,c2,c3,hm⟩|⟨c1,c2,c3,c4,hm⟩|⟨c1,c2,c3,c4,hm⟩
 all_goals
  rw [hm]
  refine qX ?_
  refine aQ [(1,24),(19,24),(19,25),(21,24),(21,25)] [(qU [0,1,2,17,20,1,1,1,19,1,21,6]),(qU [0,1,2,17,20,1,1,1,19,1,24,1,21,3,25,2]),(qU [0,1,2,17,20,1,1,1,19,1,24,2,21,3,26,1]),(qU [0,1,2,17,20,1,1,1,21,1,24,1,19,1,22,2,25,2]),(qU [0,1,2,17,20,1,1,1,24,1,19,1,21,3,25,2]),(qU [0,1,2,17,20,1,1,1,24,1,19,1,25,1,21,3,26,1]),(qU [0,1,2,17,20,1,1,1,21,1,24,2,19,1,22,2,26,1]),(qU [0,1,2,17,20,1,1,1,24,1,21,1,25,1,19,1,22,2,26,1]),(qU [0,1,2,17,20,1,1,1,24,2,19,1,21,3,26,1]),(qU [0,1,2,17,20,1,19,1,21,4,1,1,25,2]),(qU [0,1,2,17,20,1,19,1,24,1,1,1,21,3,25,2]),(qU [0,1,2,17,20,1,19,1,24,1,1,1,25,1,21,3,26,1]),(qU [0,1,2,17,20,2,24,1,1,1,19,1,22,2,25,2]),(qU [0,1,2,17,20,1,24,1,1,1,19,1,21,3,25,2]),(qU [0,1,2,17,20,1,24,1,1,1,19,1,25,1,21,3,26,1]),(qU [0,1,2,17,20,2,24,1,1,1,25,1,19,1,22,2,26,1]),(qU [0,1,2,17,20,1,24,1,1,1,21,1,25,1,19,1,22,2,26,1]),(qU [0,1,2,17,20,1,24,1,1,1,25,1,19,1,21,3,26,1])] (by kernel_rfl) (qC) (by kernel_rfl) ?_
  simp only [a_]
  refine⟨ab 400 ?_,ab 400 ?_,ab 400 ?_,ab 400 ?_,ab 400 ?_,ab 400 ?_,ab 400 ?_,ab 400 ?_,ab 400 ?_,ab 400 ?_,ab 400 ?_,ab 400 ?_,ab 400 ?_,ab 400 ?_,ab 400 ?_,ab 400 ?_,ab 400 ?_,ab 400 ?_⟩
  all_goals simp (disch:=omega) only [go_sem,seval]
  all_goals
   refine qG ?_
   exact jh (qI 0 14++qI 18 7++qI 27 7)
theorem FP (a:ActD):(aG a).length<=4:=by
 rw [aG,cy]
 (repeat' split)<;>simp
theorem Lx {k:Int} (h:1<=k/\k<=12):actTab[k.toNat]? =some (actTab.getD k.toNat []):=by
 have hl:actTab.length=13:=rfl
 rw [RC,RE zO]
 rfl
theorem Bk (a:ActD) (hw:a.wf):mY Tryz.prog 0 actTab 52 [.ag a.cs] [] (.sc (.st (aO a))) []:=by
 have hA:=oS a
 by_cases hok:bG a=true
 ·rw [hok] at hA
  have hk:1<=a.kind/\a.kind<=12:=by
   simp only [bG,dJ,Ru,decide_eq_true_eq] at hok
   exact hok.1.1.1
  have hS:=FO a hw hk
  have hfl:=FP a
  by_cases hf:aD a=true
  ·by_cases ht:cc a=a
   ·have hg:actGood a=true:=by simp [actGood,hok,hf,ht]
    have hal:=ey hg
    rw [actParts] at hal
    have hp:=(eq (fK hg)).tot
    rw [actParts] at hp
    have hx:=Lx hk
    generalize actTab.getD a.kind.toNat []=x at hal hp hx
    have hj:=ji (y:=[32]) (l:=x::aG a)
    simp only [RO,Rv,Nat.mul_one] at hj
    rw [hal]
    rw [ht,hf] at hS
    generalize aG a=fl at*
    refine q_ func52 (by kernel_rfl) rfl fun E hG hE=>aa 400 ?_
    simp (disch:=omega) only [ntmps52,results52,go_sem]
    refine qK (hA) [] ?_
    refine qK (hS) [] ?_
    have hJ:=jZ [32] (x::fl) zS zO
    rw [show (x::fl).length=1+fl.length from by simp;omega] at hJ
    refine Lw hG rfl rfl rfl rfl rfl rfl underlying104 (by kernel_rfl) (by kernel_rfl) (by kernel_rfl) (by kernel_rfl) rfl zO zO hx (qC) (aa 400 ?_) (by unfold Slots.has;simp)
    refine qX ?_
    refine qK (hJ) (qI 4 1) ?_
    exact qF []
   have hcmp:cN a.cs (cc a).cs=false:=by rw [ActD.cmp];simpa using fun h=>ht h.symm
   rw [lH (fun h=>ht h.2)]
   generalize cc a=u at*
   simp only [go_sem] at hcmp
   rw [hf] at hS
   generalize aG a=fl at*
   refine Bj ?_
   refine qE func52 ntmps52 results52 fun E hE=>?_
   refine qK (hA) [] ?_
   refine ah (qC) (hS) [] qM zF (aa 400 ?_)
   simp (disch:=omega) only [go_sem,seval,hcmp]
   exact qF []
  have hf':aD a=false:=by simpa using hf
  have hno:aO a=[]:=by simp [aO,actGood,hf']
  rw [hno]
  rw [hf'] at hS
  generalize aG a=fl at*
  refine Bj ?_
  refine qE func52 ntmps52 results52 fun E hE=>?_
  refine qK (hA) [] ?_
  refine qK (hS) [] ?_
  exact qF []
 have hok':bG a=false:=by simpa using hok
 rw [hok'] at hA
 rw [lH (fun h=>hok h.1)]
 refine Bj ?_
 refine qE func52 ntmps52 results52 fun E hE=>?_
 refine qK (hA) [] ?_
 exact qF []
def sG (b:List UInt8):Nat->CurD->List UInt8×CurD
 |0,c=>([],c)
 |n+1,c=>(UInt8.ofNat (c.bv b).toNat::(sG b n (c.bn b)).1,(sG b n (c.bn b)).2)
theorem DH (b:List UInt8):∀ (n:Nat) (c:CurD),(sG b n c).1.length=n
 |0,_=>rfl
 |n+1,c=>by simp [sG,DH b n]
theorem G6 {b:List UInt8}:∀ {n:Nat} {c:CurD},c.ok b->(sG b n c).2.ok b
 |0,_,h=>h
 |n+1,c,h=>G6 (n:=n) (CurD.bn_ok h)
theorem Bm (b:List UInt8) (c:CurD) (hc:c.ok b) (n:Nat) (hn:n<=5000):aP 71 [.sc (.pt 1 0 0),.sc (.int .i64 (n:Int))] (c.hp b) (.sc (.st (sG b n c).1)) ((sG b n c).2.hp b):=by
 obtain⟨T,hT⟩:∃ T,T=sG b n c:=⟨_,rfl⟩
 rw [<-hT]
 refine qE func71 ntmps71 results71 fun E hE=>?_
 refine kw 2 hE (fun s (y:List UInt8×CurD)=>s.at (qU [7,14]) [(6,.sc (.int .i64 (y.1.length:Nat))),(5,.sc (.sl 2 0 y.1.length))] (y.2.hp b++[some ⟨y.1.map ec,1,5,true,true⟩])) (fun (y:List UInt8×CurD)=>y.1.length<=n/\y.2.ok b/\(y.1++(sG b (n - y.1.length) y.2).1,(sG b (n - y.1.length) y.2).2)=T) (fun (y:List UInt8×CurD)=>n - y.1.length) ([],c) (qI 0 3) (⟨Nat.zero_le _,hc,hT.symm⟩) fun y hy N hN=>?_
 obtain⟨acc,c1⟩:=y
 obtain⟨h1,h2,h3⟩:=hy
 dsimp only at h1 h2 h3
 refine qR ?_
 refine qB (fun h=>?_) fun h=>?_
 ·have hb:=c1.bv_le b
  have hB:=fP b c1 h2
  have o2:=CurD.bn_ok h2
  rw [show n - acc.length=(n - (acc.length+1))+1 from by omega,sG] at h3
  have hbc:=yx (z:=c1.bv b) hb.1 zO
  generalize c1.bv b=v at hb hB h3 hbc
  generalize c1.bn b=c2 at hB o2 h3
  refine qK (hB) (qI 0 2) ?_
  refine⟨qC,hN _ (acc++[UInt8.ofNat v.toNat],c2) (qI 0 2++qI 4 1) (by (try dsimp only);exact⟨by simp;omega,o2,by rw [RI,RH,List.append_assoc];exact h3⟩) zS (ay zF zF ?_)⟩
  try simp (disch:=omega) only [go_sem,seval,w8 hb]
  simp [hbc]
 rw [show n - acc.length=0 from by omega] at h3
 simp only [sG,List.append_nil] at h3
 subst h3
 exact qF (qI 0 2)
def CurD.pickS (c:CurD) (b:List UInt8) (l:List (List UInt8)):List UInt8:=l.getD (c.below b l.length).1.toNat []
theorem CurD.pickS_mem (c:CurD) (b:List UInt8) {l:List (List UInt8)} (h:0 < l.length):c.pickS b l∈l:=by
 have hb:=c.below_lt b (n:=(l.length:Int)) zO
 rw [CurD.pickS,RC,RE zO]
 exact List.getElem_mem _
theorem rn (b:List UInt8) (c:CurD) (hc:c.ok b) (l:List (List UInt8)) (h0:0 < l.length) (hl:l.length<=1000):aP 117 [.sc (.pt 1 0 0),.sc (.sl 2 0 l.length)] (c.hp b++[some ⟨l.map aM,1,9,false,true⟩]) (.sc (.st (c.pickS b l))) (((c.below b l.length).2.hp b)++[some ⟨l.map aM,1,9,false,true⟩]):=by
 have hb:=c.below_lt b (n:=(l.length:Int)) zO
 have hp:c.pickS b l=l.getD (c.below b l.length).1.toNat []:=rfl
 have hk:=aA b c hc l.length
 rw [hp]
 generalize c.below b l.length=r at*
 obtain⟨v,c1⟩:=r
 dsimp only at hb hk⊢
 obtain⟨k,rfl⟩:=Int.eq_ofNat_of_zero_le hb.1
 have hlt:k < l.length:=zO
 rw [Int.toNat_natCast,RC,RE hlt,Option.getD_some]
 refine qE func117 ntmps117 results117 fun E hE=>?_
 refine qK (hk) (qI 0 2) ?_
 try simp (disch:=omega) only [go_sem,seval,gG hlt]
 exact qF (qI 0 3)
theorem DI (b:List UInt8) (c:CurD) (hc:c.ok b):∃ (x:TagD) (c':CurD),c'.ok b/\x.wf/\aP 116 [.sc (.pt 1 0 0)] (c.hp b) (.ag x.cs) (c'.hp b):=by
 have h1:=aA b c hc 4
 have o1:=CurD.below_ok hc 4
 have b1:=c.below_lt b (n:=4) zO
 generalize c.below b 4=r1 at h1 o1 b1
 obtain⟨v1,c1⟩:=r1
 dsimp only at h1 o1 b1
 have h2:=aA b c1 o1 3
 have o2:=CurD.below_ok o1 3
 have b2:=c1.below_lt b (n:=3) zO
 generalize c1.below b 3=r2 at h2 o2 b2
 obtain⟨v2,c2⟩:=r2
 dsimp only at h2 o2 b2
 have h3:=aA b c2 o2 3
 have o3:=CurD.below_ok o2 3
 have b3:=c2.below_lt b (n:=3) zO
 generalize c2.below b 3=r3 at h3 o3 b3
 obtain⟨v3,c3⟩:=r3
 dsimp only at h3 o3 b3
 have h4:=aA b c3 o3 4
 have o4:=CurD.below_ok o3 4
 have b4:=c3.below_lt b (n:=4) zO
 generalize c3.below b 4=r4 at h4 o4 b4
 obtain⟨v4,c4⟩:=r4
 dsimp only at h4 o4 b4
 have h5:=aA b c4 o4 4
 have o5:=CurD.below_ok o4 4
 have b5:=c4.below_lt b (n:=4) zO
 generalize c4.below b 4=r5 at h5 o5 b5
 obtain⟨v5,c5⟩:=r5
 dsimp only at h5 o5 b5
 refine⟨⟨v1,1+v2,1+v3,v4,v5⟩,c5,o5,by simp only [TagD.wf,aR];omega,?_⟩
 refine qE func116 ntmps116 results116 fun E hE=>?_
 refine qK (h1) (qI 0 2) ?_
 refine qK (h2) (qI 0 2) ?_
 refine qK (h3) (qI 0 2) ?_
 refine qK (h4) (qI 0 2) ?_
 refine qK (h5) (qI 0 2) ?_
 exact qF (qI 0 2)
theorem Nu:∀ p∈pols,p.wf:=by
 intro p hp
 simp only [pols,RF,RV,or_false] at hp
 rcases hp with rfl|rfl|rfl|rfl|rfl|rfl<;>exact⟨⟨by decide,by decide⟩,⟨by decide,by decide⟩⟩
theorem xA (b:List UInt8) (c:CurD) (hc:c.ok b):∃ (x:LetterD) (c':CurD),c'.ok b/\x.wf/\aP 73 [.sc (.pt 1 0 0)] (c.hp b) (.ag x.cs) (c'.hp b):=by
 have h1:=aA b c hc 13
 have o1:=CurD.below_ok hc 13
 have b1:=c.below_lt b (n:=13) zO
 generalize c.below b 13=r1 at h1 o1 b1
 obtain⟨v1,c1⟩:=r1
 dsimp only at h1 o1 b1
 have h2:=dF b c1 o1 [11,12,21,22,31] zD zD
 have o2:=CurD.below_ok o1 (b:=b) 5
 have m2:=c1.pick_mem b (l:=[11,12,21,22,31]) zD
 have w2:=(by decide:∀ x∈([11,12,21,22,31]:List Int),11<=x/\x<=31) _ m2
 rw [show (([11,12,21,22,31]:List Int).length:Int)=5 from rfl] at h2
 generalize c1.pick b [11,12,21,22,31]=v2 at h2 w2
 clear m2
 generalize c1.below b 5=r2 at h2 o2
 obtain⟨u2,c2⟩:=r2
 dsimp only at h2 o2
 have h3:=dF b c2 o2 [11,12,21,22,31] zD zD
 have o3:=CurD.below_ok o2 (b:=b) 5
 have m3:=c2.pick_mem b (l:=[11,12,21,22,31]) zD
 have w3:=(by decide:∀ x∈([11,12,21,22,31]:List Int),11<=x/\x<=31) _ m3
 rw [show (([11,12,21,22,31]:List Int).length:Int)=5 from rfl] at h3
 generalize c2.pick b [11,12,21,22,31]=v3 at h3 w3
 clear m3
 generalize c2.below b 5=r3 at h3 o3
 obtain⟨u3,c3⟩:=r3
 dsimp only at h3 o3
 have h4:=aA b c3 o3 3
 have o4:=CurD.below_ok o3 3
 have b4:=c3.below_lt b (n:=3) zO
 generalize c3.below b 3=r4 at h4 o4 b4
 obtain⟨v4,c4⟩:=r4
 dsimp only at h4 o4 b4
 have h5:=aA b c4 o4 3
 have o5:=CurD.below_ok o4 3
 have b5:=c4.below_lt b (n:=3) zO
 generalize c4.below b 3=r5 at h5 o5 b5
 obtain⟨v5,c5⟩:=r5
 dsimp only at h5 o5 b5
 have h6:=dF b c5 o5 [101,102,7] zD zD
 have o6:=CurD.below_ok o5 (b:=b) 3
 have m6:=c5.pick_mem b (l:=[101,102,7]) zD
 have w6:=(by decide:∀ x∈([101,102,7]:List Int),7<=x/\x<=102) _ m6
 rw [show (([101,102,7]:List Int).length:Int)=3 from rfl] at h6
 generalize c5.pick b [101,102,7]=v6 at h6 w6
 clear m6
 generalize c5.below b 3=r6 at h6 o6
 obtain⟨u6,c6⟩:=r6
 dsimp only at h6 o6
 have h7:=aA b c6 o6 9
 have o7:=CurD.below_ok o6 9
 have b7:=c6.below_lt b (n:=9) zO
 generalize c6.below b 9=r7 at h7 o7 b7
 obtain⟨v7,c7⟩:=r7
 dsimp only at h7 o7 b7
 have h8:=aA b c7 o7 9
 have o8:=CurD.below_ok o7 9
 have b8:=c7.below_lt b (n:=9) zO
 generalize c7.below b 9=r8 at h8 o8 b8
 obtain⟨v8,c8⟩:=r8
 dsimp only at h8 o8 b8
 have h9:=aA b c8 o8 9
 have o9:=CurD.below_ok o8 9
 have b9:=c8.below_lt b (n:=9) zO
 generalize c8.below b 9=r9 at h9 o9 b9
 obtain⟨v9,c9⟩:=r9
 dsimp only at h9 o9 b9
 have h10:=aA b c9 o9 4
 have o10:=CurD.below_ok o9 4
 have b10:=c9.below_lt b (n:=4) zO
 generalize c9.below b 4=r10 at h10 o10 b10
 obtain⟨v10,c10⟩:=r10
 dsimp only at h10 o10 b10
 have h11:=dF b c10 o10 [11,12,13,21,22,23,31] zD zD
 have o11:=CurD.below_ok o10 (b:=b) 7
 have m11:=c10.pick_mem b (l:=[11,12,13,21,22,23,31]) zD
 have w11:=(by decide:∀ x∈([11,12,13,21,22,23,31]:List Int),11<=x/\x<=31) _ m11
 rw [show (([11,12,13,21,22,23,31]:List Int).length:Int)=7 from rfl] at h11
 generalize c10.pick b [11,12,13,21,22,23,31]=v11 at h11 w11
 clear m11
 generalize c10.below b 7=r11 at h11 o11
 obtain⟨u11,c11⟩:=r11
 dsimp only at h11 o11
 have h12:=aA b c11 o11 30
 have o12:=CurD.below_ok o11 30
 have b12:=c11.below_lt b (n:=30) zO
 generalize c11.below b 30=r12 at h12 o12 b12
 obtain⟨v12,c12⟩:=r12
 dsimp only at h12 o12 b12
 have h13:=lA b c12 o12 3
 have o13:=CurD.below_ok o12 3
 have b13:=c12.below_lt b (n:=3) zO
 generalize c12.below b 3=r13 at h13 o13 b13
 obtain⟨v13,c13⟩:=r13
 dsimp only at h13 o13 b13
 generalize hq13:(v13 == 0)=q13 at h13
 rcases RP q13 with e13|e13<;>rw [e13] at h13
 ·obtain⟨t,c14,o14,w14,h14⟩:=DI b c13 o13
  have w14:=w14
  obtain⟨t1,t2,t3,t4,t5⟩:=t
  by_cases e11:1+v1=11
  ·have h15:=rn b c14 o14 [[97],[101,118,105,108],[122,122],[]] zD zD
   have o15:=CurD.below_ok o14 (b:=b) 4
   have m15:=c14.pickS_mem b (l:=[[97],[101,118,105,108],[122,122],[]]) zD
   have w15:=(by decide:∀ x∈([[97],[101,118,105,108],[122,122],[]]:List (List UInt8)),x.length<=20) _ m15
   rw [show (([[97],[101,118,105,108],[122,122],[]]:List (List UInt8)).length:Int)=4 from rfl] at h15
   generalize c14.pickS b [[97],[101,118,105,108],[122,122],[]]=v15 at h15 w15
   clear m15
   generalize c14.below b 4=r15 at h15 o15
   obtain⟨u15,c15⟩:=r15
   dsimp only at h15 o15
   refine⟨⟨1+v1,v2,v3,v4,v5,v6,v7,v8,v9,⟨t1,t2,t3,t4,t5⟩,v10,v11,false,v12,v15⟩,c15,o15,by simp only [LetterD.wf,aR,maxLen,TagD.wf,Rv] at*;omega,?_⟩
   refine qE func73 ntmps73 results73 fun E hE=>?_
   refine qK (h1) (qI 0 2) ?_
   refine qK (h2) (qI 0 2++qI 3 1) ?_
   refine qK (h3) (qI 0 2++qI 4 1) ?_
   refine qK (h4) (qI 0 2) ?_
   refine qK (h5) (qI 0 2) ?_
   refine qK (h6) (qI 0 2++qI 5 1) ?_
   refine qK (h7) (qI 0 2) ?_
   refine qK (h8) (qI 0 2) ?_
   refine qK (h9) (qI 0 2) ?_
   refine qK (h10) (qI 0 2) ?_
   refine qK (h11) (qI 0 2++qI 6 1) ?_
   refine qK (h12) (qI 0 2) ?_
   refine qK (h13) (qI 0 2) ?_
   refine qK (h14) (qI 0 2) ?_
   refine qK (h15) (qI 0 2++qI 8 1) ?_
   exact qF (qI 0 2)
  refine⟨⟨1+v1,v2,v3,v4,v5,v6,v7,v8,v9,⟨t1,t2,t3,t4,t5⟩,v10,v11,false,v12,[]⟩,c14,o14,by simp only [LetterD.wf,aR,maxLen,TagD.wf,Rv] at*;omega,?_⟩
  refine qE func73 ntmps73 results73 fun E hE=>?_
  refine qK (h1) (qI 0 2) ?_
  refine qK (h2) (qI 0 2++qI 3 1) ?_
  refine qK (h3) (qI 0 2++qI 4 1) ?_
  refine qK (h4) (qI 0 2) ?_
  refine qK (h5) (qI 0 2) ?_
  refine qK (h6) (qI 0 2++qI 5 1) ?_
  refine qK (h7) (qI 0 2) ?_
  refine qK (h8) (qI 0 2) ?_
  refine qK (h9) (qI 0 2) ?_
  refine qK (h10) (qI 0 2) ?_
  refine qK (h11) (qI 0 2++qI 6 1) ?_
  refine qK (h12) (qI 0 2) ?_
  refine qK (h13) (qI 0 2) ?_
  refine qK (h14) (qI 0 2) ?_
  exact qF (qI 0 2)
 by_cases e11:1+v1=11
 ·have h14:=rn b c13 o13 [[97],[101,118,105,108],[122,122],[]] zD zD
  have o14:=CurD.below_ok o13 (b:=b) 4
  have m14:=c13.pickS_mem b (l:=[[97],[101,118,105,108],[122,122],[]]) zD
  have w14:=(by decide:∀ x∈([[97],[101,118,105,108],[122,122],[]]:List (List UInt8)),x.length<=20) _ m14
  rw [show (([[97],[101,118,105,108],[122,122],[]]:List (List UInt8)).length:Int)=4 from rfl] at h14
  generalize c13.pickS b [[97],[101,118,105,108],[122,122],[]]=v14 at h14 w14
  clear m14
  generalize c13.below b 4=r14 at h14 o14
  obtain⟨u14,c14⟩:=r14
  dsimp only at h14 o14
  refine⟨⟨1+v1,v2,v3,v4,v5,v6,v7,v8,v9,⟨0,0,0,0,0⟩,v10,v11,false,v12,v14⟩,c14,o14,by simp only [LetterD.wf,aR,maxLen,TagD.wf,Rv] at*;omega,?_⟩
  refine qE func73 ntmps73 results73 fun E hE=>?_
  refine qK (h1) (qI 0 2) ?_
  refine qK (h2) (qI 0 2++qI 3 1) ?_
  refine qK (h3) (qI 0 2++qI 4 1) ?_
  refine qK (h4) (qI 0 2) ?_
  refine qK (h5) (qI 0 2) ?_
  refine qK (h6) (qI 0 2++qI 5 1) ?_
  refine qK (h7) (qI 0 2) ?_
  refine qK (h8) (qI 0 2) ?_
  refine qK (h9) (qI 0 2) ?_
  refine qK (h10) (qI 0 2) ?_
  refine qK (h11) (qI 0 2++qI 6 1) ?_
  refine qK (h12) (qI 0 2) ?_
  refine qK (h13) (qI 0 2) ?_
  refine qK (h14) (qI 0 2++qI 8 1) ?_
  exact qF (qI 0 2)
 refine⟨⟨1+v1,v2,v3,v4,v5,v6,v7,v8,v9,⟨0,0,0,0,0⟩,v10,v11,false,v12,[]⟩,c13,o13,by simp only [LetterD.wf,aR,maxLen,TagD.wf,Rv] at*;omega,?_⟩
 refine qE func73 ntmps73 results73 fun E hE=>?_
 refine qK (h1) (qI 0 2) ?_
 refine qK (h2) (qI 0 2++qI 3 1) ?_
 refine qK (h3) (qI 0 2++qI 4 1) ?_
 refine qK (h4) (qI 0 2) ?_
 refine qK (h5) (qI 0 2) ?_
 refine qK (h6) (qI 0 2++qI 5 1) ?_
 refine qK (h7) (qI 0 2) ?_
 refine qK (h8) (qI 0 2) ?_
 refine qK (h9) (qI 0 2) ?_
 refine qK (h10) (qI 0 2) ?_
 refine qK (h11) (qI 0 2++qI 6 1) ?_
 refine qK (h12) (qI 0 2) ?_
 refine qK (h13) (qI 0 2) ?_
 exact qF (qI 0 2)
theorem DJ (b:List UInt8) (c:CurD) (hc:c.ok b):∃ (x:ActD) (c':CurD),c'.ok b/\(x.wf/\x.text.length<=200/\bG x=true)/\aP 45 [.sc (.pt 1 0 0)] (c.hp b) (.ag x.cs) (c'.hp b):=by
 have h1:=aA b c hc 2
 have o1:=CurD.below_ok hc 2
 have b1:=c.below_lt b (n:=2) zO
 generalize c.below b 2=r1 at h1 o1 b1
 obtain⟨v1,c1⟩:=r1
 dsimp only at h1 o1 b1
 have h2:=aA b c1 o1 4
 have o2:=CurD.below_ok o1 4
 have b2:=c1.below_lt b (n:=4) zO
 generalize c1.below b 4=r2 at h2 o2 b2
 obtain⟨v2,c2⟩:=r2
 dsimp only at h2 o2 b2
 have h3:=dF b c2 o2 [1,1,2,3,3,4,4,5,5,6,7,8,8,8,8,8,8,8,8,8,8,9,10,11,12] zD zD
 have o3:=CurD.below_ok o2 (b:=b) 25
 have m3:=c2.pick_mem b (l:=[1,1,2,3,3,4,4,5,5,6,7,8,8,8,8,8,8,8,8,8,8,9,10,11,12]) zD
 have w3:=(by decide:∀ x∈([1,1,2,3,3,4,4,5,5,6,7,8,8,8,8,8,8,8,8,8,8,9,10,11,12]:List Int),1<=x/\x<=12) _ m3
 rw [show (([1,1,2,3,3,4,4,5,5,6,7,8,8,8,8,8,8,8,8,8,8,9,10,11,12]:List Int).length:Int)=25 from rfl] at h3
 generalize c2.pick b [1,1,2,3,3,4,4,5,5,6,7,8,8,8,8,8,8,8,8,8,8,9,10,11,12]=v3 at h3 w3
 clear m3
 generalize c2.below b 25=r3 at h3 o3
 obtain⟨u3,c3⟩:=r3
 dsimp only at h3 o3
 have hv:v3=1\/v3=2\/v3=5\/v3=6\/v3=8\/v3=11\/v3=12\/(v3≠1/\v3≠2/\v3≠5/\v3≠6/\v3≠8/\v3≠11/\v3≠12):=zO
 rcases hv with rfl|rfl|rfl|rfl|rfl|rfl|rfl|hv
 ·have h4:=aA b c3 o3 40
  have o4:=CurD.below_ok o3 40
  have b4:=c3.below_lt b (n:=40) zO
  generalize c3.below b 40=r4 at h4 o4 b4
  obtain⟨v4,c4⟩:=r4
  dsimp only at h4 o4 b4
  obtain⟨n,hn⟩:=Int.eq_ofNat_of_zero_le (show 0<=1+v4 by omega)
  have hT:=Bm b c4 o4 n zO
  have oT:=G6 (n:=n) o4
  have lT:=DH b n c4
  generalize sG b n c4=T at hT oT lT
  obtain⟨T,cT⟩:=T
  dsimp only at hT oT lT
  refine⟨⟨1,1+v1,v2,0,T,ae,ac⟩,cT,oT,⟨by simp only [ActD.wf,LetterD.wf,aR,maxLen,ac,ae,Rv] at*;omega,by simp only [Rv];omega,by simp only [bG,dJ,eg,Ru,decide_eq_true_eq,Rv];omega⟩,?_⟩
  refine qE func45 ntmps45 results45 fun E hE=>?_
  refine qK (h1) (qI 0 2) ?_
  refine qK (h2) (qI 0 2) ?_
  refine qK (h3) (qI 0 2++qI 4 1) ?_
  refine qK (h4) (qI 0 2) ?_
  try simp (disch:=omega) only [go_sem,seval,hn]
  refine qK (hT) (qI 0 2) ?_
  refine qP (qI 0 2) ?_
  first|exact⟨⟩|simp [ae,ac]
 ·have h4:=aA b c3 o3 50
  have o4:=CurD.below_ok o3 50
  have b4:=c3.below_lt b (n:=50) zO
  generalize c3.below b 50=r4 at h4 o4 b4
  obtain⟨v4,c4⟩:=r4
  dsimp only at h4 o4 b4
  refine⟨⟨2,1+v1,v2,v4,[],ae,ac⟩,c4,o4,⟨by simp only [ActD.wf,LetterD.wf,aR,maxLen,ac,ae,Rv] at*;omega,by simp only [Rv];omega,by simp only [bG,dJ,eg,Ru,decide_eq_true_eq,Rv];omega⟩,?_⟩
  refine qE func45 ntmps45 results45 fun E hE=>?_
  refine qK (h1) (qI 0 2) ?_
  refine qK (h2) (qI 0 2) ?_
  refine qK (h3) (qI 0 2++qI 4 1) ?_
  refine qK (h4) (qI 0 2) ?_
  refine qP (qI 0 2) ?_
  first|exact⟨⟩|simp [ae,ac]
 ·have h4:=aA b c3 o3 3
  have o4:=CurD.below_ok o3 3
  have b4:=c3.below_lt b (n:=3) zO
  generalize c3.below b 3=r4 at h4 o4 b4
  obtain⟨v4,c4⟩:=r4
  dsimp only at h4 o4 b4
  have h5:=aA b c4 o4 3
  have o5:=CurD.below_ok o4 3
  have b5:=c4.below_lt b (n:=3) zO
  generalize c4.below b 3=r5 at h5 o5 b5
  obtain⟨v5,c5⟩:=r5
  dsimp only at h5 o5 b5
  have h6:=lA b c5 o5 4
  have o6:=CurD.below_ok o5 4
  have b6:=c5.below_lt b (n:=4) zO
  generalize c5.below b 4=r6 at h6 o6 b6
  obtain⟨v6,c6⟩:=r6
  dsimp only at h6 o6 b6
  generalize hq6:(v6 == 0)=q6 at h6
  refine⟨⟨5,1+v1,v2,0,[],⟨1+v4,10*(1+v1)+2+v5,q6,false⟩,ac⟩,c6,o6,⟨by simp only [ActD.wf,LetterD.wf,aR,maxLen,ac,ae,Rv] at*;omega,by simp only [Rv];omega,by simp only [bG,dJ,eg,Ru,decide_eq_true_eq,Rv];omega⟩,?_⟩
  refine qE func45 ntmps45 results45 fun E hE=>?_
  refine qK (h1) (qI 0 2) ?_
  refine qK (h2) (qI 0 2) ?_
  refine qK (h3) (qI 0 2++qI 4 1) ?_
  refine ys [(1,4),(4,8),(4,11)] [[0,3,7,10,1,2,4,5,6,8,9,11,12,13,14],[0,3,7,10,1,2,8,4,5,6,9,11,12,13,14],[0,3,7,10,1,2,8,11,4,5,6,9,12,13,14],[0,3,7,10,4,5,6,1,2,8,9,11,12,13,14]] (by kernel_rfl) (qC) (by kernel_rfl) ?_
  simp only [a_]
  refine⟨fm 400 ?_,fm 400 ?_,fm 400 ?_,fm 400 ?_⟩
  all_goals simp (disch:=omega) only [go_sem,seval]
  all_goals
   refine ng (qC) (h4) (qI 0 2) qM zF (fm 400 ?_)
   simp (disch:=omega) only [go_sem,seval]
   refine ng (qC) (h5) (qI 0 2) qM zF (fm 400 ?_)
   simp (disch:=omega) only [go_sem,seval]
   refine ng (qC) (h6) (qI 0 2) qM zF (fm 400 ?_)
   simp (disch:=omega) only [go_sem,seval]
   refine qG ?_
   refine qP (qI 0 2) ?_
   first|exact⟨⟩|simp [ae,ac]
 ·have h4:=aA b c3 o3 4
  have o4:=CurD.below_ok o3 4
  have b4:=c3.below_lt b (n:=4) zO
  generalize c3.below b 4=r4 at h4 o4 b4
  obtain⟨v4,c4⟩:=r4
  dsimp only at h4 o4 b4
  refine⟨⟨6,1+v1,v4,0,[],ae,ac⟩,c4,o4,⟨by simp only [ActD.wf,LetterD.wf,aR,maxLen,ac,ae,Rv] at*;omega,by simp only [Rv];omega,by simp only [bG,dJ,eg,Ru,decide_eq_true_eq,Rv];omega⟩,?_⟩
  refine qE func45 ntmps45 results45 fun E hE=>?_
  refine qK (h1) (qI 0 2) ?_
  refine qK (h2) (qI 0 2) ?_
  refine qK (h3) (qI 0 2++qI 4 1) ?_
  refine qK (h4) (qI 0 2) ?_
  refine qP (qI 0 2) ?_
  first|exact⟨⟩|simp [ae,ac]
 ·have h4:=dF b c3 o3 [0,0,0,1,2] zD zD
  have o4:=CurD.below_ok o3 (b:=b) 5
  have m4:=c3.pick_mem b (l:=[0,0,0,1,2]) zD
  have w4:=(by decide:∀ x∈([0,0,0,1,2]:List Int),0<=x/\x<=2) _ m4
  rw [show (([0,0,0,1,2]:List Int).length:Int)=5 from rfl] at h4
  generalize c3.pick b [0,0,0,1,2]=v4 at h4 w4
  clear m4
  generalize c3.below b 5=r4 at h4 o4
  obtain⟨u4,c4⟩:=r4
  dsimp only at h4 o4
  refine⟨⟨8,1+v1,v4,0,[],ae,ac⟩,c4,o4,⟨by simp only [ActD.wf,LetterD.wf,aR,maxLen,ac,ae,Rv] at*;omega,by simp only [Rv];omega,by simp only [bG,dJ,eg,Ru,decide_eq_true_eq,Rv];omega⟩,?_⟩
  refine qE func45 ntmps45 results45 fun E hE=>?_
  refine qK (h1) (qI 0 2) ?_
  refine qK (h2) (qI 0 2) ?_
  refine qK (h3) (qI 0 2++qI 4 1) ?_
  refine qK (h4) (qI 0 2++qI 5 1) ?_
  refine qP (qI 0 2) ?_
  first|exact⟨⟩|simp [ae,ac]
 ·obtain⟨x,c4,o4,w4,h4⟩:=xA b c3 o3
  have h5:=lA b c4 o4 2
  have o5:=CurD.below_ok o4 2
  have b5:=c4.below_lt b (n:=2) zO
  generalize c4.below b 2=r5 at h5 o5 b5
  obtain⟨v5,c5⟩:=r5
  dsimp only at h5 o5 b5
  generalize hq5:(v5 == 0)=q5 at h5
  rcases RP q5 with e5|e5<;>rw [e5] at h5
  ·have h6:=dF b c5 o5 [4,6,11,8,13] zD zD
   have o6:=CurD.below_ok o5 (b:=b) 5
   have m6:=c5.pick_mem b (l:=[4,6,11,8,13]) zD
   have w6:=(by decide:∀ x∈([4,6,11,8,13]:List Int),4<=x/\x<=13) _ m6
   rw [show (([4,6,11,8,13]:List Int).length:Int)=5 from rfl] at h6
   generalize c5.pick b [4,6,11,8,13]=v6 at h6 w6
   clear m6
   generalize c5.below b 5=r6 at h6 o6
   obtain⟨u6,c6⟩:=r6
   dsimp only at h6 o6
   refine⟨⟨11,1+v1,v2,0,[],ae,{ x with kind:=v6,token:=102,tag:=⟨0,0,0,0,0⟩}⟩,c6,o6,⟨by simp only [ActD.wf,LetterD.wf,aR,maxLen,ac,ae,Rv] at*;omega,by simp only [Rv];omega,by simp only [bG,dJ,eg,Ru,decide_eq_true_eq,Rv];omega⟩,?_⟩
   refine qE func45 ntmps45 results45 fun E hE=>?_
   refine qK (h1) (qI 0 2) ?_
   refine qK (h2) (qI 0 2) ?_
   refine qK (h3) (qI 0 2++qI 4 1) ?_
   refine qK (h4) (qI 0 2) ?_
   refine qK (h5) (qI 0 2) ?_
   refine qK (h6) (qI 0 2++qI 5 1) ?_
   refine qP (qI 0 2) ?_
   first|exact⟨⟩|simp [ae,ac]
  refine⟨⟨11,1+v1,v2,0,[],ae,{ x with tag:=⟨0,0,0,0,0⟩}⟩,c5,o5,⟨by simp only [ActD.wf,LetterD.wf,aR,maxLen,ac,ae,Rv] at*;omega,by simp only [Rv];omega,by simp only [bG,dJ,eg,Ru,decide_eq_true_eq,Rv];omega⟩,?_⟩
  refine qE func45 ntmps45 results45 fun E hE=>?_
  refine qK (h1) (qI 0 2) ?_
  refine qK (h2) (qI 0 2) ?_
  refine qK (h3) (qI 0 2++qI 4 1) ?_
  refine qK (h4) (qI 0 2) ?_
  refine qK (h5) (qI 0 2) ?_
  refine qP (qI 0 2) ?_
  first|exact⟨⟩|simp [ae,ac]
 ·have h4:=aA b c3 o3 30
  have o4:=CurD.below_ok o3 30
  have b4:=c3.below_lt b (n:=30) zO
  generalize c3.below b 30=r4 at h4 o4 b4
  obtain⟨v4,c4⟩:=r4
  dsimp only at h4 o4 b4
  refine⟨⟨12,1+v1,v4,0,[],ae,ac⟩,c4,o4,⟨by simp only [ActD.wf,LetterD.wf,aR,maxLen,ac,ae,Rv] at*;omega,by simp only [Rv];omega,by simp only [bG,dJ,eg,Ru,decide_eq_true_eq,Rv];omega⟩,?_⟩
  refine qE func45 ntmps45 results45 fun E hE=>?_
  refine qK (h1) (qI 0 2) ?_
  refine qK (h2) (qI 0 2) ?_
  refine qK (h3) (qI 0 2++qI 4 1) ?_
  refine qK (h4) (qI 0 2) ?_
  refine qP (qI 0 2) ?_
  first|exact⟨⟩|simp [ae,ac]
 obtain⟨n1,n2,n5,n6,n8,n11,n12⟩:=hv
 refine⟨⟨v3,1+v1,v2,0,[],ae,ac⟩,c3,o3,⟨by simp only [ActD.wf,LetterD.wf,aR,maxLen,ac,ae,Rv] at*;omega,by simp only [Rv];omega,by simp only [bG,dJ,eg,Ru,decide_eq_true_eq,Rv];omega⟩,?_⟩
 refine qE func45 ntmps45 results45 fun E hE=>?_
 refine qK (h1) (qI 0 2) ?_
 refine qK (h2) (qI 0 2) ?_
 refine qK (h3) (qI 0 2++qI 4 1) ?_
 refine qP (qI 0 2) ?_
 first|exact⟨⟩|simp [ae,ac]
end
end Go.Proofs.YtdiiopjaebnmfaaGreatDoor
