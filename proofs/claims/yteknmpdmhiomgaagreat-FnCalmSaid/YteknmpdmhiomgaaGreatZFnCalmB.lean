/- Lemmas of this claim. -/
import Derived.Test.YteknmpdmhiomgaaGreatZFnCalmA
set_option maxHeartbeats 16000000
set_option maxRecDepth 100000
set_option linter.unusedVariables false
set_option linter.unusedSimpArgs false
namespace Go.Proofs.YteknmpdmhiomgaaGreat
open _root_.Go.Proofs.Tryz
open _root_.List renaming getD_eq_getElem?_getD->RP,all_eq_true->RS,getElem?_cons_succ->RV,getElem?_eq_some_iff->RX,mem_cons->RY,getElem?_eq_getElem->RZ,any_eq_true->R0,getElem?_cons_zero->R1,mem_of_getElem?->R3,getElem?_append_left->R4,mem_append->R6,contains_iff_mem->R9,mem_cons_of_mem->R_,getElem?_drop->Sb,length_append->Sd,nodup_cons->Se,getElem?_eq_none->Si,mem_range->Sk,cons_append->Sl,length_cons->Sm,getElem?_append_right->Sn,getD_cons_zero->Sp,getD_cons_succ->Sq,getElem?_take_of_lt->Sr,nodup_append->Ss,getElem?_set_ne->Sv,length_eq_zero_iff->SC,nil_append->SD,length_nil->SF,getElem?_set_self->SG,replicate_succ->SH,append_of_mem->SJ,contains_cons->SK,mem_cons_self->SL,getElem?_map->SM,mem_flatMap->SP,nodup_nil->SQ,set_comm->SR,mem_map->SU
open _root_.Bool renaming and_eq_true->RQ,or_eq_true->RW,not_eq_true'->R8,true_or->Sz,or_eq_true_iff->SI
open _root_.Array renaming getD_eq_getD_getElem?->RR,getElem?_eq_getElem->RU,getElem?_eq_some_iff->R2,getElem?_replicate->Sa,all_eq_true_iff_forall_mem->Su,getElem?_append_left->Sx
open _root_.Option renaming getD_some->RT,map_some->R7,map_eq_some_iff->Sf,bind_some->SN
open _root_.Nat renaming lt_or_ge->R5,zero_add->Sj,add_mul->So,le_refl->Sw,lt_trans->SV
open _root_.Go.Result renaming andThen_ok->Sg
open _root_.Go.Sem renaming run_bind->Sh,run_pure->Sy
section
open Go.RowKit
theorem tc {P:Program} {β:Be} {s:S} {a:Act} {w:World} {o:Oper} {r:OpR} {ty:TypeId} (hs:HSim β s.hp w) (hsl:SlotsR β s.sl a.tmps) (h:cr P s ty o.op=some r) (hc:r.c):iO β s r w ((execOp a.eval o).run P w):=by
 generalize ho:o.op=op at h
 cases op with
 |move x=>exact Hd hs hsl x (.inl ho) h
 |assign x=>exact Hd (ty:=ty) hs hsl x (.inr ho) (by simpa only [cr] using h)
 |pick c x y=>exact MI hs hsl c x y ho h
 |alloc e=>exact J9 hs e ho h
 |box e x=>exact OK hs hsl e x ho h
 |build t parts=>exact J_ hs hsl t parts ho h
 |buildSlice t len parts=>exact yS hs hsl t len parts ho h
 |load t x=>exact MJ hs hsl t x ho h
 |store t x y=>exact Ka hs hsl t x y ho h
 |nilCheck x=>exact CT hs hsl x ho h
 |binOp op t x y u=>exact OL hs hsl op t u x y ho h hc
 |unOp op t x=>exact PC hs hsl op t x ho h
 |convert src dst x=>exact Fr hs hsl src dst x ho h hc
 |makeSlice t x y=>exact Bq hs hsl t x y ho h hc
 |slice t x lo hi mx=>
  cases mx with
  |none=>exact Kd hs hsl t x lo hi ho h hc
  |some m=>simp only [cr] at h;cases h
 |fieldAddr t x f=>exact Bo hs hsl t x f ho h
 |field t x f=>exact Kb hs hsl t x f ho h
 |indexAddr t x i=>exact Bp hs hsl t x i ho h hc
 |index t x i=>exact Kc hs hsl t x i ho h hc
 |extract x i=>exact Fq hs hsl x i ho h
 |makeFunc f first caps=>
  cases f with
  |func f=>exact CU hs hsl f first caps ho h
  |_=>simp only [cr] at h;cases h
 |call c=>
  obtain⟨callee,args,at_⟩:=c
  cases callee with
  |builtin b=>
   cases b with
   |len=>exact OM hs hsl args at_ ho h
   |append=>exact IF hs hsl args at_ ho h hc
   |min=>exact ON hs hsl args at_ ho h
   |max=>exact OO hs hsl args at_ ho h
   |_=>simp only [cr] at h;cases h
  |_=>simp only [cr] at h;cases h
 |_=>simp only [cr] at h;cases h
structure Entry where
 β:Be
 h:Hp
 w:World
structure Sim (E:Entry) (β:Be) (s:S) (a:Act) (w:World):Prop where
 dfr:a.defers=[]
 sl:SlotsR β s.sl a.tmps
 hp:HSim β s.hp w
 ent:E.β.length=E.h.length
 st:StepR E.β β E.h s.hp E.w w
def vS (P:Program) (f:FuncId):Prop:=∃ fn,P.funcs[f]? =some fn/\(fn.name == "runtime.NumGoroutine")=false/\fn.body.isNone=false
def fL (P:Program) (f:FuncId) (args:List AV) (h:Hp) (res:AV) (h':Hp):Prop:=
 vS P f/\∀ β w vs,HSim β h w->L2 (gm β) args vs->Calls P f vs.toArray w fun e w'=>∃ β' v,e=.returned v/\gm β' res v/\HSim β' h' w'/\StepR β β' h h' w w'
def Hi (P:Program) (E:Entry) (f:FuncId) (args:List AV) (h:Hp) (res:AV) (h':Hp):Prop:=
 vS P f/\∀ β w vs,E.β.length=E.h.length->StepR E.β β E.h h E.w w->HSim β h w->L2 (gm β) args vs->Calls P f vs.toArray w fun e w'=>∃ β' v,e=.returned v/\gm β' res v/\HSim β' h' w'/\StepR β β' h h' w w'
theorem fL.e {P:Program} {E:Entry} {f:FuncId} {args:List AV} {h:Hp} {res:AV} {h':Hp} (ct:fL P f args h res h'):Hi P E f args h res h':=
 ⟨ct.1,fun β w vs _ _ hs hv=>ct.2 β w vs hs hv⟩
def zW (P:Program) (E:Entry) (f:FuncId) (args:List AV) (h:Hp) (R:AV->Hp->Prop):Prop:=
 vS P f/\∀ β w vs,E.β.length=E.h.length->StepR E.β β E.h h E.w w->HSim β h w->L2 (gm β) args vs->Calls P f vs.toArray w fun e w'=>∃ res h',R res h'/\∃ β' v,e=.returned v/\gm β' res v/\HSim β' h' w'/\StepR β β' h h' w w'
theorem Hi.r {P:Program} {E:Entry} {f:FuncId} {args:List AV} {h:Hp} {res:AV} {h':Hp} {R:AV->Hp->Prop} (ct:Hi P E f args h res h') (hR:R res h'):zW P E f args h R:=
 ⟨ct.1,fun β w vs h1 h2 h3 h4=>(ct.2 β w vs h1 h2 h3 h4).mono fun e w' hh=>⟨res,h',hR,hh⟩⟩
def S.evs (s:S):List Operand->Option (List AV)
 |[]=>some []
 |x::r=>match s.ev x,s.evs r with
  |some v,some l=>some (v::l)
  |_,_=>none
theorem Hj {β:Be} {s:S} {a:Act} (hs:SlotsR β s.sl a.tmps):∀ {xs:List Operand} {l:List AV},s.evs xs=some l->L2 (gm β) l (xs.map a.eval)
 |[],l,h=>by simp only [S.evs,Option.some.injEq] at h;subst h;trivial
 |x::r,l,h=>by
  simp only [S.evs] at h
  split at h
  ·rename_i v m hv hm
   simp only [Option.some.injEq] at h
   subst h
   exact⟨dN hs hv,Hj hs hm⟩
  cases h
def nh:List Sc->List AV
 |[]=>[]
 |c::r=>.sc c::nh r
theorem vv {β:Be}:∀ {l:List Sc} {vs:List Value},L2 (ScR β) l vs->L2 (gm β) (nh l) vs
 |[],[],_=>trivial
 |_::_,_::_,h=>⟨h.1,vv h.2⟩
 |[],_::_,h=>h.elim
 |_::_,[],h=>h.elim
def fC (r:Array Oper) (s:S) (o:Oper):Option Bool:=
 match o.guard with
 |none=>some true
 |some (j,want)=>match r[j]? with
  |some oj=>match oj.dst with
   |some d=>match s.sl.get d with
    |some (.sc (.bo b))=>some (b == want)
    |some (.tu [])=>some false
    |_=>none
   |none=>none
  |none=>none
theorem l9 {β:Be} {r:Array Oper} {s:S} {a:Act} {o:Oper} {b:Bool} (hs:SlotsR β s.sl a.tmps) (h:fC r s o=some b):Region.wanted o (yielded r a.tmps)=b:=by
 unfold fC at h
 unfold Region.wanted
 split at h
 ·rename_i hg
  simp only [Option.some.injEq] at h
  subst h
  rw [hg]
 rename_i j want hg
 rw [hg]
 dsimp only
 split at h
 ·rename_i oj hj
  split at h
  ·rename_i d hd
   split at h
   ·rename_i x hx
    obtain⟨u,hu,hr⟩:=hs.2 d _ hx
    have hu':u=.bool x:=hr
    subst hu'
    simp only [Option.some.injEq] at h
    subst h
    simp only [yielded,hj,hd,SN,hu]
    cases x<;>cases want<;>rfl
   ·rename_i hx
    obtain⟨u,hu,vs,hr,hl⟩:=hs.2 d _ hx
    simp only [Option.some.injEq] at h
    subst h
    cases vs with
    |nil=>
     subst hr
     simp [yielded,hj,hd,hu]
    |cons=>exact hl.elim
   cases h
  cases h
 cases h
def Br (P:Program) (E:Entry) (r:Array Oper) (l:List Oper) (s:S) (K:S->Prop):Prop:=
 ∀ β a w,Sim E β s a w->∀ Q:Exit->Act->World->Prop,(∀ s' β' a' w',K s'->Sim E β' s' a' w'->Q .normal a' w')->wpList P r Q l a w
def ur (P:Program) (E:Entry) (C:Code) (s:S) (K:Exit->S->Prop):Prop:=
 ∀ β a w,Sim E β s a w->∀ Q:Exit->Act->World->Prop,(∀ e s' β' a' w',K e s'->Sim E β' s' a' w'->Q e a' w')->C.wp P Q a w
theorem jO {E:Entry} {β β':Be} {s:S} {a:Act} {w w':World} {h':Hp} (hs:Sim E β s a w) (hst:StepR β β' s.hp h' w w') (hh:HSim β' h' w') (d:Option Tmp) {av:AV} {v:Value} (hv:gm β' av v):
  Sim E β' (s.put d (some av) h') (a.put d v) w':=by
 have hstep:StepR E.β β' E.h h' E.w w':=StepR.trans hs.ent hs.hp.len hs.st hst
 cases d with
 |none=>exact⟨hs.dfr,hs.sl.mono hst.le,hh,hs.ent,hstep⟩
 |some d=>exact⟨hs.dfr,(hs.sl.mono hst.le).put d hv,hh,hs.ent,hstep⟩
theorem ni {E:Entry} {β β':Be} {s:S} {a:Act} {w w':World} {h':Hp} (hs:Sim E β s a w) (hst:StepR β β' s.hp h' w w') (hh:HSim β' h' w') (d:Option Tmp) (v:Value):
  Sim E β' (s.put d none h') (a.put d v) w':=by
 have hstep:StepR E.β β' E.h h' E.w w':=StepR.trans hs.ent hs.hp.len hs.st hst
 cases d with
 |none=>exact⟨hs.dfr,hs.sl.mono hst.le,hh,hs.ent,hstep⟩
 |some d=>exact⟨hs.dfr,(hs.sl.mono hst.le).putNone d v,hh,hs.ent,hstep⟩
theorem vT {P:Program} {ops:Array Oper} {Q:Exit->Act->World->Prop} {o:Oper} {l:List Oper} {a:Act} {w:World} (hg:Region.wanted o (yielded ops a.tmps)=true) (h:o.wp P a w (wpList P ops Q l) Q):wpList P ops Q (o::l) a w:=by
 unfold wpList
 rw [if_pos hg]
 exact .inl h
theorem CX {P:Program} {ops:Array Oper} {Q:Exit->Act->World->Prop} {o:Oper} {l:List Oper} {a:Act} {w:World} (hg:Region.wanted o (yielded ops a.tmps)=false) (h:wpList P ops Q l (a.put o.dst undef) w):wpList P ops Q (o::l) a w:=by
 unfold wpList
 rw [if_neg (by simp [hg])]
 exact h
theorem Ke {P:Program} {E:Entry} {r:Array Oper} {s:S} {K:S->Prop} (h:K s):Br P E r [] s K:=fun β a w hs Q hQ=>hQ s β a w h hs
theorem MS {P:Program} {E:Entry} {r:Array Oper} {o:Oper} {l:List Oper} {s:S} {K:S->Prop} {x:OpR} (hg:fC r s o=some true) (h:cr P s o.type o.op=some x) (hc:x.c) (hk:Br P E r l (s.put o.dst x.v x.hp) K):Br P E r (o::l) s K:=by
 intro β a w hs Q hQ
 refine vT (l9 hs.sl hg) ?_
 unfold Oper.wp
 obtain⟨β',w',hst,hh,hx⟩:=tc hs.hp hs.sl h hc
 rcases hx with⟨v,av,hrun,hv,hr⟩|⟨hrun,hv⟩
 ·rw [hrun]
  rw [hv] at hk
  exact hk β' _ w' (jO hs hst hh o.dst hr) Q hQ
 rw [hrun]
 rw [hv] at hk
 exact hk β' _ w' (ni hs hst hh o.dst undef) Q hQ
theorem IG {P:Program} {E:Entry} {r:Array Oper} {o:Oper} {l:List Oper} {s:S} {K:S->Prop} (hg:fC r s o=some false) (hk:Br P E r l (s.put o.dst (some (.tu [])) s.hp) K):Br P E r (o::l) s K:=by
 intro β a w hs Q hQ
 refine CX (l9 hs.sl hg) ?_
 exact hk β _ w (jO hs (StepR.refl β s.hp w hs.hp.len) hs.hp o.dst ⟨[],rfl,trivial⟩) Q hQ
theorem IH {P:Program} {E:Entry} {r:Array Oper} {o:Oper} {l:List Oper} {s:S} {K:S->Prop} {x:Operand} {args:Array Operand} {at_:Array TypeId} {f:Nat} {caps:List Sc} {avs:List AV}
  (hg:fC r s o=some true) (ho:o.op=.call ⟨.value x,args,at_⟩) (hx:s.ev x=some (.cl f caps)) (ha:s.evs args.toList=some avs) (hc:zW P E f (avs++nh caps) s.hp fun res h'=>Br P E r l (s.put o.dst (some res) h') K):Br P E r (o::l) s K:=by
 intro β a w hs Q hQ
 refine vT (l9 hs.sl hg) ?_
 obtain⟨⟨fn,hfn,hname,hbody⟩,hcall⟩:=hc
 obtain⟨cvs,hxe,hcl⟩:gm β (.cl f caps) (a.eval x):=dN hs.sl hx
 have hav:=Hj hs.sl ha
 have hvs:L2 (gm β) (avs++nh caps) (args.toList.map a.eval++cvs):=hav.append (vv hcl)
 have hrun:(execOp a.eval o).run P w=.ok (.enter f (args.toList.map a.eval++cvs).toArray) w:=by
  unfold execOp
  rw [ho]
  have e1:args.map a.eval=(args.toList.map a.eval).toArray:=by apply Array.ext';simp
  have hname':¬ fn.name= "runtime.NumGoroutine":=by simpa using hname
  simp only [resolve,hxe,Deferred.ofValue,invoke,callFunc,Sh,run_program,Sy,Sg,hfn,e1]
  simp [hname',hbody]
 unfold Oper.wp
 rw [hrun]
 rw [Oper.upon_enter]
 refine (hcall β w _ hs.ent hs.st hs.hp hvs).mono fun e w' ⟨res,h',hk,β',v,he,hr,hh,hst⟩=>?_
 subst he
 exact hk β' _ w' (jO hs hst hh o.dst hr) Q hQ
inductive gg where
 |code (c:Code)
 |ops (r:Array Oper) (l:List Oper)
 |inB (id:Nat)
 |hook (N:S->Prop)
def KK (P:Program) (E:Entry) (F:Exit->S->Prop):List gg->Exit->S->Prop
 |[],e,s=>F e s
 | .code c::k,.normal,s=>ur P E c s (KK P E F k)
 | .code _::k,e,s=>KK P E F k e s
 | .ops r l::k,.normal,s=>Br P E r l s (KK P E F k .normal)
 | .ops _ _::k,e,s=>KK P E F k e s
 | .inB id::k,.exit id',s=>if id'=id then KK P E F k .normal s else KK P E F k (.exit id') s
 | .inB _::k,e,s=>KK P E F k e s
 | .hook N::k,.normal,s=>N s
 | .hook _::k,e,s=>KK P E F k e s
theorem iq {P:Program} {E:Entry} {C:Code} {s:S} {K K':Exit->S->Prop} (h:ur P E C s K) (hk:∀ e s,K e s->K' e s):ur P E C s K':=
 fun β a w hs Q hQ=>h β a w hs Q fun e s' β' a' w' hK=>hQ e s' β' a' w' (hk _ _ hK)
theorem Kf {P:Program} {E:Entry} {s:S} {K:Exit->S->Prop} (h:K .normal s):ur P E .skip s K:=fun β a w hs Q hQ=>wp_skip (hQ .normal s β a w h hs)
theorem MT {P:Program} {E:Entry} {s:S} {K:Exit->S->Prop} (h:K .ret s):ur P E .ret s K:=fun β a w hs Q hQ=>wp_ret (hQ .ret s β a w h hs)
theorem Kg {P:Program} {E:Entry} {s:S} {id:Nat} {K:Exit->S->Prop} (h:K (.exit id) s):ur P E (.exit id) s K:=fun β a w hs Q hQ=>wp_exit (hQ (.exit id) s β a w h hs)
theorem MU {P:Program} {E:Entry} {x y:Code} {s:S} {K:Exit->S->Prop} (h:ur P E x s fun e s'=>match e with| .normal=>ur P E y s' K|e=>K e s'):ur P E (.seq x y) s K:=
 fun β a w hs Q hQ=>wp_seq (h β a w hs _ fun e s' β' a' w' hK hs'=>by
  cases e with
  |normal=>exact hK β' a' w' hs' Q hQ
  |_=>exact hQ _ s' β' a' w' hK hs')
theorem CY {P:Program} {E:Entry} {t:Operand} {x y:Code} {s:S} {b:Bool} {K:Exit->S->Prop} (ht:s.ev t=some (.sc (.bo b))) (h:ur P E (if b then x else y) s K):ur P E (.cond t x y) s K:=
 fun β a w hs Q hQ=>wp_cond (t:=b) (show a.eval t=.bool b from dN hs.sl ht) (h β a w hs Q hQ)
theorem II {P:Program} {E:Entry} {id:Nat} {x:Code} {s:S} {K:Exit->S->Prop} (h:ur P E x s fun e s'=>match e with| .exit id'=>if id'=id then K .normal s' else K (.exit id') s'|e=>K e s'):ur P E (.block id x) s K:=
 fun β a w hs Q hQ=>wp_block (h β a w hs _ fun e s' β' a' w' hK hs'=>by
  cases e with
  |exit id'=>
   simp only [Exit.inBlock]
   dsimp only at hK
   split at hK
   ·rename_i he;rw [if_pos he];exact hQ _ s' β' a' w' hK hs'
   rename_i he;rw [if_neg he];exact hQ _ s' β' a' w' hK hs'
  |_=>exact hQ _ s' β' a' w' hK hs')
theorem Ft {P:Program} {E:Entry} {id:Nat} {r:Array Oper} {s:S} {K:Exit->S->Prop} (h:Br P E r r.toList s (K .normal)):ur P E (.region id r false) s K:=
 fun β a w hs Q hQ=>wp_region_list (h β a w hs Q fun s' β' a' w' hK hs'=>hQ .normal s' β' a' w' hK hs')
theorem CZ {P:Program} {E:Entry} {c:Code} {s:S} {K:Exit->S->Prop} (I:S->Prop) (μ:S->Nat->Prop) (n₀:Nat) (h0:I s/\μ s n₀)
  (h:∀ s n,I s->μ s n->ur P E c s fun e s'=>match e with| .normal=>I s'/\∃ m,m < n/\μ s' m|e=>K e s'):ur P E (.loop c) s K:=by
 intro β a w hs Q hQ b k cs
 have key:∀ (n:Nat) (s:S) (β:Be) (a:Act) (w:World),I s->μ s n->Sim E β s a w->
   ∃ e a' w',Q e a' w'/\Arrives P (lone (b.at a (.code c::.inLoop c::k)) cs w) b k cs e a' w':=by
  intro n
  induction n using Nat.strongRecOn with
  |_ n ih=>
   intro s β a w hI hm hs
   obtain⟨e,a₁,w₁,hq,harr⟩:=h s n hI hm β a w hs (Exit.then (fun a' w'=>∃ s' β' m,I s'/\m < n/\μ s' m/\Sim E β' s' a' w') Q) (fun e s' β' a' w' hK hs'=>by
    cases e with
    |normal=>
     obtain⟨hI',m,hlt,hm'⟩:=hK
     exact⟨s',β',m,hI',hlt,hm',hs'⟩
    |_=>exact hQ _ s' β' a' w' hK hs') b (.inLoop c::k) cs
   cases e with
   |normal=>
    obtain⟨s',β',m,hI',hlt,hm',hs'⟩:=hq
    obtain⟨e₂,a₂,w₂,hq₂,harr₂⟩:=ih m hlt s' β' a₁ w₁ hI' hm' hs'
    exact⟨e₂,a₂,w₂,hq₂,.of_steps (Steps.trans harr (.one step_inLoop)) harr₂⟩
   |exit id=>exact⟨_,a₁,w₁,hq,.pass (x:=.inLoop c) rfl (fun _ _=>.inl zP) harr⟩
   |goto l=>exact⟨_,a₁,w₁,hq,.pass (x:=.inLoop c) rfl (fun _ _=>.inl zP) harr⟩
   |ret=>exact⟨_,a₁,w₁,hq,.pass (x:=.inLoop c) rfl (fun _ _=>.inl zP) harr⟩
   |panic ch=>exact⟨_,a₁,w₁,hq,.pass (x:=.inLoop c) rfl (fun _ _=>.inl zP) harr⟩
   |outgrown=>exact⟨_,a₁,w₁,hq,.pass (x:=.inLoop c) rfl (fun _ _=>.inl zP) harr⟩
 obtain⟨e,a',w',hq,harr⟩:=key n₀ s β a w h0.1 h0.2 hs
 exact⟨e,a',w',hq,.of_steps (.one step_loop) harr⟩
inductive St where
 |go (k:List gg) (s:S) (c:Prop)
 |fin (s:S) (c:Prop)
 |call (f:Nat) (args:List AV) (d:Option Tmp) (k:List gg) (s:S) (c:Prop)
 |lp (b:Code) (k:List gg) (s:S) (c:Prop)
 |hk (N:S->Prop) (s:S) (c:Prop)
 |draw (id:Nat) (r:Array Oper) (k:List gg) (s:S) (c:Prop)
 |gl (r:Array Oper) (o:Oper) (l:List Oper) (k:List gg) (s:S) (c:Prop)
 |bad
def ut (id:Nat):List gg->Option (List gg)
 |[]=>none
 | .inB id'::k=>if id'=id then some k else ut id k
 | .code _::k=>ut id k
 | .ops _ _::k=>ut id k
 | .hook _::k=>ut id k
def Bs (P:Program) (r:Array Oper) (o:Oper) (l:List Oper) (k:List gg) (s:S) (c:Prop):St:=
 match o.op with
 | .call ⟨.value x,args,_⟩=>match s.ev x,s.evs args.toList with
  |some (.cl f caps),some avs=>.call f (avs++nh caps) o.dst (.ops r l::k) s c
  |_,_=>.bad
 |op=>match cr P s o.type op with
  |some ⟨v,h,d⟩=>.go (.ops r l::k) (s.put o.dst v h) (c/\d)
  |none=>.gl r o l k s c
def vU (P:Program):List gg->S->Prop->St
 |[],s,c=>.fin s c
 | .hook N::k,s,c=>.hk N s c
 | .inB _::k,s,c=>.go k s c
 | .ops r []::k,s,c=>.go k s c
 | .ops r (o::l)::k,s,c=>match fC r s o with
  |some b=>match b with
   |true=>Bs P r o l k s c
   |false=>.go (.ops r l::k) (s.put o.dst (some (.tu [])) s.hp) c
  |none=>.bad
 | .code .skip::k,s,c=>.go k s c
 | .code (.seq a b)::k,s,c=>.go (.code a::.code b::k) s c
 | .code (.cond t a b)::k,s,c=>match s.ev t with
  |some (.sc (.bo x))=>match x with
   |true=>.go (.code a::k) s c
   |false=>.go (.code b::k) s c
  |_=>.bad
 | .code (.block id a)::k,s,c=>.go (.code a::.inB id::k) s c
 | .code (.exit id)::k,s,c=>match ut id k with
  |some k'=>.go k' s c
  |none=>.bad
 | .code .ret::k,s,c=>.fin s c
 | .code (.region id r d)::k,s,c=>match d with
  |false=>.go (.ops r r.toList::k) s c
  |true=>.draw id r k s c
 | .code (.loop b)::k,s,c=>.lp b k s c
 |_,_,_=>.bad
def run (P:Program):Nat->St->St
 |0,x=>x
 |n+1,.go k s c=>run P n (vU P k s c)
 |_+1,.fin s c=>.fin s c
 |_+1,.call f a d k s c=>.call f a d k s c
 |_+1,.lp b k s c=>.lp b k s c
 |_+1,.hk N s c=>.hk N s c
 |_+1,.draw id r k s c=>.draw id r k s c
 |_+1,.gl r o l k s c=>.gl r o l k s c
 |_+1,.bad=>.bad
def IJ (F:S->Prop):Exit->S->Prop
 | .normal,s| .ret,s=>F s
 |_,_=>False
def ik (P:Program) (E:Entry) (F:S->Prop):St->Prop
 | .go k s c=>c/\KK P E (IJ F) k .normal s
 | .fin s c=>c/\F s
 | .call f args d k s c=>c/\zW P E f args s.hp fun res h'=>KK P E (IJ F) k .normal (s.put d (some res) h')
 | .lp b k s c=>c/\ur P E (.loop b) s (KK P E (IJ F) k)
 | .hk N s c=>c/\N s
 | .draw id r k s c=>c/\ur P E (.region id r true) s (KK P E (IJ F) k)
 | .gl r o l k s c=>c/\KK P E (IJ F) (.ops r (o::l)::k) .normal s
 | .bad=>False
theorem vV {P:Program} {E:Entry} {F:Exit->S->Prop}:∀ {k:List gg} {s:S},F .ret s->KK P E F k .ret s
 |[],_,h=>h
 | .code _::k,s,h=>vV (k:=k) h
 | .ops _ _::k,s,h=>vV (k:=k) h
 | .inB _::k,s,h=>vV (k:=k) h
 | .hook _::k,s,h=>vV (k:=k) h
theorem rr {P:Program} {E:Entry} {F:Exit->S->Prop} {id:Nat}:∀ {k k':List gg} {s:S},ut id k=some k'->KK P E F k' .normal s->KK P E F k (.exit id) s
 |[],k',s,h,_=>by cases h
 | .code _::k,k',s,h,hk=>rr (k:=k) h hk
 | .ops _ _::k,k',s,h,hk=>rr (k:=k) h hk
 | .hook _::k,k',s,h,hk=>rr (k:=k) h hk
 | .inB id'::k,k',s,h,hk=>by
  simp only [ut] at h
  simp only [KK]
  split at h
  ·rename_i he
   subst he
   simp only [Option.some.injEq] at h
   subst h
   rw [if_pos rfl]
   exact hk
  rename_i he
  rw [if_neg (Ne.symm he)]
  exact rr (k:=k) h hk
theorem Fu {P:Program} {E:Entry} {F:S->Prop} {r:Array Oper} {o:Oper} {l:List Oper} {k:List gg} {s:S} {c:Prop} (hg:fC r s o=some true) (h:ik P E F (Bs P r o l k s c)):c/\KK P E (IJ F) (.ops r (o::l)::k) .normal s:=by
 unfold Bs at h
 split at h
 ·rename_i x args at_ ho
  split at h
  ·rename_i f caps avs hx ha
   obtain⟨hc,hcall⟩:=h
   exact⟨hc,IH hg ho hx ha hcall⟩
  exact h.elim
 split at h
 ·rename_i v hp d hx
  obtain⟨⟨hc,hd⟩,hk⟩:=h
  exact⟨hc,MS hg hx hd hk⟩
 exact h
theorem Kh {P:Program} {E:Entry} {F:S->Prop}:∀ {k:List gg} {s:S} {c:Prop},ik P E F (vU P k s c)->ik P E F (.go k s c):=by
 intro k s c h
 cases k with
 |nil=>exact h
 |cons i k=>
  cases i with
  |hook N=>exact h
  |inB id=>exact h
  |ops r l=>
   cases l with
   |nil=>exact⟨h.1,Ke h.2⟩
   |cons o l=>
    simp only [vU] at h
    split at h
    ·rename_i b hg
     cases b with
     |true=>exact Fu hg h
     |false=>exact⟨h.1,IG hg h.2⟩
    exact h.elim
  |code C=>
   cases C with
   |skip=>exact⟨h.1,Kf h.2⟩
   |region id r d=>
    cases d with
    |false=>exact⟨h.1,Ft h.2⟩
    |true=>exact h
   |seq a b=>
    refine⟨h.1,MU (iq h.2 fun e s' hk=>?_)⟩
    cases e<;>exact hk
   |cond t a b=>
    simp only [vU] at h
    split at h
    ·rename_i x ht
     cases x with
     |true=>exact⟨h.1,CY ht h.2⟩
     |false=>exact⟨h.1,CY ht h.2⟩
    exact h.elim
   |block id a=>
    refine⟨h.1,II (iq h.2 fun e s' hk=>?_)⟩
    cases e<;>exact hk
   |loop b=>exact h
   |exit id=>
    simp only [vU] at h
    split at h
    ·rename_i k' hk'
     exact⟨h.1,Kg (rr hk' h.2)⟩
    exact h.elim
   |ret=>exact⟨h.1,MT (vV h.2)⟩
   |rangeFunc=>exact h.elim
   |scope=>exact h.elim
   |label=>exact h.elim
   |goto=>exact h.elim
   |refuse=>exact h.elim
theorem ae {P:Program} {E:Entry} {F:S->Prop}:∀ (n:Nat) {x:St},ik P E F (run P n x)->ik P E F x
 |0,_,h=>h
 |n+1,.go k s c,h=>Kh (ae n h)
 |_+1,.fin ..,h=>h
 |_+1,.call ..,h=>h
 |_+1,.lp ..,h=>h
 |_+1,.hk ..,h=>h
 |_+1,.draw ..,h=>h
 |_+1,.gl ..,h=>h
 |_+1,.bad,h=>h
abbrev cP:=List (Option (Nat×Option Nat))
def cP.at (ρ:cP) (o:Nat):Option (Nat×Option Nat):=ρ.getD o none
def Ok (ρ:cP):Sc->Sc->Prop
 | .int k n,.int k' n'=>k'=k/\n'=n
 | .bo b,.bo b'=>b'=b
 | .st l,.st l'=>l'=l
 | .nil,.nil=>True
 | .un,.un=>True
 | .un,.pt .. =>True
 | .sl o off len,.sl o' off' len'=>match ρ.at o with
  |some (n,none)=>o'=n/\off'=off/\len'=len
  |some (n,some d)=>o'=n/\off'=off+d/\len'=len
  |none=>False
 | .sl o off len,.nil=>len=0
 | .pt o k j,.pt o' k' j'=>match ρ.at o with
  |some (n,none)=>o'=n/\k'=k/\j'=j
  |some (n,some d)=>o'=n/\k'=k+d/\j'=j
  |none=>False
 |_,_=>False
def cM (ρ:cP):List Sc->List Sc->Prop
 |[],[]=>True
 |a::l,b::m=>Ok ρ a b/\cM ρ l m
 |_,_=>False
def Rd (ρ:cP):Co->Co->Prop
 | .sc a,.sc b=>Ok ρ a b
 | .ag a,.ag b=>cM ρ a b
 |_,_=>False
def Q_ (ρ:cP):List Co->List Co->Prop
 |[],[]=>True
 |a::l,b::m=>Rd ρ a b/\Q_ ρ l m
 |_,_=>False
def C0 (ρ:cP):AV->AV->Prop
 | .sc a,.sc b=>Ok ρ a b
 | .ag a,.ag b=>cM ρ a b
 | .tu a,.tu b=>Q_ ρ a b
 | .cl f a,.cl g b=>g=f/\cM ρ a b
 |_,_=>False
def pU (ρ:cP):List AV->List AV->Prop
 |[],[]=>True
 |a::l,b::m=>C0 ρ a b/\pU ρ l m
 |_,_=>False
def Ra (ρ:cP):List (List Sc)->List (List Sc)->Prop
 |[],[]=>True
 |a::l,b::m=>cM ρ a b/\Ra ρ l m
 |_,_=>False
def Rb (ρ:cP) (d:Option Nat) (t s:AObj):Prop:=
 s.esz=t.esz/\match d with
 |none=>s.ty=t.ty/\(t.own=true->s.own=true)/\(match t.fl with
  |true=>s.fl=true/\s.cs=t.cs
  |false=>Ra ρ t.cs s.cs)
 |some d=>t.own=false/\t.fl=true/\s.fl=true/\(s.cs.drop d).take t.cs.length=t.cs
def kJ (ρ:cP) (s:Hp):cP->Hp->Prop
 |[],[]=>True
 |none::ρ',some t::h=>t.cs=[]/\kJ ρ s ρ' h
 |some (n,d)::ρ',some t::h=>(match s.getD n none with
  |some ob=>Rb ρ d t ob
  |none=>False)/\kJ ρ s ρ' h
 |_::ρ',none::h=>kJ ρ s ρ' h
 |_,_=>False
def fg (β:Be):cP->Be
 |[]=>[]
 |none::ρ=>none::fg β ρ
 |some (n,none)::ρ=>β.getD n none::fg β ρ
 |some (n,some d)::ρ=>(β.getD n none).map (fun p=>{ p with base:=p.base+d*p.esz,avail:=p.avail - d*p.esz })::fg β ρ
theorem kK (β:Be):∀ ρ:cP,(fg β ρ).length=ρ.length
 |[]=>rfl
 |none::ρ=>by simp [fg,kK β ρ]
 |some (n,none)::ρ=>by simp [fg,kK β ρ]
 |some (n,some d)::ρ=>by simp [fg,kK β ρ]
theorem cm (β:Be):∀ {ρ:cP} {o:Nat} {x:Option (Nat×Option Nat)},ρ[o]? =some x->(fg β ρ)[o]? =some (match x with
  |none=>none
  |some (n,none)=>β.getD n none
  |some (n,some d)=>(β.getD n none).map (fun p=>{ p with base:=p.base+d*p.esz,avail:=p.avail - d*p.esz }))
 |[],o,x,h=>by simp at h
 |y::ρ,0,x,h=>by
  simp only [R1,Option.some.injEq] at h
  subst h
  cases y with
  |none=>rfl
  |some y=>obtain⟨n,d⟩:=y;cases d<;>rfl
 |y::ρ,o+1,x,h=>by
  simp only [RV] at h
  have:=cm β h
  cases y with
  |none=>simpa [fg] using this
  |some y=>obtain⟨n,d⟩:=y;cases d<;>simpa [fg] using this
theorem Bt {ρ:cP} {o:Nat} {x:Nat×Option Nat} (h:ρ.at o=some x):ρ[o]? =some (some x):=by
 unfold cP.at at h
 rw [RP] at h
 cases hx:ρ[o]? with
 |none=>rw [hx] at h;cases h
 |some y=>rw [hx] at h;simp only [RT] at h;rw [h]
theorem vw {β:Be} {n:Nat} {p:Pl} (h:β[n]? =some (some p)):β.getD n none=some p:=by rw [RP,h];rfl
theorem Hk {β:Be} {ρ:cP}:∀ {t s:Sc} {v:Value},Ok ρ t s->ScR β s v->ScR (fg β ρ) t v
 | .int k n,.int k' n',v,h,hv=>by obtain⟨rfl,rfl⟩:=h;exact hv
 | .bo b,.bo b',v,h,hv=>by have h':b'=b:=h;subst h';exact hv
 | .st b,.st b',v,h,hv=>by have h':b'=b:=h;subst h';exact hv
 | .nil,.nil,v,h,hv=>hv
 | .un,.un,v,h,hv=>hv
 | .un,.pt ..,v,h,hv=>let⟨_,_,e⟩:=hv;⟨_,e⟩
 | .un,.int ..,_,h,_=>h.elim
 | .un,.bo _,_,h,_=>h.elim
 | .un,.st _,_,h,_=>h.elim
 | .un,.nil,_,h,_=>h.elim
 | .un,.sl ..,_,h,_=>h.elim
 | .sl o off len,.nil,v,h,hv=>by
  have h':len=0:=h
  subst h'
  obtain⟨a,rfl⟩:=hv
  exact⟨a,0,rfl,Sw _,Nat.zero_le _,.inl rfl⟩
 | .sl o off len,.sl o' off' len',v,h,hv=>by
  obtain⟨a,cap,rfl,h1,h2,h3⟩:=hv
  simp only [Ok] at h
  split at h
  ·rename_i n hn
   obtain⟨rfl,rfl,rfl⟩:=h
   refine⟨a,cap,rfl,h1,h2,h3.imp id fun⟨p,hp,r⟩=>⟨p,?_,r⟩⟩
   rw [cm β (Bt hn)]
   dsimp only
   rw [vw hp]
  ·rename_i n d hn
   obtain⟨rfl,rfl,rfl⟩:=h
   refine⟨a,cap,rfl,h1,h2,h3.imp id fun⟨p,hp,ha,hav⟩=>⟨{ p with base:=p.base+d*p.esz,avail:=p.avail - d*p.esz },?_,?_,?_⟩⟩
   ·rw [cm β (Bt hn)]
    dsimp only
    rw [vw hp]
    rfl
   ·rw [ha]
    simp only [Option.some.injEq,Addr.mk.injEq,and_true,true_and]
    rw [So]
    omega
   dsimp only
   rw [show off+d+cap=(off+cap)+d from by omega,So] at hav
   omega
  exact h.elim
 | .pt o k j,.pt o' k' j',v,h,hv=>by
  obtain⟨p,hp,rfl⟩:=hv
  simp only [Ok] at h
  split at h
  ·rename_i n hn
   obtain⟨rfl,rfl,rfl⟩:=h
   refine⟨p,?_,rfl⟩
   rw [cm β (Bt hn)]
   dsimp only
   rw [vw hp]
  ·rename_i n d hn
   obtain⟨rfl,rfl,rfl⟩:=h
   refine⟨{ p with base:=p.base+d*p.esz,avail:=p.avail - d*p.esz },?_,?_⟩
   ·rw [cm β (Bt hn)]
    dsimp only
    rw [vw hp]
    rfl
   simp only [Value.pointer.injEq,Option.some.injEq,Addr.mk.injEq,and_true,true_and]
   rw [So]
   omega
  exact h.elim
 | .int ..,.un,_,h,_=>h.elim
 | .bo ..,.un,_,h,_=>h.elim
 | .st ..,.un,_,h,_=>h.elim
 | .nil,.un,_,h,_=>h.elim
 | .sl ..,.un,_,h,_=>h.elim
 | .pt ..,.un,_,h,_=>h.elim
 | .int ..,.bo _,_,h,_=>h.elim
 | .int ..,.st _,_,h,_=>h.elim
 | .int ..,.nil,_,h,_=>h.elim
 | .int ..,.sl ..,_,h,_=>h.elim
 | .int ..,.pt ..,_,h,_=>h.elim
 | .bo _,.int ..,_,h,_=>h.elim
 | .bo _,.st _,_,h,_=>h.elim
 | .bo _,.nil,_,h,_=>h.elim
 | .bo _,.sl ..,_,h,_=>h.elim
 | .bo _,.pt ..,_,h,_=>h.elim
 | .st _,.int ..,_,h,_=>h.elim
 | .st _,.bo _,_,h,_=>h.elim
 | .st _,.nil,_,h,_=>h.elim
 | .st _,.sl ..,_,h,_=>h.elim
 | .st _,.pt ..,_,h,_=>h.elim
 | .nil,.int ..,_,h,_=>h.elim
 | .nil,.bo _,_,h,_=>h.elim
 | .nil,.st _,_,h,_=>h.elim
 | .nil,.sl ..,_,h,_=>h.elim
 | .nil,.pt ..,_,h,_=>h.elim
 | .sl ..,.int ..,_,h,_=>h.elim
 | .sl ..,.bo _,_,h,_=>h.elim
 | .sl ..,.st _,_,h,_=>h.elim
 | .sl ..,.pt ..,_,h,_=>h.elim
 | .pt ..,.int ..,_,h,_=>h.elim
 | .pt ..,.bo _,_,h,_=>h.elim
 | .pt ..,.st _,_,h,_=>h.elim
 | .pt ..,.nil,_,h,_=>h.elim
 | .pt ..,.sl ..,_,h,_=>h.elim
theorem MV {β:Be} {ρ:cP}:∀ {t s:List Sc} {vs:List Value},cM ρ t s->L2 (ScR β) s vs->L2 (ScR (fg β ρ)) t vs
 |[],[],[],_,_=>trivial
 |a::l,b::m,v::vs,h,hv=>⟨Hk h.1 hv.1,MV h.2 hv.2⟩
 |[],_::_,_,h,_=>h.elim
 |_::_,[],_,h,_=>h.elim
 |[],[],_::_,_,h=>h.elim
 |_::_,_::_,[],_,h=>h.elim
theorem PE {β:Be} {ρ:cP} {t s:Co} {v:Value} (h:Rd ρ t s) (hv:Fg β s v):Fg (fg β ρ) t v:=by
 cases t<;>cases s
 ·exact Hk h hv
 ·exact h.elim
 ·exact h.elim
 obtain⟨vs,rfl,hl⟩:=hv
 exact⟨vs,rfl,MV h hl⟩
theorem Ol {β:Be} {ρ:cP}:∀ {t s:List Co} {vs:List Value},Q_ ρ t s->L2 (Fg β) s vs->L2 (Fg (fg β ρ)) t vs
 |[],[],[],_,_=>trivial
 |a::l,b::m,v::vs,h,hv=>⟨PE h.1 hv.1,Ol h.2 hv.2⟩
 |[],_::_,_,h,_=>h.elim
 |_::_,[],_,h,_=>h.elim
 |[],[],_::_,_,h=>h.elim
 |_::_,_::_,[],_,h=>h.elim
theorem zX {β:Be} {ρ:cP} {t s:AV} {v:Value} (h:C0 ρ t s) (hv:gm β s v):gm (fg β ρ) t v:=by
 cases t<;>cases s<;>try exact h.elim
 ·exact Hk h hv
 ·obtain⟨vs,rfl,hl⟩:=hv
  exact⟨vs,rfl,MV h hl⟩
 ·obtain⟨vs,rfl,hl⟩:=hv
  exact⟨vs,rfl,Ol h hl⟩
 obtain⟨rfl,h⟩:=h
 obtain⟨vs,rfl,hl⟩:=hv
 exact⟨vs,rfl,MV h hl⟩
theorem Fv {β:Be} {ρ:cP}:∀ {t s:List AV} {vs:List Value},pU ρ t s->L2 (gm β) s vs->L2 (gm (fg β ρ)) t vs
 |[],[],[],_,_=>trivial
 |a::l,b::m,v::vs,h,hv=>⟨zX h.1 hv.1,Fv h.2 hv.2⟩
 |[],_::_,_,h,_=>h.elim
 |_::_,[],_,h,_=>h.elim
 |[],[],_::_,_,h=>h.elim
 |_::_,_::_,[],_,h=>h.elim
theorem zY {ρ:cP}:∀ {t s:List Sc},cM ρ t s->t.length=s.length
 |[],[],_=>rfl
 |_::_,_::_,h=>by simp [zY h.2]
 |[],_::_,h=>h.elim
 |_::_,[],h=>h.elim
theorem Ki {ρ:cP}:∀ {t s:List Sc} {i:Nat} {x:Sc},cM ρ t s->t[i]? =some x->∃ y,s[i]? =some y/\Ok ρ x y
 |[],[],i,x,_,h=>by simp at h
 |a::l,b::m,0,x,hm,h=>by simp at h;subst h;exact⟨b,zP,hm.1⟩
 |a::l,b::m,i+1,x,hm,h=>by simp at h;obtain⟨y,hy,hr⟩:=Ki hm.2 h;exact⟨y,by simpa using hy,hr⟩
 |[],_::_,_,_,hm,_=>hm.elim
 |_::_,[],_,_,hm,_=>hm.elim
theorem Hl {ρ:cP}:∀ {t s:List (List Sc)} {i:Nat} {x:List Sc},Ra ρ t s->t[i]? =some x->∃ y,s[i]? =some y/\cM ρ x y
 |[],[],i,x,_,h=>by simp at h
 |a::l,b::m,0,x,hm,h=>by simp at h;subst h;exact⟨b,zP,hm.1⟩
 |a::l,b::m,i+1,x,hm,h=>by simp at h;obtain⟨y,hy,hr⟩:=Hl hm.2 h;exact⟨y,by simpa using hy,hr⟩
 |[],_::_,_,_,hm,_=>hm.elim
 |_::_,[],_,_,hm,_=>hm.elim
theorem Bu {β β':Be} {s:Sc} {v:Value} (hf:s.isFlat=true) (h:ScR β s v):ScR β' s v:=by
 cases s<;>first|exact h|cases hf
def C3 (n:Nat) (own:Bool):cP->Hp->Bool
 |some (m,_)::ρ,some u::h=>(!(own || u.own) || n != m) && C3 n own ρ h
 |_::ρ,_::h=>C3 n own ρ h
 |_,_=>true
def et:cP->Hp->Bool
 |some (n,_)::ρ,some t::h=>C3 n t.own ρ h && et ρ h
 |_::ρ,_::h=>et ρ h
 |_,_=>true
theorem C4 {n:Nat} {own:Bool}:∀ {ρ:cP} {h:Hp},C3 n own ρ h=true->∀ {j m:Nat} {d:Option Nat} {u:AObj},ρ[j]? =some (some (m,d))->h[j]? =some (some u)->(own=true\/u.own=true)->n≠m
 |[],_,_,j,m,d,u,hr,_,_=>by simp at hr
 |_::_,[],_,j,m,d,u,_,hh,_=>by simp at hh
 |x::ρ,y::h,hs,0,m,d,u,hr,hh,ho=>by
  simp only [R1,Option.some.injEq] at hr hh
  subst hr;subst hh
  simp only [C3,RQ,RW,bne_iff_ne,R8] at hs
  rcases hs.1 with h1|h1
  ·rcases ho with ho|ho<;>simp [ho] at h1
  exact h1
 |x::ρ,y::h,hs,j+1,m,d,u,hr,hh,ho=>by
  simp only [RV] at hr hh
  refine C4 (ρ:=ρ) (h:=h) ?_ hr hh ho
  cases x with
  |none=>simpa [C3] using hs
  |some x=>cases y with
   |none=>simpa [C3] using hs
   |some y=>
    obtain⟨a,b⟩:=x
    simp only [C3,RQ] at hs
    exact hs.2
theorem ly {x:Option (Nat×Option Nat)} {y:Option AObj} {ρ:cP} {h:Hp} (hs:et (x::ρ) (y::h)=true):et ρ h=true:=by
 cases x with
 |none=>simpa [et] using hs
 |some x=>cases y with
  |none=>simpa [et] using hs
  |some y=>
   obtain⟨a,b⟩:=x
   simp only [et,RQ] at hs
   exact hs.2
theorem rt:∀ {ρ:cP} {h:Hp},et ρ h=true->∀ {i j n m:Nat} {d e:Option Nat} {t u:AObj},i < j->ρ[i]? =some (some (n,d))->h[i]? =some (some t)->ρ[j]? =some (some (m,e))->h[j]? =some (some u)->(t.own=true\/u.own=true)->n≠m
 |[],_,_,i,j,n,m,d,e,t,u,_,hr,_,_,_,_=>by simp at hr
 |_::_,[],_,i,j,n,m,d,e,t,u,_,_,hh,_,_,_=>by simp at hh
 |x::ρ,y::h,hs,0,j+1,n,m,d,e,t,u,_,hr,hh,hr',hh',ho=>by
  simp only [R1,RV,Option.some.injEq] at hr hh hr' hh'
  subst hr;subst hh
  simp only [et,RQ] at hs
  exact C4 hs.1 hr' hh' ho
 |x::ρ,y::h,hs,i+1,j+1,n,m,d,e,t,u,hlt,hr,hh,hr',hh',ho=>by
  simp only [RV] at hr hh hr' hh'
  exact rt (ρ:=ρ) (h:=h) (ly hs) zO hr hh hr' hh' ho
theorem Hm {ρ:cP} {h:Hp} (hs:et ρ h=true) {i j n m:Nat} {d e:Option Nat} {t u:AObj} (hij:i≠j) (hr:ρ[i]? =some (some (n,d))) (hh:h[i]? =some (some t)) (hr':ρ[j]? =some (some (m,e))) (hh':h[j]? =some (some u)) (ho:t.own=true\/u.own=true):n≠m:=by
 rcases Nat.lt_or_gt_of_ne hij with h1|h1
 ·exact rt hs h1 hr hh hr' hh' ho
 exact (rt hs h1 hr' hh' hr hh ho.symm).symm
theorem getD_some {h:Hp} {n:Nat} {ob:AObj} (e:h.getD n none=some ob):h[n]? =some (some ob):=by
 rw [RP] at e
 cases hx:h[n]? with
 |none=>rw [hx] at e;cases e
 |some y=>rw [hx] at e;simp only [RT] at e;rw [e]
theorem fU {ρ:cP} {s:Hp}:∀ {ρ':cP} {t:Hp},kJ ρ s ρ' t->∀ {o:Nat} {ob:AObj},t[o]? =some (some ob)->
  (ρ'[o]? =some none/\ob.cs=[])\/∃ n d ob',ρ'[o]? =some (some (n,d))/\s[n]? =some (some ob')/\Rb ρ d ob ob'
 |[],[],_,o,ob,h=>by simp at h
 |x::ρ',y::t,hm,0,ob,h=>by
  simp only [R1,Option.some.injEq] at h
  subst h
  cases x with
  |none=>exact .inl ⟨rfl,hm.1⟩
  |some x=>
   obtain⟨n,d⟩:=x
   have h1:=hm.1
   split at h1
   ·rename_i ob' hob
    exact .inr ⟨n,d,ob',rfl,getD_some hob,h1⟩
   exact h1.elim
 |x::ρ',y::t,hm,o+1,ob,h=>by
  simp only [RV] at h⊢
  refine fU (ρ':=ρ') (t:=t) ?_ h
  cases x with
  |none=>cases y with
   |none=>exact hm
   |some y=>exact hm.2
  |some x=>cases y with
   |none=>exact hm
   |some y=>obtain⟨a,b⟩:=x;exact hm.2
 |[],_::_,hm,_,_,_=>by cases hm
 |x::_,[],hm,_,_,_=>by cases x with
  |none=>cases hm
  |some x=>obtain⟨a,b⟩:=x;cases hm
theorem iT {ρ:cP} {s:Hp}:∀ {ρ':cP} {t:Hp},kJ ρ s ρ' t->ρ'.length=t.length
 |[],[],_=>rfl
 |x::ρ',y::t,hm=>by
  have:kJ ρ s ρ' t:=by
   cases x with
   |none=>cases y with
    |none=>exact hm
    |some y=>exact hm.2
   |some x=>cases y with
    |none=>exact hm
    |some y=>obtain⟨a,b⟩:=x;exact hm.2
  simp [iT this]
 |[],_::_,hm=>by cases hm
 |x::_,[],hm=>by cases x with
  |none=>cases hm
  |some x=>obtain⟨a,b⟩:=x;cases hm
theorem l_ {ρ:cP} {d:Option Nat} {t s:AObj} (h:Rb ρ d t s) (ho:t.own=true):d=none/\s.own=true:=by
 cases d with
 |none=>exact⟨rfl,h.2.2.1 ho⟩
 |some d=>
  have:t.own=false:=h.2.1
  rw [ho] at this;cases this
theorem vW {β:Be} {ρ:cP} {s t:Hp} {w:World} (hs:HSim β s w) (hm:kJ ρ s ρ t) (hsep:et ρ t=true):HSim (fg β ρ) t w:=by
 refine⟨by rw [kK,iT hm],fun o ob ho=>?_,fun o ob ho hf=>?_,fun o o' ob ob' p p' ho ho' hown hp hp' hne=>?_⟩
 ·rcases fU hm ho with⟨hr,hcs⟩|⟨n,d,ob',hr,hn,hob⟩
  ·exact⟨none,cm β hr,hcs⟩
  obtain⟨q,hq,hR⟩:=hs.ob n ob' hn
  cases d with
  |none=>
   obtain⟨hesz,hty,hown,hcs⟩:=hob
   refine⟨q,by rw [cm β hr];dsimp only;rw [RP,hq];rfl,?_⟩
   cases q with
   |none=>
    have h0:ob'.cs=[]:=hR
    split at hcs
    ·show ob.cs=[]
     rw [<-hcs.2,h0]
    show ob.cs=[]
    rw [h0] at hcs
    cases hc:ob.cs with
    |nil=>rfl
    |cons=>rw [hc] at hcs;exact hcs.elim
   |some p=>
    obtain⟨he,arr,T,fz,hh,hc,ho2⟩:=hR
    refine⟨he.trans hesz,arr,T,fz,hh,?_,fun h=>?_⟩
    ·split at hcs
     ·rename_i hfl
      intro k c hk
      rw [<-hcs.2] at hk
      obtain⟨h1,h2⟩:=hc k c hk
      rw [hesz] at h1
      refine⟨h1,fun j x hj=>?_⟩
      obtain⟨v,hv,hr'⟩:=h2 j x hj
      rw [hesz] at hv
      exact⟨v,hv,Bu (gR.1 (hs.flat n ob' hn hcs.1 c (R3 hk)) x (R3 hj)) hr'⟩
     intro k c hk
     obtain⟨c',hk',hcm⟩:=Hl hcs hk
     obtain⟨h1,h2⟩:=hc k c' hk'
     rw [hesz] at h1
     refine⟨(zY hcm).trans h1,fun j x hj=>?_⟩
     obtain⟨x',hj',hxm⟩:=Ki hcm hj
     obtain⟨v,hv,hr'⟩:=h2 j x' hj'
     rw [hesz] at hv
     exact⟨v,hv,Hk hxm hr'⟩
    obtain⟨hT,hf,hb,ha⟩:=ho2 (hown h)
    exact⟨hT.trans hty,hf,hb,ha⟩
  |some d=>
   obtain⟨hesz,hno,hfl,hfl',hcs⟩:=hob
   refine⟨q.map (fun p=>{ p with base:=p.base+d*p.esz,avail:=p.avail - d*p.esz }),by rw [cm β hr];dsimp only;rw [RP,hq];rfl,?_⟩
   cases q with
   |none=>
    have h0:ob'.cs=[]:=hR
    show ob.cs=[]
    rw [h0] at hcs
    simpa using hcs.symm
   |some p=>
    obtain⟨he,arr,T,fz,hh,hc,ho2⟩:=hR
    refine⟨he.trans hesz,arr,T,fz,hh,?_,fun h=>by rw [hno] at h;cases h⟩
    intro k c hk
    have hkl:k < ob.cs.length:=(RX.1 hk).1
    rw [<-hcs,Sr hkl,Sb] at hk
    obtain⟨h1,h2⟩:=hc _ c hk
    rw [hesz] at h1
    refine⟨h1,fun j x hj=>?_⟩
    obtain⟨v,hv,hr'⟩:=h2 j x hj
    rw [hesz] at hv
    refine⟨v,?_,Bu (gR.1 (hs.flat n ob' hn hfl' c (R3 hk)) x (R3 hj)) hr'⟩
    dsimp only
    rw [show p.base+d*p.esz+k*ob.esz+j=p.base+(d+k)*ob.esz+j from by rw [he,hesz,So];omega]
    exact hv
 ·rcases fU hm ho with⟨hr,hcs⟩|⟨n,d,ob',hr,hn,hob⟩
  ·rw [hcs];intro c hc;cases hc
  cases d with
  |none=>
   obtain⟨_,_,_,hcs⟩:=hob
   rw [hf] at hcs
   rw [<-hcs.2]
   exact hs.flat n ob' hn hcs.1
  |some d=>
   obtain⟨_,_,hfl,hfl',hcs⟩:=hob
   rw [<-hcs]
   exact fun c hc=>hs.flat n ob' hn hfl' c (List.mem_of_mem_drop (List.mem_of_mem_take hc))
 rcases fU hm ho with⟨hr,_⟩|⟨n,d,x,hr,hn,hx⟩
 ·rw [cm β hr] at hp;cases hp
 rcases fU hm ho' with⟨hr',_⟩|⟨m,e,y,hr',hm',hy⟩
 ·rw [cm β hr'] at hp';cases hp'
 obtain⟨rfl,hxo⟩:=l_ hx hown
 have hnm:=Hm hsep hne hr ho hr' ho' (.inl hown)
 rw [cm β hr] at hp
 simp only [Option.some.injEq] at hp
 have hbn:β[n]? =some (some p):=by
  rw [RP] at hp
  cases h:β[n]? with
  |none=>rw [h] at hp;cases hp
  |some z=>rw [h] at hp;simp only [RT] at hp;rw [hp]
 have hbm:∃ q,β[m]? =some (some q)/\q.blk=p'.blk:=by
  rw [cm β hr'] at hp'
  simp only [Option.some.injEq] at hp'
  cases e with
  |none=>
   dsimp only at hp'
   rw [RP] at hp'
   cases h:β[m]? with
   |none=>rw [h] at hp';cases hp'
   |some z=>rw [h] at hp';simp only [RT] at hp';exact⟨p',by rw [hp'],rfl⟩
  |some e=>
   dsimp only at hp'
   rw [RP] at hp'
   cases h:β[m]? with
   |none=>rw [h] at hp';cases hp'
   |some z=>
    rw [h] at hp'
    cases z with
    |none=>cases hp'
    |some z=>simp only [RT,R7,Option.some.injEq] at hp';exact⟨z,rfl,by rw [<-hp']⟩
 obtain⟨q,hq,hqb⟩:=hbm
 rw [<-hqb]
 exact hs.apart n m x y p q hn hm' hxo hbn hq hnm
def Fw (ρ:cP):List (Option AV)->List (Option AV)->Prop
 |[],[]=>True
 |none::l,_::m=>Fw ρ l m
 |some a::l,some b::m=>C0 ρ a b/\Fw ρ l m
 |_,_=>False
def Fx (ρ:cP):Slots->Slots->Prop
 |[],[]=>True
 |a::l,b::m=>Fw ρ a b/\Fx ρ l m
 |_,_=>False
theorem nj {ρ:cP}:∀ {t s:List (Option AV)},Fw ρ t s->t.length=s.length
 |[],[],_=>rfl
 |none::l,_::m,h=>by simp [nj (t:=l) (s:=m) h]
 |some a::l,some b::m,h=>by simp [nj h.2]
 |some a::l,none::m,h=>h.elim
 |[],_::_,h=>h.elim
 |none::_,[],h=>h.elim
 |some _::_,[],h=>h.elim
theorem vX {ρ:cP}:∀ {t s:List (Option AV)} {i:Nat} {v:AV},Fw ρ t s->t[i]? =some (some v)->∃ u,s[i]? =some (some u)/\C0 ρ v u
 |[],[],i,v,_,h=>by simp at h
 |none::l,_::m,0,v,_,h=>by simp at h
 |none::l,_::m,i+1,v,hm,h=>by simp at h;obtain⟨u,hu,hr⟩:=vX (t:=l) (s:=m) hm h;exact⟨u,by simpa using hu,hr⟩
 |some a::l,some b::m,0,v,hm,h=>by simp at h;subst h;exact⟨b,zP,hm.1⟩
 |some a::l,some b::m,i+1,v,hm,h=>by simp at h;obtain⟨u,hu,hr⟩:=vX hm.2 h;exact⟨u,by simpa using hu,hr⟩
 |some a::l,none::m,_,_,h,_=>h.elim
 |[],_::_,_,_,h,_=>h.elim
 |none::_,[],_,_,h,_=>h.elim
 |some _::_,[],_,_,h,_=>h.elim
theorem td {ρ:cP}:∀ {t s:Slots} (i:Nat),Fx ρ t s->(t[i]? =none/\s[i]? =none)\/∃ a b,t[i]? =some a/\s[i]? =some b/\Fw ρ a b
 |[],[],i,_=>.inl ⟨zP,zP⟩
 |a::l,b::m,0,h=>.inr ⟨a,b,zP,zP,h.1⟩
 |a::l,b::m,i+1,h=>by simpa using td i h.2
 |[],_::_,_,h=>h.elim
 |_::_,[],_,h=>h.elim
theorem Bv {β:Be} {ρ:cP} {t s:Slots} {tm:Array Value} (h:Fx ρ t s) (hs:SlotsR β s tm):SlotsR (fg β ρ) t tm:=by
 have hhas:∀ i,t.has i->s.has i:=by
  intro i hi
  unfold Slots.has at hi⊢
  rw [RP] at hi⊢
  rcases td (i / 16) h with⟨h1,h2⟩|⟨a,b,h1,h2,h3⟩
  ·rw [h1] at hi;simp at hi
  rw [h1] at hi
  rw [h2]
  simp only [RT] at hi⊢
  rw [<-nj h3]
  exact hi
 refine⟨fun i hi=>hs.1 i (hhas i hi),fun i v hv=>?_⟩
 unfold Slots.get at hv
 rw [RP (l:=t)] at hv
 rcases td (i / 16) h with⟨h1,h2⟩|⟨a,b,h1,h2,h3⟩
 ·rw [h1] at hv;simp at hv
 rw [h1,RT,RP] at hv
 have hv':a[i % 16]? =some (some v):=by
  cases hx:a[i % 16]? with
  |none=>rw [hx] at hv;cases hv
  |some y=>rw [hx] at hv;simp only [RT] at hv;rw [hv]
 obtain⟨u,hu,hr⟩:=vX h3 hv'
 have hg:s.get i=some u:=by
  unfold Slots.get
  rw [RP (l:=s),h2,RT,RP,hu]
  rfl
 obtain⟨x,hx,hxr⟩:=hs.2 i u hg
 exact⟨x,hx,zX hr hxr⟩
def Hn:Nat->Nat->cP->Bool
 |0,n0,ρ=>ρ.all fun|some (n,none)=>decide (n0<=n)|some (_,some _)=>false|none=>true
 |k+1,n0,some (n,none)::ρ=>n == n0 && Hn k (n0+1) ρ
 |_,_,_=>false
def nk (ρ:cP) (n0:Nat) (t s:S):Prop:=Hn n0 0 ρ=true/\et ρ t.hp=true/\Fx ρ t.sl s.sl/\kJ ρ s.hp ρ t.hp
theorem Kj:∀ {k n0:Nat} {ρ:cP},Hn k n0 ρ=true->(∀ i,i < k->ρ[i]? =some (some (n0+i,none)))/\(∀ i n d,k<=i->ρ[i]? =some (some (n,d))->d=none/\n0+k<=n)
 |0,n0,ρ,h=>by
  refine⟨fun i hi=>by omega,fun i n d _ hr=>?_⟩
  have:=RS.1 (by simpa [Hn] using h) _ (R3 hr)
  cases d with
  |none=>exact⟨rfl,by simpa using this⟩
  |some d=>cases this
 |k+1,n0,ρ,h=>by
  cases ρ with
  |nil=>cases h
  |cons x ρ=>
   cases x with
   |none=>cases h
   |some x=>
    obtain⟨n,d⟩:=x
    cases d with
    |some d=>cases h
    |none=>
     simp only [Hn,RQ,beq_iff_eq] at h
     obtain⟨rfl,h⟩:=h
     obtain⟨h1,h2⟩:=Kj h
     refine⟨fun i hi=>?_,fun i m d hi hr=>?_⟩
     ·cases i with
      |zero=>simp
      |succ i=>
       rw [RV,h1 i zO]
       simp only [Option.some.injEq,Prod.mk.injEq,and_true]
       omega
     cases i with
     |zero=>omega
     |succ i=>
      rw [RV] at hr
      obtain⟨h3,h4⟩:=h2 i m d zO hr
      exact⟨h3,zO⟩
theorem C5 {E:Entry} {n0:Nat} (hE:E.h.length=n0) {ρ:cP} {t s:S} (h:nk ρ n0 t s) {β:Be} {a:Act} {w:World} (hs:Sim E β s a w):Sim E (fg β ρ) t a w:=by
 obtain⟨hid,hsep,hsl,hhp⟩:=h
 obtain⟨hlo,hhi⟩:=Kj hid
 have hlen:=iT hhp
 have hl0:n0<=t.hp.length:=by
  rw [<-hlen]
  rcases R5 ρ.length n0 with h1|h1
  ·have:=hlo ρ.length h1
   rw [Si (Sw _)] at this
   cases this
  exact h1
 refine⟨hs.dfr,Bv hsl hs.sl,vW hs.hp hhp hsep,hs.ent,?_⟩
 have st:=hs.st
 refine⟨fun o p hp=>?_,st.os,st.tape,st.output,st.size,st.block,by rw [hE];exact hl0,fun o ob hlt ho=>?_,fun o ob p hge ho hp=>?_⟩
 ·have hlt:o < n0:=by rw [<-hE,<-hs.ent];exact (RX.1 hp).1
  have h1:=hlo o hlt
  rw [Sj] at h1
  rw [cm β h1]
  dsimp only
  rw [RP,st.le o p hp]
  rfl
 ·rw [hE] at hlt
  have h1:=hlo o hlt
  rw [Sj] at h1
  rcases fU hhp ho with⟨hr,_⟩|⟨n,d,ob',hr,hn,hob⟩
  ·rw [h1] at hr;cases hr
  rw [h1] at hr
  simp only [Option.some.injEq,Prod.mk.injEq] at hr
  obtain⟨rfl,rfl⟩:=hr
  obtain⟨ob0,ho0,hown0⟩:=st.old o ob' (by rw [hE];exact hlt) hn
  exact⟨ob0,ho0,fun h=>hown0 (l_ hob h).2⟩
 rw [hE] at hge
 rcases fU hhp ho with⟨hr,_⟩|⟨n,d,ob',hr,hn,hob⟩
 ·rw [cm β hr] at hp;cases hp
 obtain⟨rfl,hge'⟩:=hhi o n d hge hr
 rw [cm β hr] at hp
 simp only [Option.some.injEq] at hp
 rw [RP] at hp
 have hb:β[n]? =some (some p):=by
  cases h:β[n]? with
  |none=>rw [h] at hp;cases hp
  |some z=>rw [h] at hp;simp only [RT] at hp;rw [hp]
 exact st.fresh n ob' p (by rw [hE];omega) hn hb
theorem Kk {P:Program} {E:Entry} {n0:Nat} (hE:E.h.length=n0) {ρ:cP} {t s:S} (h:nk ρ n0 t s) {C:Code} {K:Exit->S->Prop} (hd:ur P E C t K):ur P E C s K:=
 fun β a w hs Q hQ=>hd _ a w (C5 hE h hs) Q hQ
def S.kill (l:Slots):List Nat->Slots
 |[]=>l
 |k::r=>S.kill (l.put k none) r
def S.sets (l:Slots):List (Nat×AV)->Slots
 |[]=>l
 |(k,v)::r=>S.sets (l.put k (some v)) r
def S.at (s:S) (kill:List Nat) (set:List (Nat×AV)) (h:Hp):S:=⟨S.sets (S.kill s.sl kill) set,h⟩
theorem ir {P:Program} {E:Entry} {F:S->Prop} {b:Code} {k:List gg} {s:S} {c:Prop} {ι:Type} (n0:Nat) (hE:E.h.length=n0) (mk:S->ι->S) (J:ι->Prop) (μ:ι->Nat) (i0:ι) (ρ0:cP) (hc:c) (hJ:J i0) (h0:nk ρ0 n0 (mk s i0) s)
  (h:∀ i,J i->∀ N:S->Prop,(∀ (s':S) (j:ι) (ρ:cP),J j->μ j < μ i->nk ρ n0 (mk s j) s'->N s')->ik P E F (.go (.code b::.hook N::k) (mk s i) True)):ik P E F (.lp b k s c):=by
 refine⟨hc,CZ (fun _=>True) (fun s' n=>∃ i ρ,J i/\nk ρ n0 (mk s i) s'/\μ i=n) (μ i0) ⟨trivial,i0,ρ0,hJ,h0,rfl⟩ fun s' n _ ⟨i,ρ,hi,hw,hn⟩=>?_⟩
 have hd:=(h i hi (fun s''=>∃ j ρ,J j/\μ j < μ i/\nk ρ n0 (mk s j) s'') fun s'' j ρ' hj hlt hw'=>⟨j,ρ',hj,hlt,hw'⟩).2
 refine Kk hE hw (iq hd fun e s'' hk=>?_)
 cases e with
 |normal=>
  obtain⟨j,ρ',hj,hlt,hw'⟩:=hk
  exact⟨trivial,μ j,zO,j,ρ',hj,hw',rfl⟩
 |_=>exact hk
theorem aO {ρ:cP} {n0:Nat} {t s:S} (h1:Hn n0 0 ρ=true) (h2:et ρ t.hp=true) (h:Fx ρ t.sl s.sl/\kJ ρ s.hp ρ t.hp):nk ρ n0 t s:=⟨h1,h2,h.1,h.2⟩
end
section
open Go.RowKit
def tf (ρ:cP) (N o:Nat):Option (Nat×Option Nat):=if o < ρ.length then ρ.at o else some (N+(o - ρ.length),none)
def ru (ρ:cP) (N:Nat):Sc->Sc
 | .sl o off len=>match tf ρ N o with
  |some (n,none)=>.sl n off len
  |some (n,some d)=>.sl n (off+d) len
  |none=>.nil
 | .pt o k j=>match tf ρ N o with
  |some (n,none)=>.pt n k j
  |some (n,some d)=>.pt n (k+d) j
  |none=>.nil
 | .int k n=>.int k n
 | .bo b=>.bo b
 | .st l=>.st l
 | .nil=>.nil
 | .un=>.un
def rv (ρ:cP) (N:Nat):List Sc->List Sc
 |[]=>[]
 |a::l=>ru ρ N a::rv ρ N l
def Kl (ρ:cP) (N:Nat):Co->Co
 | .sc a=>.sc (ru ρ N a)
 | .ag l=>.ag (rv ρ N l)
def Ho (ρ:cP) (N:Nat):List Co->List Co
 |[]=>[]
 |a::l=>Kl ρ N a::Ho ρ N l
def kL (ρ:cP) (N:Nat):AV->AV
 | .sc a=>.sc (ru ρ N a)
 | .ag l=>.ag (rv ρ N l)
 | .tu l=>.tu (Ho ρ N l)
 | .cl f l=>.cl f (rv ρ N l)
def vY (ρ:cP) (N:Nat):List (List Sc)->List (List Sc)
 |[]=>[]
 |a::l=>rv ρ N a::vY ρ N l
def iQ (ρ:cP) (N:Nat) (ob:AObj):AObj:=
 match ob.fl with
 |true=>ob
 |false=>{ ob with cs:=vY ρ N ob.cs }
def kd (ρ:cP) (N:Nat):Hp->Hp
 |[]=>[]
 |none::h=>none::kd ρ N h
 |some ob::h=>some (iQ ρ N ob)::kd ρ N h
def nm (ρ:cP) (N:Nat):Option AObj->Option AObj
 |none=>none
 |some ob=>some (iQ ρ N ob)
def fM (ρ0:cP) (N:Nat):cP->Hp->Hp->Hp->Hp
 |some (n,_)::ρ,some t::h,t'::h',s=>match t.own with
  |true=>fM ρ0 N ρ h h' (s.set n (nm ρ0 N t'))
  |false=>fM ρ0 N ρ h h' s
 |_::ρ,_::h,_::h',s=>fM ρ0 N ρ h h' s
 |_,_,_,s=>s
def ew (ρ:cP) (h0 h0' s:Hp):Hp:=fM ρ s.length ρ h0 h0' s++kd ρ s.length (h0'.drop h0.length)
theorem jm (ρ0:cP) (N:Nat):∀ (ρ:cP) (h h' s:Hp),(fM ρ0 N ρ h h' s).length=s.length
 |[],_,_,s=>by simp [fM]
 |x::ρ,[],_,s=>by cases x<;>simp [fM]
 |x::ρ,y::h,[],s=>by cases x<;>cases y<;>simp [fM]
 |none::ρ,y::h,z::h',s=>by cases y<;>simp [fM,jm ρ0 N ρ h h' s]
 |some x::ρ,none::h,z::h',s=>by simp [fM,jm ρ0 N ρ h h' s]
 |some (n,d)::ρ,some t::h,z::h',s=>by
  cases ho:t.own
  ·simp [fM,ho,jm ρ0 N ρ h h' s]
  simp [fM,ho,jm ρ0 N ρ h h' (s.set n (nm ρ0 N z))]
theorem iU {ρ0:cP} {N o:Nat}:∀ {ρ:cP} {h h' s:Hp},(∀ (i:Nat) (d:Option Nat) (t:AObj),ρ[i]? =some (some (o,d))->h[i]? =some (some t)->t.own=false)->(fM ρ0 N ρ h h' s)[o]? =s[o]?
 |[],_,_,s,_=>by simp [fM]
 |x::ρ,[],_,s,_=>by cases x<;>simp [fM]
 |x::ρ,y::h,[],s,_=>by cases x<;>cases y<;>simp [fM]
 |none::ρ,y::h,z::h',s,hx=>by
  cases y<;>simpa [fM] using iU (ρ:=ρ) (h:=h) (h':=h') (s:=s) (fun i d t h1 h2=>hx (i+1) d t (by simpa using h1) (by simpa using h2))
 |some x::ρ,none::h,z::h',s,hx=>by
  simpa [fM] using iU (ρ:=ρ) (h:=h) (h':=h') (s:=s) (fun i d t h1 h2=>hx (i+1) d t (by simpa using h1) (by simpa using h2))
 |some (n,d)::ρ,some t::h,z::h',s,hx=>by
  cases ho:t.own
  ·simpa [fM,ho] using iU (ρ:=ρ) (h:=h) (h':=h') (s:=s) (fun i d t h1 h2=>hx (i+1) d t (by simpa using h1) (by simpa using h2))
  have hne:n≠o:=fun e=>by
   subst e
   have:=hx 0 d t zP zP
   rw [ho] at this;cases this
  have:=iU (ρ0:=ρ0) (N:=N) (ρ:=ρ) (h:=h) (h':=h') (s:=s.set n (nm ρ0 N z)) (fun i d t h1 h2=>hx (i+1) d t (by simpa using h1) (by simpa using h2))
  simp only [fM,ho]
  rw [this,Sv hne]
theorem nq {ρ0:cP} {N o:Nat}:∀ {ρ:cP} {h h' s:Hp},et ρ h=true->o < s.length->∀ {i:Nat} {d:Option Nat} {t:AObj} {x:Option AObj},ρ[i]? =some (some (o,d))->h[i]? =some (some t)->t.own=true->h'[i]? =some x->(fM ρ0 N ρ h h' s)[o]? =some (nm ρ0 N x)
 |[],_,_,s,_,_,i,d,t,x,h1,_,_,_=>by simp at h1
 |_::_,[],_,s,_,_,i,d,t,x,_,h2,_,_=>by simp at h2
 |_::_,_::_,[],s,_,_,i,d,t,x,_,_,_,h4=>by simp at h4
 |y::ρ,u::h,z::h',s,hs,hlt,0,d,t,x,h1,h2,h3,h4=>by
  simp only [R1,Option.some.injEq] at h1 h2 h4
  subst h1;subst h2;subst h4
  have hx:∀ (i:Nat) (d':Option Nat) (t':AObj),ρ[i]? =some (some (o,d'))->h[i]? =some (some t')->t'.own=false:=by
   intro i d' t' k1 k2
   cases ho:t'.own with
   |false=>rfl
   |true=>exact absurd rfl (rt (n:=o) (m:=o) (d:=d) (e:=d') (t:=t) (u:=t') hs (show 0 < i+1 by omega) zP zP (by simpa using k1) (by simpa using k2) (.inl h3))
  simp only [fM,h3]
  rw [iU hx,SG hlt]
 |y::ρ,u::h,z::h',s,hs,hlt,i+1,d,t,x,h1,h2,h3,h4=>by
  simp only [RV] at h1 h2 h4
  cases y with
  |none=>cases u<;>simpa [fM] using nq (ρ:=ρ) (h:=h) (h':=h') (s:=s) (ly hs) hlt h1 h2 h3 h4
  |some y=>
   obtain⟨n,e⟩:=y
   cases u with
   |none=>simpa [fM] using nq (ρ:=ρ) (h:=h) (h':=h') (s:=s) (ly hs) hlt h1 h2 h3 h4
   |some u=>
    cases ho:u.own
    ·simpa [fM,ho] using nq (ρ:=ρ) (h:=h) (h':=h') (s:=s) (ly hs) hlt h1 h2 h3 h4
    simpa [fM,ho] using nq (ρ:=ρ) (h:=h) (h':=h') (s:=s.set n (nm ρ0 N z)) (ly hs) (by simpa using hlt) h1 h2 h3 h4
theorem tg (ρ:cP) (N:Nat):∀ (h:Hp) (o:Nat),(kd ρ N h)[o]? =(h[o]?).map (nm ρ N)
 |[],o=>by simp [kd]
 |none::h,0=>by simp [kd,nm]
 |some ob::h,0=>by simp [kd,nm]
 |none::h,o+1=>by simpa [kd] using tg ρ N h o
 |some ob::h,o+1=>by simpa [kd] using tg ρ N h o
def fy (β β0':Be) (n:Nat):Be:=β++β0'.drop n
section
variable {β β0':Be} {ρ:cP} {N:Nat}
theorem vZ (hN:β.length=N) {o:Nat} (ho:ρ.length<=o):(fy β β0' ρ.length)[N+(o - ρ.length)]? =β0'[o]? :=by
 unfold fy
 rw [Sn zO,Sb]
 congr 1
 omega
theorem pV {o:Nat} (ho:o < β.length):(fy β β0' ρ.length)[o]? =β[o]? :=by
 unfold fy
 rw [R4 ho]
theorem Bw {β:Be} {n:Nat} {p:Pl} (h:β.getD n none=some p):β[n]? =some (some p):=by
 rw [RP] at h
 cases hx:β[n]? with
 |none=>rw [hx] at h;cases h
 |some y=>rw [hx] at h;simp only [RT] at h;rw [h]
theorem v_ (hN:β.length=N) (hle:Be.le (fg β ρ) β0') {o:Nat} {p:Pl} (hp:β0'[o]? =some (some p)):
  ∃ (n:Nat) (d:Option Nat) (q:Pl),tf ρ N o=some (n,d)/\(fy β β0' ρ.length)[n]? =some (some q)/\p=(match d with
   |none=>q
   |some d=>{ q with base:=q.base+d*q.esz,avail:=q.avail - d*q.esz }):=by
 unfold tf
 by_cases hlt:o < ρ.length
 ·rw [if_pos hlt]
  have hx:ρ[o]? =some ρ[o]:=RZ hlt
  have hb:=hle _ _ (cm β hx)
  rw [hp] at hb
  simp only [Option.some.injEq] at hb
  have hat:ρ.at o=ρ[o]:=by unfold cP.at;rw [RP,hx];rfl
  rw [hat]
  cases hr:ρ[o] with
  |none=>rw [hr] at hb;cases hb
  |some x=>
   obtain⟨n,d⟩:=x
   rw [hr] at hb
   cases d with
   |none=>
    dsimp only at hb
    have h1:=Bw hb.symm
    exact⟨n,none,p,rfl,by rw [pV (RX.1 h1).1];exact h1,rfl⟩
   |some d=>
    dsimp only at hb
    cases hg:β.getD n none with
    |none=>rw [hg] at hb;cases hb
    |some q=>
     rw [hg] at hb
     simp only [R7,Option.some.injEq] at hb
     have h1:=Bw hg
     exact⟨n,some d,q,rfl,by rw [pV (RX.1 h1).1];exact h1,hb⟩
 rw [if_neg hlt]
 exact⟨N+(o - ρ.length),none,p,rfl,by rw [vZ hN zO];exact hp,rfl⟩
theorem vx (hN:β.length=N) (hle:Be.le (fg β ρ) β0'):∀ {s:Sc} {v:Value},ScR β0' s v->ScR (fy β β0' ρ.length) (ru ρ N s) v
 | .int ..,_,h=>h
 | .bo _,_,h=>h
 | .st _,_,h=>h
 | .nil,_,h=>h
 | .un,_,h=>h
 | .sl o off len,v,⟨a,cap,hv,h1,h2,h3⟩=>by
  rcases h3 with h3|⟨p,hp,ha,hav⟩
  ·subst h3
   have:len=0:=zO
   subst this
   subst hv
   simp only [ru]
   split
   ·exact⟨a,0,rfl,Sw _,h2,.inl rfl⟩
   ·exact⟨a,0,rfl,Sw _,h2,.inl rfl⟩
   exact⟨a,rfl⟩
  obtain⟨n,d,q,hn,hq,hpq⟩:=v_ hN hle hp
  simp only [ru,hn]
  cases d with
  |none=>
   dsimp only at hpq
   subst hpq
   exact⟨a,cap,hv,h1,h2,.inr ⟨p,hq,ha,hav⟩⟩
  |some d=>
   dsimp only at hpq
   subst hpq
   dsimp only at ha hav
   by_cases hc:cap=0
   ·exact⟨a,cap,hv,h1,h2,.inl hc⟩
   refine⟨a,cap,hv,h1,h2,?_⟩
   by_cases hz:q.esz=0
   ·refine .inr ⟨q,hq,?_,?_⟩
    ·rw [ha,hz];simp
    rw [hz];simp
   refine .inr ⟨q,hq,?_,?_⟩
   ·rw [ha]
    simp only [Option.some.injEq,Addr.mk.injEq,and_true,true_and]
    rw [So]
    omega
   have hpos:0 < (off+cap)*q.esz:=Nat.mul_pos zO zO
   rw [show off+d+cap=(off+cap)+d from by omega,So]
   omega
 | .pt o k j,v,⟨p,hp,hv⟩=>by
  obtain⟨n,d,q,hn,hq,hpq⟩:=v_ hN hle hp
  simp only [ru,hn]
  cases d with
  |none=>
   dsimp only at hpq
   subst hpq
   exact⟨p,hq,hv⟩
  |some d=>
   dsimp only at hpq
   subst hpq
   refine⟨q,hq,?_⟩
   rw [hv]
   simp only [Value.pointer.injEq,Option.some.injEq,Addr.mk.injEq,and_true,true_and]
   rw [So]
   omega
theorem Bx (hN:β.length=N) (hle:Be.le (fg β ρ) β0'):∀ {s:List Sc} {vs:List Value},L2 (ScR β0') s vs->L2 (ScR (fy β β0' ρ.length)) (rv ρ N s) vs
 |[],[],_=>trivial
 |a::l,v::vs,h=>⟨vx hN hle h.1,Bx hN hle h.2⟩
 |[],_::_,h=>h.elim
 |_::_,[],h=>h.elim
theorem MW (hN:β.length=N) (hle:Be.le (fg β ρ) β0') {s:Co} {v:Value} (h:Fg β0' s v):Fg (fy β β0' ρ.length) (Kl ρ N s) v:=by
 cases s with
 |sc s=>exact vx hN hle h
 |ag l=>obtain⟨vs,hv,hl⟩:=h;exact⟨vs,hv,Bx hN hle hl⟩
theorem Hq (hN:β.length=N) (hle:Be.le (fg β ρ) β0'):∀ {s:List Co} {vs:List Value},L2 (Fg β0') s vs->L2 (Fg (fy β β0' ρ.length)) (Ho ρ N s) vs
 |[],[],_=>trivial
 |a::l,v::vs,h=>⟨MW hN hle h.1,Hq hN hle h.2⟩
 |[],_::_,h=>h.elim
 |_::_,[],h=>h.elim
theorem MX (hN:β.length=N) (hle:Be.le (fg β ρ) β0') {s:AV} {v:Value} (h:gm β0' s v):gm (fy β β0' ρ.length) (kL ρ N s) v:=by
 cases s with
 |sc s=>exact vx hN hle h
 |ag l=>obtain⟨vs,hv,hl⟩:=h;exact⟨vs,hv,Bx hN hle hl⟩
 |tu l=>obtain⟨vs,hv,hl⟩:=h;exact⟨vs,hv,Hq hN hle hl⟩
 |cl f l=>obtain⟨vs,hv,hl⟩:=h;exact⟨vs,hv,Bx hN hle hl⟩
theorem C6 (ρ:cP) (N:Nat):∀ (l:List Sc) (i:Nat),(rv ρ N l)[i]? =(l[i]?).map (ru ρ N)
 |[],i=>by simp [rv]
 |a::l,0=>by simp [rv]
 |a::l,i+1=>by simpa [rv] using C6 ρ N l i
theorem uu (ρ:cP) (N:Nat):∀ (l:List Sc),(rv ρ N l).length=l.length
 |[]=>rfl
 |a::l=>by simp [rv,uu ρ N l]
theorem zZ (ρ:cP) (N:Nat):∀ (l:List (List Sc)) (i:Nat),(vY ρ N l)[i]? =(l[i]?).map (rv ρ N)
 |[],i=>by simp [vY]
 |a::l,0=>by simp [vY]
 |a::l,i+1=>by simpa [vY] using zZ ρ N l i
theorem kg (ob:AObj):(iQ ρ N ob).esz=ob.esz/\(iQ ρ N ob).ty=ob.ty/\(iQ ρ N ob).own=ob.own/\(iQ ρ N ob).fl=ob.fl:=by
 unfold iQ
 split<;>simp_all
theorem Hr (hN:β.length=N) (hle:Be.le (fg β ρ) β0') {w:World} {p:Option Pl} {ob:AObj} (h:ObR β0' w p ob) (hflat:ob.fl=true->FlatL ob.cs):ObR (fy β β0' ρ.length) w p (iQ ρ N ob):=by
 obtain⟨e1,e2,e3,e4⟩:=kg (ρ:=ρ) (N:=N) ob
 cases p with
 |none=>
  have h0:ob.cs=[]:=h
  show (iQ ρ N ob).cs=[]
  unfold iQ
  split
  ·exact h0
  rw [h0];rfl
 |some p=>
  obtain⟨he,arr,T,fz,hh,hc,ho⟩:=h
  refine⟨by rw [e1];exact he,arr,T,fz,hh,?_,by rw [e2,e3];exact ho⟩
  rw [e1]
  unfold iQ
  split
  ·rename_i hf
   exact fun k c hk=>⟨(hc k c hk).1,fun j s hs=>let⟨v,hv,hr⟩:=(hc k c hk).2 j s hs;⟨v,hv,Bu (gR.1 (hflat hf c (R3 hk)) s (R3 hs)) hr⟩⟩
  intro k c hk
  dsimp only at hk
  rw [zZ] at hk
  simp only [Sf] at hk
  obtain⟨c0,hk0,rfl⟩:=hk
  obtain⟨h1,h2⟩:=hc k c0 hk0
  refine⟨by rw [uu];exact h1,fun j s hs=>?_⟩
  rw [C6] at hs
  simp only [Sf] at hs
  obtain⟨s0,hs0,rfl⟩:=hs
  obtain⟨v,hv,hr⟩:=h2 j s0 hs0
  exact⟨v,hv,vx hN hle hr⟩
end
theorem Hs {β:Be} {ρ:cP} {s t:Hp} (hm:kJ ρ s ρ t) {k:Nat} (h:Own (fg β ρ) t k):∃ (i n:Nat) (ob':AObj) (p:Pl),ρ[i]? =some (some (n,none))/\s[n]? =some (some ob')/\ob'.own=true/\β[n]? =some (some p)/\(fg β ρ)[i]? =some (some p)/\p.blk=k/\∃ ob:AObj,t[i]? =some (some ob)/\ob.own=true:=by
 obtain⟨i,ob,p,ho,hown,hp,rfl⟩:=h
 rcases fU hm ho with⟨hr,_⟩|⟨n,d,ob',hr,hn,hob⟩
 ·rw [cm β hr] at hp;cases hp
 obtain⟨rfl,hown'⟩:=l_ hob hown
 have hp':=hp
 rw [cm β hr] at hp'
 simp only [Option.some.injEq] at hp'
 exact⟨i,n,ob',p,hr,hn,hown',Bw hp',hp,rfl,ob,ho,hown⟩
theorem wc {P:Program} {args0 avs:List AV} {h0 h0' s:Hp} {res0:AV} (ρ:cP) (hargs:pU ρ args0 avs) (hm:kJ ρ s ρ h0) (hsep:et ρ h0=true) {β:Be} {w:World} {vs:List Value} (hs:HSim β s w) (hvs:L2 (gm β) avs vs) {e:Ending} {w':World}
  (hend:∃ β' v,e=.returned v/\gm β' res0 v/\HSim β' h0' w'/\StepR (fg β ρ) β' h0 h0' w w'):∃ β' v,e=.returned v/\gm β' (kL ρ s.length res0) v/\HSim β' (ew ρ h0 h0' s) w'/\StepR β β' s (ew ρ h0 h0' s) w w':=by
 have hlen:ρ.length=h0.length:=iT hm
 obtain⟨β0',v,he,hr,hh,hst⟩:=hend
 have hN:β.length=s.length:=hs.len
 have hle:=hst.le
 have hl0':h0.length<=h0'.length:=hst.len
 have hblk:∀ {o:Nat} {ob:AObj} {p:Pl},s[o]? =some (some ob)->β[o]? =some (some p)->(∀ (i:Nat) (d:Option Nat) (t:AObj),ρ[i]? =some (some (o,d))->h0[i]? =some (some t)->t.own=false)->w'.heap[p.blk]? =w.heap[p.blk]? :=by
  intro o ob p ho hp hx
  obtain⟨q,hq,hR⟩:=hs.ob o ob ho
  rw [hp] at hq;cases hq
  refine hst.block _ hR.lt fun hown=>?_
  obtain⟨i,n,ob',q,hr1,hn,hown',hq,_,hqb,t,ht,hto⟩:=Hs hm hown
  by_cases hno:n=o
  ·subst hno
   have:=hx i none t hr1 ht
   rw [hto] at this;cases this
  exact hs.apart n o ob' ob q p hn ho hown' hq hp hno hqb
 have hlenU:(fM ρ s.length ρ h0 h0' s).length=s.length:=jm _ _ _ _ _ _
 have kind:∀ {o:Nat} {x:AObj},(ew ρ h0 h0' s)[o]? =some (some x)->
   (o < s.length/\s[o]? =some (some x)/\(∀ (i:Nat) (d:Option Nat) (t:AObj),ρ[i]? =some (some (o,d))->h0[i]? =some (some t)->t.own=false))\/
   (o < s.length/\∃ (i:Nat) (x0 t ob:AObj),ρ[i]? =some (some (o,none))/\h0[i]? =some (some t)/\t.own=true/\s[o]? =some (some ob)/\ob.own=true/\h0'[i]? =some (some x0)/\i < h0.length/\x=iQ ρ s.length x0)\/
   (∃ (i:Nat) (x0:AObj),h0.length<=i/\o=s.length+(i - h0.length)/\h0'[i]? =some (some x0)/\x=iQ ρ s.length x0):=by
  intro o x hx
  unfold ew at hx
  rcases R5 o s.length with hlt|hge
  ·rw [R4 (by rw [hlenU];exact hlt)] at hx
   by_cases hown:∃ (i:Nat) (d:Option Nat) (t:AObj),ρ[i]? =some (some (o,d))/\h0[i]? =some (some t)/\t.own=true
   ·obtain⟨i,d,t,h1,h2,h3⟩:=hown
    have hil:i < h0.length:=(RX.1 h2).1
    have hx':h0'[i]? =some (h0'[i]' zO):=RZ zO
    rw [nq hsep hlt h1 h2 h3 hx'] at hx
    rcases fU hm h2 with⟨hr1,_⟩|⟨n,d',ob',hr1,hn,hob⟩
    ·rw [h1] at hr1;cases hr1
    rw [h1] at hr1
    simp only [Option.some.injEq,Prod.mk.injEq] at hr1
    obtain⟨rfl,rfl⟩:=hr1
    obtain⟨rfl,hown'⟩:=l_ hob h3
    cases hz:h0'[i]' zO with
    |none=>rw [hz] at hx;cases hx
    |some x0=>
     rw [hz] at hx
     simp only [nm,Option.some.injEq] at hx
     exact .inr (.inl ⟨hlt,i,x0,t,ob',h1,h2,h3,hn,hown',by rw [hx',hz],hil,hx.symm⟩)
   have hx2:∀ (i:Nat) (d:Option Nat) (t:AObj),ρ[i]? =some (some (o,d))->h0[i]? =some (some t)->t.own=false:=by
    intro i d t h1 h2
    cases h3:t.own with
    |false=>rfl
    |true=>exact absurd ⟨i,d,t,h1,h2,h3⟩ hown
   rw [iU hx2] at hx
   exact .inl ⟨hlt,hx,hx2⟩
  rw [Sn (by rw [hlenU];exact hge),hlenU,tg,Sb] at hx
  simp only [Sf] at hx
  obtain⟨y,hy,hxy⟩:=hx
  cases y with
  |none=>cases hxy
  |some x0=>
   simp only [nm,Option.some.injEq] at hxy
   exact .inr (.inr ⟨h0.length+(o - s.length),x0,zO,zO,hy,hxy.symm⟩)
 have hnew:∀ {i:Nat},h0.length<=i->(fy β β0' ρ.length)[s.length+(i - h0.length)]? =β0'[i]? :=by
  intro i hi
  have:=vZ (β:=β) (β0':=β0') (ρ:=ρ) hN (o:=i) zO
  rwa [hlen] at this⊢
 have hold:∀ {o:Nat},o < s.length->(fy β β0' ρ.length)[o]? =β[o]? :=fun h=>pV zO
 have hplace:∀ {i o:Nat} {q:Option Pl},ρ[i]? =some (some (o,none))->o < s.length->β0'[i]? =some q->β[o]? =some q:=by
  intro i o q h1 ho hq
  have hb:=hle _ _ (cm β h1)
  rw [hq] at hb
  simp only [Option.some.injEq] at hb
  have:β[o]? =some (β[o]' zO):=RZ zO
  rw [RP,this] at hb
  rw [this,hb]
  rfl
 have hfresh:∀ {i:Nat} {x0:AObj} {p:Pl},h0.length<=i->h0'[i]? =some (some x0)->β0'[i]? =some (some p)->Own β s p.blk\/w.heap.size<=p.blk:=by
  intro i x0 p hi hx hp
  rcases hst.fresh i x0 p hi hx hp with h1|h1
  ·obtain⟨j,n,ob',q,hr1,hn,hown',hq,_,hqb,_⟩:=Hs hm h1
   exact .inl ⟨n,ob',q,hn,hown',hq,hqb⟩
  exact .inr h1
 refine⟨fy β β0' ρ.length,v,he,MX hN hle hr,⟨?_,?_,?_,?_⟩,⟨?_,hst.os,hst.tape,hst.output,hst.size,?_,?_,?_,?_⟩⟩
 ·
  unfold fy ew
  have hr1:∀ h:Hp,(kd ρ s.length h).length=h.length:=by
   intro h
   induction h with
   |nil=>rfl
   |cons y h ih=>cases y<;>simp [kd,ih]
  simp only [Sd,List.length_drop,hlenU,hr1,hN,hh.len,hlen]
 ·intro o x hx
  rcases kind hx with⟨hlt,hsx,hx2⟩|⟨hlt,i,x0,t,ob,h1,h2,h3,hsx,hown,hx0,hil,rfl⟩|⟨i,x0,hi,rfl,hx0,rfl⟩
  ·obtain⟨q,hq,hR⟩:=hs.ob o x hsx
   refine⟨q,by rw [hold hlt];exact hq,(hR.world fun q' hq'=>?_).mono (Be.le_append _ _)⟩
   subst hq'
   exact hblk hsx hq hx2
  ·obtain⟨q,hq,hR⟩:=hh.ob i x0 hx0
   exact⟨q,by rw [hold hlt];exact hplace h1 hlt hq,Hr hN hle hR (hh.flat i x0 hx0)⟩
  obtain⟨q,hq,hR⟩:=hh.ob i x0 hx0
  exact⟨q,by rw [hnew hi];exact hq,Hr hN hle hR (hh.flat i x0 hx0)⟩
 ·intro o x hx hf
  have hflat:∀ {i:Nat} {x0:AObj},h0'[i]? =some (some x0)->(iQ ρ s.length x0).fl=true->FlatL (iQ ρ s.length x0).cs:=by
   intro i x0 hx0 hf
   have h4:=(kg (ρ:=ρ) (N:=s.length) x0).2.2.2
   rw [h4] at hf
   have:iQ ρ s.length x0=x0:=by unfold iQ;rw [hf]
   rw [this]
   exact hh.flat i x0 hx0 hf
  rcases kind hx with⟨hlt,hsx,hx2⟩|⟨hlt,i,x0,t,ob,h1,h2,h3,hsx,hown,hx0,hil,rfl⟩|⟨i,x0,hi,rfl,hx0,rfl⟩
  ·exact hs.flat o x hsx hf
  ·exact hflat hx0 hf
  exact hflat hx0 hf
 ·intro o o' x x' p p' hx hx' hxo hp hp' hne
  have oldp:∀ {o:Nat} {x:AObj} {p:Pl},(ew ρ h0 h0' s)[o]? =some (some x)->o < s.length->(fy β β0' ρ.length)[o]? =some (some p)->∃ ob:AObj,s[o]? =some (some ob)/\(x.own=true->ob.own=true)/\β[o]? =some (some p):=by
   intro o x p hx hlt hp
   rw [hold hlt] at hp
   rcases kind hx with⟨_,hsx,_⟩|⟨_,i,x0,t,ob,h1,h2,h3,hsx,hown,hx0,hil,rfl⟩|⟨i,x0,hi,rfl,hx0,rfl⟩
   ·exact⟨x,hsx,id,hp⟩
   ·exact⟨ob,hsx,fun _=>hown,hp⟩
   omega
  have cross:∀ {o o':Nat} {x x':AObj} {p p':Pl},(ew ρ h0 h0' s)[o]? =some (some x)->(ew ρ h0 h0' s)[o']? =some (some x')->o < s.length->s.length<=o'->(x.own=true\/x'.own=true)->
    (fy β β0' ρ.length)[o]? =some (some p)->(fy β β0' ρ.length)[o']? =some (some p')->p.blk≠p'.blk:=by
   intro o o' x x' p p' hx hx' hlt hge hor hp hp' hbb
   obtain⟨ob,hsx,hown,hbp⟩:=oldp hx hlt hp
   rcases kind hx' with⟨h1,_⟩|⟨h1,_⟩|⟨i',x0',hi',rfl,hx0',rfl⟩
   ·omega
   ·omega
   rw [hnew hi'] at hp'
   rcases hst.fresh i' x0' p' hi' hx0' hp' with hO|hO
   ·obtain⟨j,n,ob',q,hr1,hn,hown',hq,hbq,hqb,t,ht,hto⟩:=Hs hm hO
    by_cases hno:n=o
    ·subst hno
     rcases kind hx with⟨_,_,hx2⟩|⟨_,i,x0,t',ob2,h1,h2,h3,_,_,hx0,hil,rfl⟩|⟨i,x0,hi,he2,_⟩
     ·have:=hx2 j none t hr1 ht
      rw [hto] at this;cases this
     ·have hij:i=j:=by
       by_cases hij:i=j
       ·exact hij
       exact absurd rfl (Hm hsep hij h1 h2 hr1 ht (.inl h3))
      subst hij
      have hbi:β0'[i]? =some (some q):=hle _ _ hbq
      have hneq:i≠i':=zO
      rw [(kg (ρ:=ρ) (N:=s.length) x0).2.2.1,(kg (ρ:=ρ) (N:=s.length) x0').2.2.1] at hor
      rcases hor with ho1|ho1
      ·exact hh.apart i i' x0 x0' q p' hx0 hx0' ho1 hbi hp' hneq hqb
      exact hh.apart i' i x0' x0 p' q hx0' hx0 ho1 hp' hbi (Ne.symm hneq) hqb.symm
     omega
    exact hs.apart n o ob' ob q p hn hsx hown' hq hbp hno (by rw [hqb,hbb])
   obtain⟨q,hq,hR⟩:=hs.ob o ob hsx
   rw [hbp] at hq
   cases hq
   have:=hR.lt
   omega
  rcases R5 o s.length with hlt|hge
  ·rcases R5 o' s.length with hlt'|hge'
   ·obtain⟨ob,hsx,hown,hbp⟩:=oldp hx hlt hp
    obtain⟨ob',hsx',_,hbp'⟩:=oldp hx' hlt' hp'
    exact hs.apart o o' ob ob' p p' hsx hsx' (hown hxo) hbp hbp' hne
   exact cross hx hx' hlt hge' (.inl hxo) hp hp'
  rcases R5 o' s.length with hlt'|hge'
  ·exact (cross hx' hx hlt' hge (.inr hxo) hp' hp).symm
  rcases kind hx with⟨h1,_⟩|⟨h1,_⟩|⟨i,x0,hi,rfl,hx0,rfl⟩
  ·omega
  ·omega
  rcases kind hx' with⟨h1,_⟩|⟨h1,_⟩|⟨i',x0',hi',rfl,hx0',rfl⟩
  ·omega
  ·omega
  rw [hnew hi] at hp
  rw [hnew hi'] at hp'
  rw [(kg (ρ:=ρ) (N:=s.length) x0).2.2.1] at hxo
  exact hh.apart i i' x0 x0' p p' hx0 hx0' hxo hp hp' (fun e=>hne (by rw [e]))
 ·exact Be.le_append _ _
 ·intro k hk hno
  refine hst.block k hk fun hown=>?_
  obtain⟨i,n,ob',q,hr1,hn,hown',hq,_,hqb,_⟩:=Hs hm hown
  exact hno ⟨n,ob',q,hn,hown',hq,hqb⟩
 ·unfold ew
  rw [Sd,hlenU]
  omega
 ·intro o x hlt hx
  rcases kind hx with⟨_,hsx,_⟩|⟨_,i,x0,t,ob,h1,h2,h3,hsx,hown,hx0,hil,rfl⟩|⟨i,x0,hi,rfl,hx0,rfl⟩
  ·exact⟨x,hsx,id⟩
  ·exact⟨ob,hsx,fun _=>hown⟩
  omega
 intro o x p hge hx hp
 rcases kind hx with⟨h1,_⟩|⟨h1,_⟩|⟨i,x0,hi,rfl,hx0,rfl⟩
 ·omega
 ·omega
 rw [hnew hi] at hp
 exact hfresh hi hx0 hp
theorem C7 {P:Program} {f:FuncId} {args0 avs:List AV} {h0 h0' s:Hp} {res0:AV} (ρ:cP) (hargs:pU ρ args0 avs) (hm:kJ ρ s ρ h0) (hsep:et ρ h0=true) {β:Be} {w:World} {vs:List Value}
  (hcall:∀ vs,HSim (fg β ρ) h0 w->L2 (gm (fg β ρ)) args0 vs->Calls P f vs.toArray w fun e w'=>∃ β' v,e=.returned v/\gm β' res0 v/\HSim β' h0' w'/\StepR (fg β ρ) β' h0 h0' w w') (hs:HSim β s w) (hvs:L2 (gm β) avs vs):
  Calls P f vs.toArray w fun e w'=>∃ β' v,e=.returned v/\gm β' (kL ρ s.length res0) v/\HSim β' (ew ρ h0 h0' s) w'/\StepR β β' s (ew ρ h0 h0' s) w w':=
 (hcall vs (vW hs hm hsep) (Fv hargs hvs)).mono fun e w' h=>wc (P:=P) ρ hargs hm hsep hs hvs h
theorem wd {P:Program} {f:FuncId} {args0 avs:List AV} {h0 h0' s:Hp} {res0:AV} (ct:fL P f args0 h0 res0 h0') (ρ:cP) (hargs:pU ρ args0 avs) (hm:kJ ρ s ρ h0) (hsep:et ρ h0=true):
  fL P f avs s (kL ρ s.length res0) (ew ρ h0 h0' s):=
 ⟨ct.1,fun β w vs hs hvs=>C7 ρ hargs hm hsep (fun vs h1 h2=>ct.2 _ w vs h1 h2) hs hvs⟩
theorem aD {P:Program} {E:Entry} {F:S->Prop} {f:FuncId} {avs:List AV} {d:Option Tmp} {k:List gg} {s:S} {c:Prop} {args0:List AV} {h0 h0':Hp} {res0:AV} (hc:c) (ct:fL P f args0 h0 res0 h0') (ρ:cP)
  (hm:pU ρ args0 avs/\kJ ρ s.hp ρ h0) (hsep:et ρ h0=true) (hk:ik P E F (.go k (s.put d (some (kL ρ s.hp.length res0)) (ew ρ h0 h0' s.hp)) True)):ik P E F (.call f avs d k s c):=
 ⟨hc,(wd ct ρ hm.1 hm.2 hsep).e.r hk.2⟩
def gh {α:Type}:Nat->List α->List (List α)
 |0,_=>[]
 |n+1,l=>match l with
  |[]=>[]
  |l=>l.take 16::gh n (l.drop 16)
def ti:Nat->List AV->List (Option AV)
 |0,l=>l.map some
 |n+1,[]=>none::ti n []
 |n+1,a::l=>some a::ti n l
theorem rx:∀ (n:Nat) (args:List AV),ti n args=args.map some++List.replicate (n - args.length) none
 |0,l=>by simp [ti]
 |n+1,[]=>by simp [ti,rx n [],SH]
 |n+1,a::l=>by simp [ti,rx n l]
def nr (n:Nat) (args:List AV):Slots:=gh (n / 16+1) (ti n args)
theorem pW {α:Type} (d:Option α):∀ (m:Nat) (l:List (Option α)) (i:Nat),l.length<=16*m->((gh m l).getD (i / 16) []).getD (i % 16) none=l.getD i none/\(i % 16 < ((gh m l).getD (i / 16) []).length->i < l.length)
 |0,l,i,h=>by
  have:l=[]:=List.eq_nil_of_length_eq_zero zO
  subst this
  simp [gh]
 |m+1,[],i,h=>by simp [gh]
 |m+1,a::l,i,h=>by
  simp only [gh]
  rcases R5 i 16 with hi|hi
  ·have h1:i / 16=0:=zO
   have h2:i % 16=i:=zO
   rw [h1,h2]
   simp only [Sp]
   refine⟨?_,fun h3=>by simp at h3⊢;omega⟩
   rw [RP,Sr hi,RP]
  have h1:i / 16=(i - 16) / 16+1:=zO
  have h2:i % 16=(i - 16) % 16:=zO
  rw [h1,h2,Sq]
  obtain⟨e1,e2⟩:=pW d m ((a::l).drop 16) (i - 16) (by simp at h⊢;omega)
  refine⟨?_,fun h3=>?_⟩
  ·rw [e1,RP,Sb,RP]
   congr 2
   omega
  have:=e2 h3
  simp at this⊢
  omega
theorem z0 {α:Type}:∀ (m:Nat) (l:List (Option α)) (i:Nat),i % 16 < ((gh m l).getD (i / 16) []).length->i < l.length
 |0,l,i,h=>by simp [gh] at h
 |m+1,[],i,h=>by simp [gh] at h
 |m+1,a::l,i,h=>by
  simp only [gh] at h
  rcases R5 i 16 with hi|hi
  ·have h1:i / 16=0:=zO
   have h2:i % 16=i:=zO
   rw [h1,h2] at h
   simp only [Sp] at h
   simp at h⊢
   omega
  have h1:i / 16=(i - 16) / 16+1:=zO
  have h2:i % 16=(i - 16) % 16:=zO
  rw [h1,h2,Sq] at h
  have:=z0 m ((a::l).drop 16) (i - 16) h
  simp at this⊢
  omega
theorem uv {α:Type}:∀ (m:Nat) (l:List (Option α)) (i:Nat) (v:α),((gh m l).getD (i / 16) []).getD (i % 16) none=some v->l[i]? =some (some v)
 |0,l,i,v,h=>by simp [gh] at h
 |m+1,[],i,v,h=>by simp [gh] at h
 |m+1,a::l,i,v,h=>by
  simp only [gh] at h
  rcases R5 i 16 with hi|hi
  ·have h1:i / 16=0:=zO
   have h2:i % 16=i:=zO
   rw [h1,h2] at h
   simp only [Sp] at h
   rw [RP,Sr hi] at h
   cases hx:(a::l)[i]? with
   |none=>rw [hx] at h;cases h
   |some y=>rw [hx] at h;simp only [RT] at h;rw [h]
  have h1:i / 16=(i - 16) / 16+1:=zO
  have h2:i % 16=(i - 16) % 16:=zO
  rw [h1,h2,Sq] at h
  have:=uv m ((a::l).drop 16) (i - 16) v h
  rw [Sb] at this
  rw [<-this]
  congr 1
  omega
theorem vy {β:Be} {n:Nat} {args:List AV} {vs:List Value} (h:L2 (gm β) args vs):SlotsR β (nr n args) (vs.toArray++Array.replicate (n - vs.toArray.size) undef):=by
 have hl:=h.length
 have hpl:(ti n args).length=max args.length n:=by simp [rx];omega
 by_cases hn:args.length<=n
 ·have hb:(ti n args).length<=16*(n / 16+1):=by rw [hpl];omega
  refine⟨fun i hi=>?_,fun i v hv=>?_⟩
  ·have:=(pW (α:=AV) none (n / 16+1) (ti n args) i hb).2 hi
   rw [hpl] at this
   simp
   omega
  unfold Slots.get nr at hv
  rw [(pW (α:=AV) none (n / 16+1) (ti n args) i hb).1,RP] at hv
  rw [rx] at hv
  rcases R5 i args.length with hi|hi
  ·rw [R4 (by simpa using hi),SM] at hv
   have hx:args[i]? =some args[i]:=RZ hi
   rw [hx] at hv
   simp only [R7,RT,Option.some.injEq] at hv
   obtain⟨u,hu,hr⟩:=h.get hx
   refine⟨u,?_,by rw [<-hv];exact hr⟩
   rw [Sx zS]
   simpa using hu
  rw [Sn (by simpa using hi)] at hv
  rw [List.getElem?_replicate] at hv
  split at hv<;>cases hv
 have hrep:n - args.length=0:=zO
 have hpad:ti n args=args.map some:=by simp [rx,hrep]
 refine⟨fun i hi=>?_,fun i v hv=>?_⟩
 ·unfold Slots.has nr at hi
  rw [hpad] at hi
  have:=z0 (n / 16+1) (args.map some) i hi
  simp at this⊢
  omega
 unfold Slots.get nr at hv
 rw [hpad] at hv
 have hx:=uv (n / 16+1) (args.map some) i v hv
 rw [SM] at hx
 simp only [Sf] at hx
 obtain⟨y,hy,he⟩:=hx
 simp only [Option.some.injEq] at he
 subst he
 obtain⟨u,hu,hr⟩:=h.get hy
 refine⟨u,?_,hr⟩
 have hlt:=(RX.1 hu).1
 rw [Sx (by simpa using hlt)]
 simpa using hu
end
section
open Go.RowKit
def Ht (P:Program) (s:S):ResultVar->Option AV
 | .tmp t=>s.sl.get t
 | .cell a t=>match s.sl.get a with
  |some (.sc (.pt o k j))=>match s.obj o with
   |some ob=>match ob.cs[k]? with
    |some c=>match dg P t with
     |true=>if j+dZ P t<=c.length then some (.ag ((c.drop j).take (dZ P t))) else none
     |false=>if fJ P t then match c[j]? with
      |some x=>some (.sc x)
      |none=>none else none
    |none=>none
   |none=>none
  |_=>none
def z6 (P:Program) (s:S):List ResultVar->Option (List AV)
 |[]=>some []
 |r::l=>match Ht P s r,z6 P s l with
  |some v,some m=>some (v::m)
  |_,_=>none
def uw:List AV->Option (List Co)
 |[]=>some []
 | .sc x::l=>match uw l with
  |some m=>some (.sc x::m)
  |none=>none
 | .ag x::l=>match uw l with
  |some m=>some (.ag x::m)
  |none=>none
 |_::_=>none
def pX (P:Program) (s:S) (rs:List ResultVar):Option AV:=
 match z6 P s rs with
 |some [v]=>some v
 |some l=>match uw l with
  |some m=>some (.tu m)
  |none=>none
 |none=>none
section
variable {P:Program} {β:Be} {s:S} {w:World} {tm:Array Value}
def tj (tm:Array Value):ResultVar->Sem Value
 | .tmp t=>pure (tm.getD t undef)
 | .cell a t=>do loadVar t (<-asAddr (tm.getD a undef))
theorem MY (hs:HSim β s.hp w) (hsl:SlotsR β s.sl tm) {r:ResultVar} {v:AV} (h:Ht P s r=some v):∃ u,(tj tm r).run P w=.ok u w/\gm β v u:=by
 have slot:∀ {t:Nat} {x:AV},s.sl.get t=some x->gm β x (tm.getD t undef):=by
  intro t x hx
  obtain⟨u,hu,hr⟩:=hsl.2 t x hx
  have:tm.getD t undef=u:=by simp [RR,hu]
  rw [this];exact hr
 cases r with
 |tmp t=>exact⟨_,rfl,slot h⟩
 |cell a t=>
  simp only [Ht] at h
  split at h
  ·rename_i o k j hx
   have hv:ScR β (.pt o k j) (tm.getD a undef):=slot hx
   have hrun:∀ {u:Value},(Instr.loadAt t (tm.getD a undef)).run P w=.ok u w->(tj tm (.cell a t)).run P w=.ok u w:=by
    intro u hu
    obtain⟨p,_,hpe⟩:=hv
    rw [hpe] at hu
    show ((do loadVar t (<-asAddr (tm.getD a undef)):Sem Value)).run P w=.ok u w
    rw [hpe]
    simpa [Instr.loadAt,Instr.sureAddr,asAddr] using hu
   split at h
   ·rename_i ob hob
    split at h
    ·rename_i c hk
     split at h
     ·rename_i hag
      split at h
      ·rename_i hn
       simp only [Option.some.injEq] at h
       subst h
       obtain⟨vs,h1,h2⟩:=rm hs hob hk hag hn hv
       exact⟨_,hrun h1,vs,rfl,h2⟩
      cases h
     rename_i hag
     split at h
     ·rename_i hkn
      split at h
      ·rename_i y hy
       simp only [Option.some.injEq] at h
       subst h
       obtain⟨u,h1,h2⟩:=rn hs hob hk hag hkn hy hv
       exact⟨u,hrun h1,h2⟩
      cases h
     cases h
    cases h
   cases h
  cases h
theorem By (hs:HSim β s.hp w) (hsl:SlotsR β s.sl tm):∀ {rs:List ResultVar} {l:List AV},z6 P s rs=some l->∃ us,(rs.mapM (tj tm)).run P w=.ok us w/\L2 (gm β) l us
 |[],l,h=>by
  simp only [z6,Option.some.injEq] at h
  subst h
  exact⟨[],rfl,trivial⟩
 |r::rs,l,h=>by
  simp only [z6] at h
  split at h
  ·rename_i v m hv hm
   simp only [Option.some.injEq] at h
   subst h
   obtain⟨u,h1,h2⟩:=MY hs hsl hv
   obtain⟨us,h3,h4⟩:=By hs hsl hm
   refine⟨u::us,?_,h2,h4⟩
   simp only [List.mapM_cons,Sh,h1,Sg,h3,Sy]
  cases h
theorem Bz:∀ {l:List AV} {m:List Co} {us:List Value},uw l=some m->L2 (gm β) l us->L2 (Fg β) m us
 |[],m,[],h,_=>by simp only [uw,Option.some.injEq] at h;subst h;trivial
 | .sc x::l,m,u::us,h,hu=>by
  simp only [uw] at h
  split at h
  ·rename_i m' hm
   simp only [Option.some.injEq] at h
   subst h
   exact⟨hu.1,Bz hm hu.2⟩
  cases h
 | .ag x::l,m,u::us,h,hu=>by
  simp only [uw] at h
  split at h
  ·rename_i m' hm
   simp only [Option.some.injEq] at h
   subst h
   exact⟨hu.1,Bz hm hu.2⟩
  cases h
 | .tu x::l,m,us,h,_=>by cases h
 | .cl f x::l,m,us,h,_=>by cases h
 |[],m,_::_,_,hu=>hu.elim
 | .sc _::_,m,[],_,hu=>hu.elim
 | .ag _::_,m,[],_,hu=>hu.elim
theorem we (fn:Func) (tm:Array Value):results fn tm=(do let vs <-fn.results.mapM (tj tm);pure (if h:vs.size=1 then vs[0] else .tuple vs)):=by
 unfold results
 congr 1
theorem BA (hs:HSim β s.hp w) (hsl:SlotsR β s.sl tm) {fn:Func} {v:AV} (h:pX P s fn.results.toList=some v):∃ u,(results fn tm).run P w=.ok u w/\gm β v u:=by
 have harr:∀ {us:List Value},(fn.results.toList.mapM (tj tm)).run P w=.ok us w->(fn.results.mapM (tj tm)).run P w=.ok us.toArray w:=by
  intro us hus
  rw [Array.mapM_eq_mapM_toList]
  have e:∀ (m:Sem (List Value)),(List.toArray <$> m)=(do pure (List.toArray (<-m))):=fun m=>rfl
  rw [e,Sh,hus]
  rfl
 unfold pX at h
 split at h
 ·rename_i x hx
  simp only [Option.some.injEq] at h
  subst h
  obtain⟨us,h1,h2⟩:=By (P:=P) hs hsl hx
  match us,h2 with
  |[u],h2=>
   refine⟨u,?_,h2.1⟩
   rw [we,Sh,harr h1]
   rfl
  |[],h2=>exact h2.elim
  |_::_::_,h2=>exact h2.2.elim
 ·rename_i l hne hx
  split at h
  ·rename_i m hm
   simp only [Option.some.injEq] at h
   subst h
   obtain⟨us,h1,h2⟩:=By (P:=P) hs hsl hx
   refine⟨.tuple us.toArray,?_,us,rfl,Bz hm h2⟩
   rw [we,Sh,harr h1]
   have hl:=h2.length
   have h1':us.toArray.size≠1:=by
    intro he
    have:l.length=1:=by simpa [hl] using he
    match l,this with
    |[v],_=>exact hne v rfl
   simp only [Sg,dif_neg h1']
   rfl
  cases h
 cases h
end
def Fy (P:Program) (rs:List ResultVar) (n0:Nat) (res:AV) (h':Hp) (s:S):Prop:=
 ∃ v ρ,pX P s rs=some v/\Hn n0 0 ρ=true/\et ρ h'=true/\C0 ρ res v/\kJ ρ s.hp ρ h'
theorem aK {P:Program} {E:Entry} {rs:List ResultVar} {n0:Nat} {res:AV} {h':Hp} {s:S} {c:Prop} (ρ:cP) (hc:c) (v:AV) (hr:pX P s rs=some v) (hid:Hn n0 0 ρ=true) (hsep:et ρ h'=true) (hm:C0 ρ res v/\kJ ρ s.hp ρ h'):
  ik P E (Fy P rs n0 res h') (.fin s c):=⟨hc,v,ρ,hr,hid,hsep,hm.1,hm.2⟩
theorem gn {P:Program} {f:FuncId} {fn:Func} {c:Code} (hf:P.funcs[f]? =some fn) (hname:(fn.name == "runtime.NumGoroutine")=false) (hb:fn.body=some c) {args:List AV} {h h':Hp} {res:AV}
  (H:∀ E:Entry,E.h.length=h.length->ik P E (Fy P fn.results.toList h.length res h') (.go [.code c] ⟨nr fn.ntmps args,h⟩ True)):fL P f args h res h':=by
 refine⟨⟨fn,hf,hname,by rw [hb];rfl⟩,fun β w vs hs hvs=>?_⟩
 refine calls_of_wp hf hb ?_
 let E:Entry:=⟨β,h,w⟩
 have hd:=(H E rfl).2
 refine hd β _ w ⟨rfl,vy hvs,hs,hs.len,StepR.refl β h w hs.len⟩ _ fun e s' β' a' w' hK hs'=>?_
 have key:Fy P fn.results.toList h.length res h' s'->a'.defers=[]/\∃ v,(results fn a'.tmps).run P w'=.ok v w'/\∃ β'' u,Ending.returned v=.returned u/\gm β'' res u/\HSim β'' h' w'/\StepR β β'' h h' w w':=by
  intro⟨v,ρ,hr,hid,hsep,hav,hhp⟩
  obtain⟨u,hrun,hu⟩:=BA hs'.hp hs'.sl hr
  have hw:nk ρ h.length ⟨[],h'⟩ ⟨[],s'.hp⟩:=⟨hid,hsep,trivial,hhp⟩
  have hsim:=C5 (E:=E) rfl hw (β:=β') (a:=a') (w:=w') ⟨hs'.dfr,⟨fun i hi=>by simp [Slots.has] at hi,fun i x hx=>by simp [Slots.get] at hx⟩,hs'.hp,hs'.ent,hs'.st⟩
  exact⟨hs'.dfr,u,hrun,fg β' ρ,u,rfl,zX hav hu,hsim.hp,hsim.st⟩
 cases e with
 |normal=>exact key hK
 |ret=>exact key hK
 |_=>exact hK.elim
end
section
theorem IK (ρ:cP) (N o:Nat):tf ρ N o=match ρ[o]? with
  |some x=>x
  |none=>some (N+(o - ρ.length),none):=by
 unfold tf
 by_cases h:o < ρ.length
 ·rw [if_pos h,RZ h]
  unfold cP.at
  rw [RP,RZ h]
  rfl
 rw [if_neg h,Si zO]
attribute [go_sem] run vU Bs ut fC cr kG CQ oC fK j9 S.ev S.evs S.put S.obj S.new S.val S.valc S.parts S.scals Slots.get Slots.put Sc.ofV Oi AV.ofV AV.cells Co.av zL zM over OJ zH fits Q9 nh j8 CP Sc.isFlat ti nr gh kL ru rv Kl Ho vY iQ kd nm fM ew IK cP.at S.kill S.sets S.at Int.toNat_natCast List.length_map pX z6 Ht uw IA dc C0 pU Ok cM Rd Q_ Ra kJ Rb Fx Fw beq_self_eq_true
attribute [go_sem] List.map_cons List.map_nil Sl SD List.append_nil List.take_succ_cons List.take_zero List.take_nil List.drop_succ_cons List.drop_zero List.drop_nil Sp Sq List.getD_nil List.set_cons_zero List.set_cons_succ R1 RV List.getElem?_nil Sm SF List.getElem?_toArray List.toList_toArray R7 Option.map_none SN Bool.and_true Bool.true_and Bool.and_self and_true true_and and_self if_true if_false SH List.replicate_zero Sj Nat.add_zero Bool.not_true Bool.not_false beq_true beq_false RY
theorem Fz {α:Type} (l m:List α):Array.append l.toArray m.toArray=(l++m).toArray:=by simp
attribute [go_sem] Fz
theorem PF:(0:Nat) / 16=0/\(0:Nat) % 16=0/\(1:Nat) / 16=0/\(1:Nat) % 16=1/\(2:Nat) / 16=0/\(2:Nat) % 16=2/\(3:Nat) / 16=0/\(3:Nat) % 16=3/\(4:Nat) / 16=0/\(4:Nat) % 16=4/\(5:Nat) / 16=0/\(5:Nat) % 16=5/\(6:Nat) / 16=0/\(6:Nat) % 16=6/\(7:Nat) / 16=0/\(7:Nat) % 16=7/\(8:Nat) / 16=0/\(8:Nat) % 16=8/\(9:Nat) / 16=0/\(9:Nat) % 16=9/\(10:Nat) / 16=0/\(10:Nat) % 16=10/\(11:Nat) / 16=0/\(11:Nat) % 16=11/\(12:Nat) / 16=0/\(12:Nat) % 16=12/\(13:Nat) / 16=0/\(13:Nat) % 16=13/\(14:Nat) / 16=0/\(14:Nat) % 16=14/\(15:Nat) / 16=0/\(15:Nat) % 16=15/\(16:Nat) / 16=1/\(16:Nat) % 16=0/\(17:Nat) / 16=1/\(17:Nat) % 16=1/\(18:Nat) / 16=1/\(18:Nat) % 16=2/\(19:Nat) / 16=1/\(19:Nat) % 16=3:=by and_intros<;>rfl
attribute [go_sem] PF
theorem OP:(20:Nat) / 16=1/\(20:Nat) % 16=4/\(21:Nat) / 16=1/\(21:Nat) % 16=5/\(22:Nat) / 16=1/\(22:Nat) % 16=6/\(23:Nat) / 16=1/\(23:Nat) % 16=7/\(24:Nat) / 16=1/\(24:Nat) % 16=8/\(25:Nat) / 16=1/\(25:Nat) % 16=9/\(26:Nat) / 16=1/\(26:Nat) % 16=10/\(27:Nat) / 16=1/\(27:Nat) % 16=11/\(28:Nat) / 16=1/\(28:Nat) % 16=12/\(29:Nat) / 16=1/\(29:Nat) % 16=13/\(30:Nat) / 16=1/\(30:Nat) % 16=14/\(31:Nat) / 16=1/\(31:Nat) % 16=15/\(32:Nat) / 16=2/\(32:Nat) % 16=0/\(33:Nat) / 16=2/\(33:Nat) % 16=1/\(34:Nat) / 16=2/\(34:Nat) % 16=2/\(35:Nat) / 16=2/\(35:Nat) % 16=3/\(36:Nat) / 16=2/\(36:Nat) % 16=4/\(37:Nat) / 16=2/\(37:Nat) % 16=5/\(38:Nat) / 16=2/\(38:Nat) % 16=6/\(39:Nat) / 16=2/\(39:Nat) % 16=7:=by and_intros<;>rfl
attribute [go_sem] OP
theorem OQ:(40:Nat) / 16=2/\(40:Nat) % 16=8/\(41:Nat) / 16=2/\(41:Nat) % 16=9/\(42:Nat) / 16=2/\(42:Nat) % 16=10/\(43:Nat) / 16=2/\(43:Nat) % 16=11/\(44:Nat) / 16=2/\(44:Nat) % 16=12/\(45:Nat) / 16=2/\(45:Nat) % 16=13/\(46:Nat) / 16=2/\(46:Nat) % 16=14/\(47:Nat) / 16=2/\(47:Nat) % 16=15/\(48:Nat) / 16=3/\(48:Nat) % 16=0/\(49:Nat) / 16=3/\(49:Nat) % 16=1/\(50:Nat) / 16=3/\(50:Nat) % 16=2/\(51:Nat) / 16=3/\(51:Nat) % 16=3/\(52:Nat) / 16=3/\(52:Nat) % 16=4/\(53:Nat) / 16=3/\(53:Nat) % 16=5/\(54:Nat) / 16=3/\(54:Nat) % 16=6/\(55:Nat) / 16=3/\(55:Nat) % 16=7/\(56:Nat) / 16=3/\(56:Nat) % 16=8/\(57:Nat) / 16=3/\(57:Nat) % 16=9/\(58:Nat) / 16=3/\(58:Nat) % 16=10/\(59:Nat) / 16=3/\(59:Nat) % 16=11:=by and_intros<;>rfl
attribute [go_sem] OQ
theorem MZ:(60:Nat) / 16=3/\(60:Nat) % 16=12/\(61:Nat) / 16=3/\(61:Nat) % 16=13/\(62:Nat) / 16=3/\(62:Nat) % 16=14/\(63:Nat) / 16=3/\(63:Nat) % 16=15/\(64:Nat) / 16=4/\(64:Nat) % 16=0/\(65:Nat) / 16=4/\(65:Nat) % 16=1/\(66:Nat) / 16=4/\(66:Nat) % 16=2/\(67:Nat) / 16=4/\(67:Nat) % 16=3/\(68:Nat) / 16=4/\(68:Nat) % 16=4/\(69:Nat) / 16=4/\(69:Nat) % 16=5/\(70:Nat) / 16=4/\(70:Nat) % 16=6/\(71:Nat) / 16=4/\(71:Nat) % 16=7/\(72:Nat) / 16=4/\(72:Nat) % 16=8/\(73:Nat) / 16=4/\(73:Nat) % 16=9/\(74:Nat) / 16=4/\(74:Nat) % 16=10/\(75:Nat) / 16=4/\(75:Nat) % 16=11/\(76:Nat) / 16=4/\(76:Nat) % 16=12/\(77:Nat) / 16=4/\(77:Nat) % 16=13/\(78:Nat) / 16=4/\(78:Nat) % 16=14/\(79:Nat) / 16=4/\(79:Nat) % 16=15:=by and_intros<;>rfl
attribute [go_sem] MZ
theorem M1:(80:Nat) / 16=5/\(80:Nat) % 16=0/\(81:Nat) / 16=5/\(81:Nat) % 16=1/\(82:Nat) / 16=5/\(82:Nat) % 16=2/\(83:Nat) / 16=5/\(83:Nat) % 16=3/\(84:Nat) / 16=5/\(84:Nat) % 16=4/\(85:Nat) / 16=5/\(85:Nat) % 16=5/\(86:Nat) / 16=5/\(86:Nat) % 16=6/\(87:Nat) / 16=5/\(87:Nat) % 16=7/\(88:Nat) / 16=5/\(88:Nat) % 16=8/\(89:Nat) / 16=5/\(89:Nat) % 16=9/\(90:Nat) / 16=5/\(90:Nat) % 16=10/\(91:Nat) / 16=5/\(91:Nat) % 16=11/\(92:Nat) / 16=5/\(92:Nat) % 16=12/\(93:Nat) / 16=5/\(93:Nat) % 16=13/\(94:Nat) / 16=5/\(94:Nat) % 16=14/\(95:Nat) / 16=5/\(95:Nat) % 16=15/\(96:Nat) / 16=6/\(96:Nat) % 16=0/\(97:Nat) / 16=6/\(97:Nat) % 16=1/\(98:Nat) / 16=6/\(98:Nat) % 16=2/\(99:Nat) / 16=6/\(99:Nat) % 16=3:=by and_intros<;>rfl
attribute [go_sem] M1
theorem M2:(100:Nat) / 16=6/\(100:Nat) % 16=4/\(101:Nat) / 16=6/\(101:Nat) % 16=5/\(102:Nat) / 16=6/\(102:Nat) % 16=6/\(103:Nat) / 16=6/\(103:Nat) % 16=7/\(104:Nat) / 16=6/\(104:Nat) % 16=8/\(105:Nat) / 16=6/\(105:Nat) % 16=9/\(106:Nat) / 16=6/\(106:Nat) % 16=10/\(107:Nat) / 16=6/\(107:Nat) % 16=11/\(108:Nat) / 16=6/\(108:Nat) % 16=12/\(109:Nat) / 16=6/\(109:Nat) % 16=13/\(110:Nat) / 16=6/\(110:Nat) % 16=14/\(111:Nat) / 16=6/\(111:Nat) % 16=15/\(112:Nat) / 16=7/\(112:Nat) % 16=0/\(113:Nat) / 16=7/\(113:Nat) % 16=1/\(114:Nat) / 16=7/\(114:Nat) % 16=2/\(115:Nat) / 16=7/\(115:Nat) % 16=3/\(116:Nat) / 16=7/\(116:Nat) % 16=4/\(117:Nat) / 16=7/\(117:Nat) % 16=5/\(118:Nat) / 16=7/\(118:Nat) % 16=6/\(119:Nat) / 16=7/\(119:Nat) % 16=7:=by and_intros<;>rfl
attribute [go_sem] M2
theorem M3:(120:Nat) / 16=7/\(120:Nat) % 16=8/\(121:Nat) / 16=7/\(121:Nat) % 16=9/\(122:Nat) / 16=7/\(122:Nat) % 16=10/\(123:Nat) / 16=7/\(123:Nat) % 16=11/\(124:Nat) / 16=7/\(124:Nat) % 16=12/\(125:Nat) / 16=7/\(125:Nat) % 16=13/\(126:Nat) / 16=7/\(126:Nat) % 16=14/\(127:Nat) / 16=7/\(127:Nat) % 16=15/\(128:Nat) / 16=8/\(128:Nat) % 16=0/\(129:Nat) / 16=8/\(129:Nat) % 16=1/\(130:Nat) / 16=8/\(130:Nat) % 16=2/\(131:Nat) / 16=8/\(131:Nat) % 16=3/\(132:Nat) / 16=8/\(132:Nat) % 16=4/\(133:Nat) / 16=8/\(133:Nat) % 16=5/\(134:Nat) / 16=8/\(134:Nat) % 16=6/\(135:Nat) / 16=8/\(135:Nat) % 16=7/\(136:Nat) / 16=8/\(136:Nat) % 16=8/\(137:Nat) / 16=8/\(137:Nat) % 16=9/\(138:Nat) / 16=8/\(138:Nat) % 16=10/\(139:Nat) / 16=8/\(139:Nat) % 16=11:=by and_intros<;>rfl
attribute [go_sem] M3
theorem M4:(140:Nat) / 16=8/\(140:Nat) % 16=12/\(141:Nat) / 16=8/\(141:Nat) % 16=13/\(142:Nat) / 16=8/\(142:Nat) % 16=14/\(143:Nat) / 16=8/\(143:Nat) % 16=15/\(144:Nat) / 16=9/\(144:Nat) % 16=0/\(145:Nat) / 16=9/\(145:Nat) % 16=1/\(146:Nat) / 16=9/\(146:Nat) % 16=2/\(147:Nat) / 16=9/\(147:Nat) % 16=3/\(148:Nat) / 16=9/\(148:Nat) % 16=4/\(149:Nat) / 16=9/\(149:Nat) % 16=5/\(150:Nat) / 16=9/\(150:Nat) % 16=6/\(151:Nat) / 16=9/\(151:Nat) % 16=7/\(152:Nat) / 16=9/\(152:Nat) % 16=8/\(153:Nat) / 16=9/\(153:Nat) % 16=9/\(154:Nat) / 16=9/\(154:Nat) % 16=10/\(155:Nat) / 16=9/\(155:Nat) % 16=11/\(156:Nat) / 16=9/\(156:Nat) % 16=12/\(157:Nat) / 16=9/\(157:Nat) % 16=13/\(158:Nat) / 16=9/\(158:Nat) % 16=14/\(159:Nat) / 16=9/\(159:Nat) % 16=15:=by and_intros<;>rfl
attribute [go_sem] M4
theorem M5:(160:Nat) / 16=10/\(160:Nat) % 16=0/\(161:Nat) / 16=10/\(161:Nat) % 16=1/\(162:Nat) / 16=10/\(162:Nat) % 16=2/\(163:Nat) / 16=10/\(163:Nat) % 16=3/\(164:Nat) / 16=10/\(164:Nat) % 16=4/\(165:Nat) / 16=10/\(165:Nat) % 16=5/\(166:Nat) / 16=10/\(166:Nat) % 16=6/\(167:Nat) / 16=10/\(167:Nat) % 16=7/\(168:Nat) / 16=10/\(168:Nat) % 16=8/\(169:Nat) / 16=10/\(169:Nat) % 16=9/\(170:Nat) / 16=10/\(170:Nat) % 16=10/\(171:Nat) / 16=10/\(171:Nat) % 16=11/\(172:Nat) / 16=10/\(172:Nat) % 16=12/\(173:Nat) / 16=10/\(173:Nat) % 16=13/\(174:Nat) / 16=10/\(174:Nat) % 16=14/\(175:Nat) / 16=10/\(175:Nat) % 16=15/\(176:Nat) / 16=11/\(176:Nat) % 16=0/\(177:Nat) / 16=11/\(177:Nat) % 16=1/\(178:Nat) / 16=11/\(178:Nat) % 16=2/\(179:Nat) / 16=11/\(179:Nat) % 16=3:=by and_intros<;>rfl
attribute [go_sem] M5
theorem M6:(180:Nat) / 16=11/\(180:Nat) % 16=4/\(181:Nat) / 16=11/\(181:Nat) % 16=5/\(182:Nat) / 16=11/\(182:Nat) % 16=6/\(183:Nat) / 16=11/\(183:Nat) % 16=7/\(184:Nat) / 16=11/\(184:Nat) % 16=8/\(185:Nat) / 16=11/\(185:Nat) % 16=9/\(186:Nat) / 16=11/\(186:Nat) % 16=10/\(187:Nat) / 16=11/\(187:Nat) % 16=11/\(188:Nat) / 16=11/\(188:Nat) % 16=12/\(189:Nat) / 16=11/\(189:Nat) % 16=13/\(190:Nat) / 16=11/\(190:Nat) % 16=14/\(191:Nat) / 16=11/\(191:Nat) % 16=15/\(192:Nat) / 16=12/\(192:Nat) % 16=0/\(193:Nat) / 16=12/\(193:Nat) % 16=1/\(194:Nat) / 16=12/\(194:Nat) % 16=2/\(195:Nat) / 16=12/\(195:Nat) % 16=3/\(196:Nat) / 16=12/\(196:Nat) % 16=4/\(197:Nat) / 16=12/\(197:Nat) % 16=5/\(198:Nat) / 16=12/\(198:Nat) % 16=6/\(199:Nat) / 16=12/\(199:Nat) % 16=7:=by and_intros<;>rfl
attribute [go_sem] M6
end
section
open Go.RowKit
def wg (op:Op):List Tmp:=op.operands.toList.filterMap fun| .tmp t=>some t|_=>none
def gc (r:Array Oper) (o:Oper):List Tmp:=
 wg o.op++(match o.guard with
  |some (g,_)=>((r[g]?).bind (·.dst)).toList
  |none=>[])
def jJ (P:Program) (op:Op):Nat:=
 match op with
 | .convert s d _=>match Iz P s d with
  |some (.int _)|some .str=>0
  |some (.s2b _)=>2
  |some .b2s=>1
  |none=>4
 | .move _| .assign _| .pick .. | .build .. | .nilCheck _| .binOp .. | .unOp .. | .fieldAddr .. | .index .. | .extract .. =>0
 | .call ⟨.builtin .len,_,_⟩| .call ⟨.builtin .min,_,_⟩| .call ⟨.builtin .max,_,_⟩=>0
 | .load .. | .indexAddr .. | .slice .. =>1
 | .alloc _| .box .. | .buildSlice .. | .makeSlice .. =>2
 | .call ⟨.value _,_,_⟩=>3
 |_=>4
def pu (P:Program) (o:Oper):Nat:=jJ P o.op
def C8 (a b:Option Tmp):Bool:=
 match a,b with
 |some x,some y=>x != y
 |_,_=>true
def ux (a:Option Tmp) (l:List Tmp):Bool:=
 match a with
 |some x=> !l.contains x
 |none=>true
def wh (P:Program) (r:Array Oper) (i j:Oper):Bool:=
 C8 i.dst j.dst && ux i.dst (gc r j) && ux j.dst (gc r i) && (pu P i == 0 && pu P j != 5 || pu P i == 1 && pu P j != 4)
theorem Slots.put_comm (s:Slots) (a b:Nat) (v u:Option AV) (h:a≠b):(s.put a v).put b u=(s.put b u).put a v:=by
 unfold Slots.put
 by_cases hc:a / 16=b / 16
 ·rw [hc]
  by_cases hl:b / 16 < s.length
  ·simp only [RP,SG hl,RT,List.set_set]
   congr 1
   exact SR _ _ zO
  have h1:∀ x,s.set (b / 16) x=s:=fun x=>List.set_eq_of_length_le zO
  simp only [h1]
 have h1:∀ x,(s.set (a / 16) x).getD (b / 16) []=s.getD (b / 16) []:=fun x=>by
  simp only [RP,Sv hc]
 have h2:∀ x,(s.set (b / 16) x).getD (a / 16) []=s.getD (a / 16) []:=fun x=>by
  simp only [RP,Sv (Ne.symm hc)]
 rw [h1,h2]
 exact SR _ _ hc
theorem FA (s:Slots) (d t:Nat) (v:Option AV) (h:d≠t):(s.put d v).get t=s.get t:=by
 rw [Slots.get_put,if_neg (Ne.symm h)]
def jn (l:List Tmp) (s s':S):Prop:=∀ t∈l,s.sl.get t=s'.sl.get t
theorem gT {l:List Tmp} {s:S} {d:Option Tmp} {v:Option AV} {h:Hp} (hd:ux d l=true):jn l s (s.put d v h):=by
 intro t ht
 cases d with
 |none=>rfl
 |some d=>
  have hne:d≠t:=fun e=>by
   subst e
   simp only [ux,R8,List.contains_eq_mem,decide_eq_false_iff_not] at hd
   exact hd ht
  exact (FA s.sl d t v hne).symm
theorem iu {s s':S} {x:Operand} (h:∀ t,x=.tmp t->s.sl.get t=s'.sl.get t):s.ev x=s'.ev x:=by
 cases x with
 |tmp t=>exact h t rfl
 |_=>rfl
theorem e9 {op:Op} {t:Tmp} (h:(.tmp t:Operand)∈op.operands.toList):t∈wg op:=by
 unfold wg
 rw [List.mem_filterMap]
 exact⟨.tmp t,h,rfl⟩
theorem kM {s s':S}:∀ {l:List (Nat×Operand)},(∀ p∈l,s.ev p.2=s'.ev p.2)->s.parts l=s'.parts l
 |[],_=>rfl
 |(i,x)::l,h=>by
  have h1:=h (i,x) zP
  dsimp only at h1
  simp only [S.parts,h1,kM (l:=l) (fun p hp=>h p (by simp [hp]))]
theorem uy {s s':S}:∀ {l:List Operand},(∀ x∈l,s.ev x=s'.ev x)->s.scals l=s'.scals l
 |[],_=>rfl
 |x::l,h=>by
  have h1:=h x zP
  simp only [S.scals,h1,uy (l:=l) (fun p hp=>h p (by simp [hp]))]
theorem lz {s s':S}:∀ {l:List Operand},(∀ x∈l,s.ev x=s'.ev x)->s.evs l=s'.evs l
 |[],_=>rfl
 |x::l,h=>by
  have h1:=h x zP
  simp only [S.evs,h1,lz (l:=l) (fun p hp=>h p (by simp [hp]))]
theorem ma {s s':S} {x:Option Operand} (h:∀ y,x=some y->s.ev y=s'.ev y):j9 s x=j9 s' x:=by
 cases x with
 |none=>rfl
 |some y=>simp only [j9,h y rfl]
theorem gU {P:Program} {s s':S} {ty:TypeId} {op:Op} (hh:s.hp=s'.hp) (h:jn (wg op) s s'):cr P s ty op=cr P s' ty op:=by
 have ev:∀ x,x∈op.operands.toList->s.ev x=s'.ev x:=fun x hx=>iu fun t ht=>h t (e9 (by rw [<-ht];exact hx))
 have ob:∀ o,s.obj o=s'.obj o:=fun o=>by unfold S.obj;rw [hh]
 have vl:∀ v,s.val v=s'.val v:=fun v=>by unfold S.val;rw [hh]
 have vc:∀ v c,s.valc v c=s'.valc v c:=fun v c=>by unfold S.valc;rw [hh]
 have nw:∀ o v,s.new o v=s'.new o v:=fun o v=>by unfold S.new;rw [hh]
 have sl:∀ v a b,fK s v a b=fK s' v a b:=fun v a b=>by
  unfold fK
  simp only [vl,vc]
 have ap:∀ t a x,oC P s t a x=oC P s' t a x:=fun t a x=>by
  unfold oC
  simp only [vl,ob,hh]
 cases op with
 |move x=>simp only [cr,ev x (by simp [Op.operands]),vl]
 |assign x=>simp only [cr,ev x (by simp [Op.operands]),vl]
 |pick c x y=>simp only [cr,ev c (by simp [Op.operands]),ev x (by simp [Op.operands]),ev y (by simp [Op.operands]),vl]
 |alloc e=>simp only [cr,nw,hh]
 |box e x=>simp only [cr,ev x (by simp [Op.operands]),nw,hh]
 |build t ps=>
  have:=kM (s:=s) (s':=s') (l:=ps.toList) (fun p hp=>ev p.2 (by simp only [Op.operands,SU];exact⟨p,hp,rfl⟩))
  simp only [cr,this,vl]
 |buildSlice t n ps=>
  have:=kM (s:=s) (s':=s') (l:=ps.toList) (fun p hp=>ev p.2 (by simp only [Op.operands,SU];exact⟨p,hp,rfl⟩))
  simp only [cr,this,nw,hh]
 |load t x=>simp only [cr,ev x (by simp [Op.operands]),ob,vl]
 |store t x y=>simp only [cr,ev x (by simp [Op.operands]),ev y (by simp [Op.operands]),ob,hh]
 |nilCheck x=>simp only [cr,ev x (by simp [Op.operands]),vl]
 |binOp o t x y u=>simp only [cr,ev x (by simp [Op.operands]),ev y (by simp [Op.operands]),vc]
 |unOp o t x=>simp only [cr,ev x (by simp [Op.operands]),vl]
 |convert a b x=>simp only [cr,ev x (by simp [Op.operands]),vl,vc,ob,hh]
 |makeSlice t x y=>simp only [cr,ev x (by simp [Op.operands]),ev y (by simp [Op.operands]),hh]
 |slice t x lo hi mx=>
  cases mx with
  |none=>
   have h1:=ma (s:=s) (s':=s') (x:=lo) (fun y hy=>ev y (by subst hy;simp [Op.operands]))
   have h2:=ma (s:=s) (s':=s') (x:=hi) (fun y hy=>ev y (by subst hy;simp [Op.operands]))
   simp only [cr,ev x (by simp [Op.operands]),h1,h2,ob,sl]
  |some m=>rfl
 |fieldAddr t x f=>simp only [cr,ev x (by simp [Op.operands]),vl]
 |field t x f=>simp only [cr,ev x (by simp [Op.operands]),vl]
 |indexAddr t x i=>simp only [cr,ev x (by simp [Op.operands]),ev i (by simp [Op.operands]),ob,vc]
 |index t x i=>simp only [cr,ev x (by simp [Op.operands]),ev i (by simp [Op.operands]),vc]
 |extract x i=>simp only [cr,ev x (by simp [Op.operands]),vl]
 |makeFunc f first caps=>
  cases f with
  |func f=>
   have:=uy (s:=s) (s':=s') (l:=caps.toList) (fun x hx=>ev x (by simp [Op.operands];right;simpa using hx))
   simp only [cr,this,vl]
  |_=>rfl
 |call c=>
  obtain⟨callee,args,at_⟩:=c
  cases callee with
  |builtin b=>
   have hx:∀ x,x∈args.toList->s.ev x=s'.ev x:=fun x hx=>ev x (by simp [Op.operands,Call.operands];simpa using hx)
   cases b with
   |len=>
    simp only [cr]
    split
    ·rename_i x t ha ht
     simp only [hx x (by simp [ha]),vl]
    rfl
   |append=>
    simp only [cr]
    split
    ·rename_i x y t t' ha ht
     simp only [hx x (by simp [ha]),hx y (by simp [ha]),ap]
    rfl
   |min=>
    simp only [cr]
    split
    ·rename_i x y ha
     simp only [hx x (by simp [ha]),hx y (by simp [ha]),vl]
    rfl
   |max=>
    simp only [cr]
    split
    ·rename_i x y ha
     simp only [hx x (by simp [ha]),hx y (by simp [ha]),vl]
    rfl
   |_=>rfl
  |_=>rfl
 |_=>rfl
def Hp.ext (s h:Hp):Prop:=∀ (o:Nat) (ob:AObj),s[o]? =some (some ob)->h[o]? =some (some ob)
theorem ry {s:S} {h:Hp} (hx:Hp.ext s.hp h) {o:Nat} {ob:AObj} (ho:s.obj o=some ob):S.obj ⟨s.sl,h⟩ o=some ob:=by
 have:=hx o ob (dq ho)
 unfold S.obj
 rw [RP,this]
 rfl
theorem Hu (s:S) (h:Hp) (x:Operand):S.ev ⟨s.sl,h⟩ x=s.ev x:=by cases x<;>rfl
theorem Km (s:S) (h:Hp):∀ l,S.parts ⟨s.sl,h⟩ l=s.parts l:=fun l=>kM fun p _=>Hu s h p.2
theorem jX (s:S) (h:Hp) (x:Option Operand):j9 ⟨s.sl,h⟩ x=j9 s x:=ma fun y _=>Hu s h y
theorem nu {P:Program} {s:S} {ty:TypeId} {op:Op} {x:OpR} (hc:jJ P op=0) (h:cr P s ty op=some x):x.hp=s.hp/\∀ h',cr P ⟨s.sl,h'⟩ ty op=some ⟨x.v,h',x.c⟩:=by
 have e:=Hu s
 have ep:=Km s
 cases op with
 |move y|assign y=>
  simp only [cr,e] at h
  split at h
  ·rename_i v hv
   simp only [Option.some.injEq] at h
   subst h
   exact⟨rfl,fun h'=>by simp only [cr,e,ep,hv];rfl⟩
  cases h
 |pick c y z=>
  simp only [cr,e] at h
  split at h
  ·rename_i hv
   split at h
   ·rename_i v hv2
    simp only [Option.some.injEq] at h
    subst h
    exact⟨rfl,fun h'=>by simp only [cr,e,ep,hv,hv2];rfl⟩
   cases h
  ·rename_i hv
   split at h
   ·rename_i v hv2
    simp only [Option.some.injEq] at h
    subst h
    exact⟨rfl,fun h'=>by simp only [cr,e,ep,hv,hv2];rfl⟩
   cases h
  cases h
 |build t ps=>
  simp only [cr,ep] at h
  split at h
  ·rename_i z hz
   split at h
   ·rename_i l hl
    split at h
    ·rename_i cs hcs
     simp only [Option.some.injEq] at h
     subst h
     exact⟨rfl,fun h'=>by simp only [cr,e,ep,hz,hl,hcs];rfl⟩
    cases h
   cases h
  cases h
 |nilCheck y=>
  simp only [cr,e] at h
  split at h
  ·rename_i hv
   simp only [Option.some.injEq] at h
   subst h
   exact⟨rfl,fun h'=>by simp only [cr,e,ep,hv];rfl⟩
  ·rename_i hv
   simp only [Option.some.injEq] at h
   subst h
   exact⟨rfl,fun h'=>by simp only [cr,e,ep,hv];rfl⟩
  cases h
 |binOp o t y z u=>
  simp only [cr,e] at h
  split at h
  ·rename_i hy hz
   split at h
   ·rename_i q d hb
    simp only [Option.some.injEq] at h
    subst h
    exact⟨rfl,fun h'=>by simp only [cr,e,ep,hy,hz,hb];rfl⟩
   cases h
  ·rename_i hy hz
   split at h
   ·simp only [Option.some.injEq] at h
    subst h
    exact⟨rfl,fun h'=>by simp only [cr,e,ep,hy,hz];rfl⟩
   ·simp only [Option.some.injEq] at h
    subst h
    exact⟨rfl,fun h'=>by simp only [cr,e,ep,hy,hz];rfl⟩
   cases h
  cases h
 |unOp o t y=>
  simp only [cr,e] at h
  split at h
  ·rename_i hy
   split at h
   ·simp only [Option.some.injEq] at h
    subst h
    exact⟨rfl,fun h'=>by simp only [cr,e,ep,hy];rfl⟩
   cases h
  ·rename_i hy
   split at h
   ·simp only [Option.some.injEq] at h
    subst h
    exact⟨rfl,fun h'=>by simp only [cr,e,ep,hy];rfl⟩
   cases h
  cases h
 |convert a b y=>
  simp only [cr,e] at h
  split at h
  ·rename_i ht hy
   simp only [Option.some.injEq] at h
   subst h
   exact⟨rfl,fun h'=>by simp only [cr,e,ht,hy];rfl⟩
  ·rename_i ht hy
   simp only [Option.some.injEq] at h
   subst h
   exact⟨rfl,fun h'=>by simp only [cr,e,ht,hy];rfl⟩
  ·rename_i ht hy
   simp only [jJ,ht] at hc
   cases hc
  ·rename_i ht hy
   simp only [jJ,ht] at hc
   cases hc
  ·rename_i ht hy
   simp only [jJ,ht] at hc
   cases hc
  cases h
 |fieldAddr t y f=>
  simp only [cr,e] at h
  split at h
  ·rename_i hy hf
   simp only [Option.some.injEq] at h
   subst h
   exact⟨rfl,fun h'=>by simp only [cr,e,ep,hy,hf];rfl⟩
  cases h
 |index t y i=>
  simp only [cr,e] at h
  split at h
  ·rename_i hy hi
   split at h
   ·rename_i ht
    simp only [Option.some.injEq] at h
    subst h
    exact⟨rfl,fun h'=>by simp only [cr,e,ep,hy,hi,ht];rfl⟩
   cases h
  cases h
 |extract y i=>
  simp only [cr,e] at h
  split at h
  ·rename_i hy
   split at h
   ·rename_i hl
    simp only [Option.some.injEq] at h
    subst h
    exact⟨rfl,fun h'=>by simp only [cr,e,ep,hy,hl];rfl⟩
   cases h
  cases h
 |call c=>
  obtain⟨callee,args,at_⟩:=c
  cases callee with
  |builtin b=>
   cases b with
   |len=>
    simp only [cr,e] at h
    split at h
    ·rename_i y t ha ht
     split at h
     ·rename_i hy
      split at h
      ·rename_i hs
       simp only [Option.some.injEq] at h
       subst h
       exact⟨rfl,fun h'=>by simp only [cr,e,ep,ha,ht,hy,hs];rfl⟩
      cases h
     ·rename_i hy
      split at h
      ·rename_i hs
       simp only [Option.some.injEq] at h
       subst h
       exact⟨rfl,fun h'=>by simp only [cr,e,ep,ha,ht,hy,hs];rfl⟩
      cases h
     ·rename_i hy
      split at h
      ·rename_i hs
       simp only [Option.some.injEq] at h
       subst h
       exact⟨rfl,fun h'=>by simp only [cr,e,ep,ha,ht,hy,hs];rfl⟩
      cases h
     cases h
    cases h
   |min=>
    simp only [cr,e] at h
    split at h
    ·rename_i y z ha
     split at h
     ·rename_i hy hz
      simp only [Option.some.injEq] at h
      subst h
      exact⟨rfl,fun h'=>by simp only [cr,e,ep,ha,hy,hz];rfl⟩
     cases h
    cases h
   |max=>
    simp only [cr,e] at h
    split at h
    ·rename_i y z ha
     split at h
     ·rename_i hy hz
      simp only [Option.some.injEq] at h
      subst h
      exact⟨rfl,fun h'=>by simp only [cr,e,ep,ha,hy,hz];rfl⟩
     cases h
    cases h
   |_=>cases hc
  |_=>cases hc
 |_=>cases hc
theorem wi {P:Program} {s:S} {ty:TypeId} {op:Op} {x:OpR} (hc:jJ P op=1) (h:cr P s ty op=some x):x.hp=s.hp/\∀ h',Hp.ext s.hp h'->cr P ⟨s.sl,h'⟩ ty op=some ⟨x.v,h',x.c⟩:=by
 have e:=Hu s
 cases op with
 |load t y=>
  simp only [cr,e] at h
  split at h
  ·rename_i o k j hy
   split at h
   ·rename_i ob hob
    split at h
    ·rename_i c hk
     split at h
     ·rename_i n ht
      split at h
      ·rename_i hf
       simp only [Option.some.injEq] at h
       subst h
       exact⟨rfl,fun h' hx=>by simp only [cr,e,jX s,hy,ry hx hob,hk,ht,hf];rfl⟩
      cases h
     ·rename_i ht
      split at h
      ·rename_i z hz
       simp only [Option.some.injEq] at h
       subst h
       exact⟨rfl,fun h' hx=>by simp only [cr,e,jX s,hy,ry hx hob,hk,ht,hz];rfl⟩
      cases h
     cases h
    cases h
   cases h
  cases h
 |convert a b y=>
  simp only [cr,e] at h
  split at h
  ·rename_i ht hy
   simp only [jJ,ht] at hc
   cases hc
  ·rename_i ht hy
   simp only [jJ,ht] at hc
   cases hc
  ·rename_i ht hy
   simp only [jJ,ht] at hc
   cases hc
  ·rename_i ht hy
   split at h
   ·rename_i ob hob
    split at h
    ·rename_i hz
     simp only [Option.some.injEq] at h
     subst h
     exact⟨rfl,fun h' hx=>by simp only [cr,e,ht,hy,ry hx hob,hz,if_true];rfl⟩
    cases h
   cases h
  ·rename_i ht hy
   simp only [Option.some.injEq] at h
   subst h
   exact⟨rfl,fun h' hx=>by simp only [cr,e,ht,hy];rfl⟩
  cases h
 |indexAddr t y i=>
  simp only [cr,e] at h
  split at h
  ·rename_i hy hi ht
   split at h
   ·rename_i ob hob
    split at h
    ·rename_i hz
     simp only [Option.some.injEq] at h
     subst h
     exact⟨rfl,fun h' hx=>by simp only [cr,e,jX s,hy,hi,ht,ry hx hob,hz,if_true];rfl⟩
    cases h
   cases h
  cases h
 |slice t y lo hi mx=>
  cases mx with
  |some m=>cases h
  |none=>
   have eo:=jX s
   simp only [cr,e,eo] at h
   have sl:∀ {v:AV} {a b:Option Int} {q:OpR},fK s v a b=some q->q.hp=s.hp/\∀ h',fK ⟨s.sl,h'⟩ v a b=some ⟨q.v,h',q.c⟩:=by
    intro v a b q hq
    unfold fK at hq
    split at hq<;>first
     |(simp only [Option.some.injEq] at hq;subst hq;exact⟨rfl,fun h'=>rfl⟩)
     |cases hq
   split at h
   ·rename_i v a b hy ha hb
    split at h
    ·rename_i l
     split at h
     ·rename_i ht
      obtain⟨h1,h2⟩:=sl h
      exact⟨h1,fun h' hx=>by simp only [cr,e,jX s,hy,ha,hb,ht];exact h2 h'⟩
     cases h
    ·rename_i o off len
     split at h
     ·rename_i q sz ob ht hob
      split at h
      ·rename_i hz
       obtain⟨h1,h2⟩:=sl h
       exact⟨h1,fun h' hx=>by simp only [cr,e,jX s,hy,ha,hb,ht,ry hx hob,hz,if_true];exact h2 h'⟩
      cases h
     cases h
    cases h
   cases h
 |call c=>
  obtain⟨callee,args,at_⟩:=c
  cases callee with
  |builtin b=>cases b<;>cases hc
  |_=>cases hc
 |_=>cases hc
theorem C9 (h:Hp):Hp.ext h h:=fun _ _ h=>h
theorem iV (h k:Hp):Hp.ext h (h++k):=fun o ob ho=>by
 rw [R4 (RX.1 ho).1];exact ho
theorem Hv {P:Program} {s:S} {ty:TypeId} {op:Op} {x:OpR} (h:cr P s ty op=some x) (hc:jJ P op≠4):Hp.ext s.hp x.hp:=by
 by_cases h0:jJ P op=0
 ·rw [(nu h0 h).1];exact C9 _
 by_cases h1:jJ P op=1
 ·rw [(wi h1 h).1];exact C9 _
 cases op with
 |alloc e=>
  simp only [cr] at h
  split at h
  ·simp only [Option.some.injEq] at h;subst h;exact iV _ _
  cases h
 |box e y=>
  simp only [cr] at h
  split at h
  ·split at h
   ·simp only [Option.some.injEq] at h;subst h;exact iV _ _
   cases h
  cases h
 |buildSlice t n ps=>
  simp only [cr] at h
  split at h
  ·split at h
   ·split at h
    ·split at h
     ·split at h
      ·simp only [Option.some.injEq] at h;subst h;exact iV _ _
      cases h
     cases h
    cases h
   cases h
  cases h
 |makeSlice t y z=>
  simp only [cr] at h
  split at h
  ·split at h
   ·split at h
    ·simp only [Option.some.injEq] at h;subst h;exact iV _ _
    cases h
   cases h
  cases h
 |convert a b y=>
  simp only [cr] at h
  split at h
  ·rename_i ht hy
   simp only [jJ,ht] at h0
   exact absurd trivial h0
  ·rename_i ht hy
   simp only [jJ,ht] at h0
   exact absurd trivial h0
  ·simp only [Option.some.injEq] at h;subst h;exact iV _ _
  ·rename_i ht hy
   simp only [jJ,ht] at h1
   exact absurd trivial h1
  ·rename_i ht hy
   simp only [jJ,ht] at h1
   exact absurd trivial h1
  cases h
 |call c=>
  obtain⟨callee,args,at_⟩:=c
  cases callee with
  |value f=>simp only [cr] at h;cases h
  |builtin b=>cases b<;>first|exact absurd rfl h0|exact absurd rfl hc
  |invoke a b=>exact absurd rfl hc
 |move _=>exact absurd rfl h0
 |assign _=>exact absurd rfl h0
 |pick _ _ _=>exact absurd rfl h0
 |build _ _=>exact absurd rfl h0
 |nilCheck _=>exact absurd rfl h0
 |binOp _ _ _ _ _=>exact absurd rfl h0
 |unOp _ _ _=>exact absurd rfl h0
 |fieldAddr _ _ _=>exact absurd rfl h0
 |index _ _ _=>exact absurd rfl h0
 |extract _ _=>exact absurd rfl h0
 |load _ _=>exact absurd rfl h1
 |indexAddr _ _ _=>exact absurd rfl h1
 |slice _ _ _ _ _=>exact absurd rfl h1
 |_=>exact absurd rfl hc
def Re (P:Program) (o:Oper) (s s':S):Prop:=
 (∃ x,cr P s o.type o.op=some x/\x.c/\s'=s.put o.dst x.v x.hp)\/
 (∃ (y:Operand) (args:Array Operand) (at_:Array TypeId) (f:Nat) (caps:List Sc) (avs:List AV) (res:AV) (h':Hp),o.op=.call ⟨.value y,args,at_⟩/\s.ev y=some (.cl f caps)/\s.evs args.toList=some avs/\
  fL P f (avs++nh caps) s.hp res h'/\Hp.ext s.hp h'/\s'=s.put o.dst (some res) h')
def dF (P:Program) (r:Array Oper) (i:Nat) (s s':S):Prop:=
 match r[i]? with
 |none=>s'=s
 |some o=>match fC r s o with
  |some true=>Re P o s s'
  |some false=>s'=s.put o.dst (some (.tu [])) s.hp
  |none=>False
def BB (P:Program) (r:Array Oper):List Nat->S->S->Prop
 |[],s,s'=>s'=s
 |i::l,s,s''=>∃ s',dF P r i s s'/\BB P r l s' s''
theorem cG {r:Array Oper} {s s':S} {o:Oper} (h:jn (gc r o) s s'):fC r s o=fC r s' o:=by
 unfold fC
 split
 ·rfl
 rename_i j want hg
 split
 ·rename_i oj hj
  split
  ·rename_i d hd
   have:=h d (by unfold gc;rw [hg];simp [hj,hd])
   rw [this]
  rfl
 rfl
theorem ey {r:Array Oper} {s s':S} {o:Oper} (h:jn (gc r o) s s'):jn (wg o.op) s s':=fun t ht=>h t (by unfold gc;exact List.mem_append_left _ ht)
theorem vz (s:S) {a b:Option Tmp} (v u:Option AV) (h h':Hp) (hne:C8 a b=true):(s.put a v h).put b u h'=(s.put b u h').put a v h':=by
 cases a with
 |none=>cases b<;>rfl
 |some a=>cases b with
  |none=>rfl
  |some b=>
   have:a≠b:=by simpa [C8] using hne
   simp only [S.put,Slots.put_comm s.sl a b v u this]
theorem jF (s:S) (d:Option Tmp) (v:Option AV) (h:Hp):(s.put d v h).hp=h:=by cases d<;>rfl
theorem swap {P:Program} {r:Array Oper} {i j:Nat} {oi oj:Oper} (hi:r[i]? =some oi) (hj:r[j]? =some oj) (hind:wh P r oi oj=true) {s s1 s2:S} (h1:dF P r i s s1) (h2:dF P r j s1 s2):
  ∃ s1',dF P r j s s1'/\dF P r i s1' s2:=by
 simp only [wh,RQ,RW,beq_iff_eq,bne_iff_ne] at hind
 obtain⟨⟨⟨hne,hij⟩,hji⟩,hcls⟩:=hind
 have hci:pu P oi=0\/pu P oi=1:=by rcases hcls with h|h;exact .inl h.1;exact .inr h.1
 unfold dF at h1 h2
 rw [hi] at h1
 rw [hj] at h2
 dsimp only at h1 h2
 have key:∃ v,s1=s.put oi.dst v s.hp/\∀ (t:S),jn (gc r oi) s t->(pu P oi=0\/Hp.ext s.hp t.hp)->dF P r i t (t.put oi.dst v t.hp):=by
  split at h1
  ·rename_i hg
   rcases h1 with⟨x,hx,hc,rfl⟩|⟨y,args,at_,f,caps,avs,res,h',ho,_⟩
   ·have hx2:x.hp=s.hp/\∀ t:S,jn (gc r oi) s t->(pu P oi=0\/Hp.ext s.hp t.hp)->cr P t oi.type oi.op=some ⟨x.v,t.hp,x.c⟩:=by
     have eqv:∀ t:S,jn (gc r oi) s t->cr P t oi.type oi.op=cr P ⟨s.sl,t.hp⟩ oi.type oi.op:=fun t ha=>(gU (s:=⟨s.sl,t.hp⟩) (s':=t) rfl (fun q hq=>ey ha q hq)).symm
     rcases hci with h0|h0
     ·obtain⟨e1,e2⟩:=nu h0 hx
      exact⟨e1,fun t ha _=>by rw [eqv t ha];exact e2 t.hp⟩
     obtain⟨e1,e2⟩:=wi h0 hx
     exact⟨e1,fun t ha he=>by rw [eqv t ha];exact e2 t.hp (he.resolve_left (by rw [h0];simp))⟩
    refine⟨x.v,by rw [hx2.1],fun t ha he=>?_⟩
    unfold dF
    rw [hi]
    dsimp only
    rw [<-cG ha,hg]
    exact .inl ⟨_,hx2.2 t ha he,hc,rfl⟩
   exfalso
   have:pu P oi=3:=by unfold pu;rw [ho];rfl
   omega
  ·rename_i hg
   refine⟨some (.tu []),h1,fun t ha _=>?_⟩
   unfold dF
   rw [hi]
   dsimp only
   rw [<-cG ha,hg]
  exact h1.elim
 obtain⟨v,rfl,hstep⟩:=key
 have hal:jn (gc r oj) s (s.put oi.dst v s.hp):=gT hij
 have hhp:(s.put oi.dst v s.hp).hp=s.hp:=jF _ _ _ _
 rw [<-cG hal] at h2
 have fin:∀ (u:Option AV) (h':Hp),s2=(s.put oi.dst v s.hp).put oj.dst u h'->(pu P oi=0\/Hp.ext s.hp h')->dF P r j s (s.put oj.dst u h')->∃ s1',dF P r j s s1'/\dF P r i s1' s2:=by
  intro u h' he hx hj'
  refine⟨s.put oj.dst u h',hj',?_⟩
  have h3:=hstep (s.put oj.dst u h') (gT hji) (by rw [jF];exact hx)
  rw [jF] at h3
  rw [he,vz s v u s.hp h' hne]
  exact h3
 split at h2
 ·rename_i hg
  rcases h2 with⟨x,hx,hc,rfl⟩|⟨y,args,at_,f,caps,avs,res,h',ho,hy,ha,hcall,hext,rfl⟩
  ·have hx':cr P s oj.type oj.op=some x:=by rw [gU (s:=s) (s':=s.put oi.dst v s.hp) hhp.symm (ey hal)];exact hx
   refine fin x.v x.hp rfl ?_ ?_
   ·rcases hcls with h0|h0
    ·exact .inl h0.1
    right
    have h4:pu P oj≠4:=h0.2
    exact Hv hx' h4
   unfold dF
   rw [hj]
   dsimp only
   rw [hg]
   exact .inl ⟨x,hx',hc,rfl⟩
  have hal':=ey hal
  rw [ho] at hal'
  have e1:s.ev y=some (.cl f caps):=by
   rw [iu (s:=s) (s':=s.put oi.dst v s.hp) (x:=y) (fun t ht=>hal' t (e9 (by subst ht;simp [Op.operands,Call.operands])))]
   exact hy
  have e2:s.evs args.toList=some avs:=by
   rw [lz (s:=s) (s':=s.put oi.dst v s.hp) (l:=args.toList) (fun z hz=>iu fun t ht=>hal' t (e9 (by subst ht;simp [Op.operands,Call.operands];right;simpa using hz)))]
   exact ha
  rw [hhp] at hcall hext
  refine fin (some res) h' rfl (.inr hext) ?_
  unfold dF
  rw [hj]
  dsimp only
  rw [hg]
  exact .inr ⟨y,args,at_,f,caps,avs,res,h',ho,e1,e2,hcall,hext,rfl⟩
 ·rename_i hg
  refine fin (some (.tu [])) s.hp (by rw [h2,hhp]) (.inr fun o ob h=>h) ?_
  unfold dF
  rw [hj]
  dsimp only
  rw [hg]
 exact h2.elim
def kZ (P:Program) (r:Array Oper) (i j:Oper):Bool:=
 C8 i.dst j.dst && ux i.dst (gc r j) && ux j.dst (gc r i) && pu P j == 0
theorem PG {P:Program} {r:Array Oper} {i j:Nat} {oi oj:Oper} (hi:r[i]? =some oi) (hj:r[j]? =some oj) (hind:kZ P r oi oj=true) {s s1 s2:S} (h1:dF P r i s s1) (h2:dF P r j s1 s2):
  ∃ s1',dF P r j s s1'/\dF P r i s1' s2:=by
 simp only [kZ,RQ,beq_iff_eq] at hind
 obtain⟨⟨⟨hne,hij⟩,hji⟩,hcj⟩:=hind
 unfold dF at h1 h2
 rw [hi] at h1
 rw [hj] at h2
 dsimp only at h1 h2
 have key:∃ v hp,s1=s.put oi.dst v hp/\∀ (t:S),jn (gc r oi) s t->t.hp=s.hp->dF P r i t (t.put oi.dst v hp):=by
  split at h1
  ·rename_i hg
   rcases h1 with⟨x,hx,hc,rfl⟩|⟨y,args,at_,f,caps,avs,res,h',ho,hy,ha,hcall,hext,rfl⟩
   ·refine⟨x.v,x.hp,rfl,fun t ha he=>?_⟩
    unfold dF
    rw [hi]
    dsimp only
    rw [<-cG ha,hg]
    exact .inl ⟨x,by rw [<-gU he.symm (ey ha)];exact hx,hc,rfl⟩
   refine⟨some res,h',rfl,fun t hal he=>?_⟩
   unfold dF
   rw [hi]
   dsimp only
   rw [<-cG hal,hg]
   have hal':=ey hal
   rw [ho] at hal'
   have e1:t.ev y=some (.cl f caps):=by
    rw [<-iu (s:=s) (s':=t) (x:=y) (fun q hq=>hal' q (e9 (by subst hq;simp [Op.operands,Call.operands])))]
    exact hy
   have e2:t.evs args.toList=some avs:=by
    rw [<-lz (s:=s) (s':=t) (l:=args.toList) (fun z hz=>iu fun q hq=>hal' q (e9 (by subst hq;simp [Op.operands,Call.operands];right;simpa using hz)))]
    exact ha
   exact .inr ⟨y,args,at_,f,caps,avs,res,h',ho,e1,e2,by rw [he];exact hcall,by rw [he];exact hext,rfl⟩
  ·rename_i hg
   refine⟨some (.tu []),s.hp,h1,fun t ha he=>?_⟩
   unfold dF
   rw [hi]
   dsimp only
   rw [<-cG ha,hg]
   dsimp only
   rw [he]
  exact h1.elim
 obtain⟨v,hp,rfl,hstep⟩:=key
 have hal:jn (gc r oj) s (s.put oi.dst v hp):=gT hij
 rw [<-cG hal] at h2
 have fin:∀ (u:Option AV),s2=(s.put oi.dst v hp).put oj.dst u hp->dF P r j s (s.put oj.dst u s.hp)->∃ s1',dF P r j s s1'/\dF P r i s1' s2:=by
  intro u he hj'
  refine⟨s.put oj.dst u s.hp,hj',?_⟩
  have h3:=hstep (s.put oj.dst u s.hp) (gT hji) (jF _ _ _ _)
  rw [he,vz s v u hp hp hne]
  have e:∀ (a b:S) (d:Option Tmp) (x:Option AV) (h:Hp),a.sl=b.sl->a.put d x h=b.put d x h:=by
   intro a b d x h hab
   cases d<;>simp [S.put,hab]
  rw [e (s.put oj.dst u hp) (s.put oj.dst u s.hp) oi.dst v hp (by cases oj.dst<;>rfl)]
  exact h3
 split at h2
 ·rename_i hg
  rcases h2 with⟨x,hx,hc,rfl⟩|⟨y,args,at_,f,caps,avs,res,h',ho,_⟩
  ·have hx1:cr P ⟨s.sl,hp⟩ oj.type oj.op=some x:=by
    rw [gU (s:=⟨s.sl,hp⟩) (s':=s.put oi.dst v hp) (by rw [jF]) (fun q hq=>ey hal q hq)]
    exact hx
   obtain⟨e1,e2⟩:=nu hcj hx1
   have e3:=e2 s.hp
   refine fin x.v (by rw [e1]) ?_
   unfold dF
   rw [hj]
   dsimp only
   rw [hg]
   exact .inl ⟨_,e3,hc,rfl⟩
  exfalso
  have:pu P oj=3:=by unfold pu;rw [ho];rfl
  omega
 ·rename_i hg
  refine fin (some (.tu [])) (by rw [h2,jF]) ?_
  unfold dF
  rw [hj]
  dsimp only
  rw [hg]
 exact h2.elim
theorem Kn {P:Program} {E:Entry} {r:Array Oper} {i:Nat} {s s1:S} {β:Be} {a:Act} {w:World} {Q:Exit->Act->World->Prop} {K:Act->World->Prop} (h:dF P r i s s1) (hs:Sim E β s a w) (hK:∀ β' a' w',Sim E β' s1 a' w'->K a' w'):wpOp P r Q i K a w:=by
 unfold wpOp
 unfold dF at h
 split at h
 ·rename_i hi
  subst h
  rw [hi]
  exact hK β a w hs
 rename_i o ho
 rw [ho]
 dsimp only
 split at h
 ·rename_i hg
  rw [if_pos (l9 hs.sl hg)]
  refine .inl ?_
  unfold Oper.wp
  rcases h with⟨x,hx,hc,rfl⟩|⟨y,args,at_,f,caps,avs,res,h',hop,hy,ha,⟨⟨fn,hfn,hname,hbody⟩,hcall⟩,_,rfl⟩
  ·obtain⟨β',w',hst,hh,hx'⟩:=tc hs.hp hs.sl hx hc
   rcases hx' with⟨v,av,hrun,hv,hr⟩|⟨hrun,hv⟩
   ·rw [hrun]
    rw [hv] at hK
    exact hK β' _ w' (jO hs hst hh o.dst hr)
   rw [hrun]
   rw [hv] at hK
   exact hK β' _ w' (ni hs hst hh o.dst undef)
  obtain⟨cvs,hxe,hcl⟩:gm β (.cl f caps) (a.eval y):=dN hs.sl hy
  have hav:=Hj hs.sl ha
  have hvs:L2 (gm β) (avs++nh caps) (args.toList.map a.eval++cvs):=hav.append (vv hcl)
  have hrun:(execOp a.eval o).run P w=.ok (.enter f (args.toList.map a.eval++cvs).toArray) w:=by
   unfold execOp
   rw [hop]
   have e1:args.map a.eval=(args.toList.map a.eval).toArray:=by apply Array.ext';simp
   have hname':¬ fn.name= "runtime.NumGoroutine":=by simpa using hname
   simp only [resolve,hxe,Deferred.ofValue,invoke,callFunc,Sh,run_program,Sy,Sg,hfn,e1]
   simp [hname',hbody]
  rw [hrun,Oper.upon_enter]
  refine (hcall β w _ hs.hp hvs).mono fun e w' ⟨β',v,he,hr,hh,hst⟩=>?_
  subst he
  exact hK β' _ w' (jO hs hst hh o.dst hr)
 ·rename_i hg
  rw [l9 hs.sl hg]
  subst h
  exact hK β _ w (jO hs (StepR.refl β s.hp w hs.hp.len) hs.hp o.dst ⟨[],rfl,trivial⟩)
 exact h.elim
def Ko (T:List Nat) (o:Oper):Nat:=o.after.toList.foldl (fun m e=>if Region.binds .any e then m |||(1 <<< e.on) |||T.getD e.on 0 else m) 0
def yU:List Oper->List Nat->List Nat
 |[],T=>T
 |o::l,T=>yU l (T++[Ko T o])
def Hw (r:Array Oper):List Nat:=yU r.toList []
def rz (r:Array Oper):Bool:=(List.range r.size).all fun i=>match r[i]? with
 |some o=>o.after.toList.all fun e=> !Region.binds .any e || decide (e.on < i)
 |none=>true
theorem C_ (T:List Nat) (p:Nat):∀ (l:List Edge) (m:Nat),(l.foldl (fun m e=>if Region.binds .any e then m |||(1 <<< e.on) |||T.getD e.on 0 else m) m).testBit p=true↔
  m.testBit p=true\/∃ e∈l,Region.binds .any e=true/\(e.on=p\/(T.getD e.on 0).testBit p=true)
 |[],m=>by simp
 |e::l,m=>by
  rw [List.foldl_cons,C_ T p l]
  cases hb:Region.binds .any e
  ·simp [hb]
  simp only [if_true,Nat.testBit_or,RW,Nat.one_shiftLeft,Nat.testBit_two_pow,decide_eq_true_eq,RY,exists_eq_or_imp,hb,true_and]
  constructor
  ·rintro (((h|h)|h)|h)
   ·exact .inl h
   ·exact .inr (.inl (.inl h))
   ·exact .inr (.inl (.inr h))
   exact .inr (.inr h)
  rintro (h|(h|h)|h)
  ·exact .inl (.inl (.inl h))
  ·exact .inl (.inl (.inr h))
  ·exact .inl (.inr h)
  exact .inr h
theorem wj:∀ (l:List Oper) (T:List Nat) (i:Nat),i < T.length->(yU l T)[i]? =T[i]?
 |[],T,i,_=>rfl
 |o::l,T,i,h=>by
  rw [yU,wj l _ i zS,R4 h]
theorem Da:∀ (l:List Oper) (T:List Nat) (j:Nat) (o:Oper),l[j]? =some o->∃ T',(yU l T)[T.length+j]? =some (Ko T' o)/\T'.length=T.length+j/\∀ k,k < T.length+j->T'[k]? =(yU l T)[k]?
 |[],T,j,o,h=>by simp at h
 |o'::l,T,0,o,h=>by
  simp at h
  subst h
  refine⟨T,?_,zP,fun k hk=>?_⟩
  ·rw [yU,wj l _ _ zP]
   simp
  rw [yU,wj l _ _ zS,R4 zO]
 |o'::l,T,j+1,o,h=>by
  obtain⟨T',h1,h2,h3⟩:=Da l (T++[Ko T o']) j o (by simpa using h)
  simp only [Sd,Sm,SF] at h1 h2 h3
  refine⟨T',?_,zO,fun k hk=>?_⟩
  ·rw [yU,show T.length+(j+1)=T.length+(0+1)+j from by omega];exact h1
  rw [yU];exact h3 k zO
theorem wk {r:Array Oper} {i:Nat} {o:Oper} (ho:r[i]? =some o) (p:Nat):((Hw r).getD i 0).testBit p=true↔∃ e∈o.after.toList,Region.binds .any e=true/\(e.on=p\/(e.on < i/\((Hw r).getD e.on 0).testBit p=true)):=by
 obtain⟨T',h1,h2,h3⟩:=Da r.toList [] i o (by simpa using ho)
 simp only [SF,Sj] at h1 h2 h3
 have e1:(Hw r).getD i 0=Ko T' o:=by unfold Hw;rw [RP,h1];rfl
 rw [e1]
 unfold Ko
 rw [C_]
 simp only [Nat.zero_testBit,Bool.false_eq_true,false_or]
 constructor
 ·rintro⟨e,he,hb,h⟩
  refine⟨e,he,hb,h.imp id fun h=>?_⟩
  rcases R5 e.on i with hlt|hge
  ·refine⟨hlt,?_⟩
   rw [RP,h3 _ hlt] at h
   rw [RP]
   exact h
  rw [RP,Si zO] at h
  simp at h
 rintro⟨e,he,hb,h⟩
 refine⟨e,he,hb,h.imp id fun⟨hlt,h⟩=>?_⟩
 rw [RP,h3 _ hlt]
 rw [RP] at h
 exact h
def FB (r:Array Oper) (listed:Array Bool):Prop:=∀ (i:Nat) (o:Oper),r[i]? =some o->listed.getD i false=true->∀ e∈o.after.toList,Region.binds .any e=true->listed.getD e.on false=true
theorem wl {r:Array Oper} {listed:Array Bool} (hc:FB r listed):∀ (i:Nat) (o:Oper),r[i]? =some o->(∀ e∈o.after.toList,Region.binds .any e=true->listed.getD e.on false=true)->∀ p,((Hw r).getD i 0).testBit p=true->listed.getD p false=true:=by
 intro i
 induction i using Nat.strongRecOn with
 |_ i ih=>
  intro o ho ha p hp
  obtain⟨e,he,hb,h⟩:=(wk ho p).1 hp
  rcases h with rfl|⟨hlt,h⟩
  ·exact ha e he hb
  have hl:=ha e he hb
  cases hr:r[e.on]? with
  |none=>
   exfalso
   have hn:(Hw r)[e.on]? =none:=by
    rw [Array.getElem?_eq_none_iff] at hr
    have hlt2:=(R2.1 ho).1
    omega
   rw [RP,hn] at h
   simp at h
  |some oj=>exact ih e.on hlt oj hr (hc e.on oj hr hl) p h
def co:List Nat->Nat->Nat->Bool
 |[],p,q=>decide (p < q)
 |i::l,p,q=>if i=p then true else if i=q then false else co l p q
theorem mb {p q:Nat} (hne:p≠q):∀ {l:List Nat},co l p q=true\/co l q p=true
 |[]=>by simp only [co,decide_eq_true_eq];omega
 |i::l=>by
  simp only [co]
  by_cases h1:i=p
  ·exact .inl (by rw [if_pos h1])
  by_cases h2:i=q
  ·exact .inr (by rw [if_pos h2])
  rw [if_neg h1,if_neg h2,if_neg h2,if_neg h1]
  exact mb hne
def OR (P:Program) (r:Array Oper) (T:List Nat) (ex:List (Nat×Nat)) (p q:Nat):Bool:=
 p != q && !(T.getD p 0).testBit q &&
 ((T.getD q 0).testBit p || ex.contains (p,q) || match r[p]?,r[q]? with
  |some x,some y=>wh P r x y || kZ P r x y
  |_,_=>false)
def Ff (P:Program) (r:Array Oper) (T:List Nat) (ex:List (Nat×Nat)):List Nat->Bool
 |[]=>true
 |p::l=>l.all (OR P r T ex p) && Ff P r T ex l
theorem Db {P:Program} {r:Array Oper} {T:List Nat} {ex:List (Nat×Nat)} {i:Nat}:∀ {l m:List Nat},Ff P r T ex (l++i::m)=true->Ff P r T ex (l++m)=true
 |[],m,h=>by simp only [SD,Ff,RQ] at h⊢;exact h.2
 |p::l,m,h=>by
  simp only [Sl,Ff,RQ,RS] at h⊢
  refine⟨fun q hq=>h.1 q ?_,Db h.2⟩
  simp only [R6,RY] at hq⊢
  exact hq.imp id .inr
theorem Kp {P:Program} {r:Array Oper} {T:List Nat} {ex:List (Nat×Nat)} {i p:Nat}:∀ {l m:List Nat},Ff P r T ex (l++i::m)=true->p∈l->OR P r T ex p i=true
 |[],m,_,h=>by simp at h
 |q::l,m,h,hp=>by
  simp only [Sl,Ff,RQ,RS] at h
  rcases RY.1 hp with rfl|hp
  ·exact h.1 i zP
  exact Kp h.2 hp
theorem Dc {P:Program} {r:Array Oper} {T:List Nat} {ex:List (Nat×Nat)} {i p:Nat} {l:List Nat} (h:Ff P r T ex (i::l)=true) (hp:p∈l):OR P r T ex i p=true:=by
 simp only [Ff,RQ,RS] at h
 exact h.1 p hp
theorem z7 {P:Program} {r:Array Oper} {T:List Nat} {ex:List (Nat×Nat)}:∀ {l:List Nat},Ff P r T ex l=true->l.Nodup
 |[],_=>SQ
 |p::l,h=>by
  refine Se.2 ⟨fun hp=>?_,z7 (by simp only [Ff,RQ] at h;exact h.2)⟩
  have:=Dc h hp
  simp [OR] at this
theorem z8 {P:Program} {r:Array Oper} {i:Nat}:∀ {l m:List Nat} {s s':S},(∀ p∈l,∃ x y,r[p]? =some x/\r[i]? =some y/\(wh P r x y || kZ P r x y)=true)->BB P r (l++i::m) s s'->BB P r (i::(l++m)) s s'
 |[],m,s,s',_,h=>h
 |p::l,m,s,s',hl,h=>by
  obtain⟨s1,h1,h2⟩:=h
  obtain⟨s2,h3,h4⟩:=z8 (fun q hq=>hl q (R_ _ hq)) h2
  obtain⟨x,y,hx,hy,hind⟩:=hl p zP
  rcases (RW _ _).mp hind with hind|hind
  ·obtain⟨s1',h5,h6⟩:=swap hx hy hind h1 h3
   exact⟨s1',h5,s2,h6,h4⟩
  obtain⟨s1',h5,h6⟩:=PG hx hy hind h1 h3
  exact⟨s1',h5,s2,h6,h4⟩
def uz (r:Array Oper):Nat->Array Bool->List Nat->Prop
 |fuel,listed,[]=>fuel=0\/Region.ready .any r listed=[]
 |0,_,_::_=>False
 |fuel+1,listed,i::τ=>i∈Region.ready .any r listed/\uz r fuel (listed.setIfInBounds i true) τ
theorem nv {r:Array Oper}:∀ (fuel t:Nat) (listed:Array Bool),uz r fuel listed (Region.linearise.go .any r fuel t listed [])
 |0,t,listed=>by simp [Region.linearise.go,uz]
 |fuel+1,t,listed=>by
  simp only [Region.linearise.go]
  change uz r (fuel+1) listed (match (Region.ready .any r listed)[t % (Region.ready .any r listed).length]? with
   |some i=>Region.linearise.go .any r fuel (t / (Region.ready .any r listed).length) (listed.setIfInBounds i true) [i]
   |none=>[].reverse)
  cases hi:(Region.ready .any r listed)[t % (Region.ready .any r listed).length]? with
  |none=>
   have hnil:Region.ready .any r listed=[]:=by
    cases hr:Region.ready .any r listed with
    |nil=>rfl
    |cons x xs=>
     rw [hr] at hi
     have hlt:t % (x::xs).length < (x::xs).length:=Nat.mod_lt _ zP
     simp at hi
     simp at hlt
     omega
   exact .inr hnil
  |some i=>
   simp only []
   rw [linearise_go_acc,List.reverse_singleton,List.singleton_append]
   exact⟨R3 hi,nv fuel _ _⟩
theorem lC {r:Array Oper} {listed:Array Bool} {i:Nat}:i∈Region.ready .any r listed↔∃ o,r[i]? =some o/\listed.getD i true=false/\∀ e∈o.after.toList,Region.binds .any e=true->listed.getD e.on false=true:=by
 unfold Region.ready
 simp only [List.mem_filter,Sk,RQ,R8]
 constructor
 ·rintro⟨hlt,h1,h2⟩
  refine⟨r[i],RU hlt,h1,fun e he hb=>?_⟩
  rw [RU hlt] at h2
  simp only [R7,RT,Su,RW,R8] at h2
  rcases h2 e (by simpa using he) with h|h
  ·rw [hb] at h;cases h
  exact h
 rintro⟨o,ho,h1,h2⟩
 refine⟨(R2.1 ho).1,h1,?_⟩
 rw [ho]
 simp only [R7,RT,Su,RW,R8]
 intro e he
 cases hb:Region.binds .any e with
 |false=>exact .inl rfl
 |true=>exact .inr (h2 e (by simpa using he) hb)
theorem wm {l:Array Bool} {i j:Nat} {d:Bool} (hi:i < l.size):(l.setIfInBounds i true).getD j d=if i=j then true else l.getD j d:=by
 simp only [RR,Array.getElem?_setIfInBounds]
 by_cases h:i=j
 ·subst h;simp [hi]
 simp [h]
theorem vA {r:Array Oper} (h:rz r=true) {i:Nat} {o:Oper} (ho:r[i]? =some o) {e:Edge} (he:e∈o.after.toList) (hb:Region.binds .any e=true):e.on < i:=by
 unfold rz at h
 rw [RS] at h
 have:=h i (Sk.2 (R2.1 ho).1)
 rw [ho] at this
 have:=(RS.1 this) e he
 rw [hb] at this
 simpa using this
theorem z9 {r:Array Oper} {fuel:Nat} {listed:Array Bool} (h:uz r fuel listed []):fuel=0\/Region.ready .any r listed=[]:=by
 cases fuel<;>exact h
theorem mc {P:Program} {E:Entry} {r:Array Oper} {Q:Exit->Act->World->Prop} {ex:List (Nat×Nat)} {s':S} (hback:rz r=true) (hQ:∀ β' a' w',Sim E β' s' a' w'->Q .normal a' w'):
  ∀ (τ:List Nat) (fuel:Nat) (listed:Array Bool) (σ:List Nat) (s:S) (β:Be) (a:Act) (w:World),uz r fuel listed τ->listed.size=r.size->σ.length<=fuel->(∀ i,i∈σ↔i < r.size/\listed.getD i true=false)->FB r listed->
   Ff P r (Hw r) ex σ=true->(∀ p q,ex.contains (p,q)=true->p∈σ->q∈σ->co τ p q=true)->BB P r σ s s'->Sim E β s a w->wpOps P r Q τ a w
 |[],fuel,listed,σ,s,β,a,w,hd,hsz,hf,hm,hc,hok,hx,hrun,hs=>by
  have hnil:σ=[]:=by
   rcases z9 hd with rfl|hd
   ·exact SC.1 zO
   cases σ with
   |nil=>rfl
   |cons p l=>
    exfalso
    have hp:=(hm p).1 zP
    have:p∈Region.ready .any r listed:=by
     refine lC.2 ⟨r[p],RU hp.1,hp.2,fun e he hb=>?_⟩
     have hbit:((Hw r).getD p 0).testBit e.on=true:=(wk (RU hp.1) e.on).2 ⟨e,he,hb,.inl rfl⟩
     have hlt0:=vA hback (RU hp.1) he hb
     have hlt:e.on < r.size:=SV hlt0 hp.1
     cases hl:listed.getD e.on false with
     |true=>rfl
     |false=>
      exfalso
      have hl':listed.getD e.on true=false:=by
       rw [RR,RU zO] at hl⊢
       exact hl
      have hmem:e.on∈p::l:=(hm e.on).2 ⟨hlt,hl'⟩
      rcases RY.1 hmem with hep|hmem
      ·omega
      have:=Dc hok hmem
      simp only [OR,RQ,R8] at this
      rw [this.1.2] at hbit
      cases hbit
    rw [hd] at this
    simp at this
  subst hnil
  have:s'=s:=hrun
  subst this
  exact hQ β a w hs
 |i::τ,0,listed,σ,s,β,a,w,hd,_,_,_,_,_,_,_,_=>hd.elim
 |i::τ,fuel+1,listed,σ,s,β,a,w,hd,hsz,hf,hm,hc,hok,hx,hrun,hs=>by
  obtain⟨hi,hd⟩:=hd
  obtain⟨o,ho,h1,h2⟩:=lC.1 hi
  have hil:i < r.size:=(R2.1 ho).1
  have hiσ:i∈σ:=(hm i).2 ⟨hil,h1⟩
  obtain⟨l,m,rfl⟩:=SJ hiσ
  have hnd:=z7 hok
  have hfront:∀ p∈l,∃ x y,r[p]? =some x/\r[i]? =some y/\(wh P r x y || kZ P r x y)=true:=by
   intro p hp
   have hpl:=(hm p).1 (by simp [hp])
   have h3:=Kp hok hp
   have hpi:p≠i:=by
    intro e
    subst e
    simp [OR] at h3
   simp only [OR,RQ,RW] at h3
   rcases h3.2 with (h4|h4)|h4
   ·exfalso
    have:=wl hc i o ho h2 p h4
    have h5:=hpl.2
    rw [RR,RU zO] at this h5
    simp only [RT] at this h5
    rw [this] at h5
    cases h5
   ·exfalso
    have:=hx p i h4 (by simp [hp]) zP
    simp [co,hpi,Ne.symm hpi] at this
   split at h4
   ·rename_i x y hx hy
    exact⟨x,y,hx,hy,h4⟩
   cases h4
  obtain⟨s1,h3,h4⟩:=z8 hfront hrun
  have hset:∀ (j:Nat) (d:Bool),(listed.setIfInBounds i true).getD j d=if i=j then true else listed.getD j d:=fun j d=>wm zO
  rw [wpOps_cons]
  refine Kn h3 hs fun β' a' w' hs'=>?_
  refine mc hback hQ τ fuel (listed.setIfInBounds i true) (l++m) s1 β' a' w' hd (by simpa using hsz) ?_ ?_ ?_ (Db hok) ?_ h4 hs'
  ·simp only [Sd,Sm] at hf⊢
   omega
  ·intro j
   have hj:=hm j
   rw [hset]
   have hd1:i ∉ l/\i ∉ m:=by
    rw [Ss] at hnd
    exact⟨fun h=>hnd.2.2 i h i zP rfl,(Se.1 hnd.2.1).1⟩
   simp only [R6,RY] at hj⊢
   by_cases hij:i=j
   ·subst hij
    simp [hd1.1,hd1.2]
   rw [if_neg hij,<-hj]
   simp [Ne.symm hij]
  ·intro j oj hj hl e he hb
   rw [hset] at hl⊢
   by_cases hij:i=j
   ·subst hij
    rw [hj] at ho
    cases ho
    split
    ·rfl
    exact h2 e he hb
   rw [if_neg hij] at hl
   split
   ·rfl
   exact hc j oj hj hl e he hb
  intro p q hpq hp hq
  have hd1:i ∉ l/\i ∉ m:=by
   rw [Ss] at hnd
   exact⟨fun h=>hnd.2.2 i h i zP rfl,(Se.1 hnd.2.1).1⟩
  have hne:∀ x∈l++m,i≠x:=by
   intro x hx e
   subst e
   exact (R6.1 hx).elim hd1.1 hd1.2
  have hin:∀ x∈l++m,x∈l++i::m:=by
   intro x hx
   simp only [R6,RY] at hx⊢
   exact hx.imp id .inr
  have:=hx p q hpq (hin p hp) (hin q hq)
  simpa [co,hne p hp,hne q hq] using this
def oF:List (Nat×Nat)->List (List (Nat×Nat))
 |[]=>[[]]
 |(a,b)::U=>(oF U).flatMap fun l=>[(a,b)::l,(b,a)::l]
theorem oG (τ:List Nat):∀ {U:List (Nat×Nat)},(∀ u∈U,u.1≠u.2)->∃ ex∈oF U,∀ p q,ex.contains (p,q)=true->co τ p q=true
 |[],_=>⟨[],by simp [oF],fun p q h=>by simp at h⟩
 |(a,b)::U,h=>by
  obtain⟨ex,h1,h2⟩:=oG τ (U:=U) fun u hu=>h u (by simp [hu])
  have hne:a≠b:=h (a,b) zP
  rcases mb hne (l:=τ) with h3|h3
  ·refine⟨(a,b)::ex,SP.2 ⟨ex,h1,zP⟩,fun p q hpq=>?_⟩
   simp only [SK,RW,beq_iff_eq,Prod.mk.injEq] at hpq
   rcases hpq with⟨rfl,rfl⟩|hpq
   ·exact h3
   exact h2 p q hpq
  refine⟨(b,a)::ex,SP.2 ⟨ex,h1,zP⟩,fun p q hpq=>?_⟩
  simp only [SK,RW,beq_iff_eq,Prod.mk.injEq] at hpq
  rcases hpq with⟨rfl,rfl⟩|hpq
  ·exact h3
  exact h2 p q hpq
def wn (P:Program) (r:Array Oper) (U:List (Nat×Nat)) (os:List (List Nat)):Bool:=
 rz r && U.all (fun u=>u.1 != u.2) && os.all (fun σ=>σ.length == r.size && (List.range r.size).all σ.contains && σ.all fun i=>decide (i < r.size)) &&
 (let T:=Hw r;(oF U).all fun ex=>os.any fun σ=>Ff P r T ex σ)
theorem Kq {P:Program} {E:Entry} {id:Nat} {r:Array Oper} {U:List (Nat×Nat)} {os:List (List Nat)} (hP:P.follows .mixedOrders=true) (hcov:wn P r U os=true) {s:S} {K:S->Prop}
  (h:∀ σ∈os,∃ s',BB P r σ s s'/\∀ β a w,Sim E β s' a w->∃ β' t,K t/\Sim E β' t a w):ur P E (.region id r true) s fun e s'=>e=.normal/\K s':=by
 intro β a w hs Q hQ
 refine wp_region_draw fun t=>?_
 simp only [Region.schedule,hP,Sz,if_true]
 simp only [wn,RQ] at hcov
 obtain⟨⟨⟨hback,hU⟩,hperm⟩,hch⟩:=hcov
 have hd:=nv (r:=r) r.size t (Array.replicate r.size false)
 obtain⟨ex,hex,hbef⟩:=oG (Region.linearise .any r t) (U:=U) fun u hu=>by
  have:=RS.1 hU u hu
  simpa using this
 obtain⟨σ,hσ,hok⟩:=R0.1 (RS.1 hch ex hex)
 have hp:=RS.1 hperm σ hσ
 simp only [RQ,beq_iff_eq,RS,Sk,decide_eq_true_eq] at hp
 obtain⟨⟨hlen,hall⟩,hlt⟩:=hp
 obtain⟨s',hrun,hK⟩:=h σ hσ
 have hs2:Sim E β s a { w with drawn:=w.drawn+1 }:=⟨hs.dfr,hs.sl,⟨hs.hp.len,hs.hp.ob,hs.hp.flat,hs.hp.apart⟩,hs.ent,⟨hs.st.le,hs.st.os,hs.st.tape,hs.st.output,hs.st.size,hs.st.block,hs.st.len,hs.st.old,hs.st.fresh⟩⟩
 refine mc hback (fun β' a' w' hs'=>let⟨β2,t2,hk2,hs2⟩:=hK β' a' w' hs';hQ .normal t2 β2 a' w' ⟨rfl,hk2⟩ hs2) (Region.linearise .any r t) r.size _ σ s β a _ hd zP zO (fun i=>?_) (fun i o ho hl=>?_) hok (fun p q hpq _ _=>hbef p q hpq) hrun hs2
 ·constructor
  ·intro hi
   refine⟨hlt i hi,?_⟩
   simp [RR,hlt i hi]
  rintro⟨hi,_⟩
  simpa using hall i hi
 exfalso
 simp only [RR,Sa] at hl
 split at hl<;>cases hl
inductive Om where
 |go (l:List Nat) (s:S) (c:Prop)
 |call (f:Nat) (args:List AV) (d:Option Tmp) (l:List Nat) (s:S) (c:Prop)
 |fin (s:S) (c:Prop)
 |bad
def vB (P:Program) (o:Oper) (l:List Nat) (s:S) (c:Prop):Om:=
 match o.op with
 | .call ⟨.value x,args,_⟩=>match s.ev x,s.evs args.toList with
  |some (.cl f caps),some avs=>.call f (avs++nh caps) o.dst l s c
  |_,_=>.bad
 |op=>match cr P s o.type op with
  |some ⟨v,h,d⟩=>.go l (s.put o.dst v h) (c/\d)
  |none=>.bad
def z_ (P:Program) (r:Array Oper):List Nat->S->Prop->Om
 |[],s,c=>.fin s c
 |i::l,s,c=>match r[i]? with
  |some o=>match fC r s o with
   |some b=>match b with
    |true=>vB P o l s c
    |false=>.go l (s.put o.dst (some (.tu [])) s.hp) c
   |none=>.bad
  |none=>.bad
def IL (P:Program) (r:Array Oper):Nat->Om->Om
 |0,x=>x
 |n+1,.go l s c=>IL P r n (z_ P r l s c)
 |_+1,.call f a d l s c=>.call f a d l s c
 |_+1,.fin s c=>.fin s c
 |_+1,.bad=>.bad
def tp (P:Program) (r:Array Oper) (G:S->Prop):Om->Prop
 | .go l s c=>c/\∃ s',BB P r l s s'/\G s'
 | .call f args d l s c=>c/\∃ res h',fL P f args s.hp res h'/\Hp.ext s.hp h'/\∃ s',BB P r l (s.put d (some res) h') s'/\G s'
 | .fin s c=>c/\G s
 | .bad=>False
theorem IM {P:Program} {r:Array Oper} {G:S->Prop} {l:List Nat} {s:S} {c:Prop} (h:tp P r G (z_ P r l s c)):tp P r G (.go l s c):=by
 cases l with
 |nil=>exact⟨h.1,s,rfl,h.2⟩
 |cons i l=>
  simp only [z_] at h
  split at h
  ·rename_i o ho
   split at h
   ·rename_i b hg
    cases b with
    |true=>
     unfold vB at h
     dsimp only at h
     split at h
     ·rename_i x args at_ hop
      split at h
      ·rename_i f caps avs hx ha
       obtain⟨hc,res,h',hcall,hext,s',hrun,hG⟩:=h
       refine⟨hc,s',⟨_,?_,hrun⟩,hG⟩
       unfold dF
       rw [ho]
       dsimp only
       rw [hg]
       exact .inr ⟨x,args,at_,f,caps,avs,res,h',hop,hx,ha,hcall,hext,rfl⟩
      exact h.elim
     split at h
     ·rename_i v hp d hx
      obtain⟨⟨hc,hd⟩,s',hrun,hG⟩:=h
      refine⟨hc,s',⟨_,?_,hrun⟩,hG⟩
      unfold dF
      rw [ho]
      dsimp only
      rw [hg]
      exact .inl ⟨_,hx,hd,rfl⟩
     exact h.elim
    |false=>
     obtain⟨hc,s',hrun,hG⟩:=h
     refine⟨hc,s',⟨_,?_,hrun⟩,hG⟩
     unfold dF
     rw [ho]
     dsimp only
     rw [hg]
   exact h.elim
  exact h.elim
theorem aa {P:Program} {r:Array Oper} {G:S->Prop}:∀ (n:Nat) {x:Om},tp P r G (IL P r n x)->tp P r G x
 |0,x,h=>h
 |n+1,.go l s c,h=>IM (aa n h)
 |n+1,.call ..,h=>h
 |n+1,.fin ..,h=>h
 |n+1,.bad,h=>h
def uA:Hp->Bool
 |[]=>true
 |some ob::h=> !ob.own && uA h
 |none::h=>uA h
theorem tq:∀ {h:Hp} {i:Nat} {t:AObj},uA h=true->h[i]? =some (some t)->t.own=false
 |[],i,t,_,h=>by simp at h
 |some ob::l,0,t,hn,h=>by
  simp at h
  subst h
  simp [uA] at hn
  exact hn.1
 |none::l,0,t,hn,h=>by simp at h
 |some ob::l,i+1,t,hn,h=>tq (h:=l) (by simp [uA] at hn;exact hn.2) (by simpa using h)
 |none::l,i+1,t,hn,h=>tq (h:=l) (by simpa [uA] using hn) (by simpa using h)
theorem bD {P:Program} {r:Array Oper} {G:S->Prop} {f:Nat} {avs:List AV} {d:Option Tmp} {l:List Nat} {s:S} {c:Prop} {args0:List AV} {h0 h0':Hp} {res0:AV} (hc:c) (ct:fL P f args0 h0 res0 h0') (ρ:cP)
  (hm:pU ρ args0 avs/\kJ ρ s.hp ρ h0) (hsep:et ρ h0=true) (hno:uA h0=true) (h:tp P r G (.go l (s.put d (some (kL ρ s.hp.length res0)) (s.hp++kd ρ s.hp.length (h0'.drop h0.length))) True)):tp P r G (.call f avs d l s c):=by
 have hu:∀ (ρ':cP) (h h' s':Hp),(∀ (i:Nat) (t:AObj),h[i]? =some (some t)->t.own=false)->fM ρ s.hp.length ρ' h h' s'=s':=by
  intro ρ'
  induction ρ' with
  |nil=>intro h h' s' _;simp [fM]
  |cons x ρ' ih=>
   intro h h' s' hn
   cases h with
   |nil=>cases x<;>simp [fM]
   |cons y h=>
    have hn':∀ (i:Nat) (t:AObj),h[i]? =some (some t)->t.own=false:=fun i t ht=>hn (i+1) t (by simpa using ht)
    cases h' with
    |nil=>cases x<;>cases y<;>simp [fM]
    |cons z h'=>
     cases x with
     |none=>cases y<;>simpa [fM] using ih h h' s' hn'
     |some x=>
      cases y with
      |none=>simpa [fM] using ih h h' s' hn'
      |some y=>
       obtain⟨n,e⟩:=x
       have ho:=hn 0 y zP
       simpa [fM,ho] using ih h h' s' hn'
 have hcall:ew ρ h0 h0' s.hp=s.hp++kd ρ s.hp.length (h0'.drop h0.length):=by
  unfold ew
  rw [hu ρ h0 h0' s.hp fun i t ht=>tq hno ht]
 obtain⟨_,s',hrun,hG⟩:=h
 refine⟨hc,_,_,wd ct ρ hm.1 hm.2 hsep,?_,s',by rw [hcall];exact hrun,hG⟩
 rw [hcall]
 exact iV _ _
def bf (f:List Nat->Prop):List (List Nat)->Prop
 |[]=>True
 |[σ]=>f σ
 |σ::l=>f σ/\bf f l
theorem lD {f:List Nat->Prop}:∀ {l:List (List Nat)},bf f l->∀ σ∈l,f σ
 |[σ],h,_,hm=>by simp at hm;subst hm;exact h
 |σ::τ::l,h,x,hm=>by
  rcases RY.1 hm with rfl|hm
  ·exact h.1
  exact lD h.2 x hm
theorem Kr {P:Program} {E:Entry} {F:S->Prop} {id:Nat} {r:Array Oper} {k:List gg} {s:S} {c:Prop} (U:List (Nat×Nat)) (os:List (List Nat)) (hP:P.follows .mixedOrders=true) (hc:c) (hcov:wn P r U os=true)
  (h:bf (fun σ=>tp P r (fun s'=>ik P E F (.go k s' True)) (.go σ s True)) os):ik P E F (.draw id r k s c):=by
 refine⟨hc,iq (Kq hP hcov (K:=fun s'=>ik P E F (.go k s' True)) fun σ hσ=>let⟨s',h1,h2⟩:=(lD h σ hσ).2;⟨s',h1,fun β a w hs=>⟨β,s',h2,hs⟩⟩) fun e s' hk=>?_⟩
 obtain⟨rfl,hk⟩:=hk
 exact hk.2
theorem cD {P:Program} {E:Entry} {F:S->Prop} {id:Nat} {r:Array Oper} {k:List gg} {s:S} {c:Prop} (σ:List Nat) (hP:P.follows .mixedOrders=true) (hc:c) (hcov:wn P r [] [σ]=true)
  (h:tp P r (fun s'=>ik P E F (.go k s' True)) (.go σ s True)):ik P E F (.draw id r k s c):=
 Kr [] [σ] hP hc hcov h
attribute [go_sem] IL z_ vB bf
theorem jP {r:Array Oper} (hb:rz r=true):∀ {τ:List Nat} {fuel:Nat} {listed:Array Bool},uz r fuel listed τ->∀ {p q:Nat} {o:Oper} {e:Edge},r[q]? =some o->e∈o.after.toList->Region.binds .any e=true->e.on=p->listed.size=r.size->listed.getD p true=false->co τ p q=true
 |[],fuel,listed,_,p,q,o,e,ho,he,hbd,hp,_,_=>by
  have:=vA hb ho he hbd
  simp only [co,decide_eq_true_eq]
  omega
 |i::τ,0,listed,h,_,_,_,_,_,_,_,_,_,_=>h.elim
 |i::τ,fuel+1,listed,⟨hi,hd⟩,p,q,o,e,ho,he,hbd,hp,hsz,hl=>by
  obtain⟨oi,hoi,h1,h2⟩:=lC.1 hi
  have hil:i < listed.size:=by rw [hsz];exact (R2.1 hoi).1
  simp only [co]
  by_cases h3:i=p
  ·rw [if_pos h3]
  rw [if_neg h3]
  by_cases h4:i=q
  ·exfalso
   subst h4
   rw [ho] at hoi
   cases hoi
   have h5:=h2 e he hbd
   rw [hp] at h5
   have hlt:p < listed.size:=by
    have:=vA hb ho he hbd
    have:=(R2.1 ho).1
    omega
   rw [RR,RU hlt] at h5 hl
   simp only [RT] at h5 hl
   rw [h5] at hl
   cases hl
  rw [if_neg h4]
  exact jP hb hd ho he hbd hp (by simpa using hsz) (by rw [wm hil,if_neg h3];exact hl)
theorem pY {a b c:Nat} (h1:a≠b) (h2:b≠c) (h3:a≠c):∀ {l:List Nat},co l a b=true->co l b c=true->co l c a=true->False
 |[],x,y,z=>by
  simp only [co,decide_eq_true_eq] at x y z
  omega
 |i::l,x,y,z=>by
  simp only [co] at x y z
  by_cases ha:i=a
  ·subst ha
   rw [if_neg h3,if_pos rfl] at z
   cases z
  rw [if_neg ha] at x
  by_cases hb:i=b
  ·rw [if_pos hb] at x
   cases x
  rw [if_neg hb] at x y
  by_cases hc:i=c
  ·rw [if_pos hc] at y
   cases y
  rw [if_neg hc] at y z
  rw [if_neg ha] at z
  exact pY h1 h2 h3 x y z
def Dd (r:Array Oper) (b c:Nat):Bool:=match r[c]? with
 |some o=>o.after.toList.any fun e=>Region.binds .any e && e.on == b
 |none=>false
def PH (r:Array Oper) (ex:List (Nat×Nat)):Bool:=ex.any fun u=>ex.any fun v=>v.2 == u.1 && (u.1 != v.1 && (u.2 != v.1 && (u.1 != u.2 && (Dd r u.2 v.1 && decide (u.2 < r.size)))))
def FC (P:Program) (r:Array Oper) (U:List (Nat×Nat)) (os:List (List Nat)):Bool:=
 rz r && U.all (fun u=>u.1 != u.2) && os.all (fun σ=>σ.length == r.size && (List.range r.size).all σ.contains && σ.all fun i=>decide (i < r.size)) &&
 (let T:=Hw r;(oF U).all fun ex=>PH r ex || os.any fun σ=>Ff P r T ex σ)
theorem IN {P:Program} {E:Entry} {id:Nat} {r:Array Oper} {U:List (Nat×Nat)} {os:List (List Nat)} (hP:P.follows .mixedOrders=true) (hcov:FC P r U os=true) {s:S} {K:S->Prop}
  (h:∀ σ∈os,∃ s',BB P r σ s s'/\∀ β a w,Sim E β s' a w->∃ β' t,K t/\Sim E β' t a w):ur P E (.region id r true) s fun e s'=>e=.normal/\K s':=by
 intro β a w hs Q hQ
 refine wp_region_draw fun t=>?_
 simp only [Region.schedule,hP,Sz,if_true]
 simp only [FC,RQ] at hcov
 obtain⟨⟨⟨hback,hU⟩,hperm⟩,hch⟩:=hcov
 have hd:=nv (r:=r) r.size t (Array.replicate r.size false)
 obtain⟨ex,hex,hbef⟩:=oG (Region.linearise .any r t) (U:=U) fun u hu=>by
  have:=RS.1 hU u hu
  simpa using this
 have hsome:=RS.1 hch ex hex
 rcases SI.1 hsome with hbad|hsome
 ·exfalso
  obtain⟨u,hu,hbad⟩:=R0.1 hbad
  obtain⟨v,hv,hbad⟩:=R0.1 hbad
  simp only [RQ,beq_iff_eq,bne_iff_ne,ne_eq,decide_eq_true_eq] at hbad
  obtain⟨h1,h2,h3,h4,h5,h6⟩:=hbad
  have b1:=hbef u.1 u.2 (by rw [R9];exact hu)
  have b2:=hbef v.1 v.2 (by rw [R9];exact hv)
  rw [h1] at b2
  unfold Dd at h5
  split at h5
  ·rename_i o ho
   obtain⟨e,he,he2⟩:=R0.1 h5
   simp only [RQ,beq_iff_eq] at he2
   have b3:=jP hback hd ho he he2.1 he2.2 zP (by simp [RR,h6])
   exact pY h4 h3 h2 b1 b3 b2
  cases h5
 obtain⟨σ,hσ,hok⟩:=R0.1 hsome
 have hp:=RS.1 hperm σ hσ
 simp only [RQ,beq_iff_eq,RS,Sk,decide_eq_true_eq] at hp
 obtain⟨⟨hlen,hall⟩,hlt⟩:=hp
 obtain⟨s',hrun,hK⟩:=h σ hσ
 have hs2:Sim E β s a { w with drawn:=w.drawn+1 }:=⟨hs.dfr,hs.sl,⟨hs.hp.len,hs.hp.ob,hs.hp.flat,hs.hp.apart⟩,hs.ent,⟨hs.st.le,hs.st.os,hs.st.tape,hs.st.output,hs.st.size,hs.st.block,hs.st.len,hs.st.old,hs.st.fresh⟩⟩
 refine mc hback (fun β' a' w' hs'=>let⟨β2,t2,hk2,hs2⟩:=hK β' a' w' hs';hQ .normal t2 β2 a' w' ⟨rfl,hk2⟩ hs2) (Region.linearise .any r t) r.size _ σ s β a _ hd zP zO (fun i=>?_) (fun i o ho hl=>?_) hok (fun p q hpq _ _=>hbef p q hpq) hrun hs2
 ·constructor
  ·intro hi
   refine⟨hlt i hi,?_⟩
   simp [RR,hlt i hi]
  rintro⟨hi,_⟩
  simpa using hall i hi
 exfalso
 simp only [RR,Sa] at hl
 split at hl<;>cases hl
theorem aH {P:Program} {E:Entry} {F:S->Prop} {id:Nat} {r:Array Oper} {k:List gg} {s:S} {c:Prop} (U:List (Nat×Nat)) (os:List (List Nat)) (hP:P.follows .mixedOrders=true) (hc:c) (hcov:FC P r U os=true)
  (h:bf (fun σ=>tp P r (fun s'=>ik P E F (.go k s' True)) (.go σ s True)) os):ik P E F (.draw id r k s c):=by
 refine⟨hc,iq (IN hP hcov (K:=fun s'=>ik P E F (.go k s' True)) fun σ hσ=>let⟨s',h1,h2⟩:=(lD h σ hσ).2;⟨s',h1,fun β a w hs=>⟨β,s',h2,hs⟩⟩) fun e s' hk=>?_⟩
 obtain⟨rfl,hk⟩:=hk
 exact hk.2
def wo (P:Program) (r:Array Oper) (i j:Oper):Bool:=
 C8 i.dst j.dst && ux i.dst (gc r j) && ux j.dst (gc r i) && (pu P i == 0 && pu P j != 5 || pu P i == 1 && (pu P j != 4 && pu P j != 3))
def Rf (P:Program) (o:Oper) (s s':S):Prop:=
 (∃ x,cr P s o.type o.op=some x/\x.c/\s'=s.put o.dst x.v x.hp)\/
 (∃ (y:Operand) (args:Array Operand) (at_:Array TypeId) (f:Nat) (caps:List Sc) (avs:List AV) (res:AV) (h':Hp),o.op=.call ⟨.value y,args,at_⟩/\s.ev y=some (.cl f caps)/\s.evs args.toList=some avs/\
  fL P f (avs++nh caps) s.hp res h'/\s'=s.put o.dst (some res) h')
def dG (P:Program) (r:Array Oper) (i:Nat) (s s':S):Prop:=
 match r[i]? with
 |none=>s'=s
 |some o=>match fC r s o with
  |some true=>Rf P o s s'
  |some false=>s'=s.put o.dst (some (.tu [])) s.hp
  |none=>False
def FD (P:Program) (r:Array Oper):List Nat->S->S->Prop
 |[],s,s'=>s'=s
 |i::l,s,s''=>∃ s',dG P r i s s'/\FD P r l s' s''
theorem PI {P:Program} {r:Array Oper} {i j:Nat} {oi oj:Oper} (hi:r[i]? =some oi) (hj:r[j]? =some oj) (hind:wo P r oi oj=true) {s s1 s2:S} (h1:dG P r i s s1) (h2:dG P r j s1 s2):
  ∃ s1',dG P r j s s1'/\dG P r i s1' s2:=by
 simp only [wo,RQ,RW,beq_iff_eq,bne_iff_ne] at hind
 obtain⟨⟨⟨hne,hij⟩,hji⟩,hcls⟩:=hind
 have hci:pu P oi=0\/pu P oi=1:=by rcases hcls with h|h;exact .inl h.1;exact .inr h.1
 unfold dG at h1 h2
 rw [hi] at h1
 rw [hj] at h2
 dsimp only at h1 h2
 have key:∃ v,s1=s.put oi.dst v s.hp/\∀ (t:S),jn (gc r oi) s t->(pu P oi=0\/Hp.ext s.hp t.hp)->dG P r i t (t.put oi.dst v t.hp):=by
  split at h1
  ·rename_i hg
   rcases h1 with⟨x,hx,hc,rfl⟩|⟨y,args,at_,f,caps,avs,res,h',ho,_⟩
   ·have hx2:x.hp=s.hp/\∀ t:S,jn (gc r oi) s t->(pu P oi=0\/Hp.ext s.hp t.hp)->cr P t oi.type oi.op=some ⟨x.v,t.hp,x.c⟩:=by
     have eqv:∀ t:S,jn (gc r oi) s t->cr P t oi.type oi.op=cr P ⟨s.sl,t.hp⟩ oi.type oi.op:=fun t ha=>(gU (s:=⟨s.sl,t.hp⟩) (s':=t) rfl (fun q hq=>ey ha q hq)).symm
     rcases hci with h0|h0
     ·obtain⟨e1,e2⟩:=nu h0 hx
      exact⟨e1,fun t ha _=>by rw [eqv t ha];exact e2 t.hp⟩
     obtain⟨e1,e2⟩:=wi h0 hx
     exact⟨e1,fun t ha he=>by rw [eqv t ha];exact e2 t.hp (he.resolve_left (by rw [h0];simp))⟩
    refine⟨x.v,by rw [hx2.1],fun t ha he=>?_⟩
    unfold dG
    rw [hi]
    dsimp only
    rw [<-cG ha,hg]
    exact .inl ⟨_,hx2.2 t ha he,hc,rfl⟩
   exfalso
   have:pu P oi=3:=by unfold pu;rw [ho];rfl
   omega
  ·rename_i hg
   refine⟨some (.tu []),h1,fun t ha _=>?_⟩
   unfold dG
   rw [hi]
   dsimp only
   rw [<-cG ha,hg]
  exact h1.elim
 obtain⟨v,rfl,hstep⟩:=key
 have hal:jn (gc r oj) s (s.put oi.dst v s.hp):=gT hij
 have hhp:(s.put oi.dst v s.hp).hp=s.hp:=jF _ _ _ _
 rw [<-cG hal] at h2
 have fin:∀ (u:Option AV) (h':Hp),s2=(s.put oi.dst v s.hp).put oj.dst u h'->(pu P oi=0\/Hp.ext s.hp h')->dG P r j s (s.put oj.dst u h')->∃ s1',dG P r j s s1'/\dG P r i s1' s2:=by
  intro u h' he hx hj'
  refine⟨s.put oj.dst u h',hj',?_⟩
  have h3:=hstep (s.put oj.dst u h') (gT hji) (by rw [jF];exact hx)
  rw [jF] at h3
  rw [he,vz s v u s.hp h' hne]
  exact h3
 split at h2
 ·rename_i hg
  rcases h2 with⟨x,hx,hc,rfl⟩|⟨y,args,at_,f,caps,avs,res,h',ho,hy,ha,hcall,rfl⟩
  ·have hx':cr P s oj.type oj.op=some x:=by rw [gU (s:=s) (s':=s.put oi.dst v s.hp) hhp.symm (ey hal)];exact hx
   refine fin x.v x.hp rfl ?_ ?_
   ·rcases hcls with h0|h0
    ·exact .inl h0.1
    right
    have h4:pu P oj≠4:=h0.2.1
    exact Hv hx' h4
   unfold dG
   rw [hj]
   dsimp only
   rw [hg]
   exact .inl ⟨x,hx',hc,rfl⟩
  have hal':=ey hal
  rw [ho] at hal'
  have e1:s.ev y=some (.cl f caps):=by
   rw [iu (s:=s) (s':=s.put oi.dst v s.hp) (x:=y) (fun t ht=>hal' t (e9 (by subst ht;simp [Op.operands,Call.operands])))]
   exact hy
  have e2:s.evs args.toList=some avs:=by
   rw [lz (s:=s) (s':=s.put oi.dst v s.hp) (l:=args.toList) (fun z hz=>iu fun t ht=>hal' t (e9 (by subst ht;simp [Op.operands,Call.operands];right;simpa using hz)))]
   exact ha
  rw [hhp] at hcall
  refine fin (some res) h' rfl (.inl (by
   have h3:pu P oj=3:=by unfold pu;rw [ho];rfl
   rcases hcls with h|h
   ·exact h.1
   exact absurd h3 h.2.2)) ?_
  unfold dG
  rw [hj]
  dsimp only
  rw [hg]
  exact .inr ⟨y,args,at_,f,caps,avs,res,h',ho,e1,e2,hcall,rfl⟩
 ·rename_i hg
  refine fin (some (.tu [])) s.hp (by rw [h2,hhp]) (.inr fun o ob h=>h) ?_
  unfold dG
  rw [hj]
  dsimp only
  rw [hg]
 exact h2.elim
theorem OS {P:Program} {r:Array Oper} {i j:Nat} {oi oj:Oper} (hi:r[i]? =some oi) (hj:r[j]? =some oj) (hind:kZ P r oi oj=true) {s s1 s2:S} (h1:dG P r i s s1) (h2:dG P r j s1 s2):
  ∃ s1',dG P r j s s1'/\dG P r i s1' s2:=by
 simp only [kZ,RQ,beq_iff_eq] at hind
 obtain⟨⟨⟨hne,hij⟩,hji⟩,hcj⟩:=hind
 unfold dG at h1 h2
 rw [hi] at h1
 rw [hj] at h2
 dsimp only at h1 h2
 have key:∃ v hp,s1=s.put oi.dst v hp/\∀ (t:S),jn (gc r oi) s t->t.hp=s.hp->dG P r i t (t.put oi.dst v hp):=by
  split at h1
  ·rename_i hg
   rcases h1 with⟨x,hx,hc,rfl⟩|⟨y,args,at_,f,caps,avs,res,h',ho,hy,ha,hcall,rfl⟩
   ·refine⟨x.v,x.hp,rfl,fun t ha he=>?_⟩
    unfold dG
    rw [hi]
    dsimp only
    rw [<-cG ha,hg]
    exact .inl ⟨x,by rw [<-gU he.symm (ey ha)];exact hx,hc,rfl⟩
   refine⟨some res,h',rfl,fun t hal he=>?_⟩
   unfold dG
   rw [hi]
   dsimp only
   rw [<-cG hal,hg]
   have hal':=ey hal
   rw [ho] at hal'
   have e1:t.ev y=some (.cl f caps):=by
    rw [<-iu (s:=s) (s':=t) (x:=y) (fun q hq=>hal' q (e9 (by subst hq;simp [Op.operands,Call.operands])))]
    exact hy
   have e2:t.evs args.toList=some avs:=by
    rw [<-lz (s:=s) (s':=t) (l:=args.toList) (fun z hz=>iu fun q hq=>hal' q (e9 (by subst hq;simp [Op.operands,Call.operands];right;simpa using hz)))]
    exact ha
   exact .inr ⟨y,args,at_,f,caps,avs,res,h',ho,e1,e2,by rw [he];exact hcall,rfl⟩
  ·rename_i hg
   refine⟨some (.tu []),s.hp,h1,fun t ha he=>?_⟩
   unfold dG
   rw [hi]
   dsimp only
   rw [<-cG ha,hg]
   dsimp only
   rw [he]
  exact h1.elim
 obtain⟨v,hp,rfl,hstep⟩:=key
 have hal:jn (gc r oj) s (s.put oi.dst v hp):=gT hij
 rw [<-cG hal] at h2
 have fin:∀ (u:Option AV),s2=(s.put oi.dst v hp).put oj.dst u hp->dG P r j s (s.put oj.dst u s.hp)->∃ s1',dG P r j s s1'/\dG P r i s1' s2:=by
  intro u he hj'
  refine⟨s.put oj.dst u s.hp,hj',?_⟩
  have h3:=hstep (s.put oj.dst u s.hp) (gT hji) (jF _ _ _ _)
  rw [he,vz s v u hp hp hne]
  have e:∀ (a b:S) (d:Option Tmp) (x:Option AV) (h:Hp),a.sl=b.sl->a.put d x h=b.put d x h:=by
   intro a b d x h hab
   cases d<;>simp [S.put,hab]
  rw [e (s.put oj.dst u hp) (s.put oj.dst u s.hp) oi.dst v hp (by cases oj.dst<;>rfl)]
  exact h3
 split at h2
 ·rename_i hg
  rcases h2 with⟨x,hx,hc,rfl⟩|⟨y,args,at_,f,caps,avs,res,h',ho,_⟩
  ·have hx1:cr P ⟨s.sl,hp⟩ oj.type oj.op=some x:=by
    rw [gU (s:=⟨s.sl,hp⟩) (s':=s.put oi.dst v hp) (by rw [jF]) (fun q hq=>ey hal q hq)]
    exact hx
   obtain⟨e1,e2⟩:=nu hcj hx1
   have e3:=e2 s.hp
   refine fin x.v (by rw [e1]) ?_
   unfold dG
   rw [hj]
   dsimp only
   rw [hg]
   exact .inl ⟨_,e3,hc,rfl⟩
  exfalso
  have:pu P oj=3:=by unfold pu;rw [ho];rfl
  omega
 ·rename_i hg
  refine fin (some (.tu [])) (by rw [h2,jF]) ?_
  unfold dG
  rw [hj]
  dsimp only
  rw [hg]
 exact h2.elim
def FF (P:Program) (r:Array Oper) (T:List Nat) (ex:List (Nat×Nat)) (p q:Nat):Bool:=
 p != q && !(T.getD p 0).testBit q &&
 ((T.getD q 0).testBit p || ex.contains (p,q) || match r[p]?,r[q]? with
  |some x,some y=>wo P r x y || kZ P r x y
  |_,_=>false)
def tt (P:Program) (r:Array Oper) (T:List Nat) (ex:List (Nat×Nat)):List Nat->Bool
 |[]=>true
 |p::l=>l.all (FF P r T ex p) && tt P r T ex l
theorem Aa {P:Program} {r:Array Oper} {T:List Nat} {ex:List (Nat×Nat)} {i:Nat}:∀ {l m:List Nat},tt P r T ex (l++i::m)=true->tt P r T ex (l++m)=true
 |[],m,h=>by simp only [SD,tt,RQ] at h⊢;exact h.2
 |p::l,m,h=>by
  simp only [Sl,tt,RQ,RS] at h⊢
  refine⟨fun q hq=>h.1 q ?_,Aa h.2⟩
  simp only [R6,RY] at hq⊢
  exact hq.imp id .inr
theorem Hx {P:Program} {r:Array Oper} {T:List Nat} {ex:List (Nat×Nat)} {i p:Nat}:∀ {l m:List Nat},tt P r T ex (l++i::m)=true->p∈l->FF P r T ex p i=true
 |[],m,_,h=>by simp at h
 |q::l,m,h,hp=>by
  simp only [Sl,tt,RQ,RS] at h
  rcases RY.1 hp with rfl|hp
  ·exact h.1 i zP
  exact Hx h.2 hp
theorem Ab {P:Program} {r:Array Oper} {T:List Nat} {ex:List (Nat×Nat)} {i p:Nat} {l:List Nat} (h:tt P r T ex (i::l)=true) (hp:p∈l):FF P r T ex i p=true:=by
 simp only [tt,RQ,RS] at h
 exact h.1 p hp
theorem wq {P:Program} {r:Array Oper} {T:List Nat} {ex:List (Nat×Nat)}:∀ {l:List Nat},tt P r T ex l=true->l.Nodup
 |[],_=>SQ
 |p::l,h=>by
  refine Se.2 ⟨fun hp=>?_,wq (by simp only [tt,RQ] at h;exact h.2)⟩
  have:=Ab h hp
  simp [FF] at this
theorem wu {P:Program} {r:Array Oper} {i:Nat}:∀ {l m:List Nat} {s s':S},(∀ p∈l,∃ x y,r[p]? =some x/\r[i]? =some y/\(wo P r x y || kZ P r x y)=true)->FD P r (l++i::m) s s'->FD P r (i::(l++m)) s s'
 |[],m,s,s',_,h=>h
 |p::l,m,s,s',hl,h=>by
  obtain⟨s1,h1,h2⟩:=h
  obtain⟨s2,h3,h4⟩:=wu (fun q hq=>hl q (R_ _ hq)) h2
  obtain⟨x,y,hx,hy,hind⟩:=hl p zP
  rcases (RW _ _).mp hind with hind|hind
  ·obtain⟨s1',h5,h6⟩:=PI hx hy hind h1 h3
   exact⟨s1',h5,s2,h6,h4⟩
  obtain⟨s1',h5,h6⟩:=OS hx hy hind h1 h3
  exact⟨s1',h5,s2,h6,h4⟩
theorem Ks {P:Program} {E:Entry} {r:Array Oper} {i:Nat} {s s1:S} {β:Be} {a:Act} {w:World} {Q:Exit->Act->World->Prop} {K:Act->World->Prop} (h:dG P r i s s1) (hs:Sim E β s a w) (hK:∀ β' a' w',Sim E β' s1 a' w'->K a' w'):wpOp P r Q i K a w:=by
 unfold wpOp
 unfold dG at h
 split at h
 ·rename_i hi
  subst h
  rw [hi]
  exact hK β a w hs
 rename_i o ho
 rw [ho]
 dsimp only
 split at h
 ·rename_i hg
  rw [if_pos (l9 hs.sl hg)]
  refine .inl ?_
  unfold Oper.wp
  rcases h with⟨x,hx,hc,rfl⟩|⟨y,args,at_,f,caps,avs,res,h',hop,hy,ha,⟨⟨fn,hfn,hname,hbody⟩,hcall⟩,rfl⟩
  ·obtain⟨β',w',hst,hh,hx'⟩:=tc hs.hp hs.sl hx hc
   rcases hx' with⟨v,av,hrun,hv,hr⟩|⟨hrun,hv⟩
   ·rw [hrun]
    rw [hv] at hK
    exact hK β' _ w' (jO hs hst hh o.dst hr)
   rw [hrun]
   rw [hv] at hK
   exact hK β' _ w' (ni hs hst hh o.dst undef)
  obtain⟨cvs,hxe,hcl⟩:gm β (.cl f caps) (a.eval y):=dN hs.sl hy
  have hav:=Hj hs.sl ha
  have hvs:L2 (gm β) (avs++nh caps) (args.toList.map a.eval++cvs):=hav.append (vv hcl)
  have hrun:(execOp a.eval o).run P w=.ok (.enter f (args.toList.map a.eval++cvs).toArray) w:=by
   unfold execOp
   rw [hop]
   have e1:args.map a.eval=(args.toList.map a.eval).toArray:=by apply Array.ext';simp
   have hname':¬ fn.name= "runtime.NumGoroutine":=by simpa using hname
   simp only [resolve,hxe,Deferred.ofValue,invoke,callFunc,Sh,run_program,Sy,Sg,hfn,e1]
   simp [hname',hbody]
  rw [hrun,Oper.upon_enter]
  refine (hcall β w _ hs.hp hvs).mono fun e w' ⟨β',v,he,hr,hh,hst⟩=>?_
  subst he
  exact hK β' _ w' (jO hs hst hh o.dst hr)
 ·rename_i hg
  rw [l9 hs.sl hg]
  subst h
  exact hK β _ w (jO hs (StepR.refl β s.hp w hs.hp.len) hs.hp o.dst ⟨[],rfl,trivial⟩)
 exact h.elim
theorem uB {P:Program} {E:Entry} {r:Array Oper} {Q:Exit->Act->World->Prop} {ex:List (Nat×Nat)} {s':S} (hback:rz r=true) (hQ:∀ β' a' w',Sim E β' s' a' w'->Q .normal a' w'):
  ∀ (τ:List Nat) (fuel:Nat) (listed:Array Bool) (σ:List Nat) (s:S) (β:Be) (a:Act) (w:World),uz r fuel listed τ->listed.size=r.size->σ.length<=fuel->(∀ i,i∈σ↔i < r.size/\listed.getD i true=false)->FB r listed->
   tt P r (Hw r) ex σ=true->(∀ p q,ex.contains (p,q)=true->p∈σ->q∈σ->co τ p q=true)->FD P r σ s s'->Sim E β s a w->wpOps P r Q τ a w
 |[],fuel,listed,σ,s,β,a,w,hd,hsz,hf,hm,hc,hok,hx,hrun,hs=>by
  have hnil:σ=[]:=by
   rcases z9 hd with rfl|hd
   ·exact SC.1 zO
   cases σ with
   |nil=>rfl
   |cons p l=>
    exfalso
    have hp:=(hm p).1 zP
    have:p∈Region.ready .any r listed:=by
     refine lC.2 ⟨r[p],RU hp.1,hp.2,fun e he hb=>?_⟩
     have hbit:((Hw r).getD p 0).testBit e.on=true:=(wk (RU hp.1) e.on).2 ⟨e,he,hb,.inl rfl⟩
     have hlt0:=vA hback (RU hp.1) he hb
     have hlt:e.on < r.size:=SV hlt0 hp.1
     cases hl:listed.getD e.on false with
     |true=>rfl
     |false=>
      exfalso
      have hl':listed.getD e.on true=false:=by
       rw [RR,RU zO] at hl⊢
       exact hl
      have hmem:e.on∈p::l:=(hm e.on).2 ⟨hlt,hl'⟩
      rcases RY.1 hmem with hep|hmem
      ·omega
      have:=Ab hok hmem
      simp only [FF,RQ,R8] at this
      rw [this.1.2] at hbit
      cases hbit
    rw [hd] at this
    simp at this
  subst hnil
  have:s'=s:=hrun
  subst this
  exact hQ β a w hs
 |i::τ,0,listed,σ,s,β,a,w,hd,_,_,_,_,_,_,_,_=>hd.elim
 |i::τ,fuel+1,listed,σ,s,β,a,w,hd,hsz,hf,hm,hc,hok,hx,hrun,hs=>by
  obtain⟨hi,hd⟩:=hd
  obtain⟨o,ho,h1,h2⟩:=lC.1 hi
  have hil:i < r.size:=(R2.1 ho).1
  have hiσ:i∈σ:=(hm i).2 ⟨hil,h1⟩
  obtain⟨l,m,rfl⟩:=SJ hiσ
  have hnd:=wq hok
  have hfront:∀ p∈l,∃ x y,r[p]? =some x/\r[i]? =some y/\(wo P r x y || kZ P r x y)=true:=by
   intro p hp
   have hpl:=(hm p).1 (by simp [hp])
   have h3:=Hx hok hp
   have hpi:p≠i:=by
    intro e
    subst e
    simp [FF] at h3
   simp only [FF,RQ,RW] at h3
   rcases h3.2 with (h4|h4)|h4
   ·exfalso
    have:=wl hc i o ho h2 p h4
    have h5:=hpl.2
    rw [RR,RU zO] at this h5
    simp only [RT] at this h5
    rw [this] at h5
    cases h5
   ·exfalso
    have:=hx p i h4 (by simp [hp]) zP
    simp [co,hpi,Ne.symm hpi] at this
   split at h4
   ·rename_i x y hx hy
    exact⟨x,y,hx,hy,h4⟩
   cases h4
  obtain⟨s1,h3,h4⟩:=wu hfront hrun
  have hset:∀ (j:Nat) (d:Bool),(listed.setIfInBounds i true).getD j d=if i=j then true else listed.getD j d:=fun j d=>wm zO
  rw [wpOps_cons]
  refine Ks h3 hs fun β' a' w' hs'=>?_
  refine uB hback hQ τ fuel (listed.setIfInBounds i true) (l++m) s1 β' a' w' hd (by simpa using hsz) ?_ ?_ ?_ (Aa hok) ?_ h4 hs'
  ·simp only [Sd,Sm] at hf⊢
   omega
  ·intro j
   have hj:=hm j
   rw [hset]
   have hd1:i ∉ l/\i ∉ m:=by
    rw [Ss] at hnd
    exact⟨fun h=>hnd.2.2 i h i zP rfl,(Se.1 hnd.2.1).1⟩
   simp only [R6,RY] at hj⊢
   by_cases hij:i=j
   ·subst hij
    simp [hd1.1,hd1.2]
   rw [if_neg hij,<-hj]
   simp [Ne.symm hij]
  ·intro j oj hj hl e he hb
   rw [hset] at hl⊢
   by_cases hij:i=j
   ·subst hij
    rw [hj] at ho
    cases ho
    split
    ·rfl
    exact h2 e he hb
   rw [if_neg hij] at hl
   split
   ·rfl
   exact hc j oj hj hl e he hb
  intro p q hpq hp hq
  have hd1:i ∉ l/\i ∉ m:=by
   rw [Ss] at hnd
   exact⟨fun h=>hnd.2.2 i h i zP rfl,(Se.1 hnd.2.1).1⟩
  have hne:∀ x∈l++m,i≠x:=by
   intro x hx e
   subst e
   exact (R6.1 hx).elim hd1.1 hd1.2
  have hin:∀ x∈l++m,x∈l++i::m:=by
   intro x hx
   simp only [R6,RY] at hx⊢
   exact hx.imp id .inr
  have:=hx p q hpq (hin p hp) (hin q hq)
  simpa [co,hne p hp,hne q hq] using this
def FG (P:Program) (r:Array Oper) (U:List (Nat×Nat)) (os:List (List Nat)):Bool:=
 rz r && U.all (fun u=>u.1 != u.2) && os.all (fun σ=>σ.length == r.size && (List.range r.size).all σ.contains && σ.all fun i=>decide (i < r.size)) &&
 (let T:=Hw r;(oF U).all fun ex=>PH r ex || os.any fun σ=>tt P r T ex σ)
theorem IP {P:Program} {E:Entry} {id:Nat} {r:Array Oper} {U:List (Nat×Nat)} {os:List (List Nat)} (hP:P.follows .mixedOrders=true) (hcov:FG P r U os=true) {s:S} {K:S->Prop}
  (h:∀ σ∈os,∃ s',FD P r σ s s'/\∀ β a w,Sim E β s' a w->∃ β' t,K t/\Sim E β' t a w):ur P E (.region id r true) s fun e s'=>e=.normal/\K s':=by
 intro β a w hs Q hQ
 refine wp_region_draw fun t=>?_
 simp only [Region.schedule,hP,Sz,if_true]
 simp only [FG,RQ] at hcov
 obtain⟨⟨⟨hback,hU⟩,hperm⟩,hch⟩:=hcov
 have hd:=nv (r:=r) r.size t (Array.replicate r.size false)
 obtain⟨ex,hex,hbef⟩:=oG (Region.linearise .any r t) (U:=U) fun u hu=>by
  have:=RS.1 hU u hu
  simpa using this
 have hsome:=RS.1 hch ex hex
 rcases SI.1 hsome with hbad|hsome
 ·exfalso
  obtain⟨u,hu,hbad⟩:=R0.1 hbad
  obtain⟨v,hv,hbad⟩:=R0.1 hbad
  simp only [RQ,beq_iff_eq,bne_iff_ne,ne_eq,decide_eq_true_eq] at hbad
  obtain⟨h1,h2,h3,h4,h5,h6⟩:=hbad
  have b1:=hbef u.1 u.2 (by rw [R9];exact hu)
  have b2:=hbef v.1 v.2 (by rw [R9];exact hv)
  rw [h1] at b2
  unfold Dd at h5
  split at h5
  ·rename_i o ho
   obtain⟨e,he,he2⟩:=R0.1 h5
   simp only [RQ,beq_iff_eq] at he2
   have b3:=jP hback hd ho he he2.1 he2.2 zP (by simp [RR,h6])
   exact pY h4 h3 h2 b1 b3 b2
  cases h5
 obtain⟨σ,hσ,hok⟩:=R0.1 hsome
 have hp:=RS.1 hperm σ hσ
 simp only [RQ,beq_iff_eq,RS,Sk,decide_eq_true_eq] at hp
 obtain⟨⟨hlen,hall⟩,hlt⟩:=hp
 obtain⟨s',hrun,hK⟩:=h σ hσ
 have hs2:Sim E β s a { w with drawn:=w.drawn+1 }:=⟨hs.dfr,hs.sl,⟨hs.hp.len,hs.hp.ob,hs.hp.flat,hs.hp.apart⟩,hs.ent,⟨hs.st.le,hs.st.os,hs.st.tape,hs.st.output,hs.st.size,hs.st.block,hs.st.len,hs.st.old,hs.st.fresh⟩⟩
 refine uB hback (fun β' a' w' hs'=>let⟨β2,t2,hk2,hs2⟩:=hK β' a' w' hs';hQ .normal t2 β2 a' w' ⟨rfl,hk2⟩ hs2) (Region.linearise .any r t) r.size _ σ s β a _ hd zP zO (fun i=>?_) (fun i o ho hl=>?_) hok (fun p q hpq _ _=>hbef p q hpq) hrun hs2
 ·constructor
  ·intro hi
   refine⟨hlt i hi,?_⟩
   simp [RR,hlt i hi]
  rintro⟨hi,_⟩
  simpa using hall i hi
 exfalso
 simp only [RR,Sa] at hl
 split at hl<;>cases hl
def FH (P:Program) (r:Array Oper) (G:S->Prop):Om->Prop
 | .go l s c=>c/\∃ s',FD P r l s s'/\G s'
 | .call f args d l s c=>c/\∃ res h',fL P f args s.hp res h'/\∃ s',FD P r l (s.put d (some res) h') s'/\G s'
 | .fin s c=>c/\G s
 | .bad=>False
theorem IQ {P:Program} {r:Array Oper} {G:S->Prop} {l:List Nat} {s:S} {c:Prop} (h:FH P r G (z_ P r l s c)):FH P r G (.go l s c):=by
 cases l with
 |nil=>exact⟨h.1,s,rfl,h.2⟩
 |cons i l=>
  simp only [z_] at h
  split at h
  ·rename_i o ho
   split at h
   ·rename_i b hg
    cases b with
    |true=>
     unfold vB at h
     dsimp only at h
     split at h
     ·rename_i x args at_ hop
      split at h
      ·rename_i f caps avs hx ha
       obtain⟨hc,res,h',hcall,s',hrun,hG⟩:=h
       refine⟨hc,s',⟨_,?_,hrun⟩,hG⟩
       unfold dG
       rw [ho]
       dsimp only
       rw [hg]
       exact .inr ⟨x,args,at_,f,caps,avs,res,h',hop,hx,ha,hcall,rfl⟩
      exact h.elim
     split at h
     ·rename_i v hp d hx
      obtain⟨⟨hc,hd⟩,s',hrun,hG⟩:=h
      refine⟨hc,s',⟨_,?_,hrun⟩,hG⟩
      unfold dG
      rw [ho]
      dsimp only
      rw [hg]
      exact .inl ⟨_,hx,hd,rfl⟩
     exact h.elim
    |false=>
     obtain⟨hc,s',hrun,hG⟩:=h
     refine⟨hc,s',⟨_,?_,hrun⟩,hG⟩
     unfold dG
     rw [ho]
     dsimp only
     rw [hg]
   exact h.elim
  exact h.elim
theorem eF {P:Program} {r:Array Oper} {G:S->Prop}:∀ (n:Nat) {x:Om},FH P r G (IL P r n x)->FH P r G x
 |0,x,h=>h
 |n+1,.go l s c,h=>IQ (eF n h)
 |n+1,.call ..,h=>h
 |n+1,.fin ..,h=>h
 |n+1,.bad,h=>h
theorem Ac {P:Program} {E:Entry} {F:S->Prop} {id:Nat} {r:Array Oper} {k:List gg} {s:S} {c:Prop} (U:List (Nat×Nat)) (os:List (List Nat)) (hP:P.follows .mixedOrders=true) (hc:c) (hcov:FG P r U os=true)
  (h:bf (fun σ=>FH P r (fun s'=>ik P E F (.go k s' True)) (.go σ s True)) os):ik P E F (.draw id r k s c):=by
 refine⟨hc,iq (IP hP hcov (K:=fun s'=>ik P E F (.go k s' True)) fun σ hσ=>let⟨s',h1,h2⟩:=(lD h σ hσ).2;⟨s',h1,fun β a w hs=>⟨β,s',h2,hs⟩⟩) fun e s' hk=>?_⟩
 obtain⟨rfl,hk⟩:=hk
 exact hk.2
theorem lE {P:Program} {r:Array Oper} {G:S->Prop} {f:Nat} {avs:List AV} {d:Option Tmp} {l:List Nat} {s:S} {c:Prop} {args0:List AV} {h0 h0':Hp} {res0:AV} (hc:c) (ct:fL P f args0 h0 res0 h0') (ρ:cP)
  (hm:pU ρ args0 avs/\kJ ρ s.hp ρ h0) (hsep:et ρ h0=true) (h:FH P r G (.go l (s.put d (some (kL ρ s.hp.length res0)) (ew ρ h0 h0' s.hp)) True)):FH P r G (.call f avs d l s c):=by
 obtain⟨_,s',hrun,hG⟩:=h
 exact⟨hc,_,_,wd ct ρ hm.1 hm.2 hsep,s',hrun,hG⟩
def OT:Nat->Nat->cP->Bool
 |0,n0,ρ=>ρ.all fun|some (n,_)=>decide (n0<=n)|none=>true
 |k+1,n0,some (n,none)::ρ=>n == n0 && OT k (n0+1) ρ
 |_,_,_=>false
theorem Kt:∀ {k n0:Nat} {ρ:cP},OT k n0 ρ=true->(∀ i,i < k->ρ[i]? =some (some (n0+i,none)))/\(∀ i n d,k<=i->ρ[i]? =some (some (n,d))->n0+k<=n)
 |0,n0,ρ,h=>by
  refine⟨fun i hi=>by omega,fun i n d _ hr=>?_⟩
  have:=RS.1 (by simpa [OT] using h) _ (R3 hr)
  simpa using this
 |k+1,n0,ρ,h=>by
  cases ρ with
  |nil=>cases h
  |cons x ρ=>
   cases x with
   |none=>cases h
   |some x=>
    obtain⟨n,d⟩:=x
    cases d with
    |some d=>cases h
    |none=>
     simp only [OT,RQ,beq_iff_eq] at h
     obtain⟨rfl,h⟩:=h
     obtain⟨h1,h2⟩:=Kt h
     refine⟨fun i hi=>?_,fun i m d hi hr=>?_⟩
     ·cases i with
      |zero=>simp
      |succ i=>
       rw [RV,h1 i zO]
       simp only [Option.some.injEq,Prod.mk.injEq,and_true]
       omega
     cases i with
     |zero=>omega
     |succ i=>
      rw [RV] at hr
      have h4:=h2 i m d zO hr
      omega
theorem IR {E:Entry} {n0:Nat} (hE:E.h.length=n0) {ρ:cP} {t s:S} (hid:OT n0 0 ρ=true) (hsep:et ρ t.hp=true) (hsl:Fx ρ t.sl s.sl) (hhp:kJ ρ s.hp ρ t.hp) {β:Be} {a:Act} {w:World} (hs:Sim E β s a w):Sim E (fg β ρ) t a w:=by
 obtain⟨hlo,hhi⟩:=Kt hid
 have hlen:=iT hhp
 have hl0:n0<=t.hp.length:=by
  rw [<-hlen]
  rcases R5 ρ.length n0 with h1|h1
  ·have:=hlo ρ.length h1
   rw [Si (Sw _)] at this
   cases this
  exact h1
 refine⟨hs.dfr,Bv hsl hs.sl,vW hs.hp hhp hsep,hs.ent,?_⟩
 have st:=hs.st
 refine⟨fun o p hp=>?_,st.os,st.tape,st.output,st.size,st.block,by rw [hE];exact hl0,fun o ob hlt ho=>?_,fun o ob p hge ho hp=>?_⟩
 ·have hlt:o < n0:=by rw [<-hE,<-hs.ent];exact (RX.1 hp).1
  have h1:=hlo o hlt
  rw [Sj] at h1
  rw [cm β h1]
  dsimp only
  rw [RP,st.le o p hp]
  rfl
 ·rw [hE] at hlt
  have h1:=hlo o hlt
  rw [Sj] at h1
  rcases fU hhp ho with⟨hr,_⟩|⟨n,d,ob',hr,hn,hob⟩
  ·rw [h1] at hr;cases hr
  rw [h1] at hr
  simp only [Option.some.injEq,Prod.mk.injEq] at hr
  obtain⟨rfl,rfl⟩:=hr
  obtain⟨ob0,ho0,hown0⟩:=st.old o ob' (by rw [hE];exact hlt) hn
  exact⟨ob0,ho0,fun h=>hown0 (l_ hob h).2⟩
 rw [hE] at hge
 rcases fU hhp ho with⟨hr,_⟩|⟨n,d,ob',hr,hn,hob⟩
 ·rw [cm β hr] at hp;cases hp
 have hge':=hhi o n d hge hr
 rw [cm β hr] at hp
 cases d with
 |none=>
  simp only [Option.some.injEq] at hp
  rw [RP] at hp
  have hb:β[n]? =some (some p):=by
   cases h:β[n]? with
   |none=>rw [h] at hp;cases hp
   |some z=>rw [h] at hp;simp only [RT] at hp;rw [hp]
  exact st.fresh n ob' p (by rw [hE];omega) hn hb
 |some d=>
  simp only [Option.some.injEq] at hp
  rw [RP] at hp
  cases h:β[n]? with
  |none=>rw [h] at hp;cases hp
  |some z=>
   rw [h] at hp
   simp only [RT] at hp
   cases z with
   |none=>cases hp
   |some q=>
    simp only [R7,Option.some.injEq] at hp
    have:=st.fresh n ob' q (by rw [hE];omega) hn h
    rw [<-hp]
    exact this
def OU (P:Program) (rs:List ResultVar) (n0:Nat) (res:AV) (h':Hp) (s:S):Prop:=
 ∃ v ρ,pX P s rs=some v/\OT n0 0 ρ=true/\et ρ h'=true/\C0 ρ res v/\kJ ρ s.hp ρ h'
theorem cX {P:Program} {E:Entry} {rs:List ResultVar} {n0:Nat} {res:AV} {h':Hp} {s:S} {c:Prop} (ρ:cP) (hc:c) (v:AV) (hr:pX P s rs=some v) (hid:OT n0 0 ρ=true) (hsep:et ρ h'=true) (hm:C0 ρ res v/\kJ ρ s.hp ρ h'):
  ik P E (OU P rs n0 res h') (.fin s c):=⟨hc,v,ρ,hr,hid,hsep,hm.1,hm.2⟩
theorem IS {P:Program} {f:FuncId} {fn:Func} {c:Code} (hf:P.funcs[f]? =some fn) (hname:(fn.name == "runtime.NumGoroutine")=false) (hb:fn.body=some c) {args:List AV} {h h':Hp} {res:AV}
  (H:∀ E:Entry,E.h.length=h.length->ik P E (OU P fn.results.toList h.length res h') (.go [.code c] ⟨nr fn.ntmps args,h⟩ True)):fL P f args h res h':=by
 refine⟨⟨fn,hf,hname,by rw [hb];rfl⟩,fun β w vs hs hvs=>?_⟩
 refine calls_of_wp hf hb ?_
 let E:Entry:=⟨β,h,w⟩
 have hd:=(H E rfl).2
 refine hd β _ w ⟨rfl,vy hvs,hs,hs.len,StepR.refl β h w hs.len⟩ _ fun e s' β' a' w' hK hs'=>?_
 have key:OU P fn.results.toList h.length res h' s'->a'.defers=[]/\∃ v,(results fn a'.tmps).run P w'=.ok v w'/\∃ β'' u,Ending.returned v=.returned u/\gm β'' res u/\HSim β'' h' w'/\StepR β β'' h h' w w':=by
  intro⟨v,ρ,hr,hid,hsep,hav,hhp⟩
  obtain⟨u,hrun,hu⟩:=BA hs'.hp hs'.sl hr
  have hsim:=IR (E:=E) rfl (t:=⟨[],h'⟩) (s:=⟨[],s'.hp⟩) hid hsep trivial hhp (β:=β') (a:=a') (w:=w') ⟨hs'.dfr,⟨fun i hi=>by simp [Slots.has] at hi,fun i x hx=>by simp [Slots.get] at hx⟩,hs'.hp,hs'.ent,hs'.st⟩
  exact⟨hs'.dfr,u,hrun,fg β' ρ,u,rfl,zX hav hu,hsim.hp,hsim.st⟩
 cases e with
 |normal=>exact key hK
 |ret=>exact key hK
 |_=>exact hK.elim
def Hy (N:Nat):Nat->cP->Hp->Bool
 |i,[],_=>decide (N<=i)
 |i,x::ρ,h=>(match decide (i < N) with
  |true=>x == some (i,none)
  |false=>match x with
   |none=>true
   |some (n,d)=>decide (N<=n) || (d.isNone && match h with
    |some t::_=>t.own
    |_=>true)) && Hy N (i+1) ρ h.tail
theorem Ku {N:Nat}:∀ {ρ:cP} {i:Nat} {h:Hp},Hy N i ρ h=true->(∀ j,i+j < N->ρ[j]? =some (some (i+j,none)))/\
  (∀ j n d t,N<=i+j->ρ[j]? =some (some (n,d))->h[j]? =some (some t)->N<=n\/d=none/\t.own=true)/\N<=i+ρ.length
 |[],i,h,hh=>by
  simp only [Hy,decide_eq_true_eq] at hh
  exact⟨fun j hj=>by omega,fun j n d t _ hr=>by simp at hr,by simpa using hh⟩
 |x::ρ,i,h,hh=>by
  unfold Hy at hh
  rw [RQ] at hh
  obtain⟨h1,h2⟩:=hh
  obtain⟨a1,a2,a3⟩:=Ku h2
  refine⟨fun j hj=>?_,fun j n d t hj hr ht=>?_,by simp only [Sm];omega⟩
  ·cases j with
   |zero=>
    rw [decide_eq_true zO] at h1
    dsimp only at h1
    rw [beq_iff_eq] at h1
    simp [h1]
   |succ j=>
    rw [RV,a1 j zO]
    simp only [Option.some.injEq,Prod.mk.injEq,and_true]
    omega
  cases j with
  |zero=>
   rw [decide_eq_false zO] at h1
   simp only [R1,Option.some.injEq] at hr
   subst hr
   cases h with
   |nil=>simp at ht
   |cons y h=>
    simp only [R1,Option.some.injEq] at ht
    subst ht
    simp only [RW,decide_eq_true_eq,RQ,Option.isNone_iff_eq_none] at h1
    exact h1
  |succ j=>
   rw [RV] at hr
   refine a2 j n d t zO hr ?_
   cases h with
   |nil=>simp at ht
   |cons y h=>simpa using ht
def kh (ρ:cP) (n0:Nat) (t s:S):Prop:=Hy n0 0 ρ t.hp=true/\et ρ t.hp=true/\Fx ρ t.sl s.sl/\kJ ρ s.hp ρ t.hp
theorem ac {ρ:cP} {n0:Nat} {t s:S} (h1:Hy n0 0 ρ t.hp=true) (h2:et ρ t.hp=true) (h:Fx ρ t.sl s.sl/\kJ ρ s.hp ρ t.hp):kh ρ n0 t s:=⟨h1,h2,h.1,h.2⟩
theorem tv {E:Entry} {n0:Nat} (hE:E.h.length=n0) {ρ:cP} {t s:S} (h:kh ρ n0 t s) {β:Be} {a:Act} {w:World} (hs:Sim E β s a w):Sim E (fg β ρ) t a w:=by
 obtain⟨hid,hsep,hsl,hhp⟩:=h
 obtain⟨hlo,hhi,hle⟩:=Ku hid
 simp only [Sj] at hlo hhi hle
 have hlen:=iT hhp
 have hl0:n0<=t.hp.length:=zO
 refine⟨hs.dfr,Bv hsl hs.sl,vW hs.hp hhp hsep,hs.ent,?_⟩
 have st:=hs.st
 refine⟨fun o p hp=>?_,st.os,st.tape,st.output,st.size,st.block,by rw [hE];exact hl0,fun o ob hlt ho=>?_,fun o ob p hge ho hp=>?_⟩
 ·have hlt:o < n0:=by rw [<-hE,<-hs.ent];exact (RX.1 hp).1
  have h1:=hlo o hlt
  rw [cm β h1]
  dsimp only
  rw [RP,st.le o p hp]
  rfl
 ·rw [hE] at hlt
  have h1:=hlo o hlt
  rcases fU hhp ho with⟨hr,_⟩|⟨n,d,ob',hr,hn,hob⟩
  ·rw [h1] at hr;cases hr
  rw [h1] at hr
  simp only [Option.some.injEq,Prod.mk.injEq] at hr
  obtain⟨rfl,rfl⟩:=hr
  obtain⟨ob0,ho0,hown0⟩:=st.old o ob' (by rw [hE];exact hlt) hn
  exact⟨ob0,ho0,fun h=>hown0 (l_ hob h).2⟩
 rw [hE] at hge
 rcases fU hhp ho with⟨hr,_⟩|⟨n,d,ob',hr,hn,hob⟩
 ·rw [cm β hr] at hp;cases hp
 have hge':=hhi o n d ob hge hr ho
 have fin:∀ q:Pl,β[n]? =some (some q)->q.blk=p.blk->Own E.β E.h p.blk\/E.w.heap.size<=p.blk:=by
  intro q hq hb
  rcases hge' with hN|⟨hd,hown⟩
  ·have:=st.fresh n ob' q (by rw [hE];omega) hn hq
   rw [hb] at this
   exact this
  rcases R5 n n0 with hlt|hge2
  ·obtain⟨ob0,ho0,hown0⟩:=st.old n ob' (by rw [hE];exact hlt) hn
   have hlt':n < E.β.length:=by rw [hs.ent,hE];exact hlt
   have hβ:=st.le n E.β[n] (RZ hlt')
   rw [hq] at hβ
   refine .inl ⟨n,ob0,q,ho0,hown0 (l_ hob hown).2,?_,hb⟩
   rw [RZ hlt',<-Option.some.inj hβ]
  have:=st.fresh n ob' q (by rw [hE];omega) hn hq
  rw [hb] at this
  exact this
 rw [cm β hr] at hp
 cases d with
 |none=>
  simp only [Option.some.injEq] at hp
  rw [RP] at hp
  have hb:β[n]? =some (some p):=by
   cases h:β[n]? with
   |none=>rw [h] at hp;cases hp
   |some z=>rw [h] at hp;simp only [RT] at hp;rw [hp]
  exact fin p hb rfl
 |some d=>
  simp only [Option.some.injEq] at hp
  rw [RP] at hp
  cases h:β[n]? with
  |none=>rw [h] at hp;cases hp
  |some z=>
   rw [h] at hp
   simp only [RT] at hp
   cases z with
   |none=>cases hp
   |some q=>
    simp only [R7,Option.some.injEq] at hp
    exact fin q h (by rw [<-hp])
theorem tw {P:Program} {E:Entry} {n0:Nat} (hE:E.h.length=n0) {ρ:cP} {t s:S} (h:kh ρ n0 t s) {C:Code} {K:Exit->S->Prop} (hd:ur P E C t K):ur P E C s K:=
 fun β a w hs Q hQ=>hd _ a w (tv hE h hs) Q hQ
theorem iv {P:Program} {E:Entry} {F:S->Prop} {b:Code} {k:List gg} {s:S} {c:Prop} {ι:Type} (n0:Nat) (hE:E.h.length=n0) (mk:S->ι->S) (J:ι->Prop) (μ:ι->Nat) (i0:ι) (ρ0:cP) (hc:c) (hJ:J i0) (h0:kh ρ0 n0 (mk s i0) s)
  (h:∀ i,J i->∀ N:S->Prop,(∀ (s':S) (j:ι) (ρ:cP),J j->μ j < μ i->kh ρ n0 (mk s j) s'->N s')->ik P E F (.go (.code b::.hook N::k) (mk s i) True)):ik P E F (.lp b k s c):=by
 refine⟨hc,CZ (fun _=>True) (fun s' n=>∃ i ρ,J i/\kh ρ n0 (mk s i) s'/\μ i=n) (μ i0) ⟨trivial,i0,ρ0,hJ,h0,rfl⟩ fun s' n _ ⟨i,ρ,hi,hw,hn⟩=>?_⟩
 have hd:=(h i hi (fun s''=>∃ j ρ,J j/\μ j < μ i/\kh ρ n0 (mk s j) s'') fun s'' j ρ' hj hlt hw'=>⟨j,ρ',hj,hlt,hw'⟩).2
 refine tw hE hw (iq hd fun e s'' hk=>?_)
 cases e with
 |normal=>
  obtain⟨j,ρ',hj,hlt,hw'⟩:=hk
  exact⟨trivial,μ j,zO,j,ρ',hj,hw',rfl⟩
 |_=>exact hk
def FI (P:Program) (rs:List ResultVar) (n0:Nat) (res:AV) (h':Hp) (s:S):Prop:=
 ∃ v ρ,pX P s rs=some v/\Hy n0 0 ρ h'=true/\et ρ h'=true/\C0 ρ res v/\kJ ρ s.hp ρ h'
theorem cY {P:Program} {E:Entry} {rs:List ResultVar} {n0:Nat} {res:AV} {h':Hp} {s:S} {c:Prop} (ρ:cP) (hc:c) (v:AV) (hr:pX P s rs=some v) (hid:Hy n0 0 ρ h'=true) (hsep:et ρ h'=true) (hm:C0 ρ res v/\kJ ρ s.hp ρ h'):
  ik P E (FI P rs n0 res h') (.fin s c):=⟨hc,v,ρ,hr,hid,hsep,hm.1,hm.2⟩
theorem dX {P:Program} {f:FuncId} {fn:Func} {c:Code} (hf:P.funcs[f]? =some fn) (hname:(fn.name == "runtime.NumGoroutine")=false) (hb:fn.body=some c) {args:List AV} {h h':Hp} {res:AV}
  (H:∀ E:Entry,E.h.length=h.length->ik P E (FI P fn.results.toList h.length res h') (.go [.code c] ⟨nr fn.ntmps args,h⟩ True)):fL P f args h res h':=by
 refine⟨⟨fn,hf,hname,by rw [hb];rfl⟩,fun β w vs hs hvs=>?_⟩
 refine calls_of_wp hf hb ?_
 let E:Entry:=⟨β,h,w⟩
 have hd:=(H E rfl).2
 refine hd β _ w ⟨rfl,vy hvs,hs,hs.len,StepR.refl β h w hs.len⟩ _ fun e s' β' a' w' hK hs'=>?_
 have key:FI P fn.results.toList h.length res h' s'->a'.defers=[]/\∃ v,(results fn a'.tmps).run P w'=.ok v w'/\∃ β'' u,Ending.returned v=.returned u/\gm β'' res u/\HSim β'' h' w'/\StepR β β'' h h' w w':=by
  intro⟨v,ρ,hr,hid,hsep,hav,hhp⟩
  obtain⟨u,hrun,hu⟩:=BA hs'.hp hs'.sl hr
  have hsim:=tv (E:=E) rfl (t:=⟨[],h'⟩) (s:=⟨[],s'.hp⟩) ⟨hid,hsep,trivial,hhp⟩ (β:=β') (a:=a') (w:=w') ⟨hs'.dfr,⟨fun i hi=>by simp [Slots.has] at hi,fun i x hx=>by simp [Slots.get] at hx⟩,hs'.hp,hs'.ent,hs'.st⟩
  exact⟨hs'.dfr,u,hrun,fg β' ρ,u,rfl,zX hav hu,hsim.hp,hsim.st⟩
 cases e with
 |normal=>exact key hK
 |ret=>exact key hK
 |_=>exact hK.elim
def Rg (T:Nat) (t:Operand):Bool:=match t with
 | .tmp i=>i == T
 |_=>false
def Rh (T:Nat) (a b:Code):Bool:=match a with
 | .region id _ _=>match b with
  | .cond _ _ _=>id+1000 == T
  |_=>false
 |_=>false
def Kv (T:Nat) (c:Code):Bool:=match c with
 | .cond t _ _=>Rg T t
 | .seq a b=>Rh T a b
 |_=>false
def On (T:Nat) (k:List gg):Bool:=match k with
 | .code c::_=>Kv T c
 |_=>false
theorem OV (T:Nat) (a b:Code):Rh T a b=match a with
 | .region id _ _=>match b with
  | .cond _ _ _=>id+1000 == T
  |_=>false
 |_=>false:=rfl
theorem OW (T:Nat) (t:Operand):Rg T t=match t with
 | .tmp i=>i == T
 |_=>false:=rfl
theorem Kw (T:Nat) (c:Code):Kv T c=match c with
 | .cond t _ _=>Rg T t
 | .seq a b=>Rh T a b
 |_=>false:=rfl
theorem Kx (T:Nat) (k:List gg):On T k=match k with
 | .code c::_=>Kv T c
 |_=>false:=rfl
def Ky (P:Program) (T:Nat):Nat->St->St
 |0,x=>x
 |n+1,.go k s c=>match On T k with
  |true=>.go k s c
  |false=>Ky P T n (vU P k s c)
 |_+1,.fin s c=>.fin s c
 |_+1,.call f a d k s c=>.call f a d k s c
 |_+1,.lp b k s c=>.lp b k s c
 |_+1,.hk N s c=>.hk N s c
 |_+1,.draw id r k s c=>.draw id r k s c
 |_+1,.gl r o l k s c=>.gl r o l k s c
 |_+1,.bad=>.bad
theorem d9 {P:Program} {E:Entry} {F:S->Prop} (T:Nat):∀ (n:Nat) {x:St},ik P E F (Ky P T n x)->ik P E F x
 |0,x,h=>h
 |n+1,.go k s c,h=>by
  unfold Ky at h
  split at h
  ·exact h
  have h':=d9 T n h
  exact ae 1 h'
 |_+1,.fin s c,h=>h
 |_+1,.call f a d k s c,h=>h
 |_+1,.lp b k s c,h=>h
 |_+1,.hk N s c,h=>h
 |_+1,.draw id r k s c,h=>h
 |_+1,.gl r o l k s c,h=>h
 |_+1,.bad,h=>h
attribute [go_sem] Ky OW OV Kw Kx
def Ri:List gg->Bool
 | .code _::_=>true
 | .inB _::k=>Ri k
 |_=>false
theorem De {P:Program} {E:Entry} {F:Exit->S->Prop} {n0:Nat} (hE:E.h.length=n0) {ρ:cP} {t s:S} (h:kh ρ n0 t s):∀ {k:List gg},Ri k=true->KK P E F k .normal t->KK P E F k .normal s
 |[],hk,_=>by cases hk
 | .code C::k,_,hd=>tw hE h hd
 | .inB _::k,hk,hd=>De hE h (k:=k) hk hd
 | .ops _ _::k,hk,_=>by cases hk
 | .hook _::k,hk,_=>by cases hk
theorem eX {P:Program} {E:Entry} {F:S->Prop} {C:Code} {k:List gg} {s:S} {c:Prop} (n0:Nat) (hE:E.h.length=n0) (mk:S->S) (hc:c) (hok:Ri k=true)
  (hb:∀ N:S->Prop,(∀ (s':S) (ρ:cP),kh ρ n0 (mk s) s'->N s')->ik P E F (.go (.code C::.hook N::k) s True))
  (hk:ik P E F (.go k (mk s) True)):ik P E F (.go (.code C::k) s c):=by
 refine⟨hc,?_⟩
 have h1:=(hb (fun s'=>∃ ρ,kh ρ n0 (mk s) s') fun s' ρ h=>⟨ρ,h⟩).2
 refine iq h1 fun e s' he=>?_
 cases e with
 |normal=>
  obtain⟨ρ,hw⟩:=he
  exact De hE hw hok hk.2
 |_=>exact he
theorem ny {a b:Nat} (h:a≠b):∀ {l:List Nat},co l a b=true->co l b a=true->False
 |[],x,y=>by
  simp only [co,decide_eq_true_eq] at x y
  omega
 |i::l,x,y=>by
  simp only [co] at x y
  by_cases ha:i=a
  ·subst ha
   rw [if_neg h,if_pos rfl] at y
   cases y
  rw [if_neg ha] at x
  by_cases hb:i=b
  ·rw [if_pos hb] at x
   cases x
  rw [if_neg hb] at x
  rw [if_neg hb,if_neg ha] at y
  exact ny h x y
theorem rC {a b c:Nat} (h1:a≠b) (h2:b≠c) (h3:a≠c):∀ {l:List Nat},co l a b=true->co l b c=true->co l a c=true
 |[],x,y=>by
  simp only [co,decide_eq_true_eq] at x y⊢
  omega
 |i::l,x,y=>by
  simp only [co] at x y⊢
  by_cases ha:i=a
  ·rw [if_pos ha]
  rw [if_neg ha] at x⊢
  by_cases hb:i=b
  ·rw [if_pos hb] at x
   cases x
  rw [if_neg hb] at x y
  by_cases hc:i=c
  ·rw [if_pos hc] at y
   cases y
  rw [if_neg hc] at y⊢
  exact rC h1 h2 h3 x y
def Df (C:List (Nat×Nat)):Nat->Nat->Nat->Bool
 |0,_,_=>false
 |n+1,a,b=>C.any fun u=>u.1 == a && (u.2 == b || Df C n u.2 b)
theorem rD {C:List (Nat×Nat)} {l:List Nat} (hC:∀ u∈C,u.1≠u.2/\co l u.1 u.2=true):∀ (n a b:Nat),Df C n a b=true->a≠b/\co l a b=true
 |0,_,_,h=>by simp [Df] at h
 |n+1,a,b,h=>by
  simp only [Df] at h
  obtain⟨u,hu,hh⟩:=R0.1 h
  simp only [RQ,RW,beq_iff_eq] at hh
  obtain⟨h0,hh⟩:=hh
  obtain⟨h1,h2⟩:=hC u hu
  rw [h0] at h1 h2
  rcases hh with h5|h5
  ·rw [h5] at h1 h2
   exact⟨h1,h2⟩
  obtain⟨h3,h4⟩:=rD hC n _ _ h5
  by_cases he:a=b
  ·rw [he] at h1 h2
   exact (ny h1 h2 h4).elim
  exact⟨he,rC h1 h3 he h2 h4⟩
def Kz (X:List (Nat×Nat)):List (Nat×Nat)->Bool
 |[]=>false
 |u::ex=>Df (ex++X) 8 u.2 u.1
def IT (P:Program) (r:Array Oper) (T:List Nat) (X:List (Nat×Nat)) (os:List (List Nat)):List (Nat×Nat)->List (Nat×Nat)->Bool
 |[],ex=>Kz X ex || os.any fun σ=>Ff P r T ex σ
 |u::U,ex=>Kz X ex || (IT P r T X os U (u::ex) && IT P r T X os U ((u.2,u.1)::ex))
theorem wv {X ex:List (Nat×Nat)} {l:List Nat} (hX:∀ u∈X,u.1≠u.2/\co l u.1 u.2=true) (hex:∀ u∈ex,u.1≠u.2/\co l u.1 u.2=true) (h:Kz X ex=true):False:=by
 cases ex with
 |nil=>simp [Kz] at h
 |cons u ex=>
  simp only [Kz] at h
  obtain⟨h1,h2⟩:=rD (l:=l) (fun v hv=>by
   rcases R6.1 hv with hv|hv
   ·exact hex v (R_ _ hv)
   exact hX v hv) _ _ _ h
  exact ny h1 h2 (hex u (SL ..)).2
theorem pZ {P:Program} {r:Array Oper} {T:List Nat} {X:List (Nat×Nat)} {os:List (List Nat)} {l:List Nat} (hX:∀ u∈X,u.1≠u.2/\co l u.1 u.2=true):
  ∀ {U ex:List (Nat×Nat)},(∀ u∈U,u.1≠u.2)->(∀ u∈ex,u.1≠u.2/\co l u.1 u.2=true)->IT P r T X os U ex=true->∃ ex':List (Nat×Nat),(∀ u∈ex',u.1≠u.2/\co l u.1 u.2=true)/\∃ σ∈os,Ff P r T ex' σ=true
 |[],ex,hU,hex,h=>by
  simp only [IT,RW] at h
  rcases h with h|h
  ·exact (wv hX hex h).elim
  obtain⟨σ,h1,h2⟩:=R0.1 h
  exact⟨ex,hex,σ,h1,h2⟩
 |(x,y)::U,ex,hU,hex,h=>by
  simp only [IT,RW,RQ] at h
  rcases h with h|⟨ha,hb⟩
  ·exact (wv hX hex h).elim
  have hne:x≠y:=hU (x,y) (SL ..)
  rcases mb hne (l:=l) with h3|h3
  ·refine pZ hX (fun u hu=>hU u (R_ _ hu)) (fun u hu=>?_) ha
   rcases RY.1 hu with rfl|hu
   ·exact⟨hne,h3⟩
   exact hex u hu
  refine pZ hX (fun u hu=>hU u (R_ _ hu)) (fun u hu=>?_) hb
  rcases RY.1 hu with rfl|hu
  ·exact⟨hne.symm,h3⟩
  exact hex u hu
def FJ (P:Program) (r:Array Oper) (U X:List (Nat×Nat)) (os:List (List Nat)):Bool:=
 rz r && U.all (fun u=>u.1 != u.2) && X.all (fun u=>u.1 != u.2 && (Dd r u.1 u.2 && decide (u.1 < r.size))) && os.all (fun σ=>σ.length == r.size && (List.range r.size).all σ.contains && σ.all fun i=>decide (i < r.size)) &&
 (let T:=Hw r;IT P r T X os U [])
theorem IU {P:Program} {E:Entry} {id:Nat} {r:Array Oper} {U X:List (Nat×Nat)} {os:List (List Nat)} (hP:P.follows .mixedOrders=true) (hcov:FJ P r U X os=true) {s:S} {K:S->Prop}
  (h:∀ σ∈os,∃ s',BB P r σ s s'/\∀ β a w,Sim E β s' a w->∃ β' t,K t/\Sim E β' t a w):ur P E (.region id r true) s fun e s'=>e=.normal/\K s':=by
 intro β a w hs Q hQ
 refine wp_region_draw fun t=>?_
 simp only [Region.schedule,hP,Sz,if_true]
 simp only [FJ,RQ] at hcov
 obtain⟨⟨⟨⟨hback,hU⟩,hX⟩,hperm⟩,hch⟩:=hcov
 have hd:=nv (r:=r) r.size t (Array.replicate r.size false)
 have hXb:∀ v∈X,v.1≠v.2/\co (Region.linearise .any r t) v.1 v.2=true:=by
  intro v hv
  have hx:=RS.1 hX v hv
  simp only [RQ,bne_iff_ne,ne_eq,decide_eq_true_eq] at hx
  obtain⟨h1,h5,h6⟩:=hx
  refine⟨h1,?_⟩
  unfold Dd at h5
  split at h5
  ·rename_i o ho
   obtain⟨e,he,he2⟩:=R0.1 h5
   simp only [RQ,beq_iff_eq] at he2
   exact jP hback hd ho he he2.1 he2.2 zP (by simp [RR,h6])
  cases h5
 obtain⟨ex,hbef,σ,hσ,hok⟩:=pZ hXb (fun u hu=>by
  have:=RS.1 hU u hu
  simpa using this) (fun u hu=>by cases hu) hch
 have hp:=RS.1 hperm σ hσ
 simp only [RQ,beq_iff_eq,RS,Sk,decide_eq_true_eq] at hp
 obtain⟨⟨hlen,hall⟩,hlt⟩:=hp
 obtain⟨s',hrun,hK⟩:=h σ hσ
 have hs2:Sim E β s a { w with drawn:=w.drawn+1 }:=⟨hs.dfr,hs.sl,⟨hs.hp.len,hs.hp.ob,hs.hp.flat,hs.hp.apart⟩,hs.ent,⟨hs.st.le,hs.st.os,hs.st.tape,hs.st.output,hs.st.size,hs.st.block,hs.st.len,hs.st.old,hs.st.fresh⟩⟩
 refine mc hback (fun β' a' w' hs'=>let⟨β2,t2,hk2,hs2⟩:=hK β' a' w' hs';hQ .normal t2 β2 a' w' ⟨rfl,hk2⟩ hs2) (Region.linearise .any r t) r.size _ σ s β a _ hd zP zO (fun i=>?_) (fun i o ho hl=>?_) hok (fun p q hpq _ _=>(hbef (p,q) (R9.1 hpq)).2) hrun hs2
 ·constructor
  ·intro hi
   refine⟨hlt i hi,?_⟩
   simp [RR,hlt i hi]
  rintro⟨hi,_⟩
  simpa using hall i hi
 exfalso
 simp only [RR,Sa] at hl
 split at hl<;>cases hl
theorem bO {P:Program} {E:Entry} {F:S->Prop} {id:Nat} {r:Array Oper} {C:Code} {k:List gg} {s:S} {c:Prop} (U X:List (Nat×Nat)) (os:List (List Nat)) (n0:Nat) (hE:E.h.length=n0) (mk:S->S) (hP:P.follows .mixedOrders=true) (hc:c) (hcov:FJ P r U X os=true)
  (h:bf (fun σ=>tp P r (fun s'=>∃ ρ,kh ρ n0 (mk s) s') (.go σ s True)) os) (ht:ik P E F (.go (.code C::k) (mk s) True)):ik P E F (.draw id r (.code C::k) s c):=by
 refine⟨hc,iq (IU hP hcov (K:=fun s'=>∃ ρ,kh ρ n0 (mk s) s') fun σ hσ=>let⟨s',h1,h2⟩:=(lD h σ hσ).2;⟨s',h1,fun β a w hs=>⟨β,s',h2,hs⟩⟩) fun e s' hk=>?_⟩
 obtain⟨rfl,ρ,hw⟩:=hk
 exact tw hE hw ht.2
end
section
open Go.RowKit
def Py (g:Nat) (tab:List (List UInt8)) (β:Be) (h:Hp) (w:World):Prop:=
 g < w.heap.size/\(∀ (j:Nat) (l:List UInt8),tab[j]? =some l->w.cell? ⟨g,j,none⟩=some (.string ⟨l.toArray⟩))/\¬ Own β h g
def GE (g:Nat) (tab:List (List UInt8)) (E:Entry):Prop:=Py g tab E.β E.h E.w
section
variable {P:Program} {g:Nat} {tab:List (List UInt8)}
theorem Py.step {β β':Be} {h h':Hp} {w w':World} (hg:Py g tab β h w) (hl:β.length=h.length) (hs:StepR β β' h h' w w'):Py g tab β' h' w':=by
 have e:=hs.block g hg.1 hg.2.2
 refine⟨Nat.lt_of_lt_of_le hg.1 hs.size,fun j l hj=>?_,fun ho=>?_⟩
 ·have:=hg.2.1 j l hj
  simp only [World.cell?] at this⊢
  rw [e]
  exact this
 rcases hs.own hl ho with h|h
 ·exact hg.2.2 h
 exact absurd hg.1 zO
def Ox (P:Program) (g:Nat) (tab:List (List UInt8)) (f:FuncId) (args:List AV) (h:Hp) (res:AV) (h':Hp):Prop:=
 vS P f/\∀ β w vs,Py g tab β h w->HSim β h w->L2 (gm β) args vs->Calls P f vs.toArray w fun e w'=>∃ β' v,e=.returned v/\gm β' res v/\HSim β' h' w'/\StepR β β' h h' w w'
theorem Ox.e {E:Entry} (hG:GE g tab E) {f:FuncId} {args0 avs:List AV} {s h0':Hp} {res0:AV} (ct:Ox P g tab f args0 [] res0 h0') (hm:pU [] args0 avs):Hi P E f avs s (kL [] s.length res0) (ew [] [] h0' s):=by
 refine⟨ct.1,fun β w vs hl hst hs hvs=>?_⟩
 have hg:=Py.step hG hl hst
 exact C7 [] hm (show kJ [] s [] [] from trivial) rfl (fun vs h1 h2=>ct.2 _ w vs ⟨hg.1,hg.2.1,fun⟨o,ob,p,h,_⟩=>by simp at h⟩ h1 h2) hs hvs
end
end
end Go.Proofs.YteknmpdmhiomgaaGreat
