/- Lemmas of this claim. -/
import Derived.Test.YtdiiopjaebnmfaaGreatDoorZFnScriptsA
set_option maxHeartbeats 16000000
set_option maxRecDepth 100000
set_option linter.unusedVariables false
set_option linter.unusedSimpArgs false
namespace Go.Proofs.YtdiiopjaebnmfaaGreatDoor
open _root_.Go.Proofs.Tryz
open _root_.List renaming getD_eq_getElem?_getD->Ru,getElem?_eq_some_iff->Rv,getElem?_append_left->Rw,getElem?_cons_succ->Rz,getElem?_append_right->RA,getElem?_eq_getElem->RC,getElem?_cons_zero->RD,mem_of_getElem?->RF,all_eq_true->RG,getElem?_eq_none->RK,getElem?_take_of_lt->RQ,getElem?_drop->RR,mem_cons->RS,eq_nil_of_length_eq_zero->RV,getD_cons_zero->RZ,getD_cons_succ->R0,mem_append->R1,length_append->R2,getElem?_map->R3,length_cons->R4,mem_of_mem_drop->R7,mem_of_mem_take->R8,getElem?_set_ne->R9,mem_range->R_,cons_append->Sd,length_nil->Se,nodup_cons->Sf,getElem?_set_self->Sg,getElem?_toArray->Sh,getElem?_range->Si,replicate_succ->Sj,mem_map->Sk,contains_cons->Sl,getElem?_set->Sm,nodup_append->Sn,mem_flatMap->Sq,append_nil->Sr,nil_append->Ss,take_zero->Su,drop_zero->Sv,map_cons->Sw,set_comm->Sx,map_nil->Sz
open _root_.Bool renaming and_eq_true->Rx,or_eq_true->RJ,not_eq_true'->RT
open _root_.Option renaming getD_some->Ry,map_some->RO,map_eq_some_iff->RU,bind_some->Sp
open _root_.Array renaming getD_eq_getD_getElem?->RB,getElem?_eq_getElem->RE,getElem?_eq_some_iff->RP,getElem?_append_left->RY,all_eq_true_iff_forall_mem->R5
open _root_.Nat renaming add_mul->RH,le_refl->RI,lt_or_ge->RL,zero_add->RM,mul_le_mul_right->R6,lt_trichotomy->Sa,zero_le->So,mul_comm->Sy,add_zero->SA,mod_lt->SB
open _root_.Go.Result renaming andThen_ok->RW
open _root_.Go.Sem renaming run_bind->RX,run_pure->Sb
section
open Go.RowKit
section
variable {P:Program} {β:Be} {s:S} {a:Act} {w:World} {o:Oper} {r:OpR} {ty:TypeId}
theorem f7 {t e:TypeId} (ht:NU P t=some e) (hi:(P.info? e).isSome=true) (ty:TypeId) (ad ad':Option Addr) (n c' c:Nat) (h:n<=c'):
  (Builtin.append_ #[t,t] ty #[.slice ad' n c',.slice ad 0 c]).run P w=.ok (.slice ad' n c') w:=by
 obtain⟨i,hi⟩:=Option.isSome_iff_exists.1 hi
 cases ad<;>cases ad'<;>simp [Builtin.append_,run_underlying (f5 ht),sizeOf,typeInfo,hi,Builtin.lenOf,h,Builtin.firstCells,loadCells,loadCellsFrom,storeCells]
theorem l6 {arr:Array Value} {base esz:Nat} {cs:List (List Sc)} (hc:dT β arr base esz cs) (off len:Nat) (hb:off+len<=cs.length):
  ∃ news:List Value,news.length=len*esz/\(∀ j u,news[j]? =some u->arr[base+off*esz+j]? =some u)/\(∀ u∈news,u.oneCell'=true)/\
   (∀ k c,((cs.drop off).take len)[k]? =some c->c.length=esz/\∀ j x,c[j]? =some x->∃ v,news[k*esz+j]? =some v/\ScR β x v):=by
 have key:∀ i,i < len*esz->∃ v x,arr[base+off*esz+i]? =some v/\ScR β x v:=by
  intro i hi
  have hpos:0 < esz:=by
   rcases Nat.eq_zero_or_pos esz with h|h
   ·subst h;simp at hi
   exact h
  have hk:i / esz < len:=Nat.div_lt_of_lt_mul (by rw [Sy];exact hi)
  obtain⟨c,x,v,_,_,h3,h4⟩:=sJ hc hb hk (SB i hpos)
  refine⟨v,x,?_,h4⟩
  rw [<-h3]
  congr 1
  have:=Nat.div_add_mod i esz
  rw [RH]
  rw [Sy esz] at this
  omega
 refine⟨(List.range (len*esz)).map fun i=>(arr[base+off*esz+i]?).getD undef,zP,?_,?_,?_⟩
 ·intro j u hu
  have hj:j < len*esz:=by have:=(Rv.1 hu).1;simpa using this
  simp only [R3,Si hj,RO,Option.some.injEq] at hu
  obtain⟨v,x,hv,_⟩:=key j hj
  rw [hv] at hu⊢
  simpa using hu
 ·intro u hu
  simp only [Sk,R_] at hu
  obtain⟨i,hi,rfl⟩:=hu
  obtain⟨v,x,hv,hr⟩:=key i hi
  rw [hv]
  exact hr.one
 intro k c hk
 have hkl:k < len:=by have:=(Rv.1 hk).1;simp at this;omega
 rw [RQ hkl,RR] at hk
 obtain⟨hl,hcell⟩:=hc _ _ hk
 refine⟨hl,fun j x hj=>?_⟩
 obtain⟨v,hv,hr⟩:=hcell j x hj
 have hjl:j < esz:=by have:=(Rv.1 hj).1;omega
 have hlt:k*esz+j < len*esz:=by
  have:(k+1)*esz<=len*esz:=R6 _ hkl
  rw [RH] at this
  omega
 refine⟨v,?_,hr⟩
 simp only [R3,Si hlt,RO]
 rw [show base+off*esz+(k*esz+j)=base+(off+k)*esz+j from by rw [RH];omega,hv]
 rfl
theorem kh {arr:Array Value} {esz:Nat} {cs ds:List (List Sc)} {olds news:List Value} (ho:olds.length=cs.length*esz)
  (h1:∀ (k:Nat) (c:List Sc),cs[k]? =some c->c.length=esz/\∀ (j:Nat) (x:Sc),c[j]? =some x->∃ v,olds[k*esz+j]? =some v/\ScR β x v)
  (h2:∀ (k:Nat) (c:List Sc),ds[k]? =some c->c.length=esz/\∀ (j:Nat) (x:Sc),c[j]? =some x->∃ v,news[k*esz+j]? =some v/\ScR β x v)
  (ha:∀ (i:Nat) (v:Value),(olds++news)[i]? =some v->arr[i]? =some v):dT β arr 0 esz (cs++ds):=by
 intro k c hk
 rcases RL k cs.length with hlt|hge
 ·rw [Rw hlt] at hk
  obtain⟨hl,hc⟩:=h1 k c hk
  refine⟨hl,fun j x hj=>?_⟩
  obtain⟨v,hv,hr⟩:=hc j x hj
  refine⟨v,?_,hr⟩
  rw [RM]
  refine ha _ _ ?_
  rw [Rw (Rv.1 hv).1]
  exact hv
 rw [RA hge] at hk
 obtain⟨hl,hc⟩:=h2 _ c hk
 refine⟨hl,fun j x hj=>?_⟩
 obtain⟨v,hv,hr⟩:=hc j x hj
 refine⟨v,?_,hr⟩
 rw [RM]
 refine ha _ _ ?_
 have e:k*esz+j=olds.length+((k - cs.length)*esz+j):=by
  have:k*esz=(cs.length+(k - cs.length))*esz:=by congr 1;omega
  rw [RH] at this
  omega
 rw [e,RA zO,Nat.add_sub_cancel_left]
 exact hv
theorem D1 (hl:β.length=s.hp.length) (n:Nat):StepR β β s.hp (s.hp.set n none) w w:=
 ⟨Be.le.refl _,rfl,rfl,rfl,RI _,fun _ _ _=>rfl,zP,fun o ob' hlt ho=>by
  rw [Sm] at ho
  split at ho
  ·split at ho<;>cases ho
  ·exact⟨ob',ho,id⟩,fun o ob p hge ho _=>by
  rw [RK (by simpa using hge)] at ho
  cases ho⟩
theorem ii {h:Hp} {n:Nat} {new:AObj} {o:Nat} {x:AObj} (hx:(h.set n none++[some new])[o]? =some (some x)):(o < h.length/\o≠n/\h[o]? =some (some x))\/(o=h.length/\x=new):=by
 have hl:(h.set n none).length=h.length:=by simp
 rcases Sa o h.length with hlt|he|hgt
 ·rw [Rw zO,Sm] at hx
  split at hx
  ·split at hx<;>cases hx
  rename_i hne
  exact .inl ⟨hlt,Ne.symm hne,hx⟩
 ·subst he
  rw [RA zO] at hx
  simp at hx
  exact .inr ⟨rfl,hx.symm⟩
 rw [RA zO,RK zS] at hx
 cases hx
theorem uC {h:Hp} (hs:HSim β h w) {n:Nat} {ob:AObj} {p:Pl} (ho:h[n]? =some (some ob)) (hown:ob.own=true) (hp:β[n]? =some (some p)) {w':World} {arr':Array Value} {T:TypeId}
  (hh:w'.heap[p.blk]? =some (.cells arr' T (0,0))) (hk:∀ k,k≠p.blk->w'.heap[k]? =w.heap[k]?) (new:AObj) (he:p.esz=new.esz) (hc:dT (β++[some p]) arr' 0 new.esz new.cs) (hT:T=new.ty) (hbase:p.base=0) (hav:p.avail=arr'.size) (hfl:new.fl=true->FlatL new.cs):
  HSim (β++[some p]) (h.set n none++[some new]) w':=by
 have hle:=Be.le_append β [some p]
 have kb:∀ {o:Nat} {q:Option Pl},o < h.length->(β++[some p])[o]? =some q->β[o]? =some q:=by
  intro o q ho hq
  rwa [Rw (by rw [hs.len];exact ho)] at hq
 have kn:(β++[some p])[h.length]? =some (some p):=by rw [<-hs.len];simp
 refine⟨by simp [hs.len],fun o x hx=>?_,fun o x hx hf=>by rcases ii hx with⟨_,_,hx⟩|⟨_,rfl⟩;exact hs.flat o x hx hf;exact hfl hf,fun o o' x x' q q' hx hx' hxo hq hq' hne=>?_⟩
 ·rcases ii hx with⟨hlt,hne,hx⟩|⟨rfl,rfl⟩
  ·obtain⟨q,hq,hr⟩:=hs.ob o x hx
   refine⟨q,hle _ _ hq,(hr.world fun q' hq'=>?_).mono hle⟩
   subst hq'
   exact hk _ (hs.apart n o ob x p q' ho hx hown hp hq (Ne.symm hne)).symm
  exact⟨some p,kn,he,arr',T,(0,0),hh,by rw [hbase];exact hc,fun _=>⟨hT,rfl,hbase,hav⟩⟩
 rcases ii hx with⟨hlt,h1,h1'⟩|⟨rfl,rfl⟩
 ·rcases ii hx' with⟨hlt',h2,h2'⟩|⟨rfl,rfl⟩
  ·exact hs.apart o o' x x' q q' h1' h2' hxo (kb hlt hq) (kb hlt' hq') hne
  rw [kn] at hq'
  simp only [Option.some.injEq] at hq'
  subst hq'
  exact (hs.apart n o ob x p q ho h1' hown hp (kb hlt hq) (Ne.symm h1)).symm
 rw [kn] at hq
 simp only [Option.some.injEq] at hq
 subst hq
 rcases ii hx' with⟨hlt',h2,h2'⟩|⟨rfl,rfl⟩
 ·exact hs.apart n o' ob x' p q' ho h2' hown hp (kb hlt' hq') (Ne.symm h2)
 exact absurd rfl hne
theorem sK {h:Hp} (hs:HSim β h w) {n:Nat} (hn:n < h.length) {ob:AObj} {p:Pl} (ho:h[n]? =some (some ob)) (hown:ob.own=true) (hp:β[n]? =some (some p)) {w':World}
  (hlike:World.like w w') (hsz:w.heap.size<=w'.heap.size) (hk:∀ k,k≠p.blk->w'.heap[k]? =w.heap[k]?) (new:AObj):StepR β (β++[some p]) h (h.set n none++[some new]) w w':=
 ⟨Be.le_append _ _,hlike.1,hlike.2.1,hlike.2.2,hsz,fun k _ hno=>hk k (fun hb=>hno ⟨n,ob,p,ho,hown,hp,hb.symm⟩),zP,fun o ob' hlt ho'=>by
  rcases ii ho' with⟨_,_,h1⟩|⟨rfl,_⟩
  ·exact⟨ob',h1,id⟩
  ·omega,fun o ob' q hge ho' hq=>by
  rcases ii ho' with⟨h1,_,_⟩|⟨rfl,_⟩
  ·omega
  rw [<-hs.len] at hq
  simp at hq
  subst hq
  exact .inl ⟨n,ob,p,ho,hown,hp,rfl⟩⟩
theorem dL (x y:Operand) (t:TypeId) (ho:o.op=.call ⟨.builtin .append,#[x,y],#[t,t]⟩) {v:Value} {w':World} (h:(Builtin.append_ #[t,t] o.type #[a.eval x,a.eval y]).run P w=.ok v w'):(execOp a.eval o).run P w=.ok (.value v) w':=by
 unfold execOp
 rw [ho]
 simp only [resolve,invoke,builtin,RX,Sb,RW,List.map_toArray,Sw,Sz,h]
theorem yh {h h':Hp} (hs:HSim β h w) (hs':HSim β h' w) (hst:StepR β β h h' w w) {t e:TypeId} {i:TypeInfo} {z:Value} (ht:NU P t=some e) (hi:P.info? e=some i) (hz:i.zero=some z) (hzs:z.cells.size=i.size)
  {ad':Option Addr} {n cap':Nat} {olds:List Value} (hlo:olds.length=n*i.size) (holds:(ad'=none/\n=0)\/∃ b,ad'=some b/\∀ j v,olds[j]? =some v->w.cell? (b.add j)=some v) (hnn:ad'=none->n=0/\cap'=0)
  {b:Addr} {m c:Nat} {news:List Value} (hl:news.length=m*i.size) (hnews:∀ j v,news[j]? =some v->w.cell? (b.add j)=some v) (hg:cap' < n+m) (hm:0 < m) (hsm:n+m<=1073741824) (hby:i.bytes<=131072)
  {cs:List (List Sc)} {fl:Bool} (hcs:dT β (olds++news).toArray 0 i.size cs) (hfl:fl=true->FlatL cs) (ty:TypeId):
  ∃ β' w' v,(Builtin.append_ #[t,t] ty #[.slice ad' n cap',.slice (some b) m c]).run P w=.ok v w'/\StepR β β' h (h'++[some ⟨cs,i.size,e,true,fl⟩]) w w'/\HSim β' (h'++[some ⟨cs,i.size,e,true,fl⟩]) w'/\ScR β' (.sl h'.length 0 (n+m)) v:=by
 have hbytes:(n+m)*i.bytes<=140737488355328:=by
  have:(n+m)*i.bytes<=1073741824*131072:=Nat.mul_le_mul hsm hby
  omega
 have hge:=grownCap_ge w (n+m) cap' e
 have hcm:grownCap w (n+m) cap' e<=maxLen:=grownCap_le_maxLen w (n+m) cap' e (by unfold maxLen;omega)
 have hrun:(Builtin.append_ #[t,t] ty #[.slice ad' n cap',.slice (some b) m c]).run P w=
   .ok (.slice (some ⟨w.heap.size,0,none⟩) (n+m) (grownCap w (n+m) cap' e)) (w.drew.alloc (.cells (olds.toArray++news.toArray++Builtin.zeroCells z.cells (grownCap w (n+m) cap' e - (n+m))) e)):=by
  cases ad' with
  |none=>
   obtain⟨rfl,rfl⟩:=hnn rfl
   have ho0:olds=[]:=RV (by simpa using hlo)
   subst ho0
   have:=run_append_nil (P:=P) w t ty e i z (f5 ht) hi hz b m c news hl hnews hm zO (by have hb:=hbytes;simp only [RM] at hb;omega)
   simp only [RM,Array.empty_append] at this⊢
   exact this
  |some b'=>
   rcases holds with⟨h0,_⟩|⟨b'',hb'',hold⟩
   ·cases h0
   cases hb''
   exact run_append_grow (P:=P) w t ty e i z (f5 ht) hi hz b' n cap' olds hlo hold b m c news hl hnews hg zO (growslice_fits hg hbytes)
 let arr:Array Value:=olds.toArray++news.toArray++Builtin.zeroCells z.cells (grownCap w (n+m) cap' e - (n+m))
 have hsize:arr.size=grownCap w (n+m) cap' e*i.size:=by
  show (olds.toArray++news.toArray++Builtin.zeroCells z.cells (grownCap w (n+m) cap' e - (n+m))).size=_
  simp only [Array.size_append,List.size_toArray,size_zeroCells,hzs,hlo,hl,<-RH]
  congr 1
  omega
 let p:Pl:=⟨w.heap.size,0,i.size,arr.size⟩
 let w':World:=w.drew.alloc (.cells arr e)
 have hle:=Be.le_append β [some p]
 have hlike:World.like w w':=⟨rfl,rfl,rfl⟩
 have hold':∀ k,k < w.heap.size->w'.heap[k]? =w.heap[k]? :=fun k hk=>(by first|exact heap_alloc_old w.drew _ k hk|exact heap_alloc_old w.drew _ hk)
 have hca:dT β arr 0 i.size cs:=by
  intro k c hk
  obtain⟨h1,h2⟩:=hcs k c hk
  refine⟨h1,fun j x hj=>?_⟩
  obtain⟨v,hv,hr⟩:=h2 j x hj
  refine⟨v,?_,hr⟩
  have hv':(olds.toArray++news.toArray)[0+k*i.size+j]? =some v:=by
   rw [List.append_toArray];exact hv
  show (olds.toArray++news.toArray++Builtin.zeroCells z.cells (grownCap w (n+m) cap' e - (n+m)))[0+k*i.size+j]? =some v
  rw [RY (RP.1 hv').1]
  exact hv'
 have hsz':w.heap.size<=w'.heap.size:=by
  show w.heap.size<=(w.drew.alloc _).heap.size
  simp
 refine⟨β++[some p],w',_,hrun,?_,?_,?_⟩
 ·exact StepR.trans hs.len hs'.len hst (lY hs'.len hlike hsz' hold' p _ (RI _))
 ·exact ot hs' hold' (RI _) ⟨rfl,arr,e,(0,0),heap_alloc_new w.drew _,hca.mono hle,fun _=>⟨rfl,rfl,rfl,rfl⟩⟩ hfl
 exact⟨_,_,rfl,hge,hcm,.inr ⟨p,by rw [<-hs'.len];simp,by simp [p],by simp [p,hsize]⟩⟩
theorem He (hs:HSim β s.hp w) (hsl:SlotsR β s.sl a.tmps) (args:Array Operand) (at_:Array TypeId) (ho:o.op=.call ⟨.builtin .append,args,at_⟩) (h:bR P s ty (.call ⟨.builtin .append,args,at_⟩)=some r) (hc:r.c):ia β s r w ((execOp a.eval o).run P w):=by
 simp only [bR] at h
 split at h
 ·rename_i x y t t' ha ht
  have ha':=jV ha
  have ht':=jV ht
  subst ha';subst ht'
  split at h
  ·rename_i htt
   subst htt
   split at h
   ·rename_i u v hx hy
    have hvx:=dG hsl hx
    have hvy:=dG hsl hy
    unfold m9 at h
    split at h
    ·cases h
    rename_i e sz he0
    obtain⟨he,_,rfl⟩:=gj he0
    split at h
    ·cases h
    rename_i z hz0
    obtain⟨hz,hzl,hpos,_,hby,_⟩:=lZ hz0
    obtain⟨i,zv,zs,hi,hzv,hvc,hsc⟩:=js hz
    have hti:=uz hi
    have hinfo:(P.info? e).isSome=true:=by simp [hi]
    have hzs:zv.cells.size=i.size:=by
     have:=(uy β hsc).length
     rw [hvc];simp;omega
    have hby':i.bytes<=131072:=by
     have:OT P e=i.bytes:=by simp [OT,hi]
     omega
    split at h
    ·
     rename_i n off len
     simp only [Option.some.injEq] at h
     subst h
     have hv1:ScR β (.sl n off len) (a.eval x):=hvx
     obtain⟨ad,hye⟩:ScR β .nil (a.eval y):=hvy
     obtain⟨ad',cap',hxe,hlc,hrest⟩:=hv1
     exact bM hs (dL x y t ho (by rw [hxe,hye];exact f7 he hinfo _ _ _ _ _ _ hlc)) ⟨ad',cap',rfl,hlc,hrest⟩
    ·simp only [Option.some.injEq] at h
     subst h
     obtain⟨ad',hxe⟩:ScR β .nil (a.eval x):=hvx
     obtain⟨ad,hye⟩:ScR β .nil (a.eval y):=hvy
     exact bM hs (dL x y t ho (by rw [hxe,hye];exact f7 he hinfo _ _ _ _ _ _ (RI _))) ⟨ad',rfl⟩
    ·rename_i n off len
     obtain⟨ad',hxe⟩:ScR β .nil (a.eval x):=hvx
     obtain⟨ad,cap,hye,hlc,hcm,hor⟩:ScR β (.sl n off len) (a.eval y):=hvy
     split at h
     ·rename_i ob hob
      split at h
      ·rename_i hesz
       simp only [Option.some.injEq] at h
       subst h
       obtain⟨hb,hsm⟩:off+len<=ob.cs.length/\len<=1073741824:=hc
       by_cases hl0:len=0
       ·subst hl0
        refine⟨β++[none],w,?_,ya hs zP,.inl ⟨_,_,dL x y t ho (by rw [hxe,hye];exact f7 he hinfo _ _ _ _ _ _ (RI _)),rfl,⟨ad',0,rfl,RI _,So _,.inl rfl⟩⟩⟩
        exact⟨Be.le_append _ _,rfl,rfl,rfl,RI _,fun _ _ _=>rfl,zP,fun o ob' hlt ho=>by
         rw [Rw hlt] at ho;exact⟨ob',ho,id⟩,fun o ob' q hge ho hq=>by
         exfalso
         have he:o=s.hp.length:=by
          rcases Sa o s.hp.length with h1|h1|h1
          ·omega
          ·exact h1
          rw [RA zO,RK zS] at ho;cases ho
         subst he
         rw [<-hs.len] at hq
         simp at hq⟩
       rcases hor with hcap|⟨p,hp,rfl,hav⟩
       ·omega
       obtain⟨he',arr,T,fz,hh,hcr,_⟩:=ig hs (cZ hob) hp
       obtain⟨news,hnl,hnc,hn1,hnr⟩:=l6 hcr off len hb
       rw [hesz,hti] at hnl hnr hnc
       obtain⟨β',w',v,hrun,hst,hsim,hr⟩:=yh (P:=P) hs hs (StepR.refl β s.hp w hs.len) he hi hzv hzs (ad':=ad') (n:=0) (cap':=0) (olds:=[]) zP (by
        cases ad' with
        |none=>exact .inl ⟨rfl,rfl⟩
        |some b=>exact .inr ⟨b,rfl,zP⟩) (fun _=>⟨rfl,rfl⟩) (b:=⟨p.blk,p.base+off*p.esz,none⟩) (m:=len) (c:=cap) hnl (fun j u hu=>by
         rw [Addr.add_lit,kS hh,he',hesz,hti];exact hnc j u hu) zO zO zO hby' (cs:=(ob.cs.drop off).take len) (by
         have:=kh (arr:=([]++news).toArray) (cs:=[]) (ds:=(ob.cs.drop off).take len) (olds:=[]) (news:=news) (esz:=i.size) zP zP hnr (fun i v hv=>by simpa using hv)
         simpa using this) (fl:=ob.fl) (fun hf c hm=>hs.flat n ob (cZ hob) hf c (R7 (R8 hm))) o.type
       rw [RM] at hr
       refine⟨β',w',?_,?_,.inl ⟨v,_,dL x y t ho (by rw [hxe,hye];exact hrun),rfl,hr⟩⟩
       ·rw [hti];exact hst
       rw [hti];exact hsim
      cases h
     cases h
    ·rename_i n' off' len' n off len
     obtain⟨ad',cap',hxe,hlc',hcm',hor'⟩:ScR β (.sl n' off' len') (a.eval x):=hvx
     obtain⟨ad,cap,hye,hlc,hcm,hor⟩:ScR β (.sl n off len) (a.eval y):=hvy
     split at h
     ·rename_i ob' ob hob' hob
      split at h
      ·rename_i hcond2
       obtain⟨hesz,hesz',hown,hty,hoff,hne⟩:=hcond2
       subst hoff
       simp only [Option.some.injEq] at h
       subst h
       obtain⟨hcl,hb,hsm⟩:ob'.cs.length=len'/\off+len<=ob.cs.length/\len'+len<=1073741824:=hc
       have hflat:(ob'.fl && ob.fl)=true->FlatL (ob'.cs++(ob.cs.drop off).take len):=fun hf c hm=>by
        simp only [Rx] at hf
        rcases R1.1 hm with hm|hm
        ·exact hs.flat n' ob' (cZ hob') hf.1 c hm
        exact hs.flat n ob (cZ hob) hf.2 c (R7 (R8 hm))
       have hkill:=G8 hs n'
       have hstk:=D1 (w:=w) hs.len n' (s:=s)
       have hlen':(s.hp.set n' none).length=s.hp.length:=by simp
       have hn':n' < s.hp.length:=(Rv.1 (cZ hob')).1
       have hplace:(cap'=0/\len'=0/\ob'.cs=[])\/∃ p',β[n']? =some (some p')/\ad'=some ⟨p'.blk,p'.base+0*p'.esz,none⟩/\(0+cap')*p'.esz<=p'.avail:=by
        rcases hor' with h0|h0
        ·exact .inl ⟨h0,zO,RV zO⟩
        exact .inr h0
       by_cases hl0:len=0
       ·subst hl0
        have hrun:=f7 (P:=P) (w:=w) he hinfo o.type ad ad' len' cap' cap hlc'
        rcases hplace with⟨hc0,hl0',hcs0⟩|⟨p',hp',had',hav'⟩
        ·subst hc0;subst hl0'
         refine⟨β++[none],w,?_,ya hkill (by simp [hcs0]),.inl ⟨_,_,dL x y t ho (by rw [hxe,hye];exact hrun),rfl,⟨ad',0,rfl,RI _,So _,.inl rfl⟩⟩⟩
         refine StepR.trans hs.len hkill.len hstk ⟨Be.le_append _ _,rfl,rfl,rfl,RI _,fun _ _ _=>rfl,zP,fun o ob' hlt ho=>by
          rw [Rw hlt] at ho;exact⟨ob',ho,id⟩,fun o ob' q hge ho hq=>by
          exfalso
          have he:o=(s.hp.set n' none).length:=by
           rcases Sa o (s.hp.set n' none).length with h1|h1|h1
           ·omega
           ·exact h1
           rw [RA zO,RK (by simp at h1⊢;omega)] at ho;cases ho
          subst he
          rw [<-hkill.len] at hq
          simp at hq⟩
        obtain⟨he',arr,T,fz,hh,hcr,hown'⟩:=ig hs (cZ hob') hp'
        obtain⟨hT,hf0,hbase,hav⟩:=hown' hown
        subst hf0
        have hcr':dT β arr 0 (dS P e) (ob'.cs++(ob.cs.drop off).take 0):=by
         rw [Su,Sr,<-hesz',<-hbase];exact hcr
        refine⟨β++[some p'],w,?_,?_,.inl ⟨_,_,dL x y t ho (by rw [hxe,hye];exact hrun),rfl,?_⟩⟩
        ·exact sK hs hn' (cZ hob') hown hp' (w':=w) ⟨rfl,rfl,rfl⟩ (RI _) (fun k _=>rfl) _
        ·exact uC hs (cZ hob') hown hp' (w':=w) (arr':=arr) (T:=T) (by simpa using hh) (fun k _=>rfl) ⟨_,dS P e,e,true,ob'.fl && ob.fl⟩ (by rw [he',hesz']) (hcr'.mono (Be.le_append _ _)) (by rw [hT,hty]) hbase hav hflat
        refine⟨ad',cap',by rw [SA],zO,hcm',.inr ⟨p',by rw [<-hs.len];simp,had',hav'⟩⟩
       rcases hor with hcap|⟨p,hp,rfl,hav⟩
       ·omega
       obtain⟨hep,arr,T,fz,hh,hcr,_⟩:=ig hs (cZ hob) hp
       obtain⟨news,hnl,hnc,hn1,hnr⟩:=l6 hcr off len hb
       rw [hesz] at hnl hnr hnc
       have hnews:∀ j u,news[j]? =some u->w.cell? ((⟨p.blk,p.base+off*p.esz,none⟩:Addr).add j)=some u:=fun j u hu=>by
        rw [Addr.add_lit,kS hh,hep,hesz];exact hnc j u hu
       by_cases hroom:len'+len<=cap'
       ·rcases hplace with⟨hc0,_,_⟩|⟨p',hp',had',hav'⟩
        ·omega
        obtain⟨hep',arr',T',fz',hh',hcr',hown'⟩:=ig hs (cZ hob') hp'
        obtain⟨hT,hf0,hbase,havl⟩:=hown' hown
        subst hf0
        have hfit:len'*i.size+news.length<=arr'.size:=by
         have h1:(len'+len)*i.size<=cap'*i.size:=R6 _ hroom
         rw [RH] at h1
         rw [RM,hep',hesz',hti] at hav'
         rw [hnl,hti]
         omega
        have hrun:=run_append_room (P:=P) w t o.type e i (f5 he) hi p'.blk len' cap' arr' (by rw [<-hT.trans hty];exact hh') ⟨p.blk,p.base+off*p.esz,none⟩ len cap news (by rw [hnl,hti]) hnews hn1 hroom hfit
        let arr2:Array Value:=(arr'.toList.take (len'*i.size)++news++arr'.toList.drop (len'*i.size+news.length)).toArray
        have hsz2:arr2.size=arr'.size:=by
         show ((arr'.toList.take (len'*i.size)++news++arr'.toList.drop (len'*i.size+news.length)).toArray).size=_
         simp
         omega
        have hcr2:dT β arr2 0 (dS P e) (ob'.cs++(ob.cs.drop off).take len):=by
         refine kh (olds:=arr'.toList.take (len'*i.size)) (news:=news) ?_ ?_ hnr ?_
         ·simp
          rw [hcl,hti]
          omega
         ·intro k c hk
          obtain⟨h1,h2⟩:=hcr' k c hk
          refine⟨by rw [h1,hesz'],fun j q hj=>?_⟩
          obtain⟨v,hv,hr⟩:=h2 j q hj
          refine⟨v,?_,hr⟩
          rw [hbase,RM,hesz'] at hv
          have hkl:k < len':=by rw [<-hcl];exact (Rv.1 hk).1
          have hjl:j < dS P e:=by have:=(Rv.1 hj).1;omega
          have:k*dS P e+j < len'*i.size:=by
           have h3:(k+1)*dS P e<=len'*dS P e:=R6 _ hkl
           rw [RH] at h3
           rw [<-hti]
           omega
          rw [RQ this,Array.getElem?_toList]
          exact hv
         intro q v hv
         show ((arr'.toList.take (len'*i.size)++news++arr'.toList.drop (len'*i.size+news.length)).toArray)[q]? =some v
         rw [Sh,Rw (Rv.1 hv).1]
         exact hv
        refine⟨β++[some p'],w.setRow p'.blk arr2,?_,?_,.inl ⟨_,_,dL x y t ho (by rw [hxe,hye,had',hbase,Nat.zero_mul];exact hrun),rfl,?_⟩⟩
        ·exact sK hs hn' (cZ hob') hown hp' (w':=w.setRow p'.blk arr2) ⟨rfl,rfl,rfl⟩ zP (fun k hk=>setRow_other w p'.blk k arr2 hk) _
        ·exact uC hs (cZ hob') hown hp' (w':=w.setRow p'.blk arr2) (arr':=arr2) (T:=T') (setRow_heap w p'.blk arr' arr2 T' _ hh') (fun k hk=>setRow_other w p'.blk k arr2 hk) ⟨_,dS P e,e,true,ob'.fl && ob.fl⟩ (by rw [hep',hesz']) (hcr2.mono (Be.le_append _ _)) (by rw [hT,hty]) hbase (by rw [hsz2];exact havl) hflat
        refine⟨_,cap',rfl,hroom,hcm',.inr ⟨p',by rw [<-hs.len];simp,by rw [hbase];simp,hav'⟩⟩
       have hold:∃ olds:List Value,olds.length=len'*i.size/\((ad'=none/\len'=0)\/∃ b,ad'=some b/\∀ j v,olds[j]? =some v->w.cell? (b.add j)=some v)/\(ad'=none->len'=0/\cap'=0)/\
         (∀ (k:Nat) (c:List Sc),ob'.cs[k]? =some c->c.length=i.size/\∀ (j:Nat) (x:Sc),c[j]? =some x->∃ v,olds[k*i.size+j]? =some v/\ScR β x v):=by
        rcases hplace with⟨hc0,hl0',hcs0⟩|⟨p',hp',had',hav'⟩
        ·refine⟨[],by simp [hl0'],?_,fun _=>⟨hl0',hc0⟩,by simp [hcs0]⟩
         cases ad' with
         |none=>exact .inl ⟨rfl,hl0'⟩
         |some b=>exact .inr ⟨b,rfl,zP⟩
        obtain⟨hep',arr',T',fz',hh',hcr',_⟩:=ig hs (cZ hob') hp'
        obtain⟨olds,h1,h2,h3,h4⟩:=l6 hcr' 0 len' zO
        rw [hesz',hti] at h1 h2 h4
        refine⟨olds,h1,.inr ⟨_,had',fun j v hv=>?_⟩,(fun hn=>by rw [had'] at hn;cases hn),?_⟩
        ·rw [Addr.add_lit,kS hh',hep',hesz',hti];exact h2 j v hv
        rw [Sv,List.take_of_length_le zO] at h4
        exact h4
       obtain⟨olds,hol,holds,hnn,hor2⟩:=hold
       rw [hti] at hnl hnr
       obtain⟨β',w',v,hrun,hst,hsim,hr⟩:=yh (P:=P) hs hkill hstk he hi hzv hzs hol holds hnn hnl hnews (c:=cap) zO zO hsm hby' (cs:=ob'.cs++(ob.cs.drop off).take len)
        (kh (by rw [hol,hcl]) hor2 hnr (fun q v hv=>by simpa using hv)) (fl:=ob'.fl && ob.fl) hflat o.type
       rw [hlen'] at hr
       refine⟨β',w',?_,?_,.inl ⟨v,_,dL x y t ho (by rw [hxe,hye];exact hrun),rfl,hr⟩⟩
       ·rw [hti];exact hst
       rw [hti];exact hsim
      cases h
     cases h
    cases h
   cases h
  cases h
 cases h
end
end
section
open Go.RowKit
theorem ro {P:Program} {β:Be} {s:S} {a:Act} {w:World} {o:Oper} {r:OpR} {ty:TypeId} (hs:HSim β s.hp w) (hsl:SlotsR β s.sl a.tmps) (h:bR P s ty o.op=some r) (hc:r.c):ia β s r w ((execOp a.eval o).run P w):=by
 generalize ho:o.op=op at h
 cases op with
 |move x=>exact FW hs hsl x (.inl ho) h
 |assign x=>exact FW (ty:=ty) hs hsl x (.inr ho) (by simpa only [bR] using h)
 |pick c x y=>exact LJ hs hsl c x y ho h
 |alloc e=>exact Ja hs e ho h
 |box e x=>exact NV hs hsl e x ho h
 |build t parts=>exact Jb hs hsl t parts ho h
 |buildSlice t len parts=>exact xC hs hsl t len parts ho h
 |load t x=>exact LK hs hsl t x ho h
 |store t x y=>exact Jc hs hsl t x y ho h
 |nilCheck x=>exact Bt hs hsl x ho h
 |binOp op t x y u=>exact NW hs hsl op t u x y ho h hc
 |unOp op t x=>exact OW hs hsl op t x ho h
 |convert src dst x=>exact D0 hs hsl src dst x ho h hc
 |makeSlice t x y=>exact zz hs hsl t x y ho h hc
 |slice t x lo hi mx=>
  cases mx with
  |none=>exact Jf hs hsl t x lo hi ho h hc
  |some m=>simp only [bR] at h;cases h
 |fieldAddr t x f=>exact zx hs hsl t x f ho h
 |field t x f=>exact Jd hs hsl t x f ho h
 |indexAddr t x i=>exact zy hs hsl t x i ho h hc
 |index t x i=>exact Je hs hsl t x i ho h hc
 |extract x i=>exact DZ hs hsl x i ho h
 |makeFunc f first caps=>
  cases f with
  |func f=>exact Bu hs hsl f first caps ho h
  |_=>simp only [bR] at h;cases h
 |call c=>
  obtain⟨callee,args,at_⟩:=c
  cases callee with
  |builtin b=>
   cases b with
   |len=>exact NX hs hsl args at_ ho h
   |append=>exact He hs hsl args at_ ho h hc
   |min=>exact NY hs hsl args at_ ho h
   |max=>exact NZ hs hsl args at_ ho h
   |_=>simp only [bR] at h;cases h
  |_=>simp only [bR] at h;cases h
 |_=>simp only [bR] at h;cases h
structure Entry where
 β:Be
 h:Hp
 w:World
structure Sim (E:Entry) (β:Be) (s:S) (a:Act) (w:World):Prop where
 dfr:a.defers=[]
 sl:SlotsR β s.sl a.tmps
 hp:HSim β s.hp w
 ent:E.β.length=E.h.length
 st:StepR E.β β E.h s.hp E.w w
def zA (P:Program) (f:FuncId):Prop:=∃ fn,P.funcs[f]? =some fn/\(fn.name == "runtime.NumGoroutine")=false/\fn.body.isNone=false
def gB (P:Program) (f:FuncId) (args:List AV) (h:Hp) (res:AV) (h':Hp):Prop:=
 zA P f/\∀ β w vs,HSim β h w->L2 (f9 β) args vs->Calls P f vs.toArray w fun e w'=>∃ β' v,e=.returned v/\f9 β' res v/\HSim β' h' w'/\StepR β β' h h' w w'
def F1 (P:Program) (E:Entry) (f:FuncId) (args:List AV) (h:Hp) (res:AV) (h':Hp):Prop:=
 zA P f/\∀ β w vs,E.β.length=E.h.length->StepR E.β β E.h h E.w w->HSim β h w->L2 (f9 β) args vs->Calls P f vs.toArray w fun e w'=>∃ β' v,e=.returned v/\f9 β' res v/\HSim β' h' w'/\StepR β β' h h' w w'
theorem gB.e {P:Program} {E:Entry} {f:FuncId} {args:List AV} {h:Hp} {res:AV} {h':Hp} (ct:gB P f args h res h'):F1 P E f args h res h':=
 ⟨ct.1,fun β w vs _ _ hs hv=>ct.2 β w vs hs hv⟩
def Jg (P:Program) (E:Entry) (f:FuncId) (args:List AV) (h:Hp) (R:AV->Hp->Prop):Prop:=
 zA P f/\∀ β w vs,E.β.length=E.h.length->StepR E.β β E.h h E.w w->HSim β h w->L2 (f9 β) args vs->Calls P f vs.toArray w fun e w'=>∃ res h',R res h'/\∃ β' v,e=.returned v/\f9 β' res v/\HSim β' h' w'/\StepR β β' h h' w w'
theorem F1.r {P:Program} {E:Entry} {f:FuncId} {args:List AV} {h:Hp} {res:AV} {h':Hp} {R:AV->Hp->Prop} (ct:F1 P E f args h res h') (hR:R res h'):Jg P E f args h R:=
 ⟨ct.1,fun β w vs h1 h2 h3 h4=>(ct.2 β w vs h1 h2 h3 h4).mono fun e w' hh=>⟨res,h',hR,hh⟩⟩
def S.evs (s:S):List Operand->Option (List AV)
 |[]=>some []
 |x::r=>match s.ev x,s.evs r with
  |some v,some l=>some (v::l)
  |_,_=>none
theorem F2 {β:Be} {s:S} {a:Act} (hs:SlotsR β s.sl a.tmps):∀ {xs:List Operand} {l:List AV},s.evs xs=some l->L2 (f9 β) l (xs.map a.eval)
 |[],l,h=>by simp only [S.evs,Option.some.injEq] at h;subst h;trivial
 |x::r,l,h=>by
  simp only [S.evs] at h
  split at h
  ·rename_i v m hv hm
   simp only [Option.some.injEq] at h
   subst h
   exact⟨dG hs hv,F2 hs hm⟩
  cases h
def l7:List Sc->List AV
 |[]=>[]
 |c::r=>.sc c::l7 r
theorem ud {β:Be}:∀ {l:List Sc} {vs:List Value},L2 (ScR β) l vs->L2 (f9 β) (l7 l) vs
 |[],[],_=>trivial
 |_::_,_::_,h=>⟨h.1,ud h.2⟩
 |[],_::_,h=>h.elim
 |_::_,[],h=>h.elim
def eS (r:Array Oper) (s:S) (o:Oper):Option Bool:=
 match o.guard with
 |none=>some true
 |some (j,want)=>match r[j]? with
  |some oj=>match oj.dst with
   |some d=>match s.sl.get d with
    |some (.sc (.bo b))=>some (b == want)
    |some (.tu [])=>some false
    |_=>none
   |none=>none
  |none=>none
theorem kU {β:Be} {r:Array Oper} {s:S} {a:Act} {o:Oper} {b:Bool} (hs:SlotsR β s.sl a.tmps) (h:eS r s o=some b):Region.wanted o (yielded r a.tmps)=b:=by
 unfold eS at h
 unfold Region.wanted
 split at h
 ·rename_i hg
  simp only [Option.some.injEq] at h
  subst h
  rw [hg]
 rename_i j want hg
 rw [hg]
 dsimp only
 split at h
 ·rename_i oj hj
  split at h
  ·rename_i d hd
   split at h
   ·rename_i x hx
    obtain⟨u,hu,hr⟩:=hs.2 d _ hx
    have hu':u=.bool x:=hr
    subst hu'
    simp only [Option.some.injEq] at h
    subst h
    simp only [yielded,hj,hd,Sp,hu]
    cases x<;>cases want<;>rfl
   ·rename_i hx
    obtain⟨u,hu,vs,hr,hl⟩:=hs.2 d _ hx
    simp only [Option.some.injEq] at h
    subst h
    cases vs with
    |nil=>
     subst hr
     simp [yielded,hj,hd,hu]
    |cons=>exact hl.elim
   cases h
  cases h
 cases h
def uD (P:Program) (E:Entry) (r:Array Oper) (l:List Oper) (s:S) (K:S->Prop):Prop:=
 ∀ β a w,Sim E β s a w->∀ Q:Exit->Act->World->Prop,(∀ s' β' a' w',K s'->Sim E β' s' a' w'->Q .normal a' w')->wpList P r Q l a w
def sL (P:Program) (E:Entry) (C:Code) (s:S) (K:Exit->S->Prop):Prop:=
 ∀ β a w,Sim E β s a w->∀ Q:Exit->Act->World->Prop,(∀ e s' β' a' w',K e s'->Sim E β' s' a' w'->Q e a' w')->C.wp P Q a w
theorem f8 {E:Entry} {β β':Be} {s:S} {a:Act} {w w':World} {h':Hp} (hs:Sim E β s a w) (hst:StepR β β' s.hp h' w w') (hh:HSim β' h' w') (d:Option Tmp) {av:AV} {v:Value} (hv:f9 β' av v):
  Sim E β' (s.put d (some av) h') (a.put d v) w':=by
 have hstep:StepR E.β β' E.h h' E.w w':=StepR.trans hs.ent hs.hp.len hs.st hst
 cases d with
 |none=>exact⟨hs.dfr,hs.sl.mono hst.le,hh,hs.ent,hstep⟩
 |some d=>exact⟨hs.dfr,(hs.sl.mono hst.le).put d hv,hh,hs.ent,hstep⟩
theorem eM {E:Entry} {β β':Be} {s:S} {a:Act} {w w':World} {h':Hp} (hs:Sim E β s a w) (hst:StepR β β' s.hp h' w w') (hh:HSim β' h' w') (d:Option Tmp) (v:Value):
  Sim E β' (s.put d none h') (a.put d v) w':=by
 have hstep:StepR E.β β' E.h h' E.w w':=StepR.trans hs.ent hs.hp.len hs.st hst
 cases d with
 |none=>exact⟨hs.dfr,hs.sl.mono hst.le,hh,hs.ent,hstep⟩
 |some d=>exact⟨hs.dfr,(hs.sl.mono hst.le).putNone d v,hh,hs.ent,hstep⟩
theorem kV {P:Program} {ops:Array Oper} {Q:Exit->Act->World->Prop} {o:Oper} {l:List Oper} {a:Act} {w:World} (hg:Region.wanted o (yielded ops a.tmps)=true) (h:o.wp P a w (wpList P ops Q l) Q):wpList P ops Q (o::l) a w:=by
 unfold wpList
 rw [if_pos hg]
 exact .inl h
theorem Bw {P:Program} {ops:Array Oper} {Q:Exit->Act->World->Prop} {o:Oper} {l:List Oper} {a:Act} {w:World} (hg:Region.wanted o (yielded ops a.tmps)=false) (h:wpList P ops Q l (a.put o.dst undef) w):wpList P ops Q (o::l) a w:=by
 unfold wpList
 rw [if_neg (by simp [hg])]
 exact h
theorem Bx {P:Program} {E:Entry} {r:Array Oper} {s:S} {K:S->Prop} (h:K s):uD P E r [] s K:=fun β a w hs Q hQ=>hQ s β a w h hs
theorem F3 {P:Program} {E:Entry} {r:Array Oper} {o:Oper} {l:List Oper} {s:S} {K:S->Prop} {x:OpR} (hg:eS r s o=some true) (h:bR P s o.type o.op=some x) (hc:x.c) (hk:uD P E r l (s.put o.dst x.v x.hp) K):uD P E r (o::l) s K:=by
 intro β a w hs Q hQ
 refine kV (kU hs.sl hg) ?_
 unfold Oper.wp
 obtain⟨β',w',hst,hh,hx⟩:=ro hs.hp hs.sl h hc
 rcases hx with⟨v,av,hrun,hv,hr⟩|⟨hrun,hv⟩
 ·rw [hrun]
  rw [hv] at hk
  exact hk β' _ w' (f8 hs hst hh o.dst hr) Q hQ
 rw [hrun]
 rw [hv] at hk
 exact hk β' _ w' (eM hs hst hh o.dst undef) Q hQ
theorem Hf {P:Program} {E:Entry} {r:Array Oper} {o:Oper} {l:List Oper} {s:S} {K:S->Prop} (hg:eS r s o=some false) (hk:uD P E r l (s.put o.dst (some (.tu [])) s.hp) K):uD P E r (o::l) s K:=by
 intro β a w hs Q hQ
 refine Bw (kU hs.sl hg) ?_
 exact hk β _ w (f8 hs (StepR.refl β s.hp w hs.hp.len) hs.hp o.dst ⟨[],rfl,trivial⟩) Q hQ
theorem Hg {P:Program} {E:Entry} {r:Array Oper} {o:Oper} {l:List Oper} {s:S} {K:S->Prop} {x:Operand} {args:Array Operand} {at_:Array TypeId} {f:Nat} {caps:List Sc} {avs:List AV}
  (hg:eS r s o=some true) (ho:o.op=.call ⟨.value x,args,at_⟩) (hx:s.ev x=some (.cl f caps)) (ha:s.evs args.toList=some avs) (hc:Jg P E f (avs++l7 caps) s.hp fun res h'=>uD P E r l (s.put o.dst (some res) h') K):uD P E r (o::l) s K:=by
 intro β a w hs Q hQ
 refine kV (kU hs.sl hg) ?_
 obtain⟨⟨fn,hfn,hname,hbody⟩,hcall⟩:=hc
 obtain⟨cvs,hxe,hcl⟩:f9 β (.cl f caps) (a.eval x):=dG hs.sl hx
 have hav:=F2 hs.sl ha
 have hvs:L2 (f9 β) (avs++l7 caps) (args.toList.map a.eval++cvs):=hav.append (ud hcl)
 have hrun:(execOp a.eval o).run P w=.ok (.enter f (args.toList.map a.eval++cvs).toArray) w:=by
  unfold execOp
  rw [ho]
  have e1:args.map a.eval=(args.toList.map a.eval).toArray:=by apply Array.ext';simp
  have hname':¬ fn.name= "runtime.NumGoroutine":=by simpa using hname
  simp only [resolve,hxe,Deferred.ofValue,invoke,callFunc,RX,run_program,Sb,RW,hfn,e1]
  simp [hname',hbody]
 unfold Oper.wp
 rw [hrun]
 rw [Oper.upon_enter]
 refine (hcall β w _ hs.ent hs.st hs.hp hvs).mono fun e w' ⟨res,h',hk,β',v,he,hr,hh,hst⟩=>?_
 subst he
 exact hk β' _ w' (f8 hs hst hh o.dst hr) Q hQ
inductive fI where
 |code (c:Code)
 |ops (r:Array Oper) (l:List Oper)
 |inB (id:Nat)
 |hook (N:S->Prop)
def KK (P:Program) (E:Entry) (F:Exit->S->Prop):List fI->Exit->S->Prop
 |[],e,s=>F e s
 | .code c::k,.normal,s=>sL P E c s (KK P E F k)
 | .code _::k,e,s=>KK P E F k e s
 | .ops r l::k,.normal,s=>uD P E r l s (KK P E F k .normal)
 | .ops _ _::k,e,s=>KK P E F k e s
 | .inB id::k,.exit id',s=>if id'=id then KK P E F k .normal s else KK P E F k (.exit id') s
 | .inB _::k,e,s=>KK P E F k e s
 | .hook N::k,.normal,s=>N s
 | .hook _::k,e,s=>KK P E F k e s
theorem gC {P:Program} {E:Entry} {C:Code} {s:S} {K K':Exit->S->Prop} (h:sL P E C s K) (hk:∀ e s,K e s->K' e s):sL P E C s K':=
 fun β a w hs Q hQ=>h β a w hs Q fun e s' β' a' w' hK=>hQ e s' β' a' w' (hk _ _ hK)
theorem Jh {P:Program} {E:Entry} {s:S} {K:Exit->S->Prop} (h:K .normal s):sL P E .skip s K:=fun β a w hs Q hQ=>wp_skip (hQ .normal s β a w h hs)
theorem LU {P:Program} {E:Entry} {s:S} {K:Exit->S->Prop} (h:K .ret s):sL P E .ret s K:=fun β a w hs Q hQ=>wp_ret (hQ .ret s β a w h hs)
theorem Ji {P:Program} {E:Entry} {s:S} {id:Nat} {K:Exit->S->Prop} (h:K (.exit id) s):sL P E (.exit id) s K:=fun β a w hs Q hQ=>wp_exit (hQ (.exit id) s β a w h hs)
theorem LW {P:Program} {E:Entry} {x y:Code} {s:S} {K:Exit->S->Prop} (h:sL P E x s fun e s'=>match e with| .normal=>sL P E y s' K|e=>K e s'):sL P E (.seq x y) s K:=
 fun β a w hs Q hQ=>wp_seq (h β a w hs _ fun e s' β' a' w' hK hs'=>by
  cases e with
  |normal=>exact hK β' a' w' hs' Q hQ
  |_=>exact hQ _ s' β' a' w' hK hs')
theorem By {P:Program} {E:Entry} {t:Operand} {x y:Code} {s:S} {b:Bool} {K:Exit->S->Prop} (ht:s.ev t=some (.sc (.bo b))) (h:sL P E (if b then x else y) s K):sL P E (.cond t x y) s K:=
 fun β a w hs Q hQ=>wp_cond (t:=b) (show a.eval t=.bool b from dG hs.sl ht) (h β a w hs Q hQ)
theorem Hh {P:Program} {E:Entry} {id:Nat} {x:Code} {s:S} {K:Exit->S->Prop} (h:sL P E x s fun e s'=>match e with| .exit id'=>if id'=id then K .normal s' else K (.exit id') s'|e=>K e s'):sL P E (.block id x) s K:=
 fun β a w hs Q hQ=>wp_block (h β a w hs _ fun e s' β' a' w' hK hs'=>by
  cases e with
  |exit id'=>
   simp only [Exit.inBlock]
   dsimp only at hK
   split at hK
   ·rename_i he;rw [if_pos he];exact hQ _ s' β' a' w' hK hs'
   rename_i he;rw [if_neg he];exact hQ _ s' β' a' w' hK hs'
  |_=>exact hQ _ s' β' a' w' hK hs')
theorem D2 {P:Program} {E:Entry} {id:Nat} {r:Array Oper} {s:S} {K:Exit->S->Prop} (h:uD P E r r.toList s (K .normal)):sL P E (.region id r false) s K:=
 fun β a w hs Q hQ=>wp_region_list (h β a w hs Q fun s' β' a' w' hK hs'=>hQ .normal s' β' a' w' hK hs')
theorem Bz {P:Program} {E:Entry} {c:Code} {s:S} {K:Exit->S->Prop} (I:S->Prop) (μ:S->Nat->Prop) (n₀:Nat) (h0:I s/\μ s n₀)
  (h:∀ s n,I s->μ s n->sL P E c s fun e s'=>match e with| .normal=>I s'/\∃ m,m < n/\μ s' m|e=>K e s'):sL P E (.loop c) s K:=by
 intro β a w hs Q hQ b k cs
 have key:∀ (n:Nat) (s:S) (β:Be) (a:Act) (w:World),I s->μ s n->Sim E β s a w->
   ∃ e a' w',Q e a' w'/\Arrives P (lone (b.at a (.code c::.inLoop c::k)) cs w) b k cs e a' w':=by
  intro n
  induction n using Nat.strongRecOn with
  |_ n ih=>
   intro s β a w hI hm hs
   obtain⟨e,a₁,w₁,hq,harr⟩:=h s n hI hm β a w hs (Exit.then (fun a' w'=>∃ s' β' m,I s'/\m < n/\μ s' m/\Sim E β' s' a' w') Q) (fun e s' β' a' w' hK hs'=>by
    cases e with
    |normal=>
     obtain⟨hI',m,hlt,hm'⟩:=hK
     exact⟨s',β',m,hI',hlt,hm',hs'⟩
    |_=>exact hQ _ s' β' a' w' hK hs') b (.inLoop c::k) cs
   cases e with
   |normal=>
    obtain⟨s',β',m,hI',hlt,hm',hs'⟩:=hq
    obtain⟨e₂,a₂,w₂,hq₂,harr₂⟩:=ih m hlt s' β' a₁ w₁ hI' hm' hs'
    exact⟨e₂,a₂,w₂,hq₂,.of_steps (Steps.trans harr (.one step_inLoop)) harr₂⟩
   |exit id=>exact⟨_,a₁,w₁,hq,.pass (x:=.inLoop c) rfl (fun _ _=>.inl zP) harr⟩
   |goto l=>exact⟨_,a₁,w₁,hq,.pass (x:=.inLoop c) rfl (fun _ _=>.inl zP) harr⟩
   |ret=>exact⟨_,a₁,w₁,hq,.pass (x:=.inLoop c) rfl (fun _ _=>.inl zP) harr⟩
   |panic ch=>exact⟨_,a₁,w₁,hq,.pass (x:=.inLoop c) rfl (fun _ _=>.inl zP) harr⟩
   |outgrown=>exact⟨_,a₁,w₁,hq,.pass (x:=.inLoop c) rfl (fun _ _=>.inl zP) harr⟩
 obtain⟨e,a',w',hq,harr⟩:=key n₀ s β a w h0.1 h0.2 hs
 exact⟨e,a',w',hq,.of_steps (.one step_loop) harr⟩
inductive St where
 |go (k:List fI) (s:S) (c:Prop)
 |fin (s:S) (c:Prop)
 |call (f:Nat) (args:List AV) (d:Option Tmp) (k:List fI) (s:S) (c:Prop)
 |lp (b:Code) (k:List fI) (s:S) (c:Prop)
 |hk (N:S->Prop) (s:S) (c:Prop)
 |draw (id:Nat) (r:Array Oper) (k:List fI) (s:S) (c:Prop)
 |gl (r:Array Oper) (o:Oper) (l:List Oper) (k:List fI) (s:S) (c:Prop)
 |bad
def sM (id:Nat):List fI->Option (List fI)
 |[]=>none
 | .inB id'::k=>if id'=id then some k else sM id k
 | .code _::k=>sM id k
 | .ops _ _::k=>sM id k
 | .hook _::k=>sM id k
def zB (P:Program) (r:Array Oper) (o:Oper) (l:List Oper) (k:List fI) (s:S) (c:Prop):St:=
 match o.op with
 | .call ⟨.value x,args,_⟩=>match s.ev x,s.evs args.toList with
  |some (.cl f caps),some avs=>.call f (avs++l7 caps) o.dst (.ops r l::k) s c
  |_,_=>.bad
 |op=>match bR P s o.type op with
  |some ⟨v,h,d⟩=>.go (.ops r l::k) (s.put o.dst v h) (c/\d)
  |none=>.gl r o l k s c
def uE (P:Program):List fI->S->Prop->St
 |[],s,c=>.fin s c
 | .hook N::k,s,c=>.hk N s c
 | .inB _::k,s,c=>.go k s c
 | .ops r []::k,s,c=>.go k s c
 | .ops r (o::l)::k,s,c=>match eS r s o with
  |some b=>match b with
   |true=>zB P r o l k s c
   |false=>.go (.ops r l::k) (s.put o.dst (some (.tu [])) s.hp) c
  |none=>.bad
 | .code .skip::k,s,c=>.go k s c
 | .code (.seq a b)::k,s,c=>.go (.code a::.code b::k) s c
 | .code (.cond t a b)::k,s,c=>match s.ev t with
  |some (.sc (.bo x))=>match x with
   |true=>.go (.code a::k) s c
   |false=>.go (.code b::k) s c
  |_=>.bad
 | .code (.block id a)::k,s,c=>.go (.code a::.inB id::k) s c
 | .code (.exit id)::k,s,c=>match sM id k with
  |some k'=>.go k' s c
  |none=>.bad
 | .code .ret::k,s,c=>.fin s c
 | .code (.region id r d)::k,s,c=>match d with
  |false=>.go (.ops r r.toList::k) s c
  |true=>.draw id r k s c
 | .code (.loop b)::k,s,c=>.lp b k s c
 |_,_,_=>.bad
def run (P:Program):Nat->St->St
 |0,x=>x
 |n+1,.go k s c=>run P n (uE P k s c)
 |_+1,.fin s c=>.fin s c
 |_+1,.call f a d k s c=>.call f a d k s c
 |_+1,.lp b k s c=>.lp b k s c
 |_+1,.hk N s c=>.hk N s c
 |_+1,.draw id r k s c=>.draw id r k s c
 |_+1,.gl r o l k s c=>.gl r o l k s c
 |_+1,.bad=>.bad
def BA (F:S->Prop):Exit->S->Prop
 | .normal,s| .ret,s=>F s
 |_,_=>False
def gD (P:Program) (E:Entry) (F:S->Prop):St->Prop
 | .go k s c=>c/\KK P E (BA F) k .normal s
 | .fin s c=>c/\F s
 | .call f args d k s c=>c/\Jg P E f args s.hp fun res h'=>KK P E (BA F) k .normal (s.put d (some res) h')
 | .lp b k s c=>c/\sL P E (.loop b) s (KK P E (BA F) k)
 | .hk N s c=>c/\N s
 | .draw id r k s c=>c/\sL P E (.region id r true) s (KK P E (BA F) k)
 | .gl r o l k s c=>c/\KK P E (BA F) (.ops r (o::l)::k) .normal s
 | .bad=>False
theorem uF {P:Program} {E:Entry} {F:Exit->S->Prop}:∀ {k:List fI} {s:S},F .ret s->KK P E F k .ret s
 |[],_,h=>h
 | .code _::k,s,h=>uF (k:=k) h
 | .ops _ _::k,s,h=>uF (k:=k) h
 | .inB _::k,s,h=>uF (k:=k) h
 | .hook _::k,s,h=>uF (k:=k) h
theorem pu {P:Program} {E:Entry} {F:Exit->S->Prop} {id:Nat}:∀ {k k':List fI} {s:S},sM id k=some k'->KK P E F k' .normal s->KK P E F k (.exit id) s
 |[],k',s,h,_=>by cases h
 | .code _::k,k',s,h,hk=>pu (k:=k) h hk
 | .ops _ _::k,k',s,h,hk=>pu (k:=k) h hk
 | .hook _::k,k',s,h,hk=>pu (k:=k) h hk
 | .inB id'::k,k',s,h,hk=>by
  simp only [sM] at h
  simp only [KK]
  split at h
  ·rename_i he
   subst he
   simp only [Option.some.injEq] at h
   subst h
   rw [if_pos rfl]
   exact hk
  rename_i he
  rw [if_neg (Ne.symm he)]
  exact pu (k:=k) h hk
theorem D3 {P:Program} {E:Entry} {F:S->Prop} {r:Array Oper} {o:Oper} {l:List Oper} {k:List fI} {s:S} {c:Prop} (hg:eS r s o=some true) (h:gD P E F (zB P r o l k s c)):c/\KK P E (BA F) (.ops r (o::l)::k) .normal s:=by
 unfold zB at h
 split at h
 ·rename_i x args at_ ho
  split at h
  ·rename_i f caps avs hx ha
   obtain⟨hc,hcall⟩:=h
   exact⟨hc,Hg hg ho hx ha hcall⟩
  exact h.elim
 split at h
 ·rename_i v hp d hx
  obtain⟨⟨hc,hd⟩,hk⟩:=h
  exact⟨hc,F3 hg hx hd hk⟩
 exact h
theorem Jj {P:Program} {E:Entry} {F:S->Prop}:∀ {k:List fI} {s:S} {c:Prop},gD P E F (uE P k s c)->gD P E F (.go k s c):=by
 intro k s c h
 cases k with
 |nil=>exact h
 |cons i k=>
  cases i with
  |hook N=>exact h
  |inB id=>exact h
  |ops r l=>
   cases l with
   |nil=>exact⟨h.1,Bx h.2⟩
   |cons o l=>
    simp only [uE] at h
    split at h
    ·rename_i b hg
     cases b with
     |true=>exact D3 hg h
     |false=>exact⟨h.1,Hf hg h.2⟩
    exact h.elim
  |code C=>
   cases C with
   |skip=>exact⟨h.1,Jh h.2⟩
   |region id r d=>
    cases d with
    |false=>exact⟨h.1,D2 h.2⟩
    |true=>exact h
   |seq a b=>
    refine⟨h.1,LW (gC h.2 fun e s' hk=>?_)⟩
    cases e<;>exact hk
   |cond t a b=>
    simp only [uE] at h
    split at h
    ·rename_i x ht
     cases x with
     |true=>exact⟨h.1,By ht h.2⟩
     |false=>exact⟨h.1,By ht h.2⟩
    exact h.elim
   |block id a=>
    refine⟨h.1,Hh (gC h.2 fun e s' hk=>?_)⟩
    cases e<;>exact hk
   |loop b=>exact h
   |exit id=>
    simp only [uE] at h
    split at h
    ·rename_i k' hk'
     exact⟨h.1,Ji (pu hk' h.2)⟩
    exact h.elim
   |ret=>exact⟨h.1,LU (uF h.2)⟩
   |rangeFunc=>exact h.elim
   |scope=>exact h.elim
   |label=>exact h.elim
   |goto=>exact h.elim
   |refuse=>exact h.elim
theorem aa {P:Program} {E:Entry} {F:S->Prop}:∀ (n:Nat) {x:St},gD P E F (run P n x)->gD P E F x
 |0,_,h=>h
 |n+1,.go k s c,h=>Jj (aa n h)
 |_+1,.fin ..,h=>h
 |_+1,.call ..,h=>h
 |_+1,.lp ..,h=>h
 |_+1,.hk ..,h=>h
 |_+1,.draw ..,h=>h
 |_+1,.gl ..,h=>h
 |_+1,.bad,h=>h
abbrev cW:=List (Option (Nat×Option Nat))
def cW.at (ρ:cW) (o:Nat):Option (Nat×Option Nat):=ρ.getD o none
def LX (ρ:cW):Sc->Sc->Prop
 | .int k n,.int k' n'=>k'=k/\n'=n
 | .bo b,.bo b'=>b'=b
 | .st l,.st l'=>l'=l
 | .nil,.nil=>True
 | .un,.un=>True
 | .un,.pt .. =>True
 | .sl o off len,.sl o' off' len'=>match ρ.at o with
  |some (n,none)=>o'=n/\off'=off/\len'=len
  |some (n,some d)=>o'=n/\off'=off+d/\len'=len
  |none=>False
 | .sl o off len,.nil=>len=0
 | .pt o k j,.pt o' k' j'=>match ρ.at o with
  |some (n,none)=>o'=n/\k'=k/\j'=j
  |some (n,some d)=>o'=n/\k'=k+d/\j'=j
  |none=>False
 |_,_=>False
def cM (ρ:cW):List Sc->List Sc->Prop
 |[],[]=>True
 |a::l,b::m=>LX ρ a b/\cM ρ l m
 |_,_=>False
def QA (ρ:cW):Co->Co->Prop
 | .sc a,.sc b=>LX ρ a b
 | .ag a,.ag b=>cM ρ a b
 |_,_=>False
def Qv (ρ:cW):List Co->List Co->Prop
 |[],[]=>True
 |a::l,b::m=>QA ρ a b/\Qv ρ l m
 |_,_=>False
def F4 (ρ:cW):AV->AV->Prop
 | .sc a,.sc b=>LX ρ a b
 | .ag a,.ag b=>cM ρ a b
 | .tu a,.tu b=>Qv ρ a b
 | .cl f a,.cl g b=>g=f/\cM ρ a b
 |_,_=>False
def rp (ρ:cW):List AV->List AV->Prop
 |[],[]=>True
 |a::l,b::m=>F4 ρ a b/\rp ρ l m
 |_,_=>False
def Qw (ρ:cW):List (List Sc)->List (List Sc)->Prop
 |[],[]=>True
 |a::l,b::m=>cM ρ a b/\Qw ρ l m
 |_,_=>False
def Qx (ρ:cW) (d:Option Nat) (t s:AObj):Prop:=
 s.esz=t.esz/\match d with
 |none=>s.ty=t.ty/\(t.own=true->s.own=true)/\(match t.fl with
  |true=>s.fl=true/\s.cs=t.cs
  |false=>Qw ρ t.cs s.cs)
 |some d=>t.own=false/\t.fl=true/\s.fl=true/\(s.cs.drop d).take t.cs.length=t.cs
def lK (ρ:cW) (s:Hp):cW->Hp->Prop
 |[],[]=>True
 |none::ρ',some t::h=>t.cs=[]/\lK ρ s ρ' h
 |some (n,d)::ρ',some t::h=>(match s.getD n none with
  |some ob=>Qx ρ d t ob
  |none=>False)/\lK ρ s ρ' h
 |_::ρ',none::h=>lK ρ s ρ' h
 |_,_=>False
def fh (β:Be):cW->Be
 |[]=>[]
 |none::ρ=>none::fh β ρ
 |some (n,none)::ρ=>β.getD n none::fh β ρ
 |some (n,some d)::ρ=>(β.getD n none).map (fun p=>{ p with base:=p.base+d*p.esz,avail:=p.avail - d*p.esz })::fh β ρ
theorem jW (β:Be):∀ ρ:cW,(fh β ρ).length=ρ.length
 |[]=>rfl
 |none::ρ=>by simp [fh,jW β ρ]
 |some (n,none)::ρ=>by simp [fh,jW β ρ]
 |some (n,some d)::ρ=>by simp [fh,jW β ρ]
theorem cu (β:Be):∀ {ρ:cW} {o:Nat} {x:Option (Nat×Option Nat)},ρ[o]? =some x->(fh β ρ)[o]? =some (match x with
  |none=>none
  |some (n,none)=>β.getD n none
  |some (n,some d)=>(β.getD n none).map (fun p=>{ p with base:=p.base+d*p.esz,avail:=p.avail - d*p.esz }))
 |[],o,x,h=>by simp at h
 |y::ρ,0,x,h=>by
  simp only [RD,Option.some.injEq] at h
  subst h
  cases y with
  |none=>rfl
  |some y=>obtain⟨n,d⟩:=y;cases d<;>rfl
 |y::ρ,o+1,x,h=>by
  simp only [Rz] at h
  have:=cu β h
  cases y with
  |none=>simpa [fh] using this
  |some y=>obtain⟨n,d⟩:=y;cases d<;>simpa [fh] using this
theorem zC {ρ:cW} {o:Nat} {x:Nat×Option Nat} (h:ρ.at o=some x):ρ[o]? =some (some x):=by
 unfold cW.at at h
 rw [Ru] at h
 cases hx:ρ[o]? with
 |none=>rw [hx] at h;cases h
 |some y=>rw [hx] at h;simp only [Ry] at h;rw [h]
theorem ue {β:Be} {n:Nat} {p:Pl} (h:β[n]? =some (some p)):β.getD n none=some p:=by rw [Ru,h];rfl
theorem F5 {β:Be} {ρ:cW}:∀ {t s:Sc} {v:Value},LX ρ t s->ScR β s v->ScR (fh β ρ) t v
 | .int k n,.int k' n',v,h,hv=>by obtain⟨rfl,rfl⟩:=h;exact hv
 | .bo b,.bo b',v,h,hv=>by have h':b'=b:=h;subst h';exact hv
 | .st b,.st b',v,h,hv=>by have h':b'=b:=h;subst h';exact hv
 | .nil,.nil,v,h,hv=>hv
 | .un,.un,v,h,hv=>hv
 | .un,.pt ..,v,h,hv=>let⟨_,_,e⟩:=hv;⟨_,e⟩
 | .un,.int ..,_,h,_=>h.elim
 | .un,.bo _,_,h,_=>h.elim
 | .un,.st _,_,h,_=>h.elim
 | .un,.nil,_,h,_=>h.elim
 | .un,.sl ..,_,h,_=>h.elim
 | .sl o off len,.nil,v,h,hv=>by
  have h':len=0:=h
  subst h'
  obtain⟨a,rfl⟩:=hv
  exact⟨a,0,rfl,RI _,So _,.inl rfl⟩
 | .sl o off len,.sl o' off' len',v,h,hv=>by
  obtain⟨a,cap,rfl,h1,h2,h3⟩:=hv
  simp only [LX] at h
  split at h
  ·rename_i n hn
   obtain⟨rfl,rfl,rfl⟩:=h
   refine⟨a,cap,rfl,h1,h2,h3.imp id fun⟨p,hp,r⟩=>⟨p,?_,r⟩⟩
   rw [cu β (zC hn)]
   dsimp only
   rw [ue hp]
  ·rename_i n d hn
   obtain⟨rfl,rfl,rfl⟩:=h
   refine⟨a,cap,rfl,h1,h2,h3.imp id fun⟨p,hp,ha,hav⟩=>⟨{ p with base:=p.base+d*p.esz,avail:=p.avail - d*p.esz },?_,?_,?_⟩⟩
   ·rw [cu β (zC hn)]
    dsimp only
    rw [ue hp]
    rfl
   ·rw [ha]
    simp only [Option.some.injEq,Addr.mk.injEq,and_true,true_and]
    rw [RH]
    omega
   dsimp only
   rw [show off+d+cap=(off+cap)+d from by omega,RH] at hav
   omega
  exact h.elim
 | .pt o k j,.pt o' k' j',v,h,hv=>by
  obtain⟨p,hp,rfl⟩:=hv
  simp only [LX] at h
  split at h
  ·rename_i n hn
   obtain⟨rfl,rfl,rfl⟩:=h
   refine⟨p,?_,rfl⟩
   rw [cu β (zC hn)]
   dsimp only
   rw [ue hp]
  ·rename_i n d hn
   obtain⟨rfl,rfl,rfl⟩:=h
   refine⟨{ p with base:=p.base+d*p.esz,avail:=p.avail - d*p.esz },?_,?_⟩
   ·rw [cu β (zC hn)]
    dsimp only
    rw [ue hp]
    rfl
   simp only [Value.pointer.injEq,Option.some.injEq,Addr.mk.injEq,and_true,true_and]
   rw [RH]
   omega
  exact h.elim
 | .int ..,.un,_,h,_=>h.elim
 | .bo ..,.un,_,h,_=>h.elim
 | .st ..,.un,_,h,_=>h.elim
 | .nil,.un,_,h,_=>h.elim
 | .sl ..,.un,_,h,_=>h.elim
 | .pt ..,.un,_,h,_=>h.elim
 | .int ..,.bo _,_,h,_=>h.elim
 | .int ..,.st _,_,h,_=>h.elim
 | .int ..,.nil,_,h,_=>h.elim
 | .int ..,.sl ..,_,h,_=>h.elim
 | .int ..,.pt ..,_,h,_=>h.elim
 | .bo _,.int ..,_,h,_=>h.elim
 | .bo _,.st _,_,h,_=>h.elim
 | .bo _,.nil,_,h,_=>h.elim
 | .bo _,.sl ..,_,h,_=>h.elim
 | .bo _,.pt ..,_,h,_=>h.elim
 | .st _,.int ..,_,h,_=>h.elim
 | .st _,.bo _,_,h,_=>h.elim
 | .st _,.nil,_,h,_=>h.elim
 | .st _,.sl ..,_,h,_=>h.elim
 | .st _,.pt ..,_,h,_=>h.elim
 | .nil,.int ..,_,h,_=>h.elim
 | .nil,.bo _,_,h,_=>h.elim
 | .nil,.st _,_,h,_=>h.elim
 | .nil,.sl ..,_,h,_=>h.elim
 | .nil,.pt ..,_,h,_=>h.elim
 | .sl ..,.int ..,_,h,_=>h.elim
 | .sl ..,.bo _,_,h,_=>h.elim
 | .sl ..,.st _,_,h,_=>h.elim
 | .sl ..,.pt ..,_,h,_=>h.elim
 | .pt ..,.int ..,_,h,_=>h.elim
 | .pt ..,.bo _,_,h,_=>h.elim
 | .pt ..,.st _,_,h,_=>h.elim
 | .pt ..,.nil,_,h,_=>h.elim
 | .pt ..,.sl ..,_,h,_=>h.elim
theorem LY {β:Be} {ρ:cW}:∀ {t s:List Sc} {vs:List Value},cM ρ t s->L2 (ScR β) s vs->L2 (ScR (fh β ρ)) t vs
 |[],[],[],_,_=>trivial
 |a::l,b::m,v::vs,h,hv=>⟨F5 h.1 hv.1,LY h.2 hv.2⟩
 |[],_::_,_,h,_=>h.elim
 |_::_,[],_,h,_=>h.elim
 |[],[],_::_,_,h=>h.elim
 |_::_,_::_,[],_,h=>h.elim
theorem OX {β:Be} {ρ:cW} {t s:Co} {v:Value} (h:QA ρ t s) (hv:DR β s v):DR (fh β ρ) t v:=by
 cases t<;>cases s
 ·exact F5 h hv
 ·exact h.elim
 ·exact h.elim
 obtain⟨vs,rfl,hl⟩:=hv
 exact⟨vs,rfl,LY h hl⟩
theorem Nx {β:Be} {ρ:cW}:∀ {t s:List Co} {vs:List Value},Qv ρ t s->L2 (DR β) s vs->L2 (DR (fh β ρ)) t vs
 |[],[],[],_,_=>trivial
 |a::l,b::m,v::vs,h,hv=>⟨OX h.1 hv.1,Nx h.2 hv.2⟩
 |[],_::_,_,h,_=>h.elim
 |_::_,[],_,h,_=>h.elim
 |[],[],_::_,_,h=>h.elim
 |_::_,_::_,[],_,h=>h.elim
theorem BB {β:Be} {ρ:cW} {t s:AV} {v:Value} (h:F4 ρ t s) (hv:f9 β s v):f9 (fh β ρ) t v:=by
 cases t<;>cases s<;>try exact h.elim
 ·exact F5 h hv
 ·obtain⟨vs,rfl,hl⟩:=hv
  exact⟨vs,rfl,LY h hl⟩
 ·obtain⟨vs,rfl,hl⟩:=hv
  exact⟨vs,rfl,Nx h hl⟩
 obtain⟨rfl,h⟩:=h
 obtain⟨vs,rfl,hl⟩:=hv
 exact⟨vs,rfl,LY h hl⟩
theorem Jk {β:Be} {ρ:cW}:∀ {t s:List AV} {vs:List Value},rp ρ t s->L2 (f9 β) s vs->L2 (f9 (fh β ρ)) t vs
 |[],[],[],_,_=>trivial
 |a::l,b::m,v::vs,h,hv=>⟨BB h.1 hv.1,Jk h.2 hv.2⟩
 |[],_::_,_,h,_=>h.elim
 |_::_,[],_,h,_=>h.elim
 |[],[],_::_,_,h=>h.elim
 |_::_,_::_,[],_,h=>h.elim
theorem yi {ρ:cW}:∀ {t s:List Sc},cM ρ t s->t.length=s.length
 |[],[],_=>rfl
 |_::_,_::_,h=>by simp [yi h.2]
 |[],_::_,h=>h.elim
 |_::_,[],h=>h.elim
theorem Jl {ρ:cW}:∀ {t s:List Sc} {i:Nat} {x:Sc},cM ρ t s->t[i]? =some x->∃ y,s[i]? =some y/\LX ρ x y
 |[],[],i,x,_,h=>by simp at h
 |a::l,b::m,0,x,hm,h=>by simp at h;subst h;exact⟨b,zP,hm.1⟩
 |a::l,b::m,i+1,x,hm,h=>by simp at h;obtain⟨y,hy,hr⟩:=Jl hm.2 h;exact⟨y,by simpa using hy,hr⟩
 |[],_::_,_,_,hm,_=>hm.elim
 |_::_,[],_,_,hm,_=>hm.elim
theorem F6 {ρ:cW}:∀ {t s:List (List Sc)} {i:Nat} {x:List Sc},Qw ρ t s->t[i]? =some x->∃ y,s[i]? =some y/\cM ρ x y
 |[],[],i,x,_,h=>by simp at h
 |a::l,b::m,0,x,hm,h=>by simp at h;subst h;exact⟨b,zP,hm.1⟩
 |a::l,b::m,i+1,x,hm,h=>by simp at h;obtain⟨y,hy,hr⟩:=F6 hm.2 h;exact⟨y,by simpa using hy,hr⟩
 |[],_::_,_,_,hm,_=>hm.elim
 |_::_,[],_,_,hm,_=>hm.elim
theorem zE {β β':Be} {s:Sc} {v:Value} (hf:s.isFlat=true) (h:ScR β s v):ScR β' s v:=by
 cases s<;>first|exact h|cases hf
def BC (n:Nat) (own:Bool):cW->Hp->Bool
 |some (m,_)::ρ,some u::h=>(!(own || u.own) || n != m) && BC n own ρ h
 |_::ρ,_::h=>BC n own ρ h
 |_,_=>true
def eL:cW->Hp->Bool
 |some (n,_)::ρ,some t::h=>BC n t.own ρ h && eL ρ h
 |_::ρ,_::h=>eL ρ h
 |_,_=>true
theorem BD {n:Nat} {own:Bool}:∀ {ρ:cW} {h:Hp},BC n own ρ h=true->∀ {j m:Nat} {d:Option Nat} {u:AObj},ρ[j]? =some (some (m,d))->h[j]? =some (some u)->(own=true\/u.own=true)->n≠m
 |[],_,_,j,m,d,u,hr,_,_=>by simp at hr
 |_::_,[],_,j,m,d,u,_,hh,_=>by simp at hh
 |x::ρ,y::h,hs,0,m,d,u,hr,hh,ho=>by
  simp only [RD,Option.some.injEq] at hr hh
  subst hr;subst hh
  simp only [BC,Rx,RJ,bne_iff_ne,RT] at hs
  rcases hs.1 with h1|h1
  ·rcases ho with ho|ho<;>simp [ho] at h1
  exact h1
 |x::ρ,y::h,hs,j+1,m,d,u,hr,hh,ho=>by
  simp only [Rz] at hr hh
  refine BD (ρ:=ρ) (h:=h) ?_ hr hh ho
  cases x with
  |none=>simpa [BC] using hs
  |some x=>cases y with
   |none=>simpa [BC] using hs
   |some y=>
    obtain⟨a,b⟩:=x
    simp only [BC,Rx] at hs
    exact hs.2
theorem kx {x:Option (Nat×Option Nat)} {y:Option AObj} {ρ:cW} {h:Hp} (hs:eL (x::ρ) (y::h)=true):eL ρ h=true:=by
 cases x with
 |none=>simpa [eL] using hs
 |some x=>cases y with
  |none=>simpa [eL] using hs
  |some y=>
   obtain⟨a,b⟩:=x
   simp only [eL,Rx] at hs
   exact hs.2
theorem pv:∀ {ρ:cW} {h:Hp},eL ρ h=true->∀ {i j n m:Nat} {d e:Option Nat} {t u:AObj},i < j->ρ[i]? =some (some (n,d))->h[i]? =some (some t)->ρ[j]? =some (some (m,e))->h[j]? =some (some u)->(t.own=true\/u.own=true)->n≠m
 |[],_,_,i,j,n,m,d,e,t,u,_,hr,_,_,_,_=>by simp at hr
 |_::_,[],_,i,j,n,m,d,e,t,u,_,_,hh,_,_,_=>by simp at hh
 |x::ρ,y::h,hs,0,j+1,n,m,d,e,t,u,_,hr,hh,hr',hh',ho=>by
  simp only [RD,Rz,Option.some.injEq] at hr hh hr' hh'
  subst hr;subst hh
  simp only [eL,Rx] at hs
  exact BD hs.1 hr' hh' ho
 |x::ρ,y::h,hs,i+1,j+1,n,m,d,e,t,u,hlt,hr,hh,hr',hh',ho=>by
  simp only [Rz] at hr hh hr' hh'
  exact pv (ρ:=ρ) (h:=h) (kx hs) zO hr hh hr' hh' ho
theorem F7 {ρ:cW} {h:Hp} (hs:eL ρ h=true) {i j n m:Nat} {d e:Option Nat} {t u:AObj} (hij:i≠j) (hr:ρ[i]? =some (some (n,d))) (hh:h[i]? =some (some t)) (hr':ρ[j]? =some (some (m,e))) (hh':h[j]? =some (some u)) (ho:t.own=true\/u.own=true):n≠m:=by
 rcases Nat.lt_or_gt_of_ne hij with h1|h1
 ·exact pv hs h1 hr hh hr' hh' ho
 exact (pv hs h1 hr' hh' hr hh ho.symm).symm
theorem getD_some {h:Hp} {n:Nat} {ob:AObj} (e:h.getD n none=some ob):h[n]? =some (some ob):=by
 rw [Ru] at e
 cases hx:h[n]? with
 |none=>rw [hx] at e;cases e
 |some y=>rw [hx] at e;simp only [Ry] at e;rw [e]
theorem gE {ρ:cW} {s:Hp}:∀ {ρ':cW} {t:Hp},lK ρ s ρ' t->∀ {o:Nat} {ob:AObj},t[o]? =some (some ob)->
  (ρ'[o]? =some none/\ob.cs=[])\/∃ n d ob',ρ'[o]? =some (some (n,d))/\s[n]? =some (some ob')/\Qx ρ d ob ob'
 |[],[],_,o,ob,h=>by simp at h
 |x::ρ',y::t,hm,0,ob,h=>by
  simp only [RD,Option.some.injEq] at h
  subst h
  cases x with
  |none=>exact .inl ⟨rfl,hm.1⟩
  |some x=>
   obtain⟨n,d⟩:=x
   have h1:=hm.1
   split at h1
   ·rename_i ob' hob
    exact .inr ⟨n,d,ob',rfl,getD_some hob,h1⟩
   exact h1.elim
 |x::ρ',y::t,hm,o+1,ob,h=>by
  simp only [Rz] at h⊢
  refine gE (ρ':=ρ') (t:=t) ?_ h
  cases x with
  |none=>cases y with
   |none=>exact hm
   |some y=>exact hm.2
  |some x=>cases y with
   |none=>exact hm
   |some y=>obtain⟨a,b⟩:=x;exact hm.2
 |[],_::_,hm,_,_,_=>by cases hm
 |x::_,[],hm,_,_,_=>by cases x with
  |none=>cases hm
  |some x=>obtain⟨a,b⟩:=x;cases hm
theorem jt {ρ:cW} {s:Hp}:∀ {ρ':cW} {t:Hp},lK ρ s ρ' t->ρ'.length=t.length
 |[],[],_=>rfl
 |x::ρ',y::t,hm=>by
  have:lK ρ s ρ' t:=by
   cases x with
   |none=>cases y with
    |none=>exact hm
    |some y=>exact hm.2
   |some x=>cases y with
    |none=>exact hm
    |some y=>obtain⟨a,b⟩:=x;exact hm.2
  simp [jt this]
 |[],_::_,hm=>by cases hm
 |x::_,[],hm=>by cases x with
  |none=>cases hm
  |some x=>obtain⟨a,b⟩:=x;cases hm
theorem m_ {ρ:cW} {d:Option Nat} {t s:AObj} (h:Qx ρ d t s) (ho:t.own=true):d=none/\s.own=true:=by
 cases d with
 |none=>exact⟨rfl,h.2.2.1 ho⟩
 |some d=>
  have:t.own=false:=h.2.1
  rw [ho] at this;cases this
theorem D4 {β:Be} {ρ:cW} {s t:Hp} {w:World} (hs:HSim β s w) (hm:lK ρ s ρ t) (hsep:eL ρ t=true):HSim (fh β ρ) t w:=by
 refine⟨by rw [jW,jt hm],fun o ob ho=>?_,fun o ob ho hf=>?_,fun o o' ob ob' p p' ho ho' hown hp hp' hne=>?_⟩
 ·rcases gE hm ho with⟨hr,hcs⟩|⟨n,d,ob',hr,hn,hob⟩
  ·exact⟨none,cu β hr,hcs⟩
  obtain⟨q,hq,hR⟩:=hs.ob n ob' hn
  cases d with
  |none=>
   obtain⟨hesz,hty,hown,hcs⟩:=hob
   refine⟨q,by rw [cu β hr];dsimp only;rw [Ru,hq];rfl,?_⟩
   cases q with
   |none=>
    have h0:ob'.cs=[]:=hR
    split at hcs
    ·show ob.cs=[]
     rw [<-hcs.2,h0]
    show ob.cs=[]
    rw [h0] at hcs
    cases hc:ob.cs with
    |nil=>rfl
    |cons=>rw [hc] at hcs;exact hcs.elim
   |some p=>
    obtain⟨he,arr,T,fz,hh,hc,ho2⟩:=hR
    refine⟨he.trans hesz,arr,T,fz,hh,?_,fun h=>?_⟩
    ·split at hcs
     ·rename_i hfl
      intro k c hk
      rw [<-hcs.2] at hk
      obtain⟨h1,h2⟩:=hc k c hk
      rw [hesz] at h1
      refine⟨h1,fun j x hj=>?_⟩
      obtain⟨v,hv,hr'⟩:=h2 j x hj
      rw [hesz] at hv
      exact⟨v,hv,zE (gk.1 (hs.flat n ob' hn hcs.1 c (RF hk)) x (RF hj)) hr'⟩
     intro k c hk
     obtain⟨c',hk',hcm⟩:=F6 hcs hk
     obtain⟨h1,h2⟩:=hc k c' hk'
     rw [hesz] at h1
     refine⟨(yi hcm).trans h1,fun j x hj=>?_⟩
     obtain⟨x',hj',hxm⟩:=Jl hcm hj
     obtain⟨v,hv,hr'⟩:=h2 j x' hj'
     rw [hesz] at hv
     exact⟨v,hv,F5 hxm hr'⟩
    obtain⟨hT,hf,hb,ha⟩:=ho2 (hown h)
    exact⟨hT.trans hty,hf,hb,ha⟩
  |some d=>
   obtain⟨hesz,hno,hfl,hfl',hcs⟩:=hob
   refine⟨q.map (fun p=>{ p with base:=p.base+d*p.esz,avail:=p.avail - d*p.esz }),by rw [cu β hr];dsimp only;rw [Ru,hq];rfl,?_⟩
   cases q with
   |none=>
    have h0:ob'.cs=[]:=hR
    show ob.cs=[]
    rw [h0] at hcs
    simpa using hcs.symm
   |some p=>
    obtain⟨he,arr,T,fz,hh,hc,ho2⟩:=hR
    refine⟨he.trans hesz,arr,T,fz,hh,?_,fun h=>by rw [hno] at h;cases h⟩
    intro k c hk
    have hkl:k < ob.cs.length:=(Rv.1 hk).1
    rw [<-hcs,RQ hkl,RR] at hk
    obtain⟨h1,h2⟩:=hc _ c hk
    rw [hesz] at h1
    refine⟨h1,fun j x hj=>?_⟩
    obtain⟨v,hv,hr'⟩:=h2 j x hj
    rw [hesz] at hv
    refine⟨v,?_,zE (gk.1 (hs.flat n ob' hn hfl' c (RF hk)) x (RF hj)) hr'⟩
    dsimp only
    rw [show p.base+d*p.esz+k*ob.esz+j=p.base+(d+k)*ob.esz+j from by rw [he,hesz,RH];omega]
    exact hv
 ·rcases gE hm ho with⟨hr,hcs⟩|⟨n,d,ob',hr,hn,hob⟩
  ·rw [hcs];intro c hc;cases hc
  cases d with
  |none=>
   obtain⟨_,_,_,hcs⟩:=hob
   rw [hf] at hcs
   rw [<-hcs.2]
   exact hs.flat n ob' hn hcs.1
  |some d=>
   obtain⟨_,_,hfl,hfl',hcs⟩:=hob
   rw [<-hcs]
   exact fun c hc=>hs.flat n ob' hn hfl' c (R7 (R8 hc))
 rcases gE hm ho with⟨hr,_⟩|⟨n,d,x,hr,hn,hx⟩
 ·rw [cu β hr] at hp;cases hp
 rcases gE hm ho' with⟨hr',_⟩|⟨m,e,y,hr',hm',hy⟩
 ·rw [cu β hr'] at hp';cases hp'
 obtain⟨rfl,hxo⟩:=m_ hx hown
 have hnm:=F7 hsep hne hr ho hr' ho' (.inl hown)
 rw [cu β hr] at hp
 simp only [Option.some.injEq] at hp
 have hbn:β[n]? =some (some p):=by
  rw [Ru] at hp
  cases h:β[n]? with
  |none=>rw [h] at hp;cases hp
  |some z=>rw [h] at hp;simp only [Ry] at hp;rw [hp]
 have hbm:∃ q,β[m]? =some (some q)/\q.blk=p'.blk:=by
  rw [cu β hr'] at hp'
  simp only [Option.some.injEq] at hp'
  cases e with
  |none=>
   dsimp only at hp'
   rw [Ru] at hp'
   cases h:β[m]? with
   |none=>rw [h] at hp';cases hp'
   |some z=>rw [h] at hp';simp only [Ry] at hp';exact⟨p',by rw [hp'],rfl⟩
  |some e=>
   dsimp only at hp'
   rw [Ru] at hp'
   cases h:β[m]? with
   |none=>rw [h] at hp';cases hp'
   |some z=>
    rw [h] at hp'
    cases z with
    |none=>cases hp'
    |some z=>simp only [Ry,RO,Option.some.injEq] at hp';exact⟨z,rfl,by rw [<-hp']⟩
 obtain⟨q,hq,hqb⟩:=hbm
 rw [<-hqb]
 exact hs.apart n m x y p q hn hm' hxo hbn hq hnm
def D5 (ρ:cW):List (Option AV)->List (Option AV)->Prop
 |[],[]=>True
 |none::l,_::m=>D5 ρ l m
 |some a::l,some b::m=>F4 ρ a b/\D5 ρ l m
 |_,_=>False
def D6 (ρ:cW):Slots->Slots->Prop
 |[],[]=>True
 |a::l,b::m=>D5 ρ a b/\D6 ρ l m
 |_,_=>False
theorem l8 {ρ:cW}:∀ {t s:List (Option AV)},D5 ρ t s->t.length=s.length
 |[],[],_=>rfl
 |none::l,_::m,h=>by simp [l8 (t:=l) (s:=m) h]
 |some a::l,some b::m,h=>by simp [l8 h.2]
 |some a::l,none::m,h=>h.elim
 |[],_::_,h=>h.elim
 |none::_,[],h=>h.elim
 |some _::_,[],h=>h.elim
theorem uG {ρ:cW}:∀ {t s:List (Option AV)} {i:Nat} {v:AV},D5 ρ t s->t[i]? =some (some v)->∃ u,s[i]? =some (some u)/\F4 ρ v u
 |[],[],i,v,_,h=>by simp at h
 |none::l,_::m,0,v,_,h=>by simp at h
 |none::l,_::m,i+1,v,hm,h=>by simp at h;obtain⟨u,hu,hr⟩:=uG (t:=l) (s:=m) hm h;exact⟨u,by simpa using hu,hr⟩
 |some a::l,some b::m,0,v,hm,h=>by simp at h;subst h;exact⟨b,zP,hm.1⟩
 |some a::l,some b::m,i+1,v,hm,h=>by simp at h;obtain⟨u,hu,hr⟩:=uG hm.2 h;exact⟨u,by simpa using hu,hr⟩
 |some a::l,none::m,_,_,h,_=>h.elim
 |[],_::_,_,_,h,_=>h.elim
 |none::_,[],_,_,h,_=>h.elim
 |some _::_,[],_,_,h,_=>h.elim
theorem rq {ρ:cW}:∀ {t s:Slots} (i:Nat),D6 ρ t s->(t[i]? =none/\s[i]? =none)\/∃ a b,t[i]? =some a/\s[i]? =some b/\D5 ρ a b
 |[],[],i,_=>.inl ⟨zP,zP⟩
 |a::l,b::m,0,h=>.inr ⟨a,b,zP,zP,h.1⟩
 |a::l,b::m,i+1,h=>by simpa using rq i h.2
 |[],_::_,_,h=>h.elim
 |_::_,[],_,h=>h.elim
theorem F8 {β:Be} {ρ:cW} {t s:Slots} {tm:Array Value} (h:D6 ρ t s) (hs:SlotsR β s tm):SlotsR (fh β ρ) t tm:=by
 have hhas:∀ i,t.has i->s.has i:=by
  intro i hi
  unfold Slots.has at hi⊢
  rw [Ru] at hi⊢
  rcases rq (i / 16) h with⟨h1,h2⟩|⟨a,b,h1,h2,h3⟩
  ·rw [h1] at hi;simp at hi
  rw [h1] at hi
  rw [h2]
  simp only [Ry] at hi⊢
  rw [<-l8 h3]
  exact hi
 refine⟨fun i hi=>hs.1 i (hhas i hi),fun i v hv=>?_⟩
 unfold Slots.get at hv
 rw [Ru (l:=t)] at hv
 rcases rq (i / 16) h with⟨h1,h2⟩|⟨a,b,h1,h2,h3⟩
 ·rw [h1] at hv;simp at hv
 rw [h1,Ry,Ru] at hv
 have hv':a[i % 16]? =some (some v):=by
  cases hx:a[i % 16]? with
  |none=>rw [hx] at hv;cases hv
  |some y=>rw [hx] at hv;simp only [Ry] at hv;rw [hv]
 obtain⟨u,hu,hr⟩:=uG h3 hv'
 have hg:s.get i=some u:=by
  unfold Slots.get
  rw [Ru (l:=s),h2,Ry,Ru,hu]
  rfl
 obtain⟨x,hx,hxr⟩:=hs.2 i u hg
 exact⟨x,hx,BB hr hxr⟩
def F9:Nat->Nat->cW->Bool
 |0,n0,ρ=>ρ.all fun|some (n,none)=>decide (n0<=n)|some (_,some _)=>false|none=>true
 |k+1,n0,some (n,none)::ρ=>n == n0 && F9 k (n0+1) ρ
 |_,_,_=>false
def lL (ρ:cW) (n0:Nat) (t s:S):Prop:=F9 n0 0 ρ=true/\eL ρ t.hp=true/\D6 ρ t.sl s.sl/\lK ρ s.hp ρ t.hp
theorem Jm:∀ {k n0:Nat} {ρ:cW},F9 k n0 ρ=true->(∀ i,i < k->ρ[i]? =some (some (n0+i,none)))/\(∀ i n d,k<=i->ρ[i]? =some (some (n,d))->d=none/\n0+k<=n)
 |0,n0,ρ,h=>by
  refine⟨fun i hi=>by omega,fun i n d _ hr=>?_⟩
  have:=RG.1 (by simpa [F9] using h) _ (RF hr)
  cases d with
  |none=>exact⟨rfl,by simpa using this⟩
  |some d=>cases this
 |k+1,n0,ρ,h=>by
  cases ρ with
  |nil=>cases h
  |cons x ρ=>
   cases x with
   |none=>cases h
   |some x=>
    obtain⟨n,d⟩:=x
    cases d with
    |some d=>cases h
    |none=>
     simp only [F9,Rx,beq_iff_eq] at h
     obtain⟨rfl,h⟩:=h
     obtain⟨h1,h2⟩:=Jm h
     refine⟨fun i hi=>?_,fun i m d hi hr=>?_⟩
     ·cases i with
      |zero=>simp
      |succ i=>
       rw [Rz,h1 i zO]
       simp only [Option.some.injEq,Prod.mk.injEq,and_true]
       omega
     cases i with
     |zero=>omega
     |succ i=>
      rw [Rz] at hr
      obtain⟨h3,h4⟩:=h2 i m d zO hr
      exact⟨h3,zO⟩
theorem uH {E:Entry} {n0:Nat} (hE:E.h.length=n0) {ρ:cW} {t s:S} (h:lL ρ n0 t s) {β:Be} {a:Act} {w:World} (hs:Sim E β s a w):Sim E (fh β ρ) t a w:=by
 obtain⟨hid,hsep,hsl,hhp⟩:=h
 obtain⟨hlo,hhi⟩:=Jm hid
 have hlen:=jt hhp
 have hl0:n0<=t.hp.length:=by
  rw [<-hlen]
  rcases RL ρ.length n0 with h1|h1
  ·have:=hlo ρ.length h1
   rw [RK (RI _)] at this
   cases this
  exact h1
 refine⟨hs.dfr,F8 hsl hs.sl,D4 hs.hp hhp hsep,hs.ent,?_⟩
 have st:=hs.st
 refine⟨fun o p hp=>?_,st.os,st.tape,st.output,st.size,st.block,by rw [hE];exact hl0,fun o ob hlt ho=>?_,fun o ob p hge ho hp=>?_⟩
 ·have hlt:o < n0:=by rw [<-hE,<-hs.ent];exact (Rv.1 hp).1
  have h1:=hlo o hlt
  rw [RM] at h1
  rw [cu β h1]
  dsimp only
  rw [Ru,st.le o p hp]
  rfl
 ·rw [hE] at hlt
  have h1:=hlo o hlt
  rw [RM] at h1
  rcases gE hhp ho with⟨hr,_⟩|⟨n,d,ob',hr,hn,hob⟩
  ·rw [h1] at hr;cases hr
  rw [h1] at hr
  simp only [Option.some.injEq,Prod.mk.injEq] at hr
  obtain⟨rfl,rfl⟩:=hr
  obtain⟨ob0,ho0,hown0⟩:=st.old o ob' (by rw [hE];exact hlt) hn
  exact⟨ob0,ho0,fun h=>hown0 (m_ hob h).2⟩
 rw [hE] at hge
 rcases gE hhp ho with⟨hr,_⟩|⟨n,d,ob',hr,hn,hob⟩
 ·rw [cu β hr] at hp;cases hp
 obtain⟨rfl,hge'⟩:=hhi o n d hge hr
 rw [cu β hr] at hp
 simp only [Option.some.injEq] at hp
 rw [Ru] at hp
 have hb:β[n]? =some (some p):=by
  cases h:β[n]? with
  |none=>rw [h] at hp;cases hp
  |some z=>rw [h] at hp;simp only [Ry] at hp;rw [hp]
 exact st.fresh n ob' p (by rw [hE];omega) hn hb
theorem Jn {P:Program} {E:Entry} {n0:Nat} (hE:E.h.length=n0) {ρ:cW} {t s:S} (h:lL ρ n0 t s) {C:Code} {K:Exit->S->Prop} (hd:sL P E C t K):sL P E C s K:=
 fun β a w hs Q hQ=>hd _ a w (uH hE h hs) Q hQ
def S.kill (l:Slots):List Nat->Slots
 |[]=>l
 |k::r=>S.kill (l.put k none) r
def S.sets (l:Slots):List (Nat×AV)->Slots
 |[]=>l
 |(k,v)::r=>S.sets (l.put k (some v)) r
def S.at (s:S) (kill:List Nat) (set:List (Nat×AV)) (h:Hp):S:=⟨S.sets (S.kill s.sl kill) set,h⟩
theorem ee {P:Program} {E:Entry} {F:S->Prop} {b:Code} {k:List fI} {s:S} {c:Prop} {ι:Type} (n0:Nat) (hE:E.h.length=n0) (mk:S->ι->S) (J:ι->Prop) (μ:ι->Nat) (i0:ι) (ρ0:cW) (hc:c) (hJ:J i0) (h0:lL ρ0 n0 (mk s i0) s)
  (h:∀ i,J i->∀ N:S->Prop,(∀ (s':S) (j:ι) (ρ:cW),J j->μ j < μ i->lL ρ n0 (mk s j) s'->N s')->gD P E F (.go (.code b::.hook N::k) (mk s i) True)):gD P E F (.lp b k s c):=by
 refine⟨hc,Bz (fun _=>True) (fun s' n=>∃ i ρ,J i/\lL ρ n0 (mk s i) s'/\μ i=n) (μ i0) ⟨trivial,i0,ρ0,hJ,h0,rfl⟩ fun s' n _ ⟨i,ρ,hi,hw,hn⟩=>?_⟩
 have hd:=(h i hi (fun s''=>∃ j ρ,J j/\μ j < μ i/\lL ρ n0 (mk s j) s'') fun s'' j ρ' hj hlt hw'=>⟨j,ρ',hj,hlt,hw'⟩).2
 refine Jn hE hw (gC hd fun e s'' hk=>?_)
 cases e with
 |normal=>
  obtain⟨j,ρ',hj,hlt,hw'⟩:=hk
  exact⟨trivial,μ j,zO,j,ρ',hj,hw',rfl⟩
 |_=>exact hk
theorem ay {ρ:cW} {n0:Nat} {t s:S} (h1:F9 n0 0 ρ=true) (h2:eL ρ t.hp=true) (h:D6 ρ t.sl s.sl/\lK ρ s.hp ρ t.hp):lL ρ n0 t s:=⟨h1,h2,h.1,h.2⟩
end
section
open Go.RowKit
def rr (ρ:cW) (N o:Nat):Option (Nat×Option Nat):=if o < ρ.length then ρ.at o else some (N+(o - ρ.length),none)
def px (ρ:cW) (N:Nat):Sc->Sc
 | .sl o off len=>match rr ρ N o with
  |some (n,none)=>.sl n off len
  |some (n,some d)=>.sl n (off+d) len
  |none=>.nil
 | .pt o k j=>match rr ρ N o with
  |some (n,none)=>.pt n k j
  |some (n,some d)=>.pt n (k+d) j
  |none=>.nil
 | .int k n=>.int k n
 | .bo b=>.bo b
 | .st l=>.st l
 | .nil=>.nil
 | .un=>.un
def pz (ρ:cW) (N:Nat):List Sc->List Sc
 |[]=>[]
 |a::l=>px ρ N a::pz ρ N l
def Jo (ρ:cW) (N:Nat):Co->Co
 | .sc a=>.sc (px ρ N a)
 | .ag l=>.ag (pz ρ N l)
def F_ (ρ:cW) (N:Nat):List Co->List Co
 |[]=>[]
 |a::l=>Jo ρ N a::F_ ρ N l
def lM (ρ:cW) (N:Nat):AV->AV
 | .sc a=>.sc (px ρ N a)
 | .ag l=>.ag (pz ρ N l)
 | .tu l=>.tu (F_ ρ N l)
 | .cl f l=>.cl f (pz ρ N l)
def uI (ρ:cW) (N:Nat):List (List Sc)->List (List Sc)
 |[]=>[]
 |a::l=>pz ρ N a::uI ρ N l
def ib (ρ:cW) (N:Nat) (ob:AObj):AObj:=
 match ob.fl with
 |true=>ob
 |false=>{ ob with cs:=uI ρ N ob.cs }
def ju (ρ:cW) (N:Nat):Hp->Hp
 |[]=>[]
 |none::h=>none::ju ρ N h
 |some ob::h=>some (ib ρ N ob)::ju ρ N h
def l9 (ρ:cW) (N:Nat):Option AObj->Option AObj
 |none=>none
 |some ob=>some (ib ρ N ob)
def fk (ρ0:cW) (N:Nat):cW->Hp->Hp->Hp->Hp
 |some (n,_)::ρ,some t::h,t'::h',s=>match t.own with
  |true=>fk ρ0 N ρ h h' (s.set n (l9 ρ0 N t'))
  |false=>fk ρ0 N ρ h h' s
 |_::ρ,_::h,_::h',s=>fk ρ0 N ρ h h' s
 |_,_,_,s=>s
def eG (ρ:cW) (h0 h0' s:Hp):Hp:=fk ρ s.length ρ h0 h0' s++ju ρ s.length (h0'.drop h0.length)
theorem iM (ρ0:cW) (N:Nat):∀ (ρ:cW) (h h' s:Hp),(fk ρ0 N ρ h h' s).length=s.length
 |[],_,_,s=>by simp [fk]
 |x::ρ,[],_,s=>by cases x<;>simp [fk]
 |x::ρ,y::h,[],s=>by cases x<;>cases y<;>simp [fk]
 |none::ρ,y::h,z::h',s=>by cases y<;>simp [fk,iM ρ0 N ρ h h' s]
 |some x::ρ,none::h,z::h',s=>by simp [fk,iM ρ0 N ρ h h' s]
 |some (n,d)::ρ,some t::h,z::h',s=>by
  cases ho:t.own
  ·simp [fk,ho,iM ρ0 N ρ h h' s]
  simp [fk,ho,iM ρ0 N ρ h h' (s.set n (l9 ρ0 N z))]
theorem ij {ρ0:cW} {N o:Nat}:∀ {ρ:cW} {h h' s:Hp},(∀ (i:Nat) (d:Option Nat) (t:AObj),ρ[i]? =some (some (o,d))->h[i]? =some (some t)->t.own=false)->(fk ρ0 N ρ h h' s)[o]? =s[o]?
 |[],_,_,s,_=>by simp [fk]
 |x::ρ,[],_,s,_=>by cases x<;>simp [fk]
 |x::ρ,y::h,[],s,_=>by cases x<;>cases y<;>simp [fk]
 |none::ρ,y::h,z::h',s,hx=>by
  cases y<;>simpa [fk] using ij (ρ:=ρ) (h:=h) (h':=h') (s:=s) (fun i d t h1 h2=>hx (i+1) d t (by simpa using h1) (by simpa using h2))
 |some x::ρ,none::h,z::h',s,hx=>by
  simpa [fk] using ij (ρ:=ρ) (h:=h) (h':=h') (s:=s) (fun i d t h1 h2=>hx (i+1) d t (by simpa using h1) (by simpa using h2))
 |some (n,d)::ρ,some t::h,z::h',s,hx=>by
  cases ho:t.own
  ·simpa [fk,ho] using ij (ρ:=ρ) (h:=h) (h':=h') (s:=s) (fun i d t h1 h2=>hx (i+1) d t (by simpa using h1) (by simpa using h2))
  have hne:n≠o:=fun e=>by
   subst e
   have:=hx 0 d t zP zP
   rw [ho] at this;cases this
  have:=ij (ρ0:=ρ0) (N:=N) (ρ:=ρ) (h:=h) (h':=h') (s:=s.set n (l9 ρ0 N z)) (fun i d t h1 h2=>hx (i+1) d t (by simpa using h1) (by simpa using h2))
  simp only [fk,ho]
  rw [this,R9 hne]
theorem l_ {ρ0:cW} {N o:Nat}:∀ {ρ:cW} {h h' s:Hp},eL ρ h=true->o < s.length->∀ {i:Nat} {d:Option Nat} {t:AObj} {x:Option AObj},ρ[i]? =some (some (o,d))->h[i]? =some (some t)->t.own=true->h'[i]? =some x->(fk ρ0 N ρ h h' s)[o]? =some (l9 ρ0 N x)
 |[],_,_,s,_,_,i,d,t,x,h1,_,_,_=>by simp at h1
 |_::_,[],_,s,_,_,i,d,t,x,_,h2,_,_=>by simp at h2
 |_::_,_::_,[],s,_,_,i,d,t,x,_,_,_,h4=>by simp at h4
 |y::ρ,u::h,z::h',s,hs,hlt,0,d,t,x,h1,h2,h3,h4=>by
  simp only [RD,Option.some.injEq] at h1 h2 h4
  subst h1;subst h2;subst h4
  have hx:∀ (i:Nat) (d':Option Nat) (t':AObj),ρ[i]? =some (some (o,d'))->h[i]? =some (some t')->t'.own=false:=by
   intro i d' t' k1 k2
   cases ho:t'.own with
   |false=>rfl
   |true=>exact absurd rfl (pv (n:=o) (m:=o) (d:=d) (e:=d') (t:=t) (u:=t') hs (show 0 < i+1 by omega) zP zP (by simpa using k1) (by simpa using k2) (.inl h3))
  simp only [fk,h3]
  rw [ij hx,Sg hlt]
 |y::ρ,u::h,z::h',s,hs,hlt,i+1,d,t,x,h1,h2,h3,h4=>by
  simp only [Rz] at h1 h2 h4
  cases y with
  |none=>cases u<;>simpa [fk] using l_ (ρ:=ρ) (h:=h) (h':=h') (s:=s) (kx hs) hlt h1 h2 h3 h4
  |some y=>
   obtain⟨n,e⟩:=y
   cases u with
   |none=>simpa [fk] using l_ (ρ:=ρ) (h:=h) (h':=h') (s:=s) (kx hs) hlt h1 h2 h3 h4
   |some u=>
    cases ho:u.own
    ·simpa [fk,ho] using l_ (ρ:=ρ) (h:=h) (h':=h') (s:=s) (kx hs) hlt h1 h2 h3 h4
    simpa [fk,ho] using l_ (ρ:=ρ) (h:=h) (h':=h') (s:=s.set n (l9 ρ0 N z)) (kx hs) (by simpa using hlt) h1 h2 h3 h4
theorem rt (ρ:cW) (N:Nat):∀ (h:Hp) (o:Nat),(ju ρ N h)[o]? =(h[o]?).map (l9 ρ N)
 |[],o=>by simp [ju]
 |none::h,0=>by simp [ju,l9]
 |some ob::h,0=>by simp [ju,l9]
 |none::h,o+1=>by simpa [ju] using rt ρ N h o
 |some ob::h,o+1=>by simpa [ju] using rt ρ N h o
def fc (β β0':Be) (n:Nat):Be:=β++β0'.drop n
section
variable {β β0':Be} {ρ:cW} {N:Nat}
theorem uJ (hN:β.length=N) {o:Nat} (ho:ρ.length<=o):(fc β β0' ρ.length)[N+(o - ρ.length)]? =β0'[o]? :=by
 unfold fc
 rw [RA zO,RR]
 congr 1
 omega
theorem oy {o:Nat} (ho:o < β.length):(fc β β0' ρ.length)[o]? =β[o]? :=by
 unfold fc
 rw [Rw ho]
theorem zG {β:Be} {n:Nat} {p:Pl} (h:β.getD n none=some p):β[n]? =some (some p):=by
 rw [Ru] at h
 cases hx:β[n]? with
 |none=>rw [hx] at h;cases h
 |some y=>rw [hx] at h;simp only [Ry] at h;rw [h]
theorem uK (hN:β.length=N) (hle:Be.le (fh β ρ) β0') {o:Nat} {p:Pl} (hp:β0'[o]? =some (some p)):
  ∃ (n:Nat) (d:Option Nat) (q:Pl),rr ρ N o=some (n,d)/\(fc β β0' ρ.length)[n]? =some (some q)/\p=(match d with
   |none=>q
   |some d=>{ q with base:=q.base+d*q.esz,avail:=q.avail - d*q.esz }):=by
 unfold rr
 by_cases hlt:o < ρ.length
 ·rw [if_pos hlt]
  have hx:ρ[o]? =some ρ[o]:=RC hlt
  have hb:=hle _ _ (cu β hx)
  rw [hp] at hb
  simp only [Option.some.injEq] at hb
  have hat:ρ.at o=ρ[o]:=by unfold cW.at;rw [Ru,hx];rfl
  rw [hat]
  cases hr:ρ[o] with
  |none=>rw [hr] at hb;cases hb
  |some x=>
   obtain⟨n,d⟩:=x
   rw [hr] at hb
   cases d with
   |none=>
    dsimp only at hb
    have h1:=zG hb.symm
    exact⟨n,none,p,rfl,by rw [oy (Rv.1 h1).1];exact h1,rfl⟩
   |some d=>
    dsimp only at hb
    cases hg:β.getD n none with
    |none=>rw [hg] at hb;cases hb
    |some q=>
     rw [hg] at hb
     simp only [RO,Option.some.injEq] at hb
     have h1:=zG hg
     exact⟨n,some d,q,rfl,by rw [oy (Rv.1 h1).1];exact h1,hb⟩
 rw [if_neg hlt]
 exact⟨N+(o - ρ.length),none,p,rfl,by rw [uJ hN zO];exact hp,rfl⟩
theorem uf (hN:β.length=N) (hle:Be.le (fh β ρ) β0'):∀ {s:Sc} {v:Value},ScR β0' s v->ScR (fc β β0' ρ.length) (px ρ N s) v
 | .int ..,_,h=>h
 | .bo _,_,h=>h
 | .st _,_,h=>h
 | .nil,_,h=>h
 | .un,_,h=>h
 | .sl o off len,v,⟨a,cap,hv,h1,h2,h3⟩=>by
  rcases h3 with h3|⟨p,hp,ha,hav⟩
  ·subst h3
   have:len=0:=zO
   subst this
   subst hv
   simp only [px]
   split
   ·exact⟨a,0,rfl,RI _,h2,.inl rfl⟩
   ·exact⟨a,0,rfl,RI _,h2,.inl rfl⟩
   exact⟨a,rfl⟩
  obtain⟨n,d,q,hn,hq,hpq⟩:=uK hN hle hp
  simp only [px,hn]
  cases d with
  |none=>
   dsimp only at hpq
   subst hpq
   exact⟨a,cap,hv,h1,h2,.inr ⟨p,hq,ha,hav⟩⟩
  |some d=>
   dsimp only at hpq
   subst hpq
   dsimp only at ha hav
   by_cases hc:cap=0
   ·exact⟨a,cap,hv,h1,h2,.inl hc⟩
   refine⟨a,cap,hv,h1,h2,?_⟩
   by_cases hz:q.esz=0
   ·refine .inr ⟨q,hq,?_,?_⟩
    ·rw [ha,hz];simp
    rw [hz];simp
   refine .inr ⟨q,hq,?_,?_⟩
   ·rw [ha]
    simp only [Option.some.injEq,Addr.mk.injEq,and_true,true_and]
    rw [RH]
    omega
   have hpos:0 < (off+cap)*q.esz:=Nat.mul_pos zO zO
   rw [show off+d+cap=(off+cap)+d from by omega,RH]
   omega
 | .pt o k j,v,⟨p,hp,hv⟩=>by
  obtain⟨n,d,q,hn,hq,hpq⟩:=uK hN hle hp
  simp only [px,hn]
  cases d with
  |none=>
   dsimp only at hpq
   subst hpq
   exact⟨p,hq,hv⟩
  |some d=>
   dsimp only at hpq
   subst hpq
   refine⟨q,hq,?_⟩
   rw [hv]
   simp only [Value.pointer.injEq,Option.some.injEq,Addr.mk.injEq,and_true,true_and]
   rw [RH]
   omega
theorem zH (hN:β.length=N) (hle:Be.le (fh β ρ) β0'):∀ {s:List Sc} {vs:List Value},L2 (ScR β0') s vs->L2 (ScR (fc β β0' ρ.length)) (pz ρ N s) vs
 |[],[],_=>trivial
 |a::l,v::vs,h=>⟨uf hN hle h.1,zH hN hle h.2⟩
 |[],_::_,h=>h.elim
 |_::_,[],h=>h.elim
theorem LZ (hN:β.length=N) (hle:Be.le (fh β ρ) β0') {s:Co} {v:Value} (h:DR β0' s v):DR (fc β β0' ρ.length) (Jo ρ N s) v:=by
 cases s with
 |sc s=>exact uf hN hle h
 |ag l=>obtain⟨vs,hv,hl⟩:=h;exact⟨vs,hv,zH hN hle hl⟩
theorem Ga (hN:β.length=N) (hle:Be.le (fh β ρ) β0'):∀ {s:List Co} {vs:List Value},L2 (DR β0') s vs->L2 (DR (fc β β0' ρ.length)) (F_ ρ N s) vs
 |[],[],_=>trivial
 |a::l,v::vs,h=>⟨LZ hN hle h.1,Ga hN hle h.2⟩
 |[],_::_,h=>h.elim
 |_::_,[],h=>h.elim
theorem L3 (hN:β.length=N) (hle:Be.le (fh β ρ) β0') {s:AV} {v:Value} (h:f9 β0' s v):f9 (fc β β0' ρ.length) (lM ρ N s) v:=by
 cases s with
 |sc s=>exact uf hN hle h
 |ag l=>obtain⟨vs,hv,hl⟩:=h;exact⟨vs,hv,zH hN hle hl⟩
 |tu l=>obtain⟨vs,hv,hl⟩:=h;exact⟨vs,hv,Ga hN hle hl⟩
 |cl f l=>obtain⟨vs,hv,hl⟩:=h;exact⟨vs,hv,zH hN hle hl⟩
theorem BE (ρ:cW) (N:Nat):∀ (l:List Sc) (i:Nat),(pz ρ N l)[i]? =(l[i]?).map (px ρ N)
 |[],i=>by simp [pz]
 |a::l,0=>by simp [pz]
 |a::l,i+1=>by simpa [pz] using BE ρ N l i
theorem sN (ρ:cW) (N:Nat):∀ (l:List Sc),(pz ρ N l).length=l.length
 |[]=>rfl
 |a::l=>by simp [pz,sN ρ N l]
theorem yj (ρ:cW) (N:Nat):∀ (l:List (List Sc)) (i:Nat),(uI ρ N l)[i]? =(l[i]?).map (pz ρ N)
 |[],i=>by simp [uI]
 |a::l,0=>by simp [uI]
 |a::l,i+1=>by simpa [uI] using yj ρ N l i
theorem jv (ob:AObj):(ib ρ N ob).esz=ob.esz/\(ib ρ N ob).ty=ob.ty/\(ib ρ N ob).own=ob.own/\(ib ρ N ob).fl=ob.fl:=by
 unfold ib
 split<;>simp_all
theorem Gb (hN:β.length=N) (hle:Be.le (fh β ρ) β0') {w:World} {p:Option Pl} {ob:AObj} (h:ObR β0' w p ob) (hflat:ob.fl=true->FlatL ob.cs):ObR (fc β β0' ρ.length) w p (ib ρ N ob):=by
 obtain⟨e1,e2,e3,e4⟩:=jv (ρ:=ρ) (N:=N) ob
 cases p with
 |none=>
  have h0:ob.cs=[]:=h
  show (ib ρ N ob).cs=[]
  unfold ib
  split
  ·exact h0
  rw [h0];rfl
 |some p=>
  obtain⟨he,arr,T,fz,hh,hc,ho⟩:=h
  refine⟨by rw [e1];exact he,arr,T,fz,hh,?_,by rw [e2,e3];exact ho⟩
  rw [e1]
  unfold ib
  split
  ·rename_i hf
   exact fun k c hk=>⟨(hc k c hk).1,fun j s hs=>let⟨v,hv,hr⟩:=(hc k c hk).2 j s hs;⟨v,hv,zE (gk.1 (hflat hf c (RF hk)) s (RF hs)) hr⟩⟩
  intro k c hk
  dsimp only at hk
  rw [yj] at hk
  simp only [RU] at hk
  obtain⟨c0,hk0,rfl⟩:=hk
  obtain⟨h1,h2⟩:=hc k c0 hk0
  refine⟨by rw [sN];exact h1,fun j s hs=>?_⟩
  rw [BE] at hs
  simp only [RU] at hs
  obtain⟨s0,hs0,rfl⟩:=hs
  obtain⟨v,hv,hr⟩:=h2 j s0 hs0
  exact⟨v,hv,uf hN hle hr⟩
end
theorem Gc {β:Be} {ρ:cW} {s t:Hp} (hm:lK ρ s ρ t) {k:Nat} (h:Own (fh β ρ) t k):∃ (i n:Nat) (ob':AObj) (p:Pl),ρ[i]? =some (some (n,none))/\s[n]? =some (some ob')/\ob'.own=true/\β[n]? =some (some p)/\(fh β ρ)[i]? =some (some p)/\p.blk=k/\∃ ob:AObj,t[i]? =some (some ob)/\ob.own=true:=by
 obtain⟨i,ob,p,ho,hown,hp,rfl⟩:=h
 rcases gE hm ho with⟨hr,_⟩|⟨n,d,ob',hr,hn,hob⟩
 ·rw [cu β hr] at hp;cases hp
 obtain⟨rfl,hown'⟩:=m_ hob hown
 have hp':=hp
 rw [cu β hr] at hp'
 simp only [Option.some.injEq] at hp'
 exact⟨i,n,ob',p,hr,hn,hown',zG hp',hp,rfl,ob,ho,hown⟩
theorem D7 {P:Program} {args0 avs:List AV} {h0 h0' s:Hp} {res0:AV} (ρ:cW) (hargs:rp ρ args0 avs) (hm:lK ρ s ρ h0) (hsep:eL ρ h0=true) {β:Be} {w:World} {vs:List Value} (hs:HSim β s w) (hvs:L2 (f9 β) avs vs) {e:Ending} {w':World}
  (hend:∃ β' v,e=.returned v/\f9 β' res0 v/\HSim β' h0' w'/\StepR (fh β ρ) β' h0 h0' w w'):∃ β' v,e=.returned v/\f9 β' (lM ρ s.length res0) v/\HSim β' (eG ρ h0 h0' s) w'/\StepR β β' s (eG ρ h0 h0' s) w w':=by
 have hlen:ρ.length=h0.length:=jt hm
 obtain⟨β0',v,he,hr,hh,hst⟩:=hend
 have hN:β.length=s.length:=hs.len
 have hle:=hst.le
 have hl0':h0.length<=h0'.length:=hst.len
 have hblk:∀ {o:Nat} {ob:AObj} {p:Pl},s[o]? =some (some ob)->β[o]? =some (some p)->(∀ (i:Nat) (d:Option Nat) (t:AObj),ρ[i]? =some (some (o,d))->h0[i]? =some (some t)->t.own=false)->w'.heap[p.blk]? =w.heap[p.blk]? :=by
  intro o ob p ho hp hx
  obtain⟨q,hq,hR⟩:=hs.ob o ob ho
  rw [hp] at hq;cases hq
  refine hst.block _ hR.lt fun hown=>?_
  obtain⟨i,n,ob',q,hr1,hn,hown',hq,_,hqb,t,ht,hto⟩:=Gc hm hown
  by_cases hno:n=o
  ·subst hno
   have:=hx i none t hr1 ht
   rw [hto] at this;cases this
  exact hs.apart n o ob' ob q p hn ho hown' hq hp hno hqb
 have hlenU:(fk ρ s.length ρ h0 h0' s).length=s.length:=iM _ _ _ _ _ _
 have kind:∀ {o:Nat} {x:AObj},(eG ρ h0 h0' s)[o]? =some (some x)->
   (o < s.length/\s[o]? =some (some x)/\(∀ (i:Nat) (d:Option Nat) (t:AObj),ρ[i]? =some (some (o,d))->h0[i]? =some (some t)->t.own=false))\/
   (o < s.length/\∃ (i:Nat) (x0 t ob:AObj),ρ[i]? =some (some (o,none))/\h0[i]? =some (some t)/\t.own=true/\s[o]? =some (some ob)/\ob.own=true/\h0'[i]? =some (some x0)/\i < h0.length/\x=ib ρ s.length x0)\/
   (∃ (i:Nat) (x0:AObj),h0.length<=i/\o=s.length+(i - h0.length)/\h0'[i]? =some (some x0)/\x=ib ρ s.length x0):=by
  intro o x hx
  unfold eG at hx
  rcases RL o s.length with hlt|hge
  ·rw [Rw (by rw [hlenU];exact hlt)] at hx
   by_cases hown:∃ (i:Nat) (d:Option Nat) (t:AObj),ρ[i]? =some (some (o,d))/\h0[i]? =some (some t)/\t.own=true
   ·obtain⟨i,d,t,h1,h2,h3⟩:=hown
    have hil:i < h0.length:=(Rv.1 h2).1
    have hx':h0'[i]? =some (h0'[i]' zO):=RC zO
    rw [l_ hsep hlt h1 h2 h3 hx'] at hx
    rcases gE hm h2 with⟨hr1,_⟩|⟨n,d',ob',hr1,hn,hob⟩
    ·rw [h1] at hr1;cases hr1
    rw [h1] at hr1
    simp only [Option.some.injEq,Prod.mk.injEq] at hr1
    obtain⟨rfl,rfl⟩:=hr1
    obtain⟨rfl,hown'⟩:=m_ hob h3
    cases hz:h0'[i]' zO with
    |none=>rw [hz] at hx;cases hx
    |some x0=>
     rw [hz] at hx
     simp only [l9,Option.some.injEq] at hx
     exact .inr (.inl ⟨hlt,i,x0,t,ob',h1,h2,h3,hn,hown',by rw [hx',hz],hil,hx.symm⟩)
   have hx2:∀ (i:Nat) (d:Option Nat) (t:AObj),ρ[i]? =some (some (o,d))->h0[i]? =some (some t)->t.own=false:=by
    intro i d t h1 h2
    cases h3:t.own with
    |false=>rfl
    |true=>exact absurd ⟨i,d,t,h1,h2,h3⟩ hown
   rw [ij hx2] at hx
   exact .inl ⟨hlt,hx,hx2⟩
  rw [RA (by rw [hlenU];exact hge),hlenU,rt,RR] at hx
  simp only [RU] at hx
  obtain⟨y,hy,hxy⟩:=hx
  cases y with
  |none=>cases hxy
  |some x0=>
   simp only [l9,Option.some.injEq] at hxy
   exact .inr (.inr ⟨h0.length+(o - s.length),x0,zO,zO,hy,hxy.symm⟩)
 have hnew:∀ {i:Nat},h0.length<=i->(fc β β0' ρ.length)[s.length+(i - h0.length)]? =β0'[i]? :=by
  intro i hi
  have:=uJ (β:=β) (β0':=β0') (ρ:=ρ) hN (o:=i) zO
  rwa [hlen] at this⊢
 have hold:∀ {o:Nat},o < s.length->(fc β β0' ρ.length)[o]? =β[o]? :=fun h=>oy zO
 have hplace:∀ {i o:Nat} {q:Option Pl},ρ[i]? =some (some (o,none))->o < s.length->β0'[i]? =some q->β[o]? =some q:=by
  intro i o q h1 ho hq
  have hb:=hle _ _ (cu β h1)
  rw [hq] at hb
  simp only [Option.some.injEq] at hb
  have:β[o]? =some (β[o]' zO):=RC zO
  rw [Ru,this] at hb
  rw [this,hb]
  rfl
 have hfresh:∀ {i:Nat} {x0:AObj} {p:Pl},h0.length<=i->h0'[i]? =some (some x0)->β0'[i]? =some (some p)->Own β s p.blk\/w.heap.size<=p.blk:=by
  intro i x0 p hi hx hp
  rcases hst.fresh i x0 p hi hx hp with h1|h1
  ·obtain⟨j,n,ob',q,hr1,hn,hown',hq,_,hqb,_⟩:=Gc hm h1
   exact .inl ⟨n,ob',q,hn,hown',hq,hqb⟩
  exact .inr h1
 refine⟨fc β β0' ρ.length,v,he,L3 hN hle hr,⟨?_,?_,?_,?_⟩,⟨?_,hst.os,hst.tape,hst.output,hst.size,?_,?_,?_,?_⟩⟩
 ·
  unfold fc eG
  have hr1:∀ h:Hp,(ju ρ s.length h).length=h.length:=by
   intro h
   induction h with
   |nil=>rfl
   |cons y h ih=>cases y<;>simp [ju,ih]
  simp only [R2,List.length_drop,hlenU,hr1,hN,hh.len,hlen]
 ·intro o x hx
  rcases kind hx with⟨hlt,hsx,hx2⟩|⟨hlt,i,x0,t,ob,h1,h2,h3,hsx,hown,hx0,hil,rfl⟩|⟨i,x0,hi,rfl,hx0,rfl⟩
  ·obtain⟨q,hq,hR⟩:=hs.ob o x hsx
   refine⟨q,by rw [hold hlt];exact hq,(hR.world fun q' hq'=>?_).mono (Be.le_append _ _)⟩
   subst hq'
   exact hblk hsx hq hx2
  ·obtain⟨q,hq,hR⟩:=hh.ob i x0 hx0
   exact⟨q,by rw [hold hlt];exact hplace h1 hlt hq,Gb hN hle hR (hh.flat i x0 hx0)⟩
  obtain⟨q,hq,hR⟩:=hh.ob i x0 hx0
  exact⟨q,by rw [hnew hi];exact hq,Gb hN hle hR (hh.flat i x0 hx0)⟩
 ·intro o x hx hf
  have hflat:∀ {i:Nat} {x0:AObj},h0'[i]? =some (some x0)->(ib ρ s.length x0).fl=true->FlatL (ib ρ s.length x0).cs:=by
   intro i x0 hx0 hf
   have h4:=(jv (ρ:=ρ) (N:=s.length) x0).2.2.2
   rw [h4] at hf
   have:ib ρ s.length x0=x0:=by unfold ib;rw [hf]
   rw [this]
   exact hh.flat i x0 hx0 hf
  rcases kind hx with⟨hlt,hsx,hx2⟩|⟨hlt,i,x0,t,ob,h1,h2,h3,hsx,hown,hx0,hil,rfl⟩|⟨i,x0,hi,rfl,hx0,rfl⟩
  ·exact hs.flat o x hsx hf
  ·exact hflat hx0 hf
  exact hflat hx0 hf
 ·intro o o' x x' p p' hx hx' hxo hp hp' hne
  have oldp:∀ {o:Nat} {x:AObj} {p:Pl},(eG ρ h0 h0' s)[o]? =some (some x)->o < s.length->(fc β β0' ρ.length)[o]? =some (some p)->∃ ob:AObj,s[o]? =some (some ob)/\(x.own=true->ob.own=true)/\β[o]? =some (some p):=by
   intro o x p hx hlt hp
   rw [hold hlt] at hp
   rcases kind hx with⟨_,hsx,_⟩|⟨_,i,x0,t,ob,h1,h2,h3,hsx,hown,hx0,hil,rfl⟩|⟨i,x0,hi,rfl,hx0,rfl⟩
   ·exact⟨x,hsx,id,hp⟩
   ·exact⟨ob,hsx,fun _=>hown,hp⟩
   omega
  have cross:∀ {o o':Nat} {x x':AObj} {p p':Pl},(eG ρ h0 h0' s)[o]? =some (some x)->(eG ρ h0 h0' s)[o']? =some (some x')->o < s.length->s.length<=o'->(x.own=true\/x'.own=true)->
    (fc β β0' ρ.length)[o]? =some (some p)->(fc β β0' ρ.length)[o']? =some (some p')->p.blk≠p'.blk:=by
   intro o o' x x' p p' hx hx' hlt hge hor hp hp' hbb
   obtain⟨ob,hsx,hown,hbp⟩:=oldp hx hlt hp
   rcases kind hx' with⟨h1,_⟩|⟨h1,_⟩|⟨i',x0',hi',rfl,hx0',rfl⟩
   ·omega
   ·omega
   rw [hnew hi'] at hp'
   rcases hst.fresh i' x0' p' hi' hx0' hp' with hO|hO
   ·obtain⟨j,n,ob',q,hr1,hn,hown',hq,hbq,hqb,t,ht,hto⟩:=Gc hm hO
    by_cases hno:n=o
    ·subst hno
     rcases kind hx with⟨_,_,hx2⟩|⟨_,i,x0,t',ob2,h1,h2,h3,_,_,hx0,hil,rfl⟩|⟨i,x0,hi,he2,_⟩
     ·have:=hx2 j none t hr1 ht
      rw [hto] at this;cases this
     ·have hij:i=j:=by
       by_cases hij:i=j
       ·exact hij
       exact absurd rfl (F7 hsep hij h1 h2 hr1 ht (.inl h3))
      subst hij
      have hbi:β0'[i]? =some (some q):=hle _ _ hbq
      have hneq:i≠i':=zO
      rw [(jv (ρ:=ρ) (N:=s.length) x0).2.2.1,(jv (ρ:=ρ) (N:=s.length) x0').2.2.1] at hor
      rcases hor with ho1|ho1
      ·exact hh.apart i i' x0 x0' q p' hx0 hx0' ho1 hbi hp' hneq hqb
      exact hh.apart i' i x0' x0 p' q hx0' hx0 ho1 hp' hbi (Ne.symm hneq) hqb.symm
     omega
    exact hs.apart n o ob' ob q p hn hsx hown' hq hbp hno (by rw [hqb,hbb])
   obtain⟨q,hq,hR⟩:=hs.ob o ob hsx
   rw [hbp] at hq
   cases hq
   have:=hR.lt
   omega
  rcases RL o s.length with hlt|hge
  ·rcases RL o' s.length with hlt'|hge'
   ·obtain⟨ob,hsx,hown,hbp⟩:=oldp hx hlt hp
    obtain⟨ob',hsx',_,hbp'⟩:=oldp hx' hlt' hp'
    exact hs.apart o o' ob ob' p p' hsx hsx' (hown hxo) hbp hbp' hne
   exact cross hx hx' hlt hge' (.inl hxo) hp hp'
  rcases RL o' s.length with hlt'|hge'
  ·exact (cross hx' hx hlt' hge (.inr hxo) hp' hp).symm
  rcases kind hx with⟨h1,_⟩|⟨h1,_⟩|⟨i,x0,hi,rfl,hx0,rfl⟩
  ·omega
  ·omega
  rcases kind hx' with⟨h1,_⟩|⟨h1,_⟩|⟨i',x0',hi',rfl,hx0',rfl⟩
  ·omega
  ·omega
  rw [hnew hi] at hp
  rw [hnew hi'] at hp'
  rw [(jv (ρ:=ρ) (N:=s.length) x0).2.2.1] at hxo
  exact hh.apart i i' x0 x0' p p' hx0 hx0' hxo hp hp' (fun e=>hne (by rw [e]))
 ·exact Be.le_append _ _
 ·intro k hk hno
  refine hst.block k hk fun hown=>?_
  obtain⟨i,n,ob',q,hr1,hn,hown',hq,_,hqb,_⟩:=Gc hm hown
  exact hno ⟨n,ob',q,hn,hown',hq,hqb⟩
 ·unfold eG
  rw [R2,hlenU]
  omega
 ·intro o x hlt hx
  rcases kind hx with⟨_,hsx,_⟩|⟨_,i,x0,t,ob,h1,h2,h3,hsx,hown,hx0,hil,rfl⟩|⟨i,x0,hi,rfl,hx0,rfl⟩
  ·exact⟨x,hsx,id⟩
  ·exact⟨ob,hsx,fun _=>hown⟩
  omega
 intro o x p hge hx hp
 rcases kind hx with⟨h1,_⟩|⟨h1,_⟩|⟨i,x0,hi,rfl,hx0,rfl⟩
 ·omega
 ·omega
 rw [hnew hi] at hp
 exact hfresh hi hx0 hp
theorem BF {P:Program} {f:FuncId} {args0 avs:List AV} {h0 h0' s:Hp} {res0:AV} (ρ:cW) (hargs:rp ρ args0 avs) (hm:lK ρ s ρ h0) (hsep:eL ρ h0=true) {β:Be} {w:World} {vs:List Value}
  (hcall:∀ vs,HSim (fh β ρ) h0 w->L2 (f9 (fh β ρ)) args0 vs->Calls P f vs.toArray w fun e w'=>∃ β' v,e=.returned v/\f9 β' res0 v/\HSim β' h0' w'/\StepR (fh β ρ) β' h0 h0' w w') (hs:HSim β s w) (hvs:L2 (f9 β) avs vs):
  Calls P f vs.toArray w fun e w'=>∃ β' v,e=.returned v/\f9 β' (lM ρ s.length res0) v/\HSim β' (eG ρ h0 h0' s) w'/\StepR β β' s (eG ρ h0 h0' s) w w':=
 (hcall vs (D4 hs hm hsep) (Jk hargs hvs)).mono fun e w' h=>D7 (P:=P) ρ hargs hm hsep hs hvs h
theorem uL {P:Program} {f:FuncId} {args0 avs:List AV} {h0 h0' s:Hp} {res0:AV} (ct:gB P f args0 h0 res0 h0') (ρ:cW) (hargs:rp ρ args0 avs) (hm:lK ρ s ρ h0) (hsep:eL ρ h0=true):
  gB P f avs s (lM ρ s.length res0) (eG ρ h0 h0' s):=
 ⟨ct.1,fun β w vs hs hvs=>BF ρ hargs hm hsep (fun vs h1 h2=>ct.2 _ w vs h1 h2) hs hvs⟩
theorem ah {P:Program} {E:Entry} {F:S->Prop} {f:FuncId} {avs:List AV} {d:Option Tmp} {k:List fI} {s:S} {c:Prop} {args0:List AV} {h0 h0':Hp} {res0:AV} (hc:c) (ct:gB P f args0 h0 res0 h0') (ρ:cW)
  (hm:rp ρ args0 avs/\lK ρ s.hp ρ h0) (hsep:eL ρ h0=true) (hk:gD P E F (.go k (s.put d (some (lM ρ s.hp.length res0)) (eG ρ h0 h0' s.hp)) True)):gD P E F (.call f avs d k s c):=
 ⟨hc,(uL ct ρ hm.1 hm.2 hsep).e.r hk.2⟩
def fT {α:Type}:Nat->List α->List (List α)
 |0,_=>[]
 |n+1,l=>match l with
  |[]=>[]
  |l=>l.take 16::fT n (l.drop 16)
def ru:Nat->List AV->List (Option AV)
 |0,l=>l.map some
 |n+1,[]=>none::ru n []
 |n+1,a::l=>some a::ru n l
theorem pA:∀ (n:Nat) (args:List AV),ru n args=args.map some++List.replicate (n - args.length) none
 |0,l=>by simp [ru]
 |n+1,[]=>by simp [ru,pA n [],Sj]
 |n+1,a::l=>by simp [ru,pA n l]
def nT (n:Nat) (args:List AV):Slots:=fT (n / 16+1) (ru n args)
theorem oz {α:Type} (d:Option α):∀ (m:Nat) (l:List (Option α)) (i:Nat),l.length<=16*m->((fT m l).getD (i / 16) []).getD (i % 16) none=l.getD i none/\(i % 16 < ((fT m l).getD (i / 16) []).length->i < l.length)
 |0,l,i,h=>by
  have:l=[]:=RV zO
  subst this
  simp [fT]
 |m+1,[],i,h=>by simp [fT]
 |m+1,a::l,i,h=>by
  simp only [fT]
  rcases RL i 16 with hi|hi
  ·have h1:i / 16=0:=zO
   have h2:i % 16=i:=zO
   rw [h1,h2]
   simp only [RZ]
   refine⟨?_,fun h3=>by simp at h3⊢;omega⟩
   rw [Ru,RQ hi,Ru]
  have h1:i / 16=(i - 16) / 16+1:=zO
  have h2:i % 16=(i - 16) % 16:=zO
  rw [h1,h2,R0]
  obtain⟨e1,e2⟩:=oz d m ((a::l).drop 16) (i - 16) (by simp at h⊢;omega)
  refine⟨?_,fun h3=>?_⟩
  ·rw [e1,Ru,RR,Ru]
   congr 2
   omega
  have:=e2 h3
  simp at this⊢
  omega
theorem yk {α:Type}:∀ (m:Nat) (l:List (Option α)) (i:Nat),i % 16 < ((fT m l).getD (i / 16) []).length->i < l.length
 |0,l,i,h=>by simp [fT] at h
 |m+1,[],i,h=>by simp [fT] at h
 |m+1,a::l,i,h=>by
  simp only [fT] at h
  rcases RL i 16 with hi|hi
  ·have h1:i / 16=0:=zO
   have h2:i % 16=i:=zO
   rw [h1,h2] at h
   simp only [RZ] at h
   simp at h⊢
   omega
  have h1:i / 16=(i - 16) / 16+1:=zO
  have h2:i % 16=(i - 16) % 16:=zO
  rw [h1,h2,R0] at h
  have:=yk m ((a::l).drop 16) (i - 16) h
  simp at this⊢
  omega
theorem sO {α:Type}:∀ (m:Nat) (l:List (Option α)) (i:Nat) (v:α),((fT m l).getD (i / 16) []).getD (i % 16) none=some v->l[i]? =some (some v)
 |0,l,i,v,h=>by simp [fT] at h
 |m+1,[],i,v,h=>by simp [fT] at h
 |m+1,a::l,i,v,h=>by
  simp only [fT] at h
  rcases RL i 16 with hi|hi
  ·have h1:i / 16=0:=zO
   have h2:i % 16=i:=zO
   rw [h1,h2] at h
   simp only [RZ] at h
   rw [Ru,RQ hi] at h
   cases hx:(a::l)[i]? with
   |none=>rw [hx] at h;cases h
   |some y=>rw [hx] at h;simp only [Ry] at h;rw [h]
  have h1:i / 16=(i - 16) / 16+1:=zO
  have h2:i % 16=(i - 16) % 16:=zO
  rw [h1,h2,R0] at h
  have:=sO m ((a::l).drop 16) (i - 16) v h
  rw [RR] at this
  rw [<-this]
  congr 1
  omega
theorem zJ {β:Be} {n:Nat} {args:List AV} {vs:List Value} (h:L2 (f9 β) args vs):SlotsR β (nT n args) (vs.toArray++Array.replicate (n - vs.toArray.size) undef):=by
 have hl:=h.length
 have hpl:(ru n args).length=max args.length n:=by simp [pA];omega
 by_cases hn:args.length<=n
 ·have hb:(ru n args).length<=16*(n / 16+1):=by rw [hpl];omega
  refine⟨fun i hi=>?_,fun i v hv=>?_⟩
  ·have:=(oz (α:=AV) none (n / 16+1) (ru n args) i hb).2 hi
   rw [hpl] at this
   simp
   omega
  unfold Slots.get nT at hv
  rw [(oz (α:=AV) none (n / 16+1) (ru n args) i hb).1,Ru] at hv
  rw [pA] at hv
  rcases RL i args.length with hi|hi
  ·rw [Rw (by simpa using hi),R3] at hv
   have hx:args[i]? =some args[i]:=RC hi
   rw [hx] at hv
   simp only [RO,Ry,Option.some.injEq] at hv
   obtain⟨u,hu,hr⟩:=h.get hx
   refine⟨u,?_,by rw [<-hv];exact hr⟩
   rw [RY zS]
   simpa using hu
  rw [RA (by simpa using hi)] at hv
  rw [List.getElem?_replicate] at hv
  split at hv<;>cases hv
 have hrep:n - args.length=0:=zO
 have hpad:ru n args=args.map some:=by simp [pA,hrep]
 refine⟨fun i hi=>?_,fun i v hv=>?_⟩
 ·unfold Slots.has nT at hi
  rw [hpad] at hi
  have:=yk (n / 16+1) (args.map some) i hi
  simp at this⊢
  omega
 unfold Slots.get nT at hv
 rw [hpad] at hv
 have hx:=sO (n / 16+1) (args.map some) i v hv
 rw [R3] at hx
 simp only [RU] at hx
 obtain⟨y,hy,he⟩:=hx
 simp only [Option.some.injEq] at he
 subst he
 obtain⟨u,hu,hr⟩:=h.get hy
 refine⟨u,?_,hr⟩
 have hlt:=(Rv.1 hu).1
 rw [RY (by simpa using hlt)]
 simpa using hu
end
section
open Go.RowKit
def Gd (P:Program) (s:S):ResultVar->Option AV
 | .tmp t=>s.sl.get t
 | .cell a t=>match s.sl.get a with
  |some (.sc (.pt o k j))=>match s.obj o with
   |some ob=>match ob.cs[k]? with
    |some c=>match cX P t with
     |true=>if j+dS P t<=c.length then some (.ag ((c.drop j).take (dS P t))) else none
     |false=>if eR P t then match c[j]? with
      |some x=>some (.sc x)
      |none=>none else none
    |none=>none
   |none=>none
  |_=>none
def yl (P:Program) (s:S):List ResultVar->Option (List AV)
 |[]=>some []
 |r::l=>match Gd P s r,yl P s l with
  |some v,some m=>some (v::m)
  |_,_=>none
def sP:List AV->Option (List Co)
 |[]=>some []
 | .sc x::l=>match sP l with
  |some m=>some (.sc x::m)
  |none=>none
 | .ag x::l=>match sP l with
  |some m=>some (.ag x::m)
  |none=>none
 |_::_=>none
def tP (P:Program) (s:S) (rs:List ResultVar):Option AV:=
 match yl P s rs with
 |some [v]=>some v
 |some l=>match sP l with
  |some m=>some (.tu m)
  |none=>none
 |none=>none
section
variable {P:Program} {β:Be} {s:S} {w:World} {tm:Array Value}
def rv (tm:Array Value):ResultVar->Sem Value
 | .tmp t=>pure (tm.getD t undef)
 | .cell a t=>do loadVar t (<-asAddr (tm.getD a undef))
theorem L4 (hs:HSim β s.hp w) (hsl:SlotsR β s.sl tm) {r:ResultVar} {v:AV} (h:Gd P s r=some v):∃ u,(rv tm r).run P w=.ok u w/\f9 β v u:=by
 have slot:∀ {t:Nat} {x:AV},s.sl.get t=some x->f9 β x (tm.getD t undef):=by
  intro t x hx
  obtain⟨u,hu,hr⟩:=hsl.2 t x hx
  have:tm.getD t undef=u:=by simp [RB,hu]
  rw [this];exact hr
 cases r with
 |tmp t=>exact⟨_,rfl,slot h⟩
 |cell a t=>
  simp only [Gd] at h
  split at h
  ·rename_i o k j hx
   have hv:ScR β (.pt o k j) (tm.getD a undef):=slot hx
   have hrun:∀ {u:Value},(Instr.loadAt t (tm.getD a undef)).run P w=.ok u w->(rv tm (.cell a t)).run P w=.ok u w:=by
    intro u hu
    obtain⟨p,_,hpe⟩:=hv
    rw [hpe] at hu
    show ((do loadVar t (<-asAddr (tm.getD a undef)):Sem Value)).run P w=.ok u w
    rw [hpe]
    simpa [Instr.loadAt,Instr.sureAddr,asAddr] using hu
   split at h
   ·rename_i ob hob
    split at h
    ·rename_i c hk
     split at h
     ·rename_i hag
      split at h
      ·rename_i hn
       simp only [Option.some.injEq] at h
       subst h
       obtain⟨vs,h1,h2⟩:=pj hs hob hk hag hn hv
       exact⟨_,hrun h1,vs,rfl,h2⟩
      cases h
     rename_i hag
     split at h
     ·rename_i hkn
      split at h
      ·rename_i y hy
       simp only [Option.some.injEq] at h
       subst h
       obtain⟨u,h1,h2⟩:=pm hs hob hk hag hkn hy hv
       exact⟨u,hrun h1,h2⟩
      cases h
     cases h
    cases h
   cases h
  cases h
theorem zK (hs:HSim β s.hp w) (hsl:SlotsR β s.sl tm):∀ {rs:List ResultVar} {l:List AV},yl P s rs=some l->∃ us,(rs.mapM (rv tm)).run P w=.ok us w/\L2 (f9 β) l us
 |[],l,h=>by
  simp only [yl,Option.some.injEq] at h
  subst h
  exact⟨[],rfl,trivial⟩
 |r::rs,l,h=>by
  simp only [yl] at h
  split at h
  ·rename_i v m hv hm
   simp only [Option.some.injEq] at h
   subst h
   obtain⟨u,h1,h2⟩:=L4 hs hsl hv
   obtain⟨us,h3,h4⟩:=zK hs hsl hm
   refine⟨u::us,?_,h2,h4⟩
   simp only [List.mapM_cons,RX,h1,RW,h3,Sb]
  cases h
theorem zL:∀ {l:List AV} {m:List Co} {us:List Value},sP l=some m->L2 (f9 β) l us->L2 (DR β) m us
 |[],m,[],h,_=>by simp only [sP,Option.some.injEq] at h;subst h;trivial
 | .sc x::l,m,u::us,h,hu=>by
  simp only [sP] at h
  split at h
  ·rename_i m' hm
   simp only [Option.some.injEq] at h
   subst h
   exact⟨hu.1,zL hm hu.2⟩
  cases h
 | .ag x::l,m,u::us,h,hu=>by
  simp only [sP] at h
  split at h
  ·rename_i m' hm
   simp only [Option.some.injEq] at h
   subst h
   exact⟨hu.1,zL hm hu.2⟩
  cases h
 | .tu x::l,m,us,h,_=>by cases h
 | .cl f x::l,m,us,h,_=>by cases h
 |[],m,_::_,_,hu=>hu.elim
 | .sc _::_,m,[],_,hu=>hu.elim
 | .ag _::_,m,[],_,hu=>hu.elim
theorem uM (fn:Func) (tm:Array Value):results fn tm=(do let vs <-fn.results.mapM (rv tm);pure (if h:vs.size=1 then vs[0] else .tuple vs)):=by
 unfold results
 congr 1
theorem D8 (hs:HSim β s.hp w) (hsl:SlotsR β s.sl tm) {fn:Func} {v:AV} (h:tP P s fn.results.toList=some v):∃ u,(results fn tm).run P w=.ok u w/\f9 β v u:=by
 have harr:∀ {us:List Value},(fn.results.toList.mapM (rv tm)).run P w=.ok us w->(fn.results.mapM (rv tm)).run P w=.ok us.toArray w:=by
  intro us hus
  rw [Array.mapM_eq_mapM_toList]
  have e:∀ (m:Sem (List Value)),(List.toArray <$> m)=(do pure (List.toArray (<-m))):=fun m=>rfl
  rw [e,RX,hus]
  rfl
 unfold tP at h
 split at h
 ·rename_i x hx
  simp only [Option.some.injEq] at h
  subst h
  obtain⟨us,h1,h2⟩:=zK (P:=P) hs hsl hx
  match us,h2 with
  |[u],h2=>
   refine⟨u,?_,h2.1⟩
   rw [uM,RX,harr h1]
   rfl
  |[],h2=>exact h2.elim
  |_::_::_,h2=>exact h2.2.elim
 ·rename_i l hne hx
  split at h
  ·rename_i m hm
   simp only [Option.some.injEq] at h
   subst h
   obtain⟨us,h1,h2⟩:=zK (P:=P) hs hsl hx
   refine⟨.tuple us.toArray,?_,us,rfl,zL hm h2⟩
   rw [uM,RX,harr h1]
   have hl:=h2.length
   have h1':us.toArray.size≠1:=by
    intro he
    have:l.length=1:=by simpa [hl] using he
    match l,this with
    |[v],_=>exact hne v rfl
   simp only [RW,dif_neg h1']
   rfl
  cases h
 cases h
end
def zM (P:Program) (rs:List ResultVar) (n0:Nat) (res:AV) (h':Hp) (s:S):Prop:=
 ∃ v ρ,tP P s rs=some v/\F9 n0 0 ρ=true/\eL ρ h'=true/\F4 ρ res v/\lK ρ s.hp ρ h'
theorem ai {P:Program} {E:Entry} {rs:List ResultVar} {n0:Nat} {res:AV} {h':Hp} {s:S} {c:Prop} (ρ:cW) (hc:c) (v:AV) (hr:tP P s rs=some v) (hid:F9 n0 0 ρ=true) (hsep:eL ρ h'=true) (hm:F4 ρ res v/\lK ρ s.hp ρ h'):
  gD P E (zM P rs n0 res h') (.fin s c):=⟨hc,v,ρ,hr,hid,hsep,hm.1,hm.2⟩
theorem ao {P:Program} {f:FuncId} {fn:Func} {c:Code} (hf:P.funcs[f]? =some fn) (hname:(fn.name == "runtime.NumGoroutine")=false) (hb:fn.body=some c) {args:List AV} {h h':Hp} {res:AV}
  (H:∀ E:Entry,E.h.length=h.length->gD P E (zM P fn.results.toList h.length res h') (.go [.code c] ⟨nT fn.ntmps args,h⟩ True)):gB P f args h res h':=by
 refine⟨⟨fn,hf,hname,by rw [hb];rfl⟩,fun β w vs hs hvs=>?_⟩
 refine calls_of_wp hf hb ?_
 let E:Entry:=⟨β,h,w⟩
 have hd:=(H E rfl).2
 refine hd β _ w ⟨rfl,zJ hvs,hs,hs.len,StepR.refl β h w hs.len⟩ _ fun e s' β' a' w' hK hs'=>?_
 have key:zM P fn.results.toList h.length res h' s'->a'.defers=[]/\∃ v,(results fn a'.tmps).run P w'=.ok v w'/\∃ β'' u,Ending.returned v=.returned u/\f9 β'' res u/\HSim β'' h' w'/\StepR β β'' h h' w w':=by
  intro⟨v,ρ,hr,hid,hsep,hav,hhp⟩
  obtain⟨u,hrun,hu⟩:=D8 hs'.hp hs'.sl hr
  have hw:lL ρ h.length ⟨[],h'⟩ ⟨[],s'.hp⟩:=⟨hid,hsep,trivial,hhp⟩
  have hsim:=uH (E:=E) rfl hw (β:=β') (a:=a') (w:=w') ⟨hs'.dfr,⟨fun i hi=>by simp [Slots.has] at hi,fun i x hx=>by simp [Slots.get] at hx⟩,hs'.hp,hs'.ent,hs'.st⟩
  exact⟨hs'.dfr,u,hrun,fh β' ρ,u,rfl,BB hav hu,hsim.hp,hsim.st⟩
 cases e with
 |normal=>exact key hK
 |ret=>exact key hK
 |_=>exact hK.elim
end
section
theorem Hi (ρ:cW) (N o:Nat):rr ρ N o=match ρ[o]? with
  |some x=>x
  |none=>some (N+(o - ρ.length),none):=by
 unfold rr
 by_cases h:o < ρ.length
 ·rw [if_pos h,RC h]
  unfold cW.at
  rw [Ru,RC h]
  rfl
 rw [if_neg h,RK zO]
attribute [go_sem] run uE zB sM eS bR jq Br m9 fi jr S.ev S.evs S.put S.obj S.new S.val S.valc S.parts S.scals Slots.get Slots.put Sc.ofV Nv AV.ofV AV.cells Co.av yd ye over LH yb fits Qu l7 jp Bq Sc.isFlat ru nT fT lM px pz Jo F_ uI ib ju l9 fk eG Hi cW.at S.kill S.sets S.at Int.toNat_natCast List.length_map tP yl Gd sP G_ cN F4 rp LX cM QA Qv Qw lK Qx D6 D5 beq_self_eq_true
attribute [go_sem] Sw Sz Sd Ss Sr List.take_succ_cons Su List.take_nil List.drop_succ_cons Sv List.drop_nil RZ R0 List.getD_nil List.set_cons_zero List.set_cons_succ RD Rz List.getElem?_nil R4 Se Sh List.toList_toArray RO Option.map_none Sp Bool.and_true Bool.true_and Bool.and_self and_true true_and and_self if_true if_false Sj List.replicate_zero RM SA Bool.not_true Bool.not_false beq_true beq_false RS
theorem D9 {α:Type} (l m:List α):Array.append l.toArray m.toArray=(l++m).toArray:=by simp
attribute [go_sem] D9
theorem OY:(0:Nat) / 16=0/\(0:Nat) % 16=0/\(1:Nat) / 16=0/\(1:Nat) % 16=1/\(2:Nat) / 16=0/\(2:Nat) % 16=2/\(3:Nat) / 16=0/\(3:Nat) % 16=3/\(4:Nat) / 16=0/\(4:Nat) % 16=4/\(5:Nat) / 16=0/\(5:Nat) % 16=5/\(6:Nat) / 16=0/\(6:Nat) % 16=6/\(7:Nat) / 16=0/\(7:Nat) % 16=7/\(8:Nat) / 16=0/\(8:Nat) % 16=8/\(9:Nat) / 16=0/\(9:Nat) % 16=9/\(10:Nat) / 16=0/\(10:Nat) % 16=10/\(11:Nat) / 16=0/\(11:Nat) % 16=11/\(12:Nat) / 16=0/\(12:Nat) % 16=12/\(13:Nat) / 16=0/\(13:Nat) % 16=13/\(14:Nat) / 16=0/\(14:Nat) % 16=14/\(15:Nat) / 16=0/\(15:Nat) % 16=15/\(16:Nat) / 16=1/\(16:Nat) % 16=0/\(17:Nat) / 16=1/\(17:Nat) % 16=1/\(18:Nat) / 16=1/\(18:Nat) % 16=2/\(19:Nat) / 16=1/\(19:Nat) % 16=3:=by and_intros<;>rfl
attribute [go_sem] OY
theorem N0:(20:Nat) / 16=1/\(20:Nat) % 16=4/\(21:Nat) / 16=1/\(21:Nat) % 16=5/\(22:Nat) / 16=1/\(22:Nat) % 16=6/\(23:Nat) / 16=1/\(23:Nat) % 16=7/\(24:Nat) / 16=1/\(24:Nat) % 16=8/\(25:Nat) / 16=1/\(25:Nat) % 16=9/\(26:Nat) / 16=1/\(26:Nat) % 16=10/\(27:Nat) / 16=1/\(27:Nat) % 16=11/\(28:Nat) / 16=1/\(28:Nat) % 16=12/\(29:Nat) / 16=1/\(29:Nat) % 16=13/\(30:Nat) / 16=1/\(30:Nat) % 16=14/\(31:Nat) / 16=1/\(31:Nat) % 16=15/\(32:Nat) / 16=2/\(32:Nat) % 16=0/\(33:Nat) / 16=2/\(33:Nat) % 16=1/\(34:Nat) / 16=2/\(34:Nat) % 16=2/\(35:Nat) / 16=2/\(35:Nat) % 16=3/\(36:Nat) / 16=2/\(36:Nat) % 16=4/\(37:Nat) / 16=2/\(37:Nat) % 16=5/\(38:Nat) / 16=2/\(38:Nat) % 16=6/\(39:Nat) / 16=2/\(39:Nat) % 16=7:=by and_intros<;>rfl
attribute [go_sem] N0
theorem N1:(40:Nat) / 16=2/\(40:Nat) % 16=8/\(41:Nat) / 16=2/\(41:Nat) % 16=9/\(42:Nat) / 16=2/\(42:Nat) % 16=10/\(43:Nat) / 16=2/\(43:Nat) % 16=11/\(44:Nat) / 16=2/\(44:Nat) % 16=12/\(45:Nat) / 16=2/\(45:Nat) % 16=13/\(46:Nat) / 16=2/\(46:Nat) % 16=14/\(47:Nat) / 16=2/\(47:Nat) % 16=15/\(48:Nat) / 16=3/\(48:Nat) % 16=0/\(49:Nat) / 16=3/\(49:Nat) % 16=1/\(50:Nat) / 16=3/\(50:Nat) % 16=2/\(51:Nat) / 16=3/\(51:Nat) % 16=3/\(52:Nat) / 16=3/\(52:Nat) % 16=4/\(53:Nat) / 16=3/\(53:Nat) % 16=5/\(54:Nat) / 16=3/\(54:Nat) % 16=6/\(55:Nat) / 16=3/\(55:Nat) % 16=7/\(56:Nat) / 16=3/\(56:Nat) % 16=8/\(57:Nat) / 16=3/\(57:Nat) % 16=9/\(58:Nat) / 16=3/\(58:Nat) % 16=10/\(59:Nat) / 16=3/\(59:Nat) % 16=11:=by and_intros<;>rfl
attribute [go_sem] N1
theorem L5:(60:Nat) / 16=3/\(60:Nat) % 16=12/\(61:Nat) / 16=3/\(61:Nat) % 16=13/\(62:Nat) / 16=3/\(62:Nat) % 16=14/\(63:Nat) / 16=3/\(63:Nat) % 16=15/\(64:Nat) / 16=4/\(64:Nat) % 16=0/\(65:Nat) / 16=4/\(65:Nat) % 16=1/\(66:Nat) / 16=4/\(66:Nat) % 16=2/\(67:Nat) / 16=4/\(67:Nat) % 16=3/\(68:Nat) / 16=4/\(68:Nat) % 16=4/\(69:Nat) / 16=4/\(69:Nat) % 16=5/\(70:Nat) / 16=4/\(70:Nat) % 16=6/\(71:Nat) / 16=4/\(71:Nat) % 16=7/\(72:Nat) / 16=4/\(72:Nat) % 16=8/\(73:Nat) / 16=4/\(73:Nat) % 16=9/\(74:Nat) / 16=4/\(74:Nat) % 16=10/\(75:Nat) / 16=4/\(75:Nat) % 16=11/\(76:Nat) / 16=4/\(76:Nat) % 16=12/\(77:Nat) / 16=4/\(77:Nat) % 16=13/\(78:Nat) / 16=4/\(78:Nat) % 16=14/\(79:Nat) / 16=4/\(79:Nat) % 16=15:=by and_intros<;>rfl
attribute [go_sem] L5
theorem L6:(80:Nat) / 16=5/\(80:Nat) % 16=0/\(81:Nat) / 16=5/\(81:Nat) % 16=1/\(82:Nat) / 16=5/\(82:Nat) % 16=2/\(83:Nat) / 16=5/\(83:Nat) % 16=3/\(84:Nat) / 16=5/\(84:Nat) % 16=4/\(85:Nat) / 16=5/\(85:Nat) % 16=5/\(86:Nat) / 16=5/\(86:Nat) % 16=6/\(87:Nat) / 16=5/\(87:Nat) % 16=7/\(88:Nat) / 16=5/\(88:Nat) % 16=8/\(89:Nat) / 16=5/\(89:Nat) % 16=9/\(90:Nat) / 16=5/\(90:Nat) % 16=10/\(91:Nat) / 16=5/\(91:Nat) % 16=11/\(92:Nat) / 16=5/\(92:Nat) % 16=12/\(93:Nat) / 16=5/\(93:Nat) % 16=13/\(94:Nat) / 16=5/\(94:Nat) % 16=14/\(95:Nat) / 16=5/\(95:Nat) % 16=15/\(96:Nat) / 16=6/\(96:Nat) % 16=0/\(97:Nat) / 16=6/\(97:Nat) % 16=1/\(98:Nat) / 16=6/\(98:Nat) % 16=2/\(99:Nat) / 16=6/\(99:Nat) % 16=3:=by and_intros<;>rfl
attribute [go_sem] L6
theorem L7:(100:Nat) / 16=6/\(100:Nat) % 16=4/\(101:Nat) / 16=6/\(101:Nat) % 16=5/\(102:Nat) / 16=6/\(102:Nat) % 16=6/\(103:Nat) / 16=6/\(103:Nat) % 16=7/\(104:Nat) / 16=6/\(104:Nat) % 16=8/\(105:Nat) / 16=6/\(105:Nat) % 16=9/\(106:Nat) / 16=6/\(106:Nat) % 16=10/\(107:Nat) / 16=6/\(107:Nat) % 16=11/\(108:Nat) / 16=6/\(108:Nat) % 16=12/\(109:Nat) / 16=6/\(109:Nat) % 16=13/\(110:Nat) / 16=6/\(110:Nat) % 16=14/\(111:Nat) / 16=6/\(111:Nat) % 16=15/\(112:Nat) / 16=7/\(112:Nat) % 16=0/\(113:Nat) / 16=7/\(113:Nat) % 16=1/\(114:Nat) / 16=7/\(114:Nat) % 16=2/\(115:Nat) / 16=7/\(115:Nat) % 16=3/\(116:Nat) / 16=7/\(116:Nat) % 16=4/\(117:Nat) / 16=7/\(117:Nat) % 16=5/\(118:Nat) / 16=7/\(118:Nat) % 16=6/\(119:Nat) / 16=7/\(119:Nat) % 16=7:=by and_intros<;>rfl
attribute [go_sem] L7
theorem L8:(120:Nat) / 16=7/\(120:Nat) % 16=8/\(121:Nat) / 16=7/\(121:Nat) % 16=9/\(122:Nat) / 16=7/\(122:Nat) % 16=10/\(123:Nat) / 16=7/\(123:Nat) % 16=11/\(124:Nat) / 16=7/\(124:Nat) % 16=12/\(125:Nat) / 16=7/\(125:Nat) % 16=13/\(126:Nat) / 16=7/\(126:Nat) % 16=14/\(127:Nat) / 16=7/\(127:Nat) % 16=15/\(128:Nat) / 16=8/\(128:Nat) % 16=0/\(129:Nat) / 16=8/\(129:Nat) % 16=1/\(130:Nat) / 16=8/\(130:Nat) % 16=2/\(131:Nat) / 16=8/\(131:Nat) % 16=3/\(132:Nat) / 16=8/\(132:Nat) % 16=4/\(133:Nat) / 16=8/\(133:Nat) % 16=5/\(134:Nat) / 16=8/\(134:Nat) % 16=6/\(135:Nat) / 16=8/\(135:Nat) % 16=7/\(136:Nat) / 16=8/\(136:Nat) % 16=8/\(137:Nat) / 16=8/\(137:Nat) % 16=9/\(138:Nat) / 16=8/\(138:Nat) % 16=10/\(139:Nat) / 16=8/\(139:Nat) % 16=11:=by and_intros<;>rfl
attribute [go_sem] L8
theorem L9:(140:Nat) / 16=8/\(140:Nat) % 16=12/\(141:Nat) / 16=8/\(141:Nat) % 16=13/\(142:Nat) / 16=8/\(142:Nat) % 16=14/\(143:Nat) / 16=8/\(143:Nat) % 16=15/\(144:Nat) / 16=9/\(144:Nat) % 16=0/\(145:Nat) / 16=9/\(145:Nat) % 16=1/\(146:Nat) / 16=9/\(146:Nat) % 16=2/\(147:Nat) / 16=9/\(147:Nat) % 16=3/\(148:Nat) / 16=9/\(148:Nat) % 16=4/\(149:Nat) / 16=9/\(149:Nat) % 16=5/\(150:Nat) / 16=9/\(150:Nat) % 16=6/\(151:Nat) / 16=9/\(151:Nat) % 16=7/\(152:Nat) / 16=9/\(152:Nat) % 16=8/\(153:Nat) / 16=9/\(153:Nat) % 16=9/\(154:Nat) / 16=9/\(154:Nat) % 16=10/\(155:Nat) / 16=9/\(155:Nat) % 16=11/\(156:Nat) / 16=9/\(156:Nat) % 16=12/\(157:Nat) / 16=9/\(157:Nat) % 16=13/\(158:Nat) / 16=9/\(158:Nat) % 16=14/\(159:Nat) / 16=9/\(159:Nat) % 16=15:=by and_intros<;>rfl
attribute [go_sem] L9
theorem L_:(160:Nat) / 16=10/\(160:Nat) % 16=0/\(161:Nat) / 16=10/\(161:Nat) % 16=1/\(162:Nat) / 16=10/\(162:Nat) % 16=2/\(163:Nat) / 16=10/\(163:Nat) % 16=3/\(164:Nat) / 16=10/\(164:Nat) % 16=4/\(165:Nat) / 16=10/\(165:Nat) % 16=5/\(166:Nat) / 16=10/\(166:Nat) % 16=6/\(167:Nat) / 16=10/\(167:Nat) % 16=7/\(168:Nat) / 16=10/\(168:Nat) % 16=8/\(169:Nat) / 16=10/\(169:Nat) % 16=9/\(170:Nat) / 16=10/\(170:Nat) % 16=10/\(171:Nat) / 16=10/\(171:Nat) % 16=11/\(172:Nat) / 16=10/\(172:Nat) % 16=12/\(173:Nat) / 16=10/\(173:Nat) % 16=13/\(174:Nat) / 16=10/\(174:Nat) % 16=14/\(175:Nat) / 16=10/\(175:Nat) % 16=15/\(176:Nat) / 16=11/\(176:Nat) % 16=0/\(177:Nat) / 16=11/\(177:Nat) % 16=1/\(178:Nat) / 16=11/\(178:Nat) % 16=2/\(179:Nat) / 16=11/\(179:Nat) % 16=3:=by and_intros<;>rfl
attribute [go_sem] L_
theorem Ma:(180:Nat) / 16=11/\(180:Nat) % 16=4/\(181:Nat) / 16=11/\(181:Nat) % 16=5/\(182:Nat) / 16=11/\(182:Nat) % 16=6/\(183:Nat) / 16=11/\(183:Nat) % 16=7/\(184:Nat) / 16=11/\(184:Nat) % 16=8/\(185:Nat) / 16=11/\(185:Nat) % 16=9/\(186:Nat) / 16=11/\(186:Nat) % 16=10/\(187:Nat) / 16=11/\(187:Nat) % 16=11/\(188:Nat) / 16=11/\(188:Nat) % 16=12/\(189:Nat) / 16=11/\(189:Nat) % 16=13/\(190:Nat) / 16=11/\(190:Nat) % 16=14/\(191:Nat) / 16=11/\(191:Nat) % 16=15/\(192:Nat) / 16=12/\(192:Nat) % 16=0/\(193:Nat) / 16=12/\(193:Nat) % 16=1/\(194:Nat) / 16=12/\(194:Nat) % 16=2/\(195:Nat) / 16=12/\(195:Nat) % 16=3/\(196:Nat) / 16=12/\(196:Nat) % 16=4/\(197:Nat) / 16=12/\(197:Nat) % 16=5/\(198:Nat) / 16=12/\(198:Nat) % 16=6/\(199:Nat) / 16=12/\(199:Nat) % 16=7:=by and_intros<;>rfl
attribute [go_sem] Ma
end
section
open Go.RowKit
def uN (op:Op):List Tmp:=op.operands.toList.filterMap fun| .tmp t=>some t|_=>none
def fS (r:Array Oper) (o:Oper):List Tmp:=
 uN o.op++(match o.guard with
  |some (g,_)=>((r[g]?).bind (·.dst)).toList
  |none=>[])
def i9 (P:Program) (op:Op):Nat:=
 match op with
 | .convert s d _=>match G9 P s d with
  |some (.int _)|some .str=>0
  |some (.s2b _)=>2
  |some .b2s=>1
  |none=>4
 | .move _| .assign _| .pick .. | .build .. | .nilCheck _| .binOp .. | .unOp .. | .fieldAddr .. | .index .. | .extract .. =>0
 | .call ⟨.builtin .len,_,_⟩| .call ⟨.builtin .min,_,_⟩| .call ⟨.builtin .max,_,_⟩=>0
 | .load .. | .indexAddr .. | .slice .. =>1
 | .alloc _| .box .. | .buildSlice .. | .makeSlice .. =>2
 | .call ⟨.value _,_,_⟩=>3
 |_=>4
def nU (P:Program) (o:Oper):Nat:=i9 P o.op
def BG (a b:Option Tmp):Bool:=
 match a,b with
 |some x,some y=>x != y
 |_,_=>true
def sQ (a:Option Tmp) (l:List Tmp):Bool:=
 match a with
 |some x=> !l.contains x
 |none=>true
def uO (P:Program) (r:Array Oper) (i j:Oper):Bool:=
 BG i.dst j.dst && sQ i.dst (fS r j) && sQ j.dst (fS r i) && (nU P i == 0 && nU P j != 5 || nU P i == 1 && nU P j != 4)
theorem Slots.put_comm (s:Slots) (a b:Nat) (v u:Option AV) (h:a≠b):(s.put a v).put b u=(s.put b u).put a v:=by
 unfold Slots.put
 by_cases hc:a / 16=b / 16
 ·rw [hc]
  by_cases hl:b / 16 < s.length
  ·simp only [Ru,Sg hl,Ry,List.set_set]
   congr 1
   exact Sx _ _ zO
  have h1:∀ x,s.set (b / 16) x=s:=fun x=>List.set_eq_of_length_le zO
  simp only [h1]
 have h1:∀ x,(s.set (a / 16) x).getD (b / 16) []=s.getD (b / 16) []:=fun x=>by
  simp only [Ru,R9 hc]
 have h2:∀ x,(s.set (b / 16) x).getD (a / 16) []=s.getD (a / 16) []:=fun x=>by
  simp only [Ru,R9 (Ne.symm hc)]
 rw [h1,h2]
 exact Sx _ _ hc
theorem D_ (s:Slots) (d t:Nat) (v:Option AV) (h:d≠t):(s.put d v).get t=s.get t:=by
 rw [Slots.get_put,if_neg (Ne.symm h)]
def iN (l:List Tmp) (s s':S):Prop:=∀ t∈l,s.sl.get t=s'.sl.get t
theorem gn {l:List Tmp} {s:S} {d:Option Tmp} {v:Option AV} {h:Hp} (hd:sQ d l=true):iN l s (s.put d v h):=by
 intro t ht
 cases d with
 |none=>rfl
 |some d=>
  have hne:d≠t:=fun e=>by
   subst e
   simp only [sQ,RT,List.contains_eq_mem,decide_eq_false_iff_not] at hd
   exact hd ht
  exact (D_ s.sl d t v hne).symm
theorem gF {s s':S} {x:Operand} (h:∀ t,x=.tmp t->s.sl.get t=s'.sl.get t):s.ev x=s'.ev x:=by
 cases x with
 |tmp t=>exact h t rfl
 |_=>rfl
theorem eT {op:Op} {t:Tmp} (h:(.tmp t:Operand)∈op.operands.toList):t∈uN op:=by
 unfold uN
 rw [List.mem_filterMap]
 exact⟨.tmp t,h,rfl⟩
theorem jX {s s':S}:∀ {l:List (Nat×Operand)},(∀ p∈l,s.ev p.2=s'.ev p.2)->s.parts l=s'.parts l
 |[],_=>rfl
 |(i,x)::l,h=>by
  have h1:=h (i,x) zP
  dsimp only at h1
  simp only [S.parts,h1,jX (l:=l) (fun p hp=>h p (by simp [hp]))]
theorem sR {s s':S}:∀ {l:List Operand},(∀ x∈l,s.ev x=s'.ev x)->s.scals l=s'.scals l
 |[],_=>rfl
 |x::l,h=>by
  have h1:=h x zP
  simp only [S.scals,h1,sR (l:=l) (fun p hp=>h p (by simp [hp]))]
theorem kz {s s':S}:∀ {l:List Operand},(∀ x∈l,s.ev x=s'.ev x)->s.evs l=s'.evs l
 |[],_=>rfl
 |x::l,h=>by
  have h1:=h x zP
  simp only [S.evs,h1,kz (l:=l) (fun p hp=>h p (by simp [hp]))]
theorem kW {s s':S} {x:Option Operand} (h:∀ y,x=some y->s.ev y=s'.ev y):jr s x=jr s' x:=by
 cases x with
 |none=>rfl
 |some y=>simp only [jr,h y rfl]
theorem gp {P:Program} {s s':S} {ty:TypeId} {op:Op} (hh:s.hp=s'.hp) (h:iN (uN op) s s'):bR P s ty op=bR P s' ty op:=by
 have ev:∀ x,x∈op.operands.toList->s.ev x=s'.ev x:=fun x hx=>gF fun t ht=>h t (eT (by rw [<-ht];exact hx))
 have ob:∀ o,s.obj o=s'.obj o:=fun o=>by unfold S.obj;rw [hh]
 have vl:∀ v,s.val v=s'.val v:=fun v=>by unfold S.val;rw [hh]
 have vc:∀ v c,s.valc v c=s'.valc v c:=fun v c=>by unfold S.valc;rw [hh]
 have nw:∀ o v,s.new o v=s'.new o v:=fun o v=>by unfold S.new;rw [hh]
 have sl:∀ v a b,fi s v a b=fi s' v a b:=fun v a b=>by
  unfold fi
  simp only [vl,vc]
 have ap:∀ t a x,m9 P s t a x=m9 P s' t a x:=fun t a x=>by
  unfold m9
  simp only [vl,ob,hh]
 cases op with
 |move x=>simp only [bR,ev x (by simp [Op.operands]),vl]
 |assign x=>simp only [bR,ev x (by simp [Op.operands]),vl]
 |pick c x y=>simp only [bR,ev c (by simp [Op.operands]),ev x (by simp [Op.operands]),ev y (by simp [Op.operands]),vl]
 |alloc e=>simp only [bR,nw,hh]
 |box e x=>simp only [bR,ev x (by simp [Op.operands]),nw,hh]
 |build t ps=>
  have:=jX (s:=s) (s':=s') (l:=ps.toList) (fun p hp=>ev p.2 (by simp only [Op.operands,Sk];exact⟨p,hp,rfl⟩))
  simp only [bR,this,vl]
 |buildSlice t n ps=>
  have:=jX (s:=s) (s':=s') (l:=ps.toList) (fun p hp=>ev p.2 (by simp only [Op.operands,Sk];exact⟨p,hp,rfl⟩))
  simp only [bR,this,nw,hh]
 |load t x=>simp only [bR,ev x (by simp [Op.operands]),ob,vl]
 |store t x y=>simp only [bR,ev x (by simp [Op.operands]),ev y (by simp [Op.operands]),ob,hh]
 |nilCheck x=>simp only [bR,ev x (by simp [Op.operands]),vl]
 |binOp o t x y u=>simp only [bR,ev x (by simp [Op.operands]),ev y (by simp [Op.operands]),vc]
 |unOp o t x=>simp only [bR,ev x (by simp [Op.operands]),vl]
 |convert a b x=>simp only [bR,ev x (by simp [Op.operands]),vl,vc,ob,hh]
 |makeSlice t x y=>simp only [bR,ev x (by simp [Op.operands]),ev y (by simp [Op.operands]),hh]
 |slice t x lo hi mx=>
  cases mx with
  |none=>
   have h1:=kW (s:=s) (s':=s') (x:=lo) (fun y hy=>ev y (by subst hy;simp [Op.operands]))
   have h2:=kW (s:=s) (s':=s') (x:=hi) (fun y hy=>ev y (by subst hy;simp [Op.operands]))
   simp only [bR,ev x (by simp [Op.operands]),h1,h2,ob,sl]
  |some m=>rfl
 |fieldAddr t x f=>simp only [bR,ev x (by simp [Op.operands]),vl]
 |field t x f=>simp only [bR,ev x (by simp [Op.operands]),vl]
 |indexAddr t x i=>simp only [bR,ev x (by simp [Op.operands]),ev i (by simp [Op.operands]),ob,vc]
 |index t x i=>simp only [bR,ev x (by simp [Op.operands]),ev i (by simp [Op.operands]),vc]
 |extract x i=>simp only [bR,ev x (by simp [Op.operands]),vl]
 |makeFunc f first caps=>
  cases f with
  |func f=>
   have:=sR (s:=s) (s':=s') (l:=caps.toList) (fun x hx=>ev x (by simp [Op.operands];right;simpa using hx))
   simp only [bR,this,vl]
  |_=>rfl
 |call c=>
  obtain⟨callee,args,at_⟩:=c
  cases callee with
  |builtin b=>
   have hx:∀ x,x∈args.toList->s.ev x=s'.ev x:=fun x hx=>ev x (by simp [Op.operands,Call.operands];simpa using hx)
   cases b with
   |len=>
    simp only [bR]
    split
    ·rename_i x t ha ht
     simp only [hx x (by simp [ha]),vl]
    rfl
   |append=>
    simp only [bR]
    split
    ·rename_i x y t t' ha ht
     simp only [hx x (by simp [ha]),hx y (by simp [ha]),ap]
    rfl
   |min=>
    simp only [bR]
    split
    ·rename_i x y ha
     simp only [hx x (by simp [ha]),hx y (by simp [ha]),vl]
    rfl
   |max=>
    simp only [bR]
    split
    ·rename_i x y ha
     simp only [hx x (by simp [ha]),hx y (by simp [ha]),vl]
    rfl
   |_=>rfl
  |_=>rfl
 |_=>rfl
def Hp.ext (s h:Hp):Prop:=∀ (o:Nat) (ob:AObj),s[o]? =some (some ob)->h[o]? =some (some ob)
theorem pB {s:S} {h:Hp} (hx:Hp.ext s.hp h) {o:Nat} {ob:AObj} (ho:s.obj o=some ob):S.obj ⟨s.sl,h⟩ o=some ob:=by
 have:=hx o ob (cZ ho)
 unfold S.obj
 rw [Ru,this]
 rfl
theorem Ge (s:S) (h:Hp) (x:Operand):S.ev ⟨s.sl,h⟩ x=s.ev x:=by cases x<;>rfl
theorem Jp (s:S) (h:Hp):∀ l,S.parts ⟨s.sl,h⟩ l=s.parts l:=fun l=>jX fun p _=>Ge s h p.2
theorem jg (s:S) (h:Hp) (x:Option Operand):jr ⟨s.sl,h⟩ x=jr s x:=kW fun y _=>Ge s h y
theorem ma {P:Program} {s:S} {ty:TypeId} {op:Op} {x:OpR} (hc:i9 P op=0) (h:bR P s ty op=some x):x.hp=s.hp/\∀ h',bR P ⟨s.sl,h'⟩ ty op=some ⟨x.v,h',x.c⟩:=by
 have e:=Ge s
 have ep:=Jp s
 cases op with
 |move y|assign y=>
  simp only [bR,e] at h
  split at h
  ·rename_i v hv
   simp only [Option.some.injEq] at h
   subst h
   exact⟨rfl,fun h'=>by simp only [bR,e,ep,hv];rfl⟩
  cases h
 |pick c y z=>
  simp only [bR,e] at h
  split at h
  ·rename_i hv
   split at h
   ·rename_i v hv2
    simp only [Option.some.injEq] at h
    subst h
    exact⟨rfl,fun h'=>by simp only [bR,e,ep,hv,hv2];rfl⟩
   cases h
  ·rename_i hv
   split at h
   ·rename_i v hv2
    simp only [Option.some.injEq] at h
    subst h
    exact⟨rfl,fun h'=>by simp only [bR,e,ep,hv,hv2];rfl⟩
   cases h
  cases h
 |build t ps=>
  simp only [bR,ep] at h
  split at h
  ·rename_i z hz
   split at h
   ·rename_i l hl
    split at h
    ·rename_i cs hcs
     simp only [Option.some.injEq] at h
     subst h
     exact⟨rfl,fun h'=>by simp only [bR,e,ep,hz,hl,hcs];rfl⟩
    cases h
   cases h
  cases h
 |nilCheck y=>
  simp only [bR,e] at h
  split at h
  ·rename_i hv
   simp only [Option.some.injEq] at h
   subst h
   exact⟨rfl,fun h'=>by simp only [bR,e,ep,hv];rfl⟩
  ·rename_i hv
   simp only [Option.some.injEq] at h
   subst h
   exact⟨rfl,fun h'=>by simp only [bR,e,ep,hv];rfl⟩
  cases h
 |binOp o t y z u=>
  simp only [bR,e] at h
  split at h
  ·rename_i hy hz
   split at h
   ·rename_i q d hb
    simp only [Option.some.injEq] at h
    subst h
    exact⟨rfl,fun h'=>by simp only [bR,e,ep,hy,hz,hb];rfl⟩
   cases h
  ·rename_i hy hz
   split at h
   ·simp only [Option.some.injEq] at h
    subst h
    exact⟨rfl,fun h'=>by simp only [bR,e,ep,hy,hz];rfl⟩
   ·simp only [Option.some.injEq] at h
    subst h
    exact⟨rfl,fun h'=>by simp only [bR,e,ep,hy,hz];rfl⟩
   cases h
  cases h
 |unOp o t y=>
  simp only [bR,e] at h
  split at h
  ·rename_i hy
   split at h
   ·simp only [Option.some.injEq] at h
    subst h
    exact⟨rfl,fun h'=>by simp only [bR,e,ep,hy];rfl⟩
   cases h
  ·rename_i hy
   split at h
   ·simp only [Option.some.injEq] at h
    subst h
    exact⟨rfl,fun h'=>by simp only [bR,e,ep,hy];rfl⟩
   cases h
  cases h
 |convert a b y=>
  simp only [bR,e] at h
  split at h
  ·rename_i ht hy
   simp only [Option.some.injEq] at h
   subst h
   exact⟨rfl,fun h'=>by simp only [bR,e,ht,hy];rfl⟩
  ·rename_i ht hy
   simp only [Option.some.injEq] at h
   subst h
   exact⟨rfl,fun h'=>by simp only [bR,e,ht,hy];rfl⟩
  ·rename_i ht hy
   simp only [i9,ht] at hc
   cases hc
  ·rename_i ht hy
   simp only [i9,ht] at hc
   cases hc
  ·rename_i ht hy
   simp only [i9,ht] at hc
   cases hc
  cases h
 |fieldAddr t y f=>
  simp only [bR,e] at h
  split at h
  ·rename_i hy hf
   simp only [Option.some.injEq] at h
   subst h
   exact⟨rfl,fun h'=>by simp only [bR,e,ep,hy,hf];rfl⟩
  cases h
 |index t y i=>
  simp only [bR,e] at h
  split at h
  ·rename_i hy hi
   split at h
   ·rename_i ht
    simp only [Option.some.injEq] at h
    subst h
    exact⟨rfl,fun h'=>by simp only [bR,e,ep,hy,hi,ht];rfl⟩
   cases h
  cases h
 |extract y i=>
  simp only [bR,e] at h
  split at h
  ·rename_i hy
   split at h
   ·rename_i hl
    simp only [Option.some.injEq] at h
    subst h
    exact⟨rfl,fun h'=>by simp only [bR,e,ep,hy,hl];rfl⟩
   cases h
  cases h
 |call c=>
  obtain⟨callee,args,at_⟩:=c
  cases callee with
  |builtin b=>
   cases b with
   |len=>
    simp only [bR,e] at h
    split at h
    ·rename_i y t ha ht
     split at h
     ·rename_i hy
      split at h
      ·rename_i hs
       simp only [Option.some.injEq] at h
       subst h
       exact⟨rfl,fun h'=>by simp only [bR,e,ep,ha,ht,hy,hs];rfl⟩
      cases h
     ·rename_i hy
      split at h
      ·rename_i hs
       simp only [Option.some.injEq] at h
       subst h
       exact⟨rfl,fun h'=>by simp only [bR,e,ep,ha,ht,hy,hs];rfl⟩
      cases h
     ·rename_i hy
      split at h
      ·rename_i hs
       simp only [Option.some.injEq] at h
       subst h
       exact⟨rfl,fun h'=>by simp only [bR,e,ep,ha,ht,hy,hs];rfl⟩
      cases h
     cases h
    cases h
   |min=>
    simp only [bR,e] at h
    split at h
    ·rename_i y z ha
     split at h
     ·rename_i hy hz
      simp only [Option.some.injEq] at h
      subst h
      exact⟨rfl,fun h'=>by simp only [bR,e,ep,ha,hy,hz];rfl⟩
     cases h
    cases h
   |max=>
    simp only [bR,e] at h
    split at h
    ·rename_i y z ha
     split at h
     ·rename_i hy hz
      simp only [Option.some.injEq] at h
      subst h
      exact⟨rfl,fun h'=>by simp only [bR,e,ep,ha,hy,hz];rfl⟩
     cases h
    cases h
   |_=>cases hc
  |_=>cases hc
 |_=>cases hc
theorem uP {P:Program} {s:S} {ty:TypeId} {op:Op} {x:OpR} (hc:i9 P op=1) (h:bR P s ty op=some x):x.hp=s.hp/\∀ h',Hp.ext s.hp h'->bR P ⟨s.sl,h'⟩ ty op=some ⟨x.v,h',x.c⟩:=by
 have e:=Ge s
 cases op with
 |load t y=>
  simp only [bR,e] at h
  split at h
  ·rename_i o k j hy
   split at h
   ·rename_i ob hob
    split at h
    ·rename_i c hk
     split at h
     ·rename_i n ht
      split at h
      ·rename_i hf
       simp only [Option.some.injEq] at h
       subst h
       exact⟨rfl,fun h' hx=>by simp only [bR,e,jg s,hy,pB hx hob,hk,ht,hf];rfl⟩
      cases h
     ·rename_i ht
      split at h
      ·rename_i z hz
       simp only [Option.some.injEq] at h
       subst h
       exact⟨rfl,fun h' hx=>by simp only [bR,e,jg s,hy,pB hx hob,hk,ht,hz];rfl⟩
      cases h
     cases h
    cases h
   cases h
  cases h
 |convert a b y=>
  simp only [bR,e] at h
  split at h
  ·rename_i ht hy
   simp only [i9,ht] at hc
   cases hc
  ·rename_i ht hy
   simp only [i9,ht] at hc
   cases hc
  ·rename_i ht hy
   simp only [i9,ht] at hc
   cases hc
  ·rename_i ht hy
   split at h
   ·rename_i ob hob
    split at h
    ·rename_i hz
     simp only [Option.some.injEq] at h
     subst h
     exact⟨rfl,fun h' hx=>by simp only [bR,e,ht,hy,pB hx hob,hz,if_true];rfl⟩
    cases h
   cases h
  ·rename_i ht hy
   simp only [Option.some.injEq] at h
   subst h
   exact⟨rfl,fun h' hx=>by simp only [bR,e,ht,hy];rfl⟩
  cases h
 |indexAddr t y i=>
  simp only [bR,e] at h
  split at h
  ·rename_i hy hi ht
   split at h
   ·rename_i ob hob
    split at h
    ·rename_i hz
     simp only [Option.some.injEq] at h
     subst h
     exact⟨rfl,fun h' hx=>by simp only [bR,e,jg s,hy,hi,ht,pB hx hob,hz,if_true];rfl⟩
    cases h
   cases h
  cases h
 |slice t y lo hi mx=>
  cases mx with
  |some m=>cases h
  |none=>
   have eo:=jg s
   simp only [bR,e,eo] at h
   have sl:∀ {v:AV} {a b:Option Int} {q:OpR},fi s v a b=some q->q.hp=s.hp/\∀ h',fi ⟨s.sl,h'⟩ v a b=some ⟨q.v,h',q.c⟩:=by
    intro v a b q hq
    unfold fi at hq
    split at hq<;>first
     |(simp only [Option.some.injEq] at hq;subst hq;exact⟨rfl,fun h'=>rfl⟩)
     |cases hq
   split at h
   ·rename_i v a b hy ha hb
    split at h
    ·rename_i l
     split at h
     ·rename_i ht
      obtain⟨h1,h2⟩:=sl h
      exact⟨h1,fun h' hx=>by simp only [bR,e,jg s,hy,ha,hb,ht];exact h2 h'⟩
     cases h
    ·rename_i o off len
     split at h
     ·rename_i q sz ob ht hob
      split at h
      ·rename_i hz
       obtain⟨h1,h2⟩:=sl h
       exact⟨h1,fun h' hx=>by simp only [bR,e,jg s,hy,ha,hb,ht,pB hx hob,hz,if_true];exact h2 h'⟩
      cases h
     cases h
    cases h
   cases h
 |call c=>
  obtain⟨callee,args,at_⟩:=c
  cases callee with
  |builtin b=>cases b<;>cases hc
  |_=>cases hc
 |_=>cases hc
theorem BH (h:Hp):Hp.ext h h:=fun _ _ h=>h
theorem ik (h k:Hp):Hp.ext h (h++k):=fun o ob ho=>by
 rw [Rw (Rv.1 ho).1];exact ho
theorem Gf {P:Program} {s:S} {ty:TypeId} {op:Op} {x:OpR} (h:bR P s ty op=some x) (hc:i9 P op≠4):Hp.ext s.hp x.hp:=by
 by_cases h0:i9 P op=0
 ·rw [(ma h0 h).1];exact BH _
 by_cases h1:i9 P op=1
 ·rw [(uP h1 h).1];exact BH _
 cases op with
 |alloc e=>
  simp only [bR] at h
  split at h
  ·simp only [Option.some.injEq] at h;subst h;exact ik _ _
  cases h
 |box e y=>
  simp only [bR] at h
  split at h
  ·split at h
   ·simp only [Option.some.injEq] at h;subst h;exact ik _ _
   cases h
  cases h
 |buildSlice t n ps=>
  simp only [bR] at h
  split at h
  ·split at h
   ·split at h
    ·split at h
     ·split at h
      ·simp only [Option.some.injEq] at h;subst h;exact ik _ _
      cases h
     cases h
    cases h
   cases h
  cases h
 |makeSlice t y z=>
  simp only [bR] at h
  split at h
  ·split at h
   ·split at h
    ·simp only [Option.some.injEq] at h;subst h;exact ik _ _
    cases h
   cases h
  cases h
 |convert a b y=>
  simp only [bR] at h
  split at h
  ·rename_i ht hy
   simp only [i9,ht] at h0
   exact absurd trivial h0
  ·rename_i ht hy
   simp only [i9,ht] at h0
   exact absurd trivial h0
  ·simp only [Option.some.injEq] at h;subst h;exact ik _ _
  ·rename_i ht hy
   simp only [i9,ht] at h1
   exact absurd trivial h1
  ·rename_i ht hy
   simp only [i9,ht] at h1
   exact absurd trivial h1
  cases h
 |call c=>
  obtain⟨callee,args,at_⟩:=c
  cases callee with
  |value f=>simp only [bR] at h;cases h
  |builtin b=>cases b<;>first|exact absurd rfl h0|exact absurd rfl hc
  |invoke a b=>exact absurd rfl hc
 |move _=>exact absurd rfl h0
 |assign _=>exact absurd rfl h0
 |pick _ _ _=>exact absurd rfl h0
 |build _ _=>exact absurd rfl h0
 |nilCheck _=>exact absurd rfl h0
 |binOp _ _ _ _ _=>exact absurd rfl h0
 |unOp _ _ _=>exact absurd rfl h0
 |fieldAddr _ _ _=>exact absurd rfl h0
 |index _ _ _=>exact absurd rfl h0
 |extract _ _=>exact absurd rfl h0
 |load _ _=>exact absurd rfl h1
 |indexAddr _ _ _=>exact absurd rfl h1
 |slice _ _ _ _ _=>exact absurd rfl h1
 |_=>exact absurd rfl hc
def QB (P:Program) (o:Oper) (s s':S):Prop:=
 (∃ x,bR P s o.type o.op=some x/\x.c/\s'=s.put o.dst x.v x.hp)\/
 (∃ (y:Operand) (args:Array Operand) (at_:Array TypeId) (f:Nat) (caps:List Sc) (avs:List AV) (res:AV) (h':Hp),o.op=.call ⟨.value y,args,at_⟩/\s.ev y=some (.cl f caps)/\s.evs args.toList=some avs/\
  gB P f (avs++l7 caps) s.hp res h'/\Hp.ext s.hp h'/\s'=s.put o.dst (some res) h')
def dA (P:Program) (r:Array Oper) (i:Nat) (s s':S):Prop:=
 match r[i]? with
 |none=>s'=s
 |some o=>match eS r s o with
  |some true=>QB P o s s'
  |some false=>s'=s.put o.dst (some (.tu [])) s.hp
  |none=>False
def zT (P:Program) (r:Array Oper):List Nat->S->S->Prop
 |[],s,s'=>s'=s
 |i::l,s,s''=>∃ s',dA P r i s s'/\zT P r l s' s''
theorem cx {r:Array Oper} {s s':S} {o:Oper} (h:iN (fS r o) s s'):eS r s o=eS r s' o:=by
 unfold eS
 split
 ·rfl
 rename_i j want hg
 split
 ·rename_i oj hj
  split
  ·rename_i d hd
   have:=h d (by unfold fS;rw [hg];simp [hj,hd])
   rw [this]
  rfl
 rfl
theorem ef {r:Array Oper} {s s':S} {o:Oper} (h:iN (fS r o) s s'):iN (uN o.op) s s':=fun t ht=>h t (by unfold fS;exact List.mem_append_left _ ht)
theorem ug (s:S) {a b:Option Tmp} (v u:Option AV) (h h':Hp) (hne:BG a b=true):(s.put a v h).put b u h'=(s.put b u h').put a v h':=by
 cases a with
 |none=>cases b<;>rfl
 |some a=>cases b with
  |none=>rfl
  |some b=>
   have:a≠b:=by simpa [BG] using hne
   simp only [S.put,Slots.put_comm s.sl a b v u this]
theorem iV (s:S) (d:Option Tmp) (v:Option AV) (h:Hp):(s.put d v h).hp=h:=by cases d<;>rfl
theorem swap {P:Program} {r:Array Oper} {i j:Nat} {oi oj:Oper} (hi:r[i]? =some oi) (hj:r[j]? =some oj) (hind:uO P r oi oj=true) {s s1 s2:S} (h1:dA P r i s s1) (h2:dA P r j s1 s2):
  ∃ s1',dA P r j s s1'/\dA P r i s1' s2:=by
 simp only [uO,Rx,RJ,beq_iff_eq,bne_iff_ne] at hind
 obtain⟨⟨⟨hne,hij⟩,hji⟩,hcls⟩:=hind
 have hci:nU P oi=0\/nU P oi=1:=by rcases hcls with h|h;exact .inl h.1;exact .inr h.1
 unfold dA at h1 h2
 rw [hi] at h1
 rw [hj] at h2
 dsimp only at h1 h2
 have key:∃ v,s1=s.put oi.dst v s.hp/\∀ (t:S),iN (fS r oi) s t->(nU P oi=0\/Hp.ext s.hp t.hp)->dA P r i t (t.put oi.dst v t.hp):=by
  split at h1
  ·rename_i hg
   rcases h1 with⟨x,hx,hc,rfl⟩|⟨y,args,at_,f,caps,avs,res,h',ho,_⟩
   ·have hx2:x.hp=s.hp/\∀ t:S,iN (fS r oi) s t->(nU P oi=0\/Hp.ext s.hp t.hp)->bR P t oi.type oi.op=some ⟨x.v,t.hp,x.c⟩:=by
     have eqv:∀ t:S,iN (fS r oi) s t->bR P t oi.type oi.op=bR P ⟨s.sl,t.hp⟩ oi.type oi.op:=fun t ha=>(gp (s:=⟨s.sl,t.hp⟩) (s':=t) rfl (fun q hq=>ef ha q hq)).symm
     rcases hci with h0|h0
     ·obtain⟨e1,e2⟩:=ma h0 hx
      exact⟨e1,fun t ha _=>by rw [eqv t ha];exact e2 t.hp⟩
     obtain⟨e1,e2⟩:=uP h0 hx
     exact⟨e1,fun t ha he=>by rw [eqv t ha];exact e2 t.hp (he.resolve_left (by rw [h0];simp))⟩
    refine⟨x.v,by rw [hx2.1],fun t ha he=>?_⟩
    unfold dA
    rw [hi]
    dsimp only
    rw [<-cx ha,hg]
    exact .inl ⟨_,hx2.2 t ha he,hc,rfl⟩
   exfalso
   have:nU P oi=3:=by unfold nU;rw [ho];rfl
   omega
  ·rename_i hg
   refine⟨some (.tu []),h1,fun t ha _=>?_⟩
   unfold dA
   rw [hi]
   dsimp only
   rw [<-cx ha,hg]
  exact h1.elim
 obtain⟨v,rfl,hstep⟩:=key
 have hal:iN (fS r oj) s (s.put oi.dst v s.hp):=gn hij
 have hhp:(s.put oi.dst v s.hp).hp=s.hp:=iV _ _ _ _
 rw [<-cx hal] at h2
 have fin:∀ (u:Option AV) (h':Hp),s2=(s.put oi.dst v s.hp).put oj.dst u h'->(nU P oi=0\/Hp.ext s.hp h')->dA P r j s (s.put oj.dst u h')->∃ s1',dA P r j s s1'/\dA P r i s1' s2:=by
  intro u h' he hx hj'
  refine⟨s.put oj.dst u h',hj',?_⟩
  have h3:=hstep (s.put oj.dst u h') (gn hji) (by rw [iV];exact hx)
  rw [iV] at h3
  rw [he,ug s v u s.hp h' hne]
  exact h3
 split at h2
 ·rename_i hg
  rcases h2 with⟨x,hx,hc,rfl⟩|⟨y,args,at_,f,caps,avs,res,h',ho,hy,ha,hcall,hext,rfl⟩
  ·have hx':bR P s oj.type oj.op=some x:=by rw [gp (s:=s) (s':=s.put oi.dst v s.hp) hhp.symm (ef hal)];exact hx
   refine fin x.v x.hp rfl ?_ ?_
   ·rcases hcls with h0|h0
    ·exact .inl h0.1
    right
    have h4:nU P oj≠4:=h0.2
    exact Gf hx' h4
   unfold dA
   rw [hj]
   dsimp only
   rw [hg]
   exact .inl ⟨x,hx',hc,rfl⟩
  have hal':=ef hal
  rw [ho] at hal'
  have e1:s.ev y=some (.cl f caps):=by
   rw [gF (s:=s) (s':=s.put oi.dst v s.hp) (x:=y) (fun t ht=>hal' t (eT (by subst ht;simp [Op.operands,Call.operands])))]
   exact hy
  have e2:s.evs args.toList=some avs:=by
   rw [kz (s:=s) (s':=s.put oi.dst v s.hp) (l:=args.toList) (fun z hz=>gF fun t ht=>hal' t (eT (by subst ht;simp [Op.operands,Call.operands];right;simpa using hz)))]
   exact ha
  rw [hhp] at hcall hext
  refine fin (some res) h' rfl (.inr hext) ?_
  unfold dA
  rw [hj]
  dsimp only
  rw [hg]
  exact .inr ⟨y,args,at_,f,caps,avs,res,h',ho,e1,e2,hcall,hext,rfl⟩
 ·rename_i hg
  refine fin (some (.tu [])) s.hp (by rw [h2,hhp]) (.inr fun o ob h=>h) ?_
  unfold dA
  rw [hj]
  dsimp only
  rw [hg]
 exact h2.elim
def ki (P:Program) (r:Array Oper) (i j:Oper):Bool:=
 BG i.dst j.dst && sQ i.dst (fS r j) && sQ j.dst (fS r i) && nU P j == 0
theorem OZ {P:Program} {r:Array Oper} {i j:Nat} {oi oj:Oper} (hi:r[i]? =some oi) (hj:r[j]? =some oj) (hind:ki P r oi oj=true) {s s1 s2:S} (h1:dA P r i s s1) (h2:dA P r j s1 s2):
  ∃ s1',dA P r j s s1'/\dA P r i s1' s2:=by
 simp only [ki,Rx,beq_iff_eq] at hind
 obtain⟨⟨⟨hne,hij⟩,hji⟩,hcj⟩:=hind
 unfold dA at h1 h2
 rw [hi] at h1
 rw [hj] at h2
 dsimp only at h1 h2
 have key:∃ v hp,s1=s.put oi.dst v hp/\∀ (t:S),iN (fS r oi) s t->t.hp=s.hp->dA P r i t (t.put oi.dst v hp):=by
  split at h1
  ·rename_i hg
   rcases h1 with⟨x,hx,hc,rfl⟩|⟨y,args,at_,f,caps,avs,res,h',ho,hy,ha,hcall,hext,rfl⟩
   ·refine⟨x.v,x.hp,rfl,fun t ha he=>?_⟩
    unfold dA
    rw [hi]
    dsimp only
    rw [<-cx ha,hg]
    exact .inl ⟨x,by rw [<-gp he.symm (ef ha)];exact hx,hc,rfl⟩
   refine⟨some res,h',rfl,fun t hal he=>?_⟩
   unfold dA
   rw [hi]
   dsimp only
   rw [<-cx hal,hg]
   have hal':=ef hal
   rw [ho] at hal'
   have e1:t.ev y=some (.cl f caps):=by
    rw [<-gF (s:=s) (s':=t) (x:=y) (fun q hq=>hal' q (eT (by subst hq;simp [Op.operands,Call.operands])))]
    exact hy
   have e2:t.evs args.toList=some avs:=by
    rw [<-kz (s:=s) (s':=t) (l:=args.toList) (fun z hz=>gF fun q hq=>hal' q (eT (by subst hq;simp [Op.operands,Call.operands];right;simpa using hz)))]
    exact ha
   exact .inr ⟨y,args,at_,f,caps,avs,res,h',ho,e1,e2,by rw [he];exact hcall,by rw [he];exact hext,rfl⟩
  ·rename_i hg
   refine⟨some (.tu []),s.hp,h1,fun t ha he=>?_⟩
   unfold dA
   rw [hi]
   dsimp only
   rw [<-cx ha,hg]
   dsimp only
   rw [he]
  exact h1.elim
 obtain⟨v,hp,rfl,hstep⟩:=key
 have hal:iN (fS r oj) s (s.put oi.dst v hp):=gn hij
 rw [<-cx hal] at h2
 have fin:∀ (u:Option AV),s2=(s.put oi.dst v hp).put oj.dst u hp->dA P r j s (s.put oj.dst u s.hp)->∃ s1',dA P r j s s1'/\dA P r i s1' s2:=by
  intro u he hj'
  refine⟨s.put oj.dst u s.hp,hj',?_⟩
  have h3:=hstep (s.put oj.dst u s.hp) (gn hji) (iV _ _ _ _)
  rw [he,ug s v u hp hp hne]
  have e:∀ (a b:S) (d:Option Tmp) (x:Option AV) (h:Hp),a.sl=b.sl->a.put d x h=b.put d x h:=by
   intro a b d x h hab
   cases d<;>simp [S.put,hab]
  rw [e (s.put oj.dst u hp) (s.put oj.dst u s.hp) oi.dst v hp (by cases oj.dst<;>rfl)]
  exact h3
 split at h2
 ·rename_i hg
  rcases h2 with⟨x,hx,hc,rfl⟩|⟨y,args,at_,f,caps,avs,res,h',ho,_⟩
  ·have hx1:bR P ⟨s.sl,hp⟩ oj.type oj.op=some x:=by
    rw [gp (s:=⟨s.sl,hp⟩) (s':=s.put oi.dst v hp) (by rw [iV]) (fun q hq=>ef hal q hq)]
    exact hx
   obtain⟨e1,e2⟩:=ma hcj hx1
   have e3:=e2 s.hp
   refine fin x.v (by rw [e1]) ?_
   unfold dA
   rw [hj]
   dsimp only
   rw [hg]
   exact .inl ⟨_,e3,hc,rfl⟩
  exfalso
  have:nU P oj=3:=by unfold nU;rw [ho];rfl
  omega
 ·rename_i hg
  refine fin (some (.tu [])) (by rw [h2,iV]) ?_
  unfold dA
  rw [hj]
  dsimp only
  rw [hg]
 exact h2.elim
theorem Jq {P:Program} {E:Entry} {r:Array Oper} {i:Nat} {s s1:S} {β:Be} {a:Act} {w:World} {Q:Exit->Act->World->Prop} {K:Act->World->Prop} (h:dA P r i s s1) (hs:Sim E β s a w) (hK:∀ β' a' w',Sim E β' s1 a' w'->K a' w'):wpOp P r Q i K a w:=by
 unfold wpOp
 unfold dA at h
 split at h
 ·rename_i hi
  subst h
  rw [hi]
  exact hK β a w hs
 rename_i o ho
 rw [ho]
 dsimp only
 split at h
 ·rename_i hg
  rw [if_pos (kU hs.sl hg)]
  refine .inl ?_
  unfold Oper.wp
  rcases h with⟨x,hx,hc,rfl⟩|⟨y,args,at_,f,caps,avs,res,h',hop,hy,ha,⟨⟨fn,hfn,hname,hbody⟩,hcall⟩,_,rfl⟩
  ·obtain⟨β',w',hst,hh,hx'⟩:=ro hs.hp hs.sl hx hc
   rcases hx' with⟨v,av,hrun,hv,hr⟩|⟨hrun,hv⟩
   ·rw [hrun]
    rw [hv] at hK
    exact hK β' _ w' (f8 hs hst hh o.dst hr)
   rw [hrun]
   rw [hv] at hK
   exact hK β' _ w' (eM hs hst hh o.dst undef)
  obtain⟨cvs,hxe,hcl⟩:f9 β (.cl f caps) (a.eval y):=dG hs.sl hy
  have hav:=F2 hs.sl ha
  have hvs:L2 (f9 β) (avs++l7 caps) (args.toList.map a.eval++cvs):=hav.append (ud hcl)
  have hrun:(execOp a.eval o).run P w=.ok (.enter f (args.toList.map a.eval++cvs).toArray) w:=by
   unfold execOp
   rw [hop]
   have e1:args.map a.eval=(args.toList.map a.eval).toArray:=by apply Array.ext';simp
   have hname':¬ fn.name= "runtime.NumGoroutine":=by simpa using hname
   simp only [resolve,hxe,Deferred.ofValue,invoke,callFunc,RX,run_program,Sb,RW,hfn,e1]
   simp [hname',hbody]
  rw [hrun,Oper.upon_enter]
  refine (hcall β w _ hs.hp hvs).mono fun e w' ⟨β',v,he,hr,hh,hst⟩=>?_
  subst he
  exact hK β' _ w' (f8 hs hst hh o.dst hr)
 ·rename_i hg
  rw [kU hs.sl hg]
  subst h
  exact hK β _ w (f8 hs (StepR.refl β s.hp w hs.hp.len) hs.hp o.dst ⟨[],rfl,trivial⟩)
 exact h.elim
def Jr (T:List Nat) (o:Oper):Nat:=o.after.toList.foldl (fun m e=>if Region.binds .any e then m |||(1 <<< e.on) |||T.getD e.on 0 else m) 0
def xE:List Oper->List Nat->List Nat
 |[],T=>T
 |o::l,T=>xE l (T++[Jr T o])
def Gg (r:Array Oper):List Nat:=xE r.toList []
def pC (r:Array Oper):Bool:=(List.range r.size).all fun i=>match r[i]? with
 |some o=>o.after.toList.all fun e=> !Region.binds .any e || decide (e.on < i)
 |none=>true
theorem BI (T:List Nat) (p:Nat):∀ (l:List Edge) (m:Nat),(l.foldl (fun m e=>if Region.binds .any e then m |||(1 <<< e.on) |||T.getD e.on 0 else m) m).testBit p=true↔
  m.testBit p=true\/∃ e∈l,Region.binds .any e=true/\(e.on=p\/(T.getD e.on 0).testBit p=true)
 |[],m=>by simp
 |e::l,m=>by
  rw [List.foldl_cons,BI T p l]
  cases hb:Region.binds .any e
  ·simp [hb]
  simp only [if_true,Nat.testBit_or,RJ,Nat.one_shiftLeft,Nat.testBit_two_pow,decide_eq_true_eq,RS,exists_eq_or_imp,hb,true_and]
  constructor
  ·rintro (((h|h)|h)|h)
   ·exact .inl h
   ·exact .inr (.inl (.inl h))
   ·exact .inr (.inl (.inr h))
   exact .inr (.inr h)
  rintro (h|(h|h)|h)
  ·exact .inl (.inl (.inl h))
  ·exact .inl (.inl (.inr h))
  ·exact .inl (.inr h)
  exact .inr h
theorem uQ:∀ (l:List Oper) (T:List Nat) (i:Nat),i < T.length->(xE l T)[i]? =T[i]?
 |[],T,i,_=>rfl
 |o::l,T,i,h=>by
  rw [xE,uQ l _ i zS,Rw h]
theorem BJ:∀ (l:List Oper) (T:List Nat) (j:Nat) (o:Oper),l[j]? =some o->∃ T',(xE l T)[T.length+j]? =some (Jr T' o)/\T'.length=T.length+j/\∀ k,k < T.length+j->T'[k]? =(xE l T)[k]?
 |[],T,j,o,h=>by simp at h
 |o'::l,T,0,o,h=>by
  simp at h
  subst h
  refine⟨T,?_,zP,fun k hk=>?_⟩
  ·rw [xE,uQ l _ _ zP]
   simp
  rw [xE,uQ l _ _ zS,Rw zO]
 |o'::l,T,j+1,o,h=>by
  obtain⟨T',h1,h2,h3⟩:=BJ l (T++[Jr T o']) j o (by simpa using h)
  simp only [R2,R4,Se] at h1 h2 h3
  refine⟨T',?_,zO,fun k hk=>?_⟩
  ·rw [xE,show T.length+(j+1)=T.length+(0+1)+j from by omega];exact h1
  rw [xE];exact h3 k zO
theorem uR {r:Array Oper} {i:Nat} {o:Oper} (ho:r[i]? =some o) (p:Nat):((Gg r).getD i 0).testBit p=true↔∃ e∈o.after.toList,Region.binds .any e=true/\(e.on=p\/(e.on < i/\((Gg r).getD e.on 0).testBit p=true)):=by
 obtain⟨T',h1,h2,h3⟩:=BJ r.toList [] i o (by simpa using ho)
 simp only [Se,RM] at h1 h2 h3
 have e1:(Gg r).getD i 0=Jr T' o:=by unfold Gg;rw [Ru,h1];rfl
 rw [e1]
 unfold Jr
 rw [BI]
 simp only [Nat.zero_testBit,Bool.false_eq_true,false_or]
 constructor
 ·rintro⟨e,he,hb,h⟩
  refine⟨e,he,hb,h.imp id fun h=>?_⟩
  rcases RL e.on i with hlt|hge
  ·refine⟨hlt,?_⟩
   rw [Ru,h3 _ hlt] at h
   rw [Ru]
   exact h
  rw [Ru,RK zO] at h
  simp at h
 rintro⟨e,he,hb,h⟩
 refine⟨e,he,hb,h.imp id fun⟨hlt,h⟩=>?_⟩
 rw [Ru,h3 _ hlt]
 rw [Ru] at h
 exact h
def Ea (r:Array Oper) (listed:Array Bool):Prop:=∀ (i:Nat) (o:Oper),r[i]? =some o->listed.getD i false=true->∀ e∈o.after.toList,Region.binds .any e=true->listed.getD e.on false=true
theorem uS {r:Array Oper} {listed:Array Bool} (hc:Ea r listed):∀ (i:Nat) (o:Oper),r[i]? =some o->(∀ e∈o.after.toList,Region.binds .any e=true->listed.getD e.on false=true)->∀ p,((Gg r).getD i 0).testBit p=true->listed.getD p false=true:=by
 intro i
 induction i using Nat.strongRecOn with
 |_ i ih=>
  intro o ho ha p hp
  obtain⟨e,he,hb,h⟩:=(uR ho p).1 hp
  rcases h with rfl|⟨hlt,h⟩
  ·exact ha e he hb
  have hl:=ha e he hb
  cases hr:r[e.on]? with
  |none=>
   exfalso
   have hn:(Gg r)[e.on]? =none:=by
    rw [Array.getElem?_eq_none_iff] at hr
    have hlt2:=(RP.1 ho).1
    omega
   rw [Ru,hn] at h
   simp at h
  |some oj=>exact ih e.on hlt oj hr (hc e.on oj hr hl) p h
def bS:List Nat->Nat->Nat->Bool
 |[],p,q=>decide (p < q)
 |i::l,p,q=>if i=p then true else if i=q then false else bS l p q
theorem kX {p q:Nat} (hne:p≠q):∀ {l:List Nat},bS l p q=true\/bS l q p=true
 |[]=>by simp only [bS,decide_eq_true_eq];omega
 |i::l=>by
  simp only [bS]
  by_cases h1:i=p
  ·exact .inl (by rw [if_pos h1])
  by_cases h2:i=q
  ·exact .inr (by rw [if_pos h2])
  rw [if_neg h1,if_neg h2,if_neg h2,if_neg h1]
  exact kX hne
def N3 (P:Program) (r:Array Oper) (T:List Nat) (ex:List (Nat×Nat)) (p q:Nat):Bool:=
 p != q && !(T.getD p 0).testBit q &&
 ((T.getD q 0).testBit p || ex.contains (p,q) || match r[p]?,r[q]? with
  |some x,some y=>uO P r x y || ki P r x y
  |_,_=>false)
def DP (P:Program) (r:Array Oper) (T:List Nat) (ex:List (Nat×Nat)):List Nat->Bool
 |[]=>true
 |p::l=>l.all (N3 P r T ex p) && DP P r T ex l
theorem BK {P:Program} {r:Array Oper} {T:List Nat} {ex:List (Nat×Nat)} {i:Nat}:∀ {l m:List Nat},DP P r T ex (l++i::m)=true->DP P r T ex (l++m)=true
 |[],m,h=>by simp only [Ss,DP,Rx] at h⊢;exact h.2
 |p::l,m,h=>by
  simp only [Sd,DP,Rx,RG] at h⊢
  refine⟨fun q hq=>h.1 q ?_,BK h.2⟩
  simp only [R1,RS] at hq⊢
  exact hq.imp id .inr
theorem Js {P:Program} {r:Array Oper} {T:List Nat} {ex:List (Nat×Nat)} {i p:Nat}:∀ {l m:List Nat},DP P r T ex (l++i::m)=true->p∈l->N3 P r T ex p i=true
 |[],m,_,h=>by simp at h
 |q::l,m,h,hp=>by
  simp only [Sd,DP,Rx,RG] at h
  rcases RS.1 hp with rfl|hp
  ·exact h.1 i zP
  exact Js h.2 hp
theorem BL {P:Program} {r:Array Oper} {T:List Nat} {ex:List (Nat×Nat)} {i p:Nat} {l:List Nat} (h:DP P r T ex (i::l)=true) (hp:p∈l):N3 P r T ex i p=true:=by
 simp only [DP,Rx,RG] at h
 exact h.1 p hp
theorem ym {P:Program} {r:Array Oper} {T:List Nat} {ex:List (Nat×Nat)}:∀ {l:List Nat},DP P r T ex l=true->l.Nodup
 |[],_=>List.nodup_nil
 |p::l,h=>by
  refine Sf.2 ⟨fun hp=>?_,ym (by simp only [DP,Rx] at h;exact h.2)⟩
  have:=BL h hp
  simp [N3] at this
theorem yn {P:Program} {r:Array Oper} {i:Nat}:∀ {l m:List Nat} {s s':S},(∀ p∈l,∃ x y,r[p]? =some x/\r[i]? =some y/\(uO P r x y || ki P r x y)=true)->zT P r (l++i::m) s s'->zT P r (i::(l++m)) s s'
 |[],m,s,s',_,h=>h
 |p::l,m,s,s',hl,h=>by
  obtain⟨s1,h1,h2⟩:=h
  obtain⟨s2,h3,h4⟩:=yn (fun q hq=>hl q (List.mem_cons_of_mem _ hq)) h2
  obtain⟨x,y,hx,hy,hind⟩:=hl p zP
  rcases (RJ _ _).mp hind with hind|hind
  ·obtain⟨s1',h5,h6⟩:=swap hx hy hind h1 h3
   exact⟨s1',h5,s2,h6,h4⟩
  obtain⟨s1',h5,h6⟩:=OZ hx hy hind h1 h3
  exact⟨s1',h5,s2,h6,h4⟩
def sS (r:Array Oper):Nat->Array Bool->List Nat->Prop
 |fuel,listed,[]=>fuel=0\/Region.ready .any r listed=[]
 |0,_,_::_=>False
 |fuel+1,listed,i::τ=>i∈Region.ready .any r listed/\sS r fuel (listed.setIfInBounds i true) τ
theorem mb {r:Array Oper}:∀ (fuel t:Nat) (listed:Array Bool),sS r fuel listed (Region.linearise.go .any r fuel t listed [])
 |0,t,listed=>by simp [Region.linearise.go,sS]
 |fuel+1,t,listed=>by
  simp only [Region.linearise.go]
  change sS r (fuel+1) listed (match (Region.ready .any r listed)[t % (Region.ready .any r listed).length]? with
   |some i=>Region.linearise.go .any r fuel (t / (Region.ready .any r listed).length) (listed.setIfInBounds i true) [i]
   |none=>[].reverse)
  cases hi:(Region.ready .any r listed)[t % (Region.ready .any r listed).length]? with
  |none=>
   have hnil:Region.ready .any r listed=[]:=by
    cases hr:Region.ready .any r listed with
    |nil=>rfl
    |cons x xs=>
     rw [hr] at hi
     have hlt:t % (x::xs).length < (x::xs).length:=SB _ zP
     simp at hi
     simp at hlt
     omega
   exact .inr hnil
  |some i=>
   simp only []
   rw [linearise_go_acc,List.reverse_singleton,List.singleton_append]
   exact⟨RF hi,mb fuel _ _⟩
theorem kA {r:Array Oper} {listed:Array Bool} {i:Nat}:i∈Region.ready .any r listed↔∃ o,r[i]? =some o/\listed.getD i true=false/\∀ e∈o.after.toList,Region.binds .any e=true->listed.getD e.on false=true:=by
 unfold Region.ready
 simp only [List.mem_filter,R_,Rx,RT]
 constructor
 ·rintro⟨hlt,h1,h2⟩
  refine⟨r[i],RE hlt,h1,fun e he hb=>?_⟩
  rw [RE hlt] at h2
  simp only [RO,Ry,R5,RJ,RT] at h2
  rcases h2 e (by simpa using he) with h|h
  ·rw [hb] at h;cases h
  exact h
 rintro⟨o,ho,h1,h2⟩
 refine⟨(RP.1 ho).1,h1,?_⟩
 rw [ho]
 simp only [RO,Ry,R5,RJ,RT]
 intro e he
 cases hb:Region.binds .any e with
 |false=>exact .inl rfl
 |true=>exact .inr (h2 e (by simpa using he) hb)
theorem uT {l:Array Bool} {i j:Nat} {d:Bool} (hi:i < l.size):(l.setIfInBounds i true).getD j d=if i=j then true else l.getD j d:=by
 simp only [RB,Array.getElem?_setIfInBounds]
 by_cases h:i=j
 ·subst h;simp [hi]
 simp [h]
theorem uh {r:Array Oper} (h:pC r=true) {i:Nat} {o:Oper} (ho:r[i]? =some o) {e:Edge} (he:e∈o.after.toList) (hb:Region.binds .any e=true):e.on < i:=by
 unfold pC at h
 rw [RG] at h
 have:=h i (R_.2 (RP.1 ho).1)
 rw [ho] at this
 have:=(RG.1 this) e he
 rw [hb] at this
 simpa using this
theorem yo {r:Array Oper} {fuel:Nat} {listed:Array Bool} (h:sS r fuel listed []):fuel=0\/Region.ready .any r listed=[]:=by
 cases fuel<;>exact h
theorem kY {P:Program} {E:Entry} {r:Array Oper} {Q:Exit->Act->World->Prop} {ex:List (Nat×Nat)} {s':S} (hback:pC r=true) (hQ:∀ β' a' w',Sim E β' s' a' w'->Q .normal a' w'):
  ∀ (τ:List Nat) (fuel:Nat) (listed:Array Bool) (σ:List Nat) (s:S) (β:Be) (a:Act) (w:World),sS r fuel listed τ->listed.size=r.size->σ.length<=fuel->(∀ i,i∈σ↔i < r.size/\listed.getD i true=false)->Ea r listed->
   DP P r (Gg r) ex σ=true->(∀ p q,ex.contains (p,q)=true->p∈σ->q∈σ->bS τ p q=true)->zT P r σ s s'->Sim E β s a w->wpOps P r Q τ a w
 |[],fuel,listed,σ,s,β,a,w,hd,hsz,hf,hm,hc,hok,hx,hrun,hs=>by
  have hnil:σ=[]:=by
   rcases yo hd with rfl|hd
   ·exact List.length_eq_zero_iff.1 zO
   cases σ with
   |nil=>rfl
   |cons p l=>
    exfalso
    have hp:=(hm p).1 zP
    have:p∈Region.ready .any r listed:=by
     refine kA.2 ⟨r[p],RE hp.1,hp.2,fun e he hb=>?_⟩
     have hbit:((Gg r).getD p 0).testBit e.on=true:=(uR (RE hp.1) e.on).2 ⟨e,he,hb,.inl rfl⟩
     have hlt0:=uh hback (RE hp.1) he hb
     have hlt:e.on < r.size:=Nat.lt_trans hlt0 hp.1
     cases hl:listed.getD e.on false with
     |true=>rfl
     |false=>
      exfalso
      have hl':listed.getD e.on true=false:=by
       rw [RB,RE zO] at hl⊢
       exact hl
      have hmem:e.on∈p::l:=(hm e.on).2 ⟨hlt,hl'⟩
      rcases RS.1 hmem with hep|hmem
      ·omega
      have:=BL hok hmem
      simp only [N3,Rx,RT] at this
      rw [this.1.2] at hbit
      cases hbit
    rw [hd] at this
    simp at this
  subst hnil
  have:s'=s:=hrun
  subst this
  exact hQ β a w hs
 |i::τ,0,listed,σ,s,β,a,w,hd,_,_,_,_,_,_,_,_=>hd.elim
 |i::τ,fuel+1,listed,σ,s,β,a,w,hd,hsz,hf,hm,hc,hok,hx,hrun,hs=>by
  obtain⟨hi,hd⟩:=hd
  obtain⟨o,ho,h1,h2⟩:=kA.1 hi
  have hil:i < r.size:=(RP.1 ho).1
  have hiσ:i∈σ:=(hm i).2 ⟨hil,h1⟩
  obtain⟨l,m,rfl⟩:=List.append_of_mem hiσ
  have hnd:=ym hok
  have hfront:∀ p∈l,∃ x y,r[p]? =some x/\r[i]? =some y/\(uO P r x y || ki P r x y)=true:=by
   intro p hp
   have hpl:=(hm p).1 (by simp [hp])
   have h3:=Js hok hp
   have hpi:p≠i:=by
    intro e
    subst e
    simp [N3] at h3
   simp only [N3,Rx,RJ] at h3
   rcases h3.2 with (h4|h4)|h4
   ·exfalso
    have:=uS hc i o ho h2 p h4
    have h5:=hpl.2
    rw [RB,RE zO] at this h5
    simp only [Ry] at this h5
    rw [this] at h5
    cases h5
   ·exfalso
    have:=hx p i h4 (by simp [hp]) zP
    simp [bS,hpi,Ne.symm hpi] at this
   split at h4
   ·rename_i x y hx hy
    exact⟨x,y,hx,hy,h4⟩
   cases h4
  obtain⟨s1,h3,h4⟩:=yn hfront hrun
  have hset:∀ (j:Nat) (d:Bool),(listed.setIfInBounds i true).getD j d=if i=j then true else listed.getD j d:=fun j d=>uT zO
  rw [wpOps_cons]
  refine Jq h3 hs fun β' a' w' hs'=>?_
  refine kY hback hQ τ fuel (listed.setIfInBounds i true) (l++m) s1 β' a' w' hd (by simpa using hsz) ?_ ?_ ?_ (BK hok) ?_ h4 hs'
  ·simp only [R2,R4] at hf⊢
   omega
  ·intro j
   have hj:=hm j
   rw [hset]
   have hd1:i ∉ l/\i ∉ m:=by
    rw [Sn] at hnd
    exact⟨fun h=>hnd.2.2 i h i zP rfl,(Sf.1 hnd.2.1).1⟩
   simp only [R1,RS] at hj⊢
   by_cases hij:i=j
   ·subst hij
    simp [hd1.1,hd1.2]
   rw [if_neg hij,<-hj]
   simp [Ne.symm hij]
  ·intro j oj hj hl e he hb
   rw [hset] at hl⊢
   by_cases hij:i=j
   ·subst hij
    rw [hj] at ho
    cases ho
    split
    ·rfl
    exact h2 e he hb
   rw [if_neg hij] at hl
   split
   ·rfl
   exact hc j oj hj hl e he hb
  intro p q hpq hp hq
  have hd1:i ∉ l/\i ∉ m:=by
   rw [Sn] at hnd
   exact⟨fun h=>hnd.2.2 i h i zP rfl,(Sf.1 hnd.2.1).1⟩
  have hne:∀ x∈l++m,i≠x:=by
   intro x hx e
   subst e
   exact (R1.1 hx).elim hd1.1 hd1.2
  have hin:∀ x∈l++m,x∈l++i::m:=by
   intro x hx
   simp only [R1,RS] at hx⊢
   exact hx.imp id .inr
  have:=hx p q hpq (hin p hp) (hin q hq)
  simpa [bS,hne p hp,hne q hq] using this
def nc:List (Nat×Nat)->List (List (Nat×Nat))
 |[]=>[[]]
 |(a,b)::U=>(nc U).flatMap fun l=>[(a,b)::l,(b,a)::l]
theorem nf (τ:List Nat):∀ {U:List (Nat×Nat)},(∀ u∈U,u.1≠u.2)->∃ ex∈nc U,∀ p q,ex.contains (p,q)=true->bS τ p q=true
 |[],_=>⟨[],by simp [nc],fun p q h=>by simp at h⟩
 |(a,b)::U,h=>by
  obtain⟨ex,h1,h2⟩:=nf τ (U:=U) fun u hu=>h u (by simp [hu])
  have hne:a≠b:=h (a,b) zP
  rcases kX hne (l:=τ) with h3|h3
  ·refine⟨(a,b)::ex,Sq.2 ⟨ex,h1,zP⟩,fun p q hpq=>?_⟩
   simp only [Sl,RJ,beq_iff_eq,Prod.mk.injEq] at hpq
   rcases hpq with⟨rfl,rfl⟩|hpq
   ·exact h3
   exact h2 p q hpq
  refine⟨(b,a)::ex,Sq.2 ⟨ex,h1,zP⟩,fun p q hpq=>?_⟩
  simp only [Sl,RJ,beq_iff_eq,Prod.mk.injEq] at hpq
  rcases hpq with⟨rfl,rfl⟩|hpq
  ·exact h3
  exact h2 p q hpq
def uU (P:Program) (r:Array Oper) (U:List (Nat×Nat)) (os:List (List Nat)):Bool:=
 pC r && U.all (fun u=>u.1 != u.2) && os.all (fun σ=>σ.length == r.size && (List.range r.size).all σ.contains && σ.all fun i=>decide (i < r.size)) &&
 (let T:=Gg r;(nc U).all fun ex=>os.any fun σ=>DP P r T ex σ)
theorem Jt {P:Program} {E:Entry} {id:Nat} {r:Array Oper} {U:List (Nat×Nat)} {os:List (List Nat)} (hP:P.follows .mixedOrders=true) (hcov:uU P r U os=true) {s:S} {K:S->Prop}
  (h:∀ σ∈os,∃ s',zT P r σ s s'/\∀ β a w,Sim E β s' a w->∃ β' t,K t/\Sim E β' t a w):sL P E (.region id r true) s fun e s'=>e=.normal/\K s':=by
 intro β a w hs Q hQ
 refine wp_region_draw fun t=>?_
 simp only [Region.schedule,hP,Bool.true_or,if_true]
 simp only [uU,Rx] at hcov
 obtain⟨⟨⟨hback,hU⟩,hperm⟩,hch⟩:=hcov
 have hd:=mb (r:=r) r.size t (Array.replicate r.size false)
 obtain⟨ex,hex,hbef⟩:=nf (Region.linearise .any r t) (U:=U) fun u hu=>by
  have:=RG.1 hU u hu
  simpa using this
 obtain⟨σ,hσ,hok⟩:=List.any_eq_true.1 (RG.1 hch ex hex)
 have hp:=RG.1 hperm σ hσ
 simp only [Rx,beq_iff_eq,RG,R_,decide_eq_true_eq] at hp
 obtain⟨⟨hlen,hall⟩,hlt⟩:=hp
 obtain⟨s',hrun,hK⟩:=h σ hσ
 have hs2:Sim E β s a { w with drawn:=w.drawn+1 }:=⟨hs.dfr,hs.sl,⟨hs.hp.len,hs.hp.ob,hs.hp.flat,hs.hp.apart⟩,hs.ent,⟨hs.st.le,hs.st.os,hs.st.tape,hs.st.output,hs.st.size,hs.st.block,hs.st.len,hs.st.old,hs.st.fresh⟩⟩
 refine kY hback (fun β' a' w' hs'=>let⟨β2,t2,hk2,hs2⟩:=hK β' a' w' hs';hQ .normal t2 β2 a' w' ⟨rfl,hk2⟩ hs2) (Region.linearise .any r t) r.size _ σ s β a _ hd zP zO (fun i=>?_) (fun i o ho hl=>?_) hok (fun p q hpq _ _=>hbef p q hpq) hrun hs2
 ·constructor
  ·intro hi
   refine⟨hlt i hi,?_⟩
   simp [RB,hlt i hi]
  rintro⟨hi,_⟩
  simpa using hall i hi
 exfalso
 simp only [RB,Array.getElem?_replicate] at hl
 split at hl<;>cases hl
inductive Ny where
 |go (l:List Nat) (s:S) (c:Prop)
 |call (f:Nat) (args:List AV) (d:Option Tmp) (l:List Nat) (s:S) (c:Prop)
 |fin (s:S) (c:Prop)
 |bad
def ui (P:Program) (o:Oper) (l:List Nat) (s:S) (c:Prop):Ny:=
 match o.op with
 | .call ⟨.value x,args,_⟩=>match s.ev x,s.evs args.toList with
  |some (.cl f caps),some avs=>.call f (avs++l7 caps) o.dst l s c
  |_,_=>.bad
 |op=>match bR P s o.type op with
  |some ⟨v,h,d⟩=>.go l (s.put o.dst v h) (c/\d)
  |none=>.bad
def yp (P:Program) (r:Array Oper):List Nat->S->Prop->Ny
 |[],s,c=>.fin s c
 |i::l,s,c=>match r[i]? with
  |some o=>match eS r s o with
   |some b=>match b with
    |true=>ui P o l s c
    |false=>.go l (s.put o.dst (some (.tu [])) s.hp) c
   |none=>.bad
  |none=>.bad
def Hj (P:Program) (r:Array Oper):Nat->Ny->Ny
 |0,x=>x
 |n+1,.go l s c=>Hj P r n (yp P r l s c)
 |_+1,.call f a d l s c=>.call f a d l s c
 |_+1,.fin s c=>.fin s c
 |_+1,.bad=>.bad
def rx (P:Program) (r:Array Oper) (G:S->Prop):Ny->Prop
 | .go l s c=>c/\∃ s',zT P r l s s'/\G s'
 | .call f args d l s c=>c/\∃ res h',gB P f args s.hp res h'/\Hp.ext s.hp h'/\∃ s',zT P r l (s.put d (some res) h') s'/\G s'
 | .fin s c=>c/\G s
 | .bad=>False
theorem Hk {P:Program} {r:Array Oper} {G:S->Prop} {l:List Nat} {s:S} {c:Prop} (h:rx P r G (yp P r l s c)):rx P r G (.go l s c):=by
 cases l with
 |nil=>exact⟨h.1,s,rfl,h.2⟩
 |cons i l=>
  simp only [yp] at h
  split at h
  ·rename_i o ho
   split at h
   ·rename_i b hg
    cases b with
    |true=>
     unfold ui at h
     dsimp only at h
     split at h
     ·rename_i x args at_ hop
      split at h
      ·rename_i f caps avs hx ha
       obtain⟨hc,res,h',hcall,hext,s',hrun,hG⟩:=h
       refine⟨hc,s',⟨_,?_,hrun⟩,hG⟩
       unfold dA
       rw [ho]
       dsimp only
       rw [hg]
       exact .inr ⟨x,args,at_,f,caps,avs,res,h',hop,hx,ha,hcall,hext,rfl⟩
      exact h.elim
     split at h
     ·rename_i v hp d hx
      obtain⟨⟨hc,hd⟩,s',hrun,hG⟩:=h
      refine⟨hc,s',⟨_,?_,hrun⟩,hG⟩
      unfold dA
      rw [ho]
      dsimp only
      rw [hg]
      exact .inl ⟨_,hx,hd,rfl⟩
     exact h.elim
    |false=>
     obtain⟨hc,s',hrun,hG⟩:=h
     refine⟨hc,s',⟨_,?_,hrun⟩,hG⟩
     unfold dA
     rw [ho]
     dsimp only
     rw [hg]
   exact h.elim
  exact h.elim
theorem ab {P:Program} {r:Array Oper} {G:S->Prop}:∀ (n:Nat) {x:Ny},rx P r G (Hj P r n x)->rx P r G x
 |0,x,h=>h
 |n+1,.go l s c,h=>Hk (ab n h)
 |n+1,.call ..,h=>h
 |n+1,.fin ..,h=>h
 |n+1,.bad,h=>h
def sT:Hp->Bool
 |[]=>true
 |some ob::h=> !ob.own && sT h
 |none::h=>sT h
theorem ry:∀ {h:Hp} {i:Nat} {t:AObj},sT h=true->h[i]? =some (some t)->t.own=false
 |[],i,t,_,h=>by simp at h
 |some ob::l,0,t,hn,h=>by
  simp at h
  subst h
  simp [sT] at hn
  exact hn.1
 |none::l,0,t,hn,h=>by simp at h
 |some ob::l,i+1,t,hn,h=>ry (h:=l) (by simp [sT] at hn;exact hn.2) (by simpa using h)
 |none::l,i+1,t,hn,h=>ry (h:=l) (by simpa [sT] using hn) (by simpa using h)
theorem aj {P:Program} {r:Array Oper} {G:S->Prop} {f:Nat} {avs:List AV} {d:Option Tmp} {l:List Nat} {s:S} {c:Prop} {args0:List AV} {h0 h0':Hp} {res0:AV} (hc:c) (ct:gB P f args0 h0 res0 h0') (ρ:cW)
  (hm:rp ρ args0 avs/\lK ρ s.hp ρ h0) (hsep:eL ρ h0=true) (hno:sT h0=true) (h:rx P r G (.go l (s.put d (some (lM ρ s.hp.length res0)) (s.hp++ju ρ s.hp.length (h0'.drop h0.length))) True)):rx P r G (.call f avs d l s c):=by
 have hu:∀ (ρ':cW) (h h' s':Hp),(∀ (i:Nat) (t:AObj),h[i]? =some (some t)->t.own=false)->fk ρ s.hp.length ρ' h h' s'=s':=by
  intro ρ'
  induction ρ' with
  |nil=>intro h h' s' _;simp [fk]
  |cons x ρ' ih=>
   intro h h' s' hn
   cases h with
   |nil=>cases x<;>simp [fk]
   |cons y h=>
    have hn':∀ (i:Nat) (t:AObj),h[i]? =some (some t)->t.own=false:=fun i t ht=>hn (i+1) t (by simpa using ht)
    cases h' with
    |nil=>cases x<;>cases y<;>simp [fk]
    |cons z h'=>
     cases x with
     |none=>cases y<;>simpa [fk] using ih h h' s' hn'
     |some x=>
      cases y with
      |none=>simpa [fk] using ih h h' s' hn'
      |some y=>
       obtain⟨n,e⟩:=x
       have ho:=hn 0 y zP
       simpa [fk,ho] using ih h h' s' hn'
 have hcall:eG ρ h0 h0' s.hp=s.hp++ju ρ s.hp.length (h0'.drop h0.length):=by
  unfold eG
  rw [hu ρ h0 h0' s.hp fun i t ht=>ry hno ht]
 obtain⟨_,s',hrun,hG⟩:=h
 refine⟨hc,_,_,uL ct ρ hm.1 hm.2 hsep,?_,s',by rw [hcall];exact hrun,hG⟩
 rw [hcall]
 exact ik _ _
def a_ (f:List Nat->Prop):List (List Nat)->Prop
 |[]=>True
 |[σ]=>f σ
 |σ::l=>f σ/\a_ f l
theorem kB {f:List Nat->Prop}:∀ {l:List (List Nat)},a_ f l->∀ σ∈l,f σ
 |[σ],h,_,hm=>by simp at hm;subst hm;exact h
 |σ::τ::l,h,x,hm=>by
  rcases RS.1 hm with rfl|hm
  ·exact h.1
  exact kB h.2 x hm
theorem Ju {P:Program} {E:Entry} {F:S->Prop} {id:Nat} {r:Array Oper} {k:List fI} {s:S} {c:Prop} (U:List (Nat×Nat)) (os:List (List Nat)) (hP:P.follows .mixedOrders=true) (hc:c) (hcov:uU P r U os=true)
  (h:a_ (fun σ=>rx P r (fun s'=>gD P E F (.go k s' True)) (.go σ s True)) os):gD P E F (.draw id r k s c):=by
 refine⟨hc,gC (Jt hP hcov (K:=fun s'=>gD P E F (.go k s' True)) fun σ hσ=>let⟨s',h1,h2⟩:=(kB h σ hσ).2;⟨s',h1,fun β a w hs=>⟨β,s',h2,hs⟩⟩) fun e s' hk=>?_⟩
 obtain⟨rfl,hk⟩:=hk
 exact hk.2
theorem ak {P:Program} {E:Entry} {F:S->Prop} {id:Nat} {r:Array Oper} {k:List fI} {s:S} {c:Prop} (σ:List Nat) (hP:P.follows .mixedOrders=true) (hc:c) (hcov:uU P r [] [σ]=true)
  (h:rx P r (fun s'=>gD P E F (.go k s' True)) (.go σ s True)):gD P E F (.draw id r k s c):=
 Ju [] [σ] hP hc hcov h
attribute [go_sem] Hj yp ui a_
def Gi (N:Nat):Nat->cW->Hp->Bool
 |i,[],_=>decide (N<=i)
 |i,x::ρ,h=>(match decide (i < N) with
  |true=>x == some (i,none)
  |false=>match x with
   |none=>true
   |some (n,d)=>decide (N<=n) || (d.isNone && match h with
    |some t::_=>t.own
    |_=>true)) && Gi N (i+1) ρ h.tail
theorem Jw {N:Nat}:∀ {ρ:cW} {i:Nat} {h:Hp},Gi N i ρ h=true->(∀ j,i+j < N->ρ[j]? =some (some (i+j,none)))/\
  (∀ j n d t,N<=i+j->ρ[j]? =some (some (n,d))->h[j]? =some (some t)->N<=n\/d=none/\t.own=true)/\N<=i+ρ.length
 |[],i,h,hh=>by
  simp only [Gi,decide_eq_true_eq] at hh
  exact⟨fun j hj=>by omega,fun j n d t _ hr=>by simp at hr,by simpa using hh⟩
 |x::ρ,i,h,hh=>by
  unfold Gi at hh
  rw [Rx] at hh
  obtain⟨h1,h2⟩:=hh
  obtain⟨a1,a2,a3⟩:=Jw h2
  refine⟨fun j hj=>?_,fun j n d t hj hr ht=>?_,by simp only [R4];omega⟩
  ·cases j with
   |zero=>
    rw [decide_eq_true zO] at h1
    dsimp only at h1
    rw [beq_iff_eq] at h1
    simp [h1]
   |succ j=>
    rw [Rz,a1 j zO]
    simp only [Option.some.injEq,Prod.mk.injEq,and_true]
    omega
  cases j with
  |zero=>
   rw [decide_eq_false zO] at h1
   simp only [RD,Option.some.injEq] at hr
   subst hr
   cases h with
   |nil=>simp at ht
   |cons y h=>
    simp only [RD,Option.some.injEq] at ht
    subst ht
    simp only [RJ,decide_eq_true_eq,Rx,Option.isNone_iff_eq_none] at h1
    exact h1
  |succ j=>
   rw [Rz] at hr
   refine a2 j n d t zO hr ?_
   cases h with
   |nil=>simp at ht
   |cons y h=>simpa using ht
def i_ (ρ:cW) (n0:Nat) (t s:S):Prop:=Gi n0 0 ρ t.hp=true/\eL ρ t.hp=true/\D6 ρ t.sl s.sl/\lK ρ s.hp ρ t.hp
theorem am {ρ:cW} {n0:Nat} {t s:S} (h1:Gi n0 0 ρ t.hp=true) (h2:eL ρ t.hp=true) (h:D6 ρ t.sl s.sl/\lK ρ s.hp ρ t.hp):i_ ρ n0 t s:=⟨h1,h2,h.1,h.2⟩
theorem yt {E:Entry} {n0:Nat} (hE:E.h.length=n0) {ρ:cW} {t s:S} (h:i_ ρ n0 t s) {β:Be} {a:Act} {w:World} (hs:Sim E β s a w):Sim E (fh β ρ) t a w:=by
 obtain⟨hid,hsep,hsl,hhp⟩:=h
 obtain⟨hlo,hhi,hle⟩:=Jw hid
 simp only [RM] at hlo hhi hle
 have hlen:=jt hhp
 have hl0:n0<=t.hp.length:=zO
 refine⟨hs.dfr,F8 hsl hs.sl,D4 hs.hp hhp hsep,hs.ent,?_⟩
 have st:=hs.st
 refine⟨fun o p hp=>?_,st.os,st.tape,st.output,st.size,st.block,by rw [hE];exact hl0,fun o ob hlt ho=>?_,fun o ob p hge ho hp=>?_⟩
 ·have hlt:o < n0:=by rw [<-hE,<-hs.ent];exact (Rv.1 hp).1
  have h1:=hlo o hlt
  rw [cu β h1]
  dsimp only
  rw [Ru,st.le o p hp]
  rfl
 ·rw [hE] at hlt
  have h1:=hlo o hlt
  rcases gE hhp ho with⟨hr,_⟩|⟨n,d,ob',hr,hn,hob⟩
  ·rw [h1] at hr;cases hr
  rw [h1] at hr
  simp only [Option.some.injEq,Prod.mk.injEq] at hr
  obtain⟨rfl,rfl⟩:=hr
  obtain⟨ob0,ho0,hown0⟩:=st.old o ob' (by rw [hE];exact hlt) hn
  exact⟨ob0,ho0,fun h=>hown0 (m_ hob h).2⟩
 rw [hE] at hge
 rcases gE hhp ho with⟨hr,_⟩|⟨n,d,ob',hr,hn,hob⟩
 ·rw [cu β hr] at hp;cases hp
 have hge':=hhi o n d ob hge hr ho
 have fin:∀ q:Pl,β[n]? =some (some q)->q.blk=p.blk->Own E.β E.h p.blk\/E.w.heap.size<=p.blk:=by
  intro q hq hb
  rcases hge' with hN|⟨hd,hown⟩
  ·have:=st.fresh n ob' q (by rw [hE];omega) hn hq
   rw [hb] at this
   exact this
  rcases RL n n0 with hlt|hge2
  ·obtain⟨ob0,ho0,hown0⟩:=st.old n ob' (by rw [hE];exact hlt) hn
   have hlt':n < E.β.length:=by rw [hs.ent,hE];exact hlt
   have hβ:=st.le n E.β[n] (RC hlt')
   rw [hq] at hβ
   refine .inl ⟨n,ob0,q,ho0,hown0 (m_ hob hown).2,?_,hb⟩
   rw [RC hlt',<-Option.some.inj hβ]
  have:=st.fresh n ob' q (by rw [hE];omega) hn hq
  rw [hb] at this
  exact this
 rw [cu β hr] at hp
 cases d with
 |none=>
  simp only [Option.some.injEq] at hp
  rw [Ru] at hp
  have hb:β[n]? =some (some p):=by
   cases h:β[n]? with
   |none=>rw [h] at hp;cases hp
   |some z=>rw [h] at hp;simp only [Ry] at hp;rw [hp]
  exact fin p hb rfl
 |some d=>
  simp only [Option.some.injEq] at hp
  rw [Ru] at hp
  cases h:β[n]? with
  |none=>rw [h] at hp;cases hp
  |some z=>
   rw [h] at hp
   simp only [Ry] at hp
   cases z with
   |none=>cases hp
   |some q=>
    simp only [RO,Option.some.injEq] at hp
    exact fin q h (by rw [<-hp])
theorem rC {P:Program} {E:Entry} {n0:Nat} (hE:E.h.length=n0) {ρ:cW} {t s:S} (h:i_ ρ n0 t s) {C:Code} {K:Exit->S->Prop} (hd:sL P E C t K):sL P E C s K:=
 fun β a w hs Q hQ=>hd _ a w (yt hE h hs) Q hQ
theorem jY {P:Program} {E:Entry} {F:S->Prop} {b:Code} {k:List fI} {s:S} {c:Prop} {ι:Type} (n0:Nat) (hE:E.h.length=n0) (mk:S->ι->S) (J:ι->Prop) (μ:ι->Nat) (i0:ι) (ρ0:cW) (hc:c) (hJ:J i0) (h0:i_ ρ0 n0 (mk s i0) s)
  (h:∀ i,J i->∀ N:S->Prop,(∀ (s':S) (j:ι) (ρ:cW),J j->μ j < μ i->i_ ρ n0 (mk s j) s'->N s')->gD P E F (.go (.code b::.hook N::k) (mk s i) True)):gD P E F (.lp b k s c):=by
 refine⟨hc,Bz (fun _=>True) (fun s' n=>∃ i ρ,J i/\i_ ρ n0 (mk s i) s'/\μ i=n) (μ i0) ⟨trivial,i0,ρ0,hJ,h0,rfl⟩ fun s' n _ ⟨i,ρ,hi,hw,hn⟩=>?_⟩
 have hd:=(h i hi (fun s''=>∃ j ρ,J j/\μ j < μ i/\i_ ρ n0 (mk s j) s'') fun s'' j ρ' hj hlt hw'=>⟨j,ρ',hj,hlt,hw'⟩).2
 refine rC hE hw (gC hd fun e s'' hk=>?_)
 cases e with
 |normal=>
  obtain⟨j,ρ',hj,hlt,hw'⟩:=hk
  exact⟨trivial,μ j,zO,j,ρ',hj,hw',rfl⟩
 |_=>exact hk
def Ho (P:Program) (rs:List ResultVar) (n0:Nat) (res:AV) (h':Hp) (s:S):Prop:=
 ∃ v ρ,tP P s rs=some v/\Gi n0 0 ρ h'=true/\eL ρ h'=true/\F4 ρ res v/\lK ρ s.hp ρ h'
theorem aH {P:Program} {E:Entry} {rs:List ResultVar} {n0:Nat} {res:AV} {h':Hp} {s:S} {c:Prop} (ρ:cW) (hc:c) (v:AV) (hr:tP P s rs=some v) (hid:Gi n0 0 ρ h'=true) (hsep:eL ρ h'=true) (hm:F4 ρ res v/\lK ρ s.hp ρ h'):
  gD P E (Ho P rs n0 res h') (.fin s c):=⟨hc,v,ρ,hr,hid,hsep,hm.1,hm.2⟩
theorem aL {P:Program} {f:FuncId} {fn:Func} {c:Code} (hf:P.funcs[f]? =some fn) (hname:(fn.name == "runtime.NumGoroutine")=false) (hb:fn.body=some c) {args:List AV} {h h':Hp} {res:AV}
  (H:∀ E:Entry,E.h.length=h.length->gD P E (Ho P fn.results.toList h.length res h') (.go [.code c] ⟨nT fn.ntmps args,h⟩ True)):gB P f args h res h':=by
 refine⟨⟨fn,hf,hname,by rw [hb];rfl⟩,fun β w vs hs hvs=>?_⟩
 refine calls_of_wp hf hb ?_
 let E:Entry:=⟨β,h,w⟩
 have hd:=(H E rfl).2
 refine hd β _ w ⟨rfl,zJ hvs,hs,hs.len,StepR.refl β h w hs.len⟩ _ fun e s' β' a' w' hK hs'=>?_
 have key:Ho P fn.results.toList h.length res h' s'->a'.defers=[]/\∃ v,(results fn a'.tmps).run P w'=.ok v w'/\∃ β'' u,Ending.returned v=.returned u/\f9 β'' res u/\HSim β'' h' w'/\StepR β β'' h h' w w':=by
  intro⟨v,ρ,hr,hid,hsep,hav,hhp⟩
  obtain⟨u,hrun,hu⟩:=D8 hs'.hp hs'.sl hr
  have hsim:=yt (E:=E) rfl (t:=⟨[],h'⟩) (s:=⟨[],s'.hp⟩) ⟨hid,hsep,trivial,hhp⟩ (β:=β') (a:=a') (w:=w') ⟨hs'.dfr,⟨fun i hi=>by simp [Slots.has] at hi,fun i x hx=>by simp [Slots.get] at hx⟩,hs'.hp,hs'.ent,hs'.st⟩
  exact⟨hs'.dfr,u,hrun,fh β' ρ,u,rfl,BB hav hu,hsim.hp,hsim.st⟩
 cases e with
 |normal=>exact key hK
 |ret=>exact key hK
 |_=>exact hK.elim
def QD (T:Nat) (t:Operand):Bool:=match t with
 | .tmp i=>i == T
 |_=>false
def QE (T:Nat) (a b:Code):Bool:=match a with
 | .region id _ _=>match b with
  | .cond _ _ _=>id+1000 == T
  |_=>false
 |_=>false
def Jx (T:Nat) (c:Code):Bool:=match c with
 | .cond t _ _=>QD T t
 | .seq a b=>QE T a b
 |_=>false
def Nz (T:Nat) (k:List fI):Bool:=match k with
 | .code c::_=>Jx T c
 |_=>false
theorem N5 (T:Nat) (a b:Code):QE T a b=match a with
 | .region id _ _=>match b with
  | .cond _ _ _=>id+1000 == T
  |_=>false
 |_=>false:=rfl
theorem N6 (T:Nat) (t:Operand):QD T t=match t with
 | .tmp i=>i == T
 |_=>false:=rfl
theorem Jy (T:Nat) (c:Code):Jx T c=match c with
 | .cond t _ _=>QD T t
 | .seq a b=>QE T a b
 |_=>false:=rfl
theorem Jz (T:Nat) (k:List fI):Nz T k=match k with
 | .code c::_=>Jx T c
 |_=>false:=rfl
def Mb (P:Program) (T:Nat):Nat->St->St
 |0,x=>x
 |n+1,.go k s c=>match Nz T k with
  |true=>.go k s c
  |false=>Mb P T n (uE P k s c)
 |_+1,.fin s c=>.fin s c
 |_+1,.call f a d k s c=>.call f a d k s c
 |_+1,.lp b k s c=>.lp b k s c
 |_+1,.hk N s c=>.hk N s c
 |_+1,.draw id r k s c=>.draw id r k s c
 |_+1,.gl r o l k s c=>.gl r o l k s c
 |_+1,.bad=>.bad
theorem jw {P:Program} {E:Entry} {F:S->Prop} (T:Nat):∀ (n:Nat) {x:St},gD P E F (Mb P T n x)->gD P E F x
 |0,x,h=>h
 |n+1,.go k s c,h=>by
  unfold Mb at h
  split at h
  ·exact h
  have h':=jw T n h
  exact aa 1 h'
 |_+1,.fin s c,h=>h
 |_+1,.call f a d k s c,h=>h
 |_+1,.lp b k s c,h=>h
 |_+1,.hk N s c,h=>h
 |_+1,.draw id r k s c,h=>h
 |_+1,.gl r o l k s c,h=>h
 |_+1,.bad,h=>h
attribute [go_sem] Mb N6 N5 Jy Jz
def QF:List fI->Bool
 | .code _::_=>true
 | .inB _::k=>QF k
 |_=>false
theorem BN {P:Program} {E:Entry} {F:Exit->S->Prop} {n0:Nat} (hE:E.h.length=n0) {ρ:cW} {t s:S} (h:i_ ρ n0 t s):∀ {k:List fI},QF k=true->KK P E F k .normal t->KK P E F k .normal s
 |[],hk,_=>by cases hk
 | .code C::k,_,hd=>rC hE h hd
 | .inB _::k,hk,hd=>BN hE h (k:=k) hk hd
 | .ops _ _::k,hk,_=>by cases hk
 | .hook _::k,hk,_=>by cases hk
theorem nh {P:Program} {E:Entry} {F:S->Prop} {C:Code} {k:List fI} {s:S} {c:Prop} (n0:Nat) (hE:E.h.length=n0) (mk:S->S) (hc:c) (hok:QF k=true)
  (hb:∀ N:S->Prop,(∀ (s':S) (ρ:cW),i_ ρ n0 (mk s) s'->N s')->gD P E F (.go (.code C::.hook N::k) s True))
  (hk:gD P E F (.go k (mk s) True)):gD P E F (.go (.code C::k) s c):=by
 refine⟨hc,?_⟩
 have h1:=(hb (fun s'=>∃ ρ,i_ ρ n0 (mk s) s') fun s' ρ h=>⟨ρ,h⟩).2
 refine gC h1 fun e s' he=>?_
 cases e with
 |normal=>
  obtain⟨ρ,hw⟩:=he
  exact BN hE hw hok hk.2
 |_=>exact he
end
section
open Go.RowKit
def qA (l:List Nat):cW:=l.map fun n=>some (n,none)
attribute [go_sem] qA
def qI (a:Nat):Nat->cW
 |0=>[]
 |n+1=>some (a,none)::qI (a+1) n
def qO:Nat->cW
 |0=>[]
 |n+1=>none::qO n
def qV (a:Nat):Nat->List Nat
 |0=>[]
 |n+1=>a::qV (a+1) n
def qU:List Nat->List Nat
 |a::n::l=>qV a n++qU l
 |_=>[]
attribute [go_sem] qI qO qV qU
theorem qH {p a b c d e f g:Prop} (F:a->b->c->d->e->f->g->p) (h0:a:=by have:=hs.own;omega) (h1:b:=by have:=hs.far;omega) (h2:c:=by have:=hs.subs;omega) (h3:d:=by have:=hs.halfs;omega) (h4:e:=by have:=hs.list;omega) (h5:f:=by have:=hs.done;omega) (h6:g:=by have:=hs.over;omega):p:=F h0 h1 h2 h3 h4 h5 h6
theorem qC {c:Prop} (h:c:=by (try simp (disch:=omega) only [go_sem,List.length_set,seval])<;>omega):c:=h
theorem qM {c:Prop} (h:c:=by simp only [go_sem];repeat' first|rfl|constructor|(rw [List.map_set];rfl)|(simp [List.map_take,List.map_drop]<;>omega)):c:=h
theorem qX {p q:Prop} (h:q) (e:q->p:=by intro h;(try simp (disch:=omega) only [go_sem,seval]);exact h):p:=e h
theorem qY {p:Prop} (e:p:=by simp (disch:=omega) only [go_sem,seval]):p:=e
theorem qB {p c1 c2:Prop} {q1:c1->Prop} {q2:c2->Prop} (h1:∀ h,q1 h) (h2:∀ h,q2 h) (e:(∀ h,q1 h)->(∀ h,q2 h)->p:=by
 intro h1 h2;split<;>rename_i h<;>(try simp only [zR] at h)<;>simp (disch:=omega) only [go_sem,seval,h]<;>(try simp only [zQ] at h)<;>(try simp (disch:=omega) only [go_sem,seval])<;>first|exact h1 h|exact h2 h):p:=e h1 h2
section
variable {P:Program} {E:Entry} {F:S->Prop} {c q:Prop}
theorem qR {x:St} (h:q) (e:q->gD P E F (run P 400 x):=by intro h;(try simp (disch:=omega) only [go_sem,seval]);exact h):gD P E F x:=aa 400 (e h)
theorem qG {x:St} (h:q) (e:q->gD P E F (run P 400 x):=by intro h;(try simp (disch:=omega) only [go_sem,seval]);exact h) (hc:c:=by (try simp (disch:=omega) only [go_sem,List.length_set,seval])<;>omega):c/\gD P E F x:=⟨hc,aa 400 (e h)⟩
theorem qE {f:FuncId} {fn:Func} {C:Code} (hf:P.funcs[f]? =some fn) {nt:Nat} {rs:Array ResultVar} (hn:fn.ntmps=nt) (hr:fn.results=rs) {args:List AV} {h h':Hp} {res:AV} {Q:Entry->Prop} (H:∀ E:Entry,E.h.length=h.length->Q E)
  (hname:(fn.name == "runtime.NumGoroutine")=false:=by kernel_rfl) (hb:fn.body=some C:=by rfl)
  (e:∀ E:Entry,Q E->gD P E (zM P rs.toList h.length res h') (run P 400 (.go [.code C] ⟨nT nt args,h⟩ True)):=by intro E h;simp (disch:=omega) only [go_sem,seval];exact h):gB P f args h res h':=by
 subst hn;subst hr;exact ao hf hname hb fun E hE=>aa 400 (e E (H E hE))
theorem yu {f:FuncId} {fn:Func} {C:Code} (hf:P.funcs[f]? =some fn) {nt:Nat} {rs:Array ResultVar} (hn:fn.ntmps=nt) (hr:fn.results=rs) {args:List AV} {h h':Hp} {res:AV} {Q:Entry->Prop} (H:∀ E:Entry,E.h.length=h.length->Q E)
  (hname:(fn.name == "runtime.NumGoroutine")=false:=by kernel_rfl) (hb:fn.body=some C:=by rfl)
  (e:∀ E:Entry,Q E->gD P E (Ho P rs.toList h.length res h') (run P 400 (.go [.code C] ⟨nT nt args,h⟩ True)):=by intro E h;simp (disch:=omega) only [go_sem,seval];exact h):gB P f args h res h':=by
 subst hn;subst hr;exact aL hf hname hb fun E hE=>aa 400 (e E (H E hE))
theorem qF {rs:List ResultVar} {n0:Nat} {res v:AV} {h':Hp} {s:S} (ρ:cW) (hr:tP P s rs=some v:=by simp only [go_sem];rfl) (hid:F9 n0 0 ρ=true:=by rfl) (hsep:eL ρ h'=true:=by rfl) (hm:F4 ρ res v/\lK ρ s.hp ρ h':=by simp (disch:=omega) only [go_sem,seval])
  (hc:c:=by (try simp (disch:=omega) only [go_sem,List.length_set,seval])<;>omega):gD P E (zM P rs n0 res h') (.fin s c):=ai ρ hc v hr hid hsep hm
theorem jh {rs:List ResultVar} {n0:Nat} {res v:AV} {h':Hp} {s:S} (ρ:cW) (hr:tP P s rs=some v:=by simp only [go_sem];rfl) (hid:Gi n0 0 ρ h'=true:=by rfl) (hsep:eL ρ h'=true:=by rfl) (hm:F4 ρ res v/\lK ρ s.hp ρ h':=by simp (disch:=omega) only [go_sem,seval])
  (hc:c:=by (try simp (disch:=omega) only [go_sem,List.length_set,seval])<;>omega):gD P E (Ho P rs n0 res h') (.fin s c):=aH ρ hc v hr hid hsep hm
theorem qJ {rs:List ResultVar} {n0:Nat} {res v:AV} {h':Hp} {s:S} (ρ:cW) (h:q) (hr:tP P s rs=some v:=by simp only [go_sem];rfl) (hid:F9 n0 0 ρ=true:=by rfl) (hsep:eL ρ h'=true:=by rfl) (hm:q->F4 ρ res v/\lK ρ s.hp ρ h':=by intro h;simp (disch:=omega) only [go_sem,seval];exact h)
  (hc:c:=by (try simp (disch:=omega) only [go_sem,List.length_set,seval])<;>omega):gD P E (zM P rs n0 res h') (.fin s c):=ai ρ hc v hr hid hsep (hm h)
theorem qK {f:FuncId} {avs:List AV} {d:Option Tmp} {k:List fI} {s:S} {args0:List AV} {h0 h0':Hp} {res0:AV} (ct:gB P f args0 h0 res0 h0') (ρ:cW) (h:q)
  (e:q->gD P E F (run P 400 (.go k (s.put d (some (lM ρ s.hp.length res0)) (eG ρ h0 h0' s.hp)) True)):=by intro h;simp (disch:=omega) only [go_sem,seval];exact h)
  (hm:rp ρ args0 avs/\lK ρ s.hp ρ h0:=by simp only [go_sem];repeat' first|rfl|constructor|(rw [List.map_set];rfl)|(simp [List.map_take,List.map_drop]<;>omega)) (hsep:eL ρ h0=true:=by rfl)
  (hc:c:=by (try simp (disch:=omega) only [go_sem,List.length_set,seval])<;>omega):gD P E F (.call f avs d k s c):=ah hc ct ρ hm hsep (aa 400 (e h))
theorem b_ {r:Array Oper} {G:S->Prop} {f:Nat} {avs:List AV} {d:Option Tmp} {l:List Nat} {s:S} {args0:List AV} {h0 h0':Hp} {res0:AV} (ct:gB P f args0 h0 res0 h0') (ρ:cW) (h:q)
  (e:q->rx P r G (Hj P r 400 (.go l (s.put d (some (lM ρ s.hp.length res0)) (s.hp++ju ρ s.hp.length (h0'.drop h0.length))) True)):=by intro h;simp (disch:=omega) only [go_sem,seval];exact h)
  (hm:rp ρ args0 avs/\lK ρ s.hp ρ h0:=by simp only [go_sem];repeat' first|rfl|constructor|(rw [List.map_set];rfl)|(simp [List.map_take,List.map_drop]<;>omega)) (hsep:eL ρ h0=true:=by rfl) (hno:sT h0=true:=by rfl)
  (hc:c:=by (try simp (disch:=omega) only [go_sem,List.length_set,seval])<;>omega):rx P r G (.call f avs d l s c):=aj hc ct ρ hm hsep hno (ab 400 (e h))
theorem qD {id:Nat} {r:Array Oper} {k:List fI} {s:S} (σ:List Nat) (h:q)
  (e:q->rx P r (fun s'=>gD P E F (.go k s' True)) (Hj P r 400 (.go σ s True)):=by intro h;simp (disch:=omega) only [go_sem,seval];exact h)
  (hP:P.follows .mixedOrders=true:=by kernel_rfl) (hcov:uU P r [] [σ]=true:=by kernel_rfl) (hc:c:=by (try simp (disch:=omega) only [go_sem,List.length_set,seval])<;>omega):gD P E F (.draw id r k s c):=ak σ hP hc hcov (ab 400 (e h))
theorem qN {ι:Type} {N:S->Prop} {n0:Nat} {s1:S} {A B:ι->Prop} {mk:ι->S} (hN:∀ (s':S) (j:ι) (ρ:cW),A j->B j->lL ρ n0 (mk j) s'->N s') (j:ι) (ρ:cW) (hJ:A j) (hμ:B j:=by (try dsimp only);omega)
  (h1:F9 n0 0 ρ=true:=by rfl) (h2:eL ρ (mk j).hp=true:=by rfl) (hm:D6 ρ (mk j).sl s1.sl/\lK ρ s1.hp ρ (mk j).hp:=by simp (disch:=omega) only [go_sem,seval])
  (hc:c:=by (try simp (disch:=omega) only [go_sem,List.length_set,seval])<;>omega):c/\N s1:=⟨hc,hN _ j ρ hJ hμ (ay h1 h2 hm)⟩
theorem Qy {ι:Type} {N:S->Prop} {n0:Nat} {s1:S} {A B:ι->Prop} {mk:ι->S} (hN:∀ (s':S) (j:ι) (ρ:cW),A j->B j->i_ ρ n0 (mk j) s'->N s') (j:ι) (ρ:cW) (hJ:A j) (hμ:B j:=by (try dsimp only);omega)
  (h1:Gi n0 0 ρ (mk j).hp=true:=by rfl) (h2:eL ρ (mk j).hp=true:=by rfl) (hm:D6 ρ (mk j).sl s1.sl/\lK ρ s1.hp ρ (mk j).hp:=by simp (disch:=omega) only [go_sem,seval])
  (hc:c:=by (try simp (disch:=omega) only [go_sem,List.length_set,seval])<;>omega):c/\N s1:=⟨hc,hN _ j ρ hJ hμ (am h1 h2 hm)⟩
theorem qP {rs:List ResultVar} {n0:Nat} {res v:AV} {h':Hp} {s:S} (ρ:cW) (h:q) (hr:tP P s rs=some v:=by simp only [go_sem];rfl) (hid:F9 n0 0 ρ=true:=by rfl) (hsep:eL ρ h'=true:=by rfl) (hm:q->F4 ρ res v/\lK ρ s.hp ρ h':=by first|(intro h;simp (disch:=omega) only [go_sem,seval];exact h)|(intro (h:True);simp (disch:=omega) only [go_sem,seval]))
  (hc:c:=by (try simp (disch:=omega) only [go_sem,List.length_set,seval])<;>omega):gD P E (zM P rs n0 res h') (.fin s c):=ai ρ hc v hr hid hsep (hm h)
theorem Ro {rs:List ResultVar} {n0:Nat} {res v:AV} {h':Hp} {s:S} (ρ:cW) (h:q) (hr:tP P s rs=some v:=by simp only [go_sem];rfl) (hid:Gi n0 0 ρ h'=true:=by rfl) (hsep:eL ρ h'=true:=by rfl) (hm:q->F4 ρ res v/\lK ρ s.hp ρ h':=by first|(intro h;simp (disch:=omega) only [go_sem,seval];exact h)|(intro (h:True);simp (disch:=omega) only [go_sem,seval]))
  (hc:c:=by (try simp (disch:=omega) only [go_sem,List.length_set,seval])<;>omega):gD P E (Ho P rs n0 res h') (.fin s c):=aH ρ hc v hr hid hsep (hm h)
theorem Bo {ι:Type} {N:S->Prop} {n0:Nat} {s1:S} {A B:ι->Prop} {mk:ι->S} (hN:∀ (s':S) (j:ι) (ρ:cW),A j->B j->lL ρ n0 (mk j) s'->N s') (j:ι) (ρ:cW) (hJ:A j) (h:q) (hμ:B j:=by (try dsimp only);omega)
  (h1:F9 n0 0 ρ=true:=by rfl) (h2:eL ρ (mk j).hp=true:=by rfl) (hm:q->D6 ρ (mk j).sl s1.sl/\lK ρ s1.hp ρ (mk j).hp:=by first|(intro h;simp (disch:=omega) only [go_sem,seval];exact h)|(intro (h:True);simp (disch:=omega) only [go_sem,seval]))
  (hc:c:=by (try simp (disch:=omega) only [go_sem,List.length_set,seval])<;>omega):c/\N s1:=⟨hc,hN _ j ρ hJ hμ (ay h1 h2 (hm h))⟩
theorem O2 {ι:Type} {N:S->Prop} {n0:Nat} {s1:S} {A B:ι->Prop} {mk:ι->S} (hN:∀ (s':S) (j:ι) (ρ:cW),A j->B j->i_ ρ n0 (mk j) s'->N s') (j:ι) (ρ:cW) (hJ:A j) (h:q) (hμ:B j:=by (try dsimp only);omega)
  (h1:Gi n0 0 ρ (mk j).hp=true:=by rfl) (h2:eL ρ (mk j).hp=true:=by rfl) (hm:q->D6 ρ (mk j).sl s1.sl/\lK ρ s1.hp ρ (mk j).hp:=by first|(intro h;simp (disch:=omega) only [go_sem,seval];exact h)|(intro (h:True);simp (disch:=omega) only [go_sem,seval]))
  (hc:c:=by (try simp (disch:=omega) only [go_sem,List.length_set,seval])<;>omega):c/\N s1:=⟨hc,hN _ j ρ hJ hμ (am h1 h2 (hm h))⟩
theorem kw {b:Code} {k:List fI} {s:S} {ι:Type} (n0:Nat) (hE:E.h.length=n0) (mk:S->ι->S) (J:ι->Prop) (μ:ι->Nat) (i0:ι) (ρ0:cW) (hJ:J i0)
  (H:∀ i,J i->∀ N:S->Prop,(∀ (s':S) (j:ι) (ρ:cW),J j->μ j < μ i->lL ρ n0 (mk s j) s'->N s')->gD P E F (.go (.code b::.hook N::k) (mk s i) True))
  (h1:F9 n0 0 ρ0=true:=by rfl) (h2:eL ρ0 (mk s i0).hp=true:=by rfl) (hm:D6 ρ0 (mk s i0).sl s.sl/\lK ρ0 s.hp ρ0 (mk s i0).hp:=by try simp (disch:=omega) only [go_sem,seval]) (hc:c:=by (try simp (disch:=omega) only [go_sem,List.length_set,seval])<;>omega):gD P E F (.lp b k s c):=ee n0 hE mk J μ i0 ρ0 hc hJ (ay h1 h2 hm) H
theorem Eh {b:Code} {k:List fI} {s:S} {ι:Type} (n0:Nat) (hE:E.h.length=n0) (mk:S->ι->S) (J:ι->Prop) (μ:ι->Nat) (i0:ι) (ρ0:cW) (hJ:J i0)
  (H:∀ i,J i->∀ N:S->Prop,(∀ (s':S) (j:ι) (ρ:cW),J j->μ j < μ i->i_ ρ n0 (mk s j) s'->N s')->gD P E F (.go (.code b::.hook N::k) (mk s i) True))
  (h1:Gi n0 0 ρ0 (mk s i0).hp=true:=by rfl) (h2:eL ρ0 (mk s i0).hp=true:=by rfl) (hm:D6 ρ0 (mk s i0).sl s.sl/\lK ρ0 s.hp ρ0 (mk s i0).hp:=by try simp (disch:=omega) only [go_sem,seval]) (hc:c:=by (try simp (disch:=omega) only [go_sem,List.length_set,seval])<;>omega):gD P E F (.lp b k s c):=jY n0 hE mk J μ i0 ρ0 hc hJ (am h1 h2 hm) H
theorem qZ {n0:Nat} {t s1:S} (ρ:cW) (h1:Gi n0 0 ρ t.hp=true:=by rfl) (h2:eL ρ t.hp=true:=by rfl) (hm:D6 ρ t.sl s1.sl/\lK ρ s1.hp ρ t.hp:=by try simp (disch:=omega) only [go_sem,seval])
  (hc:c:=by (try simp (disch:=omega) only [go_sem,List.length_set,seval])<;>omega):c/\∃ ρ,i_ ρ n0 t s1:=⟨hc,ρ,am h1 h2 hm⟩
end
end
section
def zI:Nat->List Sc->List Sc
 |0,l=>l
 |n+1,l=>.int .i64 0::zI n l
def zN:Nat->List Sc->List Sc
 |0,l=>l
 |n+1,l=>.nil::zN n l
attribute [go_sem] zI zN
theorem QH:aS Tryz.prog 2=some none/\fH Tryz.prog 2=some 1/\tz Tryz.prog 2=some [.int .i64 0]/\aS Tryz.prog 3=some none/\fH Tryz.prog 3=some 1/\tz Tryz.prog 3=some [.int .i64 0]/\aS Tryz.prog 4=some none/\fH Tryz.prog 4=some 1/\tz Tryz.prog 4=some [.bo false]/\uv Tryz.prog 4=true/\aS Tryz.prog 5=some none/\fH Tryz.prog 5=some 1/\tz Tryz.prog 5=some [.int .u8 0]/\aS Tryz.prog 9=some none/\fH Tryz.prog 9=some 1/\tz Tryz.prog 9=some [.st []]/\DT Tryz.prog 9=true/\aS Tryz.prog 12=some none/\fH Tryz.prog 12=some 1/\tz Tryz.prog 12=some [.int .u64 0]/\aS Tryz.prog 21=some none/\fH Tryz.prog 21=some 1/\tz Tryz.prog 21=some [.int .i32 0]/\aS Tryz.prog 22=some none:=by and_intros<;>kernel_rfl
theorem QI:fH Tryz.prog 22=some 1/\tz Tryz.prog 22=some [.nil]/\uw Tryz.prog 22=some (5,1)/\aS Tryz.prog 24=some (some 2)/\fH Tryz.prog 24=some 2/\tz Tryz.prog 24=some [.int .i64 0,.int .i64 0]/\dS Tryz.prog 24=2/\cX Tryz.prog 24=true/\cf Tryz.prog 24=some [.int .i64 0,.int .i64 0]/\au Tryz.prog 24 0=some (0,1)/\au Tryz.prog 24 1=some (1,1)/\aS Tryz.prog 25=some (some 2)/\fH Tryz.prog 25=some 2/\tz Tryz.prog 25=some [.int .i64 0,.int .i64 0]/\dS Tryz.prog 25=2/\cX Tryz.prog 25=true/\cf Tryz.prog 25=some [.int .i64 0,.int .i64 0]/\au Tryz.prog 25 0=some (0,1)/\au Tryz.prog 25 1=some (1,1)/\aS Tryz.prog 26=some none/\fH Tryz.prog 26=some 1/\tz Tryz.prog 26=some [.nil]/\uw Tryz.prog 26=some (38,28)/\aS Tryz.prog 31=some (some 4):=by and_intros<;>kernel_rfl
theorem QJ:fH Tryz.prog 31=some 4/\tz Tryz.prog 31=some (zI 2 (.bo false::.bo false::[]))/\dS Tryz.prog 31=4/\cX Tryz.prog 31=true/\cf Tryz.prog 31=some (zI 2 (.bo false::.bo false::[]))/\au Tryz.prog 31 0=some (0,1)/\au Tryz.prog 31 1=some (1,1)/\au Tryz.prog 31 2=some (2,1)/\au Tryz.prog 31 3=some (3,1)/\aS Tryz.prog 32=some (some 4)/\fH Tryz.prog 32=some 4/\tz Tryz.prog 32=some (zI 2 (.bo false::.bo false::[]))/\dS Tryz.prog 32=4/\cX Tryz.prog 32=true/\cf Tryz.prog 32=some (zI 2 (.bo false::.bo false::[]))/\au Tryz.prog 32 0=some (0,1)/\au Tryz.prog 32 1=some (1,1)/\au Tryz.prog 32 2=some (2,1)/\au Tryz.prog 32 3=some (3,1)/\aS Tryz.prog 33=some (some 5)/\fH Tryz.prog 33=some 5/\tz Tryz.prog 33=some (zI 5 [])/\dS Tryz.prog 33=5/\cX Tryz.prog 33=true:=by and_intros<;>kernel_rfl
theorem QK:cf Tryz.prog 33=some (zI 5 [])/\au Tryz.prog 33 0=some (0,1)/\au Tryz.prog 33 1=some (1,1)/\au Tryz.prog 33 2=some (2,1)/\au Tryz.prog 33 3=some (3,1)/\au Tryz.prog 33 4=some (4,1)/\aS Tryz.prog 34=some (some 5)/\fH Tryz.prog 34=some 5/\tz Tryz.prog 34=some (zI 5 [])/\dS Tryz.prog 34=5/\cX Tryz.prog 34=true/\cf Tryz.prog 34=some (zI 5 [])/\au Tryz.prog 34 0=some (0,1)/\au Tryz.prog 34 1=some (1,1)/\au Tryz.prog 34 2=some (2,1)/\au Tryz.prog 34 3=some (3,1)/\au Tryz.prog 34 4=some (4,1)/\aS Tryz.prog 35=some (some 19)/\fH Tryz.prog 35=some 19/\tz Tryz.prog 35=some (zI 16 (.bo false::.int .i64 0::.st []::[]))/\dS Tryz.prog 35=19/\cX Tryz.prog 35=true/\cf Tryz.prog 35=some (zI 16 (.bo false::.int .i64 0::.st []::[]))/\au Tryz.prog 35 0=some (0,1):=by and_intros<;>kernel_rfl
theorem QL:au Tryz.prog 35 1=some (1,1)/\au Tryz.prog 35 2=some (2,1)/\au Tryz.prog 35 3=some (3,1)/\au Tryz.prog 35 4=some (4,1)/\au Tryz.prog 35 5=some (5,1)/\au Tryz.prog 35 6=some (6,1)/\au Tryz.prog 35 7=some (7,1)/\au Tryz.prog 35 8=some (8,1)/\au Tryz.prog 35 9=some (9,5)/\au Tryz.prog 35 10=some (14,1)/\au Tryz.prog 35 11=some (15,1)/\au Tryz.prog 35 12=some (16,1)/\au Tryz.prog 35 13=some (17,1)/\au Tryz.prog 35 14=some (18,1)/\aS Tryz.prog 36=some (some 19)/\fH Tryz.prog 36=some 19/\tz Tryz.prog 36=some (zI 16 (.bo false::.int .i64 0::.st []::[]))/\dS Tryz.prog 36=19/\cX Tryz.prog 36=true/\cf Tryz.prog 36=some (zI 16 (.bo false::.int .i64 0::.st []::[]))/\au Tryz.prog 36 0=some (0,1)/\au Tryz.prog 36 1=some (1,1)/\au Tryz.prog 36 2=some (2,1)/\au Tryz.prog 36 3=some (3,1):=by and_intros<;>kernel_rfl
theorem QM:au Tryz.prog 36 4=some (4,1)/\au Tryz.prog 36 5=some (5,1)/\au Tryz.prog 36 6=some (6,1)/\au Tryz.prog 36 7=some (7,1)/\au Tryz.prog 36 8=some (8,1)/\au Tryz.prog 36 9=some (9,5)/\au Tryz.prog 36 10=some (14,1)/\au Tryz.prog 36 11=some (15,1)/\au Tryz.prog 36 12=some (16,1)/\au Tryz.prog 36 13=some (17,1)/\au Tryz.prog 36 14=some (18,1)/\aS Tryz.prog 37=some (some 28)/\fH Tryz.prog 37=some 28/\tz Tryz.prog 37=some (zI 4 (.st []::zI 2 (.bo false::.bo false::zI 16 (.bo false::.int .i64 0::.st []::[]))))/\dS Tryz.prog 37=28/\cX Tryz.prog 37=true/\cf Tryz.prog 37=some (zI 4 (.st []::zI 2 (.bo false::.bo false::zI 16 (.bo false::.int .i64 0::.st []::[]))))/\au Tryz.prog 37 0=some (0,1)/\au Tryz.prog 37 1=some (1,1)/\au Tryz.prog 37 2=some (2,1)/\au Tryz.prog 37 3=some (3,1)/\au Tryz.prog 37 4=some (4,1)/\au Tryz.prog 37 5=some (5,4)/\au Tryz.prog 37 6=some (9,19):=by and_intros<;>kernel_rfl
theorem QN:aS Tryz.prog 38=some (some 28)/\fH Tryz.prog 38=some 28/\tz Tryz.prog 38=some (zI 4 (.st []::zI 2 (.bo false::.bo false::zI 16 (.bo false::.int .i64 0::.st []::[]))))/\dS Tryz.prog 38=28/\cX Tryz.prog 38=true/\cf Tryz.prog 38=some (zI 4 (.st []::zI 2 (.bo false::.bo false::zI 16 (.bo false::.int .i64 0::.st []::[]))))/\au Tryz.prog 38 0=some (0,1)/\au Tryz.prog 38 1=some (1,1)/\au Tryz.prog 38 2=some (2,1)/\au Tryz.prog 38 3=some (3,1)/\au Tryz.prog 38 4=some (4,1)/\au Tryz.prog 38 5=some (5,4)/\au Tryz.prog 38 6=some (9,19)/\aS Tryz.prog 39=some none/\fH Tryz.prog 39=some 1/\tz Tryz.prog 39=some [.nil]/\uw Tryz.prog 39=some (9,1)/\aS Tryz.prog 42=some none/\fH Tryz.prog 42=some 1/\tz Tryz.prog 42=some [.nil]/\uw Tryz.prog 42=some (32,4)/\aS Tryz.prog 43=some none/\fH Tryz.prog 43=some 1/\tz Tryz.prog 43=some [.nil]:=by and_intros<;>kernel_rfl
theorem QO:uw Tryz.prog 43=some (115,10)/\aS Tryz.prog 44=some none/\fH Tryz.prog 44=some 1/\tz Tryz.prog 44=some [.nil]/\uw Tryz.prog 44=some (214,8)/\aS Tryz.prog 45=some (some 3)/\fH Tryz.prog 45=some 3/\tz Tryz.prog 45=some [.int .i64 0,.int .i64 0,.int .i64 0]/\dS Tryz.prog 45=3/\cX Tryz.prog 45=true/\cf Tryz.prog 45=some [.int .i64 0,.int .i64 0,.int .i64 0]/\au Tryz.prog 45 0=some (0,1)/\au Tryz.prog 45 1=some (1,1)/\au Tryz.prog 45 2=some (2,1)/\aS Tryz.prog 46=some (some 3)/\fH Tryz.prog 46=some 3/\tz Tryz.prog 46=some [.int .i64 0,.int .i64 0,.int .i64 0]/\dS Tryz.prog 46=3/\cX Tryz.prog 46=true/\cf Tryz.prog 46=some [.int .i64 0,.int .i64 0,.int .i64 0]/\au Tryz.prog 46 0=some (0,1)/\au Tryz.prog 46 1=some (1,1)/\au Tryz.prog 46 2=some (2,1)/\aS Tryz.prog 47=some (some 4):=by and_intros<;>kernel_rfl
theorem QP:fH Tryz.prog 47=some 4/\tz Tryz.prog 47=some (.st []::zI 3 [])/\dS Tryz.prog 47=4/\cX Tryz.prog 47=true/\cf Tryz.prog 47=some (.st []::zI 3 [])/\au Tryz.prog 47 0=some (0,1)/\au Tryz.prog 47 1=some (1,1)/\au Tryz.prog 47 2=some (2,1)/\au Tryz.prog 47 3=some (3,1)/\aS Tryz.prog 48=some (some 4)/\fH Tryz.prog 48=some 4/\tz Tryz.prog 48=some (.st []::zI 3 [])/\dS Tryz.prog 48=4/\cX Tryz.prog 48=true/\cf Tryz.prog 48=some (.st []::zI 3 [])/\au Tryz.prog 48 0=some (0,1)/\au Tryz.prog 48 1=some (1,1)/\au Tryz.prog 48 2=some (2,1)/\au Tryz.prog 48 3=some (3,1)/\aS Tryz.prog 49=some none/\fH Tryz.prog 49=some 1/\tz Tryz.prog 49=some [.nil]/\uw Tryz.prog 49=some (223,2)/\aS Tryz.prog 50=some (some 3):=by and_intros<;>kernel_rfl
theorem QQ:fH Tryz.prog 50=some 3/\tz Tryz.prog 50=some [.int .i64 0,.st [],.nil]/\dS Tryz.prog 50=3/\cX Tryz.prog 50=true/\cf Tryz.prog 50=some [.int .i64 0,.st [],.nil]/\au Tryz.prog 50 0=some (0,1)/\au Tryz.prog 50 1=some (1,1)/\au Tryz.prog 50 2=some (2,1)/\aS Tryz.prog 51=some (some 3)/\fH Tryz.prog 51=some 3/\tz Tryz.prog 51=some [.int .i64 0,.st [],.nil]/\dS Tryz.prog 51=3/\cX Tryz.prog 51=true/\cf Tryz.prog 51=some [.int .i64 0,.st [],.nil]/\au Tryz.prog 51 0=some (0,1)/\au Tryz.prog 51 1=some (1,1)/\au Tryz.prog 51 2=some (2,1)/\aS Tryz.prog 52=some none/\fH Tryz.prog 52=some 1/\tz Tryz.prog 52=some [.nil]/\uw Tryz.prog 52=some (3,1)/\aS Tryz.prog 53=some (some 25)/\fH Tryz.prog 53=some 25/\tz Tryz.prog 53=some (zI 6 (zN 4 (zI 3 (.st []::zI 4 (.st []::zN 3 (zI 3 [])))))):=by and_intros<;>kernel_rfl
theorem O4:dS Tryz.prog 53=25/\cX Tryz.prog 53=true/\cf Tryz.prog 53=some (zI 6 (zN 4 (zI 3 (.st []::zI 4 (.st []::zN 3 (zI 3 []))))))/\au Tryz.prog 53 0=some (0,1)/\au Tryz.prog 53 1=some (1,1)/\au Tryz.prog 53 2=some (2,1)/\au Tryz.prog 53 3=some (3,1)/\au Tryz.prog 53 4=some (4,2)/\au Tryz.prog 53 5=some (6,1)/\au Tryz.prog 53 6=some (7,1)/\au Tryz.prog 53 7=some (8,1)/\au Tryz.prog 53 8=some (9,1)/\au Tryz.prog 53 9=some (10,3)/\au Tryz.prog 53 10=some (13,4)/\au Tryz.prog 53 11=some (17,3)/\au Tryz.prog 53 12=some (20,1)/\au Tryz.prog 53 13=some (21,1)/\au Tryz.prog 53 14=some (22,1)/\au Tryz.prog 53 15=some (23,1)/\au Tryz.prog 53 16=some (24,1)/\aS Tryz.prog 54=some (some 25)/\fH Tryz.prog 54=some 25/\tz Tryz.prog 54=some (zI 6 (zN 4 (zI 3 (.st []::zI 4 (.st []::zN 3 (zI 3 []))))))/\dS Tryz.prog 54=25:=by and_intros<;>kernel_rfl
theorem O5:cX Tryz.prog 54=true/\cf Tryz.prog 54=some (zI 6 (zN 4 (zI 3 (.st []::zI 4 (.st []::zN 3 (zI 3 []))))))/\au Tryz.prog 54 0=some (0,1)/\au Tryz.prog 54 1=some (1,1)/\au Tryz.prog 54 2=some (2,1)/\au Tryz.prog 54 3=some (3,1)/\au Tryz.prog 54 4=some (4,2)/\au Tryz.prog 54 5=some (6,1)/\au Tryz.prog 54 6=some (7,1)/\au Tryz.prog 54 7=some (8,1)/\au Tryz.prog 54 8=some (9,1)/\au Tryz.prog 54 9=some (10,3)/\au Tryz.prog 54 10=some (13,4)/\au Tryz.prog 54 11=some (17,3)/\au Tryz.prog 54 12=some (20,1)/\au Tryz.prog 54 13=some (21,1)/\au Tryz.prog 54 14=some (22,1)/\au Tryz.prog 54 15=some (23,1)/\au Tryz.prog 54 16=some (24,1)/\aS Tryz.prog 55=some none/\fH Tryz.prog 55=some 1/\tz Tryz.prog 55=some [.nil]/\uw Tryz.prog 55=some (36,19)/\aS Tryz.prog 56=some none:=by and_intros<;>kernel_rfl
theorem O6:fH Tryz.prog 56=some 1/\tz Tryz.prog 56=some [.nil]/\uw Tryz.prog 56=some (34,5)/\aS Tryz.prog 57=some (some 2)/\fH Tryz.prog 57=some 2/\tz Tryz.prog 57=some [.nil,.nil]/\dS Tryz.prog 57=2/\cX Tryz.prog 57=true/\cf Tryz.prog 57=some [.nil,.nil]/\au Tryz.prog 57 0=some (0,1)/\au Tryz.prog 57 1=some (1,1)/\aS Tryz.prog 58=some (some 2)/\fH Tryz.prog 58=some 2/\tz Tryz.prog 58=some [.nil,.nil]/\dS Tryz.prog 58=2/\cX Tryz.prog 58=true/\cf Tryz.prog 58=some [.nil,.nil]/\au Tryz.prog 58 0=some (0,1)/\au Tryz.prog 58 1=some (1,1)/\aS Tryz.prog 59=some (some 61)/\fH Tryz.prog 59=some 61/\tz Tryz.prog 59=some (zI 6 (zN 4 (zI 3 (.st []::zI 4 (.st []::zN 3 (zI 9 (zN 4 (zI 3 (.st []::zI 4 (.st []::zN 3 (zI 3 (zN 2 (.st []::.st []::.st []::.st []::zN 5 [])))))))))))))/\dS Tryz.prog 59=61/\cX Tryz.prog 59=true:=by and_intros<;>kernel_rfl
theorem O7:cf Tryz.prog 59=some (zI 6 (zN 4 (zI 3 (.st []::zI 4 (.st []::zN 3 (zI 9 (zN 4 (zI 3 (.st []::zI 4 (.st []::zN 3 (zI 3 (zN 2 (.st []::.st []::.st []::.st []::zN 5 [])))))))))))))/\au Tryz.prog 59 0=some (0,25)/\au Tryz.prog 59 1=some (25,25)/\au Tryz.prog 59 2=some (50,1)/\au Tryz.prog 59 3=some (51,1)/\au Tryz.prog 59 4=some (52,1)/\au Tryz.prog 59 5=some (53,1)/\au Tryz.prog 59 6=some (54,1)/\au Tryz.prog 59 7=some (55,1)/\au Tryz.prog 59 8=some (56,2)/\au Tryz.prog 59 9=some (58,1)/\au Tryz.prog 59 10=some (59,1)/\au Tryz.prog 59 11=some (60,1)/\aS Tryz.prog 60=some (some 61)/\fH Tryz.prog 60=some 61/\tz Tryz.prog 60=some (zI 6 (zN 4 (zI 3 (.st []::zI 4 (.st []::zN 3 (zI 9 (zN 4 (zI 3 (.st []::zI 4 (.st []::zN 3 (zI 3 (zN 2 (.st []::.st []::.st []::.st []::zN 5 [])))))))))))))/\dS Tryz.prog 60=61/\cX Tryz.prog 60=true/\cf Tryz.prog 60=some (zI 6 (zN 4 (zI 3 (.st []::zI 4 (.st []::zN 3 (zI 9 (zN 4 (zI 3 (.st []::zI 4 (.st []::zN 3 (zI 3 (zN 2 (.st []::.st []::.st []::.st []::zN 5 [])))))))))))))/\au Tryz.prog 60 0=some (0,25)/\au Tryz.prog 60 1=some (25,25)/\au Tryz.prog 60 2=some (50,1)/\au Tryz.prog 60 3=some (51,1)/\au Tryz.prog 60 4=some (52,1):=by and_intros<;>kernel_rfl
theorem O8:au Tryz.prog 60 5=some (53,1)/\au Tryz.prog 60 6=some (54,1)/\au Tryz.prog 60 7=some (55,1)/\au Tryz.prog 60 8=some (56,2)/\au Tryz.prog 60 9=some (58,1)/\au Tryz.prog 60 10=some (59,1)/\au Tryz.prog 60 11=some (60,1)/\aS Tryz.prog 68=some none/\fH Tryz.prog 68=some 1/\tz Tryz.prog 68=some [.un]/\aS Tryz.prog 95=some (some 3)/\fH Tryz.prog 95=some 3/\tz Tryz.prog 95=some [.nil,.int .i64 0,.int .i64 0]/\dS Tryz.prog 95=3/\cX Tryz.prog 95=true/\cf Tryz.prog 95=some [.nil,.int .i64 0,.int .i64 0]/\au Tryz.prog 95 0=some (0,1)/\au Tryz.prog 95 1=some (1,1)/\au Tryz.prog 95 2=some (2,1)/\aS Tryz.prog 96=some (some 3)/\fH Tryz.prog 96=some 3/\tz Tryz.prog 96=some [.nil,.int .i64 0,.int .i64 0]/\dS Tryz.prog 96=3/\cX Tryz.prog 96=true:=by and_intros<;>kernel_rfl
theorem O9:cf Tryz.prog 96=some [.nil,.int .i64 0,.int .i64 0]/\au Tryz.prog 96 0=some (0,1)/\au Tryz.prog 96 1=some (1,1)/\au Tryz.prog 96 2=some (2,1)/\aS Tryz.prog 102=some none/\fH Tryz.prog 102=some 1/\tz Tryz.prog 102=some [.nil]/\uw Tryz.prog 102=some (25,2)/\aS Tryz.prog 104=some (some 13)/\fH Tryz.prog 104=some 13/\tz Tryz.prog 104=some (.st []::.st []::.st []::.st []::.st []::.st []::.st []::.st []::.st []::.st []::.st []::.st []::.st []::[])/\aS Tryz.prog 112=some (some 3)/\fH Tryz.prog 112=some 3/\tz Tryz.prog 112=some [.int .i64 0,.int .i64 0,.int .i64 0]/\dS Tryz.prog 112=3/\cX Tryz.prog 112=true/\cf Tryz.prog 112=some [.int .i64 0,.int .i64 0,.int .i64 0]/\au Tryz.prog 112 0=some (0,1)/\au Tryz.prog 112 1=some (1,1)/\au Tryz.prog 112 2=some (2,1)/\aS Tryz.prog 113=some (some 3)/\fH Tryz.prog 113=some 3/\tz Tryz.prog 113=some [.int .i64 0,.int .i64 0,.int .i64 0]/\dS Tryz.prog 113=3:=by and_intros<;>kernel_rfl
theorem O_:cX Tryz.prog 113=true/\cf Tryz.prog 113=some [.int .i64 0,.int .i64 0,.int .i64 0]/\au Tryz.prog 113 0=some (0,1)/\au Tryz.prog 113 1=some (1,1)/\au Tryz.prog 113 2=some (2,1)/\aS Tryz.prog 114=some (some 10)/\fH Tryz.prog 114=some 10/\tz Tryz.prog 114=some (zI 4 (.bo false::zI 5 []))/\dS Tryz.prog 114=10/\cX Tryz.prog 114=true/\cf Tryz.prog 114=some (zI 4 (.bo false::zI 5 []))/\au Tryz.prog 114 0=some (0,3)/\au Tryz.prog 114 1=some (3,1)/\au Tryz.prog 114 2=some (4,1)/\au Tryz.prog 114 3=some (5,1)/\au Tryz.prog 114 4=some (6,1)/\au Tryz.prog 114 5=some (7,1)/\au Tryz.prog 114 6=some (8,1)/\au Tryz.prog 114 7=some (9,1)/\aS Tryz.prog 115=some (some 10)/\fH Tryz.prog 115=some 10/\tz Tryz.prog 115=some (zI 4 (.bo false::zI 5 []))/\dS Tryz.prog 115=10/\cX Tryz.prog 115=true:=by and_intros<;>kernel_rfl
theorem Pa:cf Tryz.prog 115=some (zI 4 (.bo false::zI 5 []))/\au Tryz.prog 115 0=some (0,3)/\au Tryz.prog 115 1=some (3,1)/\au Tryz.prog 115 2=some (4,1)/\au Tryz.prog 115 3=some (5,1)/\au Tryz.prog 115 4=some (6,1)/\au Tryz.prog 115 5=some (7,1)/\au Tryz.prog 115 6=some (8,1)/\au Tryz.prog 115 7=some (9,1)/\aS Tryz.prog 141=some none/\fH Tryz.prog 141=some 1/\tz Tryz.prog 141=some [.un]/\aS Tryz.prog 158=some none/\fH Tryz.prog 158=some 1/\tz Tryz.prog 158=some [.int .u64 0]/\aS Tryz.prog 161=some none/\fH Tryz.prog 161=some 1/\tz Tryz.prog 161=some [.nil]/\uw Tryz.prog 161=some (164,1)/\aS Tryz.prog 163=some none/\fH Tryz.prog 163=some 1/\tz Tryz.prog 163=some [.un]/\aS Tryz.prog 164=some none/\fH Tryz.prog 164=some 1:=by and_intros<;>kernel_rfl
theorem Pb:tz Tryz.prog 164=some [.un]/\aS Tryz.prog 174=some none/\fH Tryz.prog 174=some 1/\tz Tryz.prog 174=some [.un]/\aS Tryz.prog 187=some none/\fH Tryz.prog 187=some 1/\tz Tryz.prog 187=some [.un]/\aS Tryz.prog 189=some none/\fH Tryz.prog 189=some 1/\tz Tryz.prog 189=some [.nil]/\uw Tryz.prog 189=some (113,3)/\aS Tryz.prog 213=some (some 8)/\fH Tryz.prog 213=some 8/\tz Tryz.prog 213=some (zI 8 [])/\dS Tryz.prog 213=8/\cX Tryz.prog 213=true/\cf Tryz.prog 213=some (zI 8 [])/\au Tryz.prog 213 0=some (0,3)/\au Tryz.prog 213 1=some (3,1)/\au Tryz.prog 213 2=some (4,1)/\au Tryz.prog 213 3=some (5,1)/\au Tryz.prog 213 4=some (6,1)/\au Tryz.prog 213 5=some (7,1)/\aS Tryz.prog 214=some (some 8):=by and_intros<;>kernel_rfl
theorem Pc:fH Tryz.prog 214=some 8/\tz Tryz.prog 214=some (zI 8 [])/\dS Tryz.prog 214=8/\cX Tryz.prog 214=true/\cf Tryz.prog 214=some (zI 8 [])/\au Tryz.prog 214 0=some (0,3)/\au Tryz.prog 214 1=some (3,1)/\au Tryz.prog 214 2=some (4,1)/\au Tryz.prog 214 3=some (5,1)/\au Tryz.prog 214 4=some (6,1)/\au Tryz.prog 214 5=some (7,1)/\aS Tryz.prog 222=some (some 2)/\fH Tryz.prog 222=some 2/\tz Tryz.prog 222=some [.int .i64 0,.st []]/\dS Tryz.prog 222=2/\cX Tryz.prog 222=true/\cf Tryz.prog 222=some [.int .i64 0,.st []]/\au Tryz.prog 222 0=some (0,1)/\au Tryz.prog 222 1=some (1,1)/\aS Tryz.prog 223=some (some 2)/\fH Tryz.prog 223=some 2/\tz Tryz.prog 223=some [.int .i64 0,.st []]/\dS Tryz.prog 223=2/\cX Tryz.prog 223=true:=by and_intros<;>kernel_rfl
theorem Pd:cf Tryz.prog 223=some [.int .i64 0,.st []]/\au Tryz.prog 223 0=some (0,1)/\au Tryz.prog 223 1=some (1,1)/\aS Tryz.prog 241=some (some 4)/\fH Tryz.prog 241=some 4/\tz Tryz.prog 241=some (.un::.un::.un::.st []::[])/\dS Tryz.prog 241=4/\cX Tryz.prog 241=true/\cf Tryz.prog 241=some (.un::.un::.un::.st []::[])/\au Tryz.prog 241 0=some (0,1)/\au Tryz.prog 241 1=some (1,1)/\au Tryz.prog 241 2=some (2,1)/\au Tryz.prog 241 3=some (3,1)/\aS Tryz.prog 243=some (some 0)/\fH Tryz.prog 243=some 0/\aS Tryz.prog 244=some (some 0)/\fH Tryz.prog 244=some 0/\dS Tryz.prog 244=0/\cX Tryz.prog 244=true/\aS Tryz.prog 247=some none/\fH Tryz.prog 247=some 1/\tz Tryz.prog 247=some [.int .u32 0]/\aS Tryz.prog 251=some none/\fH Tryz.prog 251=some 1:=by and_intros<;>kernel_rfl
theorem Pe:tz Tryz.prog 251=some [.un]/\aS Tryz.prog 254=some (some 11)/\fH Tryz.prog 254=some 11/\dS Tryz.prog 254=11/\cX Tryz.prog 254=true/\au Tryz.prog 254 0=some (0,1)/\au Tryz.prog 254 1=some (1,1)/\au Tryz.prog 254 2=some (2,1)/\au Tryz.prog 254 3=some (3,1)/\au Tryz.prog 254 4=some (4,1)/\au Tryz.prog 254 5=some (5,1)/\au Tryz.prog 254 6=some (6,1)/\au Tryz.prog 254 8=some (8,1)/\au Tryz.prog 254 9=some (9,1)/\au Tryz.prog 254 10=some (10,1)/\G9 Tryz.prog 3 5=some (.int .u8)/\G9 Tryz.prog 5 3=some (.int .i64)/\G9 Tryz.prog 22 9=some .b2s:=by and_intros<;>kernel_rfl
attribute [go_sem] QH QI QJ QK QL QM QN QO QP QQ O4 O5 O6 O7 O8 O9 O_ Pa Pb Pc Pd Pe
abbrev aP:= @gB Tryz.prog
def nH:Nat->Hp
  |0=>[]
  |n+1=>none::nH n
attribute [go_sem] nH
end
section
open Go.RowKit
def NR (g:Nat) (tab:List (List UInt8)) (β:Be) (h:Hp) (w:World):Prop:=
 g < w.heap.size/\(∀ (j:Nat) (l:List UInt8),tab[j]? =some l->w.cell? ⟨g,j,none⟩=some (.string ⟨l.toArray⟩))/\¬ Own β h g
def GE (g:Nat) (tab:List (List UInt8)) (E:Entry):Prop:=NR g tab E.β E.h E.w
section
variable {P:Program} {g:Nat} {tab:List (List UInt8)}
theorem NR.step {β β':Be} {h h':Hp} {w w':World} (hg:NR g tab β h w) (hl:β.length=h.length) (hs:StepR β β' h h' w w'):NR g tab β' h' w':=by
 have e:=hs.block g hg.1 hg.2.2
 refine⟨Nat.lt_of_lt_of_le hg.1 hs.size,fun j l hj=>?_,fun ho=>?_⟩
 ·have:=hg.2.1 j l hj
  simp only [World.cell?] at this⊢
  rw [e]
  exact this
 rcases hs.own hl ho with h|h
 ·exact hg.2.2 h
 exact absurd hg.1 zO
theorem GE.sim {E:Entry} {β:Be} {s:S} {a:Act} {w:World} (hG:GE g tab E) (hs:Sim E β s a w):NR g tab β s.hp w:=NR.step hG hs.ent hs.st
def mY (P:Program) (g:Nat) (tab:List (List UInt8)) (f:FuncId) (args:List AV) (h:Hp) (res:AV) (h':Hp):Prop:=
 zA P f/\∀ β w vs,NR g tab β h w->HSim β h w->L2 (f9 β) args vs->Calls P f vs.toArray w fun e w'=>∃ β' v,e=.returned v/\f9 β' res v/\HSim β' h' w'/\StepR β β' h h' w w'
theorem q_ {f:FuncId} {fn:Func} {c:Code} (hf:P.funcs[f]? =some fn) (hname:(fn.name == "runtime.NumGoroutine")=false) (hb:fn.body=some c) {args:List AV} {h h':Hp} {res:AV}
  (H:∀ E:Entry,GE g tab E->E.h.length=h.length->gD P E (zM P fn.results.toList h.length res h') (.go [.code c] ⟨nT fn.ntmps args,h⟩ True)):mY P g tab f args h res h':=by
 refine⟨⟨fn,hf,hname,by rw [hb];rfl⟩,fun β w vs hg hs hvs=>?_⟩
 refine calls_of_wp hf hb ?_
 let E:Entry:=⟨β,h,w⟩
 have hd:=(H E hg rfl).2
 refine hd β _ w ⟨rfl,zJ hvs,hs,hs.len,StepR.refl β h w hs.len⟩ _ fun e s' β' a' w' hK hs'=>?_
 have key:zM P fn.results.toList h.length res h' s'->a'.defers=[]/\∃ v,(results fn a'.tmps).run P w'=.ok v w'/\∃ β'' u,Ending.returned v=.returned u/\f9 β'' res u/\HSim β'' h' w'/\StepR β β'' h h' w w':=by
  intro⟨v,ρ,hr,hid,hsep,hav,hhp⟩
  obtain⟨u,hrun,hu⟩:=D8 hs'.hp hs'.sl hr
  have hw:lL ρ h.length ⟨[],h'⟩ ⟨[],s'.hp⟩:=⟨hid,hsep,trivial,hhp⟩
  have hsim:=uH (E:=E) rfl hw (β:=β') (a:=a') (w:=w') ⟨hs'.dfr,⟨fun i hi=>by simp [Slots.has] at hi,fun i x hx=>by simp [Slots.get] at hx⟩,hs'.hp,hs'.ent,hs'.st⟩
  exact⟨hs'.dfr,u,hrun,fh β' ρ,u,rfl,BB hav hu,hsim.hp,hsim.st⟩
 cases e with
 |normal=>exact key hK
 |ret=>exact key hK
 |_=>exact hK.elim
theorem mY.e {E:Entry} (hG:GE g tab E) {f:FuncId} {args0 avs:List AV} {s h0':Hp} {res0:AV} (ct:mY P g tab f args0 [] res0 h0') (hm:rp [] args0 avs):F1 P E f avs s (lM [] s.length res0) (eG [] [] h0' s):=by
 refine⟨ct.1,fun β w vs hl hst hs hvs=>?_⟩
 have hg:=NR.step hG hl hst
 exact BF [] hm (show lK [] s [] [] from trivial) rfl (fun vs h1 h2=>ct.2 _ w vs ⟨hg.1,hg.2.1,fun⟨o,ob,p,h,_⟩=>by simp at h⟩ h1 h2) hs hvs
theorem kP {E:Entry} {F:S->Prop} {f:FuncId} {avs:List AV} {d:Option Tmp} {k:List fI} {s:S} {c:Prop} {args0:List AV} {h0':Hp} {res0:AV} (hG:GE g tab E) (hc:c) (ct:mY P g tab f args0 [] res0 h0')
  (hm:rp [] args0 avs) (hk:gD P E F (.go k (s.put d (some (lM [] s.hp.length res0)) (eG [] [] h0' s.hp)) True)):gD P E F (.call f avs d k s c):=
 ⟨hc,(ct.e hG hm).r hk.2⟩
theorem Bj {f:FuncId} {args:List AV} {h h':Hp} {res:AV} (ct:gB P f args h res h'):mY P g tab f args h res h':=⟨ct.1,fun β w vs _ hs hv=>ct.2 β w vs hs hv⟩
theorem Lw {E:Entry} {F:S->Prop} {r:Array Oper} {o o2:Oper} {l:List Oper} {k:List fI} {s:S} {c:Prop} {T t n e i d d2:Nat} {m:Int} {x:List UInt8} (hG:GE g tab E)
  (ho:o.op=.indexAddr T (.global g) (.tmp i)) (hd:o.dst=some d) (hg:o.guard=none) (ho2:o2.op=.load t (.tmp d)) (hd2:o2.dst=some d2) (hg2:o2.guard=none)
  (hT:P.underlying T=some (.array n e)) (hz:dS P e=1) (hi:(P.info? e).isSome=true) (ht:cX P t=false) (hk:eR P t=true)
  (hj:s.sl.get i=some (.sc (.int .i64 m))) (h0:0<=m) (h1:m < n) (hx:tab[m.toNat]? =some x) (hc:c)
  (h:gD P E F (.go (.ops r l::k) ((s.put (some d) none s.hp).put (some d2) (some (.sc (.st x))) s.hp) True)) (hhas:s.sl.has d):gD P E F (.gl r o (o2::l) k s c):=by
 refine⟨hc,?_⟩
 intro β a w hs Q hQ
 have hgo:=hG.sim hs
 have hvi:a.eval (.tmp i)=.int .i64 m:=by
  obtain⟨u,hu,hr⟩:=hs.sl.2 i _ hj
  show a.tmps.getD i undef=_
  have:a.tmps.getD i undef=u:=by simp [RB,hu]
  rw [this]
  exact hr
 have hdlt:=hs.sl.1 d hhas
 refine kV (by unfold Region.wanted;rw [hg]) ?_
 have hrun:(execOp a.eval o).run P w=.ok (.value (.pointer (some ⟨g,m.toNat,none⟩))) w:=by
  unfold execOp
  rw [ho]
  have hvg:a.eval (.global g)=.pointer (some ⟨g,0,none⟩):=rfl
  simp [hvi,hvg,Instr.indexAt,Instr.sureAddr,asIntOf,run_underlying hT,h0,h1,dw w hi,hz,Addr.add_lit]
 unfold Oper.wp
 rw [hrun]
 have hs1:=eM hs (StepR.refl β s.hp w hs.hp.len) hs.hp o.dst (.pointer (some ⟨g,m.toNat,none⟩))
 refine kV (by unfold Region.wanted;rw [hg2]) ?_
 have hvd:(a.put o.dst (.pointer (some ⟨g,m.toNat,none⟩))).eval (.tmp d)=.pointer (some ⟨g,m.toNat,none⟩):=by
  rw [hd]
  show (a.tmps.setIfInBounds d _).getD d undef=_
  simp [RB,hdlt]
 obtain⟨dd,hdd⟩:=ox hk
 have hcell:=hgo.2.1 _ _ hx
 have hrun2:(execOp (a.put o.dst (.pointer (some ⟨g,m.toNat,none⟩))).eval o2).run P w=.ok (.value (.string ⟨x.toArray⟩)) w:=by
  unfold execOp
  rw [ho2]
  simp [hvd,Instr.loadAt,Instr.sureAddr,loadVar,fj w hdd,ht,hcell]
 unfold Oper.wp
 rw [hrun2]
 have e:(s.put o.dst none s.hp).hp=s.hp:=by cases o.dst<;>rfl
 have hs2:=f8 hs1 (h':=s.hp) (by rw [e];exact StepR.refl β s.hp w hs.hp.len) hs.hp o2.dst (av:=.sc (.st x)) (v:=.string ⟨x.toArray⟩) rfl
 have hk2:uD P E r l ((s.put o.dst none s.hp).put o2.dst (some (.sc (.st x))) s.hp) (KK P E (BA F) k .normal):=by rw [hd,hd2];exact h.2
 exact hk2 β _ w hs2 Q hQ
end
theorem DD {P:Program} {g:Nat} {tab:List (List UInt8)} {f:FuncId} {args:List AV} {b:Bool} {h h':Hp} (ct:mY P g tab f args h (.sc (.bo b)) h') {β:Be} {w:World} (hno:∀ k,¬ Own β h k) (hs:HSim β h w) {vs:List Value} (hlt:g < w.heap.size)
  (hc:∀ (j:Nat) (l:List UInt8),tab[j]? =some l->w.cell? ⟨g,j,none⟩=some (.string ⟨l.toArray⟩)) (hvs:L2 (f9 β) args vs):
  Calls P f vs.toArray w fun e w'=>e=.returned (.bool b)/\Below w.heap.size w w':=
 (ct.2 β w vs ⟨hlt,hc,hno g⟩ hs hvs).mono fun e w' ⟨β',v,he,hv,hh,hst⟩=>by
  have hv':v=.bool b:=hv
  subst hv'
  exact⟨he,⟨hst.os,hst.tape,hst.output,hst.size,fun k hk=>hst.block k hk (hno k)⟩⟩
end
end Go.Proofs.YtdiiopjaebnmfaaGreatDoor
