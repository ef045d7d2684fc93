/- Lemmas of this claim. -/
import Derived.Tactics
import Derived.Below
import Derived.Laws.AppendOwn
import Derived.Laws.OwnMore
import Derived.Laws.Slices
import Derived.Laws.Small
import Derived.Laws.Strings
import Derived.KernelRfl
import Derived.Laws.MakeOwn
import Derived.Laws.BytesString
import Derived.Laws.BytesArg
import Derived.Laws.Build
import Derived.Laws.Concat
import Derived.Laws.StructEq
import Derived.Lib.ConvBytes
import Derived.Orders
import Derived.WalkKit
import Derived.ProofKit
import Derived.ShutString
import Derived.OpenShut
import Derived.ChangeOld
import Derived.Carry
import Derived.Test.YtdiiopjaebnmfaaGreatDoorChecked
import Derived.Laws.BitsLemmas
import Derived.StillTail
import Derived.Test.YtdiiopjaebnmfaaGreatDoorRows
import Derived.Test.YtdiiopjaebnmfaaGreatDoorCards
import Derived.Test.YtdiiopjaebnmfaaGreatDoorTie
import Derived.ChangeVars
import Derived.LaidMore
import Derived.Lay
import Derived.SevenTiedAt
import Derived.Stop.Joined
set_option maxHeartbeats 16000000
set_option maxRecDepth 100000
set_option linter.unusedVariables false
set_option linter.unusedSimpArgs false
namespace Go.Proofs.YtdiiopjaebnmfaaGreatDoor
open _root_.Go.Proofs.Tryz
open _root_.List renaming getD_eq_getElem?_getD->zk,getElem?_eq_some_iff->zG,getElem?_append_left->P6,getElem?_append_right->P9,getElem?_eq_getElem->P_,getElem?_eq_none->Qc,getElem?_cons_succ->Qe,all_eq_true->Qh,getElem?_cons_zero->Qi,mem_of_getElem?->Qk,getElem?_take_of_lt->Ql,getElem?_drop->Qq,getElem?_set->Qv,getElem?_map->Qx,mem_cons->Qy,mem_of_mem_take->QC,mem_of_mem_drop->QD,eq_nil_of_length_eq_zero->QH,getElem?_toArray->QJ,any_eq_true->QK,getElem?_range->QM,getD_cons_zero->QN,getD_cons_succ->QO,mem_or_eq_of_mem_set->QP,mem_append->QQ,eq_of_mem_replicate->QR,length_append->QS,mem_range->QT,cons_append->QV,length_cons->QW,length_nil->QY,mem_map->QZ,getElem?_set_ne->Q0,getElem?_replicate_of_lt->Q1,map_cons->Q4,nodup_cons->Q9,drop_eq_nil_of_le->Q_,getElem?_set_self->Ra,mem_iff_getElem?->Rb,contains_iff_mem->Rc,toList_toArray->Rd,replicate_succ->Re,map_nil->Ri,contains_cons->Rk,nodup_append->Rm,zipIdx_cons->Rn,map_toArray->Ro,mem_flatMap->Rq,foldl_cons->Rr,append_nil->Rt,nil_append->Ru,mapM_cons->Rw,take_zero->Ry,drop_zero->Rz,set_comm->RB
open _root_.Bool renaming and_eq_true->P7,or_eq_true->Qt,not_eq_true'->Qw,false_eq_true->Rj,not_false->Rv,not_true->RA,true_or->RC
open _root_.Go.Result renaming andThen_ok->P8
open _root_.Option renaming getD_some->Qa,map_some->Qr,map_eq_some_iff->Qu,isSome_iff_exists->QE,bind_eq_some_iff->Q7,bind_some->Rp,map_none->Rs
open _root_.Go.Sem renaming run_bind->Qb,run_pure->Qm
open _root_.Array renaming getD_eq_getD_getElem?->Qd,getElem?_eq_some_iff->Qg,getElem?_eq_getElem->Qp,getElem?_toList->Qz,getElem?_append_left->QA,getElem?_setIfInBounds_ne->QF,eq_empty_of_size_eq_zero->QG,all_eq_true_iff_forall_mem->QX,getElem?_setIfInBounds->Q2,mapM_eq_mapM_toList->Q5,getElem?_replicate->Q6,getElem?_map->Rg,size_append->Rl
open _root_.Nat renaming le_refl->Qf,add_mul->Qj,zero_add->Qn,mul_le_mul_right->Qo,lt_or_ge->Qs,lt_trichotomy->QB,add_zero->QI,zero_le->QL,add_assoc->QU,lt_or_gt_of_ne->Q3,add_sub_cancel_left->Q8,le_trans->Rf,mul_comm->Rh,mul_le_mul->Rx,mod_lt->RD
section
open Go.RowKit
theorem zXg {p:Prop} (h:p:=by simp only [go_sem];rfl):p:=h
theorem zXk {p:Prop} (h:p:=by kernel_rfl):p:=h
theorem zXi {α:Type _} {a b:α}:(some a=some b)=(a=b):=Option.some.injEq a b
theorem zO {p:Prop} (h:p:=by first|omega|(dsimp only;omega)):p:=h
theorem zF {p:Prop} (h:p:=by rfl):p:=h
theorem zP {p:Prop} (h:p:=by simp):p:=h
theorem zD {p:Prop} (h:p:=by decide):p:=h
theorem zS {p:Prop} (h:p:=by simp;omega):p:=h
theorem zQ:(∀ {p:Prop} [Decidable p],(decide p=true)=p)/\(∀ {p:Prop} [Decidable p],decide p=false↔ ¬p)/\(∀ {α:Type} [BEq α] [LawfulBEq α] {a b:α},(a==b)=true↔a=b)/\(∀ {α:Type} [BEq α] [LawfulBEq α] {a b:α},(a==b)=false↔a≠b)/\(∀ {α:Type} [BEq α] [LawfulBEq α] {a b:α},(a != b)=true↔a≠b)/\(∀ {α:Type} [BEq α] [LawfulBEq α] {a b:α},(a != b)=false↔a=b)/\(∀ {α:Type} (a b:α),(a≠b)=¬(a=b))/\(∀ {p:Prop} [Decidable p],¬¬p↔p)/\(∀ (a b:Bool),((a&&b)=true)=(a=true/\b=true))/\(∀ {x y:Bool},(x&&y)=false↔x=false\/y=false)/\(∀ (a b:Bool),((a||b)=true)=(a=true\/b=true))/\(∀ {x y:Bool},(x||y)=false↔x=false/\y=false)/\(∀ {n m:Nat},(n:Int)<(m:Int)↔n<m)/\(∀ {m n:Nat},(m:Int)<=(n:Int)↔m<=n)/\(∀ {a b:Bool},(!a)=b↔a= !b)/\((!true)=false)/\((!false)=true):=⟨decide_eq_true_eq,decide_eq_false_iff_not,beq_iff_eq,beq_eq_false_iff_ne,bne_iff_ne,bne_eq_false_iff_eq,ne_eq,Decidable.not_not,P7,Bool.and_eq_false_iff,Qt,Bool.or_eq_false_iff,Int.ofNat_lt,Int.ofNat_le,Bool.not_eq_eq_eq_not,RA,Rv⟩
theorem zR:(∀ (b:Bool),(b==true)=b)/\(∀ (b:Bool),(b==false)= !b)/\(∀ (b:Bool),((!b)=true)=(b=false))/\(∀ (b:Bool),((!b)=false)=(b=true)):=⟨beq_true,beq_false,Qw,Bool.not_eq_false'⟩
def L2 {α β:Type} (R:α->β->Prop):List α->List β->Prop
 |[],[]=>True
 |a::l,b::m=>R a b/\L2 R l m
 |_,_=>False
theorem L2.length {α β:Type} {R:α->β->Prop}:∀ {l:List α} {m:List β},L2 R l m->l.length=m.length
 |[],[],_=>rfl
 |_::_,_::_,h=>by simp [L2.length h.2]
 |[],_::_,h=>h.elim
 |_::_,[],h=>h.elim
theorem L2.get {α β:Type} {R:α->β->Prop}:∀ {l:List α} {m:List β},L2 R l m->∀ {i:Nat} {x:α},l[i]? =some x->∃ y,m[i]? =some y/\R x y
 |[],[],_,i,x,h=>by simp at h
 |a::l,b::m,h,0,x,hx=>by simp at hx;subst hx;exact⟨b,zP,h.1⟩
 |a::l,b::m,h,i+1,x,hx=>by simp at hx;obtain⟨y,hy,hr⟩:=L2.get h.2 hx;exact⟨y,by simpa using hy,hr⟩
 |[],_::_,h,_,_,_=>h.elim
 |_::_,[],h,_,_,_=>h.elim
theorem L2.mono {α β:Type} {R S:α->β->Prop} (hrs:∀ a b,R a b->S a b):∀ {l:List α} {m:List β},L2 R l m->L2 S l m
 |[],[],_=>trivial
 |_::_,_::_,h=>⟨hrs _ _ h.1,L2.mono hrs h.2⟩
 |[],_::_,h=>h.elim
 |_::_,[],h=>h.elim
theorem L2.of_get {α β:Type} {R:α->β->Prop}:∀ {l:List α} {m:List β},l.length=m.length->(∀ (i:Nat) (x:α) (y:β),l[i]? =some x->m[i]? =some y->R x y)->L2 R l m
 |[],[],_,_=>trivial
 |a::l,b::m,hl,h=>⟨h 0 a b zP zP,L2.of_get (by simpa using hl) (fun i x y hx hy=>h (i+1) x y (by simpa using hx) (by simpa using hy))⟩
 |[],_::_,hl,_=>by simp at hl
 |_::_,[],hl,_=>by simp at hl
theorem L2.append {α β:Type} {R:α->β->Prop}:∀ {l:List α} {m:List β} {l':List α} {m':List β},L2 R l m->L2 R l' m'->L2 R (l++l') (m++m')
 |[],[],_,_,_,h=>h
 |_::_,_::_,_,_,h,h'=>⟨h.1,L2.append h.2 h'⟩
 |[],_::_,_,_,h,_=>h.elim
 |_::_,[],_,_,h,_=>h.elim
theorem L2.take {α β:Type} {R:α->β->Prop}:∀ {l:List α} {m:List β} (n:Nat),L2 R l m->L2 R (l.take n) (m.take n)
 |_,_,0,_=>by simp [L2]
 |[],[],_+1,_=>by simp [L2]
 |_::_,_::_,n+1,h=>⟨h.1,L2.take n h.2⟩
 |[],_::_,_,h=>h.elim
 |_::_,[],_,h=>h.elim
theorem L2.drop {α β:Type} {R:α->β->Prop}:∀ {l:List α} {m:List β} (n:Nat),L2 R l m->L2 R (l.drop n) (m.drop n)
 |_,_,0,h=>by simpa using h
 |[],[],_+1,_=>by simp [L2]
 |_::_,_::_,n+1,h=>by simpa using L2.drop n h.2
 |[],_::_,_,h=>h.elim
 |_::_,[],_,h=>h.elim
theorem L2.map {α β γ:Type} {R:α->β->Prop} {S:γ->β->Prop} {f:α->γ} (hf:∀ a b,R a b->S (f a) b):∀ {l:List α} {m:List β},L2 R l m->L2 S (l.map f) m
 |[],[],_=>trivial
 |_::_,_::_,h=>⟨hf _ _ h.1,L2.map hf h.2⟩
 |[],_::_,h=>h.elim
 |_::_,[],h=>h.elim
inductive Sc where
 |int (k:IntKind) (n:Int)
 |bo (b:Bool)
 |st (l:List UInt8)
 |nil
 |sl (o off len:Nat)
 |pt (o k j:Nat)
 |un
inductive Co where
 |sc (s:Sc)
 |ag (cs:List Sc)
inductive AV where
 |sc (s:Sc)
 |ag (cs:List Sc)
 |tu (l:List Co)
 |cl (f:Nat) (caps:List Sc)
def Co.av:Co->AV
 | .sc s=>.sc s
 | .ag cs=>.ag cs
def AV.cells:AV->Option (List Sc)
 | .sc s=>some [s]
 | .ag cs=>some cs
 |_=>none
structure Pl where
 blk:Nat
 base:Nat
 esz:Nat
 avail:Nat
abbrev Be:=List (Option Pl)
def eB (β:Be):Sc->Value->Prop
 | .int k n,v=>v=.int k n
 | .bo b,v=>v=.bool b
 | .st l,v=>v=.string ⟨l.toArray⟩
 | .nil,v=>∃ a,v=.slice a 0 0
 | .sl o off len,v=>∃ a cap,v=.slice a len cap/\len<=cap/\cap<=maxLen/\
   (cap=0\/∃ p,β[o]? =some (some p)/\a=some ⟨p.blk,p.base+off*p.esz,none⟩/\(off+cap)*p.esz<=p.avail)
 | .pt o k j,v=>∃ p,β[o]? =some (some p)/\v=.pointer (some ⟨p.blk,p.base+k*p.esz+j,none⟩)
 | .un,v=>∃ p,v=.pointer p
def Fx (β:Be):Co->Value->Prop
 | .sc s,v=>eB β s v
 | .ag cs,v=>∃ vs:List Value,v=.agg vs.toArray/\L2 (eB β) cs vs
def iq (β:Be):AV->Value->Prop
 | .sc s,v=>eB β s v
 | .ag cs,v=>∃ vs:List Value,v=.agg vs.toArray/\L2 (eB β) cs vs
 | .tu l,v=>∃ vs:List Value,v=.tuple vs.toArray/\L2 (Fx β) l vs
 | .cl f caps,v=>∃ vs:List Value,v=.func (.func f) #[] vs.toArray/\L2 (eB β) caps vs
def Be.le (β β':Be):Prop:=∀ (o:Nat) (p:Option Pl),β[o]? =some p->β'[o]? =some p
theorem Be.le.refl (β:Be):Be.le β β:=fun _ _ h=>h
theorem Be.le.trans {a b c:Be} (h:Be.le a b) (k:Be.le b c):Be.le a c:=fun o p hp=>k o p (h o p hp)
theorem Be.le_append (β l:Be):Be.le β (β++l):=fun o p h=>by
 have hlt:o < β.length:=(zG.1 h).1
 rw [P6 hlt];exact h
theorem eB.mono {β β':Be} (h:Be.le β β'):∀ {s:Sc} {v:Value},eB β s v->eB β' s v
 | .int ..,_,hv=>hv
 | .bo ..,_,hv=>hv
 | .st ..,_,hv=>hv
 | .nil,_,hv=>hv
 | .un,_,hv=>hv
 | .sl ..,_,⟨a,cap,hv,h1,h2,h3⟩=>⟨a,cap,hv,h1,h2,h3.imp id fun⟨p,hp,r⟩=>⟨p,h _ _ hp,r⟩⟩
 | .pt ..,_,⟨p,hp,hv⟩=>⟨p,h _ _ hp,hv⟩
theorem Fx.mono {β β':Be} (h:Be.le β β'):∀ {s:Co} {v:Value},Fx β s v->Fx β' s v
 | .sc _,_,hv=>eB.mono h hv
 | .ag _,_,⟨vs,hv,hl⟩=>⟨vs,hv,hl.mono fun _ _=>eB.mono h⟩
theorem iq.mono {β β':Be} (h:Be.le β β'):∀ {s:AV} {v:Value},iq β s v->iq β' s v
 | .sc _,_,hv=>eB.mono h hv
 | .ag _,_,⟨vs,hv,hl⟩=>⟨vs,hv,hl.mono fun _ _=>eB.mono h⟩
 | .tu _,_,⟨vs,hv,hl⟩=>⟨vs,hv,hl.mono fun _ _=>Fx.mono h⟩
 | .cl ..,_,⟨vs,hv,hl⟩=>⟨vs,hv,hl.mono fun _ _=>eB.mono h⟩
theorem Co.av_R {β:Be} {c:Co} {v:Value} (h:Fx β c v):iq β c.av v:=by cases c<;>exact h
theorem eB.one {β:Be} {s:Sc} {v:Value} (h:eB β s v):v.oneCell'=true:=by
 cases s with
 |int k n=>subst h;rfl
 |bo b=>subst h;rfl
 |st l=>subst h;rfl
 |nil=>obtain⟨a,rfl⟩:=h;rfl
 |sl o off len=>obtain⟨a,cap,rfl,_⟩:=h;rfl
 |pt o k j=>obtain⟨p,_,rfl⟩:=h;rfl
 |un=>obtain⟨p,rfl⟩:=h;rfl
theorem eB.cells {β:Be} {s:Sc} {v:Value} (h:eB β s v):v.cells= #[v]:=by
 cases s with
 |int k n=>subst h;rfl
 |bo b=>subst h;rfl
 |st l=>subst h;rfl
 |nil=>obtain⟨a,rfl⟩:=h;rfl
 |sl o off len=>obtain⟨a,cap,rfl,_⟩:=h;rfl
 |pt o k j=>obtain⟨p,_,rfl⟩:=h;rfl
 |un=>obtain⟨p,rfl⟩:=h;rfl
theorem iq.cells {β:Be} {x:AV} {cs:List Sc} {v:Value} (hc:x.cells=some cs) (h:iq β x v):∃ vs:List Value,v.cells=vs.toArray/\L2 (eB β) cs vs:=by
 cases x with
 |sc s=>
  simp only [AV.cells,zXi] at hc
  subst hc
  exact⟨[v],by rw [eB.cells h],⟨h,trivial⟩⟩
 |ag l=>
  simp only [AV.cells,zXi] at hc
  subst hc
  obtain⟨vs,rfl,hl⟩:=h
  exact⟨vs,rfl,hl⟩
 |tu l=>simp [AV.cells] at hc
 |cl f l=>simp [AV.cells] at hc
theorem L2.one {β:Be} {cs:List Sc} {vs:List Value} (h:L2 (eB β) cs vs):∀ v∈vs,v.oneCell'=true:=by
 induction cs generalizing vs with
 |nil=>cases vs with
  |nil=>simp
  |cons=>exact h.elim
 |cons s l ih=>cases vs with
  |nil=>simp
  |cons v m=>
   intro x hx
   rcases Qy.1 hx with rfl|hx
   ·exact h.1.one
   exact ih h.2 x hx
structure AObj where
 cs:List (List Sc)
 esz:Nat
 ty:TypeId
 own:Bool
 fl:Bool
def Sc.isFlat:Sc->Bool
 | .int .. | .bo _| .st _=>true
 |_=>false
def kL:List Sc->Bool
 |[]=>true
 |s::l=>s.isFlat && kL l
def FlatL (cs:List (List Sc)):Prop:=∀ c∈cs,kL c=true
abbrev Hp:=List (Option AObj)
def eN (β:Be) (arr:Array Value) (base esz:Nat) (cs:List (List Sc)):Prop:=
 ∀ k c,cs[k]? =some c->c.length=esz/\∀ j s,c[j]? =some s->∃ v,arr[base+k*esz+j]? =some v/\eB β s v
def ObR (β:Be) (w:World) (p:Option Pl) (ob:AObj):Prop:=
 match p with
 |none=>ob.cs=[]
 |some p=>p.esz=ob.esz/\∃ arr T fz,w.heap[p.blk]? =some (.cells arr T fz)/\eN β arr p.base ob.esz ob.cs/\
   (ob.own=true->T=ob.ty/\fz=(0,0)/\p.base=0/\p.avail=arr.size)
structure HSim (β:Be) (h:Hp) (w:World):Prop where
 len:β.length=h.length
 ob:∀ (o:Nat) (ob:AObj),h[o]? =some (some ob)->∃ p,β[o]? =some p/\ObR β w p ob
 flat:∀ (o:Nat) (ob:AObj),h[o]? =some (some ob)->ob.fl=true->FlatL ob.cs
 apart:∀ (o o':Nat) (ob ob':AObj) (p p':Pl),h[o]? =some (some ob)->h[o']? =some (some ob')->ob.own=true->β[o]? =some (some p)->β[o']? =some (some p')->o≠o'->p.blk≠p'.blk
theorem eN.mono {β β':Be} (h:Be.le β β') {arr:Array Value} {base esz:Nat} {cs:List (List Sc)} (hc:eN β arr base esz cs):eN β' arr base esz cs:=
 fun k c hk=>⟨(hc k c hk).1,fun j s hs=>let⟨v,hv,hr⟩:=(hc k c hk).2 j s hs;⟨v,hv,hr.mono h⟩⟩
theorem ObR.mono {β β':Be} (h:Be.le β β') {w:World} {p:Option Pl} {ob:AObj} (ho:ObR β w p ob):ObR β' w p ob:=by
 cases p with
 |none=>exact ho
 |some p=>obtain⟨h1,arr,T,fz,h2,h3,h4⟩:=ho;exact⟨h1,arr,T,fz,h2,h3.mono h,h4⟩
theorem ObR.world {β:Be} {w w':World} {p:Option Pl} {ob:AObj} (ho:ObR β w p ob) (hw:∀ q,p=some q->w'.heap[q.blk]? =w.heap[q.blk]?):ObR β w' p ob:=by
 cases p with
 |none=>exact ho
 |some p=>obtain⟨h1,arr,T,fz,h2,h3,h4⟩:=ho;exact⟨h1,arr,T,fz,(hw p rfl).trans h2,h3,h4⟩
theorem ObR.lt {β:Be} {w:World} {p:Pl} {ob:AObj} (ho:ObR β w (some p) ob):p.blk < w.heap.size:=by
 obtain⟨_,arr,T,fz,h2,_⟩:=ho
 exact (Qg.1 h2).1
theorem Fy {β:Be} {h:Hp} {w w':World} (hs:HSim β h w) (hw:∀ k,k < w.heap.size->w'.heap[k]? =w.heap[k]?):HSim β h w':=
 ⟨hs.len,fun o ob ho=>let⟨p,hp,hr⟩:=hs.ob o ob ho;⟨p,hp,hr.world fun q hq=>by subst hq;exact hw _ hr.lt⟩,hs.flat,hs.apart⟩
theorem qf {β:Be} {h:Hp} {w w':World} (hs:HSim β h w) (hw:∀ k,k < w.heap.size->w'.heap[k]? =w.heap[k]?) {ob:AObj} {p:Pl} (hp:w.heap.size<=p.blk)
  (hob:ObR (β++[some p]) w' (some p) ob) (hfl:ob.fl=true->FlatL ob.cs):HSim (β++[some p]) (h++[some ob]) w':=by
 have hs':=Fy hs hw
 have hle:=Be.le_append β [some p]
 have key:∀ {o:Nat} {x:AObj},(h++[some ob])[o]? =some (some x)->(o < h.length/\h[o]? =some (some x))\/(o=h.length/\x=ob):=by
  intro o x hx
  rcases QB o h.length with hlt|he|hgt
  ·rw [P6 hlt] at hx;exact .inl ⟨hlt,hx⟩
  ·subst he;simp at hx;exact .inr ⟨rfl,hx.symm⟩
  rw [P9 zO] at hx
  rw [Qc zS] at hx
  cases hx
 have kb:∀ {o:Nat} {q:Option Pl},o < h.length->(β++[some p])[o]? =some q->β[o]? =some q:=by
  intro o q ho hq
  rwa [P6 (by rw [hs.len];exact ho)] at hq
 have kn:(β++[some p])[h.length]? =some (some p):=by rw [<-hs.len];simp
 have lt:∀ {o:Nat} {x:AObj} {q:Pl},h[o]? =some (some x)->β[o]? =some (some q)->q.blk < w.heap.size:=by
  intro o x q hx hq
  obtain⟨p',hp',hr⟩:=hs.ob o x hx
  rw [hq] at hp'
  cases hp'
  exact hr.lt
 refine⟨by simp [hs.len],fun o x hx=>?_,fun o x hx hf=>by rcases key hx with⟨_,hx⟩|⟨_,rfl⟩;exact hs.flat o x hx hf;exact hfl hf,fun o o' x x' q q' hx hx' hown hq hq' hne=>?_⟩
 ·rcases key hx with⟨hlt,hx⟩|⟨rfl,rfl⟩
  ·obtain⟨q,hq,hr⟩:=hs'.ob o x hx
   exact⟨q,hle _ _ hq,hr.mono hle⟩
  exact⟨some p,kn,hob⟩
 rcases key hx with⟨hlt,h1⟩|⟨rfl,rfl⟩
 ·rcases key hx' with⟨hlt',h1'⟩|⟨rfl,rfl⟩
  ·exact hs.apart o o' x x' q q' h1 h1' hown (kb hlt hq) (kb hlt' hq') hne
  rw [kn] at hq'
  simp only [zXi] at hq'
  subst hq'
  have:=lt h1 (kb hlt hq)
  omega
 rw [kn] at hq
 simp only [zXi] at hq
 subst hq
 rcases key hx' with⟨hlt',h1'⟩|⟨rfl,rfl⟩
 ·have:=lt h1' (kb hlt' hq')
  omega
 exact absurd rfl hne
theorem Av {β:Be} {h:Hp} {w:World} (hs:HSim β h w) {ob:AObj} (hob:ob.cs=[]):HSim (β++[none]) (h++[some ob]) w:=by
 have hle:=Be.le_append β [none]
 have key:∀ {o:Nat} {x:AObj},(h++[some ob])[o]? =some (some x)->(o < h.length/\h[o]? =some (some x))\/(o=h.length/\x=ob):=by
  intro o x hx
  rcases QB o h.length with hlt|he|hgt
  ·rw [P6 hlt] at hx;exact .inl ⟨hlt,hx⟩
  ·subst he;simp at hx;exact .inr ⟨rfl,hx.symm⟩
  rw [P9 zO] at hx
  rw [Qc zS] at hx
  cases hx
 have kb:∀ {o:Nat} {q:Option Pl},o < h.length->(β++[none])[o]? =some q->β[o]? =some q:=by
  intro o q ho hq
  rwa [P6 (by rw [hs.len];exact ho)] at hq
 have kn:(β++[none])[h.length]? =some none:=by rw [<-hs.len];simp
 refine⟨by simp [hs.len],fun o x hx=>?_,fun o x hx hf=>(by rcases key hx with⟨_,hx⟩|⟨_,rfl⟩;exact hs.flat o x hx hf;rw [hob];intro c hc;cases hc),fun o o' x x' q q' hx hx' hown hq hq' hne=>?_⟩
 ·rcases key hx with⟨hlt,hx⟩|⟨rfl,rfl⟩
  ·obtain⟨q,hq,hr⟩:=hs.ob o x hx
   exact⟨q,hle _ _ hq,hr.mono hle⟩
  exact⟨none,kn,hob⟩
 rcases key hx with⟨hlt,h1⟩|⟨rfl,rfl⟩
 ·rcases key hx' with⟨hlt',h1'⟩|⟨rfl,rfl⟩
  ·exact hs.apart o o' x x' q q' h1 h1' hown (kb hlt hq) (kb hlt' hq') hne
  rw [kn] at hq';cases hq'
 rw [kn] at hq;cases hq
theorem H5 {β:Be} {h:Hp} {w:World} (hs:HSim β h w) (n:Nat):HSim β (h.set n none) w:=by
 have key:∀ {o:Nat} {x:AObj},(h.set n none)[o]? =some (some x)->h[o]? =some (some x):=by
  intro o x hx
  rw [Qv] at hx
  split at hx
  ·split at hx<;>cases hx
  exact hx
 exact⟨by simp [hs.len],fun o x hx=>hs.ob o x (key hx),fun o x hx=>hs.flat o x (key hx),fun o o' x x' q q' hx hx'=>hs.apart o o' x x' q q' (key hx) (key hx')⟩
abbrev Slots:=List (List (Option AV))
def Slots.get (s:Slots) (i:Nat):Option AV:=(s.getD (i / 16) []).getD (i % 16) none
def Slots.put (s:Slots) (i:Nat) (v:Option AV):Slots:=s.set (i / 16) ((s.getD (i / 16) []).set (i % 16) v)
def Slots.has (s:Slots) (i:Nat):Prop:=i % 16 < (s.getD (i / 16) []).length
theorem Slots.put_has (s:Slots) (d i:Nat) (v:Option AV):(s.put d v).has i↔s.has i:=by
 unfold Slots.has Slots.put
 simp only [zk,Qv]
 by_cases he:d / 16=i / 16
 ·rw [if_pos he]
  by_cases hl:d / 16 < s.length
  ·simp [hl,<-he]
  have:s[i / 16]? =none:=Qc zO
  simp [hl,this]
 rw [if_neg he]
theorem Slots.get_put (s:Slots) (d i:Nat) (v:Option AV):(s.put d v).get i=if i=d then (if d % 16 < (s.getD (d / 16) []).length then v else none) else s.get i:=by
 unfold Slots.get Slots.put
 simp only [zk,Qv]
 by_cases he:d / 16=i / 16
 ·rw [if_pos he]
  by_cases hl:d / 16 < s.length
  ·simp only [hl,if_true,Qa,Qv]
   by_cases hm:d % 16=i % 16
   ·have hid:i=d:=zO
    subst hid
    simp only [if_true]
    split<;>simp
   have hid:¬ i=d:=zO
   simp [hm,hid,he]
  have h1:s[i / 16]? =none:=Qc zO
  have h2:s[d / 16]? =none:=Qc zO
  simp [hl,h1,h2]
 have hid:¬ i=d:=by intro e;subst e;exact he rfl
 rw [if_neg he,if_neg hid]
def SlotsR (β:Be) (s:Slots) (t:Array Value):Prop:=
 (∀ i,s.has i->i < t.size)/\∀ i v,s.get i=some v->∃ u,t[i]? =some u/\iq β v u
theorem SlotsR.mono {β β':Be} (h:Be.le β β') {s:Slots} {t:Array Value} (hs:SlotsR β s t):SlotsR β' s t:=
 ⟨hs.1,fun i v hv=>let⟨u,hu,hr⟩:=hs.2 i v hv;⟨u,hu,hr.mono h⟩⟩
theorem SlotsR.put {β:Be} {s:Slots} {t:Array Value} (hs:SlotsR β s t) (d:Nat) {v:AV} {u:Value} (hv:iq β v u):SlotsR β (s.put d (some v)) (t.setIfInBounds d u):=by
 refine⟨fun i hi=>by rw [Slots.put_has] at hi;simpa using hs.1 i hi,fun i x hx=>?_⟩
 rw [Slots.get_put] at hx
 by_cases hid:i=d
 ·subst hid
  simp only [if_true] at hx
  split at hx
  ·rename_i hl
   cases hx
   have hlt:=hs.1 i hl
   exact⟨u,by simp [hlt],hv⟩
  cases hx
 rw [if_neg hid] at hx
 obtain⟨y,hy,hr⟩:=hs.2 i x hx
 exact⟨y,by rw [QF (Ne.symm hid)];exact hy,hr⟩
theorem SlotsR.putNone {β:Be} {s:Slots} {t:Array Value} (hs:SlotsR β s t) (d:Nat) (u:Value):SlotsR β (s.put d none) (t.setIfInBounds d u):=by
 refine⟨fun i hi=>by rw [Slots.put_has] at hi;simpa using hs.1 i hi,fun i x hx=>?_⟩
 rw [Slots.get_put] at hx
 by_cases hid:i=d
 ·subst hid
  simp only [if_true] at hx
  split at hx<;>cases hx
 rw [if_neg hid] at hx
 obtain⟨y,hy,hr⟩:=hs.2 i x hx
 exact⟨y,by rw [QF (Ne.symm hid)];exact hy,hr⟩
structure S where
 sl:Slots
 hp:Hp
def S.put (s:S) (d:Option Nat) (v:Option AV) (h:Hp):S:=
 match d with
 |some d=>⟨s.sl.put d v,h⟩
 |none=>⟨s.sl,h⟩
def Own (β:Be) (h:Hp) (k:Nat):Prop:=∃ (o:Nat) (ob:AObj) (p:Pl),h[o]? =some (some ob)/\ob.own=true/\β[o]? =some (some p)/\p.blk=k
structure StepR (β β':Be) (h h':Hp) (w w':World):Prop where
 le:Be.le β β'
 os:w'.os=w.os
 tape:w'.tape=w.tape
 output:w'.output=w.output
 size:w.heap.size<=w'.heap.size
 block:∀ k,k < w.heap.size->¬ Own β h k->w'.heap[k]? =w.heap[k]?
 len:h.length<=h'.length
 old:∀ (o:Nat) (ob':AObj),o < h.length->h'[o]? =some (some ob')->∃ ob,h[o]? =some (some ob)/\(ob'.own=true->ob.own=true)
 fresh:∀ (o:Nat) (ob:AObj) (p:Pl),h.length<=o->h'[o]? =some (some ob)->β'[o]? =some (some p)->Own β h p.blk\/w.heap.size<=p.blk
theorem StepR.own {β β':Be} {h h':Hp} {w w':World} (s:StepR β β' h h' w w') (hl:β.length=h.length) {k:Nat} (hk:Own β' h' k):Own β h k\/w.heap.size<=k:=by
 obtain⟨o,ob,p,ho,hown,hp,rfl⟩:=hk
 rcases Qs o h.length with hlt|hge
 ·obtain⟨ob0,ho0,h0⟩:=s.old o ob hlt ho
  have hb:∃ q,β[o]? =some q:=⟨β[o]' zO,P_ zO⟩
  obtain⟨q,hq⟩:=hb
  have:=s.le _ _ hq
  rw [hp] at this
  cases this
  exact .inl ⟨o,ob0,p,ho0,h0 hown,hq,rfl⟩
 exact s.fresh o ob p hge ho hp
theorem StepR.refl (β:Be) (h:Hp) (w:World) (hl:β.length=h.length):StepR β β h h w w:=
 ⟨Be.le.refl _,rfl,rfl,rfl,Qf _,fun _ _ _=>rfl,Qf _,fun o ob _ h=>⟨ob,h,id⟩,fun o ob p ho h1 _=>by
  rw [Qc ho] at h1;cases h1⟩
theorem StepR.trans {a b c:Be} {h1 h2 h3:Hp} {w1 w2 w3:World} (la:a.length=h1.length) (lb:b.length=h2.length) (s:StepR a b h1 h2 w1 w2) (t:StepR b c h2 h3 w2 w3):StepR a c h1 h3 w1 w3:=by
 refine⟨s.le.trans t.le,t.os.trans s.os,t.tape.trans s.tape,t.output.trans s.output,Rf s.size t.size,fun k hk hn=>?_,Rf s.len t.len,fun o ob hlt ho=>?_,fun o ob p hge ho hp=>?_⟩
 ·rw [t.block k (by have:=s.size;omega) (fun hown=>by rcases s.own la hown with h|h;exact hn h;omega)]
  exact s.block k hk hn
 ·obtain⟨ob2,ho2,h2⟩:=t.old o ob (by have:=s.len;omega) ho
  obtain⟨ob1,ho1,h1⟩:=s.old o ob2 hlt ho2
  exact⟨ob1,ho1,fun h=>h1 (h2 h)⟩
 rcases Qs o h2.length with hlt|hge2
 ·obtain⟨ob2,ho2,h2'⟩:=t.old o ob hlt ho
  have hq:b[o]? =some (b[o]' zO):=P_ zO
  have h4:=t.le _ _ hq
  rw [hp] at h4
  simp only [zXi] at h4
  rw [<-h4] at hq
  exact s.fresh o ob2 p hge ho2 hq
 rcases t.fresh o ob p hge2 ho hp with h|h
 ·exact s.own la h
 exact .inr (Rf s.size h)
def World.like (w w':World):Prop:=w'.os=w.os/\w'.tape=w.tape/\w'.output=w.output
theorem nI {β:Be} {h:Hp} {w w':World} (hl:β.length=h.length) (hlike:World.like w w') (hsz:w.heap.size<=w'.heap.size) (hw:∀ k,k < w.heap.size->w'.heap[k]? =w.heap[k]?) (p:Pl) (ob:AObj) (hp:w.heap.size<=p.blk):
  StepR β (β++[some p]) h (h++[some ob]) w w':=
 ⟨Be.le_append _ _,hlike.1,hlike.2.1,hlike.2.2,hsz,fun k hk _=>hw k hk,zP,fun o ob' hlt ho=>by
  rw [P6 hlt] at ho;exact⟨ob',ho,id⟩,fun o ob' q hge ho hq=>by
  have he:o=h.length:=by
   rcases QB o h.length with h1|h1|h1
   ·omega
   ·exact h1
   rw [P9 zO,Qc zS] at ho;cases ho
  subst he
  rw [<-hl] at hq
  simp at hq
  subst hq
  exact .inr hp⟩
def eM (P:Program) (t:TypeId):Nat:=((P.info? t).map (·.size)).getD 0
def NX (P:Program) (t:TypeId):Nat:=((P.info? t).map (·.bytes)).getD 0
def Sc.ofV:Value->Option Sc
 | .int k n=>some (.int k n)
 | .bool b=>some (.bo b)
 | .string s=>some (.st s.data.toList)
 | .slice none 0 0=>some .nil
 | .pointer none=>some .un
 |_=>none
def MZ:List Value->Option (List Sc)
 |[]=>some []
 |v::r=>match Sc.ofV v,MZ r with
  |some s,some l=>some (s::l)
  |_,_=>none
def GP (P:Program) (t:TypeId):Option (List Sc):=(P.info? t).bind fun i=>i.zero.bind fun v=>MZ v.cells.toList
def dm (P:Program) (t:TypeId):Bool:=
 match P.underlying t with
 |some (.struct _)|some (.array _ _)=>true
 |_=>false
def fO (P:Program) (t:TypeId):Bool:=(P.underlying t).isSome && (P.info? t).isSome
def ax (P:Program) (t:TypeId) (f:Nat):Option (Nat×Nat):=
 match P.underlying t with
 |some (.struct fs)=>match fs[f]? with
  |some x=>if eM P x.type=0 then none else some (x.offset,eM P x.type)
  |none=>none
 |_=>none
def P1 (P:Program) (t:TypeId) (f:Nat):Option Nat:=
 match P.underlying t with
 |some (.struct fs)=>match fs[f]? with
  |some x=>if fO P x.type && !dm P x.type then some x.offset else none
  |none=>none
 |_=>none
def DE (P:Program) (t:TypeId):Bool:=
 match P.underlying t with
 |some (.struct fs)=>fs.toList.all fun x=>eM P x.type != 0
 |_=>false
def Nq (P:Program) (t:TypeId):Option TypeId:=
 match P.underlying t with
 |some (.slice e)=>some e
 |_=>none
def Pn (P:Program) (t:TypeId):Option IntKind:=
 match P.underlying t with
 |some (.int k)=>some k
 |_=>none
def Fz (P:Program) (t:TypeId):Bool:=
 match P.underlying t with
 |some .string=>true
 |_=>false
def wC (P:Program) (t:TypeId):Bool:=
 match P.underlying t with
 |some .bool=>true
 |_=>false
def AV.ofV:Value->Option AV
 | .agg cs=>(MZ cs.toList).map .ag
 | .func (.func f) a b=>if a.size=0/\b.size=0 then some (.cl f []) else none
 |v=>(Sc.ofV v).map .sc
def S.ev (s:S):Operand->Option AV
 | .tmp t=>s.sl.get t
 | .const v=>AV.ofV v
 | .func f=>some (.cl f [])
 | .global _=>none
def S.obj (s:S) (o:Nat):Option AObj:=s.hp.getD o none
def Aw {α:Type}:List α->Nat->Bool
 |[],0=>true
 |_::l,n+1=>Aw l n
 |_,_=>false
theorem rq {α:Type}:∀ {l:List α} {n:Nat},Aw l n=true->l.length=n
 |[],0,_=>rfl
 |_::l,n+1,h=>by simp [rq (l:=l) (n:=n) h]
 |[],_+1,h=>by cases h
 |_::_,0,h=>by cases h
def BS {α:Type}:List α->Nat->Nat->Bool
 |_,0,0=>true
 |_::c,0,n+1=>BS c 0 n
 |_::c,j+1,n=>BS c j n
 |_,_,_=>false
theorem oR {α:Type}:∀ {c:List α} {j n:Nat},BS c j n=true->j+n<=c.length
 |c,0,0,_=>QL _
 |_::c,0,n+1,h=>by have:=oR (c:=c) (j:=0) (n:=n) h;simp;omega
 |_::c,j+1,n,h=>by have:=oR (c:=c) (j:=j) (n:=n) (by cases n<;>exact h);simp;omega
 |[],0,n+1,h=>by cases h
 |[],j+1,n,h=>by cases n<;>cases h
def over:List Sc->List Sc->List Sc
 |c,[]=>c
 |_::c,b::l=>b::over c l
 |[],_=>[]
def LI:List Sc->Nat->List Sc->List Sc
 |c,0,l=>over c l
 |a::c,j+1,l=>a::LI c j l
 |[],_,_=>[]
def Po:Nat->Nat->Bool
 |0,_=>true
 |n+1,m+1=>Po n m
 |_+1,0=>false
theorem Js:∀ {n m:Nat},Po n m=true->n<=m
 |0,_,_=>QL _
 |n+1,m+1,h=>by have:=Js (n:=n) (m:=m) h;omega
 |_+1,0,h=>by cases h
def tz (P:Program) (e:TypeId):Option (List Sc):=
 match GP P e with
 |some z=>if z.length=eM P e/\0 < eM P e/\eM P e<=65536/\NX P e<=131072/\fO P e=true then some z else none
 |none=>none
theorem nJ {P:Program} {e:TypeId} {z:List Sc} (h:tz P e=some z):GP P e=some z/\z.length=eM P e/\0 < eM P e/\eM P e<=65536/\NX P e<=131072/\fO P e=true:=by
 unfold tz at h
 split at h
 ·rename_i z' hz
  split at h
  ·rename_i hc
   simp only [zXi] at h
   subst h
   exact⟨hz,hc⟩
  cases h
 cases h
def bq (P:Program) (t:TypeId):Option (Option Nat):=
 if fO P t then (if dm P t then some (some (eM P t)) else some none) else none
def gT (P:Program) (t:TypeId):Option Nat:=if fO P t then some (eM P t) else none
def cu (P:Program) (t:TypeId):Option (List Sc):=if DE P t then tz P t else none
def wD (P:Program) (t:TypeId):Option (TypeId×Nat):=
 match Nq P t with
 |some e=>if fO P e then some (e,eM P e) else none
 |none=>none
theorem iE {P:Program} {t e:TypeId} {n:Nat} (h:wD P t=some (e,n)):Nq P t=some e/\fO P e=true/\n=eM P e:=by
 unfold wD at h
 split at h
 ·rename_i e' he
  split at h
  ·rename_i hk
   simp only [zXi,Prod.mk.injEq] at h
   obtain⟨rfl,rfl⟩:=h
   exact⟨he,hk,rfl⟩
  cases h
 cases h
inductive Cv where
 |int (k:IntKind)
 |str
 |s2b (e:TypeId)
 |b2s
def H6 (P:Program) (src dst:TypeId):Option Cv:=
 match P.underlying src,P.underlying dst with
 |some (.int _),some (.int k)=>some (.int k)
 |some .string,some .string=>some .str
 |some .string,some (.slice e)=>if Pn P e=some .u8 then some (.s2b e) else none
 |some (.slice e),some .string=>if Pn P e=some .u8 then some .b2s else none
 |_,_=>none
def DF:List (List Sc)->Bool
 |[]=>true
 |c::r=>kL c && DF r
theorem Ax:∀ {cs:List (List Sc)},DF cs=true->FlatL cs
 |[],_=>fun c hc=>by cases hc
 |c::r,h=>by
  simp only [DF,P7] at h
  intro d hd
  rcases Qy.1 hd with rfl|hd
  ·exact h.1
  exact Ax h.2 d hd
theorem mt:∀ {a b:List Sc},kL a=true->kL b=true->kL (a++b)=true
 |[],_,_,h=>h
 |s::a,b,h,k=>by
  simp only [kL,P7,QV] at h⊢
  exact⟨h.1,mt h.2 k⟩
theorem jo:∀ {a:List Sc},kL a=true↔∀ s∈a,s.isFlat=true
 |[]=>by simp [kL]
 |s::a=>by simp [kL,jo (a:=a)]
structure OpR where
 v:Option AV
 hp:Hp
 c:Prop
def lO (c:List Sc) (j:Nat) (l:List Sc):List Sc:=c.take j++(l++c.drop (j+l.length))
def Jt (P:Program) (t:TypeId) (a b:List Sc) (r:Bool):Prop:=
 ∀ (β:Be) (w:World) (x y:Operand) (vs us:List Value),L2 (eB β) a vs->L2 (eB β) b us->
  (do eqGuard .eql t x y (.agg vs.toArray) (.agg us.toArray);binOp .eql t (.agg vs.toArray) (.agg us.toArray)).run P w=.ok (.bool r) w/\
  (do eqGuard .neq t x y (.agg vs.toArray) (.agg us.toArray);binOp .neq t (.agg vs.toArray) (.agg us.toArray)).run P w=.ok (.bool (!r)) w
def H7:Sc->Sc->Bool
 | .int _ a,.int _ b=>a == b
 | .bo a,.bo b=>a == b
 | .st a,.st b=>a == b
 |_,_=>false
def cS:List Sc->List Sc->Bool
 |[],[]=>true
 |a::l,b::m=>H7 a b && cS l m
 |_,_=>false
def qg (P:Program) (t:TypeId) (a b:List Sc):Prop:=Jt P t a b (cS a b)
def H8 (op:BinOp) (k:IntKind) (a b:Int):Option (Sc×Prop):=
 match op with
 | .add=>some (.int k (k.wrap (a+b)),True)
 | .sub=>some (.int k (k.wrap (a - b)),True)
 | .mul=>some (.int k (k.wrap (a*b)),True)
 | .quo=>some (.int k (k.wrap (a.tdiv b)),b≠0)
 | .rem=>some (.int k (a.tmod b),b≠0)
 | .and=>some (.int k (k.wrap (BitVec.ofInt k.bits a &&& BitVec.ofInt k.bits b).toNat),True)
 | .or=>some (.int k (k.wrap (BitVec.ofInt k.bits a |||BitVec.ofInt k.bits b).toNat),True)
 | .xor=>some (.int k (k.wrap (BitVec.ofInt k.bits a ^^^ BitVec.ofInt k.bits b).toNat),True)
 | .eql=>some (.bo (a == b),True)
 | .neq=>some (.bo (a != b),True)
 | .lss=>some (.bo (decide (a < b)),True)
 | .leq=>some (.bo (decide (a<=b)),True)
 | .gtr=>some (.bo (decide (b < a)),True)
 | .geq=>some (.bo (decide (b<=a)),True)
 |_=>none
def kM (P:Program) (t:TypeId) (op:BinOp):Sc->Sc->Option (Sc×Prop)
 | .int k a,.int k' b=>match op with
  | .shl=>some (.int k (k.wrap (a*2 ^ (min b.toNat k.bits))),0<=b)
  | .shr=>some (.int k (a.fdiv (2 ^ (min b.toNat k.bits))),0<=b)
  |op=>if k=k' then H8 op k a b else none
 | .st a,.st b=>match op with
  | .add=>some (.st (a++b),a.length+b.length<=4611686018427387904)
  | .eql=>some (.bo (a == b),True)
  | .neq=>some (.bo (!(a == b)),True)
  |_=>none
 | .bo a,.bo b=>match op with
  | .eql=>match wC P t with
   |true=>some (.bo (a == b),True)
   |false=>none
  | .neq=>match wC P t with
   |true=>some (.bo (!(a == b)),True)
   |false=>none
  |_=>none
 |_,_=>none
def Ay (pl:Nat->Option (Nat×Nat)) (cells:List Sc):List (Nat×List Sc)->Option (List Sc)
 |[]=>some cells
 |(i,v)::rest=>match pl i with
  |none=>none
  |some (off,size)=>match Aw v size && BS cells off size with
   |true=>Ay pl (LI cells off v) rest
   |false=>none
def Az (esz:Nat) (cs:List (List Sc)):List (Nat×List Sc)->Option (List (List Sc))
 |[]=>some cs
 |(i,v)::rest=>match Aw v esz && BS cs i 1 with
  |true=>Az esz (cs.set i v) rest
  |false=>none
def S.parts (s:S):List (Nat×Operand)->Option (List (Nat×List Sc))
 |[]=>some []
 |(i,x)::rest=>match s.ev x with
  |some v=>match v.cells with
   |some cs=>match s.parts rest with
    |some l=>some ((i,cs)::l)
    |none=>none
   |none=>none
  |none=>none
def S.scals (s:S):List Operand->Option (List Sc)
 |[]=>some []
 |x::rest=>match s.ev x with
  |some (.sc c)=>match s.scals rest with
   |some l=>some (c::l)
   |none=>none
  |_=>none
def tL:List Sc->UInt8
 |[.int .u8 n]=>UInt8.ofNat n.toNat
 |_=>0
def FA (b:UInt8):List Sc:=[.int .u8 b.toNat]
def nK:List Sc->Bool
 |[.int .u8 _]=>true
 |_=>false
def kN (s:S):Option Operand->Option (Option Int)
 |none=>some none
 |some x=>match s.ev x with
  |some (.sc (.int _ n))=>some (some n)
  |_=>none
def S.new (s:S) (ob:AObj) (v:AV):OpR:=⟨some v,s.hp++[some ob],True⟩
def S.val (s:S) (v:AV):OpR:=⟨some v,s.hp,True⟩
def S.valc (s:S) (v:AV) (c:Prop):OpR:=⟨some v,s.hp,c⟩
def gx (s:S):AV->Option Int->Option Int->Option OpR
 | .sc (.st l),none,none=>some (s.val (.sc (.st l)))
 | .sc (.st l),some a,none=>some (s.valc (.sc (.st (l.drop a.toNat))) (0<=a/\a<=l.length))
 | .sc (.st l),none,some b=>some (s.valc (.sc (.st (l.take b.toNat))) (0<=b/\b<=l.length))
 | .sc (.st l),some a,some b=>some (s.valc (.sc (.st ((l.take b.toNat).drop a.toNat))) (0<=a/\a<=b/\b<=l.length))
 | .sc (.sl o off len),none,none=>some (s.val (.sc (.sl o off len)))
 | .sc (.sl o off len),some a,none=>some (s.valc (.sc (.sl o (off+a.toNat) (len - a.toNat))) (0<=a/\a<=len))
 | .sc (.sl o off len),none,some b=>some (s.valc (.sc (.sl o off b.toNat)) (0<=b/\b<=len))
 | .sc (.sl o off len),some a,some b=>some (s.valc (.sc (.sl o (off+a.toNat) (b.toNat - a.toNat))) (0<=a/\a<=b/\b<=len))
 |_,_,_=>none
def oS (P:Program) (s:S) (t:TypeId) (a x:AV):Option OpR:=
 match wD P t with
 |none=>none
 |some (e,sz)=>match tz P e with
  |none=>none
  |some _=>match a,x with
   | .sc (.sl o off len),.sc .nil=>some (s.val (.sc (.sl o off len)))
   | .sc .nil,.sc .nil=>some (s.val (.sc .nil))
   | .sc .nil,.sc (.sl o off len)=>match s.obj o with
    |some ob=>if ob.esz=sz then some ⟨some (.sc (.sl s.hp.length 0 len)),s.hp++[some ⟨(ob.cs.drop off).take len,sz,e,true,ob.fl⟩],off+len<=ob.cs.length/\len<=1073741824⟩ else none
    |none=>none
   | .sc (.sl o' off' len'),.sc (.sl o off len)=>match s.obj o',s.obj o with
    |some ob',some ob=>if ob.esz=sz/\ob'.esz=sz/\ob'.own=true/\ob'.ty=e/\off'=0/\o'≠o then
      some ⟨some (.sc (.sl s.hp.length 0 (len'+len))),s.hp.set o' none++[some ⟨ob'.cs++(ob.cs.drop off).take len,sz,e,true,ob'.fl && ob.fl⟩],ob'.cs.length=len'/\off+len<=ob.cs.length/\len'+len<=1073741824⟩ else none
    |_,_=>none
   |_,_=>none
def bX (P:Program) (s:S) (ty:TypeId):Op->Option OpR
 | .move x| .assign x=>match s.ev x with
  |some v=>some (s.val v)
  |none=>none
 | .pick c a b=>match s.ev c with
  |some (.sc (.bo true))=>match s.ev a with
   |some v=>some (s.val v)
   |none=>none
  |some (.sc (.bo false))=>match s.ev b with
   |some v=>some (s.val v)
   |none=>none
  |_=>none
 | .alloc e=>match tz P e with
  |some z=>some (s.new ⟨[z],z.length,e,true,false⟩ (.sc (.pt s.hp.length 0 0)))
  |none=>none
 | .box e x=>match s.ev x with
  |some v=>match v.cells with
   |some cs=>some (s.new ⟨[cs],cs.length,e,true,false⟩ (.sc (.pt s.hp.length 0 0)))
   |none=>none
  |none=>none
 | .build t parts=>match cu P t with
  |some z=>match s.parts parts.toList with
   |some l=>match Ay (ax P t) z l with
    |some cs=>some (s.val (.ag cs))
    |none=>none
   |none=>none
  |none=>none
 | .buildSlice t len parts=>match wD P t with
  |some (e,sz)=>match tz P e with
   |some z=>match s.parts parts.toList with
    |some l=>match Po len 256 with
     |true=>match Az sz (List.replicate len z) l with
      |some cs=>some (s.new ⟨cs,sz,e,true,DF cs⟩ (.sc (.sl s.hp.length 0 len)))
      |none=>none
     |false=>none
    |none=>none
   |none=>none
  |none=>none
 | .load t a=>match s.ev a with
  |some (.sc (.pt o k j))=>match s.obj o with
   |some ob=>match ob.cs[k]? with
    |some c=>match bq P t with
     |some (some n)=>match BS c j n with
      |true=>some (s.val (.ag ((c.drop j).take n)))
      |false=>none
     |some none=>match c[j]? with
      |some x=>some (s.val (.sc x))
      |none=>none
     |none=>none
    |none=>none
   |none=>none
  |_=>none
 | .store t a x=>match s.ev a with
  |some (.sc (.pt o k j))=>match s.obj o with
   |some ob=>match ob.cs[k]? with
    |some c=>match s.ev x with
     |some v=>match v.cells with
      |some vs=>match gT P t with
       |some n=>match Aw vs n && BS c j n && ob.own with
        |true=>some ⟨none,s.hp.set o (some { ob with cs:=ob.cs.set k (LI c j vs),fl:=ob.fl && kL vs }),True⟩
        |false=>none
       |none=>none
      |none=>none
     |none=>none
    |none=>none
   |none=>none
  |_=>none
 | .nilCheck x=>match s.ev x with
  |some (.sc (.pt o k j))=>some (s.val (.sc (.pt o k j)))
  |some (.cl f caps)=>some (s.val (.cl f caps))
  |_=>none
 | .binOp op t x y _=>match s.ev x,s.ev y with
  |some (.sc a),some (.sc b)=>match kM P t op a b with
   |some (r,c)=>some (s.valc (.sc r) c)
   |none=>none
  |some (.ag a),some (.ag b)=>match op with
   | .eql=>some (s.valc (.sc (.bo (cS a b))) (qg P t a b))
   | .neq=>some (s.valc (.sc (.bo (!cS a b))) (qg P t a b))
   |_=>none
  |_,_=>none
 | .unOp op _ x=>match s.ev x with
  |some (.sc (.bo b))=>match op with
   | .not=>some (s.val (.sc (.bo (!b))))
   |_=>none
  |some (.sc (.int k n))=>match op with
   | .neg=>some (s.val (.sc (.int k (k.wrap (0 - n)))))
   |_=>none
  |_=>none
 | .convert src dst x=>match H6 P src dst,s.ev x with
  |some (.int k'),some (.sc (.int k n))=>some (s.val (.sc (.int k' (k'.wrap n))))
  |some .str,some (.sc (.st l))=>some (s.val (.sc (.st l)))
  |some (.s2b e),some (.sc (.st l))=>some (⟨some (.sc (.sl s.hp.length 0 l.length)),s.hp++[some ⟨l.map FA,1,e,false,true⟩],l.length<=1073741824⟩)
  |some .b2s,some (.sc (.sl o off len))=>match s.obj o with
   |some ob=>if ob.esz=1 then some (s.valc (.sc (.st (((ob.cs.drop off).take len).map tL))) (off+len<=ob.cs.length/\∀ c∈ob.cs,nK c=true)) else none
   |none=>none
  |some .b2s,some (.sc .nil)=>some (s.val (.sc (.st [])))
  |_,_=>none
 | .makeSlice t l c=>match wD P t with
  |some (e,sz)=>match tz P e with
   |some z=>match s.ev l,s.ev c with
    |some (.sc (.int _ l)),some (.sc (.int _ c))=>some ⟨some (.sc (.sl s.hp.length 0 l.toNat)),s.hp++[some ⟨List.replicate l.toNat z,sz,e,true,kL z⟩],0<=l/\l<=c/\c<=1073741824⟩
    |_,_=>none
   |none=>none
  |none=>none
 | .slice t x lo hi none=>match s.ev x,kN s lo,kN s hi with
  |some v,some lo,some hi=>match v with
   | .sc (.st _)=>match Fz P t with
    |true=>gx s v lo hi
    |false=>none
   | .sc (.sl o _ _)=>match wD P t,s.obj o with
    |some (_,sz),some ob=>if ob.esz=sz then gx s v lo hi else none
    |_,_=>none
   |_=>none
  |_,_,_=>none
 | .fieldAddr t x f=>match s.ev x,ax P t f with
  |some (.sc (.pt o k j)),some (off,_)=>some (s.val (.sc (.pt o k (j+off))))
  |_,_=>none
 | .field t x f=>match s.ev x,P1 P t f with
  |some (.ag cs),some off=>match cs[off]? with
   |some c=>some (s.val (.sc c))
   |none=>none
  |_,_=>none
 | .indexAddr t x i=>match s.ev x,s.ev i,wD P t with
  |some (.sc (.sl o off len)),some (.sc (.int _ i)),some (_,sz)=>match s.obj o with
   |some ob=>if ob.esz=sz then some (s.valc (.sc (.pt o (off+i.toNat) 0)) (0<=i/\i < len)) else none
   |none=>none
  |_,_,_=>none
 | .index t x i=>match s.ev x,s.ev i with
  |some (.sc (.st l)),some (.sc (.int _ i))=>match Fz P t with
   |true=>some (s.valc (.sc (.int .u8 (l.getD i.toNat 0).toNat)) (0<=i/\i < l.length))
   |false=>none
  |_,_=>none
 | .extract x i=>match s.ev x with
  |some (.tu l)=>match l[i]? with
   |some c=>some (s.val c.av)
   |none=>none
  |_=>none
 | .makeFunc (.func f) first caps=>if first.size=0 then match s.scals caps.toList with
   |some l=>some (s.val (.cl f l))
   |none=>none else none
 | .call { callee:=.builtin .len,args,argTypes }=>match args.toList,argTypes.toList with
  |[x],[t]=>match s.ev x with
   |some (.sc (.st l))=>match Fz P t with
    |true=>some (s.val (.sc (.int .i64 l.length)))
    |false=>none
   |some (.sc (.sl _ _ len))=>match wD P t with
    |some _=>some (s.val (.sc (.int .i64 len)))
    |none=>none
   |some (.sc .nil)=>match wD P t with
    |some _=>some (s.val (.sc (.int .i64 0)))
    |none=>none
   |_=>none
  |_,_=>none
 | .call { callee:=.builtin .append,args,argTypes }=>match args.toList,argTypes.toList with
  |[x,y],[t,t']=>if t=t' then match s.ev x,s.ev y with
   |some a,some b=>oS P s t a b
   |_,_=>none else none
  |_,_=>none
 | .call { callee:=.builtin .min,args,argTypes }=>match args.toList with
  |[x,y]=>match s.ev x,s.ev y with
   |some (.sc (.int k a)),some (.sc (.int k' b))=>some (s.val (.sc (.int k (if b < a then b else a))))
   |_,_=>none
  |_=>none
 | .call { callee:=.builtin .max,args,argTypes }=>match args.toList with
  |[x,y]=>match s.ev x,s.ev y with
   |some (.sc (.int k a)),some (.sc (.int k' b))=>some (s.val (.sc (.int k (if a < b then b else a))))
   |_,_=>none
  |_=>none
 |_=>none
theorem M1 {v:Value} {s:Sc} (h:Sc.ofV v=some s) (β:Be):eB β s v:=by
 unfold Sc.ofV at h
 split at h
 all_goals first
  |(simp only [zXi] at h;subst h;first|rfl|exact⟨_,rfl⟩)
  |cases h
theorem wE (β:Be):∀ {vs:List Value} {l:List Sc},MZ vs=some l->L2 (eB β) l vs
 |[],l,h=>by simp only [MZ,zXi] at h;subst h;trivial
 |v::r,l,h=>by
  simp only [MZ] at h
  split at h
  ·rename_i s m h1 h2
   simp only [zXi] at h
   subst h
   exact⟨M1 h1 β,wE β h2⟩
  cases h
theorem LJ {v:Value} {x:AV} (h:AV.ofV v=some x) (β:Be):iq β x v:=by
 unfold AV.ofV at h
 split at h
 ·rename_i cs
  simp only [Qu] at h
  obtain⟨l,h1,rfl⟩:=h
  exact⟨cs.toList,zP,wE β h1⟩
 ·rename_i f a b
  split at h
  ·rename_i h0
   simp only [zXi] at h
   subst h
   obtain⟨ha,hb⟩:=h0
   have ha':a= #[]:=QG ha
   have hb':b= #[]:=QG hb
   subst ha';subst hb'
   exact⟨[],rfl,trivial⟩
  cases h
 simp only [Qu] at h
 obtain⟨l,h1,rfl⟩:=h
 exact M1 h1 β
theorem et {β:Be} {s:S} {a:Act} (hs:SlotsR β s.sl a.tmps) {x:Operand} {v:AV} (h:s.ev x=some v):iq β v (a.eval x):=by
 cases x with
 |tmp t=>
  obtain⟨u,hu,hr⟩:=hs.2 t v h
  have:a.eval (.tmp t)=u:=by simp [Act.eval,Qd,hu]
  rw [this];exact hr
 |const c=>exact LJ h β
 |global g=>cases h
 |func f=>
  simp only [S.ev,zXi] at h
  subst h
  exact⟨[],rfl,trivial⟩
theorem du {s:S} {o:Nat} {ob:AObj} (h:s.obj o=some ob):s.hp[o]? =some (some ob):=by
 unfold S.obj at h
 rw [zk] at h
 cases hx:s.hp[o]? with
 |none=>rw [hx] at h;cases h
 |some y=>rw [hx] at h;simp only [Qa] at h;rw [h]
theorem BT {β:Be} {s:S} {a:Act} (hs:SlotsR β s.sl a.tmps):∀ {ps:List (Nat×Operand)} {l:List (Nat×List Sc)},s.parts ps=some l->
  L2 (fun (x:Nat×List Sc) (y:Nat×Value)=>x.1=y.1/\∃ vs:List Value,y.2.cells=vs.toArray/\L2 (eB β) x.2 vs) l (ps.map fun (i,x)=>(i,a.eval x))
 |[],l,h=>by simp only [S.parts,zXi] at h;subst h;trivial
 |(i,x)::rest,l,h=>by
  simp only [S.parts] at h
  split at h
  ·rename_i v hv
   split at h
   ·rename_i cs hcs
    split at h
    ·rename_i m hm
     simp only [zXi] at h
     subst h
     exact⟨⟨rfl,iq.cells hcs (et hs hv)⟩,BT hs hm⟩
    cases h
   cases h
  cases h
theorem GQ {β:Be} {s:S} {a:Act} (hs:SlotsR β s.sl a.tmps):∀ {ps:List Operand} {l:List Sc},s.scals ps=some l->L2 (eB β) l (ps.map a.eval)
 |[],l,h=>by simp only [S.scals,zXi] at h;subst h;trivial
 |x::rest,l,h=>by
  simp only [S.scals] at h
  split at h
  ·rename_i c hc
   split at h
   ·rename_i m hm
    simp only [zXi] at h
    subst h
    exact⟨et hs hc,GQ hs hm⟩
   cases h
  cases h
theorem dY {P:Program} {t:TypeId} (w:World) (h:(P.info? t).isSome=true):(sizeOf t).run P w=.ok (eM P t) w:=by
 obtain⟨i,hi⟩:=QE.1 h
 simp [sizeOf,typeInfo,hi,eM]
theorem qh {P:Program} {t:TypeId} (h:fO P t=true):∃ d,P.underlying t=some d:=by
 unfold fO at h
 simp only [P7] at h
 exact QE.1 h.1
theorem jV {P:Program} {t:TypeId} (h:fO P t=true):(P.info? t).isSome=true:=by
 unfold fO at h
 simp only [P7] at h
 exact h.2
theorem gy {P:Program} {t:TypeId} (w:World) {d:TypeDesc} (h:P.underlying t=some d):(isAgg t).run P w=.ok (dm P t) w:=by
 simp only [isAgg,Qb,run_underlying h,P8,dm,h]
 cases d<;>rfl
theorem Ju {P:Program} {t:TypeId} (h:dm P t=true):∃ d,P.underlying t=some d:=by
 unfold dm at h
 cases hu:P.underlying t with
 |none=>rw [hu] at h;cases h
 |some d=>exact⟨d,rfl⟩
theorem ir {P:Program} {t e:TypeId} (h:Nq P t=some e):P.underlying t=some (.slice e):=by
 unfold Nq at h
 split at h
 ·rename_i e' hu;simp only [zXi] at h;subst h;exact hu
 cases h
theorem GR {P:Program} {t:TypeId} {k:IntKind} (h:Pn P t=some k):P.underlying t=some (.int k):=by
 unfold Pn at h
 split at h
 ·rename_i e' hu;simp only [zXi] at h;subst h;exact hu
 cases h
theorem rr {P:Program} {t:TypeId} (h:Fz P t=true):P.underlying t=some .string:=by
 unfold Fz at h
 split at h
 ·assumption
 cases h
theorem H9 {P:Program} {t:TypeId} (h:wC P t=true):P.underlying t=some .bool:=by
 unfold wC at h
 split at h
 ·assumption
 cases h
theorem wF {P:Program} {t:TypeId} {i:TypeInfo} (h:P.info? t=some i):eM P t=i.size:=by simp [eM,h]
theorem kO {P:Program} {t:TypeId} {z:List Sc} (h:GP P t=some z):∃ i v vs,P.info? t=some i/\i.zero=some v/\v.cells=List.toArray vs/\MZ vs=some z:=by
 unfold GP at h
 rw [Q7] at h
 obtain⟨i,hi,h⟩:=h
 rw [Q7] at h
 obtain⟨v,hv,h⟩:=h
 exact⟨i,v,v.cells.toList,hi,hv,zP,h⟩
theorem GS {P:Program} {t:TypeId} (h:0 < eM P t):(P.info? t).isSome=true:=by
 unfold eM at h
 cases hi:P.info? t with
 |none=>rw [hi] at h;simp at h
 |some i=>rfl
def ji (β:Be) (s:S) (r:OpR) (w:World) (x:Result Next):Prop:=
 ∃ β' w',StepR β β' s.hp r.hp w w'/\HSim β' r.hp w'/\((∃ v av,x=.ok (.value v) w'/\r.v=some av/\iq β' av v)\/(x=.ok .skip w'/\r.v=none))
theorem bS {β:Be} {s:S} {w:World} (hs:HSim β s.hp w) {x:Result Next} {v:Value} {av:AV} (hx:x=.ok (.value v) w) (hv:iq β av v):ji β s (s.val av) w x:=
 ⟨β,w,StepR.refl β s.hp w hs.len,hs,.inl ⟨v,av,hx,rfl,hv⟩⟩
theorem eH {β:Be} {s:S} {w:World} (hs:HSim β s.hp w) {x:Result Next} {v:Value} {av:AV} {c:Prop} (hx:x=.ok (.value v) w) (hv:iq β av v):ji β s (s.valc av c) w x:=
 ⟨β,w,StepR.refl β s.hp w hs.len,hs,.inl ⟨v,av,hx,rfl,hv⟩⟩
theorem jp {β:Be} {h:Hp} {w:World} (hs:HSim β h w) {o:Nat} {ob:AObj} (ho:h[o]? =some (some ob)) {p:Pl} (hp:β[o]? =some (some p)):
  p.esz=ob.esz/\∃ arr T fz,w.heap[p.blk]? =some (.cells arr T fz)/\eN β arr p.base ob.esz ob.cs/\(ob.own=true->T=ob.ty/\fz=(0,0)/\p.base=0/\p.avail=arr.size):=by
 obtain⟨q,hq,hr⟩:=hs.ob o ob ho
 rw [hp] at hq
 cases hq
 exact hr
theorem mu {w:World} {b off:Nat} {arr:Array Value} {T:TypeId} {fz:Nat×Nat} (h:w.heap[b]? =some (.cells arr T fz)):w.cell? ⟨b,off,none⟩=arr[off]? :=by simp [World.cell?,h]
theorem FB {β:Be} {arr:Array Value} {base esz:Nat} {cs:List (List Sc)} (hc:eN β arr base esz cs) {k:Nat} {c:List Sc} (hk:cs[k]? =some c) (j n:Nat) (hn:j+n<=c.length):
  ∃ vs:List Value,vs.length=n/\L2 (eB β) ((c.drop j).take n) vs/\∀ i v,vs[i]? =some v->arr[base+k*esz+j+i]? =some v:=by
 obtain⟨hl,hcell⟩:=hc k c hk
 refine⟨(List.range n).map fun i=>(arr[base+k*esz+j+i]?).getD undef,zP,?_,?_⟩
 ·refine L2.of_get zS fun i x y hx hy=>?_
  have hi:i < n:=by
   have:=(zG.1 hx).1
   simp at this
   omega
  rw [Ql hi,Qq] at hx
  obtain⟨v,hv,hr⟩:=hcell (j+i) x hx
  simp only [Qx,QM hi,Qr,zXi] at hy
  rw [<-QU] at hv
  rw [hv] at hy
  simp only [Qa] at hy
  subst hy
  exact hr
 intro i v hv
 have hi:i < n:=by
  have:=(zG.1 hv).1
  simpa using this
 simp only [Qx,QM hi,Qr,zXi] at hv
 have hx:c[j+i]? =some (c[j+i]' zO):=P_ zO
 obtain⟨u,hu,_⟩:=hcell (j+i) _ hx
 rw [<-QU] at hu
 rw [hu] at hv⊢
 simpa using hv
theorem Jv {β:Be} {o k j:Nat} {v:Value} (h:eB β (.pt o k j) v):∃ p,β[o]? =some (some p)/\v=.pointer (some ⟨p.blk,p.base+k*p.esz+j,none⟩):=h
theorem rt {P:Program} {β:Be} {s:S} {w:World} (hs:HSim β s.hp w) {o k j:Nat} {ob:AObj} {c:List Sc} {t:TypeId} {v:Value}
  (ho:s.obj o=some ob) (hk:ob.cs[k]? =some c) (ht:dm P t=true) (hn:j+eM P t<=c.length) (hv:eB β (.pt o k j) v):
  ∃ vs:List Value,(Instr.loadAt t v).run P w=.ok (.agg vs.toArray) w/\L2 (eB β) ((c.drop j).take (eM P t)) vs:=by
 obtain⟨p,hp,rfl⟩:=Jv hv
 obtain⟨he,arr,T,fz,hh,hc,_⟩:=jp hs (du ho) hp
 obtain⟨vs,hl,hr,hcell⟩:=FB hc hk j (eM P t) hn
 obtain⟨d,hd⟩:=Ju ht
 have hinfo:(P.info? t).isSome=true:=by
  unfold Program.underlying at hd
  cases hi:P.info? t with
  |none=>rw [hi] at hd;simp at hd
  |some i=>rfl
 refine⟨vs,?_,hr⟩
 have hld:=run_loadCells_list (P:=P) w ⟨p.blk,p.base+k*p.esz+j,none⟩ vs (fun i u hu=>by
  rw [Addr.add_lit,mu hh,he];exact hcell i u hu)
 rw [hl] at hld
 simp only [Instr.loadAt,Instr.sureAddr,loadVar,Qb,Qm,P8,gy w hd,ht,if_true,dY w hinfo,hld]
theorem ru {P:Program} {β:Be} {s:S} {w:World} (hs:HSim β s.hp w) {o k j:Nat} {ob:AObj} {c:List Sc} {x:Sc} {t:TypeId} {v:Value}
  (ho:s.obj o=some ob) (hk:ob.cs[k]? =some c) (ht:dm P t=false) (hu:fO P t=true) (hx:c[j]? =some x) (hv:eB β (.pt o k j) v):
  ∃ u,(Instr.loadAt t v).run P w=.ok u w/\eB β x u:=by
 obtain⟨p,hp,rfl⟩:=Jv hv
 obtain⟨he,arr,T,fz,hh,hc,_⟩:=jp hs (du ho) hp
 obtain⟨u,hcell,hr⟩:=(hc k c hk).2 j x hx
 obtain⟨d,hd⟩:=qh hu
 refine⟨u,?_,hr⟩
 have hl:w.cell? ⟨p.blk,p.base+k*p.esz+j,none⟩=some u:=by rw [mu hh,he];exact hcell
 simp [Instr.loadAt,Instr.sureAddr,loadVar,gy w hd,ht,hl]
theorem iF {β:Be} {cs:List (List Sc)} {esz:Nat} {arr:Array Value} (hl:∀ c∈cs,c.length=esz) (h:∀ (k j:Nat) (c:List Sc) (s:Sc),cs[k]? =some c->c[j]? =some s->∃ v,arr[k*esz+j]? =some v/\eB β s v):eN β arr 0 esz cs:=
 fun k c hk=>⟨hl c (Qk hk),fun j s hs=>by rw [Qn];exact h k j c s hk hs⟩
theorem wG {β:Be} {c:List Sc} {vs:List Value} (h:L2 (eB β) c vs):eN β vs.toArray 0 c.length [c]:=
 iF zP (fun k j c' s hk hs=>by
  have hk0:k=0:=by have:=(zG.1 hk).1;simpa using this
  subst hk0
  simp only [Qi,zXi] at hk
  subst hk
  obtain⟨v,hv,hr⟩:=h.get hs
  exact⟨v,by simpa using hv,hr⟩)
theorem FC (w:World) (o:Obj):World.like w (w.alloc o):=⟨rfl,rfl,rfl⟩
theorem AA (w:World) (o:Obj):∀ k,k < w.heap.size->(w.alloc o).heap[k]? =w.heap[k]? :=fun k hk=>(by first|exact heap_alloc_old w o k hk|exact heap_alloc_old w o hk)
theorem rv {β:Be} {s:S} {w:World} (hs:HSim β s.hp w) {arr:Array Value} {ob:AObj} {av:AV} {v:Value} {x:Result Next} {c:Prop}
  (hx:x=.ok (.value v) (w.alloc (.cells arr ob.ty))) (hc:eN β arr 0 ob.esz ob.cs) (hfl:ob.fl=true->FlatL ob.cs)
  (hv:iq (β++[some ⟨w.heap.size,0,ob.esz,arr.size⟩]) av v):ji β s ⟨some av,s.hp++[some ob],c⟩ w x:=by
 let p:Pl:=⟨w.heap.size,0,ob.esz,arr.size⟩
 have hle:=Be.le_append β [some p]
 refine⟨β++[some p],w.alloc (.cells arr ob.ty),nI hs.len (FC w _) zP (AA w _) p ob (Qf _),qf hs (AA w _) (Qf _) ?_ hfl,.inl ⟨v,av,hx,rfl,hv⟩⟩
 exact⟨rfl,arr,ob.ty,(0,0),heap_alloc_new w _,hc.mono hle,fun _=>⟨rfl,rfl,rfl,rfl⟩⟩
theorem Jw {β:Be} {s:S} {w:World} (hs:HSim β s.hp w) (esz n:Nat):eB (β++[some ⟨w.heap.size,0,esz,n⟩]) (.pt s.hp.length 0 0) (.pointer (some ⟨w.heap.size,0,none⟩)):=
 ⟨⟨w.heap.size,0,esz,n⟩,by rw [<-hs.len];simp,zP⟩
theorem Jx {β:Be} {s:S} {w:World} (hs:HSim β s.hp w) (esz n len cap:Nat) (h1:len<=cap) (h2:cap<=maxLen) (h3:cap*esz<=n):
  eB (β++[some ⟨w.heap.size,0,esz,n⟩]) (.sl s.hp.length 0 len) (.slice (some ⟨w.heap.size,0,none⟩) len cap):=
 ⟨_,cap,rfl,h1,h2,.inr ⟨⟨w.heap.size,0,esz,n⟩,by rw [<-hs.len];simp,zP,by simpa using h3⟩⟩
end
section
open Go.RowKit
section
variable {P:Program} {β:Be} {s:S} {a:Act} {w:World} {o:Oper} {r:OpR} {ty:TypeId}
theorem GT (hs:HSim β s.hp w) (hsl:SlotsR β s.sl a.tmps) (x:Operand) (ho:o.op=.move x\/o.op=.assign x) (h:bX P s ty (.move x)=some r):ji β s r w ((execOp a.eval o).run P w):=by
 simp only [bX] at h
 split at h
 ·rename_i v hv
  simp only [zXi] at h
  subst h
  refine bS hs (v:=a.eval x) ?_ (et hsl hv)
  unfold execOp
  rcases ho with ho|ho<;>rw [ho]<;>rfl
 cases h
theorem LK (hs:HSim β s.hp w) (hsl:SlotsR β s.sl a.tmps) (c x y:Operand) (ho:o.op=.pick c x y) (h:bX P s ty (.pick c x y)=some r):ji β s r w ((execOp a.eval o).run P w):=by
 simp only [bX] at h
 split at h
 ·rename_i hc
  have hb:a.eval c=.bool true:=et hsl hc
  split at h
  ·rename_i v hv
   simp only [zXi] at h
   subst h
   refine bS hs (v:=a.eval x) ?_ (et hsl hv)
   unfold execOp
   rw [ho]
   simp [hb,asBool]
  cases h
 ·rename_i hc
  have hb:a.eval c=.bool false:=et hsl hc
  split at h
  ·rename_i v hv
   simp only [zXi] at h
   subst h
   refine bS hs (v:=a.eval y) ?_ (et hsl hv)
   unfold execOp
   rw [ho]
   simp [hb,asBool]
  cases h
 cases h
theorem Jy (hs:HSim β s.hp w) (e:TypeId) (ho:o.op=.alloc e) (h:bX P s ty (.alloc e)=some r):ji β s r w ((execOp a.eval o).run P w):=by
 simp only [bX] at h
 split at h
 ·rename_i z hz
  simp only [zXi] at h
  subst h
  obtain⟨hz,hl,_⟩:=nJ hz
  obtain⟨i,v,vs,hi,hzv,hvc,hsc⟩:=kO hz
  have hr:=wE β hsc
  refine rv hs (arr:=vs.toArray) (v:=.pointer (some ⟨w.heap.size,0,none⟩)) ?_ (wG hr) (fun h=>by cases h) (Jw hs _ _)
  unfold execOp
  rw [ho]
  simp [Instr.alloc,zeroValue,typeInfo,hi,hzv,newVar,newRow,hvc]
 cases h
theorem Nr (hs:HSim β s.hp w) (hsl:SlotsR β s.sl a.tmps) (e:TypeId) (x:Operand) (ho:o.op=.box e x) (h:bX P s ty (.box e x)=some r):ji β s r w ((execOp a.eval o).run P w):=by
 simp only [bX] at h
 split at h
 ·rename_i v hv
  split at h
  ·rename_i cs hcs
   simp only [zXi] at h
   subst h
   obtain⟨vs,hvs,hr⟩:=iq.cells hcs (et hsl hv)
   refine rv hs (arr:=vs.toArray) (v:=.pointer (some ⟨w.heap.size,0,none⟩)) ?_ (wG hr) (fun h=>by cases h) (Jw hs _ _)
   unfold execOp
   rw [ho]
   simp [Instr.box,newVar,newRow,hvs]
  cases h
 cases h
theorem nL (off:Nat):∀ (vs:List Value) (n:Nat) (cells:Array Value),
  ((vs.zipIdx n).foldl (fun cs (x:Value×Nat)=>cs.setIfInBounds (off+x.2) x.1) cells).size=cells.size/\
  ∀ m,off+n+vs.length<=cells.size->((vs.zipIdx n).foldl (fun cs (x:Value×Nat)=>cs.setIfInBounds (off+x.2) x.1) cells)[m]? =if off+n<=m/\m < off+n+vs.length then vs[m - (off+n)]? else cells[m]?
 |[],n,cells=>⟨zP,fun m hm=>by
   simp only [List.zipIdx_nil,List.foldl_nil,QY,QI]
   rw [if_neg zO]⟩
 |v::vs,n,cells=>by
  obtain⟨h1,h2⟩:=nL off vs (n+1) (cells.setIfInBounds (off+n) v)
  refine⟨by simpa [Rn] using h1,fun m hm=>?_⟩
  simp only [Rn,Rr]
  rw [h2 m (by simp at hm⊢;omega)]
  by_cases he:m=off+n
  ·subst he
   rw [if_neg zO,if_pos zP]
   simp at hm
   simp [Q2]
   omega
  by_cases hin:off+(n+1)<=m/\m < off+(n+1)+vs.length
  ·rw [if_pos hin,if_pos zS]
   have:m - (off+n)=(m - (off+(n+1)))+1:=zO
   rw [this,Qe]
  rw [if_neg hin,if_neg zS]
  rw [QF (Ne.symm he)]
theorem mv (off:Nat) (vs:List Value) (cells:Array Value):
  (vs.toArray.zipIdx.foldl (fun cs (x:Value×Nat)=>cs.setIfInBounds (off+x.2) x.1) cells)=((vs.zipIdx 0).foldl (fun cs (x:Value×Nat)=>cs.setIfInBounds (off+x.2) x.1) cells):=by
 simp [<-Array.foldl_toList]
theorem wH (c:List Sc) (j:Nat) (l:List Sc) (h:j+l.length<=c.length) (m:Nat):(lO c j l)[m]? =if j<=m/\m < j+l.length then l[m - j]? else c[m]? :=by
 unfold lO
 by_cases h1:m < j
 ·rw [P6 zS,Ql h1,if_neg zO]
 rw [P9 zS]
 have hl:(c.take j).length=j:=by simp;omega
 rw [hl]
 by_cases h2:m < j+l.length
 ·rw [P6 zO,if_pos zO]
 rw [P9 zO,if_neg zO,Qq]
 congr 1
 omega
theorem pI (c:List Sc) (j:Nat) (l:List Sc) (h:j+l.length<=c.length):(lO c j l).length=c.length:=by
 unfold lO
 simp
 omega
theorem GU:∀ (c l:List Sc),l.length<=c.length->over c l=l++c.drop l.length
 |c,[],_=>by cases c<;>simp [over]
 |_::c,b::l,h=>by simp [over,GU c l (by simpa using h)]
 |[],_::_,h=>by simp at h
theorem FD:∀ (c:List Sc) (j:Nat) (l:List Sc),j+l.length<=c.length->LI c j l=lO c j l
 |c,0,l,h=>by
  have h1:LI c 0 l=over c l:=by cases c<;>rfl
  rw [h1,GU c l zO]
  simp [lO]
 |a::c,j+1,l,h=>by
  have:=FD c j l (by simp at h;omega)
  simp only [LI,this]
  unfold lO
  rw [show j+1+l.length=(j+l.length)+1 from by omega]
  simp
 |[],j+1,l,h=>by simp at h
theorem GV {P:Program} {t:TypeId} {pl:Nat->Option (Nat×Nat)}:∀ {l:List (Nat×List Sc)} {ps:List (Nat×Value)} {c c':List Sc} {arr:Array Value},
  Ay pl c l=some c'->L2 (eB β) c arr.toList->
  L2 (fun (x:Nat×List Sc) (y:Nat×Value)=>x.1=y.1/\∃ vs:List Value,y.2.cells=vs.toArray/\L2 (eB β) x.2 vs) l ps->
  ∃ arr':Array Value,Instr.fill pl arr ps=some arr'/\L2 (eB β) c' arr'.toList
 |[],[],c,c',arr,h,hc,_=>by
  simp only [Ay,zXi] at h
  subst h
  exact⟨arr,rfl,hc⟩
 |(i,v)::l,(i',u)::ps,c,c',arr,h,hc,hl=>by
  obtain⟨⟨hi,vs,hvs,hr⟩,hl⟩:=hl
  dsimp only at hi hvs hr
  subst hi
  simp only [Ay] at h
  split at h
  ·cases h
  rename_i off size hpl
  split at h
  ·rename_i hsz0
   simp only [P7] at hsz0
   have hsz:v.length=size/\off+size<=c.length:=⟨rq hsz0.1,oR hsz0.2⟩
   rw [FD c off v zO] at h
   have hlen:=hc.length
   have hvl:=hr.length
   have hbd:off+vs.length<=arr.size:=by rw [<-hvl];simp at hlen;omega
   obtain⟨h1,h2⟩:=nL off vs 0 arr
   have hnew:L2 (eB β) (lO c off v) ((vs.toArray.zipIdx.foldl (fun cs (x:Value×Nat)=>cs.setIfInBounds (off+x.2) x.1) arr)).toList:=by
    rw [mv]
    refine L2.of_get (by rw [pI c off v zO,hlen];simp only [Array.length_toList];exact h1.symm) fun m x y hx hy=>?_
    rw [wH c off v zO] at hx
    rw [Qz,h2 m (by simpa using hbd)] at hy
    simp only [QI] at hy
    by_cases hin:off<=m/\m < off+v.length
    ·rw [if_pos hin] at hx
     rw [if_pos zO] at hy
     obtain⟨y',hy',hr'⟩:=hr.get hx
     rw [hy] at hy'
     cases hy'
     exact hr'
    rw [if_neg hin] at hx
    rw [if_neg zO] at hy
    obtain⟨y',hy',hr'⟩:=hc.get hx
    rw [Qz,hy] at hy'
    cases hy'
    exact hr'
   obtain⟨arr',hf,hr'⟩:=GV (P:=P) (t:=t) h hnew hl
   refine⟨arr',?_,hr'⟩
   simp only [Instr.fill,hpl]
   rw [if_neg]
   ·rw [hvs];exact hf
   rw [hvs]
   simp
   omega
  cases h
 |[],_::_,_,_,_,_,_,hl=>hl.elim
 |_::_,[],_,_,_,_,_,hl=>hl.elim
end
end
section
open Go.RowKit
section
variable {P:Program} {β:Be} {s:S} {a:Act} {w:World} {o:Oper} {r:OpR} {ty:TypeId}
theorem DG (w:World) (fields:List Field) (hf:∀ x∈fields,eM P x.type≠0):
  (fields.mapM (fun f:Field=>(do pure (f.offset,<-sizeOf f.type):Sem (Nat×Nat)))).run P w=.ok (fields.map fun f=>(f.offset,eM P f.type)) w:=by
 induction fields with
 |nil=>rfl
 |cons f l ih=>
  have h0:=hf f zP
  have hi:(P.info? f.type).isSome=true:=GS zO
  simp only [Rw,Qb,dY w hi,P8,Qm,ih (fun x hx=>hf x (by simp [hx])),Q4]
theorem Jz (hs:HSim β s.hp w) (hsl:SlotsR β s.sl a.tmps) (t:TypeId) (parts:Array (Nat×Operand)) (ho:o.op=.build t parts) (h:bX P s ty (.build t parts)=some r):ji β s r w ((execOp a.eval o).run P w):=by
 simp only [bX] at h
 split at h
 ·rename_i z hz
  split at h
  ·rename_i l hl
   have hz0:=hz
   unfold cu at hz0
   split at hz0
   ·rename_i hall
    obtain⟨hz,hzl,_⟩:=nJ hz0
    split at h
    ·rename_i cs hcs
     simp only [zXi] at h
     subst h
     obtain⟨i,v,vs,hi,hzv,hvc,hsc⟩:=kO hz
     have hr:=wE β hsc
     unfold DE at hall
     split at hall
     ·rename_i fs hfs
      have hpl:∀ k,ax P t k=(fs.map fun f=>(f.offset,eM P f.type))[k]? :=by
       intro k
       simp only [ax,hfs,Rg]
       cases hk:fs[k]? with
       |none=>rfl
       |some f=>
        have hm:f∈fs.toList:=by
         rw [<-Qz] at hk
         exact Qk hk
        have:=Qh.1 hall f hm
        simp only [bne_iff_ne] at this
        simp [this]
      obtain⟨arr,hf,hra⟩:=GV (P:=P) (t:=t) (β:=β) (ps:=parts.toList.map fun (i,x)=>(i,a.eval x)) (arr:=vs.toArray) hcs (by simpa using hr) (BT hsl hl)
      refine bS hs (v:=.agg arr) ?_ ⟨arr.toList,zP,hra⟩
      unfold execOp
      rw [ho]
      have hm:=DG (P:=P) w fs.toList (fun x hx=>by
       have:=Qh.1 hall x hx
       simpa using this)
      have hm':(fs.mapM (fun f:Field=>(do pure (f.offset,<-sizeOf f.type):Sem (Nat×Nat)))).run P w=.ok (fs.map fun f=>(f.offset,eM P f.type)) w:=by
       rw [Q5]
       have e:∀ (m:Sem (List (Nat×Nat))),(List.toArray <$> m)=(do pure (List.toArray (<-m))):=fun m=>rfl
       rw [e,Qb,hm]
       rw [P8,Qm]
       refine congrArg (fun x=>Result.ok x w) ?_
       apply Array.ext'
       simp
      have hff:Instr.fill (fun x=>(fs.map fun f=>(f.offset,eM P f.type))[x]?) vs.toArray (parts.toList.map fun (i,x)=>(i,a.eval x))=some arr:=by
       have e:(fun x=>(fs.map fun f=>(f.offset,eM P f.type))[x]?)=ax P t:=funext fun k=>(hpl k).symm
       rw [e];exact hf
      have hpt:(parts.map fun (i,x)=>(i,a.eval x)).toList=parts.toList.map fun (i,x)=>(i,a.eval x):=by simp
      simp only [Instr.build,Qb,zeroValue,typeInfo,run_program,P8,hi,hzv,Qm,run_underlying hfs,hm',hpt]
      rw [hvc,hff]
      rfl
     cases hall
    cases h
   cases hz0
  cases h
 cases h
theorem AB (z:Array Value) (len k j:Nat) (hk:k < len) (hj:j < z.size):((Array.range (len*z.size)).map (z[· % z.size]!))[k*z.size+j]? =z[j]? :=by
 have hlt:k*z.size+j < len*z.size:=by
  have:(k+1)*z.size<=len*z.size:=Qo _ hk
  rw [Qj] at this
  omega
 rw [Rg,Array.getElem?_range,if_pos hlt]
 simp only [Qr]
 rw [show (k*z.size+j) % z.size=j from by rw [Rh,Nat.mul_add_mod,Nat.mod_eq_of_lt hj]]
 simp [hj]
theorem GW {esz:Nat} (hpos:0 < esz) (len:Nat):∀ {l:List (Nat×List Sc)} {ps:List (Nat×Value)} {cs cs':List (List Sc)} {arr:Array Value},
  Az esz cs l=some cs'->cs.length=len->arr.size=len*esz->eN β arr 0 esz cs->
  L2 (fun (x:Nat×List Sc) (y:Nat×Value)=>x.1=y.1/\∃ vs:List Value,y.2.cells=vs.toArray/\L2 (eB β) x.2 vs) l ps->
  ∃ arr':Array Value,Instr.fill (fun i=>some (i*esz,esz)) arr ps=some arr'/\arr'.size=len*esz/\cs'.length=len/\eN β arr' 0 esz cs'
 |[],[],cs,cs',arr,h,hl,hsz,hc,_=>by
  simp only [Az,zXi] at h
  subst h
  exact⟨arr,rfl,hsz,hl,hc⟩
 |(i,v)::l,(i',u)::ps,cs,cs',arr,h,hl,hsz,hc,hps=>by
  obtain⟨⟨hi,vs,hvs,hr⟩,hps⟩:=hps
  dsimp only at hi hvs hr
  subst hi
  simp only [Az] at h
  split at h
  ·rename_i hcond
   simp only [P7] at hcond
   have hvl:=rq hcond.1
   have hil:i < cs.length:=oR hcond.2
   have hvl':=hr.length
   have hend:i*esz+esz<=len*esz:=by
    have:(i+1)*esz<=len*esz:=Qo _ zO
    rw [Qj] at this
    omega
   obtain⟨h1,h2⟩:=nL (i*esz) vs 0 arr
   simp only [QI] at h2
   have hnew:eN β (vs.toArray.zipIdx.foldl (fun cs (x:Value×Nat)=>cs.setIfInBounds (i*esz+x.2) x.1) arr) 0 esz (cs.set i v):=by
    rw [mv]
    refine iF (fun c hm=>?_) fun k j c x hk hj=>?_
    ·rcases QP hm with hm|rfl
     ·obtain⟨k,hk⟩:=Rb.1 hm
      exact (hc k c hk).1
     exact hvl
    rw [h2 _ zO]
    have hjl:j < c.length:=(zG.1 hj).1
    rw [Qv] at hk
    by_cases he:i=k
    ·subst he
     rw [if_pos rfl,if_pos hil] at hk
     simp only [zXi] at hk
     subst hk
     rw [if_pos zO]
     obtain⟨y,hy,hry⟩:=hr.get hj
     exact⟨y,by rw [Q8];exact hy,hry⟩
    rw [if_neg he] at hk
    obtain⟨hlc,hcell⟩:=hc k c hk
    obtain⟨y,hy,hry⟩:=hcell j x hj
    refine⟨y,?_,hry⟩
    rw [Qn] at hy
    rw [if_neg]
    ·exact hy
    intro⟨ha,hb⟩
    rcases Q3 he with hlt|hgt
    ·have:(i+1)*esz<=k*esz:=Qo _ hlt
     rw [Qj] at this
     omega
    have:(k+1)*esz<=i*esz:=Qo _ hgt
    rw [Qj] at this
    omega
   obtain⟨arr',hf,hsz',hl',hc'⟩:=GW hpos len h (by simpa using hl) (by rw [mv,h1];exact hsz) hnew hps
   refine⟨arr',?_,hsz',hl',hc'⟩
   simp only [Instr.fill]
   rw [if_neg]
   ·rw [hvs];exact hf
   rw [hvs]
   simp
   omega
  cases h
 |[],_::_,_,_,_,_,_,_,_,hl=>hl.elim
 |_::_,[],_,_,_,_,_,_,_,hl=>hl.elim
theorem zz (hs:HSim β s.hp w) (hsl:SlotsR β s.sl a.tmps) (t:TypeId) (len:Nat) (parts:Array (Nat×Operand)) (ho:o.op=.buildSlice t len parts) (h:bX P s ty (.buildSlice t len parts)=some r):ji β s r w ((execOp a.eval o).run P w):=by
 simp only [bX] at h
 split at h
 ·rename_i e sz he0
  obtain⟨he,hkn,rfl⟩:=iE he0
  split at h
  ·rename_i z hz
   obtain⟨hz,hzl,hpos,hsm,_⟩:=nJ hz
   split at h
   ·rename_i l hl
    split at h
    ·rename_i hleb
     have hle256:=Js hleb
     have hbig:len*eM P e<=16777216:=by
      have:len*eM P e<=256*65536:=Rx hle256 hsm
      omega
     split at h
     ·rename_i cs hcs
      simp only [zXi] at h
      subst h
      obtain⟨i,v,vs,hi,hzv,hvc,hsc⟩:=kO hz
      have hr:=wE β hsc
      have hvl:=hr.length
      have hti:=wF hi
      have hlm:len<=len*eM P e:=Nat.le_mul_of_pos_right _ hpos
      have hstart:∃ Dx:Array Value,((do if len*eM P e=0 then pure #[] else do pure (<-zeroValue e).cells):Sem (Array Value)).run P w=.ok Dx w/\((Array.range (len*eM P e)).map (Dx[· % Dx.size]!)).size=len*eM P e/\
        eN β ((Array.range (len*eM P e)).map (Dx[· % Dx.size]!)) 0 (eM P e) (List.replicate len z):=by
       by_cases h0:len*eM P e=0
       ·refine⟨#[],by simp [h0],zP,?_⟩
        have hl0:len=0:=by
         rcases Nat.mul_eq_zero.1 h0 with h|h
         ·exact h
         omega
        subst hl0
        intro k c hk
        simp at hk
       refine⟨vs.toArray,by simp [h0,zeroValue,typeInfo,hi,hzv,hvc],zP,?_⟩
       refine iF (fun c hm=>by rw [QR hm];exact hzl) fun k j c x hk hj=>?_
       have hkl:k < len:=by have:=(zG.1 hk).1;simpa using this
       rw [Q1 hkl] at hk
       simp only [zXi] at hk
       subst hk
       obtain⟨y,hy,hry⟩:=hr.get hj
       have hjl:j < z.length:=(zG.1 hj).1
       refine⟨y,?_,hry⟩
       have hzs:vs.toArray.size=eM P e:=by simp;omega
       have:=AB vs.toArray len k j hkl zO
       rw [hzs] at this
       rw [hzs,this]
       simpa using hy
      obtain⟨Dx,hrun,hsz0,hc0⟩:=hstart
      obtain⟨arr,hf,hsz,hlen,hc⟩:=GW hpos len (ps:=parts.toList.map fun (i,x)=>(i,a.eval x)) hcs zP hsz0 hc0 (BT hsl hl)
      refine rv hs (arr:=arr) (v:=.slice (some ⟨w.heap.size,0,none⟩) len len) ?_ hc (fun h=>Ax h) (Jx hs _ _ len len (Qf _) (by unfold maxLen;omega) (by show len*eM P e<=arr.size;omega))
      unfold execOp
      rw [ho]
      have hpt:(parts.map fun (i,x)=>(i,a.eval x)).toList=parts.toList.map fun (i,x)=>(i,a.eval x):=by simp
      have hb':¬ (2 ^ 24 < len*eM P e):=zO
      simp only [Instr.buildSlice,Qb,run_underlying (ir he),P8,dY w (by simp [hi]:(P.info? e).isSome=true),hb',if_false,hpt]
      by_cases h0:len*eM P e=0
      ·simp only [h0,if_true,Qm,Result.ok.injEq,and_true,P8] at hrun
       subst hrun
       simp only [h0,if_true,Qb,Qm,P8]
       simp only [h0] at hf
       rw [hf]
       simp [newRow]
      have hzr:(zeroValue e).run P w=.ok v w:=by simp [zeroValue,typeInfo,hi,hzv]
      simp only [h0,if_false,Qb,hzr,P8,Qm,Result.ok.injEq,and_true] at hrun
      simp only [h0,if_false,Qb,Qm,P8,hzr]
      rw [hrun,hf]
      simp [newRow]
     cases h
    cases h
   cases h
  cases h
 cases h
theorem H_ {t:TypeId} {n:Nat} (h:bq P t=some (some n)):dm P t=true/\n=eM P t:=by
 unfold bq at h
 split at h
 ·split at h
  ·rename_i ha
   simp only [zXi] at h
   exact⟨ha,h.symm⟩
  cases h
 cases h
theorem Ia {t:TypeId} (h:bq P t=some none):dm P t=false/\fO P t=true:=by
 unfold bq at h
 split at h
 ·rename_i hk
  split at h
  ·cases h
  rename_i ha
  exact⟨by simpa using ha,hk⟩
 cases h
theorem Ib {t:TypeId} {n:Nat} (h:gT P t=some n):fO P t=true/\n=eM P t:=by
 unfold gT at h
 split at h
 ·rename_i hk
  simp only [zXi] at h
  exact⟨hk,h.symm⟩
 cases h
theorem LM (hs:HSim β s.hp w) (hsl:SlotsR β s.sl a.tmps) (t:TypeId) (x:Operand) (ho:o.op=.load t x) (h:bX P s ty (.load t x)=some r):ji β s r w ((execOp a.eval o).run P w):=by
 simp only [bX] at h
 split at h
 ·rename_i ob k j hx
  have hv:eB β (.pt ob k j) (a.eval x):=et hsl hx
  split at h
  ·rename_i obj hob
   split at h
   ·rename_i c hk
    split at h
    ·rename_i n hag0
     obtain⟨hag,rfl⟩:=H_ hag0
     split at h
     ·rename_i hn
      simp only [zXi] at h
      subst h
      obtain⟨vs,hrun,hr⟩:=rt hs hob hk hag (oR hn) hv
      refine bS hs (v:=.agg vs.toArray) ?_ ⟨vs,rfl,hr⟩
      unfold execOp
      rw [ho]
      simp [hrun]
     cases h
    ·rename_i hag0
     obtain⟨hag,hkn⟩:=Ia hag0
     split at h
     ·rename_i y hy
      simp only [zXi] at h
      subst h
      obtain⟨u,hrun,hr⟩:=ru hs hob hk hag hkn hy hv
      refine bS hs (v:=u) ?_ hr
      unfold execOp
      rw [ho]
      simp [hrun]
     cases h
    cases h
   cases h
  cases h
 cases h
theorem FE {h:Hp} (hs:HSim β h w) {n:Nat} {ob:AObj} {p:Pl} (ho:h[n]? =some (some ob)) (hown:ob.own=true) (hp:β[n]? =some (some p))
  {arr arr':Array Value} {T:TypeId} {fz:Nat×Nat} (hh:w.heap[p.blk]? =some (.cells arr T fz)) (hsz:arr'.size=arr.size) {cs':List (List Sc)} {fl':Bool} (hc:eN β arr' 0 ob.esz cs') (hfl:fl'=true->FlatL cs'):
  HSim β (h.set n (some { ob with cs:=cs',fl:=fl' })) (w.setRow p.blk arr')/\StepR β β h (h.set n (some { ob with cs:=cs',fl:=fl' })) w (w.setRow p.blk arr'):=by
 obtain⟨he,Dx,T0,fz0,hh0,hc0,hown0⟩:=jp hs ho hp
 obtain⟨hT,hf0,hbase,hav⟩:=hown0 hown
 rw [hh] at hh0
 simp only [zXi,Obj.cells.injEq] at hh0
 obtain⟨rfl,rfl,rfl⟩:=hh0
 have hn:n < h.length:=(zG.1 ho).1
 have key:∀ {o:Nat} {x:AObj},(h.set n (some { ob with cs:=cs',fl:=fl' }))[o]? =some (some x)->(o=n/\x={ ob with cs:=cs',fl:=fl' })\/(o≠n/\h[o]? =some (some x)):=by
  intro o x hx
  rw [Qv] at hx
  split at hx
  ·rename_i he
   subst he
   simp only [zXi] at hx
   exact .inl ⟨rfl,hx.symm⟩
  rename_i he
  exact .inr ⟨Ne.symm he,hx⟩
 refine⟨⟨by simp [hs.len],fun o x hx=>?_,fun o x hx hf=>by rcases key hx with⟨_,rfl⟩|⟨_,hx⟩;exact hfl hf;exact hs.flat o x hx hf,fun o o' x x' q q' hx hx' hxo hq hq' hne=>?_⟩,?_⟩
 ·rcases key hx with⟨rfl,rfl⟩|⟨hne,hx⟩
  ·refine⟨some p,hp,he,arr',T,fz,setRow_heap w p.blk arr arr' T fz hh,?_,fun _=>⟨hT,hf0,hbase,by rw [hsz];exact hav⟩⟩
   rw [hbase]
   exact hc
  obtain⟨q,hq,hr⟩:=hs.ob o x hx
  refine⟨q,hq,hr.world fun q' hq'=>?_⟩
  subst hq'
  exact setRow_other w p.blk q'.blk arr' (fun hb=>hs.apart n o ob x p q' ho hx hown hp hq (Ne.symm hne) hb.symm)
 ·rcases key hx with⟨rfl,rfl⟩|⟨h1,h1'⟩
  ·rcases key hx' with⟨rfl,rfl⟩|⟨h2,h2'⟩
   ·exact absurd rfl hne
   exact hs.apart o o' ob x' q q' ho h2' hown hq hq' hne
  rcases key hx' with⟨rfl,rfl⟩|⟨h2,h2'⟩
  ·exact hs.apart o o' x ob q q' h1' ho hxo hq hq' hne
  exact hs.apart o o' x x' q q' h1' h2' hxo hq hq' hne
 refine⟨Be.le.refl _,rfl,rfl,rfl,zP,fun k hk hno=>setRow_other w p.blk k arr' (fun hb=>hno ⟨n,ob,p,ho,hown,hp,hb.symm⟩),zP,fun o x hlt hx=>?_,fun o x q hge hx _=>?_⟩
 ·rcases key hx with⟨rfl,rfl⟩|⟨hne,hx⟩
  ·exact⟨ob,ho,id⟩
  exact⟨x,hx,id⟩
 rw [Qc (by simpa using hge)] at hx
 cases hx
theorem JA (hs:HSim β s.hp w) (hsl:SlotsR β s.sl a.tmps) (t:TypeId) (x y:Operand) (ho:o.op=.store t x y) (h:bX P s ty (.store t x y)=some r):ji β s r w ((execOp a.eval o).run P w):=by
 simp only [bX] at h
 split at h
 ·rename_i n k j hx
  have hv:eB β (.pt n k j) (a.eval x):=et hsl hx
  split at h
  ·rename_i ob hob
   split at h
   ·rename_i c hk
    split at h
    ·rename_i v hy
     split at h
     ·rename_i vs hvs
      split at h
      rotate_left
      ·cases h
      rename_i n0 hn0
      obtain⟨hkn,rfl⟩:=Ib hn0
      split at h
      ·rename_i hcond
       simp only [P7] at hcond
       obtain⟨⟨hl0,hj0⟩,hown⟩:=hcond
       have hl:=rq hl0
       have hj:j+vs.length<=c.length:=by rw [hl];exact oR hj0
       simp only [zXi] at h
       rw [FD c j vs hj] at h
       subst h
       obtain⟨us,hus,hr⟩:=iq.cells hvs (et hsl hy)
       obtain⟨p,hp,hpe⟩:=Jv hv
       obtain⟨he,arr,T,fz,hh,hc,hown'⟩:=jp hs (du hob) hp
       obtain⟨hT,hf0,hbase,hav⟩:=hown' hown
       subst hf0
       have hul:=hr.length
       obtain⟨hcl,hcell⟩:=hc k c hk
       have hbd:k*ob.esz+j+us.length<=arr.size:=by
        by_cases hz:us.length=0
        ·rw [hz]
         by_cases hc0:c.length=0
         ·by_cases hk0:arr.size < k*ob.esz+j
          ·have:j=0:=zO
           subst this
           rw [<-hcl,hc0] at hk0
           omega
          omega
         have hg:c[c.length - 1]? =some (c[c.length - 1]' zO):=P_ zO
         obtain⟨y',hy',_⟩:=hcell _ _ hg
         have:=(Qg.1 hy').1
         rw [hbase] at this
         omega
        have hg:c[j+us.length - 1]? =some (c[j+us.length - 1]' zO):=P_ zO
        obtain⟨y',hy',_⟩:=hcell _ _ hg
        have:=(Qg.1 hy').1
        rw [hbase] at this
        omega
       let arr':Array Value:=(arr.toList.take (k*ob.esz+j)++us++arr.toList.drop (k*ob.esz+j+us.length)).toArray
       have hget:∀ m,arr'[m]? =if k*ob.esz+j<=m/\m < k*ob.esz+j+us.length then us[m - (k*ob.esz+j)]? else arr[m]? :=by
        intro m
        show ((arr.toList.take (k*ob.esz+j)++us++arr.toList.drop (k*ob.esz+j+us.length)).toArray)[m]? =_
        rw [QJ,List.append_assoc]
        by_cases h1:m < k*ob.esz+j
        ·rw [P6 zS,Ql h1,if_neg zO,Qz]
        have hlen:(arr.toList.take (k*ob.esz+j)).length=k*ob.esz+j:=by simp;omega
        rw [P9 zO,hlen]
        by_cases h2:m < k*ob.esz+j+us.length
        ·rw [P6 zO,if_pos zO]
        rw [P9 zO,if_neg zO,Qq,Qz]
        congr 1
        omega
       have hsz:arr'.size=arr.size:=by
        show ((arr.toList.take (k*ob.esz+j)++us++arr.toList.drop (k*ob.esz+j+us.length)).toArray).size=_
        simp
        omega
       have hnew:eN β arr' 0 ob.esz (ob.cs.set k (lO c j vs)):=by
        refine iF (fun d hm=>?_) fun k' j' d z hk' hj'=>?_
        ·rcases QP hm with hm|rfl
         ·obtain⟨q,hq⟩:=Rb.1 hm
          exact (hc q d hq).1
         rw [pI c j vs hj];exact hcl
        rw [hget]
        rw [Qv] at hk'
        by_cases hkk:k=k'
        ·subst hkk
         rw [if_pos rfl,if_pos (zG.1 hk).1] at hk'
         simp only [zXi] at hk'
         subst hk'
         rw [wH c j vs hj] at hj'
         by_cases hin:j<=j'/\j' < j+vs.length
         ·rw [if_pos hin] at hj'
          rw [if_pos zO]
          obtain⟨y',hy',hr'⟩:=hr.get hj'
          exact⟨y',by rw [show k*ob.esz+j' - (k*ob.esz+j)=j' - j from by omega];exact hy',hr'⟩
         rw [if_neg hin] at hj'
         rw [if_neg zO]
         obtain⟨y',hy',hr'⟩:=hcell j' z hj'
         rw [hbase,Qn] at hy'
         exact⟨y',hy',hr'⟩
        rw [if_neg hkk] at hk'
        obtain⟨hdl,hdc⟩:=hc k' d hk'
        obtain⟨y',hy',hr'⟩:=hdc j' z hj'
        rw [hbase,Qn] at hy'
        have hjd:j' < d.length:=(zG.1 hj').1
        refine⟨y',?_,hr'⟩
        rw [if_neg]
        ·exact hy'
        intro⟨ha,hb⟩
        rcases Q3 hkk with hlt|hgt
        ·have:(k+1)*ob.esz<=k'*ob.esz:=Qo _ hlt
         rw [Qj] at this
         omega
        have:(k'+1)*ob.esz<=k*ob.esz:=Qo _ hgt
        rw [Qj] at this
        omega
       obtain⟨hs',hst⟩:=FE hs (du hob) hown hp hh hsz hnew (fl':=ob.fl && kL vs) (fun hf=>by
        simp only [P7] at hf
        have h1:=hs.flat n ob (du hob) hf.1
        intro d hd
        rcases QP hd with hd|rfl
        ·exact h1 d hd
        have h2:=jo.1 (h1 c (Qk hk))
        unfold lO
        exact mt (jo.2 fun s hs=>h2 s (QC hs)) (mt hf.2 (jo.2 fun s hs=>h2 s (QD hs))))
       refine⟨β,_,hst,hs',.inr ⟨?_,rfl⟩⟩
       unfold execOp
       rw [ho]
       have hrun:=run_storeCells_at P p.blk (k*ob.esz+j) T us 0 arr w hh zO (L2.one hr)
       simp only [QI] at hrun
       have husz:us.toArray.size=eM P t:=by simp;omega
       have hpe':a.eval x=.pointer (some ⟨p.blk,k*ob.esz+j,none⟩):=by rw [hpe,hbase,he,Qn]
       simp only [hpe',Instr.storeAt,Instr.sureAddr,Qb,Qm,P8,storeVar,dY w (jV hkn),husz,ne_eq,not_true,if_false,hus,Rd,hrun]
       rfl
      cases h
     cases h
    cases h
   cases h
  cases h
 cases h
end
end
section
open Go.RowKit
section
variable {P:Program} {β:Be} {s:S} {a:Act} {w:World} {o:Oper} {r:OpR} {ty:TypeId}
theorem DH (hs:HSim β s.hp w) (hsl:SlotsR β s.sl a.tmps) (x:Operand) (ho:o.op=.nilCheck x) (h:bX P s ty (.nilCheck x)=some r):ji β s r w ((execOp a.eval o).run P w):=by
 simp only [bX] at h
 split at h
 ·rename_i n k j hx
  have hv:eB β (.pt n k j) (a.eval x):=et hsl hx
  simp only [zXi] at h
  subst h
  refine bS hs (v:=a.eval x) ?_ hv
  obtain⟨p,hp,hpe⟩:=hv
  unfold execOp
  rw [ho]
  simp [hpe]
 ·rename_i f caps hx
  have hv:iq β (.cl f caps) (a.eval x):=et hsl hx
  simp only [zXi] at h
  subst h
  refine bS hs (v:=a.eval x) ?_ hv
  obtain⟨vs,hpe,_⟩:=hv
  unfold execOp
  rw [ho]
  simp [hpe]
 cases h
theorem LN {op:BinOp} {k k':IntKind} {x y:Int} {t:TypeId} {q:Sc} {c:Prop} (h:kM P t op (.int k x) (.int k' y)=some (q,c)) (hc:c) (X Y:Operand):
  ∃ v,(do eqGuard op t X Y (.int k x) (.int k' y);binOp op t (.int k x) (.int k' y)).run P w=.ok v w/\eB β q v:=by
 have hg:∀ (m:Sem Value),(do eqGuard op t X Y (.int k x) (.int k' y);m).run P w=m.run P w:=by
  intro m
  cases op<;>simp [eqGuard]
 rw [hg]
 cases op with
 |shl=>
  simp only [kM,zXi,Prod.mk.injEq] at h
  obtain⟨rfl,rfl⟩:=h
  exact⟨_,by simp [binOp,Op.shift,Int.not_lt.2 hc],rfl⟩
 |shr=>
  simp only [kM,zXi,Prod.mk.injEq] at h
  obtain⟨rfl,rfl⟩:=h
  exact⟨_,by simp [binOp,Op.shift,Int.not_lt.2 hc],rfl⟩
 |andNot=>
  simp only [kM,H8] at h
  split at h<;>cases h
 |quo=>
  simp only [kM,H8] at h
  split at h
  ·rename_i hk
   subst hk
   simp only [zXi,Prod.mk.injEq] at h
   obtain⟨rfl,rfl⟩:=h
   exact⟨_,by simp [binOp,Op.intDiv,hc],rfl⟩
  cases h
 |rem=>
  simp only [kM,H8] at h
  split at h
  ·rename_i hk
   subst hk
   simp only [zXi,Prod.mk.injEq] at h
   obtain⟨rfl,rfl⟩:=h
   exact⟨_,by simp [binOp,Op.intDiv,hc],rfl⟩
  cases h
 |_=>
  simp only [kM,H8] at h
  split at h
  ·rename_i hk
   subst hk
   simp only [zXi,Prod.mk.injEq] at h
   obtain⟨rfl,rfl⟩:=h
   exact⟨_,by simp [binOp,Op.intArith,Op.intBits,Op.intCmp];try rfl,rfl⟩
  cases h
theorem LO (x y:List UInt8):(ByteArray.mk x.toArray)++(ByteArray.mk y.toArray)=ByteArray.mk (x++y).toArray:=by
 apply ByteArray.ext
 simp
theorem LP {op:BinOp} {x y:List UInt8} {t:TypeId} {q:Sc} {c:Prop} (h:kM P t op (.st x) (.st y)=some (q,c)) (hc:c) (X Y:Operand):
  ∃ v,(do eqGuard op t X Y (.string ⟨x.toArray⟩) (.string ⟨y.toArray⟩);binOp op t (.string ⟨x.toArray⟩) (.string ⟨y.toArray⟩)).run P w=.ok v w/\eB β q v:=by
 have hg:∀ (m:Sem Value),(do eqGuard op t X Y (.string ⟨x.toArray⟩) (.string ⟨y.toArray⟩);m).run P w=m.run P w:=by
  intro m
  cases op<;>simp [eqGuard]
 rw [hg]
 cases op with
 |add=>
  simp only [kM,zXi,Prod.mk.injEq] at h
  obtain⟨rfl,rfl⟩:=h
  refine⟨.string ⟨(x++y).toArray⟩,?_,rfl⟩
  rw [binOp_string_add,run_string_add_sum w _ _ (by simp [ByteArray.size];omega),LO]
 |eql=>
  simp only [kM,zXi,Prod.mk.injEq] at h
  obtain⟨rfl,rfl⟩:=h
  exact⟨_,by simp [binOp,Op.stringOp],rfl⟩
 |neq=>
  simp only [kM,zXi,Prod.mk.injEq] at h
  obtain⟨rfl,rfl⟩:=h
  exact⟨_,by simp [binOp,Op.stringOp],rfl⟩
 |_=>simp only [kM] at h;cases h
theorem zA {t:TypeId} (ht:wC P t=true) (d:Nat) (x y:Bool):(Op.equalIn (d+1) t (.bool x) (.bool y)).run P w=.ok (x == y) w:=by
 simp only [Op.equalIn,Qb,run_underlying (H9 ht),P8,Qm]
theorem uG {t:TypeId} (ht:wC P t=true) (x y:Bool):(Op.equal t (.bool x) (.bool y)).run P w=.ok (x == y) w:=by
 exact zA ht 9999 x y
theorem LQ {op:BinOp} {x y:Bool} {t:TypeId} {q:Sc} {c:Prop} (h:kM P t op (.bo x) (.bo y)=some (q,c)) (X Y:Operand):
  ∃ v,(do eqGuard op t X Y (.bool x) (.bool y);binOp op t (.bool x) (.bool y)).run P w=.ok v w/\eB β q v:=by
 have hg:∀ (m:Sem Value),(do eqGuard op t X Y (.bool x) (.bool y);m).run P w=m.run P w:=by
  intro m
  cases op<;>simp [eqGuard]
 rw [hg]
 cases op with
 |eql=>
  simp only [kM] at h
  split at h
  ·rename_i ht
   simp only [zXi,Prod.mk.injEq] at h
   obtain⟨rfl,rfl⟩:=h
   exact⟨_,by simp only [binOp,Qb,uG ht,P8,Qm],rfl⟩
  cases h
 |neq=>
  simp only [kM] at h
  split at h
  ·rename_i ht
   simp only [zXi,Prod.mk.injEq] at h
   obtain⟨rfl,rfl⟩:=h
   exact⟨_,by simp only [binOp,Qb,uG ht,P8,Qm],rfl⟩
  cases h
 |_=>simp only [kM] at h;cases h
theorem Ns (hs:HSim β s.hp w) (hsl:SlotsR β s.sl a.tmps) (op:BinOp) (t u:TypeId) (x y:Operand) (ho:o.op=.binOp op t x y u) (h:bX P s ty (.binOp op t x y u)=some r) (hc:r.c):ji β s r w ((execOp a.eval o).run P w):=by
 simp only [bX] at h
 split at h
 ·rename_i p q hx hy
  have hvx:eB β p (a.eval x):=et hsl hx
  have hvy:eB β q (a.eval y):=et hsl hy
  split at h
  ·rename_i res c hb
   simp only [zXi] at h
   subst h
   have hc':c:=hc
   have key:∃ v,(do eqGuard op t x y (a.eval x) (a.eval y);binOp op t (a.eval x) (a.eval y)).run P w=.ok v w/\eB β res v:=by
    cases p with
    |int k n=>cases q with
     |int k' m=>
      have e1:a.eval x=.int k n:=hvx
      have e2:a.eval y=.int k' m:=hvy
      rw [e1,e2];exact LN hb hc' x y
     |_=>simp only [kM] at hb;cases hb
    |st l=>cases q with
     |st m=>
      have e1:a.eval x=.string ⟨l.toArray⟩:=hvx
      have e2:a.eval y=.string ⟨m.toArray⟩:=hvy
      rw [e1,e2];exact LP hb hc' x y
     |_=>simp only [kM] at hb;cases hb
    |bo l=>cases q with
     |bo m=>
      have e1:a.eval x=.bool l:=hvx
      have e2:a.eval y=.bool m:=hvy
      rw [e1,e2];exact LQ hb x y
     |_=>simp only [kM] at hb;cases hb
    |_=>simp only [kM] at hb;cases hb
   obtain⟨v,hrun,hr⟩:=key
   refine eH hs (v:=v) ?_ hr
   unfold execOp
   rw [ho]
   simp only [Qb] at hrun⊢
   rw [hrun]
   rfl
  cases h
 ·rename_i p q hx hy
  obtain⟨vs,hpe,hl⟩:iq β (.ag p) (a.eval x):=et hsl hx
  obtain⟨us,hqe,hm⟩:iq β (.ag q) (a.eval y):=et hsl hy
  split at h
  ·simp only [zXi] at h
   subst h
   obtain⟨h1,_⟩:=(show Jt P t p q (cS p q) from hc) β w x y vs us hl hm
   refine eH hs (v:=.bool (cS p q)) ?_ rfl
   unfold execOp
   rw [ho]
   simp only [Qb] at h1⊢
   rw [hpe,hqe,h1]
   rfl
  ·simp only [zXi] at h
   subst h
   obtain⟨_,h1⟩:=(show Jt P t p q (cS p q) from hc) β w x y vs us hl hm
   refine eH hs (v:=.bool (!cS p q)) ?_ rfl
   unfold execOp
   rw [ho]
   simp only [Qb] at h1⊢
   rw [hpe,hqe,h1]
   rfl
  cases h
 cases h
theorem NY (hs:HSim β s.hp w) (hsl:SlotsR β s.sl a.tmps) (op:UnOp) (t:TypeId) (x:Operand) (ho:o.op=.unOp op t x) (h:bX P s ty (.unOp op t x)=some r):ji β s r w ((execOp a.eval o).run P w):=by
 simp only [bX] at h
 split at h
 ·rename_i b hx
  have hv:a.eval x=.bool b:=et hsl hx
  split at h
  ·simp only [zXi] at h
   subst h
   refine bS hs (v:=.bool (!b)) ?_ rfl
   unfold execOp
   rw [ho]
   simp [hv,Op.unary]
  cases h
 ·rename_i k n hx
  have hv:a.eval x=.int k n:=et hsl hx
  split at h
  ·simp only [zXi] at h
   subst h
   refine bS hs (v:=.int k (k.wrap (0 - n))) ?_ rfl
   unfold execOp
   rw [ho]
   simp [hv,Op.unary,Op.intArith]
  cases h
 cases h
theorem BU (hs:HSim β s.hp w) (hsl:SlotsR β s.sl a.tmps) (t:TypeId) (x:Operand) (f:Nat) (ho:o.op=.fieldAddr t x f) (h:bX P s ty (.fieldAddr t x f)=some r):ji β s r w ((execOp a.eval o).run P w):=by
 simp only [bX] at h
 split at h
 ·rename_i n k j off sz hx hf
  obtain⟨p,hp,hpe⟩:eB β (.pt n k j) (a.eval x):=et hsl hx
  simp only [zXi] at h
  subst h
  unfold ax at hf
  split at hf
  ·rename_i fs hfs
   split at hf
   ·rename_i g hg
    split at hf
    ·cases hf
    rename_i hz
    simp only [zXi,Prod.mk.injEq] at hf
    obtain⟨rfl,rfl⟩:=hf
    refine bS hs (v:=.pointer (some ⟨p.blk,p.base+k*p.esz+(j+g.offset),none⟩)) ?_ ⟨p,hp,rfl⟩
    unfold execOp
    rw [ho]
    have hi:(P.info? g.type).isSome=true:=GS zO
    simp [hpe,Instr.fieldAt,run_underlying hfs,hg,Instr.sureAddr,fieldPlace,dY w hi,hz,Addr.add_lit,QU]
   cases hf
  cases hf
 cases h
theorem JB (hs:HSim β s.hp w) (hsl:SlotsR β s.sl a.tmps) (t:TypeId) (x:Operand) (f:Nat) (ho:o.op=.field t x f) (h:bX P s ty (.field t x f)=some r):ji β s r w ((execOp a.eval o).run P w):=by
 simp only [bX] at h
 split at h
 ·rename_i cs off hx hf
  obtain⟨vs,hve,hl⟩:iq β (.ag cs) (a.eval x):=et hsl hx
  split at h
  ·rename_i c hc
   simp only [zXi] at h
   subst h
   obtain⟨v,hv,hr⟩:=hl.get hc
   unfold P1 at hf
   split at hf
   ·rename_i fs hfs
    split at hf
    ·rename_i g hg
     split at hf
     ·rename_i hk
      simp only [zXi] at hf
      subst hf
      simp only [P7,Qw,fO] at hk
      obtain⟨⟨h1,_⟩,h2⟩:=hk
      obtain⟨d,hd⟩:=QE.1 h1
      refine bS hs (v:=v) ?_ hr
      unfold execOp
      rw [ho]
      simp [hve,Instr.field,run_underlying hfs,hg,part,asAgg,gy w hd,h2,hv]
     cases hf
    cases hf
   cases hf
  cases h
 cases h
theorem BV (hs:HSim β s.hp w) (hsl:SlotsR β s.sl a.tmps) (t:TypeId) (x i:Operand) (ho:o.op=.indexAddr t x i) (h:bX P s ty (.indexAddr t x i)=some r) (hc:r.c):ji β s r w ((execOp a.eval o).run P w):=by
 simp only [bX] at h
 split at h
 ·rename_i n off len k m e sz hx hi ht0
  obtain⟨ht,hkn,rfl⟩:=iE ht0
  have hvx:eB β (.sl n off len) (a.eval x):=et hsl hx
  have hvi:a.eval i=.int k m:=et hsl hi
  split at h
  ·rename_i ob hob
   split at h
   ·rename_i hesz
    simp only [zXi] at h
    subst h
    obtain⟨h0,h1⟩:0<=m/\m < len:=hc
    obtain⟨ad,cap,hxe,hlc,hcm,hor⟩:=hvx
    rcases hor with rfl|⟨p,hp,rfl,hav⟩
    ·omega
    obtain⟨he,_⟩:=jp hs (du hob) hp
    refine eH hs (v:=.pointer (some ⟨p.blk,p.base+(off+m.toNat)*p.esz+0,none⟩)) ?_ ⟨p,hp,rfl⟩
    unfold execOp
    rw [ho]
    have hes:p.base+(off+m.toNat)*p.esz=p.base+off*p.esz+m.toNat*eM P e:=by rw [<-hesz,<-he,Qj,QU]
    simp [hxe,hvi,Instr.indexAt,asIntOf,run_underlying (ir ht),h0,h1,dY w (jV hkn),Addr.add_lit,hes]
   cases h
  cases h
 cases h
theorem JC (hs:HSim β s.hp w) (hsl:SlotsR β s.sl a.tmps) (t:TypeId) (x i:Operand) (ho:o.op=.index t x i) (h:bX P s ty (.index t x i)=some r) (hc:r.c):ji β s r w ((execOp a.eval o).run P w):=by
 simp only [bX] at h
 split at h
 ·rename_i l k m hx hi
  have hvx:a.eval x=.string ⟨l.toArray⟩:=et hsl hx
  have hvi:a.eval i=.int k m:=et hsl hi
  split at h
  ·rename_i ht
   simp only [zXi] at h
   subst h
   obtain⟨h0,h1⟩:0<=m/\m < l.length:=hc
   have hlt:m.toNat < l.length:=zO
   refine eH hs (v:=.int .u8 (l.getD m.toNat 0).toNat) ?_ rfl
   unfold execOp
   rw [ho]
   have hg:(ByteArray.mk l.toArray)[m.toNat]? =some (l[m.toNat]'hlt):=by
    rw [getElem?_pos (ByteArray.mk l.toArray) m.toNat (by simpa [ByteArray.size] using hlt)]
    simp [ByteArray.getElem_eq_getElem_data]
   simp [hvx,hvi,Instr.index,asIntOf,run_underlying (rr ht),h0,hg,zk,P_ hlt]
  cases h
 cases h
theorem FF (hs:HSim β s.hp w) (hsl:SlotsR β s.sl a.tmps) (x:Operand) (i:Nat) (ho:o.op=.extract x i) (h:bX P s ty (.extract x i)=some r):ji β s r w ((execOp a.eval o).run P w):=by
 simp only [bX] at h
 split at h
 ·rename_i l hx
  obtain⟨vs,hpe,hl⟩:iq β (.tu l) (a.eval x):=et hsl hx
  split at h
  ·rename_i c hc
   simp only [zXi] at h
   subst h
   obtain⟨v,hv,hr⟩:=hl.get hc
   refine bS hs (v:=v) ?_ (Co.av_R hr)
   unfold execOp
   rw [ho]
   simp [hpe,Instr.extract,hv]
  cases h
 cases h
theorem DI (hs:HSim β s.hp w) (hsl:SlotsR β s.sl a.tmps) (f:FuncId) (first caps:Array Operand) (ho:o.op=.makeFunc (.func f) first caps) (h:bX P s ty (.makeFunc (.func f) first caps)=some r):ji β s r w ((execOp a.eval o).run P w):=by
 simp only [bX] at h
 split at h
 ·rename_i hf
  have hf':first= #[]:=QG hf
  subst hf'
  split at h
  ·rename_i l hl
   simp only [zXi] at h
   subst h
   refine bS hs (v:=.func (.func f) #[] (caps.toList.map a.eval).toArray) ?_ ⟨_,rfl,GQ hsl hl⟩
   unfold execOp
   rw [ho]
   have e:caps.map a.eval=(caps.toList.map a.eval).toArray:=by apply Array.ext';simp
   simp [Instr.makeFunc,e]
  cases h
 cases h
theorem lm {α:Type} {l:Array α} {x y:α} (h:l.toList=[x,y]):l= #[x,y]:=by apply Array.ext';simpa using h
theorem uH {α:Type} {l:Array α} {x:α} (h:l.toList=[x]):l= #[x]:=by apply Array.ext';simpa using h
theorem Nt (hs:HSim β s.hp w) (hsl:SlotsR β s.sl a.tmps) (args:Array Operand) (at_:Array TypeId) (ho:o.op=.call ⟨.builtin .len,args,at_⟩) (h:bX P s ty (.call ⟨.builtin .len,args,at_⟩)=some r):ji β s r w ((execOp a.eval o).run P w):=by
 simp only [bX] at h
 split at h
 ·rename_i x t ha ht
  have ha':=uH ha
  have ht':=uH ht
  subst ha';subst ht'
  split at h
  ·rename_i l hx
   have hv:a.eval x=.string ⟨l.toArray⟩:=et hsl hx
   split at h
   ·rename_i hs'
    simp only [zXi] at h
    subst h
    refine bS hs (v:=.int .i64 l.length) ?_ rfl
    unfold execOp
    rw [ho]
    have hz:(ByteArray.mk l.toArray).size=l.length:=rfl
    simp only [resolve,invoke,builtin,Builtin.len_,hv,run_underlying (rr hs'),goInt,hz,Qb,Qm,P8,Ro,Q4,Ri,QJ,Qi]
   cases h
  ·rename_i n off len hx
   obtain⟨ad,cap,hxe,_⟩:eB β (.sl n off len) (a.eval x):=et hsl hx
   split at h
   ·rename_i q hs'
    simp only [zXi] at h
    subst h
    obtain⟨e,qn⟩:=q
    obtain⟨he,_⟩:=iE hs'
    refine bS hs (v:=.int .i64 len) ?_ rfl
    unfold execOp
    rw [ho]
    simp [resolve,invoke,builtin,Builtin.len_,hxe,run_underlying (ir he),goInt]
   cases h
  ·rename_i hx
   obtain⟨ad,hxe⟩:eB β .nil (a.eval x):=et hsl hx
   split at h
   ·rename_i q hs'
    simp only [zXi] at h
    subst h
    obtain⟨e,qn⟩:=q
    obtain⟨he,_⟩:=iE hs'
    refine bS hs (v:=.int .i64 0) ?_ rfl
    unfold execOp
    rw [ho]
    simp [resolve,invoke,builtin,Builtin.len_,hxe,run_underlying (ir he),goInt]
   cases h
  cases h
 cases h
theorem Nu (hs:HSim β s.hp w) (hsl:SlotsR β s.sl a.tmps) (args:Array Operand) (at_:Array TypeId) (ho:o.op=.call ⟨.builtin .min,args,at_⟩) (h:bX P s ty (.call ⟨.builtin .min,args,at_⟩)=some r):ji β s r w ((execOp a.eval o).run P w):=by
 simp only [bX] at h
 split at h
 ·rename_i x y ha
  have ha':=lm ha
  subst ha'
  split at h
  ·rename_i k m k' n hx hy
   have hvx:a.eval x=.int k m:=et hsl hx
   have hvy:a.eval y=.int k' n:=et hsl hy
   simp only [zXi] at h
   subst h
   refine bS hs (v:=.int k (if n < m then n else m)) ?_ rfl
   unfold execOp
   rw [ho]
   simp [resolve,invoke,builtin,Builtin.min_,Builtin.min2,hvx,hvy]
  cases h
 cases h
theorem Nv (hs:HSim β s.hp w) (hsl:SlotsR β s.sl a.tmps) (args:Array Operand) (at_:Array TypeId) (ho:o.op=.call ⟨.builtin .max,args,at_⟩) (h:bX P s ty (.call ⟨.builtin .max,args,at_⟩)=some r):ji β s r w ((execOp a.eval o).run P w):=by
 simp only [bX] at h
 split at h
 ·rename_i x y ha
  have ha':=lm ha
  subst ha'
  split at h
  ·rename_i k m k' n hx hy
   have hvx:a.eval x=.int k m:=et hsl hx
   have hvy:a.eval y=.int k' n:=et hsl hy
   simp only [zXi] at h
   subst h
   refine bS hs (v:=.int k (if m < n then n else m)) ?_ rfl
   unfold execOp
   rw [ho]
   simp [resolve,invoke,builtin,Builtin.max_,Builtin.max2,hvx,hvy]
  cases h
 cases h
end
end
section
open Go.RowKit
section
variable {P:Program} {β:Be} {s:S} {a:Act} {w:World} {o:Oper} {r:OpR} {ty:TypeId}
theorem fD (src dst:TypeId) (x:Operand) (ho:o.op=.convert src dst x) {v:Value} {w':World} (h:(convert src dst (a.eval x)).run P w=.ok v w'):(execOp a.eval o).run P w=.ok (.value v) w':=by
 unfold execOp
 rw [ho]
 simp only [Qb,h,P8]
 rfl
theorem uI {arr:Array Value} {base esz:Nat} {cs:List (List Sc)} (hc:eN β arr base esz cs) {off len:Nat} (hb:off+len<=cs.length) {k j:Nat} (hk:k < len) (hj:j < esz):
  ∃ c x v,cs[off+k]? =some c/\c[j]? =some x/\arr[base+(off+k)*esz+j]? =some v/\eB β x v:=by
 have h1:cs[off+k]? =some (cs[off+k]' zO):=P_ zO
 obtain⟨hl,hcell⟩:=hc _ _ h1
 have h2:(cs[off+k]' zO)[j]? =some ((cs[off+k]' zO)[j]' zO):=P_ zO
 obtain⟨v,hv,hr⟩:=hcell j _ h2
 exact⟨_,_,v,h1,h2,hv,hr⟩
theorem LR {c:List Sc} {x:Sc} (hb:nK c=true) (hx:c[0]? =some x):∃ n,c=[.int .u8 n]/\x=.int .u8 n:=by
 unfold nK at hb
 split at hb
 ·rename_i n
  simp at hx
  exact⟨n,rfl,hx.symm⟩
 cases hb
theorem LS {src dst:TypeId} {k:IntKind} (h:H6 P src dst=some (.int k)):(∃ d,P.underlying src=some d)/\P.underlying dst=some (.int k):=by
 unfold H6 at h
 split at h
 ·rename_i h1 h2
  simp only [zXi,Cv.int.injEq] at h
  subst h
  exact⟨⟨_,h1⟩,h2⟩
 ·cases h
 ·split at h<;>cases h
 ·split at h<;>cases h
 cases h
theorem LT {src dst:TypeId} (h:H6 P src dst=some .str):P.underlying src=some .string/\P.underlying dst=some .string:=by
 unfold H6 at h
 split at h
 ·cases h
 ·rename_i h1 h2;exact⟨h1,h2⟩
 ·split at h<;>cases h
 ·split at h<;>cases h
 cases h
theorem LU {src dst e:TypeId} (h:H6 P src dst=some (.s2b e)):P.underlying src=some .string/\P.underlying dst=some (.slice e)/\P.underlying e=some (.int .u8):=by
 unfold H6 at h
 split at h
 ·cases h
 ·cases h
 ·rename_i h1 h2
  split at h
  ·rename_i h3
   simp only [zXi,Cv.s2b.injEq] at h
   subst h
   exact⟨h1,h2,GR h3⟩
  cases h
 ·split at h<;>cases h
 cases h
theorem GX {src dst:TypeId} (h:H6 P src dst=some .b2s):∃ e,P.underlying src=some (.slice e)/\P.underlying dst=some .string/\P.underlying e=some (.int .u8):=by
 unfold H6 at h
 split at h
 ·cases h
 ·cases h
 ·split at h<;>cases h
 ·rename_i e h1 h2
  split at h
  ·rename_i h3
   exact⟨e,h1,h2,GR h3⟩
  cases h
 cases h
theorem FG (hs:HSim β s.hp w) (hsl:SlotsR β s.sl a.tmps) (src dst:TypeId) (x:Operand) (ho:o.op=.convert src dst x) (h:bX P s ty (.convert src dst x)=some r) (hc:r.c):ji β s r w ((execOp a.eval o).run P w):=by
 simp only [bX] at h
 split at h
 ·rename_i k' k n hcv hx
  have hv:a.eval x=.int k n:=et hsl hx
  obtain⟨⟨d,hd⟩,hk'⟩:=LS hcv
  simp only [zXi] at h
  subst h
  refine bS hs (v:=.int k' (k'.wrap n)) (fD src dst x ho ?_) rfl
  rw [hv]
  simp [convert,run_underlying hd,run_underlying hk',Conv.intToInt]
 ·rename_i l hcv hx
  have hv:a.eval x=.string ⟨l.toArray⟩:=et hsl hx
  obtain⟨hd,hdst⟩:=LT hcv
  simp only [zXi] at h
  subst h
  refine bS hs (v:=.string ⟨l.toArray⟩) (fD src dst x ho ?_) rfl
  rw [hv]
  simp [convert,run_underlying hd,run_underlying hdst]
 ·rename_i e l hcv hx
  have hv:a.eval x=.string ⟨l.toArray⟩:=et hsl hx
  obtain⟨hd,hdst,hu8⟩:=LU hcv
  simp only [zXi] at h
  subst h
  have hlen:l.length<=1073741824:=hc
  have hz:(ByteArray.mk l.toArray).size=l.length:=rfl
  have hrun:=Lib.run_convert_string_bytes (P:=P) w src dst e ⟨l.toArray⟩ hd hdst hu8
  have hge:=grownCap_ge w l.length 0 e
  have hle:=grownCap_le_maxLen w l.length 0 e (by unfold maxLen;omega)
  have hcells:(Lib.bytesCells w e ⟨l.toArray⟩).size=grownCap w l.length 0 e:=by
   simp only [Lib.bytesCells,hz,Rl,Array.size_map,Array.size_replicate]
   have:(ByteArray.mk l.toArray).data.size=l.length:=rfl
   rw [this]
   omega
  let p:Pl:=⟨w.heap.size,0,1,grownCap w l.length 0 e⟩
  have hlike:World.like w (Lib.bytesWorld w e ⟨l.toArray⟩):=⟨rfl,rfl,rfl⟩
  refine⟨β++[some p],Lib.bytesWorld w e ⟨l.toArray⟩,nI hs.len hlike (by rw [Lib.bytesWorld_size];omega) (fun k hk=>Lib.bytesWorld_at_old w e _ k hk) p _ (Qf _),
   qf hs (fun k hk=>Lib.bytesWorld_at_old w e _ k hk) (Qf _) ?_ (fun _ c hm=>by
    simp only [QZ] at hm
    obtain⟨b,_,rfl⟩:=hm
    rfl),.inl ⟨.slice (some ⟨w.heap.size,0,none⟩) l.length (grownCap w l.length 0 e),_,fD src dst x ho (by rw [hv];exact hrun),rfl,?_⟩⟩
  ·refine⟨rfl,_,_,_,Lib.bytesWorld_at_new w e _,?_,fun hown=>by cases hown⟩
   refine iF (fun c hm=>?_) fun k j c y hk hj=>?_
   ·simp only [QZ] at hm
    obtain⟨b,_,rfl⟩:=hm
    rfl
   simp only [Qx,Qu] at hk
   obtain⟨b,hb,rfl⟩:=hk
   have hj0:j=0:=by have:=(zG.1 hj).1;simpa [FA] using this
   subst hj0
   simp only [FA,Qi,zXi] at hj
   subst hj
   have hkl:k < l.length:=(zG.1 hb).1
   refine⟨.int .u8 b.toNat,?_,rfl⟩
   simp only [Nat.mul_one,QI,Lib.bytesCells]
   rw [QA (by simpa using hkl)]
   simp [hb]
  exact⟨_,_,rfl,hge,hle,.inr ⟨p,by rw [<-hs.len];simp,by simp [p],by simp [p]⟩⟩
 ·rename_i n off len hcv hx
  have hvx:eB β (.sl n off len) (a.eval x):=et hsl hx
  obtain⟨e,hsrc,hdst,hu8⟩:=GX hcv
  split at h
  ·rename_i ob hob
   split at h
   ·rename_i hesz
    simp only [zXi] at h
    subst h
    obtain⟨hb,hall⟩:off+len<=ob.cs.length/\∀ c∈ob.cs,nK c=true:=hc
    obtain⟨ad,cap,hxe,hlc,hcm,hor⟩:=hvx
    rcases hor with hcap|⟨p,hp,rfl,hav⟩
    ·have hl0:len=0:=zO
     subst hl0
     refine eH hs (v:=.string ⟨#[]⟩) (fD src dst x ho ?_) ?_
     ·rw [hxe]
      cases ad with
      |none=>exact run_convert_bytes_nil w src e hsrc hu8 0 cap dst hdst
      |some b=>
       rw [run_convert_bytes_string w src dst e _ 0 cap hsrc hu8 hdst,run_bytesToString w b 0 cap [] (by simp [loadCells,loadCellsFrom])]
       rfl
     show Value.string _=_
     simp
    obtain⟨he',arr,T,fz,hh,hcr,_⟩:=jp hs (du hob) hp
    rw [hesz] at hcr
    let num:List Sc->Int:=fun c=>match c with|[.int .u8 q]=>q|_=>0
    have hw:=run_convert_bytes_arg (P:=P) w src e hsrc hu8 p.blk (p.base+off*p.esz) len cap (((ob.cs.drop off).take len).map num) zS (fun i hi=>by
     obtain⟨c,y,v,h1,h2,h3,h4⟩:=uI hcr hb hi (j:=0) zO
     obtain⟨q,rfl,rfl⟩:=LR (hall c (Qk h1)) h2
     rw [mu hh,he',hesz]
     have h5:(((ob.cs.drop off).take len).map num).getD i 0=q:=by
      rw [zk,Qx,Ql hi,Qq,h1]
      rfl
     rw [h5]
     rw [show p.base+off*1+i=p.base+(off+i)*1+0 from by omega,h3,h4]) dst hdst
    refine eH hs (v:=.string (strOfNums (((ob.cs.drop off).take len).map num))) (fD src dst x ho (by rw [hxe];exact hw)) ?_
    show Value.string _=_
    congr 1
    unfold strOfNums
    congr 2
    rw [List.map_map]
    refine List.map_congr_left fun c hm=>?_
    have hb':=hall c (QD (QC hm))
    unfold nK at hb'
    split at hb'
    ·rfl
    cases hb'
   cases h
  cases h
 ·rename_i hcv hx
  obtain⟨ad,hxe⟩:eB β .nil (a.eval x):=et hsl hx
  obtain⟨e,hsrc,hdst,hu8⟩:=GX hcv
  simp only [zXi] at h
  subst h
  refine bS hs (v:=.string ⟨#[]⟩) (fD src dst x ho ?_) rfl
  rw [hxe]
  cases ad with
  |none=>exact run_convert_bytes_nil w src e hsrc hu8 0 0 dst hdst
  |some b=>
   rw [run_convert_bytes_string w src dst e _ 0 0 hsrc hu8 hdst,run_bytesToString w b 0 0 [] (by simp [loadCells,loadCellsFrom])]
   rfl
 cases h
theorem BW (hs:HSim β s.hp w) (hsl:SlotsR β s.sl a.tmps) (t:TypeId) (x y:Operand) (ho:o.op=.makeSlice t x y) (h:bX P s ty (.makeSlice t x y)=some r) (hc:r.c):ji β s r w ((execOp a.eval o).run P w):=by
 simp only [bX] at h
 split at h
 ·rename_i e sz he0
  obtain⟨he,_,rfl⟩:=iE he0
  split at h
  ·rename_i z hz0
   obtain⟨hz,hzl,hpos,_,hby,_⟩:=nJ hz0
   split at h
   ·rename_i k l k' c hx hy
    have hvx:a.eval x=.int k l:=et hsl hx
    have hvy:a.eval y=.int k' c:=et hsl hy
    simp only [zXi] at h
    subst h
    obtain⟨h0,h1,h2⟩:0<=l/\l<=c/\c<=1073741824:=hc
    obtain⟨i,v,vs,hi,hzv,hvc,hsc⟩:=kO hz
    have hr:=wE β hsc
    have hti:=wF hi
    have hvl:=hr.length
    have hbi:i.bytes<=131072:=by
     have:NX P e=i.bytes:=by simp [NX,hi]
     omega
    have hb2:(i.bytes:Int)*c<=281474976710656:=by
     obtain⟨m,rfl⟩:=Int.eq_ofNat_of_zero_le (show 0<=c by omega)
     have:i.bytes*m<=131072*m:=Qo _ hbi
     have h3:((i.bytes*m:Nat):Int)<=281474976710656:=zO
     rwa [Int.natCast_mul] at h3
    have hrun:=run_make (P:=P) w t e i v (ir he) hi hzv k k' l c h0 h1 hb2 zO
    refine rv hs (arr:=madeCells v.cells (c.toNat*i.size)) (v:=.slice (some ⟨w.heap.size,0,none⟩) l.toNat c.toNat) ?_ ?_ (fun h d hm=>by rw [QR hm];exact h) (Jx hs _ _ _ _ zO (by unfold maxLen;omega) ?_)
    ·unfold execOp
     rw [ho]
     simp only [hvx,hvy,Qb,hrun,P8]
     rfl
    ·refine iF (fun d hm=>by rw [QR hm];exact hzl) fun m j d q hk hj=>?_
     have hkl:m < l.toNat:=by have:=(zG.1 hk).1;simpa using this
     rw [Q1 hkl] at hk
     simp only [zXi] at hk
     subst hk
     obtain⟨u,hu,hru⟩:=hr.get hj
     have hjl:j < z.length:=(zG.1 hj).1
     refine⟨u,?_,hru⟩
     have hzs:vs.toArray.size=i.size:=by simp;omega
     have hg:=AB vs.toArray c.toNat m j zO zO
     rw [hzs] at hg
     unfold madeCells
     rw [hvc,hzs]
     show ((Array.range (c.toNat*i.size)).map (vs.toArray[· % i.size]!))[m*eM P e+j]? =_
     rw [hti,hg]
     simpa using hu
    show c.toNat*eM P e<=(madeCells v.cells (c.toNat*i.size)).size
    rw [size_madeCells,hti]
    exact Qf _
   cases h
  cases h
 cases h
theorem DJ {β:Be} {s:S} {a:Act} (hs:SlotsR β s.sl a.tmps) {x:Option Operand} {n:Option Int} (h:kN s x=some n):(x=none/\n=none)\/∃ k m,n=some m/\x.map a.eval=some (.int k m):=by
 cases x with
 |none=>simp only [kN,zXi] at h;exact .inl ⟨rfl,h.symm⟩
 |some x=>
  simp only [kN] at h
  split at h
  ·rename_i k m hx
   simp only [zXi] at h
   subst h
   have hv:a.eval x=.int k m:=et hs hx
   exact .inr ⟨k,m,rfl,by simp [hv]⟩
  cases h
theorem e8 (t:TypeId) (x:Operand) (lo hi:Option Operand) (ho:o.op=.slice t x lo hi none) {v:Value} {w':World} (h:(Instr.sliceAt t (a.eval x) (lo.map a.eval) (hi.map a.eval) none).run P w=.ok v w'):(execOp a.eval o).run P w=.ok (.value v) w':=by
 unfold execOp
 rw [ho]
 simp only [Rs,Qb,h,P8]
 rfl
theorem iu {t:TypeId} (ht:Fz P t=true) (l:List UInt8) (lo hi:Option Value) (m n:Nat) (hb:(Instr.sliceBounds false l.length l.length lo hi none).run P w=.ok (m,n,l.length) w):
  (Instr.sliceAt t (.string ⟨l.toArray⟩) lo hi none).run P w=.ok (.string ⟨((l.take n).drop m).toArray⟩) w:=by
 rw [run_sliceAt_string w t _ lo hi none (rr ht)]
 have hz:(ByteArray.mk l.toArray).size=l.length:=rfl
 simp only [Instr.slice,Qb,run_underlying (rr ht),P8,Option.isSome_none,Rj,if_false,Qm,hz,hb]
 congr 2
 apply ByteArray.ext
 apply Array.ext'
 simp [ByteArray.data_extract,List.extract_eq_take_drop,List.take_drop]
 by_cases hmn:m<=n
 ·rw [Nat.add_sub_cancel' hmn]
 rw [Q_ zS,Q_ zS]
theorem nr (b:Bool) (len cap:Nat):(Instr.sliceBounds b len cap none none none).run P w=.ok (0,len,cap) w:=by simp [Instr.sliceBounds]
theorem pJ (b:Bool) (len cap:Nat) (k:IntKind) (m:Int) (h0:0<=m) (h1:m<=len):(Instr.sliceBounds b len cap (some (.int k m)) none none).run P w=.ok (m.toNat,len,cap) w:=by
 simp [Instr.sliceBounds,run_sliceBound,h0,h1]
theorem pK (b:Bool) (len cap:Nat) (k:IntKind) (m:Int) (h0:0<=m) (h1:m<=cap):(Instr.sliceBounds b len cap none (some (.int k m)) none).run P w=.ok (0,m.toNat,cap) w:=by
 simp [Instr.sliceBounds,run_sliceBound,h0,h1]
theorem nu (b:Bool) (len cap:Nat) (k k':IntKind) (m n:Int) (h0:0<=m) (h1:m<=n) (h2:n<=cap):(Instr.sliceBounds b len cap (some (.int k m)) (some (.int k' n)) none).run P w=.ok (m.toNat,n.toNat,cap) w:=by
 have h3:0<=n:=zO
 have h4:m<=(n.toNat:Int):=zO
 have e1:=run_sliceBound (P:=P) w k m n.toNat .sliceB h0 h4
 have e2:∀ c,(Instr.sliceBound (.int k' n) cap c).run P w=.ok n.toNat w:=fun c=>run_sliceBound (P:=P) w k' n cap c h3 h2
 cases b<;>simp [Instr.sliceBounds,e1,e2]
theorem iQ {t e:TypeId} (ht:Nq P t=some e) (hk:fO P e=true) (ad:Option Addr) (len cap:Nat) (lo hi:Option Value) (m n:Nat) (hb:(Instr.sliceBounds true len cap lo hi none).run P w=.ok (m,n,cap) w):
  (Instr.sliceAt t (.slice ad len cap) lo hi none).run P w=.ok (sliced ad m n cap (eM P e)) w:=by
 have hel:P.elem t=e:=by simp [Program.elem,ir ht]
 have hu:P.underlying t=some (.slice (P.elem t)):=by rw [hel];exact ir ht
 rw [run_sliceAt_slice w t _ lo hi none hu]
 have:=run_slice_any w t ad len cap hu lo hi none
 rw [this,hb]
 simp only [P8,hel,dY w (jV hk)]
theorem rx {n off len esz:Nat} {ad:Option Addr} {cap m q:Nat} (hlc:len<=cap) (hcm:cap<=maxLen) (h:cap=0\/∃ p,β[n]? =some (some p)/\ad=some ⟨p.blk,p.base+off*p.esz,none⟩/\(off+cap)*p.esz<=p.avail)
  (hp:∀ p,β[n]? =some (some p)->p.esz=esz) (hmq:m<=q) (hq:q<=len):eB β (.sl n (off+m) (q - m)) (sliced ad m q cap esz):=by
 refine⟨_,cap - m,rfl,zO,zO,?_⟩
 by_cases hc:cap=m
 ·exact .inl zO
 rcases h with h|⟨p,hp',rfl,hav⟩
 ·exact .inl zO
 refine .inr ⟨p,hp',?_,?_⟩
 ·rw [if_neg hc,<-hp p hp']
  simp [Addr.add_lit,Qj,QU]
 rw [show off+m+(cap - m)=off+cap from by omega];exact hav
theorem JD (hs:HSim β s.hp w) (hsl:SlotsR β s.sl a.tmps) (t:TypeId) (x:Operand) (lo hi:Option Operand) (ho:o.op=.slice t x lo hi none) (h:bX P s ty (.slice t x lo hi none)=some r) (hc:r.c):ji β s r w ((execOp a.eval o).run P w):=by
 simp only [bX] at h
 split at h
 ·rename_i v lo' hi' hx hlo hhi
  have hlo':=DJ hsl hlo
  have hhi':=DJ hsl hhi
  split at h
  ·rename_i l
   have hv:a.eval x=.string ⟨l.toArray⟩:=et hsl hx
   split at h
   ·rename_i ht
    rcases hlo' with⟨rfl,rfl⟩|⟨k,m,rfl,hm⟩
    ·rcases hhi' with⟨rfl,rfl⟩|⟨k',n,rfl,hn⟩
     ·simp only [gx,zXi] at h
      subst h
      refine bS hs (e8 t x none none ho (by rw [hv];exact iu ht l none none 0 l.length (nr _ _ _))) ?_
      show Value.string _=_
      simp
     simp only [gx,zXi] at h
     subst h
     obtain⟨h0,h1⟩:0<=n/\n<=l.length:=hc
     refine eH hs (e8 t x none hi ho (by rw [hv,hn];exact iu ht l none _ 0 n.toNat (pK _ _ _ _ _ h0 h1))) ?_
     show Value.string _=_
     simp
    rcases hhi' with⟨rfl,rfl⟩|⟨k',n,rfl,hn⟩
    ·simp only [gx,zXi] at h
     subst h
     obtain⟨h0,h1⟩:0<=m/\m<=l.length:=hc
     refine eH hs (e8 t x lo none ho (by rw [hv,hm];exact iu ht l _ none m.toNat l.length (pJ _ _ _ _ _ h0 h1))) ?_
     show Value.string _=_
     simp
    simp only [gx,zXi] at h
    subst h
    obtain⟨h0,h1,h2⟩:0<=m/\m<=n/\n<=l.length:=hc
    refine eH hs (e8 t x lo hi ho (by rw [hv,hm,hn];exact iu ht l _ _ m.toNat n.toNat (nu _ _ _ _ _ _ _ h0 h1 h2))) ?_
    rfl
   cases h
  ·rename_i n off len
   have hvx:eB β (.sl n off len) (a.eval x):=et hsl hx
   split at h
   ·rename_i e sz ob he0 hob
    obtain⟨he,hkn,rfl⟩:=iE he0
    split at h
    ·rename_i hesz
     obtain⟨ad,cap,hxe,hlc,hcm,hor⟩:=hvx
     have hp:∀ p,β[n]? =some (some p)->p.esz=eM P e:=fun p hp=>by
      obtain⟨he',_⟩:=jp hs (du hob) hp
      rw [he',hesz]
     rcases hlo' with⟨rfl,rfl⟩|⟨k,m,rfl,hm⟩
     ·rcases hhi' with⟨rfl,rfl⟩|⟨k',q,rfl,hn⟩
      ·simp only [gx,zXi] at h
       subst h
       refine bS hs (e8 t x none none ho (by rw [hxe];exact iQ he hkn ad len cap none none 0 len (nr _ _ _))) ?_
       have:=rx (m:=0) (q:=len) hlc hcm hor hp (QL _) (Qf _)
       show eB β (Sc.sl n off len) _
       simpa using this
      simp only [gx,zXi] at h
      subst h
      obtain⟨h0,h1⟩:0<=q/\q<=len:=hc
      refine eH hs (e8 t x none hi ho (by rw [hxe,hn];exact iQ he hkn ad len cap none _ 0 q.toNat (pK _ _ _ _ _ h0 zO))) ?_
      have:=rx (m:=0) (q:=q.toNat) hlc hcm hor hp (QL _) zO
      show eB β (Sc.sl n off q.toNat) _
      simpa using this
     rcases hhi' with⟨rfl,rfl⟩|⟨k',q,rfl,hn⟩
     ·simp only [gx,zXi] at h
      subst h
      obtain⟨h0,h1⟩:0<=m/\m<=len:=hc
      refine eH hs (e8 t x lo none ho (by rw [hxe,hm];exact iQ he hkn ad len cap _ none m.toNat len (pJ _ _ _ _ _ h0 h1))) ?_
      exact rx hlc hcm hor hp zO (Qf _)
     simp only [gx,zXi] at h
     subst h
     obtain⟨h0,h1,h2⟩:0<=m/\m<=q/\q<=len:=hc
     refine eH hs (e8 t x lo hi ho (by rw [hxe,hm,hn];exact iQ he hkn ad len cap _ _ m.toNat q.toNat (nu _ _ _ _ _ _ _ h0 h1 zO))) ?_
     exact rx hlc hcm hor hp zO zO
    cases h
   cases h
  cases h
 cases h
end
end
section
open Go.RowKit
section
variable {P:Program} {β:Be} {s:S} {a:Act} {w:World} {o:Oper} {r:OpR} {ty:TypeId}
theorem iv {t e:TypeId} (ht:Nq P t=some e) (hi:(P.info? e).isSome=true) (ty:TypeId) (ad ad':Option Addr) (n c' c:Nat) (h:n<=c'):
  (Builtin.append_ #[t,t] ty #[.slice ad' n c',.slice ad 0 c]).run P w=.ok (.slice ad' n c') w:=by
 obtain⟨i,hi⟩:=QE.1 hi
 cases ad<;>cases ad'<;>simp [Builtin.append_,run_underlying (ir ht),sizeOf,typeInfo,hi,Builtin.lenOf,h,Builtin.firstCells,loadCells,loadCellsFrom,storeCells]
theorem nM {arr:Array Value} {base esz:Nat} {cs:List (List Sc)} (hc:eN β arr base esz cs) (off len:Nat) (hb:off+len<=cs.length):
  ∃ news:List Value,news.length=len*esz/\(∀ j u,news[j]? =some u->arr[base+off*esz+j]? =some u)/\(∀ u∈news,u.oneCell'=true)/\
   (∀ k c,((cs.drop off).take len)[k]? =some c->c.length=esz/\∀ j x,c[j]? =some x->∃ v,news[k*esz+j]? =some v/\eB β x v):=by
 have key:∀ i,i < len*esz->∃ v x,arr[base+off*esz+i]? =some v/\eB β x v:=by
  intro i hi
  have hpos:0 < esz:=by
   rcases Nat.eq_zero_or_pos esz with h|h
   ·subst h;simp at hi
   exact h
  have hk:i / esz < len:=Nat.div_lt_of_lt_mul (by rw [Rh];exact hi)
  obtain⟨c,x,v,_,_,h3,h4⟩:=uI hc hb hk (RD i hpos)
  refine⟨v,x,?_,h4⟩
  rw [<-h3]
  congr 1
  have:=Nat.div_add_mod i esz
  rw [Qj]
  rw [Rh esz] at this
  omega
 refine⟨(List.range (len*esz)).map fun i=>(arr[base+off*esz+i]?).getD undef,zP,?_,?_,?_⟩
 ·intro j u hu
  have hj:j < len*esz:=by have:=(zG.1 hu).1;simpa using this
  simp only [Qx,QM hj,Qr,zXi] at hu
  obtain⟨v,x,hv,_⟩:=key j hj
  rw [hv] at hu⊢
  simpa using hu
 ·intro u hu
  simp only [QZ,QT] at hu
  obtain⟨i,hi,rfl⟩:=hu
  obtain⟨v,x,hv,hr⟩:=key i hi
  rw [hv]
  exact hr.one
 intro k c hk
 have hkl:k < len:=by have:=(zG.1 hk).1;simp at this;omega
 rw [Ql hkl,Qq] at hk
 obtain⟨hl,hcell⟩:=hc _ _ hk
 refine⟨hl,fun j x hj=>?_⟩
 obtain⟨v,hv,hr⟩:=hcell j x hj
 have hjl:j < esz:=by have:=(zG.1 hj).1;omega
 have hlt:k*esz+j < len*esz:=by
  have:(k+1)*esz<=len*esz:=Qo _ hkl
  rw [Qj] at this
  omega
 refine⟨v,?_,hr⟩
 simp only [Qx,QM hlt,Qr]
 rw [show base+off*esz+(k*esz+j)=base+(off+k)*esz+j from by rw [Qj];omega,hv]
 rfl
theorem lP {arr:Array Value} {esz:Nat} {cs ds:List (List Sc)} {olds news:List Value} (ho:olds.length=cs.length*esz)
  (h1:∀ (k:Nat) (c:List Sc),cs[k]? =some c->c.length=esz/\∀ (j:Nat) (x:Sc),c[j]? =some x->∃ v,olds[k*esz+j]? =some v/\eB β x v)
  (h2:∀ (k:Nat) (c:List Sc),ds[k]? =some c->c.length=esz/\∀ (j:Nat) (x:Sc),c[j]? =some x->∃ v,news[k*esz+j]? =some v/\eB β x v)
  (ha:∀ (i:Nat) (v:Value),(olds++news)[i]? =some v->arr[i]? =some v):eN β arr 0 esz (cs++ds):=by
 intro k c hk
 rcases Qs k cs.length with hlt|hge
 ·rw [P6 hlt] at hk
  obtain⟨hl,hc⟩:=h1 k c hk
  refine⟨hl,fun j x hj=>?_⟩
  obtain⟨v,hv,hr⟩:=hc j x hj
  refine⟨v,?_,hr⟩
  rw [Qn]
  refine ha _ _ ?_
  rw [P6 (zG.1 hv).1]
  exact hv
 rw [P9 hge] at hk
 obtain⟨hl,hc⟩:=h2 _ c hk
 refine⟨hl,fun j x hj=>?_⟩
 obtain⟨v,hv,hr⟩:=hc j x hj
 refine⟨v,?_,hr⟩
 rw [Qn]
 refine ha _ _ ?_
 have e:k*esz+j=olds.length+((k - cs.length)*esz+j):=by
  have:k*esz=(cs.length+(k - cs.length))*esz:=by congr 1;omega
  rw [Qj] at this
  omega
 rw [e,P9 zO,Q8]
 exact hv
theorem FH (hl:β.length=s.hp.length) (n:Nat):StepR β β s.hp (s.hp.set n none) w w:=
 ⟨Be.le.refl _,rfl,rfl,rfl,Qf _,fun _ _ _=>rfl,zP,fun o ob' hlt ho=>by
  rw [Qv] at ho
  split at ho
  ·split at ho<;>cases ho
  ·exact⟨ob',ho,id⟩,fun o ob p hge ho _=>by
  rw [Qc (by simpa using hge)] at ho
  cases ho⟩
theorem jq {h:Hp} {n:Nat} {new:AObj} {o:Nat} {x:AObj} (hx:(h.set n none++[some new])[o]? =some (some x)):(o < h.length/\o≠n/\h[o]? =some (some x))\/(o=h.length/\x=new):=by
 have hl:(h.set n none).length=h.length:=by simp
 rcases QB o h.length with hlt|he|hgt
 ·rw [P6 zO,Qv] at hx
  split at hx
  ·split at hx<;>cases hx
  rename_i hne
  exact .inl ⟨hlt,Ne.symm hne,hx⟩
 ·subst he
  rw [P9 zO] at hx
  simp at hx
  exact .inr ⟨rfl,hx.symm⟩
 rw [P9 zO,Qc zS] at hx
 cases hx
theorem wI {h:Hp} (hs:HSim β h w) {n:Nat} {ob:AObj} {p:Pl} (ho:h[n]? =some (some ob)) (hown:ob.own=true) (hp:β[n]? =some (some p)) {w':World} {arr':Array Value} {T:TypeId}
  (hh:w'.heap[p.blk]? =some (.cells arr' T (0,0))) (hk:∀ k,k≠p.blk->w'.heap[k]? =w.heap[k]?) (new:AObj) (he:p.esz=new.esz) (hc:eN (β++[some p]) arr' 0 new.esz new.cs) (hT:T=new.ty) (hbase:p.base=0) (hav:p.avail=arr'.size) (hfl:new.fl=true->FlatL new.cs):
  HSim (β++[some p]) (h.set n none++[some new]) w':=by
 have hle:=Be.le_append β [some p]
 have kb:∀ {o:Nat} {q:Option Pl},o < h.length->(β++[some p])[o]? =some q->β[o]? =some q:=by
  intro o q ho hq
  rwa [P6 (by rw [hs.len];exact ho)] at hq
 have kn:(β++[some p])[h.length]? =some (some p):=by rw [<-hs.len];simp
 refine⟨by simp [hs.len],fun o x hx=>?_,fun o x hx hf=>by rcases jq hx with⟨_,_,hx⟩|⟨_,rfl⟩;exact hs.flat o x hx hf;exact hfl hf,fun o o' x x' q q' hx hx' hxo hq hq' hne=>?_⟩
 ·rcases jq hx with⟨hlt,hne,hx⟩|⟨rfl,rfl⟩
  ·obtain⟨q,hq,hr⟩:=hs.ob o x hx
   refine⟨q,hle _ _ hq,(hr.world fun q' hq'=>?_).mono hle⟩
   subst hq'
   exact hk _ (hs.apart n o ob x p q' ho hx hown hp hq (Ne.symm hne)).symm
  exact⟨some p,kn,he,arr',T,(0,0),hh,by rw [hbase];exact hc,fun _=>⟨hT,rfl,hbase,hav⟩⟩
 rcases jq hx with⟨hlt,h1,h1'⟩|⟨rfl,rfl⟩
 ·rcases jq hx' with⟨hlt',h2,h2'⟩|⟨rfl,rfl⟩
  ·exact hs.apart o o' x x' q q' h1' h2' hxo (kb hlt hq) (kb hlt' hq') hne
  rw [kn] at hq'
  simp only [zXi] at hq'
  subst hq'
  exact (hs.apart n o ob x p q ho h1' hown hp (kb hlt hq) (Ne.symm h1)).symm
 rw [kn] at hq
 simp only [zXi] at hq
 subst hq
 rcases jq hx' with⟨hlt',h2,h2'⟩|⟨rfl,rfl⟩
 ·exact hs.apart n o' ob x' p q' ho h2' hown hp (kb hlt' hq') (Ne.symm h2)
 exact absurd rfl hne
theorem uJ {h:Hp} (hs:HSim β h w) {n:Nat} (hn:n < h.length) {ob:AObj} {p:Pl} (ho:h[n]? =some (some ob)) (hown:ob.own=true) (hp:β[n]? =some (some p)) {w':World}
  (hlike:World.like w w') (hsz:w.heap.size<=w'.heap.size) (hk:∀ k,k≠p.blk->w'.heap[k]? =w.heap[k]?) (new:AObj):StepR β (β++[some p]) h (h.set n none++[some new]) w w':=
 ⟨Be.le_append _ _,hlike.1,hlike.2.1,hlike.2.2,hsz,fun k _ hno=>hk k (fun hb=>hno ⟨n,ob,p,ho,hown,hp,hb.symm⟩),zP,fun o ob' hlt ho'=>by
  rcases jq ho' with⟨_,_,h1⟩|⟨rfl,_⟩
  ·exact⟨ob',h1,id⟩
  ·omega,fun o ob' q hge ho' hq=>by
  rcases jq ho' with⟨h1,_,_⟩|⟨rfl,_⟩
  ·omega
  rw [<-hs.len] at hq
  simp at hq
  subst hq
  exact .inl ⟨n,ob,p,ho,hown,hp,rfl⟩⟩
theorem eC (x y:Operand) (t:TypeId) (ho:o.op=.call ⟨.builtin .append,#[x,y],#[t,t]⟩) {v:Value} {w':World} (h:(Builtin.append_ #[t,t] o.type #[a.eval x,a.eval y]).run P w=.ok v w'):(execOp a.eval o).run P w=.ok (.value v) w':=by
 unfold execOp
 rw [ho]
 simp only [resolve,invoke,builtin,Qb,Qm,P8,Ro,Q4,Ri,h]
theorem AC {h h':Hp} (hs:HSim β h w) (hs':HSim β h' w) (hst:StepR β β h h' w w) {t e:TypeId} {i:TypeInfo} {z:Value} (ht:Nq P t=some e) (hi:P.info? e=some i) (hz:i.zero=some z) (hzs:z.cells.size=i.size)
  {ad':Option Addr} {n cap':Nat} {olds:List Value} (hlo:olds.length=n*i.size) (holds:(ad'=none/\n=0)\/∃ b,ad'=some b/\∀ j v,olds[j]? =some v->w.cell? (b.add j)=some v) (hnn:ad'=none->n=0/\cap'=0)
  {b:Addr} {m c:Nat} {news:List Value} (hl:news.length=m*i.size) (hnews:∀ j v,news[j]? =some v->w.cell? (b.add j)=some v) (hg:cap' < n+m) (hm:0 < m) (hsm:n+m<=1073741824) (hby:i.bytes<=131072)
  {cs:List (List Sc)} {fl:Bool} (hcs:eN β (olds++news).toArray 0 i.size cs) (hfl:fl=true->FlatL cs) (ty:TypeId):
  ∃ β' w' v,(Builtin.append_ #[t,t] ty #[.slice ad' n cap',.slice (some b) m c]).run P w=.ok v w'/\StepR β β' h (h'++[some ⟨cs,i.size,e,true,fl⟩]) w w'/\HSim β' (h'++[some ⟨cs,i.size,e,true,fl⟩]) w'/\eB β' (.sl h'.length 0 (n+m)) v:=by
 have hbytes:(n+m)*i.bytes<=140737488355328:=by
  have:(n+m)*i.bytes<=1073741824*131072:=Rx hsm hby
  omega
 have hge:=grownCap_ge w (n+m) cap' e
 have hcm:grownCap w (n+m) cap' e<=maxLen:=grownCap_le_maxLen w (n+m) cap' e (by unfold maxLen;omega)
 have hrun:(Builtin.append_ #[t,t] ty #[.slice ad' n cap',.slice (some b) m c]).run P w=
   .ok (.slice (some ⟨w.heap.size,0,none⟩) (n+m) (grownCap w (n+m) cap' e)) (w.drew.alloc (.cells (olds.toArray++news.toArray++Builtin.zeroCells z.cells (grownCap w (n+m) cap' e - (n+m))) e)):=by
  cases ad' with
  |none=>
   obtain⟨rfl,rfl⟩:=hnn rfl
   have ho0:olds=[]:=QH (by simpa using hlo)
   subst ho0
   have:=run_append_nil (P:=P) w t ty e i z (ir ht) hi hz b m c news hl hnews hm zO (by have hb:=hbytes;simp only [Qn] at hb;omega)
   simp only [Qn,Array.empty_append] at this⊢
   exact this
  |some b'=>
   rcases holds with⟨h0,_⟩|⟨b'',hb'',hold⟩
   ·cases h0
   cases hb''
   exact run_append_grow (P:=P) w t ty e i z (ir ht) hi hz b' n cap' olds hlo hold b m c news hl hnews hg zO (growslice_fits hg hbytes)
 let arr:Array Value:=olds.toArray++news.toArray++Builtin.zeroCells z.cells (grownCap w (n+m) cap' e - (n+m))
 have hsize:arr.size=grownCap w (n+m) cap' e*i.size:=by
  show (olds.toArray++news.toArray++Builtin.zeroCells z.cells (grownCap w (n+m) cap' e - (n+m))).size=_
  simp only [Rl,List.size_toArray,size_zeroCells,hzs,hlo,hl,<-Qj]
  congr 1
  omega
 let p:Pl:=⟨w.heap.size,0,i.size,arr.size⟩
 let w':World:=w.drew.alloc (.cells arr e)
 have hle:=Be.le_append β [some p]
 have hlike:World.like w w':=⟨rfl,rfl,rfl⟩
 have hold':∀ k,k < w.heap.size->w'.heap[k]? =w.heap[k]? :=fun k hk=>(by first|exact heap_alloc_old w.drew _ k hk|exact heap_alloc_old w.drew _ hk)
 have hca:eN β arr 0 i.size cs:=by
  intro k c hk
  obtain⟨h1,h2⟩:=hcs k c hk
  refine⟨h1,fun j x hj=>?_⟩
  obtain⟨v,hv,hr⟩:=h2 j x hj
  refine⟨v,?_,hr⟩
  have hv':(olds.toArray++news.toArray)[0+k*i.size+j]? =some v:=by
   rw [List.append_toArray];exact hv
  show (olds.toArray++news.toArray++Builtin.zeroCells z.cells (grownCap w (n+m) cap' e - (n+m)))[0+k*i.size+j]? =some v
  rw [QA (Qg.1 hv').1]
  exact hv'
 have hsz':w.heap.size<=w'.heap.size:=by
  show w.heap.size<=(w.drew.alloc _).heap.size
  simp
 refine⟨β++[some p],w',_,hrun,?_,?_,?_⟩
 ·exact StepR.trans hs.len hs'.len hst (nI hs'.len hlike hsz' hold' p _ (Qf _))
 ·exact qf hs' hold' (Qf _) ⟨rfl,arr,e,(0,0),heap_alloc_new w.drew _,hca.mono hle,fun _=>⟨rfl,rfl,rfl,rfl⟩⟩ hfl
 exact⟨_,_,rfl,hge,hcm,.inr ⟨p,by rw [<-hs'.len];simp,by simp [p],by simp [p,hsize]⟩⟩
theorem Ic (hs:HSim β s.hp w) (hsl:SlotsR β s.sl a.tmps) (args:Array Operand) (at_:Array TypeId) (ho:o.op=.call ⟨.builtin .append,args,at_⟩) (h:bX P s ty (.call ⟨.builtin .append,args,at_⟩)=some r) (hc:r.c):ji β s r w ((execOp a.eval o).run P w):=by
 simp only [bX] at h
 split at h
 ·rename_i x y t t' ha ht
  have ha':=lm ha
  have ht':=lm ht
  subst ha';subst ht'
  split at h
  ·rename_i htt
   subst htt
   split at h
   ·rename_i u v hx hy
    have hvx:=et hsl hx
    have hvy:=et hsl hy
    unfold oS at h
    split at h
    ·cases h
    rename_i e sz he0
    obtain⟨he,_,rfl⟩:=iE he0
    split at h
    ·cases h
    rename_i z hz0
    obtain⟨hz,hzl,hpos,_,hby,_⟩:=nJ hz0
    obtain⟨i,zv,zs,hi,hzv,hvc,hsc⟩:=kO hz
    have hti:=wF hi
    have hinfo:(P.info? e).isSome=true:=by simp [hi]
    have hzs:zv.cells.size=i.size:=by
     have:=(wE β hsc).length
     rw [hvc];simp;omega
    have hby':i.bytes<=131072:=by
     have:NX P e=i.bytes:=by simp [NX,hi]
     omega
    split at h
    ·
     rename_i n off len
     simp only [zXi] at h
     subst h
     have hv1:eB β (.sl n off len) (a.eval x):=hvx
     obtain⟨ad,hye⟩:eB β .nil (a.eval y):=hvy
     obtain⟨ad',cap',hxe,hlc,hrest⟩:=hv1
     exact bS hs (eC x y t ho (by rw [hxe,hye];exact iv he hinfo _ _ _ _ _ _ hlc)) ⟨ad',cap',rfl,hlc,hrest⟩
    ·simp only [zXi] at h
     subst h
     obtain⟨ad',hxe⟩:eB β .nil (a.eval x):=hvx
     obtain⟨ad,hye⟩:eB β .nil (a.eval y):=hvy
     exact bS hs (eC x y t ho (by rw [hxe,hye];exact iv he hinfo _ _ _ _ _ _ (Qf _))) ⟨ad',rfl⟩
    ·rename_i n off len
     obtain⟨ad',hxe⟩:eB β .nil (a.eval x):=hvx
     obtain⟨ad,cap,hye,hlc,hcm,hor⟩:eB β (.sl n off len) (a.eval y):=hvy
     split at h
     ·rename_i ob hob
      split at h
      ·rename_i hesz
       simp only [zXi] at h
       subst h
       obtain⟨hb,hsm⟩:off+len<=ob.cs.length/\len<=1073741824:=hc
       by_cases hl0:len=0
       ·subst hl0
        refine⟨β++[none],w,?_,Av hs zP,.inl ⟨_,_,eC x y t ho (by rw [hxe,hye];exact iv he hinfo _ _ _ _ _ _ (Qf _)),rfl,⟨ad',0,rfl,Qf _,QL _,.inl rfl⟩⟩⟩
        exact⟨Be.le_append _ _,rfl,rfl,rfl,Qf _,fun _ _ _=>rfl,zP,fun o ob' hlt ho=>by
         rw [P6 hlt] at ho;exact⟨ob',ho,id⟩,fun o ob' q hge ho hq=>by
         exfalso
         have he:o=s.hp.length:=by
          rcases QB o s.hp.length with h1|h1|h1
          ·omega
          ·exact h1
          rw [P9 zO,Qc zS] at ho;cases ho
         subst he
         rw [<-hs.len] at hq
         simp at hq⟩
       rcases hor with hcap|⟨p,hp,rfl,hav⟩
       ·omega
       obtain⟨he',arr,T,fz,hh,hcr,_⟩:=jp hs (du hob) hp
       obtain⟨news,hnl,hnc,hn1,hnr⟩:=nM hcr off len hb
       rw [hesz,hti] at hnl hnr hnc
       obtain⟨β',w',v,hrun,hst,hsim,hr⟩:=AC (P:=P) hs hs (StepR.refl β s.hp w hs.len) he hi hzv hzs (ad':=ad') (n:=0) (cap':=0) (olds:=[]) zP (by
        cases ad' with
        |none=>exact .inl ⟨rfl,rfl⟩
        |some b=>exact .inr ⟨b,rfl,zP⟩) (fun _=>⟨rfl,rfl⟩) (b:=⟨p.blk,p.base+off*p.esz,none⟩) (m:=len) (c:=cap) hnl (fun j u hu=>by
         rw [Addr.add_lit,mu hh,he',hesz,hti];exact hnc j u hu) zO zO zO hby' (cs:=(ob.cs.drop off).take len) (by
         have:=lP (arr:=([]++news).toArray) (cs:=[]) (ds:=(ob.cs.drop off).take len) (olds:=[]) (news:=news) (esz:=i.size) zP zP hnr (fun i v hv=>by simpa using hv)
         simpa using this) (fl:=ob.fl) (fun hf c hm=>hs.flat n ob (du hob) hf c (QD (QC hm))) o.type
       rw [Qn] at hr
       refine⟨β',w',?_,?_,.inl ⟨v,_,eC x y t ho (by rw [hxe,hye];exact hrun),rfl,hr⟩⟩
       ·rw [hti];exact hst
       rw [hti];exact hsim
      cases h
     cases h
    ·rename_i n' off' len' n off len
     obtain⟨ad',cap',hxe,hlc',hcm',hor'⟩:eB β (.sl n' off' len') (a.eval x):=hvx
     obtain⟨ad,cap,hye,hlc,hcm,hor⟩:eB β (.sl n off len) (a.eval y):=hvy
     split at h
     ·rename_i ob' ob hob' hob
      split at h
      ·rename_i hcond2
       obtain⟨hesz,hesz',hown,hty,hoff,hne⟩:=hcond2
       subst hoff
       simp only [zXi] at h
       subst h
       obtain⟨hcl,hb,hsm⟩:ob'.cs.length=len'/\off+len<=ob.cs.length/\len'+len<=1073741824:=hc
       have hflat:(ob'.fl && ob.fl)=true->FlatL (ob'.cs++(ob.cs.drop off).take len):=fun hf c hm=>by
        simp only [P7] at hf
        rcases QQ.1 hm with hm|hm
        ·exact hs.flat n' ob' (du hob') hf.1 c hm
        exact hs.flat n ob (du hob) hf.2 c (QD (QC hm))
       have hkill:=H5 hs n'
       have hstk:=FH (w:=w) hs.len n' (s:=s)
       have hlen':(s.hp.set n' none).length=s.hp.length:=by simp
       have hn':n' < s.hp.length:=(zG.1 (du hob')).1
       have hplace:(cap'=0/\len'=0/\ob'.cs=[])\/∃ p',β[n']? =some (some p')/\ad'=some ⟨p'.blk,p'.base+0*p'.esz,none⟩/\(0+cap')*p'.esz<=p'.avail:=by
        rcases hor' with h0|h0
        ·exact .inl ⟨h0,zO,QH zO⟩
        exact .inr h0
       by_cases hl0:len=0
       ·subst hl0
        have hrun:=iv (P:=P) (w:=w) he hinfo o.type ad ad' len' cap' cap hlc'
        rcases hplace with⟨hc0,hl0',hcs0⟩|⟨p',hp',had',hav'⟩
        ·subst hc0;subst hl0'
         refine⟨β++[none],w,?_,Av hkill (by simp [hcs0]),.inl ⟨_,_,eC x y t ho (by rw [hxe,hye];exact hrun),rfl,⟨ad',0,rfl,Qf _,QL _,.inl rfl⟩⟩⟩
         refine StepR.trans hs.len hkill.len hstk ⟨Be.le_append _ _,rfl,rfl,rfl,Qf _,fun _ _ _=>rfl,zP,fun o ob' hlt ho=>by
          rw [P6 hlt] at ho;exact⟨ob',ho,id⟩,fun o ob' q hge ho hq=>by
          exfalso
          have he:o=(s.hp.set n' none).length:=by
           rcases QB o (s.hp.set n' none).length with h1|h1|h1
           ·omega
           ·exact h1
           rw [P9 zO,Qc (by simp at h1⊢;omega)] at ho;cases ho
          subst he
          rw [<-hkill.len] at hq
          simp at hq⟩
        obtain⟨he',arr,T,fz,hh,hcr,hown'⟩:=jp hs (du hob') hp'
        obtain⟨hT,hf0,hbase,hav⟩:=hown' hown
        subst hf0
        have hcr':eN β arr 0 (eM P e) (ob'.cs++(ob.cs.drop off).take 0):=by
         rw [Ry,Rt,<-hesz',<-hbase];exact hcr
        refine⟨β++[some p'],w,?_,?_,.inl ⟨_,_,eC x y t ho (by rw [hxe,hye];exact hrun),rfl,?_⟩⟩
        ·exact uJ hs hn' (du hob') hown hp' (w':=w) ⟨rfl,rfl,rfl⟩ (Qf _) (fun k _=>rfl) _
        ·exact wI hs (du hob') hown hp' (w':=w) (arr':=arr) (T:=T) (by simpa using hh) (fun k _=>rfl) ⟨_,eM P e,e,true,ob'.fl && ob.fl⟩ (by rw [he',hesz']) (hcr'.mono (Be.le_append _ _)) (by rw [hT,hty]) hbase hav hflat
        refine⟨ad',cap',by rw [QI],zO,hcm',.inr ⟨p',by rw [<-hs.len];simp,had',hav'⟩⟩
       rcases hor with hcap|⟨p,hp,rfl,hav⟩
       ·omega
       obtain⟨hep,arr,T,fz,hh,hcr,_⟩:=jp hs (du hob) hp
       obtain⟨news,hnl,hnc,hn1,hnr⟩:=nM hcr off len hb
       rw [hesz] at hnl hnr hnc
       have hnews:∀ j u,news[j]? =some u->w.cell? ((⟨p.blk,p.base+off*p.esz,none⟩:Addr).add j)=some u:=fun j u hu=>by
        rw [Addr.add_lit,mu hh,hep,hesz];exact hnc j u hu
       by_cases hroom:len'+len<=cap'
       ·rcases hplace with⟨hc0,_,_⟩|⟨p',hp',had',hav'⟩
        ·omega
        obtain⟨hep',arr',T',fz',hh',hcr',hown'⟩:=jp hs (du hob') hp'
        obtain⟨hT,hf0,hbase,havl⟩:=hown' hown
        subst hf0
        have hfit:len'*i.size+news.length<=arr'.size:=by
         have h1:(len'+len)*i.size<=cap'*i.size:=Qo _ hroom
         rw [Qj] at h1
         rw [Qn,hep',hesz',hti] at hav'
         rw [hnl,hti]
         omega
        have hrun:=run_append_room (P:=P) w t o.type e i (ir he) hi p'.blk len' cap' arr' (by rw [<-hT.trans hty];exact hh') ⟨p.blk,p.base+off*p.esz,none⟩ len cap news (by rw [hnl,hti]) hnews hn1 hroom hfit
        let arr2:Array Value:=(arr'.toList.take (len'*i.size)++news++arr'.toList.drop (len'*i.size+news.length)).toArray
        have hsz2:arr2.size=arr'.size:=by
         show ((arr'.toList.take (len'*i.size)++news++arr'.toList.drop (len'*i.size+news.length)).toArray).size=_
         simp
         omega
        have hcr2:eN β arr2 0 (eM P e) (ob'.cs++(ob.cs.drop off).take len):=by
         refine lP (olds:=arr'.toList.take (len'*i.size)) (news:=news) ?_ ?_ hnr ?_
         ·simp
          rw [hcl,hti]
          omega
         ·intro k c hk
          obtain⟨h1,h2⟩:=hcr' k c hk
          refine⟨by rw [h1,hesz'],fun j q hj=>?_⟩
          obtain⟨v,hv,hr⟩:=h2 j q hj
          refine⟨v,?_,hr⟩
          rw [hbase,Qn,hesz'] at hv
          have hkl:k < len':=by rw [<-hcl];exact (zG.1 hk).1
          have hjl:j < eM P e:=by have:=(zG.1 hj).1;omega
          have:k*eM P e+j < len'*i.size:=by
           have h3:(k+1)*eM P e<=len'*eM P e:=Qo _ hkl
           rw [Qj] at h3
           rw [<-hti]
           omega
          rw [Ql this,Qz]
          exact hv
         intro q v hv
         show ((arr'.toList.take (len'*i.size)++news++arr'.toList.drop (len'*i.size+news.length)).toArray)[q]? =some v
         rw [QJ,P6 (zG.1 hv).1]
         exact hv
        refine⟨β++[some p'],w.setRow p'.blk arr2,?_,?_,.inl ⟨_,_,eC x y t ho (by rw [hxe,hye,had',hbase,Nat.zero_mul];exact hrun),rfl,?_⟩⟩
        ·exact uJ hs hn' (du hob') hown hp' (w':=w.setRow p'.blk arr2) ⟨rfl,rfl,rfl⟩ zP (fun k hk=>setRow_other w p'.blk k arr2 hk) _
        ·exact wI hs (du hob') hown hp' (w':=w.setRow p'.blk arr2) (arr':=arr2) (T:=T') (setRow_heap w p'.blk arr' arr2 T' _ hh') (fun k hk=>setRow_other w p'.blk k arr2 hk) ⟨_,eM P e,e,true,ob'.fl && ob.fl⟩ (by rw [hep',hesz']) (hcr2.mono (Be.le_append _ _)) (by rw [hT,hty]) hbase (by rw [hsz2];exact havl) hflat
        refine⟨_,cap',rfl,hroom,hcm',.inr ⟨p',by rw [<-hs.len];simp,by rw [hbase];simp,hav'⟩⟩
       have hold:∃ olds:List Value,olds.length=len'*i.size/\((ad'=none/\len'=0)\/∃ b,ad'=some b/\∀ j v,olds[j]? =some v->w.cell? (b.add j)=some v)/\(ad'=none->len'=0/\cap'=0)/\
         (∀ (k:Nat) (c:List Sc),ob'.cs[k]? =some c->c.length=i.size/\∀ (j:Nat) (x:Sc),c[j]? =some x->∃ v,olds[k*i.size+j]? =some v/\eB β x v):=by
        rcases hplace with⟨hc0,hl0',hcs0⟩|⟨p',hp',had',hav'⟩
        ·refine⟨[],by simp [hl0'],?_,fun _=>⟨hl0',hc0⟩,by simp [hcs0]⟩
         cases ad' with
         |none=>exact .inl ⟨rfl,hl0'⟩
         |some b=>exact .inr ⟨b,rfl,zP⟩
        obtain⟨hep',arr',T',fz',hh',hcr',_⟩:=jp hs (du hob') hp'
        obtain⟨olds,h1,h2,h3,h4⟩:=nM hcr' 0 len' zO
        rw [hesz',hti] at h1 h2 h4
        refine⟨olds,h1,.inr ⟨_,had',fun j v hv=>?_⟩,(fun hn=>by rw [had'] at hn;cases hn),?_⟩
        ·rw [Addr.add_lit,mu hh',hep',hesz',hti];exact h2 j v hv
        rw [Rz,List.take_of_length_le zO] at h4
        exact h4
       obtain⟨olds,hol,holds,hnn,hor2⟩:=hold
       rw [hti] at hnl hnr
       obtain⟨β',w',v,hrun,hst,hsim,hr⟩:=AC (P:=P) hs hkill hstk he hi hzv hzs hol holds hnn hnl hnews (c:=cap) zO zO hsm hby' (cs:=ob'.cs++(ob.cs.drop off).take len)
        (lP (by rw [hol,hcl]) hor2 hnr (fun q v hv=>by simpa using hv)) (fl:=ob'.fl && ob.fl) hflat o.type
       rw [hlen'] at hr
       refine⟨β',w',?_,?_,.inl ⟨v,_,eC x y t ho (by rw [hxe,hye];exact hrun),rfl,hr⟩⟩
       ·rw [hti];exact hst
       rw [hti];exact hsim
      cases h
     cases h
    cases h
   cases h
  cases h
 cases h
end
end
section
open Go.RowKit
theorem tM {P:Program} {β:Be} {s:S} {a:Act} {w:World} {o:Oper} {r:OpR} {ty:TypeId} (hs:HSim β s.hp w) (hsl:SlotsR β s.sl a.tmps) (h:bX P s ty o.op=some r) (hc:r.c):ji β s r w ((execOp a.eval o).run P w):=by
 generalize ho:o.op=op at h
 cases op with
 |move x=>exact GT hs hsl x (.inl ho) h
 |assign x=>exact GT (ty:=ty) hs hsl x (.inr ho) (by simpa only [bX] using h)
 |pick c x y=>exact LK hs hsl c x y ho h
 |alloc e=>exact Jy hs e ho h
 |box e x=>exact Nr hs hsl e x ho h
 |build t parts=>exact Jz hs hsl t parts ho h
 |buildSlice t len parts=>exact zz hs hsl t len parts ho h
 |load t x=>exact LM hs hsl t x ho h
 |store t x y=>exact JA hs hsl t x y ho h
 |nilCheck x=>exact DH hs hsl x ho h
 |binOp op t x y u=>exact Ns hs hsl op t u x y ho h hc
 |unOp op t x=>exact NY hs hsl op t x ho h
 |convert src dst x=>exact FG hs hsl src dst x ho h hc
 |makeSlice t x y=>exact BW hs hsl t x y ho h hc
 |slice t x lo hi mx=>
  cases mx with
  |none=>exact JD hs hsl t x lo hi ho h hc
  |some m=>simp only [bX] at h;cases h
 |fieldAddr t x f=>exact BU hs hsl t x f ho h
 |field t x f=>exact JB hs hsl t x f ho h
 |indexAddr t x i=>exact BV hs hsl t x i ho h hc
 |index t x i=>exact JC hs hsl t x i ho h hc
 |extract x i=>exact FF hs hsl x i ho h
 |makeFunc f first caps=>
  cases f with
  |func f=>exact DI hs hsl f first caps ho h
  |_=>simp only [bX] at h;cases h
 |call c=>
  obtain⟨callee,args,at_⟩:=c
  cases callee with
  |builtin b=>
   cases b with
   |len=>exact Nt hs hsl args at_ ho h
   |append=>exact Ic hs hsl args at_ ho h hc
   |min=>exact Nu hs hsl args at_ ho h
   |max=>exact Nv hs hsl args at_ ho h
   |_=>simp only [bX] at h;cases h
  |_=>simp only [bX] at h;cases h
 |_=>simp only [bX] at h;cases h
structure Entry where
 β:Be
 h:Hp
 w:World
structure Sim (E:Entry) (β:Be) (s:S) (a:Act) (w:World):Prop where
 dfr:a.defers=[]
 sl:SlotsR β s.sl a.tmps
 hp:HSim β s.hp w
 ent:E.β.length=E.h.length
 st:StepR E.β β E.h s.hp E.w w
def BX (P:Program) (f:FuncId):Prop:=∃ fn,P.funcs[f]? =some fn/\(fn.name == "runtime.NumGoroutine")=false/\fn.body.isNone=false
def ic (P:Program) (f:FuncId) (args:List AV) (h:Hp) (res:AV) (h':Hp):Prop:=
 BX P f/\∀ β w vs,HSim β h w->L2 (iq β) args vs->Calls P f vs.toArray w fun e w'=>∃ β' v,e=.returned v/\iq β' res v/\HSim β' h' w'/\StepR β β' h h' w w'
def GY (P:Program) (E:Entry) (f:FuncId) (args:List AV) (h:Hp) (res:AV) (h':Hp):Prop:=
 BX P f/\∀ β w vs,E.β.length=E.h.length->StepR E.β β E.h h E.w w->HSim β h w->L2 (iq β) args vs->Calls P f vs.toArray w fun e w'=>∃ β' v,e=.returned v/\iq β' res v/\HSim β' h' w'/\StepR β β' h h' w w'
theorem ic.e {P:Program} {E:Entry} {f:FuncId} {args:List AV} {h:Hp} {res:AV} {h':Hp} (ct:ic P f args h res h'):GY P E f args h res h':=
 ⟨ct.1,fun β w vs _ _ hs hv=>ct.2 β w vs hs hv⟩
def JE (P:Program) (E:Entry) (f:FuncId) (args:List AV) (h:Hp) (R:AV->Hp->Prop):Prop:=
 BX P f/\∀ β w vs,E.β.length=E.h.length->StepR E.β β E.h h E.w w->HSim β h w->L2 (iq β) args vs->Calls P f vs.toArray w fun e w'=>∃ res h',R res h'/\∃ β' v,e=.returned v/\iq β' res v/\HSim β' h' w'/\StepR β β' h h' w w'
theorem GY.r {P:Program} {E:Entry} {f:FuncId} {args:List AV} {h:Hp} {res:AV} {h':Hp} {R:AV->Hp->Prop} (ct:GY P E f args h res h') (hR:R res h'):JE P E f args h R:=
 ⟨ct.1,fun β w vs h1 h2 h3 h4=>(ct.2 β w vs h1 h2 h3 h4).mono fun e w' hh=>⟨res,h',hR,hh⟩⟩
def S.evs (s:S):List Operand->Option (List AV)
 |[]=>some []
 |x::r=>match s.ev x,s.evs r with
  |some v,some l=>some (v::l)
  |_,_=>none
theorem GZ {β:Be} {s:S} {a:Act} (hs:SlotsR β s.sl a.tmps):∀ {xs:List Operand} {l:List AV},s.evs xs=some l->L2 (iq β) l (xs.map a.eval)
 |[],l,h=>by simp only [S.evs,zXi] at h;subst h;trivial
 |x::r,l,h=>by
  simp only [S.evs] at h
  split at h
  ·rename_i v m hv hm
   simp only [zXi] at h
   subst h
   exact⟨et hs hv,GZ hs hm⟩
  cases h
def nN:List Sc->List AV
 |[]=>[]
 |c::r=>.sc c::nN r
theorem v_ {β:Be}:∀ {l:List Sc} {vs:List Value},L2 (eB β) l vs->L2 (iq β) (nN l) vs
 |[],[],_=>trivial
 |_::_,_::_,h=>⟨h.1,v_ h.2⟩
 |[],_::_,h=>h.elim
 |_::_,[],h=>h.elim
def fP (r:Array Oper) (s:S) (o:Oper):Option Bool:=
 match o.guard with
 |none=>some true
 |some (j,want)=>match r[j]? with
  |some oj=>match oj.dst with
   |some d=>match s.sl.get d with
    |some (.sc (.bo b))=>some (b == want)
    |some (.tu [])=>some false
    |_=>none
   |none=>none
  |none=>none
theorem mw {β:Be} {r:Array Oper} {s:S} {a:Act} {o:Oper} {b:Bool} (hs:SlotsR β s.sl a.tmps) (h:fP r s o=some b):Region.wanted o (yielded r a.tmps)=b:=by
 unfold fP at h
 unfold Region.wanted
 split at h
 ·rename_i hg
  simp only [zXi] at h
  subst h
  rw [hg]
 rename_i j want hg
 rw [hg]
 dsimp only
 split at h
 ·rename_i oj hj
  split at h
  ·rename_i d hd
   split at h
   ·rename_i x hx
    obtain⟨u,hu,hr⟩:=hs.2 d _ hx
    have hu':u=.bool x:=hr
    subst hu'
    simp only [zXi] at h
    subst h
    simp only [yielded,hj,hd,Rp,hu]
    cases x<;>cases want<;>rfl
   ·rename_i hx
    obtain⟨u,hu,vs,hr,hl⟩:=hs.2 d _ hx
    simp only [zXi] at h
    subst h
    cases vs with
    |nil=>
     subst hr
     simp [yielded,hj,hd,hu]
    |cons=>exact hl.elim
   cases h
  cases h
 cases h
def wJ (P:Program) (E:Entry) (r:Array Oper) (l:List Oper) (s:S) (K:S->Prop):Prop:=
 ∀ β a w,Sim E β s a w->∀ Q:Exit->Act->World->Prop,(∀ s' β' a' w',K s'->Sim E β' s' a' w'->Q .normal a' w')->wpList P r Q l a w
def uK (P:Program) (E:Entry) (C:Code) (s:S) (K:Exit->S->Prop):Prop:=
 ∀ β a w,Sim E β s a w->∀ Q:Exit->Act->World->Prop,(∀ e s' β' a' w',K e s'->Sim E β' s' a' w'->Q e a' w')->C.wp P Q a w
theorem iw {E:Entry} {β β':Be} {s:S} {a:Act} {w w':World} {h':Hp} (hs:Sim E β s a w) (hst:StepR β β' s.hp h' w w') (hh:HSim β' h' w') (d:Option Tmp) {av:AV} {v:Value} (hv:iq β' av v):
  Sim E β' (s.put d (some av) h') (a.put d v) w':=by
 have hstep:StepR E.β β' E.h h' E.w w':=StepR.trans hs.ent hs.hp.len hs.st hst
 cases d with
 |none=>exact⟨hs.dfr,hs.sl.mono hst.le,hh,hs.ent,hstep⟩
 |some d=>exact⟨hs.dfr,(hs.sl.mono hst.le).put d hv,hh,hs.ent,hstep⟩
theorem fK {E:Entry} {β β':Be} {s:S} {a:Act} {w w':World} {h':Hp} (hs:Sim E β s a w) (hst:StepR β β' s.hp h' w w') (hh:HSim β' h' w') (d:Option Tmp) (v:Value):
  Sim E β' (s.put d none h') (a.put d v) w':=by
 have hstep:StepR E.β β' E.h h' E.w w':=StepR.trans hs.ent hs.hp.len hs.st hst
 cases d with
 |none=>exact⟨hs.dfr,hs.sl.mono hst.le,hh,hs.ent,hstep⟩
 |some d=>exact⟨hs.dfr,(hs.sl.mono hst.le).putNone d v,hh,hs.ent,hstep⟩
theorem my {P:Program} {ops:Array Oper} {Q:Exit->Act->World->Prop} {o:Oper} {l:List Oper} {a:Act} {w:World} (hg:Region.wanted o (yielded ops a.tmps)=true) (h:o.wp P a w (wpList P ops Q l) Q):wpList P ops Q (o::l) a w:=by
 unfold wpList
 rw [if_pos hg]
 exact .inl h
theorem DK {P:Program} {ops:Array Oper} {Q:Exit->Act->World->Prop} {o:Oper} {l:List Oper} {a:Act} {w:World} (hg:Region.wanted o (yielded ops a.tmps)=false) (h:wpList P ops Q l (a.put o.dst undef) w):wpList P ops Q (o::l) a w:=by
 unfold wpList
 rw [if_neg (by simp [hg])]
 exact h
theorem DL {P:Program} {E:Entry} {r:Array Oper} {s:S} {K:S->Prop} (h:K s):wJ P E r [] s K:=fun β a w hs Q hQ=>hQ s β a w h hs
theorem G0 {P:Program} {E:Entry} {r:Array Oper} {o:Oper} {l:List Oper} {s:S} {K:S->Prop} {x:OpR} (hg:fP r s o=some true) (h:bX P s o.type o.op=some x) (hc:x.c) (hk:wJ P E r l (s.put o.dst x.v x.hp) K):wJ P E r (o::l) s K:=by
 intro β a w hs Q hQ
 refine my (mw hs.sl hg) ?_
 unfold Oper.wp
 obtain⟨β',w',hst,hh,hx⟩:=tM hs.hp hs.sl h hc
 rcases hx with⟨v,av,hrun,hv,hr⟩|⟨hrun,hv⟩
 ·rw [hrun]
  rw [hv] at hk
  exact hk β' _ w' (iw hs hst hh o.dst hr) Q hQ
 rw [hrun]
 rw [hv] at hk
 exact hk β' _ w' (fK hs hst hh o.dst undef) Q hQ
theorem Id {P:Program} {E:Entry} {r:Array Oper} {o:Oper} {l:List Oper} {s:S} {K:S->Prop} (hg:fP r s o=some false) (hk:wJ P E r l (s.put o.dst (some (.tu [])) s.hp) K):wJ P E r (o::l) s K:=by
 intro β a w hs Q hQ
 refine DK (mw hs.sl hg) ?_
 exact hk β _ w (iw hs (StepR.refl β s.hp w hs.hp.len) hs.hp o.dst ⟨[],rfl,trivial⟩) Q hQ
theorem Ie {P:Program} {E:Entry} {r:Array Oper} {o:Oper} {l:List Oper} {s:S} {K:S->Prop} {x:Operand} {args:Array Operand} {at_:Array TypeId} {f:Nat} {caps:List Sc} {avs:List AV}
  (hg:fP r s o=some true) (ho:o.op=.call ⟨.value x,args,at_⟩) (hx:s.ev x=some (.cl f caps)) (ha:s.evs args.toList=some avs) (hc:JE P E f (avs++nN caps) s.hp fun res h'=>wJ P E r l (s.put o.dst (some res) h') K):wJ P E r (o::l) s K:=by
 intro β a w hs Q hQ
 refine my (mw hs.sl hg) ?_
 obtain⟨⟨fn,hfn,hname,hbody⟩,hcall⟩:=hc
 obtain⟨cvs,hxe,hcl⟩:iq β (.cl f caps) (a.eval x):=et hs.sl hx
 have hav:=GZ hs.sl ha
 have hvs:L2 (iq β) (avs++nN caps) (args.toList.map a.eval++cvs):=hav.append (v_ hcl)
 have hrun:(execOp a.eval o).run P w=.ok (.enter f (args.toList.map a.eval++cvs).toArray) w:=by
  unfold execOp
  rw [ho]
  have e1:args.map a.eval=(args.toList.map a.eval).toArray:=by apply Array.ext';simp
  have hname':¬ fn.name= "runtime.NumGoroutine":=by simpa using hname
  simp only [resolve,hxe,Deferred.ofValue,invoke,callFunc,Qb,run_program,Qm,P8,hfn,e1]
  simp [hname',hbody]
 unfold Oper.wp
 rw [hrun]
 rw [Oper.upon_enter]
 refine (hcall β w _ hs.ent hs.st hs.hp hvs).mono fun e w' ⟨res,h',hk,β',v,he,hr,hh,hst⟩=>?_
 subst he
 exact hk β' _ w' (iw hs hst hh o.dst hr) Q hQ
inductive gz where
 |code (c:Code)
 |ops (r:Array Oper) (l:List Oper)
 |inB (id:Nat)
 |hook (N:S->Prop)
def KK (P:Program) (E:Entry) (F:Exit->S->Prop):List gz->Exit->S->Prop
 |[],e,s=>F e s
 | .code c::k,.normal,s=>uK P E c s (KK P E F k)
 | .code _::k,e,s=>KK P E F k e s
 | .ops r l::k,.normal,s=>wJ P E r l s (KK P E F k .normal)
 | .ops _ _::k,e,s=>KK P E F k e s
 | .inB id::k,.exit id',s=>if id'=id then KK P E F k .normal s else KK P E F k (.exit id') s
 | .inB _::k,e,s=>KK P E F k e s
 | .hook N::k,.normal,s=>N s
 | .hook _::k,e,s=>KK P E F k e s
theorem iR {P:Program} {E:Entry} {C:Code} {s:S} {K K':Exit->S->Prop} (h:uK P E C s K) (hk:∀ e s,K e s->K' e s):uK P E C s K':=
 fun β a w hs Q hQ=>h β a w hs Q fun e s' β' a' w' hK=>hQ e s' β' a' w' (hk _ _ hK)
theorem JF {P:Program} {E:Entry} {s:S} {K:Exit->S->Prop} (h:K .normal s):uK P E .skip s K:=fun β a w hs Q hQ=>wp_skip (hQ .normal s β a w h hs)
theorem LW {P:Program} {E:Entry} {s:S} {K:Exit->S->Prop} (h:K .ret s):uK P E .ret s K:=fun β a w hs Q hQ=>wp_ret (hQ .ret s β a w h hs)
theorem JG {P:Program} {E:Entry} {s:S} {id:Nat} {K:Exit->S->Prop} (h:K (.exit id) s):uK P E (.exit id) s K:=fun β a w hs Q hQ=>wp_exit (hQ (.exit id) s β a w h hs)
theorem LX {P:Program} {E:Entry} {x y:Code} {s:S} {K:Exit->S->Prop} (h:uK P E x s fun e s'=>match e with| .normal=>uK P E y s' K|e=>K e s'):uK P E (.seq x y) s K:=
 fun β a w hs Q hQ=>wp_seq (h β a w hs _ fun e s' β' a' w' hK hs'=>by
  cases e with
  |normal=>exact hK β' a' w' hs' Q hQ
  |_=>exact hQ _ s' β' a' w' hK hs')
theorem DM {P:Program} {E:Entry} {t:Operand} {x y:Code} {s:S} {b:Bool} {K:Exit->S->Prop} (ht:s.ev t=some (.sc (.bo b))) (h:uK P E (if b then x else y) s K):uK P E (.cond t x y) s K:=
 fun β a w hs Q hQ=>wp_cond (t:=b) (show a.eval t=.bool b from et hs.sl ht) (h β a w hs Q hQ)
theorem If {P:Program} {E:Entry} {id:Nat} {x:Code} {s:S} {K:Exit->S->Prop} (h:uK P E x s fun e s'=>match e with| .exit id'=>if id'=id then K .normal s' else K (.exit id') s'|e=>K e s'):uK P E (.block id x) s K:=
 fun β a w hs Q hQ=>wp_block (h β a w hs _ fun e s' β' a' w' hK hs'=>by
  cases e with
  |exit id'=>
   simp only [Exit.inBlock]
   dsimp only at hK
   split at hK
   ·rename_i he;rw [if_pos he];exact hQ _ s' β' a' w' hK hs'
   rename_i he;rw [if_neg he];exact hQ _ s' β' a' w' hK hs'
  |_=>exact hQ _ s' β' a' w' hK hs')
theorem FI {P:Program} {E:Entry} {id:Nat} {r:Array Oper} {s:S} {K:Exit->S->Prop} (h:wJ P E r r.toList s (K .normal)):uK P E (.region id r false) s K:=
 fun β a w hs Q hQ=>wp_region_list (h β a w hs Q fun s' β' a' w' hK hs'=>hQ .normal s' β' a' w' hK hs')
theorem DN {P:Program} {E:Entry} {c:Code} {s:S} {K:Exit->S->Prop} (I:S->Prop) (μ:S->Nat->Prop) (n₀:Nat) (h0:I s/\μ s n₀)
  (h:∀ s n,I s->μ s n->uK P E c s fun e s'=>match e with| .normal=>I s'/\∃ m,m < n/\μ s' m|e=>K e s'):uK P E (.loop c) s K:=by
 intro β a w hs Q hQ b k cs
 have key:∀ (n:Nat) (s:S) (β:Be) (a:Act) (w:World),I s->μ s n->Sim E β s a w->
   ∃ e a' w',Q e a' w'/\Arrives P (lone (b.at a (.code c::.inLoop c::k)) cs w) b k cs e a' w':=by
  intro n
  induction n using Nat.strongRecOn with
  |_ n ih=>
   intro s β a w hI hm hs
   obtain⟨e,a₁,w₁,hq,harr⟩:=h s n hI hm β a w hs (Exit.then (fun a' w'=>∃ s' β' m,I s'/\m < n/\μ s' m/\Sim E β' s' a' w') Q) (fun e s' β' a' w' hK hs'=>by
    cases e with
    |normal=>
     obtain⟨hI',m,hlt,hm'⟩:=hK
     exact⟨s',β',m,hI',hlt,hm',hs'⟩
    |_=>exact hQ _ s' β' a' w' hK hs') b (.inLoop c::k) cs
   cases e with
   |normal=>
    obtain⟨s',β',m,hI',hlt,hm',hs'⟩:=hq
    obtain⟨e₂,a₂,w₂,hq₂,harr₂⟩:=ih m hlt s' β' a₁ w₁ hI' hm' hs'
    exact⟨e₂,a₂,w₂,hq₂,.of_steps (Steps.trans harr (.one step_inLoop)) harr₂⟩
   |exit id=>exact⟨_,a₁,w₁,hq,.pass (x:=.inLoop c) rfl (fun _ _=>.inl zP) harr⟩
   |goto l=>exact⟨_,a₁,w₁,hq,.pass (x:=.inLoop c) rfl (fun _ _=>.inl zP) harr⟩
   |ret=>exact⟨_,a₁,w₁,hq,.pass (x:=.inLoop c) rfl (fun _ _=>.inl zP) harr⟩
   |panic ch=>exact⟨_,a₁,w₁,hq,.pass (x:=.inLoop c) rfl (fun _ _=>.inl zP) harr⟩
   |outgrown=>exact⟨_,a₁,w₁,hq,.pass (x:=.inLoop c) rfl (fun _ _=>.inl zP) harr⟩
 obtain⟨e,a',w',hq,harr⟩:=key n₀ s β a w h0.1 h0.2 hs
 exact⟨e,a',w',hq,.of_steps (.one step_loop) harr⟩
inductive St where
 |go (k:List gz) (s:S) (c:Prop)
 |fin (s:S) (c:Prop)
 |call (f:Nat) (args:List AV) (d:Option Tmp) (k:List gz) (s:S) (c:Prop)
 |lp (b:Code) (k:List gz) (s:S) (c:Prop)
 |hk (N:S->Prop) (s:S) (c:Prop)
 |draw (id:Nat) (r:Array Oper) (k:List gz) (s:S) (c:Prop)
 |gl (r:Array Oper) (o:Oper) (l:List Oper) (k:List gz) (s:S) (c:Prop)
 |bad
def uL (id:Nat):List gz->Option (List gz)
 |[]=>none
 | .inB id'::k=>if id'=id then some k else uL id k
 | .code _::k=>uL id k
 | .ops _ _::k=>uL id k
 | .hook _::k=>uL id k
def BY (P:Program) (r:Array Oper) (o:Oper) (l:List Oper) (k:List gz) (s:S) (c:Prop):St:=
 match o.op with
 | .call ⟨.value x,args,_⟩=>match s.ev x,s.evs args.toList with
  |some (.cl f caps),some avs=>.call f (avs++nN caps) o.dst (.ops r l::k) s c
  |_,_=>.bad
 |op=>match bX P s o.type op with
  |some ⟨v,h,d⟩=>.go (.ops r l::k) (s.put o.dst v h) (c/\d)
  |none=>.gl r o l k s c
def wK (P:Program):List gz->S->Prop->St
 |[],s,c=>.fin s c
 | .hook N::k,s,c=>.hk N s c
 | .inB _::k,s,c=>.go k s c
 | .ops r []::k,s,c=>.go k s c
 | .ops r (o::l)::k,s,c=>match fP r s o with
  |some b=>match b with
   |true=>BY P r o l k s c
   |false=>.go (.ops r l::k) (s.put o.dst (some (.tu [])) s.hp) c
  |none=>.bad
 | .code .skip::k,s,c=>.go k s c
 | .code (.seq a b)::k,s,c=>.go (.code a::.code b::k) s c
 | .code (.cond t a b)::k,s,c=>match s.ev t with
  |some (.sc (.bo x))=>match x with
   |true=>.go (.code a::k) s c
   |false=>.go (.code b::k) s c
  |_=>.bad
 | .code (.block id a)::k,s,c=>.go (.code a::.inB id::k) s c
 | .code (.exit id)::k,s,c=>match uL id k with
  |some k'=>.go k' s c
  |none=>.bad
 | .code .ret::k,s,c=>.fin s c
 | .code (.region id r d)::k,s,c=>match d with
  |false=>.go (.ops r r.toList::k) s c
  |true=>.draw id r k s c
 | .code (.loop b)::k,s,c=>.lp b k s c
 |_,_,_=>.bad
def run (P:Program):Nat->St->St
 |0,x=>x
 |n+1,.go k s c=>run P n (wK P k s c)
 |_+1,.fin s c=>.fin s c
 |_+1,.call f a d k s c=>.call f a d k s c
 |_+1,.lp b k s c=>.lp b k s c
 |_+1,.hk N s c=>.hk N s c
 |_+1,.draw id r k s c=>.draw id r k s c
 |_+1,.gl r o l k s c=>.gl r o l k s c
 |_+1,.bad=>.bad
def DO (F:S->Prop):Exit->S->Prop
 | .normal,s| .ret,s=>F s
 |_,_=>False
def iA (P:Program) (E:Entry) (F:S->Prop):St->Prop
 | .go k s c=>c/\KK P E (DO F) k .normal s
 | .fin s c=>c/\F s
 | .call f args d k s c=>c/\JE P E f args s.hp fun res h'=>KK P E (DO F) k .normal (s.put d (some res) h')
 | .lp b k s c=>c/\uK P E (.loop b) s (KK P E (DO F) k)
 | .hk N s c=>c/\N s
 | .draw id r k s c=>c/\uK P E (.region id r true) s (KK P E (DO F) k)
 | .gl r o l k s c=>c/\KK P E (DO F) (.ops r (o::l)::k) .normal s
 | .bad=>False
theorem wL {P:Program} {E:Entry} {F:Exit->S->Prop}:∀ {k:List gz} {s:S},F .ret s->KK P E F k .ret s
 |[],_,h=>h
 | .code _::k,s,h=>wL (k:=k) h
 | .ops _ _::k,s,h=>wL (k:=k) h
 | .inB _::k,s,h=>wL (k:=k) h
 | .hook _::k,s,h=>wL (k:=k) h
theorem ry {P:Program} {E:Entry} {F:Exit->S->Prop} {id:Nat}:∀ {k k':List gz} {s:S},uL id k=some k'->KK P E F k' .normal s->KK P E F k (.exit id) s
 |[],k',s,h,_=>by cases h
 | .code _::k,k',s,h,hk=>ry (k:=k) h hk
 | .ops _ _::k,k',s,h,hk=>ry (k:=k) h hk
 | .hook _::k,k',s,h,hk=>ry (k:=k) h hk
 | .inB id'::k,k',s,h,hk=>by
  simp only [uL] at h
  simp only [KK]
  split at h
  ·rename_i he
   subst he
   simp only [zXi] at h
   subst h
   rw [if_pos rfl]
   exact hk
  rename_i he
  rw [if_neg (Ne.symm he)]
  exact ry (k:=k) h hk
theorem FJ {P:Program} {E:Entry} {F:S->Prop} {r:Array Oper} {o:Oper} {l:List Oper} {k:List gz} {s:S} {c:Prop} (hg:fP r s o=some true) (h:iA P E F (BY P r o l k s c)):c/\KK P E (DO F) (.ops r (o::l)::k) .normal s:=by
 unfold BY at h
 split at h
 ·rename_i x args at_ ho
  split at h
  ·rename_i f caps avs hx ha
   obtain⟨hc,hcall⟩:=h
   exact⟨hc,Ie hg ho hx ha hcall⟩
  exact h.elim
 split at h
 ·rename_i v hp d hx
  obtain⟨⟨hc,hd⟩,hk⟩:=h
  exact⟨hc,G0 hg hx hd hk⟩
 exact h
theorem JH {P:Program} {E:Entry} {F:S->Prop}:∀ {k:List gz} {s:S} {c:Prop},iA P E F (wK P k s c)->iA P E F (.go k s c):=by
 intro k s c h
 cases k with
 |nil=>exact h
 |cons i k=>
  cases i with
  |hook N=>exact h
  |inB id=>exact h
  |ops r l=>
   cases l with
   |nil=>exact⟨h.1,DL h.2⟩
   |cons o l=>
    simp only [wK] at h
    split at h
    ·rename_i b hg
     cases b with
     |true=>exact FJ hg h
     |false=>exact⟨h.1,Id hg h.2⟩
    exact h.elim
  |code C=>
   cases C with
   |skip=>exact⟨h.1,JF h.2⟩
   |region id r d=>
    cases d with
    |false=>exact⟨h.1,FI h.2⟩
    |true=>exact h
   |seq a b=>
    refine⟨h.1,LX (iR h.2 fun e s' hk=>?_)⟩
    cases e<;>exact hk
   |cond t a b=>
    simp only [wK] at h
    split at h
    ·rename_i x ht
     cases x with
     |true=>exact⟨h.1,DM ht h.2⟩
     |false=>exact⟨h.1,DM ht h.2⟩
    exact h.elim
   |block id a=>
    refine⟨h.1,If (iR h.2 fun e s' hk=>?_)⟩
    cases e<;>exact hk
   |loop b=>exact h
   |exit id=>
    simp only [wK] at h
    split at h
    ·rename_i k' hk'
     exact⟨h.1,JG (ry hk' h.2)⟩
    exact h.elim
   |ret=>exact⟨h.1,LW (wL h.2)⟩
   |rangeFunc=>exact h.elim
   |scope=>exact h.elim
   |label=>exact h.elim
   |goto=>exact h.elim
   |refuse=>exact h.elim
theorem ab {P:Program} {E:Entry} {F:S->Prop}:∀ (n:Nat) {x:St},iA P E F (run P n x)->iA P E F x
 |0,_,h=>h
 |n+1,.go k s c,h=>JH (ab n h)
 |_+1,.fin ..,h=>h
 |_+1,.call ..,h=>h
 |_+1,.lp ..,h=>h
 |_+1,.hk ..,h=>h
 |_+1,.draw ..,h=>h
 |_+1,.gl ..,h=>h
 |_+1,.bad,h=>h
abbrev cO:=List (Option (Nat×Option Nat))
def cO.at (ρ:cO) (o:Nat):Option (Nat×Option Nat):=ρ.getD o none
def LY (ρ:cO):Sc->Sc->Prop
 | .int k n,.int k' n'=>k'=k/\n'=n
 | .bo b,.bo b'=>b'=b
 | .st l,.st l'=>l'=l
 | .nil,.nil=>True
 | .un,.un=>True
 | .un,.pt .. =>True
 | .sl o off len,.sl o' off' len'=>match ρ.at o with
  |some (n,none)=>o'=n/\off'=off/\len'=len
  |some (n,some d)=>o'=n/\off'=off+d/\len'=len
  |none=>False
 | .sl o off len,.nil=>len=0
 | .pt o k j,.pt o' k' j'=>match ρ.at o with
  |some (n,none)=>o'=n/\k'=k/\j'=j
  |some (n,some d)=>o'=n/\k'=k+d/\j'=j
  |none=>False
 |_,_=>False
def cM (ρ:cO):List Sc->List Sc->Prop
 |[],[]=>True
 |a::l,b::m=>LY ρ a b/\cM ρ l m
 |_,_=>False
def Ps (ρ:cO):Co->Co->Prop
 | .sc a,.sc b=>LY ρ a b
 | .ag a,.ag b=>cM ρ a b
 |_,_=>False
def Pp (ρ:cO):List Co->List Co->Prop
 |[],[]=>True
 |a::l,b::m=>Ps ρ a b/\Pp ρ l m
 |_,_=>False
def Fu (ρ:cO):AV->AV->Prop
 | .sc a,.sc b=>LY ρ a b
 | .ag a,.ag b=>cM ρ a b
 | .tu a,.tu b=>Pp ρ a b
 | .cl f a,.cl g b=>g=f/\cM ρ a b
 |_,_=>False
def rz (ρ:cO):List AV->List AV->Prop
 |[],[]=>True
 |a::l,b::m=>Fu ρ a b/\rz ρ l m
 |_,_=>False
def Pq (ρ:cO):List (List Sc)->List (List Sc)->Prop
 |[],[]=>True
 |a::l,b::m=>cM ρ a b/\Pq ρ l m
 |_,_=>False
def Pr (ρ:cO) (d:Option Nat) (t s:AObj):Prop:=
 s.esz=t.esz/\match d with
 |none=>s.ty=t.ty/\(t.own=true->s.own=true)/\(match t.fl with
  |true=>s.fl=true/\s.cs=t.cs
  |false=>Pq ρ t.cs s.cs)
 |some d=>t.own=false/\t.fl=true/\s.fl=true/\(s.cs.drop d).take t.cs.length=t.cs
def lY (ρ:cO) (s:Hp):cO->Hp->Prop
 |[],[]=>True
 |none::ρ',some t::h=>t.cs=[]/\lY ρ s ρ' h
 |some (n,d)::ρ',some t::h=>(match s.getD n none with
  |some ob=>Pr ρ d t ob
  |none=>False)/\lY ρ s ρ' h
 |_::ρ',none::h=>lY ρ s ρ' h
 |_,_=>False
def fZ (β:Be):cO->Be
 |[]=>[]
 |none::ρ=>none::fZ β ρ
 |some (n,none)::ρ=>β.getD n none::fZ β ρ
 |some (n,some d)::ρ=>(β.getD n none).map (fun p=>{ p with base:=p.base+d*p.esz,avail:=p.avail - d*p.esz })::fZ β ρ
theorem ln (β:Be):∀ ρ:cO,(fZ β ρ).length=ρ.length
 |[]=>rfl
 |none::ρ=>by simp [fZ,ln β ρ]
 |some (n,none)::ρ=>by simp [fZ,ln β ρ]
 |some (n,some d)::ρ=>by simp [fZ,ln β ρ]
theorem bY (β:Be):∀ {ρ:cO} {o:Nat} {x:Option (Nat×Option Nat)},ρ[o]? =some x->(fZ β ρ)[o]? =some (match x with
  |none=>none
  |some (n,none)=>β.getD n none
  |some (n,some d)=>(β.getD n none).map (fun p=>{ p with base:=p.base+d*p.esz,avail:=p.avail - d*p.esz }))
 |[],o,x,h=>by simp at h
 |y::ρ,0,x,h=>by
  simp only [Qi,zXi] at h
  subst h
  cases y with
  |none=>rfl
  |some y=>obtain⟨n,d⟩:=y;cases d<;>rfl
 |y::ρ,o+1,x,h=>by
  simp only [Qe] at h
  have:=bY β h
  cases y with
  |none=>simpa [fZ] using this
  |some y=>obtain⟨n,d⟩:=y;cases d<;>simpa [fZ] using this
theorem BZ {ρ:cO} {o:Nat} {x:Nat×Option Nat} (h:ρ.at o=some x):ρ[o]? =some (some x):=by
 unfold cO.at at h
 rw [zk] at h
 cases hx:ρ[o]? with
 |none=>rw [hx] at h;cases h
 |some y=>rw [hx] at h;simp only [Qa] at h;rw [h]
theorem wc {β:Be} {n:Nat} {p:Pl} (h:β[n]? =some (some p)):β.getD n none=some p:=by rw [zk,h];rfl
theorem G1 {β:Be} {ρ:cO}:∀ {t s:Sc} {v:Value},LY ρ t s->eB β s v->eB (fZ β ρ) t v
 | .int k n,.int k' n',v,h,hv=>by obtain⟨rfl,rfl⟩:=h;exact hv
 | .bo b,.bo b',v,h,hv=>by have h':b'=b:=h;subst h';exact hv
 | .st b,.st b',v,h,hv=>by have h':b'=b:=h;subst h';exact hv
 | .nil,.nil,v,h,hv=>hv
 | .un,.un,v,h,hv=>hv
 | .un,.pt ..,v,h,hv=>let⟨_,_,e⟩:=hv;⟨_,e⟩
 | .un,.int ..,_,h,_=>h.elim
 | .un,.bo _,_,h,_=>h.elim
 | .un,.st _,_,h,_=>h.elim
 | .un,.nil,_,h,_=>h.elim
 | .un,.sl ..,_,h,_=>h.elim
 | .sl o off len,.nil,v,h,hv=>by
  have h':len=0:=h
  subst h'
  obtain⟨a,rfl⟩:=hv
  exact⟨a,0,rfl,Qf _,QL _,.inl rfl⟩
 | .sl o off len,.sl o' off' len',v,h,hv=>by
  obtain⟨a,cap,rfl,h1,h2,h3⟩:=hv
  simp only [LY] at h
  split at h
  ·rename_i n hn
   obtain⟨rfl,rfl,rfl⟩:=h
   refine⟨a,cap,rfl,h1,h2,h3.imp id fun⟨p,hp,r⟩=>⟨p,?_,r⟩⟩
   rw [bY β (BZ hn)]
   dsimp only
   rw [wc hp]
  ·rename_i n d hn
   obtain⟨rfl,rfl,rfl⟩:=h
   refine⟨a,cap,rfl,h1,h2,h3.imp id fun⟨p,hp,ha,hav⟩=>⟨{ p with base:=p.base+d*p.esz,avail:=p.avail - d*p.esz },?_,?_,?_⟩⟩
   ·rw [bY β (BZ hn)]
    dsimp only
    rw [wc hp]
    rfl
   ·rw [ha]
    simp only [zXi,Addr.mk.injEq,and_true,true_and]
    rw [Qj]
    omega
   dsimp only
   rw [show off+d+cap=(off+cap)+d from by omega,Qj] at hav
   omega
  exact h.elim
 | .pt o k j,.pt o' k' j',v,h,hv=>by
  obtain⟨p,hp,rfl⟩:=hv
  simp only [LY] at h
  split at h
  ·rename_i n hn
   obtain⟨rfl,rfl,rfl⟩:=h
   refine⟨p,?_,rfl⟩
   rw [bY β (BZ hn)]
   dsimp only
   rw [wc hp]
  ·rename_i n d hn
   obtain⟨rfl,rfl,rfl⟩:=h
   refine⟨{ p with base:=p.base+d*p.esz,avail:=p.avail - d*p.esz },?_,?_⟩
   ·rw [bY β (BZ hn)]
    dsimp only
    rw [wc hp]
    rfl
   simp only [Value.pointer.injEq,zXi,Addr.mk.injEq,and_true,true_and]
   rw [Qj]
   omega
  exact h.elim
 | .int ..,.un,_,h,_=>h.elim
 | .bo ..,.un,_,h,_=>h.elim
 | .st ..,.un,_,h,_=>h.elim
 | .nil,.un,_,h,_=>h.elim
 | .sl ..,.un,_,h,_=>h.elim
 | .pt ..,.un,_,h,_=>h.elim
 | .int ..,.bo _,_,h,_=>h.elim
 | .int ..,.st _,_,h,_=>h.elim
 | .int ..,.nil,_,h,_=>h.elim
 | .int ..,.sl ..,_,h,_=>h.elim
 | .int ..,.pt ..,_,h,_=>h.elim
 | .bo _,.int ..,_,h,_=>h.elim
 | .bo _,.st _,_,h,_=>h.elim
 | .bo _,.nil,_,h,_=>h.elim
 | .bo _,.sl ..,_,h,_=>h.elim
 | .bo _,.pt ..,_,h,_=>h.elim
 | .st _,.int ..,_,h,_=>h.elim
 | .st _,.bo _,_,h,_=>h.elim
 | .st _,.nil,_,h,_=>h.elim
 | .st _,.sl ..,_,h,_=>h.elim
 | .st _,.pt ..,_,h,_=>h.elim
 | .nil,.int ..,_,h,_=>h.elim
 | .nil,.bo _,_,h,_=>h.elim
 | .nil,.st _,_,h,_=>h.elim
 | .nil,.sl ..,_,h,_=>h.elim
 | .nil,.pt ..,_,h,_=>h.elim
 | .sl ..,.int ..,_,h,_=>h.elim
 | .sl ..,.bo _,_,h,_=>h.elim
 | .sl ..,.st _,_,h,_=>h.elim
 | .sl ..,.pt ..,_,h,_=>h.elim
 | .pt ..,.int ..,_,h,_=>h.elim
 | .pt ..,.bo _,_,h,_=>h.elim
 | .pt ..,.st _,_,h,_=>h.elim
 | .pt ..,.nil,_,h,_=>h.elim
 | .pt ..,.sl ..,_,h,_=>h.elim
theorem LZ {β:Be} {ρ:cO}:∀ {t s:List Sc} {vs:List Value},cM ρ t s->L2 (eB β) s vs->L2 (eB (fZ β ρ)) t vs
 |[],[],[],_,_=>trivial
 |a::l,b::m,v::vs,h,hv=>⟨G1 h.1 hv.1,LZ h.2 hv.2⟩
 |[],_::_,_,h,_=>h.elim
 |_::_,[],_,h,_=>h.elim
 |[],[],_::_,_,h=>h.elim
 |_::_,_::_,[],_,h=>h.elim
theorem NZ {β:Be} {ρ:cO} {t s:Co} {v:Value} (h:Ps ρ t s) (hv:Fx β s v):Fx (fZ β ρ) t v:=by
 cases t<;>cases s
 ·exact G1 h hv
 ·exact h.elim
 ·exact h.elim
 obtain⟨vs,rfl,hl⟩:=hv
 exact⟨vs,rfl,LZ h hl⟩
theorem M2 {β:Be} {ρ:cO}:∀ {t s:List Co} {vs:List Value},Pp ρ t s->L2 (Fx β) s vs->L2 (Fx (fZ β ρ)) t vs
 |[],[],[],_,_=>trivial
 |a::l,b::m,v::vs,h,hv=>⟨NZ h.1 hv.1,M2 h.2 hv.2⟩
 |[],_::_,_,h,_=>h.elim
 |_::_,[],_,h,_=>h.elim
 |[],[],_::_,_,h=>h.elim
 |_::_,_::_,[],_,h=>h.elim
theorem AD {β:Be} {ρ:cO} {t s:AV} {v:Value} (h:Fu ρ t s) (hv:iq β s v):iq (fZ β ρ) t v:=by
 cases t<;>cases s<;>try exact h.elim
 ·exact G1 h hv
 ·obtain⟨vs,rfl,hl⟩:=hv
  exact⟨vs,rfl,LZ h hl⟩
 ·obtain⟨vs,rfl,hl⟩:=hv
  exact⟨vs,rfl,M2 h hl⟩
 obtain⟨rfl,h⟩:=h
 obtain⟨vs,rfl,hl⟩:=hv
 exact⟨vs,rfl,LZ h hl⟩
theorem JI {β:Be} {ρ:cO}:∀ {t s:List AV} {vs:List Value},rz ρ t s->L2 (iq β) s vs->L2 (iq (fZ β ρ)) t vs
 |[],[],[],_,_=>trivial
 |a::l,b::m,v::vs,h,hv=>⟨AD h.1 hv.1,JI h.2 hv.2⟩
 |[],_::_,_,h,_=>h.elim
 |_::_,[],_,h,_=>h.elim
 |[],[],_::_,_,h=>h.elim
 |_::_,_::_,[],_,h=>h.elim
theorem AF {ρ:cO}:∀ {t s:List Sc},cM ρ t s->t.length=s.length
 |[],[],_=>rfl
 |_::_,_::_,h=>by simp [AF h.2]
 |[],_::_,h=>h.elim
 |_::_,[],h=>h.elim
theorem JJ {ρ:cO}:∀ {t s:List Sc} {i:Nat} {x:Sc},cM ρ t s->t[i]? =some x->∃ y,s[i]? =some y/\LY ρ x y
 |[],[],i,x,_,h=>by simp at h
 |a::l,b::m,0,x,hm,h=>by simp at h;subst h;exact⟨b,zP,hm.1⟩
 |a::l,b::m,i+1,x,hm,h=>by simp at h;obtain⟨y,hy,hr⟩:=JJ hm.2 h;exact⟨y,by simpa using hy,hr⟩
 |[],_::_,_,_,hm,_=>hm.elim
 |_::_,[],_,_,hm,_=>hm.elim
theorem G2 {ρ:cO}:∀ {t s:List (List Sc)} {i:Nat} {x:List Sc},Pq ρ t s->t[i]? =some x->∃ y,s[i]? =some y/\cM ρ x y
 |[],[],i,x,_,h=>by simp at h
 |a::l,b::m,0,x,hm,h=>by simp at h;subst h;exact⟨b,zP,hm.1⟩
 |a::l,b::m,i+1,x,hm,h=>by simp at h;obtain⟨y,hy,hr⟩:=G2 hm.2 h;exact⟨y,by simpa using hy,hr⟩
 |[],_::_,_,_,hm,_=>hm.elim
 |_::_,[],_,_,hm,_=>hm.elim
theorem FK {β β':Be} {s:Sc} {v:Value} (hf:s.isFlat=true) (h:eB β s v):eB β' s v:=by
 cases s<;>first|exact h|cases hf
def DP (n:Nat) (own:Bool):cO->Hp->Bool
 |some (m,_)::ρ,some u::h=>(!(own || u.own) || n != m) && DP n own ρ h
 |_::ρ,_::h=>DP n own ρ h
 |_,_=>true
def e9:cO->Hp->Bool
 |some (n,_)::ρ,some t::h=>DP n t.own ρ h && e9 ρ h
 |_::ρ,_::h=>e9 ρ h
 |_,_=>true
theorem DQ {n:Nat} {own:Bool}:∀ {ρ:cO} {h:Hp},DP n own ρ h=true->∀ {j m:Nat} {d:Option Nat} {u:AObj},ρ[j]? =some (some (m,d))->h[j]? =some (some u)->(own=true\/u.own=true)->n≠m
 |[],_,_,j,m,d,u,hr,_,_=>by simp at hr
 |_::_,[],_,j,m,d,u,_,hh,_=>by simp at hh
 |x::ρ,y::h,hs,0,m,d,u,hr,hh,ho=>by
  simp only [Qi,zXi] at hr hh
  subst hr;subst hh
  simp only [DP,P7,Qt,bne_iff_ne,Qw] at hs
  rcases hs.1 with h1|h1
  ·rcases ho with ho|ho<;>simp [ho] at h1
  exact h1
 |x::ρ,y::h,hs,j+1,m,d,u,hr,hh,ho=>by
  simp only [Qe] at hr hh
  refine DQ (ρ:=ρ) (h:=h) ?_ hr hh ho
  cases x with
  |none=>simpa [DP] using hs
  |some x=>cases y with
   |none=>simpa [DP] using hs
   |some y=>
    obtain⟨a,b⟩:=x
    simp only [DP,P7] at hs
    exact hs.2
theorem lZ {x:Option (Nat×Option Nat)} {y:Option AObj} {ρ:cO} {h:Hp} (hs:e9 (x::ρ) (y::h)=true):e9 ρ h=true:=by
 cases x with
 |none=>simpa [e9] using hs
 |some x=>cases y with
  |none=>simpa [e9] using hs
  |some y=>
   obtain⟨a,b⟩:=x
   simp only [e9,P7] at hs
   exact hs.2
theorem rC:∀ {ρ:cO} {h:Hp},e9 ρ h=true->∀ {i j n m:Nat} {d e:Option Nat} {t u:AObj},i < j->ρ[i]? =some (some (n,d))->h[i]? =some (some t)->ρ[j]? =some (some (m,e))->h[j]? =some (some u)->(t.own=true\/u.own=true)->n≠m
 |[],_,_,i,j,n,m,d,e,t,u,_,hr,_,_,_,_=>by simp at hr
 |_::_,[],_,i,j,n,m,d,e,t,u,_,_,hh,_,_,_=>by simp at hh
 |x::ρ,y::h,hs,0,j+1,n,m,d,e,t,u,_,hr,hh,hr',hh',ho=>by
  simp only [Qi,Qe,zXi] at hr hh hr' hh'
  subst hr;subst hh
  simp only [e9,P7] at hs
  exact DQ hs.1 hr' hh' ho
 |x::ρ,y::h,hs,i+1,j+1,n,m,d,e,t,u,hlt,hr,hh,hr',hh',ho=>by
  simp only [Qe] at hr hh hr' hh'
  exact rC (ρ:=ρ) (h:=h) (lZ hs) zO hr hh hr' hh' ho
theorem G3 {ρ:cO} {h:Hp} (hs:e9 ρ h=true) {i j n m:Nat} {d e:Option Nat} {t u:AObj} (hij:i≠j) (hr:ρ[i]? =some (some (n,d))) (hh:h[i]? =some (some t)) (hr':ρ[j]? =some (some (m,e))) (hh':h[j]? =some (some u)) (ho:t.own=true\/u.own=true):n≠m:=by
 rcases Q3 hij with h1|h1
 ·exact rC hs h1 hr hh hr' hh' ho
 exact (rC hs h1 hr' hh' hr hh ho.symm).symm
theorem getD_some {h:Hp} {n:Nat} {ob:AObj} (e:h.getD n none=some ob):h[n]? =some (some ob):=by
 rw [zk] at e
 cases hx:h[n]? with
 |none=>rw [hx] at e;cases e
 |some y=>rw [hx] at e;simp only [Qa] at e;rw [e]
theorem gU {ρ:cO} {s:Hp}:∀ {ρ':cO} {t:Hp},lY ρ s ρ' t->∀ {o:Nat} {ob:AObj},t[o]? =some (some ob)->
  (ρ'[o]? =some none/\ob.cs=[])\/∃ n d ob',ρ'[o]? =some (some (n,d))/\s[n]? =some (some ob')/\Pr ρ d ob ob'
 |[],[],_,o,ob,h=>by simp at h
 |x::ρ',y::t,hm,0,ob,h=>by
  simp only [Qi,zXi] at h
  subst h
  cases x with
  |none=>exact .inl ⟨rfl,hm.1⟩
  |some x=>
   obtain⟨n,d⟩:=x
   have h1:=hm.1
   split at h1
   ·rename_i ob' hob
    exact .inr ⟨n,d,ob',rfl,getD_some hob,h1⟩
   exact h1.elim
 |x::ρ',y::t,hm,o+1,ob,h=>by
  simp only [Qe] at h⊢
  refine gU (ρ':=ρ') (t:=t) ?_ h
  cases x with
  |none=>cases y with
   |none=>exact hm
   |some y=>exact hm.2
  |some x=>cases y with
   |none=>exact hm
   |some y=>obtain⟨a,b⟩:=x;exact hm.2
 |[],_::_,hm,_,_,_=>by cases hm
 |x::_,[],hm,_,_,_=>by cases x with
  |none=>cases hm
  |some x=>obtain⟨a,b⟩:=x;cases hm
theorem jr {ρ:cO} {s:Hp}:∀ {ρ':cO} {t:Hp},lY ρ s ρ' t->ρ'.length=t.length
 |[],[],_=>rfl
 |x::ρ',y::t,hm=>by
  have:lY ρ s ρ' t:=by
   cases x with
   |none=>cases y with
    |none=>exact hm
    |some y=>exact hm.2
   |some x=>cases y with
    |none=>exact hm
    |some y=>obtain⟨a,b⟩:=x;exact hm.2
  simp [jr this]
 |[],_::_,hm=>by cases hm
 |x::_,[],hm=>by cases x with
  |none=>cases hm
  |some x=>obtain⟨a,b⟩:=x;cases hm
theorem mz {ρ:cO} {d:Option Nat} {t s:AObj} (h:Pr ρ d t s) (ho:t.own=true):d=none/\s.own=true:=by
 cases d with
 |none=>exact⟨rfl,h.2.2.1 ho⟩
 |some d=>
  have:t.own=false:=h.2.1
  rw [ho] at this;cases this
theorem B0 {β:Be} {ρ:cO} {s t:Hp} {w:World} (hs:HSim β s w) (hm:lY ρ s ρ t) (hsep:e9 ρ t=true):HSim (fZ β ρ) t w:=by
 refine⟨by rw [ln,jr hm],fun o ob ho=>?_,fun o ob ho hf=>?_,fun o o' ob ob' p p' ho ho' hown hp hp' hne=>?_⟩
 ·rcases gU hm ho with⟨hr,hcs⟩|⟨n,d,ob',hr,hn,hob⟩
  ·exact⟨none,bY β hr,hcs⟩
  obtain⟨q,hq,hR⟩:=hs.ob n ob' hn
  cases d with
  |none=>
   obtain⟨hesz,hty,hown,hcs⟩:=hob
   refine⟨q,by rw [bY β hr];dsimp only;rw [zk,hq];rfl,?_⟩
   cases q with
   |none=>
    have h0:ob'.cs=[]:=hR
    split at hcs
    ·show ob.cs=[]
     rw [<-hcs.2,h0]
    show ob.cs=[]
    rw [h0] at hcs
    cases hc:ob.cs with
    |nil=>rfl
    |cons=>rw [hc] at hcs;exact hcs.elim
   |some p=>
    obtain⟨he,arr,T,fz,hh,hc,ho2⟩:=hR
    refine⟨he.trans hesz,arr,T,fz,hh,?_,fun h=>?_⟩
    ·split at hcs
     ·rename_i hfl
      intro k c hk
      rw [<-hcs.2] at hk
      obtain⟨h1,h2⟩:=hc k c hk
      rw [hesz] at h1
      refine⟨h1,fun j x hj=>?_⟩
      obtain⟨v,hv,hr'⟩:=h2 j x hj
      rw [hesz] at hv
      exact⟨v,hv,FK (jo.1 (hs.flat n ob' hn hcs.1 c (Qk hk)) x (Qk hj)) hr'⟩
     intro k c hk
     obtain⟨c',hk',hcm⟩:=G2 hcs hk
     obtain⟨h1,h2⟩:=hc k c' hk'
     rw [hesz] at h1
     refine⟨(AF hcm).trans h1,fun j x hj=>?_⟩
     obtain⟨x',hj',hxm⟩:=JJ hcm hj
     obtain⟨v,hv,hr'⟩:=h2 j x' hj'
     rw [hesz] at hv
     exact⟨v,hv,G1 hxm hr'⟩
    obtain⟨hT,hf,hb,ha⟩:=ho2 (hown h)
    exact⟨hT.trans hty,hf,hb,ha⟩
  |some d=>
   obtain⟨hesz,hno,hfl,hfl',hcs⟩:=hob
   refine⟨q.map (fun p=>{ p with base:=p.base+d*p.esz,avail:=p.avail - d*p.esz }),by rw [bY β hr];dsimp only;rw [zk,hq];rfl,?_⟩
   cases q with
   |none=>
    have h0:ob'.cs=[]:=hR
    show ob.cs=[]
    rw [h0] at hcs
    simpa using hcs.symm
   |some p=>
    obtain⟨he,arr,T,fz,hh,hc,ho2⟩:=hR
    refine⟨he.trans hesz,arr,T,fz,hh,?_,fun h=>by rw [hno] at h;cases h⟩
    intro k c hk
    have hkl:k < ob.cs.length:=(zG.1 hk).1
    rw [<-hcs,Ql hkl,Qq] at hk
    obtain⟨h1,h2⟩:=hc _ c hk
    rw [hesz] at h1
    refine⟨h1,fun j x hj=>?_⟩
    obtain⟨v,hv,hr'⟩:=h2 j x hj
    rw [hesz] at hv
    refine⟨v,?_,FK (jo.1 (hs.flat n ob' hn hfl' c (Qk hk)) x (Qk hj)) hr'⟩
    dsimp only
    rw [show p.base+d*p.esz+k*ob.esz+j=p.base+(d+k)*ob.esz+j from by rw [he,hesz,Qj];omega]
    exact hv
 ·rcases gU hm ho with⟨hr,hcs⟩|⟨n,d,ob',hr,hn,hob⟩
  ·rw [hcs];intro c hc;cases hc
  cases d with
  |none=>
   obtain⟨_,_,_,hcs⟩:=hob
   rw [hf] at hcs
   rw [<-hcs.2]
   exact hs.flat n ob' hn hcs.1
  |some d=>
   obtain⟨_,_,hfl,hfl',hcs⟩:=hob
   rw [<-hcs]
   exact fun c hc=>hs.flat n ob' hn hfl' c (QD (QC hc))
 rcases gU hm ho with⟨hr,_⟩|⟨n,d,x,hr,hn,hx⟩
 ·rw [bY β hr] at hp;cases hp
 rcases gU hm ho' with⟨hr',_⟩|⟨m,e,y,hr',hm',hy⟩
 ·rw [bY β hr'] at hp';cases hp'
 obtain⟨rfl,hxo⟩:=mz hx hown
 have hnm:=G3 hsep hne hr ho hr' ho' (.inl hown)
 rw [bY β hr] at hp
 simp only [zXi] at hp
 have hbn:β[n]? =some (some p):=by
  rw [zk] at hp
  cases h:β[n]? with
  |none=>rw [h] at hp;cases hp
  |some z=>rw [h] at hp;simp only [Qa] at hp;rw [hp]
 have hbm:∃ q,β[m]? =some (some q)/\q.blk=p'.blk:=by
  rw [bY β hr'] at hp'
  simp only [zXi] at hp'
  cases e with
  |none=>
   dsimp only at hp'
   rw [zk] at hp'
   cases h:β[m]? with
   |none=>rw [h] at hp';cases hp'
   |some z=>rw [h] at hp';simp only [Qa] at hp';exact⟨p',by rw [hp'],rfl⟩
  |some e=>
   dsimp only at hp'
   rw [zk] at hp'
   cases h:β[m]? with
   |none=>rw [h] at hp';cases hp'
   |some z=>
    rw [h] at hp'
    cases z with
    |none=>cases hp'
    |some z=>simp only [Qa,Qr,zXi] at hp';exact⟨z,rfl,by rw [<-hp']⟩
 obtain⟨q,hq,hqb⟩:=hbm
 rw [<-hqb]
 exact hs.apart n m x y p q hn hm' hxo hbn hq hnm
def FL (ρ:cO):List (Option AV)->List (Option AV)->Prop
 |[],[]=>True
 |none::l,_::m=>FL ρ l m
 |some a::l,some b::m=>Fu ρ a b/\FL ρ l m
 |_,_=>False
def Fv (ρ:cO):Slots->Slots->Prop
 |[],[]=>True
 |a::l,b::m=>FL ρ a b/\Fv ρ l m
 |_,_=>False
theorem nO {ρ:cO}:∀ {t s:List (Option AV)},FL ρ t s->t.length=s.length
 |[],[],_=>rfl
 |none::l,_::m,h=>by simp [nO (t:=l) (s:=m) h]
 |some a::l,some b::m,h=>by simp [nO h.2]
 |some a::l,none::m,h=>h.elim
 |[],_::_,h=>h.elim
 |none::_,[],h=>h.elim
 |some _::_,[],h=>h.elim
theorem wM {ρ:cO}:∀ {t s:List (Option AV)} {i:Nat} {v:AV},FL ρ t s->t[i]? =some (some v)->∃ u,s[i]? =some (some u)/\Fu ρ v u
 |[],[],i,v,_,h=>by simp at h
 |none::l,_::m,0,v,_,h=>by simp at h
 |none::l,_::m,i+1,v,hm,h=>by simp at h;obtain⟨u,hu,hr⟩:=wM (t:=l) (s:=m) hm h;exact⟨u,by simpa using hu,hr⟩
 |some a::l,some b::m,0,v,hm,h=>by simp at h;subst h;exact⟨b,zP,hm.1⟩
 |some a::l,some b::m,i+1,v,hm,h=>by simp at h;obtain⟨u,hu,hr⟩:=wM hm.2 h;exact⟨u,by simpa using hu,hr⟩
 |some a::l,none::m,_,_,h,_=>h.elim
 |[],_::_,_,_,h,_=>h.elim
 |none::_,[],_,_,h,_=>h.elim
 |some _::_,[],_,_,h,_=>h.elim
theorem tN {ρ:cO}:∀ {t s:Slots} (i:Nat),Fv ρ t s->(t[i]? =none/\s[i]? =none)\/∃ a b,t[i]? =some a/\s[i]? =some b/\FL ρ a b
 |[],[],i,_=>.inl ⟨zP,zP⟩
 |a::l,b::m,0,h=>.inr ⟨a,b,zP,zP,h.1⟩
 |a::l,b::m,i+1,h=>by simpa using tN i h.2
 |[],_::_,_,h=>h.elim
 |_::_,[],_,h=>h.elim
theorem B1 {β:Be} {ρ:cO} {t s:Slots} {tm:Array Value} (h:Fv ρ t s) (hs:SlotsR β s tm):SlotsR (fZ β ρ) t tm:=by
 have hhas:∀ i,t.has i->s.has i:=by
  intro i hi
  unfold Slots.has at hi⊢
  rw [zk] at hi⊢
  rcases tN (i / 16) h with⟨h1,h2⟩|⟨a,b,h1,h2,h3⟩
  ·rw [h1] at hi;simp at hi
  rw [h1] at hi
  rw [h2]
  simp only [Qa] at hi⊢
  rw [<-nO h3]
  exact hi
 refine⟨fun i hi=>hs.1 i (hhas i hi),fun i v hv=>?_⟩
 unfold Slots.get at hv
 rw [zk (l:=t)] at hv
 rcases tN (i / 16) h with⟨h1,h2⟩|⟨a,b,h1,h2,h3⟩
 ·rw [h1] at hv;simp at hv
 rw [h1,Qa,zk] at hv
 have hv':a[i % 16]? =some (some v):=by
  cases hx:a[i % 16]? with
  |none=>rw [hx] at hv;cases hv
  |some y=>rw [hx] at hv;simp only [Qa] at hv;rw [hv]
 obtain⟨u,hu,hr⟩:=wM h3 hv'
 have hg:s.get i=some u:=by
  unfold Slots.get
  rw [zk (l:=s),h2,Qa,zk,hu]
  rfl
 obtain⟨x,hx,hxr⟩:=hs.2 i u hg
 exact⟨x,hx,AD hr hxr⟩
def G4:Nat->Nat->cO->Bool
 |0,n0,ρ=>ρ.all fun|some (n,none)=>decide (n0<=n)|some (_,some _)=>false|none=>true
 |k+1,n0,some (n,none)::ρ=>n == n0 && G4 k (n0+1) ρ
 |_,_,_=>false
def nv (ρ:cO) (n0:Nat) (t s:S):Prop:=G4 n0 0 ρ=true/\e9 ρ t.hp=true/\Fv ρ t.sl s.sl/\lY ρ s.hp ρ t.hp
theorem JK:∀ {k n0:Nat} {ρ:cO},G4 k n0 ρ=true->(∀ i,i < k->ρ[i]? =some (some (n0+i,none)))/\(∀ i n d,k<=i->ρ[i]? =some (some (n,d))->d=none/\n0+k<=n)
 |0,n0,ρ,h=>by
  refine⟨fun i hi=>by omega,fun i n d _ hr=>?_⟩
  have:=Qh.1 (by simpa [G4] using h) _ (Qk hr)
  cases d with
  |none=>exact⟨rfl,by simpa using this⟩
  |some d=>cases this
 |k+1,n0,ρ,h=>by
  cases ρ with
  |nil=>cases h
  |cons x ρ=>
   cases x with
   |none=>cases h
   |some x=>
    obtain⟨n,d⟩:=x
    cases d with
    |some d=>cases h
    |none=>
     simp only [G4,P7,beq_iff_eq] at h
     obtain⟨rfl,h⟩:=h
     obtain⟨h1,h2⟩:=JK h
     refine⟨fun i hi=>?_,fun i m d hi hr=>?_⟩
     ·cases i with
      |zero=>simp
      |succ i=>
       rw [Qe,h1 i zO]
       simp only [zXi,Prod.mk.injEq,and_true]
       omega
     cases i with
     |zero=>omega
     |succ i=>
      rw [Qe] at hr
      obtain⟨h3,h4⟩:=h2 i m d zO hr
      exact⟨h3,zO⟩
theorem wN {E:Entry} {n0:Nat} (hE:E.h.length=n0) {ρ:cO} {t s:S} (h:nv ρ n0 t s) {β:Be} {a:Act} {w:World} (hs:Sim E β s a w):Sim E (fZ β ρ) t a w:=by
 obtain⟨hid,hsep,hsl,hhp⟩:=h
 obtain⟨hlo,hhi⟩:=JK hid
 have hlen:=jr hhp
 have hl0:n0<=t.hp.length:=by
  rw [<-hlen]
  rcases Qs ρ.length n0 with h1|h1
  ·have:=hlo ρ.length h1
   rw [Qc (Qf _)] at this
   cases this
  exact h1
 refine⟨hs.dfr,B1 hsl hs.sl,B0 hs.hp hhp hsep,hs.ent,?_⟩
 have st:=hs.st
 refine⟨fun o p hp=>?_,st.os,st.tape,st.output,st.size,st.block,by rw [hE];exact hl0,fun o ob hlt ho=>?_,fun o ob p hge ho hp=>?_⟩
 ·have hlt:o < n0:=by rw [<-hE,<-hs.ent];exact (zG.1 hp).1
  have h1:=hlo o hlt
  rw [Qn] at h1
  rw [bY β h1]
  dsimp only
  rw [zk,st.le o p hp]
  rfl
 ·rw [hE] at hlt
  have h1:=hlo o hlt
  rw [Qn] at h1
  rcases gU hhp ho with⟨hr,_⟩|⟨n,d,ob',hr,hn,hob⟩
  ·rw [h1] at hr;cases hr
  rw [h1] at hr
  simp only [zXi,Prod.mk.injEq] at hr
  obtain⟨rfl,rfl⟩:=hr
  obtain⟨ob0,ho0,hown0⟩:=st.old o ob' (by rw [hE];exact hlt) hn
  exact⟨ob0,ho0,fun h=>hown0 (mz hob h).2⟩
 rw [hE] at hge
 rcases gU hhp ho with⟨hr,_⟩|⟨n,d,ob',hr,hn,hob⟩
 ·rw [bY β hr] at hp;cases hp
 obtain⟨rfl,hge'⟩:=hhi o n d hge hr
 rw [bY β hr] at hp
 simp only [zXi] at hp
 rw [zk] at hp
 have hb:β[n]? =some (some p):=by
  cases h:β[n]? with
  |none=>rw [h] at hp;cases hp
  |some z=>rw [h] at hp;simp only [Qa] at hp;rw [hp]
 exact st.fresh n ob' p (by rw [hE];omega) hn hb
theorem JL {P:Program} {E:Entry} {n0:Nat} (hE:E.h.length=n0) {ρ:cO} {t s:S} (h:nv ρ n0 t s) {C:Code} {K:Exit->S->Prop} (hd:uK P E C t K):uK P E C s K:=
 fun β a w hs Q hQ=>hd _ a w (wN hE h hs) Q hQ
def S.kill (l:Slots):List Nat->Slots
 |[]=>l
 |k::r=>S.kill (l.put k none) r
def S.sets (l:Slots):List (Nat×AV)->Slots
 |[]=>l
 |(k,v)::r=>S.sets (l.put k (some v)) r
def S.at (s:S) (kill:List Nat) (set:List (Nat×AV)) (h:Hp):S:=⟨S.sets (S.kill s.sl kill) set,h⟩
theorem dI {P:Program} {E:Entry} {F:S->Prop} {b:Code} {k:List gz} {s:S} {c:Prop} {ι:Type} (n0:Nat) (hE:E.h.length=n0) (mk:S->ι->S) (J:ι->Prop) (μ:ι->Nat) (i0:ι) (ρ0:cO) (hc:c) (hJ:J i0) (h0:nv ρ0 n0 (mk s i0) s)
  (h:∀ i,J i->∀ N:S->Prop,(∀ (s':S) (j:ι) (ρ:cO),J j->μ j < μ i->nv ρ n0 (mk s j) s'->N s')->iA P E F (.go (.code b::.hook N::k) (mk s i) True)):iA P E F (.lp b k s c):=by
 refine⟨hc,DN (fun _=>True) (fun s' n=>∃ i ρ,J i/\nv ρ n0 (mk s i) s'/\μ i=n) (μ i0) ⟨trivial,i0,ρ0,hJ,h0,rfl⟩ fun s' n _ ⟨i,ρ,hi,hw,hn⟩=>?_⟩
 have hd:=(h i hi (fun s''=>∃ j ρ,J j/\μ j < μ i/\nv ρ n0 (mk s j) s'') fun s'' j ρ' hj hlt hw'=>⟨j,ρ',hj,hlt,hw'⟩).2
 refine JL hE hw (iR hd fun e s'' hk=>?_)
 cases e with
 |normal=>
  obtain⟨j,ρ',hj,hlt,hw'⟩:=hk
  exact⟨trivial,μ j,zO,j,ρ',hj,hw',rfl⟩
 |_=>exact hk
theorem aw {ρ:cO} {n0:Nat} {t s:S} (h1:G4 n0 0 ρ=true) (h2:e9 ρ t.hp=true) (h:Fv ρ t.sl s.sl/\lY ρ s.hp ρ t.hp):nv ρ n0 t s:=⟨h1,h2,h.1,h.2⟩
end
section
open Go.RowKit
def tO (ρ:cO) (N o:Nat):Option (Nat×Option Nat):=if o < ρ.length then ρ.at o else some (N+(o - ρ.length),none)
def rD (ρ:cO) (N:Nat):Sc->Sc
 | .sl o off len=>match tO ρ N o with
  |some (n,none)=>.sl n off len
  |some (n,some d)=>.sl n (off+d) len
  |none=>.nil
 | .pt o k j=>match tO ρ N o with
  |some (n,none)=>.pt n k j
  |some (n,some d)=>.pt n (k+d) j
  |none=>.nil
 | .int k n=>.int k n
 | .bo b=>.bo b
 | .st l=>.st l
 | .nil=>.nil
 | .un=>.un
def rE (ρ:cO) (N:Nat):List Sc->List Sc
 |[]=>[]
 |a::l=>rD ρ N a::rE ρ N l
def JM (ρ:cO) (N:Nat):Co->Co
 | .sc a=>.sc (rD ρ N a)
 | .ag l=>.ag (rE ρ N l)
def G5 (ρ:cO) (N:Nat):List Co->List Co
 |[]=>[]
 |a::l=>JM ρ N a::G5 ρ N l
def l5 (ρ:cO) (N:Nat):AV->AV
 | .sc a=>.sc (rD ρ N a)
 | .ag l=>.ag (rE ρ N l)
 | .tu l=>.tu (G5 ρ N l)
 | .cl f l=>.cl f (rE ρ N l)
def wO (ρ:cO) (N:Nat):List (List Sc)->List (List Sc)
 |[]=>[]
 |a::l=>rE ρ N a::wO ρ N l
def jk (ρ:cO) (N:Nat) (ob:AObj):AObj:=
 match ob.fl with
 |true=>ob
 |false=>{ ob with cs:=wO ρ N ob.cs }
def kP (ρ:cO) (N:Nat):Hp->Hp
 |[]=>[]
 |none::h=>none::kP ρ N h
 |some ob::h=>some (jk ρ N ob)::kP ρ N h
def nP (ρ:cO) (N:Nat):Option AObj->Option AObj
 |none=>none
 |some ob=>some (jk ρ N ob)
def gA (ρ0:cO) (N:Nat):cO->Hp->Hp->Hp->Hp
 |some (n,_)::ρ,some t::h,t'::h',s=>match t.own with
  |true=>gA ρ0 N ρ h h' (s.set n (nP ρ0 N t'))
  |false=>gA ρ0 N ρ h h' s
 |_::ρ,_::h,_::h',s=>gA ρ0 N ρ h h' s
 |_,_,_,s=>s
def fu (ρ:cO) (h0 h0' s:Hp):Hp:=gA ρ s.length ρ h0 h0' s++kP ρ s.length (h0'.drop h0.length)
theorem jW (ρ0:cO) (N:Nat):∀ (ρ:cO) (h h' s:Hp),(gA ρ0 N ρ h h' s).length=s.length
 |[],_,_,s=>by simp [gA]
 |x::ρ,[],_,s=>by cases x<;>simp [gA]
 |x::ρ,y::h,[],s=>by cases x<;>cases y<;>simp [gA]
 |none::ρ,y::h,z::h',s=>by cases y<;>simp [gA,jW ρ0 N ρ h h' s]
 |some x::ρ,none::h,z::h',s=>by simp [gA,jW ρ0 N ρ h h' s]
 |some (n,d)::ρ,some t::h,z::h',s=>by
  cases ho:t.own
  ·simp [gA,ho,jW ρ0 N ρ h h' s]
  simp [gA,ho,jW ρ0 N ρ h h' (s.set n (nP ρ0 N z))]
theorem js {ρ0:cO} {N o:Nat}:∀ {ρ:cO} {h h' s:Hp},(∀ (i:Nat) (d:Option Nat) (t:AObj),ρ[i]? =some (some (o,d))->h[i]? =some (some t)->t.own=false)->(gA ρ0 N ρ h h' s)[o]? =s[o]?
 |[],_,_,s,_=>by simp [gA]
 |x::ρ,[],_,s,_=>by cases x<;>simp [gA]
 |x::ρ,y::h,[],s,_=>by cases x<;>cases y<;>simp [gA]
 |none::ρ,y::h,z::h',s,hx=>by
  cases y<;>simpa [gA] using js (ρ:=ρ) (h:=h) (h':=h') (s:=s) (fun i d t h1 h2=>hx (i+1) d t (by simpa using h1) (by simpa using h2))
 |some x::ρ,none::h,z::h',s,hx=>by
  simpa [gA] using js (ρ:=ρ) (h:=h) (h':=h') (s:=s) (fun i d t h1 h2=>hx (i+1) d t (by simpa using h1) (by simpa using h2))
 |some (n,d)::ρ,some t::h,z::h',s,hx=>by
  cases ho:t.own
  ·simpa [gA,ho] using js (ρ:=ρ) (h:=h) (h':=h') (s:=s) (fun i d t h1 h2=>hx (i+1) d t (by simpa using h1) (by simpa using h2))
  have hne:n≠o:=fun e=>by
   subst e
   have:=hx 0 d t zP zP
   rw [ho] at this;cases this
  have:=js (ρ0:=ρ0) (N:=N) (ρ:=ρ) (h:=h) (h':=h') (s:=s.set n (nP ρ0 N z)) (fun i d t h1 h2=>hx (i+1) d t (by simpa using h1) (by simpa using h2))
  simp only [gA,ho]
  rw [this,Q0 hne]
theorem nQ {ρ0:cO} {N o:Nat}:∀ {ρ:cO} {h h' s:Hp},e9 ρ h=true->o < s.length->∀ {i:Nat} {d:Option Nat} {t:AObj} {x:Option AObj},ρ[i]? =some (some (o,d))->h[i]? =some (some t)->t.own=true->h'[i]? =some x->(gA ρ0 N ρ h h' s)[o]? =some (nP ρ0 N x)
 |[],_,_,s,_,_,i,d,t,x,h1,_,_,_=>by simp at h1
 |_::_,[],_,s,_,_,i,d,t,x,_,h2,_,_=>by simp at h2
 |_::_,_::_,[],s,_,_,i,d,t,x,_,_,_,h4=>by simp at h4
 |y::ρ,u::h,z::h',s,hs,hlt,0,d,t,x,h1,h2,h3,h4=>by
  simp only [Qi,zXi] at h1 h2 h4
  subst h1;subst h2;subst h4
  have hx:∀ (i:Nat) (d':Option Nat) (t':AObj),ρ[i]? =some (some (o,d'))->h[i]? =some (some t')->t'.own=false:=by
   intro i d' t' k1 k2
   cases ho:t'.own with
   |false=>rfl
   |true=>exact absurd rfl (rC (n:=o) (m:=o) (d:=d) (e:=d') (t:=t) (u:=t') hs (show 0 < i+1 by omega) zP zP (by simpa using k1) (by simpa using k2) (.inl h3))
  simp only [gA,h3]
  rw [js hx,Ra hlt]
 |y::ρ,u::h,z::h',s,hs,hlt,i+1,d,t,x,h1,h2,h3,h4=>by
  simp only [Qe] at h1 h2 h4
  cases y with
  |none=>cases u<;>simpa [gA] using nQ (ρ:=ρ) (h:=h) (h':=h') (s:=s) (lZ hs) hlt h1 h2 h3 h4
  |some y=>
   obtain⟨n,e⟩:=y
   cases u with
   |none=>simpa [gA] using nQ (ρ:=ρ) (h:=h) (h':=h') (s:=s) (lZ hs) hlt h1 h2 h3 h4
   |some u=>
    cases ho:u.own
    ·simpa [gA,ho] using nQ (ρ:=ρ) (h:=h) (h':=h') (s:=s) (lZ hs) hlt h1 h2 h3 h4
    simpa [gA,ho] using nQ (ρ:=ρ) (h:=h) (h':=h') (s:=s.set n (nP ρ0 N z)) (lZ hs) (by simpa using hlt) h1 h2 h3 h4
theorem tP (ρ:cO) (N:Nat):∀ (h:Hp) (o:Nat),(kP ρ N h)[o]? =(h[o]?).map (nP ρ N)
 |[],o=>by simp [kP]
 |none::h,0=>by simp [kP,nP]
 |some ob::h,0=>by simp [kP,nP]
 |none::h,o+1=>by simpa [kP] using tP ρ N h o
 |some ob::h,o+1=>by simpa [kP] using tP ρ N h o
def gh (β β0':Be) (n:Nat):Be:=β++β0'.drop n
section
variable {β β0':Be} {ρ:cO} {N:Nat}
theorem wP (hN:β.length=N) {o:Nat} (ho:ρ.length<=o):(gh β β0' ρ.length)[N+(o - ρ.length)]? =β0'[o]? :=by
 unfold gh
 rw [P9 zO,Qq]
 congr 1
 omega
theorem qi {o:Nat} (ho:o < β.length):(gh β β0' ρ.length)[o]? =β[o]? :=by
 unfold gh
 rw [P6 ho]
theorem B2 {β:Be} {n:Nat} {p:Pl} (h:β.getD n none=some p):β[n]? =some (some p):=by
 rw [zk] at h
 cases hx:β[n]? with
 |none=>rw [hx] at h;cases h
 |some y=>rw [hx] at h;simp only [Qa] at h;rw [h]
theorem wQ (hN:β.length=N) (hle:Be.le (fZ β ρ) β0') {o:Nat} {p:Pl} (hp:β0'[o]? =some (some p)):
  ∃ (n:Nat) (d:Option Nat) (q:Pl),tO ρ N o=some (n,d)/\(gh β β0' ρ.length)[n]? =some (some q)/\p=(match d with
   |none=>q
   |some d=>{ q with base:=q.base+d*q.esz,avail:=q.avail - d*q.esz }):=by
 unfold tO
 by_cases hlt:o < ρ.length
 ·rw [if_pos hlt]
  have hx:ρ[o]? =some ρ[o]:=P_ hlt
  have hb:=hle _ _ (bY β hx)
  rw [hp] at hb
  simp only [zXi] at hb
  have hat:ρ.at o=ρ[o]:=by unfold cO.at;rw [zk,hx];rfl
  rw [hat]
  cases hr:ρ[o] with
  |none=>rw [hr] at hb;cases hb
  |some x=>
   obtain⟨n,d⟩:=x
   rw [hr] at hb
   cases d with
   |none=>
    dsimp only at hb
    have h1:=B2 hb.symm
    exact⟨n,none,p,rfl,by rw [qi (zG.1 h1).1];exact h1,rfl⟩
   |some d=>
    dsimp only at hb
    cases hg:β.getD n none with
    |none=>rw [hg] at hb;cases hb
    |some q=>
     rw [hg] at hb
     simp only [Qr,zXi] at hb
     have h1:=B2 hg
     exact⟨n,some d,q,rfl,by rw [qi (zG.1 h1).1];exact h1,hb⟩
 rw [if_neg hlt]
 exact⟨N+(o - ρ.length),none,p,rfl,by rw [wP hN zO];exact hp,rfl⟩
theorem we (hN:β.length=N) (hle:Be.le (fZ β ρ) β0'):∀ {s:Sc} {v:Value},eB β0' s v->eB (gh β β0' ρ.length) (rD ρ N s) v
 | .int ..,_,h=>h
 | .bo _,_,h=>h
 | .st _,_,h=>h
 | .nil,_,h=>h
 | .un,_,h=>h
 | .sl o off len,v,⟨a,cap,hv,h1,h2,h3⟩=>by
  rcases h3 with h3|⟨p,hp,ha,hav⟩
  ·subst h3
   have:len=0:=zO
   subst this
   subst hv
   simp only [rD]
   split
   ·exact⟨a,0,rfl,Qf _,h2,.inl rfl⟩
   ·exact⟨a,0,rfl,Qf _,h2,.inl rfl⟩
   exact⟨a,rfl⟩
  obtain⟨n,d,q,hn,hq,hpq⟩:=wQ hN hle hp
  simp only [rD,hn]
  cases d with
  |none=>
   dsimp only at hpq
   subst hpq
   exact⟨a,cap,hv,h1,h2,.inr ⟨p,hq,ha,hav⟩⟩
  |some d=>
   dsimp only at hpq
   subst hpq
   dsimp only at ha hav
   by_cases hc:cap=0
   ·exact⟨a,cap,hv,h1,h2,.inl hc⟩
   refine⟨a,cap,hv,h1,h2,?_⟩
   by_cases hz:q.esz=0
   ·refine .inr ⟨q,hq,?_,?_⟩
    ·rw [ha,hz];simp
    rw [hz];simp
   refine .inr ⟨q,hq,?_,?_⟩
   ·rw [ha]
    simp only [zXi,Addr.mk.injEq,and_true,true_and]
    rw [Qj]
    omega
   have hpos:0 < (off+cap)*q.esz:=Nat.mul_pos zO zO
   rw [show off+d+cap=(off+cap)+d from by omega,Qj]
   omega
 | .pt o k j,v,⟨p,hp,hv⟩=>by
  obtain⟨n,d,q,hn,hq,hpq⟩:=wQ hN hle hp
  simp only [rD,hn]
  cases d with
  |none=>
   dsimp only at hpq
   subst hpq
   exact⟨p,hq,hv⟩
  |some d=>
   dsimp only at hpq
   subst hpq
   refine⟨q,hq,?_⟩
   rw [hv]
   simp only [Value.pointer.injEq,zXi,Addr.mk.injEq,and_true,true_and]
   rw [Qj]
   omega
theorem B3 (hN:β.length=N) (hle:Be.le (fZ β ρ) β0'):∀ {s:List Sc} {vs:List Value},L2 (eB β0') s vs->L2 (eB (gh β β0' ρ.length)) (rE ρ N s) vs
 |[],[],_=>trivial
 |a::l,v::vs,h=>⟨we hN hle h.1,B3 hN hle h.2⟩
 |[],_::_,h=>h.elim
 |_::_,[],h=>h.elim
theorem L3 (hN:β.length=N) (hle:Be.le (fZ β ρ) β0') {s:Co} {v:Value} (h:Fx β0' s v):Fx (gh β β0' ρ.length) (JM ρ N s) v:=by
 cases s with
 |sc s=>exact we hN hle h
 |ag l=>obtain⟨vs,hv,hl⟩:=h;exact⟨vs,hv,B3 hN hle hl⟩
theorem G6 (hN:β.length=N) (hle:Be.le (fZ β ρ) β0'):∀ {s:List Co} {vs:List Value},L2 (Fx β0') s vs->L2 (Fx (gh β β0' ρ.length)) (G5 ρ N s) vs
 |[],[],_=>trivial
 |a::l,v::vs,h=>⟨L3 hN hle h.1,G6 hN hle h.2⟩
 |[],_::_,h=>h.elim
 |_::_,[],h=>h.elim
theorem L4 (hN:β.length=N) (hle:Be.le (fZ β ρ) β0') {s:AV} {v:Value} (h:iq β0' s v):iq (gh β β0' ρ.length) (l5 ρ N s) v:=by
 cases s with
 |sc s=>exact we hN hle h
 |ag l=>obtain⟨vs,hv,hl⟩:=h;exact⟨vs,hv,B3 hN hle hl⟩
 |tu l=>obtain⟨vs,hv,hl⟩:=h;exact⟨vs,hv,G6 hN hle hl⟩
 |cl f l=>obtain⟨vs,hv,hl⟩:=h;exact⟨vs,hv,B3 hN hle hl⟩
theorem DR (ρ:cO) (N:Nat):∀ (l:List Sc) (i:Nat),(rE ρ N l)[i]? =(l[i]?).map (rD ρ N)
 |[],i=>by simp [rE]
 |a::l,0=>by simp [rE]
 |a::l,i+1=>by simpa [rE] using DR ρ N l i
theorem uM (ρ:cO) (N:Nat):∀ (l:List Sc),(rE ρ N l).length=l.length
 |[]=>rfl
 |a::l=>by simp [rE,uM ρ N l]
theorem AG (ρ:cO) (N:Nat):∀ (l:List (List Sc)) (i:Nat),(wO ρ N l)[i]? =(l[i]?).map (rE ρ N)
 |[],i=>by simp [wO]
 |a::l,0=>by simp [wO]
 |a::l,i+1=>by simpa [wO] using AG ρ N l i
theorem kQ (ob:AObj):(jk ρ N ob).esz=ob.esz/\(jk ρ N ob).ty=ob.ty/\(jk ρ N ob).own=ob.own/\(jk ρ N ob).fl=ob.fl:=by
 unfold jk
 split<;>simp_all
theorem G7 (hN:β.length=N) (hle:Be.le (fZ β ρ) β0') {w:World} {p:Option Pl} {ob:AObj} (h:ObR β0' w p ob) (hflat:ob.fl=true->FlatL ob.cs):ObR (gh β β0' ρ.length) w p (jk ρ N ob):=by
 obtain⟨e1,e2,e3,e4⟩:=kQ (ρ:=ρ) (N:=N) ob
 cases p with
 |none=>
  have h0:ob.cs=[]:=h
  show (jk ρ N ob).cs=[]
  unfold jk
  split
  ·exact h0
  rw [h0];rfl
 |some p=>
  obtain⟨he,arr,T,fz,hh,hc,ho⟩:=h
  refine⟨by rw [e1];exact he,arr,T,fz,hh,?_,by rw [e2,e3];exact ho⟩
  rw [e1]
  unfold jk
  split
  ·rename_i hf
   exact fun k c hk=>⟨(hc k c hk).1,fun j s hs=>let⟨v,hv,hr⟩:=(hc k c hk).2 j s hs;⟨v,hv,FK (jo.1 (hflat hf c (Qk hk)) s (Qk hs)) hr⟩⟩
  intro k c hk
  dsimp only at hk
  rw [AG] at hk
  simp only [Qu] at hk
  obtain⟨c0,hk0,rfl⟩:=hk
  obtain⟨h1,h2⟩:=hc k c0 hk0
  refine⟨by rw [uM];exact h1,fun j s hs=>?_⟩
  rw [DR] at hs
  simp only [Qu] at hs
  obtain⟨s0,hs0,rfl⟩:=hs
  obtain⟨v,hv,hr⟩:=h2 j s0 hs0
  exact⟨v,hv,we hN hle hr⟩
end
theorem G8 {β:Be} {ρ:cO} {s t:Hp} (hm:lY ρ s ρ t) {k:Nat} (h:Own (fZ β ρ) t k):∃ (i n:Nat) (ob':AObj) (p:Pl),ρ[i]? =some (some (n,none))/\s[n]? =some (some ob')/\ob'.own=true/\β[n]? =some (some p)/\(fZ β ρ)[i]? =some (some p)/\p.blk=k/\∃ ob:AObj,t[i]? =some (some ob)/\ob.own=true:=by
 obtain⟨i,ob,p,ho,hown,hp,rfl⟩:=h
 rcases gU hm ho with⟨hr,_⟩|⟨n,d,ob',hr,hn,hob⟩
 ·rw [bY β hr] at hp;cases hp
 obtain⟨rfl,hown'⟩:=mz hob hown
 have hp':=hp
 rw [bY β hr] at hp'
 simp only [zXi] at hp'
 exact⟨i,n,ob',p,hr,hn,hown',B2 hp',hp,rfl,ob,ho,hown⟩
theorem FM {P:Program} {args0 avs:List AV} {h0 h0' s:Hp} {res0:AV} (ρ:cO) (hargs:rz ρ args0 avs) (hm:lY ρ s ρ h0) (hsep:e9 ρ h0=true) {β:Be} {w:World} {vs:List Value} (hs:HSim β s w) (hvs:L2 (iq β) avs vs) {e:Ending} {w':World}
  (hend:∃ β' v,e=.returned v/\iq β' res0 v/\HSim β' h0' w'/\StepR (fZ β ρ) β' h0 h0' w w'):∃ β' v,e=.returned v/\iq β' (l5 ρ s.length res0) v/\HSim β' (fu ρ h0 h0' s) w'/\StepR β β' s (fu ρ h0 h0' s) w w':=by
 have hlen:ρ.length=h0.length:=jr hm
 obtain⟨β0',v,he,hr,hh,hst⟩:=hend
 have hN:β.length=s.length:=hs.len
 have hle:=hst.le
 have hl0':h0.length<=h0'.length:=hst.len
 have hblk:∀ {o:Nat} {ob:AObj} {p:Pl},s[o]? =some (some ob)->β[o]? =some (some p)->(∀ (i:Nat) (d:Option Nat) (t:AObj),ρ[i]? =some (some (o,d))->h0[i]? =some (some t)->t.own=false)->w'.heap[p.blk]? =w.heap[p.blk]? :=by
  intro o ob p ho hp hx
  obtain⟨q,hq,hR⟩:=hs.ob o ob ho
  rw [hp] at hq;cases hq
  refine hst.block _ hR.lt fun hown=>?_
  obtain⟨i,n,ob',q,hr1,hn,hown',hq,_,hqb,t,ht,hto⟩:=G8 hm hown
  by_cases hno:n=o
  ·subst hno
   have:=hx i none t hr1 ht
   rw [hto] at this;cases this
  exact hs.apart n o ob' ob q p hn ho hown' hq hp hno hqb
 have hlenU:(gA ρ s.length ρ h0 h0' s).length=s.length:=jW _ _ _ _ _ _
 have kind:∀ {o:Nat} {x:AObj},(fu ρ h0 h0' s)[o]? =some (some x)->
   (o < s.length/\s[o]? =some (some x)/\(∀ (i:Nat) (d:Option Nat) (t:AObj),ρ[i]? =some (some (o,d))->h0[i]? =some (some t)->t.own=false))\/
   (o < s.length/\∃ (i:Nat) (x0 t ob:AObj),ρ[i]? =some (some (o,none))/\h0[i]? =some (some t)/\t.own=true/\s[o]? =some (some ob)/\ob.own=true/\h0'[i]? =some (some x0)/\i < h0.length/\x=jk ρ s.length x0)\/
   (∃ (i:Nat) (x0:AObj),h0.length<=i/\o=s.length+(i - h0.length)/\h0'[i]? =some (some x0)/\x=jk ρ s.length x0):=by
  intro o x hx
  unfold fu at hx
  rcases Qs o s.length with hlt|hge
  ·rw [P6 (by rw [hlenU];exact hlt)] at hx
   by_cases hown:∃ (i:Nat) (d:Option Nat) (t:AObj),ρ[i]? =some (some (o,d))/\h0[i]? =some (some t)/\t.own=true
   ·obtain⟨i,d,t,h1,h2,h3⟩:=hown
    have hil:i < h0.length:=(zG.1 h2).1
    have hx':h0'[i]? =some (h0'[i]' zO):=P_ zO
    rw [nQ hsep hlt h1 h2 h3 hx'] at hx
    rcases gU hm h2 with⟨hr1,_⟩|⟨n,d',ob',hr1,hn,hob⟩
    ·rw [h1] at hr1;cases hr1
    rw [h1] at hr1
    simp only [zXi,Prod.mk.injEq] at hr1
    obtain⟨rfl,rfl⟩:=hr1
    obtain⟨rfl,hown'⟩:=mz hob h3
    cases hz:h0'[i]' zO with
    |none=>rw [hz] at hx;cases hx
    |some x0=>
     rw [hz] at hx
     simp only [nP,zXi] at hx
     exact .inr (.inl ⟨hlt,i,x0,t,ob',h1,h2,h3,hn,hown',by rw [hx',hz],hil,hx.symm⟩)
   have hx2:∀ (i:Nat) (d:Option Nat) (t:AObj),ρ[i]? =some (some (o,d))->h0[i]? =some (some t)->t.own=false:=by
    intro i d t h1 h2
    cases h3:t.own with
    |false=>rfl
    |true=>exact absurd ⟨i,d,t,h1,h2,h3⟩ hown
   rw [js hx2] at hx
   exact .inl ⟨hlt,hx,hx2⟩
  rw [P9 (by rw [hlenU];exact hge),hlenU,tP,Qq] at hx
  simp only [Qu] at hx
  obtain⟨y,hy,hxy⟩:=hx
  cases y with
  |none=>cases hxy
  |some x0=>
   simp only [nP,zXi] at hxy
   exact .inr (.inr ⟨h0.length+(o - s.length),x0,zO,zO,hy,hxy.symm⟩)
 have hnew:∀ {i:Nat},h0.length<=i->(gh β β0' ρ.length)[s.length+(i - h0.length)]? =β0'[i]? :=by
  intro i hi
  have:=wP (β:=β) (β0':=β0') (ρ:=ρ) hN (o:=i) zO
  rwa [hlen] at this⊢
 have hold:∀ {o:Nat},o < s.length->(gh β β0' ρ.length)[o]? =β[o]? :=fun h=>qi zO
 have hplace:∀ {i o:Nat} {q:Option Pl},ρ[i]? =some (some (o,none))->o < s.length->β0'[i]? =some q->β[o]? =some q:=by
  intro i o q h1 ho hq
  have hb:=hle _ _ (bY β h1)
  rw [hq] at hb
  simp only [zXi] at hb
  have:β[o]? =some (β[o]' zO):=P_ zO
  rw [zk,this] at hb
  rw [this,hb]
  rfl
 have hfresh:∀ {i:Nat} {x0:AObj} {p:Pl},h0.length<=i->h0'[i]? =some (some x0)->β0'[i]? =some (some p)->Own β s p.blk\/w.heap.size<=p.blk:=by
  intro i x0 p hi hx hp
  rcases hst.fresh i x0 p hi hx hp with h1|h1
  ·obtain⟨j,n,ob',q,hr1,hn,hown',hq,_,hqb,_⟩:=G8 hm h1
   exact .inl ⟨n,ob',q,hn,hown',hq,hqb⟩
  exact .inr h1
 refine⟨gh β β0' ρ.length,v,he,L4 hN hle hr,⟨?_,?_,?_,?_⟩,⟨?_,hst.os,hst.tape,hst.output,hst.size,?_,?_,?_,?_⟩⟩
 ·
  unfold gh fu
  have hr1:∀ h:Hp,(kP ρ s.length h).length=h.length:=by
   intro h
   induction h with
   |nil=>rfl
   |cons y h ih=>cases y<;>simp [kP,ih]
  simp only [QS,List.length_drop,hlenU,hr1,hN,hh.len,hlen]
 ·intro o x hx
  rcases kind hx with⟨hlt,hsx,hx2⟩|⟨hlt,i,x0,t,ob,h1,h2,h3,hsx,hown,hx0,hil,rfl⟩|⟨i,x0,hi,rfl,hx0,rfl⟩
  ·obtain⟨q,hq,hR⟩:=hs.ob o x hsx
   refine⟨q,by rw [hold hlt];exact hq,(hR.world fun q' hq'=>?_).mono (Be.le_append _ _)⟩
   subst hq'
   exact hblk hsx hq hx2
  ·obtain⟨q,hq,hR⟩:=hh.ob i x0 hx0
   exact⟨q,by rw [hold hlt];exact hplace h1 hlt hq,G7 hN hle hR (hh.flat i x0 hx0)⟩
  obtain⟨q,hq,hR⟩:=hh.ob i x0 hx0
  exact⟨q,by rw [hnew hi];exact hq,G7 hN hle hR (hh.flat i x0 hx0)⟩
 ·intro o x hx hf
  have hflat:∀ {i:Nat} {x0:AObj},h0'[i]? =some (some x0)->(jk ρ s.length x0).fl=true->FlatL (jk ρ s.length x0).cs:=by
   intro i x0 hx0 hf
   have h4:=(kQ (ρ:=ρ) (N:=s.length) x0).2.2.2
   rw [h4] at hf
   have:jk ρ s.length x0=x0:=by unfold jk;rw [hf]
   rw [this]
   exact hh.flat i x0 hx0 hf
  rcases kind hx with⟨hlt,hsx,hx2⟩|⟨hlt,i,x0,t,ob,h1,h2,h3,hsx,hown,hx0,hil,rfl⟩|⟨i,x0,hi,rfl,hx0,rfl⟩
  ·exact hs.flat o x hsx hf
  ·exact hflat hx0 hf
  exact hflat hx0 hf
 ·intro o o' x x' p p' hx hx' hxo hp hp' hne
  have oldp:∀ {o:Nat} {x:AObj} {p:Pl},(fu ρ h0 h0' s)[o]? =some (some x)->o < s.length->(gh β β0' ρ.length)[o]? =some (some p)->∃ ob:AObj,s[o]? =some (some ob)/\(x.own=true->ob.own=true)/\β[o]? =some (some p):=by
   intro o x p hx hlt hp
   rw [hold hlt] at hp
   rcases kind hx with⟨_,hsx,_⟩|⟨_,i,x0,t,ob,h1,h2,h3,hsx,hown,hx0,hil,rfl⟩|⟨i,x0,hi,rfl,hx0,rfl⟩
   ·exact⟨x,hsx,id,hp⟩
   ·exact⟨ob,hsx,fun _=>hown,hp⟩
   omega
  have cross:∀ {o o':Nat} {x x':AObj} {p p':Pl},(fu ρ h0 h0' s)[o]? =some (some x)->(fu ρ h0 h0' s)[o']? =some (some x')->o < s.length->s.length<=o'->(x.own=true\/x'.own=true)->
    (gh β β0' ρ.length)[o]? =some (some p)->(gh β β0' ρ.length)[o']? =some (some p')->p.blk≠p'.blk:=by
   intro o o' x x' p p' hx hx' hlt hge hor hp hp' hbb
   obtain⟨ob,hsx,hown,hbp⟩:=oldp hx hlt hp
   rcases kind hx' with⟨h1,_⟩|⟨h1,_⟩|⟨i',x0',hi',rfl,hx0',rfl⟩
   ·omega
   ·omega
   rw [hnew hi'] at hp'
   rcases hst.fresh i' x0' p' hi' hx0' hp' with hO|hO
   ·obtain⟨j,n,ob',q,hr1,hn,hown',hq,hbq,hqb,t,ht,hto⟩:=G8 hm hO
    by_cases hno:n=o
    ·subst hno
     rcases kind hx with⟨_,_,hx2⟩|⟨_,i,x0,t',ob2,h1,h2,h3,_,_,hx0,hil,rfl⟩|⟨i,x0,hi,he2,_⟩
     ·have:=hx2 j none t hr1 ht
      rw [hto] at this;cases this
     ·have hij:i=j:=by
       by_cases hij:i=j
       ·exact hij
       exact absurd rfl (G3 hsep hij h1 h2 hr1 ht (.inl h3))
      subst hij
      have hbi:β0'[i]? =some (some q):=hle _ _ hbq
      have hneq:i≠i':=zO
      rw [(kQ (ρ:=ρ) (N:=s.length) x0).2.2.1,(kQ (ρ:=ρ) (N:=s.length) x0').2.2.1] at hor
      rcases hor with ho1|ho1
      ·exact hh.apart i i' x0 x0' q p' hx0 hx0' ho1 hbi hp' hneq hqb
      exact hh.apart i' i x0' x0 p' q hx0' hx0 ho1 hp' hbi (Ne.symm hneq) hqb.symm
     omega
    exact hs.apart n o ob' ob q p hn hsx hown' hq hbp hno (by rw [hqb,hbb])
   obtain⟨q,hq,hR⟩:=hs.ob o ob hsx
   rw [hbp] at hq
   cases hq
   have:=hR.lt
   omega
  rcases Qs o s.length with hlt|hge
  ·rcases Qs o' s.length with hlt'|hge'
   ·obtain⟨ob,hsx,hown,hbp⟩:=oldp hx hlt hp
    obtain⟨ob',hsx',_,hbp'⟩:=oldp hx' hlt' hp'
    exact hs.apart o o' ob ob' p p' hsx hsx' (hown hxo) hbp hbp' hne
   exact cross hx hx' hlt hge' (.inl hxo) hp hp'
  rcases Qs o' s.length with hlt'|hge'
  ·exact (cross hx' hx hlt' hge (.inr hxo) hp' hp).symm
  rcases kind hx with⟨h1,_⟩|⟨h1,_⟩|⟨i,x0,hi,rfl,hx0,rfl⟩
  ·omega
  ·omega
  rcases kind hx' with⟨h1,_⟩|⟨h1,_⟩|⟨i',x0',hi',rfl,hx0',rfl⟩
  ·omega
  ·omega
  rw [hnew hi] at hp
  rw [hnew hi'] at hp'
  rw [(kQ (ρ:=ρ) (N:=s.length) x0).2.2.1] at hxo
  exact hh.apart i i' x0 x0' p p' hx0 hx0' hxo hp hp' (fun e=>hne (by rw [e]))
 ·exact Be.le_append _ _
 ·intro k hk hno
  refine hst.block k hk fun hown=>?_
  obtain⟨i,n,ob',q,hr1,hn,hown',hq,_,hqb,_⟩:=G8 hm hown
  exact hno ⟨n,ob',q,hn,hown',hq,hqb⟩
 ·unfold fu
  rw [QS,hlenU]
  omega
 ·intro o x hlt hx
  rcases kind hx with⟨_,hsx,_⟩|⟨_,i,x0,t,ob,h1,h2,h3,hsx,hown,hx0,hil,rfl⟩|⟨i,x0,hi,rfl,hx0,rfl⟩
  ·exact⟨x,hsx,id⟩
  ·exact⟨ob,hsx,fun _=>hown⟩
  omega
 intro o x p hge hx hp
 rcases kind hx with⟨h1,_⟩|⟨h1,_⟩|⟨i,x0,hi,rfl,hx0,rfl⟩
 ·omega
 ·omega
 rw [hnew hi] at hp
 exact hfresh hi hx0 hp
theorem DS {P:Program} {f:FuncId} {args0 avs:List AV} {h0 h0' s:Hp} {res0:AV} (ρ:cO) (hargs:rz ρ args0 avs) (hm:lY ρ s ρ h0) (hsep:e9 ρ h0=true) {β:Be} {w:World} {vs:List Value}
  (hcall:∀ vs,HSim (fZ β ρ) h0 w->L2 (iq (fZ β ρ)) args0 vs->Calls P f vs.toArray w fun e w'=>∃ β' v,e=.returned v/\iq β' res0 v/\HSim β' h0' w'/\StepR (fZ β ρ) β' h0 h0' w w') (hs:HSim β s w) (hvs:L2 (iq β) avs vs):
  Calls P f vs.toArray w fun e w'=>∃ β' v,e=.returned v/\iq β' (l5 ρ s.length res0) v/\HSim β' (fu ρ h0 h0' s) w'/\StepR β β' s (fu ρ h0 h0' s) w w':=
 (hcall vs (B0 hs hm hsep) (JI hargs hvs)).mono fun e w' h=>FM (P:=P) ρ hargs hm hsep hs hvs h
theorem wR {P:Program} {f:FuncId} {args0 avs:List AV} {h0 h0' s:Hp} {res0:AV} (ct:ic P f args0 h0 res0 h0') (ρ:cO) (hargs:rz ρ args0 avs) (hm:lY ρ s ρ h0) (hsep:e9 ρ h0=true):
  ic P f avs s (l5 ρ s.length res0) (fu ρ h0 h0' s):=
 ⟨ct.1,fun β w vs hs hvs=>DS ρ hargs hm hsep (fun vs h1 h2=>ct.2 _ w vs h1 h2) hs hvs⟩
theorem ai {P:Program} {E:Entry} {F:S->Prop} {f:FuncId} {avs:List AV} {d:Option Tmp} {k:List gz} {s:S} {c:Prop} {args0:List AV} {h0 h0':Hp} {res0:AV} (hc:c) (ct:ic P f args0 h0 res0 h0') (ρ:cO)
  (hm:rz ρ args0 avs/\lY ρ s.hp ρ h0) (hsep:e9 ρ h0=true) (hk:iA P E F (.go k (s.put d (some (l5 ρ s.hp.length res0)) (fu ρ h0 h0' s.hp)) True)):iA P E F (.call f avs d k s c):=
 ⟨hc,(wR ct ρ hm.1 hm.2 hsep).e.r hk.2⟩
def hZ {α:Type}:Nat->List α->List (List α)
 |0,_=>[]
 |n+1,l=>match l with
  |[]=>[]
  |l=>l.take 16::hZ n (l.drop 16)
def tQ:Nat->List AV->List (Option AV)
 |0,l=>l.map some
 |n+1,[]=>none::tQ n []
 |n+1,a::l=>some a::tQ n l
theorem rF:∀ (n:Nat) (args:List AV),tQ n args=args.map some++List.replicate (n - args.length) none
 |0,l=>by simp [tQ]
 |n+1,[]=>by simp [tQ,rF n [],Re]
 |n+1,a::l=>by simp [tQ,rF n l]
def nR (n:Nat) (args:List AV):Slots:=hZ (n / 16+1) (tQ n args)
theorem qj {α:Type} (d:Option α):∀ (m:Nat) (l:List (Option α)) (i:Nat),l.length<=16*m->((hZ m l).getD (i / 16) []).getD (i % 16) none=l.getD i none/\(i % 16 < ((hZ m l).getD (i / 16) []).length->i < l.length)
 |0,l,i,h=>by
  have:l=[]:=QH zO
  subst this
  simp [hZ]
 |m+1,[],i,h=>by simp [hZ]
 |m+1,a::l,i,h=>by
  simp only [hZ]
  rcases Qs i 16 with hi|hi
  ·have h1:i / 16=0:=zO
   have h2:i % 16=i:=zO
   rw [h1,h2]
   simp only [QN]
   refine⟨?_,fun h3=>by simp at h3⊢;omega⟩
   rw [zk,Ql hi,zk]
  have h1:i / 16=(i - 16) / 16+1:=zO
  have h2:i % 16=(i - 16) % 16:=zO
  rw [h1,h2,QO]
  obtain⟨e1,e2⟩:=qj d m ((a::l).drop 16) (i - 16) (by simp at h⊢;omega)
  refine⟨?_,fun h3=>?_⟩
  ·rw [e1,zk,Qq,zk]
   congr 2
   omega
  have:=e2 h3
  simp at this⊢
  omega
theorem AH {α:Type}:∀ (m:Nat) (l:List (Option α)) (i:Nat),i % 16 < ((hZ m l).getD (i / 16) []).length->i < l.length
 |0,l,i,h=>by simp [hZ] at h
 |m+1,[],i,h=>by simp [hZ] at h
 |m+1,a::l,i,h=>by
  simp only [hZ] at h
  rcases Qs i 16 with hi|hi
  ·have h1:i / 16=0:=zO
   have h2:i % 16=i:=zO
   rw [h1,h2] at h
   simp only [QN] at h
   simp at h⊢
   omega
  have h1:i / 16=(i - 16) / 16+1:=zO
  have h2:i % 16=(i - 16) % 16:=zO
  rw [h1,h2,QO] at h
  have:=AH m ((a::l).drop 16) (i - 16) h
  simp at this⊢
  omega
theorem uN {α:Type}:∀ (m:Nat) (l:List (Option α)) (i:Nat) (v:α),((hZ m l).getD (i / 16) []).getD (i % 16) none=some v->l[i]? =some (some v)
 |0,l,i,v,h=>by simp [hZ] at h
 |m+1,[],i,v,h=>by simp [hZ] at h
 |m+1,a::l,i,v,h=>by
  simp only [hZ] at h
  rcases Qs i 16 with hi|hi
  ·have h1:i / 16=0:=zO
   have h2:i % 16=i:=zO
   rw [h1,h2] at h
   simp only [QN] at h
   rw [zk,Ql hi] at h
   cases hx:(a::l)[i]? with
   |none=>rw [hx] at h;cases h
   |some y=>rw [hx] at h;simp only [Qa] at h;rw [h]
  have h1:i / 16=(i - 16) / 16+1:=zO
  have h2:i % 16=(i - 16) % 16:=zO
  rw [h1,h2,QO] at h
  have:=uN m ((a::l).drop 16) (i - 16) v h
  rw [Qq] at this
  rw [<-this]
  congr 1
  omega
theorem wg {β:Be} {n:Nat} {args:List AV} {vs:List Value} (h:L2 (iq β) args vs):SlotsR β (nR n args) (vs.toArray++Array.replicate (n - vs.toArray.size) undef):=by
 have hl:=h.length
 have hpl:(tQ n args).length=max args.length n:=by simp [rF];omega
 by_cases hn:args.length<=n
 ·have hb:(tQ n args).length<=16*(n / 16+1):=by rw [hpl];omega
  refine⟨fun i hi=>?_,fun i v hv=>?_⟩
  ·have:=(qj (α:=AV) none (n / 16+1) (tQ n args) i hb).2 hi
   rw [hpl] at this
   simp
   omega
  unfold Slots.get nR at hv
  rw [(qj (α:=AV) none (n / 16+1) (tQ n args) i hb).1,zk] at hv
  rw [rF] at hv
  rcases Qs i args.length with hi|hi
  ·rw [P6 (by simpa using hi),Qx] at hv
   have hx:args[i]? =some args[i]:=P_ hi
   rw [hx] at hv
   simp only [Qr,Qa,zXi] at hv
   obtain⟨u,hu,hr⟩:=h.get hx
   refine⟨u,?_,by rw [<-hv];exact hr⟩
   rw [QA zS]
   simpa using hu
  rw [P9 (by simpa using hi)] at hv
  rw [List.getElem?_replicate] at hv
  split at hv<;>cases hv
 have hrep:n - args.length=0:=zO
 have hpad:tQ n args=args.map some:=by simp [rF,hrep]
 refine⟨fun i hi=>?_,fun i v hv=>?_⟩
 ·unfold Slots.has nR at hi
  rw [hpad] at hi
  have:=AH (n / 16+1) (args.map some) i hi
  simp at this⊢
  omega
 unfold Slots.get nR at hv
 rw [hpad] at hv
 have hx:=uN (n / 16+1) (args.map some) i v hv
 rw [Qx] at hx
 simp only [Qu] at hx
 obtain⟨y,hy,he⟩:=hx
 simp only [zXi] at he
 subst he
 obtain⟨u,hu,hr⟩:=h.get hy
 refine⟨u,?_,hr⟩
 have hlt:=(zG.1 hu).1
 rw [QA (by simpa using hlt)]
 simpa using hu
end
section
open Go.RowKit
def G9 (P:Program) (s:S):ResultVar->Option AV
 | .tmp t=>s.sl.get t
 | .cell a t=>match s.sl.get a with
  |some (.sc (.pt o k j))=>match s.obj o with
   |some ob=>match ob.cs[k]? with
    |some c=>match dm P t with
     |true=>if j+eM P t<=c.length then some (.ag ((c.drop j).take (eM P t))) else none
     |false=>if fO P t then match c[j]? with
      |some x=>some (.sc x)
      |none=>none else none
    |none=>none
   |none=>none
  |_=>none
def AI (P:Program) (s:S):List ResultVar->Option (List AV)
 |[]=>some []
 |r::l=>match G9 P s r,AI P s l with
  |some v,some m=>some (v::m)
  |_,_=>none
def uO:List AV->Option (List Co)
 |[]=>some []
 | .sc x::l=>match uO l with
  |some m=>some (.sc x::m)
  |none=>none
 | .ag x::l=>match uO l with
  |some m=>some (.ag x::m)
  |none=>none
 |_::_=>none
def rG (P:Program) (s:S) (rs:List ResultVar):Option AV:=
 match AI P s rs with
 |some [v]=>some v
 |some l=>match uO l with
  |some m=>some (.tu m)
  |none=>none
 |none=>none
section
variable {P:Program} {β:Be} {s:S} {w:World} {tm:Array Value}
def tR (tm:Array Value):ResultVar->Sem Value
 | .tmp t=>pure (tm.getD t undef)
 | .cell a t=>do loadVar t (<-asAddr (tm.getD a undef))
theorem L5 (hs:HSim β s.hp w) (hsl:SlotsR β s.sl tm) {r:ResultVar} {v:AV} (h:G9 P s r=some v):∃ u,(tR tm r).run P w=.ok u w/\iq β v u:=by
 have slot:∀ {t:Nat} {x:AV},s.sl.get t=some x->iq β x (tm.getD t undef):=by
  intro t x hx
  obtain⟨u,hu,hr⟩:=hsl.2 t x hx
  have:tm.getD t undef=u:=by simp [Qd,hu]
  rw [this];exact hr
 cases r with
 |tmp t=>exact⟨_,rfl,slot h⟩
 |cell a t=>
  simp only [G9] at h
  split at h
  ·rename_i o k j hx
   have hv:eB β (.pt o k j) (tm.getD a undef):=slot hx
   have hrun:∀ {u:Value},(Instr.loadAt t (tm.getD a undef)).run P w=.ok u w->(tR tm (.cell a t)).run P w=.ok u w:=by
    intro u hu
    obtain⟨p,_,hpe⟩:=hv
    rw [hpe] at hu
    show ((do loadVar t (<-asAddr (tm.getD a undef)):Sem Value)).run P w=.ok u w
    rw [hpe]
    simpa [Instr.loadAt,Instr.sureAddr,asAddr] using hu
   split at h
   ·rename_i ob hob
    split at h
    ·rename_i c hk
     split at h
     ·rename_i hag
      split at h
      ·rename_i hn
       simp only [zXi] at h
       subst h
       obtain⟨vs,h1,h2⟩:=rt hs hob hk hag hn hv
       exact⟨_,hrun h1,vs,rfl,h2⟩
      cases h
     rename_i hag
     split at h
     ·rename_i hkn
      split at h
      ·rename_i y hy
       simp only [zXi] at h
       subst h
       obtain⟨u,h1,h2⟩:=ru hs hob hk hag hkn hy hv
       exact⟨u,hrun h1,h2⟩
      cases h
     cases h
    cases h
   cases h
  cases h
theorem B4 (hs:HSim β s.hp w) (hsl:SlotsR β s.sl tm):∀ {rs:List ResultVar} {l:List AV},AI P s rs=some l->∃ us,(rs.mapM (tR tm)).run P w=.ok us w/\L2 (iq β) l us
 |[],l,h=>by
  simp only [AI,zXi] at h
  subst h
  exact⟨[],rfl,trivial⟩
 |r::rs,l,h=>by
  simp only [AI] at h
  split at h
  ·rename_i v m hv hm
   simp only [zXi] at h
   subst h
   obtain⟨u,h1,h2⟩:=L5 hs hsl hv
   obtain⟨us,h3,h4⟩:=B4 hs hsl hm
   refine⟨u::us,?_,h2,h4⟩
   simp only [Rw,Qb,h1,P8,h3,Qm]
  cases h
theorem B5:∀ {l:List AV} {m:List Co} {us:List Value},uO l=some m->L2 (iq β) l us->L2 (Fx β) m us
 |[],m,[],h,_=>by simp only [uO,zXi] at h;subst h;trivial
 | .sc x::l,m,u::us,h,hu=>by
  simp only [uO] at h
  split at h
  ·rename_i m' hm
   simp only [zXi] at h
   subst h
   exact⟨hu.1,B5 hm hu.2⟩
  cases h
 | .ag x::l,m,u::us,h,hu=>by
  simp only [uO] at h
  split at h
  ·rename_i m' hm
   simp only [zXi] at h
   subst h
   exact⟨hu.1,B5 hm hu.2⟩
  cases h
 | .tu x::l,m,us,h,_=>by cases h
 | .cl f x::l,m,us,h,_=>by cases h
 |[],m,_::_,_,hu=>hu.elim
 | .sc _::_,m,[],_,hu=>hu.elim
 | .ag _::_,m,[],_,hu=>hu.elim
theorem wS (fn:Func) (tm:Array Value):results fn tm=(do let vs <-fn.results.mapM (tR tm);pure (if h:vs.size=1 then vs[0] else .tuple vs)):=by
 unfold results
 congr 1
theorem B6 (hs:HSim β s.hp w) (hsl:SlotsR β s.sl tm) {fn:Func} {v:AV} (h:rG P s fn.results.toList=some v):∃ u,(results fn tm).run P w=.ok u w/\iq β v u:=by
 have harr:∀ {us:List Value},(fn.results.toList.mapM (tR tm)).run P w=.ok us w->(fn.results.mapM (tR tm)).run P w=.ok us.toArray w:=by
  intro us hus
  rw [Q5]
  have e:∀ (m:Sem (List Value)),(List.toArray <$> m)=(do pure (List.toArray (<-m))):=fun m=>rfl
  rw [e,Qb,hus]
  rfl
 unfold rG at h
 split at h
 ·rename_i x hx
  simp only [zXi] at h
  subst h
  obtain⟨us,h1,h2⟩:=B4 (P:=P) hs hsl hx
  match us,h2 with
  |[u],h2=>
   refine⟨u,?_,h2.1⟩
   rw [wS,Qb,harr h1]
   rfl
  |[],h2=>exact h2.elim
  |_::_::_,h2=>exact h2.2.elim
 ·rename_i l hne hx
  split at h
  ·rename_i m hm
   simp only [zXi] at h
   subst h
   obtain⟨us,h1,h2⟩:=B4 (P:=P) hs hsl hx
   refine⟨.tuple us.toArray,?_,us,rfl,B5 hm h2⟩
   rw [wS,Qb,harr h1]
   have hl:=h2.length
   have h1':us.toArray.size≠1:=by
    intro he
    have:l.length=1:=by simpa [hl] using he
    match l,this with
    |[v],_=>exact hne v rfl
   simp only [P8,dif_neg h1']
   rfl
  cases h
 cases h
end
def B7 (P:Program) (rs:List ResultVar) (n0:Nat) (res:AV) (h':Hp) (s:S):Prop:=
 ∃ v ρ,rG P s rs=some v/\G4 n0 0 ρ=true/\e9 ρ h'=true/\Fu ρ res v/\lY ρ s.hp ρ h'
theorem aj {P:Program} {E:Entry} {rs:List ResultVar} {n0:Nat} {res:AV} {h':Hp} {s:S} {c:Prop} (ρ:cO) (hc:c) (v:AV) (hr:rG P s rs=some v) (hid:G4 n0 0 ρ=true) (hsep:e9 ρ h'=true) (hm:Fu ρ res v/\lY ρ s.hp ρ h'):
  iA P E (B7 P rs n0 res h') (.fin s c):=⟨hc,v,ρ,hr,hid,hsep,hm.1,hm.2⟩
theorem au {P:Program} {f:FuncId} {fn:Func} {c:Code} (hf:P.funcs[f]? =some fn) (hname:(fn.name == "runtime.NumGoroutine")=false) (hb:fn.body=some c) {args:List AV} {h h':Hp} {res:AV}
  (H:∀ E:Entry,E.h.length=h.length->iA P E (B7 P fn.results.toList h.length res h') (.go [.code c] ⟨nR fn.ntmps args,h⟩ True)):ic P f args h res h':=by
 refine⟨⟨fn,hf,hname,by rw [hb];rfl⟩,fun β w vs hs hvs=>?_⟩
 refine calls_of_wp hf hb ?_
 let E:Entry:=⟨β,h,w⟩
 have hd:=(H E rfl).2
 refine hd β _ w ⟨rfl,wg hvs,hs,hs.len,StepR.refl β h w hs.len⟩ _ fun e s' β' a' w' hK hs'=>?_
 have key:B7 P fn.results.toList h.length res h' s'->a'.defers=[]/\∃ v,(results fn a'.tmps).run P w'=.ok v w'/\∃ β'' u,Ending.returned v=.returned u/\iq β'' res u/\HSim β'' h' w'/\StepR β β'' h h' w w':=by
  intro⟨v,ρ,hr,hid,hsep,hav,hhp⟩
  obtain⟨u,hrun,hu⟩:=B6 hs'.hp hs'.sl hr
  have hw:nv ρ h.length ⟨[],h'⟩ ⟨[],s'.hp⟩:=⟨hid,hsep,trivial,hhp⟩
  have hsim:=wN (E:=E) rfl hw (β:=β') (a:=a') (w:=w') ⟨hs'.dfr,⟨fun i hi=>by simp [Slots.has] at hi,fun i x hx=>by simp [Slots.get] at hx⟩,hs'.hp,hs'.ent,hs'.st⟩
  exact⟨hs'.dfr,u,hrun,fZ β' ρ,u,rfl,AD hav hu,hsim.hp,hsim.st⟩
 cases e with
 |normal=>exact key hK
 |ret=>exact key hK
 |_=>exact hK.elim
end
section
theorem Ig (ρ:cO) (N o:Nat):tO ρ N o=match ρ[o]? with
  |some x=>x
  |none=>some (N+(o - ρ.length),none):=by
 unfold tO
 by_cases h:o < ρ.length
 ·rw [if_pos h,P_ h]
  unfold cO.at
  rw [zk,P_ h]
  rfl
 rw [if_neg h,Qc zO]
attribute [go_sem] run wK BY uL fP bX kM H8 oS gx kN S.ev S.evs S.put S.obj S.new S.val S.valc S.parts S.scals Slots.get Slots.put Sc.ofV MZ AV.ofV AV.cells Co.av Ay Az over LI Aw BS Po nN kL DF Sc.isFlat tQ nR hZ l5 rD rE JM G5 wO jk kP nP gA fu Ig cO.at S.kill S.sets S.at Int.toNat_natCast List.length_map rG AI G9 uO H7 cS Fu rz LY cM Ps Pp Pq lY Pr Fv FL beq_self_eq_true
attribute [go_sem] Q4 Ri QV Ru Rt List.take_succ_cons Ry List.take_nil List.drop_succ_cons Rz List.drop_nil QN QO List.getD_nil List.set_cons_zero List.set_cons_succ Qi Qe List.getElem?_nil QW QY QJ Rd Qr Rs Rp Bool.and_true Bool.true_and Bool.and_self and_true true_and and_self if_true if_false Re List.replicate_zero Qn QI RA Rv beq_true beq_false Qy
theorem FN {α:Type} (l m:List α):Array.append l.toArray m.toArray=(l++m).toArray:=by simp
attribute [go_sem] FN
theorem N0:(0:Nat) / 16=0/\(0:Nat) % 16=0/\(1:Nat) / 16=0/\(1:Nat) % 16=1/\(2:Nat) / 16=0/\(2:Nat) % 16=2/\(3:Nat) / 16=0/\(3:Nat) % 16=3/\(4:Nat) / 16=0/\(4:Nat) % 16=4/\(5:Nat) / 16=0/\(5:Nat) % 16=5/\(6:Nat) / 16=0/\(6:Nat) % 16=6/\(7:Nat) / 16=0/\(7:Nat) % 16=7/\(8:Nat) / 16=0/\(8:Nat) % 16=8/\(9:Nat) / 16=0/\(9:Nat) % 16=9/\(10:Nat) / 16=0/\(10:Nat) % 16=10/\(11:Nat) / 16=0/\(11:Nat) % 16=11/\(12:Nat) / 16=0/\(12:Nat) % 16=12/\(13:Nat) / 16=0/\(13:Nat) % 16=13/\(14:Nat) / 16=0/\(14:Nat) % 16=14/\(15:Nat) / 16=0/\(15:Nat) % 16=15/\(16:Nat) / 16=1/\(16:Nat) % 16=0/\(17:Nat) / 16=1/\(17:Nat) % 16=1/\(18:Nat) / 16=1/\(18:Nat) % 16=2/\(19:Nat) / 16=1/\(19:Nat) % 16=3:=by and_intros<;>rfl
attribute [go_sem] N0
theorem Nw:(20:Nat) / 16=1/\(20:Nat) % 16=4/\(21:Nat) / 16=1/\(21:Nat) % 16=5/\(22:Nat) / 16=1/\(22:Nat) % 16=6/\(23:Nat) / 16=1/\(23:Nat) % 16=7/\(24:Nat) / 16=1/\(24:Nat) % 16=8/\(25:Nat) / 16=1/\(25:Nat) % 16=9/\(26:Nat) / 16=1/\(26:Nat) % 16=10/\(27:Nat) / 16=1/\(27:Nat) % 16=11/\(28:Nat) / 16=1/\(28:Nat) % 16=12/\(29:Nat) / 16=1/\(29:Nat) % 16=13/\(30:Nat) / 16=1/\(30:Nat) % 16=14/\(31:Nat) / 16=1/\(31:Nat) % 16=15/\(32:Nat) / 16=2/\(32:Nat) % 16=0/\(33:Nat) / 16=2/\(33:Nat) % 16=1/\(34:Nat) / 16=2/\(34:Nat) % 16=2/\(35:Nat) / 16=2/\(35:Nat) % 16=3/\(36:Nat) / 16=2/\(36:Nat) % 16=4/\(37:Nat) / 16=2/\(37:Nat) % 16=5/\(38:Nat) / 16=2/\(38:Nat) % 16=6/\(39:Nat) / 16=2/\(39:Nat) % 16=7:=by and_intros<;>rfl
attribute [go_sem] Nw
theorem Nx:(40:Nat) / 16=2/\(40:Nat) % 16=8/\(41:Nat) / 16=2/\(41:Nat) % 16=9/\(42:Nat) / 16=2/\(42:Nat) % 16=10/\(43:Nat) / 16=2/\(43:Nat) % 16=11/\(44:Nat) / 16=2/\(44:Nat) % 16=12/\(45:Nat) / 16=2/\(45:Nat) % 16=13/\(46:Nat) / 16=2/\(46:Nat) % 16=14/\(47:Nat) / 16=2/\(47:Nat) % 16=15/\(48:Nat) / 16=3/\(48:Nat) % 16=0/\(49:Nat) / 16=3/\(49:Nat) % 16=1/\(50:Nat) / 16=3/\(50:Nat) % 16=2/\(51:Nat) / 16=3/\(51:Nat) % 16=3/\(52:Nat) / 16=3/\(52:Nat) % 16=4/\(53:Nat) / 16=3/\(53:Nat) % 16=5/\(54:Nat) / 16=3/\(54:Nat) % 16=6/\(55:Nat) / 16=3/\(55:Nat) % 16=7/\(56:Nat) / 16=3/\(56:Nat) % 16=8/\(57:Nat) / 16=3/\(57:Nat) % 16=9/\(58:Nat) / 16=3/\(58:Nat) % 16=10/\(59:Nat) / 16=3/\(59:Nat) % 16=11:=by and_intros<;>rfl
attribute [go_sem] Nx
theorem L6:(60:Nat) / 16=3/\(60:Nat) % 16=12/\(61:Nat) / 16=3/\(61:Nat) % 16=13/\(62:Nat) / 16=3/\(62:Nat) % 16=14/\(63:Nat) / 16=3/\(63:Nat) % 16=15/\(64:Nat) / 16=4/\(64:Nat) % 16=0/\(65:Nat) / 16=4/\(65:Nat) % 16=1/\(66:Nat) / 16=4/\(66:Nat) % 16=2/\(67:Nat) / 16=4/\(67:Nat) % 16=3/\(68:Nat) / 16=4/\(68:Nat) % 16=4/\(69:Nat) / 16=4/\(69:Nat) % 16=5/\(70:Nat) / 16=4/\(70:Nat) % 16=6/\(71:Nat) / 16=4/\(71:Nat) % 16=7/\(72:Nat) / 16=4/\(72:Nat) % 16=8/\(73:Nat) / 16=4/\(73:Nat) % 16=9/\(74:Nat) / 16=4/\(74:Nat) % 16=10/\(75:Nat) / 16=4/\(75:Nat) % 16=11/\(76:Nat) / 16=4/\(76:Nat) % 16=12/\(77:Nat) / 16=4/\(77:Nat) % 16=13/\(78:Nat) / 16=4/\(78:Nat) % 16=14/\(79:Nat) / 16=4/\(79:Nat) % 16=15:=by and_intros<;>rfl
attribute [go_sem] L6
theorem L7:(80:Nat) / 16=5/\(80:Nat) % 16=0/\(81:Nat) / 16=5/\(81:Nat) % 16=1/\(82:Nat) / 16=5/\(82:Nat) % 16=2/\(83:Nat) / 16=5/\(83:Nat) % 16=3/\(84:Nat) / 16=5/\(84:Nat) % 16=4/\(85:Nat) / 16=5/\(85:Nat) % 16=5/\(86:Nat) / 16=5/\(86:Nat) % 16=6/\(87:Nat) / 16=5/\(87:Nat) % 16=7/\(88:Nat) / 16=5/\(88:Nat) % 16=8/\(89:Nat) / 16=5/\(89:Nat) % 16=9/\(90:Nat) / 16=5/\(90:Nat) % 16=10/\(91:Nat) / 16=5/\(91:Nat) % 16=11/\(92:Nat) / 16=5/\(92:Nat) % 16=12/\(93:Nat) / 16=5/\(93:Nat) % 16=13/\(94:Nat) / 16=5/\(94:Nat) % 16=14/\(95:Nat) / 16=5/\(95:Nat) % 16=15/\(96:Nat) / 16=6/\(96:Nat) % 16=0/\(97:Nat) / 16=6/\(97:Nat) % 16=1/\(98:Nat) / 16=6/\(98:Nat) % 16=2/\(99:Nat) / 16=6/\(99:Nat) % 16=3:=by and_intros<;>rfl
attribute [go_sem] L7
theorem L8:(100:Nat) / 16=6/\(100:Nat) % 16=4/\(101:Nat) / 16=6/\(101:Nat) % 16=5/\(102:Nat) / 16=6/\(102:Nat) % 16=6/\(103:Nat) / 16=6/\(103:Nat) % 16=7/\(104:Nat) / 16=6/\(104:Nat) % 16=8/\(105:Nat) / 16=6/\(105:Nat) % 16=9/\(106:Nat) / 16=6/\(106:Nat) % 16=10/\(107:Nat) / 16=6/\(107:Nat) % 16=11/\(108:Nat) / 16=6/\(108:Nat) % 16=12/\(109:Nat) / 16=6/\(109:Nat) % 16=13/\(110:Nat) / 16=6/\(110:Nat) % 16=14/\(111:Nat) / 16=6/\(111:Nat) % 16=15/\(112:Nat) / 16=7/\(112:Nat) % 16=0/\(113:Nat) / 16=7/\(113:Nat) % 16=1/\(114:Nat) / 16=7/\(114:Nat) % 16=2/\(115:Nat) / 16=7/\(115:Nat) % 16=3/\(116:Nat) / 16=7/\(116:Nat) % 16=4/\(117:Nat) / 16=7/\(117:Nat) % 16=5/\(118:Nat) / 16=7/\(118:Nat) % 16=6/\(119:Nat) / 16=7/\(119:Nat) % 16=7:=by and_intros<;>rfl
attribute [go_sem] L8
theorem L9:(120:Nat) / 16=7/\(120:Nat) % 16=8/\(121:Nat) / 16=7/\(121:Nat) % 16=9/\(122:Nat) / 16=7/\(122:Nat) % 16=10/\(123:Nat) / 16=7/\(123:Nat) % 16=11/\(124:Nat) / 16=7/\(124:Nat) % 16=12/\(125:Nat) / 16=7/\(125:Nat) % 16=13/\(126:Nat) / 16=7/\(126:Nat) % 16=14/\(127:Nat) / 16=7/\(127:Nat) % 16=15/\(128:Nat) / 16=8/\(128:Nat) % 16=0/\(129:Nat) / 16=8/\(129:Nat) % 16=1/\(130:Nat) / 16=8/\(130:Nat) % 16=2/\(131:Nat) / 16=8/\(131:Nat) % 16=3/\(132:Nat) / 16=8/\(132:Nat) % 16=4/\(133:Nat) / 16=8/\(133:Nat) % 16=5/\(134:Nat) / 16=8/\(134:Nat) % 16=6/\(135:Nat) / 16=8/\(135:Nat) % 16=7/\(136:Nat) / 16=8/\(136:Nat) % 16=8/\(137:Nat) / 16=8/\(137:Nat) % 16=9/\(138:Nat) / 16=8/\(138:Nat) % 16=10/\(139:Nat) / 16=8/\(139:Nat) % 16=11:=by and_intros<;>rfl
attribute [go_sem] L9
theorem L_:(140:Nat) / 16=8/\(140:Nat) % 16=12/\(141:Nat) / 16=8/\(141:Nat) % 16=13/\(142:Nat) / 16=8/\(142:Nat) % 16=14/\(143:Nat) / 16=8/\(143:Nat) % 16=15/\(144:Nat) / 16=9/\(144:Nat) % 16=0/\(145:Nat) / 16=9/\(145:Nat) % 16=1/\(146:Nat) / 16=9/\(146:Nat) % 16=2/\(147:Nat) / 16=9/\(147:Nat) % 16=3/\(148:Nat) / 16=9/\(148:Nat) % 16=4/\(149:Nat) / 16=9/\(149:Nat) % 16=5/\(150:Nat) / 16=9/\(150:Nat) % 16=6/\(151:Nat) / 16=9/\(151:Nat) % 16=7/\(152:Nat) / 16=9/\(152:Nat) % 16=8/\(153:Nat) / 16=9/\(153:Nat) % 16=9/\(154:Nat) / 16=9/\(154:Nat) % 16=10/\(155:Nat) / 16=9/\(155:Nat) % 16=11/\(156:Nat) / 16=9/\(156:Nat) % 16=12/\(157:Nat) / 16=9/\(157:Nat) % 16=13/\(158:Nat) / 16=9/\(158:Nat) % 16=14/\(159:Nat) / 16=9/\(159:Nat) % 16=15:=by and_intros<;>rfl
attribute [go_sem] L_
theorem Ma:(160:Nat) / 16=10/\(160:Nat) % 16=0/\(161:Nat) / 16=10/\(161:Nat) % 16=1/\(162:Nat) / 16=10/\(162:Nat) % 16=2/\(163:Nat) / 16=10/\(163:Nat) % 16=3/\(164:Nat) / 16=10/\(164:Nat) % 16=4/\(165:Nat) / 16=10/\(165:Nat) % 16=5/\(166:Nat) / 16=10/\(166:Nat) % 16=6/\(167:Nat) / 16=10/\(167:Nat) % 16=7/\(168:Nat) / 16=10/\(168:Nat) % 16=8/\(169:Nat) / 16=10/\(169:Nat) % 16=9/\(170:Nat) / 16=10/\(170:Nat) % 16=10/\(171:Nat) / 16=10/\(171:Nat) % 16=11/\(172:Nat) / 16=10/\(172:Nat) % 16=12/\(173:Nat) / 16=10/\(173:Nat) % 16=13/\(174:Nat) / 16=10/\(174:Nat) % 16=14/\(175:Nat) / 16=10/\(175:Nat) % 16=15/\(176:Nat) / 16=11/\(176:Nat) % 16=0/\(177:Nat) / 16=11/\(177:Nat) % 16=1/\(178:Nat) / 16=11/\(178:Nat) % 16=2/\(179:Nat) / 16=11/\(179:Nat) % 16=3:=by and_intros<;>rfl
attribute [go_sem] Ma
theorem Mb:(180:Nat) / 16=11/\(180:Nat) % 16=4/\(181:Nat) / 16=11/\(181:Nat) % 16=5/\(182:Nat) / 16=11/\(182:Nat) % 16=6/\(183:Nat) / 16=11/\(183:Nat) % 16=7/\(184:Nat) / 16=11/\(184:Nat) % 16=8/\(185:Nat) / 16=11/\(185:Nat) % 16=9/\(186:Nat) / 16=11/\(186:Nat) % 16=10/\(187:Nat) / 16=11/\(187:Nat) % 16=11/\(188:Nat) / 16=11/\(188:Nat) % 16=12/\(189:Nat) / 16=11/\(189:Nat) % 16=13/\(190:Nat) / 16=11/\(190:Nat) % 16=14/\(191:Nat) / 16=11/\(191:Nat) % 16=15/\(192:Nat) / 16=12/\(192:Nat) % 16=0/\(193:Nat) / 16=12/\(193:Nat) % 16=1/\(194:Nat) / 16=12/\(194:Nat) % 16=2/\(195:Nat) / 16=12/\(195:Nat) % 16=3/\(196:Nat) / 16=12/\(196:Nat) % 16=4/\(197:Nat) / 16=12/\(197:Nat) % 16=5/\(198:Nat) / 16=12/\(198:Nat) % 16=6/\(199:Nat) / 16=12/\(199:Nat) % 16=7:=by and_intros<;>rfl
attribute [go_sem] Mb
end
section
open Go.RowKit
def wT (op:Op):List Tmp:=op.operands.toList.filterMap fun| .tmp t=>some t|_=>none
def g_ (r:Array Oper) (o:Oper):List Tmp:=
 wT o.op++(match o.guard with
  |some (g,_)=>((r[g]?).bind (·.dst)).toList
  |none=>[])
def kj (P:Program) (op:Op):Nat:=
 match op with
 | .convert s d _=>match H6 P s d with
  |some (.int _)|some .str=>0
  |some (.s2b _)=>2
  |some .b2s=>1
  |none=>4
 | .move _| .assign _| .pick .. | .build .. | .nilCheck _| .binOp .. | .unOp .. | .fieldAddr .. | .index .. | .extract .. =>0
 | .call ⟨.builtin .len,_,_⟩| .call ⟨.builtin .min,_,_⟩| .call ⟨.builtin .max,_,_⟩=>0
 | .load .. | .indexAddr .. | .slice .. =>1
 | .alloc _| .box .. | .buildSlice .. | .makeSlice .. =>2
 | .call ⟨.value _,_,_⟩=>3
 |_=>4
def pL (P:Program) (o:Oper):Nat:=kj P o.op
def DT (a b:Option Tmp):Bool:=
 match a,b with
 |some x,some y=>x != y
 |_,_=>true
def uP (a:Option Tmp) (l:List Tmp):Bool:=
 match a with
 |some x=> !l.contains x
 |none=>true
def wU (P:Program) (r:Array Oper) (i j:Oper):Bool:=
 DT i.dst j.dst && uP i.dst (g_ r j) && uP j.dst (g_ r i) && (pL P i == 0 && pL P j != 5 || pL P i == 1 && pL P j != 4)
theorem Slots.put_comm (s:Slots) (a b:Nat) (v u:Option AV) (h:a≠b):(s.put a v).put b u=(s.put b u).put a v:=by
 unfold Slots.put
 by_cases hc:a / 16=b / 16
 ·rw [hc]
  by_cases hl:b / 16 < s.length
  ·simp only [zk,Ra hl,Qa,List.set_set]
   congr 1
   exact RB _ _ zO
  have h1:∀ x,s.set (b / 16) x=s:=fun x=>List.set_eq_of_length_le zO
  simp only [h1]
 have h1:∀ x,(s.set (a / 16) x).getD (b / 16) []=s.getD (b / 16) []:=fun x=>by
  simp only [zk,Q0 hc]
 have h2:∀ x,(s.set (b / 16) x).getD (a / 16) []=s.getD (a / 16) []:=fun x=>by
  simp only [zk,Q0 (Ne.symm hc)]
 rw [h1,h2]
 exact RB _ _ hc
theorem FO (s:Slots) (d t:Nat) (v:Option AV) (h:d≠t):(s.put d v).get t=s.get t:=by
 rw [Slots.get_put,if_neg (Ne.symm h)]
def jX (l:List Tmp) (s s':S):Prop:=∀ t∈l,s.sl.get t=s'.sl.get t
theorem iG {l:List Tmp} {s:S} {d:Option Tmp} {v:Option AV} {h:Hp} (hd:uP d l=true):jX l s (s.put d v h):=by
 intro t ht
 cases d with
 |none=>rfl
 |some d=>
  have hne:d≠t:=fun e=>by
   subst e
   simp only [uP,Qw,List.contains_eq_mem,decide_eq_false_iff_not] at hd
   exact hd ht
  exact (FO s.sl d t v hne).symm
theorem iS {s s':S} {x:Operand} (h:∀ t,x=.tmp t->s.sl.get t=s'.sl.get t):s.ev x=s'.ev x:=by
 cases x with
 |tmp t=>exact h t rfl
 |_=>rfl
theorem fQ {op:Op} {t:Tmp} (h:(.tmp t:Operand)∈op.operands.toList):t∈wT op:=by
 unfold wT
 rw [List.mem_filterMap]
 exact⟨.tmp t,h,rfl⟩
theorem lq {s s':S}:∀ {l:List (Nat×Operand)},(∀ p∈l,s.ev p.2=s'.ev p.2)->s.parts l=s'.parts l
 |[],_=>rfl
 |(i,x)::l,h=>by
  have h1:=h (i,x) zP
  dsimp only at h1
  simp only [S.parts,h1,lq (l:=l) (fun p hp=>h p (by simp [hp]))]
theorem uQ {s s':S}:∀ {l:List Operand},(∀ x∈l,s.ev x=s'.ev x)->s.scals l=s'.scals l
 |[],_=>rfl
 |x::l,h=>by
  have h1:=h x zP
  simp only [S.scals,h1,uQ (l:=l) (fun p hp=>h p (by simp [hp]))]
theorem l6 {s s':S}:∀ {l:List Operand},(∀ x∈l,s.ev x=s'.ev x)->s.evs l=s'.evs l
 |[],_=>rfl
 |x::l,h=>by
  have h1:=h x zP
  simp only [S.evs,h1,l6 (l:=l) (fun p hp=>h p (by simp [hp]))]
theorem mA {s s':S} {x:Option Operand} (h:∀ y,x=some y->s.ev y=s'.ev y):kN s x=kN s' x:=by
 cases x with
 |none=>rfl
 |some y=>simp only [kN,h y rfl]
theorem iH {P:Program} {s s':S} {ty:TypeId} {op:Op} (hh:s.hp=s'.hp) (h:jX (wT op) s s'):bX P s ty op=bX P s' ty op:=by
 have ev:∀ x,x∈op.operands.toList->s.ev x=s'.ev x:=fun x hx=>iS fun t ht=>h t (fQ (by rw [<-ht];exact hx))
 have ob:∀ o,s.obj o=s'.obj o:=fun o=>by unfold S.obj;rw [hh]
 have vl:∀ v,s.val v=s'.val v:=fun v=>by unfold S.val;rw [hh]
 have vc:∀ v c,s.valc v c=s'.valc v c:=fun v c=>by unfold S.valc;rw [hh]
 have nw:∀ o v,s.new o v=s'.new o v:=fun o v=>by unfold S.new;rw [hh]
 have sl:∀ v a b,gx s v a b=gx s' v a b:=fun v a b=>by
  unfold gx
  simp only [vl,vc]
 have ap:∀ t a x,oS P s t a x=oS P s' t a x:=fun t a x=>by
  unfold oS
  simp only [vl,ob,hh]
 cases op with
 |move x=>simp only [bX,ev x (by simp [Op.operands]),vl]
 |assign x=>simp only [bX,ev x (by simp [Op.operands]),vl]
 |pick c x y=>simp only [bX,ev c (by simp [Op.operands]),ev x (by simp [Op.operands]),ev y (by simp [Op.operands]),vl]
 |alloc e=>simp only [bX,nw,hh]
 |box e x=>simp only [bX,ev x (by simp [Op.operands]),nw,hh]
 |build t ps=>
  have:=lq (s:=s) (s':=s') (l:=ps.toList) (fun p hp=>ev p.2 (by simp only [Op.operands,QZ];exact⟨p,hp,rfl⟩))
  simp only [bX,this,vl]
 |buildSlice t n ps=>
  have:=lq (s:=s) (s':=s') (l:=ps.toList) (fun p hp=>ev p.2 (by simp only [Op.operands,QZ];exact⟨p,hp,rfl⟩))
  simp only [bX,this,nw,hh]
 |load t x=>simp only [bX,ev x (by simp [Op.operands]),ob,vl]
 |store t x y=>simp only [bX,ev x (by simp [Op.operands]),ev y (by simp [Op.operands]),ob,hh]
 |nilCheck x=>simp only [bX,ev x (by simp [Op.operands]),vl]
 |binOp o t x y u=>simp only [bX,ev x (by simp [Op.operands]),ev y (by simp [Op.operands]),vc]
 |unOp o t x=>simp only [bX,ev x (by simp [Op.operands]),vl]
 |convert a b x=>simp only [bX,ev x (by simp [Op.operands]),vl,vc,ob,hh]
 |makeSlice t x y=>simp only [bX,ev x (by simp [Op.operands]),ev y (by simp [Op.operands]),hh]
 |slice t x lo hi mx=>
  cases mx with
  |none=>
   have h1:=mA (s:=s) (s':=s') (x:=lo) (fun y hy=>ev y (by subst hy;simp [Op.operands]))
   have h2:=mA (s:=s) (s':=s') (x:=hi) (fun y hy=>ev y (by subst hy;simp [Op.operands]))
   simp only [bX,ev x (by simp [Op.operands]),h1,h2,ob,sl]
  |some m=>rfl
 |fieldAddr t x f=>simp only [bX,ev x (by simp [Op.operands]),vl]
 |field t x f=>simp only [bX,ev x (by simp [Op.operands]),vl]
 |indexAddr t x i=>simp only [bX,ev x (by simp [Op.operands]),ev i (by simp [Op.operands]),ob,vc]
 |index t x i=>simp only [bX,ev x (by simp [Op.operands]),ev i (by simp [Op.operands]),vc]
 |extract x i=>simp only [bX,ev x (by simp [Op.operands]),vl]
 |makeFunc f first caps=>
  cases f with
  |func f=>
   have:=uQ (s:=s) (s':=s') (l:=caps.toList) (fun x hx=>ev x (by simp [Op.operands];right;simpa using hx))
   simp only [bX,this,vl]
  |_=>rfl
 |call c=>
  obtain⟨callee,args,at_⟩:=c
  cases callee with
  |builtin b=>
   have hx:∀ x,x∈args.toList->s.ev x=s'.ev x:=fun x hx=>ev x (by simp [Op.operands,Call.operands];simpa using hx)
   cases b with
   |len=>
    simp only [bX]
    split
    ·rename_i x t ha ht
     simp only [hx x (by simp [ha]),vl]
    rfl
   |append=>
    simp only [bX]
    split
    ·rename_i x y t t' ha ht
     simp only [hx x (by simp [ha]),hx y (by simp [ha]),ap]
    rfl
   |min=>
    simp only [bX]
    split
    ·rename_i x y ha
     simp only [hx x (by simp [ha]),hx y (by simp [ha]),vl]
    rfl
   |max=>
    simp only [bX]
    split
    ·rename_i x y ha
     simp only [hx x (by simp [ha]),hx y (by simp [ha]),vl]
    rfl
   |_=>rfl
  |_=>rfl
 |_=>rfl
def Hp.ext (s h:Hp):Prop:=∀ (o:Nat) (ob:AObj),s[o]? =some (some ob)->h[o]? =some (some ob)
theorem rH {s:S} {h:Hp} (hx:Hp.ext s.hp h) {o:Nat} {ob:AObj} (ho:s.obj o=some ob):S.obj ⟨s.sl,h⟩ o=some ob:=by
 have:=hx o ob (du ho)
 unfold S.obj
 rw [zk,this]
 rfl
theorem G_ (s:S) (h:Hp) (x:Operand):S.ev ⟨s.sl,h⟩ x=s.ev x:=by cases x<;>rfl
theorem JN (s:S) (h:Hp):∀ l,S.parts ⟨s.sl,h⟩ l=s.parts l:=fun l=>lq fun p _=>G_ s h p.2
theorem kE (s:S) (h:Hp) (x:Option Operand):kN ⟨s.sl,h⟩ x=kN s x:=mA fun y _=>G_ s h y
theorem nS {P:Program} {s:S} {ty:TypeId} {op:Op} {x:OpR} (hc:kj P op=0) (h:bX P s ty op=some x):x.hp=s.hp/\∀ h',bX P ⟨s.sl,h'⟩ ty op=some ⟨x.v,h',x.c⟩:=by
 have e:=G_ s
 have ep:=JN s
 cases op with
 |move y|assign y=>
  simp only [bX,e] at h
  split at h
  ·rename_i v hv
   simp only [zXi] at h
   subst h
   exact⟨rfl,fun h'=>by simp only [bX,e,ep,hv];rfl⟩
  cases h
 |pick c y z=>
  simp only [bX,e] at h
  split at h
  ·rename_i hv
   split at h
   ·rename_i v hv2
    simp only [zXi] at h
    subst h
    exact⟨rfl,fun h'=>by simp only [bX,e,ep,hv,hv2];rfl⟩
   cases h
  ·rename_i hv
   split at h
   ·rename_i v hv2
    simp only [zXi] at h
    subst h
    exact⟨rfl,fun h'=>by simp only [bX,e,ep,hv,hv2];rfl⟩
   cases h
  cases h
 |build t ps=>
  simp only [bX,ep] at h
  split at h
  ·rename_i z hz
   split at h
   ·rename_i l hl
    split at h
    ·rename_i cs hcs
     simp only [zXi] at h
     subst h
     exact⟨rfl,fun h'=>by simp only [bX,e,ep,hz,hl,hcs];rfl⟩
    cases h
   cases h
  cases h
 |nilCheck y=>
  simp only [bX,e] at h
  split at h
  ·rename_i hv
   simp only [zXi] at h
   subst h
   exact⟨rfl,fun h'=>by simp only [bX,e,ep,hv];rfl⟩
  ·rename_i hv
   simp only [zXi] at h
   subst h
   exact⟨rfl,fun h'=>by simp only [bX,e,ep,hv];rfl⟩
  cases h
 |binOp o t y z u=>
  simp only [bX,e] at h
  split at h
  ·rename_i hy hz
   split at h
   ·rename_i q d hb
    simp only [zXi] at h
    subst h
    exact⟨rfl,fun h'=>by simp only [bX,e,ep,hy,hz,hb];rfl⟩
   cases h
  ·rename_i hy hz
   split at h
   ·simp only [zXi] at h
    subst h
    exact⟨rfl,fun h'=>by simp only [bX,e,ep,hy,hz];rfl⟩
   ·simp only [zXi] at h
    subst h
    exact⟨rfl,fun h'=>by simp only [bX,e,ep,hy,hz];rfl⟩
   cases h
  cases h
 |unOp o t y=>
  simp only [bX,e] at h
  split at h
  ·rename_i hy
   split at h
   ·simp only [zXi] at h
    subst h
    exact⟨rfl,fun h'=>by simp only [bX,e,ep,hy];rfl⟩
   cases h
  ·rename_i hy
   split at h
   ·simp only [zXi] at h
    subst h
    exact⟨rfl,fun h'=>by simp only [bX,e,ep,hy];rfl⟩
   cases h
  cases h
 |convert a b y=>
  simp only [bX,e] at h
  split at h
  ·rename_i ht hy
   simp only [zXi] at h
   subst h
   exact⟨rfl,fun h'=>by simp only [bX,e,ht,hy];rfl⟩
  ·rename_i ht hy
   simp only [zXi] at h
   subst h
   exact⟨rfl,fun h'=>by simp only [bX,e,ht,hy];rfl⟩
  ·rename_i ht hy
   simp only [kj,ht] at hc
   cases hc
  ·rename_i ht hy
   simp only [kj,ht] at hc
   cases hc
  ·rename_i ht hy
   simp only [kj,ht] at hc
   cases hc
  cases h
 |fieldAddr t y f=>
  simp only [bX,e] at h
  split at h
  ·rename_i hy hf
   simp only [zXi] at h
   subst h
   exact⟨rfl,fun h'=>by simp only [bX,e,ep,hy,hf];rfl⟩
  cases h
 |index t y i=>
  simp only [bX,e] at h
  split at h
  ·rename_i hy hi
   split at h
   ·rename_i ht
    simp only [zXi] at h
    subst h
    exact⟨rfl,fun h'=>by simp only [bX,e,ep,hy,hi,ht];rfl⟩
   cases h
  cases h
 |extract y i=>
  simp only [bX,e] at h
  split at h
  ·rename_i hy
   split at h
   ·rename_i hl
    simp only [zXi] at h
    subst h
    exact⟨rfl,fun h'=>by simp only [bX,e,ep,hy,hl];rfl⟩
   cases h
  cases h
 |call c=>
  obtain⟨callee,args,at_⟩:=c
  cases callee with
  |builtin b=>
   cases b with
   |len=>
    simp only [bX,e] at h
    split at h
    ·rename_i y t ha ht
     split at h
     ·rename_i hy
      split at h
      ·rename_i hs
       simp only [zXi] at h
       subst h
       exact⟨rfl,fun h'=>by simp only [bX,e,ep,ha,ht,hy,hs];rfl⟩
      cases h
     ·rename_i hy
      split at h
      ·rename_i hs
       simp only [zXi] at h
       subst h
       exact⟨rfl,fun h'=>by simp only [bX,e,ep,ha,ht,hy,hs];rfl⟩
      cases h
     ·rename_i hy
      split at h
      ·rename_i hs
       simp only [zXi] at h
       subst h
       exact⟨rfl,fun h'=>by simp only [bX,e,ep,ha,ht,hy,hs];rfl⟩
      cases h
     cases h
    cases h
   |min=>
    simp only [bX,e] at h
    split at h
    ·rename_i y z ha
     split at h
     ·rename_i hy hz
      simp only [zXi] at h
      subst h
      exact⟨rfl,fun h'=>by simp only [bX,e,ep,ha,hy,hz];rfl⟩
     cases h
    cases h
   |max=>
    simp only [bX,e] at h
    split at h
    ·rename_i y z ha
     split at h
     ·rename_i hy hz
      simp only [zXi] at h
      subst h
      exact⟨rfl,fun h'=>by simp only [bX,e,ep,ha,hy,hz];rfl⟩
     cases h
    cases h
   |_=>cases hc
  |_=>cases hc
 |_=>cases hc
theorem wV {P:Program} {s:S} {ty:TypeId} {op:Op} {x:OpR} (hc:kj P op=1) (h:bX P s ty op=some x):x.hp=s.hp/\∀ h',Hp.ext s.hp h'->bX P ⟨s.sl,h'⟩ ty op=some ⟨x.v,h',x.c⟩:=by
 have e:=G_ s
 cases op with
 |load t y=>
  simp only [bX,e] at h
  split at h
  ·rename_i o k j hy
   split at h
   ·rename_i ob hob
    split at h
    ·rename_i c hk
     split at h
     ·rename_i n ht
      split at h
      ·rename_i hf
       simp only [zXi] at h
       subst h
       exact⟨rfl,fun h' hx=>by simp only [bX,e,kE s,hy,rH hx hob,hk,ht,hf];rfl⟩
      cases h
     ·rename_i ht
      split at h
      ·rename_i z hz
       simp only [zXi] at h
       subst h
       exact⟨rfl,fun h' hx=>by simp only [bX,e,kE s,hy,rH hx hob,hk,ht,hz];rfl⟩
      cases h
     cases h
    cases h
   cases h
  cases h
 |convert a b y=>
  simp only [bX,e] at h
  split at h
  ·rename_i ht hy
   simp only [kj,ht] at hc
   cases hc
  ·rename_i ht hy
   simp only [kj,ht] at hc
   cases hc
  ·rename_i ht hy
   simp only [kj,ht] at hc
   cases hc
  ·rename_i ht hy
   split at h
   ·rename_i ob hob
    split at h
    ·rename_i hz
     simp only [zXi] at h
     subst h
     exact⟨rfl,fun h' hx=>by simp only [bX,e,ht,hy,rH hx hob,hz,if_true];rfl⟩
    cases h
   cases h
  ·rename_i ht hy
   simp only [zXi] at h
   subst h
   exact⟨rfl,fun h' hx=>by simp only [bX,e,ht,hy];rfl⟩
  cases h
 |indexAddr t y i=>
  simp only [bX,e] at h
  split at h
  ·rename_i hy hi ht
   split at h
   ·rename_i ob hob
    split at h
    ·rename_i hz
     simp only [zXi] at h
     subst h
     exact⟨rfl,fun h' hx=>by simp only [bX,e,kE s,hy,hi,ht,rH hx hob,hz,if_true];rfl⟩
    cases h
   cases h
  cases h
 |slice t y lo hi mx=>
  cases mx with
  |some m=>cases h
  |none=>
   have eo:=kE s
   simp only [bX,e,eo] at h
   have sl:∀ {v:AV} {a b:Option Int} {q:OpR},gx s v a b=some q->q.hp=s.hp/\∀ h',gx ⟨s.sl,h'⟩ v a b=some ⟨q.v,h',q.c⟩:=by
    intro v a b q hq
    unfold gx at hq
    split at hq<;>first
     |(simp only [zXi] at hq;subst hq;exact⟨rfl,fun h'=>rfl⟩)
     |cases hq
   split at h
   ·rename_i v a b hy ha hb
    split at h
    ·rename_i l
     split at h
     ·rename_i ht
      obtain⟨h1,h2⟩:=sl h
      exact⟨h1,fun h' hx=>by simp only [bX,e,kE s,hy,ha,hb,ht];exact h2 h'⟩
     cases h
    ·rename_i o off len
     split at h
     ·rename_i q sz ob ht hob
      split at h
      ·rename_i hz
       obtain⟨h1,h2⟩:=sl h
       exact⟨h1,fun h' hx=>by simp only [bX,e,kE s,hy,ha,hb,ht,rH hx hob,hz,if_true];exact h2 h'⟩
      cases h
     cases h
    cases h
   cases h
 |call c=>
  obtain⟨callee,args,at_⟩:=c
  cases callee with
  |builtin b=>cases b<;>cases hc
  |_=>cases hc
 |_=>cases hc
theorem DU (h:Hp):Hp.ext h h:=fun _ _ h=>h
theorem jt (h k:Hp):Hp.ext h (h++k):=fun o ob ho=>by
 rw [P6 (zG.1 ho).1];exact ho
theorem Ha {P:Program} {s:S} {ty:TypeId} {op:Op} {x:OpR} (h:bX P s ty op=some x) (hc:kj P op≠4):Hp.ext s.hp x.hp:=by
 by_cases h0:kj P op=0
 ·rw [(nS h0 h).1];exact DU _
 by_cases h1:kj P op=1
 ·rw [(wV h1 h).1];exact DU _
 cases op with
 |alloc e=>
  simp only [bX] at h
  split at h
  ·simp only [zXi] at h;subst h;exact jt _ _
  cases h
 |box e y=>
  simp only [bX] at h
  split at h
  ·split at h
   ·simp only [zXi] at h;subst h;exact jt _ _
   cases h
  cases h
 |buildSlice t n ps=>
  simp only [bX] at h
  split at h
  ·split at h
   ·split at h
    ·split at h
     ·split at h
      ·simp only [zXi] at h;subst h;exact jt _ _
      cases h
     cases h
    cases h
   cases h
  cases h
 |makeSlice t y z=>
  simp only [bX] at h
  split at h
  ·split at h
   ·split at h
    ·simp only [zXi] at h;subst h;exact jt _ _
    cases h
   cases h
  cases h
 |convert a b y=>
  simp only [bX] at h
  split at h
  ·rename_i ht hy
   simp only [kj,ht] at h0
   exact absurd trivial h0
  ·rename_i ht hy
   simp only [kj,ht] at h0
   exact absurd trivial h0
  ·simp only [zXi] at h;subst h;exact jt _ _
  ·rename_i ht hy
   simp only [kj,ht] at h1
   exact absurd trivial h1
  ·rename_i ht hy
   simp only [kj,ht] at h1
   exact absurd trivial h1
  cases h
 |call c=>
  obtain⟨callee,args,at_⟩:=c
  cases callee with
  |value f=>simp only [bX] at h;cases h
  |builtin b=>cases b<;>first|exact absurd rfl h0|exact absurd rfl hc
  |invoke a b=>exact absurd rfl hc
 |move _=>exact absurd rfl h0
 |assign _=>exact absurd rfl h0
 |pick _ _ _=>exact absurd rfl h0
 |build _ _=>exact absurd rfl h0
 |nilCheck _=>exact absurd rfl h0
 |binOp _ _ _ _ _=>exact absurd rfl h0
 |unOp _ _ _=>exact absurd rfl h0
 |fieldAddr _ _ _=>exact absurd rfl h0
 |index _ _ _=>exact absurd rfl h0
 |extract _ _=>exact absurd rfl h0
 |load _ _=>exact absurd rfl h1
 |indexAddr _ _ _=>exact absurd rfl h1
 |slice _ _ _ _ _=>exact absurd rfl h1
 |_=>exact absurd rfl hc
def Pt (P:Program) (o:Oper) (s s':S):Prop:=
 (∃ x,bX P s o.type o.op=some x/\x.c/\s'=s.put o.dst x.v x.hp)\/
 (∃ (y:Operand) (args:Array Operand) (at_:Array TypeId) (f:Nat) (caps:List Sc) (avs:List AV) (res:AV) (h':Hp),o.op=.call ⟨.value y,args,at_⟩/\s.ev y=some (.cl f caps)/\s.evs args.toList=some avs/\
  ic P f (avs++nN caps) s.hp res h'/\Hp.ext s.hp h'/\s'=s.put o.dst (some res) h')
def ec (P:Program) (r:Array Oper) (i:Nat) (s s':S):Prop:=
 match r[i]? with
 |none=>s'=s
 |some o=>match fP r s o with
  |some true=>Pt P o s s'
  |some false=>s'=s.put o.dst (some (.tu [])) s.hp
  |none=>False
def B8 (P:Program) (r:Array Oper):List Nat->S->S->Prop
 |[],s,s'=>s'=s
 |i::l,s,s''=>∃ s',ec P r i s s'/\B8 P r l s' s''
theorem cG {r:Array Oper} {s s':S} {o:Oper} (h:jX (g_ r o) s s'):fP r s o=fP r s' o:=by
 unfold fP
 split
 ·rfl
 rename_i j want hg
 split
 ·rename_i oj hj
  split
  ·rename_i d hd
   have:=h d (by unfold g_;rw [hg];simp [hj,hd])
   rw [this]
  rfl
 rfl
theorem eW {r:Array Oper} {s s':S} {o:Oper} (h:jX (g_ r o) s s'):jX (wT o.op) s s':=fun t ht=>h t (by unfold g_;exact List.mem_append_left _ ht)
theorem wh (s:S) {a b:Option Tmp} (v u:Option AV) (h h':Hp) (hne:DT a b=true):(s.put a v h).put b u h'=(s.put b u h').put a v h':=by
 cases a with
 |none=>cases b<;>rfl
 |some a=>cases b with
  |none=>rfl
  |some b=>
   have:a≠b:=by simpa [DT] using hne
   simp only [S.put,Slots.put_comm s.sl a b v u this]
theorem kd (s:S) (d:Option Tmp) (v:Option AV) (h:Hp):(s.put d v h).hp=h:=by cases d<;>rfl
theorem swap {P:Program} {r:Array Oper} {i j:Nat} {oi oj:Oper} (hi:r[i]? =some oi) (hj:r[j]? =some oj) (hind:wU P r oi oj=true) {s s1 s2:S} (h1:ec P r i s s1) (h2:ec P r j s1 s2):
  ∃ s1',ec P r j s s1'/\ec P r i s1' s2:=by
 simp only [wU,P7,Qt,beq_iff_eq,bne_iff_ne] at hind
 obtain⟨⟨⟨hne,hij⟩,hji⟩,hcls⟩:=hind
 have hci:pL P oi=0\/pL P oi=1:=by rcases hcls with h|h;exact .inl h.1;exact .inr h.1
 unfold ec at h1 h2
 rw [hi] at h1
 rw [hj] at h2
 dsimp only at h1 h2
 have key:∃ v,s1=s.put oi.dst v s.hp/\∀ (t:S),jX (g_ r oi) s t->(pL P oi=0\/Hp.ext s.hp t.hp)->ec P r i t (t.put oi.dst v t.hp):=by
  split at h1
  ·rename_i hg
   rcases h1 with⟨x,hx,hc,rfl⟩|⟨y,args,at_,f,caps,avs,res,h',ho,_⟩
   ·have hx2:x.hp=s.hp/\∀ t:S,jX (g_ r oi) s t->(pL P oi=0\/Hp.ext s.hp t.hp)->bX P t oi.type oi.op=some ⟨x.v,t.hp,x.c⟩:=by
     have eqv:∀ t:S,jX (g_ r oi) s t->bX P t oi.type oi.op=bX P ⟨s.sl,t.hp⟩ oi.type oi.op:=fun t ha=>(iH (s:=⟨s.sl,t.hp⟩) (s':=t) rfl (fun q hq=>eW ha q hq)).symm
     rcases hci with h0|h0
     ·obtain⟨e1,e2⟩:=nS h0 hx
      exact⟨e1,fun t ha _=>by rw [eqv t ha];exact e2 t.hp⟩
     obtain⟨e1,e2⟩:=wV h0 hx
     exact⟨e1,fun t ha he=>by rw [eqv t ha];exact e2 t.hp (he.resolve_left (by rw [h0];simp))⟩
    refine⟨x.v,by rw [hx2.1],fun t ha he=>?_⟩
    unfold ec
    rw [hi]
    dsimp only
    rw [<-cG ha,hg]
    exact .inl ⟨_,hx2.2 t ha he,hc,rfl⟩
   exfalso
   have:pL P oi=3:=by unfold pL;rw [ho];rfl
   omega
  ·rename_i hg
   refine⟨some (.tu []),h1,fun t ha _=>?_⟩
   unfold ec
   rw [hi]
   dsimp only
   rw [<-cG ha,hg]
  exact h1.elim
 obtain⟨v,rfl,hstep⟩:=key
 have hal:jX (g_ r oj) s (s.put oi.dst v s.hp):=iG hij
 have hhp:(s.put oi.dst v s.hp).hp=s.hp:=kd _ _ _ _
 rw [<-cG hal] at h2
 have fin:∀ (u:Option AV) (h':Hp),s2=(s.put oi.dst v s.hp).put oj.dst u h'->(pL P oi=0\/Hp.ext s.hp h')->ec P r j s (s.put oj.dst u h')->∃ s1',ec P r j s s1'/\ec P r i s1' s2:=by
  intro u h' he hx hj'
  refine⟨s.put oj.dst u h',hj',?_⟩
  have h3:=hstep (s.put oj.dst u h') (iG hji) (by rw [kd];exact hx)
  rw [kd] at h3
  rw [he,wh s v u s.hp h' hne]
  exact h3
 split at h2
 ·rename_i hg
  rcases h2 with⟨x,hx,hc,rfl⟩|⟨y,args,at_,f,caps,avs,res,h',ho,hy,ha,hcall,hext,rfl⟩
  ·have hx':bX P s oj.type oj.op=some x:=by rw [iH (s:=s) (s':=s.put oi.dst v s.hp) hhp.symm (eW hal)];exact hx
   refine fin x.v x.hp rfl ?_ ?_
   ·rcases hcls with h0|h0
    ·exact .inl h0.1
    right
    have h4:pL P oj≠4:=h0.2
    exact Ha hx' h4
   unfold ec
   rw [hj]
   dsimp only
   rw [hg]
   exact .inl ⟨x,hx',hc,rfl⟩
  have hal':=eW hal
  rw [ho] at hal'
  have e1:s.ev y=some (.cl f caps):=by
   rw [iS (s:=s) (s':=s.put oi.dst v s.hp) (x:=y) (fun t ht=>hal' t (fQ (by subst ht;simp [Op.operands,Call.operands])))]
   exact hy
  have e2:s.evs args.toList=some avs:=by
   rw [l6 (s:=s) (s':=s.put oi.dst v s.hp) (l:=args.toList) (fun z hz=>iS fun t ht=>hal' t (fQ (by subst ht;simp [Op.operands,Call.operands];right;simpa using hz)))]
   exact ha
  rw [hhp] at hcall hext
  refine fin (some res) h' rfl (.inr hext) ?_
  unfold ec
  rw [hj]
  dsimp only
  rw [hg]
  exact .inr ⟨y,args,at_,f,caps,avs,res,h',ho,e1,e2,hcall,hext,rfl⟩
 ·rename_i hg
  refine fin (some (.tu [])) s.hp (by rw [h2,hhp]) (.inr fun o ob h=>h) ?_
  unfold ec
  rw [hj]
  dsimp only
  rw [hg]
 exact h2.elim
def lQ (P:Program) (r:Array Oper) (i j:Oper):Bool:=
 DT i.dst j.dst && uP i.dst (g_ r j) && uP j.dst (g_ r i) && pL P j == 0
theorem N1 {P:Program} {r:Array Oper} {i j:Nat} {oi oj:Oper} (hi:r[i]? =some oi) (hj:r[j]? =some oj) (hind:lQ P r oi oj=true) {s s1 s2:S} (h1:ec P r i s s1) (h2:ec P r j s1 s2):
  ∃ s1',ec P r j s s1'/\ec P r i s1' s2:=by
 simp only [lQ,P7,beq_iff_eq] at hind
 obtain⟨⟨⟨hne,hij⟩,hji⟩,hcj⟩:=hind
 unfold ec at h1 h2
 rw [hi] at h1
 rw [hj] at h2
 dsimp only at h1 h2
 have key:∃ v hp,s1=s.put oi.dst v hp/\∀ (t:S),jX (g_ r oi) s t->t.hp=s.hp->ec P r i t (t.put oi.dst v hp):=by
  split at h1
  ·rename_i hg
   rcases h1 with⟨x,hx,hc,rfl⟩|⟨y,args,at_,f,caps,avs,res,h',ho,hy,ha,hcall,hext,rfl⟩
   ·refine⟨x.v,x.hp,rfl,fun t ha he=>?_⟩
    unfold ec
    rw [hi]
    dsimp only
    rw [<-cG ha,hg]
    exact .inl ⟨x,by rw [<-iH he.symm (eW ha)];exact hx,hc,rfl⟩
   refine⟨some res,h',rfl,fun t hal he=>?_⟩
   unfold ec
   rw [hi]
   dsimp only
   rw [<-cG hal,hg]
   have hal':=eW hal
   rw [ho] at hal'
   have e1:t.ev y=some (.cl f caps):=by
    rw [<-iS (s:=s) (s':=t) (x:=y) (fun q hq=>hal' q (fQ (by subst hq;simp [Op.operands,Call.operands])))]
    exact hy
   have e2:t.evs args.toList=some avs:=by
    rw [<-l6 (s:=s) (s':=t) (l:=args.toList) (fun z hz=>iS fun q hq=>hal' q (fQ (by subst hq;simp [Op.operands,Call.operands];right;simpa using hz)))]
    exact ha
   exact .inr ⟨y,args,at_,f,caps,avs,res,h',ho,e1,e2,by rw [he];exact hcall,by rw [he];exact hext,rfl⟩
  ·rename_i hg
   refine⟨some (.tu []),s.hp,h1,fun t ha he=>?_⟩
   unfold ec
   rw [hi]
   dsimp only
   rw [<-cG ha,hg]
   dsimp only
   rw [he]
  exact h1.elim
 obtain⟨v,hp,rfl,hstep⟩:=key
 have hal:jX (g_ r oj) s (s.put oi.dst v hp):=iG hij
 rw [<-cG hal] at h2
 have fin:∀ (u:Option AV),s2=(s.put oi.dst v hp).put oj.dst u hp->ec P r j s (s.put oj.dst u s.hp)->∃ s1',ec P r j s s1'/\ec P r i s1' s2:=by
  intro u he hj'
  refine⟨s.put oj.dst u s.hp,hj',?_⟩
  have h3:=hstep (s.put oj.dst u s.hp) (iG hji) (kd _ _ _ _)
  rw [he,wh s v u hp hp hne]
  have e:∀ (a b:S) (d:Option Tmp) (x:Option AV) (h:Hp),a.sl=b.sl->a.put d x h=b.put d x h:=by
   intro a b d x h hab
   cases d<;>simp [S.put,hab]
  rw [e (s.put oj.dst u hp) (s.put oj.dst u s.hp) oi.dst v hp (by cases oj.dst<;>rfl)]
  exact h3
 split at h2
 ·rename_i hg
  rcases h2 with⟨x,hx,hc,rfl⟩|⟨y,args,at_,f,caps,avs,res,h',ho,_⟩
  ·have hx1:bX P ⟨s.sl,hp⟩ oj.type oj.op=some x:=by
    rw [iH (s:=⟨s.sl,hp⟩) (s':=s.put oi.dst v hp) (by rw [kd]) (fun q hq=>eW hal q hq)]
    exact hx
   obtain⟨e1,e2⟩:=nS hcj hx1
   have e3:=e2 s.hp
   refine fin x.v (by rw [e1]) ?_
   unfold ec
   rw [hj]
   dsimp only
   rw [hg]
   exact .inl ⟨_,e3,hc,rfl⟩
  exfalso
  have:pL P oj=3:=by unfold pL;rw [ho];rfl
  omega
 ·rename_i hg
  refine fin (some (.tu [])) (by rw [h2,kd]) ?_
  unfold ec
  rw [hj]
  dsimp only
  rw [hg]
 exact h2.elim
theorem JO {P:Program} {E:Entry} {r:Array Oper} {i:Nat} {s s1:S} {β:Be} {a:Act} {w:World} {Q:Exit->Act->World->Prop} {K:Act->World->Prop} (h:ec P r i s s1) (hs:Sim E β s a w) (hK:∀ β' a' w',Sim E β' s1 a' w'->K a' w'):wpOp P r Q i K a w:=by
 unfold wpOp
 unfold ec at h
 split at h
 ·rename_i hi
  subst h
  rw [hi]
  exact hK β a w hs
 rename_i o ho
 rw [ho]
 dsimp only
 split at h
 ·rename_i hg
  rw [if_pos (mw hs.sl hg)]
  refine .inl ?_
  unfold Oper.wp
  rcases h with⟨x,hx,hc,rfl⟩|⟨y,args,at_,f,caps,avs,res,h',hop,hy,ha,⟨⟨fn,hfn,hname,hbody⟩,hcall⟩,_,rfl⟩
  ·obtain⟨β',w',hst,hh,hx'⟩:=tM hs.hp hs.sl hx hc
   rcases hx' with⟨v,av,hrun,hv,hr⟩|⟨hrun,hv⟩
   ·rw [hrun]
    rw [hv] at hK
    exact hK β' _ w' (iw hs hst hh o.dst hr)
   rw [hrun]
   rw [hv] at hK
   exact hK β' _ w' (fK hs hst hh o.dst undef)
  obtain⟨cvs,hxe,hcl⟩:iq β (.cl f caps) (a.eval y):=et hs.sl hy
  have hav:=GZ hs.sl ha
  have hvs:L2 (iq β) (avs++nN caps) (args.toList.map a.eval++cvs):=hav.append (v_ hcl)
  have hrun:(execOp a.eval o).run P w=.ok (.enter f (args.toList.map a.eval++cvs).toArray) w:=by
   unfold execOp
   rw [hop]
   have e1:args.map a.eval=(args.toList.map a.eval).toArray:=by apply Array.ext';simp
   have hname':¬ fn.name= "runtime.NumGoroutine":=by simpa using hname
   simp only [resolve,hxe,Deferred.ofValue,invoke,callFunc,Qb,run_program,Qm,P8,hfn,e1]
   simp [hname',hbody]
  rw [hrun,Oper.upon_enter]
  refine (hcall β w _ hs.hp hvs).mono fun e w' ⟨β',v,he,hr,hh,hst⟩=>?_
  subst he
  exact hK β' _ w' (iw hs hst hh o.dst hr)
 ·rename_i hg
  rw [mw hs.sl hg]
  subst h
  exact hK β _ w (iw hs (StepR.refl β s.hp w hs.hp.len) hs.hp o.dst ⟨[],rfl,trivial⟩)
 exact h.elim
def JP (T:List Nat) (o:Oper):Nat:=o.after.toList.foldl (fun m e=>if Region.binds .any e then m |||(1 <<< e.on) |||T.getD e.on 0 else m) 0
def zB:List Oper->List Nat->List Nat
 |[],T=>T
 |o::l,T=>zB l (T++[JP T o])
def Hb (r:Array Oper):List Nat:=zB r.toList []
def rI (r:Array Oper):Bool:=(List.range r.size).all fun i=>match r[i]? with
 |some o=>o.after.toList.all fun e=> !Region.binds .any e || decide (e.on < i)
 |none=>true
theorem DV (T:List Nat) (p:Nat):∀ (l:List Edge) (m:Nat),(l.foldl (fun m e=>if Region.binds .any e then m |||(1 <<< e.on) |||T.getD e.on 0 else m) m).testBit p=true↔
  m.testBit p=true\/∃ e∈l,Region.binds .any e=true/\(e.on=p\/(T.getD e.on 0).testBit p=true)
 |[],m=>by simp
 |e::l,m=>by
  rw [Rr,DV T p l]
  cases hb:Region.binds .any e
  ·simp [hb]
  simp only [if_true,Nat.testBit_or,Qt,Nat.one_shiftLeft,Nat.testBit_two_pow,decide_eq_true_eq,Qy,exists_eq_or_imp,hb,true_and]
  constructor
  ·rintro (((h|h)|h)|h)
   ·exact .inl h
   ·exact .inr (.inl (.inl h))
   ·exact .inr (.inl (.inr h))
   exact .inr (.inr h)
  rintro (h|(h|h)|h)
  ·exact .inl (.inl (.inl h))
  ·exact .inl (.inl (.inr h))
  ·exact .inl (.inr h)
  exact .inr h
theorem wW:∀ (l:List Oper) (T:List Nat) (i:Nat),i < T.length->(zB l T)[i]? =T[i]?
 |[],T,i,_=>rfl
 |o::l,T,i,h=>by
  rw [zB,wW l _ i zS,P6 h]
theorem DW:∀ (l:List Oper) (T:List Nat) (j:Nat) (o:Oper),l[j]? =some o->∃ T',(zB l T)[T.length+j]? =some (JP T' o)/\T'.length=T.length+j/\∀ k,k < T.length+j->T'[k]? =(zB l T)[k]?
 |[],T,j,o,h=>by simp at h
 |o'::l,T,0,o,h=>by
  simp at h
  subst h
  refine⟨T,?_,zP,fun k hk=>?_⟩
  ·rw [zB,wW l _ _ zP]
   simp
  rw [zB,wW l _ _ zS,P6 zO]
 |o'::l,T,j+1,o,h=>by
  obtain⟨T',h1,h2,h3⟩:=DW l (T++[JP T o']) j o (by simpa using h)
  simp only [QS,QW,QY] at h1 h2 h3
  refine⟨T',?_,zO,fun k hk=>?_⟩
  ·rw [zB,show T.length+(j+1)=T.length+(0+1)+j from by omega];exact h1
  rw [zB];exact h3 k zO
theorem wX {r:Array Oper} {i:Nat} {o:Oper} (ho:r[i]? =some o) (p:Nat):((Hb r).getD i 0).testBit p=true↔∃ e∈o.after.toList,Region.binds .any e=true/\(e.on=p\/(e.on < i/\((Hb r).getD e.on 0).testBit p=true)):=by
 obtain⟨T',h1,h2,h3⟩:=DW r.toList [] i o (by simpa using ho)
 simp only [QY,Qn] at h1 h2 h3
 have e1:(Hb r).getD i 0=JP T' o:=by unfold Hb;rw [zk,h1];rfl
 rw [e1]
 unfold JP
 rw [DV]
 simp only [Nat.zero_testBit,Rj,false_or]
 constructor
 ·rintro⟨e,he,hb,h⟩
  refine⟨e,he,hb,h.imp id fun h=>?_⟩
  rcases Qs e.on i with hlt|hge
  ·refine⟨hlt,?_⟩
   rw [zk,h3 _ hlt] at h
   rw [zk]
   exact h
  rw [zk,Qc zO] at h
  simp at h
 rintro⟨e,he,hb,h⟩
 refine⟨e,he,hb,h.imp id fun⟨hlt,h⟩=>?_⟩
 rw [zk,h3 _ hlt]
 rw [zk] at h
 exact h
def FP (r:Array Oper) (listed:Array Bool):Prop:=∀ (i:Nat) (o:Oper),r[i]? =some o->listed.getD i false=true->∀ e∈o.after.toList,Region.binds .any e=true->listed.getD e.on false=true
theorem wY {r:Array Oper} {listed:Array Bool} (hc:FP r listed):∀ (i:Nat) (o:Oper),r[i]? =some o->(∀ e∈o.after.toList,Region.binds .any e=true->listed.getD e.on false=true)->∀ p,((Hb r).getD i 0).testBit p=true->listed.getD p false=true:=by
 intro i
 induction i using Nat.strongRecOn with
 |_ i ih=>
  intro o ho ha p hp
  obtain⟨e,he,hb,h⟩:=(wX ho p).1 hp
  rcases h with rfl|⟨hlt,h⟩
  ·exact ha e he hb
  have hl:=ha e he hb
  cases hr:r[e.on]? with
  |none=>
   exfalso
   have hn:(Hb r)[e.on]? =none:=by
    rw [Array.getElem?_eq_none_iff] at hr
    have hlt2:=(Qg.1 ho).1
    omega
   rw [zk,hn] at h
   simp at h
  |some oj=>exact ih e.on hlt oj hr (hc e.on oj hr hl) p h
def bZ:List Nat->Nat->Nat->Bool
 |[],p,q=>decide (p < q)
 |i::l,p,q=>if i=p then true else if i=q then false else bZ l p q
theorem mB {p q:Nat} (hne:p≠q):∀ {l:List Nat},bZ l p q=true\/bZ l q p=true
 |[]=>by simp only [bZ,decide_eq_true_eq];omega
 |i::l=>by
  simp only [bZ]
  by_cases h1:i=p
  ·exact .inl (by rw [if_pos h1])
  by_cases h2:i=q
  ·exact .inr (by rw [if_pos h2])
  rw [if_neg h1,if_neg h2,if_neg h2,if_neg h1]
  exact mB hne
def Ny (P:Program) (r:Array Oper) (T:List Nat) (ex:List (Nat×Nat)) (p q:Nat):Bool:=
 p != q && !(T.getD p 0).testBit q &&
 ((T.getD q 0).testBit p || ex.contains (p,q) || match r[p]?,r[q]? with
  |some x,some y=>wU P r x y || lQ P r x y
  |_,_=>false)
def Fw (P:Program) (r:Array Oper) (T:List Nat) (ex:List (Nat×Nat)):List Nat->Bool
 |[]=>true
 |p::l=>l.all (Ny P r T ex p) && Fw P r T ex l
theorem DX {P:Program} {r:Array Oper} {T:List Nat} {ex:List (Nat×Nat)} {i:Nat}:∀ {l m:List Nat},Fw P r T ex (l++i::m)=true->Fw P r T ex (l++m)=true
 |[],m,h=>by simp only [Ru,Fw,P7] at h⊢;exact h.2
 |p::l,m,h=>by
  simp only [QV,Fw,P7,Qh] at h⊢
  refine⟨fun q hq=>h.1 q ?_,DX h.2⟩
  simp only [QQ,Qy] at hq⊢
  exact hq.imp id .inr
theorem JQ {P:Program} {r:Array Oper} {T:List Nat} {ex:List (Nat×Nat)} {i p:Nat}:∀ {l m:List Nat},Fw P r T ex (l++i::m)=true->p∈l->Ny P r T ex p i=true
 |[],m,_,h=>by simp at h
 |q::l,m,h,hp=>by
  simp only [QV,Fw,P7,Qh] at h
  rcases Qy.1 hp with rfl|hp
  ·exact h.1 i zP
  exact JQ h.2 hp
theorem DY {P:Program} {r:Array Oper} {T:List Nat} {ex:List (Nat×Nat)} {i p:Nat} {l:List Nat} (h:Fw P r T ex (i::l)=true) (hp:p∈l):Ny P r T ex i p=true:=by
 simp only [Fw,P7,Qh] at h
 exact h.1 p hp
theorem AJ {P:Program} {r:Array Oper} {T:List Nat} {ex:List (Nat×Nat)}:∀ {l:List Nat},Fw P r T ex l=true->l.Nodup
 |[],_=>List.nodup_nil
 |p::l,h=>by
  refine Q9.2 ⟨fun hp=>?_,AJ (by simp only [Fw,P7] at h;exact h.2)⟩
  have:=DY h hp
  simp [Ny] at this
theorem AK {P:Program} {r:Array Oper} {i:Nat}:∀ {l m:List Nat} {s s':S},(∀ p∈l,∃ x y,r[p]? =some x/\r[i]? =some y/\(wU P r x y || lQ P r x y)=true)->B8 P r (l++i::m) s s'->B8 P r (i::(l++m)) s s'
 |[],m,s,s',_,h=>h
 |p::l,m,s,s',hl,h=>by
  obtain⟨s1,h1,h2⟩:=h
  obtain⟨s2,h3,h4⟩:=AK (fun q hq=>hl q (List.mem_cons_of_mem _ hq)) h2
  obtain⟨x,y,hx,hy,hind⟩:=hl p zP
  rcases (Qt _ _).mp hind with hind|hind
  ·obtain⟨s1',h5,h6⟩:=swap hx hy hind h1 h3
   exact⟨s1',h5,s2,h6,h4⟩
  obtain⟨s1',h5,h6⟩:=N1 hx hy hind h1 h3
  exact⟨s1',h5,s2,h6,h4⟩
def uR (r:Array Oper):Nat->Array Bool->List Nat->Prop
 |fuel,listed,[]=>fuel=0\/Region.ready .any r listed=[]
 |0,_,_::_=>False
 |fuel+1,listed,i::τ=>i∈Region.ready .any r listed/\uR r fuel (listed.setIfInBounds i true) τ
theorem nT {r:Array Oper}:∀ (fuel t:Nat) (listed:Array Bool),uR r fuel listed (Region.linearise.go .any r fuel t listed [])
 |0,t,listed=>by simp [Region.linearise.go,uR]
 |fuel+1,t,listed=>by
  simp only [Region.linearise.go]
  change uR r (fuel+1) listed (match (Region.ready .any r listed)[t % (Region.ready .any r listed).length]? with
   |some i=>Region.linearise.go .any r fuel (t / (Region.ready .any r listed).length) (listed.setIfInBounds i true) [i]
   |none=>[].reverse)
  cases hi:(Region.ready .any r listed)[t % (Region.ready .any r listed).length]? with
  |none=>
   have hnil:Region.ready .any r listed=[]:=by
    cases hr:Region.ready .any r listed with
    |nil=>rfl
    |cons x xs=>
     rw [hr] at hi
     have hlt:t % (x::xs).length < (x::xs).length:=RD _ zP
     simp at hi
     simp at hlt
     omega
   exact .inr hnil
  |some i=>
   simp only []
   rw [linearise_go_acc,List.reverse_singleton,List.singleton_append]
   exact⟨Qk hi,nT fuel _ _⟩
theorem l7 {r:Array Oper} {listed:Array Bool} {i:Nat}:i∈Region.ready .any r listed↔∃ o,r[i]? =some o/\listed.getD i true=false/\∀ e∈o.after.toList,Region.binds .any e=true->listed.getD e.on false=true:=by
 unfold Region.ready
 simp only [List.mem_filter,QT,P7,Qw]
 constructor
 ·rintro⟨hlt,h1,h2⟩
  refine⟨r[i],Qp hlt,h1,fun e he hb=>?_⟩
  rw [Qp hlt] at h2
  simp only [Qr,Qa,QX,Qt,Qw] at h2
  rcases h2 e (by simpa using he) with h|h
  ·rw [hb] at h;cases h
  exact h
 rintro⟨o,ho,h1,h2⟩
 refine⟨(Qg.1 ho).1,h1,?_⟩
 rw [ho]
 simp only [Qr,Qa,QX,Qt,Qw]
 intro e he
 cases hb:Region.binds .any e with
 |false=>exact .inl rfl
 |true=>exact .inr (h2 e (by simpa using he) hb)
theorem wZ {l:Array Bool} {i j:Nat} {d:Bool} (hi:i < l.size):(l.setIfInBounds i true).getD j d=if i=j then true else l.getD j d:=by
 simp only [Qd,Q2]
 by_cases h:i=j
 ·subst h;simp [hi]
 simp [h]
theorem wj {r:Array Oper} (h:rI r=true) {i:Nat} {o:Oper} (ho:r[i]? =some o) {e:Edge} (he:e∈o.after.toList) (hb:Region.binds .any e=true):e.on < i:=by
 unfold rI at h
 rw [Qh] at h
 have:=h i (QT.2 (Qg.1 ho).1)
 rw [ho] at this
 have:=(Qh.1 this) e he
 rw [hb] at this
 simpa using this
theorem AL {r:Array Oper} {fuel:Nat} {listed:Array Bool} (h:uR r fuel listed []):fuel=0\/Region.ready .any r listed=[]:=by
 cases fuel<;>exact h
theorem mC {P:Program} {E:Entry} {r:Array Oper} {Q:Exit->Act->World->Prop} {ex:List (Nat×Nat)} {s':S} (hback:rI r=true) (hQ:∀ β' a' w',Sim E β' s' a' w'->Q .normal a' w'):
  ∀ (τ:List Nat) (fuel:Nat) (listed:Array Bool) (σ:List Nat) (s:S) (β:Be) (a:Act) (w:World),uR r fuel listed τ->listed.size=r.size->σ.length<=fuel->(∀ i,i∈σ↔i < r.size/\listed.getD i true=false)->FP r listed->
   Fw P r (Hb r) ex σ=true->(∀ p q,ex.contains (p,q)=true->p∈σ->q∈σ->bZ τ p q=true)->B8 P r σ s s'->Sim E β s a w->wpOps P r Q τ a w
 |[],fuel,listed,σ,s,β,a,w,hd,hsz,hf,hm,hc,hok,hx,hrun,hs=>by
  have hnil:σ=[]:=by
   rcases AL hd with rfl|hd
   ·exact List.length_eq_zero_iff.1 zO
   cases σ with
   |nil=>rfl
   |cons p l=>
    exfalso
    have hp:=(hm p).1 zP
    have:p∈Region.ready .any r listed:=by
     refine l7.2 ⟨r[p],Qp hp.1,hp.2,fun e he hb=>?_⟩
     have hbit:((Hb r).getD p 0).testBit e.on=true:=(wX (Qp hp.1) e.on).2 ⟨e,he,hb,.inl rfl⟩
     have hlt0:=wj hback (Qp hp.1) he hb
     have hlt:e.on < r.size:=Nat.lt_trans hlt0 hp.1
     cases hl:listed.getD e.on false with
     |true=>rfl
     |false=>
      exfalso
      have hl':listed.getD e.on true=false:=by
       rw [Qd,Qp zO] at hl⊢
       exact hl
      have hmem:e.on∈p::l:=(hm e.on).2 ⟨hlt,hl'⟩
      rcases Qy.1 hmem with hep|hmem
      ·omega
      have:=DY hok hmem
      simp only [Ny,P7,Qw] at this
      rw [this.1.2] at hbit
      cases hbit
    rw [hd] at this
    simp at this
  subst hnil
  have:s'=s:=hrun
  subst this
  exact hQ β a w hs
 |i::τ,0,listed,σ,s,β,a,w,hd,_,_,_,_,_,_,_,_=>hd.elim
 |i::τ,fuel+1,listed,σ,s,β,a,w,hd,hsz,hf,hm,hc,hok,hx,hrun,hs=>by
  obtain⟨hi,hd⟩:=hd
  obtain⟨o,ho,h1,h2⟩:=l7.1 hi
  have hil:i < r.size:=(Qg.1 ho).1
  have hiσ:i∈σ:=(hm i).2 ⟨hil,h1⟩
  obtain⟨l,m,rfl⟩:=List.append_of_mem hiσ
  have hnd:=AJ hok
  have hfront:∀ p∈l,∃ x y,r[p]? =some x/\r[i]? =some y/\(wU P r x y || lQ P r x y)=true:=by
   intro p hp
   have hpl:=(hm p).1 (by simp [hp])
   have h3:=JQ hok hp
   have hpi:p≠i:=by
    intro e
    subst e
    simp [Ny] at h3
   simp only [Ny,P7,Qt] at h3
   rcases h3.2 with (h4|h4)|h4
   ·exfalso
    have:=wY hc i o ho h2 p h4
    have h5:=hpl.2
    rw [Qd,Qp zO] at this h5
    simp only [Qa] at this h5
    rw [this] at h5
    cases h5
   ·exfalso
    have:=hx p i h4 (by simp [hp]) zP
    simp [bZ,hpi,Ne.symm hpi] at this
   split at h4
   ·rename_i x y hx hy
    exact⟨x,y,hx,hy,h4⟩
   cases h4
  obtain⟨s1,h3,h4⟩:=AK hfront hrun
  have hset:∀ (j:Nat) (d:Bool),(listed.setIfInBounds i true).getD j d=if i=j then true else listed.getD j d:=fun j d=>wZ zO
  rw [wpOps_cons]
  refine JO h3 hs fun β' a' w' hs'=>?_
  refine mC hback hQ τ fuel (listed.setIfInBounds i true) (l++m) s1 β' a' w' hd (by simpa using hsz) ?_ ?_ ?_ (DX hok) ?_ h4 hs'
  ·simp only [QS,QW] at hf⊢
   omega
  ·intro j
   have hj:=hm j
   rw [hset]
   have hd1:i ∉ l/\i ∉ m:=by
    rw [Rm] at hnd
    exact⟨fun h=>hnd.2.2 i h i zP rfl,(Q9.1 hnd.2.1).1⟩
   simp only [QQ,Qy] at hj⊢
   by_cases hij:i=j
   ·subst hij
    simp [hd1.1,hd1.2]
   rw [if_neg hij,<-hj]
   simp [Ne.symm hij]
  ·intro j oj hj hl e he hb
   rw [hset] at hl⊢
   by_cases hij:i=j
   ·subst hij
    rw [hj] at ho
    cases ho
    split
    ·rfl
    exact h2 e he hb
   rw [if_neg hij] at hl
   split
   ·rfl
   exact hc j oj hj hl e he hb
  intro p q hpq hp hq
  have hd1:i ∉ l/\i ∉ m:=by
   rw [Rm] at hnd
   exact⟨fun h=>hnd.2.2 i h i zP rfl,(Q9.1 hnd.2.1).1⟩
  have hne:∀ x∈l++m,i≠x:=by
   intro x hx e
   subst e
   exact (QQ.1 hx).elim hd1.1 hd1.2
  have hin:∀ x∈l++m,x∈l++i::m:=by
   intro x hx
   simp only [QQ,Qy] at hx⊢
   exact hx.imp id .inr
  have:=hx p q hpq (hin p hp) (hin q hq)
  simpa [bZ,hne p hp,hne q hq] using this
def oU:List (Nat×Nat)->List (List (Nat×Nat))
 |[]=>[[]]
 |(a,b)::U=>(oU U).flatMap fun l=>[(a,b)::l,(b,a)::l]
theorem oV (τ:List Nat):∀ {U:List (Nat×Nat)},(∀ u∈U,u.1≠u.2)->∃ ex∈oU U,∀ p q,ex.contains (p,q)=true->bZ τ p q=true
 |[],_=>⟨[],by simp [oU],fun p q h=>by simp at h⟩
 |(a,b)::U,h=>by
  obtain⟨ex,h1,h2⟩:=oV τ (U:=U) fun u hu=>h u (by simp [hu])
  have hne:a≠b:=h (a,b) zP
  rcases mB hne (l:=τ) with h3|h3
  ·refine⟨(a,b)::ex,Rq.2 ⟨ex,h1,zP⟩,fun p q hpq=>?_⟩
   simp only [Rk,Qt,beq_iff_eq,Prod.mk.injEq] at hpq
   rcases hpq with⟨rfl,rfl⟩|hpq
   ·exact h3
   exact h2 p q hpq
  refine⟨(b,a)::ex,Rq.2 ⟨ex,h1,zP⟩,fun p q hpq=>?_⟩
  simp only [Rk,Qt,beq_iff_eq,Prod.mk.injEq] at hpq
  rcases hpq with⟨rfl,rfl⟩|hpq
  ·exact h3
  exact h2 p q hpq
def w_ (P:Program) (r:Array Oper) (U:List (Nat×Nat)) (os:List (List Nat)):Bool:=
 rI r && U.all (fun u=>u.1 != u.2) && os.all (fun σ=>σ.length == r.size && (List.range r.size).all σ.contains && σ.all fun i=>decide (i < r.size)) &&
 (let T:=Hb r;(oU U).all fun ex=>os.any fun σ=>Fw P r T ex σ)
theorem JR {P:Program} {E:Entry} {id:Nat} {r:Array Oper} {U:List (Nat×Nat)} {os:List (List Nat)} (hP:P.follows .mixedOrders=true) (hcov:w_ P r U os=true) {s:S} {K:S->Prop}
  (h:∀ σ∈os,∃ s',B8 P r σ s s'/\∀ β a w,Sim E β s' a w->∃ β' t,K t/\Sim E β' t a w):uK P E (.region id r true) s fun e s'=>e=.normal/\K s':=by
 intro β a w hs Q hQ
 refine wp_region_draw fun t=>?_
 simp only [Region.schedule,hP,RC,if_true]
 simp only [w_,P7] at hcov
 obtain⟨⟨⟨hback,hU⟩,hperm⟩,hch⟩:=hcov
 have hd:=nT (r:=r) r.size t (Array.replicate r.size false)
 obtain⟨ex,hex,hbef⟩:=oV (Region.linearise .any r t) (U:=U) fun u hu=>by
  have:=Qh.1 hU u hu
  simpa using this
 obtain⟨σ,hσ,hok⟩:=QK.1 (Qh.1 hch ex hex)
 have hp:=Qh.1 hperm σ hσ
 simp only [P7,beq_iff_eq,Qh,QT,decide_eq_true_eq] at hp
 obtain⟨⟨hlen,hall⟩,hlt⟩:=hp
 obtain⟨s',hrun,hK⟩:=h σ hσ
 have hs2:Sim E β s a { w with drawn:=w.drawn+1 }:=⟨hs.dfr,hs.sl,⟨hs.hp.len,hs.hp.ob,hs.hp.flat,hs.hp.apart⟩,hs.ent,⟨hs.st.le,hs.st.os,hs.st.tape,hs.st.output,hs.st.size,hs.st.block,hs.st.len,hs.st.old,hs.st.fresh⟩⟩
 refine mC hback (fun β' a' w' hs'=>let⟨β2,t2,hk2,hs2⟩:=hK β' a' w' hs';hQ .normal t2 β2 a' w' ⟨rfl,hk2⟩ hs2) (Region.linearise .any r t) r.size _ σ s β a _ hd zP zO (fun i=>?_) (fun i o ho hl=>?_) hok (fun p q hpq _ _=>hbef p q hpq) hrun hs2
 ·constructor
  ·intro hi
   refine⟨hlt i hi,?_⟩
   simp [Qd,hlt i hi]
  rintro⟨hi,_⟩
  simpa using hall i hi
 exfalso
 simp only [Qd,Q6] at hl
 split at hl<;>cases hl
inductive M3 where
 |go (l:List Nat) (s:S) (c:Prop)
 |call (f:Nat) (args:List AV) (d:Option Tmp) (l:List Nat) (s:S) (c:Prop)
 |fin (s:S) (c:Prop)
 |bad
def wk (P:Program) (o:Oper) (l:List Nat) (s:S) (c:Prop):M3:=
 match o.op with
 | .call ⟨.value x,args,_⟩=>match s.ev x,s.evs args.toList with
  |some (.cl f caps),some avs=>.call f (avs++nN caps) o.dst l s c
  |_,_=>.bad
 |op=>match bX P s o.type op with
  |some ⟨v,h,d⟩=>.go l (s.put o.dst v h) (c/\d)
  |none=>.bad
def AM (P:Program) (r:Array Oper):List Nat->S->Prop->M3
 |[],s,c=>.fin s c
 |i::l,s,c=>match r[i]? with
  |some o=>match fP r s o with
   |some b=>match b with
    |true=>wk P o l s c
    |false=>.go l (s.put o.dst (some (.tu [])) s.hp) c
   |none=>.bad
  |none=>.bad
def Ih (P:Program) (r:Array Oper):Nat->M3->M3
 |0,x=>x
 |n+1,.go l s c=>Ih P r n (AM P r l s c)
 |_+1,.call f a d l s c=>.call f a d l s c
 |_+1,.fin s c=>.fin s c
 |_+1,.bad=>.bad
def tT (P:Program) (r:Array Oper) (G:S->Prop):M3->Prop
 | .go l s c=>c/\∃ s',B8 P r l s s'/\G s'
 | .call f args d l s c=>c/\∃ res h',ic P f args s.hp res h'/\Hp.ext s.hp h'/\∃ s',B8 P r l (s.put d (some res) h') s'/\G s'
 | .fin s c=>c/\G s
 | .bad=>False
theorem Ii {P:Program} {r:Array Oper} {G:S->Prop} {l:List Nat} {s:S} {c:Prop} (h:tT P r G (AM P r l s c)):tT P r G (.go l s c):=by
 cases l with
 |nil=>exact⟨h.1,s,rfl,h.2⟩
 |cons i l=>
  simp only [AM] at h
  split at h
  ·rename_i o ho
   split at h
   ·rename_i b hg
    cases b with
    |true=>
     unfold wk at h
     dsimp only at h
     split at h
     ·rename_i x args at_ hop
      split at h
      ·rename_i f caps avs hx ha
       obtain⟨hc,res,h',hcall,hext,s',hrun,hG⟩:=h
       refine⟨hc,s',⟨_,?_,hrun⟩,hG⟩
       unfold ec
       rw [ho]
       dsimp only
       rw [hg]
       exact .inr ⟨x,args,at_,f,caps,avs,res,h',hop,hx,ha,hcall,hext,rfl⟩
      exact h.elim
     split at h
     ·rename_i v hp d hx
      obtain⟨⟨hc,hd⟩,s',hrun,hG⟩:=h
      refine⟨hc,s',⟨_,?_,hrun⟩,hG⟩
      unfold ec
      rw [ho]
      dsimp only
      rw [hg]
      exact .inl ⟨_,hx,hd,rfl⟩
     exact h.elim
    |false=>
     obtain⟨hc,s',hrun,hG⟩:=h
     refine⟨hc,s',⟨_,?_,hrun⟩,hG⟩
     unfold ec
     rw [ho]
     dsimp only
     rw [hg]
   exact h.elim
  exact h.elim
theorem aa {P:Program} {r:Array Oper} {G:S->Prop}:∀ (n:Nat) {x:M3},tT P r G (Ih P r n x)->tT P r G x
 |0,x,h=>h
 |n+1,.go l s c,h=>Ii (aa n h)
 |n+1,.call ..,h=>h
 |n+1,.fin ..,h=>h
 |n+1,.bad,h=>h
def uS:Hp->Bool
 |[]=>true
 |some ob::h=> !ob.own && uS h
 |none::h=>uS h
theorem tU:∀ {h:Hp} {i:Nat} {t:AObj},uS h=true->h[i]? =some (some t)->t.own=false
 |[],i,t,_,h=>by simp at h
 |some ob::l,0,t,hn,h=>by
  simp at h
  subst h
  simp [uS] at hn
  exact hn.1
 |none::l,0,t,hn,h=>by simp at h
 |some ob::l,i+1,t,hn,h=>tU (h:=l) (by simp [uS] at hn;exact hn.2) (by simpa using h)
 |none::l,i+1,t,hn,h=>tU (h:=l) (by simpa [uS] using hn) (by simpa using h)
theorem ak {P:Program} {r:Array Oper} {G:S->Prop} {f:Nat} {avs:List AV} {d:Option Tmp} {l:List Nat} {s:S} {c:Prop} {args0:List AV} {h0 h0':Hp} {res0:AV} (hc:c) (ct:ic P f args0 h0 res0 h0') (ρ:cO)
  (hm:rz ρ args0 avs/\lY ρ s.hp ρ h0) (hsep:e9 ρ h0=true) (hno:uS h0=true) (h:tT P r G (.go l (s.put d (some (l5 ρ s.hp.length res0)) (s.hp++kP ρ s.hp.length (h0'.drop h0.length))) True)):tT P r G (.call f avs d l s c):=by
 have hu:∀ (ρ':cO) (h h' s':Hp),(∀ (i:Nat) (t:AObj),h[i]? =some (some t)->t.own=false)->gA ρ s.hp.length ρ' h h' s'=s':=by
  intro ρ'
  induction ρ' with
  |nil=>intro h h' s' _;simp [gA]
  |cons x ρ' ih=>
   intro h h' s' hn
   cases h with
   |nil=>cases x<;>simp [gA]
   |cons y h=>
    have hn':∀ (i:Nat) (t:AObj),h[i]? =some (some t)->t.own=false:=fun i t ht=>hn (i+1) t (by simpa using ht)
    cases h' with
    |nil=>cases x<;>cases y<;>simp [gA]
    |cons z h'=>
     cases x with
     |none=>cases y<;>simpa [gA] using ih h h' s' hn'
     |some x=>
      cases y with
      |none=>simpa [gA] using ih h h' s' hn'
      |some y=>
       obtain⟨n,e⟩:=x
       have ho:=hn 0 y zP
       simpa [gA,ho] using ih h h' s' hn'
 have hcall:fu ρ h0 h0' s.hp=s.hp++kP ρ s.hp.length (h0'.drop h0.length):=by
  unfold fu
  rw [hu ρ h0 h0' s.hp fun i t ht=>tU hno ht]
 obtain⟨_,s',hrun,hG⟩:=h
 refine⟨hc,_,_,wR ct ρ hm.1 hm.2 hsep,?_,s',by rw [hcall];exact hrun,hG⟩
 rw [hcall]
 exact jt _ _
def aM (f:List Nat->Prop):List (List Nat)->Prop
 |[]=>True
 |[σ]=>f σ
 |σ::l=>f σ/\aM f l
theorem l8 {f:List Nat->Prop}:∀ {l:List (List Nat)},aM f l->∀ σ∈l,f σ
 |[σ],h,_,hm=>by simp at hm;subst hm;exact h
 |σ::τ::l,h,x,hm=>by
  rcases Qy.1 hm with rfl|hm
  ·exact h.1
  exact l8 h.2 x hm
theorem JS {P:Program} {E:Entry} {F:S->Prop} {id:Nat} {r:Array Oper} {k:List gz} {s:S} {c:Prop} (U:List (Nat×Nat)) (os:List (List Nat)) (hP:P.follows .mixedOrders=true) (hc:c) (hcov:w_ P r U os=true)
  (h:aM (fun σ=>tT P r (fun s'=>iA P E F (.go k s' True)) (.go σ s True)) os):iA P E F (.draw id r k s c):=by
 refine⟨hc,iR (JR hP hcov (K:=fun s'=>iA P E F (.go k s' True)) fun σ hσ=>let⟨s',h1,h2⟩:=(l8 h σ hσ).2;⟨s',h1,fun β a w hs=>⟨β,s',h2,hs⟩⟩) fun e s' hk=>?_⟩
 obtain⟨rfl,hk⟩:=hk
 exact hk.2
theorem ao {P:Program} {E:Entry} {F:S->Prop} {id:Nat} {r:Array Oper} {k:List gz} {s:S} {c:Prop} (σ:List Nat) (hP:P.follows .mixedOrders=true) (hc:c) (hcov:w_ P r [] [σ]=true)
  (h:tT P r (fun s'=>iA P E F (.go k s' True)) (.go σ s True)):iA P E F (.draw id r k s c):=
 JS [] [σ] hP hc hcov h
attribute [go_sem] Ih AM wk aM
theorem ko {r:Array Oper} (hb:rI r=true):∀ {τ:List Nat} {fuel:Nat} {listed:Array Bool},uR r fuel listed τ->∀ {p q:Nat} {o:Oper} {e:Edge},r[q]? =some o->e∈o.after.toList->Region.binds .any e=true->e.on=p->listed.size=r.size->listed.getD p true=false->bZ τ p q=true
 |[],fuel,listed,_,p,q,o,e,ho,he,hbd,hp,_,_=>by
  have:=wj hb ho he hbd
  simp only [bZ,decide_eq_true_eq]
  omega
 |i::τ,0,listed,h,_,_,_,_,_,_,_,_,_,_=>h.elim
 |i::τ,fuel+1,listed,⟨hi,hd⟩,p,q,o,e,ho,he,hbd,hp,hsz,hl=>by
  obtain⟨oi,hoi,h1,h2⟩:=l7.1 hi
  have hil:i < listed.size:=by rw [hsz];exact (Qg.1 hoi).1
  simp only [bZ]
  by_cases h3:i=p
  ·rw [if_pos h3]
  rw [if_neg h3]
  by_cases h4:i=q
  ·exfalso
   subst h4
   rw [ho] at hoi
   cases hoi
   have h5:=h2 e he hbd
   rw [hp] at h5
   have hlt:p < listed.size:=by
    have:=wj hb ho he hbd
    have:=(Qg.1 ho).1
    omega
   rw [Qd,Qp hlt] at h5 hl
   simp only [Qa] at h5 hl
   rw [h5] at hl
   cases hl
  rw [if_neg h4]
  exact ko hb hd ho he hbd hp (by simpa using hsz) (by rw [wZ hil,if_neg h3];exact hl)
theorem qk {a b c:Nat} (h1:a≠b) (h2:b≠c) (h3:a≠c):∀ {l:List Nat},bZ l a b=true->bZ l b c=true->bZ l c a=true->False
 |[],x,y,z=>by
  simp only [bZ,decide_eq_true_eq] at x y z
  omega
 |i::l,x,y,z=>by
  simp only [bZ] at x y z
  by_cases ha:i=a
  ·subst ha
   rw [if_neg h3,if_pos rfl] at z
   cases z
  rw [if_neg ha] at x
  by_cases hb:i=b
  ·rw [if_pos hb] at x
   cases x
  rw [if_neg hb] at x y
  by_cases hc:i=c
  ·rw [if_pos hc] at y
   cases y
  rw [if_neg hc] at y z
  rw [if_neg ha] at z
  exact qk h1 h2 h3 x y z
def DZ (r:Array Oper) (b c:Nat):Bool:=match r[c]? with
 |some o=>o.after.toList.any fun e=>Region.binds .any e && e.on == b
 |none=>false
def N3 (r:Array Oper) (ex:List (Nat×Nat)):Bool:=ex.any fun u=>ex.any fun v=>v.2 == u.1 && (u.1 != v.1 && (u.2 != v.1 && (u.1 != u.2 && (DZ r u.2 v.1 && decide (u.2 < r.size)))))
def FQ (P:Program) (r:Array Oper) (U:List (Nat×Nat)) (os:List (List Nat)):Bool:=
 rI r && U.all (fun u=>u.1 != u.2) && os.all (fun σ=>σ.length == r.size && (List.range r.size).all σ.contains && σ.all fun i=>decide (i < r.size)) &&
 (let T:=Hb r;(oU U).all fun ex=>N3 r ex || os.any fun σ=>Fw P r T ex σ)
theorem Ij {P:Program} {E:Entry} {id:Nat} {r:Array Oper} {U:List (Nat×Nat)} {os:List (List Nat)} (hP:P.follows .mixedOrders=true) (hcov:FQ P r U os=true) {s:S} {K:S->Prop}
  (h:∀ σ∈os,∃ s',B8 P r σ s s'/\∀ β a w,Sim E β s' a w->∃ β' t,K t/\Sim E β' t a w):uK P E (.region id r true) s fun e s'=>e=.normal/\K s':=by
 intro β a w hs Q hQ
 refine wp_region_draw fun t=>?_
 simp only [Region.schedule,hP,RC,if_true]
 simp only [FQ,P7] at hcov
 obtain⟨⟨⟨hback,hU⟩,hperm⟩,hch⟩:=hcov
 have hd:=nT (r:=r) r.size t (Array.replicate r.size false)
 obtain⟨ex,hex,hbef⟩:=oV (Region.linearise .any r t) (U:=U) fun u hu=>by
  have:=Qh.1 hU u hu
  simpa using this
 have hsome:=Qh.1 hch ex hex
 rcases Bool.or_eq_true_iff.1 hsome with hbad|hsome
 ·exfalso
  obtain⟨u,hu,hbad⟩:=QK.1 hbad
  obtain⟨v,hv,hbad⟩:=QK.1 hbad
  simp only [P7,beq_iff_eq,bne_iff_ne,ne_eq,decide_eq_true_eq] at hbad
  obtain⟨h1,h2,h3,h4,h5,h6⟩:=hbad
  have b1:=hbef u.1 u.2 (by rw [Rc];exact hu)
  have b2:=hbef v.1 v.2 (by rw [Rc];exact hv)
  rw [h1] at b2
  unfold DZ at h5
  split at h5
  ·rename_i o ho
   obtain⟨e,he,he2⟩:=QK.1 h5
   simp only [P7,beq_iff_eq] at he2
   have b3:=ko hback hd ho he he2.1 he2.2 zP (by simp [Qd,h6])
   exact qk h4 h3 h2 b1 b3 b2
  cases h5
 obtain⟨σ,hσ,hok⟩:=QK.1 hsome
 have hp:=Qh.1 hperm σ hσ
 simp only [P7,beq_iff_eq,Qh,QT,decide_eq_true_eq] at hp
 obtain⟨⟨hlen,hall⟩,hlt⟩:=hp
 obtain⟨s',hrun,hK⟩:=h σ hσ
 have hs2:Sim E β s a { w with drawn:=w.drawn+1 }:=⟨hs.dfr,hs.sl,⟨hs.hp.len,hs.hp.ob,hs.hp.flat,hs.hp.apart⟩,hs.ent,⟨hs.st.le,hs.st.os,hs.st.tape,hs.st.output,hs.st.size,hs.st.block,hs.st.len,hs.st.old,hs.st.fresh⟩⟩
 refine mC hback (fun β' a' w' hs'=>let⟨β2,t2,hk2,hs2⟩:=hK β' a' w' hs';hQ .normal t2 β2 a' w' ⟨rfl,hk2⟩ hs2) (Region.linearise .any r t) r.size _ σ s β a _ hd zP zO (fun i=>?_) (fun i o ho hl=>?_) hok (fun p q hpq _ _=>hbef p q hpq) hrun hs2
 ·constructor
  ·intro hi
   refine⟨hlt i hi,?_⟩
   simp [Qd,hlt i hi]
  rintro⟨hi,_⟩
  simpa using hall i hi
 exfalso
 simp only [Qd,Q6] at hl
 split at hl<;>cases hl
theorem aB {P:Program} {E:Entry} {F:S->Prop} {id:Nat} {r:Array Oper} {k:List gz} {s:S} {c:Prop} (U:List (Nat×Nat)) (os:List (List Nat)) (hP:P.follows .mixedOrders=true) (hc:c) (hcov:FQ P r U os=true)
  (h:aM (fun σ=>tT P r (fun s'=>iA P E F (.go k s' True)) (.go σ s True)) os):iA P E F (.draw id r k s c):=by
 refine⟨hc,iR (Ij hP hcov (K:=fun s'=>iA P E F (.go k s' True)) fun σ hσ=>let⟨s',h1,h2⟩:=(l8 h σ hσ).2;⟨s',h1,fun β a w hs=>⟨β,s',h2,hs⟩⟩) fun e s' hk=>?_⟩
 obtain⟨rfl,hk⟩:=hk
 exact hk.2
def Hd (N:Nat):Nat->cO->Hp->Bool
 |i,[],_=>decide (N<=i)
 |i,x::ρ,h=>(match decide (i < N) with
  |true=>x == some (i,none)
  |false=>match x with
   |none=>true
   |some (n,d)=>decide (N<=n) || (d.isNone && match h with
    |some t::_=>t.own
    |_=>true)) && Hd N (i+1) ρ h.tail
theorem JV {N:Nat}:∀ {ρ:cO} {i:Nat} {h:Hp},Hd N i ρ h=true->(∀ j,i+j < N->ρ[j]? =some (some (i+j,none)))/\
  (∀ j n d t,N<=i+j->ρ[j]? =some (some (n,d))->h[j]? =some (some t)->N<=n\/d=none/\t.own=true)/\N<=i+ρ.length
 |[],i,h,hh=>by
  simp only [Hd,decide_eq_true_eq] at hh
  exact⟨fun j hj=>by omega,fun j n d t _ hr=>by simp at hr,by simpa using hh⟩
 |x::ρ,i,h,hh=>by
  unfold Hd at hh
  rw [P7] at hh
  obtain⟨h1,h2⟩:=hh
  obtain⟨a1,a2,a3⟩:=JV h2
  refine⟨fun j hj=>?_,fun j n d t hj hr ht=>?_,by simp only [QW];omega⟩
  ·cases j with
   |zero=>
    rw [decide_eq_true zO] at h1
    dsimp only at h1
    rw [beq_iff_eq] at h1
    simp [h1]
   |succ j=>
    rw [Qe,a1 j zO]
    simp only [zXi,Prod.mk.injEq,and_true]
    omega
  cases j with
  |zero=>
   rw [decide_eq_false zO] at h1
   simp only [Qi,zXi] at hr
   subst hr
   cases h with
   |nil=>simp at ht
   |cons y h=>
    simp only [Qi,zXi] at ht
    subst ht
    simp only [Qt,decide_eq_true_eq,P7,Option.isNone_iff_eq_none] at h1
    exact h1
  |succ j=>
   rw [Qe] at hr
   refine a2 j n d t zO hr ?_
   cases h with
   |nil=>simp at ht
   |cons y h=>simpa using ht
def kl (ρ:cO) (n0:Nat) (t s:S):Prop:=Hd n0 0 ρ t.hp=true/\e9 ρ t.hp=true/\Fv ρ t.sl s.sl/\lY ρ s.hp ρ t.hp
theorem ae {ρ:cO} {n0:Nat} {t s:S} (h1:Hd n0 0 ρ t.hp=true) (h2:e9 ρ t.hp=true) (h:Fv ρ t.sl s.sl/\lY ρ s.hp ρ t.hp):kl ρ n0 t s:=⟨h1,h2,h.1,h.2⟩
theorem AQ {E:Entry} {n0:Nat} (hE:E.h.length=n0) {ρ:cO} {t s:S} (h:kl ρ n0 t s) {β:Be} {a:Act} {w:World} (hs:Sim E β s a w):Sim E (fZ β ρ) t a w:=by
 obtain⟨hid,hsep,hsl,hhp⟩:=h
 obtain⟨hlo,hhi,hle⟩:=JV hid
 simp only [Qn] at hlo hhi hle
 have hlen:=jr hhp
 have hl0:n0<=t.hp.length:=zO
 refine⟨hs.dfr,B1 hsl hs.sl,B0 hs.hp hhp hsep,hs.ent,?_⟩
 have st:=hs.st
 refine⟨fun o p hp=>?_,st.os,st.tape,st.output,st.size,st.block,by rw [hE];exact hl0,fun o ob hlt ho=>?_,fun o ob p hge ho hp=>?_⟩
 ·have hlt:o < n0:=by rw [<-hE,<-hs.ent];exact (zG.1 hp).1
  have h1:=hlo o hlt
  rw [bY β h1]
  dsimp only
  rw [zk,st.le o p hp]
  rfl
 ·rw [hE] at hlt
  have h1:=hlo o hlt
  rcases gU hhp ho with⟨hr,_⟩|⟨n,d,ob',hr,hn,hob⟩
  ·rw [h1] at hr;cases hr
  rw [h1] at hr
  simp only [zXi,Prod.mk.injEq] at hr
  obtain⟨rfl,rfl⟩:=hr
  obtain⟨ob0,ho0,hown0⟩:=st.old o ob' (by rw [hE];exact hlt) hn
  exact⟨ob0,ho0,fun h=>hown0 (mz hob h).2⟩
 rw [hE] at hge
 rcases gU hhp ho with⟨hr,_⟩|⟨n,d,ob',hr,hn,hob⟩
 ·rw [bY β hr] at hp;cases hp
 have hge':=hhi o n d ob hge hr ho
 have fin:∀ q:Pl,β[n]? =some (some q)->q.blk=p.blk->Own E.β E.h p.blk\/E.w.heap.size<=p.blk:=by
  intro q hq hb
  rcases hge' with hN|⟨hd,hown⟩
  ·have:=st.fresh n ob' q (by rw [hE];omega) hn hq
   rw [hb] at this
   exact this
  rcases Qs n n0 with hlt|hge2
  ·obtain⟨ob0,ho0,hown0⟩:=st.old n ob' (by rw [hE];exact hlt) hn
   have hlt':n < E.β.length:=by rw [hs.ent,hE];exact hlt
   have hβ:=st.le n E.β[n] (P_ hlt')
   rw [hq] at hβ
   refine .inl ⟨n,ob0,q,ho0,hown0 (mz hob hown).2,?_,hb⟩
   rw [P_ hlt',<-Option.some.inj hβ]
  have:=st.fresh n ob' q (by rw [hE];omega) hn hq
  rw [hb] at this
  exact this
 rw [bY β hr] at hp
 cases d with
 |none=>
  simp only [zXi] at hp
  rw [zk] at hp
  have hb:β[n]? =some (some p):=by
   cases h:β[n]? with
   |none=>rw [h] at hp;cases hp
   |some z=>rw [h] at hp;simp only [Qa] at hp;rw [hp]
  exact fin p hb rfl
 |some d=>
  simp only [zXi] at hp
  rw [zk] at hp
  cases h:β[n]? with
  |none=>rw [h] at hp;cases hp
  |some z=>
   rw [h] at hp
   simp only [Qa] at hp
   cases z with
   |none=>cases hp
   |some q=>
    simp only [Qr,zXi] at hp
    exact fin q h (by rw [<-hp])
theorem tW {P:Program} {E:Entry} {n0:Nat} (hE:E.h.length=n0) {ρ:cO} {t s:S} (h:kl ρ n0 t s) {C:Code} {K:Exit->S->Prop} (hd:uK P E C t K):uK P E C s K:=
 fun β a w hs Q hQ=>hd _ a w (AQ hE h hs) Q hQ
theorem gV {P:Program} {E:Entry} {F:S->Prop} {b:Code} {k:List gz} {s:S} {c:Prop} {ι:Type} (n0:Nat) (hE:E.h.length=n0) (mk:S->ι->S) (J:ι->Prop) (μ:ι->Nat) (i0:ι) (ρ0:cO) (hc:c) (hJ:J i0) (h0:kl ρ0 n0 (mk s i0) s)
  (h:∀ i,J i->∀ N:S->Prop,(∀ (s':S) (j:ι) (ρ:cO),J j->μ j < μ i->kl ρ n0 (mk s j) s'->N s')->iA P E F (.go (.code b::.hook N::k) (mk s i) True)):iA P E F (.lp b k s c):=by
 refine⟨hc,DN (fun _=>True) (fun s' n=>∃ i ρ,J i/\kl ρ n0 (mk s i) s'/\μ i=n) (μ i0) ⟨trivial,i0,ρ0,hJ,h0,rfl⟩ fun s' n _ ⟨i,ρ,hi,hw,hn⟩=>?_⟩
 have hd:=(h i hi (fun s''=>∃ j ρ,J j/\μ j < μ i/\kl ρ n0 (mk s j) s'') fun s'' j ρ' hj hlt hw'=>⟨j,ρ',hj,hlt,hw'⟩).2
 refine tW hE hw (iR hd fun e s'' hk=>?_)
 cases e with
 |normal=>
  obtain⟨j,ρ',hj,hlt,hw'⟩:=hk
  exact⟨trivial,μ j,zO,j,ρ',hj,hw',rfl⟩
 |_=>exact hk
def Iq (P:Program) (rs:List ResultVar) (n0:Nat) (res:AV) (h':Hp) (s:S):Prop:=
 ∃ v ρ,rG P s rs=some v/\Hd n0 0 ρ h'=true/\e9 ρ h'=true/\Fu ρ res v/\lY ρ s.hp ρ h'
theorem aO {P:Program} {E:Entry} {rs:List ResultVar} {n0:Nat} {res:AV} {h':Hp} {s:S} {c:Prop} (ρ:cO) (hc:c) (v:AV) (hr:rG P s rs=some v) (hid:Hd n0 0 ρ h'=true) (hsep:e9 ρ h'=true) (hm:Fu ρ res v/\lY ρ s.hp ρ h'):
  iA P E (Iq P rs n0 res h') (.fin s c):=⟨hc,v,ρ,hr,hid,hsep,hm.1,hm.2⟩
theorem aV {P:Program} {f:FuncId} {fn:Func} {c:Code} (hf:P.funcs[f]? =some fn) (hname:(fn.name == "runtime.NumGoroutine")=false) (hb:fn.body=some c) {args:List AV} {h h':Hp} {res:AV}
  (H:∀ E:Entry,E.h.length=h.length->iA P E (Iq P fn.results.toList h.length res h') (.go [.code c] ⟨nR fn.ntmps args,h⟩ True)):ic P f args h res h':=by
 refine⟨⟨fn,hf,hname,by rw [hb];rfl⟩,fun β w vs hs hvs=>?_⟩
 refine calls_of_wp hf hb ?_
 let E:Entry:=⟨β,h,w⟩
 have hd:=(H E rfl).2
 refine hd β _ w ⟨rfl,wg hvs,hs,hs.len,StepR.refl β h w hs.len⟩ _ fun e s' β' a' w' hK hs'=>?_
 have key:Iq P fn.results.toList h.length res h' s'->a'.defers=[]/\∃ v,(results fn a'.tmps).run P w'=.ok v w'/\∃ β'' u,Ending.returned v=.returned u/\iq β'' res u/\HSim β'' h' w'/\StepR β β'' h h' w w':=by
  intro⟨v,ρ,hr,hid,hsep,hav,hhp⟩
  obtain⟨u,hrun,hu⟩:=B6 hs'.hp hs'.sl hr
  have hsim:=AQ (E:=E) rfl (t:=⟨[],h'⟩) (s:=⟨[],s'.hp⟩) ⟨hid,hsep,trivial,hhp⟩ (β:=β') (a:=a') (w:=w') ⟨hs'.dfr,⟨fun i hi=>by simp [Slots.has] at hi,fun i x hx=>by simp [Slots.get] at hx⟩,hs'.hp,hs'.ent,hs'.st⟩
  exact⟨hs'.dfr,u,hrun,fZ β' ρ,u,rfl,AD hav hu,hsim.hp,hsim.st⟩
 cases e with
 |normal=>exact key hK
 |ret=>exact key hK
 |_=>exact hK.elim
end
end Go.Proofs.YtdiiopjaebnmfaaGreatDoor
