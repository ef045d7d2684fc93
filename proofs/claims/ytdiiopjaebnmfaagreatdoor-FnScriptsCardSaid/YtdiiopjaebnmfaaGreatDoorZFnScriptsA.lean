/- Lemmas of this claim. -/
import Derived.Tactics
import Derived.Below
import Derived.Laws.AppendOwn
import Derived.Laws.OwnMore
import Derived.Laws.Slices
import Derived.Laws.Small
import Derived.Laws.Strings
import Derived.KernelRfl
import Derived.Laws.MakeOwn
import Derived.Laws.BytesString
import Derived.Laws.BytesArg
import Derived.Laws.Build
import Derived.Laws.Concat
import Derived.Laws.StructEq
import Derived.Lib.ConvBytes
import Derived.Orders
import Derived.WalkKit
import Derived.ProofKit
import Derived.ShutString
import Derived.OpenShut
import Derived.ChangeOld
import Derived.Carry
import Derived.Test.YtdiiopjaebnmfaaGreatDoorChecked
import Derived.Laws.BitsLemmas
import Derived.StillTail
import Derived.Test.YtdiiopjaebnmfaaGreatDoorRows
import Derived.Test.YtdiiopjaebnmfaaGreatDoorCards
import Derived.Test.YtdiiopjaebnmfaaGreatDoorTie
import Derived.ChangeVars
import Derived.LaidMore
import Derived.Lay
import Derived.SevenTiedAt
import Derived.Stop.Joined
set_option maxHeartbeats 16000000
set_option maxRecDepth 100000
set_option linter.unusedVariables false
set_option linter.unusedSimpArgs false
namespace Go.Proofs.YtdiiopjaebnmfaaGreatDoor
open _root_.Go.Proofs.Tryz
open _root_.List renaming getElem?_eq_some_iff->Ru,getElem?_append_left->Rx,getElem?_eq_getElem->Ry,getElem?_append_right->Rz,getElem?_eq_none->RA,getD_eq_getElem?_getD->RE,getElem?_set->RF,getElem?_take_of_lt->RI,mem_of_getElem?->RM,mem_or_eq_of_mem_set->RP,getElem?_drop->RR,eq_of_mem_replicate->RS,getElem?_cons_zero->RT,getElem?_map->RU,getElem?_replicate_of_lt->RZ,drop_eq_nil_of_le->R5,mem_iff_getElem?->R6,getElem?_toArray->R7,mem_of_mem_take->R8,mem_of_mem_drop->R9,getElem?_range->R_,zipIdx_cons->Sf,all_eq_true->Sg,mem_cons->Sh,map_cons->Si,mem_map->Sk
open _root_.Go.Result renaming andThen_ok->Rv
open _root_.Go.Sem renaming run_bind->Rw,run_pure->RB
open _root_.Bool renaming and_eq_true->RC,not_eq_true'->Se
open _root_.Nat renaming mul_le_mul_right->RD,le_refl->RG,add_mul->RL,add_assoc->RW,zero_add->RX,add_zero->RY,lt_trichotomy->R0,zero_le->R4,le_trans->Sa,lt_or_gt_of_ne->Sd,lt_or_ge->Sj
open _root_.Array renaming getElem?_toList->RH,getElem?_setIfInBounds_ne->RJ,eq_empty_of_size_eq_zero->RK,getElem?_eq_some_iff->RO,getElem?_map->Sb
open _root_.Option renaming isSome_iff_exists->RQ,map_eq_some_iff->RV,getD_some->R1,bind_eq_some_iff->R2,map_some->R3
section
open Go.RowKit
theorem zO {p:Prop} (h:p:=by omega):p:=h
theorem zF {p:Prop} (h:p:=by rfl):p:=h
theorem zP {p:Prop} (h:p:=by simp):p:=h
theorem zD {p:Prop} (h:p:=by decide):p:=h
theorem zS {p:Prop} (h:p:=by simp;omega):p:=h
theorem zQ:(∀ {p:Prop} [Decidable p],(decide p=true)=p)/\(∀ {p:Prop} [Decidable p],decide p=false↔ ¬p)/\(∀ {α:Type} [BEq α] [LawfulBEq α] {a b:α},(a==b)=true↔a=b)/\(∀ {α:Type} [BEq α] [LawfulBEq α] {a b:α},(a==b)=false↔a≠b)/\(∀ {α:Type} [BEq α] [LawfulBEq α] {a b:α},(a != b)=true↔a≠b)/\(∀ {α:Type} [BEq α] [LawfulBEq α] {a b:α},(a != b)=false↔a=b)/\(∀ {α:Type} (a b:α),(a≠b)=¬(a=b))/\(∀ {p:Prop} [Decidable p],¬¬p↔p)/\(∀ (a b:Bool),((a&&b)=true)=(a=true/\b=true))/\(∀ {x y:Bool},(x&&y)=false↔x=false\/y=false)/\(∀ (a b:Bool),((a||b)=true)=(a=true\/b=true))/\(∀ {x y:Bool},(x||y)=false↔x=false/\y=false)/\(∀ {n m:Nat},(n:Int)<(m:Int)↔n<m)/\(∀ {m n:Nat},(m:Int)<=(n:Int)↔m<=n)/\(∀ {a b:Bool},(!a)=b↔a= !b)/\((!true)=false)/\((!false)=true):=⟨decide_eq_true_eq,decide_eq_false_iff_not,beq_iff_eq,beq_eq_false_iff_ne,bne_iff_ne,bne_eq_false_iff_eq,ne_eq,Decidable.not_not,RC,Bool.and_eq_false_iff,Bool.or_eq_true,Bool.or_eq_false_iff,Int.ofNat_lt,Int.ofNat_le,Bool.not_eq_eq_eq_not,Bool.not_true,Bool.not_false⟩
theorem zR:(∀ (b:Bool),(b==true)=b)/\(∀ (b:Bool),(b==false)= !b)/\(∀ (b:Bool),((!b)=true)=(b=false))/\(∀ (b:Bool),((!b)=false)=(b=true)):=⟨beq_true,beq_false,Se,Bool.not_eq_false'⟩
def L2 {α β:Type} (R:α->β->Prop):List α->List β->Prop
 |[],[]=>True
 |a::l,b::m=>R a b/\L2 R l m
 |_,_=>False
theorem L2.length {α β:Type} {R:α->β->Prop}:∀ {l:List α} {m:List β},L2 R l m->l.length=m.length
 |[],[],_=>rfl
 |_::_,_::_,h=>by simp [L2.length h.2]
 |[],_::_,h=>h.elim
 |_::_,[],h=>h.elim
theorem L2.get {α β:Type} {R:α->β->Prop}:∀ {l:List α} {m:List β},L2 R l m->∀ {i:Nat} {x:α},l[i]? =some x->∃ y,m[i]? =some y/\R x y
 |[],[],_,i,x,h=>by simp at h
 |a::l,b::m,h,0,x,hx=>by simp at hx;subst hx;exact⟨b,zP,h.1⟩
 |a::l,b::m,h,i+1,x,hx=>by simp at hx;obtain⟨y,hy,hr⟩:=L2.get h.2 hx;exact⟨y,by simpa using hy,hr⟩
 |[],_::_,h,_,_,_=>h.elim
 |_::_,[],h,_,_,_=>h.elim
theorem L2.mono {α β:Type} {R S:α->β->Prop} (hrs:∀ a b,R a b->S a b):∀ {l:List α} {m:List β},L2 R l m->L2 S l m
 |[],[],_=>trivial
 |_::_,_::_,h=>⟨hrs _ _ h.1,L2.mono hrs h.2⟩
 |[],_::_,h=>h.elim
 |_::_,[],h=>h.elim
theorem L2.of_get {α β:Type} {R:α->β->Prop}:∀ {l:List α} {m:List β},l.length=m.length->(∀ (i:Nat) (x:α) (y:β),l[i]? =some x->m[i]? =some y->R x y)->L2 R l m
 |[],[],_,_=>trivial
 |a::l,b::m,hl,h=>⟨h 0 a b zP zP,L2.of_get (by simpa using hl) (fun i x y hx hy=>h (i+1) x y (by simpa using hx) (by simpa using hy))⟩
 |[],_::_,hl,_=>by simp at hl
 |_::_,[],hl,_=>by simp at hl
theorem L2.append {α β:Type} {R:α->β->Prop}:∀ {l:List α} {m:List β} {l':List α} {m':List β},L2 R l m->L2 R l' m'->L2 R (l++l') (m++m')
 |[],[],_,_,_,h=>h
 |_::_,_::_,_,_,h,h'=>⟨h.1,L2.append h.2 h'⟩
 |[],_::_,_,_,h,_=>h.elim
 |_::_,[],_,_,h,_=>h.elim
theorem L2.take {α β:Type} {R:α->β->Prop}:∀ {l:List α} {m:List β} (n:Nat),L2 R l m->L2 R (l.take n) (m.take n)
 |_,_,0,_=>by simp [L2]
 |[],[],_+1,_=>by simp [L2]
 |_::_,_::_,n+1,h=>⟨h.1,L2.take n h.2⟩
 |[],_::_,_,h=>h.elim
 |_::_,[],_,h=>h.elim
theorem L2.drop {α β:Type} {R:α->β->Prop}:∀ {l:List α} {m:List β} (n:Nat),L2 R l m->L2 R (l.drop n) (m.drop n)
 |_,_,0,h=>by simpa using h
 |[],[],_+1,_=>by simp [L2]
 |_::_,_::_,n+1,h=>by simpa using L2.drop n h.2
 |[],_::_,_,h=>h.elim
 |_::_,[],_,h=>h.elim
theorem L2.map {α β γ:Type} {R:α->β->Prop} {S:γ->β->Prop} {f:α->γ} (hf:∀ a b,R a b->S (f a) b):∀ {l:List α} {m:List β},L2 R l m->L2 S (l.map f) m
 |[],[],_=>trivial
 |_::_,_::_,h=>⟨hf _ _ h.1,L2.map hf h.2⟩
 |[],_::_,h=>h.elim
 |_::_,[],h=>h.elim
inductive Sc where
 |int (k:IntKind) (n:Int)
 |bo (b:Bool)
 |st (l:List UInt8)
 |nil
 |sl (o off len:Nat)
 |pt (o k j:Nat)
 |un
inductive Co where
 |sc (s:Sc)
 |ag (cs:List Sc)
inductive AV where
 |sc (s:Sc)
 |ag (cs:List Sc)
 |tu (l:List Co)
 |cl (f:Nat) (caps:List Sc)
def Co.av:Co->AV
 | .sc s=>.sc s
 | .ag cs=>.ag cs
def AV.cells:AV->Option (List Sc)
 | .sc s=>some [s]
 | .ag cs=>some cs
 |_=>none
structure Pl where
 blk:Nat
 base:Nat
 esz:Nat
 avail:Nat
abbrev Be:=List (Option Pl)
def ScR (β:Be):Sc->Value->Prop
 | .int k n,v=>v=.int k n
 | .bo b,v=>v=.bool b
 | .st l,v=>v=.string ⟨l.toArray⟩
 | .nil,v=>∃ a,v=.slice a 0 0
 | .sl o off len,v=>∃ a cap,v=.slice a len cap/\len<=cap/\cap<=maxLen/\
   (cap=0\/∃ p,β[o]? =some (some p)/\a=some ⟨p.blk,p.base+off*p.esz,none⟩/\(off+cap)*p.esz<=p.avail)
 | .pt o k j,v=>∃ p,β[o]? =some (some p)/\v=.pointer (some ⟨p.blk,p.base+k*p.esz+j,none⟩)
 | .un,v=>∃ p,v=.pointer p
def DR (β:Be):Co->Value->Prop
 | .sc s,v=>ScR β s v
 | .ag cs,v=>∃ vs:List Value,v=.agg vs.toArray/\L2 (ScR β) cs vs
def f9 (β:Be):AV->Value->Prop
 | .sc s,v=>ScR β s v
 | .ag cs,v=>∃ vs:List Value,v=.agg vs.toArray/\L2 (ScR β) cs vs
 | .tu l,v=>∃ vs:List Value,v=.tuple vs.toArray/\L2 (DR β) l vs
 | .cl f caps,v=>∃ vs:List Value,v=.func (.func f) #[] vs.toArray/\L2 (ScR β) caps vs
def Be.le (β β':Be):Prop:=∀ (o:Nat) (p:Option Pl),β[o]? =some p->β'[o]? =some p
theorem Be.le.refl (β:Be):Be.le β β:=fun _ _ h=>h
theorem Be.le.trans {a b c:Be} (h:Be.le a b) (k:Be.le b c):Be.le a c:=fun o p hp=>k o p (h o p hp)
theorem Be.le_append (β l:Be):Be.le β (β++l):=fun o p h=>by
 have hlt:o < β.length:=(Ru.1 h).1
 rw [Rx hlt];exact h
theorem ScR.mono {β β':Be} (h:Be.le β β'):∀ {s:Sc} {v:Value},ScR β s v->ScR β' s v
 | .int ..,_,hv=>hv
 | .bo ..,_,hv=>hv
 | .st ..,_,hv=>hv
 | .nil,_,hv=>hv
 | .un,_,hv=>hv
 | .sl ..,_,⟨a,cap,hv,h1,h2,h3⟩=>⟨a,cap,hv,h1,h2,h3.imp id fun⟨p,hp,r⟩=>⟨p,h _ _ hp,r⟩⟩
 | .pt ..,_,⟨p,hp,hv⟩=>⟨p,h _ _ hp,hv⟩
theorem DR.mono {β β':Be} (h:Be.le β β'):∀ {s:Co} {v:Value},DR β s v->DR β' s v
 | .sc _,_,hv=>ScR.mono h hv
 | .ag _,_,⟨vs,hv,hl⟩=>⟨vs,hv,hl.mono fun _ _=>ScR.mono h⟩
theorem f9.mono {β β':Be} (h:Be.le β β'):∀ {s:AV} {v:Value},f9 β s v->f9 β' s v
 | .sc _,_,hv=>ScR.mono h hv
 | .ag _,_,⟨vs,hv,hl⟩=>⟨vs,hv,hl.mono fun _ _=>ScR.mono h⟩
 | .tu _,_,⟨vs,hv,hl⟩=>⟨vs,hv,hl.mono fun _ _=>DR.mono h⟩
 | .cl ..,_,⟨vs,hv,hl⟩=>⟨vs,hv,hl.mono fun _ _=>ScR.mono h⟩
theorem Co.av_R {β:Be} {c:Co} {v:Value} (h:DR β c v):f9 β c.av v:=by cases c<;>exact h
theorem ScR.one {β:Be} {s:Sc} {v:Value} (h:ScR β s v):v.oneCell'=true:=by
 cases s with
 |int k n=>subst h;rfl
 |bo b=>subst h;rfl
 |st l=>subst h;rfl
 |nil=>obtain⟨a,rfl⟩:=h;rfl
 |sl o off len=>obtain⟨a,cap,rfl,_⟩:=h;rfl
 |pt o k j=>obtain⟨p,_,rfl⟩:=h;rfl
 |un=>obtain⟨p,rfl⟩:=h;rfl
theorem ScR.cells {β:Be} {s:Sc} {v:Value} (h:ScR β s v):v.cells= #[v]:=by
 cases s with
 |int k n=>subst h;rfl
 |bo b=>subst h;rfl
 |st l=>subst h;rfl
 |nil=>obtain⟨a,rfl⟩:=h;rfl
 |sl o off len=>obtain⟨a,cap,rfl,_⟩:=h;rfl
 |pt o k j=>obtain⟨p,_,rfl⟩:=h;rfl
 |un=>obtain⟨p,rfl⟩:=h;rfl
theorem f9.cells {β:Be} {x:AV} {cs:List Sc} {v:Value} (hc:x.cells=some cs) (h:f9 β x v):∃ vs:List Value,v.cells=vs.toArray/\L2 (ScR β) cs vs:=by
 cases x with
 |sc s=>
  simp only [AV.cells,Option.some.injEq] at hc
  subst hc
  exact⟨[v],by rw [ScR.cells h],⟨h,trivial⟩⟩
 |ag l=>
  simp only [AV.cells,Option.some.injEq] at hc
  subst hc
  obtain⟨vs,rfl,hl⟩:=h
  exact⟨vs,rfl,hl⟩
 |tu l=>simp [AV.cells] at hc
 |cl f l=>simp [AV.cells] at hc
theorem L2.one {β:Be} {cs:List Sc} {vs:List Value} (h:L2 (ScR β) cs vs):∀ v∈vs,v.oneCell'=true:=by
 induction cs generalizing vs with
 |nil=>cases vs with
  |nil=>simp
  |cons=>exact h.elim
 |cons s l ih=>cases vs with
  |nil=>simp
  |cons v m=>
   intro x hx
   rcases Sh.1 hx with rfl|hx
   ·exact h.1.one
   exact ih h.2 x hx
structure AObj where
 cs:List (List Sc)
 esz:Nat
 ty:TypeId
 own:Bool
 fl:Bool
def Sc.isFlat:Sc->Bool
 | .int .. | .bo _| .st _=>true
 |_=>false
def jp:List Sc->Bool
 |[]=>true
 |s::l=>s.isFlat && jp l
def FlatL (cs:List (List Sc)):Prop:=∀ c∈cs,jp c=true
abbrev Hp:=List (Option AObj)
def dT (β:Be) (arr:Array Value) (base esz:Nat) (cs:List (List Sc)):Prop:=
 ∀ k c,cs[k]? =some c->c.length=esz/\∀ j s,c[j]? =some s->∃ v,arr[base+k*esz+j]? =some v/\ScR β s v
def ObR (β:Be) (w:World) (p:Option Pl) (ob:AObj):Prop:=
 match p with
 |none=>ob.cs=[]
 |some p=>p.esz=ob.esz/\∃ arr T fz,w.heap[p.blk]? =some (.cells arr T fz)/\dT β arr p.base ob.esz ob.cs/\
   (ob.own=true->T=ob.ty/\fz=(0,0)/\p.base=0/\p.avail=arr.size)
structure HSim (β:Be) (h:Hp) (w:World):Prop where
 len:β.length=h.length
 ob:∀ (o:Nat) (ob:AObj),h[o]? =some (some ob)->∃ p,β[o]? =some p/\ObR β w p ob
 flat:∀ (o:Nat) (ob:AObj),h[o]? =some (some ob)->ob.fl=true->FlatL ob.cs
 apart:∀ (o o':Nat) (ob ob':AObj) (p p':Pl),h[o]? =some (some ob)->h[o']? =some (some ob')->ob.own=true->β[o]? =some (some p)->β[o']? =some (some p')->o≠o'->p.blk≠p'.blk
theorem dT.mono {β β':Be} (h:Be.le β β') {arr:Array Value} {base esz:Nat} {cs:List (List Sc)} (hc:dT β arr base esz cs):dT β' arr base esz cs:=
 fun k c hk=>⟨(hc k c hk).1,fun j s hs=>let⟨v,hv,hr⟩:=(hc k c hk).2 j s hs;⟨v,hv,hr.mono h⟩⟩
theorem ObR.mono {β β':Be} (h:Be.le β β') {w:World} {p:Option Pl} {ob:AObj} (ho:ObR β w p ob):ObR β' w p ob:=by
 cases p with
 |none=>exact ho
 |some p=>obtain⟨h1,arr,T,fz,h2,h3,h4⟩:=ho;exact⟨h1,arr,T,fz,h2,h3.mono h,h4⟩
theorem ObR.world {β:Be} {w w':World} {p:Option Pl} {ob:AObj} (ho:ObR β w p ob) (hw:∀ q,p=some q->w'.heap[q.blk]? =w.heap[q.blk]?):ObR β w' p ob:=by
 cases p with
 |none=>exact ho
 |some p=>obtain⟨h1,arr,T,fz,h2,h3,h4⟩:=ho;exact⟨h1,arr,T,fz,(hw p rfl).trans h2,h3,h4⟩
theorem ObR.lt {β:Be} {w:World} {p:Pl} {ob:AObj} (ho:ObR β w (some p) ob):p.blk < w.heap.size:=by
 obtain⟨_,arr,T,fz,h2,_⟩:=ho
 exact (RO.1 h2).1
theorem DS {β:Be} {h:Hp} {w w':World} (hs:HSim β h w) (hw:∀ k,k < w.heap.size->w'.heap[k]? =w.heap[k]?):HSim β h w':=
 ⟨hs.len,fun o ob ho=>let⟨p,hp,hr⟩:=hs.ob o ob ho;⟨p,hp,hr.world fun q hq=>by subst hq;exact hw _ hr.lt⟩,hs.flat,hs.apart⟩
theorem ot {β:Be} {h:Hp} {w w':World} (hs:HSim β h w) (hw:∀ k,k < w.heap.size->w'.heap[k]? =w.heap[k]?) {ob:AObj} {p:Pl} (hp:w.heap.size<=p.blk)
  (hob:ObR (β++[some p]) w' (some p) ob) (hfl:ob.fl=true->FlatL ob.cs):HSim (β++[some p]) (h++[some ob]) w':=by
 have hs':=DS hs hw
 have hle:=Be.le_append β [some p]
 have key:∀ {o:Nat} {x:AObj},(h++[some ob])[o]? =some (some x)->(o < h.length/\h[o]? =some (some x))\/(o=h.length/\x=ob):=by
  intro o x hx
  rcases R0 o h.length with hlt|he|hgt
  ·rw [Rx hlt] at hx;exact .inl ⟨hlt,hx⟩
  ·subst he;simp at hx;exact .inr ⟨rfl,hx.symm⟩
  rw [Rz zO] at hx
  rw [RA zS] at hx
  cases hx
 have kb:∀ {o:Nat} {q:Option Pl},o < h.length->(β++[some p])[o]? =some q->β[o]? =some q:=by
  intro o q ho hq
  rwa [Rx (by rw [hs.len];exact ho)] at hq
 have kn:(β++[some p])[h.length]? =some (some p):=by rw [<-hs.len];simp
 have lt:∀ {o:Nat} {x:AObj} {q:Pl},h[o]? =some (some x)->β[o]? =some (some q)->q.blk < w.heap.size:=by
  intro o x q hx hq
  obtain⟨p',hp',hr⟩:=hs.ob o x hx
  rw [hq] at hp'
  cases hp'
  exact hr.lt
 refine⟨by simp [hs.len],fun o x hx=>?_,fun o x hx hf=>by rcases key hx with⟨_,hx⟩|⟨_,rfl⟩;exact hs.flat o x hx hf;exact hfl hf,fun o o' x x' q q' hx hx' hown hq hq' hne=>?_⟩
 ·rcases key hx with⟨hlt,hx⟩|⟨rfl,rfl⟩
  ·obtain⟨q,hq,hr⟩:=hs'.ob o x hx
   exact⟨q,hle _ _ hq,hr.mono hle⟩
  exact⟨some p,kn,hob⟩
 rcases key hx with⟨hlt,h1⟩|⟨rfl,rfl⟩
 ·rcases key hx' with⟨hlt',h1'⟩|⟨rfl,rfl⟩
  ·exact hs.apart o o' x x' q q' h1 h1' hown (kb hlt hq) (kb hlt' hq') hne
  rw [kn] at hq'
  simp only [Option.some.injEq] at hq'
  subst hq'
  have:=lt h1 (kb hlt hq)
  omega
 rw [kn] at hq
 simp only [Option.some.injEq] at hq
 subst hq
 rcases key hx' with⟨hlt',h1'⟩|⟨rfl,rfl⟩
 ·have:=lt h1' (kb hlt' hq')
  omega
 exact absurd rfl hne
theorem ya {β:Be} {h:Hp} {w:World} (hs:HSim β h w) {ob:AObj} (hob:ob.cs=[]):HSim (β++[none]) (h++[some ob]) w:=by
 have hle:=Be.le_append β [none]
 have key:∀ {o:Nat} {x:AObj},(h++[some ob])[o]? =some (some x)->(o < h.length/\h[o]? =some (some x))\/(o=h.length/\x=ob):=by
  intro o x hx
  rcases R0 o h.length with hlt|he|hgt
  ·rw [Rx hlt] at hx;exact .inl ⟨hlt,hx⟩
  ·subst he;simp at hx;exact .inr ⟨rfl,hx.symm⟩
  rw [Rz zO] at hx
  rw [RA zS] at hx
  cases hx
 have kb:∀ {o:Nat} {q:Option Pl},o < h.length->(β++[none])[o]? =some q->β[o]? =some q:=by
  intro o q ho hq
  rwa [Rx (by rw [hs.len];exact ho)] at hq
 have kn:(β++[none])[h.length]? =some none:=by rw [<-hs.len];simp
 refine⟨by simp [hs.len],fun o x hx=>?_,fun o x hx hf=>(by rcases key hx with⟨_,hx⟩|⟨_,rfl⟩;exact hs.flat o x hx hf;rw [hob];intro c hc;cases hc),fun o o' x x' q q' hx hx' hown hq hq' hne=>?_⟩
 ·rcases key hx with⟨hlt,hx⟩|⟨rfl,rfl⟩
  ·obtain⟨q,hq,hr⟩:=hs.ob o x hx
   exact⟨q,hle _ _ hq,hr.mono hle⟩
  exact⟨none,kn,hob⟩
 rcases key hx with⟨hlt,h1⟩|⟨rfl,rfl⟩
 ·rcases key hx' with⟨hlt',h1'⟩|⟨rfl,rfl⟩
  ·exact hs.apart o o' x x' q q' h1 h1' hown (kb hlt hq) (kb hlt' hq') hne
  rw [kn] at hq';cases hq'
 rw [kn] at hq;cases hq
theorem G8 {β:Be} {h:Hp} {w:World} (hs:HSim β h w) (n:Nat):HSim β (h.set n none) w:=by
 have key:∀ {o:Nat} {x:AObj},(h.set n none)[o]? =some (some x)->h[o]? =some (some x):=by
  intro o x hx
  rw [RF] at hx
  split at hx
  ·split at hx<;>cases hx
  exact hx
 exact⟨by simp [hs.len],fun o x hx=>hs.ob o x (key hx),fun o x hx=>hs.flat o x (key hx),fun o o' x x' q q' hx hx'=>hs.apart o o' x x' q q' (key hx) (key hx')⟩
abbrev Slots:=List (List (Option AV))
def Slots.get (s:Slots) (i:Nat):Option AV:=(s.getD (i / 16) []).getD (i % 16) none
def Slots.put (s:Slots) (i:Nat) (v:Option AV):Slots:=s.set (i / 16) ((s.getD (i / 16) []).set (i % 16) v)
def Slots.has (s:Slots) (i:Nat):Prop:=i % 16 < (s.getD (i / 16) []).length
theorem Slots.put_has (s:Slots) (d i:Nat) (v:Option AV):(s.put d v).has i↔s.has i:=by
 unfold Slots.has Slots.put
 simp only [RE,RF]
 by_cases he:d / 16=i / 16
 ·rw [if_pos he]
  by_cases hl:d / 16 < s.length
  ·simp [hl,<-he]
  have:s[i / 16]? =none:=RA zO
  simp [hl,this]
 rw [if_neg he]
theorem Slots.get_put (s:Slots) (d i:Nat) (v:Option AV):(s.put d v).get i=if i=d then (if d % 16 < (s.getD (d / 16) []).length then v else none) else s.get i:=by
 unfold Slots.get Slots.put
 simp only [RE,RF]
 by_cases he:d / 16=i / 16
 ·rw [if_pos he]
  by_cases hl:d / 16 < s.length
  ·simp only [hl,if_true,R1,RF]
   by_cases hm:d % 16=i % 16
   ·have hid:i=d:=zO
    subst hid
    simp only [if_true]
    split<;>simp
   have hid:¬ i=d:=zO
   simp [hm,hid,he]
  have h1:s[i / 16]? =none:=RA zO
  have h2:s[d / 16]? =none:=RA zO
  simp [hl,h1,h2]
 have hid:¬ i=d:=by intro e;subst e;exact he rfl
 rw [if_neg he,if_neg hid]
def SlotsR (β:Be) (s:Slots) (t:Array Value):Prop:=
 (∀ i,s.has i->i < t.size)/\∀ i v,s.get i=some v->∃ u,t[i]? =some u/\f9 β v u
theorem SlotsR.mono {β β':Be} (h:Be.le β β') {s:Slots} {t:Array Value} (hs:SlotsR β s t):SlotsR β' s t:=
 ⟨hs.1,fun i v hv=>let⟨u,hu,hr⟩:=hs.2 i v hv;⟨u,hu,hr.mono h⟩⟩
theorem SlotsR.put {β:Be} {s:Slots} {t:Array Value} (hs:SlotsR β s t) (d:Nat) {v:AV} {u:Value} (hv:f9 β v u):SlotsR β (s.put d (some v)) (t.setIfInBounds d u):=by
 refine⟨fun i hi=>by rw [Slots.put_has] at hi;simpa using hs.1 i hi,fun i x hx=>?_⟩
 rw [Slots.get_put] at hx
 by_cases hid:i=d
 ·subst hid
  simp only [if_true] at hx
  split at hx
  ·rename_i hl
   cases hx
   have hlt:=hs.1 i hl
   exact⟨u,by simp [hlt],hv⟩
  cases hx
 rw [if_neg hid] at hx
 obtain⟨y,hy,hr⟩:=hs.2 i x hx
 exact⟨y,by rw [RJ (Ne.symm hid)];exact hy,hr⟩
theorem SlotsR.putNone {β:Be} {s:Slots} {t:Array Value} (hs:SlotsR β s t) (d:Nat) (u:Value):SlotsR β (s.put d none) (t.setIfInBounds d u):=by
 refine⟨fun i hi=>by rw [Slots.put_has] at hi;simpa using hs.1 i hi,fun i x hx=>?_⟩
 rw [Slots.get_put] at hx
 by_cases hid:i=d
 ·subst hid
  simp only [if_true] at hx
  split at hx<;>cases hx
 rw [if_neg hid] at hx
 obtain⟨y,hy,hr⟩:=hs.2 i x hx
 exact⟨y,by rw [RJ (Ne.symm hid)];exact hy,hr⟩
structure S where
 sl:Slots
 hp:Hp
def S.put (s:S) (d:Option Nat) (v:Option AV) (h:Hp):S:=
 match d with
 |some d=>⟨s.sl.put d v,h⟩
 |none=>⟨s.sl,h⟩
def Own (β:Be) (h:Hp) (k:Nat):Prop:=∃ (o:Nat) (ob:AObj) (p:Pl),h[o]? =some (some ob)/\ob.own=true/\β[o]? =some (some p)/\p.blk=k
structure StepR (β β':Be) (h h':Hp) (w w':World):Prop where
 le:Be.le β β'
 os:w'.os=w.os
 tape:w'.tape=w.tape
 output:w'.output=w.output
 size:w.heap.size<=w'.heap.size
 block:∀ k,k < w.heap.size->¬ Own β h k->w'.heap[k]? =w.heap[k]?
 len:h.length<=h'.length
 old:∀ (o:Nat) (ob':AObj),o < h.length->h'[o]? =some (some ob')->∃ ob,h[o]? =some (some ob)/\(ob'.own=true->ob.own=true)
 fresh:∀ (o:Nat) (ob:AObj) (p:Pl),h.length<=o->h'[o]? =some (some ob)->β'[o]? =some (some p)->Own β h p.blk\/w.heap.size<=p.blk
theorem StepR.own {β β':Be} {h h':Hp} {w w':World} (s:StepR β β' h h' w w') (hl:β.length=h.length) {k:Nat} (hk:Own β' h' k):Own β h k\/w.heap.size<=k:=by
 obtain⟨o,ob,p,ho,hown,hp,rfl⟩:=hk
 rcases Sj o h.length with hlt|hge
 ·obtain⟨ob0,ho0,h0⟩:=s.old o ob hlt ho
  have hb:∃ q,β[o]? =some q:=⟨β[o]' zO,Ry zO⟩
  obtain⟨q,hq⟩:=hb
  have:=s.le _ _ hq
  rw [hp] at this
  cases this
  exact .inl ⟨o,ob0,p,ho0,h0 hown,hq,rfl⟩
 exact s.fresh o ob p hge ho hp
theorem StepR.refl (β:Be) (h:Hp) (w:World) (hl:β.length=h.length):StepR β β h h w w:=
 ⟨Be.le.refl _,rfl,rfl,rfl,RG _,fun _ _ _=>rfl,RG _,fun o ob _ h=>⟨ob,h,id⟩,fun o ob p ho h1 _=>by
  rw [RA ho] at h1;cases h1⟩
theorem StepR.trans {a b c:Be} {h1 h2 h3:Hp} {w1 w2 w3:World} (la:a.length=h1.length) (lb:b.length=h2.length) (s:StepR a b h1 h2 w1 w2) (t:StepR b c h2 h3 w2 w3):StepR a c h1 h3 w1 w3:=by
 refine⟨s.le.trans t.le,t.os.trans s.os,t.tape.trans s.tape,t.output.trans s.output,Sa s.size t.size,fun k hk hn=>?_,Sa s.len t.len,fun o ob hlt ho=>?_,fun o ob p hge ho hp=>?_⟩
 ·rw [t.block k (by have:=s.size;omega) (fun hown=>by rcases s.own la hown with h|h;exact hn h;omega)]
  exact s.block k hk hn
 ·obtain⟨ob2,ho2,h2⟩:=t.old o ob (by have:=s.len;omega) ho
  obtain⟨ob1,ho1,h1⟩:=s.old o ob2 hlt ho2
  exact⟨ob1,ho1,fun h=>h1 (h2 h)⟩
 rcases Sj o h2.length with hlt|hge2
 ·obtain⟨ob2,ho2,h2'⟩:=t.old o ob hlt ho
  have hq:b[o]? =some (b[o]' zO):=Ry zO
  have h4:=t.le _ _ hq
  rw [hp] at h4
  simp only [Option.some.injEq] at h4
  rw [<-h4] at hq
  exact s.fresh o ob2 p hge ho2 hq
 rcases t.fresh o ob p hge2 ho hp with h|h
 ·exact s.own la h
 exact .inr (Sa s.size h)
def World.like (w w':World):Prop:=w'.os=w.os/\w'.tape=w.tape/\w'.output=w.output
theorem lY {β:Be} {h:Hp} {w w':World} (hl:β.length=h.length) (hlike:World.like w w') (hsz:w.heap.size<=w'.heap.size) (hw:∀ k,k < w.heap.size->w'.heap[k]? =w.heap[k]?) (p:Pl) (ob:AObj) (hp:w.heap.size<=p.blk):
  StepR β (β++[some p]) h (h++[some ob]) w w':=
 ⟨Be.le_append _ _,hlike.1,hlike.2.1,hlike.2.2,hsz,fun k hk _=>hw k hk,zP,fun o ob' hlt ho=>by
  rw [Rx hlt] at ho;exact⟨ob',ho,id⟩,fun o ob' q hge ho hq=>by
  have he:o=h.length:=by
   rcases R0 o h.length with h1|h1|h1
   ·omega
   ·exact h1
   rw [Rz zO,RA zS] at ho;cases ho
  subst he
  rw [<-hl] at hq
  simp at hq
  subst hq
  exact .inr hp⟩
def dS (P:Program) (t:TypeId):Nat:=((P.info? t).map (·.size)).getD 0
def OT (P:Program) (t:TypeId):Nat:=((P.info? t).map (·.bytes)).getD 0
def Sc.ofV:Value->Option Sc
 | .int k n=>some (.int k n)
 | .bool b=>some (.bo b)
 | .string s=>some (.st s.data.toList)
 | .slice none 0 0=>some .nil
 | .pointer none=>some .un
 |_=>none
def Nv:List Value->Option (List Sc)
 |[]=>some []
 |v::r=>match Sc.ofV v,Nv r with
  |some s,some l=>some (s::l)
  |_,_=>none
def FS (P:Program) (t:TypeId):Option (List Sc):=(P.info? t).bind fun i=>i.zero.bind fun v=>Nv v.cells.toList
def cX (P:Program) (t:TypeId):Bool:=
 match P.underlying t with
 |some (.struct _)|some (.array _ _)=>true
 |_=>false
def eR (P:Program) (t:TypeId):Bool:=(P.underlying t).isSome && (P.info? t).isSome
def au (P:Program) (t:TypeId) (f:Nat):Option (Nat×Nat):=
 match P.underlying t with
 |some (.struct fs)=>match fs[f]? with
  |some x=>if dS P x.type=0 then none else some (x.offset,dS P x.type)
  |none=>none
 |_=>none
def Rn (P:Program) (t:TypeId) (f:Nat):Option Nat:=
 match P.underlying t with
 |some (.struct fs)=>match fs[f]? with
  |some x=>if eR P x.type && !cX P x.type then some x.offset else none
  |none=>none
 |_=>none
def Bp (P:Program) (t:TypeId):Bool:=
 match P.underlying t with
 |some (.struct fs)=>fs.toList.all fun x=>dS P x.type != 0
 |_=>false
def NU (P:Program) (t:TypeId):Option TypeId:=
 match P.underlying t with
 |some (.slice e)=>some e
 |_=>none
def Qt (P:Program) (t:TypeId):Option IntKind:=
 match P.underlying t with
 |some (.int k)=>some k
 |_=>none
def DT (P:Program) (t:TypeId):Bool:=
 match P.underlying t with
 |some .string=>true
 |_=>false
def uv (P:Program) (t:TypeId):Bool:=
 match P.underlying t with
 |some .bool=>true
 |_=>false
def AV.ofV:Value->Option AV
 | .agg cs=>(Nv cs.toList).map .ag
 | .func (.func f) a b=>if a.size=0/\b.size=0 then some (.cl f []) else none
 |v=>(Sc.ofV v).map .sc
def S.ev (s:S):Operand->Option AV
 | .tmp t=>s.sl.get t
 | .const v=>AV.ofV v
 | .func f=>some (.cl f [])
 | .global _=>none
def S.obj (s:S) (o:Nat):Option AObj:=s.hp.getD o none
def yb {α:Type}:List α->Nat->Bool
 |[],0=>true
 |_::l,n+1=>yb l n
 |_,_=>false
theorem ph {α:Type}:∀ {l:List α} {n:Nat},yb l n=true->l.length=n
 |[],0,_=>rfl
 |_::l,n+1,h=>by simp [ph (l:=l) (n:=n) h]
 |[],_+1,h=>by cases h
 |_::_,0,h=>by cases h
def fits {α:Type}:List α->Nat->Nat->Bool
 |_,0,0=>true
 |_::c,0,n+1=>fits c 0 n
 |_::c,j+1,n=>fits c j n
 |_,_,_=>false
theorem m8 {α:Type}:∀ {c:List α} {j n:Nat},fits c j n=true->j+n<=c.length
 |c,0,0,_=>R4 _
 |_::c,0,n+1,h=>by have:=m8 (c:=c) (j:=0) (n:=n) h;simp;omega
 |_::c,j+1,n,h=>by have:=m8 (c:=c) (j:=j) (n:=n) (by cases n<;>exact h);simp;omega
 |[],0,n+1,h=>by cases h
 |[],j+1,n,h=>by cases n<;>cases h
def over:List Sc->List Sc->List Sc
 |c,[]=>c
 |_::c,b::l=>b::over c l
 |[],_=>[]
def LH:List Sc->Nat->List Sc->List Sc
 |c,0,l=>over c l
 |a::c,j+1,l=>a::LH c j l
 |[],_,_=>[]
def Qu:Nat->Nat->Bool
 |0,_=>true
 |n+1,m+1=>Qu n m
 |_+1,0=>false
theorem I5:∀ {n m:Nat},Qu n m=true->n<=m
 |0,_,_=>R4 _
 |n+1,m+1,h=>by have:=I5 (n:=n) (m:=m) h;omega
 |_+1,0,h=>by cases h
def tz (P:Program) (e:TypeId):Option (List Sc):=
 match FS P e with
 |some z=>if z.length=dS P e/\0 < dS P e/\dS P e<=65536/\OT P e<=131072/\eR P e=true then some z else none
 |none=>none
theorem lZ {P:Program} {e:TypeId} {z:List Sc} (h:tz P e=some z):FS P e=some z/\z.length=dS P e/\0 < dS P e/\dS P e<=65536/\OT P e<=131072/\eR P e=true:=by
 unfold tz at h
 split at h
 ·rename_i z' hz
  split at h
  ·rename_i hc
   simp only [Option.some.injEq] at h
   subst h
   exact⟨hz,hc⟩
  cases h
 cases h
def aS (P:Program) (t:TypeId):Option (Option Nat):=
 if eR P t then (if cX P t then some (some (dS P t)) else some none) else none
def fH (P:Program) (t:TypeId):Option Nat:=if eR P t then some (dS P t) else none
def cf (P:Program) (t:TypeId):Option (List Sc):=if Bp P t then tz P t else none
def uw (P:Program) (t:TypeId):Option (TypeId×Nat):=
 match NU P t with
 |some e=>if eR P e then some (e,dS P e) else none
 |none=>none
theorem gj {P:Program} {t e:TypeId} {n:Nat} (h:uw P t=some (e,n)):NU P t=some e/\eR P e=true/\n=dS P e:=by
 unfold uw at h
 split at h
 ·rename_i e' he
  split at h
  ·rename_i hk
   simp only [Option.some.injEq,Prod.mk.injEq] at h
   obtain⟨rfl,rfl⟩:=h
   exact⟨he,hk,rfl⟩
  cases h
 cases h
inductive Cv where
 |int (k:IntKind)
 |str
 |s2b (e:TypeId)
 |b2s
def G9 (P:Program) (src dst:TypeId):Option Cv:=
 match P.underlying src,P.underlying dst with
 |some (.int _),some (.int k)=>some (.int k)
 |some .string,some .string=>some .str
 |some .string,some (.slice e)=>if Qt P e=some .u8 then some (.s2b e) else none
 |some (.slice e),some .string=>if Qt P e=some .u8 then some .b2s else none
 |_,_=>none
def Bq:List (List Sc)->Bool
 |[]=>true
 |c::r=>jp c && Bq r
theorem yc:∀ {cs:List (List Sc)},Bq cs=true->FlatL cs
 |[],_=>fun c hc=>by cases hc
 |c::r,h=>by
  simp only [Bq,RC] at h
  intro d hd
  rcases Sh.1 hd with rfl|hd
  ·exact h.1
  exact yc h.2 d hd
theorem kR:∀ {a b:List Sc},jp a=true->jp b=true->jp (a++b)=true
 |[],_,_,h=>h
 |s::a,b,h,k=>by
  simp only [jp,RC,List.cons_append] at h⊢
  exact⟨h.1,kR h.2 k⟩
theorem gk:∀ {a:List Sc},jp a=true↔∀ s∈a,s.isFlat=true
 |[]=>by simp [jp]
 |s::a=>by simp [jp,gk (a:=a)]
structure OpR where
 v:Option AV
 hp:Hp
 c:Prop
def kg (c:List Sc) (j:Nat) (l:List Sc):List Sc:=c.take j++(l++c.drop (j+l.length))
def I6 (P:Program) (t:TypeId) (a b:List Sc) (r:Bool):Prop:=
 ∀ (β:Be) (w:World) (x y:Operand) (vs us:List Value),L2 (ScR β) a vs->L2 (ScR β) b us->
  (do eqGuard .eql t x y (.agg vs.toArray) (.agg us.toArray);binOp .eql t (.agg vs.toArray) (.agg us.toArray)).run P w=.ok (.bool r) w/\
  (do eqGuard .neq t x y (.agg vs.toArray) (.agg us.toArray);binOp .neq t (.agg vs.toArray) (.agg us.toArray)).run P w=.ok (.bool (!r)) w
def G_:Sc->Sc->Bool
 | .int _ a,.int _ b=>a == b
 | .bo a,.bo b=>a == b
 | .st a,.st b=>a == b
 |_,_=>false
def cN:List Sc->List Sc->Bool
 |[],[]=>true
 |a::l,b::m=>G_ a b && cN l m
 |_,_=>false
def ou (P:Program) (t:TypeId) (a b:List Sc):Prop:=I6 P t a b (cN a b)
def Br (op:BinOp) (k:IntKind) (a b:Int):Option (Sc×Prop):=
 match op with
 | .add=>some (.int k (k.wrap (a+b)),True)
 | .sub=>some (.int k (k.wrap (a - b)),True)
 | .mul=>some (.int k (k.wrap (a*b)),True)
 | .quo=>some (.int k (k.wrap (a.tdiv b)),b≠0)
 | .rem=>some (.int k (a.tmod b),b≠0)
 | .and=>some (.int k (k.wrap (BitVec.ofInt k.bits a &&& BitVec.ofInt k.bits b).toNat),True)
 | .or=>some (.int k (k.wrap (BitVec.ofInt k.bits a |||BitVec.ofInt k.bits b).toNat),True)
 | .xor=>some (.int k (k.wrap (BitVec.ofInt k.bits a ^^^ BitVec.ofInt k.bits b).toNat),True)
 | .eql=>some (.bo (a == b),True)
 | .neq=>some (.bo (a != b),True)
 | .lss=>some (.bo (decide (a < b)),True)
 | .leq=>some (.bo (decide (a<=b)),True)
 | .gtr=>some (.bo (decide (b < a)),True)
 | .geq=>some (.bo (decide (b<=a)),True)
 |_=>none
def jq (P:Program) (t:TypeId) (op:BinOp):Sc->Sc->Option (Sc×Prop)
 | .int k a,.int k' b=>match op with
  | .shl=>some (.int k (k.wrap (a*2 ^ (min b.toNat k.bits))),0<=b)
  | .shr=>some (.int k (a.fdiv (2 ^ (min b.toNat k.bits))),0<=b)
  |op=>if k=k' then Br op k a b else none
 | .st a,.st b=>match op with
  | .add=>some (.st (a++b),a.length+b.length<=4611686018427387904)
  | .eql=>some (.bo (a == b),True)
  | .neq=>some (.bo (!(a == b)),True)
  |_=>none
 | .bo a,.bo b=>match op with
  | .eql=>match uv P t with
   |true=>some (.bo (a == b),True)
   |false=>none
  | .neq=>match uv P t with
   |true=>some (.bo (!(a == b)),True)
   |false=>none
  |_=>none
 |_,_=>none
def yd (pl:Nat->Option (Nat×Nat)) (cells:List Sc):List (Nat×List Sc)->Option (List Sc)
 |[]=>some cells
 |(i,v)::rest=>match pl i with
  |none=>none
  |some (off,size)=>match yb v size && fits cells off size with
   |true=>yd pl (LH cells off v) rest
   |false=>none
def ye (esz:Nat) (cs:List (List Sc)):List (Nat×List Sc)->Option (List (List Sc))
 |[]=>some cs
 |(i,v)::rest=>match yb v esz && fits cs i 1 with
  |true=>ye esz (cs.set i v) rest
  |false=>none
def S.parts (s:S):List (Nat×Operand)->Option (List (Nat×List Sc))
 |[]=>some []
 |(i,x)::rest=>match s.ev x with
  |some v=>match v.cells with
   |some cs=>match s.parts rest with
    |some l=>some ((i,cs)::l)
    |none=>none
   |none=>none
  |none=>none
def S.scals (s:S):List Operand->Option (List Sc)
 |[]=>some []
 |x::rest=>match s.ev x with
  |some (.sc c)=>match s.scals rest with
   |some l=>some (c::l)
   |none=>none
  |_=>none
def ux:List Sc->UInt8
 |[.int .u8 n]=>UInt8.ofNat n.toNat
 |_=>0
def DU (b:UInt8):List Sc:=[.int .u8 b.toNat]
def ow:List Sc->Bool
 |[.int .u8 _]=>true
 |_=>false
def jr (s:S):Option Operand->Option (Option Int)
 |none=>some none
 |some x=>match s.ev x with
  |some (.sc (.int _ n))=>some (some n)
  |_=>none
def S.new (s:S) (ob:AObj) (v:AV):OpR:=⟨some v,s.hp++[some ob],True⟩
def S.val (s:S) (v:AV):OpR:=⟨some v,s.hp,True⟩
def S.valc (s:S) (v:AV) (c:Prop):OpR:=⟨some v,s.hp,c⟩
def fi (s:S):AV->Option Int->Option Int->Option OpR
 | .sc (.st l),none,none=>some (s.val (.sc (.st l)))
 | .sc (.st l),some a,none=>some (s.valc (.sc (.st (l.drop a.toNat))) (0<=a/\a<=l.length))
 | .sc (.st l),none,some b=>some (s.valc (.sc (.st (l.take b.toNat))) (0<=b/\b<=l.length))
 | .sc (.st l),some a,some b=>some (s.valc (.sc (.st ((l.take b.toNat).drop a.toNat))) (0<=a/\a<=b/\b<=l.length))
 | .sc (.sl o off len),none,none=>some (s.val (.sc (.sl o off len)))
 | .sc (.sl o off len),some a,none=>some (s.valc (.sc (.sl o (off+a.toNat) (len - a.toNat))) (0<=a/\a<=len))
 | .sc (.sl o off len),none,some b=>some (s.valc (.sc (.sl o off b.toNat)) (0<=b/\b<=len))
 | .sc (.sl o off len),some a,some b=>some (s.valc (.sc (.sl o (off+a.toNat) (b.toNat - a.toNat))) (0<=a/\a<=b/\b<=len))
 |_,_,_=>none
def m9 (P:Program) (s:S) (t:TypeId) (a x:AV):Option OpR:=
 match uw P t with
 |none=>none
 |some (e,sz)=>match tz P e with
  |none=>none
  |some _=>match a,x with
   | .sc (.sl o off len),.sc .nil=>some (s.val (.sc (.sl o off len)))
   | .sc .nil,.sc .nil=>some (s.val (.sc .nil))
   | .sc .nil,.sc (.sl o off len)=>match s.obj o with
    |some ob=>if ob.esz=sz then some ⟨some (.sc (.sl s.hp.length 0 len)),s.hp++[some ⟨(ob.cs.drop off).take len,sz,e,true,ob.fl⟩],off+len<=ob.cs.length/\len<=1073741824⟩ else none
    |none=>none
   | .sc (.sl o' off' len'),.sc (.sl o off len)=>match s.obj o',s.obj o with
    |some ob',some ob=>if ob.esz=sz/\ob'.esz=sz/\ob'.own=true/\ob'.ty=e/\off'=0/\o'≠o then
      some ⟨some (.sc (.sl s.hp.length 0 (len'+len))),s.hp.set o' none++[some ⟨ob'.cs++(ob.cs.drop off).take len,sz,e,true,ob'.fl && ob.fl⟩],ob'.cs.length=len'/\off+len<=ob.cs.length/\len'+len<=1073741824⟩ else none
    |_,_=>none
   |_,_=>none
def bR (P:Program) (s:S) (ty:TypeId):Op->Option OpR
 | .move x| .assign x=>match s.ev x with
  |some v=>some (s.val v)
  |none=>none
 | .pick c a b=>match s.ev c with
  |some (.sc (.bo true))=>match s.ev a with
   |some v=>some (s.val v)
   |none=>none
  |some (.sc (.bo false))=>match s.ev b with
   |some v=>some (s.val v)
   |none=>none
  |_=>none
 | .alloc e=>match tz P e with
  |some z=>some (s.new ⟨[z],z.length,e,true,false⟩ (.sc (.pt s.hp.length 0 0)))
  |none=>none
 | .box e x=>match s.ev x with
  |some v=>match v.cells with
   |some cs=>some (s.new ⟨[cs],cs.length,e,true,false⟩ (.sc (.pt s.hp.length 0 0)))
   |none=>none
  |none=>none
 | .build t parts=>match cf P t with
  |some z=>match s.parts parts.toList with
   |some l=>match yd (au P t) z l with
    |some cs=>some (s.val (.ag cs))
    |none=>none
   |none=>none
  |none=>none
 | .buildSlice t len parts=>match uw P t with
  |some (e,sz)=>match tz P e with
   |some z=>match s.parts parts.toList with
    |some l=>match Qu len 256 with
     |true=>match ye sz (List.replicate len z) l with
      |some cs=>some (s.new ⟨cs,sz,e,true,Bq cs⟩ (.sc (.sl s.hp.length 0 len)))
      |none=>none
     |false=>none
    |none=>none
   |none=>none
  |none=>none
 | .load t a=>match s.ev a with
  |some (.sc (.pt o k j))=>match s.obj o with
   |some ob=>match ob.cs[k]? with
    |some c=>match aS P t with
     |some (some n)=>match fits c j n with
      |true=>some (s.val (.ag ((c.drop j).take n)))
      |false=>none
     |some none=>match c[j]? with
      |some x=>some (s.val (.sc x))
      |none=>none
     |none=>none
    |none=>none
   |none=>none
  |_=>none
 | .store t a x=>match s.ev a with
  |some (.sc (.pt o k j))=>match s.obj o with
   |some ob=>match ob.cs[k]? with
    |some c=>match s.ev x with
     |some v=>match v.cells with
      |some vs=>match fH P t with
       |some n=>match yb vs n && fits c j n && ob.own with
        |true=>some ⟨none,s.hp.set o (some { ob with cs:=ob.cs.set k (LH c j vs),fl:=ob.fl && jp vs }),True⟩
        |false=>none
       |none=>none
      |none=>none
     |none=>none
    |none=>none
   |none=>none
  |_=>none
 | .nilCheck x=>match s.ev x with
  |some (.sc (.pt o k j))=>some (s.val (.sc (.pt o k j)))
  |some (.cl f caps)=>some (s.val (.cl f caps))
  |_=>none
 | .binOp op t x y _=>match s.ev x,s.ev y with
  |some (.sc a),some (.sc b)=>match jq P t op a b with
   |some (r,c)=>some (s.valc (.sc r) c)
   |none=>none
  |some (.ag a),some (.ag b)=>match op with
   | .eql=>some (s.valc (.sc (.bo (cN a b))) (ou P t a b))
   | .neq=>some (s.valc (.sc (.bo (!cN a b))) (ou P t a b))
   |_=>none
  |_,_=>none
 | .unOp op _ x=>match s.ev x with
  |some (.sc (.bo b))=>match op with
   | .not=>some (s.val (.sc (.bo (!b))))
   |_=>none
  |some (.sc (.int k n))=>match op with
   | .neg=>some (s.val (.sc (.int k (k.wrap (0 - n)))))
   |_=>none
  |_=>none
 | .convert src dst x=>match G9 P src dst,s.ev x with
  |some (.int k'),some (.sc (.int k n))=>some (s.val (.sc (.int k' (k'.wrap n))))
  |some .str,some (.sc (.st l))=>some (s.val (.sc (.st l)))
  |some (.s2b e),some (.sc (.st l))=>some (⟨some (.sc (.sl s.hp.length 0 l.length)),s.hp++[some ⟨l.map DU,1,e,false,true⟩],l.length<=1073741824⟩)
  |some .b2s,some (.sc (.sl o off len))=>match s.obj o with
   |some ob=>if ob.esz=1 then some (s.valc (.sc (.st (((ob.cs.drop off).take len).map ux))) (off+len<=ob.cs.length/\∀ c∈ob.cs,ow c=true)) else none
   |none=>none
  |some .b2s,some (.sc .nil)=>some (s.val (.sc (.st [])))
  |_,_=>none
 | .makeSlice t l c=>match uw P t with
  |some (e,sz)=>match tz P e with
   |some z=>match s.ev l,s.ev c with
    |some (.sc (.int _ l)),some (.sc (.int _ c))=>some ⟨some (.sc (.sl s.hp.length 0 l.toNat)),s.hp++[some ⟨List.replicate l.toNat z,sz,e,true,jp z⟩],0<=l/\l<=c/\c<=1073741824⟩
    |_,_=>none
   |none=>none
  |none=>none
 | .slice t x lo hi none=>match s.ev x,jr s lo,jr s hi with
  |some v,some lo,some hi=>match v with
   | .sc (.st _)=>match DT P t with
    |true=>fi s v lo hi
    |false=>none
   | .sc (.sl o _ _)=>match uw P t,s.obj o with
    |some (_,sz),some ob=>if ob.esz=sz then fi s v lo hi else none
    |_,_=>none
   |_=>none
  |_,_,_=>none
 | .fieldAddr t x f=>match s.ev x,au P t f with
  |some (.sc (.pt o k j)),some (off,_)=>some (s.val (.sc (.pt o k (j+off))))
  |_,_=>none
 | .field t x f=>match s.ev x,Rn P t f with
  |some (.ag cs),some off=>match cs[off]? with
   |some c=>some (s.val (.sc c))
   |none=>none
  |_,_=>none
 | .indexAddr t x i=>match s.ev x,s.ev i,uw P t with
  |some (.sc (.sl o off len)),some (.sc (.int _ i)),some (_,sz)=>match s.obj o with
   |some ob=>if ob.esz=sz then some (s.valc (.sc (.pt o (off+i.toNat) 0)) (0<=i/\i < len)) else none
   |none=>none
  |_,_,_=>none
 | .index t x i=>match s.ev x,s.ev i with
  |some (.sc (.st l)),some (.sc (.int _ i))=>match DT P t with
   |true=>some (s.valc (.sc (.int .u8 (l.getD i.toNat 0).toNat)) (0<=i/\i < l.length))
   |false=>none
  |_,_=>none
 | .extract x i=>match s.ev x with
  |some (.tu l)=>match l[i]? with
   |some c=>some (s.val c.av)
   |none=>none
  |_=>none
 | .makeFunc (.func f) first caps=>if first.size=0 then match s.scals caps.toList with
   |some l=>some (s.val (.cl f l))
   |none=>none else none
 | .call { callee:=.builtin .len,args,argTypes }=>match args.toList,argTypes.toList with
  |[x],[t]=>match s.ev x with
   |some (.sc (.st l))=>match DT P t with
    |true=>some (s.val (.sc (.int .i64 l.length)))
    |false=>none
   |some (.sc (.sl _ _ len))=>match uw P t with
    |some _=>some (s.val (.sc (.int .i64 len)))
    |none=>none
   |some (.sc .nil)=>match uw P t with
    |some _=>some (s.val (.sc (.int .i64 0)))
    |none=>none
   |_=>none
  |_,_=>none
 | .call { callee:=.builtin .append,args,argTypes }=>match args.toList,argTypes.toList with
  |[x,y],[t,t']=>if t=t' then match s.ev x,s.ev y with
   |some a,some b=>m9 P s t a b
   |_,_=>none else none
  |_,_=>none
 | .call { callee:=.builtin .min,args,argTypes }=>match args.toList with
  |[x,y]=>match s.ev x,s.ev y with
   |some (.sc (.int k a)),some (.sc (.int k' b))=>some (s.val (.sc (.int k (if b < a then b else a))))
   |_,_=>none
  |_=>none
 | .call { callee:=.builtin .max,args,argTypes }=>match args.toList with
  |[x,y]=>match s.ev x,s.ev y with
   |some (.sc (.int k a)),some (.sc (.int k' b))=>some (s.val (.sc (.int k (if a < b then b else a))))
   |_,_=>none
  |_=>none
 |_=>none
theorem Nw {v:Value} {s:Sc} (h:Sc.ofV v=some s) (β:Be):ScR β s v:=by
 unfold Sc.ofV at h
 split at h
 all_goals first
  |(simp only [Option.some.injEq] at h;subst h;first|rfl|exact⟨_,rfl⟩)
  |cases h
theorem uy (β:Be):∀ {vs:List Value} {l:List Sc},Nv vs=some l->L2 (ScR β) l vs
 |[],l,h=>by simp only [Nv,Option.some.injEq] at h;subst h;trivial
 |v::r,l,h=>by
  simp only [Nv] at h
  split at h
  ·rename_i s m h1 h2
   simp only [Option.some.injEq] at h
   subst h
   exact⟨Nw h1 β,uy β h2⟩
  cases h
theorem LI {v:Value} {x:AV} (h:AV.ofV v=some x) (β:Be):f9 β x v:=by
 unfold AV.ofV at h
 split at h
 ·rename_i cs
  simp only [RV] at h
  obtain⟨l,h1,rfl⟩:=h
  exact⟨cs.toList,zP,uy β h1⟩
 ·rename_i f a b
  split at h
  ·rename_i h0
   simp only [Option.some.injEq] at h
   subst h
   obtain⟨ha,hb⟩:=h0
   have ha':a= #[]:=RK ha
   have hb':b= #[]:=RK hb
   subst ha';subst hb'
   exact⟨[],rfl,trivial⟩
  cases h
 simp only [RV] at h
 obtain⟨l,h1,rfl⟩:=h
 exact Nw h1 β
theorem dG {β:Be} {s:S} {a:Act} (hs:SlotsR β s.sl a.tmps) {x:Operand} {v:AV} (h:s.ev x=some v):f9 β v (a.eval x):=by
 cases x with
 |tmp t=>
  obtain⟨u,hu,hr⟩:=hs.2 t v h
  have:a.eval (.tmp t)=u:=by simp [Act.eval,Array.getD_eq_getD_getElem?,hu]
  rw [this];exact hr
 |const c=>exact LI h β
 |global g=>cases h
 |func f=>
  simp only [S.ev,Option.some.injEq] at h
  subst h
  exact⟨[],rfl,trivial⟩
theorem cZ {s:S} {o:Nat} {ob:AObj} (h:s.obj o=some ob):s.hp[o]? =some (some ob):=by
 unfold S.obj at h
 rw [RE] at h
 cases hx:s.hp[o]? with
 |none=>rw [hx] at h;cases h
 |some y=>rw [hx] at h;simp only [R1] at h;rw [h]
theorem zw {β:Be} {s:S} {a:Act} (hs:SlotsR β s.sl a.tmps):∀ {ps:List (Nat×Operand)} {l:List (Nat×List Sc)},s.parts ps=some l->
  L2 (fun (x:Nat×List Sc) (y:Nat×Value)=>x.1=y.1/\∃ vs:List Value,y.2.cells=vs.toArray/\L2 (ScR β) x.2 vs) l (ps.map fun (i,x)=>(i,a.eval x))
 |[],l,h=>by simp only [S.parts,Option.some.injEq] at h;subst h;trivial
 |(i,x)::rest,l,h=>by
  simp only [S.parts] at h
  split at h
  ·rename_i v hv
   split at h
   ·rename_i cs hcs
    split at h
    ·rename_i m hm
     simp only [Option.some.injEq] at h
     subst h
     exact⟨⟨rfl,f9.cells hcs (dG hs hv)⟩,zw hs hm⟩
    cases h
   cases h
  cases h
theorem FT {β:Be} {s:S} {a:Act} (hs:SlotsR β s.sl a.tmps):∀ {ps:List Operand} {l:List Sc},s.scals ps=some l->L2 (ScR β) l (ps.map a.eval)
 |[],l,h=>by simp only [S.scals,Option.some.injEq] at h;subst h;trivial
 |x::rest,l,h=>by
  simp only [S.scals] at h
  split at h
  ·rename_i c hc
   split at h
   ·rename_i m hm
    simp only [Option.some.injEq] at h
    subst h
    exact⟨dG hs hc,FT hs hm⟩
   cases h
  cases h
theorem dw {P:Program} {t:TypeId} (w:World) (h:(P.info? t).isSome=true):(sizeOf t).run P w=.ok (dS P t) w:=by
 obtain⟨i,hi⟩:=RQ.1 h
 simp [sizeOf,typeInfo,hi,dS]
theorem ox {P:Program} {t:TypeId} (h:eR P t=true):∃ d,P.underlying t=some d:=by
 unfold eR at h
 simp only [RC] at h
 exact RQ.1 h.1
theorem iL {P:Program} {t:TypeId} (h:eR P t=true):(P.info? t).isSome=true:=by
 unfold eR at h
 simp only [RC] at h
 exact h.2
theorem fj {P:Program} {t:TypeId} (w:World) {d:TypeDesc} (h:P.underlying t=some d):(isAgg t).run P w=.ok (cX P t) w:=by
 simp only [isAgg,Rw,run_underlying h,Rv,cX,h]
 cases d<;>rfl
theorem I7 {P:Program} {t:TypeId} (h:cX P t=true):∃ d,P.underlying t=some d:=by
 unfold cX at h
 cases hu:P.underlying t with
 |none=>rw [hu] at h;cases h
 |some d=>exact⟨d,rfl⟩
theorem f5 {P:Program} {t e:TypeId} (h:NU P t=some e):P.underlying t=some (.slice e):=by
 unfold NU at h
 split at h
 ·rename_i e' hu;simp only [Option.some.injEq] at h;subst h;exact hu
 cases h
theorem FU {P:Program} {t:TypeId} {k:IntKind} (h:Qt P t=some k):P.underlying t=some (.int k):=by
 unfold Qt at h
 split at h
 ·rename_i e' hu;simp only [Option.some.injEq] at h;subst h;exact hu
 cases h
theorem pi {P:Program} {t:TypeId} (h:DT P t=true):P.underlying t=some .string:=by
 unfold DT at h
 split at h
 ·assumption
 cases h
theorem Ha {P:Program} {t:TypeId} (h:uv P t=true):P.underlying t=some .bool:=by
 unfold uv at h
 split at h
 ·assumption
 cases h
theorem uz {P:Program} {t:TypeId} {i:TypeInfo} (h:P.info? t=some i):dS P t=i.size:=by simp [dS,h]
theorem js {P:Program} {t:TypeId} {z:List Sc} (h:FS P t=some z):∃ i v vs,P.info? t=some i/\i.zero=some v/\v.cells=List.toArray vs/\Nv vs=some z:=by
 unfold FS at h
 rw [R2] at h
 obtain⟨i,hi,h⟩:=h
 rw [R2] at h
 obtain⟨v,hv,h⟩:=h
 exact⟨i,v,v.cells.toList,hi,hv,zP,h⟩
theorem FV {P:Program} {t:TypeId} (h:0 < dS P t):(P.info? t).isSome=true:=by
 unfold dS at h
 cases hi:P.info? t with
 |none=>rw [hi] at h;simp at h
 |some i=>rfl
def ia (β:Be) (s:S) (r:OpR) (w:World) (x:Result Next):Prop:=
 ∃ β' w',StepR β β' s.hp r.hp w w'/\HSim β' r.hp w'/\((∃ v av,x=.ok (.value v) w'/\r.v=some av/\f9 β' av v)\/(x=.ok .skip w'/\r.v=none))
theorem bM {β:Be} {s:S} {w:World} (hs:HSim β s.hp w) {x:Result Next} {v:Value} {av:AV} (hx:x=.ok (.value v) w) (hv:f9 β av v):ia β s (s.val av) w x:=
 ⟨β,w,StepR.refl β s.hp w hs.len,hs,.inl ⟨v,av,hx,rfl,hv⟩⟩
theorem dP {β:Be} {s:S} {w:World} (hs:HSim β s.hp w) {x:Result Next} {v:Value} {av:AV} {c:Prop} (hx:x=.ok (.value v) w) (hv:f9 β av v):ia β s (s.valc av c) w x:=
 ⟨β,w,StepR.refl β s.hp w hs.len,hs,.inl ⟨v,av,hx,rfl,hv⟩⟩
theorem ig {β:Be} {h:Hp} {w:World} (hs:HSim β h w) {o:Nat} {ob:AObj} (ho:h[o]? =some (some ob)) {p:Pl} (hp:β[o]? =some (some p)):
  p.esz=ob.esz/\∃ arr T fz,w.heap[p.blk]? =some (.cells arr T fz)/\dT β arr p.base ob.esz ob.cs/\(ob.own=true->T=ob.ty/\fz=(0,0)/\p.base=0/\p.avail=arr.size):=by
 obtain⟨q,hq,hr⟩:=hs.ob o ob ho
 rw [hp] at hq
 cases hq
 exact hr
theorem kS {w:World} {b off:Nat} {arr:Array Value} {T:TypeId} {fz:Nat×Nat} (h:w.heap[b]? =some (.cells arr T fz)):w.cell? ⟨b,off,none⟩=arr[off]? :=by simp [World.cell?,h]
theorem DV {β:Be} {arr:Array Value} {base esz:Nat} {cs:List (List Sc)} (hc:dT β arr base esz cs) {k:Nat} {c:List Sc} (hk:cs[k]? =some c) (j n:Nat) (hn:j+n<=c.length):
  ∃ vs:List Value,vs.length=n/\L2 (ScR β) ((c.drop j).take n) vs/\∀ i v,vs[i]? =some v->arr[base+k*esz+j+i]? =some v:=by
 obtain⟨hl,hcell⟩:=hc k c hk
 refine⟨(List.range n).map fun i=>(arr[base+k*esz+j+i]?).getD undef,zP,?_,?_⟩
 ·refine L2.of_get zS fun i x y hx hy=>?_
  have hi:i < n:=by
   have:=(Ru.1 hx).1
   simp at this
   omega
  rw [RI hi,RR] at hx
  obtain⟨v,hv,hr⟩:=hcell (j+i) x hx
  simp only [RU,R_ hi,R3,Option.some.injEq] at hy
  rw [<-RW] at hv
  rw [hv] at hy
  simp only [R1] at hy
  subst hy
  exact hr
 intro i v hv
 have hi:i < n:=by
  have:=(Ru.1 hv).1
  simpa using this
 simp only [RU,R_ hi,R3,Option.some.injEq] at hv
 have hx:c[j+i]? =some (c[j+i]' zO):=Ry zO
 obtain⟨u,hu,_⟩:=hcell (j+i) _ hx
 rw [<-RW] at hu
 rw [hu] at hv⊢
 simpa using hv
theorem I8 {β:Be} {o k j:Nat} {v:Value} (h:ScR β (.pt o k j) v):∃ p,β[o]? =some (some p)/\v=.pointer (some ⟨p.blk,p.base+k*p.esz+j,none⟩):=h
theorem pj {P:Program} {β:Be} {s:S} {w:World} (hs:HSim β s.hp w) {o k j:Nat} {ob:AObj} {c:List Sc} {t:TypeId} {v:Value}
  (ho:s.obj o=some ob) (hk:ob.cs[k]? =some c) (ht:cX P t=true) (hn:j+dS P t<=c.length) (hv:ScR β (.pt o k j) v):
  ∃ vs:List Value,(Instr.loadAt t v).run P w=.ok (.agg vs.toArray) w/\L2 (ScR β) ((c.drop j).take (dS P t)) vs:=by
 obtain⟨p,hp,rfl⟩:=I8 hv
 obtain⟨he,arr,T,fz,hh,hc,_⟩:=ig hs (cZ ho) hp
 obtain⟨vs,hl,hr,hcell⟩:=DV hc hk j (dS P t) hn
 obtain⟨d,hd⟩:=I7 ht
 have hinfo:(P.info? t).isSome=true:=by
  unfold Program.underlying at hd
  cases hi:P.info? t with
  |none=>rw [hi] at hd;simp at hd
  |some i=>rfl
 refine⟨vs,?_,hr⟩
 have hld:=run_loadCells_list (P:=P) w ⟨p.blk,p.base+k*p.esz+j,none⟩ vs (fun i u hu=>by
  rw [Addr.add_lit,kS hh,he];exact hcell i u hu)
 rw [hl] at hld
 simp only [Instr.loadAt,Instr.sureAddr,loadVar,Rw,RB,Rv,fj w hd,ht,if_true,dw w hinfo,hld]
theorem pm {P:Program} {β:Be} {s:S} {w:World} (hs:HSim β s.hp w) {o k j:Nat} {ob:AObj} {c:List Sc} {x:Sc} {t:TypeId} {v:Value}
  (ho:s.obj o=some ob) (hk:ob.cs[k]? =some c) (ht:cX P t=false) (hu:eR P t=true) (hx:c[j]? =some x) (hv:ScR β (.pt o k j) v):
  ∃ u,(Instr.loadAt t v).run P w=.ok u w/\ScR β x u:=by
 obtain⟨p,hp,rfl⟩:=I8 hv
 obtain⟨he,arr,T,fz,hh,hc,_⟩:=ig hs (cZ ho) hp
 obtain⟨u,hcell,hr⟩:=(hc k c hk).2 j x hx
 obtain⟨d,hd⟩:=ox hu
 refine⟨u,?_,hr⟩
 have hl:w.cell? ⟨p.blk,p.base+k*p.esz+j,none⟩=some u:=by rw [kS hh,he];exact hcell
 simp [Instr.loadAt,Instr.sureAddr,loadVar,fj w hd,ht,hl]
theorem gm {β:Be} {cs:List (List Sc)} {esz:Nat} {arr:Array Value} (hl:∀ c∈cs,c.length=esz) (h:∀ (k j:Nat) (c:List Sc) (s:Sc),cs[k]? =some c->c[j]? =some s->∃ v,arr[k*esz+j]? =some v/\ScR β s v):dT β arr 0 esz cs:=
 fun k c hk=>⟨hl c (RM hk),fun j s hs=>by rw [RX];exact h k j c s hk hs⟩
theorem uA {β:Be} {c:List Sc} {vs:List Value} (h:L2 (ScR β) c vs):dT β vs.toArray 0 c.length [c]:=
 gm zP (fun k j c' s hk hs=>by
  have hk0:k=0:=by have:=(Ru.1 hk).1;simpa using this
  subst hk0
  simp only [RT,Option.some.injEq] at hk
  subst hk
  obtain⟨v,hv,hr⟩:=h.get hs
  exact⟨v,by simpa using hv,hr⟩)
theorem DW (w:World) (o:Obj):World.like w (w.alloc o):=⟨rfl,rfl,rfl⟩
theorem yf (w:World) (o:Obj):∀ k,k < w.heap.size->(w.alloc o).heap[k]? =w.heap[k]? :=fun k hk=>(by first|exact heap_alloc_old w o k hk|exact heap_alloc_old w o hk)
theorem pn {β:Be} {s:S} {w:World} (hs:HSim β s.hp w) {arr:Array Value} {ob:AObj} {av:AV} {v:Value} {x:Result Next} {c:Prop}
  (hx:x=.ok (.value v) (w.alloc (.cells arr ob.ty))) (hc:dT β arr 0 ob.esz ob.cs) (hfl:ob.fl=true->FlatL ob.cs)
  (hv:f9 (β++[some ⟨w.heap.size,0,ob.esz,arr.size⟩]) av v):ia β s ⟨some av,s.hp++[some ob],c⟩ w x:=by
 let p:Pl:=⟨w.heap.size,0,ob.esz,arr.size⟩
 have hle:=Be.le_append β [some p]
 refine⟨β++[some p],w.alloc (.cells arr ob.ty),lY hs.len (DW w _) zP (yf w _) p ob (RG _),ot hs (yf w _) (RG _) ?_ hfl,.inl ⟨v,av,hx,rfl,hv⟩⟩
 exact⟨rfl,arr,ob.ty,(0,0),heap_alloc_new w _,hc.mono hle,fun _=>⟨rfl,rfl,rfl,rfl⟩⟩
theorem I9 {β:Be} {s:S} {w:World} (hs:HSim β s.hp w) (esz n:Nat):ScR (β++[some ⟨w.heap.size,0,esz,n⟩]) (.pt s.hp.length 0 0) (.pointer (some ⟨w.heap.size,0,none⟩)):=
 ⟨⟨w.heap.size,0,esz,n⟩,by rw [<-hs.len];simp,zP⟩
theorem I_ {β:Be} {s:S} {w:World} (hs:HSim β s.hp w) (esz n len cap:Nat) (h1:len<=cap) (h2:cap<=maxLen) (h3:cap*esz<=n):
  ScR (β++[some ⟨w.heap.size,0,esz,n⟩]) (.sl s.hp.length 0 len) (.slice (some ⟨w.heap.size,0,none⟩) len cap):=
 ⟨_,cap,rfl,h1,h2,.inr ⟨⟨w.heap.size,0,esz,n⟩,by rw [<-hs.len];simp,zP,by simpa using h3⟩⟩
end
section
open Go.RowKit
section
variable {P:Program} {β:Be} {s:S} {a:Act} {w:World} {o:Oper} {r:OpR} {ty:TypeId}
theorem FW (hs:HSim β s.hp w) (hsl:SlotsR β s.sl a.tmps) (x:Operand) (ho:o.op=.move x\/o.op=.assign x) (h:bR P s ty (.move x)=some r):ia β s r w ((execOp a.eval o).run P w):=by
 simp only [bR] at h
 split at h
 ·rename_i v hv
  simp only [Option.some.injEq] at h
  subst h
  refine bM hs (v:=a.eval x) ?_ (dG hsl hv)
  unfold execOp
  rcases ho with ho|ho<;>rw [ho]<;>rfl
 cases h
theorem LJ (hs:HSim β s.hp w) (hsl:SlotsR β s.sl a.tmps) (c x y:Operand) (ho:o.op=.pick c x y) (h:bR P s ty (.pick c x y)=some r):ia β s r w ((execOp a.eval o).run P w):=by
 simp only [bR] at h
 split at h
 ·rename_i hc
  have hb:a.eval c=.bool true:=dG hsl hc
  split at h
  ·rename_i v hv
   simp only [Option.some.injEq] at h
   subst h
   refine bM hs (v:=a.eval x) ?_ (dG hsl hv)
   unfold execOp
   rw [ho]
   simp [hb,asBool]
  cases h
 ·rename_i hc
  have hb:a.eval c=.bool false:=dG hsl hc
  split at h
  ·rename_i v hv
   simp only [Option.some.injEq] at h
   subst h
   refine bM hs (v:=a.eval y) ?_ (dG hsl hv)
   unfold execOp
   rw [ho]
   simp [hb,asBool]
  cases h
 cases h
theorem Ja (hs:HSim β s.hp w) (e:TypeId) (ho:o.op=.alloc e) (h:bR P s ty (.alloc e)=some r):ia β s r w ((execOp a.eval o).run P w):=by
 simp only [bR] at h
 split at h
 ·rename_i z hz
  simp only [Option.some.injEq] at h
  subst h
  obtain⟨hz,hl,_⟩:=lZ hz
  obtain⟨i,v,vs,hi,hzv,hvc,hsc⟩:=js hz
  have hr:=uy β hsc
  refine pn hs (arr:=vs.toArray) (v:=.pointer (some ⟨w.heap.size,0,none⟩)) ?_ (uA hr) (fun h=>by cases h) (I9 hs _ _)
  unfold execOp
  rw [ho]
  simp [Instr.alloc,zeroValue,typeInfo,hi,hzv,newVar,newRow,hvc]
 cases h
theorem NV (hs:HSim β s.hp w) (hsl:SlotsR β s.sl a.tmps) (e:TypeId) (x:Operand) (ho:o.op=.box e x) (h:bR P s ty (.box e x)=some r):ia β s r w ((execOp a.eval o).run P w):=by
 simp only [bR] at h
 split at h
 ·rename_i v hv
  split at h
  ·rename_i cs hcs
   simp only [Option.some.injEq] at h
   subst h
   obtain⟨vs,hvs,hr⟩:=f9.cells hcs (dG hsl hv)
   refine pn hs (arr:=vs.toArray) (v:=.pointer (some ⟨w.heap.size,0,none⟩)) ?_ (uA hr) (fun h=>by cases h) (I9 hs _ _)
   unfold execOp
   rw [ho]
   simp [Instr.box,newVar,newRow,hvs]
  cases h
 cases h
theorem l5 (off:Nat):∀ (vs:List Value) (n:Nat) (cells:Array Value),
  ((vs.zipIdx n).foldl (fun cs (x:Value×Nat)=>cs.setIfInBounds (off+x.2) x.1) cells).size=cells.size/\
  ∀ m,off+n+vs.length<=cells.size->((vs.zipIdx n).foldl (fun cs (x:Value×Nat)=>cs.setIfInBounds (off+x.2) x.1) cells)[m]? =if off+n<=m/\m < off+n+vs.length then vs[m - (off+n)]? else cells[m]?
 |[],n,cells=>⟨zP,fun m hm=>by
   simp only [List.zipIdx_nil,List.foldl_nil,List.length_nil,RY]
   rw [if_neg zO]⟩
 |v::vs,n,cells=>by
  obtain⟨h1,h2⟩:=l5 off vs (n+1) (cells.setIfInBounds (off+n) v)
  refine⟨by simpa [Sf] using h1,fun m hm=>?_⟩
  simp only [Sf,List.foldl_cons]
  rw [h2 m (by simp at hm⊢;omega)]
  by_cases he:m=off+n
  ·subst he
   rw [if_neg zO,if_pos zP]
   simp at hm
   simp [Array.getElem?_setIfInBounds]
   omega
  by_cases hin:off+(n+1)<=m/\m < off+(n+1)+vs.length
  ·rw [if_pos hin,if_pos zS]
   have:m - (off+n)=(m - (off+(n+1)))+1:=zO
   rw [this,List.getElem?_cons_succ]
  rw [if_neg hin,if_neg zS]
  rw [RJ (Ne.symm he)]
theorem kT (off:Nat) (vs:List Value) (cells:Array Value):
  (vs.toArray.zipIdx.foldl (fun cs (x:Value×Nat)=>cs.setIfInBounds (off+x.2) x.1) cells)=((vs.zipIdx 0).foldl (fun cs (x:Value×Nat)=>cs.setIfInBounds (off+x.2) x.1) cells):=by
 simp [<-Array.foldl_toList]
theorem uB (c:List Sc) (j:Nat) (l:List Sc) (h:j+l.length<=c.length) (m:Nat):(kg c j l)[m]? =if j<=m/\m < j+l.length then l[m - j]? else c[m]? :=by
 unfold kg
 by_cases h1:m < j
 ·rw [Rx zS,RI h1,if_neg zO]
 rw [Rz zS]
 have hl:(c.take j).length=j:=by simp;omega
 rw [hl]
 by_cases h2:m < j+l.length
 ·rw [Rx zO,if_pos zO]
 rw [Rz zO,if_neg zO,RR]
 congr 1
 omega
theorem nQ (c:List Sc) (j:Nat) (l:List Sc) (h:j+l.length<=c.length):(kg c j l).length=c.length:=by
 unfold kg
 simp
 omega
theorem FX:∀ (c l:List Sc),l.length<=c.length->over c l=l++c.drop l.length
 |c,[],_=>by cases c<;>simp [over]
 |_::c,b::l,h=>by simp [over,FX c l (by simpa using h)]
 |[],_::_,h=>by simp at h
theorem DX:∀ (c:List Sc) (j:Nat) (l:List Sc),j+l.length<=c.length->LH c j l=kg c j l
 |c,0,l,h=>by
  have h1:LH c 0 l=over c l:=by cases c<;>rfl
  rw [h1,FX c l zO]
  simp [kg]
 |a::c,j+1,l,h=>by
  have:=DX c j l (by simp at h;omega)
  simp only [LH,this]
  unfold kg
  rw [show j+1+l.length=(j+l.length)+1 from by omega]
  simp
 |[],j+1,l,h=>by simp at h
theorem FY {P:Program} {t:TypeId} {pl:Nat->Option (Nat×Nat)}:∀ {l:List (Nat×List Sc)} {ps:List (Nat×Value)} {c c':List Sc} {arr:Array Value},
  yd pl c l=some c'->L2 (ScR β) c arr.toList->
  L2 (fun (x:Nat×List Sc) (y:Nat×Value)=>x.1=y.1/\∃ vs:List Value,y.2.cells=vs.toArray/\L2 (ScR β) x.2 vs) l ps->
  ∃ arr':Array Value,Instr.fill pl arr ps=some arr'/\L2 (ScR β) c' arr'.toList
 |[],[],c,c',arr,h,hc,_=>by
  simp only [yd,Option.some.injEq] at h
  subst h
  exact⟨arr,rfl,hc⟩
 |(i,v)::l,(i',u)::ps,c,c',arr,h,hc,hl=>by
  obtain⟨⟨hi,vs,hvs,hr⟩,hl⟩:=hl
  dsimp only at hi hvs hr
  subst hi
  simp only [yd] at h
  split at h
  ·cases h
  rename_i off size hpl
  split at h
  ·rename_i hsz0
   simp only [RC] at hsz0
   have hsz:v.length=size/\off+size<=c.length:=⟨ph hsz0.1,m8 hsz0.2⟩
   rw [DX c off v zO] at h
   have hlen:=hc.length
   have hvl:=hr.length
   have hbd:off+vs.length<=arr.size:=by rw [<-hvl];simp at hlen;omega
   obtain⟨h1,h2⟩:=l5 off vs 0 arr
   have hnew:L2 (ScR β) (kg c off v) ((vs.toArray.zipIdx.foldl (fun cs (x:Value×Nat)=>cs.setIfInBounds (off+x.2) x.1) arr)).toList:=by
    rw [kT]
    refine L2.of_get (by rw [nQ c off v zO,hlen];simp only [Array.length_toList];exact h1.symm) fun m x y hx hy=>?_
    rw [uB c off v zO] at hx
    rw [RH,h2 m (by simpa using hbd)] at hy
    simp only [RY] at hy
    by_cases hin:off<=m/\m < off+v.length
    ·rw [if_pos hin] at hx
     rw [if_pos zO] at hy
     obtain⟨y',hy',hr'⟩:=hr.get hx
     rw [hy] at hy'
     cases hy'
     exact hr'
    rw [if_neg hin] at hx
    rw [if_neg zO] at hy
    obtain⟨y',hy',hr'⟩:=hc.get hx
    rw [RH,hy] at hy'
    cases hy'
    exact hr'
   obtain⟨arr',hf,hr'⟩:=FY (P:=P) (t:=t) h hnew hl
   refine⟨arr',?_,hr'⟩
   simp only [Instr.fill,hpl]
   rw [if_neg]
   ·rw [hvs];exact hf
   rw [hvs]
   simp
   omega
  cases h
 |[],_::_,_,_,_,_,_,hl=>hl.elim
 |_::_,[],_,_,_,_,_,hl=>hl.elim
end
end
section
open Go.RowKit
section
variable {P:Program} {β:Be} {s:S} {a:Act} {w:World} {o:Oper} {r:OpR} {ty:TypeId}
theorem Bs (w:World) (fields:List Field) (hf:∀ x∈fields,dS P x.type≠0):
  (fields.mapM (fun f:Field=>(do pure (f.offset,<-sizeOf f.type):Sem (Nat×Nat)))).run P w=.ok (fields.map fun f=>(f.offset,dS P f.type)) w:=by
 induction fields with
 |nil=>rfl
 |cons f l ih=>
  have h0:=hf f zP
  have hi:(P.info? f.type).isSome=true:=FV zO
  simp only [List.mapM_cons,Rw,dw w hi,Rv,RB,ih (fun x hx=>hf x (by simp [hx])),Si]
theorem Jb (hs:HSim β s.hp w) (hsl:SlotsR β s.sl a.tmps) (t:TypeId) (parts:Array (Nat×Operand)) (ho:o.op=.build t parts) (h:bR P s ty (.build t parts)=some r):ia β s r w ((execOp a.eval o).run P w):=by
 simp only [bR] at h
 split at h
 ·rename_i z hz
  split at h
  ·rename_i l hl
   have hz0:=hz
   unfold cf at hz0
   split at hz0
   ·rename_i hall
    obtain⟨hz,hzl,_⟩:=lZ hz0
    split at h
    ·rename_i cs hcs
     simp only [Option.some.injEq] at h
     subst h
     obtain⟨i,v,vs,hi,hzv,hvc,hsc⟩:=js hz
     have hr:=uy β hsc
     unfold Bp at hall
     split at hall
     ·rename_i fs hfs
      have hpl:∀ k,au P t k=(fs.map fun f=>(f.offset,dS P f.type))[k]? :=by
       intro k
       simp only [au,hfs,Sb]
       cases hk:fs[k]? with
       |none=>rfl
       |some f=>
        have hm:f∈fs.toList:=by
         rw [<-RH] at hk
         exact RM hk
        have:=Sg.1 hall f hm
        simp only [bne_iff_ne] at this
        simp [this]
      obtain⟨arr,hf,hra⟩:=FY (P:=P) (t:=t) (β:=β) (ps:=parts.toList.map fun (i,x)=>(i,a.eval x)) (arr:=vs.toArray) hcs (by simpa using hr) (zw hsl hl)
      refine bM hs (v:=.agg arr) ?_ ⟨arr.toList,zP,hra⟩
      unfold execOp
      rw [ho]
      have hm:=Bs (P:=P) w fs.toList (fun x hx=>by
       have:=Sg.1 hall x hx
       simpa using this)
      have hm':(fs.mapM (fun f:Field=>(do pure (f.offset,<-sizeOf f.type):Sem (Nat×Nat)))).run P w=.ok (fs.map fun f=>(f.offset,dS P f.type)) w:=by
       rw [Array.mapM_eq_mapM_toList]
       have e:∀ (m:Sem (List (Nat×Nat))),(List.toArray <$> m)=(do pure (List.toArray (<-m))):=fun m=>rfl
       rw [e,Rw,hm]
       rw [Rv,RB]
       refine congrArg (fun x=>Result.ok x w) ?_
       apply Array.ext'
       simp
      have hff:Instr.fill (fun x=>(fs.map fun f=>(f.offset,dS P f.type))[x]?) vs.toArray (parts.toList.map fun (i,x)=>(i,a.eval x))=some arr:=by
       have e:(fun x=>(fs.map fun f=>(f.offset,dS P f.type))[x]?)=au P t:=funext fun k=>(hpl k).symm
       rw [e];exact hf
      have hpt:(parts.map fun (i,x)=>(i,a.eval x)).toList=parts.toList.map fun (i,x)=>(i,a.eval x):=by simp
      simp only [Instr.build,Rw,zeroValue,typeInfo,run_program,Rv,hi,hzv,RB,run_underlying hfs,hm',hpt]
      rw [hvc,hff]
      rfl
     cases hall
    cases h
   cases hz0
  cases h
 cases h
theorem yg (z:Array Value) (len k j:Nat) (hk:k < len) (hj:j < z.size):((Array.range (len*z.size)).map (z[· % z.size]!))[k*z.size+j]? =z[j]? :=by
 have hlt:k*z.size+j < len*z.size:=by
  have:(k+1)*z.size<=len*z.size:=RD _ hk
  rw [RL] at this
  omega
 rw [Sb,Array.getElem?_range,if_pos hlt]
 simp only [R3]
 rw [show (k*z.size+j) % z.size=j from by rw [Nat.mul_comm,Nat.mul_add_mod,Nat.mod_eq_of_lt hj]]
 simp [hj]
theorem FZ {esz:Nat} (hpos:0 < esz) (len:Nat):∀ {l:List (Nat×List Sc)} {ps:List (Nat×Value)} {cs cs':List (List Sc)} {arr:Array Value},
  ye esz cs l=some cs'->cs.length=len->arr.size=len*esz->dT β arr 0 esz cs->
  L2 (fun (x:Nat×List Sc) (y:Nat×Value)=>x.1=y.1/\∃ vs:List Value,y.2.cells=vs.toArray/\L2 (ScR β) x.2 vs) l ps->
  ∃ arr':Array Value,Instr.fill (fun i=>some (i*esz,esz)) arr ps=some arr'/\arr'.size=len*esz/\cs'.length=len/\dT β arr' 0 esz cs'
 |[],[],cs,cs',arr,h,hl,hsz,hc,_=>by
  simp only [ye,Option.some.injEq] at h
  subst h
  exact⟨arr,rfl,hsz,hl,hc⟩
 |(i,v)::l,(i',u)::ps,cs,cs',arr,h,hl,hsz,hc,hps=>by
  obtain⟨⟨hi,vs,hvs,hr⟩,hps⟩:=hps
  dsimp only at hi hvs hr
  subst hi
  simp only [ye] at h
  split at h
  ·rename_i hcond
   simp only [RC] at hcond
   have hvl:=ph hcond.1
   have hil:i < cs.length:=m8 hcond.2
   have hvl':=hr.length
   have hend:i*esz+esz<=len*esz:=by
    have:(i+1)*esz<=len*esz:=RD _ zO
    rw [RL] at this
    omega
   obtain⟨h1,h2⟩:=l5 (i*esz) vs 0 arr
   simp only [RY] at h2
   have hnew:dT β (vs.toArray.zipIdx.foldl (fun cs (x:Value×Nat)=>cs.setIfInBounds (i*esz+x.2) x.1) arr) 0 esz (cs.set i v):=by
    rw [kT]
    refine gm (fun c hm=>?_) fun k j c x hk hj=>?_
    ·rcases RP hm with hm|rfl
     ·obtain⟨k,hk⟩:=R6.1 hm
      exact (hc k c hk).1
     exact hvl
    rw [h2 _ zO]
    have hjl:j < c.length:=(Ru.1 hj).1
    rw [RF] at hk
    by_cases he:i=k
    ·subst he
     rw [if_pos rfl,if_pos hil] at hk
     simp only [Option.some.injEq] at hk
     subst hk
     rw [if_pos zO]
     obtain⟨y,hy,hry⟩:=hr.get hj
     exact⟨y,by rw [Nat.add_sub_cancel_left];exact hy,hry⟩
    rw [if_neg he] at hk
    obtain⟨hlc,hcell⟩:=hc k c hk
    obtain⟨y,hy,hry⟩:=hcell j x hj
    refine⟨y,?_,hry⟩
    rw [RX] at hy
    rw [if_neg]
    ·exact hy
    intro⟨ha,hb⟩
    rcases Sd he with hlt|hgt
    ·have:(i+1)*esz<=k*esz:=RD _ hlt
     rw [RL] at this
     omega
    have:(k+1)*esz<=i*esz:=RD _ hgt
    rw [RL] at this
    omega
   obtain⟨arr',hf,hsz',hl',hc'⟩:=FZ hpos len h (by simpa using hl) (by rw [kT,h1];exact hsz) hnew hps
   refine⟨arr',?_,hsz',hl',hc'⟩
   simp only [Instr.fill]
   rw [if_neg]
   ·rw [hvs];exact hf
   rw [hvs]
   simp
   omega
  cases h
 |[],_::_,_,_,_,_,_,_,_,hl=>hl.elim
 |_::_,[],_,_,_,_,_,_,_,hl=>hl.elim
theorem xC (hs:HSim β s.hp w) (hsl:SlotsR β s.sl a.tmps) (t:TypeId) (len:Nat) (parts:Array (Nat×Operand)) (ho:o.op=.buildSlice t len parts) (h:bR P s ty (.buildSlice t len parts)=some r):ia β s r w ((execOp a.eval o).run P w):=by
 simp only [bR] at h
 split at h
 ·rename_i e sz he0
  obtain⟨he,hkn,rfl⟩:=gj he0
  split at h
  ·rename_i z hz
   obtain⟨hz,hzl,hpos,hsm,_⟩:=lZ hz
   split at h
   ·rename_i l hl
    split at h
    ·rename_i hleb
     have hle256:=I5 hleb
     have hbig:len*dS P e<=16777216:=by
      have:len*dS P e<=256*65536:=Nat.mul_le_mul hle256 hsm
      omega
     split at h
     ·rename_i cs hcs
      simp only [Option.some.injEq] at h
      subst h
      obtain⟨i,v,vs,hi,hzv,hvc,hsc⟩:=js hz
      have hr:=uy β hsc
      have hvl:=hr.length
      have hti:=uz hi
      have hlm:len<=len*dS P e:=Nat.le_mul_of_pos_right _ hpos
      have hstart:∃ Bg:Array Value,((do if len*dS P e=0 then pure #[] else do pure (<-zeroValue e).cells):Sem (Array Value)).run P w=.ok Bg w/\((Array.range (len*dS P e)).map (Bg[· % Bg.size]!)).size=len*dS P e/\
        dT β ((Array.range (len*dS P e)).map (Bg[· % Bg.size]!)) 0 (dS P e) (List.replicate len z):=by
       by_cases h0:len*dS P e=0
       ·refine⟨#[],by simp [h0],zP,?_⟩
        have hl0:len=0:=by
         rcases Nat.mul_eq_zero.1 h0 with h|h
         ·exact h
         omega
        subst hl0
        intro k c hk
        simp at hk
       refine⟨vs.toArray,by simp [h0,zeroValue,typeInfo,hi,hzv,hvc],zP,?_⟩
       refine gm (fun c hm=>by rw [RS hm];exact hzl) fun k j c x hk hj=>?_
       have hkl:k < len:=by have:=(Ru.1 hk).1;simpa using this
       rw [RZ hkl] at hk
       simp only [Option.some.injEq] at hk
       subst hk
       obtain⟨y,hy,hry⟩:=hr.get hj
       have hjl:j < z.length:=(Ru.1 hj).1
       refine⟨y,?_,hry⟩
       have hzs:vs.toArray.size=dS P e:=by simp;omega
       have:=yg vs.toArray len k j hkl zO
       rw [hzs] at this
       rw [hzs,this]
       simpa using hy
      obtain⟨Bg,hrun,hsz0,hc0⟩:=hstart
      obtain⟨arr,hf,hsz,hlen,hc⟩:=FZ hpos len (ps:=parts.toList.map fun (i,x)=>(i,a.eval x)) hcs zP hsz0 hc0 (zw hsl hl)
      refine pn hs (arr:=arr) (v:=.slice (some ⟨w.heap.size,0,none⟩) len len) ?_ hc (fun h=>yc h) (I_ hs _ _ len len (RG _) (by unfold maxLen;omega) (by show len*dS P e<=arr.size;omega))
      unfold execOp
      rw [ho]
      have hpt:(parts.map fun (i,x)=>(i,a.eval x)).toList=parts.toList.map fun (i,x)=>(i,a.eval x):=by simp
      have hb':¬ (2 ^ 24 < len*dS P e):=zO
      simp only [Instr.buildSlice,Rw,run_underlying (f5 he),Rv,dw w (by simp [hi]:(P.info? e).isSome=true),hb',if_false,hpt]
      by_cases h0:len*dS P e=0
      ·simp only [h0,if_true,RB,Result.ok.injEq,and_true,Rv] at hrun
       subst hrun
       simp only [h0,if_true,Rw,RB,Rv]
       simp only [h0] at hf
       rw [hf]
       simp [newRow]
      have hzr:(zeroValue e).run P w=.ok v w:=by simp [zeroValue,typeInfo,hi,hzv]
      simp only [h0,if_false,Rw,hzr,Rv,RB,Result.ok.injEq,and_true] at hrun
      simp only [h0,if_false,Rw,RB,Rv,hzr]
      rw [hrun,hf]
      simp [newRow]
     cases h
    cases h
   cases h
  cases h
 cases h
theorem Hb {t:TypeId} {n:Nat} (h:aS P t=some (some n)):cX P t=true/\n=dS P t:=by
 unfold aS at h
 split at h
 ·split at h
  ·rename_i ha
   simp only [Option.some.injEq] at h
   exact⟨ha,h.symm⟩
  cases h
 cases h
theorem Hc {t:TypeId} (h:aS P t=some none):cX P t=false/\eR P t=true:=by
 unfold aS at h
 split at h
 ·rename_i hk
  split at h
  ·cases h
  rename_i ha
  exact⟨by simpa using ha,hk⟩
 cases h
theorem Hd {t:TypeId} {n:Nat} (h:fH P t=some n):eR P t=true/\n=dS P t:=by
 unfold fH at h
 split at h
 ·rename_i hk
  simp only [Option.some.injEq] at h
  exact⟨hk,h.symm⟩
 cases h
theorem LK (hs:HSim β s.hp w) (hsl:SlotsR β s.sl a.tmps) (t:TypeId) (x:Operand) (ho:o.op=.load t x) (h:bR P s ty (.load t x)=some r):ia β s r w ((execOp a.eval o).run P w):=by
 simp only [bR] at h
 split at h
 ·rename_i ob k j hx
  have hv:ScR β (.pt ob k j) (a.eval x):=dG hsl hx
  split at h
  ·rename_i obj hob
   split at h
   ·rename_i c hk
    split at h
    ·rename_i n hag0
     obtain⟨hag,rfl⟩:=Hb hag0
     split at h
     ·rename_i hn
      simp only [Option.some.injEq] at h
      subst h
      obtain⟨vs,hrun,hr⟩:=pj hs hob hk hag (m8 hn) hv
      refine bM hs (v:=.agg vs.toArray) ?_ ⟨vs,rfl,hr⟩
      unfold execOp
      rw [ho]
      simp [hrun]
     cases h
    ·rename_i hag0
     obtain⟨hag,hkn⟩:=Hc hag0
     split at h
     ·rename_i y hy
      simp only [Option.some.injEq] at h
      subst h
      obtain⟨u,hrun,hr⟩:=pm hs hob hk hag hkn hy hv
      refine bM hs (v:=u) ?_ hr
      unfold execOp
      rw [ho]
      simp [hrun]
     cases h
    cases h
   cases h
  cases h
 cases h
theorem DY {h:Hp} (hs:HSim β h w) {n:Nat} {ob:AObj} {p:Pl} (ho:h[n]? =some (some ob)) (hown:ob.own=true) (hp:β[n]? =some (some p))
  {arr arr':Array Value} {T:TypeId} {fz:Nat×Nat} (hh:w.heap[p.blk]? =some (.cells arr T fz)) (hsz:arr'.size=arr.size) {cs':List (List Sc)} {fl':Bool} (hc:dT β arr' 0 ob.esz cs') (hfl:fl'=true->FlatL cs'):
  HSim β (h.set n (some { ob with cs:=cs',fl:=fl' })) (w.setRow p.blk arr')/\StepR β β h (h.set n (some { ob with cs:=cs',fl:=fl' })) w (w.setRow p.blk arr'):=by
 obtain⟨he,Bg,T0,fz0,hh0,hc0,hown0⟩:=ig hs ho hp
 obtain⟨hT,hf0,hbase,hav⟩:=hown0 hown
 rw [hh] at hh0
 simp only [Option.some.injEq,Obj.cells.injEq] at hh0
 obtain⟨rfl,rfl,rfl⟩:=hh0
 have hn:n < h.length:=(Ru.1 ho).1
 have key:∀ {o:Nat} {x:AObj},(h.set n (some { ob with cs:=cs',fl:=fl' }))[o]? =some (some x)->(o=n/\x={ ob with cs:=cs',fl:=fl' })\/(o≠n/\h[o]? =some (some x)):=by
  intro o x hx
  rw [RF] at hx
  split at hx
  ·rename_i he
   subst he
   simp only [Option.some.injEq] at hx
   exact .inl ⟨rfl,hx.symm⟩
  rename_i he
  exact .inr ⟨Ne.symm he,hx⟩
 refine⟨⟨by simp [hs.len],fun o x hx=>?_,fun o x hx hf=>by rcases key hx with⟨_,rfl⟩|⟨_,hx⟩;exact hfl hf;exact hs.flat o x hx hf,fun o o' x x' q q' hx hx' hxo hq hq' hne=>?_⟩,?_⟩
 ·rcases key hx with⟨rfl,rfl⟩|⟨hne,hx⟩
  ·refine⟨some p,hp,he,arr',T,fz,setRow_heap w p.blk arr arr' T fz hh,?_,fun _=>⟨hT,hf0,hbase,by rw [hsz];exact hav⟩⟩
   rw [hbase]
   exact hc
  obtain⟨q,hq,hr⟩:=hs.ob o x hx
  refine⟨q,hq,hr.world fun q' hq'=>?_⟩
  subst hq'
  exact setRow_other w p.blk q'.blk arr' (fun hb=>hs.apart n o ob x p q' ho hx hown hp hq (Ne.symm hne) hb.symm)
 ·rcases key hx with⟨rfl,rfl⟩|⟨h1,h1'⟩
  ·rcases key hx' with⟨rfl,rfl⟩|⟨h2,h2'⟩
   ·exact absurd rfl hne
   exact hs.apart o o' ob x' q q' ho h2' hown hq hq' hne
  rcases key hx' with⟨rfl,rfl⟩|⟨h2,h2'⟩
  ·exact hs.apart o o' x ob q q' h1' ho hxo hq hq' hne
  exact hs.apart o o' x x' q q' h1' h2' hxo hq hq' hne
 refine⟨Be.le.refl _,rfl,rfl,rfl,zP,fun k hk hno=>setRow_other w p.blk k arr' (fun hb=>hno ⟨n,ob,p,ho,hown,hp,hb.symm⟩),zP,fun o x hlt hx=>?_,fun o x q hge hx _=>?_⟩
 ·rcases key hx with⟨rfl,rfl⟩|⟨hne,hx⟩
  ·exact⟨ob,ho,id⟩
  exact⟨x,hx,id⟩
 rw [RA (by simpa using hge)] at hx
 cases hx
theorem Jc (hs:HSim β s.hp w) (hsl:SlotsR β s.sl a.tmps) (t:TypeId) (x y:Operand) (ho:o.op=.store t x y) (h:bR P s ty (.store t x y)=some r):ia β s r w ((execOp a.eval o).run P w):=by
 simp only [bR] at h
 split at h
 ·rename_i n k j hx
  have hv:ScR β (.pt n k j) (a.eval x):=dG hsl hx
  split at h
  ·rename_i ob hob
   split at h
   ·rename_i c hk
    split at h
    ·rename_i v hy
     split at h
     ·rename_i vs hvs
      split at h
      rotate_left
      ·cases h
      rename_i n0 hn0
      obtain⟨hkn,rfl⟩:=Hd hn0
      split at h
      ·rename_i hcond
       simp only [RC] at hcond
       obtain⟨⟨hl0,hj0⟩,hown⟩:=hcond
       have hl:=ph hl0
       have hj:j+vs.length<=c.length:=by rw [hl];exact m8 hj0
       simp only [Option.some.injEq] at h
       rw [DX c j vs hj] at h
       subst h
       obtain⟨us,hus,hr⟩:=f9.cells hvs (dG hsl hy)
       obtain⟨p,hp,hpe⟩:=I8 hv
       obtain⟨he,arr,T,fz,hh,hc,hown'⟩:=ig hs (cZ hob) hp
       obtain⟨hT,hf0,hbase,hav⟩:=hown' hown
       subst hf0
       have hul:=hr.length
       obtain⟨hcl,hcell⟩:=hc k c hk
       have hbd:k*ob.esz+j+us.length<=arr.size:=by
        by_cases hz:us.length=0
        ·rw [hz]
         by_cases hc0:c.length=0
         ·by_cases hk0:arr.size < k*ob.esz+j
          ·have:j=0:=zO
           subst this
           rw [<-hcl,hc0] at hk0
           omega
          omega
         have hg:c[c.length - 1]? =some (c[c.length - 1]' zO):=Ry zO
         obtain⟨y',hy',_⟩:=hcell _ _ hg
         have:=(RO.1 hy').1
         rw [hbase] at this
         omega
        have hg:c[j+us.length - 1]? =some (c[j+us.length - 1]' zO):=Ry zO
        obtain⟨y',hy',_⟩:=hcell _ _ hg
        have:=(RO.1 hy').1
        rw [hbase] at this
        omega
       let arr':Array Value:=(arr.toList.take (k*ob.esz+j)++us++arr.toList.drop (k*ob.esz+j+us.length)).toArray
       have hget:∀ m,arr'[m]? =if k*ob.esz+j<=m/\m < k*ob.esz+j+us.length then us[m - (k*ob.esz+j)]? else arr[m]? :=by
        intro m
        show ((arr.toList.take (k*ob.esz+j)++us++arr.toList.drop (k*ob.esz+j+us.length)).toArray)[m]? =_
        rw [R7,List.append_assoc]
        by_cases h1:m < k*ob.esz+j
        ·rw [Rx zS,RI h1,if_neg zO,RH]
        have hlen:(arr.toList.take (k*ob.esz+j)).length=k*ob.esz+j:=by simp;omega
        rw [Rz zO,hlen]
        by_cases h2:m < k*ob.esz+j+us.length
        ·rw [Rx zO,if_pos zO]
        rw [Rz zO,if_neg zO,RR,RH]
        congr 1
        omega
       have hsz:arr'.size=arr.size:=by
        show ((arr.toList.take (k*ob.esz+j)++us++arr.toList.drop (k*ob.esz+j+us.length)).toArray).size=_
        simp
        omega
       have hnew:dT β arr' 0 ob.esz (ob.cs.set k (kg c j vs)):=by
        refine gm (fun d hm=>?_) fun k' j' d z hk' hj'=>?_
        ·rcases RP hm with hm|rfl
         ·obtain⟨q,hq⟩:=R6.1 hm
          exact (hc q d hq).1
         rw [nQ c j vs hj];exact hcl
        rw [hget]
        rw [RF] at hk'
        by_cases hkk:k=k'
        ·subst hkk
         rw [if_pos rfl,if_pos (Ru.1 hk).1] at hk'
         simp only [Option.some.injEq] at hk'
         subst hk'
         rw [uB c j vs hj] at hj'
         by_cases hin:j<=j'/\j' < j+vs.length
         ·rw [if_pos hin] at hj'
          rw [if_pos zO]
          obtain⟨y',hy',hr'⟩:=hr.get hj'
          exact⟨y',by rw [show k*ob.esz+j' - (k*ob.esz+j)=j' - j from by omega];exact hy',hr'⟩
         rw [if_neg hin] at hj'
         rw [if_neg zO]
         obtain⟨y',hy',hr'⟩:=hcell j' z hj'
         rw [hbase,RX] at hy'
         exact⟨y',hy',hr'⟩
        rw [if_neg hkk] at hk'
        obtain⟨hdl,hdc⟩:=hc k' d hk'
        obtain⟨y',hy',hr'⟩:=hdc j' z hj'
        rw [hbase,RX] at hy'
        have hjd:j' < d.length:=(Ru.1 hj').1
        refine⟨y',?_,hr'⟩
        rw [if_neg]
        ·exact hy'
        intro⟨ha,hb⟩
        rcases Sd hkk with hlt|hgt
        ·have:(k+1)*ob.esz<=k'*ob.esz:=RD _ hlt
         rw [RL] at this
         omega
        have:(k'+1)*ob.esz<=k*ob.esz:=RD _ hgt
        rw [RL] at this
        omega
       obtain⟨hs',hst⟩:=DY hs (cZ hob) hown hp hh hsz hnew (fl':=ob.fl && jp vs) (fun hf=>by
        simp only [RC] at hf
        have h1:=hs.flat n ob (cZ hob) hf.1
        intro d hd
        rcases RP hd with hd|rfl
        ·exact h1 d hd
        have h2:=gk.1 (h1 c (RM hk))
        unfold kg
        exact kR (gk.2 fun s hs=>h2 s (R8 hs)) (kR hf.2 (gk.2 fun s hs=>h2 s (R9 hs))))
       refine⟨β,_,hst,hs',.inr ⟨?_,rfl⟩⟩
       unfold execOp
       rw [ho]
       have hrun:=run_storeCells_at P p.blk (k*ob.esz+j) T us 0 arr w hh zO (L2.one hr)
       simp only [RY] at hrun
       have husz:us.toArray.size=dS P t:=by simp;omega
       have hpe':a.eval x=.pointer (some ⟨p.blk,k*ob.esz+j,none⟩):=by rw [hpe,hbase,he,RX]
       simp only [hpe',Instr.storeAt,Instr.sureAddr,Rw,RB,Rv,storeVar,dw w (iL hkn),husz,ne_eq,not_true,if_false,hus,List.toList_toArray,hrun]
       rfl
      cases h
     cases h
    cases h
   cases h
  cases h
 cases h
end
end
section
open Go.RowKit
section
variable {P:Program} {β:Be} {s:S} {a:Act} {w:World} {o:Oper} {r:OpR} {ty:TypeId}
theorem Bt (hs:HSim β s.hp w) (hsl:SlotsR β s.sl a.tmps) (x:Operand) (ho:o.op=.nilCheck x) (h:bR P s ty (.nilCheck x)=some r):ia β s r w ((execOp a.eval o).run P w):=by
 simp only [bR] at h
 split at h
 ·rename_i n k j hx
  have hv:ScR β (.pt n k j) (a.eval x):=dG hsl hx
  simp only [Option.some.injEq] at h
  subst h
  refine bM hs (v:=a.eval x) ?_ hv
  obtain⟨p,hp,hpe⟩:=hv
  unfold execOp
  rw [ho]
  simp [hpe]
 ·rename_i f caps hx
  have hv:f9 β (.cl f caps) (a.eval x):=dG hsl hx
  simp only [Option.some.injEq] at h
  subst h
  refine bM hs (v:=a.eval x) ?_ hv
  obtain⟨vs,hpe,_⟩:=hv
  unfold execOp
  rw [ho]
  simp [hpe]
 cases h
theorem LM {op:BinOp} {k k':IntKind} {x y:Int} {t:TypeId} {q:Sc} {c:Prop} (h:jq P t op (.int k x) (.int k' y)=some (q,c)) (hc:c) (X Y:Operand):
  ∃ v,(do eqGuard op t X Y (.int k x) (.int k' y);binOp op t (.int k x) (.int k' y)).run P w=.ok v w/\ScR β q v:=by
 have hg:∀ (m:Sem Value),(do eqGuard op t X Y (.int k x) (.int k' y);m).run P w=m.run P w:=by
  intro m
  cases op<;>simp [eqGuard]
 rw [hg]
 cases op with
 |shl=>
  simp only [jq,Option.some.injEq,Prod.mk.injEq] at h
  obtain⟨rfl,rfl⟩:=h
  exact⟨_,by simp [binOp,Op.shift,Int.not_lt.2 hc],rfl⟩
 |shr=>
  simp only [jq,Option.some.injEq,Prod.mk.injEq] at h
  obtain⟨rfl,rfl⟩:=h
  exact⟨_,by simp [binOp,Op.shift,Int.not_lt.2 hc],rfl⟩
 |andNot=>
  simp only [jq,Br] at h
  split at h<;>cases h
 |quo=>
  simp only [jq,Br] at h
  split at h
  ·rename_i hk
   subst hk
   simp only [Option.some.injEq,Prod.mk.injEq] at h
   obtain⟨rfl,rfl⟩:=h
   exact⟨_,by simp [binOp,Op.intDiv,hc],rfl⟩
  cases h
 |rem=>
  simp only [jq,Br] at h
  split at h
  ·rename_i hk
   subst hk
   simp only [Option.some.injEq,Prod.mk.injEq] at h
   obtain⟨rfl,rfl⟩:=h
   exact⟨_,by simp [binOp,Op.intDiv,hc],rfl⟩
  cases h
 |_=>
  simp only [jq,Br] at h
  split at h
  ·rename_i hk
   subst hk
   simp only [Option.some.injEq,Prod.mk.injEq] at h
   obtain⟨rfl,rfl⟩:=h
   exact⟨_,by simp [binOp,Op.intArith,Op.intBits,Op.intCmp];try rfl,rfl⟩
  cases h
theorem LN (x y:List UInt8):(ByteArray.mk x.toArray)++(ByteArray.mk y.toArray)=ByteArray.mk (x++y).toArray:=by
 apply ByteArray.ext
 simp
theorem LO {op:BinOp} {x y:List UInt8} {t:TypeId} {q:Sc} {c:Prop} (h:jq P t op (.st x) (.st y)=some (q,c)) (hc:c) (X Y:Operand):
  ∃ v,(do eqGuard op t X Y (.string ⟨x.toArray⟩) (.string ⟨y.toArray⟩);binOp op t (.string ⟨x.toArray⟩) (.string ⟨y.toArray⟩)).run P w=.ok v w/\ScR β q v:=by
 have hg:∀ (m:Sem Value),(do eqGuard op t X Y (.string ⟨x.toArray⟩) (.string ⟨y.toArray⟩);m).run P w=m.run P w:=by
  intro m
  cases op<;>simp [eqGuard]
 rw [hg]
 cases op with
 |add=>
  simp only [jq,Option.some.injEq,Prod.mk.injEq] at h
  obtain⟨rfl,rfl⟩:=h
  refine⟨.string ⟨(x++y).toArray⟩,?_,rfl⟩
  rw [binOp_string_add,run_string_add_sum w _ _ (by simp [ByteArray.size];omega),LN]
 |eql=>
  simp only [jq,Option.some.injEq,Prod.mk.injEq] at h
  obtain⟨rfl,rfl⟩:=h
  exact⟨_,by simp [binOp,Op.stringOp],rfl⟩
 |neq=>
  simp only [jq,Option.some.injEq,Prod.mk.injEq] at h
  obtain⟨rfl,rfl⟩:=h
  exact⟨_,by simp [binOp,Op.stringOp],rfl⟩
 |_=>simp only [jq] at h;cases h
theorem xD {t:TypeId} (ht:uv P t=true) (d:Nat) (x y:Bool):(Op.equalIn (d+1) t (.bool x) (.bool y)).run P w=.ok (x == y) w:=by
 simp only [Op.equalIn,Rw,run_underlying (Ha ht),Rv,RB]
theorem sH {t:TypeId} (ht:uv P t=true) (x y:Bool):(Op.equal t (.bool x) (.bool y)).run P w=.ok (x == y) w:=by
 exact xD ht 9999 x y
theorem LP {op:BinOp} {x y:Bool} {t:TypeId} {q:Sc} {c:Prop} (h:jq P t op (.bo x) (.bo y)=some (q,c)) (X Y:Operand):
  ∃ v,(do eqGuard op t X Y (.bool x) (.bool y);binOp op t (.bool x) (.bool y)).run P w=.ok v w/\ScR β q v:=by
 have hg:∀ (m:Sem Value),(do eqGuard op t X Y (.bool x) (.bool y);m).run P w=m.run P w:=by
  intro m
  cases op<;>simp [eqGuard]
 rw [hg]
 cases op with
 |eql=>
  simp only [jq] at h
  split at h
  ·rename_i ht
   simp only [Option.some.injEq,Prod.mk.injEq] at h
   obtain⟨rfl,rfl⟩:=h
   exact⟨_,by simp only [binOp,Rw,sH ht,Rv,RB],rfl⟩
  cases h
 |neq=>
  simp only [jq] at h
  split at h
  ·rename_i ht
   simp only [Option.some.injEq,Prod.mk.injEq] at h
   obtain⟨rfl,rfl⟩:=h
   exact⟨_,by simp only [binOp,Rw,sH ht,Rv,RB],rfl⟩
  cases h
 |_=>simp only [jq] at h;cases h
theorem NW (hs:HSim β s.hp w) (hsl:SlotsR β s.sl a.tmps) (op:BinOp) (t u:TypeId) (x y:Operand) (ho:o.op=.binOp op t x y u) (h:bR P s ty (.binOp op t x y u)=some r) (hc:r.c):ia β s r w ((execOp a.eval o).run P w):=by
 simp only [bR] at h
 split at h
 ·rename_i p q hx hy
  have hvx:ScR β p (a.eval x):=dG hsl hx
  have hvy:ScR β q (a.eval y):=dG hsl hy
  split at h
  ·rename_i res c hb
   simp only [Option.some.injEq] at h
   subst h
   have hc':c:=hc
   have key:∃ v,(do eqGuard op t x y (a.eval x) (a.eval y);binOp op t (a.eval x) (a.eval y)).run P w=.ok v w/\ScR β res v:=by
    cases p with
    |int k n=>cases q with
     |int k' m=>
      have e1:a.eval x=.int k n:=hvx
      have e2:a.eval y=.int k' m:=hvy
      rw [e1,e2];exact LM hb hc' x y
     |_=>simp only [jq] at hb;cases hb
    |st l=>cases q with
     |st m=>
      have e1:a.eval x=.string ⟨l.toArray⟩:=hvx
      have e2:a.eval y=.string ⟨m.toArray⟩:=hvy
      rw [e1,e2];exact LO hb hc' x y
     |_=>simp only [jq] at hb;cases hb
    |bo l=>cases q with
     |bo m=>
      have e1:a.eval x=.bool l:=hvx
      have e2:a.eval y=.bool m:=hvy
      rw [e1,e2];exact LP hb x y
     |_=>simp only [jq] at hb;cases hb
    |_=>simp only [jq] at hb;cases hb
   obtain⟨v,hrun,hr⟩:=key
   refine dP hs (v:=v) ?_ hr
   unfold execOp
   rw [ho]
   simp only [Rw] at hrun⊢
   rw [hrun]
   rfl
  cases h
 ·rename_i p q hx hy
  obtain⟨vs,hpe,hl⟩:f9 β (.ag p) (a.eval x):=dG hsl hx
  obtain⟨us,hqe,hm⟩:f9 β (.ag q) (a.eval y):=dG hsl hy
  split at h
  ·simp only [Option.some.injEq] at h
   subst h
   obtain⟨h1,_⟩:=(show I6 P t p q (cN p q) from hc) β w x y vs us hl hm
   refine dP hs (v:=.bool (cN p q)) ?_ rfl
   unfold execOp
   rw [ho]
   simp only [Rw] at h1⊢
   rw [hpe,hqe,h1]
   rfl
  ·simp only [Option.some.injEq] at h
   subst h
   obtain⟨_,h1⟩:=(show I6 P t p q (cN p q) from hc) β w x y vs us hl hm
   refine dP hs (v:=.bool (!cN p q)) ?_ rfl
   unfold execOp
   rw [ho]
   simp only [Rw] at h1⊢
   rw [hpe,hqe,h1]
   rfl
  cases h
 cases h
theorem OW (hs:HSim β s.hp w) (hsl:SlotsR β s.sl a.tmps) (op:UnOp) (t:TypeId) (x:Operand) (ho:o.op=.unOp op t x) (h:bR P s ty (.unOp op t x)=some r):ia β s r w ((execOp a.eval o).run P w):=by
 simp only [bR] at h
 split at h
 ·rename_i b hx
  have hv:a.eval x=.bool b:=dG hsl hx
  split at h
  ·simp only [Option.some.injEq] at h
   subst h
   refine bM hs (v:=.bool (!b)) ?_ rfl
   unfold execOp
   rw [ho]
   simp [hv,Op.unary]
  cases h
 ·rename_i k n hx
  have hv:a.eval x=.int k n:=dG hsl hx
  split at h
  ·simp only [Option.some.injEq] at h
   subst h
   refine bM hs (v:=.int k (k.wrap (0 - n))) ?_ rfl
   unfold execOp
   rw [ho]
   simp [hv,Op.unary,Op.intArith]
  cases h
 cases h
theorem zx (hs:HSim β s.hp w) (hsl:SlotsR β s.sl a.tmps) (t:TypeId) (x:Operand) (f:Nat) (ho:o.op=.fieldAddr t x f) (h:bR P s ty (.fieldAddr t x f)=some r):ia β s r w ((execOp a.eval o).run P w):=by
 simp only [bR] at h
 split at h
 ·rename_i n k j off sz hx hf
  obtain⟨p,hp,hpe⟩:ScR β (.pt n k j) (a.eval x):=dG hsl hx
  simp only [Option.some.injEq] at h
  subst h
  unfold au at hf
  split at hf
  ·rename_i fs hfs
   split at hf
   ·rename_i g hg
    split at hf
    ·cases hf
    rename_i hz
    simp only [Option.some.injEq,Prod.mk.injEq] at hf
    obtain⟨rfl,rfl⟩:=hf
    refine bM hs (v:=.pointer (some ⟨p.blk,p.base+k*p.esz+(j+g.offset),none⟩)) ?_ ⟨p,hp,rfl⟩
    unfold execOp
    rw [ho]
    have hi:(P.info? g.type).isSome=true:=FV zO
    simp [hpe,Instr.fieldAt,run_underlying hfs,hg,Instr.sureAddr,fieldPlace,dw w hi,hz,Addr.add_lit,RW]
   cases hf
  cases hf
 cases h
theorem Jd (hs:HSim β s.hp w) (hsl:SlotsR β s.sl a.tmps) (t:TypeId) (x:Operand) (f:Nat) (ho:o.op=.field t x f) (h:bR P s ty (.field t x f)=some r):ia β s r w ((execOp a.eval o).run P w):=by
 simp only [bR] at h
 split at h
 ·rename_i cs off hx hf
  obtain⟨vs,hve,hl⟩:f9 β (.ag cs) (a.eval x):=dG hsl hx
  split at h
  ·rename_i c hc
   simp only [Option.some.injEq] at h
   subst h
   obtain⟨v,hv,hr⟩:=hl.get hc
   unfold Rn at hf
   split at hf
   ·rename_i fs hfs
    split at hf
    ·rename_i g hg
     split at hf
     ·rename_i hk
      simp only [Option.some.injEq] at hf
      subst hf
      simp only [RC,Se,eR] at hk
      obtain⟨⟨h1,_⟩,h2⟩:=hk
      obtain⟨d,hd⟩:=RQ.1 h1
      refine bM hs (v:=v) ?_ hr
      unfold execOp
      rw [ho]
      simp [hve,Instr.field,run_underlying hfs,hg,part,asAgg,fj w hd,h2,hv]
     cases hf
    cases hf
   cases hf
  cases h
 cases h
theorem zy (hs:HSim β s.hp w) (hsl:SlotsR β s.sl a.tmps) (t:TypeId) (x i:Operand) (ho:o.op=.indexAddr t x i) (h:bR P s ty (.indexAddr t x i)=some r) (hc:r.c):ia β s r w ((execOp a.eval o).run P w):=by
 simp only [bR] at h
 split at h
 ·rename_i n off len k m e sz hx hi ht0
  obtain⟨ht,hkn,rfl⟩:=gj ht0
  have hvx:ScR β (.sl n off len) (a.eval x):=dG hsl hx
  have hvi:a.eval i=.int k m:=dG hsl hi
  split at h
  ·rename_i ob hob
   split at h
   ·rename_i hesz
    simp only [Option.some.injEq] at h
    subst h
    obtain⟨h0,h1⟩:0<=m/\m < len:=hc
    obtain⟨ad,cap,hxe,hlc,hcm,hor⟩:=hvx
    rcases hor with rfl|⟨p,hp,rfl,hav⟩
    ·omega
    obtain⟨he,_⟩:=ig hs (cZ hob) hp
    refine dP hs (v:=.pointer (some ⟨p.blk,p.base+(off+m.toNat)*p.esz+0,none⟩)) ?_ ⟨p,hp,rfl⟩
    unfold execOp
    rw [ho]
    have hes:p.base+(off+m.toNat)*p.esz=p.base+off*p.esz+m.toNat*dS P e:=by rw [<-hesz,<-he,RL,RW]
    simp [hxe,hvi,Instr.indexAt,asIntOf,run_underlying (f5 ht),h0,h1,dw w (iL hkn),Addr.add_lit,hes]
   cases h
  cases h
 cases h
theorem Je (hs:HSim β s.hp w) (hsl:SlotsR β s.sl a.tmps) (t:TypeId) (x i:Operand) (ho:o.op=.index t x i) (h:bR P s ty (.index t x i)=some r) (hc:r.c):ia β s r w ((execOp a.eval o).run P w):=by
 simp only [bR] at h
 split at h
 ·rename_i l k m hx hi
  have hvx:a.eval x=.string ⟨l.toArray⟩:=dG hsl hx
  have hvi:a.eval i=.int k m:=dG hsl hi
  split at h
  ·rename_i ht
   simp only [Option.some.injEq] at h
   subst h
   obtain⟨h0,h1⟩:0<=m/\m < l.length:=hc
   have hlt:m.toNat < l.length:=zO
   refine dP hs (v:=.int .u8 (l.getD m.toNat 0).toNat) ?_ rfl
   unfold execOp
   rw [ho]
   have hg:(ByteArray.mk l.toArray)[m.toNat]? =some (l[m.toNat]'hlt):=by
    rw [getElem?_pos (ByteArray.mk l.toArray) m.toNat (by simpa [ByteArray.size] using hlt)]
    simp [ByteArray.getElem_eq_getElem_data]
   simp [hvx,hvi,Instr.index,asIntOf,run_underlying (pi ht),h0,hg,RE,Ry hlt]
  cases h
 cases h
theorem DZ (hs:HSim β s.hp w) (hsl:SlotsR β s.sl a.tmps) (x:Operand) (i:Nat) (ho:o.op=.extract x i) (h:bR P s ty (.extract x i)=some r):ia β s r w ((execOp a.eval o).run P w):=by
 simp only [bR] at h
 split at h
 ·rename_i l hx
  obtain⟨vs,hpe,hl⟩:f9 β (.tu l) (a.eval x):=dG hsl hx
  split at h
  ·rename_i c hc
   simp only [Option.some.injEq] at h
   subst h
   obtain⟨v,hv,hr⟩:=hl.get hc
   refine bM hs (v:=v) ?_ (Co.av_R hr)
   unfold execOp
   rw [ho]
   simp [hpe,Instr.extract,hv]
  cases h
 cases h
theorem Bu (hs:HSim β s.hp w) (hsl:SlotsR β s.sl a.tmps) (f:FuncId) (first caps:Array Operand) (ho:o.op=.makeFunc (.func f) first caps) (h:bR P s ty (.makeFunc (.func f) first caps)=some r):ia β s r w ((execOp a.eval o).run P w):=by
 simp only [bR] at h
 split at h
 ·rename_i hf
  have hf':first= #[]:=RK hf
  subst hf'
  split at h
  ·rename_i l hl
   simp only [Option.some.injEq] at h
   subst h
   refine bM hs (v:=.func (.func f) #[] (caps.toList.map a.eval).toArray) ?_ ⟨_,rfl,FT hsl hl⟩
   unfold execOp
   rw [ho]
   have e:caps.map a.eval=(caps.toList.map a.eval).toArray:=by apply Array.ext';simp
   simp [Instr.makeFunc,e]
  cases h
 cases h
theorem jV {α:Type} {l:Array α} {x y:α} (h:l.toList=[x,y]):l= #[x,y]:=by apply Array.ext';simpa using h
theorem sI {α:Type} {l:Array α} {x:α} (h:l.toList=[x]):l= #[x]:=by apply Array.ext';simpa using h
theorem NX (hs:HSim β s.hp w) (hsl:SlotsR β s.sl a.tmps) (args:Array Operand) (at_:Array TypeId) (ho:o.op=.call ⟨.builtin .len,args,at_⟩) (h:bR P s ty (.call ⟨.builtin .len,args,at_⟩)=some r):ia β s r w ((execOp a.eval o).run P w):=by
 simp only [bR] at h
 split at h
 ·rename_i x t ha ht
  have ha':=sI ha
  have ht':=sI ht
  subst ha';subst ht'
  split at h
  ·rename_i l hx
   have hv:a.eval x=.string ⟨l.toArray⟩:=dG hsl hx
   split at h
   ·rename_i hs'
    simp only [Option.some.injEq] at h
    subst h
    refine bM hs (v:=.int .i64 l.length) ?_ rfl
    unfold execOp
    rw [ho]
    have hz:(ByteArray.mk l.toArray).size=l.length:=rfl
    simp only [resolve,invoke,builtin,Builtin.len_,hv,run_underlying (pi hs'),goInt,hz,Rw,RB,Rv,List.map_toArray,Si,List.map_nil,R7,RT]
   cases h
  ·rename_i n off len hx
   obtain⟨ad,cap,hxe,_⟩:ScR β (.sl n off len) (a.eval x):=dG hsl hx
   split at h
   ·rename_i q hs'
    simp only [Option.some.injEq] at h
    subst h
    obtain⟨e,qn⟩:=q
    obtain⟨he,_⟩:=gj hs'
    refine bM hs (v:=.int .i64 len) ?_ rfl
    unfold execOp
    rw [ho]
    simp [resolve,invoke,builtin,Builtin.len_,hxe,run_underlying (f5 he),goInt]
   cases h
  ·rename_i hx
   obtain⟨ad,hxe⟩:ScR β .nil (a.eval x):=dG hsl hx
   split at h
   ·rename_i q hs'
    simp only [Option.some.injEq] at h
    subst h
    obtain⟨e,qn⟩:=q
    obtain⟨he,_⟩:=gj hs'
    refine bM hs (v:=.int .i64 0) ?_ rfl
    unfold execOp
    rw [ho]
    simp [resolve,invoke,builtin,Builtin.len_,hxe,run_underlying (f5 he),goInt]
   cases h
  cases h
 cases h
theorem NY (hs:HSim β s.hp w) (hsl:SlotsR β s.sl a.tmps) (args:Array Operand) (at_:Array TypeId) (ho:o.op=.call ⟨.builtin .min,args,at_⟩) (h:bR P s ty (.call ⟨.builtin .min,args,at_⟩)=some r):ia β s r w ((execOp a.eval o).run P w):=by
 simp only [bR] at h
 split at h
 ·rename_i x y ha
  have ha':=jV ha
  subst ha'
  split at h
  ·rename_i k m k' n hx hy
   have hvx:a.eval x=.int k m:=dG hsl hx
   have hvy:a.eval y=.int k' n:=dG hsl hy
   simp only [Option.some.injEq] at h
   subst h
   refine bM hs (v:=.int k (if n < m then n else m)) ?_ rfl
   unfold execOp
   rw [ho]
   simp [resolve,invoke,builtin,Builtin.min_,Builtin.min2,hvx,hvy]
  cases h
 cases h
theorem NZ (hs:HSim β s.hp w) (hsl:SlotsR β s.sl a.tmps) (args:Array Operand) (at_:Array TypeId) (ho:o.op=.call ⟨.builtin .max,args,at_⟩) (h:bR P s ty (.call ⟨.builtin .max,args,at_⟩)=some r):ia β s r w ((execOp a.eval o).run P w):=by
 simp only [bR] at h
 split at h
 ·rename_i x y ha
  have ha':=jV ha
  subst ha'
  split at h
  ·rename_i k m k' n hx hy
   have hvx:a.eval x=.int k m:=dG hsl hx
   have hvy:a.eval y=.int k' n:=dG hsl hy
   simp only [Option.some.injEq] at h
   subst h
   refine bM hs (v:=.int k (if m < n then n else m)) ?_ rfl
   unfold execOp
   rw [ho]
   simp [resolve,invoke,builtin,Builtin.max_,Builtin.max2,hvx,hvy]
  cases h
 cases h
end
end
section
open Go.RowKit
section
variable {P:Program} {β:Be} {s:S} {a:Act} {w:World} {o:Oper} {r:OpR} {ty:TypeId}
theorem eF (src dst:TypeId) (x:Operand) (ho:o.op=.convert src dst x) {v:Value} {w':World} (h:(convert src dst (a.eval x)).run P w=.ok v w'):(execOp a.eval o).run P w=.ok (.value v) w':=by
 unfold execOp
 rw [ho]
 simp only [Rw,h,Rv]
 rfl
theorem sJ {arr:Array Value} {base esz:Nat} {cs:List (List Sc)} (hc:dT β arr base esz cs) {off len:Nat} (hb:off+len<=cs.length) {k j:Nat} (hk:k < len) (hj:j < esz):
  ∃ c x v,cs[off+k]? =some c/\c[j]? =some x/\arr[base+(off+k)*esz+j]? =some v/\ScR β x v:=by
 have h1:cs[off+k]? =some (cs[off+k]' zO):=Ry zO
 obtain⟨hl,hcell⟩:=hc _ _ h1
 have h2:(cs[off+k]' zO)[j]? =some ((cs[off+k]' zO)[j]' zO):=Ry zO
 obtain⟨v,hv,hr⟩:=hcell j _ h2
 exact⟨_,_,v,h1,h2,hv,hr⟩
theorem LQ {c:List Sc} {x:Sc} (hb:ow c=true) (hx:c[0]? =some x):∃ n,c=[.int .u8 n]/\x=.int .u8 n:=by
 unfold ow at hb
 split at hb
 ·rename_i n
  simp at hx
  exact⟨n,rfl,hx.symm⟩
 cases hb
theorem LR {src dst:TypeId} {k:IntKind} (h:G9 P src dst=some (.int k)):(∃ d,P.underlying src=some d)/\P.underlying dst=some (.int k):=by
 unfold G9 at h
 split at h
 ·rename_i h1 h2
  simp only [Option.some.injEq,Cv.int.injEq] at h
  subst h
  exact⟨⟨_,h1⟩,h2⟩
 ·cases h
 ·split at h<;>cases h
 ·split at h<;>cases h
 cases h
theorem LS {src dst:TypeId} (h:G9 P src dst=some .str):P.underlying src=some .string/\P.underlying dst=some .string:=by
 unfold G9 at h
 split at h
 ·cases h
 ·rename_i h1 h2;exact⟨h1,h2⟩
 ·split at h<;>cases h
 ·split at h<;>cases h
 cases h
theorem LT {src dst e:TypeId} (h:G9 P src dst=some (.s2b e)):P.underlying src=some .string/\P.underlying dst=some (.slice e)/\P.underlying e=some (.int .u8):=by
 unfold G9 at h
 split at h
 ·cases h
 ·cases h
 ·rename_i h1 h2
  split at h
  ·rename_i h3
   simp only [Option.some.injEq,Cv.s2b.injEq] at h
   subst h
   exact⟨h1,h2,FU h3⟩
  cases h
 ·split at h<;>cases h
 cases h
theorem F0 {src dst:TypeId} (h:G9 P src dst=some .b2s):∃ e,P.underlying src=some (.slice e)/\P.underlying dst=some .string/\P.underlying e=some (.int .u8):=by
 unfold G9 at h
 split at h
 ·cases h
 ·cases h
 ·split at h<;>cases h
 ·rename_i e h1 h2
  split at h
  ·rename_i h3
   exact⟨e,h1,h2,FU h3⟩
  cases h
 cases h
theorem D0 (hs:HSim β s.hp w) (hsl:SlotsR β s.sl a.tmps) (src dst:TypeId) (x:Operand) (ho:o.op=.convert src dst x) (h:bR P s ty (.convert src dst x)=some r) (hc:r.c):ia β s r w ((execOp a.eval o).run P w):=by
 simp only [bR] at h
 split at h
 ·rename_i k' k n hcv hx
  have hv:a.eval x=.int k n:=dG hsl hx
  obtain⟨⟨d,hd⟩,hk'⟩:=LR hcv
  simp only [Option.some.injEq] at h
  subst h
  refine bM hs (v:=.int k' (k'.wrap n)) (eF src dst x ho ?_) rfl
  rw [hv]
  simp [convert,run_underlying hd,run_underlying hk',Conv.intToInt]
 ·rename_i l hcv hx
  have hv:a.eval x=.string ⟨l.toArray⟩:=dG hsl hx
  obtain⟨hd,hdst⟩:=LS hcv
  simp only [Option.some.injEq] at h
  subst h
  refine bM hs (v:=.string ⟨l.toArray⟩) (eF src dst x ho ?_) rfl
  rw [hv]
  simp [convert,run_underlying hd,run_underlying hdst]
 ·rename_i e l hcv hx
  have hv:a.eval x=.string ⟨l.toArray⟩:=dG hsl hx
  obtain⟨hd,hdst,hu8⟩:=LT hcv
  simp only [Option.some.injEq] at h
  subst h
  have hlen:l.length<=1073741824:=hc
  have hz:(ByteArray.mk l.toArray).size=l.length:=rfl
  have hrun:=Lib.run_convert_string_bytes (P:=P) w src dst e ⟨l.toArray⟩ hd hdst hu8
  have hge:=grownCap_ge w l.length 0 e
  have hle:=grownCap_le_maxLen w l.length 0 e (by unfold maxLen;omega)
  have hcells:(Lib.bytesCells w e ⟨l.toArray⟩).size=grownCap w l.length 0 e:=by
   simp only [Lib.bytesCells,hz,Array.size_append,Array.size_map,Array.size_replicate]
   have:(ByteArray.mk l.toArray).data.size=l.length:=rfl
   rw [this]
   omega
  let p:Pl:=⟨w.heap.size,0,1,grownCap w l.length 0 e⟩
  have hlike:World.like w (Lib.bytesWorld w e ⟨l.toArray⟩):=⟨rfl,rfl,rfl⟩
  refine⟨β++[some p],Lib.bytesWorld w e ⟨l.toArray⟩,lY hs.len hlike (by rw [Lib.bytesWorld_size];omega) (fun k hk=>Lib.bytesWorld_at_old w e _ k hk) p _ (RG _),
   ot hs (fun k hk=>Lib.bytesWorld_at_old w e _ k hk) (RG _) ?_ (fun _ c hm=>by
    simp only [Sk] at hm
    obtain⟨b,_,rfl⟩:=hm
    rfl),.inl ⟨.slice (some ⟨w.heap.size,0,none⟩) l.length (grownCap w l.length 0 e),_,eF src dst x ho (by rw [hv];exact hrun),rfl,?_⟩⟩
  ·refine⟨rfl,_,_,_,Lib.bytesWorld_at_new w e _,?_,fun hown=>by cases hown⟩
   refine gm (fun c hm=>?_) fun k j c y hk hj=>?_
   ·simp only [Sk] at hm
    obtain⟨b,_,rfl⟩:=hm
    rfl
   simp only [RU,RV] at hk
   obtain⟨b,hb,rfl⟩:=hk
   have hj0:j=0:=by have:=(Ru.1 hj).1;simpa [DU] using this
   subst hj0
   simp only [DU,RT,Option.some.injEq] at hj
   subst hj
   have hkl:k < l.length:=(Ru.1 hb).1
   refine⟨.int .u8 b.toNat,?_,rfl⟩
   simp only [Nat.mul_one,RY,Lib.bytesCells]
   rw [Array.getElem?_append_left (by simpa using hkl)]
   simp [hb]
  exact⟨_,_,rfl,hge,hle,.inr ⟨p,by rw [<-hs.len];simp,by simp [p],by simp [p]⟩⟩
 ·rename_i n off len hcv hx
  have hvx:ScR β (.sl n off len) (a.eval x):=dG hsl hx
  obtain⟨e,hsrc,hdst,hu8⟩:=F0 hcv
  split at h
  ·rename_i ob hob
   split at h
   ·rename_i hesz
    simp only [Option.some.injEq] at h
    subst h
    obtain⟨hb,hall⟩:off+len<=ob.cs.length/\∀ c∈ob.cs,ow c=true:=hc
    obtain⟨ad,cap,hxe,hlc,hcm,hor⟩:=hvx
    rcases hor with hcap|⟨p,hp,rfl,hav⟩
    ·have hl0:len=0:=zO
     subst hl0
     refine dP hs (v:=.string ⟨#[]⟩) (eF src dst x ho ?_) ?_
     ·rw [hxe]
      cases ad with
      |none=>exact run_convert_bytes_nil w src e hsrc hu8 0 cap dst hdst
      |some b=>
       rw [run_convert_bytes_string w src dst e _ 0 cap hsrc hu8 hdst,run_bytesToString w b 0 cap [] (by simp [loadCells,loadCellsFrom])]
       rfl
     show Value.string _=_
     simp
    obtain⟨he',arr,T,fz,hh,hcr,_⟩:=ig hs (cZ hob) hp
    rw [hesz] at hcr
    let num:List Sc->Int:=fun c=>match c with|[.int .u8 q]=>q|_=>0
    have hw:=run_convert_bytes_arg (P:=P) w src e hsrc hu8 p.blk (p.base+off*p.esz) len cap (((ob.cs.drop off).take len).map num) zS (fun i hi=>by
     obtain⟨c,y,v,h1,h2,h3,h4⟩:=sJ hcr hb hi (j:=0) zO
     obtain⟨q,rfl,rfl⟩:=LQ (hall c (RM h1)) h2
     rw [kS hh,he',hesz]
     have h5:(((ob.cs.drop off).take len).map num).getD i 0=q:=by
      rw [RE,RU,RI hi,RR,h1]
      rfl
     rw [h5]
     rw [show p.base+off*1+i=p.base+(off+i)*1+0 from by omega,h3,h4]) dst hdst
    refine dP hs (v:=.string (strOfNums (((ob.cs.drop off).take len).map num))) (eF src dst x ho (by rw [hxe];exact hw)) ?_
    show Value.string _=_
    congr 1
    unfold strOfNums
    congr 2
    rw [List.map_map]
    refine List.map_congr_left fun c hm=>?_
    have hb':=hall c (R9 (R8 hm))
    unfold ow at hb'
    split at hb'
    ·rfl
    cases hb'
   cases h
  cases h
 ·rename_i hcv hx
  obtain⟨ad,hxe⟩:ScR β .nil (a.eval x):=dG hsl hx
  obtain⟨e,hsrc,hdst,hu8⟩:=F0 hcv
  simp only [Option.some.injEq] at h
  subst h
  refine bM hs (v:=.string ⟨#[]⟩) (eF src dst x ho ?_) rfl
  rw [hxe]
  cases ad with
  |none=>exact run_convert_bytes_nil w src e hsrc hu8 0 0 dst hdst
  |some b=>
   rw [run_convert_bytes_string w src dst e _ 0 0 hsrc hu8 hdst,run_bytesToString w b 0 0 [] (by simp [loadCells,loadCellsFrom])]
   rfl
 cases h
theorem zz (hs:HSim β s.hp w) (hsl:SlotsR β s.sl a.tmps) (t:TypeId) (x y:Operand) (ho:o.op=.makeSlice t x y) (h:bR P s ty (.makeSlice t x y)=some r) (hc:r.c):ia β s r w ((execOp a.eval o).run P w):=by
 simp only [bR] at h
 split at h
 ·rename_i e sz he0
  obtain⟨he,_,rfl⟩:=gj he0
  split at h
  ·rename_i z hz0
   obtain⟨hz,hzl,hpos,_,hby,_⟩:=lZ hz0
   split at h
   ·rename_i k l k' c hx hy
    have hvx:a.eval x=.int k l:=dG hsl hx
    have hvy:a.eval y=.int k' c:=dG hsl hy
    simp only [Option.some.injEq] at h
    subst h
    obtain⟨h0,h1,h2⟩:0<=l/\l<=c/\c<=1073741824:=hc
    obtain⟨i,v,vs,hi,hzv,hvc,hsc⟩:=js hz
    have hr:=uy β hsc
    have hti:=uz hi
    have hvl:=hr.length
    have hbi:i.bytes<=131072:=by
     have:OT P e=i.bytes:=by simp [OT,hi]
     omega
    have hb2:(i.bytes:Int)*c<=281474976710656:=by
     obtain⟨m,rfl⟩:=Int.eq_ofNat_of_zero_le (show 0<=c by omega)
     have:i.bytes*m<=131072*m:=RD _ hbi
     have h3:((i.bytes*m:Nat):Int)<=281474976710656:=zO
     rwa [Int.natCast_mul] at h3
    have hrun:=run_make (P:=P) w t e i v (f5 he) hi hzv k k' l c h0 h1 hb2 zO
    refine pn hs (arr:=madeCells v.cells (c.toNat*i.size)) (v:=.slice (some ⟨w.heap.size,0,none⟩) l.toNat c.toNat) ?_ ?_ (fun h d hm=>by rw [RS hm];exact h) (I_ hs _ _ _ _ zO (by unfold maxLen;omega) ?_)
    ·unfold execOp
     rw [ho]
     simp only [hvx,hvy,Rw,hrun,Rv]
     rfl
    ·refine gm (fun d hm=>by rw [RS hm];exact hzl) fun m j d q hk hj=>?_
     have hkl:m < l.toNat:=by have:=(Ru.1 hk).1;simpa using this
     rw [RZ hkl] at hk
     simp only [Option.some.injEq] at hk
     subst hk
     obtain⟨u,hu,hru⟩:=hr.get hj
     have hjl:j < z.length:=(Ru.1 hj).1
     refine⟨u,?_,hru⟩
     have hzs:vs.toArray.size=i.size:=by simp;omega
     have hg:=yg vs.toArray c.toNat m j zO zO
     rw [hzs] at hg
     unfold madeCells
     rw [hvc,hzs]
     show ((Array.range (c.toNat*i.size)).map (vs.toArray[· % i.size]!))[m*dS P e+j]? =_
     rw [hti,hg]
     simpa using hu
    show c.toNat*dS P e<=(madeCells v.cells (c.toNat*i.size)).size
    rw [size_madeCells,hti]
    exact RG _
   cases h
  cases h
 cases h
theorem Bv {β:Be} {s:S} {a:Act} (hs:SlotsR β s.sl a.tmps) {x:Option Operand} {n:Option Int} (h:jr s x=some n):(x=none/\n=none)\/∃ k m,n=some m/\x.map a.eval=some (.int k m):=by
 cases x with
 |none=>simp only [jr,Option.some.injEq] at h;exact .inl ⟨rfl,h.symm⟩
 |some x=>
  simp only [jr] at h
  split at h
  ·rename_i k m hx
   simp only [Option.some.injEq] at h
   subst h
   have hv:a.eval x=.int k m:=dG hs hx
   exact .inr ⟨k,m,rfl,by simp [hv]⟩
  cases h
theorem eu (t:TypeId) (x:Operand) (lo hi:Option Operand) (ho:o.op=.slice t x lo hi none) {v:Value} {w':World} (h:(Instr.sliceAt t (a.eval x) (lo.map a.eval) (hi.map a.eval) none).run P w=.ok v w'):(execOp a.eval o).run P w=.ok (.value v) w':=by
 unfold execOp
 rw [ho]
 simp only [Option.map_none,Rw,h,Rv]
 rfl
theorem f6 {t:TypeId} (ht:DT P t=true) (l:List UInt8) (lo hi:Option Value) (m n:Nat) (hb:(Instr.sliceBounds false l.length l.length lo hi none).run P w=.ok (m,n,l.length) w):
  (Instr.sliceAt t (.string ⟨l.toArray⟩) lo hi none).run P w=.ok (.string ⟨((l.take n).drop m).toArray⟩) w:=by
 rw [run_sliceAt_string w t _ lo hi none (pi ht)]
 have hz:(ByteArray.mk l.toArray).size=l.length:=rfl
 simp only [Instr.slice,Rw,run_underlying (pi ht),Rv,Option.isSome_none,Bool.false_eq_true,if_false,RB,hz,hb]
 congr 2
 apply ByteArray.ext
 apply Array.ext'
 simp [ByteArray.data_extract,List.extract_eq_take_drop,List.take_drop]
 by_cases hmn:m<=n
 ·rw [Nat.add_sub_cancel' hmn]
 rw [R5 zS,R5 zS]
theorem lI (b:Bool) (len cap:Nat):(Instr.sliceBounds b len cap none none none).run P w=.ok (0,len,cap) w:=by simp [Instr.sliceBounds]
theorem nR (b:Bool) (len cap:Nat) (k:IntKind) (m:Int) (h0:0<=m) (h1:m<=len):(Instr.sliceBounds b len cap (some (.int k m)) none none).run P w=.ok (m.toNat,len,cap) w:=by
 simp [Instr.sliceBounds,run_sliceBound,h0,h1]
theorem nS (b:Bool) (len cap:Nat) (k:IntKind) (m:Int) (h0:0<=m) (h1:m<=cap):(Instr.sliceBounds b len cap none (some (.int k m)) none).run P w=.ok (0,m.toNat,cap) w:=by
 simp [Instr.sliceBounds,run_sliceBound,h0,h1]
theorem lJ (b:Bool) (len cap:Nat) (k k':IntKind) (m n:Int) (h0:0<=m) (h1:m<=n) (h2:n<=cap):(Instr.sliceBounds b len cap (some (.int k m)) (some (.int k' n)) none).run P w=.ok (m.toNat,n.toNat,cap) w:=by
 have h3:0<=n:=zO
 have h4:m<=(n.toNat:Int):=zO
 have e1:=run_sliceBound (P:=P) w k m n.toNat .sliceB h0 h4
 have e2:∀ c,(Instr.sliceBound (.int k' n) cap c).run P w=.ok n.toNat w:=fun c=>run_sliceBound (P:=P) w k' n cap c h3 h2
 cases b<;>simp [Instr.sliceBounds,e1,e2]
theorem gA {t e:TypeId} (ht:NU P t=some e) (hk:eR P e=true) (ad:Option Addr) (len cap:Nat) (lo hi:Option Value) (m n:Nat) (hb:(Instr.sliceBounds true len cap lo hi none).run P w=.ok (m,n,cap) w):
  (Instr.sliceAt t (.slice ad len cap) lo hi none).run P w=.ok (sliced ad m n cap (dS P e)) w:=by
 have hel:P.elem t=e:=by simp [Program.elem,f5 ht]
 have hu:P.underlying t=some (.slice (P.elem t)):=by rw [hel];exact f5 ht
 rw [run_sliceAt_slice w t _ lo hi none hu]
 have:=run_slice_any w t ad len cap hu lo hi none
 rw [this,hb]
 simp only [Rv,hel,dw w (iL hk)]
theorem pq {n off len esz:Nat} {ad:Option Addr} {cap m q:Nat} (hlc:len<=cap) (hcm:cap<=maxLen) (h:cap=0\/∃ p,β[n]? =some (some p)/\ad=some ⟨p.blk,p.base+off*p.esz,none⟩/\(off+cap)*p.esz<=p.avail)
  (hp:∀ p,β[n]? =some (some p)->p.esz=esz) (hmq:m<=q) (hq:q<=len):ScR β (.sl n (off+m) (q - m)) (sliced ad m q cap esz):=by
 refine⟨_,cap - m,rfl,zO,zO,?_⟩
 by_cases hc:cap=m
 ·exact .inl zO
 rcases h with h|⟨p,hp',rfl,hav⟩
 ·exact .inl zO
 refine .inr ⟨p,hp',?_,?_⟩
 ·rw [if_neg hc,<-hp p hp']
  simp [Addr.add_lit,RL,RW]
 rw [show off+m+(cap - m)=off+cap from by omega];exact hav
theorem Jf (hs:HSim β s.hp w) (hsl:SlotsR β s.sl a.tmps) (t:TypeId) (x:Operand) (lo hi:Option Operand) (ho:o.op=.slice t x lo hi none) (h:bR P s ty (.slice t x lo hi none)=some r) (hc:r.c):ia β s r w ((execOp a.eval o).run P w):=by
 simp only [bR] at h
 split at h
 ·rename_i v lo' hi' hx hlo hhi
  have hlo':=Bv hsl hlo
  have hhi':=Bv hsl hhi
  split at h
  ·rename_i l
   have hv:a.eval x=.string ⟨l.toArray⟩:=dG hsl hx
   split at h
   ·rename_i ht
    rcases hlo' with⟨rfl,rfl⟩|⟨k,m,rfl,hm⟩
    ·rcases hhi' with⟨rfl,rfl⟩|⟨k',n,rfl,hn⟩
     ·simp only [fi,Option.some.injEq] at h
      subst h
      refine bM hs (eu t x none none ho (by rw [hv];exact f6 ht l none none 0 l.length (lI _ _ _))) ?_
      show Value.string _=_
      simp
     simp only [fi,Option.some.injEq] at h
     subst h
     obtain⟨h0,h1⟩:0<=n/\n<=l.length:=hc
     refine dP hs (eu t x none hi ho (by rw [hv,hn];exact f6 ht l none _ 0 n.toNat (nS _ _ _ _ _ h0 h1))) ?_
     show Value.string _=_
     simp
    rcases hhi' with⟨rfl,rfl⟩|⟨k',n,rfl,hn⟩
    ·simp only [fi,Option.some.injEq] at h
     subst h
     obtain⟨h0,h1⟩:0<=m/\m<=l.length:=hc
     refine dP hs (eu t x lo none ho (by rw [hv,hm];exact f6 ht l _ none m.toNat l.length (nR _ _ _ _ _ h0 h1))) ?_
     show Value.string _=_
     simp
    simp only [fi,Option.some.injEq] at h
    subst h
    obtain⟨h0,h1,h2⟩:0<=m/\m<=n/\n<=l.length:=hc
    refine dP hs (eu t x lo hi ho (by rw [hv,hm,hn];exact f6 ht l _ _ m.toNat n.toNat (lJ _ _ _ _ _ _ _ h0 h1 h2))) ?_
    rfl
   cases h
  ·rename_i n off len
   have hvx:ScR β (.sl n off len) (a.eval x):=dG hsl hx
   split at h
   ·rename_i e sz ob he0 hob
    obtain⟨he,hkn,rfl⟩:=gj he0
    split at h
    ·rename_i hesz
     obtain⟨ad,cap,hxe,hlc,hcm,hor⟩:=hvx
     have hp:∀ p,β[n]? =some (some p)->p.esz=dS P e:=fun p hp=>by
      obtain⟨he',_⟩:=ig hs (cZ hob) hp
      rw [he',hesz]
     rcases hlo' with⟨rfl,rfl⟩|⟨k,m,rfl,hm⟩
     ·rcases hhi' with⟨rfl,rfl⟩|⟨k',q,rfl,hn⟩
      ·simp only [fi,Option.some.injEq] at h
       subst h
       refine bM hs (eu t x none none ho (by rw [hxe];exact gA he hkn ad len cap none none 0 len (lI _ _ _))) ?_
       have:=pq (m:=0) (q:=len) hlc hcm hor hp (R4 _) (RG _)
       show ScR β (Sc.sl n off len) _
       simpa using this
      simp only [fi,Option.some.injEq] at h
      subst h
      obtain⟨h0,h1⟩:0<=q/\q<=len:=hc
      refine dP hs (eu t x none hi ho (by rw [hxe,hn];exact gA he hkn ad len cap none _ 0 q.toNat (nS _ _ _ _ _ h0 zO))) ?_
      have:=pq (m:=0) (q:=q.toNat) hlc hcm hor hp (R4 _) zO
      show ScR β (Sc.sl n off q.toNat) _
      simpa using this
     rcases hhi' with⟨rfl,rfl⟩|⟨k',q,rfl,hn⟩
     ·simp only [fi,Option.some.injEq] at h
      subst h
      obtain⟨h0,h1⟩:0<=m/\m<=len:=hc
      refine dP hs (eu t x lo none ho (by rw [hxe,hm];exact gA he hkn ad len cap _ none m.toNat len (nR _ _ _ _ _ h0 h1))) ?_
      exact pq hlc hcm hor hp zO (RG _)
     simp only [fi,Option.some.injEq] at h
     subst h
     obtain⟨h0,h1,h2⟩:0<=m/\m<=q/\q<=len:=hc
     refine dP hs (eu t x lo hi ho (by rw [hxe,hm,hn];exact gA he hkn ad len cap _ _ m.toNat q.toNat (lJ _ _ _ _ _ _ _ h0 h1 zO))) ?_
     exact pq hlc hcm hor hp zO zO
    cases h
   cases h
  cases h
 cases h
end
end
end Go.Proofs.YtdiiopjaebnmfaaGreatDoor
