/- Lemmas of this claim. -/
import Derived.Tactics
import Derived.Below
import Derived.Laws.AppendOwn
import Derived.Laws.OwnMore
import Derived.Laws.Slices
import Derived.Laws.Small
import Derived.Laws.Strings
import Derived.KernelRfl
import Derived.Laws.MakeOwn
import Derived.Laws.BytesString
import Derived.Laws.BytesArg
import Derived.Laws.Build
import Derived.Laws.Concat
import Derived.Laws.StructEq
import Derived.Lib.ConvBytes
import Derived.Orders
import Derived.WalkKit
import Derived.ProofKit
import Derived.ShutString
import Derived.OpenShut
import Derived.ChangeOld
import Derived.Carry
import Derived.Test.YteknmpdmhiomgaaGreatChecked
import Derived.Laws.BitsLemmas
import Derived.JoinedOf
import Derived.Test.YteknmpdmhiomgaaGreatRows
set_option maxHeartbeats 16000000
set_option maxRecDepth 100000
set_option linter.unusedVariables false
set_option linter.unusedSimpArgs false
namespace Go.Proofs.YteknmpdmhiomgaaGreat
open _root_.Go.Proofs.Tryz
open _root_.List renaming getElem?_eq_some_iff->RP,getElem?_append_left->RQ,getElem?_append_right->RS,getElem?_eq_none->RU,getElem?_eq_getElem->RX,getElem?_set->R1,getElem?_take_of_lt->R2,getD_eq_getElem?_getD->R4,getElem?_map->R8,getElem?_drop->Sb,mem_of_getElem?->Sd,mem_of_mem_take->Se,mem_of_mem_drop->Sf,getElem?_range->Sg,mem_or_eq_of_mem_set->Si,eq_of_mem_replicate->Sk,getElem?_cons_zero->Sl,getElem?_toArray->Sp,getElem?_replicate_of_lt->Sq,eq_nil_of_length_eq_zero->Sr,drop_eq_nil_of_le->Sx,mem_iff_getElem?->Sy,map_cons->Sz,mem_map->SI,zipIdx_cons->SL,all_eq_true->SM,map_toArray->SN,mem_cons->SQ,map_nil->SR
open _root_.Go.Result renaming andThen_ok->RR
open _root_.Go.Sem renaming run_bind->RT,run_pure->RY
open _root_.Nat renaming le_refl->RV,mul_le_mul_right->RW,add_mul->R0,zero_add->R3,lt_trichotomy->R7,add_zero->Sj,zero_le->Sm,add_assoc->So,add_sub_cancel_left->Sw,lt_or_ge->SC,le_trans->SD,mul_comm->SG,lt_or_gt_of_ne->SH,mul_le_mul->SP
open _root_.Bool renaming and_eq_true->RZ,not_eq_true'->SJ
open _root_.Array renaming getElem?_toList->R5,getElem?_eq_some_iff->R6,getElem?_setIfInBounds_ne->R_,eq_empty_of_size_eq_zero->Sa,getElem?_append_left->Ss,getElem?_map->SF,size_append->SK
open _root_.Option renaming isSome_iff_exists->R9,map_some->Sh,map_eq_some_iff->Sn,getD_some->Su,bind_eq_some_iff->Sv
section
open Go.RowKit
theorem zO {p:Prop} (h:p:=by omega):p:=h
theorem zF {p:Prop} (h:p:=by rfl):p:=h
theorem zP {p:Prop} (h:p:=by simp):p:=h
theorem zD {p:Prop} (h:p:=by decide):p:=h
theorem zS {p:Prop} (h:p:=by simp;omega):p:=h
theorem zQ:(∀ {p:Prop} [Decidable p],(decide p=true)=p)/\(∀ {p:Prop} [Decidable p],decide p=false↔ ¬p)/\(∀ {α:Type} [BEq α] [LawfulBEq α] {a b:α},(a==b)=true↔a=b)/\(∀ {α:Type} [BEq α] [LawfulBEq α] {a b:α},(a==b)=false↔a≠b)/\(∀ {α:Type} [BEq α] [LawfulBEq α] {a b:α},(a != b)=true↔a≠b)/\(∀ {α:Type} [BEq α] [LawfulBEq α] {a b:α},(a != b)=false↔a=b)/\(∀ {α:Type} (a b:α),(a≠b)=¬(a=b))/\(∀ {p:Prop} [Decidable p],¬¬p↔p)/\(∀ (a b:Bool),((a&&b)=true)=(a=true/\b=true))/\(∀ {x y:Bool},(x&&y)=false↔x=false\/y=false)/\(∀ (a b:Bool),((a||b)=true)=(a=true\/b=true))/\(∀ {x y:Bool},(x||y)=false↔x=false/\y=false)/\(∀ {n m:Nat},(n:Int)<(m:Int)↔n<m)/\(∀ {m n:Nat},(m:Int)<=(n:Int)↔m<=n)/\(∀ {a b:Bool},(!a)=b↔a= !b)/\((!true)=false)/\((!false)=true):=⟨decide_eq_true_eq,decide_eq_false_iff_not,beq_iff_eq,beq_eq_false_iff_ne,bne_iff_ne,bne_eq_false_iff_eq,ne_eq,Decidable.not_not,RZ,Bool.and_eq_false_iff,Bool.or_eq_true,Bool.or_eq_false_iff,Int.ofNat_lt,Int.ofNat_le,Bool.not_eq_eq_eq_not,Bool.not_true,Bool.not_false⟩
theorem zR:(∀ (b:Bool),(b==true)=b)/\(∀ (b:Bool),(b==false)= !b)/\(∀ (b:Bool),((!b)=true)=(b=false))/\(∀ (b:Bool),((!b)=false)=(b=true)):=⟨beq_true,beq_false,SJ,Bool.not_eq_false'⟩
def L2 {α β:Type} (R:α->β->Prop):List α->List β->Prop
 |[],[]=>True
 |a::l,b::m=>R a b/\L2 R l m
 |_,_=>False
theorem L2.length {α β:Type} {R:α->β->Prop}:∀ {l:List α} {m:List β},L2 R l m->l.length=m.length
 |[],[],_=>rfl
 |_::_,_::_,h=>by simp [L2.length h.2]
 |[],_::_,h=>h.elim
 |_::_,[],h=>h.elim
theorem L2.get {α β:Type} {R:α->β->Prop}:∀ {l:List α} {m:List β},L2 R l m->∀ {i:Nat} {x:α},l[i]? =some x->∃ y,m[i]? =some y/\R x y
 |[],[],_,i,x,h=>by simp at h
 |a::l,b::m,h,0,x,hx=>by simp at hx;subst hx;exact⟨b,zP,h.1⟩
 |a::l,b::m,h,i+1,x,hx=>by simp at hx;obtain⟨y,hy,hr⟩:=L2.get h.2 hx;exact⟨y,by simpa using hy,hr⟩
 |[],_::_,h,_,_,_=>h.elim
 |_::_,[],h,_,_,_=>h.elim
theorem L2.mono {α β:Type} {R S:α->β->Prop} (hrs:∀ a b,R a b->S a b):∀ {l:List α} {m:List β},L2 R l m->L2 S l m
 |[],[],_=>trivial
 |_::_,_::_,h=>⟨hrs _ _ h.1,L2.mono hrs h.2⟩
 |[],_::_,h=>h.elim
 |_::_,[],h=>h.elim
theorem L2.of_get {α β:Type} {R:α->β->Prop}:∀ {l:List α} {m:List β},l.length=m.length->(∀ (i:Nat) (x:α) (y:β),l[i]? =some x->m[i]? =some y->R x y)->L2 R l m
 |[],[],_,_=>trivial
 |a::l,b::m,hl,h=>⟨h 0 a b zP zP,L2.of_get (by simpa using hl) (fun i x y hx hy=>h (i+1) x y (by simpa using hx) (by simpa using hy))⟩
 |[],_::_,hl,_=>by simp at hl
 |_::_,[],hl,_=>by simp at hl
theorem L2.append {α β:Type} {R:α->β->Prop}:∀ {l:List α} {m:List β} {l':List α} {m':List β},L2 R l m->L2 R l' m'->L2 R (l++l') (m++m')
 |[],[],_,_,_,h=>h
 |_::_,_::_,_,_,h,h'=>⟨h.1,L2.append h.2 h'⟩
 |[],_::_,_,_,h,_=>h.elim
 |_::_,[],_,_,h,_=>h.elim
theorem L2.take {α β:Type} {R:α->β->Prop}:∀ {l:List α} {m:List β} (n:Nat),L2 R l m->L2 R (l.take n) (m.take n)
 |_,_,0,_=>by simp [L2]
 |[],[],_+1,_=>by simp [L2]
 |_::_,_::_,n+1,h=>⟨h.1,L2.take n h.2⟩
 |[],_::_,_,h=>h.elim
 |_::_,[],_,h=>h.elim
theorem L2.drop {α β:Type} {R:α->β->Prop}:∀ {l:List α} {m:List β} (n:Nat),L2 R l m->L2 R (l.drop n) (m.drop n)
 |_,_,0,h=>by simpa using h
 |[],[],_+1,_=>by simp [L2]
 |_::_,_::_,n+1,h=>by simpa using L2.drop n h.2
 |[],_::_,_,h=>h.elim
 |_::_,[],_,h=>h.elim
theorem L2.map {α β γ:Type} {R:α->β->Prop} {S:γ->β->Prop} {f:α->γ} (hf:∀ a b,R a b->S (f a) b):∀ {l:List α} {m:List β},L2 R l m->L2 S (l.map f) m
 |[],[],_=>trivial
 |_::_,_::_,h=>⟨hf _ _ h.1,L2.map hf h.2⟩
 |[],_::_,h=>h.elim
 |_::_,[],h=>h.elim
inductive Sc where
 |int (k:IntKind) (n:Int)
 |bo (b:Bool)
 |st (l:List UInt8)
 |nil
 |sl (o off len:Nat)
 |pt (o k j:Nat)
 |un
inductive Co where
 |sc (s:Sc)
 |ag (cs:List Sc)
inductive AV where
 |sc (s:Sc)
 |ag (cs:List Sc)
 |tu (l:List Co)
 |cl (f:Nat) (caps:List Sc)
def Co.av:Co->AV
 | .sc s=>.sc s
 | .ag cs=>.ag cs
def AV.cells:AV->Option (List Sc)
 | .sc s=>some [s]
 | .ag cs=>some cs
 |_=>none
structure Pl where
 blk:Nat
 base:Nat
 esz:Nat
 avail:Nat
abbrev Be:=List (Option Pl)
def ScR (β:Be):Sc->Value->Prop
 | .int k n,v=>v=.int k n
 | .bo b,v=>v=.bool b
 | .st l,v=>v=.string ⟨l.toArray⟩
 | .nil,v=>∃ a,v=.slice a 0 0
 | .sl o off len,v=>∃ a cap,v=.slice a len cap/\len<=cap/\cap<=maxLen/\
   (cap=0\/∃ p,β[o]? =some (some p)/\a=some ⟨p.blk,p.base+off*p.esz,none⟩/\(off+cap)*p.esz<=p.avail)
 | .pt o k j,v=>∃ p,β[o]? =some (some p)/\v=.pointer (some ⟨p.blk,p.base+k*p.esz+j,none⟩)
 | .un,v=>∃ p,v=.pointer p
def Fg (β:Be):Co->Value->Prop
 | .sc s,v=>ScR β s v
 | .ag cs,v=>∃ vs:List Value,v=.agg vs.toArray/\L2 (ScR β) cs vs
def gm (β:Be):AV->Value->Prop
 | .sc s,v=>ScR β s v
 | .ag cs,v=>∃ vs:List Value,v=.agg vs.toArray/\L2 (ScR β) cs vs
 | .tu l,v=>∃ vs:List Value,v=.tuple vs.toArray/\L2 (Fg β) l vs
 | .cl f caps,v=>∃ vs:List Value,v=.func (.func f) #[] vs.toArray/\L2 (ScR β) caps vs
def Be.le (β β':Be):Prop:=∀ (o:Nat) (p:Option Pl),β[o]? =some p->β'[o]? =some p
theorem Be.le.refl (β:Be):Be.le β β:=fun _ _ h=>h
theorem Be.le.trans {a b c:Be} (h:Be.le a b) (k:Be.le b c):Be.le a c:=fun o p hp=>k o p (h o p hp)
theorem Be.le_append (β l:Be):Be.le β (β++l):=fun o p h=>by
 have hlt:o < β.length:=(RP.1 h).1
 rw [RQ hlt];exact h
theorem ScR.mono {β β':Be} (h:Be.le β β'):∀ {s:Sc} {v:Value},ScR β s v->ScR β' s v
 | .int ..,_,hv=>hv
 | .bo ..,_,hv=>hv
 | .st ..,_,hv=>hv
 | .nil,_,hv=>hv
 | .un,_,hv=>hv
 | .sl ..,_,⟨a,cap,hv,h1,h2,h3⟩=>⟨a,cap,hv,h1,h2,h3.imp id fun⟨p,hp,r⟩=>⟨p,h _ _ hp,r⟩⟩
 | .pt ..,_,⟨p,hp,hv⟩=>⟨p,h _ _ hp,hv⟩
theorem Fg.mono {β β':Be} (h:Be.le β β'):∀ {s:Co} {v:Value},Fg β s v->Fg β' s v
 | .sc _,_,hv=>ScR.mono h hv
 | .ag _,_,⟨vs,hv,hl⟩=>⟨vs,hv,hl.mono fun _ _=>ScR.mono h⟩
theorem gm.mono {β β':Be} (h:Be.le β β'):∀ {s:AV} {v:Value},gm β s v->gm β' s v
 | .sc _,_,hv=>ScR.mono h hv
 | .ag _,_,⟨vs,hv,hl⟩=>⟨vs,hv,hl.mono fun _ _=>ScR.mono h⟩
 | .tu _,_,⟨vs,hv,hl⟩=>⟨vs,hv,hl.mono fun _ _=>Fg.mono h⟩
 | .cl ..,_,⟨vs,hv,hl⟩=>⟨vs,hv,hl.mono fun _ _=>ScR.mono h⟩
theorem Co.av_R {β:Be} {c:Co} {v:Value} (h:Fg β c v):gm β c.av v:=by cases c<;>exact h
theorem ScR.one {β:Be} {s:Sc} {v:Value} (h:ScR β s v):v.oneCell'=true:=by
 cases s with
 |int k n=>subst h;rfl
 |bo b=>subst h;rfl
 |st l=>subst h;rfl
 |nil=>obtain⟨a,rfl⟩:=h;rfl
 |sl o off len=>obtain⟨a,cap,rfl,_⟩:=h;rfl
 |pt o k j=>obtain⟨p,_,rfl⟩:=h;rfl
 |un=>obtain⟨p,rfl⟩:=h;rfl
theorem ScR.cells {β:Be} {s:Sc} {v:Value} (h:ScR β s v):v.cells= #[v]:=by
 cases s with
 |int k n=>subst h;rfl
 |bo b=>subst h;rfl
 |st l=>subst h;rfl
 |nil=>obtain⟨a,rfl⟩:=h;rfl
 |sl o off len=>obtain⟨a,cap,rfl,_⟩:=h;rfl
 |pt o k j=>obtain⟨p,_,rfl⟩:=h;rfl
 |un=>obtain⟨p,rfl⟩:=h;rfl
theorem gm.cells {β:Be} {x:AV} {cs:List Sc} {v:Value} (hc:x.cells=some cs) (h:gm β x v):∃ vs:List Value,v.cells=vs.toArray/\L2 (ScR β) cs vs:=by
 cases x with
 |sc s=>
  simp only [AV.cells,Option.some.injEq] at hc
  subst hc
  exact⟨[v],by rw [ScR.cells h],⟨h,trivial⟩⟩
 |ag l=>
  simp only [AV.cells,Option.some.injEq] at hc
  subst hc
  obtain⟨vs,rfl,hl⟩:=h
  exact⟨vs,rfl,hl⟩
 |tu l=>simp [AV.cells] at hc
 |cl f l=>simp [AV.cells] at hc
theorem L2.one {β:Be} {cs:List Sc} {vs:List Value} (h:L2 (ScR β) cs vs):∀ v∈vs,v.oneCell'=true:=by
 induction cs generalizing vs with
 |nil=>cases vs with
  |nil=>simp
  |cons=>exact h.elim
 |cons s l ih=>cases vs with
  |nil=>simp
  |cons v m=>
   intro x hx
   rcases SQ.1 hx with rfl|hx
   ·exact h.1.one
   exact ih h.2 x hx
structure AObj where
 cs:List (List Sc)
 esz:Nat
 ty:TypeId
 own:Bool
 fl:Bool
def Sc.isFlat:Sc->Bool
 | .int .. | .bo _| .st _=>true
 |_=>false
def j8:List Sc->Bool
 |[]=>true
 |s::l=>s.isFlat && j8 l
def FlatL (cs:List (List Sc)):Prop:=∀ c∈cs,j8 c=true
abbrev Hp:=List (Option AObj)
def dY (β:Be) (arr:Array Value) (base esz:Nat) (cs:List (List Sc)):Prop:=
 ∀ k c,cs[k]? =some c->c.length=esz/\∀ j s,c[j]? =some s->∃ v,arr[base+k*esz+j]? =some v/\ScR β s v
def ObR (β:Be) (w:World) (p:Option Pl) (ob:AObj):Prop:=
 match p with
 |none=>ob.cs=[]
 |some p=>p.esz=ob.esz/\∃ arr T fz,w.heap[p.blk]? =some (.cells arr T fz)/\dY β arr p.base ob.esz ob.cs/\
   (ob.own=true->T=ob.ty/\fz=(0,0)/\p.base=0/\p.avail=arr.size)
structure HSim (β:Be) (h:Hp) (w:World):Prop where
 len:β.length=h.length
 ob:∀ (o:Nat) (ob:AObj),h[o]? =some (some ob)->∃ p,β[o]? =some p/\ObR β w p ob
 flat:∀ (o:Nat) (ob:AObj),h[o]? =some (some ob)->ob.fl=true->FlatL ob.cs
 apart:∀ (o o':Nat) (ob ob':AObj) (p p':Pl),h[o]? =some (some ob)->h[o']? =some (some ob')->ob.own=true->β[o]? =some (some p)->β[o']? =some (some p')->o≠o'->p.blk≠p'.blk
theorem dY.mono {β β':Be} (h:Be.le β β') {arr:Array Value} {base esz:Nat} {cs:List (List Sc)} (hc:dY β arr base esz cs):dY β' arr base esz cs:=
 fun k c hk=>⟨(hc k c hk).1,fun j s hs=>let⟨v,hv,hr⟩:=(hc k c hk).2 j s hs;⟨v,hv,hr.mono h⟩⟩
theorem ObR.mono {β β':Be} (h:Be.le β β') {w:World} {p:Option Pl} {ob:AObj} (ho:ObR β w p ob):ObR β' w p ob:=by
 cases p with
 |none=>exact ho
 |some p=>obtain⟨h1,arr,T,fz,h2,h3,h4⟩:=ho;exact⟨h1,arr,T,fz,h2,h3.mono h,h4⟩
theorem ObR.world {β:Be} {w w':World} {p:Option Pl} {ob:AObj} (ho:ObR β w p ob) (hw:∀ q,p=some q->w'.heap[q.blk]? =w.heap[q.blk]?):ObR β w' p ob:=by
 cases p with
 |none=>exact ho
 |some p=>obtain⟨h1,arr,T,fz,h2,h3,h4⟩:=ho;exact⟨h1,arr,T,fz,(hw p rfl).trans h2,h3,h4⟩
theorem ObR.lt {β:Be} {w:World} {p:Pl} {ob:AObj} (ho:ObR β w (some p) ob):p.blk < w.heap.size:=by
 obtain⟨_,arr,T,fz,h2,_⟩:=ho
 exact (R6.1 h2).1
theorem Fh {β:Be} {h:Hp} {w w':World} (hs:HSim β h w) (hw:∀ k,k < w.heap.size->w'.heap[k]? =w.heap[k]?):HSim β h w':=
 ⟨hs.len,fun o ob ho=>let⟨p,hp,hr⟩:=hs.ob o ob ho;⟨p,hp,hr.world fun q hq=>by subst hq;exact hw _ hr.lt⟩,hs.flat,hs.apart⟩
theorem pR {β:Be} {h:Hp} {w w':World} (hs:HSim β h w) (hw:∀ k,k < w.heap.size->w'.heap[k]? =w.heap[k]?) {ob:AObj} {p:Pl} (hp:w.heap.size<=p.blk)
  (hob:ObR (β++[some p]) w' (some p) ob) (hfl:ob.fl=true->FlatL ob.cs):HSim (β++[some p]) (h++[some ob]) w':=by
 have hs':=Fh hs hw
 have hle:=Be.le_append β [some p]
 have key:∀ {o:Nat} {x:AObj},(h++[some ob])[o]? =some (some x)->(o < h.length/\h[o]? =some (some x))\/(o=h.length/\x=ob):=by
  intro o x hx
  rcases R7 o h.length with hlt|he|hgt
  ·rw [RQ hlt] at hx;exact .inl ⟨hlt,hx⟩
  ·subst he;simp at hx;exact .inr ⟨rfl,hx.symm⟩
  rw [RS zO] at hx
  rw [RU zS] at hx
  cases hx
 have kb:∀ {o:Nat} {q:Option Pl},o < h.length->(β++[some p])[o]? =some q->β[o]? =some q:=by
  intro o q ho hq
  rwa [RQ (by rw [hs.len];exact ho)] at hq
 have kn:(β++[some p])[h.length]? =some (some p):=by rw [<-hs.len];simp
 have lt:∀ {o:Nat} {x:AObj} {q:Pl},h[o]? =some (some x)->β[o]? =some (some q)->q.blk < w.heap.size:=by
  intro o x q hx hq
  obtain⟨p',hp',hr⟩:=hs.ob o x hx
  rw [hq] at hp'
  cases hp'
  exact hr.lt
 refine⟨by simp [hs.len],fun o x hx=>?_,fun o x hx hf=>by rcases key hx with⟨_,hx⟩|⟨_,rfl⟩;exact hs.flat o x hx hf;exact hfl hf,fun o o' x x' q q' hx hx' hown hq hq' hne=>?_⟩
 ·rcases key hx with⟨hlt,hx⟩|⟨rfl,rfl⟩
  ·obtain⟨q,hq,hr⟩:=hs'.ob o x hx
   exact⟨q,hle _ _ hq,hr.mono hle⟩
  exact⟨some p,kn,hob⟩
 rcases key hx with⟨hlt,h1⟩|⟨rfl,rfl⟩
 ·rcases key hx' with⟨hlt',h1'⟩|⟨rfl,rfl⟩
  ·exact hs.apart o o' x x' q q' h1 h1' hown (kb hlt hq) (kb hlt' hq') hne
  rw [kn] at hq'
  simp only [Option.some.injEq] at hq'
  subst hq'
  have:=lt h1 (kb hlt hq)
  omega
 rw [kn] at hq
 simp only [Option.some.injEq] at hq
 subst hq
 rcases key hx' with⟨hlt',h1'⟩|⟨rfl,rfl⟩
 ·have:=lt h1' (kb hlt' hq')
  omega
 exact absurd rfl hne
theorem zG {β:Be} {h:Hp} {w:World} (hs:HSim β h w) {ob:AObj} (hob:ob.cs=[]):HSim (β++[none]) (h++[some ob]) w:=by
 have hle:=Be.le_append β [none]
 have key:∀ {o:Nat} {x:AObj},(h++[some ob])[o]? =some (some x)->(o < h.length/\h[o]? =some (some x))\/(o=h.length/\x=ob):=by
  intro o x hx
  rcases R7 o h.length with hlt|he|hgt
  ·rw [RQ hlt] at hx;exact .inl ⟨hlt,hx⟩
  ·subst he;simp at hx;exact .inr ⟨rfl,hx.symm⟩
  rw [RS zO] at hx
  rw [RU zS] at hx
  cases hx
 have kb:∀ {o:Nat} {q:Option Pl},o < h.length->(β++[none])[o]? =some q->β[o]? =some q:=by
  intro o q ho hq
  rwa [RQ (by rw [hs.len];exact ho)] at hq
 have kn:(β++[none])[h.length]? =some none:=by rw [<-hs.len];simp
 refine⟨by simp [hs.len],fun o x hx=>?_,fun o x hx hf=>(by rcases key hx with⟨_,hx⟩|⟨_,rfl⟩;exact hs.flat o x hx hf;rw [hob];intro c hc;cases hc),fun o o' x x' q q' hx hx' hown hq hq' hne=>?_⟩
 ·rcases key hx with⟨hlt,hx⟩|⟨rfl,rfl⟩
  ·obtain⟨q,hq,hr⟩:=hs.ob o x hx
   exact⟨q,hle _ _ hq,hr.mono hle⟩
  exact⟨none,kn,hob⟩
 rcases key hx with⟨hlt,h1⟩|⟨rfl,rfl⟩
 ·rcases key hx' with⟨hlt',h1'⟩|⟨rfl,rfl⟩
  ·exact hs.apart o o' x x' q q' h1 h1' hown (kb hlt hq) (kb hlt' hq') hne
  rw [kn] at hq';cases hq'
 rw [kn] at hq;cases hq
theorem Iy {β:Be} {h:Hp} {w:World} (hs:HSim β h w) (n:Nat):HSim β (h.set n none) w:=by
 have key:∀ {o:Nat} {x:AObj},(h.set n none)[o]? =some (some x)->h[o]? =some (some x):=by
  intro o x hx
  rw [R1] at hx
  split at hx
  ·split at hx<;>cases hx
  exact hx
 exact⟨by simp [hs.len],fun o x hx=>hs.ob o x (key hx),fun o x hx=>hs.flat o x (key hx),fun o o' x x' q q' hx hx'=>hs.apart o o' x x' q q' (key hx) (key hx')⟩
abbrev Slots:=List (List (Option AV))
def Slots.get (s:Slots) (i:Nat):Option AV:=(s.getD (i / 16) []).getD (i % 16) none
def Slots.put (s:Slots) (i:Nat) (v:Option AV):Slots:=s.set (i / 16) ((s.getD (i / 16) []).set (i % 16) v)
def Slots.has (s:Slots) (i:Nat):Prop:=i % 16 < (s.getD (i / 16) []).length
theorem Slots.put_has (s:Slots) (d i:Nat) (v:Option AV):(s.put d v).has i↔s.has i:=by
 unfold Slots.has Slots.put
 simp only [R4,R1]
 by_cases he:d / 16=i / 16
 ·rw [if_pos he]
  by_cases hl:d / 16 < s.length
  ·simp [hl,<-he]
  have:s[i / 16]? =none:=RU zO
  simp [hl,this]
 rw [if_neg he]
theorem Slots.get_put (s:Slots) (d i:Nat) (v:Option AV):(s.put d v).get i=if i=d then (if d % 16 < (s.getD (d / 16) []).length then v else none) else s.get i:=by
 unfold Slots.get Slots.put
 simp only [R4,R1]
 by_cases he:d / 16=i / 16
 ·rw [if_pos he]
  by_cases hl:d / 16 < s.length
  ·simp only [hl,if_true,Su,R1]
   by_cases hm:d % 16=i % 16
   ·have hid:i=d:=zO
    subst hid
    simp only [if_true]
    split<;>simp
   have hid:¬ i=d:=zO
   simp [hm,hid,he]
  have h1:s[i / 16]? =none:=RU zO
  have h2:s[d / 16]? =none:=RU zO
  simp [hl,h1,h2]
 have hid:¬ i=d:=by intro e;subst e;exact he rfl
 rw [if_neg he,if_neg hid]
def SlotsR (β:Be) (s:Slots) (t:Array Value):Prop:=
 (∀ i,s.has i->i < t.size)/\∀ i v,s.get i=some v->∃ u,t[i]? =some u/\gm β v u
theorem SlotsR.mono {β β':Be} (h:Be.le β β') {s:Slots} {t:Array Value} (hs:SlotsR β s t):SlotsR β' s t:=
 ⟨hs.1,fun i v hv=>let⟨u,hu,hr⟩:=hs.2 i v hv;⟨u,hu,hr.mono h⟩⟩
theorem SlotsR.put {β:Be} {s:Slots} {t:Array Value} (hs:SlotsR β s t) (d:Nat) {v:AV} {u:Value} (hv:gm β v u):SlotsR β (s.put d (some v)) (t.setIfInBounds d u):=by
 refine⟨fun i hi=>by rw [Slots.put_has] at hi;simpa using hs.1 i hi,fun i x hx=>?_⟩
 rw [Slots.get_put] at hx
 by_cases hid:i=d
 ·subst hid
  simp only [if_true] at hx
  split at hx
  ·rename_i hl
   cases hx
   have hlt:=hs.1 i hl
   exact⟨u,by simp [hlt],hv⟩
  cases hx
 rw [if_neg hid] at hx
 obtain⟨y,hy,hr⟩:=hs.2 i x hx
 exact⟨y,by rw [R_ (Ne.symm hid)];exact hy,hr⟩
theorem SlotsR.putNone {β:Be} {s:Slots} {t:Array Value} (hs:SlotsR β s t) (d:Nat) (u:Value):SlotsR β (s.put d none) (t.setIfInBounds d u):=by
 refine⟨fun i hi=>by rw [Slots.put_has] at hi;simpa using hs.1 i hi,fun i x hx=>?_⟩
 rw [Slots.get_put] at hx
 by_cases hid:i=d
 ·subst hid
  simp only [if_true] at hx
  split at hx<;>cases hx
 rw [if_neg hid] at hx
 obtain⟨y,hy,hr⟩:=hs.2 i x hx
 exact⟨y,by rw [R_ (Ne.symm hid)];exact hy,hr⟩
structure S where
 sl:Slots
 hp:Hp
def S.put (s:S) (d:Option Nat) (v:Option AV) (h:Hp):S:=
 match d with
 |some d=>⟨s.sl.put d v,h⟩
 |none=>⟨s.sl,h⟩
def Own (β:Be) (h:Hp) (k:Nat):Prop:=∃ (o:Nat) (ob:AObj) (p:Pl),h[o]? =some (some ob)/\ob.own=true/\β[o]? =some (some p)/\p.blk=k
structure StepR (β β':Be) (h h':Hp) (w w':World):Prop where
 le:Be.le β β'
 os:w'.os=w.os
 tape:w'.tape=w.tape
 output:w'.output=w.output
 size:w.heap.size<=w'.heap.size
 block:∀ k,k < w.heap.size->¬ Own β h k->w'.heap[k]? =w.heap[k]?
 len:h.length<=h'.length
 old:∀ (o:Nat) (ob':AObj),o < h.length->h'[o]? =some (some ob')->∃ ob,h[o]? =some (some ob)/\(ob'.own=true->ob.own=true)
 fresh:∀ (o:Nat) (ob:AObj) (p:Pl),h.length<=o->h'[o]? =some (some ob)->β'[o]? =some (some p)->Own β h p.blk\/w.heap.size<=p.blk
theorem StepR.own {β β':Be} {h h':Hp} {w w':World} (s:StepR β β' h h' w w') (hl:β.length=h.length) {k:Nat} (hk:Own β' h' k):Own β h k\/w.heap.size<=k:=by
 obtain⟨o,ob,p,ho,hown,hp,rfl⟩:=hk
 rcases SC o h.length with hlt|hge
 ·obtain⟨ob0,ho0,h0⟩:=s.old o ob hlt ho
  have hb:∃ q,β[o]? =some q:=⟨β[o]' zO,RX zO⟩
  obtain⟨q,hq⟩:=hb
  have:=s.le _ _ hq
  rw [hp] at this
  cases this
  exact .inl ⟨o,ob0,p,ho0,h0 hown,hq,rfl⟩
 exact s.fresh o ob p hge ho hp
theorem StepR.refl (β:Be) (h:Hp) (w:World) (hl:β.length=h.length):StepR β β h h w w:=
 ⟨Be.le.refl _,rfl,rfl,rfl,RV _,fun _ _ _=>rfl,RV _,fun o ob _ h=>⟨ob,h,id⟩,fun o ob p ho h1 _=>by
  rw [RU ho] at h1;cases h1⟩
theorem StepR.trans {a b c:Be} {h1 h2 h3:Hp} {w1 w2 w3:World} (la:a.length=h1.length) (lb:b.length=h2.length) (s:StepR a b h1 h2 w1 w2) (t:StepR b c h2 h3 w2 w3):StepR a c h1 h3 w1 w3:=by
 refine⟨s.le.trans t.le,t.os.trans s.os,t.tape.trans s.tape,t.output.trans s.output,SD s.size t.size,fun k hk hn=>?_,SD s.len t.len,fun o ob hlt ho=>?_,fun o ob p hge ho hp=>?_⟩
 ·rw [t.block k (by have:=s.size;omega) (fun hown=>by rcases s.own la hown with h|h;exact hn h;omega)]
  exact s.block k hk hn
 ·obtain⟨ob2,ho2,h2⟩:=t.old o ob (by have:=s.len;omega) ho
  obtain⟨ob1,ho1,h1⟩:=s.old o ob2 hlt ho2
  exact⟨ob1,ho1,fun h=>h1 (h2 h)⟩
 rcases SC o h2.length with hlt|hge2
 ·obtain⟨ob2,ho2,h2'⟩:=t.old o ob hlt ho
  have hq:b[o]? =some (b[o]' zO):=RX zO
  have h4:=t.le _ _ hq
  rw [hp] at h4
  simp only [Option.some.injEq] at h4
  rw [<-h4] at hq
  exact s.fresh o ob2 p hge ho2 hq
 rcases t.fresh o ob p hge2 ho hp with h|h
 ·exact s.own la h
 exact .inr (SD s.size h)
def World.like (w w':World):Prop:=w'.os=w.os/\w'.tape=w.tape/\w'.output=w.output
theorem m9 {β:Be} {h:Hp} {w w':World} (hl:β.length=h.length) (hlike:World.like w w') (hsz:w.heap.size<=w'.heap.size) (hw:∀ k,k < w.heap.size->w'.heap[k]? =w.heap[k]?) (p:Pl) (ob:AObj) (hp:w.heap.size<=p.blk):
  StepR β (β++[some p]) h (h++[some ob]) w w':=
 ⟨Be.le_append _ _,hlike.1,hlike.2.1,hlike.2.2,hsz,fun k hk _=>hw k hk,zP,fun o ob' hlt ho=>by
  rw [RQ hlt] at ho;exact⟨ob',ho,id⟩,fun o ob' q hge ho hq=>by
  have he:o=h.length:=by
   rcases R7 o h.length with h1|h1|h1
   ·omega
   ·exact h1
   rw [RS zO,RU zS] at ho;cases ho
  subst he
  rw [<-hl] at hq
  simp at hq
  subst hq
  exact .inr hp⟩
def dZ (P:Program) (t:TypeId):Nat:=((P.info? t).map (·.size)).getD 0
def Pu (P:Program) (t:TypeId):Nat:=((P.info? t).map (·.bytes)).getD 0
def Sc.ofV:Value->Option Sc
 | .int k n=>some (.int k n)
 | .bool b=>some (.bo b)
 | .string s=>some (.st s.data.toList)
 | .slice none 0 0=>some .nil
 | .pointer none=>some .un
 |_=>none
def Oi:List Value->Option (List Sc)
 |[]=>some []
 |v::r=>match Sc.ofV v,Oi r with
  |some s,some l=>some (s::l)
  |_,_=>none
def G_ (P:Program) (t:TypeId):Option (List Sc):=(P.info? t).bind fun i=>i.zero.bind fun v=>Oi v.cells.toList
def dg (P:Program) (t:TypeId):Bool:=
 match P.underlying t with
 |some (.struct _)|some (.array _ _)=>true
 |_=>false
def fJ (P:Program) (t:TypeId):Bool:=(P.underlying t).isSome && (P.info? t).isSome
def ak (P:Program) (t:TypeId) (f:Nat):Option (Nat×Nat):=
 match P.underlying t with
 |some (.struct fs)=>match fs[f]? with
  |some x=>if dZ P x.type=0 then none else some (x.offset,dZ P x.type)
  |none=>none
 |_=>none
def RH (P:Program) (t:TypeId) (f:Nat):Option Nat:=
 match P.underlying t with
 |some (.struct fs)=>match fs[f]? with
  |some x=>if fJ P x.type && !dg P x.type then some x.offset else none
  |none=>none
 |_=>none
def CO (P:Program) (t:TypeId):Bool:=
 match P.underlying t with
 |some (.struct fs)=>fs.toList.all fun x=>dZ P x.type != 0
 |_=>false
def OI (P:Program) (t:TypeId):Option TypeId:=
 match P.underlying t with
 |some (.slice e)=>some e
 |_=>none
def Q8 (P:Program) (t:TypeId):Option IntKind:=
 match P.underlying t with
 |some (.int k)=>some k
 |_=>none
def Fi (P:Program) (t:TypeId):Bool:=
 match P.underlying t with
 |some .string=>true
 |_=>false
def vL (P:Program) (t:TypeId):Bool:=
 match P.underlying t with
 |some .bool=>true
 |_=>false
def AV.ofV:Value->Option AV
 | .agg cs=>(Oi cs.toList).map .ag
 | .func (.func f) a b=>if a.size=0/\b.size=0 then some (.cl f []) else none
 |v=>(Sc.ofV v).map .sc
def S.ev (s:S):Operand->Option AV
 | .tmp t=>s.sl.get t
 | .const v=>AV.ofV v
 | .func f=>some (.cl f [])
 | .global _=>none
def S.obj (s:S) (o:Nat):Option AObj:=s.hp.getD o none
def zH {α:Type}:List α->Nat->Bool
 |[],0=>true
 |_::l,n+1=>zH l n
 |_,_=>false
theorem rk {α:Type}:∀ {l:List α} {n:Nat},zH l n=true->l.length=n
 |[],0,_=>rfl
 |_::l,n+1,h=>by simp [rk (l:=l) (n:=n) h]
 |[],_+1,h=>by cases h
 |_::_,0,h=>by cases h
def fits {α:Type}:List α->Nat->Nat->Bool
 |_,0,0=>true
 |_::c,0,n+1=>fits c 0 n
 |_::c,j+1,n=>fits c j n
 |_,_,_=>false
theorem oz {α:Type}:∀ {c:List α} {j n:Nat},fits c j n=true->j+n<=c.length
 |c,0,0,_=>Sm _
 |_::c,0,n+1,h=>by have:=oz (c:=c) (j:=0) (n:=n) h;simp;omega
 |_::c,j+1,n,h=>by have:=oz (c:=c) (j:=j) (n:=n) (by cases n<;>exact h);simp;omega
 |[],0,n+1,h=>by cases h
 |[],j+1,n,h=>by cases n<;>cases h
def over:List Sc->List Sc->List Sc
 |c,[]=>c
 |_::c,b::l=>b::over c l
 |[],_=>[]
def OJ:List Sc->Nat->List Sc->List Sc
 |c,0,l=>over c l
 |a::c,j+1,l=>a::OJ c j l
 |[],_,_=>[]
def Q9:Nat->Nat->Bool
 |0,_=>true
 |n+1,m+1=>Q9 n m
 |_+1,0=>false
theorem J3:∀ {n m:Nat},Q9 n m=true->n<=m
 |0,_,_=>Sm _
 |n+1,m+1,h=>by have:=J3 (n:=n) (m:=m) h;omega
 |_+1,0,h=>by cases h
def tz (P:Program) (e:TypeId):Option (List Sc):=
 match G_ P e with
 |some z=>if z.length=dZ P e/\0 < dZ P e/\dZ P e<=65536/\Pu P e<=131072/\fJ P e=true then some z else none
 |none=>none
theorem m_ {P:Program} {e:TypeId} {z:List Sc} (h:tz P e=some z):G_ P e=some z/\z.length=dZ P e/\0 < dZ P e/\dZ P e<=65536/\Pu P e<=131072/\fJ P e=true:=by
 unfold tz at h
 split at h
 ·rename_i z' hz
  split at h
  ·rename_i hc
   simp only [Option.some.injEq] at h
   subst h
   exact⟨hz,hc⟩
  cases h
 cases h
def bi (P:Program) (t:TypeId):Option (Option Nat):=
 if fJ P t then (if dg P t then some (some (dZ P t)) else some none) else none
def gA (P:Program) (t:TypeId):Option Nat:=if fJ P t then some (dZ P t) else none
def cz (P:Program) (t:TypeId):Option (List Sc):=if CO P t then tz P t else none
def zJ (P:Program) (t:TypeId):Option (TypeId×Nat):=
 match OI P t with
 |some e=>if fJ P e then some (e,dZ P e) else none
 |none=>none
theorem iR {P:Program} {t e:TypeId} {n:Nat} (h:zJ P t=some (e,n)):OI P t=some e/\fJ P e=true/\n=dZ P e:=by
 unfold zJ at h
 split at h
 ·rename_i e' he
  split at h
  ·rename_i hk
   simp only [Option.some.injEq,Prod.mk.injEq] at h
   obtain⟨rfl,rfl⟩:=h
   exact⟨he,hk,rfl⟩
  cases h
 cases h
inductive Cv where
 |int (k:IntKind)
 |str
 |s2b (e:TypeId)
 |b2s
def Iz (P:Program) (src dst:TypeId):Option Cv:=
 match P.underlying src,P.underlying dst with
 |some (.int _),some (.int k)=>some (.int k)
 |some .string,some .string=>some .str
 |some .string,some (.slice e)=>if Q8 P e=some .u8 then some (.s2b e) else none
 |some (.slice e),some .string=>if Q8 P e=some .u8 then some .b2s else none
 |_,_=>none
def CP:List (List Sc)->Bool
 |[]=>true
 |c::r=>j8 c && CP r
theorem zK:∀ {cs:List (List Sc)},CP cs=true->FlatL cs
 |[],_=>fun c hc=>by cases hc
 |c::r,h=>by
  simp only [CP,RZ] at h
  intro d hd
  rcases SQ.1 hd with rfl|hd
  ·exact h.1
  exact zK h.2 d hd
theorem l7:∀ {a b:List Sc},j8 a=true->j8 b=true->j8 (a++b)=true
 |[],_,_,h=>h
 |s::a,b,h,k=>by
  simp only [j8,RZ,List.cons_append] at h⊢
  exact⟨h.1,l7 h.2 k⟩
theorem gR:∀ {a:List Sc},j8 a=true↔∀ s∈a,s.isFlat=true
 |[]=>by simp [j8]
 |s::a=>by simp [j8,gR (a:=a)]
structure OpR where
 v:Option AV
 hp:Hp
 c:Prop
def kX (c:List Sc) (j:Nat) (l:List Sc):List Sc:=c.take j++(l++c.drop (j+l.length))
def J4 (P:Program) (t:TypeId) (a b:List Sc) (r:Bool):Prop:=
 ∀ (β:Be) (w:World) (x y:Operand) (vs us:List Value),L2 (ScR β) a vs->L2 (ScR β) b us->
  (do eqGuard .eql t x y (.agg vs.toArray) (.agg us.toArray);binOp .eql t (.agg vs.toArray) (.agg us.toArray)).run P w=.ok (.bool r) w/\
  (do eqGuard .neq t x y (.agg vs.toArray) (.agg us.toArray);binOp .neq t (.agg vs.toArray) (.agg us.toArray)).run P w=.ok (.bool (!r)) w
def IA:Sc->Sc->Bool
 | .int _ a,.int _ b=>a == b
 | .bo a,.bo b=>a == b
 | .st a,.st b=>a == b
 |_,_=>false
def dc:List Sc->List Sc->Bool
 |[],[]=>true
 |a::l,b::m=>IA a b && dc l m
 |_,_=>false
def pS (P:Program) (t:TypeId) (a b:List Sc):Prop:=J4 P t a b (dc a b)
def CQ (op:BinOp) (k:IntKind) (a b:Int):Option (Sc×Prop):=
 match op with
 | .add=>some (.int k (k.wrap (a+b)),True)
 | .sub=>some (.int k (k.wrap (a - b)),True)
 | .mul=>some (.int k (k.wrap (a*b)),True)
 | .quo=>some (.int k (k.wrap (a.tdiv b)),b≠0)
 | .rem=>some (.int k (a.tmod b),b≠0)
 | .and=>some (.int k (k.wrap (BitVec.ofInt k.bits a &&& BitVec.ofInt k.bits b).toNat),True)
 | .or=>some (.int k (k.wrap (BitVec.ofInt k.bits a |||BitVec.ofInt k.bits b).toNat),True)
 | .xor=>some (.int k (k.wrap (BitVec.ofInt k.bits a ^^^ BitVec.ofInt k.bits b).toNat),True)
 | .eql=>some (.bo (a == b),True)
 | .neq=>some (.bo (a != b),True)
 | .lss=>some (.bo (decide (a < b)),True)
 | .leq=>some (.bo (decide (a<=b)),True)
 | .gtr=>some (.bo (decide (b < a)),True)
 | .geq=>some (.bo (decide (b<=a)),True)
 |_=>none
def kG (P:Program) (t:TypeId) (op:BinOp):Sc->Sc->Option (Sc×Prop)
 | .int k a,.int k' b=>match op with
  | .shl=>some (.int k (k.wrap (a*2 ^ (min b.toNat k.bits))),0<=b)
  | .shr=>some (.int k (a.fdiv (2 ^ (min b.toNat k.bits))),0<=b)
  |op=>if k=k' then CQ op k a b else none
 | .st a,.st b=>match op with
  | .add=>some (.st (a++b),a.length+b.length<=4611686018427387904)
  | .eql=>some (.bo (a == b),True)
  | .neq=>some (.bo (!(a == b)),True)
  |_=>none
 | .bo a,.bo b=>match op with
  | .eql=>match vL P t with
   |true=>some (.bo (a == b),True)
   |false=>none
  | .neq=>match vL P t with
   |true=>some (.bo (!(a == b)),True)
   |false=>none
  |_=>none
 |_,_=>none
def zL (pl:Nat->Option (Nat×Nat)) (cells:List Sc):List (Nat×List Sc)->Option (List Sc)
 |[]=>some cells
 |(i,v)::rest=>match pl i with
  |none=>none
  |some (off,size)=>match zH v size && fits cells off size with
   |true=>zL pl (OJ cells off v) rest
   |false=>none
def zM (esz:Nat) (cs:List (List Sc)):List (Nat×List Sc)->Option (List (List Sc))
 |[]=>some cs
 |(i,v)::rest=>match zH v esz && fits cs i 1 with
  |true=>zM esz (cs.set i v) rest
  |false=>none
def S.parts (s:S):List (Nat×Operand)->Option (List (Nat×List Sc))
 |[]=>some []
 |(i,x)::rest=>match s.ev x with
  |some v=>match v.cells with
   |some cs=>match s.parts rest with
    |some l=>some ((i,cs)::l)
    |none=>none
   |none=>none
  |none=>none
def S.scals (s:S):List Operand->Option (List Sc)
 |[]=>some []
 |x::rest=>match s.ev x with
  |some (.sc c)=>match s.scals rest with
   |some l=>some (c::l)
   |none=>none
  |_=>none
def vM:List Sc->UInt8
 |[.int .u8 n]=>UInt8.ofNat n.toNat
 |_=>0
def Fj (b:UInt8):List Sc:=[.int .u8 b.toNat]
def pT:List Sc->Bool
 |[.int .u8 _]=>true
 |_=>false
def j9 (s:S):Option Operand->Option (Option Int)
 |none=>some none
 |some x=>match s.ev x with
  |some (.sc (.int _ n))=>some (some n)
  |_=>none
def S.new (s:S) (ob:AObj) (v:AV):OpR:=⟨some v,s.hp++[some ob],True⟩
def S.val (s:S) (v:AV):OpR:=⟨some v,s.hp,True⟩
def S.valc (s:S) (v:AV) (c:Prop):OpR:=⟨some v,s.hp,c⟩
def fK (s:S):AV->Option Int->Option Int->Option OpR
 | .sc (.st l),none,none=>some (s.val (.sc (.st l)))
 | .sc (.st l),some a,none=>some (s.valc (.sc (.st (l.drop a.toNat))) (0<=a/\a<=l.length))
 | .sc (.st l),none,some b=>some (s.valc (.sc (.st (l.take b.toNat))) (0<=b/\b<=l.length))
 | .sc (.st l),some a,some b=>some (s.valc (.sc (.st ((l.take b.toNat).drop a.toNat))) (0<=a/\a<=b/\b<=l.length))
 | .sc (.sl o off len),none,none=>some (s.val (.sc (.sl o off len)))
 | .sc (.sl o off len),some a,none=>some (s.valc (.sc (.sl o (off+a.toNat) (len - a.toNat))) (0<=a/\a<=len))
 | .sc (.sl o off len),none,some b=>some (s.valc (.sc (.sl o off b.toNat)) (0<=b/\b<=len))
 | .sc (.sl o off len),some a,some b=>some (s.valc (.sc (.sl o (off+a.toNat) (b.toNat - a.toNat))) (0<=a/\a<=b/\b<=len))
 |_,_,_=>none
def oC (P:Program) (s:S) (t:TypeId) (a x:AV):Option OpR:=
 match zJ P t with
 |none=>none
 |some (e,sz)=>match tz P e with
  |none=>none
  |some _=>match a,x with
   | .sc (.sl o off len),.sc .nil=>some (s.val (.sc (.sl o off len)))
   | .sc .nil,.sc .nil=>some (s.val (.sc .nil))
   | .sc .nil,.sc (.sl o off len)=>match s.obj o with
    |some ob=>if ob.esz=sz then some ⟨some (.sc (.sl s.hp.length 0 len)),s.hp++[some ⟨(ob.cs.drop off).take len,sz,e,true,ob.fl⟩],off+len<=ob.cs.length/\len<=1073741824⟩ else none
    |none=>none
   | .sc (.sl o' off' len'),.sc (.sl o off len)=>match s.obj o',s.obj o with
    |some ob',some ob=>if ob.esz=sz/\ob'.esz=sz/\ob'.own=true/\ob'.ty=e/\off'=0/\o'≠o then
      some ⟨some (.sc (.sl s.hp.length 0 (len'+len))),s.hp.set o' none++[some ⟨ob'.cs++(ob.cs.drop off).take len,sz,e,true,ob'.fl && ob.fl⟩],ob'.cs.length=len'/\off+len<=ob.cs.length/\len'+len<=1073741824⟩ else none
    |_,_=>none
   |_,_=>none
def cr (P:Program) (s:S) (ty:TypeId):Op->Option OpR
 | .move x| .assign x=>match s.ev x with
  |some v=>some (s.val v)
  |none=>none
 | .pick c a b=>match s.ev c with
  |some (.sc (.bo true))=>match s.ev a with
   |some v=>some (s.val v)
   |none=>none
  |some (.sc (.bo false))=>match s.ev b with
   |some v=>some (s.val v)
   |none=>none
  |_=>none
 | .alloc e=>match tz P e with
  |some z=>some (s.new ⟨[z],z.length,e,true,false⟩ (.sc (.pt s.hp.length 0 0)))
  |none=>none
 | .box e x=>match s.ev x with
  |some v=>match v.cells with
   |some cs=>some (s.new ⟨[cs],cs.length,e,true,false⟩ (.sc (.pt s.hp.length 0 0)))
   |none=>none
  |none=>none
 | .build t parts=>match cz P t with
  |some z=>match s.parts parts.toList with
   |some l=>match zL (ak P t) z l with
    |some cs=>some (s.val (.ag cs))
    |none=>none
   |none=>none
  |none=>none
 | .buildSlice t len parts=>match zJ P t with
  |some (e,sz)=>match tz P e with
   |some z=>match s.parts parts.toList with
    |some l=>match Q9 len 256 with
     |true=>match zM sz (List.replicate len z) l with
      |some cs=>some (s.new ⟨cs,sz,e,true,CP cs⟩ (.sc (.sl s.hp.length 0 len)))
      |none=>none
     |false=>none
    |none=>none
   |none=>none
  |none=>none
 | .load t a=>match s.ev a with
  |some (.sc (.pt o k j))=>match s.obj o with
   |some ob=>match ob.cs[k]? with
    |some c=>match bi P t with
     |some (some n)=>match fits c j n with
      |true=>some (s.val (.ag ((c.drop j).take n)))
      |false=>none
     |some none=>match c[j]? with
      |some x=>some (s.val (.sc x))
      |none=>none
     |none=>none
    |none=>none
   |none=>none
  |_=>none
 | .store t a x=>match s.ev a with
  |some (.sc (.pt o k j))=>match s.obj o with
   |some ob=>match ob.cs[k]? with
    |some c=>match s.ev x with
     |some v=>match v.cells with
      |some vs=>match gA P t with
       |some n=>match zH vs n && fits c j n && ob.own with
        |true=>some ⟨none,s.hp.set o (some { ob with cs:=ob.cs.set k (OJ c j vs),fl:=ob.fl && j8 vs }),True⟩
        |false=>none
       |none=>none
      |none=>none
     |none=>none
    |none=>none
   |none=>none
  |_=>none
 | .nilCheck x=>match s.ev x with
  |some (.sc (.pt o k j))=>some (s.val (.sc (.pt o k j)))
  |some (.cl f caps)=>some (s.val (.cl f caps))
  |_=>none
 | .binOp op t x y _=>match s.ev x,s.ev y with
  |some (.sc a),some (.sc b)=>match kG P t op a b with
   |some (r,c)=>some (s.valc (.sc r) c)
   |none=>none
  |some (.ag a),some (.ag b)=>match op with
   | .eql=>some (s.valc (.sc (.bo (dc a b))) (pS P t a b))
   | .neq=>some (s.valc (.sc (.bo (!dc a b))) (pS P t a b))
   |_=>none
  |_,_=>none
 | .unOp op _ x=>match s.ev x with
  |some (.sc (.bo b))=>match op with
   | .not=>some (s.val (.sc (.bo (!b))))
   |_=>none
  |some (.sc (.int k n))=>match op with
   | .neg=>some (s.val (.sc (.int k (k.wrap (0 - n)))))
   |_=>none
  |_=>none
 | .convert src dst x=>match Iz P src dst,s.ev x with
  |some (.int k'),some (.sc (.int k n))=>some (s.val (.sc (.int k' (k'.wrap n))))
  |some .str,some (.sc (.st l))=>some (s.val (.sc (.st l)))
  |some (.s2b e),some (.sc (.st l))=>some (⟨some (.sc (.sl s.hp.length 0 l.length)),s.hp++[some ⟨l.map Fj,1,e,false,true⟩],l.length<=1073741824⟩)
  |some .b2s,some (.sc (.sl o off len))=>match s.obj o with
   |some ob=>if ob.esz=1 then some (s.valc (.sc (.st (((ob.cs.drop off).take len).map vM))) (off+len<=ob.cs.length/\∀ c∈ob.cs,pT c=true)) else none
   |none=>none
  |some .b2s,some (.sc .nil)=>some (s.val (.sc (.st [])))
  |_,_=>none
 | .makeSlice t l c=>match zJ P t with
  |some (e,sz)=>match tz P e with
   |some z=>match s.ev l,s.ev c with
    |some (.sc (.int _ l)),some (.sc (.int _ c))=>some ⟨some (.sc (.sl s.hp.length 0 l.toNat)),s.hp++[some ⟨List.replicate l.toNat z,sz,e,true,j8 z⟩],0<=l/\l<=c/\c<=1073741824⟩
    |_,_=>none
   |none=>none
  |none=>none
 | .slice t x lo hi none=>match s.ev x,j9 s lo,j9 s hi with
  |some v,some lo,some hi=>match v with
   | .sc (.st _)=>match Fi P t with
    |true=>fK s v lo hi
    |false=>none
   | .sc (.sl o _ _)=>match zJ P t,s.obj o with
    |some (_,sz),some ob=>if ob.esz=sz then fK s v lo hi else none
    |_,_=>none
   |_=>none
  |_,_,_=>none
 | .fieldAddr t x f=>match s.ev x,ak P t f with
  |some (.sc (.pt o k j)),some (off,_)=>some (s.val (.sc (.pt o k (j+off))))
  |_,_=>none
 | .field t x f=>match s.ev x,RH P t f with
  |some (.ag cs),some off=>match cs[off]? with
   |some c=>some (s.val (.sc c))
   |none=>none
  |_,_=>none
 | .indexAddr t x i=>match s.ev x,s.ev i,zJ P t with
  |some (.sc (.sl o off len)),some (.sc (.int _ i)),some (_,sz)=>match s.obj o with
   |some ob=>if ob.esz=sz then some (s.valc (.sc (.pt o (off+i.toNat) 0)) (0<=i/\i < len)) else none
   |none=>none
  |_,_,_=>none
 | .index t x i=>match s.ev x,s.ev i with
  |some (.sc (.st l)),some (.sc (.int _ i))=>match Fi P t with
   |true=>some (s.valc (.sc (.int .u8 (l.getD i.toNat 0).toNat)) (0<=i/\i < l.length))
   |false=>none
  |_,_=>none
 | .extract x i=>match s.ev x with
  |some (.tu l)=>match l[i]? with
   |some c=>some (s.val c.av)
   |none=>none
  |_=>none
 | .makeFunc (.func f) first caps=>if first.size=0 then match s.scals caps.toList with
   |some l=>some (s.val (.cl f l))
   |none=>none else none
 | .call { callee:=.builtin .len,args,argTypes }=>match args.toList,argTypes.toList with
  |[x],[t]=>match s.ev x with
   |some (.sc (.st l))=>match Fi P t with
    |true=>some (s.val (.sc (.int .i64 l.length)))
    |false=>none
   |some (.sc (.sl _ _ len))=>match zJ P t with
    |some _=>some (s.val (.sc (.int .i64 len)))
    |none=>none
   |some (.sc .nil)=>match zJ P t with
    |some _=>some (s.val (.sc (.int .i64 0)))
    |none=>none
   |_=>none
  |_,_=>none
 | .call { callee:=.builtin .append,args,argTypes }=>match args.toList,argTypes.toList with
  |[x,y],[t,t']=>if t=t' then match s.ev x,s.ev y with
   |some a,some b=>oC P s t a b
   |_,_=>none else none
  |_,_=>none
 | .call { callee:=.builtin .min,args,argTypes }=>match args.toList with
  |[x,y]=>match s.ev x,s.ev y with
   |some (.sc (.int k a)),some (.sc (.int k' b))=>some (s.val (.sc (.int k (if b < a then b else a))))
   |_,_=>none
  |_=>none
 | .call { callee:=.builtin .max,args,argTypes }=>match args.toList with
  |[x,y]=>match s.ev x,s.ev y with
   |some (.sc (.int k a)),some (.sc (.int k' b))=>some (s.val (.sc (.int k (if a < b then b else a))))
   |_,_=>none
  |_=>none
 |_=>none
theorem Oj {v:Value} {s:Sc} (h:Sc.ofV v=some s) (β:Be):ScR β s v:=by
 unfold Sc.ofV at h
 split at h
 all_goals first
  |(simp only [Option.some.injEq] at h;subst h;first|rfl|exact⟨_,rfl⟩)
  |cases h
theorem vN (β:Be):∀ {vs:List Value} {l:List Sc},Oi vs=some l->L2 (ScR β) l vs
 |[],l,h=>by simp only [Oi,Option.some.injEq] at h;subst h;trivial
 |v::r,l,h=>by
  simp only [Oi] at h
  split at h
  ·rename_i s m h1 h2
   simp only [Option.some.injEq] at h
   subst h
   exact⟨Oj h1 β,vN β h2⟩
  cases h
theorem MH {v:Value} {x:AV} (h:AV.ofV v=some x) (β:Be):gm β x v:=by
 unfold AV.ofV at h
 split at h
 ·rename_i cs
  simp only [Sn] at h
  obtain⟨l,h1,rfl⟩:=h
  exact⟨cs.toList,zP,vN β h1⟩
 ·rename_i f a b
  split at h
  ·rename_i h0
   simp only [Option.some.injEq] at h
   subst h
   obtain⟨ha,hb⟩:=h0
   have ha':a= #[]:=Sa ha
   have hb':b= #[]:=Sa hb
   subst ha';subst hb'
   exact⟨[],rfl,trivial⟩
  cases h
 simp only [Sn] at h
 obtain⟨l,h1,rfl⟩:=h
 exact Oj h1 β
theorem dN {β:Be} {s:S} {a:Act} (hs:SlotsR β s.sl a.tmps) {x:Operand} {v:AV} (h:s.ev x=some v):gm β v (a.eval x):=by
 cases x with
 |tmp t=>
  obtain⟨u,hu,hr⟩:=hs.2 t v h
  have:a.eval (.tmp t)=u:=by simp [Act.eval,Array.getD_eq_getD_getElem?,hu]
  rw [this];exact hr
 |const c=>exact MH h β
 |global g=>cases h
 |func f=>
  simp only [S.ev,Option.some.injEq] at h
  subst h
  exact⟨[],rfl,trivial⟩
theorem dq {s:S} {o:Nat} {ob:AObj} (h:s.obj o=some ob):s.hp[o]? =some (some ob):=by
 unfold S.obj at h
 rw [R4] at h
 cases hx:s.hp[o]? with
 |none=>rw [hx] at h;cases h
 |some y=>rw [hx] at h;simp only [Su] at h;rw [h]
theorem Bn {β:Be} {s:S} {a:Act} (hs:SlotsR β s.sl a.tmps):∀ {ps:List (Nat×Operand)} {l:List (Nat×List Sc)},s.parts ps=some l->
  L2 (fun (x:Nat×List Sc) (y:Nat×Value)=>x.1=y.1/\∃ vs:List Value,y.2.cells=vs.toArray/\L2 (ScR β) x.2 vs) l (ps.map fun (i,x)=>(i,a.eval x))
 |[],l,h=>by simp only [S.parts,Option.some.injEq] at h;subst h;trivial
 |(i,x)::rest,l,h=>by
  simp only [S.parts] at h
  split at h
  ·rename_i v hv
   split at h
   ·rename_i cs hcs
    split at h
    ·rename_i m hm
     simp only [Option.some.injEq] at h
     subst h
     exact⟨⟨rfl,gm.cells hcs (dN hs hv)⟩,Bn hs hm⟩
    cases h
   cases h
  cases h
theorem Ha {β:Be} {s:S} {a:Act} (hs:SlotsR β s.sl a.tmps):∀ {ps:List Operand} {l:List Sc},s.scals ps=some l->L2 (ScR β) l (ps.map a.eval)
 |[],l,h=>by simp only [S.scals,Option.some.injEq] at h;subst h;trivial
 |x::rest,l,h=>by
  simp only [S.scals] at h
  split at h
  ·rename_i c hc
   split at h
   ·rename_i m hm
    simp only [Option.some.injEq] at h
    subst h
    exact⟨dN hs hc,Ha hs hm⟩
   cases h
  cases h
theorem e7 {P:Program} {t:TypeId} (w:World) (h:(P.info? t).isSome=true):(sizeOf t).run P w=.ok (dZ P t) w:=by
 obtain⟨i,hi⟩:=R9.1 h
 simp [sizeOf,typeInfo,hi,dZ]
theorem Fk {P:Program} {t:TypeId} (h:fJ P t=true):∃ d,P.underlying t=some d:=by
 unfold fJ at h
 simp only [RZ] at h
 exact R9.1 h.1
theorem nc {P:Program} {t:TypeId} (h:fJ P t=true):(P.info? t).isSome=true:=by
 unfold fJ at h
 simp only [RZ] at h
 exact h.2
theorem j_ {P:Program} {t:TypeId} (w:World) {d:TypeDesc} (h:P.underlying t=some d):(isAgg t).run P w=.ok (dg P t) w:=by
 simp only [isAgg,RT,run_underlying h,RR,dg,h]
 cases d<;>rfl
theorem J5 {P:Program} {t:TypeId} (h:dg P t=true):∃ d,P.underlying t=some d:=by
 unfold dg at h
 cases hu:P.underlying t with
 |none=>rw [hu] at h;cases h
 |some d=>exact⟨d,rfl⟩
theorem il {P:Program} {t e:TypeId} (h:OI P t=some e):P.underlying t=some (.slice e):=by
 unfold OI at h
 split at h
 ·rename_i e' hu;simp only [Option.some.injEq] at h;subst h;exact hu
 cases h
theorem Hb {P:Program} {t:TypeId} {k:IntKind} (h:Q8 P t=some k):P.underlying t=some (.int k):=by
 unfold Q8 at h
 split at h
 ·rename_i e' hu;simp only [Option.some.injEq] at h;subst h;exact hu
 cases h
theorem rl {P:Program} {t:TypeId} (h:Fi P t=true):P.underlying t=some .string:=by
 unfold Fi at h
 split at h
 ·assumption
 cases h
theorem IB {P:Program} {t:TypeId} (h:vL P t=true):P.underlying t=some .bool:=by
 unfold vL at h
 split at h
 ·assumption
 cases h
theorem vO {P:Program} {t:TypeId} {i:TypeInfo} (h:P.info? t=some i):dZ P t=i.size:=by simp [dZ,h]
theorem kc {P:Program} {t:TypeId} {z:List Sc} (h:G_ P t=some z):∃ i v vs,P.info? t=some i/\i.zero=some v/\v.cells=List.toArray vs/\Oi vs=some z:=by
 unfold G_ at h
 rw [Sv] at h
 obtain⟨i,hi,h⟩:=h
 rw [Sv] at h
 obtain⟨v,hv,h⟩:=h
 exact⟨i,v,v.cells.toList,hi,hv,zP,h⟩
theorem Hc {P:Program} {t:TypeId} (h:0 < dZ P t):(P.info? t).isSome=true:=by
 unfold dZ at h
 cases hi:P.info? t with
 |none=>rw [hi] at h;simp at h
 |some i=>rfl
def iO (β:Be) (s:S) (r:OpR) (w:World) (x:Result Next):Prop:=
 ∃ β' w',StepR β β' s.hp r.hp w w'/\HSim β' r.hp w'/\((∃ v av,x=.ok (.value v) w'/\r.v=some av/\gm β' av v)\/(x=.ok .skip w'/\r.v=none))
theorem bV {β:Be} {s:S} {w:World} (hs:HSim β s.hp w) {x:Result Next} {v:Value} {av:AV} (hx:x=.ok (.value v) w) (hv:gm β av v):iO β s (s.val av) w x:=
 ⟨β,w,StepR.refl β s.hp w hs.len,hs,.inl ⟨v,av,hx,rfl,hv⟩⟩
theorem dW {β:Be} {s:S} {w:World} (hs:HSim β s.hp w) {x:Result Next} {v:Value} {av:AV} {c:Prop} (hx:x=.ok (.value v) w) (hv:gm β av v):iO β s (s.valc av c) w x:=
 ⟨β,w,StepR.refl β s.hp w hs.len,hs,.inl ⟨v,av,hx,rfl,hv⟩⟩
theorem jE {β:Be} {h:Hp} {w:World} (hs:HSim β h w) {o:Nat} {ob:AObj} (ho:h[o]? =some (some ob)) {p:Pl} (hp:β[o]? =some (some p)):
  p.esz=ob.esz/\∃ arr T fz,w.heap[p.blk]? =some (.cells arr T fz)/\dY β arr p.base ob.esz ob.cs/\(ob.own=true->T=ob.ty/\fz=(0,0)/\p.base=0/\p.avail=arr.size):=by
 obtain⟨q,hq,hr⟩:=hs.ob o ob ho
 rw [hp] at hq
 cases hq
 exact hr
theorem oE {w:World} {b off:Nat} {arr:Array Value} {T:TypeId} {fz:Nat×Nat} (h:w.heap[b]? =some (.cells arr T fz)):w.cell? ⟨b,off,none⟩=arr[off]? :=by simp [World.cell?,h]
theorem Fm {β:Be} {arr:Array Value} {base esz:Nat} {cs:List (List Sc)} (hc:dY β arr base esz cs) {k:Nat} {c:List Sc} (hk:cs[k]? =some c) (j n:Nat) (hn:j+n<=c.length):
  ∃ vs:List Value,vs.length=n/\L2 (ScR β) ((c.drop j).take n) vs/\∀ i v,vs[i]? =some v->arr[base+k*esz+j+i]? =some v:=by
 obtain⟨hl,hcell⟩:=hc k c hk
 refine⟨(List.range n).map fun i=>(arr[base+k*esz+j+i]?).getD undef,zP,?_,?_⟩
 ·refine L2.of_get zS fun i x y hx hy=>?_
  have hi:i < n:=by
   have:=(RP.1 hx).1
   simp at this
   omega
  rw [R2 hi,Sb] at hx
  obtain⟨v,hv,hr⟩:=hcell (j+i) x hx
  simp only [R8,Sg hi,Sh,Option.some.injEq] at hy
  rw [<-So] at hv
  rw [hv] at hy
  simp only [Su] at hy
  subst hy
  exact hr
 intro i v hv
 have hi:i < n:=by
  have:=(RP.1 hv).1
  simpa using this
 simp only [R8,Sg hi,Sh,Option.some.injEq] at hv
 have hx:c[j+i]? =some (c[j+i]' zO):=RX zO
 obtain⟨u,hu,_⟩:=hcell (j+i) _ hx
 rw [<-So] at hu
 rw [hu] at hv⊢
 simpa using hv
theorem J6 {β:Be} {o k j:Nat} {v:Value} (h:ScR β (.pt o k j) v):∃ p,β[o]? =some (some p)/\v=.pointer (some ⟨p.blk,p.base+k*p.esz+j,none⟩):=h
theorem rm {P:Program} {β:Be} {s:S} {w:World} (hs:HSim β s.hp w) {o k j:Nat} {ob:AObj} {c:List Sc} {t:TypeId} {v:Value}
  (ho:s.obj o=some ob) (hk:ob.cs[k]? =some c) (ht:dg P t=true) (hn:j+dZ P t<=c.length) (hv:ScR β (.pt o k j) v):
  ∃ vs:List Value,(Instr.loadAt t v).run P w=.ok (.agg vs.toArray) w/\L2 (ScR β) ((c.drop j).take (dZ P t)) vs:=by
 obtain⟨p,hp,rfl⟩:=J6 hv
 obtain⟨he,arr,T,fz,hh,hc,_⟩:=jE hs (dq ho) hp
 obtain⟨vs,hl,hr,hcell⟩:=Fm hc hk j (dZ P t) hn
 obtain⟨d,hd⟩:=J5 ht
 have hinfo:(P.info? t).isSome=true:=by
  unfold Program.underlying at hd
  cases hi:P.info? t with
  |none=>rw [hi] at hd;simp at hd
  |some i=>rfl
 refine⟨vs,?_,hr⟩
 have hld:=run_loadCells_list (P:=P) w ⟨p.blk,p.base+k*p.esz+j,none⟩ vs (fun i u hu=>by
  rw [Addr.add_lit,oE hh,he];exact hcell i u hu)
 rw [hl] at hld
 simp only [Instr.loadAt,Instr.sureAddr,loadVar,RT,RY,RR,j_ w hd,ht,if_true,e7 w hinfo,hld]
theorem rn {P:Program} {β:Be} {s:S} {w:World} (hs:HSim β s.hp w) {o k j:Nat} {ob:AObj} {c:List Sc} {x:Sc} {t:TypeId} {v:Value}
  (ho:s.obj o=some ob) (hk:ob.cs[k]? =some c) (ht:dg P t=false) (hu:fJ P t=true) (hx:c[j]? =some x) (hv:ScR β (.pt o k j) v):
  ∃ u,(Instr.loadAt t v).run P w=.ok u w/\ScR β x u:=by
 obtain⟨p,hp,rfl⟩:=J6 hv
 obtain⟨he,arr,T,fz,hh,hc,_⟩:=jE hs (dq ho) hp
 obtain⟨u,hcell,hr⟩:=(hc k c hk).2 j x hx
 obtain⟨d,hd⟩:=Fk hu
 refine⟨u,?_,hr⟩
 have hl:w.cell? ⟨p.blk,p.base+k*p.esz+j,none⟩=some u:=by rw [oE hh,he];exact hcell
 simp [Instr.loadAt,Instr.sureAddr,loadVar,j_ w hd,ht,hl]
theorem gS {β:Be} {cs:List (List Sc)} {esz:Nat} {arr:Array Value} (hl:∀ c∈cs,c.length=esz) (h:∀ (k j:Nat) (c:List Sc) (s:Sc),cs[k]? =some c->c[j]? =some s->∃ v,arr[k*esz+j]? =some v/\ScR β s v):dY β arr 0 esz cs:=
 fun k c hk=>⟨hl c (Sd hk),fun j s hs=>by rw [R3];exact h k j c s hk hs⟩
theorem vP {β:Be} {c:List Sc} {vs:List Value} (h:L2 (ScR β) c vs):dY β vs.toArray 0 c.length [c]:=
 gS zP (fun k j c' s hk hs=>by
  have hk0:k=0:=by have:=(RP.1 hk).1;simpa using this
  subst hk0
  simp only [Sl,Option.some.injEq] at hk
  subst hk
  obtain⟨v,hv,hr⟩:=h.get hs
  exact⟨v,by simpa using hv,hr⟩)
theorem Fn (w:World) (o:Obj):World.like w (w.alloc o):=⟨rfl,rfl,rfl⟩
theorem zT (w:World) (o:Obj):∀ k,k < w.heap.size->(w.alloc o).heap[k]? =w.heap[k]? :=fun k hk=>(by first|exact heap_alloc_old w o k hk|exact heap_alloc_old w o hk)
theorem rp {β:Be} {s:S} {w:World} (hs:HSim β s.hp w) {arr:Array Value} {ob:AObj} {av:AV} {v:Value} {x:Result Next} {c:Prop}
  (hx:x=.ok (.value v) (w.alloc (.cells arr ob.ty))) (hc:dY β arr 0 ob.esz ob.cs) (hfl:ob.fl=true->FlatL ob.cs)
  (hv:gm (β++[some ⟨w.heap.size,0,ob.esz,arr.size⟩]) av v):iO β s ⟨some av,s.hp++[some ob],c⟩ w x:=by
 let p:Pl:=⟨w.heap.size,0,ob.esz,arr.size⟩
 have hle:=Be.le_append β [some p]
 refine⟨β++[some p],w.alloc (.cells arr ob.ty),m9 hs.len (Fn w _) zP (zT w _) p ob (RV _),pR hs (zT w _) (RV _) ?_ hfl,.inl ⟨v,av,hx,rfl,hv⟩⟩
 exact⟨rfl,arr,ob.ty,(0,0),heap_alloc_new w _,hc.mono hle,fun _=>⟨rfl,rfl,rfl,rfl⟩⟩
theorem J7 {β:Be} {s:S} {w:World} (hs:HSim β s.hp w) (esz n:Nat):ScR (β++[some ⟨w.heap.size,0,esz,n⟩]) (.pt s.hp.length 0 0) (.pointer (some ⟨w.heap.size,0,none⟩)):=
 ⟨⟨w.heap.size,0,esz,n⟩,by rw [<-hs.len];simp,zP⟩
theorem J8 {β:Be} {s:S} {w:World} (hs:HSim β s.hp w) (esz n len cap:Nat) (h1:len<=cap) (h2:cap<=maxLen) (h3:cap*esz<=n):
  ScR (β++[some ⟨w.heap.size,0,esz,n⟩]) (.sl s.hp.length 0 len) (.slice (some ⟨w.heap.size,0,none⟩) len cap):=
 ⟨_,cap,rfl,h1,h2,.inr ⟨⟨w.heap.size,0,esz,n⟩,by rw [<-hs.len];simp,zP,by simpa using h3⟩⟩
end
section
open Go.RowKit
section
variable {P:Program} {β:Be} {s:S} {a:Act} {w:World} {o:Oper} {r:OpR} {ty:TypeId}
theorem Hd (hs:HSim β s.hp w) (hsl:SlotsR β s.sl a.tmps) (x:Operand) (ho:o.op=.move x\/o.op=.assign x) (h:cr P s ty (.move x)=some r):iO β s r w ((execOp a.eval o).run P w):=by
 simp only [cr] at h
 split at h
 ·rename_i v hv
  simp only [Option.some.injEq] at h
  subst h
  refine bV hs (v:=a.eval x) ?_ (dN hsl hv)
  unfold execOp
  rcases ho with ho|ho<;>rw [ho]<;>rfl
 cases h
theorem MI (hs:HSim β s.hp w) (hsl:SlotsR β s.sl a.tmps) (c x y:Operand) (ho:o.op=.pick c x y) (h:cr P s ty (.pick c x y)=some r):iO β s r w ((execOp a.eval o).run P w):=by
 simp only [cr] at h
 split at h
 ·rename_i hc
  have hb:a.eval c=.bool true:=dN hsl hc
  split at h
  ·rename_i v hv
   simp only [Option.some.injEq] at h
   subst h
   refine bV hs (v:=a.eval x) ?_ (dN hsl hv)
   unfold execOp
   rw [ho]
   simp [hb,asBool]
  cases h
 ·rename_i hc
  have hb:a.eval c=.bool false:=dN hsl hc
  split at h
  ·rename_i v hv
   simp only [Option.some.injEq] at h
   subst h
   refine bV hs (v:=a.eval y) ?_ (dN hsl hv)
   unfold execOp
   rw [ho]
   simp [hb,asBool]
  cases h
 cases h
theorem J9 (hs:HSim β s.hp w) (e:TypeId) (ho:o.op=.alloc e) (h:cr P s ty (.alloc e)=some r):iO β s r w ((execOp a.eval o).run P w):=by
 simp only [cr] at h
 split at h
 ·rename_i z hz
  simp only [Option.some.injEq] at h
  subst h
  obtain⟨hz,hl,_⟩:=m_ hz
  obtain⟨i,v,vs,hi,hzv,hvc,hsc⟩:=kc hz
  have hr:=vN β hsc
  refine rp hs (arr:=vs.toArray) (v:=.pointer (some ⟨w.heap.size,0,none⟩)) ?_ (vP hr) (fun h=>by cases h) (J7 hs _ _)
  unfold execOp
  rw [ho]
  simp [Instr.alloc,zeroValue,typeInfo,hi,hzv,newVar,newRow,hvc]
 cases h
theorem OK (hs:HSim β s.hp w) (hsl:SlotsR β s.sl a.tmps) (e:TypeId) (x:Operand) (ho:o.op=.box e x) (h:cr P s ty (.box e x)=some r):iO β s r w ((execOp a.eval o).run P w):=by
 simp only [cr] at h
 split at h
 ·rename_i v hv
  split at h
  ·rename_i cs hcs
   simp only [Option.some.injEq] at h
   subst h
   obtain⟨vs,hvs,hr⟩:=gm.cells hcs (dN hsl hv)
   refine rp hs (arr:=vs.toArray) (v:=.pointer (some ⟨w.heap.size,0,none⟩)) ?_ (vP hr) (fun h=>by cases h) (J7 hs _ _)
   unfold execOp
   rw [ho]
   simp [Instr.box,newVar,newRow,hvs]
  cases h
 cases h
theorem nf (off:Nat):∀ (vs:List Value) (n:Nat) (cells:Array Value),
  ((vs.zipIdx n).foldl (fun cs (x:Value×Nat)=>cs.setIfInBounds (off+x.2) x.1) cells).size=cells.size/\
  ∀ m,off+n+vs.length<=cells.size->((vs.zipIdx n).foldl (fun cs (x:Value×Nat)=>cs.setIfInBounds (off+x.2) x.1) cells)[m]? =if off+n<=m/\m < off+n+vs.length then vs[m - (off+n)]? else cells[m]?
 |[],n,cells=>⟨zP,fun m hm=>by
   simp only [List.zipIdx_nil,List.foldl_nil,List.length_nil,Sj]
   rw [if_neg zO]⟩
 |v::vs,n,cells=>by
  obtain⟨h1,h2⟩:=nf off vs (n+1) (cells.setIfInBounds (off+n) v)
  refine⟨by simpa [SL] using h1,fun m hm=>?_⟩
  simp only [SL,List.foldl_cons]
  rw [h2 m (by simp at hm⊢;omega)]
  by_cases he:m=off+n
  ·subst he
   rw [if_neg zO,if_pos zP]
   simp at hm
   simp [Array.getElem?_setIfInBounds]
   omega
  by_cases hin:off+(n+1)<=m/\m < off+(n+1)+vs.length
  ·rw [if_pos hin,if_pos zS]
   have:m - (off+n)=(m - (off+(n+1)))+1:=zO
   rw [this,List.getElem?_cons_succ]
  rw [if_neg hin,if_neg zS]
  rw [R_ (Ne.symm he)]
theorem l8 (off:Nat) (vs:List Value) (cells:Array Value):
  (vs.toArray.zipIdx.foldl (fun cs (x:Value×Nat)=>cs.setIfInBounds (off+x.2) x.1) cells)=((vs.zipIdx 0).foldl (fun cs (x:Value×Nat)=>cs.setIfInBounds (off+x.2) x.1) cells):=by
 simp [<-Array.foldl_toList]
theorem vQ (c:List Sc) (j:Nat) (l:List Sc) (h:j+l.length<=c.length) (m:Nat):(kX c j l)[m]? =if j<=m/\m < j+l.length then l[m - j]? else c[m]? :=by
 unfold kX
 by_cases h1:m < j
 ·rw [RQ zS,R2 h1,if_neg zO]
 rw [RS zS]
 have hl:(c.take j).length=j:=by simp;omega
 rw [hl]
 by_cases h2:m < j+l.length
 ·rw [RQ zO,if_pos zO]
 rw [RS zO,if_neg zO,Sb]
 congr 1
 omega
theorem pn (c:List Sc) (j:Nat) (l:List Sc) (h:j+l.length<=c.length):(kX c j l).length=c.length:=by
 unfold kX
 simp
 omega
theorem He:∀ (c l:List Sc),l.length<=c.length->over c l=l++c.drop l.length
 |c,[],_=>by cases c<;>simp [over]
 |_::c,b::l,h=>by simp [over,He c l (by simpa using h)]
 |[],_::_,h=>by simp at h
theorem Fo:∀ (c:List Sc) (j:Nat) (l:List Sc),j+l.length<=c.length->OJ c j l=kX c j l
 |c,0,l,h=>by
  have h1:OJ c 0 l=over c l:=by cases c<;>rfl
  rw [h1,He c l zO]
  simp [kX]
 |a::c,j+1,l,h=>by
  have:=Fo c j l (by simp at h;omega)
  simp only [OJ,this]
  unfold kX
  rw [show j+1+l.length=(j+l.length)+1 from by omega]
  simp
 |[],j+1,l,h=>by simp at h
theorem Hf {P:Program} {t:TypeId} {pl:Nat->Option (Nat×Nat)}:∀ {l:List (Nat×List Sc)} {ps:List (Nat×Value)} {c c':List Sc} {arr:Array Value},
  zL pl c l=some c'->L2 (ScR β) c arr.toList->
  L2 (fun (x:Nat×List Sc) (y:Nat×Value)=>x.1=y.1/\∃ vs:List Value,y.2.cells=vs.toArray/\L2 (ScR β) x.2 vs) l ps->
  ∃ arr':Array Value,Instr.fill pl arr ps=some arr'/\L2 (ScR β) c' arr'.toList
 |[],[],c,c',arr,h,hc,_=>by
  simp only [zL,Option.some.injEq] at h
  subst h
  exact⟨arr,rfl,hc⟩
 |(i,v)::l,(i',u)::ps,c,c',arr,h,hc,hl=>by
  obtain⟨⟨hi,vs,hvs,hr⟩,hl⟩:=hl
  dsimp only at hi hvs hr
  subst hi
  simp only [zL] at h
  split at h
  ·cases h
  rename_i off size hpl
  split at h
  ·rename_i hsz0
   simp only [RZ] at hsz0
   have hsz:v.length=size/\off+size<=c.length:=⟨rk hsz0.1,oz hsz0.2⟩
   rw [Fo c off v zO] at h
   have hlen:=hc.length
   have hvl:=hr.length
   have hbd:off+vs.length<=arr.size:=by rw [<-hvl];simp at hlen;omega
   obtain⟨h1,h2⟩:=nf off vs 0 arr
   have hnew:L2 (ScR β) (kX c off v) ((vs.toArray.zipIdx.foldl (fun cs (x:Value×Nat)=>cs.setIfInBounds (off+x.2) x.1) arr)).toList:=by
    rw [l8]
    refine L2.of_get (by rw [pn c off v zO,hlen];simp only [Array.length_toList];exact h1.symm) fun m x y hx hy=>?_
    rw [vQ c off v zO] at hx
    rw [R5,h2 m (by simpa using hbd)] at hy
    simp only [Sj] at hy
    by_cases hin:off<=m/\m < off+v.length
    ·rw [if_pos hin] at hx
     rw [if_pos zO] at hy
     obtain⟨y',hy',hr'⟩:=hr.get hx
     rw [hy] at hy'
     cases hy'
     exact hr'
    rw [if_neg hin] at hx
    rw [if_neg zO] at hy
    obtain⟨y',hy',hr'⟩:=hc.get hx
    rw [R5,hy] at hy'
    cases hy'
    exact hr'
   obtain⟨arr',hf,hr'⟩:=Hf (P:=P) (t:=t) h hnew hl
   refine⟨arr',?_,hr'⟩
   simp only [Instr.fill,hpl]
   rw [if_neg]
   ·rw [hvs];exact hf
   rw [hvs]
   simp
   omega
  cases h
 |[],_::_,_,_,_,_,_,hl=>hl.elim
 |_::_,[],_,_,_,_,_,hl=>hl.elim
end
end
section
open Go.RowKit
section
variable {P:Program} {β:Be} {s:S} {a:Act} {w:World} {o:Oper} {r:OpR} {ty:TypeId}
theorem CR (w:World) (fields:List Field) (hf:∀ x∈fields,dZ P x.type≠0):
  (fields.mapM (fun f:Field=>(do pure (f.offset,<-sizeOf f.type):Sem (Nat×Nat)))).run P w=.ok (fields.map fun f=>(f.offset,dZ P f.type)) w:=by
 induction fields with
 |nil=>rfl
 |cons f l ih=>
  have h0:=hf f zP
  have hi:(P.info? f.type).isSome=true:=Hc zO
  simp only [List.mapM_cons,RT,e7 w hi,RR,RY,ih (fun x hx=>hf x (by simp [hx])),Sz]
theorem J_ (hs:HSim β s.hp w) (hsl:SlotsR β s.sl a.tmps) (t:TypeId) (parts:Array (Nat×Operand)) (ho:o.op=.build t parts) (h:cr P s ty (.build t parts)=some r):iO β s r w ((execOp a.eval o).run P w):=by
 simp only [cr] at h
 split at h
 ·rename_i z hz
  split at h
  ·rename_i l hl
   have hz0:=hz
   unfold cz at hz0
   split at hz0
   ·rename_i hall
    obtain⟨hz,hzl,_⟩:=m_ hz0
    split at h
    ·rename_i cs hcs
     simp only [Option.some.injEq] at h
     subst h
     obtain⟨i,v,vs,hi,hzv,hvc,hsc⟩:=kc hz
     have hr:=vN β hsc
     unfold CO at hall
     split at hall
     ·rename_i fs hfs
      have hpl:∀ k,ak P t k=(fs.map fun f=>(f.offset,dZ P f.type))[k]? :=by
       intro k
       simp only [ak,hfs,SF]
       cases hk:fs[k]? with
       |none=>rfl
       |some f=>
        have hm:f∈fs.toList:=by
         rw [<-R5] at hk
         exact Sd hk
        have:=SM.1 hall f hm
        simp only [bne_iff_ne] at this
        simp [this]
      obtain⟨arr,hf,hra⟩:=Hf (P:=P) (t:=t) (β:=β) (ps:=parts.toList.map fun (i,x)=>(i,a.eval x)) (arr:=vs.toArray) hcs (by simpa using hr) (Bn hsl hl)
      refine bV hs (v:=.agg arr) ?_ ⟨arr.toList,zP,hra⟩
      unfold execOp
      rw [ho]
      have hm:=CR (P:=P) w fs.toList (fun x hx=>by
       have:=SM.1 hall x hx
       simpa using this)
      have hm':(fs.mapM (fun f:Field=>(do pure (f.offset,<-sizeOf f.type):Sem (Nat×Nat)))).run P w=.ok (fs.map fun f=>(f.offset,dZ P f.type)) w:=by
       rw [Array.mapM_eq_mapM_toList]
       have e:∀ (m:Sem (List (Nat×Nat))),(List.toArray <$> m)=(do pure (List.toArray (<-m))):=fun m=>rfl
       rw [e,RT,hm]
       rw [RR,RY]
       refine congrArg (fun x=>Result.ok x w) ?_
       apply Array.ext'
       simp
      have hff:Instr.fill (fun x=>(fs.map fun f=>(f.offset,dZ P f.type))[x]?) vs.toArray (parts.toList.map fun (i,x)=>(i,a.eval x))=some arr:=by
       have e:(fun x=>(fs.map fun f=>(f.offset,dZ P f.type))[x]?)=ak P t:=funext fun k=>(hpl k).symm
       rw [e];exact hf
      have hpt:(parts.map fun (i,x)=>(i,a.eval x)).toList=parts.toList.map fun (i,x)=>(i,a.eval x):=by simp
      simp only [Instr.build,RT,zeroValue,typeInfo,run_program,RR,hi,hzv,RY,run_underlying hfs,hm',hpt]
      rw [hvc,hff]
      rfl
     cases hall
    cases h
   cases hz0
  cases h
 cases h
theorem zU (z:Array Value) (len k j:Nat) (hk:k < len) (hj:j < z.size):((Array.range (len*z.size)).map (z[· % z.size]!))[k*z.size+j]? =z[j]? :=by
 have hlt:k*z.size+j < len*z.size:=by
  have:(k+1)*z.size<=len*z.size:=RW _ hk
  rw [R0] at this
  omega
 rw [SF,Array.getElem?_range,if_pos hlt]
 simp only [Sh]
 rw [show (k*z.size+j) % z.size=j from by rw [SG,Nat.mul_add_mod,Nat.mod_eq_of_lt hj]]
 simp [hj]
theorem Hg {esz:Nat} (hpos:0 < esz) (len:Nat):∀ {l:List (Nat×List Sc)} {ps:List (Nat×Value)} {cs cs':List (List Sc)} {arr:Array Value},
  zM esz cs l=some cs'->cs.length=len->arr.size=len*esz->dY β arr 0 esz cs->
  L2 (fun (x:Nat×List Sc) (y:Nat×Value)=>x.1=y.1/\∃ vs:List Value,y.2.cells=vs.toArray/\L2 (ScR β) x.2 vs) l ps->
  ∃ arr':Array Value,Instr.fill (fun i=>some (i*esz,esz)) arr ps=some arr'/\arr'.size=len*esz/\cs'.length=len/\dY β arr' 0 esz cs'
 |[],[],cs,cs',arr,h,hl,hsz,hc,_=>by
  simp only [zM,Option.some.injEq] at h
  subst h
  exact⟨arr,rfl,hsz,hl,hc⟩
 |(i,v)::l,(i',u)::ps,cs,cs',arr,h,hl,hsz,hc,hps=>by
  obtain⟨⟨hi,vs,hvs,hr⟩,hps⟩:=hps
  dsimp only at hi hvs hr
  subst hi
  simp only [zM] at h
  split at h
  ·rename_i hcond
   simp only [RZ] at hcond
   have hvl:=rk hcond.1
   have hil:i < cs.length:=oz hcond.2
   have hvl':=hr.length
   have hend:i*esz+esz<=len*esz:=by
    have:(i+1)*esz<=len*esz:=RW _ zO
    rw [R0] at this
    omega
   obtain⟨h1,h2⟩:=nf (i*esz) vs 0 arr
   simp only [Sj] at h2
   have hnew:dY β (vs.toArray.zipIdx.foldl (fun cs (x:Value×Nat)=>cs.setIfInBounds (i*esz+x.2) x.1) arr) 0 esz (cs.set i v):=by
    rw [l8]
    refine gS (fun c hm=>?_) fun k j c x hk hj=>?_
    ·rcases Si hm with hm|rfl
     ·obtain⟨k,hk⟩:=Sy.1 hm
      exact (hc k c hk).1
     exact hvl
    rw [h2 _ zO]
    have hjl:j < c.length:=(RP.1 hj).1
    rw [R1] at hk
    by_cases he:i=k
    ·subst he
     rw [if_pos rfl,if_pos hil] at hk
     simp only [Option.some.injEq] at hk
     subst hk
     rw [if_pos zO]
     obtain⟨y,hy,hry⟩:=hr.get hj
     exact⟨y,by rw [Sw];exact hy,hry⟩
    rw [if_neg he] at hk
    obtain⟨hlc,hcell⟩:=hc k c hk
    obtain⟨y,hy,hry⟩:=hcell j x hj
    refine⟨y,?_,hry⟩
    rw [R3] at hy
    rw [if_neg]
    ·exact hy
    intro⟨ha,hb⟩
    rcases SH he with hlt|hgt
    ·have:(i+1)*esz<=k*esz:=RW _ hlt
     rw [R0] at this
     omega
    have:(k+1)*esz<=i*esz:=RW _ hgt
    rw [R0] at this
    omega
   obtain⟨arr',hf,hsz',hl',hc'⟩:=Hg hpos len h (by simpa using hl) (by rw [l8,h1];exact hsz) hnew hps
   refine⟨arr',?_,hsz',hl',hc'⟩
   simp only [Instr.fill]
   rw [if_neg]
   ·rw [hvs];exact hf
   rw [hvs]
   simp
   omega
  cases h
 |[],_::_,_,_,_,_,_,_,_,hl=>hl.elim
 |_::_,[],_,_,_,_,_,_,_,hl=>hl.elim
theorem yS (hs:HSim β s.hp w) (hsl:SlotsR β s.sl a.tmps) (t:TypeId) (len:Nat) (parts:Array (Nat×Operand)) (ho:o.op=.buildSlice t len parts) (h:cr P s ty (.buildSlice t len parts)=some r):iO β s r w ((execOp a.eval o).run P w):=by
 simp only [cr] at h
 split at h
 ·rename_i e sz he0
  obtain⟨he,hkn,rfl⟩:=iR he0
  split at h
  ·rename_i z hz
   obtain⟨hz,hzl,hpos,hsm,_⟩:=m_ hz
   split at h
   ·rename_i l hl
    split at h
    ·rename_i hleb
     have hle256:=J3 hleb
     have hbig:len*dZ P e<=16777216:=by
      have:len*dZ P e<=256*65536:=SP hle256 hsm
      omega
     split at h
     ·rename_i cs hcs
      simp only [Option.some.injEq] at h
      subst h
      obtain⟨i,v,vs,hi,hzv,hvc,hsc⟩:=kc hz
      have hr:=vN β hsc
      have hvl:=hr.length
      have hti:=vO hi
      have hlm:len<=len*dZ P e:=Nat.le_mul_of_pos_right _ hpos
      have hstart:∃ arr0:Array Value,((do if len*dZ P e=0 then pure #[] else do pure (<-zeroValue e).cells):Sem (Array Value)).run P w=.ok arr0 w/\((Array.range (len*dZ P e)).map (arr0[· % arr0.size]!)).size=len*dZ P e/\
        dY β ((Array.range (len*dZ P e)).map (arr0[· % arr0.size]!)) 0 (dZ P e) (List.replicate len z):=by
       by_cases h0:len*dZ P e=0
       ·refine⟨#[],by simp [h0],zP,?_⟩
        have hl0:len=0:=by
         rcases Nat.mul_eq_zero.1 h0 with h|h
         ·exact h
         omega
        subst hl0
        intro k c hk
        simp at hk
       refine⟨vs.toArray,by simp [h0,zeroValue,typeInfo,hi,hzv,hvc],zP,?_⟩
       refine gS (fun c hm=>by rw [Sk hm];exact hzl) fun k j c x hk hj=>?_
       have hkl:k < len:=by have:=(RP.1 hk).1;simpa using this
       rw [Sq hkl] at hk
       simp only [Option.some.injEq] at hk
       subst hk
       obtain⟨y,hy,hry⟩:=hr.get hj
       have hjl:j < z.length:=(RP.1 hj).1
       refine⟨y,?_,hry⟩
       have hzs:vs.toArray.size=dZ P e:=by simp;omega
       have:=zU vs.toArray len k j hkl zO
       rw [hzs] at this
       rw [hzs,this]
       simpa using hy
      obtain⟨arr0,hrun,hsz0,hc0⟩:=hstart
      obtain⟨arr,hf,hsz,hlen,hc⟩:=Hg hpos len (ps:=parts.toList.map fun (i,x)=>(i,a.eval x)) hcs zP hsz0 hc0 (Bn hsl hl)
      refine rp hs (arr:=arr) (v:=.slice (some ⟨w.heap.size,0,none⟩) len len) ?_ hc (fun h=>zK h) (J8 hs _ _ len len (RV _) (by unfold maxLen;omega) (by show len*dZ P e<=arr.size;omega))
      unfold execOp
      rw [ho]
      have hpt:(parts.map fun (i,x)=>(i,a.eval x)).toList=parts.toList.map fun (i,x)=>(i,a.eval x):=by simp
      have hb':¬ (2 ^ 24 < len*dZ P e):=zO
      simp only [Instr.buildSlice,RT,run_underlying (il he),RR,e7 w (by simp [hi]:(P.info? e).isSome=true),hb',if_false,hpt]
      by_cases h0:len*dZ P e=0
      ·simp only [h0,if_true,RY,Result.ok.injEq,and_true,RR] at hrun
       subst hrun
       simp only [h0,if_true,RT,RY,RR]
       simp only [h0] at hf
       rw [hf]
       simp [newRow]
      have hzr:(zeroValue e).run P w=.ok v w:=by simp [zeroValue,typeInfo,hi,hzv]
      simp only [h0,if_false,RT,hzr,RR,RY,Result.ok.injEq,and_true] at hrun
      simp only [h0,if_false,RT,RY,RR,hzr]
      rw [hrun,hf]
      simp [newRow]
     cases h
    cases h
   cases h
  cases h
 cases h
theorem IC {t:TypeId} {n:Nat} (h:bi P t=some (some n)):dg P t=true/\n=dZ P t:=by
 unfold bi at h
 split at h
 ·split at h
  ·rename_i ha
   simp only [Option.some.injEq] at h
   exact⟨ha,h.symm⟩
  cases h
 cases h
theorem ID {t:TypeId} (h:bi P t=some none):dg P t=false/\fJ P t=true:=by
 unfold bi at h
 split at h
 ·rename_i hk
  split at h
  ·cases h
  rename_i ha
  exact⟨by simpa using ha,hk⟩
 cases h
theorem IE {t:TypeId} {n:Nat} (h:gA P t=some n):fJ P t=true/\n=dZ P t:=by
 unfold gA at h
 split at h
 ·rename_i hk
  simp only [Option.some.injEq] at h
  exact⟨hk,h.symm⟩
 cases h
theorem MJ (hs:HSim β s.hp w) (hsl:SlotsR β s.sl a.tmps) (t:TypeId) (x:Operand) (ho:o.op=.load t x) (h:cr P s ty (.load t x)=some r):iO β s r w ((execOp a.eval o).run P w):=by
 simp only [cr] at h
 split at h
 ·rename_i ob k j hx
  have hv:ScR β (.pt ob k j) (a.eval x):=dN hsl hx
  split at h
  ·rename_i obj hob
   split at h
   ·rename_i c hk
    split at h
    ·rename_i n hag0
     obtain⟨hag,rfl⟩:=IC hag0
     split at h
     ·rename_i hn
      simp only [Option.some.injEq] at h
      subst h
      obtain⟨vs,hrun,hr⟩:=rm hs hob hk hag (oz hn) hv
      refine bV hs (v:=.agg vs.toArray) ?_ ⟨vs,rfl,hr⟩
      unfold execOp
      rw [ho]
      simp [hrun]
     cases h
    ·rename_i hag0
     obtain⟨hag,hkn⟩:=ID hag0
     split at h
     ·rename_i y hy
      simp only [Option.some.injEq] at h
      subst h
      obtain⟨u,hrun,hr⟩:=rn hs hob hk hag hkn hy hv
      refine bV hs (v:=u) ?_ hr
      unfold execOp
      rw [ho]
      simp [hrun]
     cases h
    cases h
   cases h
  cases h
 cases h
theorem Fp {h:Hp} (hs:HSim β h w) {n:Nat} {ob:AObj} {p:Pl} (ho:h[n]? =some (some ob)) (hown:ob.own=true) (hp:β[n]? =some (some p))
  {arr arr':Array Value} {T:TypeId} {fz:Nat×Nat} (hh:w.heap[p.blk]? =some (.cells arr T fz)) (hsz:arr'.size=arr.size) {cs':List (List Sc)} {fl':Bool} (hc:dY β arr' 0 ob.esz cs') (hfl:fl'=true->FlatL cs'):
  HSim β (h.set n (some { ob with cs:=cs',fl:=fl' })) (w.setRow p.blk arr')/\StepR β β h (h.set n (some { ob with cs:=cs',fl:=fl' })) w (w.setRow p.blk arr'):=by
 obtain⟨he,arr0,T0,fz0,hh0,hc0,hown0⟩:=jE hs ho hp
 obtain⟨hT,hf0,hbase,hav⟩:=hown0 hown
 rw [hh] at hh0
 simp only [Option.some.injEq,Obj.cells.injEq] at hh0
 obtain⟨rfl,rfl,rfl⟩:=hh0
 have hn:n < h.length:=(RP.1 ho).1
 have key:∀ {o:Nat} {x:AObj},(h.set n (some { ob with cs:=cs',fl:=fl' }))[o]? =some (some x)->(o=n/\x={ ob with cs:=cs',fl:=fl' })\/(o≠n/\h[o]? =some (some x)):=by
  intro o x hx
  rw [R1] at hx
  split at hx
  ·rename_i he
   subst he
   simp only [Option.some.injEq] at hx
   exact .inl ⟨rfl,hx.symm⟩
  rename_i he
  exact .inr ⟨Ne.symm he,hx⟩
 refine⟨⟨by simp [hs.len],fun o x hx=>?_,fun o x hx hf=>by rcases key hx with⟨_,rfl⟩|⟨_,hx⟩;exact hfl hf;exact hs.flat o x hx hf,fun o o' x x' q q' hx hx' hxo hq hq' hne=>?_⟩,?_⟩
 ·rcases key hx with⟨rfl,rfl⟩|⟨hne,hx⟩
  ·refine⟨some p,hp,he,arr',T,fz,setRow_heap w p.blk arr arr' T fz hh,?_,fun _=>⟨hT,hf0,hbase,by rw [hsz];exact hav⟩⟩
   rw [hbase]
   exact hc
  obtain⟨q,hq,hr⟩:=hs.ob o x hx
  refine⟨q,hq,hr.world fun q' hq'=>?_⟩
  subst hq'
  exact setRow_other w p.blk q'.blk arr' (fun hb=>hs.apart n o ob x p q' ho hx hown hp hq (Ne.symm hne) hb.symm)
 ·rcases key hx with⟨rfl,rfl⟩|⟨h1,h1'⟩
  ·rcases key hx' with⟨rfl,rfl⟩|⟨h2,h2'⟩
   ·exact absurd rfl hne
   exact hs.apart o o' ob x' q q' ho h2' hown hq hq' hne
  rcases key hx' with⟨rfl,rfl⟩|⟨h2,h2'⟩
  ·exact hs.apart o o' x ob q q' h1' ho hxo hq hq' hne
  exact hs.apart o o' x x' q q' h1' h2' hxo hq hq' hne
 refine⟨Be.le.refl _,rfl,rfl,rfl,zP,fun k hk hno=>setRow_other w p.blk k arr' (fun hb=>hno ⟨n,ob,p,ho,hown,hp,hb.symm⟩),zP,fun o x hlt hx=>?_,fun o x q hge hx _=>?_⟩
 ·rcases key hx with⟨rfl,rfl⟩|⟨hne,hx⟩
  ·exact⟨ob,ho,id⟩
  exact⟨x,hx,id⟩
 rw [RU (by simpa using hge)] at hx
 cases hx
theorem Ka (hs:HSim β s.hp w) (hsl:SlotsR β s.sl a.tmps) (t:TypeId) (x y:Operand) (ho:o.op=.store t x y) (h:cr P s ty (.store t x y)=some r):iO β s r w ((execOp a.eval o).run P w):=by
 simp only [cr] at h
 split at h
 ·rename_i n k j hx
  have hv:ScR β (.pt n k j) (a.eval x):=dN hsl hx
  split at h
  ·rename_i ob hob
   split at h
   ·rename_i c hk
    split at h
    ·rename_i v hy
     split at h
     ·rename_i vs hvs
      split at h
      rotate_left
      ·cases h
      rename_i n0 hn0
      obtain⟨hkn,rfl⟩:=IE hn0
      split at h
      ·rename_i hcond
       simp only [RZ] at hcond
       obtain⟨⟨hl0,hj0⟩,hown⟩:=hcond
       have hl:=rk hl0
       have hj:j+vs.length<=c.length:=by rw [hl];exact oz hj0
       simp only [Option.some.injEq] at h
       rw [Fo c j vs hj] at h
       subst h
       obtain⟨us,hus,hr⟩:=gm.cells hvs (dN hsl hy)
       obtain⟨p,hp,hpe⟩:=J6 hv
       obtain⟨he,arr,T,fz,hh,hc,hown'⟩:=jE hs (dq hob) hp
       obtain⟨hT,hf0,hbase,hav⟩:=hown' hown
       subst hf0
       have hul:=hr.length
       obtain⟨hcl,hcell⟩:=hc k c hk
       have hbd:k*ob.esz+j+us.length<=arr.size:=by
        by_cases hz:us.length=0
        ·rw [hz]
         by_cases hc0:c.length=0
         ·by_cases hk0:arr.size < k*ob.esz+j
          ·have:j=0:=zO
           subst this
           rw [<-hcl,hc0] at hk0
           omega
          omega
         have hg:c[c.length - 1]? =some (c[c.length - 1]' zO):=RX zO
         obtain⟨y',hy',_⟩:=hcell _ _ hg
         have:=(R6.1 hy').1
         rw [hbase] at this
         omega
        have hg:c[j+us.length - 1]? =some (c[j+us.length - 1]' zO):=RX zO
        obtain⟨y',hy',_⟩:=hcell _ _ hg
        have:=(R6.1 hy').1
        rw [hbase] at this
        omega
       let arr':Array Value:=(arr.toList.take (k*ob.esz+j)++us++arr.toList.drop (k*ob.esz+j+us.length)).toArray
       have hget:∀ m,arr'[m]? =if k*ob.esz+j<=m/\m < k*ob.esz+j+us.length then us[m - (k*ob.esz+j)]? else arr[m]? :=by
        intro m
        show ((arr.toList.take (k*ob.esz+j)++us++arr.toList.drop (k*ob.esz+j+us.length)).toArray)[m]? =_
        rw [Sp,List.append_assoc]
        by_cases h1:m < k*ob.esz+j
        ·rw [RQ zS,R2 h1,if_neg zO,R5]
        have hlen:(arr.toList.take (k*ob.esz+j)).length=k*ob.esz+j:=by simp;omega
        rw [RS zO,hlen]
        by_cases h2:m < k*ob.esz+j+us.length
        ·rw [RQ zO,if_pos zO]
        rw [RS zO,if_neg zO,Sb,R5]
        congr 1
        omega
       have hsz:arr'.size=arr.size:=by
        show ((arr.toList.take (k*ob.esz+j)++us++arr.toList.drop (k*ob.esz+j+us.length)).toArray).size=_
        simp
        omega
       have hnew:dY β arr' 0 ob.esz (ob.cs.set k (kX c j vs)):=by
        refine gS (fun d hm=>?_) fun k' j' d z hk' hj'=>?_
        ·rcases Si hm with hm|rfl
         ·obtain⟨q,hq⟩:=Sy.1 hm
          exact (hc q d hq).1
         rw [pn c j vs hj];exact hcl
        rw [hget]
        rw [R1] at hk'
        by_cases hkk:k=k'
        ·subst hkk
         rw [if_pos rfl,if_pos (RP.1 hk).1] at hk'
         simp only [Option.some.injEq] at hk'
         subst hk'
         rw [vQ c j vs hj] at hj'
         by_cases hin:j<=j'/\j' < j+vs.length
         ·rw [if_pos hin] at hj'
          rw [if_pos zO]
          obtain⟨y',hy',hr'⟩:=hr.get hj'
          exact⟨y',by rw [show k*ob.esz+j' - (k*ob.esz+j)=j' - j from by omega];exact hy',hr'⟩
         rw [if_neg hin] at hj'
         rw [if_neg zO]
         obtain⟨y',hy',hr'⟩:=hcell j' z hj'
         rw [hbase,R3] at hy'
         exact⟨y',hy',hr'⟩
        rw [if_neg hkk] at hk'
        obtain⟨hdl,hdc⟩:=hc k' d hk'
        obtain⟨y',hy',hr'⟩:=hdc j' z hj'
        rw [hbase,R3] at hy'
        have hjd:j' < d.length:=(RP.1 hj').1
        refine⟨y',?_,hr'⟩
        rw [if_neg]
        ·exact hy'
        intro⟨ha,hb⟩
        rcases SH hkk with hlt|hgt
        ·have:(k+1)*ob.esz<=k'*ob.esz:=RW _ hlt
         rw [R0] at this
         omega
        have:(k'+1)*ob.esz<=k*ob.esz:=RW _ hgt
        rw [R0] at this
        omega
       obtain⟨hs',hst⟩:=Fp hs (dq hob) hown hp hh hsz hnew (fl':=ob.fl && j8 vs) (fun hf=>by
        simp only [RZ] at hf
        have h1:=hs.flat n ob (dq hob) hf.1
        intro d hd
        rcases Si hd with hd|rfl
        ·exact h1 d hd
        have h2:=gR.1 (h1 c (Sd hk))
        unfold kX
        exact l7 (gR.2 fun s hs=>h2 s (Se hs)) (l7 hf.2 (gR.2 fun s hs=>h2 s (Sf hs))))
       refine⟨β,_,hst,hs',.inr ⟨?_,rfl⟩⟩
       unfold execOp
       rw [ho]
       have hrun:=run_storeCells_at P p.blk (k*ob.esz+j) T us 0 arr w hh zO (L2.one hr)
       simp only [Sj] at hrun
       have husz:us.toArray.size=dZ P t:=by simp;omega
       have hpe':a.eval x=.pointer (some ⟨p.blk,k*ob.esz+j,none⟩):=by rw [hpe,hbase,he,R3]
       simp only [hpe',Instr.storeAt,Instr.sureAddr,RT,RY,RR,storeVar,e7 w (nc hkn),husz,ne_eq,not_true,if_false,hus,List.toList_toArray,hrun]
       rfl
      cases h
     cases h
    cases h
   cases h
  cases h
 cases h
end
end
section
open Go.RowKit
section
variable {P:Program} {β:Be} {s:S} {a:Act} {w:World} {o:Oper} {r:OpR} {ty:TypeId}
theorem CT (hs:HSim β s.hp w) (hsl:SlotsR β s.sl a.tmps) (x:Operand) (ho:o.op=.nilCheck x) (h:cr P s ty (.nilCheck x)=some r):iO β s r w ((execOp a.eval o).run P w):=by
 simp only [cr] at h
 split at h
 ·rename_i n k j hx
  have hv:ScR β (.pt n k j) (a.eval x):=dN hsl hx
  simp only [Option.some.injEq] at h
  subst h
  refine bV hs (v:=a.eval x) ?_ hv
  obtain⟨p,hp,hpe⟩:=hv
  unfold execOp
  rw [ho]
  simp [hpe]
 ·rename_i f caps hx
  have hv:gm β (.cl f caps) (a.eval x):=dN hsl hx
  simp only [Option.some.injEq] at h
  subst h
  refine bV hs (v:=a.eval x) ?_ hv
  obtain⟨vs,hpe,_⟩:=hv
  unfold execOp
  rw [ho]
  simp [hpe]
 cases h
theorem MK {op:BinOp} {k k':IntKind} {x y:Int} {t:TypeId} {q:Sc} {c:Prop} (h:kG P t op (.int k x) (.int k' y)=some (q,c)) (hc:c) (X Y:Operand):
  ∃ v,(do eqGuard op t X Y (.int k x) (.int k' y);binOp op t (.int k x) (.int k' y)).run P w=.ok v w/\ScR β q v:=by
 have hg:∀ (m:Sem Value),(do eqGuard op t X Y (.int k x) (.int k' y);m).run P w=m.run P w:=by
  intro m
  cases op<;>simp [eqGuard]
 rw [hg]
 cases op with
 |shl=>
  simp only [kG,Option.some.injEq,Prod.mk.injEq] at h
  obtain⟨rfl,rfl⟩:=h
  exact⟨_,by simp [binOp,Op.shift,Int.not_lt.2 hc],rfl⟩
 |shr=>
  simp only [kG,Option.some.injEq,Prod.mk.injEq] at h
  obtain⟨rfl,rfl⟩:=h
  exact⟨_,by simp [binOp,Op.shift,Int.not_lt.2 hc],rfl⟩
 |andNot=>
  simp only [kG,CQ] at h
  split at h<;>cases h
 |quo=>
  simp only [kG,CQ] at h
  split at h
  ·rename_i hk
   subst hk
   simp only [Option.some.injEq,Prod.mk.injEq] at h
   obtain⟨rfl,rfl⟩:=h
   exact⟨_,by simp [binOp,Op.intDiv,hc],rfl⟩
  cases h
 |rem=>
  simp only [kG,CQ] at h
  split at h
  ·rename_i hk
   subst hk
   simp only [Option.some.injEq,Prod.mk.injEq] at h
   obtain⟨rfl,rfl⟩:=h
   exact⟨_,by simp [binOp,Op.intDiv,hc],rfl⟩
  cases h
 |_=>
  simp only [kG,CQ] at h
  split at h
  ·rename_i hk
   subst hk
   simp only [Option.some.injEq,Prod.mk.injEq] at h
   obtain⟨rfl,rfl⟩:=h
   exact⟨_,by simp [binOp,Op.intArith,Op.intBits,Op.intCmp];try rfl,rfl⟩
  cases h
theorem ML (x y:List UInt8):(ByteArray.mk x.toArray)++(ByteArray.mk y.toArray)=ByteArray.mk (x++y).toArray:=by
 apply ByteArray.ext
 simp
theorem MM {op:BinOp} {x y:List UInt8} {t:TypeId} {q:Sc} {c:Prop} (h:kG P t op (.st x) (.st y)=some (q,c)) (hc:c) (X Y:Operand):
  ∃ v,(do eqGuard op t X Y (.string ⟨x.toArray⟩) (.string ⟨y.toArray⟩);binOp op t (.string ⟨x.toArray⟩) (.string ⟨y.toArray⟩)).run P w=.ok v w/\ScR β q v:=by
 have hg:∀ (m:Sem Value),(do eqGuard op t X Y (.string ⟨x.toArray⟩) (.string ⟨y.toArray⟩);m).run P w=m.run P w:=by
  intro m
  cases op<;>simp [eqGuard]
 rw [hg]
 cases op with
 |add=>
  simp only [kG,Option.some.injEq,Prod.mk.injEq] at h
  obtain⟨rfl,rfl⟩:=h
  refine⟨.string ⟨(x++y).toArray⟩,?_,rfl⟩
  rw [binOp_string_add,run_string_add_sum w _ _ (by simp [ByteArray.size];omega),ML]
 |eql=>
  simp only [kG,Option.some.injEq,Prod.mk.injEq] at h
  obtain⟨rfl,rfl⟩:=h
  exact⟨_,by simp [binOp,Op.stringOp],rfl⟩
 |neq=>
  simp only [kG,Option.some.injEq,Prod.mk.injEq] at h
  obtain⟨rfl,rfl⟩:=h
  exact⟨_,by simp [binOp,Op.stringOp],rfl⟩
 |_=>simp only [kG] at h;cases h
theorem yT {t:TypeId} (ht:vL P t=true) (d:Nat) (x y:Bool):(Op.equalIn (d+1) t (.bool x) (.bool y)).run P w=.ok (x == y) w:=by
 simp only [Op.equalIn,RT,run_underlying (IB ht),RR,RY]
theorem ul {t:TypeId} (ht:vL P t=true) (x y:Bool):(Op.equal t (.bool x) (.bool y)).run P w=.ok (x == y) w:=by
 exact yT ht 9999 x y
theorem MN {op:BinOp} {x y:Bool} {t:TypeId} {q:Sc} {c:Prop} (h:kG P t op (.bo x) (.bo y)=some (q,c)) (X Y:Operand):
  ∃ v,(do eqGuard op t X Y (.bool x) (.bool y);binOp op t (.bool x) (.bool y)).run P w=.ok v w/\ScR β q v:=by
 have hg:∀ (m:Sem Value),(do eqGuard op t X Y (.bool x) (.bool y);m).run P w=m.run P w:=by
  intro m
  cases op<;>simp [eqGuard]
 rw [hg]
 cases op with
 |eql=>
  simp only [kG] at h
  split at h
  ·rename_i ht
   simp only [Option.some.injEq,Prod.mk.injEq] at h
   obtain⟨rfl,rfl⟩:=h
   exact⟨_,by simp only [binOp,RT,ul ht,RR,RY],rfl⟩
  cases h
 |neq=>
  simp only [kG] at h
  split at h
  ·rename_i ht
   simp only [Option.some.injEq,Prod.mk.injEq] at h
   obtain⟨rfl,rfl⟩:=h
   exact⟨_,by simp only [binOp,RT,ul ht,RR,RY],rfl⟩
  cases h
 |_=>simp only [kG] at h;cases h
theorem OL (hs:HSim β s.hp w) (hsl:SlotsR β s.sl a.tmps) (op:BinOp) (t u:TypeId) (x y:Operand) (ho:o.op=.binOp op t x y u) (h:cr P s ty (.binOp op t x y u)=some r) (hc:r.c):iO β s r w ((execOp a.eval o).run P w):=by
 simp only [cr] at h
 split at h
 ·rename_i p q hx hy
  have hvx:ScR β p (a.eval x):=dN hsl hx
  have hvy:ScR β q (a.eval y):=dN hsl hy
  split at h
  ·rename_i res c hb
   simp only [Option.some.injEq] at h
   subst h
   have hc':c:=hc
   have key:∃ v,(do eqGuard op t x y (a.eval x) (a.eval y);binOp op t (a.eval x) (a.eval y)).run P w=.ok v w/\ScR β res v:=by
    cases p with
    |int k n=>cases q with
     |int k' m=>
      have e1:a.eval x=.int k n:=hvx
      have e2:a.eval y=.int k' m:=hvy
      rw [e1,e2];exact MK hb hc' x y
     |_=>simp only [kG] at hb;cases hb
    |st l=>cases q with
     |st m=>
      have e1:a.eval x=.string ⟨l.toArray⟩:=hvx
      have e2:a.eval y=.string ⟨m.toArray⟩:=hvy
      rw [e1,e2];exact MM hb hc' x y
     |_=>simp only [kG] at hb;cases hb
    |bo l=>cases q with
     |bo m=>
      have e1:a.eval x=.bool l:=hvx
      have e2:a.eval y=.bool m:=hvy
      rw [e1,e2];exact MN hb x y
     |_=>simp only [kG] at hb;cases hb
    |_=>simp only [kG] at hb;cases hb
   obtain⟨v,hrun,hr⟩:=key
   refine dW hs (v:=v) ?_ hr
   unfold execOp
   rw [ho]
   simp only [RT] at hrun⊢
   rw [hrun]
   rfl
  cases h
 ·rename_i p q hx hy
  obtain⟨vs,hpe,hl⟩:gm β (.ag p) (a.eval x):=dN hsl hx
  obtain⟨us,hqe,hm⟩:gm β (.ag q) (a.eval y):=dN hsl hy
  split at h
  ·simp only [Option.some.injEq] at h
   subst h
   obtain⟨h1,_⟩:=(show J4 P t p q (dc p q) from hc) β w x y vs us hl hm
   refine dW hs (v:=.bool (dc p q)) ?_ rfl
   unfold execOp
   rw [ho]
   simp only [RT] at h1⊢
   rw [hpe,hqe,h1]
   rfl
  ·simp only [Option.some.injEq] at h
   subst h
   obtain⟨_,h1⟩:=(show J4 P t p q (dc p q) from hc) β w x y vs us hl hm
   refine dW hs (v:=.bool (!dc p q)) ?_ rfl
   unfold execOp
   rw [ho]
   simp only [RT] at h1⊢
   rw [hpe,hqe,h1]
   rfl
  cases h
 cases h
theorem PC (hs:HSim β s.hp w) (hsl:SlotsR β s.sl a.tmps) (op:UnOp) (t:TypeId) (x:Operand) (ho:o.op=.unOp op t x) (h:cr P s ty (.unOp op t x)=some r):iO β s r w ((execOp a.eval o).run P w):=by
 simp only [cr] at h
 split at h
 ·rename_i b hx
  have hv:a.eval x=.bool b:=dN hsl hx
  split at h
  ·simp only [Option.some.injEq] at h
   subst h
   refine bV hs (v:=.bool (!b)) ?_ rfl
   unfold execOp
   rw [ho]
   simp [hv,Op.unary]
  cases h
 ·rename_i k n hx
  have hv:a.eval x=.int k n:=dN hsl hx
  split at h
  ·simp only [Option.some.injEq] at h
   subst h
   refine bV hs (v:=.int k (k.wrap (0 - n))) ?_ rfl
   unfold execOp
   rw [ho]
   simp [hv,Op.unary,Op.intArith]
  cases h
 cases h
theorem Bo (hs:HSim β s.hp w) (hsl:SlotsR β s.sl a.tmps) (t:TypeId) (x:Operand) (f:Nat) (ho:o.op=.fieldAddr t x f) (h:cr P s ty (.fieldAddr t x f)=some r):iO β s r w ((execOp a.eval o).run P w):=by
 simp only [cr] at h
 split at h
 ·rename_i n k j off sz hx hf
  obtain⟨p,hp,hpe⟩:ScR β (.pt n k j) (a.eval x):=dN hsl hx
  simp only [Option.some.injEq] at h
  subst h
  unfold ak at hf
  split at hf
  ·rename_i fs hfs
   split at hf
   ·rename_i g hg
    split at hf
    ·cases hf
    rename_i hz
    simp only [Option.some.injEq,Prod.mk.injEq] at hf
    obtain⟨rfl,rfl⟩:=hf
    refine bV hs (v:=.pointer (some ⟨p.blk,p.base+k*p.esz+(j+g.offset),none⟩)) ?_ ⟨p,hp,rfl⟩
    unfold execOp
    rw [ho]
    have hi:(P.info? g.type).isSome=true:=Hc zO
    simp [hpe,Instr.fieldAt,run_underlying hfs,hg,Instr.sureAddr,fieldPlace,e7 w hi,hz,Addr.add_lit,So]
   cases hf
  cases hf
 cases h
theorem Kb (hs:HSim β s.hp w) (hsl:SlotsR β s.sl a.tmps) (t:TypeId) (x:Operand) (f:Nat) (ho:o.op=.field t x f) (h:cr P s ty (.field t x f)=some r):iO β s r w ((execOp a.eval o).run P w):=by
 simp only [cr] at h
 split at h
 ·rename_i cs off hx hf
  obtain⟨vs,hve,hl⟩:gm β (.ag cs) (a.eval x):=dN hsl hx
  split at h
  ·rename_i c hc
   simp only [Option.some.injEq] at h
   subst h
   obtain⟨v,hv,hr⟩:=hl.get hc
   unfold RH at hf
   split at hf
   ·rename_i fs hfs
    split at hf
    ·rename_i g hg
     split at hf
     ·rename_i hk
      simp only [Option.some.injEq] at hf
      subst hf
      simp only [RZ,SJ,fJ] at hk
      obtain⟨⟨h1,_⟩,h2⟩:=hk
      obtain⟨d,hd⟩:=R9.1 h1
      refine bV hs (v:=v) ?_ hr
      unfold execOp
      rw [ho]
      simp [hve,Instr.field,run_underlying hfs,hg,part,asAgg,j_ w hd,h2,hv]
     cases hf
    cases hf
   cases hf
  cases h
 cases h
theorem Bp (hs:HSim β s.hp w) (hsl:SlotsR β s.sl a.tmps) (t:TypeId) (x i:Operand) (ho:o.op=.indexAddr t x i) (h:cr P s ty (.indexAddr t x i)=some r) (hc:r.c):iO β s r w ((execOp a.eval o).run P w):=by
 simp only [cr] at h
 split at h
 ·rename_i n off len k m e sz hx hi ht0
  obtain⟨ht,hkn,rfl⟩:=iR ht0
  have hvx:ScR β (.sl n off len) (a.eval x):=dN hsl hx
  have hvi:a.eval i=.int k m:=dN hsl hi
  split at h
  ·rename_i ob hob
   split at h
   ·rename_i hesz
    simp only [Option.some.injEq] at h
    subst h
    obtain⟨h0,h1⟩:0<=m/\m < len:=hc
    obtain⟨ad,cap,hxe,hlc,hcm,hor⟩:=hvx
    rcases hor with rfl|⟨p,hp,rfl,hav⟩
    ·omega
    obtain⟨he,_⟩:=jE hs (dq hob) hp
    refine dW hs (v:=.pointer (some ⟨p.blk,p.base+(off+m.toNat)*p.esz+0,none⟩)) ?_ ⟨p,hp,rfl⟩
    unfold execOp
    rw [ho]
    have hes:p.base+(off+m.toNat)*p.esz=p.base+off*p.esz+m.toNat*dZ P e:=by rw [<-hesz,<-he,R0,So]
    simp [hxe,hvi,Instr.indexAt,asIntOf,run_underlying (il ht),h0,h1,e7 w (nc hkn),Addr.add_lit,hes]
   cases h
  cases h
 cases h
theorem Kc (hs:HSim β s.hp w) (hsl:SlotsR β s.sl a.tmps) (t:TypeId) (x i:Operand) (ho:o.op=.index t x i) (h:cr P s ty (.index t x i)=some r) (hc:r.c):iO β s r w ((execOp a.eval o).run P w):=by
 simp only [cr] at h
 split at h
 ·rename_i l k m hx hi
  have hvx:a.eval x=.string ⟨l.toArray⟩:=dN hsl hx
  have hvi:a.eval i=.int k m:=dN hsl hi
  split at h
  ·rename_i ht
   simp only [Option.some.injEq] at h
   subst h
   obtain⟨h0,h1⟩:0<=m/\m < l.length:=hc
   have hlt:m.toNat < l.length:=zO
   refine dW hs (v:=.int .u8 (l.getD m.toNat 0).toNat) ?_ rfl
   unfold execOp
   rw [ho]
   have hg:(ByteArray.mk l.toArray)[m.toNat]? =some (l[m.toNat]'hlt):=by
    rw [getElem?_pos (ByteArray.mk l.toArray) m.toNat (by simpa [ByteArray.size] using hlt)]
    simp [ByteArray.getElem_eq_getElem_data]
   simp [hvx,hvi,Instr.index,asIntOf,run_underlying (rl ht),h0,hg,R4,RX hlt]
  cases h
 cases h
theorem Fq (hs:HSim β s.hp w) (hsl:SlotsR β s.sl a.tmps) (x:Operand) (i:Nat) (ho:o.op=.extract x i) (h:cr P s ty (.extract x i)=some r):iO β s r w ((execOp a.eval o).run P w):=by
 simp only [cr] at h
 split at h
 ·rename_i l hx
  obtain⟨vs,hpe,hl⟩:gm β (.tu l) (a.eval x):=dN hsl hx
  split at h
  ·rename_i c hc
   simp only [Option.some.injEq] at h
   subst h
   obtain⟨v,hv,hr⟩:=hl.get hc
   refine bV hs (v:=v) ?_ (Co.av_R hr)
   unfold execOp
   rw [ho]
   simp [hpe,Instr.extract,hv]
  cases h
 cases h
theorem CU (hs:HSim β s.hp w) (hsl:SlotsR β s.sl a.tmps) (f:FuncId) (first caps:Array Operand) (ho:o.op=.makeFunc (.func f) first caps) (h:cr P s ty (.makeFunc (.func f) first caps)=some r):iO β s r w ((execOp a.eval o).run P w):=by
 simp only [cr] at h
 split at h
 ·rename_i hf
  have hf':first= #[]:=Sa hf
  subst hf'
  split at h
  ·rename_i l hl
   simp only [Option.some.injEq] at h
   subst h
   refine bV hs (v:=.func (.func f) #[] (caps.toList.map a.eval).toArray) ?_ ⟨_,rfl,Ha hsl hl⟩
   unfold execOp
   rw [ho]
   have e:caps.map a.eval=(caps.toList.map a.eval).toArray:=by apply Array.ext';simp
   simp [Instr.makeFunc,e]
  cases h
 cases h
theorem kI {α:Type} {l:Array α} {x y:α} (h:l.toList=[x,y]):l= #[x,y]:=by apply Array.ext';simpa using h
theorem um {α:Type} {l:Array α} {x:α} (h:l.toList=[x]):l= #[x]:=by apply Array.ext';simpa using h
theorem OM (hs:HSim β s.hp w) (hsl:SlotsR β s.sl a.tmps) (args:Array Operand) (at_:Array TypeId) (ho:o.op=.call ⟨.builtin .len,args,at_⟩) (h:cr P s ty (.call ⟨.builtin .len,args,at_⟩)=some r):iO β s r w ((execOp a.eval o).run P w):=by
 simp only [cr] at h
 split at h
 ·rename_i x t ha ht
  have ha':=um ha
  have ht':=um ht
  subst ha';subst ht'
  split at h
  ·rename_i l hx
   have hv:a.eval x=.string ⟨l.toArray⟩:=dN hsl hx
   split at h
   ·rename_i hs'
    simp only [Option.some.injEq] at h
    subst h
    refine bV hs (v:=.int .i64 l.length) ?_ rfl
    unfold execOp
    rw [ho]
    have hz:(ByteArray.mk l.toArray).size=l.length:=rfl
    simp only [resolve,invoke,builtin,Builtin.len_,hv,run_underlying (rl hs'),goInt,hz,RT,RY,RR,SN,Sz,SR,Sp,Sl]
   cases h
  ·rename_i n off len hx
   obtain⟨ad,cap,hxe,_⟩:ScR β (.sl n off len) (a.eval x):=dN hsl hx
   split at h
   ·rename_i q hs'
    simp only [Option.some.injEq] at h
    subst h
    obtain⟨e,qn⟩:=q
    obtain⟨he,_⟩:=iR hs'
    refine bV hs (v:=.int .i64 len) ?_ rfl
    unfold execOp
    rw [ho]
    simp [resolve,invoke,builtin,Builtin.len_,hxe,run_underlying (il he),goInt]
   cases h
  ·rename_i hx
   obtain⟨ad,hxe⟩:ScR β .nil (a.eval x):=dN hsl hx
   split at h
   ·rename_i q hs'
    simp only [Option.some.injEq] at h
    subst h
    obtain⟨e,qn⟩:=q
    obtain⟨he,_⟩:=iR hs'
    refine bV hs (v:=.int .i64 0) ?_ rfl
    unfold execOp
    rw [ho]
    simp [resolve,invoke,builtin,Builtin.len_,hxe,run_underlying (il he),goInt]
   cases h
  cases h
 cases h
theorem ON (hs:HSim β s.hp w) (hsl:SlotsR β s.sl a.tmps) (args:Array Operand) (at_:Array TypeId) (ho:o.op=.call ⟨.builtin .min,args,at_⟩) (h:cr P s ty (.call ⟨.builtin .min,args,at_⟩)=some r):iO β s r w ((execOp a.eval o).run P w):=by
 simp only [cr] at h
 split at h
 ·rename_i x y ha
  have ha':=kI ha
  subst ha'
  split at h
  ·rename_i k m k' n hx hy
   have hvx:a.eval x=.int k m:=dN hsl hx
   have hvy:a.eval y=.int k' n:=dN hsl hy
   simp only [Option.some.injEq] at h
   subst h
   refine bV hs (v:=.int k (if n < m then n else m)) ?_ rfl
   unfold execOp
   rw [ho]
   simp [resolve,invoke,builtin,Builtin.min_,Builtin.min2,hvx,hvy]
  cases h
 cases h
theorem OO (hs:HSim β s.hp w) (hsl:SlotsR β s.sl a.tmps) (args:Array Operand) (at_:Array TypeId) (ho:o.op=.call ⟨.builtin .max,args,at_⟩) (h:cr P s ty (.call ⟨.builtin .max,args,at_⟩)=some r):iO β s r w ((execOp a.eval o).run P w):=by
 simp only [cr] at h
 split at h
 ·rename_i x y ha
  have ha':=kI ha
  subst ha'
  split at h
  ·rename_i k m k' n hx hy
   have hvx:a.eval x=.int k m:=dN hsl hx
   have hvy:a.eval y=.int k' n:=dN hsl hy
   simp only [Option.some.injEq] at h
   subst h
   refine bV hs (v:=.int k (if m < n then n else m)) ?_ rfl
   unfold execOp
   rw [ho]
   simp [resolve,invoke,builtin,Builtin.max_,Builtin.max2,hvx,hvy]
  cases h
 cases h
end
end
section
open Go.RowKit
section
variable {P:Program} {β:Be} {s:S} {a:Act} {w:World} {o:Oper} {r:OpR} {ty:TypeId}
theorem eW (src dst:TypeId) (x:Operand) (ho:o.op=.convert src dst x) {v:Value} {w':World} (h:(convert src dst (a.eval x)).run P w=.ok v w'):(execOp a.eval o).run P w=.ok (.value v) w':=by
 unfold execOp
 rw [ho]
 simp only [RT,h,RR]
 rfl
theorem uo {arr:Array Value} {base esz:Nat} {cs:List (List Sc)} (hc:dY β arr base esz cs) {off len:Nat} (hb:off+len<=cs.length) {k j:Nat} (hk:k < len) (hj:j < esz):
  ∃ c x v,cs[off+k]? =some c/\c[j]? =some x/\arr[base+(off+k)*esz+j]? =some v/\ScR β x v:=by
 have h1:cs[off+k]? =some (cs[off+k]' zO):=RX zO
 obtain⟨hl,hcell⟩:=hc _ _ h1
 have h2:(cs[off+k]' zO)[j]? =some ((cs[off+k]' zO)[j]' zO):=RX zO
 obtain⟨v,hv,hr⟩:=hcell j _ h2
 exact⟨_,_,v,h1,h2,hv,hr⟩
theorem MO {c:List Sc} {x:Sc} (hb:pT c=true) (hx:c[0]? =some x):∃ n,c=[.int .u8 n]/\x=.int .u8 n:=by
 unfold pT at hb
 split at hb
 ·rename_i n
  simp at hx
  exact⟨n,rfl,hx.symm⟩
 cases hb
theorem MP {src dst:TypeId} {k:IntKind} (h:Iz P src dst=some (.int k)):(∃ d,P.underlying src=some d)/\P.underlying dst=some (.int k):=by
 unfold Iz at h
 split at h
 ·rename_i h1 h2
  simp only [Option.some.injEq,Cv.int.injEq] at h
  subst h
  exact⟨⟨_,h1⟩,h2⟩
 ·cases h
 ·split at h<;>cases h
 ·split at h<;>cases h
 cases h
theorem MQ {src dst:TypeId} (h:Iz P src dst=some .str):P.underlying src=some .string/\P.underlying dst=some .string:=by
 unfold Iz at h
 split at h
 ·cases h
 ·rename_i h1 h2;exact⟨h1,h2⟩
 ·split at h<;>cases h
 ·split at h<;>cases h
 cases h
theorem MR {src dst e:TypeId} (h:Iz P src dst=some (.s2b e)):P.underlying src=some .string/\P.underlying dst=some (.slice e)/\P.underlying e=some (.int .u8):=by
 unfold Iz at h
 split at h
 ·cases h
 ·cases h
 ·rename_i h1 h2
  split at h
  ·rename_i h3
   simp only [Option.some.injEq,Cv.s2b.injEq] at h
   subst h
   exact⟨h1,h2,Hb h3⟩
  cases h
 ·split at h<;>cases h
 cases h
theorem Hh {src dst:TypeId} (h:Iz P src dst=some .b2s):∃ e,P.underlying src=some (.slice e)/\P.underlying dst=some .string/\P.underlying e=some (.int .u8):=by
 unfold Iz at h
 split at h
 ·cases h
 ·cases h
 ·split at h<;>cases h
 ·rename_i e h1 h2
  split at h
  ·rename_i h3
   exact⟨e,h1,h2,Hb h3⟩
  cases h
 cases h
theorem Fr (hs:HSim β s.hp w) (hsl:SlotsR β s.sl a.tmps) (src dst:TypeId) (x:Operand) (ho:o.op=.convert src dst x) (h:cr P s ty (.convert src dst x)=some r) (hc:r.c):iO β s r w ((execOp a.eval o).run P w):=by
 simp only [cr] at h
 split at h
 ·rename_i k' k n hcv hx
  have hv:a.eval x=.int k n:=dN hsl hx
  obtain⟨⟨d,hd⟩,hk'⟩:=MP hcv
  simp only [Option.some.injEq] at h
  subst h
  refine bV hs (v:=.int k' (k'.wrap n)) (eW src dst x ho ?_) rfl
  rw [hv]
  simp [convert,run_underlying hd,run_underlying hk',Conv.intToInt]
 ·rename_i l hcv hx
  have hv:a.eval x=.string ⟨l.toArray⟩:=dN hsl hx
  obtain⟨hd,hdst⟩:=MQ hcv
  simp only [Option.some.injEq] at h
  subst h
  refine bV hs (v:=.string ⟨l.toArray⟩) (eW src dst x ho ?_) rfl
  rw [hv]
  simp [convert,run_underlying hd,run_underlying hdst]
 ·rename_i e l hcv hx
  have hv:a.eval x=.string ⟨l.toArray⟩:=dN hsl hx
  obtain⟨hd,hdst,hu8⟩:=MR hcv
  simp only [Option.some.injEq] at h
  subst h
  have hlen:l.length<=1073741824:=hc
  have hz:(ByteArray.mk l.toArray).size=l.length:=rfl
  have hrun:=Lib.run_convert_string_bytes (P:=P) w src dst e ⟨l.toArray⟩ hd hdst hu8
  have hge:=grownCap_ge w l.length 0 e
  have hle:=grownCap_le_maxLen w l.length 0 e (by unfold maxLen;omega)
  have hcells:(Lib.bytesCells w e ⟨l.toArray⟩).size=grownCap w l.length 0 e:=by
   simp only [Lib.bytesCells,hz,SK,Array.size_map,Array.size_replicate]
   have:(ByteArray.mk l.toArray).data.size=l.length:=rfl
   rw [this]
   omega
  let p:Pl:=⟨w.heap.size,0,1,grownCap w l.length 0 e⟩
  have hlike:World.like w (Lib.bytesWorld w e ⟨l.toArray⟩):=⟨rfl,rfl,rfl⟩
  refine⟨β++[some p],Lib.bytesWorld w e ⟨l.toArray⟩,m9 hs.len hlike (by rw [Lib.bytesWorld_size];omega) (fun k hk=>Lib.bytesWorld_at_old w e _ k hk) p _ (RV _),
   pR hs (fun k hk=>Lib.bytesWorld_at_old w e _ k hk) (RV _) ?_ (fun _ c hm=>by
    simp only [SI] at hm
    obtain⟨b,_,rfl⟩:=hm
    rfl),.inl ⟨.slice (some ⟨w.heap.size,0,none⟩) l.length (grownCap w l.length 0 e),_,eW src dst x ho (by rw [hv];exact hrun),rfl,?_⟩⟩
  ·refine⟨rfl,_,_,_,Lib.bytesWorld_at_new w e _,?_,fun hown=>by cases hown⟩
   refine gS (fun c hm=>?_) fun k j c y hk hj=>?_
   ·simp only [SI] at hm
    obtain⟨b,_,rfl⟩:=hm
    rfl
   simp only [R8,Sn] at hk
   obtain⟨b,hb,rfl⟩:=hk
   have hj0:j=0:=by have:=(RP.1 hj).1;simpa [Fj] using this
   subst hj0
   simp only [Fj,Sl,Option.some.injEq] at hj
   subst hj
   have hkl:k < l.length:=(RP.1 hb).1
   refine⟨.int .u8 b.toNat,?_,rfl⟩
   simp only [Nat.mul_one,Sj,Lib.bytesCells]
   rw [Ss (by simpa using hkl)]
   simp [hb]
  exact⟨_,_,rfl,hge,hle,.inr ⟨p,by rw [<-hs.len];simp,by simp [p],by simp [p]⟩⟩
 ·rename_i n off len hcv hx
  have hvx:ScR β (.sl n off len) (a.eval x):=dN hsl hx
  obtain⟨e,hsrc,hdst,hu8⟩:=Hh hcv
  split at h
  ·rename_i ob hob
   split at h
   ·rename_i hesz
    simp only [Option.some.injEq] at h
    subst h
    obtain⟨hb,hall⟩:off+len<=ob.cs.length/\∀ c∈ob.cs,pT c=true:=hc
    obtain⟨ad,cap,hxe,hlc,hcm,hor⟩:=hvx
    rcases hor with hcap|⟨p,hp,rfl,hav⟩
    ·have hl0:len=0:=zO
     subst hl0
     refine dW hs (v:=.string ⟨#[]⟩) (eW src dst x ho ?_) ?_
     ·rw [hxe]
      cases ad with
      |none=>exact run_convert_bytes_nil w src e hsrc hu8 0 cap dst hdst
      |some b=>
       rw [run_convert_bytes_string w src dst e _ 0 cap hsrc hu8 hdst,run_bytesToString w b 0 cap [] (by simp [loadCells,loadCellsFrom])]
       rfl
     show Value.string _=_
     simp
    obtain⟨he',arr,T,fz,hh,hcr,_⟩:=jE hs (dq hob) hp
    rw [hesz] at hcr
    let num:List Sc->Int:=fun c=>match c with|[.int .u8 q]=>q|_=>0
    have hw:=run_convert_bytes_arg (P:=P) w src e hsrc hu8 p.blk (p.base+off*p.esz) len cap (((ob.cs.drop off).take len).map num) zS (fun i hi=>by
     obtain⟨c,y,v,h1,h2,h3,h4⟩:=uo hcr hb hi (j:=0) zO
     obtain⟨q,rfl,rfl⟩:=MO (hall c (Sd h1)) h2
     rw [oE hh,he',hesz]
     have h5:(((ob.cs.drop off).take len).map num).getD i 0=q:=by
      rw [R4,R8,R2 hi,Sb,h1]
      rfl
     rw [h5]
     rw [show p.base+off*1+i=p.base+(off+i)*1+0 from by omega,h3,h4]) dst hdst
    refine dW hs (v:=.string (strOfNums (((ob.cs.drop off).take len).map num))) (eW src dst x ho (by rw [hxe];exact hw)) ?_
    show Value.string _=_
    congr 1
    unfold strOfNums
    congr 2
    rw [List.map_map]
    refine List.map_congr_left fun c hm=>?_
    have hb':=hall c (Sf (Se hm))
    unfold pT at hb'
    split at hb'
    ·rfl
    cases hb'
   cases h
  cases h
 ·rename_i hcv hx
  obtain⟨ad,hxe⟩:ScR β .nil (a.eval x):=dN hsl hx
  obtain⟨e,hsrc,hdst,hu8⟩:=Hh hcv
  simp only [Option.some.injEq] at h
  subst h
  refine bV hs (v:=.string ⟨#[]⟩) (eW src dst x ho ?_) rfl
  rw [hxe]
  cases ad with
  |none=>exact run_convert_bytes_nil w src e hsrc hu8 0 0 dst hdst
  |some b=>
   rw [run_convert_bytes_string w src dst e _ 0 0 hsrc hu8 hdst,run_bytesToString w b 0 0 [] (by simp [loadCells,loadCellsFrom])]
   rfl
 cases h
theorem Bq (hs:HSim β s.hp w) (hsl:SlotsR β s.sl a.tmps) (t:TypeId) (x y:Operand) (ho:o.op=.makeSlice t x y) (h:cr P s ty (.makeSlice t x y)=some r) (hc:r.c):iO β s r w ((execOp a.eval o).run P w):=by
 simp only [cr] at h
 split at h
 ·rename_i e sz he0
  obtain⟨he,_,rfl⟩:=iR he0
  split at h
  ·rename_i z hz0
   obtain⟨hz,hzl,hpos,_,hby,_⟩:=m_ hz0
   split at h
   ·rename_i k l k' c hx hy
    have hvx:a.eval x=.int k l:=dN hsl hx
    have hvy:a.eval y=.int k' c:=dN hsl hy
    simp only [Option.some.injEq] at h
    subst h
    obtain⟨h0,h1,h2⟩:0<=l/\l<=c/\c<=1073741824:=hc
    obtain⟨i,v,vs,hi,hzv,hvc,hsc⟩:=kc hz
    have hr:=vN β hsc
    have hti:=vO hi
    have hvl:=hr.length
    have hbi:i.bytes<=131072:=by
     have:Pu P e=i.bytes:=by simp [Pu,hi]
     omega
    have hb2:(i.bytes:Int)*c<=281474976710656:=by
     obtain⟨m,rfl⟩:=Int.eq_ofNat_of_zero_le (show 0<=c by omega)
     have:i.bytes*m<=131072*m:=RW _ hbi
     have h3:((i.bytes*m:Nat):Int)<=281474976710656:=zO
     rwa [Int.natCast_mul] at h3
    have hrun:=run_make (P:=P) w t e i v (il he) hi hzv k k' l c h0 h1 hb2 zO
    refine rp hs (arr:=madeCells v.cells (c.toNat*i.size)) (v:=.slice (some ⟨w.heap.size,0,none⟩) l.toNat c.toNat) ?_ ?_ (fun h d hm=>by rw [Sk hm];exact h) (J8 hs _ _ _ _ zO (by unfold maxLen;omega) ?_)
    ·unfold execOp
     rw [ho]
     simp only [hvx,hvy,RT,hrun,RR]
     rfl
    ·refine gS (fun d hm=>by rw [Sk hm];exact hzl) fun m j d q hk hj=>?_
     have hkl:m < l.toNat:=by have:=(RP.1 hk).1;simpa using this
     rw [Sq hkl] at hk
     simp only [Option.some.injEq] at hk
     subst hk
     obtain⟨u,hu,hru⟩:=hr.get hj
     have hjl:j < z.length:=(RP.1 hj).1
     refine⟨u,?_,hru⟩
     have hzs:vs.toArray.size=i.size:=by simp;omega
     have hg:=zU vs.toArray c.toNat m j zO zO
     rw [hzs] at hg
     unfold madeCells
     rw [hvc,hzs]
     show ((Array.range (c.toNat*i.size)).map (vs.toArray[· % i.size]!))[m*dZ P e+j]? =_
     rw [hti,hg]
     simpa using hu
    show c.toNat*dZ P e<=(madeCells v.cells (c.toNat*i.size)).size
    rw [size_madeCells,hti]
    exact RV _
   cases h
  cases h
 cases h
theorem CV {β:Be} {s:S} {a:Act} (hs:SlotsR β s.sl a.tmps) {x:Option Operand} {n:Option Int} (h:j9 s x=some n):(x=none/\n=none)\/∃ k m,n=some m/\x.map a.eval=some (.int k m):=by
 cases x with
 |none=>simp only [j9,Option.some.injEq] at h;exact .inl ⟨rfl,h.symm⟩
 |some x=>
  simp only [j9] at h
  split at h
  ·rename_i k m hx
   simp only [Option.some.injEq] at h
   subst h
   have hv:a.eval x=.int k m:=dN hs hx
   exact .inr ⟨k,m,rfl,by simp [hv]⟩
  cases h
theorem eE (t:TypeId) (x:Operand) (lo hi:Option Operand) (ho:o.op=.slice t x lo hi none) {v:Value} {w':World} (h:(Instr.sliceAt t (a.eval x) (lo.map a.eval) (hi.map a.eval) none).run P w=.ok v w'):(execOp a.eval o).run P w=.ok (.value v) w':=by
 unfold execOp
 rw [ho]
 simp only [Option.map_none,RT,h,RR]
 rfl
theorem gB {t:TypeId} (ht:Fi P t=true) (l:List UInt8) (lo hi:Option Value) (m n:Nat) (hb:(Instr.sliceBounds false l.length l.length lo hi none).run P w=.ok (m,n,l.length) w):
  (Instr.sliceAt t (.string ⟨l.toArray⟩) lo hi none).run P w=.ok (.string ⟨((l.take n).drop m).toArray⟩) w:=by
 rw [run_sliceAt_string w t _ lo hi none (rl ht)]
 have hz:(ByteArray.mk l.toArray).size=l.length:=rfl
 simp only [Instr.slice,RT,run_underlying (rl ht),RR,Option.isSome_none,Bool.false_eq_true,if_false,RY,hz,hb]
 congr 2
 apply ByteArray.ext
 apply Array.ext'
 simp [ByteArray.data_extract,List.extract_eq_take_drop,List.take_drop]
 by_cases hmn:m<=n
 ·rw [Nat.add_sub_cancel' hmn]
 rw [Sx zS,Sx zS]
theorem mU (b:Bool) (len cap:Nat):(Instr.sliceBounds b len cap none none none).run P w=.ok (0,len,cap) w:=by simp [Instr.sliceBounds]
theorem pp (b:Bool) (len cap:Nat) (k:IntKind) (m:Int) (h0:0<=m) (h1:m<=len):(Instr.sliceBounds b len cap (some (.int k m)) none none).run P w=.ok (m.toNat,len,cap) w:=by
 simp [Instr.sliceBounds,run_sliceBound,h0,h1]
theorem pq (b:Bool) (len cap:Nat) (k:IntKind) (m:Int) (h0:0<=m) (h1:m<=cap):(Instr.sliceBounds b len cap none (some (.int k m)) none).run P w=.ok (0,m.toNat,cap) w:=by
 simp [Instr.sliceBounds,run_sliceBound,h0,h1]
theorem mV (b:Bool) (len cap:Nat) (k k':IntKind) (m n:Int) (h0:0<=m) (h1:m<=n) (h2:n<=cap):(Instr.sliceBounds b len cap (some (.int k m)) (some (.int k' n)) none).run P w=.ok (m.toNat,n.toNat,cap) w:=by
 have h3:0<=n:=zO
 have h4:m<=(n.toNat:Int):=zO
 have e1:=run_sliceBound (P:=P) w k m n.toNat .sliceB h0 h4
 have e2:∀ c,(Instr.sliceBound (.int k' n) cap c).run P w=.ok n.toNat w:=fun c=>run_sliceBound (P:=P) w k' n cap c h3 h2
 cases b<;>simp [Instr.sliceBounds,e1,e2]
theorem im {t e:TypeId} (ht:OI P t=some e) (hk:fJ P e=true) (ad:Option Addr) (len cap:Nat) (lo hi:Option Value) (m n:Nat) (hb:(Instr.sliceBounds true len cap lo hi none).run P w=.ok (m,n,cap) w):
  (Instr.sliceAt t (.slice ad len cap) lo hi none).run P w=.ok (sliced ad m n cap (dZ P e)) w:=by
 have hel:P.elem t=e:=by simp [Program.elem,il ht]
 have hu:P.underlying t=some (.slice (P.elem t)):=by rw [hel];exact il ht
 rw [run_sliceAt_slice w t _ lo hi none hu]
 have:=run_slice_any w t ad len cap hu lo hi none
 rw [this,hb]
 simp only [RR,hel,e7 w (nc hk)]
theorem rq {n off len esz:Nat} {ad:Option Addr} {cap m q:Nat} (hlc:len<=cap) (hcm:cap<=maxLen) (h:cap=0\/∃ p,β[n]? =some (some p)/\ad=some ⟨p.blk,p.base+off*p.esz,none⟩/\(off+cap)*p.esz<=p.avail)
  (hp:∀ p,β[n]? =some (some p)->p.esz=esz) (hmq:m<=q) (hq:q<=len):ScR β (.sl n (off+m) (q - m)) (sliced ad m q cap esz):=by
 refine⟨_,cap - m,rfl,zO,zO,?_⟩
 by_cases hc:cap=m
 ·exact .inl zO
 rcases h with h|⟨p,hp',rfl,hav⟩
 ·exact .inl zO
 refine .inr ⟨p,hp',?_,?_⟩
 ·rw [if_neg hc,<-hp p hp']
  simp [Addr.add_lit,R0,So]
 rw [show off+m+(cap - m)=off+cap from by omega];exact hav
theorem Kd (hs:HSim β s.hp w) (hsl:SlotsR β s.sl a.tmps) (t:TypeId) (x:Operand) (lo hi:Option Operand) (ho:o.op=.slice t x lo hi none) (h:cr P s ty (.slice t x lo hi none)=some r) (hc:r.c):iO β s r w ((execOp a.eval o).run P w):=by
 simp only [cr] at h
 split at h
 ·rename_i v lo' hi' hx hlo hhi
  have hlo':=CV hsl hlo
  have hhi':=CV hsl hhi
  split at h
  ·rename_i l
   have hv:a.eval x=.string ⟨l.toArray⟩:=dN hsl hx
   split at h
   ·rename_i ht
    rcases hlo' with⟨rfl,rfl⟩|⟨k,m,rfl,hm⟩
    ·rcases hhi' with⟨rfl,rfl⟩|⟨k',n,rfl,hn⟩
     ·simp only [fK,Option.some.injEq] at h
      subst h
      refine bV hs (eE t x none none ho (by rw [hv];exact gB ht l none none 0 l.length (mU _ _ _))) ?_
      show Value.string _=_
      simp
     simp only [fK,Option.some.injEq] at h
     subst h
     obtain⟨h0,h1⟩:0<=n/\n<=l.length:=hc
     refine dW hs (eE t x none hi ho (by rw [hv,hn];exact gB ht l none _ 0 n.toNat (pq _ _ _ _ _ h0 h1))) ?_
     show Value.string _=_
     simp
    rcases hhi' with⟨rfl,rfl⟩|⟨k',n,rfl,hn⟩
    ·simp only [fK,Option.some.injEq] at h
     subst h
     obtain⟨h0,h1⟩:0<=m/\m<=l.length:=hc
     refine dW hs (eE t x lo none ho (by rw [hv,hm];exact gB ht l _ none m.toNat l.length (pp _ _ _ _ _ h0 h1))) ?_
     show Value.string _=_
     simp
    simp only [fK,Option.some.injEq] at h
    subst h
    obtain⟨h0,h1,h2⟩:0<=m/\m<=n/\n<=l.length:=hc
    refine dW hs (eE t x lo hi ho (by rw [hv,hm,hn];exact gB ht l _ _ m.toNat n.toNat (mV _ _ _ _ _ _ _ h0 h1 h2))) ?_
    rfl
   cases h
  ·rename_i n off len
   have hvx:ScR β (.sl n off len) (a.eval x):=dN hsl hx
   split at h
   ·rename_i e sz ob he0 hob
    obtain⟨he,hkn,rfl⟩:=iR he0
    split at h
    ·rename_i hesz
     obtain⟨ad,cap,hxe,hlc,hcm,hor⟩:=hvx
     have hp:∀ p,β[n]? =some (some p)->p.esz=dZ P e:=fun p hp=>by
      obtain⟨he',_⟩:=jE hs (dq hob) hp
      rw [he',hesz]
     rcases hlo' with⟨rfl,rfl⟩|⟨k,m,rfl,hm⟩
     ·rcases hhi' with⟨rfl,rfl⟩|⟨k',q,rfl,hn⟩
      ·simp only [fK,Option.some.injEq] at h
       subst h
       refine bV hs (eE t x none none ho (by rw [hxe];exact im he hkn ad len cap none none 0 len (mU _ _ _))) ?_
       have:=rq (m:=0) (q:=len) hlc hcm hor hp (Sm _) (RV _)
       show ScR β (Sc.sl n off len) _
       simpa using this
      simp only [fK,Option.some.injEq] at h
      subst h
      obtain⟨h0,h1⟩:0<=q/\q<=len:=hc
      refine dW hs (eE t x none hi ho (by rw [hxe,hn];exact im he hkn ad len cap none _ 0 q.toNat (pq _ _ _ _ _ h0 zO))) ?_
      have:=rq (m:=0) (q:=q.toNat) hlc hcm hor hp (Sm _) zO
      show ScR β (Sc.sl n off q.toNat) _
      simpa using this
     rcases hhi' with⟨rfl,rfl⟩|⟨k',q,rfl,hn⟩
     ·simp only [fK,Option.some.injEq] at h
      subst h
      obtain⟨h0,h1⟩:0<=m/\m<=len:=hc
      refine dW hs (eE t x lo none ho (by rw [hxe,hm];exact im he hkn ad len cap _ none m.toNat len (pp _ _ _ _ _ h0 h1))) ?_
      exact rq hlc hcm hor hp zO (RV _)
     simp only [fK,Option.some.injEq] at h
     subst h
     obtain⟨h0,h1,h2⟩:0<=m/\m<=q/\q<=len:=hc
     refine dW hs (eE t x lo hi ho (by rw [hxe,hm,hn];exact im he hkn ad len cap _ _ m.toNat q.toNat (mV _ _ _ _ _ _ _ h0 h1 zO))) ?_
     exact rq hlc hcm hor hp zO zO
    cases h
   cases h
  cases h
 cases h
end
end
section
open Go.RowKit
section
variable {P:Program} {β:Be} {s:S} {a:Act} {w:World} {o:Oper} {r:OpR} {ty:TypeId}
theorem gC {t e:TypeId} (ht:OI P t=some e) (hi:(P.info? e).isSome=true) (ty:TypeId) (ad ad':Option Addr) (n c' c:Nat) (h:n<=c'):
  (Builtin.append_ #[t,t] ty #[.slice ad' n c',.slice ad 0 c]).run P w=.ok (.slice ad' n c') w:=by
 obtain⟨i,hi⟩:=R9.1 hi
 cases ad<;>cases ad'<;>simp [Builtin.append_,run_underlying (il ht),sizeOf,typeInfo,hi,Builtin.lenOf,h,Builtin.firstCells,loadCells,loadCellsFrom,storeCells]
theorem ng {arr:Array Value} {base esz:Nat} {cs:List (List Sc)} (hc:dY β arr base esz cs) (off len:Nat) (hb:off+len<=cs.length):
  ∃ news:List Value,news.length=len*esz/\(∀ j u,news[j]? =some u->arr[base+off*esz+j]? =some u)/\(∀ u∈news,u.oneCell'=true)/\
   (∀ k c,((cs.drop off).take len)[k]? =some c->c.length=esz/\∀ j x,c[j]? =some x->∃ v,news[k*esz+j]? =some v/\ScR β x v):=by
 have key:∀ i,i < len*esz->∃ v x,arr[base+off*esz+i]? =some v/\ScR β x v:=by
  intro i hi
  have hpos:0 < esz:=by
   rcases Nat.eq_zero_or_pos esz with h|h
   ·subst h;simp at hi
   exact h
  have hk:i / esz < len:=Nat.div_lt_of_lt_mul (by rw [SG];exact hi)
  obtain⟨c,x,v,_,_,h3,h4⟩:=uo hc hb hk (Nat.mod_lt i hpos)
  refine⟨v,x,?_,h4⟩
  rw [<-h3]
  congr 1
  have:=Nat.div_add_mod i esz
  rw [R0]
  rw [SG esz] at this
  omega
 refine⟨(List.range (len*esz)).map fun i=>(arr[base+off*esz+i]?).getD undef,zP,?_,?_,?_⟩
 ·intro j u hu
  have hj:j < len*esz:=by have:=(RP.1 hu).1;simpa using this
  simp only [R8,Sg hj,Sh,Option.some.injEq] at hu
  obtain⟨v,x,hv,_⟩:=key j hj
  rw [hv] at hu⊢
  simpa using hu
 ·intro u hu
  simp only [SI,List.mem_range] at hu
  obtain⟨i,hi,rfl⟩:=hu
  obtain⟨v,x,hv,hr⟩:=key i hi
  rw [hv]
  exact hr.one
 intro k c hk
 have hkl:k < len:=by have:=(RP.1 hk).1;simp at this;omega
 rw [R2 hkl,Sb] at hk
 obtain⟨hl,hcell⟩:=hc _ _ hk
 refine⟨hl,fun j x hj=>?_⟩
 obtain⟨v,hv,hr⟩:=hcell j x hj
 have hjl:j < esz:=by have:=(RP.1 hj).1;omega
 have hlt:k*esz+j < len*esz:=by
  have:(k+1)*esz<=len*esz:=RW _ hkl
  rw [R0] at this
  omega
 refine⟨v,?_,hr⟩
 simp only [R8,Sg hlt,Sh]
 rw [show base+off*esz+(k*esz+j)=base+(off+k)*esz+j from by rw [R0];omega,hv]
 rfl
theorem kY {arr:Array Value} {esz:Nat} {cs ds:List (List Sc)} {olds news:List Value} (ho:olds.length=cs.length*esz)
  (h1:∀ (k:Nat) (c:List Sc),cs[k]? =some c->c.length=esz/\∀ (j:Nat) (x:Sc),c[j]? =some x->∃ v,olds[k*esz+j]? =some v/\ScR β x v)
  (h2:∀ (k:Nat) (c:List Sc),ds[k]? =some c->c.length=esz/\∀ (j:Nat) (x:Sc),c[j]? =some x->∃ v,news[k*esz+j]? =some v/\ScR β x v)
  (ha:∀ (i:Nat) (v:Value),(olds++news)[i]? =some v->arr[i]? =some v):dY β arr 0 esz (cs++ds):=by
 intro k c hk
 rcases SC k cs.length with hlt|hge
 ·rw [RQ hlt] at hk
  obtain⟨hl,hc⟩:=h1 k c hk
  refine⟨hl,fun j x hj=>?_⟩
  obtain⟨v,hv,hr⟩:=hc j x hj
  refine⟨v,?_,hr⟩
  rw [R3]
  refine ha _ _ ?_
  rw [RQ (RP.1 hv).1]
  exact hv
 rw [RS hge] at hk
 obtain⟨hl,hc⟩:=h2 _ c hk
 refine⟨hl,fun j x hj=>?_⟩
 obtain⟨v,hv,hr⟩:=hc j x hj
 refine⟨v,?_,hr⟩
 rw [R3]
 refine ha _ _ ?_
 have e:k*esz+j=olds.length+((k - cs.length)*esz+j):=by
  have:k*esz=(cs.length+(k - cs.length))*esz:=by congr 1;omega
  rw [R0] at this
  omega
 rw [e,RS zO,Sw]
 exact hv
theorem Fs (hl:β.length=s.hp.length) (n:Nat):StepR β β s.hp (s.hp.set n none) w w:=
 ⟨Be.le.refl _,rfl,rfl,rfl,RV _,fun _ _ _=>rfl,zP,fun o ob' hlt ho=>by
  rw [R1] at ho
  split at ho
  ·split at ho<;>cases ho
  ·exact⟨ob',ho,id⟩,fun o ob p hge ho _=>by
  rw [RU (by simpa using hge)] at ho
  cases ho⟩
theorem iS {h:Hp} {n:Nat} {new:AObj} {o:Nat} {x:AObj} (hx:(h.set n none++[some new])[o]? =some (some x)):(o < h.length/\o≠n/\h[o]? =some (some x))\/(o=h.length/\x=new):=by
 have hl:(h.set n none).length=h.length:=by simp
 rcases R7 o h.length with hlt|he|hgt
 ·rw [RQ zO,R1] at hx
  split at hx
  ·split at hx<;>cases hx
  rename_i hne
  exact .inl ⟨hlt,Ne.symm hne,hx⟩
 ·subst he
  rw [RS zO] at hx
  simp at hx
  exact .inr ⟨rfl,hx.symm⟩
 rw [RS zO,RU zS] at hx
 cases hx
theorem vR {h:Hp} (hs:HSim β h w) {n:Nat} {ob:AObj} {p:Pl} (ho:h[n]? =some (some ob)) (hown:ob.own=true) (hp:β[n]? =some (some p)) {w':World} {arr':Array Value} {T:TypeId}
  (hh:w'.heap[p.blk]? =some (.cells arr' T (0,0))) (hk:∀ k,k≠p.blk->w'.heap[k]? =w.heap[k]?) (new:AObj) (he:p.esz=new.esz) (hc:dY (β++[some p]) arr' 0 new.esz new.cs) (hT:T=new.ty) (hbase:p.base=0) (hav:p.avail=arr'.size) (hfl:new.fl=true->FlatL new.cs):
  HSim (β++[some p]) (h.set n none++[some new]) w':=by
 have hle:=Be.le_append β [some p]
 have kb:∀ {o:Nat} {q:Option Pl},o < h.length->(β++[some p])[o]? =some q->β[o]? =some q:=by
  intro o q ho hq
  rwa [RQ (by rw [hs.len];exact ho)] at hq
 have kn:(β++[some p])[h.length]? =some (some p):=by rw [<-hs.len];simp
 refine⟨by simp [hs.len],fun o x hx=>?_,fun o x hx hf=>by rcases iS hx with⟨_,_,hx⟩|⟨_,rfl⟩;exact hs.flat o x hx hf;exact hfl hf,fun o o' x x' q q' hx hx' hxo hq hq' hne=>?_⟩
 ·rcases iS hx with⟨hlt,hne,hx⟩|⟨rfl,rfl⟩
  ·obtain⟨q,hq,hr⟩:=hs.ob o x hx
   refine⟨q,hle _ _ hq,(hr.world fun q' hq'=>?_).mono hle⟩
   subst hq'
   exact hk _ (hs.apart n o ob x p q' ho hx hown hp hq (Ne.symm hne)).symm
  exact⟨some p,kn,he,arr',T,(0,0),hh,by rw [hbase];exact hc,fun _=>⟨hT,rfl,hbase,hav⟩⟩
 rcases iS hx with⟨hlt,h1,h1'⟩|⟨rfl,rfl⟩
 ·rcases iS hx' with⟨hlt',h2,h2'⟩|⟨rfl,rfl⟩
  ·exact hs.apart o o' x x' q q' h1' h2' hxo (kb hlt hq) (kb hlt' hq') hne
  rw [kn] at hq'
  simp only [Option.some.injEq] at hq'
  subst hq'
  exact (hs.apart n o ob x p q ho h1' hown hp (kb hlt hq) (Ne.symm h1)).symm
 rw [kn] at hq
 simp only [Option.some.injEq] at hq
 subst hq
 rcases iS hx' with⟨hlt',h2,h2'⟩|⟨rfl,rfl⟩
 ·exact hs.apart n o' ob x' p q' ho h2' hown hp (kb hlt' hq') (Ne.symm h2)
 exact absurd rfl hne
theorem uq {h:Hp} (hs:HSim β h w) {n:Nat} (hn:n < h.length) {ob:AObj} {p:Pl} (ho:h[n]? =some (some ob)) (hown:ob.own=true) (hp:β[n]? =some (some p)) {w':World}
  (hlike:World.like w w') (hsz:w.heap.size<=w'.heap.size) (hk:∀ k,k≠p.blk->w'.heap[k]? =w.heap[k]?) (new:AObj):StepR β (β++[some p]) h (h.set n none++[some new]) w w':=
 ⟨Be.le_append _ _,hlike.1,hlike.2.1,hlike.2.2,hsz,fun k _ hno=>hk k (fun hb=>hno ⟨n,ob,p,ho,hown,hp,hb.symm⟩),zP,fun o ob' hlt ho'=>by
  rcases iS ho' with⟨_,_,h1⟩|⟨rfl,_⟩
  ·exact⟨ob',h1,id⟩
  ·omega,fun o ob' q hge ho' hq=>by
  rcases iS ho' with⟨h1,_,_⟩|⟨rfl,_⟩
  ·omega
  rw [<-hs.len] at hq
  simp at hq
  subst hq
  exact .inl ⟨n,ob,p,ho,hown,hp,rfl⟩⟩
theorem dS (x y:Operand) (t:TypeId) (ho:o.op=.call ⟨.builtin .append,#[x,y],#[t,t]⟩) {v:Value} {w':World} (h:(Builtin.append_ #[t,t] o.type #[a.eval x,a.eval y]).run P w=.ok v w'):(execOp a.eval o).run P w=.ok (.value v) w':=by
 unfold execOp
 rw [ho]
 simp only [resolve,invoke,builtin,RT,RY,RR,SN,Sz,SR,h]
theorem zV {h h':Hp} (hs:HSim β h w) (hs':HSim β h' w) (hst:StepR β β h h' w w) {t e:TypeId} {i:TypeInfo} {z:Value} (ht:OI P t=some e) (hi:P.info? e=some i) (hz:i.zero=some z) (hzs:z.cells.size=i.size)
  {ad':Option Addr} {n cap':Nat} {olds:List Value} (hlo:olds.length=n*i.size) (holds:(ad'=none/\n=0)\/∃ b,ad'=some b/\∀ j v,olds[j]? =some v->w.cell? (b.add j)=some v) (hnn:ad'=none->n=0/\cap'=0)
  {b:Addr} {m c:Nat} {news:List Value} (hl:news.length=m*i.size) (hnews:∀ j v,news[j]? =some v->w.cell? (b.add j)=some v) (hg:cap' < n+m) (hm:0 < m) (hsm:n+m<=1073741824) (hby:i.bytes<=131072)
  {cs:List (List Sc)} {fl:Bool} (hcs:dY β (olds++news).toArray 0 i.size cs) (hfl:fl=true->FlatL cs) (ty:TypeId):
  ∃ β' w' v,(Builtin.append_ #[t,t] ty #[.slice ad' n cap',.slice (some b) m c]).run P w=.ok v w'/\StepR β β' h (h'++[some ⟨cs,i.size,e,true,fl⟩]) w w'/\HSim β' (h'++[some ⟨cs,i.size,e,true,fl⟩]) w'/\ScR β' (.sl h'.length 0 (n+m)) v:=by
 have hbytes:(n+m)*i.bytes<=140737488355328:=by
  have:(n+m)*i.bytes<=1073741824*131072:=SP hsm hby
  omega
 have hge:=grownCap_ge w (n+m) cap' e
 have hcm:grownCap w (n+m) cap' e<=maxLen:=grownCap_le_maxLen w (n+m) cap' e (by unfold maxLen;omega)
 have hrun:(Builtin.append_ #[t,t] ty #[.slice ad' n cap',.slice (some b) m c]).run P w=
   .ok (.slice (some ⟨w.heap.size,0,none⟩) (n+m) (grownCap w (n+m) cap' e)) (w.drew.alloc (.cells (olds.toArray++news.toArray++Builtin.zeroCells z.cells (grownCap w (n+m) cap' e - (n+m))) e)):=by
  cases ad' with
  |none=>
   obtain⟨rfl,rfl⟩:=hnn rfl
   have ho0:olds=[]:=Sr (by simpa using hlo)
   subst ho0
   have:=run_append_nil (P:=P) w t ty e i z (il ht) hi hz b m c news hl hnews hm zO (by have hb:=hbytes;simp only [R3] at hb;omega)
   simp only [R3,Array.empty_append] at this⊢
   exact this
  |some b'=>
   rcases holds with⟨h0,_⟩|⟨b'',hb'',hold⟩
   ·cases h0
   cases hb''
   exact run_append_grow (P:=P) w t ty e i z (il ht) hi hz b' n cap' olds hlo hold b m c news hl hnews hg zO (growslice_fits hg hbytes)
 let arr:Array Value:=olds.toArray++news.toArray++Builtin.zeroCells z.cells (grownCap w (n+m) cap' e - (n+m))
 have hsize:arr.size=grownCap w (n+m) cap' e*i.size:=by
  show (olds.toArray++news.toArray++Builtin.zeroCells z.cells (grownCap w (n+m) cap' e - (n+m))).size=_
  simp only [SK,List.size_toArray,size_zeroCells,hzs,hlo,hl,<-R0]
  congr 1
  omega
 let p:Pl:=⟨w.heap.size,0,i.size,arr.size⟩
 let w':World:=w.drew.alloc (.cells arr e)
 have hle:=Be.le_append β [some p]
 have hlike:World.like w w':=⟨rfl,rfl,rfl⟩
 have hold':∀ k,k < w.heap.size->w'.heap[k]? =w.heap[k]? :=fun k hk=>(by first|exact heap_alloc_old w.drew _ k hk|exact heap_alloc_old w.drew _ hk)
 have hca:dY β arr 0 i.size cs:=by
  intro k c hk
  obtain⟨h1,h2⟩:=hcs k c hk
  refine⟨h1,fun j x hj=>?_⟩
  obtain⟨v,hv,hr⟩:=h2 j x hj
  refine⟨v,?_,hr⟩
  have hv':(olds.toArray++news.toArray)[0+k*i.size+j]? =some v:=by
   rw [List.append_toArray];exact hv
  show (olds.toArray++news.toArray++Builtin.zeroCells z.cells (grownCap w (n+m) cap' e - (n+m)))[0+k*i.size+j]? =some v
  rw [Ss (R6.1 hv').1]
  exact hv'
 have hsz':w.heap.size<=w'.heap.size:=by
  show w.heap.size<=(w.drew.alloc _).heap.size
  simp
 refine⟨β++[some p],w',_,hrun,?_,?_,?_⟩
 ·exact StepR.trans hs.len hs'.len hst (m9 hs'.len hlike hsz' hold' p _ (RV _))
 ·exact pR hs' hold' (RV _) ⟨rfl,arr,e,(0,0),heap_alloc_new w.drew _,hca.mono hle,fun _=>⟨rfl,rfl,rfl,rfl⟩⟩ hfl
 exact⟨_,_,rfl,hge,hcm,.inr ⟨p,by rw [<-hs'.len];simp,by simp [p],by simp [p,hsize]⟩⟩
theorem IF (hs:HSim β s.hp w) (hsl:SlotsR β s.sl a.tmps) (args:Array Operand) (at_:Array TypeId) (ho:o.op=.call ⟨.builtin .append,args,at_⟩) (h:cr P s ty (.call ⟨.builtin .append,args,at_⟩)=some r) (hc:r.c):iO β s r w ((execOp a.eval o).run P w):=by
 simp only [cr] at h
 split at h
 ·rename_i x y t t' ha ht
  have ha':=kI ha
  have ht':=kI ht
  subst ha';subst ht'
  split at h
  ·rename_i htt
   subst htt
   split at h
   ·rename_i u v hx hy
    have hvx:=dN hsl hx
    have hvy:=dN hsl hy
    unfold oC at h
    split at h
    ·cases h
    rename_i e sz he0
    obtain⟨he,_,rfl⟩:=iR he0
    split at h
    ·cases h
    rename_i z hz0
    obtain⟨hz,hzl,hpos,_,hby,_⟩:=m_ hz0
    obtain⟨i,zv,zs,hi,hzv,hvc,hsc⟩:=kc hz
    have hti:=vO hi
    have hinfo:(P.info? e).isSome=true:=by simp [hi]
    have hzs:zv.cells.size=i.size:=by
     have:=(vN β hsc).length
     rw [hvc];simp;omega
    have hby':i.bytes<=131072:=by
     have:Pu P e=i.bytes:=by simp [Pu,hi]
     omega
    split at h
    ·
     rename_i n off len
     simp only [Option.some.injEq] at h
     subst h
     have hv1:ScR β (.sl n off len) (a.eval x):=hvx
     obtain⟨ad,hye⟩:ScR β .nil (a.eval y):=hvy
     obtain⟨ad',cap',hxe,hlc,hrest⟩:=hv1
     exact bV hs (dS x y t ho (by rw [hxe,hye];exact gC he hinfo _ _ _ _ _ _ hlc)) ⟨ad',cap',rfl,hlc,hrest⟩
    ·simp only [Option.some.injEq] at h
     subst h
     obtain⟨ad',hxe⟩:ScR β .nil (a.eval x):=hvx
     obtain⟨ad,hye⟩:ScR β .nil (a.eval y):=hvy
     exact bV hs (dS x y t ho (by rw [hxe,hye];exact gC he hinfo _ _ _ _ _ _ (RV _))) ⟨ad',rfl⟩
    ·rename_i n off len
     obtain⟨ad',hxe⟩:ScR β .nil (a.eval x):=hvx
     obtain⟨ad,cap,hye,hlc,hcm,hor⟩:ScR β (.sl n off len) (a.eval y):=hvy
     split at h
     ·rename_i ob hob
      split at h
      ·rename_i hesz
       simp only [Option.some.injEq] at h
       subst h
       obtain⟨hb,hsm⟩:off+len<=ob.cs.length/\len<=1073741824:=hc
       by_cases hl0:len=0
       ·subst hl0
        refine⟨β++[none],w,?_,zG hs zP,.inl ⟨_,_,dS x y t ho (by rw [hxe,hye];exact gC he hinfo _ _ _ _ _ _ (RV _)),rfl,⟨ad',0,rfl,RV _,Sm _,.inl rfl⟩⟩⟩
        exact⟨Be.le_append _ _,rfl,rfl,rfl,RV _,fun _ _ _=>rfl,zP,fun o ob' hlt ho=>by
         rw [RQ hlt] at ho;exact⟨ob',ho,id⟩,fun o ob' q hge ho hq=>by
         exfalso
         have he:o=s.hp.length:=by
          rcases R7 o s.hp.length with h1|h1|h1
          ·omega
          ·exact h1
          rw [RS zO,RU zS] at ho;cases ho
         subst he
         rw [<-hs.len] at hq
         simp at hq⟩
       rcases hor with hcap|⟨p,hp,rfl,hav⟩
       ·omega
       obtain⟨he',arr,T,fz,hh,hcr,_⟩:=jE hs (dq hob) hp
       obtain⟨news,hnl,hnc,hn1,hnr⟩:=ng hcr off len hb
       rw [hesz,hti] at hnl hnr hnc
       obtain⟨β',w',v,hrun,hst,hsim,hr⟩:=zV (P:=P) hs hs (StepR.refl β s.hp w hs.len) he hi hzv hzs (ad':=ad') (n:=0) (cap':=0) (olds:=[]) zP (by
        cases ad' with
        |none=>exact .inl ⟨rfl,rfl⟩
        |some b=>exact .inr ⟨b,rfl,zP⟩) (fun _=>⟨rfl,rfl⟩) (b:=⟨p.blk,p.base+off*p.esz,none⟩) (m:=len) (c:=cap) hnl (fun j u hu=>by
         rw [Addr.add_lit,oE hh,he',hesz,hti];exact hnc j u hu) zO zO zO hby' (cs:=(ob.cs.drop off).take len) (by
         have:=kY (arr:=([]++news).toArray) (cs:=[]) (ds:=(ob.cs.drop off).take len) (olds:=[]) (news:=news) (esz:=i.size) zP zP hnr (fun i v hv=>by simpa using hv)
         simpa using this) (fl:=ob.fl) (fun hf c hm=>hs.flat n ob (dq hob) hf c (Sf (Se hm))) o.type
       rw [R3] at hr
       refine⟨β',w',?_,?_,.inl ⟨v,_,dS x y t ho (by rw [hxe,hye];exact hrun),rfl,hr⟩⟩
       ·rw [hti];exact hst
       rw [hti];exact hsim
      cases h
     cases h
    ·rename_i n' off' len' n off len
     obtain⟨ad',cap',hxe,hlc',hcm',hor'⟩:ScR β (.sl n' off' len') (a.eval x):=hvx
     obtain⟨ad,cap,hye,hlc,hcm,hor⟩:ScR β (.sl n off len) (a.eval y):=hvy
     split at h
     ·rename_i ob' ob hob' hob
      split at h
      ·rename_i hcond2
       obtain⟨hesz,hesz',hown,hty,hoff,hne⟩:=hcond2
       subst hoff
       simp only [Option.some.injEq] at h
       subst h
       obtain⟨hcl,hb,hsm⟩:ob'.cs.length=len'/\off+len<=ob.cs.length/\len'+len<=1073741824:=hc
       have hflat:(ob'.fl && ob.fl)=true->FlatL (ob'.cs++(ob.cs.drop off).take len):=fun hf c hm=>by
        simp only [RZ] at hf
        rcases List.mem_append.1 hm with hm|hm
        ·exact hs.flat n' ob' (dq hob') hf.1 c hm
        exact hs.flat n ob (dq hob) hf.2 c (Sf (Se hm))
       have hkill:=Iy hs n'
       have hstk:=Fs (w:=w) hs.len n' (s:=s)
       have hlen':(s.hp.set n' none).length=s.hp.length:=by simp
       have hn':n' < s.hp.length:=(RP.1 (dq hob')).1
       have hplace:(cap'=0/\len'=0/\ob'.cs=[])\/∃ p',β[n']? =some (some p')/\ad'=some ⟨p'.blk,p'.base+0*p'.esz,none⟩/\(0+cap')*p'.esz<=p'.avail:=by
        rcases hor' with h0|h0
        ·exact .inl ⟨h0,zO,Sr zO⟩
        exact .inr h0
       by_cases hl0:len=0
       ·subst hl0
        have hrun:=gC (P:=P) (w:=w) he hinfo o.type ad ad' len' cap' cap hlc'
        rcases hplace with⟨hc0,hl0',hcs0⟩|⟨p',hp',had',hav'⟩
        ·subst hc0;subst hl0'
         refine⟨β++[none],w,?_,zG hkill (by simp [hcs0]),.inl ⟨_,_,dS x y t ho (by rw [hxe,hye];exact hrun),rfl,⟨ad',0,rfl,RV _,Sm _,.inl rfl⟩⟩⟩
         refine StepR.trans hs.len hkill.len hstk ⟨Be.le_append _ _,rfl,rfl,rfl,RV _,fun _ _ _=>rfl,zP,fun o ob' hlt ho=>by
          rw [RQ hlt] at ho;exact⟨ob',ho,id⟩,fun o ob' q hge ho hq=>by
          exfalso
          have he:o=(s.hp.set n' none).length:=by
           rcases R7 o (s.hp.set n' none).length with h1|h1|h1
           ·omega
           ·exact h1
           rw [RS zO,RU (by simp at h1⊢;omega)] at ho;cases ho
          subst he
          rw [<-hkill.len] at hq
          simp at hq⟩
        obtain⟨he',arr,T,fz,hh,hcr,hown'⟩:=jE hs (dq hob') hp'
        obtain⟨hT,hf0,hbase,hav⟩:=hown' hown
        subst hf0
        have hcr':dY β arr 0 (dZ P e) (ob'.cs++(ob.cs.drop off).take 0):=by
         rw [List.take_zero,List.append_nil,<-hesz',<-hbase];exact hcr
        refine⟨β++[some p'],w,?_,?_,.inl ⟨_,_,dS x y t ho (by rw [hxe,hye];exact hrun),rfl,?_⟩⟩
        ·exact uq hs hn' (dq hob') hown hp' (w':=w) ⟨rfl,rfl,rfl⟩ (RV _) (fun k _=>rfl) _
        ·exact vR hs (dq hob') hown hp' (w':=w) (arr':=arr) (T:=T) (by simpa using hh) (fun k _=>rfl) ⟨_,dZ P e,e,true,ob'.fl && ob.fl⟩ (by rw [he',hesz']) (hcr'.mono (Be.le_append _ _)) (by rw [hT,hty]) hbase hav hflat
        refine⟨ad',cap',by rw [Sj],zO,hcm',.inr ⟨p',by rw [<-hs.len];simp,had',hav'⟩⟩
       rcases hor with hcap|⟨p,hp,rfl,hav⟩
       ·omega
       obtain⟨hep,arr,T,fz,hh,hcr,_⟩:=jE hs (dq hob) hp
       obtain⟨news,hnl,hnc,hn1,hnr⟩:=ng hcr off len hb
       rw [hesz] at hnl hnr hnc
       have hnews:∀ j u,news[j]? =some u->w.cell? ((⟨p.blk,p.base+off*p.esz,none⟩:Addr).add j)=some u:=fun j u hu=>by
        rw [Addr.add_lit,oE hh,hep,hesz];exact hnc j u hu
       by_cases hroom:len'+len<=cap'
       ·rcases hplace with⟨hc0,_,_⟩|⟨p',hp',had',hav'⟩
        ·omega
        obtain⟨hep',arr',T',fz',hh',hcr',hown'⟩:=jE hs (dq hob') hp'
        obtain⟨hT,hf0,hbase,havl⟩:=hown' hown
        subst hf0
        have hfit:len'*i.size+news.length<=arr'.size:=by
         have h1:(len'+len)*i.size<=cap'*i.size:=RW _ hroom
         rw [R0] at h1
         rw [R3,hep',hesz',hti] at hav'
         rw [hnl,hti]
         omega
        have hrun:=run_append_room (P:=P) w t o.type e i (il he) hi p'.blk len' cap' arr' (by rw [<-hT.trans hty];exact hh') ⟨p.blk,p.base+off*p.esz,none⟩ len cap news (by rw [hnl,hti]) hnews hn1 hroom hfit
        let arr2:Array Value:=(arr'.toList.take (len'*i.size)++news++arr'.toList.drop (len'*i.size+news.length)).toArray
        have hsz2:arr2.size=arr'.size:=by
         show ((arr'.toList.take (len'*i.size)++news++arr'.toList.drop (len'*i.size+news.length)).toArray).size=_
         simp
         omega
        have hcr2:dY β arr2 0 (dZ P e) (ob'.cs++(ob.cs.drop off).take len):=by
         refine kY (olds:=arr'.toList.take (len'*i.size)) (news:=news) ?_ ?_ hnr ?_
         ·simp
          rw [hcl,hti]
          omega
         ·intro k c hk
          obtain⟨h1,h2⟩:=hcr' k c hk
          refine⟨by rw [h1,hesz'],fun j q hj=>?_⟩
          obtain⟨v,hv,hr⟩:=h2 j q hj
          refine⟨v,?_,hr⟩
          rw [hbase,R3,hesz'] at hv
          have hkl:k < len':=by rw [<-hcl];exact (RP.1 hk).1
          have hjl:j < dZ P e:=by have:=(RP.1 hj).1;omega
          have:k*dZ P e+j < len'*i.size:=by
           have h3:(k+1)*dZ P e<=len'*dZ P e:=RW _ hkl
           rw [R0] at h3
           rw [<-hti]
           omega
          rw [R2 this,R5]
          exact hv
         intro q v hv
         show ((arr'.toList.take (len'*i.size)++news++arr'.toList.drop (len'*i.size+news.length)).toArray)[q]? =some v
         rw [Sp,RQ (RP.1 hv).1]
         exact hv
        refine⟨β++[some p'],w.setRow p'.blk arr2,?_,?_,.inl ⟨_,_,dS x y t ho (by rw [hxe,hye,had',hbase,Nat.zero_mul];exact hrun),rfl,?_⟩⟩
        ·exact uq hs hn' (dq hob') hown hp' (w':=w.setRow p'.blk arr2) ⟨rfl,rfl,rfl⟩ zP (fun k hk=>setRow_other w p'.blk k arr2 hk) _
        ·exact vR hs (dq hob') hown hp' (w':=w.setRow p'.blk arr2) (arr':=arr2) (T:=T') (setRow_heap w p'.blk arr' arr2 T' _ hh') (fun k hk=>setRow_other w p'.blk k arr2 hk) ⟨_,dZ P e,e,true,ob'.fl && ob.fl⟩ (by rw [hep',hesz']) (hcr2.mono (Be.le_append _ _)) (by rw [hT,hty]) hbase (by rw [hsz2];exact havl) hflat
        refine⟨_,cap',rfl,hroom,hcm',.inr ⟨p',by rw [<-hs.len];simp,by rw [hbase];simp,hav'⟩⟩
       have hold:∃ olds:List Value,olds.length=len'*i.size/\((ad'=none/\len'=0)\/∃ b,ad'=some b/\∀ j v,olds[j]? =some v->w.cell? (b.add j)=some v)/\(ad'=none->len'=0/\cap'=0)/\
         (∀ (k:Nat) (c:List Sc),ob'.cs[k]? =some c->c.length=i.size/\∀ (j:Nat) (x:Sc),c[j]? =some x->∃ v,olds[k*i.size+j]? =some v/\ScR β x v):=by
        rcases hplace with⟨hc0,hl0',hcs0⟩|⟨p',hp',had',hav'⟩
        ·refine⟨[],by simp [hl0'],?_,fun _=>⟨hl0',hc0⟩,by simp [hcs0]⟩
         cases ad' with
         |none=>exact .inl ⟨rfl,hl0'⟩
         |some b=>exact .inr ⟨b,rfl,zP⟩
        obtain⟨hep',arr',T',fz',hh',hcr',_⟩:=jE hs (dq hob') hp'
        obtain⟨olds,h1,h2,h3,h4⟩:=ng hcr' 0 len' zO
        rw [hesz',hti] at h1 h2 h4
        refine⟨olds,h1,.inr ⟨_,had',fun j v hv=>?_⟩,(fun hn=>by rw [had'] at hn;cases hn),?_⟩
        ·rw [Addr.add_lit,oE hh',hep',hesz',hti];exact h2 j v hv
        rw [List.drop_zero,List.take_of_length_le zO] at h4
        exact h4
       obtain⟨olds,hol,holds,hnn,hor2⟩:=hold
       rw [hti] at hnl hnr
       obtain⟨β',w',v,hrun,hst,hsim,hr⟩:=zV (P:=P) hs hkill hstk he hi hzv hzs hol holds hnn hnl hnews (c:=cap) zO zO hsm hby' (cs:=ob'.cs++(ob.cs.drop off).take len)
        (kY (by rw [hol,hcl]) hor2 hnr (fun q v hv=>by simpa using hv)) (fl:=ob'.fl && ob.fl) hflat o.type
       rw [hlen'] at hr
       refine⟨β',w',?_,?_,.inl ⟨v,_,dS x y t ho (by rw [hxe,hye];exact hrun),rfl,hr⟩⟩
       ·rw [hti];exact hst
       rw [hti];exact hsim
      cases h
     cases h
    cases h
   cases h
  cases h
 cases h
end
end
end Go.Proofs.YteknmpdmhiomgaaGreat
