/- Lemmas of this claim. -/
import Derived.Tactics
import Derived.Below
import Derived.Laws.AppendOwn
import Derived.Laws.OwnMore
import Derived.Laws.Slices
import Derived.Laws.Small
import Derived.Laws.Strings
import Derived.KernelRfl
import Derived.Laws.MakeOwn
import Derived.Laws.BytesString
import Derived.Laws.BytesArg
import Derived.Laws.Build
import Derived.Laws.Concat
import Derived.Laws.StructEq
import Derived.Lib.ConvBytes
import Derived.Orders
import Derived.WalkKit
import Derived.ProofKit
import Derived.ShutString
import Derived.OpenShut
import Derived.ChangeOld
import Derived.Carry
import Derived.Test.YtdiiopjaebnmfaaGreatChecked
import Derived.Laws.BitsLemmas
import Derived.JoinedOf
set_option maxHeartbeats 16000000
set_option maxRecDepth 100000
set_option linter.unusedVariables false
set_option linter.unusedSimpArgs false
namespace Go.Proofs.YtdiiopjaebnmfaaGreat
open _root_.Go.Proofs.Tryz
open _root_.List renaming getElem?_eq_some_iff->KZ,getElem?_append_left->K0,getElem?_append_right->K1,getElem?_eq_none->K4,getElem?_eq_getElem->K7,getElem?_set->La,getElem?_take_of_lt->Lb,getD_eq_getElem?_getD->Lc,getElem?_drop->Lg,getElem?_map->Lj,mem_of_getElem?->Lk,mem_of_mem_drop->Ll,mem_of_mem_take->Lr,getElem?_range->Ls,mem_or_eq_of_mem_set->Lu,eq_of_mem_replicate->Lv,getElem?_cons_zero->Lw,getElem?_toArray->Lz,getElem?_replicate_of_lt->LB,eq_nil_of_length_eq_zero->LD,drop_eq_nil_of_le->LK,mem_iff_getElem?->LM,map_cons->LN,mem_map->LR,append_assoc->LU,zipIdx_cons->LX,all_eq_true->LY,map_toArray->LZ,mem_cons->L5,map_nil->L6
open _root_.Go.Result renaming andThen_ok->K2
open _root_.Go.Sem renaming run_bind->K3,run_pure->K8
open _root_.Nat renaming le_refl->K5,mul_le_mul_right->K6,add_mul->K9,zero_add->Lf,lt_trichotomy->Li,add_assoc->Lo,add_zero->Lq,zero_le->Lx,le_trans->LA,lt_or_ge->LH,add_sub_cancel_left->LJ,mul_comm->LP,lt_or_gt_of_ne->LQ,le_add_right->L3,mul_le_mul->L4
open _root_.Bool renaming and_eq_true->K_,not_eq_true'->LS
open _root_.Array renaming getElem?_toList->Ld,getElem?_eq_some_iff->Lh,getElem?_setIfInBounds_ne->Ln,eq_empty_of_size_eq_zero->Lp,getElem?_append_left->LF,getElem?_map->LO,size_append->LW
open _root_.Option renaming isSome_iff_exists->Lm,map_some->Lt,map_eq_some_iff->Ly,getD_some->LG,bind_eq_some_iff->LI
section
open Go.RowKit
theorem zO {p:Prop} (h:p:=by omega):p:=h
theorem zF {p:Prop} (h:p:=by rfl):p:=h
theorem zP {p:Prop} (h:p:=by simp):p:=h
theorem zD {p:Prop} (h:p:=by decide):p:=h
theorem zS {p:Prop} (h:p:=by simp;omega):p:=h
theorem zQ:(∀ {p:Prop} [Decidable p],(decide p=true)=p)/\(∀ {p:Prop} [Decidable p],decide p=false↔ ¬p)/\(∀ {α:Type} [BEq α] [LawfulBEq α] {a b:α},(a==b)=true↔a=b)/\(∀ {α:Type} [BEq α] [LawfulBEq α] {a b:α},(a==b)=false↔a≠b)/\(∀ {α:Type} [BEq α] [LawfulBEq α] {a b:α},(a != b)=true↔a≠b)/\(∀ {α:Type} [BEq α] [LawfulBEq α] {a b:α},(a != b)=false↔a=b)/\(∀ {α:Type} (a b:α),(a≠b)=¬(a=b))/\(∀ {p:Prop} [Decidable p],¬¬p↔p)/\(∀ (a b:Bool),((a&&b)=true)=(a=true/\b=true))/\(∀ {x y:Bool},(x&&y)=false↔x=false\/y=false)/\(∀ (a b:Bool),((a||b)=true)=(a=true\/b=true))/\(∀ {x y:Bool},(x||y)=false↔x=false/\y=false)/\(∀ {n m:Nat},(n:Int)<(m:Int)↔n<m)/\(∀ {m n:Nat},(m:Int)<=(n:Int)↔m<=n)/\(∀ {a b:Bool},(!a)=b↔a= !b)/\((!true)=false)/\((!false)=true):=⟨decide_eq_true_eq,decide_eq_false_iff_not,beq_iff_eq,beq_eq_false_iff_ne,bne_iff_ne,bne_eq_false_iff_eq,ne_eq,Decidable.not_not,K_,Bool.and_eq_false_iff,Bool.or_eq_true,Bool.or_eq_false_iff,Int.ofNat_lt,Int.ofNat_le,Bool.not_eq_eq_eq_not,Bool.not_true,Bool.not_false⟩
theorem zR:(∀ (b:Bool),(b==true)=b)/\(∀ (b:Bool),(b==false)= !b)/\(∀ (b:Bool),((!b)=true)=(b=false))/\(∀ (b:Bool),((!b)=false)=(b=true)):=⟨beq_true,beq_false,LS,Bool.not_eq_false'⟩
def L2 {α β:Type} (R:α->β->Prop):List α->List β->Prop
 |[],[]=>True
 |a::l,b::m=>R a b/\L2 R l m
 |_,_=>False
theorem L2.length {α β:Type} {R:α->β->Prop}:∀ {l:List α} {m:List β},L2 R l m->l.length=m.length
 |[],[],_=>rfl
 |_::_,_::_,h=>by simp [L2.length h.2]
 |[],_::_,h=>h.elim
 |_::_,[],h=>h.elim
theorem L2.get {α β:Type} {R:α->β->Prop}:∀ {l:List α} {m:List β},L2 R l m->∀ {i:Nat} {x:α},l[i]? =some x->∃ y,m[i]? =some y/\R x y
 |[],[],_,i,x,h=>by simp at h
 |a::l,b::m,h,0,x,hx=>by simp at hx;subst hx;exact⟨b,zP,h.1⟩
 |a::l,b::m,h,i+1,x,hx=>by simp at hx;obtain⟨y,hy,hr⟩:=L2.get h.2 hx;exact⟨y,by simpa using hy,hr⟩
 |[],_::_,h,_,_,_=>h.elim
 |_::_,[],h,_,_,_=>h.elim
theorem L2.mono {α β:Type} {R S:α->β->Prop} (hrs:∀ a b,R a b->S a b):∀ {l:List α} {m:List β},L2 R l m->L2 S l m
 |[],[],_=>trivial
 |_::_,_::_,h=>⟨hrs _ _ h.1,L2.mono hrs h.2⟩
 |[],_::_,h=>h.elim
 |_::_,[],h=>h.elim
theorem L2.of_get {α β:Type} {R:α->β->Prop}:∀ {l:List α} {m:List β},l.length=m.length->(∀ (i:Nat) (x:α) (y:β),l[i]? =some x->m[i]? =some y->R x y)->L2 R l m
 |[],[],_,_=>trivial
 |a::l,b::m,hl,h=>⟨h 0 a b zP zP,L2.of_get (by simpa using hl) (fun i x y hx hy=>h (i+1) x y (by simpa using hx) (by simpa using hy))⟩
 |[],_::_,hl,_=>by simp at hl
 |_::_,[],hl,_=>by simp at hl
theorem L2.append {α β:Type} {R:α->β->Prop}:∀ {l:List α} {m:List β} {l':List α} {m':List β},L2 R l m->L2 R l' m'->L2 R (l++l') (m++m')
 |[],[],_,_,_,h=>h
 |_::_,_::_,_,_,h,h'=>⟨h.1,L2.append h.2 h'⟩
 |[],_::_,_,_,h,_=>h.elim
 |_::_,[],_,_,h,_=>h.elim
theorem L2.take {α β:Type} {R:α->β->Prop}:∀ {l:List α} {m:List β} (n:Nat),L2 R l m->L2 R (l.take n) (m.take n)
 |_,_,0,_=>by simp [L2]
 |[],[],_+1,_=>by simp [L2]
 |_::_,_::_,n+1,h=>⟨h.1,L2.take n h.2⟩
 |[],_::_,_,h=>h.elim
 |_::_,[],_,h=>h.elim
theorem L2.drop {α β:Type} {R:α->β->Prop}:∀ {l:List α} {m:List β} (n:Nat),L2 R l m->L2 R (l.drop n) (m.drop n)
 |_,_,0,h=>by simpa using h
 |[],[],_+1,_=>by simp [L2]
 |_::_,_::_,n+1,h=>by simpa using L2.drop n h.2
 |[],_::_,_,h=>h.elim
 |_::_,[],_,h=>h.elim
theorem L2.map {α β γ:Type} {R:α->β->Prop} {S:γ->β->Prop} {f:α->γ} (hf:∀ a b,R a b->S (f a) b):∀ {l:List α} {m:List β},L2 R l m->L2 S (l.map f) m
 |[],[],_=>trivial
 |_::_,_::_,h=>⟨hf _ _ h.1,L2.map hf h.2⟩
 |[],_::_,h=>h.elim
 |_::_,[],h=>h.elim
inductive Sc where
 |int (k:IntKind) (n:Int)
 |bo (b:Bool)
 |st (l:List UInt8)
 |nil
 |sl (o off len:Nat)
 |pt (o k j:Nat)
 |un
inductive Co where
 |sc (s:Sc)
 |ag (cs:List Sc)
inductive AV where
 |sc (s:Sc)
 |ag (cs:List Sc)
 |tu (l:List Co)
 |cl (f:Nat) (caps:List Sc)
def Co.av:Co->AV
 | .sc s=>.sc s
 | .ag cs=>.ag cs
def AV.cells:AV->Option (List Sc)
 | .sc s=>some [s]
 | .ag cs=>some cs
 |_=>none
structure Pl where
 blk:Nat
 base:Nat
 esz:Nat
 avail:Nat
abbrev Be:=List (Option Pl)
def ScR (β:Be):Sc->Value->Prop
 | .int k n,v=>v=.int k n
 | .bo b,v=>v=.bool b
 | .st l,v=>v=.string ⟨l.toArray⟩
 | .nil,v=>∃ a,v=.slice a 0 0
 | .sl o off len,v=>∃ a cap,v=.slice a len cap/\len<=cap/\cap<=maxLen/\
   (cap=0\/∃ p,β[o]? =some (some p)/\a=some ⟨p.blk,p.base+off*p.esz,none⟩/\(off+cap)*p.esz<=p.avail)
 | .pt o k j,v=>∃ p,β[o]? =some (some p)/\v=.pointer (some ⟨p.blk,p.base+k*p.esz+j,none⟩)
 | .un,v=>∃ p,v=.pointer p
def yE (β:Be):Co->Value->Prop
 | .sc s,v=>ScR β s v
 | .ag cs,v=>∃ vs:List Value,v=.agg vs.toArray/\L2 (ScR β) cs vs
def dZ (β:Be):AV->Value->Prop
 | .sc s,v=>ScR β s v
 | .ag cs,v=>∃ vs:List Value,v=.agg vs.toArray/\L2 (ScR β) cs vs
 | .tu l,v=>∃ vs:List Value,v=.tuple vs.toArray/\L2 (yE β) l vs
 | .cl f caps,v=>∃ vs:List Value,v=.func (.func f) #[] vs.toArray/\L2 (ScR β) caps vs
def Be.le (β β':Be):Prop:=∀ (o:Nat) (p:Option Pl),β[o]? =some p->β'[o]? =some p
theorem Be.le.refl (β:Be):Be.le β β:=fun _ _ h=>h
theorem Be.le.trans {a b c:Be} (h:Be.le a b) (k:Be.le b c):Be.le a c:=fun o p hp=>k o p (h o p hp)
theorem Be.le_append (β l:Be):Be.le β (β++l):=fun o p h=>by
 have hlt:o < β.length:=(KZ.1 h).1
 rw [K0 hlt];exact h
theorem ScR.mono {β β':Be} (h:Be.le β β'):∀ {s:Sc} {v:Value},ScR β s v->ScR β' s v
 | .int ..,_,hv=>hv
 | .bo ..,_,hv=>hv
 | .st ..,_,hv=>hv
 | .nil,_,hv=>hv
 | .un,_,hv=>hv
 | .sl ..,_,⟨a,cap,hv,h1,h2,h3⟩=>⟨a,cap,hv,h1,h2,h3.imp id fun⟨p,hp,r⟩=>⟨p,h _ _ hp,r⟩⟩
 | .pt ..,_,⟨p,hp,hv⟩=>⟨p,h _ _ hp,hv⟩
theorem yE.mono {β β':Be} (h:Be.le β β'):∀ {s:Co} {v:Value},yE β s v->yE β' s v
 | .sc _,_,hv=>ScR.mono h hv
 | .ag _,_,⟨vs,hv,hl⟩=>⟨vs,hv,hl.mono fun _ _=>ScR.mono h⟩
theorem dZ.mono {β β':Be} (h:Be.le β β'):∀ {s:AV} {v:Value},dZ β s v->dZ β' s v
 | .sc _,_,hv=>ScR.mono h hv
 | .ag _,_,⟨vs,hv,hl⟩=>⟨vs,hv,hl.mono fun _ _=>ScR.mono h⟩
 | .tu _,_,⟨vs,hv,hl⟩=>⟨vs,hv,hl.mono fun _ _=>yE.mono h⟩
 | .cl ..,_,⟨vs,hv,hl⟩=>⟨vs,hv,hl.mono fun _ _=>ScR.mono h⟩
theorem Co.av_R {β:Be} {c:Co} {v:Value} (h:yE β c v):dZ β c.av v:=by cases c<;>exact h
theorem ScR.one {β:Be} {s:Sc} {v:Value} (h:ScR β s v):v.oneCell'=true:=by
 cases s with
 |int k n=>subst h;rfl
 |bo b=>subst h;rfl
 |st l=>subst h;rfl
 |nil=>obtain⟨a,rfl⟩:=h;rfl
 |sl o off len=>obtain⟨a,cap,rfl,_⟩:=h;rfl
 |pt o k j=>obtain⟨p,_,rfl⟩:=h;rfl
 |un=>obtain⟨p,rfl⟩:=h;rfl
theorem ScR.cells {β:Be} {s:Sc} {v:Value} (h:ScR β s v):v.cells= #[v]:=by
 cases s with
 |int k n=>subst h;rfl
 |bo b=>subst h;rfl
 |st l=>subst h;rfl
 |nil=>obtain⟨a,rfl⟩:=h;rfl
 |sl o off len=>obtain⟨a,cap,rfl,_⟩:=h;rfl
 |pt o k j=>obtain⟨p,_,rfl⟩:=h;rfl
 |un=>obtain⟨p,rfl⟩:=h;rfl
theorem dZ.cells {β:Be} {x:AV} {cs:List Sc} {v:Value} (hc:x.cells=some cs) (h:dZ β x v):∃ vs:List Value,v.cells=vs.toArray/\L2 (ScR β) cs vs:=by
 cases x with
 |sc s=>
  simp only [AV.cells,Option.some.injEq] at hc
  subst hc
  exact⟨[v],by rw [ScR.cells h],⟨h,trivial⟩⟩
 |ag l=>
  simp only [AV.cells,Option.some.injEq] at hc
  subst hc
  obtain⟨vs,rfl,hl⟩:=h
  exact⟨vs,rfl,hl⟩
 |tu l=>simp [AV.cells] at hc
 |cl f l=>simp [AV.cells] at hc
theorem L2.one {β:Be} {cs:List Sc} {vs:List Value} (h:L2 (ScR β) cs vs):∀ v∈vs,v.oneCell'=true:=by
 induction cs generalizing vs with
 |nil=>cases vs with
  |nil=>simp
  |cons=>exact h.elim
 |cons s l ih=>cases vs with
  |nil=>simp
  |cons v m=>
   intro x hx
   rcases L5.1 hx with rfl|hx
   ·exact h.1.one
   exact ih h.2 x hx
structure AObj where
 cs:List (List Sc)
 esz:Nat
 ty:TypeId
 own:Bool
 fl:Bool
def Sc.isFlat:Sc->Bool
 | .int .. | .bo _| .st _=>true
 |_=>false
def gw:List Sc->Bool
 |[]=>true
 |s::l=>s.isFlat && gw l
def FlatL (cs:List (List Sc)):Prop:=∀ c∈cs,gw c=true
abbrev Hp:=List (Option AObj)
def cp (β:Be) (arr:Array Value) (base esz:Nat) (cs:List (List Sc)):Prop:=
 ∀ k c,cs[k]? =some c->c.length=esz/\∀ j s,c[j]? =some s->∃ v,arr[base+k*esz+j]? =some v/\ScR β s v
def ObR (β:Be) (w:World) (p:Option Pl) (ob:AObj):Prop:=
 match p with
 |none=>ob.cs=[]
 |some p=>p.esz=ob.esz/\∃ arr T fz,w.heap[p.blk]? =some (.cells arr T fz)/\cp β arr p.base ob.esz ob.cs/\
   (ob.own=true->T=ob.ty/\fz=(0,0)/\p.base+p.avail=arr.size)
structure HSim (β:Be) (h:Hp) (w:World):Prop where
 len:β.length=h.length
 ob:∀ (o:Nat) (ob:AObj),h[o]? =some (some ob)->∃ p,β[o]? =some p/\ObR β w p ob
 flat:∀ (o:Nat) (ob:AObj),h[o]? =some (some ob)->ob.fl=true->FlatL ob.cs
 apart:∀ (o o':Nat) (ob ob':AObj) (p p':Pl),h[o]? =some (some ob)->h[o']? =some (some ob')->ob.own=true->β[o]? =some (some p)->β[o']? =some (some p')->o≠o'->p.blk≠p'.blk
theorem cp.mono {β β':Be} (h:Be.le β β') {arr:Array Value} {base esz:Nat} {cs:List (List Sc)} (hc:cp β arr base esz cs):cp β' arr base esz cs:=
 fun k c hk=>⟨(hc k c hk).1,fun j s hs=>let⟨v,hv,hr⟩:=(hc k c hk).2 j s hs;⟨v,hv,hr.mono h⟩⟩
theorem ObR.mono {β β':Be} (h:Be.le β β') {w:World} {p:Option Pl} {ob:AObj} (ho:ObR β w p ob):ObR β' w p ob:=by
 cases p with
 |none=>exact ho
 |some p=>obtain⟨h1,arr,T,fz,h2,h3,h4⟩:=ho;exact⟨h1,arr,T,fz,h2,h3.mono h,h4⟩
theorem ObR.world {β:Be} {w w':World} {p:Option Pl} {ob:AObj} (ho:ObR β w p ob) (hw:∀ q,p=some q->w'.heap[q.blk]? =w.heap[q.blk]?):ObR β w' p ob:=by
 cases p with
 |none=>exact ho
 |some p=>obtain⟨h1,arr,T,fz,h2,h3,h4⟩:=ho;exact⟨h1,arr,T,fz,(hw p rfl).trans h2,h3,h4⟩
theorem ObR.lt {β:Be} {w:World} {p:Pl} {ob:AObj} (ho:ObR β w (some p) ob):p.blk < w.heap.size:=by
 obtain⟨_,arr,T,fz,h2,_⟩:=ho
 exact (Lh.1 h2).1
theorem yF {β:Be} {h:Hp} {w w':World} (hs:HSim β h w) (hw:∀ k,k < w.heap.size->w'.heap[k]? =w.heap[k]?):HSim β h w':=
 ⟨hs.len,fun o ob ho=>let⟨p,hp,hr⟩:=hs.ob o ob ho;⟨p,hp,hr.world fun q hq=>by subst hq;exact hw _ hr.lt⟩,hs.flat,hs.apart⟩
theorem kR {β:Be} {h:Hp} {w w':World} (hs:HSim β h w) (hw:∀ k,k < w.heap.size->w'.heap[k]? =w.heap[k]?) {ob:AObj} {p:Pl} (hp:w.heap.size<=p.blk)
  (hob:ObR (β++[some p]) w' (some p) ob) (hfl:ob.fl=true->FlatL ob.cs):HSim (β++[some p]) (h++[some ob]) w':=by
 have hs':=yF hs hw
 have hle:=Be.le_append β [some p]
 have key:∀ {o:Nat} {x:AObj},(h++[some ob])[o]? =some (some x)->(o < h.length/\h[o]? =some (some x))\/(o=h.length/\x=ob):=by
  intro o x hx
  rcases Li o h.length with hlt|he|hgt
  ·rw [K0 hlt] at hx;exact .inl ⟨hlt,hx⟩
  ·subst he;simp at hx;exact .inr ⟨rfl,hx.symm⟩
  rw [K1 zO] at hx
  rw [K4 zS] at hx
  cases hx
 have kb:∀ {o:Nat} {q:Option Pl},o < h.length->(β++[some p])[o]? =some q->β[o]? =some q:=by
  intro o q ho hq
  rwa [K0 (by rw [hs.len];exact ho)] at hq
 have kn:(β++[some p])[h.length]? =some (some p):=by rw [<-hs.len];simp
 have lt:∀ {o:Nat} {x:AObj} {q:Pl},h[o]? =some (some x)->β[o]? =some (some q)->q.blk < w.heap.size:=by
  intro o x q hx hq
  obtain⟨p',hp',hr⟩:=hs.ob o x hx
  rw [hq] at hp'
  cases hp'
  exact hr.lt
 refine⟨by simp [hs.len],fun o x hx=>?_,fun o x hx hf=>by rcases key hx with⟨_,hx⟩|⟨_,rfl⟩;exact hs.flat o x hx hf;exact hfl hf,fun o o' x x' q q' hx hx' hown hq hq' hne=>?_⟩
 ·rcases key hx with⟨hlt,hx⟩|⟨rfl,rfl⟩
  ·obtain⟨q,hq,hr⟩:=hs'.ob o x hx
   exact⟨q,hle _ _ hq,hr.mono hle⟩
  exact⟨some p,kn,hob⟩
 rcases key hx with⟨hlt,h1⟩|⟨rfl,rfl⟩
 ·rcases key hx' with⟨hlt',h1'⟩|⟨rfl,rfl⟩
  ·exact hs.apart o o' x x' q q' h1 h1' hown (kb hlt hq) (kb hlt' hq') hne
  rw [kn] at hq'
  simp only [Option.some.injEq] at hq'
  subst hq'
  have:=lt h1 (kb hlt hq)
  omega
 rw [kn] at hq
 simp only [Option.some.injEq] at hq
 subst hq
 rcases key hx' with⟨hlt',h1'⟩|⟨rfl,rfl⟩
 ·have:=lt h1' (kb hlt' hq')
  omega
 exact absurd rfl hne
theorem s9 {β:Be} {h:Hp} {w:World} (hs:HSim β h w) {ob:AObj} (hob:ob.cs=[]):HSim (β++[none]) (h++[some ob]) w:=by
 have hle:=Be.le_append β [none]
 have key:∀ {o:Nat} {x:AObj},(h++[some ob])[o]? =some (some x)->(o < h.length/\h[o]? =some (some x))\/(o=h.length/\x=ob):=by
  intro o x hx
  rcases Li o h.length with hlt|he|hgt
  ·rw [K0 hlt] at hx;exact .inl ⟨hlt,hx⟩
  ·subst he;simp at hx;exact .inr ⟨rfl,hx.symm⟩
  rw [K1 zO] at hx
  rw [K4 zS] at hx
  cases hx
 have kb:∀ {o:Nat} {q:Option Pl},o < h.length->(β++[none])[o]? =some q->β[o]? =some q:=by
  intro o q ho hq
  rwa [K0 (by rw [hs.len];exact ho)] at hq
 have kn:(β++[none])[h.length]? =some none:=by rw [<-hs.len];simp
 refine⟨by simp [hs.len],fun o x hx=>?_,fun o x hx hf=>(by rcases key hx with⟨_,hx⟩|⟨_,rfl⟩;exact hs.flat o x hx hf;rw [hob];intro c hc;cases hc),fun o o' x x' q q' hx hx' hown hq hq' hne=>?_⟩
 ·rcases key hx with⟨hlt,hx⟩|⟨rfl,rfl⟩
  ·obtain⟨q,hq,hr⟩:=hs.ob o x hx
   exact⟨q,hle _ _ hq,hr.mono hle⟩
  exact⟨none,kn,hob⟩
 rcases key hx with⟨hlt,h1⟩|⟨rfl,rfl⟩
 ·rcases key hx' with⟨hlt',h1'⟩|⟨rfl,rfl⟩
  ·exact hs.apart o o' x x' q q' h1 h1' hown (kb hlt hq) (kb hlt' hq') hne
  rw [kn] at hq';cases hq'
 rw [kn] at hq;cases hq
theorem BH {β:Be} {h:Hp} {w:World} (hs:HSim β h w) (n:Nat):HSim β (h.set n none) w:=by
 have key:∀ {o:Nat} {x:AObj},(h.set n none)[o]? =some (some x)->h[o]? =some (some x):=by
  intro o x hx
  rw [La] at hx
  split at hx
  ·split at hx<;>cases hx
  exact hx
 exact⟨by simp [hs.len],fun o x hx=>hs.ob o x (key hx),fun o x hx=>hs.flat o x (key hx),fun o o' x x' q q' hx hx'=>hs.apart o o' x x' q q' (key hx) (key hx')⟩
abbrev Slots:=List (List (Option AV))
def Slots.get (s:Slots) (i:Nat):Option AV:=(s.getD (i / 16) []).getD (i % 16) none
def Slots.put (s:Slots) (i:Nat) (v:Option AV):Slots:=s.set (i / 16) ((s.getD (i / 16) []).set (i % 16) v)
def Slots.has (s:Slots) (i:Nat):Prop:=i % 16 < (s.getD (i / 16) []).length
theorem Slots.put_has (s:Slots) (d i:Nat) (v:Option AV):(s.put d v).has i↔s.has i:=by
 unfold Slots.has Slots.put
 simp only [Lc,La]
 by_cases he:d / 16=i / 16
 ·rw [if_pos he]
  by_cases hl:d / 16 < s.length
  ·simp [hl,<-he]
  have:s[i / 16]? =none:=K4 zO
  simp [hl,this]
 rw [if_neg he]
theorem Slots.get_put (s:Slots) (d i:Nat) (v:Option AV):(s.put d v).get i=if i=d then (if d % 16 < (s.getD (d / 16) []).length then v else none) else s.get i:=by
 unfold Slots.get Slots.put
 simp only [Lc,La]
 by_cases he:d / 16=i / 16
 ·rw [if_pos he]
  by_cases hl:d / 16 < s.length
  ·simp only [hl,if_true,LG,La]
   by_cases hm:d % 16=i % 16
   ·have hid:i=d:=zO
    subst hid
    simp only [if_true]
    split<;>simp
   have hid:¬ i=d:=zO
   simp [hm,hid,he]
  have h1:s[i / 16]? =none:=K4 zO
  have h2:s[d / 16]? =none:=K4 zO
  simp [hl,h1,h2]
 have hid:¬ i=d:=by intro e;subst e;exact he rfl
 rw [if_neg he,if_neg hid]
def SlotsR (β:Be) (s:Slots) (t:Array Value):Prop:=
 (∀ i,s.has i->i < t.size)/\∀ i v,s.get i=some v->∃ u,t[i]? =some u/\dZ β v u
theorem SlotsR.mono {β β':Be} (h:Be.le β β') {s:Slots} {t:Array Value} (hs:SlotsR β s t):SlotsR β' s t:=
 ⟨hs.1,fun i v hv=>let⟨u,hu,hr⟩:=hs.2 i v hv;⟨u,hu,hr.mono h⟩⟩
theorem SlotsR.put {β:Be} {s:Slots} {t:Array Value} (hs:SlotsR β s t) (d:Nat) {v:AV} {u:Value} (hv:dZ β v u):SlotsR β (s.put d (some v)) (t.setIfInBounds d u):=by
 refine⟨fun i hi=>by rw [Slots.put_has] at hi;simpa using hs.1 i hi,fun i x hx=>?_⟩
 rw [Slots.get_put] at hx
 by_cases hid:i=d
 ·subst hid
  simp only [if_true] at hx
  split at hx
  ·rename_i hl
   cases hx
   have hlt:=hs.1 i hl
   exact⟨u,by simp [hlt],hv⟩
  cases hx
 rw [if_neg hid] at hx
 obtain⟨y,hy,hr⟩:=hs.2 i x hx
 exact⟨y,by rw [Ln (Ne.symm hid)];exact hy,hr⟩
theorem SlotsR.putNone {β:Be} {s:Slots} {t:Array Value} (hs:SlotsR β s t) (d:Nat) (u:Value):SlotsR β (s.put d none) (t.setIfInBounds d u):=by
 refine⟨fun i hi=>by rw [Slots.put_has] at hi;simpa using hs.1 i hi,fun i x hx=>?_⟩
 rw [Slots.get_put] at hx
 by_cases hid:i=d
 ·subst hid
  simp only [if_true] at hx
  split at hx<;>cases hx
 rw [if_neg hid] at hx
 obtain⟨y,hy,hr⟩:=hs.2 i x hx
 exact⟨y,by rw [Ln (Ne.symm hid)];exact hy,hr⟩
structure S where
 sl:Slots
 hp:Hp
def S.put (s:S) (d:Option Nat) (v:Option AV) (h:Hp):S:=
 match d with
 |some d=>⟨s.sl.put d v,h⟩
 |none=>⟨s.sl,h⟩
def Own (β:Be) (h:Hp) (k:Nat):Prop:=∃ (o:Nat) (ob:AObj) (p:Pl),h[o]? =some (some ob)/\ob.own=true/\β[o]? =some (some p)/\p.blk=k
structure StepR (β β':Be) (h h':Hp) (w w':World):Prop where
 le:Be.le β β'
 os:w'.os=w.os
 tape:w'.tape=w.tape
 output:w'.output=w.output
 size:w.heap.size<=w'.heap.size
 block:∀ k,k < w.heap.size->¬ Own β h k->w'.heap[k]? =w.heap[k]?
 len:h.length<=h'.length
 old:∀ (o:Nat) (ob':AObj),o < h.length->h'[o]? =some (some ob')->∃ ob,h[o]? =some (some ob)/\(ob'.own=true->ob.own=true)
 fresh:∀ (o:Nat) (ob:AObj) (p:Pl),h.length<=o->h'[o]? =some (some ob)->β'[o]? =some (some p)->Own β h p.blk\/w.heap.size<=p.blk
theorem StepR.own {β β':Be} {h h':Hp} {w w':World} (s:StepR β β' h h' w w') (hl:β.length=h.length) {k:Nat} (hk:Own β' h' k):Own β h k\/w.heap.size<=k:=by
 obtain⟨o,ob,p,ho,hown,hp,rfl⟩:=hk
 rcases LH o h.length with hlt|hge
 ·obtain⟨ob0,ho0,h0⟩:=s.old o ob hlt ho
  have hb:∃ q,β[o]? =some q:=⟨β[o]' zO,K7 zO⟩
  obtain⟨q,hq⟩:=hb
  have:=s.le _ _ hq
  rw [hp] at this
  cases this
  exact .inl ⟨o,ob0,p,ho0,h0 hown,hq,rfl⟩
 exact s.fresh o ob p hge ho hp
theorem StepR.refl (β:Be) (h:Hp) (w:World) (hl:β.length=h.length):StepR β β h h w w:=
 ⟨Be.le.refl _,rfl,rfl,rfl,K5 _,fun _ _ _=>rfl,K5 _,fun o ob _ h=>⟨ob,h,id⟩,fun o ob p ho h1 _=>by
  rw [K4 ho] at h1;cases h1⟩
theorem StepR.trans {a b c:Be} {h1 h2 h3:Hp} {w1 w2 w3:World} (la:a.length=h1.length) (lb:b.length=h2.length) (s:StepR a b h1 h2 w1 w2) (t:StepR b c h2 h3 w2 w3):StepR a c h1 h3 w1 w3:=by
 refine⟨s.le.trans t.le,t.os.trans s.os,t.tape.trans s.tape,t.output.trans s.output,LA s.size t.size,fun k hk hn=>?_,LA s.len t.len,fun o ob hlt ho=>?_,fun o ob p hge ho hp=>?_⟩
 ·rw [t.block k (by have:=s.size;omega) (fun hown=>by rcases s.own la hown with h|h;exact hn h;omega)]
  exact s.block k hk hn
 ·obtain⟨ob2,ho2,h2⟩:=t.old o ob (by have:=s.len;omega) ho
  obtain⟨ob1,ho1,h1⟩:=s.old o ob2 hlt ho2
  exact⟨ob1,ho1,fun h=>h1 (h2 h)⟩
 rcases LH o h2.length with hlt|hge2
 ·obtain⟨ob2,ho2,h2'⟩:=t.old o ob hlt ho
  have hq:b[o]? =some (b[o]' zO):=K7 zO
  have h4:=t.le _ _ hq
  rw [hp] at h4
  simp only [Option.some.injEq] at h4
  rw [<-h4] at hq
  exact s.fresh o ob2 p hge ho2 hq
 rcases t.fresh o ob p hge2 ho hp with h|h
 ·exact s.own la h
 exact .inr (LA s.size h)
def World.like (w w':World):Prop:=w'.os=w.os/\w'.tape=w.tape/\w'.output=w.output
theorem jk {β:Be} {h:Hp} {w w':World} (hl:β.length=h.length) (hlike:World.like w w') (hsz:w.heap.size<=w'.heap.size) (hw:∀ k,k < w.heap.size->w'.heap[k]? =w.heap[k]?) (p:Pl) (ob:AObj) (hp:w.heap.size<=p.blk):
  StepR β (β++[some p]) h (h++[some ob]) w w':=
 ⟨Be.le_append _ _,hlike.1,hlike.2.1,hlike.2.2,hsz,fun k hk _=>hw k hk,zP,fun o ob' hlt ho=>by
  rw [K0 hlt] at ho;exact⟨ob',ho,id⟩,fun o ob' q hge ho hq=>by
  have he:o=h.length:=by
   rcases Li o h.length with h1|h1|h1
   ·omega
   ·exact h1
   rw [K1 zO,K4 zS] at ho;cases ho
  subst he
  rw [<-hl] at hq
  simp at hq
  subst hq
  exact .inr hp⟩
def cV (P:Program) (t:TypeId):Nat:=((P.info? t).map (·.size)).getD 0
def Iu (P:Program) (t:TypeId):Nat:=((P.info? t).map (·.bytes)).getD 0
def Sc.ofV:Value->Option Sc
 | .int k n=>some (.int k n)
 | .bool b=>some (.bo b)
 | .string s=>some (.st s.data.toList)
 | .slice none 0 0=>some .nil
 | .pointer none=>some .un
 |_=>none
def G2:List Value->Option (List Sc)
 |[]=>some []
 |v::r=>match Sc.ofV v,G2 r with
  |some s,some l=>some (s::l)
  |_,_=>none
def AN (P:Program) (t:TypeId):Option (List Sc):=(P.info? t).bind fun i=>i.zero.bind fun v=>G2 v.cells.toList
def cq (P:Program) (t:TypeId):Bool:=
 match P.underlying t with
 |some (.struct _)|some (.array _ _)=>true
 |_=>false
def dH (P:Program) (t:TypeId):Bool:=(P.underlying t).isSome && (P.info? t).isSome
def ak (P:Program) (t:TypeId) (f:Nat):Option (Nat×Nat):=
 match P.underlying t with
 |some (.struct fs)=>match fs[f]? with
  |some x=>if cV P x.type=0 then none else some (x.offset,cV P x.type)
  |none=>none
 |_=>none
def KT (P:Program) (t:TypeId) (f:Nat):Option Nat:=
 match P.underlying t with
 |some (.struct fs)=>match fs[f]? with
  |some x=>if dH P x.type && !cq P x.type then some x.offset else none
  |none=>none
 |_=>none
def wh (P:Program) (t:TypeId):Bool:=
 match P.underlying t with
 |some (.struct fs)=>fs.toList.all fun x=>cV P x.type != 0
 |_=>false
def G3 (P:Program) (t:TypeId):Option TypeId:=
 match P.underlying t with
 |some (.slice e)=>some e
 |_=>none
def J7 (P:Program) (t:TypeId):Option IntKind:=
 match P.underlying t with
 |some (.int k)=>some k
 |_=>none
def yG (P:Program) (t:TypeId):Bool:=
 match P.underlying t with
 |some .string=>true
 |_=>false
def pz (P:Program) (t:TypeId):Bool:=
 match P.underlying t with
 |some .bool=>true
 |_=>false
def AV.ofV:Value->Option AV
 | .agg cs=>(G2 cs.toList).map .ag
 | .func (.func f) a b=>if a.size=0/\b.size=0 then some (.cl f []) else none
 |v=>(Sc.ofV v).map .sc
def S.ev (s:S):Operand->Option AV
 | .tmp t=>s.sl.get t
 | .const v=>AV.ofV v
 | .func f=>some (.cl f [])
 | .global _=>none
def S.obj (s:S) (o:Nat):Option AObj:=s.hp.getD o none
def s_ {α:Type}:List α->Nat->Bool
 |[],0=>true
 |_::l,n+1=>s_ l n
 |_,_=>false
theorem lB {α:Type}:∀ {l:List α} {n:Nat},s_ l n=true->l.length=n
 |[],0,_=>rfl
 |_::l,n+1,h=>by simp [lB (l:=l) (n:=n) h]
 |[],_+1,h=>by cases h
 |_::_,0,h=>by cases h
def fits {α:Type}:List α->Nat->Nat->Bool
 |_,0,0=>true
 |_::c,0,n+1=>fits c 0 n
 |_::c,j+1,n=>fits c j n
 |_,_,_=>false
theorem j9 {α:Type}:∀ {c:List α} {j n:Nat},fits c j n=true->j+n<=c.length
 |c,0,0,_=>Lx _
 |_::c,0,n+1,h=>by have:=j9 (c:=c) (j:=0) (n:=n) h;simp;omega
 |_::c,j+1,n,h=>by have:=j9 (c:=c) (j:=j) (n:=n) (by cases n<;>exact h);simp;omega
 |[],0,n+1,h=>by cases h
 |[],j+1,n,h=>by cases n<;>cases h
def over:List Sc->List Sc->List Sc
 |c,[]=>c
 |_::c,b::l=>b::over c l
 |[],_=>[]
def Hv:List Sc->Nat->List Sc->List Sc
 |c,0,l=>over c l
 |a::c,j+1,l=>a::Hv c j l
 |[],_,_=>[]
def J8:Nat->Nat->Bool
 |0,_=>true
 |n+1,m+1=>J8 n m
 |_+1,0=>false
theorem Ds:∀ {n m:Nat},J8 n m=true->n<=m
 |0,_,_=>Lx _
 |n+1,m+1,h=>by have:=Ds (n:=n) (m:=m) h;omega
 |_+1,0,h=>by cases h
def tz (P:Program) (e:TypeId):Option (List Sc):=
 match AN P e with
 |some z=>if z.length=cV P e/\0 < cV P e/\cV P e<=65536/\Iu P e<=131072/\dH P e=true then some z else none
 |none=>none
theorem jl {P:Program} {e:TypeId} {z:List Sc} (h:tz P e=some z):AN P e=some z/\z.length=cV P e/\0 < cV P e/\cV P e<=65536/\Iu P e<=131072/\dH P e=true:=by
 unfold tz at h
 split at h
 ·rename_i z' hz
  split at h
  ·rename_i hc
   simp only [Option.some.injEq] at h
   subst h
   exact⟨hz,hc⟩
  cases h
 cases h
def aO (P:Program) (t:TypeId):Option (Option Nat):=
 if dH P t then (if cq P t then some (some (cV P t)) else some none) else none
def fD (P:Program) (t:TypeId):Option Nat:=if dH P t then some (cV P t) else none
def bV (P:Program) (t:TypeId):Option (List Sc):=if wh P t then tz P t else none
def wg (P:Program) (t:TypeId):Option (TypeId×Nat):=
 match G3 P t with
 |some e=>if dH P e then some (e,cV P e) else none
 |none=>none
theorem fj {P:Program} {t e:TypeId} {n:Nat} (h:wg P t=some (e,n)):G3 P t=some e/\dH P e=true/\n=cV P e:=by
 unfold wg at h
 split at h
 ·rename_i e' he
  split at h
  ·rename_i hk
   simp only [Option.some.injEq,Prod.mk.injEq] at h
   obtain⟨rfl,rfl⟩:=h
   exact⟨he,hk,rfl⟩
  cases h
 cases h
inductive Cv where
 |int (k:IntKind)
 |str
 |s2b (e:TypeId)
 |b2s
def AO (P:Program) (src dst:TypeId):Option Cv:=
 match P.underlying src,P.underlying dst with
 |some (.int _),some (.int k)=>some (.int k)
 |some .string,some .string=>some .str
 |some .string,some (.slice e)=>if J7 P e=some .u8 then some (.s2b e) else none
 |some (.slice e),some .string=>if J7 P e=some .u8 then some .b2s else none
 |_,_=>none
def wi:List (List Sc)->Bool
 |[]=>true
 |c::r=>gw c && wi r
theorem tc:∀ {cs:List (List Sc)},wi cs=true->FlatL cs
 |[],_=>fun c hc=>by cases hc
 |c::r,h=>by
  simp only [wi,K_] at h
  intro d hd
  rcases L5.1 hd with rfl|hd
  ·exact h.1
  exact tc h.2 d hd
theorem iF:∀ {a b:List Sc},gw a=true->gw b=true->gw (a++b)=true
 |[],_,_,h=>h
 |s::a,b,h,k=>by
  simp only [gw,K_,List.cons_append] at h⊢
  exact⟨h.1,iF h.2 k⟩
theorem dD:∀ {a:List Sc},gw a=true↔∀ s∈a,s.isFlat=true
 |[]=>by simp [gw]
 |s::a=>by simp [gw,dD (a:=a)]
structure OpR where
 v:Option AV
 hp:Hp
 c:Prop
def h_ (c:List Sc) (j:Nat) (l:List Sc):List Sc:=c.take j++(l++c.drop (j+l.length))
def Dt (P:Program) (t:TypeId) (a b:List Sc) (r:Bool):Prop:=
 ∀ (β:Be) (w:World) (x y:Operand) (vs us:List Value),L2 (ScR β) a vs->L2 (ScR β) b us->
  (do eqGuard .eql t x y (.agg vs.toArray) (.agg us.toArray);binOp .eql t (.agg vs.toArray) (.agg us.toArray)).run P w=.ok (.bool r) w/\
  (do eqGuard .neq t x y (.agg vs.toArray) (.agg us.toArray);binOp .neq t (.agg vs.toArray) (.agg us.toArray)).run P w=.ok (.bool (!r)) w
def BI:Sc->Sc->Bool
 | .int _ a,.int _ b=>a == b
 | .bo a,.bo b=>a == b
 | .st a,.st b=>a == b
 |_,_=>false
def bT:List Sc->List Sc->Bool
 |[],[]=>true
 |a::l,b::m=>BI a b && bT l m
 |_,_=>false
def lC (P:Program) (t:TypeId) (a b:List Sc):Prop:=Dt P t a b (bT a b)
def wj (op:BinOp) (k:IntKind) (a b:Int):Option (Sc×Prop):=
 match op with
 | .add=>some (.int k (k.wrap (a+b)),True)
 | .sub=>some (.int k (k.wrap (a - b)),True)
 | .mul=>some (.int k (k.wrap (a*b)),True)
 | .quo=>some (.int k (k.wrap (a.tdiv b)),b≠0)
 | .rem=>some (.int k (a.tmod b),b≠0)
 | .and=>some (.int k (k.wrap (BitVec.ofInt k.bits a &&& BitVec.ofInt k.bits b).toNat),True)
 | .or=>some (.int k (k.wrap (BitVec.ofInt k.bits a |||BitVec.ofInt k.bits b).toNat),True)
 | .xor=>some (.int k (k.wrap (BitVec.ofInt k.bits a ^^^ BitVec.ofInt k.bits b).toNat),True)
 | .eql=>some (.bo (a == b),True)
 | .neq=>some (.bo (a != b),True)
 | .lss=>some (.bo (decide (a < b)),True)
 | .leq=>some (.bo (decide (a<=b)),True)
 | .gtr=>some (.bo (decide (b < a)),True)
 | .geq=>some (.bo (decide (b<=a)),True)
 |_=>none
def gR (P:Program) (t:TypeId) (op:BinOp):Sc->Sc->Option (Sc×Prop)
 | .int k a,.int k' b=>match op with
  | .shl=>some (.int k (k.wrap (a*2 ^ (min b.toNat k.bits))),0<=b)
  | .shr=>some (.int k (a.fdiv (2 ^ (min b.toNat k.bits))),0<=b)
  |op=>if k=k' then wj op k a b else none
 | .st a,.st b=>match op with
  | .add=>some (.st (a++b),a.length+b.length<=4611686018427387904)
  | .eql=>some (.bo (a == b),True)
  | .neq=>some (.bo (!(a == b)),True)
  |_=>none
 | .bo a,.bo b=>match op with
  | .eql=>match pz P t with
   |true=>some (.bo (a == b),True)
   |false=>none
  | .neq=>match pz P t with
   |true=>some (.bo (!(a == b)),True)
   |false=>none
  |_=>none
 |_,_=>none
def td (pl:Nat->Option (Nat×Nat)) (cells:List Sc):List (Nat×List Sc)->Option (List Sc)
 |[]=>some cells
 |(i,v)::rest=>match pl i with
  |none=>none
  |some (off,size)=>match s_ v size && fits cells off size with
   |true=>td pl (Hv cells off v) rest
   |false=>none
def tf (esz:Nat) (cs:List (List Sc)):List (Nat×List Sc)->Option (List (List Sc))
 |[]=>some cs
 |(i,v)::rest=>match s_ v esz && fits cs i 1 with
  |true=>tf esz (cs.set i v) rest
  |false=>none
def S.parts (s:S):List (Nat×Operand)->Option (List (Nat×List Sc))
 |[]=>some []
 |(i,x)::rest=>match s.ev x with
  |some v=>match v.cells with
   |some cs=>match s.parts rest with
    |some l=>some ((i,cs)::l)
    |none=>none
   |none=>none
  |none=>none
def S.scals (s:S):List Operand->Option (List Sc)
 |[]=>some []
 |x::rest=>match s.ev x with
  |some (.sc c)=>match s.scals rest with
   |some l=>some (c::l)
   |none=>none
  |_=>none
def mM:List Sc->UInt8
 |[.int .u8 n]=>UInt8.ofNat n.toNat
 |_=>0
def yH (b:UInt8):List Sc:=[.int .u8 b.toNat]
def kS:List Sc->Bool
 |[.int .u8 _]=>true
 |_=>false
def gx (s:S):Option Operand->Option (Option Int)
 |none=>some none
 |some x=>match s.ev x with
  |some (.sc (.int _ n))=>some (some n)
  |_=>none
def S.new (s:S) (ob:AObj) (v:AV):OpR:=⟨some v,s.hp++[some ob],True⟩
def S.val (s:S) (v:AV):OpR:=⟨some v,s.hp,True⟩
def S.valc (s:S) (v:AV) (c:Prop):OpR:=⟨some v,s.hp,c⟩
def dI (s:S):AV->Option Int->Option Int->Option OpR
 | .sc (.st l),none,none=>some (s.val (.sc (.st l)))
 | .sc (.st l),some a,none=>some (s.valc (.sc (.st (l.drop a.toNat))) (0<=a/\a<=l.length))
 | .sc (.st l),none,some b=>some (s.valc (.sc (.st (l.take b.toNat))) (0<=b/\b<=l.length))
 | .sc (.st l),some a,some b=>some (s.valc (.sc (.st ((l.take b.toNat).drop a.toNat))) (0<=a/\a<=b/\b<=l.length))
 | .sc (.sl o off len),none,none=>some (s.val (.sc (.sl o off len)))
 | .sc (.sl o off len),some a,none=>some (s.valc (.sc (.sl o (off+a.toNat) (len - a.toNat))) (0<=a/\a<=len))
 | .sc (.sl o off len),none,some b=>some (s.valc (.sc (.sl o off b.toNat)) (0<=b/\b<=len))
 | .sc (.sl o off len),some a,some b=>some (s.valc (.sc (.sl o (off+a.toNat) (b.toNat - a.toNat))) (0<=a/\a<=b/\b<=len))
 |_,_,_=>none
def j_ (P:Program) (s:S) (t:TypeId) (a x:AV):Option OpR:=
 match wg P t with
 |none=>none
 |some (e,sz)=>match tz P e with
  |none=>none
  |some _=>match a,x with
   | .sc (.sl o off len),.sc .nil=>some (s.val (.sc (.sl o off len)))
   | .sc .nil,.sc .nil=>some (s.val (.sc .nil))
   | .sc .nil,.sc (.sl o off len)=>match s.obj o with
    |some ob=>if ob.esz=sz then some ⟨some (.sc (.sl s.hp.length 0 len)),s.hp++[some ⟨(ob.cs.drop off).take len,sz,e,true,ob.fl⟩],off+len<=ob.cs.length/\len<=1073741824⟩ else none
    |none=>none
   | .sc (.sl o' off' len'),.sc (.sl o off len)=>match s.obj o',s.obj o with
    |some ob',some ob=>if ob.esz=sz/\ob'.esz=sz/\ob'.own=true/\ob'.ty=e/\off'=0/\o'≠o then
      some ⟨some (.sc (.sl s.hp.length 0 (len'+len))),s.hp.set o' none++[some ⟨ob'.cs++(ob.cs.drop off).take len,sz,e,true,ob'.fl && ob.fl⟩],ob'.cs.length=len'/\off+len<=ob.cs.length/\len'+len<=1073741824⟩ else none
    |_,_=>none
   |_,_=>none
def bc (P:Program) (s:S) (ty:TypeId):Op->Option OpR
 | .move x| .assign x=>match s.ev x with
  |some v=>some (s.val v)
  |none=>none
 | .pick c a b=>match s.ev c with
  |some (.sc (.bo true))=>match s.ev a with
   |some v=>some (s.val v)
   |none=>none
  |some (.sc (.bo false))=>match s.ev b with
   |some v=>some (s.val v)
   |none=>none
  |_=>none
 | .alloc e=>match tz P e with
  |some z=>some (s.new ⟨[z],z.length,e,true,false⟩ (.sc (.pt s.hp.length 0 0)))
  |none=>none
 | .box e x=>match s.ev x with
  |some v=>match v.cells with
   |some cs=>some (s.new ⟨[cs],cs.length,e,true,false⟩ (.sc (.pt s.hp.length 0 0)))
   |none=>none
  |none=>none
 | .build t parts=>match bV P t with
  |some z=>match s.parts parts.toList with
   |some l=>match td (ak P t) z l with
    |some cs=>some (s.val (.ag cs))
    |none=>none
   |none=>none
  |none=>none
 | .buildSlice t len parts=>match wg P t with
  |some (e,sz)=>match tz P e with
   |some z=>match s.parts parts.toList with
    |some l=>match J8 len 256 with
     |true=>match tf sz (List.replicate len z) l with
      |some cs=>some (s.new ⟨cs,sz,e,true,wi cs⟩ (.sc (.sl s.hp.length 0 len)))
      |none=>none
     |false=>none
    |none=>none
   |none=>none
  |none=>none
 | .load t a=>match s.ev a with
  |some (.sc (.pt o k j))=>match s.obj o with
   |some ob=>match ob.cs[k]? with
    |some c=>match aO P t with
     |some (some n)=>match fits c j n with
      |true=>some (s.val (.ag ((c.drop j).take n)))
      |false=>none
     |some none=>match c[j]? with
      |some x=>some (s.val (.sc x))
      |none=>none
     |none=>none
    |none=>none
   |none=>none
  |_=>none
 | .store t a x=>match s.ev a with
  |some (.sc (.pt o k j))=>match s.obj o with
   |some ob=>match ob.cs[k]? with
    |some c=>match s.ev x with
     |some v=>match v.cells with
      |some vs=>match fD P t with
       |some n=>match s_ vs n && fits c j n && ob.own with
        |true=>some ⟨none,s.hp.set o (some { ob with cs:=ob.cs.set k (Hv c j vs),fl:=ob.fl && gw vs }),True⟩
        |false=>none
       |none=>none
      |none=>none
     |none=>none
    |none=>none
   |none=>none
  |_=>none
 | .nilCheck x=>match s.ev x with
  |some (.sc (.pt o k j))=>some (s.val (.sc (.pt o k j)))
  |some (.cl f caps)=>some (s.val (.cl f caps))
  |_=>none
 | .binOp op t x y _=>match s.ev x,s.ev y with
  |some (.sc a),some (.sc b)=>match gR P t op a b with
   |some (r,c)=>some (s.valc (.sc r) c)
   |none=>none
  |some (.ag a),some (.ag b)=>match op with
   | .eql=>some (s.valc (.sc (.bo (bT a b))) (lC P t a b))
   | .neq=>some (s.valc (.sc (.bo (!bT a b))) (lC P t a b))
   |_=>none
  |_,_=>none
 | .unOp op _ x=>match s.ev x with
  |some (.sc (.bo b))=>match op with
   | .not=>some (s.val (.sc (.bo (!b))))
   |_=>none
  |some (.sc (.int k n))=>match op with
   | .neg=>some (s.val (.sc (.int k (k.wrap (0 - n)))))
   |_=>none
  |_=>none
 | .convert src dst x=>match AO P src dst,s.ev x with
  |some (.int k'),some (.sc (.int k n))=>some (s.val (.sc (.int k' (k'.wrap n))))
  |some .str,some (.sc (.st l))=>some (s.val (.sc (.st l)))
  |some (.s2b e),some (.sc (.st l))=>some (⟨some (.sc (.sl s.hp.length 0 l.length)),s.hp++[some ⟨l.map yH,1,e,false,true⟩],l.length<=1073741824⟩)
  |some .b2s,some (.sc (.sl o off len))=>match s.obj o with
   |some ob=>if ob.esz=1 then some (s.valc (.sc (.st (((ob.cs.drop off).take len).map mM))) (off+len<=ob.cs.length/\∀ c∈ob.cs,kS c=true)) else none
   |none=>none
  |some .b2s,some (.sc .nil)=>some (s.val (.sc (.st [])))
  |_,_=>none
 | .makeSlice t l c=>match wg P t with
  |some (e,sz)=>match tz P e with
   |some z=>match s.ev l,s.ev c with
    |some (.sc (.int _ l)),some (.sc (.int _ c))=>some ⟨some (.sc (.sl s.hp.length 0 l.toNat)),s.hp++[some ⟨List.replicate l.toNat z,sz,e,true,gw z⟩],0<=l/\l<=c/\c<=1073741824⟩
    |_,_=>none
   |none=>none
  |none=>none
 | .slice t x lo hi none=>match s.ev x,gx s lo,gx s hi with
  |some v,some lo,some hi=>match v with
   | .sc (.st _)=>match yG P t with
    |true=>dI s v lo hi
    |false=>none
   | .sc (.sl o _ _)=>match wg P t,s.obj o with
    |some (_,sz),some ob=>if ob.esz=sz then dI s v lo hi else none
    |_,_=>none
   |_=>none
  |_,_,_=>none
 | .fieldAddr t x f=>match s.ev x,ak P t f with
  |some (.sc (.pt o k j)),some (off,_)=>some (s.val (.sc (.pt o k (j+off))))
  |_,_=>none
 | .field t x f=>match s.ev x,KT P t f with
  |some (.ag cs),some off=>match cs[off]? with
   |some c=>some (s.val (.sc c))
   |none=>none
  |_,_=>none
 | .indexAddr t x i=>match s.ev x,s.ev i,wg P t with
  |some (.sc (.sl o off len)),some (.sc (.int _ i)),some (_,sz)=>match s.obj o with
   |some ob=>if ob.esz=sz then some (s.valc (.sc (.pt o (off+i.toNat) 0)) (0<=i/\i < len)) else none
   |none=>none
  |_,_,_=>none
 | .index t x i=>match s.ev x,s.ev i with
  |some (.sc (.st l)),some (.sc (.int _ i))=>match yG P t with
   |true=>some (s.valc (.sc (.int .u8 (l.getD i.toNat 0).toNat)) (0<=i/\i < l.length))
   |false=>none
  |_,_=>none
 | .extract x i=>match s.ev x with
  |some (.tu l)=>match l[i]? with
   |some c=>some (s.val c.av)
   |none=>none
  |_=>none
 | .makeFunc (.func f) first caps=>if first.size=0 then match s.scals caps.toList with
   |some l=>some (s.val (.cl f l))
   |none=>none else none
 | .call { callee:=.builtin .len,args,argTypes }=>match args.toList,argTypes.toList with
  |[x],[t]=>match s.ev x with
   |some (.sc (.st l))=>match yG P t with
    |true=>some (s.val (.sc (.int .i64 l.length)))
    |false=>none
   |some (.sc (.sl _ _ len))=>match wg P t with
    |some _=>some (s.val (.sc (.int .i64 len)))
    |none=>none
   |some (.sc .nil)=>match wg P t with
    |some _=>some (s.val (.sc (.int .i64 0)))
    |none=>none
   |_=>none
  |_,_=>none
 | .call { callee:=.builtin .append,args,argTypes }=>match args.toList,argTypes.toList with
  |[x,y],[t,t']=>if t=t' then match s.ev x,s.ev y with
   |some a,some b=>j_ P s t a b
   |_,_=>none else none
  |_,_=>none
 | .call { callee:=.builtin .min,args,argTypes }=>match args.toList with
  |[x,y]=>match s.ev x,s.ev y with
   |some (.sc (.int k a)),some (.sc (.int k' b))=>some (s.val (.sc (.int k (if b < a then b else a))))
   |_,_=>none
  |_=>none
 | .call { callee:=.builtin .max,args,argTypes }=>match args.toList with
  |[x,y]=>match s.ev x,s.ev y with
   |some (.sc (.int k a)),some (.sc (.int k' b))=>some (s.val (.sc (.int k (if a < b then b else a))))
   |_,_=>none
  |_=>none
 |_=>none
theorem G4 {v:Value} {s:Sc} (h:Sc.ofV v=some s) (β:Be):ScR β s v:=by
 unfold Sc.ofV at h
 split at h
 all_goals first
  |(simp only [Option.some.injEq] at h;subst h;first|rfl|exact⟨_,rfl⟩)
  |cases h
theorem pA (β:Be):∀ {vs:List Value} {l:List Sc},G2 vs=some l->L2 (ScR β) l vs
 |[],l,h=>by simp only [G2,Option.some.injEq] at h;subst h;trivial
 |v::r,l,h=>by
  simp only [G2] at h
  split at h
  ·rename_i s m h1 h2
   simp only [Option.some.injEq] at h
   subst h
   exact⟨G4 h1 β,pA β h2⟩
  cases h
theorem FI {v:Value} {x:AV} (h:AV.ofV v=some x) (β:Be):dZ β x v:=by
 unfold AV.ofV at h
 split at h
 ·rename_i cs
  simp only [Ly] at h
  obtain⟨l,h1,rfl⟩:=h
  exact⟨cs.toList,zP,pA β h1⟩
 ·rename_i f a b
  split at h
  ·rename_i h0
   simp only [Option.some.injEq] at h
   subst h
   obtain⟨ha,hb⟩:=h0
   have ha':a= #[]:=Lp ha
   have hb':b= #[]:=Lp hb
   subst ha';subst hb'
   exact⟨[],rfl,trivial⟩
  cases h
 simp only [Ly] at h
 obtain⟨l,h1,rfl⟩:=h
 exact G4 h1 β
theorem cy {β:Be} {s:S} {a:Act} (hs:SlotsR β s.sl a.tmps) {x:Operand} {v:AV} (h:s.ev x=some v):dZ β v (a.eval x):=by
 cases x with
 |tmp t=>
  obtain⟨u,hu,hr⟩:=hs.2 t v h
  have:a.eval (.tmp t)=u:=by simp [Act.eval,Array.getD_eq_getD_getElem?,hu]
  rw [this];exact hr
 |const c=>exact FI h β
 |global g=>cases h
 |func f=>
  simp only [S.ev,Option.some.injEq] at h
  subst h
  exact⟨[],rfl,trivial⟩
theorem ce {s:S} {o:Nat} {ob:AObj} (h:s.obj o=some ob):s.hp[o]? =some (some ob):=by
 unfold S.obj at h
 rw [Lc] at h
 cases hx:s.hp[o]? with
 |none=>rw [hx] at h;cases h
 |some y=>rw [hx] at h;simp only [LG] at h;rw [h]
theorem uD {β:Be} {s:S} {a:Act} (hs:SlotsR β s.sl a.tmps):∀ {ps:List (Nat×Operand)} {l:List (Nat×List Sc)},s.parts ps=some l->
  L2 (fun (x:Nat×List Sc) (y:Nat×Value)=>x.1=y.1/\∃ vs:List Value,y.2.cells=vs.toArray/\L2 (ScR β) x.2 vs) l (ps.map fun (i,x)=>(i,a.eval x))
 |[],l,h=>by simp only [S.parts,Option.some.injEq] at h;subst h;trivial
 |(i,x)::rest,l,h=>by
  simp only [S.parts] at h
  split at h
  ·rename_i v hv
   split at h
   ·rename_i cs hcs
    split at h
    ·rename_i m hm
     simp only [Option.some.injEq] at h
     subst h
     exact⟨⟨rfl,dZ.cells hcs (cy hs hv)⟩,uD hs hm⟩
    cases h
   cases h
  cases h
theorem AP {β:Be} {s:S} {a:Act} (hs:SlotsR β s.sl a.tmps):∀ {ps:List Operand} {l:List Sc},s.scals ps=some l->L2 (ScR β) l (ps.map a.eval)
 |[],l,h=>by simp only [S.scals,Option.some.injEq] at h;subst h;trivial
 |x::rest,l,h=>by
  simp only [S.scals] at h
  split at h
  ·rename_i c hc
   split at h
   ·rename_i m hm
    simp only [Option.some.injEq] at h
    subst h
    exact⟨cy hs hc,AP hs hm⟩
   cases h
  cases h
theorem du {P:Program} {t:TypeId} (w:World) (h:(P.info? t).isSome=true):(sizeOf t).run P w=.ok (cV P t) w:=by
 obtain⟨i,hi⟩:=Lm.1 h
 simp [sizeOf,typeInfo,hi,cV]
theorem yI {P:Program} {t:TypeId} (h:dH P t=true):∃ d,P.underlying t=some d:=by
 unfold dH at h
 simp only [K_] at h
 exact Lm.1 h.1
theorem jm {P:Program} {t:TypeId} (h:dH P t=true):(P.info? t).isSome=true:=by
 unfold dH at h
 simp only [K_] at h
 exact h.2
theorem gy {P:Program} {t:TypeId} (w:World) {d:TypeDesc} (h:P.underlying t=some d):(isAgg t).run P w=.ok (cq P t) w:=by
 simp only [isAgg,K3,run_underlying h,K2,cq,h]
 cases d<;>rfl
theorem Du {P:Program} {t:TypeId} (h:cq P t=true):∃ d,P.underlying t=some d:=by
 unfold cq at h
 cases hu:P.underlying t with
 |none=>rw [hu] at h;cases h
 |some d=>exact⟨d,rfl⟩
theorem eK {P:Program} {t e:TypeId} (h:G3 P t=some e):P.underlying t=some (.slice e):=by
 unfold G3 at h
 split at h
 ·rename_i e' hu;simp only [Option.some.injEq] at h;subst h;exact hu
 cases h
theorem AQ {P:Program} {t:TypeId} {k:IntKind} (h:J7 P t=some k):P.underlying t=some (.int k):=by
 unfold J7 at h
 split at h
 ·rename_i e' hu;simp only [Option.some.injEq] at h;subst h;exact hu
 cases h
theorem lD {P:Program} {t:TypeId} (h:yG P t=true):P.underlying t=some .string:=by
 unfold yG at h
 split at h
 ·assumption
 cases h
theorem BJ {P:Program} {t:TypeId} (h:pz P t=true):P.underlying t=some .bool:=by
 unfold pz at h
 split at h
 ·assumption
 cases h
theorem pB {P:Program} {t:TypeId} {i:TypeInfo} (h:P.info? t=some i):cV P t=i.size:=by simp [cV,h]
theorem gz {P:Program} {t:TypeId} {z:List Sc} (h:AN P t=some z):∃ i v vs,P.info? t=some i/\i.zero=some v/\v.cells=List.toArray vs/\G2 vs=some z:=by
 unfold AN at h
 rw [LI] at h
 obtain⟨i,hi,h⟩:=h
 rw [LI] at h
 obtain⟨v,hv,h⟩:=h
 exact⟨i,v,v.cells.toList,hi,hv,zP,h⟩
theorem AR {P:Program} {t:TypeId} (h:0 < cV P t):(P.info? t).isSome=true:=by
 unfold cV at h
 cases hi:P.info? t with
 |none=>rw [hi] at h;simp at h
 |some i=>rfl
def eL (β:Be) (s:S) (r:OpR) (w:World) (x:Result Next):Prop:=
 ∃ β' w',StepR β β' s.hp r.hp w w'/\HSim β' r.hp w'/\((∃ v av,x=.ok (.value v) w'/\r.v=some av/\dZ β' av v)\/(x=.ok .skip w'/\r.v=none))
theorem aW {β:Be} {s:S} {w:World} (hs:HSim β s.hp w) {x:Result Next} {v:Value} {av:AV} (hx:x=.ok (.value v) w) (hv:dZ β av v):eL β s (s.val av) w x:=
 ⟨β,w,StepR.refl β s.hp w hs.len,hs,.inl ⟨v,av,hx,rfl,hv⟩⟩
theorem cF {β:Be} {s:S} {w:World} (hs:HSim β s.hp w) {x:Result Next} {v:Value} {av:AV} {c:Prop} (hx:x=.ok (.value v) w) (hv:dZ β av v):eL β s (s.valc av c) w x:=
 ⟨β,w,StepR.refl β s.hp w hs.len,hs,.inl ⟨v,av,hx,rfl,hv⟩⟩
theorem fY {β:Be} {h:Hp} {w:World} (hs:HSim β h w) {o:Nat} {ob:AObj} (ho:h[o]? =some (some ob)) {p:Pl} (hp:β[o]? =some (some p)):
  p.esz=ob.esz/\∃ arr T fz,w.heap[p.blk]? =some (.cells arr T fz)/\cp β arr p.base ob.esz ob.cs/\(ob.own=true->T=ob.ty/\fz=(0,0)/\p.base+p.avail=arr.size):=by
 obtain⟨q,hq,hr⟩:=hs.ob o ob ho
 rw [hp] at hq
 cases hq
 exact hr
theorem iG {w:World} {b off:Nat} {arr:Array Value} {T:TypeId} {fz:Nat×Nat} (h:w.heap[b]? =some (.cells arr T fz)):w.cell? ⟨b,off,none⟩=arr[off]? :=by simp [World.cell?,h]
theorem yJ {β:Be} {arr:Array Value} {base esz:Nat} {cs:List (List Sc)} (hc:cp β arr base esz cs) {k:Nat} {c:List Sc} (hk:cs[k]? =some c) (j n:Nat) (hn:j+n<=c.length):
  ∃ vs:List Value,vs.length=n/\L2 (ScR β) ((c.drop j).take n) vs/\∀ i v,vs[i]? =some v->arr[base+k*esz+j+i]? =some v:=by
 obtain⟨hl,hcell⟩:=hc k c hk
 refine⟨(List.range n).map fun i=>(arr[base+k*esz+j+i]?).getD undef,zP,?_,?_⟩
 ·refine L2.of_get zS fun i x y hx hy=>?_
  have hi:i < n:=by
   have:=(KZ.1 hx).1
   simp at this
   omega
  rw [Lb hi,Lg] at hx
  obtain⟨v,hv,hr⟩:=hcell (j+i) x hx
  simp only [Lj,Ls hi,Lt,Option.some.injEq] at hy
  rw [<-Lo] at hv
  rw [hv] at hy
  simp only [LG] at hy
  subst hy
  exact hr
 intro i v hv
 have hi:i < n:=by
  have:=(KZ.1 hv).1
  simpa using this
 simp only [Lj,Ls hi,Lt,Option.some.injEq] at hv
 have hx:c[j+i]? =some (c[j+i]' zO):=K7 zO
 obtain⟨u,hu,_⟩:=hcell (j+i) _ hx
 rw [<-Lo] at hu
 rw [hu] at hv⊢
 simpa using hv
theorem Dv {β:Be} {o k j:Nat} {v:Value} (h:ScR β (.pt o k j) v):∃ p,β[o]? =some (some p)/\v=.pointer (some ⟨p.blk,p.base+k*p.esz+j,none⟩):=h
theorem lE {P:Program} {β:Be} {s:S} {w:World} (hs:HSim β s.hp w) {o k j:Nat} {ob:AObj} {c:List Sc} {t:TypeId} {v:Value}
  (ho:s.obj o=some ob) (hk:ob.cs[k]? =some c) (ht:cq P t=true) (hn:j+cV P t<=c.length) (hv:ScR β (.pt o k j) v):
  ∃ vs:List Value,(Instr.loadAt t v).run P w=.ok (.agg vs.toArray) w/\L2 (ScR β) ((c.drop j).take (cV P t)) vs:=by
 obtain⟨p,hp,rfl⟩:=Dv hv
 obtain⟨he,arr,T,fz,hh,hc,_⟩:=fY hs (ce ho) hp
 obtain⟨vs,hl,hr,hcell⟩:=yJ hc hk j (cV P t) hn
 obtain⟨d,hd⟩:=Du ht
 have hinfo:(P.info? t).isSome=true:=by
  unfold Program.underlying at hd
  cases hi:P.info? t with
  |none=>rw [hi] at hd;simp at hd
  |some i=>rfl
 refine⟨vs,?_,hr⟩
 have hld:=run_loadCells_list (P:=P) w ⟨p.blk,p.base+k*p.esz+j,none⟩ vs (fun i u hu=>by
  rw [Addr.add_lit,iG hh,he];exact hcell i u hu)
 rw [hl] at hld
 simp only [Instr.loadAt,Instr.sureAddr,loadVar,K3,K8,K2,gy w hd,ht,if_true,du w hinfo,hld]
theorem lF {P:Program} {β:Be} {s:S} {w:World} (hs:HSim β s.hp w) {o k j:Nat} {ob:AObj} {c:List Sc} {x:Sc} {t:TypeId} {v:Value}
  (ho:s.obj o=some ob) (hk:ob.cs[k]? =some c) (ht:cq P t=false) (hu:dH P t=true) (hx:c[j]? =some x) (hv:ScR β (.pt o k j) v):
  ∃ u,(Instr.loadAt t v).run P w=.ok u w/\ScR β x u:=by
 obtain⟨p,hp,rfl⟩:=Dv hv
 obtain⟨he,arr,T,fz,hh,hc,_⟩:=fY hs (ce ho) hp
 obtain⟨u,hcell,hr⟩:=(hc k c hk).2 j x hx
 obtain⟨d,hd⟩:=yI hu
 refine⟨u,?_,hr⟩
 have hl:w.cell? ⟨p.blk,p.base+k*p.esz+j,none⟩=some u:=by rw [iG hh,he];exact hcell
 simp [Instr.loadAt,Instr.sureAddr,loadVar,gy w hd,ht,hl]
theorem fN {β:Be} {cs:List (List Sc)} {esz:Nat} {arr:Array Value} (hl:∀ c∈cs,c.length=esz) (h:∀ (k j:Nat) (c:List Sc) (s:Sc),cs[k]? =some c->c[j]? =some s->∃ v,arr[k*esz+j]? =some v/\ScR β s v):cp β arr 0 esz cs:=
 fun k c hk=>⟨hl c (Lk hk),fun j s hs=>by rw [Lf];exact h k j c s hk hs⟩
theorem uE {β:Be} {cs:List (List Sc)} {esz B:Nat} {arr:Array Value} (hl:∀ c∈cs,c.length=esz) (h:∀ (k j:Nat) (c:List Sc) (s:Sc),cs[k]? =some c->c[j]? =some s->∃ v,arr[B+k*esz+j]? =some v/\ScR β s v):cp β arr B esz cs:=
 fun k c hk=>⟨hl c (Lk hk),fun j s hs=>h k j c s hk hs⟩
theorem pC {β:Be} {c:List Sc} {vs:List Value} (h:L2 (ScR β) c vs):cp β vs.toArray 0 c.length [c]:=
 fN zP (fun k j c' s hk hs=>by
  have hk0:k=0:=by have:=(KZ.1 hk).1;simpa using this
  subst hk0
  simp only [Lw,Option.some.injEq] at hk
  subst hk
  obtain⟨v,hv,hr⟩:=h.get hs
  exact⟨v,by simpa using hv,hr⟩)
theorem yK (w:World) (o:Obj):World.like w (w.alloc o):=⟨rfl,rfl,rfl⟩
theorem tg (w:World) (o:Obj):∀ k,k < w.heap.size->(w.alloc o).heap[k]? =w.heap[k]? :=fun k hk=>(by first|exact heap_alloc_old w o k hk|exact heap_alloc_old w o hk)
theorem lG {β:Be} {s:S} {w:World} (hs:HSim β s.hp w) {arr:Array Value} {ob:AObj} {av:AV} {v:Value} {x:Result Next} {c:Prop}
  (hx:x=.ok (.value v) (w.alloc (.cells arr ob.ty))) (hc:cp β arr 0 ob.esz ob.cs) (hfl:ob.fl=true->FlatL ob.cs)
  (hv:dZ (β++[some ⟨w.heap.size,0,ob.esz,arr.size⟩]) av v):eL β s ⟨some av,s.hp++[some ob],c⟩ w x:=by
 let p:Pl:=⟨w.heap.size,0,ob.esz,arr.size⟩
 have hle:=Be.le_append β [some p]
 refine⟨β++[some p],w.alloc (.cells arr ob.ty),jk hs.len (yK w _) zP (tg w _) p ob (K5 _),kR hs (tg w _) (K5 _) ?_ hfl,.inl ⟨v,av,hx,rfl,hv⟩⟩
 exact⟨rfl,arr,ob.ty,(0,0),heap_alloc_new w _,hc.mono hle,fun _=>⟨rfl,rfl,Lf _⟩⟩
theorem Dw {β:Be} {s:S} {w:World} (hs:HSim β s.hp w) (esz n:Nat):ScR (β++[some ⟨w.heap.size,0,esz,n⟩]) (.pt s.hp.length 0 0) (.pointer (some ⟨w.heap.size,0,none⟩)):=
 ⟨⟨w.heap.size,0,esz,n⟩,by rw [<-hs.len];simp,zP⟩
theorem Dx {β:Be} {s:S} {w:World} (hs:HSim β s.hp w) (esz n len cap:Nat) (h1:len<=cap) (h2:cap<=maxLen) (h3:cap*esz<=n):
  ScR (β++[some ⟨w.heap.size,0,esz,n⟩]) (.sl s.hp.length 0 len) (.slice (some ⟨w.heap.size,0,none⟩) len cap):=
 ⟨_,cap,rfl,h1,h2,.inr ⟨⟨w.heap.size,0,esz,n⟩,by rw [<-hs.len];simp,zP,by simpa using h3⟩⟩
end
section
open Go.RowKit
section
variable {P:Program} {β:Be} {s:S} {a:Act} {w:World} {o:Oper} {r:OpR} {ty:TypeId}
theorem AS (hs:HSim β s.hp w) (hsl:SlotsR β s.sl a.tmps) (x:Operand) (ho:o.op=.move x\/o.op=.assign x) (h:bc P s ty (.move x)=some r):eL β s r w ((execOp a.eval o).run P w):=by
 simp only [bc] at h
 split at h
 ·rename_i v hv
  simp only [Option.some.injEq] at h
  subst h
  refine aW hs (v:=a.eval x) ?_ (cy hsl hv)
  unfold execOp
  rcases ho with ho|ho<;>rw [ho]<;>rfl
 cases h
theorem FJ (hs:HSim β s.hp w) (hsl:SlotsR β s.sl a.tmps) (c x y:Operand) (ho:o.op=.pick c x y) (h:bc P s ty (.pick c x y)=some r):eL β s r w ((execOp a.eval o).run P w):=by
 simp only [bc] at h
 split at h
 ·rename_i hc
  have hb:a.eval c=.bool true:=cy hsl hc
  split at h
  ·rename_i v hv
   simp only [Option.some.injEq] at h
   subst h
   refine aW hs (v:=a.eval x) ?_ (cy hsl hv)
   unfold execOp
   rw [ho]
   simp [hb,asBool]
  cases h
 ·rename_i hc
  have hb:a.eval c=.bool false:=cy hsl hc
  split at h
  ·rename_i v hv
   simp only [Option.some.injEq] at h
   subst h
   refine aW hs (v:=a.eval y) ?_ (cy hsl hv)
   unfold execOp
   rw [ho]
   simp [hb,asBool]
  cases h
 cases h
theorem Dy (hs:HSim β s.hp w) (e:TypeId) (ho:o.op=.alloc e) (h:bc P s ty (.alloc e)=some r):eL β s r w ((execOp a.eval o).run P w):=by
 simp only [bc] at h
 split at h
 ·rename_i z hz
  simp only [Option.some.injEq] at h
  subst h
  obtain⟨hz,hl,_⟩:=jl hz
  obtain⟨i,v,vs,hi,hzv,hvc,hsc⟩:=gz hz
  have hr:=pA β hsc
  refine lG hs (arr:=vs.toArray) (v:=.pointer (some ⟨w.heap.size,0,none⟩)) ?_ (pC hr) (fun h=>by cases h) (Dw hs _ _)
  unfold execOp
  rw [ho]
  simp [Instr.alloc,zeroValue,typeInfo,hi,hzv,newVar,newRow,hvc]
 cases h
theorem Hw (hs:HSim β s.hp w) (hsl:SlotsR β s.sl a.tmps) (e:TypeId) (x:Operand) (ho:o.op=.box e x) (h:bc P s ty (.box e x)=some r):eL β s r w ((execOp a.eval o).run P w):=by
 simp only [bc] at h
 split at h
 ·rename_i v hv
  split at h
  ·rename_i cs hcs
   simp only [Option.some.injEq] at h
   subst h
   obtain⟨vs,hvs,hr⟩:=dZ.cells hcs (cy hsl hv)
   refine lG hs (arr:=vs.toArray) (v:=.pointer (some ⟨w.heap.size,0,none⟩)) ?_ (pC hr) (fun h=>by cases h) (Dw hs _ _)
   unfold execOp
   rw [ho]
   simp [Instr.box,newVar,newRow,hvs]
  cases h
 cases h
theorem jn (off:Nat):∀ (vs:List Value) (n:Nat) (cells:Array Value),
  ((vs.zipIdx n).foldl (fun cs (x:Value×Nat)=>cs.setIfInBounds (off+x.2) x.1) cells).size=cells.size/\
  ∀ m,off+n+vs.length<=cells.size->((vs.zipIdx n).foldl (fun cs (x:Value×Nat)=>cs.setIfInBounds (off+x.2) x.1) cells)[m]? =if off+n<=m/\m < off+n+vs.length then vs[m - (off+n)]? else cells[m]?
 |[],n,cells=>⟨zP,fun m hm=>by
   simp only [List.zipIdx_nil,List.foldl_nil,List.length_nil,Lq]
   rw [if_neg zO]⟩
 |v::vs,n,cells=>by
  obtain⟨h1,h2⟩:=jn off vs (n+1) (cells.setIfInBounds (off+n) v)
  refine⟨by simpa [LX] using h1,fun m hm=>?_⟩
  simp only [LX,List.foldl_cons]
  rw [h2 m (by simp at hm⊢;omega)]
  by_cases he:m=off+n
  ·subst he
   rw [if_neg zO,if_pos zP]
   simp at hm
   simp [Array.getElem?_setIfInBounds]
   omega
  by_cases hin:off+(n+1)<=m/\m < off+(n+1)+vs.length
  ·rw [if_pos hin,if_pos zS]
   have:m - (off+n)=(m - (off+(n+1)))+1:=zO
   rw [this,List.getElem?_cons_succ]
  rw [if_neg hin,if_neg zS]
  rw [Ln (Ne.symm he)]
theorem iH (off:Nat) (vs:List Value) (cells:Array Value):
  (vs.toArray.zipIdx.foldl (fun cs (x:Value×Nat)=>cs.setIfInBounds (off+x.2) x.1) cells)=((vs.zipIdx 0).foldl (fun cs (x:Value×Nat)=>cs.setIfInBounds (off+x.2) x.1) cells):=by
 simp [<-Array.foldl_toList]
theorem pD (c:List Sc) (j:Nat) (l:List Sc) (h:j+l.length<=c.length) (m:Nat):(h_ c j l)[m]? =if j<=m/\m < j+l.length then l[m - j]? else c[m]? :=by
 unfold h_
 by_cases h1:m < j
 ·rw [K0 zS,Lb h1,if_neg zO]
 rw [K1 zS]
 have hl:(c.take j).length=j:=by simp;omega
 rw [hl]
 by_cases h2:m < j+l.length
 ·rw [K0 zO,if_pos zO]
 rw [K1 zO,if_neg zO,Lg]
 congr 1
 omega
theorem kC (c:List Sc) (j:Nat) (l:List Sc) (h:j+l.length<=c.length):(h_ c j l).length=c.length:=by
 unfold h_
 simp
 omega
theorem AT:∀ (c l:List Sc),l.length<=c.length->over c l=l++c.drop l.length
 |c,[],_=>by cases c<;>simp [over]
 |_::c,b::l,h=>by simp [over,AT c l (by simpa using h)]
 |[],_::_,h=>by simp at h
theorem yL:∀ (c:List Sc) (j:Nat) (l:List Sc),j+l.length<=c.length->Hv c j l=h_ c j l
 |c,0,l,h=>by
  have h1:Hv c 0 l=over c l:=by cases c<;>rfl
  rw [h1,AT c l zO]
  simp [h_]
 |a::c,j+1,l,h=>by
  have:=yL c j l (by simp at h;omega)
  simp only [Hv,this]
  unfold h_
  rw [show j+1+l.length=(j+l.length)+1 from by omega]
  simp
 |[],j+1,l,h=>by simp at h
theorem AU {P:Program} {t:TypeId} {pl:Nat->Option (Nat×Nat)}:∀ {l:List (Nat×List Sc)} {ps:List (Nat×Value)} {c c':List Sc} {arr:Array Value},
  td pl c l=some c'->L2 (ScR β) c arr.toList->
  L2 (fun (x:Nat×List Sc) (y:Nat×Value)=>x.1=y.1/\∃ vs:List Value,y.2.cells=vs.toArray/\L2 (ScR β) x.2 vs) l ps->
  ∃ arr':Array Value,Instr.fill pl arr ps=some arr'/\L2 (ScR β) c' arr'.toList
 |[],[],c,c',arr,h,hc,_=>by
  simp only [td,Option.some.injEq] at h
  subst h
  exact⟨arr,rfl,hc⟩
 |(i,v)::l,(i',u)::ps,c,c',arr,h,hc,hl=>by
  obtain⟨⟨hi,vs,hvs,hr⟩,hl⟩:=hl
  dsimp only at hi hvs hr
  subst hi
  simp only [td] at h
  split at h
  ·cases h
  rename_i off size hpl
  split at h
  ·rename_i hsz0
   simp only [K_] at hsz0
   have hsz:v.length=size/\off+size<=c.length:=⟨lB hsz0.1,j9 hsz0.2⟩
   rw [yL c off v zO] at h
   have hlen:=hc.length
   have hvl:=hr.length
   have hbd:off+vs.length<=arr.size:=by rw [<-hvl];simp at hlen;omega
   obtain⟨h1,h2⟩:=jn off vs 0 arr
   have hnew:L2 (ScR β) (h_ c off v) ((vs.toArray.zipIdx.foldl (fun cs (x:Value×Nat)=>cs.setIfInBounds (off+x.2) x.1) arr)).toList:=by
    rw [iH]
    refine L2.of_get (by rw [kC c off v zO,hlen];simp only [Array.length_toList];exact h1.symm) fun m x y hx hy=>?_
    rw [pD c off v zO] at hx
    rw [Ld,h2 m (by simpa using hbd)] at hy
    simp only [Lq] at hy
    by_cases hin:off<=m/\m < off+v.length
    ·rw [if_pos hin] at hx
     rw [if_pos zO] at hy
     obtain⟨y',hy',hr'⟩:=hr.get hx
     rw [hy] at hy'
     cases hy'
     exact hr'
    rw [if_neg hin] at hx
    rw [if_neg zO] at hy
    obtain⟨y',hy',hr'⟩:=hc.get hx
    rw [Ld,hy] at hy'
    cases hy'
    exact hr'
   obtain⟨arr',hf,hr'⟩:=AU (P:=P) (t:=t) h hnew hl
   refine⟨arr',?_,hr'⟩
   simp only [Instr.fill,hpl]
   rw [if_neg]
   ·rw [hvs];exact hf
   rw [hvs]
   simp
   omega
  cases h
 |[],_::_,_,_,_,_,_,hl=>hl.elim
 |_::_,[],_,_,_,_,_,hl=>hl.elim
end
end
section
open Go.RowKit
section
variable {P:Program} {β:Be} {s:S} {a:Act} {w:World} {o:Oper} {r:OpR} {ty:TypeId}
theorem wk (w:World) (fields:List Field) (hf:∀ x∈fields,cV P x.type≠0):
  (fields.mapM (fun f:Field=>(do pure (f.offset,<-sizeOf f.type):Sem (Nat×Nat)))).run P w=.ok (fields.map fun f=>(f.offset,cV P f.type)) w:=by
 induction fields with
 |nil=>rfl
 |cons f l ih=>
  have h0:=hf f zP
  have hi:(P.info? f.type).isSome=true:=AR zO
  simp only [List.mapM_cons,K3,du w hi,K2,K8,ih (fun x hx=>hf x (by simp [hx])),LN]
theorem Dz (hs:HSim β s.hp w) (hsl:SlotsR β s.sl a.tmps) (t:TypeId) (parts:Array (Nat×Operand)) (ho:o.op=.build t parts) (h:bc P s ty (.build t parts)=some r):eL β s r w ((execOp a.eval o).run P w):=by
 simp only [bc] at h
 split at h
 ·rename_i z hz
  split at h
  ·rename_i l hl
   have hz0:=hz
   unfold bV at hz0
   split at hz0
   ·rename_i hall
    obtain⟨hz,hzl,_⟩:=jl hz0
    split at h
    ·rename_i cs hcs
     simp only [Option.some.injEq] at h
     subst h
     obtain⟨i,v,vs,hi,hzv,hvc,hsc⟩:=gz hz
     have hr:=pA β hsc
     unfold wh at hall
     split at hall
     ·rename_i fs hfs
      have hpl:∀ k,ak P t k=(fs.map fun f=>(f.offset,cV P f.type))[k]? :=by
       intro k
       simp only [ak,hfs,LO]
       cases hk:fs[k]? with
       |none=>rfl
       |some f=>
        have hm:f∈fs.toList:=by
         rw [<-Ld] at hk
         exact Lk hk
        have:=LY.1 hall f hm
        simp only [bne_iff_ne] at this
        simp [this]
      obtain⟨arr,hf,hra⟩:=AU (P:=P) (t:=t) (β:=β) (ps:=parts.toList.map fun (i,x)=>(i,a.eval x)) (arr:=vs.toArray) hcs (by simpa using hr) (uD hsl hl)
      refine aW hs (v:=.agg arr) ?_ ⟨arr.toList,zP,hra⟩
      unfold execOp
      rw [ho]
      have hm:=wk (P:=P) w fs.toList (fun x hx=>by
       have:=LY.1 hall x hx
       simpa using this)
      have hm':(fs.mapM (fun f:Field=>(do pure (f.offset,<-sizeOf f.type):Sem (Nat×Nat)))).run P w=.ok (fs.map fun f=>(f.offset,cV P f.type)) w:=by
       rw [Array.mapM_eq_mapM_toList]
       have e:∀ (m:Sem (List (Nat×Nat))),(List.toArray <$> m)=(do pure (List.toArray (<-m))):=fun m=>rfl
       rw [e,K3,hm]
       rw [K2,K8]
       refine congrArg (fun x=>Result.ok x w) ?_
       apply Array.ext'
       simp
      have hff:Instr.fill (fun x=>(fs.map fun f=>(f.offset,cV P f.type))[x]?) vs.toArray (parts.toList.map fun (i,x)=>(i,a.eval x))=some arr:=by
       have e:(fun x=>(fs.map fun f=>(f.offset,cV P f.type))[x]?)=ak P t:=funext fun k=>(hpl k).symm
       rw [e];exact hf
      have hpt:(parts.map fun (i,x)=>(i,a.eval x)).toList=parts.toList.map fun (i,x)=>(i,a.eval x):=by simp
      simp only [Instr.build,K3,zeroValue,typeInfo,run_program,K2,hi,hzv,K8,run_underlying hfs,hm',hpt]
      rw [hvc,hff]
      rfl
     cases hall
    cases h
   cases hz0
  cases h
 cases h
theorem ti (z:Array Value) (len k j:Nat) (hk:k < len) (hj:j < z.size):((Array.range (len*z.size)).map (z[· % z.size]!))[k*z.size+j]? =z[j]? :=by
 have hlt:k*z.size+j < len*z.size:=by
  have:(k+1)*z.size<=len*z.size:=K6 _ hk
  rw [K9] at this
  omega
 rw [LO,Array.getElem?_range,if_pos hlt]
 simp only [Lt]
 rw [show (k*z.size+j) % z.size=j from by rw [LP,Nat.mul_add_mod,Nat.mod_eq_of_lt hj]]
 simp [hj]
theorem AW {esz:Nat} (hpos:0 < esz) (len:Nat):∀ {l:List (Nat×List Sc)} {ps:List (Nat×Value)} {cs cs':List (List Sc)} {arr:Array Value},
  tf esz cs l=some cs'->cs.length=len->arr.size=len*esz->cp β arr 0 esz cs->
  L2 (fun (x:Nat×List Sc) (y:Nat×Value)=>x.1=y.1/\∃ vs:List Value,y.2.cells=vs.toArray/\L2 (ScR β) x.2 vs) l ps->
  ∃ arr':Array Value,Instr.fill (fun i=>some (i*esz,esz)) arr ps=some arr'/\arr'.size=len*esz/\cs'.length=len/\cp β arr' 0 esz cs'
 |[],[],cs,cs',arr,h,hl,hsz,hc,_=>by
  simp only [tf,Option.some.injEq] at h
  subst h
  exact⟨arr,rfl,hsz,hl,hc⟩
 |(i,v)::l,(i',u)::ps,cs,cs',arr,h,hl,hsz,hc,hps=>by
  obtain⟨⟨hi,vs,hvs,hr⟩,hps⟩:=hps
  dsimp only at hi hvs hr
  subst hi
  simp only [tf] at h
  split at h
  ·rename_i hcond
   simp only [K_] at hcond
   have hvl:=lB hcond.1
   have hil:i < cs.length:=j9 hcond.2
   have hvl':=hr.length
   have hend:i*esz+esz<=len*esz:=by
    have:(i+1)*esz<=len*esz:=K6 _ zO
    rw [K9] at this
    omega
   obtain⟨h1,h2⟩:=jn (i*esz) vs 0 arr
   simp only [Lq] at h2
   have hnew:cp β (vs.toArray.zipIdx.foldl (fun cs (x:Value×Nat)=>cs.setIfInBounds (i*esz+x.2) x.1) arr) 0 esz (cs.set i v):=by
    rw [iH]
    refine fN (fun c hm=>?_) fun k j c x hk hj=>?_
    ·rcases Lu hm with hm|rfl
     ·obtain⟨k,hk⟩:=LM.1 hm
      exact (hc k c hk).1
     exact hvl
    rw [h2 _ zO]
    have hjl:j < c.length:=(KZ.1 hj).1
    rw [La] at hk
    by_cases he:i=k
    ·subst he
     rw [if_pos rfl,if_pos hil] at hk
     simp only [Option.some.injEq] at hk
     subst hk
     rw [if_pos zO]
     obtain⟨y,hy,hry⟩:=hr.get hj
     exact⟨y,by rw [LJ];exact hy,hry⟩
    rw [if_neg he] at hk
    obtain⟨hlc,hcell⟩:=hc k c hk
    obtain⟨y,hy,hry⟩:=hcell j x hj
    refine⟨y,?_,hry⟩
    rw [Lf] at hy
    rw [if_neg]
    ·exact hy
    intro⟨ha,hb⟩
    rcases LQ he with hlt|hgt
    ·have:(i+1)*esz<=k*esz:=K6 _ hlt
     rw [K9] at this
     omega
    have:(k+1)*esz<=i*esz:=K6 _ hgt
    rw [K9] at this
    omega
   obtain⟨arr',hf,hsz',hl',hc'⟩:=AW hpos len h (by simpa using hl) (by rw [iH,h1];exact hsz) hnew hps
   refine⟨arr',?_,hsz',hl',hc'⟩
   simp only [Instr.fill]
   rw [if_neg]
   ·rw [hvs];exact hf
   rw [hvs]
   simp
   omega
  cases h
 |[],_::_,_,_,_,_,_,_,_,hl=>hl.elim
 |_::_,[],_,_,_,_,_,_,_,hl=>hl.elim
theorem sE (hs:HSim β s.hp w) (hsl:SlotsR β s.sl a.tmps) (t:TypeId) (len:Nat) (parts:Array (Nat×Operand)) (ho:o.op=.buildSlice t len parts) (h:bc P s ty (.buildSlice t len parts)=some r):eL β s r w ((execOp a.eval o).run P w):=by
 simp only [bc] at h
 split at h
 ·rename_i e sz he0
  obtain⟨he,hkn,rfl⟩:=fj he0
  split at h
  ·rename_i z hz
   obtain⟨hz,hzl,hpos,hsm,_⟩:=jl hz
   split at h
   ·rename_i l hl
    split at h
    ·rename_i hleb
     have hle256:=Ds hleb
     have hbig:len*cV P e<=16777216:=by
      have:len*cV P e<=256*65536:=L4 hle256 hsm
      omega
     split at h
     ·rename_i cs hcs
      simp only [Option.some.injEq] at h
      subst h
      obtain⟨i,v,vs,hi,hzv,hvc,hsc⟩:=gz hz
      have hr:=pA β hsc
      have hvl:=hr.length
      have hti:=pB hi
      have hlm:len<=len*cV P e:=Nat.le_mul_of_pos_right _ hpos
      have hstart:∃ arr0:Array Value,((do if len*cV P e=0 then pure #[] else do pure (<-zeroValue e).cells):Sem (Array Value)).run P w=.ok arr0 w/\((Array.range (len*cV P e)).map (arr0[· % arr0.size]!)).size=len*cV P e/\
        cp β ((Array.range (len*cV P e)).map (arr0[· % arr0.size]!)) 0 (cV P e) (List.replicate len z):=by
       by_cases h0:len*cV P e=0
       ·refine⟨#[],by simp [h0],zP,?_⟩
        have hl0:len=0:=by
         rcases Nat.mul_eq_zero.1 h0 with h|h
         ·exact h
         omega
        subst hl0
        intro k c hk
        simp at hk
       refine⟨vs.toArray,by simp [h0,zeroValue,typeInfo,hi,hzv,hvc],zP,?_⟩
       refine fN (fun c hm=>by rw [Lv hm];exact hzl) fun k j c x hk hj=>?_
       have hkl:k < len:=by have:=(KZ.1 hk).1;simpa using this
       rw [LB hkl] at hk
       simp only [Option.some.injEq] at hk
       subst hk
       obtain⟨y,hy,hry⟩:=hr.get hj
       have hjl:j < z.length:=(KZ.1 hj).1
       refine⟨y,?_,hry⟩
       have hzs:vs.toArray.size=cV P e:=by simp;omega
       have:=ti vs.toArray len k j hkl zO
       rw [hzs] at this
       rw [hzs,this]
       simpa using hy
      obtain⟨arr0,hrun,hsz0,hc0⟩:=hstart
      obtain⟨arr,hf,hsz,hlen,hc⟩:=AW hpos len (ps:=parts.toList.map fun (i,x)=>(i,a.eval x)) hcs zP hsz0 hc0 (uD hsl hl)
      refine lG hs (arr:=arr) (v:=.slice (some ⟨w.heap.size,0,none⟩) len len) ?_ hc (fun h=>tc h) (Dx hs _ _ len len (K5 _) (by unfold maxLen;omega) (by show len*cV P e<=arr.size;omega))
      unfold execOp
      rw [ho]
      have hpt:(parts.map fun (i,x)=>(i,a.eval x)).toList=parts.toList.map fun (i,x)=>(i,a.eval x):=by simp
      have hb':¬ (2 ^ 24 < len*cV P e):=zO
      simp only [Instr.buildSlice,K3,run_underlying (eK he),K2,du w (by simp [hi]:(P.info? e).isSome=true),hb',if_false,hpt]
      by_cases h0:len*cV P e=0
      ·simp only [h0,if_true,K8,Result.ok.injEq,and_true,K2] at hrun
       subst hrun
       simp only [h0,if_true,K3,K8,K2]
       simp only [h0] at hf
       rw [hf]
       simp [newRow]
      have hzr:(zeroValue e).run P w=.ok v w:=by simp [zeroValue,typeInfo,hi,hzv]
      simp only [h0,if_false,K3,hzr,K2,K8,Result.ok.injEq,and_true] at hrun
      simp only [h0,if_false,K3,K8,K2,hzr]
      rw [hrun,hf]
      simp [newRow]
     cases h
    cases h
   cases h
  cases h
 cases h
theorem BK {t:TypeId} {n:Nat} (h:aO P t=some (some n)):cq P t=true/\n=cV P t:=by
 unfold aO at h
 split at h
 ·split at h
  ·rename_i ha
   simp only [Option.some.injEq] at h
   exact⟨ha,h.symm⟩
  cases h
 cases h
theorem BL {t:TypeId} (h:aO P t=some none):cq P t=false/\dH P t=true:=by
 unfold aO at h
 split at h
 ·rename_i hk
  split at h
  ·cases h
  rename_i ha
  exact⟨by simpa using ha,hk⟩
 cases h
theorem BM {t:TypeId} {n:Nat} (h:fD P t=some n):dH P t=true/\n=cV P t:=by
 unfold fD at h
 split at h
 ·rename_i hk
  simp only [Option.some.injEq] at h
  exact⟨hk,h.symm⟩
 cases h
theorem FK (hs:HSim β s.hp w) (hsl:SlotsR β s.sl a.tmps) (t:TypeId) (x:Operand) (ho:o.op=.load t x) (h:bc P s ty (.load t x)=some r):eL β s r w ((execOp a.eval o).run P w):=by
 simp only [bc] at h
 split at h
 ·rename_i ob k j hx
  have hv:ScR β (.pt ob k j) (a.eval x):=cy hsl hx
  split at h
  ·rename_i obj hob
   split at h
   ·rename_i c hk
    split at h
    ·rename_i n hag0
     obtain⟨hag,rfl⟩:=BK hag0
     split at h
     ·rename_i hn
      simp only [Option.some.injEq] at h
      subst h
      obtain⟨vs,hrun,hr⟩:=lE hs hob hk hag (j9 hn) hv
      refine aW hs (v:=.agg vs.toArray) ?_ ⟨vs,rfl,hr⟩
      unfold execOp
      rw [ho]
      simp [hrun]
     cases h
    ·rename_i hag0
     obtain⟨hag,hkn⟩:=BL hag0
     split at h
     ·rename_i y hy
      simp only [Option.some.injEq] at h
      subst h
      obtain⟨u,hrun,hr⟩:=lF hs hob hk hag hkn hy hv
      refine aW hs (v:=u) ?_ hr
      unfold execOp
      rw [ho]
      simp [hrun]
     cases h
    cases h
   cases h
  cases h
 cases h
theorem yM {h:Hp} (hs:HSim β h w) {n:Nat} {ob:AObj} {p:Pl} (ho:h[n]? =some (some ob)) (hown:ob.own=true) (hp:β[n]? =some (some p))
  {arr arr':Array Value} {T:TypeId} {fz:Nat×Nat} (hh:w.heap[p.blk]? =some (.cells arr T fz)) (hsz:arr'.size=arr.size) {cs':List (List Sc)} {fl':Bool} (hc:cp β arr' p.base ob.esz cs') (hfl:fl'=true->FlatL cs'):
  HSim β (h.set n (some { ob with cs:=cs',fl:=fl' })) (w.setRow p.blk arr')/\StepR β β h (h.set n (some { ob with cs:=cs',fl:=fl' })) w (w.setRow p.blk arr'):=by
 obtain⟨he,arr0,T0,fz0,hh0,hc0,hown0⟩:=fY hs ho hp
 obtain⟨hT,hf0,hav⟩:=hown0 hown
 rw [hh] at hh0
 simp only [Option.some.injEq,Obj.cells.injEq] at hh0
 obtain⟨rfl,rfl,rfl⟩:=hh0
 have hn:n < h.length:=(KZ.1 ho).1
 have key:∀ {o:Nat} {x:AObj},(h.set n (some { ob with cs:=cs',fl:=fl' }))[o]? =some (some x)->(o=n/\x={ ob with cs:=cs',fl:=fl' })\/(o≠n/\h[o]? =some (some x)):=by
  intro o x hx
  rw [La] at hx
  split at hx
  ·rename_i he
   subst he
   simp only [Option.some.injEq] at hx
   exact .inl ⟨rfl,hx.symm⟩
  rename_i he
  exact .inr ⟨Ne.symm he,hx⟩
 refine⟨⟨by simp [hs.len],fun o x hx=>?_,fun o x hx hf=>by rcases key hx with⟨_,rfl⟩|⟨_,hx⟩;exact hfl hf;exact hs.flat o x hx hf,fun o o' x x' q q' hx hx' hxo hq hq' hne=>?_⟩,?_⟩
 ·rcases key hx with⟨rfl,rfl⟩|⟨hne,hx⟩
  ·refine⟨some p,hp,he,arr',T,fz,setRow_heap w p.blk arr arr' T fz hh,hc,fun _=>⟨hT,hf0,by rw [hsz];exact hav⟩⟩
  obtain⟨q,hq,hr⟩:=hs.ob o x hx
  refine⟨q,hq,hr.world fun q' hq'=>?_⟩
  subst hq'
  exact setRow_other w p.blk q'.blk arr' (fun hb=>hs.apart n o ob x p q' ho hx hown hp hq (Ne.symm hne) hb.symm)
 ·rcases key hx with⟨rfl,rfl⟩|⟨h1,h1'⟩
  ·rcases key hx' with⟨rfl,rfl⟩|⟨h2,h2'⟩
   ·exact absurd rfl hne
   exact hs.apart o o' ob x' q q' ho h2' hown hq hq' hne
  rcases key hx' with⟨rfl,rfl⟩|⟨h2,h2'⟩
  ·exact hs.apart o o' x ob q q' h1' ho hxo hq hq' hne
  exact hs.apart o o' x x' q q' h1' h2' hxo hq hq' hne
 refine⟨Be.le.refl _,rfl,rfl,rfl,zP,fun k hk hno=>setRow_other w p.blk k arr' (fun hb=>hno ⟨n,ob,p,ho,hown,hp,hb.symm⟩),zP,fun o x hlt hx=>?_,fun o x q hge hx _=>?_⟩
 ·rcases key hx with⟨rfl,rfl⟩|⟨hne,hx⟩
  ·exact⟨ob,ho,id⟩
  exact⟨x,hx,id⟩
 rw [K4 (by simpa using hge)] at hx
 cases hx
theorem DA (hs:HSim β s.hp w) (hsl:SlotsR β s.sl a.tmps) (t:TypeId) (x y:Operand) (ho:o.op=.store t x y) (h:bc P s ty (.store t x y)=some r):eL β s r w ((execOp a.eval o).run P w):=by
 simp only [bc] at h
 split at h
 ·rename_i n k j hx
  have hv:ScR β (.pt n k j) (a.eval x):=cy hsl hx
  split at h
  ·rename_i ob hob
   split at h
   ·rename_i c hk
    split at h
    ·rename_i v hy
     split at h
     ·rename_i vs hvs
      split at h
      rotate_left
      ·cases h
      rename_i n0 hn0
      obtain⟨hkn,rfl⟩:=BM hn0
      split at h
      ·rename_i hcond
       simp only [K_] at hcond
       obtain⟨⟨hl0,hj0⟩,hown⟩:=hcond
       have hl:=lB hl0
       have hj:j+vs.length<=c.length:=by rw [hl];exact j9 hj0
       simp only [Option.some.injEq] at h
       rw [yL c j vs hj] at h
       subst h
       obtain⟨us,hus,hr⟩:=dZ.cells hvs (cy hsl hy)
       obtain⟨p,hp,hpe⟩:=Dv hv
       obtain⟨he,arr,T,fz,hh,hc,hown'⟩:=fY hs (ce hob) hp
       obtain⟨hT,hf0,hav⟩:=hown' hown
       subst hf0
       have hul:=hr.length
       obtain⟨hcl,hcell⟩:=hc k c hk
       have hbd:p.base+k*ob.esz+j+us.length<=arr.size:=by
        by_cases hz:us.length=0
        ·rw [hz]
         by_cases hc0:c.length=0
         ·by_cases hk0:arr.size < p.base+k*ob.esz+j
          ·have:j=0:=zO
           subst this
           rw [<-hcl,hc0] at hk0
           omega
          omega
         have hg:c[c.length - 1]? =some (c[c.length - 1]' zO):=K7 zO
         obtain⟨y',hy',_⟩:=hcell _ _ hg
         have:=(Lh.1 hy').1
         omega
        have hg:c[j+us.length - 1]? =some (c[j+us.length - 1]' zO):=K7 zO
        obtain⟨y',hy',_⟩:=hcell _ _ hg
        have:=(Lh.1 hy').1
        omega
       let arr':Array Value:=(arr.toList.take (p.base+k*ob.esz+j)++us++arr.toList.drop (p.base+k*ob.esz+j+us.length)).toArray
       have hget:∀ m,arr'[m]? =if p.base+k*ob.esz+j<=m/\m < p.base+k*ob.esz+j+us.length then us[m - (p.base+k*ob.esz+j)]? else arr[m]? :=by
        intro m
        show ((arr.toList.take (p.base+k*ob.esz+j)++us++arr.toList.drop (p.base+k*ob.esz+j+us.length)).toArray)[m]? =_
        rw [Lz,LU]
        by_cases h1:m < p.base+k*ob.esz+j
        ·rw [K0 zS,Lb h1,if_neg zO,Ld]
        have hlen:(arr.toList.take (p.base+k*ob.esz+j)).length=p.base+k*ob.esz+j:=by simp;omega
        rw [K1 zO,hlen]
        by_cases h2:m < p.base+k*ob.esz+j+us.length
        ·rw [K0 zO,if_pos zO]
        rw [K1 zO,if_neg zO,Lg,Ld]
        congr 1
        omega
       have hsz:arr'.size=arr.size:=by
        show ((arr.toList.take (p.base+k*ob.esz+j)++us++arr.toList.drop (p.base+k*ob.esz+j+us.length)).toArray).size=_
        simp
        omega
       have hnew:cp β arr' p.base ob.esz (ob.cs.set k (h_ c j vs)):=by
        refine uE (fun d hm=>?_) fun k' j' d z hk' hj'=>?_
        ·rcases Lu hm with hm|rfl
         ·obtain⟨q,hq⟩:=LM.1 hm
          exact (hc q d hq).1
         rw [kC c j vs hj];exact hcl
        rw [hget]
        rw [La] at hk'
        by_cases hkk:k=k'
        ·subst hkk
         rw [if_pos rfl,if_pos (KZ.1 hk).1] at hk'
         simp only [Option.some.injEq] at hk'
         subst hk'
         rw [pD c j vs hj] at hj'
         by_cases hin:j<=j'/\j' < j+vs.length
         ·rw [if_pos hin] at hj'
          rw [if_pos zO]
          obtain⟨y',hy',hr'⟩:=hr.get hj'
          exact⟨y',by rw [show p.base+k*ob.esz+j' - (p.base+k*ob.esz+j)=j' - j from by omega];exact hy',hr'⟩
         rw [if_neg hin] at hj'
         rw [if_neg zO]
         obtain⟨y',hy',hr'⟩:=hcell j' z hj'
         exact⟨y',hy',hr'⟩
        rw [if_neg hkk] at hk'
        obtain⟨hdl,hdc⟩:=hc k' d hk'
        obtain⟨y',hy',hr'⟩:=hdc j' z hj'
        have hjd:j' < d.length:=(KZ.1 hj').1
        refine⟨y',?_,hr'⟩
        rw [if_neg]
        ·exact hy'
        intro⟨ha,hb⟩
        rcases LQ hkk with hlt|hgt
        ·have:(k+1)*ob.esz<=k'*ob.esz:=K6 _ hlt
         rw [K9] at this
         omega
        have:(k'+1)*ob.esz<=k*ob.esz:=K6 _ hgt
        rw [K9] at this
        omega
       obtain⟨hs',hst⟩:=yM hs (ce hob) hown hp hh hsz hnew (fl':=ob.fl && gw vs) (fun hf=>by
        simp only [K_] at hf
        have h1:=hs.flat n ob (ce hob) hf.1
        intro d hd
        rcases Lu hd with hd|rfl
        ·exact h1 d hd
        have h2:=dD.1 (h1 c (Lk hk))
        unfold h_
        exact iF (dD.2 fun s hs=>h2 s (Lr hs)) (iF hf.2 (dD.2 fun s hs=>h2 s (Ll hs))))
       refine⟨β,_,hst,hs',.inr ⟨?_,rfl⟩⟩
       unfold execOp
       rw [ho]
       have hrun:=run_storeCells_at P p.blk (p.base+k*ob.esz+j) T us 0 arr w hh zO (L2.one hr)
       simp only [Lq] at hrun
       have husz:us.toArray.size=cV P t:=by simp;omega
       have hpe':a.eval x=.pointer (some ⟨p.blk,p.base+k*ob.esz+j,none⟩):=by rw [hpe,he]
       simp only [hpe',Instr.storeAt,Instr.sureAddr,K3,K8,K2,storeVar,du w (jm hkn),husz,ne_eq,not_true,if_false,hus,List.toList_toArray,hrun]
       rfl
      cases h
     cases h
    cases h
   cases h
  cases h
 cases h
end
end
section
open Go.RowKit
section
variable {P:Program} {β:Be} {s:S} {a:Act} {w:World} {o:Oper} {r:OpR} {ty:TypeId}
theorem wl (hs:HSim β s.hp w) (hsl:SlotsR β s.sl a.tmps) (x:Operand) (ho:o.op=.nilCheck x) (h:bc P s ty (.nilCheck x)=some r):eL β s r w ((execOp a.eval o).run P w):=by
 simp only [bc] at h
 split at h
 ·rename_i n k j hx
  have hv:ScR β (.pt n k j) (a.eval x):=cy hsl hx
  simp only [Option.some.injEq] at h
  subst h
  refine aW hs (v:=a.eval x) ?_ hv
  obtain⟨p,hp,hpe⟩:=hv
  unfold execOp
  rw [ho]
  simp [hpe]
 ·rename_i f caps hx
  have hv:dZ β (.cl f caps) (a.eval x):=cy hsl hx
  simp only [Option.some.injEq] at h
  subst h
  refine aW hs (v:=a.eval x) ?_ hv
  obtain⟨vs,hpe,_⟩:=hv
  unfold execOp
  rw [ho]
  simp [hpe]
 cases h
theorem FL {op:BinOp} {k k':IntKind} {x y:Int} {t:TypeId} {q:Sc} {c:Prop} (h:gR P t op (.int k x) (.int k' y)=some (q,c)) (hc:c) (X Y:Operand):
  ∃ v,(do eqGuard op t X Y (.int k x) (.int k' y);binOp op t (.int k x) (.int k' y)).run P w=.ok v w/\ScR β q v:=by
 have hg:∀ (m:Sem Value),(do eqGuard op t X Y (.int k x) (.int k' y);m).run P w=m.run P w:=by
  intro m
  cases op<;>simp [eqGuard]
 rw [hg]
 cases op with
 |shl=>
  simp only [gR,Option.some.injEq,Prod.mk.injEq] at h
  obtain⟨rfl,rfl⟩:=h
  exact⟨_,by simp [binOp,Op.shift,Int.not_lt.2 hc],rfl⟩
 |shr=>
  simp only [gR,Option.some.injEq,Prod.mk.injEq] at h
  obtain⟨rfl,rfl⟩:=h
  exact⟨_,by simp [binOp,Op.shift,Int.not_lt.2 hc],rfl⟩
 |andNot=>
  simp only [gR,wj] at h
  split at h<;>cases h
 |quo=>
  simp only [gR,wj] at h
  split at h
  ·rename_i hk
   subst hk
   simp only [Option.some.injEq,Prod.mk.injEq] at h
   obtain⟨rfl,rfl⟩:=h
   exact⟨_,by simp [binOp,Op.intDiv,hc],rfl⟩
  cases h
 |rem=>
  simp only [gR,wj] at h
  split at h
  ·rename_i hk
   subst hk
   simp only [Option.some.injEq,Prod.mk.injEq] at h
   obtain⟨rfl,rfl⟩:=h
   exact⟨_,by simp [binOp,Op.intDiv,hc],rfl⟩
  cases h
 |_=>
  simp only [gR,wj] at h
  split at h
  ·rename_i hk
   subst hk
   simp only [Option.some.injEq,Prod.mk.injEq] at h
   obtain⟨rfl,rfl⟩:=h
   exact⟨_,by simp [binOp,Op.intArith,Op.intBits,Op.intCmp];try rfl,rfl⟩
  cases h
theorem FM (x y:List UInt8):(ByteArray.mk x.toArray)++(ByteArray.mk y.toArray)=ByteArray.mk (x++y).toArray:=by
 apply ByteArray.ext
 simp
theorem FN {op:BinOp} {x y:List UInt8} {t:TypeId} {q:Sc} {c:Prop} (h:gR P t op (.st x) (.st y)=some (q,c)) (hc:c) (X Y:Operand):
  ∃ v,(do eqGuard op t X Y (.string ⟨x.toArray⟩) (.string ⟨y.toArray⟩);binOp op t (.string ⟨x.toArray⟩) (.string ⟨y.toArray⟩)).run P w=.ok v w/\ScR β q v:=by
 have hg:∀ (m:Sem Value),(do eqGuard op t X Y (.string ⟨x.toArray⟩) (.string ⟨y.toArray⟩);m).run P w=m.run P w:=by
  intro m
  cases op<;>simp [eqGuard]
 rw [hg]
 cases op with
 |add=>
  simp only [gR,Option.some.injEq,Prod.mk.injEq] at h
  obtain⟨rfl,rfl⟩:=h
  refine⟨.string ⟨(x++y).toArray⟩,?_,rfl⟩
  rw [binOp_string_add,run_string_add_sum w _ _ (by simp [ByteArray.size];omega),FM]
 |eql=>
  simp only [gR,Option.some.injEq,Prod.mk.injEq] at h
  obtain⟨rfl,rfl⟩:=h
  exact⟨_,by simp [binOp,Op.stringOp],rfl⟩
 |neq=>
  simp only [gR,Option.some.injEq,Prod.mk.injEq] at h
  obtain⟨rfl,rfl⟩:=h
  exact⟨_,by simp [binOp,Op.stringOp],rfl⟩
 |_=>simp only [gR] at h;cases h
theorem sF {t:TypeId} (ht:pz P t=true) (d:Nat) (x y:Bool):(Op.equalIn (d+1) t (.bool x) (.bool y)).run P w=.ok (x == y) w:=by
 simp only [Op.equalIn,K3,run_underlying (BJ ht),K2,K8]
theorem nP {t:TypeId} (ht:pz P t=true) (x y:Bool):(Op.equal t (.bool x) (.bool y)).run P w=.ok (x == y) w:=by
 exact sF ht 9999 x y
theorem FO {op:BinOp} {x y:Bool} {t:TypeId} {q:Sc} {c:Prop} (h:gR P t op (.bo x) (.bo y)=some (q,c)) (X Y:Operand):
  ∃ v,(do eqGuard op t X Y (.bool x) (.bool y);binOp op t (.bool x) (.bool y)).run P w=.ok v w/\ScR β q v:=by
 have hg:∀ (m:Sem Value),(do eqGuard op t X Y (.bool x) (.bool y);m).run P w=m.run P w:=by
  intro m
  cases op<;>simp [eqGuard]
 rw [hg]
 cases op with
 |eql=>
  simp only [gR] at h
  split at h
  ·rename_i ht
   simp only [Option.some.injEq,Prod.mk.injEq] at h
   obtain⟨rfl,rfl⟩:=h
   exact⟨_,by simp only [binOp,K3,nP ht,K2,K8],rfl⟩
  cases h
 |neq=>
  simp only [gR] at h
  split at h
  ·rename_i ht
   simp only [Option.some.injEq,Prod.mk.injEq] at h
   obtain⟨rfl,rfl⟩:=h
   exact⟨_,by simp only [binOp,K3,nP ht,K2,K8],rfl⟩
  cases h
 |_=>simp only [gR] at h;cases h
theorem Hx (hs:HSim β s.hp w) (hsl:SlotsR β s.sl a.tmps) (op:BinOp) (t u:TypeId) (x y:Operand) (ho:o.op=.binOp op t x y u) (h:bc P s ty (.binOp op t x y u)=some r) (hc:r.c):eL β s r w ((execOp a.eval o).run P w):=by
 simp only [bc] at h
 split at h
 ·rename_i p q hx hy
  have hvx:ScR β p (a.eval x):=cy hsl hx
  have hvy:ScR β q (a.eval y):=cy hsl hy
  split at h
  ·rename_i res c hb
   simp only [Option.some.injEq] at h
   subst h
   have hc':c:=hc
   have key:∃ v,(do eqGuard op t x y (a.eval x) (a.eval y);binOp op t (a.eval x) (a.eval y)).run P w=.ok v w/\ScR β res v:=by
    cases p with
    |int k n=>cases q with
     |int k' m=>
      have e1:a.eval x=.int k n:=hvx
      have e2:a.eval y=.int k' m:=hvy
      rw [e1,e2];exact FL hb hc' x y
     |_=>simp only [gR] at hb;cases hb
    |st l=>cases q with
     |st m=>
      have e1:a.eval x=.string ⟨l.toArray⟩:=hvx
      have e2:a.eval y=.string ⟨m.toArray⟩:=hvy
      rw [e1,e2];exact FN hb hc' x y
     |_=>simp only [gR] at hb;cases hb
    |bo l=>cases q with
     |bo m=>
      have e1:a.eval x=.bool l:=hvx
      have e2:a.eval y=.bool m:=hvy
      rw [e1,e2];exact FO hb x y
     |_=>simp only [gR] at hb;cases hb
    |_=>simp only [gR] at hb;cases hb
   obtain⟨v,hrun,hr⟩:=key
   refine cF hs (v:=v) ?_ hr
   unfold execOp
   rw [ho]
   simp only [K3] at hrun⊢
   rw [hrun]
   rfl
  cases h
 ·rename_i p q hx hy
  obtain⟨vs,hpe,hl⟩:dZ β (.ag p) (a.eval x):=cy hsl hx
  obtain⟨us,hqe,hm⟩:dZ β (.ag q) (a.eval y):=cy hsl hy
  split at h
  ·simp only [Option.some.injEq] at h
   subst h
   obtain⟨h1,_⟩:=(show Dt P t p q (bT p q) from hc) β w x y vs us hl hm
   refine cF hs (v:=.bool (bT p q)) ?_ rfl
   unfold execOp
   rw [ho]
   simp only [K3] at h1⊢
   rw [hpe,hqe,h1]
   rfl
  ·simp only [Option.some.injEq] at h
   subst h
   obtain⟨_,h1⟩:=(show Dt P t p q (bT p q) from hc) β w x y vs us hl hm
   refine cF hs (v:=.bool (!bT p q)) ?_ rfl
   unfold execOp
   rw [ho]
   simp only [K3] at h1⊢
   rw [hpe,hqe,h1]
   rfl
  cases h
 cases h
theorem IE (hs:HSim β s.hp w) (hsl:SlotsR β s.sl a.tmps) (op:UnOp) (t:TypeId) (x:Operand) (ho:o.op=.unOp op t x) (h:bc P s ty (.unOp op t x)=some r):eL β s r w ((execOp a.eval o).run P w):=by
 simp only [bc] at h
 split at h
 ·rename_i b hx
  have hv:a.eval x=.bool b:=cy hsl hx
  split at h
  ·simp only [Option.some.injEq] at h
   subst h
   refine aW hs (v:=.bool (!b)) ?_ rfl
   unfold execOp
   rw [ho]
   simp [hv,Op.unary]
  cases h
 ·rename_i k n hx
  have hv:a.eval x=.int k n:=cy hsl hx
  split at h
  ·simp only [Option.some.injEq] at h
   subst h
   refine aW hs (v:=.int k (k.wrap (0 - n))) ?_ rfl
   unfold execOp
   rw [ho]
   simp [hv,Op.unary,Op.intArith]
  cases h
 cases h
theorem uF (hs:HSim β s.hp w) (hsl:SlotsR β s.sl a.tmps) (t:TypeId) (x:Operand) (f:Nat) (ho:o.op=.fieldAddr t x f) (h:bc P s ty (.fieldAddr t x f)=some r):eL β s r w ((execOp a.eval o).run P w):=by
 simp only [bc] at h
 split at h
 ·rename_i n k j off sz hx hf
  obtain⟨p,hp,hpe⟩:ScR β (.pt n k j) (a.eval x):=cy hsl hx
  simp only [Option.some.injEq] at h
  subst h
  unfold ak at hf
  split at hf
  ·rename_i fs hfs
   split at hf
   ·rename_i g hg
    split at hf
    ·cases hf
    rename_i hz
    simp only [Option.some.injEq,Prod.mk.injEq] at hf
    obtain⟨rfl,rfl⟩:=hf
    refine aW hs (v:=.pointer (some ⟨p.blk,p.base+k*p.esz+(j+g.offset),none⟩)) ?_ ⟨p,hp,rfl⟩
    unfold execOp
    rw [ho]
    have hi:(P.info? g.type).isSome=true:=AR zO
    simp [hpe,Instr.fieldAt,run_underlying hfs,hg,Instr.sureAddr,fieldPlace,du w hi,hz,Addr.add_lit,Lo]
   cases hf
  cases hf
 cases h
theorem DB (hs:HSim β s.hp w) (hsl:SlotsR β s.sl a.tmps) (t:TypeId) (x:Operand) (f:Nat) (ho:o.op=.field t x f) (h:bc P s ty (.field t x f)=some r):eL β s r w ((execOp a.eval o).run P w):=by
 simp only [bc] at h
 split at h
 ·rename_i cs off hx hf
  obtain⟨vs,hve,hl⟩:dZ β (.ag cs) (a.eval x):=cy hsl hx
  split at h
  ·rename_i c hc
   simp only [Option.some.injEq] at h
   subst h
   obtain⟨v,hv,hr⟩:=hl.get hc
   unfold KT at hf
   split at hf
   ·rename_i fs hfs
    split at hf
    ·rename_i g hg
     split at hf
     ·rename_i hk
      simp only [Option.some.injEq] at hf
      subst hf
      simp only [K_,LS,dH] at hk
      obtain⟨⟨h1,_⟩,h2⟩:=hk
      obtain⟨d,hd⟩:=Lm.1 h1
      refine aW hs (v:=v) ?_ hr
      unfold execOp
      rw [ho]
      simp [hve,Instr.field,run_underlying hfs,hg,part,asAgg,gy w hd,h2,hv]
     cases hf
    cases hf
   cases hf
  cases h
 cases h
theorem uG (hs:HSim β s.hp w) (hsl:SlotsR β s.sl a.tmps) (t:TypeId) (x i:Operand) (ho:o.op=.indexAddr t x i) (h:bc P s ty (.indexAddr t x i)=some r) (hc:r.c):eL β s r w ((execOp a.eval o).run P w):=by
 simp only [bc] at h
 split at h
 ·rename_i n off len k m e sz hx hi ht0
  obtain⟨ht,hkn,rfl⟩:=fj ht0
  have hvx:ScR β (.sl n off len) (a.eval x):=cy hsl hx
  have hvi:a.eval i=.int k m:=cy hsl hi
  split at h
  ·rename_i ob hob
   split at h
   ·rename_i hesz
    simp only [Option.some.injEq] at h
    subst h
    obtain⟨h0,h1⟩:0<=m/\m < len:=hc
    obtain⟨ad,cap,hxe,hlc,hcm,hor⟩:=hvx
    rcases hor with rfl|⟨p,hp,rfl,hav⟩
    ·omega
    obtain⟨he,_⟩:=fY hs (ce hob) hp
    refine cF hs (v:=.pointer (some ⟨p.blk,p.base+(off+m.toNat)*p.esz+0,none⟩)) ?_ ⟨p,hp,rfl⟩
    unfold execOp
    rw [ho]
    have hes:p.base+(off+m.toNat)*p.esz=p.base+off*p.esz+m.toNat*cV P e:=by rw [<-hesz,<-he,K9,Lo]
    simp [hxe,hvi,Instr.indexAt,asIntOf,run_underlying (eK ht),h0,h1,du w (jm hkn),Addr.add_lit,hes]
   cases h
  cases h
 cases h
theorem DC (hs:HSim β s.hp w) (hsl:SlotsR β s.sl a.tmps) (t:TypeId) (x i:Operand) (ho:o.op=.index t x i) (h:bc P s ty (.index t x i)=some r) (hc:r.c):eL β s r w ((execOp a.eval o).run P w):=by
 simp only [bc] at h
 split at h
 ·rename_i l k m hx hi
  have hvx:a.eval x=.string ⟨l.toArray⟩:=cy hsl hx
  have hvi:a.eval i=.int k m:=cy hsl hi
  split at h
  ·rename_i ht
   simp only [Option.some.injEq] at h
   subst h
   obtain⟨h0,h1⟩:0<=m/\m < l.length:=hc
   have hlt:m.toNat < l.length:=zO
   refine cF hs (v:=.int .u8 (l.getD m.toNat 0).toNat) ?_ rfl
   unfold execOp
   rw [ho]
   have hg:(ByteArray.mk l.toArray)[m.toNat]? =some (l[m.toNat]'hlt):=by
    rw [getElem?_pos (ByteArray.mk l.toArray) m.toNat (by simpa [ByteArray.size] using hlt)]
    simp [ByteArray.getElem_eq_getElem_data]
   simp [hvx,hvi,Instr.index,asIntOf,run_underlying (lD ht),h0,hg,Lc,K7 hlt]
  cases h
 cases h
theorem yN (hs:HSim β s.hp w) (hsl:SlotsR β s.sl a.tmps) (x:Operand) (i:Nat) (ho:o.op=.extract x i) (h:bc P s ty (.extract x i)=some r):eL β s r w ((execOp a.eval o).run P w):=by
 simp only [bc] at h
 split at h
 ·rename_i l hx
  obtain⟨vs,hpe,hl⟩:dZ β (.tu l) (a.eval x):=cy hsl hx
  split at h
  ·rename_i c hc
   simp only [Option.some.injEq] at h
   subst h
   obtain⟨v,hv,hr⟩:=hl.get hc
   refine aW hs (v:=v) ?_ (Co.av_R hr)
   unfold execOp
   rw [ho]
   simp [hpe,Instr.extract,hv]
  cases h
 cases h
theorem wm (hs:HSim β s.hp w) (hsl:SlotsR β s.sl a.tmps) (f:FuncId) (first caps:Array Operand) (ho:o.op=.makeFunc (.func f) first caps) (h:bc P s ty (.makeFunc (.func f) first caps)=some r):eL β s r w ((execOp a.eval o).run P w):=by
 simp only [bc] at h
 split at h
 ·rename_i hf
  have hf':first= #[]:=Lp hf
  subst hf'
  split at h
  ·rename_i l hl
   simp only [Option.some.injEq] at h
   subst h
   refine aW hs (v:=.func (.func f) #[] (caps.toList.map a.eval).toArray) ?_ ⟨_,rfl,AP hsl hl⟩
   unfold execOp
   rw [ho]
   have e:caps.map a.eval=(caps.toList.map a.eval).toArray:=by apply Array.ext';simp
   simp [Instr.makeFunc,e]
  cases h
 cases h
theorem gT {α:Type} {l:Array α} {x y:α} (h:l.toList=[x,y]):l= #[x,y]:=by apply Array.ext';simpa using h
theorem nQ {α:Type} {l:Array α} {x:α} (h:l.toList=[x]):l= #[x]:=by apply Array.ext';simpa using h
theorem Hy (hs:HSim β s.hp w) (hsl:SlotsR β s.sl a.tmps) (args:Array Operand) (at_:Array TypeId) (ho:o.op=.call ⟨.builtin .len,args,at_⟩) (h:bc P s ty (.call ⟨.builtin .len,args,at_⟩)=some r):eL β s r w ((execOp a.eval o).run P w):=by
 simp only [bc] at h
 split at h
 ·rename_i x t ha ht
  have ha':=nQ ha
  have ht':=nQ ht
  subst ha';subst ht'
  split at h
  ·rename_i l hx
   have hv:a.eval x=.string ⟨l.toArray⟩:=cy hsl hx
   split at h
   ·rename_i hs'
    simp only [Option.some.injEq] at h
    subst h
    refine aW hs (v:=.int .i64 l.length) ?_ rfl
    unfold execOp
    rw [ho]
    have hz:(ByteArray.mk l.toArray).size=l.length:=rfl
    simp only [resolve,invoke,builtin,Builtin.len_,hv,run_underlying (lD hs'),goInt,hz,K3,K8,K2,LZ,LN,L6,Lz,Lw]
   cases h
  ·rename_i n off len hx
   obtain⟨ad,cap,hxe,_⟩:ScR β (.sl n off len) (a.eval x):=cy hsl hx
   split at h
   ·rename_i q hs'
    simp only [Option.some.injEq] at h
    subst h
    obtain⟨e,qn⟩:=q
    obtain⟨he,_⟩:=fj hs'
    refine aW hs (v:=.int .i64 len) ?_ rfl
    unfold execOp
    rw [ho]
    simp [resolve,invoke,builtin,Builtin.len_,hxe,run_underlying (eK he),goInt]
   cases h
  ·rename_i hx
   obtain⟨ad,hxe⟩:ScR β .nil (a.eval x):=cy hsl hx
   split at h
   ·rename_i q hs'
    simp only [Option.some.injEq] at h
    subst h
    obtain⟨e,qn⟩:=q
    obtain⟨he,_⟩:=fj hs'
    refine aW hs (v:=.int .i64 0) ?_ rfl
    unfold execOp
    rw [ho]
    simp [resolve,invoke,builtin,Builtin.len_,hxe,run_underlying (eK he),goInt]
   cases h
  cases h
 cases h
theorem Hz (hs:HSim β s.hp w) (hsl:SlotsR β s.sl a.tmps) (args:Array Operand) (at_:Array TypeId) (ho:o.op=.call ⟨.builtin .min,args,at_⟩) (h:bc P s ty (.call ⟨.builtin .min,args,at_⟩)=some r):eL β s r w ((execOp a.eval o).run P w):=by
 simp only [bc] at h
 split at h
 ·rename_i x y ha
  have ha':=gT ha
  subst ha'
  split at h
  ·rename_i k m k' n hx hy
   have hvx:a.eval x=.int k m:=cy hsl hx
   have hvy:a.eval y=.int k' n:=cy hsl hy
   simp only [Option.some.injEq] at h
   subst h
   refine aW hs (v:=.int k (if n < m then n else m)) ?_ rfl
   unfold execOp
   rw [ho]
   simp [resolve,invoke,builtin,Builtin.min_,Builtin.min2,hvx,hvy]
  cases h
 cases h
theorem HC (hs:HSim β s.hp w) (hsl:SlotsR β s.sl a.tmps) (args:Array Operand) (at_:Array TypeId) (ho:o.op=.call ⟨.builtin .max,args,at_⟩) (h:bc P s ty (.call ⟨.builtin .max,args,at_⟩)=some r):eL β s r w ((execOp a.eval o).run P w):=by
 simp only [bc] at h
 split at h
 ·rename_i x y ha
  have ha':=gT ha
  subst ha'
  split at h
  ·rename_i k m k' n hx hy
   have hvx:a.eval x=.int k m:=cy hsl hx
   have hvy:a.eval y=.int k' n:=cy hsl hy
   simp only [Option.some.injEq] at h
   subst h
   refine aW hs (v:=.int k (if m < n then n else m)) ?_ rfl
   unfold execOp
   rw [ho]
   simp [resolve,invoke,builtin,Builtin.max_,Builtin.max2,hvx,hvy]
  cases h
 cases h
end
end
section
open Go.RowKit
section
variable {P:Program} {β:Be} {s:S} {a:Act} {w:World} {o:Oper} {r:OpR} {ty:TypeId}
theorem dl (src dst:TypeId) (x:Operand) (ho:o.op=.convert src dst x) {v:Value} {w':World} (h:(convert src dst (a.eval x)).run P w=.ok v w'):(execOp a.eval o).run P w=.ok (.value v) w':=by
 unfold execOp
 rw [ho]
 simp only [K3,h,K2]
 rfl
theorem nR {arr:Array Value} {base esz:Nat} {cs:List (List Sc)} (hc:cp β arr base esz cs) {off len:Nat} (hb:off+len<=cs.length) {k j:Nat} (hk:k < len) (hj:j < esz):
  ∃ c x v,cs[off+k]? =some c/\c[j]? =some x/\arr[base+(off+k)*esz+j]? =some v/\ScR β x v:=by
 have h1:cs[off+k]? =some (cs[off+k]' zO):=K7 zO
 obtain⟨hl,hcell⟩:=hc _ _ h1
 have h2:(cs[off+k]' zO)[j]? =some ((cs[off+k]' zO)[j]' zO):=K7 zO
 obtain⟨v,hv,hr⟩:=hcell j _ h2
 exact⟨_,_,v,h1,h2,hv,hr⟩
theorem FP {c:List Sc} {x:Sc} (hb:kS c=true) (hx:c[0]? =some x):∃ n,c=[.int .u8 n]/\x=.int .u8 n:=by
 unfold kS at hb
 split at hb
 ·rename_i n
  simp at hx
  exact⟨n,rfl,hx.symm⟩
 cases hb
theorem FQ {src dst:TypeId} {k:IntKind} (h:AO P src dst=some (.int k)):(∃ d,P.underlying src=some d)/\P.underlying dst=some (.int k):=by
 unfold AO at h
 split at h
 ·rename_i h1 h2
  simp only [Option.some.injEq,Cv.int.injEq] at h
  subst h
  exact⟨⟨_,h1⟩,h2⟩
 ·cases h
 ·split at h<;>cases h
 ·split at h<;>cases h
 cases h
theorem FR {src dst:TypeId} (h:AO P src dst=some .str):P.underlying src=some .string/\P.underlying dst=some .string:=by
 unfold AO at h
 split at h
 ·cases h
 ·rename_i h1 h2;exact⟨h1,h2⟩
 ·split at h<;>cases h
 ·split at h<;>cases h
 cases h
theorem FS {src dst e:TypeId} (h:AO P src dst=some (.s2b e)):P.underlying src=some .string/\P.underlying dst=some (.slice e)/\P.underlying e=some (.int .u8):=by
 unfold AO at h
 split at h
 ·cases h
 ·cases h
 ·rename_i h1 h2
  split at h
  ·rename_i h3
   simp only [Option.some.injEq,Cv.s2b.injEq] at h
   subst h
   exact⟨h1,h2,AQ h3⟩
  cases h
 ·split at h<;>cases h
 cases h
theorem AX {src dst:TypeId} (h:AO P src dst=some .b2s):∃ e,P.underlying src=some (.slice e)/\P.underlying dst=some .string/\P.underlying e=some (.int .u8):=by
 unfold AO at h
 split at h
 ·cases h
 ·cases h
 ·split at h<;>cases h
 ·rename_i e h1 h2
  split at h
  ·rename_i h3
   exact⟨e,h1,h2,AQ h3⟩
  cases h
 cases h
theorem yO (hs:HSim β s.hp w) (hsl:SlotsR β s.sl a.tmps) (src dst:TypeId) (x:Operand) (ho:o.op=.convert src dst x) (h:bc P s ty (.convert src dst x)=some r) (hc:r.c):eL β s r w ((execOp a.eval o).run P w):=by
 simp only [bc] at h
 split at h
 ·rename_i k' k n hcv hx
  have hv:a.eval x=.int k n:=cy hsl hx
  obtain⟨⟨d,hd⟩,hk'⟩:=FQ hcv
  simp only [Option.some.injEq] at h
  subst h
  refine aW hs (v:=.int k' (k'.wrap n)) (dl src dst x ho ?_) rfl
  rw [hv]
  simp [convert,run_underlying hd,run_underlying hk',Conv.intToInt]
 ·rename_i l hcv hx
  have hv:a.eval x=.string ⟨l.toArray⟩:=cy hsl hx
  obtain⟨hd,hdst⟩:=FR hcv
  simp only [Option.some.injEq] at h
  subst h
  refine aW hs (v:=.string ⟨l.toArray⟩) (dl src dst x ho ?_) rfl
  rw [hv]
  simp [convert,run_underlying hd,run_underlying hdst]
 ·rename_i e l hcv hx
  have hv:a.eval x=.string ⟨l.toArray⟩:=cy hsl hx
  obtain⟨hd,hdst,hu8⟩:=FS hcv
  simp only [Option.some.injEq] at h
  subst h
  have hlen:l.length<=1073741824:=hc
  have hz:(ByteArray.mk l.toArray).size=l.length:=rfl
  have hrun:=Lib.run_convert_string_bytes (P:=P) w src dst e ⟨l.toArray⟩ hd hdst hu8
  have hge:=grownCap_ge w l.length 0 e
  have hle:=grownCap_le_maxLen w l.length 0 e (by unfold maxLen;omega)
  have hcells:(Lib.bytesCells w e ⟨l.toArray⟩).size=grownCap w l.length 0 e:=by
   simp only [Lib.bytesCells,hz,LW,Array.size_map,Array.size_replicate]
   have:(ByteArray.mk l.toArray).data.size=l.length:=rfl
   rw [this]
   omega
  let p:Pl:=⟨w.heap.size,0,1,grownCap w l.length 0 e⟩
  have hlike:World.like w (Lib.bytesWorld w e ⟨l.toArray⟩):=⟨rfl,rfl,rfl⟩
  refine⟨β++[some p],Lib.bytesWorld w e ⟨l.toArray⟩,jk hs.len hlike (by rw [Lib.bytesWorld_size];omega) (fun k hk=>Lib.bytesWorld_at_old w e _ k hk) p _ (K5 _),
   kR hs (fun k hk=>Lib.bytesWorld_at_old w e _ k hk) (K5 _) ?_ (fun _ c hm=>by
    simp only [LR] at hm
    obtain⟨b,_,rfl⟩:=hm
    rfl),.inl ⟨.slice (some ⟨w.heap.size,0,none⟩) l.length (grownCap w l.length 0 e),_,dl src dst x ho (by rw [hv];exact hrun),rfl,?_⟩⟩
  ·refine⟨rfl,_,_,_,Lib.bytesWorld_at_new w e _,?_,fun hown=>by cases hown⟩
   refine fN (fun c hm=>?_) fun k j c y hk hj=>?_
   ·simp only [LR] at hm
    obtain⟨b,_,rfl⟩:=hm
    rfl
   simp only [Lj,Ly] at hk
   obtain⟨b,hb,rfl⟩:=hk
   have hj0:j=0:=by have:=(KZ.1 hj).1;simpa [yH] using this
   subst hj0
   simp only [yH,Lw,Option.some.injEq] at hj
   subst hj
   have hkl:k < l.length:=(KZ.1 hb).1
   refine⟨.int .u8 b.toNat,?_,rfl⟩
   simp only [Nat.mul_one,Lq,Lib.bytesCells]
   rw [LF (by simpa using hkl)]
   simp [hb]
  exact⟨_,_,rfl,hge,hle,.inr ⟨p,by rw [<-hs.len];simp,by simp [p],by simp [p]⟩⟩
 ·rename_i n off len hcv hx
  have hvx:ScR β (.sl n off len) (a.eval x):=cy hsl hx
  obtain⟨e,hsrc,hdst,hu8⟩:=AX hcv
  split at h
  ·rename_i ob hob
   split at h
   ·rename_i hesz
    simp only [Option.some.injEq] at h
    subst h
    obtain⟨hb,hall⟩:off+len<=ob.cs.length/\∀ c∈ob.cs,kS c=true:=hc
    obtain⟨ad,cap,hxe,hlc,hcm,hor⟩:=hvx
    rcases hor with hcap|⟨p,hp,rfl,hav⟩
    ·have hl0:len=0:=zO
     subst hl0
     refine cF hs (v:=.string ⟨#[]⟩) (dl src dst x ho ?_) ?_
     ·rw [hxe]
      cases ad with
      |none=>exact run_convert_bytes_nil w src e hsrc hu8 0 cap dst hdst
      |some b=>
       rw [run_convert_bytes_string w src dst e _ 0 cap hsrc hu8 hdst,run_bytesToString w b 0 cap [] (by simp [loadCells,loadCellsFrom])]
       rfl
     show Value.string _=_
     simp
    obtain⟨he',arr,T,fz,hh,hcr,_⟩:=fY hs (ce hob) hp
    rw [hesz] at hcr
    let num:List Sc->Int:=fun c=>match c with|[.int .u8 q]=>q|_=>0
    have hw:=run_convert_bytes_arg (P:=P) w src e hsrc hu8 p.blk (p.base+off*p.esz) len cap (((ob.cs.drop off).take len).map num) zS (fun i hi=>by
     obtain⟨c,y,v,h1,h2,h3,h4⟩:=nR hcr hb hi (j:=0) zO
     obtain⟨q,rfl,rfl⟩:=FP (hall c (Lk h1)) h2
     rw [iG hh,he',hesz]
     have h5:(((ob.cs.drop off).take len).map num).getD i 0=q:=by
      rw [Lc,Lj,Lb hi,Lg,h1]
      rfl
     rw [h5]
     rw [show p.base+off*1+i=p.base+(off+i)*1+0 from by omega,h3,h4]) dst hdst
    refine cF hs (v:=.string (strOfNums (((ob.cs.drop off).take len).map num))) (dl src dst x ho (by rw [hxe];exact hw)) ?_
    show Value.string _=_
    congr 1
    unfold strOfNums
    congr 2
    rw [List.map_map]
    refine List.map_congr_left fun c hm=>?_
    have hb':=hall c (Ll (Lr hm))
    unfold kS at hb'
    split at hb'
    ·rfl
    cases hb'
   cases h
  cases h
 ·rename_i hcv hx
  obtain⟨ad,hxe⟩:ScR β .nil (a.eval x):=cy hsl hx
  obtain⟨e,hsrc,hdst,hu8⟩:=AX hcv
  simp only [Option.some.injEq] at h
  subst h
  refine aW hs (v:=.string ⟨#[]⟩) (dl src dst x ho ?_) rfl
  rw [hxe]
  cases ad with
  |none=>exact run_convert_bytes_nil w src e hsrc hu8 0 0 dst hdst
  |some b=>
   rw [run_convert_bytes_string w src dst e _ 0 0 hsrc hu8 hdst,run_bytesToString w b 0 0 [] (by simp [loadCells,loadCellsFrom])]
   rfl
 cases h
theorem uH (hs:HSim β s.hp w) (hsl:SlotsR β s.sl a.tmps) (t:TypeId) (x y:Operand) (ho:o.op=.makeSlice t x y) (h:bc P s ty (.makeSlice t x y)=some r) (hc:r.c):eL β s r w ((execOp a.eval o).run P w):=by
 simp only [bc] at h
 split at h
 ·rename_i e sz he0
  obtain⟨he,_,rfl⟩:=fj he0
  split at h
  ·rename_i z hz0
   obtain⟨hz,hzl,hpos,_,hby,_⟩:=jl hz0
   split at h
   ·rename_i k l k' c hx hy
    have hvx:a.eval x=.int k l:=cy hsl hx
    have hvy:a.eval y=.int k' c:=cy hsl hy
    simp only [Option.some.injEq] at h
    subst h
    obtain⟨h0,h1,h2⟩:0<=l/\l<=c/\c<=1073741824:=hc
    obtain⟨i,v,vs,hi,hzv,hvc,hsc⟩:=gz hz
    have hr:=pA β hsc
    have hti:=pB hi
    have hvl:=hr.length
    have hbi:i.bytes<=131072:=by
     have:Iu P e=i.bytes:=by simp [Iu,hi]
     omega
    have hb2:(i.bytes:Int)*c<=281474976710656:=by
     obtain⟨m,rfl⟩:=Int.eq_ofNat_of_zero_le (show 0<=c by omega)
     have:i.bytes*m<=131072*m:=K6 _ hbi
     have h3:((i.bytes*m:Nat):Int)<=281474976710656:=zO
     rwa [Int.natCast_mul] at h3
    have hrun:=run_make (P:=P) w t e i v (eK he) hi hzv k k' l c h0 h1 hb2 zO
    refine lG hs (arr:=madeCells v.cells (c.toNat*i.size)) (v:=.slice (some ⟨w.heap.size,0,none⟩) l.toNat c.toNat) ?_ ?_ (fun h d hm=>by rw [Lv hm];exact h) (Dx hs _ _ _ _ zO (by unfold maxLen;omega) ?_)
    ·unfold execOp
     rw [ho]
     simp only [hvx,hvy,K3,hrun,K2]
     rfl
    ·refine fN (fun d hm=>by rw [Lv hm];exact hzl) fun m j d q hk hj=>?_
     have hkl:m < l.toNat:=by have:=(KZ.1 hk).1;simpa using this
     rw [LB hkl] at hk
     simp only [Option.some.injEq] at hk
     subst hk
     obtain⟨u,hu,hru⟩:=hr.get hj
     have hjl:j < z.length:=(KZ.1 hj).1
     refine⟨u,?_,hru⟩
     have hzs:vs.toArray.size=i.size:=by simp;omega
     have hg:=ti vs.toArray c.toNat m j zO zO
     rw [hzs] at hg
     unfold madeCells
     rw [hvc,hzs]
     show ((Array.range (c.toNat*i.size)).map (vs.toArray[· % i.size]!))[m*cV P e+j]? =_
     rw [hti,hg]
     simpa using hu
    show c.toNat*cV P e<=(madeCells v.cells (c.toNat*i.size)).size
    rw [size_madeCells,hti]
    exact K5 _
   cases h
  cases h
 cases h
theorem wn {β:Be} {s:S} {a:Act} (hs:SlotsR β s.sl a.tmps) {x:Option Operand} {n:Option Int} (h:gx s x=some n):(x=none/\n=none)\/∃ k m,n=some m/\x.map a.eval=some (.int k m):=by
 cases x with
 |none=>simp only [gx,Option.some.injEq] at h;exact .inl ⟨rfl,h.symm⟩
 |some x=>
  simp only [gx] at h
  split at h
  ·rename_i k m hx
   simp only [Option.some.injEq] at h
   subst h
   have hv:a.eval x=.int k m:=cy hs hx
   exact .inr ⟨k,m,rfl,by simp [hv]⟩
  cases h
theorem cW (t:TypeId) (x:Operand) (lo hi:Option Operand) (ho:o.op=.slice t x lo hi none) {v:Value} {w':World} (h:(Instr.sliceAt t (a.eval x) (lo.map a.eval) (hi.map a.eval) none).run P w=.ok v w'):(execOp a.eval o).run P w=.ok (.value v) w':=by
 unfold execOp
 rw [ho]
 simp only [Option.map_none,K3,h,K2]
 rfl
theorem et {t:TypeId} (ht:yG P t=true) (l:List UInt8) (lo hi:Option Value) (m n:Nat) (hb:(Instr.sliceBounds false l.length l.length lo hi none).run P w=.ok (m,n,l.length) w):
  (Instr.sliceAt t (.string ⟨l.toArray⟩) lo hi none).run P w=.ok (.string ⟨((l.take n).drop m).toArray⟩) w:=by
 rw [run_sliceAt_string w t _ lo hi none (lD ht)]
 have hz:(ByteArray.mk l.toArray).size=l.length:=rfl
 simp only [Instr.slice,K3,run_underlying (lD ht),K2,Option.isSome_none,Bool.false_eq_true,if_false,K8,hz,hb]
 congr 2
 apply ByteArray.ext
 apply Array.ext'
 simp [ByteArray.data_extract,List.extract_eq_take_drop,List.take_drop]
 by_cases hmn:m<=n
 ·rw [Nat.add_sub_cancel' hmn]
 rw [LK zS,LK zS]
theorem jc (b:Bool) (len cap:Nat):(Instr.sliceBounds b len cap none none none).run P w=.ok (0,len,cap) w:=by simp [Instr.sliceBounds]
theorem kD (b:Bool) (len cap:Nat) (k:IntKind) (m:Int) (h0:0<=m) (h1:m<=len):(Instr.sliceBounds b len cap (some (.int k m)) none none).run P w=.ok (m.toNat,len,cap) w:=by
 simp [Instr.sliceBounds,run_sliceBound,h0,h1]
theorem kE (b:Bool) (len cap:Nat) (k:IntKind) (m:Int) (h0:0<=m) (h1:m<=cap):(Instr.sliceBounds b len cap none (some (.int k m)) none).run P w=.ok (0,m.toNat,cap) w:=by
 simp [Instr.sliceBounds,run_sliceBound,h0,h1]
theorem jd (b:Bool) (len cap:Nat) (k k':IntKind) (m n:Int) (h0:0<=m) (h1:m<=n) (h2:n<=cap):(Instr.sliceBounds b len cap (some (.int k m)) (some (.int k' n)) none).run P w=.ok (m.toNat,n.toNat,cap) w:=by
 have h3:0<=n:=zO
 have h4:m<=(n.toNat:Int):=zO
 have e1:=run_sliceBound (P:=P) w k m n.toNat .sliceB h0 h4
 have e2:∀ c,(Instr.sliceBound (.int k' n) cap c).run P w=.ok n.toNat w:=fun c=>run_sliceBound (P:=P) w k' n cap c h3 h2
 cases b<;>simp [Instr.sliceBounds,e1,e2]
theorem eM {t e:TypeId} (ht:G3 P t=some e) (hk:dH P e=true) (ad:Option Addr) (len cap:Nat) (lo hi:Option Value) (m n:Nat) (hb:(Instr.sliceBounds true len cap lo hi none).run P w=.ok (m,n,cap) w):
  (Instr.sliceAt t (.slice ad len cap) lo hi none).run P w=.ok (sliced ad m n cap (cV P e)) w:=by
 have hel:P.elem t=e:=by simp [Program.elem,eK ht]
 have hu:P.underlying t=some (.slice (P.elem t)):=by rw [hel];exact eK ht
 rw [run_sliceAt_slice w t _ lo hi none hu]
 have:=run_slice_any w t ad len cap hu lo hi none
 rw [this,hb]
 simp only [K2,hel,du w (jm hk)]
theorem lH {n off len esz:Nat} {ad:Option Addr} {cap m q:Nat} (hlc:len<=cap) (hcm:cap<=maxLen) (h:cap=0\/∃ p,β[n]? =some (some p)/\ad=some ⟨p.blk,p.base+off*p.esz,none⟩/\(off+cap)*p.esz<=p.avail)
  (hp:∀ p,β[n]? =some (some p)->p.esz=esz) (hmq:m<=q) (hq:q<=len):ScR β (.sl n (off+m) (q - m)) (sliced ad m q cap esz):=by
 refine⟨_,cap - m,rfl,zO,zO,?_⟩
 by_cases hc:cap=m
 ·exact .inl zO
 rcases h with h|⟨p,hp',rfl,hav⟩
 ·exact .inl zO
 refine .inr ⟨p,hp',?_,?_⟩
 ·rw [if_neg hc,<-hp p hp']
  simp [Addr.add_lit,K9,Lo]
 rw [show off+m+(cap - m)=off+cap from by omega];exact hav
theorem DD (hs:HSim β s.hp w) (hsl:SlotsR β s.sl a.tmps) (t:TypeId) (x:Operand) (lo hi:Option Operand) (ho:o.op=.slice t x lo hi none) (h:bc P s ty (.slice t x lo hi none)=some r) (hc:r.c):eL β s r w ((execOp a.eval o).run P w):=by
 simp only [bc] at h
 split at h
 ·rename_i v lo' hi' hx hlo hhi
  have hlo':=wn hsl hlo
  have hhi':=wn hsl hhi
  split at h
  ·rename_i l
   have hv:a.eval x=.string ⟨l.toArray⟩:=cy hsl hx
   split at h
   ·rename_i ht
    rcases hlo' with⟨rfl,rfl⟩|⟨k,m,rfl,hm⟩
    ·rcases hhi' with⟨rfl,rfl⟩|⟨k',n,rfl,hn⟩
     ·simp only [dI,Option.some.injEq] at h
      subst h
      refine aW hs (cW t x none none ho (by rw [hv];exact et ht l none none 0 l.length (jc _ _ _))) ?_
      show Value.string _=_
      simp
     simp only [dI,Option.some.injEq] at h
     subst h
     obtain⟨h0,h1⟩:0<=n/\n<=l.length:=hc
     refine cF hs (cW t x none hi ho (by rw [hv,hn];exact et ht l none _ 0 n.toNat (kE _ _ _ _ _ h0 h1))) ?_
     show Value.string _=_
     simp
    rcases hhi' with⟨rfl,rfl⟩|⟨k',n,rfl,hn⟩
    ·simp only [dI,Option.some.injEq] at h
     subst h
     obtain⟨h0,h1⟩:0<=m/\m<=l.length:=hc
     refine cF hs (cW t x lo none ho (by rw [hv,hm];exact et ht l _ none m.toNat l.length (kD _ _ _ _ _ h0 h1))) ?_
     show Value.string _=_
     simp
    simp only [dI,Option.some.injEq] at h
    subst h
    obtain⟨h0,h1,h2⟩:0<=m/\m<=n/\n<=l.length:=hc
    refine cF hs (cW t x lo hi ho (by rw [hv,hm,hn];exact et ht l _ _ m.toNat n.toNat (jd _ _ _ _ _ _ _ h0 h1 h2))) ?_
    rfl
   cases h
  ·rename_i n off len
   have hvx:ScR β (.sl n off len) (a.eval x):=cy hsl hx
   split at h
   ·rename_i e sz ob he0 hob
    obtain⟨he,hkn,rfl⟩:=fj he0
    split at h
    ·rename_i hesz
     obtain⟨ad,cap,hxe,hlc,hcm,hor⟩:=hvx
     have hp:∀ p,β[n]? =some (some p)->p.esz=cV P e:=fun p hp=>by
      obtain⟨he',_⟩:=fY hs (ce hob) hp
      rw [he',hesz]
     rcases hlo' with⟨rfl,rfl⟩|⟨k,m,rfl,hm⟩
     ·rcases hhi' with⟨rfl,rfl⟩|⟨k',q,rfl,hn⟩
      ·simp only [dI,Option.some.injEq] at h
       subst h
       refine aW hs (cW t x none none ho (by rw [hxe];exact eM he hkn ad len cap none none 0 len (jc _ _ _))) ?_
       have:=lH (m:=0) (q:=len) hlc hcm hor hp (Lx _) (K5 _)
       show ScR β (Sc.sl n off len) _
       simpa using this
      simp only [dI,Option.some.injEq] at h
      subst h
      obtain⟨h0,h1⟩:0<=q/\q<=len:=hc
      refine cF hs (cW t x none hi ho (by rw [hxe,hn];exact eM he hkn ad len cap none _ 0 q.toNat (kE _ _ _ _ _ h0 zO))) ?_
      have:=lH (m:=0) (q:=q.toNat) hlc hcm hor hp (Lx _) zO
      show ScR β (Sc.sl n off q.toNat) _
      simpa using this
     rcases hhi' with⟨rfl,rfl⟩|⟨k',q,rfl,hn⟩
     ·simp only [dI,Option.some.injEq] at h
      subst h
      obtain⟨h0,h1⟩:0<=m/\m<=len:=hc
      refine cF hs (cW t x lo none ho (by rw [hxe,hm];exact eM he hkn ad len cap _ none m.toNat len (kD _ _ _ _ _ h0 h1))) ?_
      exact lH hlc hcm hor hp zO (K5 _)
     simp only [dI,Option.some.injEq] at h
     subst h
     obtain⟨h0,h1,h2⟩:0<=m/\m<=q/\q<=len:=hc
     refine cF hs (cW t x lo hi ho (by rw [hxe,hm,hn];exact eM he hkn ad len cap _ _ m.toNat q.toNat (jd _ _ _ _ _ _ _ h0 h1 zO))) ?_
     exact lH hlc hcm hor hp zO zO
    cases h
   cases h
  cases h
 cases h
end
end
section
open Go.RowKit
section
variable {P:Program} {β:Be} {s:S} {a:Act} {w:World} {o:Oper} {r:OpR} {ty:TypeId}
theorem eu {t e:TypeId} (ht:G3 P t=some e) (hi:(P.info? e).isSome=true) (ty:TypeId) (ad ad':Option Addr) (n c' c:Nat) (h:n<=c'):
  (Builtin.append_ #[t,t] ty #[.slice ad' n c',.slice ad 0 c]).run P w=.ok (.slice ad' n c') w:=by
 obtain⟨i,hi⟩:=Lm.1 hi
 cases ad<;>cases ad'<;>simp [Builtin.append_,run_underlying (eK ht),sizeOf,typeInfo,hi,Builtin.lenOf,h,Builtin.firstCells,loadCells,loadCellsFrom,storeCells]
theorem jo {arr:Array Value} {base esz:Nat} {cs:List (List Sc)} (hc:cp β arr base esz cs) (off len:Nat) (hb:off+len<=cs.length):
  ∃ news:List Value,news.length=len*esz/\(∀ j u,news[j]? =some u->arr[base+off*esz+j]? =some u)/\(∀ u∈news,u.oneCell'=true)/\
   (∀ k c,((cs.drop off).take len)[k]? =some c->c.length=esz/\∀ j x,c[j]? =some x->∃ v,news[k*esz+j]? =some v/\ScR β x v):=by
 have key:∀ i,i < len*esz->∃ v x,arr[base+off*esz+i]? =some v/\ScR β x v:=by
  intro i hi
  have hpos:0 < esz:=by
   rcases Nat.eq_zero_or_pos esz with h|h
   ·subst h;simp at hi
   exact h
  have hk:i / esz < len:=Nat.div_lt_of_lt_mul (by rw [LP];exact hi)
  obtain⟨c,x,v,_,_,h3,h4⟩:=nR hc hb hk (Nat.mod_lt i hpos)
  refine⟨v,x,?_,h4⟩
  rw [<-h3]
  congr 1
  have:=Nat.div_add_mod i esz
  rw [K9]
  rw [LP esz] at this
  omega
 refine⟨(List.range (len*esz)).map fun i=>(arr[base+off*esz+i]?).getD undef,zP,?_,?_,?_⟩
 ·intro j u hu
  have hj:j < len*esz:=by have:=(KZ.1 hu).1;simpa using this
  simp only [Lj,Ls hj,Lt,Option.some.injEq] at hu
  obtain⟨v,x,hv,_⟩:=key j hj
  rw [hv] at hu⊢
  simpa using hu
 ·intro u hu
  simp only [LR,List.mem_range] at hu
  obtain⟨i,hi,rfl⟩:=hu
  obtain⟨v,x,hv,hr⟩:=key i hi
  rw [hv]
  exact hr.one
 intro k c hk
 have hkl:k < len:=by have:=(KZ.1 hk).1;simp at this;omega
 rw [Lb hkl,Lg] at hk
 obtain⟨hl,hcell⟩:=hc _ _ hk
 refine⟨hl,fun j x hj=>?_⟩
 obtain⟨v,hv,hr⟩:=hcell j x hj
 have hjl:j < esz:=by have:=(KZ.1 hj).1;omega
 have hlt:k*esz+j < len*esz:=by
  have:(k+1)*esz<=len*esz:=K6 _ hkl
  rw [K9] at this
  omega
 refine⟨v,?_,hr⟩
 simp only [Lj,Ls hlt,Lt]
 rw [show base+off*esz+(k*esz+j)=base+(off+k)*esz+j from by rw [K9];omega,hv]
 rfl
theorem jp {arr:Array Value} {esz B:Nat} {cs ds:List (List Sc)} {olds news:List Value} (ho:olds.length=cs.length*esz)
  (h1:∀ (k:Nat) (c:List Sc),cs[k]? =some c->c.length=esz/\∀ (j:Nat) (x:Sc),c[j]? =some x->∃ v,olds[k*esz+j]? =some v/\ScR β x v)
  (h2:∀ (k:Nat) (c:List Sc),ds[k]? =some c->c.length=esz/\∀ (j:Nat) (x:Sc),c[j]? =some x->∃ v,news[k*esz+j]? =some v/\ScR β x v)
  (ha:∀ (i:Nat) (v:Value),(olds++news)[i]? =some v->arr[B+i]? =some v):cp β arr B esz (cs++ds):=by
 intro k c hk
 rcases LH k cs.length with hlt|hge
 ·rw [K0 hlt] at hk
  obtain⟨hl,hc⟩:=h1 k c hk
  refine⟨hl,fun j x hj=>?_⟩
  obtain⟨v,hv,hr⟩:=hc j x hj
  refine⟨v,?_,hr⟩
  rw [Lo]
  refine ha _ _ ?_
  rw [K0 (KZ.1 hv).1]
  exact hv
 rw [K1 hge] at hk
 obtain⟨hl,hc⟩:=h2 _ c hk
 refine⟨hl,fun j x hj=>?_⟩
 obtain⟨v,hv,hr⟩:=hc j x hj
 refine⟨v,?_,hr⟩
 rw [Lo]
 refine ha _ _ ?_
 have e:k*esz+j=olds.length+((k - cs.length)*esz+j):=by
  have:k*esz=(cs.length+(k - cs.length))*esz:=by congr 1;omega
  rw [K9] at this
  omega
 rw [e,K1 zO,LJ]
 exact hv
theorem kF {arr:Array Value} {esz:Nat} {cs ds:List (List Sc)} {olds news:List Value} (ho:olds.length=cs.length*esz)
  (h1:∀ (k:Nat) (c:List Sc),cs[k]? =some c->c.length=esz/\∀ (j:Nat) (x:Sc),c[j]? =some x->∃ v,olds[k*esz+j]? =some v/\ScR β x v)
  (h2:∀ (k:Nat) (c:List Sc),ds[k]? =some c->c.length=esz/\∀ (j:Nat) (x:Sc),c[j]? =some x->∃ v,news[k*esz+j]? =some v/\ScR β x v)
  (ha:∀ (i:Nat) (v:Value),(olds++news)[i]? =some v->arr[i]? =some v):cp β arr 0 esz (cs++ds):=
 jp ho h1 h2 fun i v h=>by rw [Lf];exact ha i v h
theorem yP (hl:β.length=s.hp.length) (n:Nat):StepR β β s.hp (s.hp.set n none) w w:=
 ⟨Be.le.refl _,rfl,rfl,rfl,K5 _,fun _ _ _=>rfl,zP,fun o ob' hlt ho=>by
  rw [La] at ho
  split at ho
  ·split at ho<;>cases ho
  ·exact⟨ob',ho,id⟩,fun o ob p hge ho _=>by
  rw [K4 (by simpa using hge)] at ho
  cases ho⟩
theorem fk {h:Hp} {n:Nat} {new:AObj} {o:Nat} {x:AObj} (hx:(h.set n none++[some new])[o]? =some (some x)):(o < h.length/\o≠n/\h[o]? =some (some x))\/(o=h.length/\x=new):=by
 have hl:(h.set n none).length=h.length:=by simp
 rcases Li o h.length with hlt|he|hgt
 ·rw [K0 zO,La] at hx
  split at hx
  ·split at hx<;>cases hx
  rename_i hne
  exact .inl ⟨hlt,Ne.symm hne,hx⟩
 ·subst he
  rw [K1 zO] at hx
  simp at hx
  exact .inr ⟨rfl,hx.symm⟩
 rw [K1 zO,K4 zS] at hx
 cases hx
theorem pE {h:Hp} (hs:HSim β h w) {n:Nat} {ob:AObj} {p:Pl} (ho:h[n]? =some (some ob)) (hown:ob.own=true) (hp:β[n]? =some (some p)) {w':World} {arr':Array Value} {T:TypeId} {p2:Pl} (hb2:p2.blk=p.blk)
  (hh:w'.heap[p.blk]? =some (.cells arr' T (0,0))) (hk:∀ k,k≠p.blk->w'.heap[k]? =w.heap[k]?) (new:AObj) (he:p2.esz=new.esz) (hc:cp (β++[some p2]) arr' p2.base new.esz new.cs) (hT:T=new.ty) (hav:p2.base+p2.avail=arr'.size) (hfl:new.fl=true->FlatL new.cs):
  HSim (β++[some p2]) (h.set n none++[some new]) w':=by
 have hle:=Be.le_append β [some p2]
 have kb:∀ {o:Nat} {q:Option Pl},o < h.length->(β++[some p2])[o]? =some q->β[o]? =some q:=by
  intro o q ho hq
  rwa [K0 (by rw [hs.len];exact ho)] at hq
 have kn:(β++[some p2])[h.length]? =some (some p2):=by rw [<-hs.len];simp
 refine⟨by simp [hs.len],fun o x hx=>?_,fun o x hx hf=>by rcases fk hx with⟨_,_,hx⟩|⟨_,rfl⟩;exact hs.flat o x hx hf;exact hfl hf,fun o o' x x' q q' hx hx' hxo hq hq' hne=>?_⟩
 ·rcases fk hx with⟨hlt,hne,hx⟩|⟨rfl,rfl⟩
  ·obtain⟨q,hq,hr⟩:=hs.ob o x hx
   refine⟨q,hle _ _ hq,(hr.world fun q' hq'=>?_).mono hle⟩
   subst hq'
   exact hk _ (hs.apart n o ob x p q' ho hx hown hp hq (Ne.symm hne)).symm
  exact⟨some p2,kn,he,arr',T,(0,0),by rw [hb2];exact hh,hc,fun _=>⟨hT,rfl,hav⟩⟩
 rcases fk hx with⟨hlt,h1,h1'⟩|⟨rfl,rfl⟩
 ·rcases fk hx' with⟨hlt',h2,h2'⟩|⟨rfl,rfl⟩
  ·exact hs.apart o o' x x' q q' h1' h2' hxo (kb hlt hq) (kb hlt' hq') hne
  rw [kn] at hq'
  simp only [Option.some.injEq] at hq'
  subst hq'
  rw [hb2]
  exact (hs.apart n o ob x p q ho h1' hown hp (kb hlt hq) (Ne.symm h1)).symm
 rw [kn] at hq
 simp only [Option.some.injEq] at hq
 subst hq
 rcases fk hx' with⟨hlt',h2,h2'⟩|⟨rfl,rfl⟩
 ·rw [hb2]
  exact hs.apart n o' ob x' p q' ho h2' hown hp (kb hlt' hq') (Ne.symm h2)
 exact absurd rfl hne
theorem nS {h:Hp} (hs:HSim β h w) {n:Nat} (hn:n < h.length) {ob:AObj} {p:Pl} (ho:h[n]? =some (some ob)) (hown:ob.own=true) (hp:β[n]? =some (some p)) {w':World} {p2:Pl} (hb2:p2.blk=p.blk)
  (hlike:World.like w w') (hsz:w.heap.size<=w'.heap.size) (hk:∀ k,k≠p.blk->w'.heap[k]? =w.heap[k]?) (new:AObj):StepR β (β++[some p2]) h (h.set n none++[some new]) w w':=
 ⟨Be.le_append _ _,hlike.1,hlike.2.1,hlike.2.2,hsz,fun k _ hno=>hk k (fun hb=>hno ⟨n,ob,p,ho,hown,hp,hb.symm⟩),zP,fun o ob' hlt ho'=>by
  rcases fk ho' with⟨_,_,h1⟩|⟨rfl,_⟩
  ·exact⟨ob',h1,id⟩
  ·omega,fun o ob' q hge ho' hq=>by
  rcases fk ho' with⟨h1,_,_⟩|⟨rfl,_⟩
  ·omega
  rw [<-hs.len] at hq
  simp at hq
  subst hq
  exact .inl ⟨n,ob,p,ho,hown,hp,hb2.symm⟩⟩
theorem cC (x y:Operand) (t:TypeId) (ho:o.op=.call ⟨.builtin .append,#[x,y],#[t,t]⟩) {v:Value} {w':World} (h:(Builtin.append_ #[t,t] o.type #[a.eval x,a.eval y]).run P w=.ok v w'):(execOp a.eval o).run P w=.ok (.value v) w':=by
 unfold execOp
 rw [ho]
 simp only [resolve,invoke,builtin,K3,K8,K2,LZ,LN,L6,h]
theorem tj {h h':Hp} (hs:HSim β h w) (hs':HSim β h' w) (hst:StepR β β h h' w w) {t e:TypeId} {i:TypeInfo} {z:Value} (ht:G3 P t=some e) (hi:P.info? e=some i) (hz:i.zero=some z) (hzs:z.cells.size=i.size)
  {ad':Option Addr} {n cap':Nat} {olds:List Value} (hlo:olds.length=n*i.size) (holds:(ad'=none/\n=0)\/∃ b,ad'=some b/\∀ j v,olds[j]? =some v->w.cell? (b.add j)=some v) (hnn:ad'=none->n=0/\cap'=0)
  {b:Addr} {m c:Nat} {news:List Value} (hl:news.length=m*i.size) (hnews:∀ j v,news[j]? =some v->w.cell? (b.add j)=some v) (hg:cap' < n+m) (hm:0 < m) (hsm:n+m<=1073741824) (hby:i.bytes<=131072)
  {cs:List (List Sc)} {fl:Bool} (hcs:cp β (olds++news).toArray 0 i.size cs) (hfl:fl=true->FlatL cs) (ty:TypeId):
  ∃ β' w' v,(Builtin.append_ #[t,t] ty #[.slice ad' n cap',.slice (some b) m c]).run P w=.ok v w'/\StepR β β' h (h'++[some ⟨cs,i.size,e,true,fl⟩]) w w'/\HSim β' (h'++[some ⟨cs,i.size,e,true,fl⟩]) w'/\ScR β' (.sl h'.length 0 (n+m)) v:=by
 have hbytes:(n+m)*i.bytes<=140737488355328:=by
  have:(n+m)*i.bytes<=1073741824*131072:=L4 hsm hby
  omega
 have hge:=grownCap_ge w (n+m) cap' e
 have hcm:grownCap w (n+m) cap' e<=maxLen:=grownCap_le_maxLen w (n+m) cap' e (by unfold maxLen;omega)
 have hrun:(Builtin.append_ #[t,t] ty #[.slice ad' n cap',.slice (some b) m c]).run P w=
   .ok (.slice (some ⟨w.heap.size,0,none⟩) (n+m) (grownCap w (n+m) cap' e)) (w.drew.alloc (.cells (olds.toArray++news.toArray++Builtin.zeroCells z.cells (grownCap w (n+m) cap' e - (n+m))) e)):=by
  cases ad' with
  |none=>
   obtain⟨rfl,rfl⟩:=hnn rfl
   have ho0:olds=[]:=LD (by simpa using hlo)
   subst ho0
   have:=run_append_nil (P:=P) w t ty e i z (eK ht) hi hz b m c news hl hnews hm zO (by have hb:=hbytes;simp only [Lf] at hb;omega)
   simp only [Lf,Array.empty_append] at this⊢
   exact this
  |some b'=>
   rcases holds with⟨h0,_⟩|⟨b'',hb'',hold⟩
   ·cases h0
   cases hb''
   exact run_append_grow (P:=P) w t ty e i z (eK ht) hi hz b' n cap' olds hlo hold b m c news hl hnews hg zO (growslice_fits hg hbytes)
 let arr:Array Value:=olds.toArray++news.toArray++Builtin.zeroCells z.cells (grownCap w (n+m) cap' e - (n+m))
 have hsize:arr.size=grownCap w (n+m) cap' e*i.size:=by
  show (olds.toArray++news.toArray++Builtin.zeroCells z.cells (grownCap w (n+m) cap' e - (n+m))).size=_
  simp only [LW,List.size_toArray,size_zeroCells,hzs,hlo,hl,<-K9]
  congr 1
  omega
 let p:Pl:=⟨w.heap.size,0,i.size,arr.size⟩
 let w':World:=w.drew.alloc (.cells arr e)
 have hle:=Be.le_append β [some p]
 have hlike:World.like w w':=⟨rfl,rfl,rfl⟩
 have hold':∀ k,k < w.heap.size->w'.heap[k]? =w.heap[k]? :=fun k hk=>(by first|exact heap_alloc_old w.drew _ k hk|exact heap_alloc_old w.drew _ hk)
 have hca:cp β arr 0 i.size cs:=by
  intro k c hk
  obtain⟨h1,h2⟩:=hcs k c hk
  refine⟨h1,fun j x hj=>?_⟩
  obtain⟨v,hv,hr⟩:=h2 j x hj
  refine⟨v,?_,hr⟩
  have hv':(olds.toArray++news.toArray)[0+k*i.size+j]? =some v:=by
   rw [List.append_toArray];exact hv
  show (olds.toArray++news.toArray++Builtin.zeroCells z.cells (grownCap w (n+m) cap' e - (n+m)))[0+k*i.size+j]? =some v
  rw [LF (Lh.1 hv').1]
  exact hv'
 have hsz':w.heap.size<=w'.heap.size:=by
  show w.heap.size<=(w.drew.alloc _).heap.size
  simp
 refine⟨β++[some p],w',_,hrun,?_,?_,?_⟩
 ·exact StepR.trans hs.len hs'.len hst (jk hs'.len hlike hsz' hold' p _ (K5 _))
 ·exact kR hs' hold' (K5 _) ⟨rfl,arr,e,(0,0),heap_alloc_new w.drew _,hca.mono hle,fun _=>⟨rfl,rfl,Lf _⟩⟩ hfl
 exact⟨_,_,rfl,hge,hcm,.inr ⟨p,by rw [<-hs'.len];simp,by simp [p],by simp [p,hsize]⟩⟩
theorem mN (w:World) (t ty e:TypeId) (i:TypeInfo) (ht:P.underlying t=some (.slice e)) (hi:P.info? e=some i)
  (g B sLen sCap:Nat) (cur:Array Value) (hg:w.heap[g]? =some (.cells cur e (0,0)))
  (ad:Addr) (m c:Nat) (news:List Value) (hl:news.length=m*i.size) (hnews:∀ j u,news[j]? =some u->w.cell? (ad.add j)=some u) (h1:∀ u∈news,u.oneCell'=true)
  (hroom:sLen+m<=sCap) (hfit:B+sLen*i.size+news.length<=cur.size):
  (Builtin.append_ #[t,t] ty #[.slice (some ⟨g,B,none⟩) sLen sCap,.slice (some ad) m c]).run P w=
   .ok (.slice (some ⟨g,B,none⟩) (sLen+m) sCap) (w.setRow g (cur.toList.take (B+sLen*i.size)++news++cur.toList.drop (B+sLen*i.size+news.length)).toArray):=by
 have hf:=run_firstCells_some (P:=P) w i.size m ad m c news hl hnews
 have hst:=run_storeCells_at P g (B+sLen*i.size) e news 0 cur w hg (by simpa using hfit) h1
 simp only [Lq] at hst
 simp [Builtin.append_,run_underlying ht,sizeOf,typeInfo,hi,Builtin.lenOf,hroom,hf,Addr.add_lit,hst]
theorem yQ (hs:HSim β s.hp w) {t e:TypeId} {i:TypeInfo} {zv:Value} (x y:Operand) (ho:o.op=.call ⟨.builtin .append,#[x,y],#[t,t]⟩) (he:G3 P t=some e) (hi:P.info? e=some i) (hzv:i.zero=some zv) (hzs:zv.cells.size=i.size) (hby':i.bytes<=131072) (hti:cV P e=i.size)
  {n' off' len' n off len:Nat} {ob' ob:AObj} (hvx:ScR β (.sl n' off' len') (a.eval x)) (hvy:ScR β (.sl n off len) (a.eval y)) (hob':s.obj n'=some ob') (hob:s.obj n=some ob)
  (hesz:ob.esz=cV P e) (hesz':ob'.esz=cV P e) (hown:ob'.own=true) (hty:ob'.ty=e) (hcl:off'+len'=ob'.cs.length) (hb:off+len<=ob.cs.length) (hsm:len'+len<=1073741824) {c:Prop}:
  eL β s ⟨some (.sc (.sl s.hp.length 0 (len'+len))),s.hp.set n' none++[some ⟨ob'.cs.drop off'++(ob.cs.drop off).take len,cV P e,e,true,ob'.fl && ob.fl⟩],c⟩ w ((execOp a.eval o).run P w):=by
 have hinfo:(P.info? e).isSome=true:=by simp [hi]
 obtain⟨ad',cap',hxe,hlc',hcm',hor'⟩:ScR β (.sl n' off' len') (a.eval x):=hvx
 obtain⟨ad,cap,hye,hlc,hcm,hor⟩:ScR β (.sl n off len) (a.eval y):=hvy
 have hflat:(ob'.fl && ob.fl)=true->FlatL (ob'.cs.drop off'++(ob.cs.drop off).take len):=fun hf c hm=>by
  simp only [K_] at hf
  rcases List.mem_append.1 hm with hm|hm
  ·exact hs.flat n' ob' (ce hob') hf.1 c (Ll hm)
  exact hs.flat n ob (ce hob) hf.2 c (Ll (Lr hm))
 have hkill:=BH hs n'
 have hstk:=yP (w:=w) hs.len n' (s:=s)
 have hlen':(s.hp.set n' none).length=s.hp.length:=by simp
 have hn':n' < s.hp.length:=(KZ.1 (ce hob')).1
 have hdl:(ob'.cs.drop off').length=len':=by rw [List.length_drop];omega
 have hdt:(ob'.cs.drop off').take len'=ob'.cs.drop off':=List.take_of_length_le zO
 have hplace:(cap'=0/\len'=0/\ob'.cs.drop off'=[])\/∃ p',β[n']? =some (some p')/\ad'=some ⟨p'.blk,p'.base+off'*p'.esz,none⟩/\(off'+cap')*p'.esz<=p'.avail:=by
  rcases hor' with h0|h0
  ·exact .inl ⟨h0,zO,LD zO⟩
  exact .inr h0
 have hold:∃ olds:List Value,olds.length=len'*i.size/\((ad'=none/\len'=0)\/∃ b,ad'=some b/\∀ j v,olds[j]? =some v->w.cell? (b.add j)=some v)/\(ad'=none->len'=0/\cap'=0)/\
   (∀ (k:Nat) (c:List Sc),(ob'.cs.drop off')[k]? =some c->c.length=i.size/\∀ (j:Nat) (x:Sc),c[j]? =some x->∃ v,olds[k*i.size+j]? =some v/\ScR β x v):=by
  rcases hplace with⟨hc0,hl0',hcs0⟩|⟨p',hp',had',hav'⟩
  ·refine⟨[],by simp [hl0'],?_,fun _=>⟨hl0',hc0⟩,by simp [hcs0]⟩
   cases ad' with
   |none=>exact .inl ⟨rfl,hl0'⟩
   |some b=>exact .inr ⟨b,rfl,zP⟩
  obtain⟨hep',arr',T',fz',hh',hcr',_⟩:=fY hs (ce hob') hp'
  obtain⟨olds,h1,h2,h3,h4⟩:=jo hcr' off' len' zO
  rw [hesz',hti] at h1 h2 h4
  refine⟨olds,h1,.inr ⟨_,had',fun j v hv=>?_⟩,(fun hn=>by rw [had'] at hn;cases hn),?_⟩
  ·rw [Addr.add_lit,iG hh',hep',hesz',hti];exact h2 j v hv
  rw [hdt] at h4
  exact h4
 obtain⟨olds,hol,holds,hnn,hor2⟩:=hold
 by_cases hl0:len=0
 ·subst hl0
  have hrun:=eu (P:=P) (w:=w) he hinfo o.type ad ad' len' cap' cap hlc'
  rcases hplace with⟨hc0,hl0',hcs0⟩|⟨p',hp',had',hav'⟩
  ·subst hc0;subst hl0'
   refine⟨β++[none],w,?_,s9 hkill (by simp [hcs0]),.inl ⟨_,_,cC x y t ho (by rw [hxe,hye];exact hrun),rfl,⟨ad',0,rfl,K5 _,Lx _,.inl rfl⟩⟩⟩
   refine StepR.trans hs.len hkill.len hstk ⟨Be.le_append _ _,rfl,rfl,rfl,K5 _,fun _ _ _=>rfl,zP,fun o ob' hlt ho=>by
    rw [K0 hlt] at ho;exact⟨ob',ho,id⟩,fun o ob' q hge ho hq=>by
    exfalso
    have he:o=(s.hp.set n' none).length:=by
     rcases Li o (s.hp.set n' none).length with h1|h1|h1
     ·omega
     ·exact h1
     rw [K1 zO,K4 (by simp at h1⊢;omega)] at ho;cases ho
    subst he
    rw [<-hkill.len] at hq
    simp at hq⟩
  obtain⟨he',arr,T,fz,hh,hcr,hown'⟩:=fY hs (ce hob') hp'
  obtain⟨hT,hf0,hav⟩:=hown' hown
  subst hf0
  have hoa:off'*p'.esz<=p'.avail:=LA (K6 _ (L3 _ _)) hav'
  have hcr':cp β arr (p'.base+off'*p'.esz) (cV P e) (ob'.cs.drop off'++(ob.cs.drop off).take 0):=by
   rw [List.take_zero,List.append_nil,<-hesz',he']
   intro k c hk
   rw [Lg] at hk
   obtain⟨h1,h2⟩:=hcr _ c hk
   refine⟨h1,fun j x hj=>?_⟩
   obtain⟨v,hv,hr⟩:=h2 j x hj
   refine⟨v,?_,hr⟩
   rw [<-hv]
   congr 1
   rw [K9]
   omega
  refine⟨β++[some ⟨p'.blk,p'.base+off'*p'.esz,p'.esz,p'.avail - off'*p'.esz⟩],w,?_,?_,.inl ⟨_,_,cC x y t ho (by rw [hxe,hye];exact hrun),rfl,?_⟩⟩
  ·exact nS hs hn' (ce hob') hown hp' (w':=w) (p2:=⟨p'.blk,p'.base+off'*p'.esz,p'.esz,p'.avail - off'*p'.esz⟩) rfl ⟨rfl,rfl,rfl⟩ (K5 _) (fun k _=>rfl) _
  ·exact pE hs (ce hob') hown hp' (w':=w) (arr':=arr) (T:=T) (p2:=⟨p'.blk,p'.base+off'*p'.esz,p'.esz,p'.avail - off'*p'.esz⟩) rfl (by simpa using hh) (fun k _=>rfl) ⟨_,cV P e,e,true,ob'.fl && ob.fl⟩ (by show p'.esz=_;rw [he',hesz']) (hcr'.mono (Be.le_append _ _)) (by rw [hT,hty]) (by show p'.base+off'*p'.esz+(p'.avail - off'*p'.esz)=_;omega) hflat
  refine⟨ad',cap',by rw [Lq],zO,hcm',.inr ⟨(⟨p'.blk,p'.base+off'*p'.esz,p'.esz,p'.avail - off'*p'.esz⟩:Pl),by rw [<-hs.len];simp,by rw [had'];simp,?_⟩⟩
  show (0+cap')*p'.esz<=p'.avail - off'*p'.esz
  rw [K9] at hav'
  rw [Lf]
  omega
 rcases hor with hcap|⟨p,hp,rfl,hav⟩
 ·omega
 obtain⟨hep,arr,T,fz,hh,hcr,_⟩:=fY hs (ce hob) hp
 obtain⟨news,hnl,hnc,hn1,hnr⟩:=jo hcr off len hb
 rw [hesz] at hnl hnr hnc
 have hnews:∀ j u,news[j]? =some u->w.cell? ((⟨p.blk,p.base+off*p.esz,none⟩:Addr).add j)=some u:=fun j u hu=>by
  rw [Addr.add_lit,iG hh,hep,hesz];exact hnc j u hu
 rw [hti] at hnl hnr
 by_cases hroom:len'+len<=cap'
 ·rcases hplace with⟨hc0,_,_⟩|⟨p',hp',had',hav'⟩
  ·omega
  obtain⟨hep',arr',T',fz',hh',hcr',hown'⟩:=fY hs (ce hob') hp'
  obtain⟨hT,hf0,havl⟩:=hown' hown
  subst hf0
  have hoa:off'*p'.esz<=p'.avail:=LA (K6 _ (L3 _ _)) hav'
  have hav2:=hav'
  rw [K9] at hav2
  have hsz:p'.esz=i.size:=by rw [hep',hesz',hti]
  obtain⟨B,hB⟩:∃ B,B=p'.base+off'*p'.esz:=⟨_,rfl⟩
  have hBA:B+(p'.avail - off'*p'.esz)=arr'.size:=zO
  have hfit:B+len'*i.size+news.length<=arr'.size:=by
   have h1:(len'+len)*i.size<=cap'*i.size:=K6 _ hroom
   rw [K9] at h1
   rw [hsz] at hav2 hBA hoa
   rw [hnl]
   omega
  rw [<-hB] at had'
  have hrun:=mN (P:=P) w t o.type e i (eK he) hi p'.blk B len' cap' arr' (by rw [<-hT.trans hty];exact hh') ⟨p.blk,p.base+off*p.esz,none⟩ len cap news hnl hnews hn1 hroom hfit
  let arr2:Array Value:=(arr'.toList.take (B+len'*i.size)++news++arr'.toList.drop (B+len'*i.size+news.length)).toArray
  have hsz2:arr2.size=arr'.size:=by
   show ((arr'.toList.take (B+len'*i.size)++news++arr'.toList.drop (B+len'*i.size+news.length)).toArray).size=_
   simp
   omega
  have holdv:∀ j v,olds[j]? =some v->arr'[B+j]? =some v:=fun j v hv=>by
   rcases holds with⟨h0,_⟩|⟨b,hb',hall⟩
   ·rw [had'] at h0;cases h0
   rw [had'] at hb'
   cases hb'
   have:=hall j v hv
   rw [Addr.add_lit,iG hh'] at this
   exact this
  have hcr2:cp β arr2 B (cV P e) (ob'.cs.drop off'++(ob.cs.drop off).take len):=by
   rw [hti]
   refine jp (olds:=olds) (news:=news) (by rw [hol,hdl]) hor2 hnr ?_
   intro q v hv
   show ((arr'.toList.take (B+len'*i.size)++news++arr'.toList.drop (B+len'*i.size+news.length)).toArray)[B+q]? =some v
   rw [Lz,LU]
   have htl:(arr'.toList.take (B+len'*i.size)).length=B+len'*i.size:=by simp;omega
   rcases LH q olds.length with hlt|hge
   ·rw [K0 hlt] at hv
    rw [K0 zO,Lb zO,Ld]
    exact holdv q v hv
   rw [K1 hge] at hv
   have hql:q - olds.length < news.length:=(KZ.1 hv).1
   rw [K1 zO,htl,K0 zO,<-hv]
   congr 1
   omega
  refine⟨β++[some ⟨p'.blk,B,p'.esz,p'.avail - off'*p'.esz⟩],w.setRow p'.blk arr2,?_,?_,.inl ⟨_,_,cC x y t ho (by rw [hxe,hye,had'];exact hrun),rfl,?_⟩⟩
  ·exact nS hs hn' (ce hob') hown hp' (w':=w.setRow p'.blk arr2) (p2:=⟨p'.blk,B,p'.esz,p'.avail - off'*p'.esz⟩) rfl ⟨rfl,rfl,rfl⟩ zP (fun k hk=>setRow_other w p'.blk k arr2 hk) _
  ·exact pE hs (ce hob') hown hp' (w':=w.setRow p'.blk arr2) (arr':=arr2) (T:=T') (p2:=⟨p'.blk,B,p'.esz,p'.avail - off'*p'.esz⟩) rfl (setRow_heap w p'.blk arr' arr2 T' _ hh') (fun k hk=>setRow_other w p'.blk k arr2 hk) ⟨_,cV P e,e,true,ob'.fl && ob.fl⟩ (by show p'.esz=_;rw [hep',hesz']) (hcr2.mono (Be.le_append _ _)) (by rw [hT,hty]) (by rw [hsz2];exact hBA) hflat
  refine⟨_,cap',rfl,hroom,hcm',.inr ⟨(⟨p'.blk,B,p'.esz,p'.avail - off'*p'.esz⟩:Pl),by rw [<-hs.len];simp,zP,?_⟩⟩
  show (0+cap')*p'.esz<=p'.avail - off'*p'.esz
  rw [Lf]
  omega
 obtain⟨β',w',v,hrun,hst,hsim,hr⟩:=tj (P:=P) hs hkill hstk he hi hzv hzs hol holds hnn hnl hnews (c:=cap) zO zO hsm hby' (cs:=ob'.cs.drop off'++(ob.cs.drop off).take len)
  (kF (by rw [hol,hdl]) hor2 hnr (fun q v hv=>by simpa using hv)) (fl:=ob'.fl && ob.fl) hflat o.type
 rw [hlen'] at hr
 refine⟨β',w',?_,?_,.inl ⟨v,_,cC x y t ho (by rw [hxe,hye];exact hrun),rfl,hr⟩⟩
 ·rw [hti];exact hst
 rw [hti];exact hsim
theorem BN (hs:HSim β s.hp w) (hsl:SlotsR β s.sl a.tmps) (args:Array Operand) (at_:Array TypeId) (ho:o.op=.call ⟨.builtin .append,args,at_⟩) (h:bc P s ty (.call ⟨.builtin .append,args,at_⟩)=some r) (hc:r.c):eL β s r w ((execOp a.eval o).run P w):=by
 simp only [bc] at h
 split at h
 ·rename_i x y t t' ha ht
  have ha':=gT ha
  have ht':=gT ht
  subst ha';subst ht'
  split at h
  ·rename_i htt
   subst htt
   split at h
   ·rename_i u v hx hy
    have hvx:=cy hsl hx
    have hvy:=cy hsl hy
    unfold j_ at h
    split at h
    ·cases h
    rename_i e sz he0
    obtain⟨he,_,rfl⟩:=fj he0
    split at h
    ·cases h
    rename_i z hz0
    obtain⟨hz,hzl,hpos,_,hby,_⟩:=jl hz0
    obtain⟨i,zv,zs,hi,hzv,hvc,hsc⟩:=gz hz
    have hti:=pB hi
    have hinfo:(P.info? e).isSome=true:=by simp [hi]
    have hzs:zv.cells.size=i.size:=by
     have:=(pA β hsc).length
     rw [hvc];simp;omega
    have hby':i.bytes<=131072:=by
     have:Iu P e=i.bytes:=by simp [Iu,hi]
     omega
    split at h
    ·
     rename_i n off len
     simp only [Option.some.injEq] at h
     subst h
     have hv1:ScR β (.sl n off len) (a.eval x):=hvx
     obtain⟨ad,hye⟩:ScR β .nil (a.eval y):=hvy
     obtain⟨ad',cap',hxe,hlc,hrest⟩:=hv1
     exact aW hs (cC x y t ho (by rw [hxe,hye];exact eu he hinfo _ _ _ _ _ _ hlc)) ⟨ad',cap',rfl,hlc,hrest⟩
    ·simp only [Option.some.injEq] at h
     subst h
     obtain⟨ad',hxe⟩:ScR β .nil (a.eval x):=hvx
     obtain⟨ad,hye⟩:ScR β .nil (a.eval y):=hvy
     exact aW hs (cC x y t ho (by rw [hxe,hye];exact eu he hinfo _ _ _ _ _ _ (K5 _))) ⟨ad',rfl⟩
    ·rename_i n off len
     obtain⟨ad',hxe⟩:ScR β .nil (a.eval x):=hvx
     obtain⟨ad,cap,hye,hlc,hcm,hor⟩:ScR β (.sl n off len) (a.eval y):=hvy
     split at h
     ·rename_i ob hob
      split at h
      ·rename_i hesz
       simp only [Option.some.injEq] at h
       subst h
       obtain⟨hb,hsm⟩:off+len<=ob.cs.length/\len<=1073741824:=hc
       by_cases hl0:len=0
       ·subst hl0
        refine⟨β++[none],w,?_,s9 hs zP,.inl ⟨_,_,cC x y t ho (by rw [hxe,hye];exact eu he hinfo _ _ _ _ _ _ (K5 _)),rfl,⟨ad',0,rfl,K5 _,Lx _,.inl rfl⟩⟩⟩
        exact⟨Be.le_append _ _,rfl,rfl,rfl,K5 _,fun _ _ _=>rfl,zP,fun o ob' hlt ho=>by
         rw [K0 hlt] at ho;exact⟨ob',ho,id⟩,fun o ob' q hge ho hq=>by
         exfalso
         have he:o=s.hp.length:=by
          rcases Li o s.hp.length with h1|h1|h1
          ·omega
          ·exact h1
          rw [K1 zO,K4 zS] at ho;cases ho
         subst he
         rw [<-hs.len] at hq
         simp at hq⟩
       rcases hor with hcap|⟨p,hp,rfl,hav⟩
       ·omega
       obtain⟨he',arr,T,fz,hh,hcr,_⟩:=fY hs (ce hob) hp
       obtain⟨news,hnl,hnc,hn1,hnr⟩:=jo hcr off len hb
       rw [hesz,hti] at hnl hnr hnc
       obtain⟨β',w',v,hrun,hst,hsim,hr⟩:=tj (P:=P) hs hs (StepR.refl β s.hp w hs.len) he hi hzv hzs (ad':=ad') (n:=0) (cap':=0) (olds:=[]) zP (by
        cases ad' with
        |none=>exact .inl ⟨rfl,rfl⟩
        |some b=>exact .inr ⟨b,rfl,zP⟩) (fun _=>⟨rfl,rfl⟩) (b:=⟨p.blk,p.base+off*p.esz,none⟩) (m:=len) (c:=cap) hnl (fun j u hu=>by
         rw [Addr.add_lit,iG hh,he',hesz,hti];exact hnc j u hu) zO zO zO hby' (cs:=(ob.cs.drop off).take len) (by
         have:=kF (arr:=([]++news).toArray) (cs:=[]) (ds:=(ob.cs.drop off).take len) (olds:=[]) (news:=news) (esz:=i.size) zP zP hnr (fun i v hv=>by simpa using hv)
         simpa using this) (fl:=ob.fl) (fun hf c hm=>hs.flat n ob (ce hob) hf c (Ll (Lr hm))) o.type
       rw [Lf] at hr
       refine⟨β',w',?_,?_,.inl ⟨v,_,cC x y t ho (by rw [hxe,hye];exact hrun),rfl,hr⟩⟩
       ·rw [hti];exact hst
       rw [hti];exact hsim
      cases h
     cases h
    ·rename_i n' off' len' n off len
     split at h
     ·rename_i ob' ob hob' hob
      split at h
      ·rename_i hcond2
       obtain⟨hesz,hesz',hown,hty,hoff,hne⟩:=hcond2
       subst hoff
       simp only [Option.some.injEq] at h
       subst h
       obtain⟨hcl,hb,hsm⟩:ob'.cs.length=len'/\off+len<=ob.cs.length/\len'+len<=1073741824:=hc
       exact yQ hs x y ho he hi hzv hzs hby' hti hvx hvy hob' hob hesz hesz' hown hty zO hb hsm
      cases h
     cases h
    cases h
   cases h
  cases h
 cases h
end
end
section
open Go.RowKit
theorem mO {P:Program} {β:Be} {s:S} {a:Act} {w:World} {o:Oper} {r:OpR} {ty:TypeId} (hs:HSim β s.hp w) (hsl:SlotsR β s.sl a.tmps) (h:bc P s ty o.op=some r) (hc:r.c):eL β s r w ((execOp a.eval o).run P w):=by
 generalize ho:o.op=op at h
 cases op with
 |move x=>exact AS hs hsl x (.inl ho) h
 |assign x=>exact AS (ty:=ty) hs hsl x (.inr ho) (by simpa only [bc] using h)
 |pick c x y=>exact FJ hs hsl c x y ho h
 |alloc e=>exact Dy hs e ho h
 |box e x=>exact Hw hs hsl e x ho h
 |build t parts=>exact Dz hs hsl t parts ho h
 |buildSlice t len parts=>exact sE hs hsl t len parts ho h
 |load t x=>exact FK hs hsl t x ho h
 |store t x y=>exact DA hs hsl t x y ho h
 |nilCheck x=>exact wl hs hsl x ho h
 |binOp op t x y u=>exact Hx hs hsl op t u x y ho h hc
 |unOp op t x=>exact IE hs hsl op t x ho h
 |convert src dst x=>exact yO hs hsl src dst x ho h hc
 |makeSlice t x y=>exact uH hs hsl t x y ho h hc
 |slice t x lo hi mx=>
  cases mx with
  |none=>exact DD hs hsl t x lo hi ho h hc
  |some m=>simp only [bc] at h;cases h
 |fieldAddr t x f=>exact uF hs hsl t x f ho h
 |field t x f=>exact DB hs hsl t x f ho h
 |indexAddr t x i=>exact uG hs hsl t x i ho h hc
 |index t x i=>exact DC hs hsl t x i ho h hc
 |extract x i=>exact yN hs hsl x i ho h
 |makeFunc f first caps=>
  cases f with
  |func f=>exact wm hs hsl f first caps ho h
  |_=>simp only [bc] at h;cases h
 |call c=>
  obtain⟨callee,args,at_⟩:=c
  cases callee with
  |builtin b=>
   cases b with
   |len=>exact Hy hs hsl args at_ ho h
   |append=>exact BN hs hsl args at_ ho h hc
   |min=>exact Hz hs hsl args at_ ho h
   |max=>exact HC hs hsl args at_ ho h
   |_=>simp only [bc] at h;cases h
  |_=>simp only [bc] at h;cases h
 |_=>simp only [bc] at h;cases h
structure Entry where
 β:Be
 h:Hp
 w:World
structure Sim (E:Entry) (β:Be) (s:S) (a:Act) (w:World):Prop where
 dfr:a.defers=[]
 sl:SlotsR β s.sl a.tmps
 hp:HSim β s.hp w
 ent:E.β.length=E.h.length
 st:StepR E.β β E.h s.hp E.w w
def pF (P:Program) (f:FuncId):Prop:=∃ fn,P.funcs[f]? =some fn/\(fn.name == "runtime.NumGoroutine")=false/\fn.body.isNone=false
def dJ (P:Program) (f:FuncId) (args:List AV) (h:Hp) (res:AV) (h':Hp):Prop:=
 pF P f/\∀ β w vs,HSim β h w->L2 (dZ β) args vs->Calls P f vs.toArray w fun e w'=>∃ β' v,e=.returned v/\dZ β' res v/\HSim β' h' w'/\StepR β β' h h' w w'
def AY (P:Program) (E:Entry) (f:FuncId) (args:List AV) (h:Hp) (res:AV) (h':Hp):Prop:=
 pF P f/\∀ β w vs,E.β.length=E.h.length->StepR E.β β E.h h E.w w->HSim β h w->L2 (dZ β) args vs->Calls P f vs.toArray w fun e w'=>∃ β' v,e=.returned v/\dZ β' res v/\HSim β' h' w'/\StepR β β' h h' w w'
theorem dJ.e {P:Program} {E:Entry} {f:FuncId} {args:List AV} {h:Hp} {res:AV} {h':Hp} (ct:dJ P f args h res h'):AY P E f args h res h':=
 ⟨ct.1,fun β w vs _ _ hs hv=>ct.2 β w vs hs hv⟩
def tp (P:Program) (E:Entry) (f:FuncId) (args:List AV) (h:Hp) (R:AV->Hp->Prop):Prop:=
 pF P f/\∀ β w vs,E.β.length=E.h.length->StepR E.β β E.h h E.w w->HSim β h w->L2 (dZ β) args vs->Calls P f vs.toArray w fun e w'=>∃ res h',R res h'/\∃ β' v,e=.returned v/\dZ β' res v/\HSim β' h' w'/\StepR β β' h h' w w'
theorem AY.r {P:Program} {E:Entry} {f:FuncId} {args:List AV} {h:Hp} {res:AV} {h':Hp} {R:AV->Hp->Prop} (ct:AY P E f args h res h') (hR:R res h'):tp P E f args h R:=
 ⟨ct.1,fun β w vs h1 h2 h3 h4=>(ct.2 β w vs h1 h2 h3 h4).mono fun e w' hh=>⟨res,h',hR,hh⟩⟩
def S.evs (s:S):List Operand->Option (List AV)
 |[]=>some []
 |x::r=>match s.ev x,s.evs r with
  |some v,some l=>some (v::l)
  |_,_=>none
theorem AZ {β:Be} {s:S} {a:Act} (hs:SlotsR β s.sl a.tmps):∀ {xs:List Operand} {l:List AV},s.evs xs=some l->L2 (dZ β) l (xs.map a.eval)
 |[],l,h=>by simp only [S.evs,Option.some.injEq] at h;subst h;trivial
 |x::r,l,h=>by
  simp only [S.evs] at h
  split at h
  ·rename_i v m hv hm
   simp only [Option.some.injEq] at h
   subst h
   exact⟨cy hs hv,AZ hs hm⟩
  cases h
def jq:List Sc->List AV
 |[]=>[]
 |c::r=>.sc c::jq r
theorem oU {β:Be}:∀ {l:List Sc} {vs:List Value},L2 (ScR β) l vs->L2 (dZ β) (jq l) vs
 |[],[],_=>trivial
 |_::_,_::_,h=>⟨h.1,oU h.2⟩
 |[],_::_,h=>h.elim
 |_::_,[],h=>h.elim
def dF (r:Array Oper) (s:S) (o:Oper):Option Bool:=
 match o.guard with
 |none=>some true
 |some (j,want)=>match r[j]? with
  |some oj=>match oj.dst with
   |some d=>match s.sl.get d with
    |some (.sc (.bo b))=>some (b == want)
    |some (.tu [])=>some false
    |_=>none
   |none=>none
  |none=>none
theorem iI {β:Be} {r:Array Oper} {s:S} {a:Act} {o:Oper} {b:Bool} (hs:SlotsR β s.sl a.tmps) (h:dF r s o=some b):Region.wanted o (yielded r a.tmps)=b:=by
 unfold dF at h
 unfold Region.wanted
 split at h
 ·rename_i hg
  simp only [Option.some.injEq] at h
  subst h
  rw [hg]
 rename_i j want hg
 rw [hg]
 dsimp only
 split at h
 ·rename_i oj hj
  split at h
  ·rename_i d hd
   split at h
   ·rename_i x hx
    obtain⟨u,hu,hr⟩:=hs.2 d _ hx
    have hu':u=.bool x:=hr
    subst hu'
    simp only [Option.some.injEq] at h
    subst h
    simp only [yielded,hj,hd,Option.bind_some,hu]
    cases x<;>cases want<;>rfl
   ·rename_i hx
    obtain⟨u,hu,vs,hr,hl⟩:=hs.2 d _ hx
    simp only [Option.some.injEq] at h
    subst h
    cases vs with
    |nil=>
     subst hr
     simp [yielded,hj,hd,hu]
    |cons=>exact hl.elim
   cases h
  cases h
 cases h
def uI (P:Program) (E:Entry) (r:Array Oper) (l:List Oper) (s:S) (K:S->Prop):Prop:=
 ∀ β a w,Sim E β s a w->∀ Q:Exit->Act->World->Prop,(∀ s' β' a' w',K s'->Sim E β' s' a' w'->Q .normal a' w')->wpList P r Q l a w
def mP (P:Program) (E:Entry) (C:Code) (s:S) (K:Exit->S->Prop):Prop:=
 ∀ β a w,Sim E β s a w->∀ Q:Exit->Act->World->Prop,(∀ e s' β' a' w',K e s'->Sim E β' s' a' w'->Q e a' w')->C.wp P Q a w
theorem gf {E:Entry} {β β':Be} {s:S} {a:Act} {w w':World} {h':Hp} (hs:Sim E β s a w) (hst:StepR β β' s.hp h' w w') (hh:HSim β' h' w') (d:Option Tmp) {av:AV} {v:Value} (hv:dZ β' av v):
  Sim E β' (s.put d (some av) h') (a.put d v) w':=by
 have hstep:StepR E.β β' E.h h' E.w w':=StepR.trans hs.ent hs.hp.len hs.st hst
 cases d with
 |none=>exact⟨hs.dfr,hs.sl.mono hst.le,hh,hs.ent,hstep⟩
 |some d=>exact⟨hs.dfr,(hs.sl.mono hst.le).put d hv,hh,hs.ent,hstep⟩
theorem js {E:Entry} {β β':Be} {s:S} {a:Act} {w w':World} {h':Hp} (hs:Sim E β s a w) (hst:StepR β β' s.hp h' w w') (hh:HSim β' h' w') (d:Option Tmp) (v:Value):
  Sim E β' (s.put d none h') (a.put d v) w':=by
 have hstep:StepR E.β β' E.h h' E.w w':=StepR.trans hs.ent hs.hp.len hs.st hst
 cases d with
 |none=>exact⟨hs.dfr,hs.sl.mono hst.le,hh,hs.ent,hstep⟩
 |some d=>exact⟨hs.dfr,(hs.sl.mono hst.le).putNone d v,hh,hs.ent,hstep⟩
theorem pG {P:Program} {ops:Array Oper} {Q:Exit->Act->World->Prop} {o:Oper} {l:List Oper} {a:Act} {w:World} (hg:Region.wanted o (yielded ops a.tmps)=true) (h:o.wp P a w (wpList P ops Q l) Q):wpList P ops Q (o::l) a w:=by
 unfold wpList
 rw [if_pos hg]
 exact .inl h
theorem wq {P:Program} {ops:Array Oper} {Q:Exit->Act->World->Prop} {o:Oper} {l:List Oper} {a:Act} {w:World} (hg:Region.wanted o (yielded ops a.tmps)=false) (h:wpList P ops Q l (a.put o.dst undef) w):wpList P ops Q (o::l) a w:=by
 unfold wpList
 rw [if_neg (by simp [hg])]
 exact h
theorem DE {P:Program} {E:Entry} {r:Array Oper} {s:S} {K:S->Prop} (h:K s):uI P E r [] s K:=fun β a w hs Q hQ=>hQ s β a w h hs
theorem FT {P:Program} {E:Entry} {r:Array Oper} {o:Oper} {l:List Oper} {s:S} {K:S->Prop} {x:OpR} (hg:dF r s o=some true) (h:bc P s o.type o.op=some x) (hc:x.c) (hk:uI P E r l (s.put o.dst x.v x.hp) K):uI P E r (o::l) s K:=by
 intro β a w hs Q hQ
 refine pG (iI hs.sl hg) ?_
 unfold Oper.wp
 obtain⟨β',w',hst,hh,hx⟩:=mO hs.hp hs.sl h hc
 rcases hx with⟨v,av,hrun,hv,hr⟩|⟨hrun,hv⟩
 ·rw [hrun]
  rw [hv] at hk
  exact hk β' _ w' (gf hs hst hh o.dst hr) Q hQ
 rw [hrun]
 rw [hv] at hk
 exact hk β' _ w' (js hs hst hh o.dst undef) Q hQ
theorem BO {P:Program} {E:Entry} {r:Array Oper} {o:Oper} {l:List Oper} {s:S} {K:S->Prop} (hg:dF r s o=some false) (hk:uI P E r l (s.put o.dst (some (.tu [])) s.hp) K):uI P E r (o::l) s K:=by
 intro β a w hs Q hQ
 refine wq (iI hs.sl hg) ?_
 exact hk β _ w (gf hs (StepR.refl β s.hp w hs.hp.len) hs.hp o.dst ⟨[],rfl,trivial⟩) Q hQ
theorem BP {P:Program} {E:Entry} {r:Array Oper} {o:Oper} {l:List Oper} {s:S} {K:S->Prop} {x:Operand} {args:Array Operand} {at_:Array TypeId} {f:Nat} {caps:List Sc} {avs:List AV}
  (hg:dF r s o=some true) (ho:o.op=.call ⟨.value x,args,at_⟩) (hx:s.ev x=some (.cl f caps)) (ha:s.evs args.toList=some avs) (hc:tp P E f (avs++jq caps) s.hp fun res h'=>uI P E r l (s.put o.dst (some res) h') K):uI P E r (o::l) s K:=by
 intro β a w hs Q hQ
 refine pG (iI hs.sl hg) ?_
 obtain⟨⟨fn,hfn,hname,hbody⟩,hcall⟩:=hc
 obtain⟨cvs,hxe,hcl⟩:dZ β (.cl f caps) (a.eval x):=cy hs.sl hx
 have hav:=AZ hs.sl ha
 have hvs:L2 (dZ β) (avs++jq caps) (args.toList.map a.eval++cvs):=hav.append (oU hcl)
 have hrun:(execOp a.eval o).run P w=.ok (.enter f (args.toList.map a.eval++cvs).toArray) w:=by
  unfold execOp
  rw [ho]
  have e1:args.map a.eval=(args.toList.map a.eval).toArray:=by apply Array.ext';simp
  have hname':¬ fn.name= "runtime.NumGoroutine":=by simpa using hname
  simp only [resolve,hxe,Deferred.ofValue,invoke,callFunc,K3,run_program,K8,K2,hfn,e1]
  simp [hname',hbody]
 unfold Oper.wp
 rw [hrun]
 rw [Oper.upon_enter]
 refine (hcall β w _ hs.ent hs.st hs.hp hvs).mono fun e w' ⟨res,h',hk,β',v,he,hr,hh,hst⟩=>?_
 subst he
 exact hk β' _ w' (gf hs hst hh o.dst hr) Q hQ
inductive dP where
 |code (c:Code)
 |ops (r:Array Oper) (l:List Oper)
 |inB (id:Nat)
 |hook (N:S->Prop)
def KK (P:Program) (E:Entry) (F:Exit->S->Prop):List dP->Exit->S->Prop
 |[],e,s=>F e s
 | .code c::k,.normal,s=>mP P E c s (KK P E F k)
 | .code _::k,e,s=>KK P E F k e s
 | .ops r l::k,.normal,s=>uI P E r l s (KK P E F k .normal)
 | .ops _ _::k,e,s=>KK P E F k e s
 | .inB id::k,.exit id',s=>if id'=id then KK P E F k .normal s else KK P E F k (.exit id') s
 | .inB _::k,e,s=>KK P E F k e s
 | .hook N::k,.normal,s=>N s
 | .hook _::k,e,s=>KK P E F k e s
theorem d9 {P:Program} {E:Entry} {C:Code} {s:S} {K K':Exit->S->Prop} (h:mP P E C s K) (hk:∀ e s,K e s->K' e s):mP P E C s K':=
 fun β a w hs Q hQ=>h β a w hs Q fun e s' β' a' w' hK=>hQ e s' β' a' w' (hk _ _ hK)
theorem DF {P:Program} {E:Entry} {s:S} {K:Exit->S->Prop} (h:K .normal s):mP P E .skip s K:=fun β a w hs Q hQ=>wp_skip (hQ .normal s β a w h hs)
theorem FU {P:Program} {E:Entry} {s:S} {K:Exit->S->Prop} (h:K .ret s):mP P E .ret s K:=fun β a w hs Q hQ=>wp_ret (hQ .ret s β a w h hs)
theorem DG {P:Program} {E:Entry} {s:S} {id:Nat} {K:Exit->S->Prop} (h:K (.exit id) s):mP P E (.exit id) s K:=fun β a w hs Q hQ=>wp_exit (hQ (.exit id) s β a w h hs)
theorem FV {P:Program} {E:Entry} {x y:Code} {s:S} {K:Exit->S->Prop} (h:mP P E x s fun e s'=>match e with| .normal=>mP P E y s' K|e=>K e s'):mP P E (.seq x y) s K:=
 fun β a w hs Q hQ=>wp_seq (h β a w hs _ fun e s' β' a' w' hK hs'=>by
  cases e with
  |normal=>exact hK β' a' w' hs' Q hQ
  |_=>exact hQ _ s' β' a' w' hK hs')
theorem wu {P:Program} {E:Entry} {t:Operand} {x y:Code} {s:S} {b:Bool} {K:Exit->S->Prop} (ht:s.ev t=some (.sc (.bo b))) (h:mP P E (if b then x else y) s K):mP P E (.cond t x y) s K:=
 fun β a w hs Q hQ=>wp_cond (t:=b) (show a.eval t=.bool b from cy hs.sl ht) (h β a w hs Q hQ)
theorem BQ {P:Program} {E:Entry} {id:Nat} {x:Code} {s:S} {K:Exit->S->Prop} (h:mP P E x s fun e s'=>match e with| .exit id'=>if id'=id then K .normal s' else K (.exit id') s'|e=>K e s'):mP P E (.block id x) s K:=
 fun β a w hs Q hQ=>wp_block (h β a w hs _ fun e s' β' a' w' hK hs'=>by
  cases e with
  |exit id'=>
   simp only [Exit.inBlock]
   dsimp only at hK
   split at hK
   ·rename_i he;rw [if_pos he];exact hQ _ s' β' a' w' hK hs'
   rename_i he;rw [if_neg he];exact hQ _ s' β' a' w' hK hs'
  |_=>exact hQ _ s' β' a' w' hK hs')
theorem yR {P:Program} {E:Entry} {id:Nat} {r:Array Oper} {s:S} {K:Exit->S->Prop} (h:uI P E r r.toList s (K .normal)):mP P E (.region id r false) s K:=
 fun β a w hs Q hQ=>wp_region_list (h β a w hs Q fun s' β' a' w' hK hs'=>hQ .normal s' β' a' w' hK hs')
theorem wv {P:Program} {E:Entry} {c:Code} {s:S} {K:Exit->S->Prop} (I:S->Prop) (μ:S->Nat->Prop) (n₀:Nat) (h0:I s/\μ s n₀)
  (h:∀ s n,I s->μ s n->mP P E c s fun e s'=>match e with| .normal=>I s'/\∃ m,m < n/\μ s' m|e=>K e s'):mP P E (.loop c) s K:=by
 intro β a w hs Q hQ b k cs
 have key:∀ (n:Nat) (s:S) (β:Be) (a:Act) (w:World),I s->μ s n->Sim E β s a w->
   ∃ e a' w',Q e a' w'/\Arrives P (lone (b.at a (.code c::.inLoop c::k)) cs w) b k cs e a' w':=by
  intro n
  induction n using Nat.strongRecOn with
  |_ n ih=>
   intro s β a w hI hm hs
   obtain⟨e,a₁,w₁,hq,harr⟩:=h s n hI hm β a w hs (Exit.then (fun a' w'=>∃ s' β' m,I s'/\m < n/\μ s' m/\Sim E β' s' a' w') Q) (fun e s' β' a' w' hK hs'=>by
    cases e with
    |normal=>
     obtain⟨hI',m,hlt,hm'⟩:=hK
     exact⟨s',β',m,hI',hlt,hm',hs'⟩
    |_=>exact hQ _ s' β' a' w' hK hs') b (.inLoop c::k) cs
   cases e with
   |normal=>
    obtain⟨s',β',m,hI',hlt,hm',hs'⟩:=hq
    obtain⟨e₂,a₂,w₂,hq₂,harr₂⟩:=ih m hlt s' β' a₁ w₁ hI' hm' hs'
    exact⟨e₂,a₂,w₂,hq₂,.of_steps (Steps.trans harr (.one step_inLoop)) harr₂⟩
   |exit id=>exact⟨_,a₁,w₁,hq,.pass (x:=.inLoop c) rfl (fun _ _=>.inl zP) harr⟩
   |goto l=>exact⟨_,a₁,w₁,hq,.pass (x:=.inLoop c) rfl (fun _ _=>.inl zP) harr⟩
   |ret=>exact⟨_,a₁,w₁,hq,.pass (x:=.inLoop c) rfl (fun _ _=>.inl zP) harr⟩
   |panic ch=>exact⟨_,a₁,w₁,hq,.pass (x:=.inLoop c) rfl (fun _ _=>.inl zP) harr⟩
   |outgrown=>exact⟨_,a₁,w₁,hq,.pass (x:=.inLoop c) rfl (fun _ _=>.inl zP) harr⟩
 obtain⟨e,a',w',hq,harr⟩:=key n₀ s β a w h0.1 h0.2 hs
 exact⟨e,a',w',hq,.of_steps (.one step_loop) harr⟩
end
end Go.Proofs.YtdiiopjaebnmfaaGreat
