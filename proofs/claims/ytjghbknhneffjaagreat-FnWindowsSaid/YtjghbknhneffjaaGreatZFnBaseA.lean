/-
  Texts merged for this claim by shake.py: what its proof needs.
-/
import Derived.Tactics
import Derived.Below
import Derived.Laws.AppendOwn
import Derived.Laws.OwnMore
import Derived.Laws.Slices
import Derived.Laws.Small
import Derived.Laws.Strings
import Derived.KernelRfl
import Derived.Laws.MakeOwn
import Derived.Laws.BytesString
import Derived.Laws.BytesArg
import Derived.Laws.Build
import Derived.Laws.Concat
import Derived.Laws.StructEq
import Derived.Lib.ConvBytes
import Derived.Orders
import Derived.WalkKit
import Derived.ProofKit
import Derived.ShutString
import Derived.OpenShut
import Derived.ChangeOld
import Derived.Carry
import Derived.Test.YtjghbknhneffjaaGreatChecked
import Derived.Laws.BitsLemmas
import Derived.JoinedOf
set_option maxHeartbeats 16000000
set_option maxRecDepth 100000
set_option linter.unusedVariables false
set_option linter.unusedSimpArgs false
namespace Go.Proofs.YtjghbknhneffjaaGreat
section
open Go.RowKit
def L2 {α β:Type} (R:α->β->Prop):List α->List β->Prop
 |[],[]=>True
 |a::l,b::m=>R a b/\L2 R l m
 |_,_=>False
theorem L2.length {α β:Type} {R:α->β->Prop}:∀ {l:List α} {m:List β},L2 R l m->l.length=m.length
 |[],[],_=>rfl
 |_::_,_::_,h=>by simp [L2.length h.2]
 |[],_::_,h=>h.elim
 |_::_,[],h=>h.elim
theorem L2.get {α β:Type} {R:α->β->Prop}:∀ {l:List α} {m:List β},L2 R l m->∀ {i:Nat} {x:α},l[i]? =some x->∃ y,m[i]? =some y/\R x y
 |[],[],_,i,x,h=>by simp at h
 |a::l,b::m,h,0,x,hx=>by simp at hx;subst hx;exact⟨b,by simp,h.1⟩
 |a::l,b::m,h,i+1,x,hx=>by simp at hx;obtain⟨y,hy,hr⟩:=L2.get h.2 hx;exact⟨y,by simpa using hy,hr⟩
 |[],_::_,h,_,_,_=>h.elim
 |_::_,[],h,_,_,_=>h.elim
theorem L2.mono {α β:Type} {R S:α->β->Prop} (hrs:∀ a b,R a b->S a b):∀ {l:List α} {m:List β},L2 R l m->L2 S l m
 |[],[],_=>trivial
 |_::_,_::_,h=>⟨hrs _ _ h.1,L2.mono hrs h.2⟩
 |[],_::_,h=>h.elim
 |_::_,[],h=>h.elim
theorem L2.of_get {α β:Type} {R:α->β->Prop}:∀ {l:List α} {m:List β},l.length=m.length->(∀ (i:Nat) (x:α) (y:β),l[i]? =some x->m[i]? =some y->R x y)->L2 R l m
 |[],[],_,_=>trivial
 |a::l,b::m,hl,h=>⟨h 0 a b (by simp) (by simp),L2.of_get (by simpa using hl) (fun i x y hx hy=>h (i+1) x y (by simpa using hx) (by simpa using hy))⟩
 |[],_::_,hl,_=>by simp at hl
 |_::_,[],hl,_=>by simp at hl
theorem L2.append {α β:Type} {R:α->β->Prop}:∀ {l:List α} {m:List β} {l':List α} {m':List β},L2 R l m->L2 R l' m'->L2 R (l++l') (m++m')
 |[],[],_,_,_,h=>h
 |_::_,_::_,_,_,h,h'=>⟨h.1,L2.append h.2 h'⟩
 |[],_::_,_,_,h,_=>h.elim
 |_::_,[],_,_,h,_=>h.elim
theorem L2.take {α β:Type} {R:α->β->Prop}:∀ {l:List α} {m:List β} (n:Nat),L2 R l m->L2 R (l.take n) (m.take n)
 |_,_,0,_=>by simp [L2]
 |[],[],_+1,_=>by simp [L2]
 |_::_,_::_,n+1,h=>⟨h.1,L2.take n h.2⟩
 |[],_::_,_,h=>h.elim
 |_::_,[],_,h=>h.elim
theorem L2.drop {α β:Type} {R:α->β->Prop}:∀ {l:List α} {m:List β} (n:Nat),L2 R l m->L2 R (l.drop n) (m.drop n)
 |_,_,0,h=>by simpa using h
 |[],[],_+1,_=>by simp [L2]
 |_::_,_::_,n+1,h=>by simpa using L2.drop n h.2
 |[],_::_,_,h=>h.elim
 |_::_,[],_,h=>h.elim
theorem L2.map {α β γ:Type} {R:α->β->Prop} {S:γ->β->Prop} {f:α->γ} (hf:∀ a b,R a b->S (f a) b):∀ {l:List α} {m:List β},L2 R l m->L2 S (l.map f) m
 |[],[],_=>trivial
 |_::_,_::_,h=>⟨hf _ _ h.1,L2.map hf h.2⟩
 |[],_::_,h=>h.elim
 |_::_,[],h=>h.elim
inductive Sc where
 |int (k:IntKind) (n:Int)
 |bo (b:Bool)
 |st (l:List UInt8)
 |nil
 |sl (o off len:Nat)
 |pt (o k j:Nat)
 |un
inductive Co where
 |sc (s:Sc)
 |ag (cs:List Sc)
inductive AV where
 |sc (s:Sc)
 |ag (cs:List Sc)
 |tu (l:List Co)
 |cl (f:Nat) (caps:List Sc)
def Co.av:Co->AV
 | .sc s=>.sc s
 | .ag cs=>.ag cs
def AV.cells:AV->Option (List Sc)
 | .sc s=>some [s]
 | .ag cs=>some cs
 |_=>none
structure Pl where
 blk:Nat
 base:Nat
 esz:Nat
 avail:Nat
abbrev Be:=List (Option Pl)
def ScR (β:Be):Sc->Value->Prop
 | .int k n,v=>v=.int k n
 | .bo b,v=>v=.bool b
 | .st l,v=>v=.string ⟨l.toArray⟩
 | .nil,v=>∃ a,v=.slice a 0 0
 | .sl o off len,v=>∃ a cap,v=.slice a len cap/\len<=cap/\cap<=maxLen/\
   (cap=0\/∃ p,β[o]? =some (some p)/\a=some ⟨p.blk,p.base+off*p.esz,none⟩/\(off+cap)*p.esz<=p.avail)
 | .pt o k j,v=>∃ p,β[o]? =some (some p)/\v=.pointer (some ⟨p.blk,p.base+k*p.esz+j,none⟩)
 | .un,v=>∃ p,v=.pointer p
def sS (β:Be):Co->Value->Prop
 | .sc s,v=>ScR β s v
 | .ag cs,v=>∃ vs:List Value,v=.agg vs.toArray/\L2 (ScR β) cs vs
def dG (β:Be):AV->Value->Prop
 | .sc s,v=>ScR β s v
 | .ag cs,v=>∃ vs:List Value,v=.agg vs.toArray/\L2 (ScR β) cs vs
 | .tu l,v=>∃ vs:List Value,v=.tuple vs.toArray/\L2 (sS β) l vs
 | .cl f caps,v=>∃ vs:List Value,v=.func (.func f) #[] vs.toArray/\L2 (ScR β) caps vs
def Be.le (β β':Be):Prop:=∀ (o:Nat) (p:Option Pl),β[o]? =some p->β'[o]? =some p
theorem Be.le.refl (β:Be):Be.le β β:=fun _ _ h=>h
theorem Be.le.trans {a b c:Be} (h:Be.le a b) (k:Be.le b c):Be.le a c:=fun o p hp=>k o p (h o p hp)
theorem Be.le_append (β l:Be):Be.le β (β++l):=fun o p h=>by
 have hlt:o < β.length:=(List.getElem?_eq_some_iff.1 h).1
 rw [List.getElem?_append_left hlt];exact h
theorem ScR.mono {β β':Be} (h:Be.le β β'):∀ {s:Sc} {v:Value},ScR β s v->ScR β' s v
 | .int ..,_,hv=>hv
 | .bo ..,_,hv=>hv
 | .st ..,_,hv=>hv
 | .nil,_,hv=>hv
 | .un,_,hv=>hv
 | .sl ..,_,⟨a,cap,hv,h1,h2,h3⟩=>⟨a,cap,hv,h1,h2,h3.imp id fun⟨p,hp,r⟩=>⟨p,h _ _ hp,r⟩⟩
 | .pt ..,_,⟨p,hp,hv⟩=>⟨p,h _ _ hp,hv⟩
theorem sS.mono {β β':Be} (h:Be.le β β'):∀ {s:Co} {v:Value},sS β s v->sS β' s v
 | .sc _,_,hv=>ScR.mono h hv
 | .ag _,_,⟨vs,hv,hl⟩=>⟨vs,hv,hl.mono fun _ _=>ScR.mono h⟩
theorem dG.mono {β β':Be} (h:Be.le β β'):∀ {s:AV} {v:Value},dG β s v->dG β' s v
 | .sc _,_,hv=>ScR.mono h hv
 | .ag _,_,⟨vs,hv,hl⟩=>⟨vs,hv,hl.mono fun _ _=>ScR.mono h⟩
 | .tu _,_,⟨vs,hv,hl⟩=>⟨vs,hv,hl.mono fun _ _=>sS.mono h⟩
 | .cl ..,_,⟨vs,hv,hl⟩=>⟨vs,hv,hl.mono fun _ _=>ScR.mono h⟩
theorem Co.av_R {β:Be} {c:Co} {v:Value} (h:sS β c v):dG β c.av v:=by cases c<;>exact h
theorem ScR.one {β:Be} {s:Sc} {v:Value} (h:ScR β s v):v.oneCell'=true:=by
 cases s with
 |int k n=>subst h;rfl
 |bo b=>subst h;rfl
 |st l=>subst h;rfl
 |nil=>obtain⟨a,rfl⟩:=h;rfl
 |sl o off len=>obtain⟨a,cap,rfl,_⟩:=h;rfl
 |pt o k j=>obtain⟨p,_,rfl⟩:=h;rfl
 |un=>obtain⟨p,rfl⟩:=h;rfl
theorem ScR.cells {β:Be} {s:Sc} {v:Value} (h:ScR β s v):v.cells= #[v]:=by
 cases s with
 |int k n=>subst h;rfl
 |bo b=>subst h;rfl
 |st l=>subst h;rfl
 |nil=>obtain⟨a,rfl⟩:=h;rfl
 |sl o off len=>obtain⟨a,cap,rfl,_⟩:=h;rfl
 |pt o k j=>obtain⟨p,_,rfl⟩:=h;rfl
 |un=>obtain⟨p,rfl⟩:=h;rfl
theorem dG.cells {β:Be} {x:AV} {cs:List Sc} {v:Value} (hc:x.cells=some cs) (h:dG β x v):∃ vs:List Value,v.cells=vs.toArray/\L2 (ScR β) cs vs:=by
 cases x with
 |sc s=>
  simp only [AV.cells,Option.some.injEq] at hc
  subst hc
  exact⟨[v],by rw [ScR.cells h],⟨h,trivial⟩⟩
 |ag l=>
  simp only [AV.cells,Option.some.injEq] at hc
  subst hc
  obtain⟨vs,rfl,hl⟩:=h
  exact⟨vs,rfl,hl⟩
 |tu l=>simp [AV.cells] at hc
 |cl f l=>simp [AV.cells] at hc
theorem L2.one {β:Be} {cs:List Sc} {vs:List Value} (h:L2 (ScR β) cs vs):∀ v∈vs,v.oneCell'=true:=by
 induction cs generalizing vs with
 |nil=>cases vs with
  |nil=>simp
  |cons=>exact h.elim
 |cons s l ih=>cases vs with
  |nil=>simp
  |cons v m=>
   intro x hx
   rcases List.mem_cons.1 hx with rfl|hx
   ·exact h.1.one
   exact ih h.2 x hx
structure AObj where
 cs:List (List Sc)
 esz:Nat
 ty:TypeId
 own:Bool
 fl:Bool
def Sc.isFlat:Sc->Bool
 | .int .. | .bo _| .st _=>true
 |_=>false
def eZ:List Sc->Bool
 |[]=>true
 |s::l=>s.isFlat && eZ l
def FlatL (cs:List (List Sc)):Prop:=∀ c∈cs,eZ c=true
abbrev Hp:=List (Option AObj)
def bY (β:Be) (arr:Array Value) (base esz:Nat) (cs:List (List Sc)):Prop:=
 ∀ k c,cs[k]? =some c->c.length=esz/\∀ j s,c[j]? =some s->∃ v,arr[base+k*esz+j]? =some v/\ScR β s v
def ObR (β:Be) (w:World) (p:Option Pl) (ob:AObj):Prop:=
 match p with
 |none=>ob.cs=[]
 |some p=>p.esz=ob.esz/\∃ arr T fz,w.heap[p.blk]? =some (.cells arr T fz)/\bY β arr p.base ob.esz ob.cs/\
   (ob.own=true->T=ob.ty/\fz=(0,0)/\p.base=0/\p.avail=arr.size)
structure HSim (β:Be) (h:Hp) (w:World):Prop where
 len:β.length=h.length
 ob:∀ (o:Nat) (ob:AObj),h[o]? =some (some ob)->∃ p,β[o]? =some p/\ObR β w p ob
 flat:∀ (o:Nat) (ob:AObj),h[o]? =some (some ob)->ob.fl=true->FlatL ob.cs
 apart:∀ (o o':Nat) (ob ob':AObj) (p p':Pl),h[o]? =some (some ob)->h[o']? =some (some ob')->ob.own=true->β[o]? =some (some p)->β[o']? =some (some p')->o≠o'->p.blk≠p'.blk
theorem bY.mono {β β':Be} (h:Be.le β β') {arr:Array Value} {base esz:Nat} {cs:List (List Sc)} (hc:bY β arr base esz cs):bY β' arr base esz cs:=
 fun k c hk=>⟨(hc k c hk).1,fun j s hs=>let⟨v,hv,hr⟩:=(hc k c hk).2 j s hs;⟨v,hv,hr.mono h⟩⟩
theorem ObR.mono {β β':Be} (h:Be.le β β') {w:World} {p:Option Pl} {ob:AObj} (ho:ObR β w p ob):ObR β' w p ob:=by
 cases p with
 |none=>exact ho
 |some p=>obtain⟨h1,arr,T,fz,h2,h3,h4⟩:=ho;exact⟨h1,arr,T,fz,h2,h3.mono h,h4⟩
theorem ObR.world {β:Be} {w w':World} {p:Option Pl} {ob:AObj} (ho:ObR β w p ob) (hw:∀ q,p=some q->w'.heap[q.blk]? =w.heap[q.blk]?):ObR β w' p ob:=by
 cases p with
 |none=>exact ho
 |some p=>obtain⟨h1,arr,T,fz,h2,h3,h4⟩:=ho;exact⟨h1,arr,T,fz,(hw p rfl).trans h2,h3,h4⟩
theorem ObR.lt {β:Be} {w:World} {p:Pl} {ob:AObj} (ho:ObR β w (some p) ob):p.blk < w.heap.size:=by
 obtain⟨_,arr,T,fz,h2,_⟩:=ho
 exact (Array.getElem?_eq_some_iff.1 h2).1
theorem sT {β:Be} {h:Hp} {w w':World} (hs:HSim β h w) (hw:∀ k,k < w.heap.size->w'.heap[k]? =w.heap[k]?):HSim β h w':=
 ⟨hs.len,fun o ob ho=>let⟨p,hp,hr⟩:=hs.ob o ob ho;⟨p,hp,hr.world fun q hq=>by subst hq;exact hw _ hr.lt⟩,hs.flat,hs.apart⟩
theorem iR {β:Be} {h:Hp} {w w':World} (hs:HSim β h w) (hw:∀ k,k < w.heap.size->w'.heap[k]? =w.heap[k]?) {ob:AObj} {p:Pl} (hp:w.heap.size<=p.blk)
  (hob:ObR (β++[some p]) w' (some p) ob) (hfl:ob.fl=true->FlatL ob.cs):HSim (β++[some p]) (h++[some ob]) w':=by
 have hs':=sT hs hw
 have hle:=Be.le_append β [some p]
 have key:∀ {o:Nat} {x:AObj},(h++[some ob])[o]? =some (some x)->(o < h.length/\h[o]? =some (some x))\/(o=h.length/\x=ob):=by
  intro o x hx
  rcases Nat.lt_trichotomy o h.length with hlt|he|hgt
  ·rw [List.getElem?_append_left hlt] at hx;exact .inl ⟨hlt,hx⟩
  ·subst he;simp at hx;exact .inr ⟨rfl,hx.symm⟩
  rw [List.getElem?_append_right (by omega)] at hx
  rw [List.getElem?_eq_none (by simp;omega)] at hx
  cases hx
 have kb:∀ {o:Nat} {q:Option Pl},o < h.length->(β++[some p])[o]? =some q->β[o]? =some q:=by
  intro o q ho hq
  rwa [List.getElem?_append_left (by rw [hs.len];exact ho)] at hq
 have kn:(β++[some p])[h.length]? =some (some p):=by rw [<-hs.len];simp
 have lt:∀ {o:Nat} {x:AObj} {q:Pl},h[o]? =some (some x)->β[o]? =some (some q)->q.blk < w.heap.size:=by
  intro o x q hx hq
  obtain⟨p',hp',hr⟩:=hs.ob o x hx
  rw [hq] at hp'
  cases hp'
  exact hr.lt
 refine⟨by simp [hs.len],fun o x hx=>?_,fun o x hx hf=>by rcases key hx with⟨_,hx⟩|⟨_,rfl⟩;exact hs.flat o x hx hf;exact hfl hf,fun o o' x x' q q' hx hx' hown hq hq' hne=>?_⟩
 ·rcases key hx with⟨hlt,hx⟩|⟨rfl,rfl⟩
  ·obtain⟨q,hq,hr⟩:=hs'.ob o x hx
   exact⟨q,hle _ _ hq,hr.mono hle⟩
  exact⟨some p,kn,hob⟩
 rcases key hx with⟨hlt,h1⟩|⟨rfl,rfl⟩
 ·rcases key hx' with⟨hlt',h1'⟩|⟨rfl,rfl⟩
  ·exact hs.apart o o' x x' q q' h1 h1' hown (kb hlt hq) (kb hlt' hq') hne
  rw [kn] at hq'
  simp only [Option.some.injEq] at hq'
  subst hq'
  have:=lt h1 (kb hlt hq)
  omega
 rw [kn] at hq
 simp only [Option.some.injEq] at hq
 subst hq
 rcases key hx' with⟨hlt',h1'⟩|⟨rfl,rfl⟩
 ·have:=lt h1' (kb hlt' hq')
  omega
 exact absurd rfl hne
theorem od {β:Be} {h:Hp} {w:World} (hs:HSim β h w) {ob:AObj} (hob:ob.cs=[]):HSim (β++[none]) (h++[some ob]) w:=by
 have hle:=Be.le_append β [none]
 have key:∀ {o:Nat} {x:AObj},(h++[some ob])[o]? =some (some x)->(o < h.length/\h[o]? =some (some x))\/(o=h.length/\x=ob):=by
  intro o x hx
  rcases Nat.lt_trichotomy o h.length with hlt|he|hgt
  ·rw [List.getElem?_append_left hlt] at hx;exact .inl ⟨hlt,hx⟩
  ·subst he;simp at hx;exact .inr ⟨rfl,hx.symm⟩
  rw [List.getElem?_append_right (by omega)] at hx
  rw [List.getElem?_eq_none (by simp;omega)] at hx
  cases hx
 have kb:∀ {o:Nat} {q:Option Pl},o < h.length->(β++[none])[o]? =some q->β[o]? =some q:=by
  intro o q ho hq
  rwa [List.getElem?_append_left (by rw [hs.len];exact ho)] at hq
 have kn:(β++[none])[h.length]? =some none:=by rw [<-hs.len];simp
 refine⟨by simp [hs.len],fun o x hx=>?_,fun o x hx hf=>(by rcases key hx with⟨_,hx⟩|⟨_,rfl⟩;exact hs.flat o x hx hf;rw [hob];intro c hc;cases hc),fun o o' x x' q q' hx hx' hown hq hq' hne=>?_⟩
 ·rcases key hx with⟨hlt,hx⟩|⟨rfl,rfl⟩
  ·obtain⟨q,hq,hr⟩:=hs.ob o x hx
   exact⟨q,hle _ _ hq,hr.mono hle⟩
  exact⟨none,kn,hob⟩
 rcases key hx with⟨hlt,h1⟩|⟨rfl,rfl⟩
 ·rcases key hx' with⟨hlt',h1'⟩|⟨rfl,rfl⟩
  ·exact hs.apart o o' x x' q q' h1 h1' hown (kb hlt hq) (kb hlt' hq') hne
  rw [kn] at hq';cases hq'
 rw [kn] at hq;cases hq
theorem vT {β:Be} {h:Hp} {w:World} (hs:HSim β h w) (n:Nat):HSim β (h.set n none) w:=by
 have key:∀ {o:Nat} {x:AObj},(h.set n none)[o]? =some (some x)->h[o]? =some (some x):=by
  intro o x hx
  rw [List.getElem?_set] at hx
  split at hx
  ·split at hx<;>cases hx
  exact hx
 exact⟨by simp [hs.len],fun o x hx=>hs.ob o x (key hx),fun o x hx=>hs.flat o x (key hx),fun o o' x x' q q' hx hx'=>hs.apart o o' x x' q q' (key hx) (key hx')⟩
abbrev Slots:=List (List (Option AV))
def Slots.get (s:Slots) (i:Nat):Option AV:=(s.getD (i / 16) []).getD (i % 16) none
def Slots.put (s:Slots) (i:Nat) (v:Option AV):Slots:=s.set (i / 16) ((s.getD (i / 16) []).set (i % 16) v)
def Slots.has (s:Slots) (i:Nat):Prop:=i % 16 < (s.getD (i / 16) []).length
theorem Slots.put_has (s:Slots) (d i:Nat) (v:Option AV):(s.put d v).has i↔s.has i:=by
 unfold Slots.has Slots.put
 simp only [List.getD_eq_getElem?_getD,List.getElem?_set]
 by_cases he:d / 16=i / 16
 ·rw [if_pos he]
  by_cases hl:d / 16 < s.length
  ·simp [hl,<-he]
  have:s[i / 16]? =none:=List.getElem?_eq_none (by omega)
  simp [hl,this]
 rw [if_neg he]
theorem Slots.get_put (s:Slots) (d i:Nat) (v:Option AV):(s.put d v).get i=if i=d then (if d % 16 < (s.getD (d / 16) []).length then v else none) else s.get i:=by
 unfold Slots.get Slots.put
 simp only [List.getD_eq_getElem?_getD,List.getElem?_set]
 by_cases he:d / 16=i / 16
 ·rw [if_pos he]
  by_cases hl:d / 16 < s.length
  ·simp only [hl,if_true,Option.getD_some,List.getElem?_set]
   by_cases hm:d % 16=i % 16
   ·have hid:i=d:=by omega
    subst hid
    simp only [if_true]
    split<;>simp
   have hid:¬ i=d:=by omega
   simp [hm,hid,he]
  have h1:s[i / 16]? =none:=List.getElem?_eq_none (by omega)
  have h2:s[d / 16]? =none:=List.getElem?_eq_none (by omega)
  simp [hl,h1,h2]
 have hid:¬ i=d:=by intro e;subst e;exact he rfl
 rw [if_neg he,if_neg hid]
def SlotsR (β:Be) (s:Slots) (t:Array Value):Prop:=
 (∀ i,s.has i->i < t.size)/\∀ i v,s.get i=some v->∃ u,t[i]? =some u/\dG β v u
theorem SlotsR.mono {β β':Be} (h:Be.le β β') {s:Slots} {t:Array Value} (hs:SlotsR β s t):SlotsR β' s t:=
 ⟨hs.1,fun i v hv=>let⟨u,hu,hr⟩:=hs.2 i v hv;⟨u,hu,hr.mono h⟩⟩
theorem SlotsR.put {β:Be} {s:Slots} {t:Array Value} (hs:SlotsR β s t) (d:Nat) {v:AV} {u:Value} (hv:dG β v u):SlotsR β (s.put d (some v)) (t.setIfInBounds d u):=by
 refine⟨fun i hi=>by rw [Slots.put_has] at hi;simpa using hs.1 i hi,fun i x hx=>?_⟩
 rw [Slots.get_put] at hx
 by_cases hid:i=d
 ·subst hid
  simp only [if_true] at hx
  split at hx
  ·rename_i hl
   cases hx
   have hlt:=hs.1 i hl
   exact⟨u,by simp [hlt],hv⟩
  cases hx
 rw [if_neg hid] at hx
 obtain⟨y,hy,hr⟩:=hs.2 i x hx
 exact⟨y,by rw [Array.getElem?_setIfInBounds_ne (Ne.symm hid)];exact hy,hr⟩
theorem SlotsR.putNone {β:Be} {s:Slots} {t:Array Value} (hs:SlotsR β s t) (d:Nat) (u:Value):SlotsR β (s.put d none) (t.setIfInBounds d u):=by
 refine⟨fun i hi=>by rw [Slots.put_has] at hi;simpa using hs.1 i hi,fun i x hx=>?_⟩
 rw [Slots.get_put] at hx
 by_cases hid:i=d
 ·subst hid
  simp only [if_true] at hx
  split at hx<;>cases hx
 rw [if_neg hid] at hx
 obtain⟨y,hy,hr⟩:=hs.2 i x hx
 exact⟨y,by rw [Array.getElem?_setIfInBounds_ne (Ne.symm hid)];exact hy,hr⟩
structure S where
 sl:Slots
 hp:Hp
def S.put (s:S) (d:Option Nat) (v:Option AV) (h:Hp):S:=
 match d with
 |some d=>⟨s.sl.put d v,h⟩
 |none=>⟨s.sl,h⟩
def Own (β:Be) (h:Hp) (k:Nat):Prop:=∃ (o:Nat) (ob:AObj) (p:Pl),h[o]? =some (some ob)/\ob.own=true/\β[o]? =some (some p)/\p.blk=k
structure StepR (β β':Be) (h h':Hp) (w w':World):Prop where
 le:Be.le β β'
 os:w'.os=w.os
 tape:w'.tape=w.tape
 output:w'.output=w.output
 size:w.heap.size<=w'.heap.size
 block:∀ k,k < w.heap.size->¬ Own β h k->w'.heap[k]? =w.heap[k]?
 len:h.length<=h'.length
 old:∀ (o:Nat) (ob':AObj),o < h.length->h'[o]? =some (some ob')->∃ ob,h[o]? =some (some ob)/\(ob'.own=true->ob.own=true)
 fresh:∀ (o:Nat) (ob:AObj) (p:Pl),h.length<=o->h'[o]? =some (some ob)->β'[o]? =some (some p)->Own β h p.blk\/w.heap.size<=p.blk
theorem StepR.own {β β':Be} {h h':Hp} {w w':World} (s:StepR β β' h h' w w') (hl:β.length=h.length) {k:Nat} (hk:Own β' h' k):Own β h k\/w.heap.size<=k:=by
 obtain⟨o,ob,p,ho,hown,hp,rfl⟩:=hk
 rcases Nat.lt_or_ge o h.length with hlt|hge
 ·obtain⟨ob0,ho0,h0⟩:=s.old o ob hlt ho
  have hb:∃ q,β[o]? =some q:=⟨β[o]'(by omega),List.getElem?_eq_getElem (by omega)⟩
  obtain⟨q,hq⟩:=hb
  have:=s.le _ _ hq
  rw [hp] at this
  cases this
  exact .inl ⟨o,ob0,p,ho0,h0 hown,hq,rfl⟩
 exact s.fresh o ob p hge ho hp
theorem StepR.refl (β:Be) (h:Hp) (w:World) (hl:β.length=h.length):StepR β β h h w w:=
 ⟨Be.le.refl _,rfl,rfl,rfl,Nat.le_refl _,fun _ _ _=>rfl,Nat.le_refl _,fun o ob _ h=>⟨ob,h,id⟩,fun o ob p ho h1 _=>by
  rw [List.getElem?_eq_none ho] at h1;cases h1⟩
theorem StepR.trans {a b c:Be} {h1 h2 h3:Hp} {w1 w2 w3:World} (la:a.length=h1.length) (lb:b.length=h2.length) (s:StepR a b h1 h2 w1 w2) (t:StepR b c h2 h3 w2 w3):StepR a c h1 h3 w1 w3:=by
 refine⟨s.le.trans t.le,t.os.trans s.os,t.tape.trans s.tape,t.output.trans s.output,Nat.le_trans s.size t.size,fun k hk hn=>?_,Nat.le_trans s.len t.len,fun o ob hlt ho=>?_,fun o ob p hge ho hp=>?_⟩
 ·rw [t.block k (by have:=s.size;omega) (fun hown=>by rcases s.own la hown with h|h;exact hn h;omega)]
  exact s.block k hk hn
 ·obtain⟨ob2,ho2,h2⟩:=t.old o ob (by have:=s.len;omega) ho
  obtain⟨ob1,ho1,h1⟩:=s.old o ob2 hlt ho2
  exact⟨ob1,ho1,fun h=>h1 (h2 h)⟩
 rcases Nat.lt_or_ge o h2.length with hlt|hge2
 ·obtain⟨ob2,ho2,h2'⟩:=t.old o ob hlt ho
  have hq:b[o]? =some (b[o]'(by omega)):=List.getElem?_eq_getElem (by omega)
  have h4:=t.le _ _ hq
  rw [hp] at h4
  simp only [Option.some.injEq] at h4
  rw [<-h4] at hq
  exact s.fresh o ob2 p hge ho2 hq
 rcases t.fresh o ob p hge2 ho hp with h|h
 ·exact s.own la h
 exact .inr (Nat.le_trans s.size h)
def World.like (w w':World):Prop:=w'.os=w.os/\w'.tape=w.tape/\w'.output=w.output
theorem gE {β:Be} {h:Hp} {w w':World} (hl:β.length=h.length) (hlike:World.like w w') (hsz:w.heap.size<=w'.heap.size) (hw:∀ k,k < w.heap.size->w'.heap[k]? =w.heap[k]?) (p:Pl) (ob:AObj) (hp:w.heap.size<=p.blk):
  StepR β (β++[some p]) h (h++[some ob]) w w':=
 ⟨Be.le_append _ _,hlike.1,hlike.2.1,hlike.2.2,hsz,fun k hk _=>hw k hk,by simp,fun o ob' hlt ho=>by
  rw [List.getElem?_append_left hlt] at ho;exact⟨ob',ho,id⟩,fun o ob' q hge ho hq=>by
  have he:o=h.length:=by
   rcases Nat.lt_trichotomy o h.length with h1|h1|h1
   ·omega
   ·exact h1
   rw [List.getElem?_append_right (by omega),List.getElem?_eq_none (by simp;omega)] at ho;cases ho
  subst he
  rw [<-hl] at hq
  simp at hq
  subst hq
  exact .inr hp⟩
def bZ (P:Program) (t:TypeId):Nat:=((P.info? t).map (·.size)).getD 0
def Cd (P:Program) (t:TypeId):Nat:=((P.info? t).map (·.bytes)).getD 0
def Sc.ofV:Value->Option Sc
 | .int k n=>some (.int k n)
 | .bool b=>some (.bo b)
 | .string s=>some (.st s.data.toList)
 | .slice none 0 0=>some .nil
 | .pointer none=>some .un
 |_=>none
def A6:List Value->Option (List Sc)
 |[]=>some []
 |v::r=>match Sc.ofV v,A6 r with
  |some s,some l=>some (s::l)
  |_,_=>none
def uU (P:Program) (t:TypeId):Option (List Sc):=(P.info? t).bind fun i=>i.zero.bind fun v=>A6 v.cells.toList
def bl (P:Program) (t:TypeId):Bool:=
 match P.underlying t with
 |some (.struct _)|some (.array _ _)=>true
 |_=>false
def cR (P:Program) (t:TypeId):Bool:=(P.underlying t).isSome && (P.info? t).isSome
def ae (P:Program) (t:TypeId) (f:Nat):Option (Nat×Nat):=
 match P.underlying t with
 |some (.struct fs)=>match fs[f]? with
  |some x=>if bZ P x.type=0 then none else some (x.offset,bZ P x.type)
  |none=>none
 |_=>none
def D1 (P:Program) (t:TypeId) (f:Nat):Option Nat:=
 match P.underlying t with
 |some (.struct fs)=>match fs[f]? with
  |some x=>if cR P x.type && !bl P x.type then some x.offset else none
  |none=>none
 |_=>none
def qu (P:Program) (t:TypeId):Bool:=
 match P.underlying t with
 |some (.struct fs)=>fs.toList.all fun x=>bZ P x.type != 0
 |_=>false
def Bp (P:Program) (t:TypeId):Option TypeId:=
 match P.underlying t with
 |some (.slice e)=>some e
 |_=>none
def DI (P:Program) (t:TypeId):Option IntKind:=
 match P.underlying t with
 |some (.int k)=>some k
 |_=>none
def sU (P:Program) (t:TypeId):Bool:=
 match P.underlying t with
 |some .string=>true
 |_=>false
def lO (P:Program) (t:TypeId):Bool:=
 match P.underlying t with
 |some .bool=>true
 |_=>false
def AV.ofV:Value->Option AV
 | .agg cs=>(A6 cs.toList).map .ag
 | .func (.func f) a b=>if a.size=0/\b.size=0 then some (.cl f []) else none
 |v=>(Sc.ofV v).map .sc
def S.ev (s:S):Operand->Option AV
 | .tmp t=>s.sl.get t
 | .const v=>AV.ofV v
 | .func f=>some (.cl f [])
 | .global _=>none
def S.obj (s:S) (o:Nat):Option AObj:=s.hp.getD o none
def oe {α:Type}:List α->Nat->Bool
 |[],0=>true
 |_::l,n+1=>oe l n
 |_,_=>false
theorem jg {α:Type}:∀ {l:List α} {n:Nat},oe l n=true->l.length=n
 |[],0,_=>rfl
 |_::l,n+1,h=>by simp [jg (l:=l) (n:=n) h]
 |[],_+1,h=>by cases h
 |_::_,0,h=>by cases h
def qv {α:Type}:List α->Nat->Nat->Bool
 |_,0,0=>true
 |_::c,0,n+1=>qv c 0 n
 |_::c,j+1,n=>qv c j n
 |_,_,_=>false
theorem im {α:Type}:∀ {c:List α} {j n:Nat},qv c j n=true->j+n<=c.length
 |c,0,0,_=>Nat.zero_le _
 |_::c,0,n+1,h=>by have:=im (c:=c) (j:=0) (n:=n) h;simp;omega
 |_::c,j+1,n,h=>by have:=im (c:=c) (j:=j) (n:=n) (by cases n<;>exact h);simp;omega
 |[],0,n+1,h=>by cases h
 |[],j+1,n,h=>by cases n<;>cases h
def over:List Sc->List Sc->List Sc
 |c,[]=>c
 |_::c,b::l=>b::over c l
 |[],_=>[]
def Bq:List Sc->Nat->List Sc->List Sc
 |c,0,l=>over c l
 |a::c,j+1,l=>a::Bq c j l
 |[],_,_=>[]
def DJ:Nat->Nat->Bool
 |0,_=>true
 |n+1,m+1=>DJ n m
 |_+1,0=>false
theorem xJ:∀ {n m:Nat},DJ n m=true->n<=m
 |0,_,_=>Nat.zero_le _
 |n+1,m+1,h=>by have:=xJ (n:=n) (m:=m) h;omega
 |_+1,0,h=>by cases h
def tz (P:Program) (e:TypeId):Option (List Sc):=
 match uU P e with
 |some z=>if z.length=bZ P e/\0 < bZ P e/\bZ P e<=65536/\Cd P e<=131072/\cR P e=true then some z else none
 |none=>none
theorem gF {P:Program} {e:TypeId} {z:List Sc} (h:tz P e=some z):uU P e=some z/\z.length=bZ P e/\0 < bZ P e/\bZ P e<=65536/\Cd P e<=131072/\cR P e=true:=by
 unfold tz at h
 split at h
 ·rename_i z' hz
  split at h
  ·rename_i hc
   simp only [Option.some.injEq] at h
   subst h
   exact⟨hz,hc⟩
  cases h
 cases h
def ar (P:Program) (t:TypeId):Option (Option Nat):=
 if cR P t then (if bl P t then some (some (bZ P t)) else some none) else none
def dm (P:Program) (t:TypeId):Option Nat:=if cR P t then some (bZ P t) else none
def aR (P:Program) (t:TypeId):Option (List Sc):=if qu P t then tz P t else none
def og (P:Program) (t:TypeId):Option (TypeId×Nat):=
 match Bp P t with
 |some e=>if cR P e then some (e,bZ P e) else none
 |none=>none
theorem d0 {P:Program} {t e:TypeId} {n:Nat} (h:og P t=some (e,n)):Bp P t=some e/\cR P e=true/\n=bZ P e:=by
 unfold og at h
 split at h
 ·rename_i e' he
  split at h
  ·rename_i hk
   simp only [Option.some.injEq,Prod.mk.injEq] at h
   obtain⟨rfl,rfl⟩:=h
   exact⟨he,hk,rfl⟩
  cases h
 cases h
inductive Cv where
 |int (k:IntKind)
 |str
 |s2b (e:TypeId)
 |b2s
def uV (P:Program) (src dst:TypeId):Option Cv:=
 match P.underlying src,P.underlying dst with
 |some (.int _),some (.int k)=>some (.int k)
 |some .string,some .string=>some .str
 |some .string,some (.slice e)=>if DI P e=some .u8 then some (.s2b e) else none
 |some (.slice e),some .string=>if DI P e=some .u8 then some .b2s else none
 |_,_=>none
def qw:List (List Sc)->Bool
 |[]=>true
 |c::r=>eZ c && qw r
theorem oh:∀ {cs:List (List Sc)},qw cs=true->FlatL cs
 |[],_=>fun c hc=>by cases hc
 |c::r,h=>by
  simp only [qw,Bool.and_eq_true] at h
  intro d hd
  rcases List.mem_cons.1 hd with rfl|hd
  ·exact h.1
  exact oh h.2 d hd
theorem fT:∀ {a b:List Sc},eZ a=true->eZ b=true->eZ (a++b)=true
 |[],_,_,h=>h
 |s::a,b,h,k=>by
  simp only [eZ,Bool.and_eq_true,List.cons_append] at h⊢
  exact⟨h.1,fT h.2 k⟩
theorem dA:∀ {a:List Sc},eZ a=true↔∀ s∈a,s.isFlat=true
 |[]=>by simp [eZ]
 |s::a=>by simp [eZ,dA (a:=a)]
structure OpR where
 v:Option AV
 hp:Hp
 c:Prop
def fA (c:List Sc) (j:Nat) (l:List Sc):List Sc:=c.take j++(l++c.drop (j+l.length))
def xK (P:Program) (t:TypeId) (a b:List Sc) (r:Bool):Prop:=
 ∀ (β:Be) (w:World) (x y:Operand) (vs us:List Value),L2 (ScR β) a vs->L2 (ScR β) b us->
  (do eqGuard .eql t x y (.agg vs.toArray) (.agg us.toArray);binOp .eql t (.agg vs.toArray) (.agg us.toArray)).run P w=.ok (.bool r) w/\
  (do eqGuard .neq t x y (.agg vs.toArray) (.agg us.toArray);binOp .neq t (.agg vs.toArray) (.agg us.toArray)).run P w=.ok (.bool (!r)) w
def vU:Sc->Sc->Bool
 | .int _ a,.int _ b=>a == b
 | .bo a,.bo b=>a == b
 | .st a,.st b=>a == b
 |_,_=>false
def bh:List Sc->List Sc->Bool
 |[],[]=>true
 |a::l,b::m=>vU a b && bh l m
 |_,_=>false
def iS (P:Program) (t:TypeId) (a b:List Sc):Prop:=xK P t a b (bh a b)
def qx (op:BinOp) (k:IntKind) (a b:Int):Option (Sc×Prop):=
 match op with
 | .add=>some (.int k (k.wrap (a+b)),True)
 | .sub=>some (.int k (k.wrap (a - b)),True)
 | .mul=>some (.int k (k.wrap (a*b)),True)
 | .quo=>some (.int k (k.wrap (a.tdiv b)),b≠0)
 | .rem=>some (.int k (a.tmod b),b≠0)
 | .and=>some (.int k (k.wrap (BitVec.ofInt k.bits a &&& BitVec.ofInt k.bits b).toNat),True)
 | .or=>some (.int k (k.wrap (BitVec.ofInt k.bits a |||BitVec.ofInt k.bits b).toNat),True)
 | .xor=>some (.int k (k.wrap (BitVec.ofInt k.bits a ^^^ BitVec.ofInt k.bits b).toNat),True)
 | .eql=>some (.bo (a == b),True)
 | .neq=>some (.bo (a != b),True)
 | .lss=>some (.bo (decide (a < b)),True)
 | .leq=>some (.bo (decide (a<=b)),True)
 | .gtr=>some (.bo (decide (b < a)),True)
 | .geq=>some (.bo (decide (b<=a)),True)
 |_=>none
def fm (P:Program) (t:TypeId) (op:BinOp):Sc->Sc->Option (Sc×Prop)
 | .int k a,.int k' b=>match op with
  | .shl=>some (.int k (k.wrap (a*2 ^ (min b.toNat k.bits))),0<=b)
  | .shr=>some (.int k (a.fdiv (2 ^ (min b.toNat k.bits))),0<=b)
  |op=>if k=k' then qx op k a b else none
 | .st a,.st b=>match op with
  | .add=>some (.st (a++b),a.length+b.length<=4611686018427387904)
  | .eql=>some (.bo (a == b),True)
  | .neq=>some (.bo (!(a == b)),True)
  |_=>none
 | .bo a,.bo b=>match op with
  | .eql=>match lO P t with
   |true=>some (.bo (a == b),True)
   |false=>none
  | .neq=>match lO P t with
   |true=>some (.bo (!(a == b)),True)
   |false=>none
  |_=>none
 |_,_=>none
def ol (pl:Nat->Option (Nat×Nat)) (cells:List Sc):List (Nat×List Sc)->Option (List Sc)
 |[]=>some cells
 |(i,v)::rest=>match pl i with
  |none=>none
  |some (off,size)=>match oe v size && qv cells off size with
   |true=>ol pl (Bq cells off v) rest
   |false=>none
def om (esz:Nat) (cs:List (List Sc)):List (Nat×List Sc)->Option (List (List Sc))
 |[]=>some cs
 |(i,v)::rest=>match oe v esz && qv cs i 1 with
  |true=>om esz (cs.set i v) rest
  |false=>none
def S.parts (s:S):List (Nat×Operand)->Option (List (Nat×List Sc))
 |[]=>some []
 |(i,x)::rest=>match s.ev x with
  |some v=>match v.cells with
   |some cs=>match s.parts rest with
    |some l=>some ((i,cs)::l)
    |none=>none
   |none=>none
  |none=>none
def S.scals (s:S):List Operand->Option (List Sc)
 |[]=>some []
 |x::rest=>match s.ev x with
  |some (.sc c)=>match s.scals rest with
   |some l=>some (c::l)
   |none=>none
  |_=>none
def lP:List Sc->UInt8
 |[.int .u8 n]=>UInt8.ofNat n.toNat
 |_=>0
def sV (b:UInt8):List Sc:=[.int .u8 b.toNat]
def iT:List Sc->Bool
 |[.int .u8 _]=>true
 |_=>false
def e6 (s:S):Option Operand->Option (Option Int)
 |none=>some none
 |some x=>match s.ev x with
  |some (.sc (.int _ n))=>some (some n)
  |_=>none
def S.new (s:S) (ob:AObj) (v:AV):OpR:=⟨some v,s.hp++[some ob],True⟩
def S.val (s:S) (v:AV):OpR:=⟨some v,s.hp,True⟩
def S.valc (s:S) (v:AV) (c:Prop):OpR:=⟨some v,s.hp,c⟩
def cS (s:S):AV->Option Int->Option Int->Option OpR
 | .sc (.st l),none,none=>some (s.val (.sc (.st l)))
 | .sc (.st l),some a,none=>some (s.valc (.sc (.st (l.drop a.toNat))) (0<=a/\a<=l.length))
 | .sc (.st l),none,some b=>some (s.valc (.sc (.st (l.take b.toNat))) (0<=b/\b<=l.length))
 | .sc (.st l),some a,some b=>some (s.valc (.sc (.st ((l.take b.toNat).drop a.toNat))) (0<=a/\a<=b/\b<=l.length))
 | .sc (.sl o off len),none,none=>some (s.val (.sc (.sl o off len)))
 | .sc (.sl o off len),some a,none=>some (s.valc (.sc (.sl o (off+a.toNat) (len - a.toNat))) (0<=a/\a<=len))
 | .sc (.sl o off len),none,some b=>some (s.valc (.sc (.sl o off b.toNat)) (0<=b/\b<=len))
 | .sc (.sl o off len),some a,some b=>some (s.valc (.sc (.sl o (off+a.toNat) (b.toNat - a.toNat))) (0<=a/\a<=b/\b<=len))
 |_,_,_=>none
def ip (P:Program) (s:S) (t:TypeId) (a x:AV):Option OpR:=
 match og P t with
 |none=>none
 |some (e,sz)=>match tz P e with
  |none=>none
  |some _=>match a,x with
   | .sc (.sl o off len),.sc .nil=>some (s.val (.sc (.sl o off len)))
   | .sc .nil,.sc .nil=>some (s.val (.sc .nil))
   | .sc .nil,.sc (.sl o off len)=>match s.obj o with
    |some ob=>if ob.esz=sz then some ⟨some (.sc (.sl s.hp.length 0 len)),s.hp++[some ⟨(ob.cs.drop off).take len,sz,e,true,ob.fl⟩],off+len<=ob.cs.length/\len<=1073741824⟩ else none
    |none=>none
   | .sc (.sl o' off' len'),.sc (.sl o off len)=>match s.obj o',s.obj o with
    |some ob',some ob=>if ob.esz=sz/\ob'.esz=sz/\ob'.own=true/\ob'.ty=e/\off'=0/\o'≠o then
      some ⟨some (.sc (.sl s.hp.length 0 (len'+len))),s.hp.set o' none++[some ⟨ob'.cs++(ob.cs.drop off).take len,sz,e,true,ob'.fl && ob.fl⟩],ob'.cs.length=len'/\off+len<=ob.cs.length/\len'+len<=1073741824⟩ else none
    |_,_=>none
   |_,_=>none
def aI (P:Program) (s:S) (ty:TypeId):Op->Option OpR
 | .move x| .assign x=>match s.ev x with
  |some v=>some (s.val v)
  |none=>none
 | .pick c a b=>match s.ev c with
  |some (.sc (.bo true))=>match s.ev a with
   |some v=>some (s.val v)
   |none=>none
  |some (.sc (.bo false))=>match s.ev b with
   |some v=>some (s.val v)
   |none=>none
  |_=>none
 | .alloc e=>match tz P e with
  |some z=>some (s.new ⟨[z],z.length,e,true,false⟩ (.sc (.pt s.hp.length 0 0)))
  |none=>none
 | .box e x=>match s.ev x with
  |some v=>match v.cells with
   |some cs=>some (s.new ⟨[cs],cs.length,e,true,false⟩ (.sc (.pt s.hp.length 0 0)))
   |none=>none
  |none=>none
 | .build t parts=>match aR P t with
  |some z=>match s.parts parts.toList with
   |some l=>match ol (ae P t) z l with
    |some cs=>some (s.val (.ag cs))
    |none=>none
   |none=>none
  |none=>none
 | .buildSlice t len parts=>match og P t with
  |some (e,sz)=>match tz P e with
   |some z=>match s.parts parts.toList with
    |some l=>match DJ len 256 with
     |true=>match om sz (List.replicate len z) l with
      |some cs=>some (s.new ⟨cs,sz,e,true,qw cs⟩ (.sc (.sl s.hp.length 0 len)))
      |none=>none
     |false=>none
    |none=>none
   |none=>none
  |none=>none
 | .load t a=>match s.ev a with
  |some (.sc (.pt o k j))=>match s.obj o with
   |some ob=>match ob.cs[k]? with
    |some c=>match ar P t with
     |some (some n)=>match qv c j n with
      |true=>some (s.val (.ag ((c.drop j).take n)))
      |false=>none
     |some none=>match c[j]? with
      |some x=>some (s.val (.sc x))
      |none=>none
     |none=>none
    |none=>none
   |none=>none
  |_=>none
 | .store t a x=>match s.ev a with
  |some (.sc (.pt o k j))=>match s.obj o with
   |some ob=>match ob.cs[k]? with
    |some c=>match s.ev x with
     |some v=>match v.cells with
      |some vs=>match dm P t with
       |some n=>match oe vs n && qv c j n && ob.own with
        |true=>some ⟨none,s.hp.set o (some { ob with cs:=ob.cs.set k (Bq c j vs),fl:=ob.fl && eZ vs }),True⟩
        |false=>none
       |none=>none
      |none=>none
     |none=>none
    |none=>none
   |none=>none
  |_=>none
 | .nilCheck x=>match s.ev x with
  |some (.sc (.pt o k j))=>some (s.val (.sc (.pt o k j)))
  |some (.cl f caps)=>some (s.val (.cl f caps))
  |_=>none
 | .binOp op t x y _=>match s.ev x,s.ev y with
  |some (.sc a),some (.sc b)=>match fm P t op a b with
   |some (r,c)=>some (s.valc (.sc r) c)
   |none=>none
  |some (.ag a),some (.ag b)=>match op with
   | .eql=>some (s.valc (.sc (.bo (bh a b))) (iS P t a b))
   | .neq=>some (s.valc (.sc (.bo (!bh a b))) (iS P t a b))
   |_=>none
  |_,_=>none
 | .unOp op _ x=>match s.ev x with
  |some (.sc (.bo b))=>match op with
   | .not=>some (s.val (.sc (.bo (!b))))
   |_=>none
  |some (.sc (.int k n))=>match op with
   | .neg=>some (s.val (.sc (.int k (k.wrap (0 - n)))))
   |_=>none
  |_=>none
 | .convert src dst x=>match uV P src dst,s.ev x with
  |some (.int k'),some (.sc (.int k n))=>some (s.val (.sc (.int k' (k'.wrap n))))
  |some .str,some (.sc (.st l))=>some (s.val (.sc (.st l)))
  |some (.s2b e),some (.sc (.st l))=>some (⟨some (.sc (.sl s.hp.length 0 l.length)),s.hp++[some ⟨l.map sV,1,e,false,true⟩],l.length<=1073741824⟩)
  |some .b2s,some (.sc (.sl o off len))=>match s.obj o with
   |some ob=>if ob.esz=1 then some (s.valc (.sc (.st (((ob.cs.drop off).take len).map lP))) (off+len<=ob.cs.length/\∀ c∈ob.cs,iT c=true)) else none
   |none=>none
  |some .b2s,some (.sc .nil)=>some (s.val (.sc (.st [])))
  |_,_=>none
 | .makeSlice t l c=>match og P t with
  |some (e,sz)=>match tz P e with
   |some z=>match s.ev l,s.ev c with
    |some (.sc (.int _ l)),some (.sc (.int _ c))=>some ⟨some (.sc (.sl s.hp.length 0 l.toNat)),s.hp++[some ⟨List.replicate l.toNat z,sz,e,true,eZ z⟩],0<=l/\l<=c/\c<=1073741824⟩
    |_,_=>none
   |none=>none
  |none=>none
 | .slice t x lo hi none=>match s.ev x,e6 s lo,e6 s hi with
  |some v,some lo,some hi=>match v with
   | .sc (.st _)=>match sU P t with
    |true=>cS s v lo hi
    |false=>none
   | .sc (.sl o _ _)=>match og P t,s.obj o with
    |some (_,sz),some ob=>if ob.esz=sz then cS s v lo hi else none
    |_,_=>none
   |_=>none
  |_,_,_=>none
 | .fieldAddr t x f=>match s.ev x,ae P t f with
  |some (.sc (.pt o k j)),some (off,_)=>some (s.val (.sc (.pt o k (j+off))))
  |_,_=>none
 | .field t x f=>match s.ev x,D1 P t f with
  |some (.ag cs),some off=>match cs[off]? with
   |some c=>some (s.val (.sc c))
   |none=>none
  |_,_=>none
 | .indexAddr t x i=>match s.ev x,s.ev i,og P t with
  |some (.sc (.sl o off len)),some (.sc (.int _ i)),some (_,sz)=>match s.obj o with
   |some ob=>if ob.esz=sz then some (s.valc (.sc (.pt o (off+i.toNat) 0)) (0<=i/\i < len)) else none
   |none=>none
  |_,_,_=>none
 | .index t x i=>match s.ev x,s.ev i with
  |some (.sc (.st l)),some (.sc (.int _ i))=>match sU P t with
   |true=>some (s.valc (.sc (.int .u8 (l.getD i.toNat 0).toNat)) (0<=i/\i < l.length))
   |false=>none
  |_,_=>none
 | .extract x i=>match s.ev x with
  |some (.tu l)=>match l[i]? with
   |some c=>some (s.val c.av)
   |none=>none
  |_=>none
 | .makeFunc (.func f) first caps=>if first.size=0 then match s.scals caps.toList with
   |some l=>some (s.val (.cl f l))
   |none=>none else none
 | .call { callee:=.builtin .len,args,argTypes }=>match args.toList,argTypes.toList with
  |[x],[t]=>match s.ev x with
   |some (.sc (.st l))=>match sU P t with
    |true=>some (s.val (.sc (.int .i64 l.length)))
    |false=>none
   |some (.sc (.sl _ _ len))=>match og P t with
    |some _=>some (s.val (.sc (.int .i64 len)))
    |none=>none
   |some (.sc .nil)=>match og P t with
    |some _=>some (s.val (.sc (.int .i64 0)))
    |none=>none
   |_=>none
  |_,_=>none
 | .call { callee:=.builtin .append,args,argTypes }=>match args.toList,argTypes.toList with
  |[x,y],[t,t']=>if t=t' then match s.ev x,s.ev y with
   |some a,some b=>ip P s t a b
   |_,_=>none else none
  |_,_=>none
 | .call { callee:=.builtin .min,args,argTypes }=>match args.toList with
  |[x,y]=>match s.ev x,s.ev y with
   |some (.sc (.int k a)),some (.sc (.int k' b))=>some (s.val (.sc (.int k (if b < a then b else a))))
   |_,_=>none
  |_=>none
 | .call { callee:=.builtin .max,args,argTypes }=>match args.toList with
  |[x,y]=>match s.ev x,s.ev y with
   |some (.sc (.int k a)),some (.sc (.int k' b))=>some (s.val (.sc (.int k (if a < b then b else a))))
   |_,_=>none
  |_=>none
 |_=>none
theorem A7 {v:Value} {s:Sc} (h:Sc.ofV v=some s) (β:Be):ScR β s v:=by
 unfold Sc.ofV at h
 split at h
 all_goals first
  |(simp only [Option.some.injEq] at h;subst h;first|rfl|exact⟨_,rfl⟩)
  |cases h
theorem lQ (β:Be):∀ {vs:List Value} {l:List Sc},A6 vs=some l->L2 (ScR β) l vs
 |[],l,h=>by simp only [A6,Option.some.injEq] at h;subst h;trivial
 |v::r,l,h=>by
  simp only [A6] at h
  split at h
  ·rename_i s m h1 h2
   simp only [Option.some.injEq] at h
   subst h
   exact⟨A7 h1 β,lQ β h2⟩
  cases h
theorem zV {v:Value} {x:AV} (h:AV.ofV v=some x) (β:Be):dG β x v:=by
 unfold AV.ofV at h
 split at h
 ·rename_i cs
  simp only [Option.map_eq_some_iff] at h
  obtain⟨l,h1,rfl⟩:=h
  exact⟨cs.toList,by simp,lQ β h1⟩
 ·rename_i f a b
  split at h
  ·rename_i h0
   simp only [Option.some.injEq] at h
   subst h
   obtain⟨ha,hb⟩:=h0
   have ha':a= #[]:=Array.eq_empty_of_size_eq_zero ha
   have hb':b= #[]:=Array.eq_empty_of_size_eq_zero hb
   subst ha';subst hb'
   exact⟨[],rfl,trivial⟩
  cases h
 simp only [Option.map_eq_some_iff] at h
 obtain⟨l,h1,rfl⟩:=h
 exact A7 h1 β
theorem bN {β:Be} {s:S} {a:Act} (hs:SlotsR β s.sl a.tmps) {x:Operand} {v:AV} (h:s.ev x=some v):dG β v (a.eval x):=by
 cases x with
 |tmp t=>
  obtain⟨u,hu,hr⟩:=hs.2 t v h
  have:a.eval (.tmp t)=u:=by simp [Act.eval,Array.getD_eq_getD_getElem?,hu]
  rw [this];exact hr
 |const c=>exact zV h β
 |global g=>cases h
 |func f=>
  simp only [S.ev,Option.some.injEq] at h
  subst h
  exact⟨[],rfl,trivial⟩
theorem bu {s:S} {o:Nat} {ob:AObj} (h:s.obj o=some ob):s.hp[o]? =some (some ob):=by
 unfold S.obj at h
 rw [List.getD_eq_getElem?_getD] at h
 cases hx:s.hp[o]? with
 |none=>rw [hx] at h;cases h
 |some y=>rw [hx] at h;simp only [Option.getD_some] at h;rw [h]
theorem po {β:Be} {s:S} {a:Act} (hs:SlotsR β s.sl a.tmps):∀ {ps:List (Nat×Operand)} {l:List (Nat×List Sc)},s.parts ps=some l->
  L2 (fun (x:Nat×List Sc) (y:Nat×Value)=>x.1=y.1/\∃ vs:List Value,y.2.cells=vs.toArray/\L2 (ScR β) x.2 vs) l (ps.map fun (i,x)=>(i,a.eval x))
 |[],l,h=>by simp only [S.parts,Option.some.injEq] at h;subst h;trivial
 |(i,x)::rest,l,h=>by
  simp only [S.parts] at h
  split at h
  ·rename_i v hv
   split at h
   ·rename_i cs hcs
    split at h
    ·rename_i m hm
     simp only [Option.some.injEq] at h
     subst h
     exact⟨⟨rfl,dG.cells hcs (bN hs hv)⟩,po hs hm⟩
    cases h
   cases h
  cases h
theorem uW {β:Be} {s:S} {a:Act} (hs:SlotsR β s.sl a.tmps):∀ {ps:List Operand} {l:List Sc},s.scals ps=some l->L2 (ScR β) l (ps.map a.eval)
 |[],l,h=>by simp only [S.scals,Option.some.injEq] at h;subst h;trivial
 |x::rest,l,h=>by
  simp only [S.scals] at h
  split at h
  ·rename_i c hc
   split at h
   ·rename_i m hm
    simp only [Option.some.injEq] at h
    subst h
    exact⟨bN hs hc,uW hs hm⟩
   cases h
  cases h
theorem cA {P:Program} {t:TypeId} (w:World) (h:(P.info? t).isSome=true):(sizeOf t).run P w=.ok (bZ P t) w:=by
 obtain⟨i,hi⟩:=Option.isSome_iff_exists.1 h
 simp [sizeOf,typeInfo,hi,bZ]
theorem sW {P:Program} {t:TypeId} (h:cR P t=true):∃ d,P.underlying t=some d:=by
 unfold cR at h
 simp only [Bool.and_eq_true] at h
 exact Option.isSome_iff_exists.1 h.1
theorem gG {P:Program} {t:TypeId} (h:cR P t=true):(P.info? t).isSome=true:=by
 unfold cR at h
 simp only [Bool.and_eq_true] at h
 exact h.2
theorem e7 {P:Program} {t:TypeId} (w:World) {d:TypeDesc} (h:P.underlying t=some d):(isAgg t).run P w=.ok (bl P t) w:=by
 simp only [isAgg,Sem.run_bind,run_underlying h,Result.andThen_ok,bl,h]
 cases d<;>rfl
theorem xL {P:Program} {t:TypeId} (h:bl P t=true):∃ d,P.underlying t=some d:=by
 unfold bl at h
 cases hu:P.underlying t with
 |none=>rw [hu] at h;cases h
 |some d=>exact⟨d,rfl⟩
theorem dH {P:Program} {t e:TypeId} (h:Bp P t=some e):P.underlying t=some (.slice e):=by
 unfold Bp at h
 split at h
 ·rename_i e' hu;simp only [Option.some.injEq] at h;subst h;exact hu
 cases h
theorem uX {P:Program} {t:TypeId} {k:IntKind} (h:DI P t=some k):P.underlying t=some (.int k):=by
 unfold DI at h
 split at h
 ·rename_i e' hu;simp only [Option.some.injEq] at h;subst h;exact hu
 cases h
theorem jh {P:Program} {t:TypeId} (h:sU P t=true):P.underlying t=some .string:=by
 unfold sU at h
 split at h
 ·assumption
 cases h
theorem vV {P:Program} {t:TypeId} (h:lO P t=true):P.underlying t=some .bool:=by
 unfold lO at h
 split at h
 ·assumption
 cases h
theorem lR {P:Program} {t:TypeId} {i:TypeInfo} (h:P.info? t=some i):bZ P t=i.size:=by simp [bZ,h]
theorem e8 {P:Program} {t:TypeId} {z:List Sc} (h:uU P t=some z):∃ i v vs,P.info? t=some i/\i.zero=some v/\v.cells=List.toArray vs/\A6 vs=some z:=by
 unfold uU at h
 rw [Option.bind_eq_some_iff] at h
 obtain⟨i,hi,h⟩:=h
 rw [Option.bind_eq_some_iff] at h
 obtain⟨v,hv,h⟩:=h
 exact⟨i,v,v.cells.toList,hi,hv,by simp,h⟩
theorem uY {P:Program} {t:TypeId} (h:0 < bZ P t):(P.info? t).isSome=true:=by
 unfold bZ at h
 cases hi:P.info? t with
 |none=>rw [hi] at h;simp at h
 |some i=>rfl
def dW (β:Be) (s:S) (r:OpR) (w:World) (x:Result Next):Prop:=
 ∃ β' w',StepR β β' s.hp r.hp w w'/\HSim β' r.hp w'/\((∃ v av,x=.ok (.value v) w'/\r.v=some av/\dG β' av v)\/(x=.ok .skip w'/\r.v=none))
theorem aD {β:Be} {s:S} {w:World} (hs:HSim β s.hp w) {x:Result Next} {v:Value} {av:AV} (hx:x=.ok (.value v) w) (hv:dG β av v):dW β s (s.val av) w x:=
 ⟨β,w,StepR.refl β s.hp w hs.len,hs,.inl ⟨v,av,hx,rfl,hv⟩⟩
theorem bV {β:Be} {s:S} {w:World} (hs:HSim β s.hp w) {x:Result Next} {v:Value} {av:AV} {c:Prop} (hx:x=.ok (.value v) w) (hv:dG β av v):dW β s (s.valc av c) w x:=
 ⟨β,w,StepR.refl β s.hp w hs.len,hs,.inl ⟨v,av,hx,rfl,hv⟩⟩
theorem eI {β:Be} {h:Hp} {w:World} (hs:HSim β h w) {o:Nat} {ob:AObj} (ho:h[o]? =some (some ob)) {p:Pl} (hp:β[o]? =some (some p)):
  p.esz=ob.esz/\∃ arr T fz,w.heap[p.blk]? =some (.cells arr T fz)/\bY β arr p.base ob.esz ob.cs/\(ob.own=true->T=ob.ty/\fz=(0,0)/\p.base=0/\p.avail=arr.size):=by
 obtain⟨q,hq,hr⟩:=hs.ob o ob ho
 rw [hp] at hq
 cases hq
 exact hr
theorem iq {w:World} {b off:Nat} {arr:Array Value} {T:TypeId} {fz:Nat×Nat} (h:w.heap[b]? =some (.cells arr T fz)):w.cell? ⟨b,off,none⟩=arr[off]? :=by simp [World.cell?,h]
theorem sX {β:Be} {arr:Array Value} {base esz:Nat} {cs:List (List Sc)} (hc:bY β arr base esz cs) {k:Nat} {c:List Sc} (hk:cs[k]? =some c) (j n:Nat) (hn:j+n<=c.length):
  ∃ vs:List Value,vs.length=n/\L2 (ScR β) ((c.drop j).take n) vs/\∀ i v,vs[i]? =some v->arr[base+k*esz+j+i]? =some v:=by
 obtain⟨hl,hcell⟩:=hc k c hk
 refine⟨(List.range n).map fun i=>(arr[base+k*esz+j+i]?).getD undef,by simp,?_,?_⟩
 ·refine L2.of_get (by simp;omega) fun i x y hx hy=>?_
  have hi:i < n:=by
   have:=(List.getElem?_eq_some_iff.1 hx).1
   simp at this
   omega
  rw [List.getElem?_take_of_lt hi,List.getElem?_drop] at hx
  obtain⟨v,hv,hr⟩:=hcell (j+i) x hx
  simp only [List.getElem?_map,List.getElem?_range hi,Option.map_some,Option.some.injEq] at hy
  rw [<-Nat.add_assoc] at hv
  rw [hv] at hy
  simp only [Option.getD_some] at hy
  subst hy
  exact hr
 intro i v hv
 have hi:i < n:=by
  have:=(List.getElem?_eq_some_iff.1 hv).1
  simpa using this
 simp only [List.getElem?_map,List.getElem?_range hi,Option.map_some,Option.some.injEq] at hv
 have hx:c[j+i]? =some (c[j+i]'(by omega)):=List.getElem?_eq_getElem (by omega)
 obtain⟨u,hu,_⟩:=hcell (j+i) _ hx
 rw [<-Nat.add_assoc] at hu
 rw [hu] at hv⊢
 simpa using hv
theorem xM {β:Be} {o k j:Nat} {v:Value} (h:ScR β (.pt o k j) v):∃ p,β[o]? =some (some p)/\v=.pointer (some ⟨p.blk,p.base+k*p.esz+j,none⟩):=h
theorem ji {P:Program} {β:Be} {s:S} {w:World} (hs:HSim β s.hp w) {o k j:Nat} {ob:AObj} {c:List Sc} {t:TypeId} {v:Value}
  (ho:s.obj o=some ob) (hk:ob.cs[k]? =some c) (ht:bl P t=true) (hn:j+bZ P t<=c.length) (hv:ScR β (.pt o k j) v):
  ∃ vs:List Value,(Instr.loadAt t v).run P w=.ok (.agg vs.toArray) w/\L2 (ScR β) ((c.drop j).take (bZ P t)) vs:=by
 obtain⟨p,hp,rfl⟩:=xM hv
 obtain⟨he,arr,T,fz,hh,hc,_⟩:=eI hs (bu ho) hp
 obtain⟨vs,hl,hr,hcell⟩:=sX hc hk j (bZ P t) hn
 obtain⟨d,hd⟩:=xL ht
 have hinfo:(P.info? t).isSome=true:=by
  unfold Program.underlying at hd
  cases hi:P.info? t with
  |none=>rw [hi] at hd;simp at hd
  |some i=>rfl
 refine⟨vs,?_,hr⟩
 have hld:=run_loadCells_list (P:=P) w ⟨p.blk,p.base+k*p.esz+j,none⟩ vs (fun i u hu=>by
  rw [Addr.add_lit,iq hh,he];exact hcell i u hu)
 rw [hl] at hld
 simp only [Instr.loadAt,Instr.sureAddr,loadVar,Sem.run_bind,Sem.run_pure,Result.andThen_ok,e7 w hd,ht,if_true,cA w hinfo,hld]
theorem jj {P:Program} {β:Be} {s:S} {w:World} (hs:HSim β s.hp w) {o k j:Nat} {ob:AObj} {c:List Sc} {x:Sc} {t:TypeId} {v:Value}
  (ho:s.obj o=some ob) (hk:ob.cs[k]? =some c) (ht:bl P t=false) (hu:cR P t=true) (hx:c[j]? =some x) (hv:ScR β (.pt o k j) v):
  ∃ u,(Instr.loadAt t v).run P w=.ok u w/\ScR β x u:=by
 obtain⟨p,hp,rfl⟩:=xM hv
 obtain⟨he,arr,T,fz,hh,hc,_⟩:=eI hs (bu ho) hp
 obtain⟨u,hcell,hr⟩:=(hc k c hk).2 j x hx
 obtain⟨d,hd⟩:=sW hu
 refine⟨u,?_,hr⟩
 have hl:w.cell? ⟨p.blk,p.base+k*p.esz+j,none⟩=some u:=by rw [iq hh,he];exact hcell
 simp [Instr.loadAt,Instr.sureAddr,loadVar,e7 w hd,ht,hl]
theorem dB {β:Be} {cs:List (List Sc)} {esz:Nat} {arr:Array Value} (hl:∀ c∈cs,c.length=esz) (h:∀ (k j:Nat) (c:List Sc) (s:Sc),cs[k]? =some c->c[j]? =some s->∃ v,arr[k*esz+j]? =some v/\ScR β s v):bY β arr 0 esz cs:=
 fun k c hk=>⟨hl c (List.mem_of_getElem? hk),fun j s hs=>by rw [Nat.zero_add];exact h k j c s hk hs⟩
theorem lS {β:Be} {c:List Sc} {vs:List Value} (h:L2 (ScR β) c vs):bY β vs.toArray 0 c.length [c]:=
 dB (by simp) (fun k j c' s hk hs=>by
  have hk0:k=0:=by have:=(List.getElem?_eq_some_iff.1 hk).1;simpa using this
  subst hk0
  simp only [List.getElem?_cons_zero,Option.some.injEq] at hk
  subst hk
  obtain⟨v,hv,hr⟩:=h.get hs
  exact⟨v,by simpa using hv,hr⟩)
theorem sY (w:World) (o:Obj):World.like w (w.alloc o):=⟨rfl,rfl,rfl⟩
theorem oo (w:World) (o:Obj):∀ k,k < w.heap.size->(w.alloc o).heap[k]? =w.heap[k]? :=fun k hk=>(by first|exact heap_alloc_old w o k hk|exact heap_alloc_old w o hk)
theorem jk {β:Be} {s:S} {w:World} (hs:HSim β s.hp w) {arr:Array Value} {ob:AObj} {av:AV} {v:Value} {x:Result Next} {c:Prop}
  (hx:x=.ok (.value v) (w.alloc (.cells arr ob.ty))) (hc:bY β arr 0 ob.esz ob.cs) (hfl:ob.fl=true->FlatL ob.cs)
  (hv:dG (β++[some ⟨w.heap.size,0,ob.esz,arr.size⟩]) av v):dW β s ⟨some av,s.hp++[some ob],c⟩ w x:=by
 let p:Pl:=⟨w.heap.size,0,ob.esz,arr.size⟩
 have hle:=Be.le_append β [some p]
 refine⟨β++[some p],w.alloc (.cells arr ob.ty),gE hs.len (sY w _) (by simp) (oo w _) p ob (Nat.le_refl _),iR hs (oo w _) (Nat.le_refl _) ?_ hfl,.inl ⟨v,av,hx,rfl,hv⟩⟩
 exact⟨rfl,arr,ob.ty,(0,0),heap_alloc_new w _,hc.mono hle,fun _=>⟨rfl,rfl,rfl,rfl⟩⟩
theorem xN {β:Be} {s:S} {w:World} (hs:HSim β s.hp w) (esz n:Nat):ScR (β++[some ⟨w.heap.size,0,esz,n⟩]) (.pt s.hp.length 0 0) (.pointer (some ⟨w.heap.size,0,none⟩)):=
 ⟨⟨w.heap.size,0,esz,n⟩,by rw [<-hs.len];simp,by simp⟩
theorem xO {β:Be} {s:S} {w:World} (hs:HSim β s.hp w) (esz n len cap:Nat) (h1:len<=cap) (h2:cap<=maxLen) (h3:cap*esz<=n):
  ScR (β++[some ⟨w.heap.size,0,esz,n⟩]) (.sl s.hp.length 0 len) (.slice (some ⟨w.heap.size,0,none⟩) len cap):=
 ⟨_,cap,rfl,h1,h2,.inr ⟨⟨w.heap.size,0,esz,n⟩,by rw [<-hs.len];simp,by simp,by simpa using h3⟩⟩
end
section
open Go.RowKit
section
variable {P:Program} {β:Be} {s:S} {a:Act} {w:World} {o:Oper} {r:OpR} {ty:TypeId}
theorem uZ (hs:HSim β s.hp w) (hsl:SlotsR β s.sl a.tmps) (x:Operand) (ho:o.op=.move x\/o.op=.assign x) (h:aI P s ty (.move x)=some r):dW β s r w ((execOp a.eval o).run P w):=by
 simp only [aI] at h
 split at h
 ·rename_i v hv
  simp only [Option.some.injEq] at h
  subst h
  refine aD hs (v:=a.eval x) ?_ (bN hsl hv)
  unfold execOp
  rcases ho with ho|ho<;>rw [ho]<;>rfl
 cases h
theorem zW (hs:HSim β s.hp w) (hsl:SlotsR β s.sl a.tmps) (c x y:Operand) (ho:o.op=.pick c x y) (h:aI P s ty (.pick c x y)=some r):dW β s r w ((execOp a.eval o).run P w):=by
 simp only [aI] at h
 split at h
 ·rename_i hc
  have hb:a.eval c=.bool true:=bN hsl hc
  split at h
  ·rename_i v hv
   simp only [Option.some.injEq] at h
   subst h
   refine aD hs (v:=a.eval x) ?_ (bN hsl hv)
   unfold execOp
   rw [ho]
   simp [hb,asBool]
  cases h
 ·rename_i hc
  have hb:a.eval c=.bool false:=bN hsl hc
  split at h
  ·rename_i v hv
   simp only [Option.some.injEq] at h
   subst h
   refine aD hs (v:=a.eval y) ?_ (bN hsl hv)
   unfold execOp
   rw [ho]
   simp [hb,asBool]
  cases h
 cases h
theorem xP (hs:HSim β s.hp w) (e:TypeId) (ho:o.op=.alloc e) (h:aI P s ty (.alloc e)=some r):dW β s r w ((execOp a.eval o).run P w):=by
 simp only [aI] at h
 split at h
 ·rename_i z hz
  simp only [Option.some.injEq] at h
  subst h
  obtain⟨hz,hl,_⟩:=gF hz
  obtain⟨i,v,vs,hi,hzv,hvc,hsc⟩:=e8 hz
  have hr:=lQ β hsc
  refine jk hs (arr:=vs.toArray) (v:=.pointer (some ⟨w.heap.size,0,none⟩)) ?_ (lS hr) (fun h=>by cases h) (xN hs _ _)
  unfold execOp
  rw [ho]
  simp [Instr.alloc,zeroValue,typeInfo,hi,hzv,newVar,newRow,hvc]
 cases h
theorem Br (hs:HSim β s.hp w) (hsl:SlotsR β s.sl a.tmps) (e:TypeId) (x:Operand) (ho:o.op=.box e x) (h:aI P s ty (.box e x)=some r):dW β s r w ((execOp a.eval o).run P w):=by
 simp only [aI] at h
 split at h
 ·rename_i v hv
  split at h
  ·rename_i cs hcs
   simp only [Option.some.injEq] at h
   subst h
   obtain⟨vs,hvs,hr⟩:=dG.cells hcs (bN hsl hv)
   refine jk hs (arr:=vs.toArray) (v:=.pointer (some ⟨w.heap.size,0,none⟩)) ?_ (lS hr) (fun h=>by cases h) (xN hs _ _)
   unfold execOp
   rw [ho]
   simp [Instr.box,newVar,newRow,hvs]
  cases h
 cases h
theorem gH (off:Nat):∀ (vs:List Value) (n:Nat) (cells:Array Value),
  ((vs.zipIdx n).foldl (fun cs (x:Value×Nat)=>cs.setIfInBounds (off+x.2) x.1) cells).size=cells.size/\
  ∀ m,off+n+vs.length<=cells.size->((vs.zipIdx n).foldl (fun cs (x:Value×Nat)=>cs.setIfInBounds (off+x.2) x.1) cells)[m]? =if off+n<=m/\m < off+n+vs.length then vs[m - (off+n)]? else cells[m]?
 |[],n,cells=>⟨by simp,fun m hm=>by
   simp only [List.zipIdx_nil,List.foldl_nil,List.length_nil,Nat.add_zero]
   rw [if_neg (by omega)]⟩
 |v::vs,n,cells=>by
  obtain⟨h1,h2⟩:=gH off vs (n+1) (cells.setIfInBounds (off+n) v)
  refine⟨by simpa [List.zipIdx_cons] using h1,fun m hm=>?_⟩
  simp only [List.zipIdx_cons,List.foldl_cons]
  rw [h2 m (by simp at hm⊢;omega)]
  by_cases he:m=off+n
  ·subst he
   rw [if_neg (by omega),if_pos (by simp)]
   simp at hm
   simp [Array.getElem?_setIfInBounds]
   omega
  by_cases hin:off+(n+1)<=m/\m < off+(n+1)+vs.length
  ·rw [if_pos hin,if_pos (by simp;omega)]
   have:m - (off+n)=(m - (off+(n+1)))+1:=by omega
   rw [this,List.getElem?_cons_succ]
  rw [if_neg hin,if_neg (by simp;omega)]
  rw [Array.getElem?_setIfInBounds_ne (Ne.symm he)]
theorem fU (off:Nat) (vs:List Value) (cells:Array Value):
  (vs.toArray.zipIdx.foldl (fun cs (x:Value×Nat)=>cs.setIfInBounds (off+x.2) x.1) cells)=((vs.zipIdx 0).foldl (fun cs (x:Value×Nat)=>cs.setIfInBounds (off+x.2) x.1) cells):=by
 simp [<-Array.foldl_toList]
theorem lU (c:List Sc) (j:Nat) (l:List Sc) (h:j+l.length<=c.length) (m:Nat):(fA c j l)[m]? =if j<=m/\m < j+l.length then l[m - j]? else c[m]? :=by
 unfold fA
 by_cases h1:m < j
 ·rw [List.getElem?_append_left (by simp;omega),List.getElem?_take_of_lt h1,if_neg (by omega)]
 rw [List.getElem?_append_right (by simp;omega)]
 have hl:(c.take j).length=j:=by simp;omega
 rw [hl]
 by_cases h2:m < j+l.length
 ·rw [List.getElem?_append_left (by omega),if_pos (by omega)]
 rw [List.getElem?_append_right (by omega),if_neg (by omega),List.getElem?_drop]
 congr 1
 omega
theorem iC (c:List Sc) (j:Nat) (l:List Sc) (h:j+l.length<=c.length):(fA c j l).length=c.length:=by
 unfold fA
 simp
 omega
theorem u7:∀ (c l:List Sc),l.length<=c.length->over c l=l++c.drop l.length
 |c,[],_=>by cases c<;>simp [over]
 |_::c,b::l,h=>by simp [over,u7 c l (by simpa using h)]
 |[],_::_,h=>by simp at h
theorem sZ:∀ (c:List Sc) (j:Nat) (l:List Sc),j+l.length<=c.length->Bq c j l=fA c j l
 |c,0,l,h=>by
  have h1:Bq c 0 l=over c l:=by cases c<;>rfl
  rw [h1,u7 c l (by omega)]
  simp [fA]
 |a::c,j+1,l,h=>by
  have:=sZ c j l (by simp at h;omega)
  simp only [Bq,this]
  unfold fA
  rw [show j+1+l.length=(j+l.length)+1 from by omega]
  simp
 |[],j+1,l,h=>by simp at h
theorem u9 {P:Program} {t:TypeId} {pl:Nat->Option (Nat×Nat)}:∀ {l:List (Nat×List Sc)} {ps:List (Nat×Value)} {c c':List Sc} {arr:Array Value},
  ol pl c l=some c'->L2 (ScR β) c arr.toList->
  L2 (fun (x:Nat×List Sc) (y:Nat×Value)=>x.1=y.1/\∃ vs:List Value,y.2.cells=vs.toArray/\L2 (ScR β) x.2 vs) l ps->
  ∃ arr':Array Value,Instr.fill pl arr ps=some arr'/\L2 (ScR β) c' arr'.toList
 |[],[],c,c',arr,h,hc,_=>by
  simp only [ol,Option.some.injEq] at h
  subst h
  exact⟨arr,rfl,hc⟩
 |(i,v)::l,(i',u)::ps,c,c',arr,h,hc,hl=>by
  obtain⟨⟨hi,vs,hvs,hr⟩,hl⟩:=hl
  dsimp only at hi hvs hr
  subst hi
  simp only [ol] at h
  split at h
  ·cases h
  rename_i off size hpl
  split at h
  ·rename_i hsz0
   simp only [Bool.and_eq_true] at hsz0
   have hsz:v.length=size/\off+size<=c.length:=⟨jg hsz0.1,im hsz0.2⟩
   rw [sZ c off v (by omega)] at h
   have hlen:=hc.length
   have hvl:=hr.length
   have hbd:off+vs.length<=arr.size:=by rw [<-hvl];simp at hlen;omega
   obtain⟨h1,h2⟩:=gH off vs 0 arr
   have hnew:L2 (ScR β) (fA c off v) ((vs.toArray.zipIdx.foldl (fun cs (x:Value×Nat)=>cs.setIfInBounds (off+x.2) x.1) arr)).toList:=by
    rw [fU]
    refine L2.of_get (by rw [iC c off v (by omega),hlen];simp only [Array.length_toList];exact h1.symm) fun m x y hx hy=>?_
    rw [lU c off v (by omega)] at hx
    rw [Array.getElem?_toList,h2 m (by simpa using hbd)] at hy
    simp only [Nat.add_zero] at hy
    by_cases hin:off<=m/\m < off+v.length
    ·rw [if_pos hin] at hx
     rw [if_pos (by omega)] at hy
     obtain⟨y',hy',hr'⟩:=hr.get hx
     rw [hy] at hy'
     cases hy'
     exact hr'
    rw [if_neg hin] at hx
    rw [if_neg (by omega)] at hy
    obtain⟨y',hy',hr'⟩:=hc.get hx
    rw [Array.getElem?_toList,hy] at hy'
    cases hy'
    exact hr'
   obtain⟨arr',hf,hr'⟩:=u9 (P:=P) (t:=t) h hnew hl
   refine⟨arr',?_,hr'⟩
   simp only [Instr.fill,hpl]
   rw [if_neg]
   ·rw [hvs];exact hf
   rw [hvs]
   simp
   omega
  cases h
 |[],_::_,_,_,_,_,_,hl=>hl.elim
 |_::_,[],_,_,_,_,_,hl=>hl.elim
end
end
section
open Go.RowKit
section
variable {P:Program} {β:Be} {s:S} {a:Act} {w:World} {o:Oper} {r:OpR} {ty:TypeId}
theorem qy (w:World) (fields:List Field) (hf:∀ x∈fields,bZ P x.type≠0):
  (fields.mapM (fun f:Field=>(do pure (f.offset,<-sizeOf f.type):Sem (Nat×Nat)))).run P w=.ok (fields.map fun f=>(f.offset,bZ P f.type)) w:=by
 induction fields with
 |nil=>rfl
 |cons f l ih=>
  have h0:=hf f (by simp)
  have hi:(P.info? f.type).isSome=true:=uY (by omega)
  simp only [List.mapM_cons,Sem.run_bind,cA w hi,Result.andThen_ok,Sem.run_pure,ih (fun x hx=>hf x (by simp [hx])),List.map_cons]
theorem xQ (hs:HSim β s.hp w) (hsl:SlotsR β s.sl a.tmps) (t:TypeId) (parts:Array (Nat×Operand)) (ho:o.op=.build t parts) (h:aI P s ty (.build t parts)=some r):dW β s r w ((execOp a.eval o).run P w):=by
 simp only [aI] at h
 split at h
 ·rename_i z hz
  split at h
  ·rename_i l hl
   have hz0:=hz
   unfold aR at hz0
   split at hz0
   ·rename_i hall
    obtain⟨hz,hzl,_⟩:=gF hz0
    split at h
    ·rename_i cs hcs
     simp only [Option.some.injEq] at h
     subst h
     obtain⟨i,v,vs,hi,hzv,hvc,hsc⟩:=e8 hz
     have hr:=lQ β hsc
     unfold qu at hall
     split at hall
     ·rename_i fs hfs
      have hpl:∀ k,ae P t k=(fs.map fun f=>(f.offset,bZ P f.type))[k]? :=by
       intro k
       simp only [ae,hfs,Array.getElem?_map]
       cases hk:fs[k]? with
       |none=>rfl
       |some f=>
        have hm:f∈fs.toList:=by
         rw [<-Array.getElem?_toList] at hk
         exact List.mem_of_getElem? hk
        have:=List.all_eq_true.1 hall f hm
        simp only [bne_iff_ne] at this
        simp [this]
      obtain⟨arr,hf,hra⟩:=u9 (P:=P) (t:=t) (β:=β) (ps:=parts.toList.map fun (i,x)=>(i,a.eval x)) (arr:=vs.toArray) hcs (by simpa using hr) (po hsl hl)
      refine aD hs (v:=.agg arr) ?_ ⟨arr.toList,by simp,hra⟩
      unfold execOp
      rw [ho]
      have hm:=qy (P:=P) w fs.toList (fun x hx=>by
       have:=List.all_eq_true.1 hall x hx
       simpa using this)
      have hm':(fs.mapM (fun f:Field=>(do pure (f.offset,<-sizeOf f.type):Sem (Nat×Nat)))).run P w=.ok (fs.map fun f=>(f.offset,bZ P f.type)) w:=by
       rw [Array.mapM_eq_mapM_toList]
       have e:∀ (m:Sem (List (Nat×Nat))),(List.toArray <$> m)=(do pure (List.toArray (<-m))):=fun m=>rfl
       rw [e,Sem.run_bind,hm]
       rw [Result.andThen_ok,Sem.run_pure]
       refine congrArg (fun x=>Result.ok x w) ?_
       apply Array.ext'
       simp
      have hff:Instr.fill (fun x=>(fs.map fun f=>(f.offset,bZ P f.type))[x]?) vs.toArray (parts.toList.map fun (i,x)=>(i,a.eval x))=some arr:=by
       have e:(fun x=>(fs.map fun f=>(f.offset,bZ P f.type))[x]?)=ae P t:=funext fun k=>(hpl k).symm
       rw [e];exact hf
      have hpt:(parts.map fun (i,x)=>(i,a.eval x)).toList=parts.toList.map fun (i,x)=>(i,a.eval x):=by simp
      simp only [Instr.build,Sem.run_bind,zeroValue,typeInfo,run_program,Result.andThen_ok,hi,hzv,Sem.run_pure,run_underlying hfs,hm',hpt]
      rw [hvc,hff]
      rfl
     cases hall
    cases h
   cases hz0
  cases h
 cases h
theorem oq (z:Array Value) (len k j:Nat) (hk:k < len) (hj:j < z.size):((Array.range (len*z.size)).map (z[· % z.size]!))[k*z.size+j]? =z[j]? :=by
 have hlt:k*z.size+j < len*z.size:=by
  have:(k+1)*z.size<=len*z.size:=Nat.mul_le_mul_right _ hk
  rw [Nat.add_mul] at this
  omega
 rw [Array.getElem?_map,Array.getElem?_range,if_pos hlt]
 simp only [Option.map_some]
 rw [show (k*z.size+j) % z.size=j from by rw [Nat.mul_comm,Nat.mul_add_mod,Nat.mod_eq_of_lt hj]]
 simp [hj]
theorem u_ {esz:Nat} (hpos:0 < esz) (len:Nat):∀ {l:List (Nat×List Sc)} {ps:List (Nat×Value)} {cs cs':List (List Sc)} {arr:Array Value},
  om esz cs l=some cs'->cs.length=len->arr.size=len*esz->bY β arr 0 esz cs->
  L2 (fun (x:Nat×List Sc) (y:Nat×Value)=>x.1=y.1/\∃ vs:List Value,y.2.cells=vs.toArray/\L2 (ScR β) x.2 vs) l ps->
  ∃ arr':Array Value,Instr.fill (fun i=>some (i*esz,esz)) arr ps=some arr'/\arr'.size=len*esz/\cs'.length=len/\bY β arr' 0 esz cs'
 |[],[],cs,cs',arr,h,hl,hsz,hc,_=>by
  simp only [om,Option.some.injEq] at h
  subst h
  exact⟨arr,rfl,hsz,hl,hc⟩
 |(i,v)::l,(i',u)::ps,cs,cs',arr,h,hl,hsz,hc,hps=>by
  obtain⟨⟨hi,vs,hvs,hr⟩,hps⟩:=hps
  dsimp only at hi hvs hr
  subst hi
  simp only [om] at h
  split at h
  ·rename_i hcond
   simp only [Bool.and_eq_true] at hcond
   have hvl:=jg hcond.1
   have hil:i < cs.length:=im hcond.2
   have hvl':=hr.length
   have hend:i*esz+esz<=len*esz:=by
    have:(i+1)*esz<=len*esz:=Nat.mul_le_mul_right _ (by omega)
    rw [Nat.add_mul] at this
    omega
   obtain⟨h1,h2⟩:=gH (i*esz) vs 0 arr
   simp only [Nat.add_zero] at h2
   have hnew:bY β (vs.toArray.zipIdx.foldl (fun cs (x:Value×Nat)=>cs.setIfInBounds (i*esz+x.2) x.1) arr) 0 esz (cs.set i v):=by
    rw [fU]
    refine dB (fun c hm=>?_) fun k j c x hk hj=>?_
    ·rcases List.mem_or_eq_of_mem_set hm with hm|rfl
     ·obtain⟨k,hk⟩:=List.mem_iff_getElem?.1 hm
      exact (hc k c hk).1
     exact hvl
    rw [h2 _ (by omega)]
    have hjl:j < c.length:=(List.getElem?_eq_some_iff.1 hj).1
    rw [List.getElem?_set] at hk
    by_cases he:i=k
    ·subst he
     rw [if_pos rfl,if_pos hil] at hk
     simp only [Option.some.injEq] at hk
     subst hk
     rw [if_pos (by omega)]
     obtain⟨y,hy,hry⟩:=hr.get hj
     exact⟨y,by rw [Nat.add_sub_cancel_left];exact hy,hry⟩
    rw [if_neg he] at hk
    obtain⟨hlc,hcell⟩:=hc k c hk
    obtain⟨y,hy,hry⟩:=hcell j x hj
    refine⟨y,?_,hry⟩
    rw [Nat.zero_add] at hy
    rw [if_neg]
    ·exact hy
    intro⟨ha,hb⟩
    rcases Nat.lt_or_gt_of_ne he with hlt|hgt
    ·have:(i+1)*esz<=k*esz:=Nat.mul_le_mul_right _ hlt
     rw [Nat.add_mul] at this
     omega
    have:(k+1)*esz<=i*esz:=Nat.mul_le_mul_right _ hgt
    rw [Nat.add_mul] at this
    omega
   obtain⟨arr',hf,hsz',hl',hc'⟩:=u_ hpos len h (by simpa using hl) (by rw [fU,h1];exact hsz) hnew hps
   refine⟨arr',?_,hsz',hl',hc'⟩
   simp only [Instr.fill]
   rw [if_neg]
   ·rw [hvs];exact hf
   rw [hvs]
   simp
   omega
  cases h
 |[],_::_,_,_,_,_,_,_,_,hl=>hl.elim
 |_::_,[],_,_,_,_,_,_,_,hl=>hl.elim
theorem nE (hs:HSim β s.hp w) (hsl:SlotsR β s.sl a.tmps) (t:TypeId) (len:Nat) (parts:Array (Nat×Operand)) (ho:o.op=.buildSlice t len parts) (h:aI P s ty (.buildSlice t len parts)=some r):dW β s r w ((execOp a.eval o).run P w):=by
 simp only [aI] at h
 split at h
 ·rename_i e sz he0
  obtain⟨he,hkn,rfl⟩:=d0 he0
  split at h
  ·rename_i z hz
   obtain⟨hz,hzl,hpos,hsm,_⟩:=gF hz
   split at h
   ·rename_i l hl
    split at h
    ·rename_i hleb
     have hle256:=xJ hleb
     have hbig:len*bZ P e<=16777216:=by
      have:len*bZ P e<=256*65536:=Nat.mul_le_mul hle256 hsm
      omega
     split at h
     ·rename_i cs hcs
      simp only [Option.some.injEq] at h
      subst h
      obtain⟨i,v,vs,hi,hzv,hvc,hsc⟩:=e8 hz
      have hr:=lQ β hsc
      have hvl:=hr.length
      have hti:=lR hi
      have hlm:len<=len*bZ P e:=Nat.le_mul_of_pos_right _ hpos
      have hstart:∃ arr0:Array Value,((do if len*bZ P e=0 then pure #[] else do pure (<-zeroValue e).cells):Sem (Array Value)).run P w=.ok arr0 w/\((Array.range (len*bZ P e)).map (arr0[· % arr0.size]!)).size=len*bZ P e/\
        bY β ((Array.range (len*bZ P e)).map (arr0[· % arr0.size]!)) 0 (bZ P e) (List.replicate len z):=by
       by_cases h0:len*bZ P e=0
       ·refine⟨#[],by simp [h0],by simp,?_⟩
        have hl0:len=0:=by
         rcases Nat.mul_eq_zero.1 h0 with h|h
         ·exact h
         omega
        subst hl0
        intro k c hk
        simp at hk
       refine⟨vs.toArray,by simp [h0,zeroValue,typeInfo,hi,hzv,hvc],by simp,?_⟩
       refine dB (fun c hm=>by rw [List.eq_of_mem_replicate hm];exact hzl) fun k j c x hk hj=>?_
       have hkl:k < len:=by have:=(List.getElem?_eq_some_iff.1 hk).1;simpa using this
       rw [List.getElem?_replicate_of_lt hkl] at hk
       simp only [Option.some.injEq] at hk
       subst hk
       obtain⟨y,hy,hry⟩:=hr.get hj
       have hjl:j < z.length:=(List.getElem?_eq_some_iff.1 hj).1
       refine⟨y,?_,hry⟩
       have hzs:vs.toArray.size=bZ P e:=by simp;omega
       have:=oq vs.toArray len k j hkl (by omega)
       rw [hzs] at this
       rw [hzs,this]
       simpa using hy
      obtain⟨arr0,hrun,hsz0,hc0⟩:=hstart
      obtain⟨arr,hf,hsz,hlen,hc⟩:=u_ hpos len (ps:=parts.toList.map fun (i,x)=>(i,a.eval x)) hcs (by simp) hsz0 hc0 (po hsl hl)
      refine jk hs (arr:=arr) (v:=.slice (some ⟨w.heap.size,0,none⟩) len len) ?_ hc (fun h=>oh h) (xO hs _ _ len len (Nat.le_refl _) (by unfold maxLen;omega) (by show len*bZ P e<=arr.size;omega))
      unfold execOp
      rw [ho]
      have hpt:(parts.map fun (i,x)=>(i,a.eval x)).toList=parts.toList.map fun (i,x)=>(i,a.eval x):=by simp
      have hb':¬ (2 ^ 24 < len*bZ P e):=by omega
      simp only [Instr.buildSlice,Sem.run_bind,run_underlying (dH he),Result.andThen_ok,cA w (by simp [hi]:(P.info? e).isSome=true),hb',if_false,hpt]
      by_cases h0:len*bZ P e=0
      ·simp only [h0,if_true,Sem.run_pure,Result.ok.injEq,and_true,Result.andThen_ok] at hrun
       subst hrun
       simp only [h0,if_true,Sem.run_bind,Sem.run_pure,Result.andThen_ok]
       simp only [h0] at hf
       rw [hf]
       simp [newRow]
      have hzr:(zeroValue e).run P w=.ok v w:=by simp [zeroValue,typeInfo,hi,hzv]
      simp only [h0,if_false,Sem.run_bind,hzr,Result.andThen_ok,Sem.run_pure,Result.ok.injEq,and_true] at hrun
      simp only [h0,if_false,Sem.run_bind,Sem.run_pure,Result.andThen_ok,hzr]
      rw [hrun,hf]
      simp [newRow]
     cases h
    cases h
   cases h
  cases h
 cases h
theorem vW {t:TypeId} {n:Nat} (h:ar P t=some (some n)):bl P t=true/\n=bZ P t:=by
 unfold ar at h
 split at h
 ·split at h
  ·rename_i ha
   simp only [Option.some.injEq] at h
   exact⟨ha,h.symm⟩
  cases h
 cases h
theorem vX {t:TypeId} (h:ar P t=some none):bl P t=false/\cR P t=true:=by
 unfold ar at h
 split at h
 ·rename_i hk
  split at h
  ·cases h
  rename_i ha
  exact⟨by simpa using ha,hk⟩
 cases h
theorem vY {t:TypeId} {n:Nat} (h:dm P t=some n):cR P t=true/\n=bZ P t:=by
 unfold dm at h
 split at h
 ·rename_i hk
  simp only [Option.some.injEq] at h
  exact⟨hk,h.symm⟩
 cases h
theorem zX (hs:HSim β s.hp w) (hsl:SlotsR β s.sl a.tmps) (t:TypeId) (x:Operand) (ho:o.op=.load t x) (h:aI P s ty (.load t x)=some r):dW β s r w ((execOp a.eval o).run P w):=by
 simp only [aI] at h
 split at h
 ·rename_i ob k j hx
  have hv:ScR β (.pt ob k j) (a.eval x):=bN hsl hx
  split at h
  ·rename_i obj hob
   split at h
   ·rename_i c hk
    split at h
    ·rename_i n hag0
     obtain⟨hag,rfl⟩:=vW hag0
     split at h
     ·rename_i hn
      simp only [Option.some.injEq] at h
      subst h
      obtain⟨vs,hrun,hr⟩:=ji hs hob hk hag (im hn) hv
      refine aD hs (v:=.agg vs.toArray) ?_ ⟨vs,rfl,hr⟩
      unfold execOp
      rw [ho]
      simp [hrun]
     cases h
    ·rename_i hag0
     obtain⟨hag,hkn⟩:=vX hag0
     split at h
     ·rename_i y hy
      simp only [Option.some.injEq] at h
      subst h
      obtain⟨u,hrun,hr⟩:=jj hs hob hk hag hkn hy hv
      refine aD hs (v:=u) ?_ hr
      unfold execOp
      rw [ho]
      simp [hrun]
     cases h
    cases h
   cases h
  cases h
 cases h
theorem s8 {h:Hp} (hs:HSim β h w) {n:Nat} {ob:AObj} {p:Pl} (ho:h[n]? =some (some ob)) (hown:ob.own=true) (hp:β[n]? =some (some p))
  {arr arr':Array Value} {T:TypeId} {fz:Nat×Nat} (hh:w.heap[p.blk]? =some (.cells arr T fz)) (hsz:arr'.size=arr.size) {cs':List (List Sc)} {fl':Bool} (hc:bY β arr' 0 ob.esz cs') (hfl:fl'=true->FlatL cs'):
  HSim β (h.set n (some { ob with cs:=cs',fl:=fl' })) (w.setRow p.blk arr')/\StepR β β h (h.set n (some { ob with cs:=cs',fl:=fl' })) w (w.setRow p.blk arr'):=by
 obtain⟨he,arr0,T0,fz0,hh0,hc0,hown0⟩:=eI hs ho hp
 obtain⟨hT,hf0,hbase,hav⟩:=hown0 hown
 rw [hh] at hh0
 simp only [Option.some.injEq,Obj.cells.injEq] at hh0
 obtain⟨rfl,rfl,rfl⟩:=hh0
 have hn:n < h.length:=(List.getElem?_eq_some_iff.1 ho).1
 have key:∀ {o:Nat} {x:AObj},(h.set n (some { ob with cs:=cs',fl:=fl' }))[o]? =some (some x)->(o=n/\x={ ob with cs:=cs',fl:=fl' })\/(o≠n/\h[o]? =some (some x)):=by
  intro o x hx
  rw [List.getElem?_set] at hx
  split at hx
  ·rename_i he
   subst he
   simp only [Option.some.injEq] at hx
   exact .inl ⟨rfl,hx.symm⟩
  rename_i he
  exact .inr ⟨Ne.symm he,hx⟩
 refine⟨⟨by simp [hs.len],fun o x hx=>?_,fun o x hx hf=>by rcases key hx with⟨_,rfl⟩|⟨_,hx⟩;exact hfl hf;exact hs.flat o x hx hf,fun o o' x x' q q' hx hx' hxo hq hq' hne=>?_⟩,?_⟩
 ·rcases key hx with⟨rfl,rfl⟩|⟨hne,hx⟩
  ·refine⟨some p,hp,he,arr',T,fz,setRow_heap w p.blk arr arr' T fz hh,?_,fun _=>⟨hT,hf0,hbase,by rw [hsz];exact hav⟩⟩
   rw [hbase]
   exact hc
  obtain⟨q,hq,hr⟩:=hs.ob o x hx
  refine⟨q,hq,hr.world fun q' hq'=>?_⟩
  subst hq'
  exact setRow_other w p.blk q'.blk arr' (fun hb=>hs.apart n o ob x p q' ho hx hown hp hq (Ne.symm hne) hb.symm)
 ·rcases key hx with⟨rfl,rfl⟩|⟨h1,h1'⟩
  ·rcases key hx' with⟨rfl,rfl⟩|⟨h2,h2'⟩
   ·exact absurd rfl hne
   exact hs.apart o o' ob x' q q' ho h2' hown hq hq' hne
  rcases key hx' with⟨rfl,rfl⟩|⟨h2,h2'⟩
  ·exact hs.apart o o' x ob q q' h1' ho hxo hq hq' hne
  exact hs.apart o o' x x' q q' h1' h2' hxo hq hq' hne
 refine⟨Be.le.refl _,rfl,rfl,rfl,by simp,fun k hk hno=>setRow_other w p.blk k arr' (fun hb=>hno ⟨n,ob,p,ho,hown,hp,hb.symm⟩),by simp,fun o x hlt hx=>?_,fun o x q hge hx _=>?_⟩
 ·rcases key hx with⟨rfl,rfl⟩|⟨hne,hx⟩
  ·exact⟨ob,ho,id⟩
  exact⟨x,hx,id⟩
 rw [List.getElem?_eq_none (by simpa using hge)] at hx
 cases hx
theorem xR (hs:HSim β s.hp w) (hsl:SlotsR β s.sl a.tmps) (t:TypeId) (x y:Operand) (ho:o.op=.store t x y) (h:aI P s ty (.store t x y)=some r):dW β s r w ((execOp a.eval o).run P w):=by
 simp only [aI] at h
 split at h
 ·rename_i n k j hx
  have hv:ScR β (.pt n k j) (a.eval x):=bN hsl hx
  split at h
  ·rename_i ob hob
   split at h
   ·rename_i c hk
    split at h
    ·rename_i v hy
     split at h
     ·rename_i vs hvs
      split at h
      rotate_left
      ·cases h
      rename_i n0 hn0
      obtain⟨hkn,rfl⟩:=vY hn0
      split at h
      ·rename_i hcond
       simp only [Bool.and_eq_true] at hcond
       obtain⟨⟨hl0,hj0⟩,hown⟩:=hcond
       have hl:=jg hl0
       have hj:j+vs.length<=c.length:=by rw [hl];exact im hj0
       simp only [Option.some.injEq] at h
       rw [sZ c j vs hj] at h
       subst h
       obtain⟨us,hus,hr⟩:=dG.cells hvs (bN hsl hy)
       obtain⟨p,hp,hpe⟩:=xM hv
       obtain⟨he,arr,T,fz,hh,hc,hown'⟩:=eI hs (bu hob) hp
       obtain⟨hT,hf0,hbase,hav⟩:=hown' hown
       subst hf0
       have hul:=hr.length
       obtain⟨hcl,hcell⟩:=hc k c hk
       have hbd:k*ob.esz+j+us.length<=arr.size:=by
        by_cases hz:us.length=0
        ·rw [hz]
         by_cases hc0:c.length=0
         ·by_cases hk0:arr.size < k*ob.esz+j
          ·have:j=0:=by omega
           subst this
           rw [<-hcl,hc0] at hk0
           omega
          omega
         have hg:c[c.length - 1]? =some (c[c.length - 1]'(by omega)):=List.getElem?_eq_getElem (by omega)
         obtain⟨y',hy',_⟩:=hcell _ _ hg
         have:=(Array.getElem?_eq_some_iff.1 hy').1
         rw [hbase] at this
         omega
        have hg:c[j+us.length - 1]? =some (c[j+us.length - 1]'(by omega)):=List.getElem?_eq_getElem (by omega)
        obtain⟨y',hy',_⟩:=hcell _ _ hg
        have:=(Array.getElem?_eq_some_iff.1 hy').1
        rw [hbase] at this
        omega
       let arr':Array Value:=(arr.toList.take (k*ob.esz+j)++us++arr.toList.drop (k*ob.esz+j+us.length)).toArray
       have hget:∀ m,arr'[m]? =if k*ob.esz+j<=m/\m < k*ob.esz+j+us.length then us[m - (k*ob.esz+j)]? else arr[m]? :=by
        intro m
        show ((arr.toList.take (k*ob.esz+j)++us++arr.toList.drop (k*ob.esz+j+us.length)).toArray)[m]? =_
        rw [List.getElem?_toArray,List.append_assoc]
        by_cases h1:m < k*ob.esz+j
        ·rw [List.getElem?_append_left (by simp;omega),List.getElem?_take_of_lt h1,if_neg (by omega),Array.getElem?_toList]
        have hlen:(arr.toList.take (k*ob.esz+j)).length=k*ob.esz+j:=by simp;omega
        rw [List.getElem?_append_right (by omega),hlen]
        by_cases h2:m < k*ob.esz+j+us.length
        ·rw [List.getElem?_append_left (by omega),if_pos (by omega)]
        rw [List.getElem?_append_right (by omega),if_neg (by omega),List.getElem?_drop,Array.getElem?_toList]
        congr 1
        omega
       have hsz:arr'.size=arr.size:=by
        show ((arr.toList.take (k*ob.esz+j)++us++arr.toList.drop (k*ob.esz+j+us.length)).toArray).size=_
        simp
        omega
       have hnew:bY β arr' 0 ob.esz (ob.cs.set k (fA c j vs)):=by
        refine dB (fun d hm=>?_) fun k' j' d z hk' hj'=>?_
        ·rcases List.mem_or_eq_of_mem_set hm with hm|rfl
         ·obtain⟨q,hq⟩:=List.mem_iff_getElem?.1 hm
          exact (hc q d hq).1
         rw [iC c j vs hj];exact hcl
        rw [hget]
        rw [List.getElem?_set] at hk'
        by_cases hkk:k=k'
        ·subst hkk
         rw [if_pos rfl,if_pos (List.getElem?_eq_some_iff.1 hk).1] at hk'
         simp only [Option.some.injEq] at hk'
         subst hk'
         rw [lU c j vs hj] at hj'
         by_cases hin:j<=j'/\j' < j+vs.length
         ·rw [if_pos hin] at hj'
          rw [if_pos (by omega)]
          obtain⟨y',hy',hr'⟩:=hr.get hj'
          exact⟨y',by rw [show k*ob.esz+j' - (k*ob.esz+j)=j' - j from by omega];exact hy',hr'⟩
         rw [if_neg hin] at hj'
         rw [if_neg (by omega)]
         obtain⟨y',hy',hr'⟩:=hcell j' z hj'
         rw [hbase,Nat.zero_add] at hy'
         exact⟨y',hy',hr'⟩
        rw [if_neg hkk] at hk'
        obtain⟨hdl,hdc⟩:=hc k' d hk'
        obtain⟨y',hy',hr'⟩:=hdc j' z hj'
        rw [hbase,Nat.zero_add] at hy'
        have hjd:j' < d.length:=(List.getElem?_eq_some_iff.1 hj').1
        refine⟨y',?_,hr'⟩
        rw [if_neg]
        ·exact hy'
        intro⟨ha,hb⟩
        rcases Nat.lt_or_gt_of_ne hkk with hlt|hgt
        ·have:(k+1)*ob.esz<=k'*ob.esz:=Nat.mul_le_mul_right _ hlt
         rw [Nat.add_mul] at this
         omega
        have:(k'+1)*ob.esz<=k*ob.esz:=Nat.mul_le_mul_right _ hgt
        rw [Nat.add_mul] at this
        omega
       obtain⟨hs',hst⟩:=s8 hs (bu hob) hown hp hh hsz hnew (fl':=ob.fl && eZ vs) (fun hf=>by
        simp only [Bool.and_eq_true] at hf
        have h1:=hs.flat n ob (bu hob) hf.1
        intro d hd
        rcases List.mem_or_eq_of_mem_set hd with hd|rfl
        ·exact h1 d hd
        have h2:=dA.1 (h1 c (List.mem_of_getElem? hk))
        unfold fA
        exact fT (dA.2 fun s hs=>h2 s (List.mem_of_mem_take hs)) (fT hf.2 (dA.2 fun s hs=>h2 s (List.mem_of_mem_drop hs))))
       refine⟨β,_,hst,hs',.inr ⟨?_,rfl⟩⟩
       unfold execOp
       rw [ho]
       have hrun:=run_storeCells_at P p.blk (k*ob.esz+j) T us 0 arr w hh (by omega) (L2.one hr)
       simp only [Nat.add_zero] at hrun
       have husz:us.toArray.size=bZ P t:=by simp;omega
       have hpe':a.eval x=.pointer (some ⟨p.blk,k*ob.esz+j,none⟩):=by rw [hpe,hbase,he,Nat.zero_add]
       simp only [hpe',Instr.storeAt,Instr.sureAddr,Sem.run_bind,Sem.run_pure,Result.andThen_ok,storeVar,cA w (gG hkn),husz,ne_eq,not_true,if_false,hus,List.toList_toArray,hrun]
       rfl
      cases h
     cases h
    cases h
   cases h
  cases h
 cases h
end
end
section
open Go.RowKit
section
variable {P:Program} {β:Be} {s:S} {a:Act} {w:World} {o:Oper} {r:OpR} {ty:TypeId}
theorem qz (hs:HSim β s.hp w) (hsl:SlotsR β s.sl a.tmps) (x:Operand) (ho:o.op=.nilCheck x) (h:aI P s ty (.nilCheck x)=some r):dW β s r w ((execOp a.eval o).run P w):=by
 simp only [aI] at h
 split at h
 ·rename_i n k j hx
  have hv:ScR β (.pt n k j) (a.eval x):=bN hsl hx
  simp only [Option.some.injEq] at h
  subst h
  refine aD hs (v:=a.eval x) ?_ hv
  obtain⟨p,hp,hpe⟩:=hv
  unfold execOp
  rw [ho]
  simp [hpe]
 ·rename_i f caps hx
  have hv:dG β (.cl f caps) (a.eval x):=bN hsl hx
  simp only [Option.some.injEq] at h
  subst h
  refine aD hs (v:=a.eval x) ?_ hv
  obtain⟨vs,hpe,_⟩:=hv
  unfold execOp
  rw [ho]
  simp [hpe]
 cases h
theorem zY {op:BinOp} {k k':IntKind} {x y:Int} {t:TypeId} {q:Sc} {c:Prop} (h:fm P t op (.int k x) (.int k' y)=some (q,c)) (hc:c) (X Y:Operand):
  ∃ v,(do eqGuard op t X Y (.int k x) (.int k' y);binOp op t (.int k x) (.int k' y)).run P w=.ok v w/\ScR β q v:=by
 have hg:∀ (m:Sem Value),(do eqGuard op t X Y (.int k x) (.int k' y);m).run P w=m.run P w:=by
  intro m
  cases op<;>simp [eqGuard]
 rw [hg]
 cases op with
 |shl=>
  simp only [fm,Option.some.injEq,Prod.mk.injEq] at h
  obtain⟨rfl,rfl⟩:=h
  exact⟨_,by simp [binOp,Op.shift,Int.not_lt.2 hc],rfl⟩
 |shr=>
  simp only [fm,Option.some.injEq,Prod.mk.injEq] at h
  obtain⟨rfl,rfl⟩:=h
  exact⟨_,by simp [binOp,Op.shift,Int.not_lt.2 hc],rfl⟩
 |andNot=>
  simp only [fm,qx] at h
  split at h<;>cases h
 |quo=>
  simp only [fm,qx] at h
  split at h
  ·rename_i hk
   subst hk
   simp only [Option.some.injEq,Prod.mk.injEq] at h
   obtain⟨rfl,rfl⟩:=h
   exact⟨_,by simp [binOp,Op.intDiv,hc],rfl⟩
  cases h
 |rem=>
  simp only [fm,qx] at h
  split at h
  ·rename_i hk
   subst hk
   simp only [Option.some.injEq,Prod.mk.injEq] at h
   obtain⟨rfl,rfl⟩:=h
   exact⟨_,by simp [binOp,Op.intDiv,hc],rfl⟩
  cases h
 |_=>
  simp only [fm,qx] at h
  split at h
  ·rename_i hk
   subst hk
   simp only [Option.some.injEq,Prod.mk.injEq] at h
   obtain⟨rfl,rfl⟩:=h
   exact⟨_,by simp [binOp,Op.intArith,Op.intBits,Op.intCmp];try rfl,rfl⟩
  cases h
theorem zZ (x y:List UInt8):(ByteArray.mk x.toArray)++(ByteArray.mk y.toArray)=ByteArray.mk (x++y).toArray:=by
 apply ByteArray.ext
 simp
theorem z0 {op:BinOp} {x y:List UInt8} {t:TypeId} {q:Sc} {c:Prop} (h:fm P t op (.st x) (.st y)=some (q,c)) (hc:c) (X Y:Operand):
  ∃ v,(do eqGuard op t X Y (.string ⟨x.toArray⟩) (.string ⟨y.toArray⟩);binOp op t (.string ⟨x.toArray⟩) (.string ⟨y.toArray⟩)).run P w=.ok v w/\ScR β q v:=by
 have hg:∀ (m:Sem Value),(do eqGuard op t X Y (.string ⟨x.toArray⟩) (.string ⟨y.toArray⟩);m).run P w=m.run P w:=by
  intro m
  cases op<;>simp [eqGuard]
 rw [hg]
 cases op with
 |add=>
  simp only [fm,Option.some.injEq,Prod.mk.injEq] at h
  obtain⟨rfl,rfl⟩:=h
  refine⟨.string ⟨(x++y).toArray⟩,?_,rfl⟩
  rw [binOp_string_add,run_string_add_sum w _ _ (by simp [ByteArray.size];omega),zZ]
 |eql=>
  simp only [fm,Option.some.injEq,Prod.mk.injEq] at h
  obtain⟨rfl,rfl⟩:=h
  exact⟨_,by simp [binOp,Op.stringOp],rfl⟩
 |neq=>
  simp only [fm,Option.some.injEq,Prod.mk.injEq] at h
  obtain⟨rfl,rfl⟩:=h
  exact⟨_,by simp [binOp,Op.stringOp],rfl⟩
 |_=>simp only [fm] at h;cases h
theorem nF {t:TypeId} (ht:lO P t=true) (d:Nat) (x y:Bool):(Op.equalIn (d+1) t (.bool x) (.bool y)).run P w=.ok (x == y) w:=by
 simp only [Op.equalIn,Sem.run_bind,run_underlying (vV ht),Result.andThen_ok,Sem.run_pure]
theorem kC {t:TypeId} (ht:lO P t=true) (x y:Bool):(Op.equal t (.bool x) (.bool y)).run P w=.ok (x == y) w:=by
 exact nF ht 9999 x y
theorem z1 {op:BinOp} {x y:Bool} {t:TypeId} {q:Sc} {c:Prop} (h:fm P t op (.bo x) (.bo y)=some (q,c)) (X Y:Operand):
  ∃ v,(do eqGuard op t X Y (.bool x) (.bool y);binOp op t (.bool x) (.bool y)).run P w=.ok v w/\ScR β q v:=by
 have hg:∀ (m:Sem Value),(do eqGuard op t X Y (.bool x) (.bool y);m).run P w=m.run P w:=by
  intro m
  cases op<;>simp [eqGuard]
 rw [hg]
 cases op with
 |eql=>
  simp only [fm] at h
  split at h
  ·rename_i ht
   simp only [Option.some.injEq,Prod.mk.injEq] at h
   obtain⟨rfl,rfl⟩:=h
   exact⟨_,by simp only [binOp,Sem.run_bind,kC ht,Result.andThen_ok,Sem.run_pure],rfl⟩
  cases h
 |neq=>
  simp only [fm] at h
  split at h
  ·rename_i ht
   simp only [Option.some.injEq,Prod.mk.injEq] at h
   obtain⟨rfl,rfl⟩:=h
   exact⟨_,by simp only [binOp,Sem.run_bind,kC ht,Result.andThen_ok,Sem.run_pure],rfl⟩
  cases h
 |_=>simp only [fm] at h;cases h
theorem Bs (hs:HSim β s.hp w) (hsl:SlotsR β s.sl a.tmps) (op:BinOp) (t u:TypeId) (x y:Operand) (ho:o.op=.binOp op t x y u) (h:aI P s ty (.binOp op t x y u)=some r) (hc:r.c):dW β s r w ((execOp a.eval o).run P w):=by
 simp only [aI] at h
 split at h
 ·rename_i p q hx hy
  have hvx:ScR β p (a.eval x):=bN hsl hx
  have hvy:ScR β q (a.eval y):=bN hsl hy
  split at h
  ·rename_i res c hb
   simp only [Option.some.injEq] at h
   subst h
   have hc':c:=hc
   have key:∃ v,(do eqGuard op t x y (a.eval x) (a.eval y);binOp op t (a.eval x) (a.eval y)).run P w=.ok v w/\ScR β res v:=by
    cases p with
    |int k n=>cases q with
     |int k' m=>
      have e1:a.eval x=.int k n:=hvx
      have e2:a.eval y=.int k' m:=hvy
      rw [e1,e2];exact zY hb hc' x y
     |_=>simp only [fm] at hb;cases hb
    |st l=>cases q with
     |st m=>
      have e1:a.eval x=.string ⟨l.toArray⟩:=hvx
      have e2:a.eval y=.string ⟨m.toArray⟩:=hvy
      rw [e1,e2];exact z0 hb hc' x y
     |_=>simp only [fm] at hb;cases hb
    |bo l=>cases q with
     |bo m=>
      have e1:a.eval x=.bool l:=hvx
      have e2:a.eval y=.bool m:=hvy
      rw [e1,e2];exact z1 hb x y
     |_=>simp only [fm] at hb;cases hb
    |_=>simp only [fm] at hb;cases hb
   obtain⟨v,hrun,hr⟩:=key
   refine bV hs (v:=v) ?_ hr
   unfold execOp
   rw [ho]
   simp only [Sem.run_bind] at hrun⊢
   rw [hrun]
   rfl
  cases h
 ·rename_i p q hx hy
  obtain⟨vs,hpe,hl⟩:dG β (.ag p) (a.eval x):=bN hsl hx
  obtain⟨us,hqe,hm⟩:dG β (.ag q) (a.eval y):=bN hsl hy
  split at h
  ·simp only [Option.some.injEq] at h
   subst h
   obtain⟨h1,_⟩:=(show xK P t p q (bh p q) from hc) β w x y vs us hl hm
   refine bV hs (v:=.bool (bh p q)) ?_ rfl
   unfold execOp
   rw [ho]
   simp only [Sem.run_bind] at h1⊢
   rw [hpe,hqe,h1]
   rfl
  ·simp only [Option.some.injEq] at h
   subst h
   obtain⟨_,h1⟩:=(show xK P t p q (bh p q) from hc) β w x y vs us hl hm
   refine bV hs (v:=.bool (!bh p q)) ?_ rfl
   unfold execOp
   rw [ho]
   simp only [Sem.run_bind] at h1⊢
   rw [hpe,hqe,h1]
   rfl
  cases h
 cases h
theorem Cl (hs:HSim β s.hp w) (hsl:SlotsR β s.sl a.tmps) (op:UnOp) (t:TypeId) (x:Operand) (ho:o.op=.unOp op t x) (h:aI P s ty (.unOp op t x)=some r):dW β s r w ((execOp a.eval o).run P w):=by
 simp only [aI] at h
 split at h
 ·rename_i b hx
  have hv:a.eval x=.bool b:=bN hsl hx
  split at h
  ·simp only [Option.some.injEq] at h
   subst h
   refine aD hs (v:=.bool (!b)) ?_ rfl
   unfold execOp
   rw [ho]
   simp [hv,Op.unary]
  cases h
 ·rename_i k n hx
  have hv:a.eval x=.int k n:=bN hsl hx
  split at h
  ·simp only [Option.some.injEq] at h
   subst h
   refine aD hs (v:=.int k (k.wrap (0 - n))) ?_ rfl
   unfold execOp
   rw [ho]
   simp [hv,Op.unary,Op.intArith]
  cases h
 cases h
theorem pp (hs:HSim β s.hp w) (hsl:SlotsR β s.sl a.tmps) (t:TypeId) (x:Operand) (f:Nat) (ho:o.op=.fieldAddr t x f) (h:aI P s ty (.fieldAddr t x f)=some r):dW β s r w ((execOp a.eval o).run P w):=by
 simp only [aI] at h
 split at h
 ·rename_i n k j off sz hx hf
  obtain⟨p,hp,hpe⟩:ScR β (.pt n k j) (a.eval x):=bN hsl hx
  simp only [Option.some.injEq] at h
  subst h
  unfold ae at hf
  split at hf
  ·rename_i fs hfs
   split at hf
   ·rename_i g hg
    split at hf
    ·cases hf
    rename_i hz
    simp only [Option.some.injEq,Prod.mk.injEq] at hf
    obtain⟨rfl,rfl⟩:=hf
    refine aD hs (v:=.pointer (some ⟨p.blk,p.base+k*p.esz+(j+g.offset),none⟩)) ?_ ⟨p,hp,rfl⟩
    unfold execOp
    rw [ho]
    have hi:(P.info? g.type).isSome=true:=uY (by omega)
    simp [hpe,Instr.fieldAt,run_underlying hfs,hg,Instr.sureAddr,fieldPlace,cA w hi,hz,Addr.add_lit,Nat.add_assoc]
   cases hf
  cases hf
 cases h
theorem xS (hs:HSim β s.hp w) (hsl:SlotsR β s.sl a.tmps) (t:TypeId) (x:Operand) (f:Nat) (ho:o.op=.field t x f) (h:aI P s ty (.field t x f)=some r):dW β s r w ((execOp a.eval o).run P w):=by
 simp only [aI] at h
 split at h
 ·rename_i cs off hx hf
  obtain⟨vs,hve,hl⟩:dG β (.ag cs) (a.eval x):=bN hsl hx
  split at h
  ·rename_i c hc
   simp only [Option.some.injEq] at h
   subst h
   obtain⟨v,hv,hr⟩:=hl.get hc
   unfold D1 at hf
   split at hf
   ·rename_i fs hfs
    split at hf
    ·rename_i g hg
     split at hf
     ·rename_i hk
      simp only [Option.some.injEq] at hf
      subst hf
      simp only [Bool.and_eq_true,Bool.not_eq_true',cR] at hk
      obtain⟨⟨h1,_⟩,h2⟩:=hk
      obtain⟨d,hd⟩:=Option.isSome_iff_exists.1 h1
      refine aD hs (v:=v) ?_ hr
      unfold execOp
      rw [ho]
      simp [hve,Instr.field,run_underlying hfs,hg,part,asAgg,e7 w hd,h2,hv]
     cases hf
    cases hf
   cases hf
  cases h
 cases h
theorem pq (hs:HSim β s.hp w) (hsl:SlotsR β s.sl a.tmps) (t:TypeId) (x i:Operand) (ho:o.op=.indexAddr t x i) (h:aI P s ty (.indexAddr t x i)=some r) (hc:r.c):dW β s r w ((execOp a.eval o).run P w):=by
 simp only [aI] at h
 split at h
 ·rename_i n off len k m e sz hx hi ht0
  obtain⟨ht,hkn,rfl⟩:=d0 ht0
  have hvx:ScR β (.sl n off len) (a.eval x):=bN hsl hx
  have hvi:a.eval i=.int k m:=bN hsl hi
  split at h
  ·rename_i ob hob
   split at h
   ·rename_i hesz
    simp only [Option.some.injEq] at h
    subst h
    obtain⟨h0,h1⟩:0<=m/\m < len:=hc
    obtain⟨ad,cap,hxe,hlc,hcm,hor⟩:=hvx
    rcases hor with rfl|⟨p,hp,rfl,hav⟩
    ·omega
    obtain⟨he,_⟩:=eI hs (bu hob) hp
    refine bV hs (v:=.pointer (some ⟨p.blk,p.base+(off+m.toNat)*p.esz+0,none⟩)) ?_ ⟨p,hp,rfl⟩
    unfold execOp
    rw [ho]
    have hes:p.base+(off+m.toNat)*p.esz=p.base+off*p.esz+m.toNat*bZ P e:=by rw [<-hesz,<-he,Nat.add_mul,Nat.add_assoc]
    simp [hxe,hvi,Instr.indexAt,asIntOf,run_underlying (dH ht),h0,h1,cA w (gG hkn),Addr.add_lit,hes]
   cases h
  cases h
 cases h
theorem xT (hs:HSim β s.hp w) (hsl:SlotsR β s.sl a.tmps) (t:TypeId) (x i:Operand) (ho:o.op=.index t x i) (h:aI P s ty (.index t x i)=some r) (hc:r.c):dW β s r w ((execOp a.eval o).run P w):=by
 simp only [aI] at h
 split at h
 ·rename_i l k m hx hi
  have hvx:a.eval x=.string ⟨l.toArray⟩:=bN hsl hx
  have hvi:a.eval i=.int k m:=bN hsl hi
  split at h
  ·rename_i ht
   simp only [Option.some.injEq] at h
   subst h
   obtain⟨h0,h1⟩:0<=m/\m < l.length:=hc
   have hlt:m.toNat < l.length:=by omega
   refine bV hs (v:=.int .u8 (l.getD m.toNat 0).toNat) ?_ rfl
   unfold execOp
   rw [ho]
   have hg:(ByteArray.mk l.toArray)[m.toNat]? =some (l[m.toNat]'hlt):=by
    rw [getElem?_pos (ByteArray.mk l.toArray) m.toNat (by simpa [ByteArray.size] using hlt)]
    simp [ByteArray.getElem_eq_getElem_data]
   simp [hvx,hvi,Instr.index,asIntOf,run_underlying (jh ht),h0,hg,List.getD_eq_getElem?_getD,List.getElem?_eq_getElem hlt]
  cases h
 cases h
theorem s9 (hs:HSim β s.hp w) (hsl:SlotsR β s.sl a.tmps) (x:Operand) (i:Nat) (ho:o.op=.extract x i) (h:aI P s ty (.extract x i)=some r):dW β s r w ((execOp a.eval o).run P w):=by
 simp only [aI] at h
 split at h
 ·rename_i l hx
  obtain⟨vs,hpe,hl⟩:dG β (.tu l) (a.eval x):=bN hsl hx
  split at h
  ·rename_i c hc
   simp only [Option.some.injEq] at h
   subst h
   obtain⟨v,hv,hr⟩:=hl.get hc
   refine aD hs (v:=v) ?_ (Co.av_R hr)
   unfold execOp
   rw [ho]
   simp [hpe,Instr.extract,hv]
  cases h
 cases h
theorem qL (hs:HSim β s.hp w) (hsl:SlotsR β s.sl a.tmps) (f:FuncId) (first caps:Array Operand) (ho:o.op=.makeFunc (.func f) first caps) (h:aI P s ty (.makeFunc (.func f) first caps)=some r):dW β s r w ((execOp a.eval o).run P w):=by
 simp only [aI] at h
 split at h
 ·rename_i hf
  have hf':first= #[]:=Array.eq_empty_of_size_eq_zero hf
  subst hf'
  split at h
  ·rename_i l hl
   simp only [Option.some.injEq] at h
   subst h
   refine aD hs (v:=.func (.func f) #[] (caps.toList.map a.eval).toArray) ?_ ⟨_,rfl,uW hsl hl⟩
   unfold execOp
   rw [ho]
   have e:caps.map a.eval=(caps.toList.map a.eval).toArray:=by apply Array.ext';simp
   simp [Instr.makeFunc,e]
  cases h
 cases h
theorem fp {α:Type} {l:Array α} {x y:α} (h:l.toList=[x,y]):l= #[x,y]:=by apply Array.ext';simpa using h
theorem kD {α:Type} {l:Array α} {x:α} (h:l.toList=[x]):l= #[x]:=by apply Array.ext';simpa using h
theorem Bt (hs:HSim β s.hp w) (hsl:SlotsR β s.sl a.tmps) (args:Array Operand) (at_:Array TypeId) (ho:o.op=.call ⟨.builtin .len,args,at_⟩) (h:aI P s ty (.call ⟨.builtin .len,args,at_⟩)=some r):dW β s r w ((execOp a.eval o).run P w):=by
 simp only [aI] at h
 split at h
 ·rename_i x t ha ht
  have ha':=kD ha
  have ht':=kD ht
  subst ha';subst ht'
  split at h
  ·rename_i l hx
   have hv:a.eval x=.string ⟨l.toArray⟩:=bN hsl hx
   split at h
   ·rename_i hs'
    simp only [Option.some.injEq] at h
    subst h
    refine aD hs (v:=.int .i64 l.length) ?_ rfl
    unfold execOp
    rw [ho]
    have hz:(ByteArray.mk l.toArray).size=l.length:=rfl
    simp only [resolve,invoke,builtin,Builtin.len_,hv,run_underlying (jh hs'),goInt,hz,Sem.run_bind,Sem.run_pure,Result.andThen_ok,List.map_toArray,List.map_cons,List.map_nil,List.getElem?_toArray,List.getElem?_cons_zero]
   cases h
  ·rename_i n off len hx
   obtain⟨ad,cap,hxe,_⟩:ScR β (.sl n off len) (a.eval x):=bN hsl hx
   split at h
   ·rename_i q hs'
    simp only [Option.some.injEq] at h
    subst h
    obtain⟨e,qn⟩:=q
    obtain⟨he,_⟩:=d0 hs'
    refine aD hs (v:=.int .i64 len) ?_ rfl
    unfold execOp
    rw [ho]
    simp [resolve,invoke,builtin,Builtin.len_,hxe,run_underlying (dH he),goInt]
   cases h
  ·rename_i hx
   obtain⟨ad,hxe⟩:ScR β .nil (a.eval x):=bN hsl hx
   split at h
   ·rename_i q hs'
    simp only [Option.some.injEq] at h
    subst h
    obtain⟨e,qn⟩:=q
    obtain⟨he,_⟩:=d0 hs'
    refine aD hs (v:=.int .i64 0) ?_ rfl
    unfold execOp
    rw [ho]
    simp [resolve,invoke,builtin,Builtin.len_,hxe,run_underlying (dH he),goInt]
   cases h
  cases h
 cases h
theorem Bu (hs:HSim β s.hp w) (hsl:SlotsR β s.sl a.tmps) (args:Array Operand) (at_:Array TypeId) (ho:o.op=.call ⟨.builtin .min,args,at_⟩) (h:aI P s ty (.call ⟨.builtin .min,args,at_⟩)=some r):dW β s r w ((execOp a.eval o).run P w):=by
 simp only [aI] at h
 split at h
 ·rename_i x y ha
  have ha':=fp ha
  subst ha'
  split at h
  ·rename_i k m k' n hx hy
   have hvx:a.eval x=.int k m:=bN hsl hx
   have hvy:a.eval y=.int k' n:=bN hsl hy
   simp only [Option.some.injEq] at h
   subst h
   refine aD hs (v:=.int k (if n < m then n else m)) ?_ rfl
   unfold execOp
   rw [ho]
   simp [resolve,invoke,builtin,Builtin.min_,Builtin.min2,hvx,hvy]
  cases h
 cases h
theorem Bv (hs:HSim β s.hp w) (hsl:SlotsR β s.sl a.tmps) (args:Array Operand) (at_:Array TypeId) (ho:o.op=.call ⟨.builtin .max,args,at_⟩) (h:aI P s ty (.call ⟨.builtin .max,args,at_⟩)=some r):dW β s r w ((execOp a.eval o).run P w):=by
 simp only [aI] at h
 split at h
 ·rename_i x y ha
  have ha':=fp ha
  subst ha'
  split at h
  ·rename_i k m k' n hx hy
   have hvx:a.eval x=.int k m:=bN hsl hx
   have hvy:a.eval y=.int k' n:=bN hsl hy
   simp only [Option.some.injEq] at h
   subst h
   refine aD hs (v:=.int k (if m < n then n else m)) ?_ rfl
   unfold execOp
   rw [ho]
   simp [resolve,invoke,builtin,Builtin.max_,Builtin.max2,hvx,hvy]
  cases h
 cases h
end
end
section
open Go.RowKit
section
variable {P:Program} {β:Be} {s:S} {a:Act} {w:World} {o:Oper} {r:OpR} {ty:TypeId}
theorem cw (src dst:TypeId) (x:Operand) (ho:o.op=.convert src dst x) {v:Value} {w':World} (h:(convert src dst (a.eval x)).run P w=.ok v w'):(execOp a.eval o).run P w=.ok (.value v) w':=by
 unfold execOp
 rw [ho]
 simp only [Sem.run_bind,h,Result.andThen_ok]
 rfl
theorem kE {arr:Array Value} {base esz:Nat} {cs:List (List Sc)} (hc:bY β arr base esz cs) {off len:Nat} (hb:off+len<=cs.length) {k j:Nat} (hk:k < len) (hj:j < esz):
  ∃ c x v,cs[off+k]? =some c/\c[j]? =some x/\arr[base+(off+k)*esz+j]? =some v/\ScR β x v:=by
 have h1:cs[off+k]? =some (cs[off+k]'(by omega)):=List.getElem?_eq_getElem (by omega)
 obtain⟨hl,hcell⟩:=hc _ _ h1
 have h2:(cs[off+k]'(by omega))[j]? =some ((cs[off+k]'(by omega))[j]'(by omega)):=List.getElem?_eq_getElem (by omega)
 obtain⟨v,hv,hr⟩:=hcell j _ h2
 exact⟨_,_,v,h1,h2,hv,hr⟩
theorem z2 {c:List Sc} {x:Sc} (hb:iT c=true) (hx:c[0]? =some x):∃ n,c=[.int .u8 n]/\x=.int .u8 n:=by
 unfold iT at hb
 split at hb
 ·rename_i n
  simp at hx
  exact⟨n,rfl,hx.symm⟩
 cases hb
theorem z3 {src dst:TypeId} {k:IntKind} (h:uV P src dst=some (.int k)):(∃ d,P.underlying src=some d)/\P.underlying dst=some (.int k):=by
 unfold uV at h
 split at h
 ·rename_i h1 h2
  simp only [Option.some.injEq,Cv.int.injEq] at h
  subst h
  exact⟨⟨_,h1⟩,h2⟩
 ·cases h
 ·split at h<;>cases h
 ·split at h<;>cases h
 cases h
theorem z4 {src dst:TypeId} (h:uV P src dst=some .str):P.underlying src=some .string/\P.underlying dst=some .string:=by
 unfold uV at h
 split at h
 ·cases h
 ·rename_i h1 h2;exact⟨h1,h2⟩
 ·split at h<;>cases h
 ·split at h<;>cases h
 cases h
theorem z5 {src dst e:TypeId} (h:uV P src dst=some (.s2b e)):P.underlying src=some .string/\P.underlying dst=some (.slice e)/\P.underlying e=some (.int .u8):=by
 unfold uV at h
 split at h
 ·cases h
 ·cases h
 ·rename_i h1 h2
  split at h
  ·rename_i h3
   simp only [Option.some.injEq,Cv.s2b.injEq] at h
   subst h
   exact⟨h1,h2,uX h3⟩
  cases h
 ·split at h<;>cases h
 cases h
theorem va {src dst:TypeId} (h:uV P src dst=some .b2s):∃ e,P.underlying src=some (.slice e)/\P.underlying dst=some .string/\P.underlying e=some (.int .u8):=by
 unfold uV at h
 split at h
 ·cases h
 ·cases h
 ·split at h<;>cases h
 ·rename_i e h1 h2
  split at h
  ·rename_i h3
   exact⟨e,h1,h2,uX h3⟩
  cases h
 cases h
theorem s_ (hs:HSim β s.hp w) (hsl:SlotsR β s.sl a.tmps) (src dst:TypeId) (x:Operand) (ho:o.op=.convert src dst x) (h:aI P s ty (.convert src dst x)=some r) (hc:r.c):dW β s r w ((execOp a.eval o).run P w):=by
 simp only [aI] at h
 split at h
 ·rename_i k' k n hcv hx
  have hv:a.eval x=.int k n:=bN hsl hx
  obtain⟨⟨d,hd⟩,hk'⟩:=z3 hcv
  simp only [Option.some.injEq] at h
  subst h
  refine aD hs (v:=.int k' (k'.wrap n)) (cw src dst x ho ?_) rfl
  rw [hv]
  simp [convert,run_underlying hd,run_underlying hk',Conv.intToInt]
 ·rename_i l hcv hx
  have hv:a.eval x=.string ⟨l.toArray⟩:=bN hsl hx
  obtain⟨hd,hdst⟩:=z4 hcv
  simp only [Option.some.injEq] at h
  subst h
  refine aD hs (v:=.string ⟨l.toArray⟩) (cw src dst x ho ?_) rfl
  rw [hv]
  simp [convert,run_underlying hd,run_underlying hdst]
 ·rename_i e l hcv hx
  have hv:a.eval x=.string ⟨l.toArray⟩:=bN hsl hx
  obtain⟨hd,hdst,hu8⟩:=z5 hcv
  simp only [Option.some.injEq] at h
  subst h
  have hlen:l.length<=1073741824:=hc
  have hz:(ByteArray.mk l.toArray).size=l.length:=rfl
  have hrun:=Lib.run_convert_string_bytes (P:=P) w src dst e ⟨l.toArray⟩ hd hdst hu8
  have hge:=grownCap_ge w l.length 0 e
  have hle:=grownCap_le_maxLen w l.length 0 e (by unfold maxLen;omega)
  have hcells:(Lib.bytesCells w e ⟨l.toArray⟩).size=grownCap w l.length 0 e:=by
   simp only [Lib.bytesCells,hz,Array.size_append,Array.size_map,Array.size_replicate]
   have:(ByteArray.mk l.toArray).data.size=l.length:=rfl
   rw [this]
   omega
  let p:Pl:=⟨w.heap.size,0,1,grownCap w l.length 0 e⟩
  have hlike:World.like w (Lib.bytesWorld w e ⟨l.toArray⟩):=⟨rfl,rfl,rfl⟩
  refine⟨β++[some p],Lib.bytesWorld w e ⟨l.toArray⟩,gE hs.len hlike (by rw [Lib.bytesWorld_size];omega) (fun k hk=>Lib.bytesWorld_at_old w e _ k hk) p _ (Nat.le_refl _),
   iR hs (fun k hk=>Lib.bytesWorld_at_old w e _ k hk) (Nat.le_refl _) ?_ (fun _ c hm=>by
    simp only [List.mem_map] at hm
    obtain⟨b,_,rfl⟩:=hm
    rfl),.inl ⟨.slice (some ⟨w.heap.size,0,none⟩) l.length (grownCap w l.length 0 e),_,cw src dst x ho (by rw [hv];exact hrun),rfl,?_⟩⟩
  ·refine⟨rfl,_,_,_,Lib.bytesWorld_at_new w e _,?_,fun hown=>by cases hown⟩
   refine dB (fun c hm=>?_) fun k j c y hk hj=>?_
   ·simp only [List.mem_map] at hm
    obtain⟨b,_,rfl⟩:=hm
    rfl
   simp only [List.getElem?_map,Option.map_eq_some_iff] at hk
   obtain⟨b,hb,rfl⟩:=hk
   have hj0:j=0:=by have:=(List.getElem?_eq_some_iff.1 hj).1;simpa [sV] using this
   subst hj0
   simp only [sV,List.getElem?_cons_zero,Option.some.injEq] at hj
   subst hj
   have hkl:k < l.length:=(List.getElem?_eq_some_iff.1 hb).1
   refine⟨.int .u8 b.toNat,?_,rfl⟩
   simp only [Nat.mul_one,Nat.add_zero,Lib.bytesCells]
   rw [Array.getElem?_append_left (by simpa using hkl)]
   simp [hb]
  exact⟨_,_,rfl,hge,hle,.inr ⟨p,by rw [<-hs.len];simp,by simp [p],by simp [p]⟩⟩
 ·rename_i n off len hcv hx
  have hvx:ScR β (.sl n off len) (a.eval x):=bN hsl hx
  obtain⟨e,hsrc,hdst,hu8⟩:=va hcv
  split at h
  ·rename_i ob hob
   split at h
   ·rename_i hesz
    simp only [Option.some.injEq] at h
    subst h
    obtain⟨hb,hall⟩:off+len<=ob.cs.length/\∀ c∈ob.cs,iT c=true:=hc
    obtain⟨ad,cap,hxe,hlc,hcm,hor⟩:=hvx
    rcases hor with hcap|⟨p,hp,rfl,hav⟩
    ·have hl0:len=0:=by omega
     subst hl0
     refine bV hs (v:=.string ⟨#[]⟩) (cw src dst x ho ?_) ?_
     ·rw [hxe]
      cases ad with
      |none=>exact run_convert_bytes_nil w src e hsrc hu8 0 cap dst hdst
      |some b=>
       rw [run_convert_bytes_string w src dst e _ 0 cap hsrc hu8 hdst,run_bytesToString w b 0 cap [] (by simp [loadCells,loadCellsFrom])]
       rfl
     show Value.string _=_
     simp
    obtain⟨he',arr,T,fz,hh,hcr,_⟩:=eI hs (bu hob) hp
    rw [hesz] at hcr
    let num:List Sc->Int:=fun c=>match c with|[.int .u8 q]=>q|_=>0
    have hw:=run_convert_bytes_arg (P:=P) w src e hsrc hu8 p.blk (p.base+off*p.esz) len cap (((ob.cs.drop off).take len).map num) (by simp;omega) (fun i hi=>by
     obtain⟨c,y,v,h1,h2,h3,h4⟩:=kE hcr hb hi (j:=0) (by omega)
     obtain⟨q,rfl,rfl⟩:=z2 (hall c (List.mem_of_getElem? h1)) h2
     rw [iq hh,he',hesz]
     have h5:(((ob.cs.drop off).take len).map num).getD i 0=q:=by
      rw [List.getD_eq_getElem?_getD,List.getElem?_map,List.getElem?_take_of_lt hi,List.getElem?_drop,h1]
      rfl
     rw [h5]
     rw [show p.base+off*1+i=p.base+(off+i)*1+0 from by omega,h3,h4]) dst hdst
    refine bV hs (v:=.string (strOfNums (((ob.cs.drop off).take len).map num))) (cw src dst x ho (by rw [hxe];exact hw)) ?_
    show Value.string _=_
    congr 1
    unfold strOfNums
    congr 2
    rw [List.map_map]
    refine List.map_congr_left fun c hm=>?_
    have hb':=hall c (List.mem_of_mem_drop (List.mem_of_mem_take hm))
    unfold iT at hb'
    split at hb'
    ·rfl
    cases hb'
   cases h
  cases h
 ·rename_i hcv hx
  obtain⟨ad,hxe⟩:ScR β .nil (a.eval x):=bN hsl hx
  obtain⟨e,hsrc,hdst,hu8⟩:=va hcv
  simp only [Option.some.injEq] at h
  subst h
  refine aD hs (v:=.string ⟨#[]⟩) (cw src dst x ho ?_) rfl
  rw [hxe]
  cases ad with
  |none=>exact run_convert_bytes_nil w src e hsrc hu8 0 0 dst hdst
  |some b=>
   rw [run_convert_bytes_string w src dst e _ 0 0 hsrc hu8 hdst,run_bytesToString w b 0 0 [] (by simp [loadCells,loadCellsFrom])]
   rfl
 cases h
theorem pu (hs:HSim β s.hp w) (hsl:SlotsR β s.sl a.tmps) (t:TypeId) (x y:Operand) (ho:o.op=.makeSlice t x y) (h:aI P s ty (.makeSlice t x y)=some r) (hc:r.c):dW β s r w ((execOp a.eval o).run P w):=by
 simp only [aI] at h
 split at h
 ·rename_i e sz he0
  obtain⟨he,_,rfl⟩:=d0 he0
  split at h
  ·rename_i z hz0
   obtain⟨hz,hzl,hpos,_,hby,_⟩:=gF hz0
   split at h
   ·rename_i k l k' c hx hy
    have hvx:a.eval x=.int k l:=bN hsl hx
    have hvy:a.eval y=.int k' c:=bN hsl hy
    simp only [Option.some.injEq] at h
    subst h
    obtain⟨h0,h1,h2⟩:0<=l/\l<=c/\c<=1073741824:=hc
    obtain⟨i,v,vs,hi,hzv,hvc,hsc⟩:=e8 hz
    have hr:=lQ β hsc
    have hti:=lR hi
    have hvl:=hr.length
    have hbi:i.bytes<=131072:=by
     have:Cd P e=i.bytes:=by simp [Cd,hi]
     omega
    have hb2:(i.bytes:Int)*c<=281474976710656:=by
     obtain⟨m,rfl⟩:=Int.eq_ofNat_of_zero_le (show 0<=c by omega)
     have:i.bytes*m<=131072*m:=Nat.mul_le_mul_right _ hbi
     have h3:((i.bytes*m:Nat):Int)<=281474976710656:=by omega
     rwa [Int.natCast_mul] at h3
    have hrun:=run_make (P:=P) w t e i v (dH he) hi hzv k k' l c h0 h1 hb2 (by omega)
    refine jk hs (arr:=madeCells v.cells (c.toNat*i.size)) (v:=.slice (some ⟨w.heap.size,0,none⟩) l.toNat c.toNat) ?_ ?_ (fun h d hm=>by rw [List.eq_of_mem_replicate hm];exact h) (xO hs _ _ _ _ (by omega) (by unfold maxLen;omega) ?_)
    ·unfold execOp
     rw [ho]
     simp only [hvx,hvy,Sem.run_bind,hrun,Result.andThen_ok]
     rfl
    ·refine dB (fun d hm=>by rw [List.eq_of_mem_replicate hm];exact hzl) fun m j d q hk hj=>?_
     have hkl:m < l.toNat:=by have:=(List.getElem?_eq_some_iff.1 hk).1;simpa using this
     rw [List.getElem?_replicate_of_lt hkl] at hk
     simp only [Option.some.injEq] at hk
     subst hk
     obtain⟨u,hu,hru⟩:=hr.get hj
     have hjl:j < z.length:=(List.getElem?_eq_some_iff.1 hj).1
     refine⟨u,?_,hru⟩
     have hzs:vs.toArray.size=i.size:=by simp;omega
     have hg:=oq vs.toArray c.toNat m j (by omega) (by omega)
     rw [hzs] at hg
     unfold madeCells
     rw [hvc,hzs]
     show ((Array.range (c.toNat*i.size)).map (vs.toArray[· % i.size]!))[m*bZ P e+j]? =_
     rw [hti,hg]
     simpa using hu
    show c.toNat*bZ P e<=(madeCells v.cells (c.toNat*i.size)).size
    rw [size_madeCells,hti]
    exact Nat.le_refl _
   cases h
  cases h
 cases h
theorem qQ {β:Be} {s:S} {a:Act} (hs:SlotsR β s.sl a.tmps) {x:Option Operand} {n:Option Int} (h:e6 s x=some n):(x=none/\n=none)\/∃ k m,n=some m/\x.map a.eval=some (.int k m):=by
 cases x with
 |none=>simp only [e6,Option.some.injEq] at h;exact .inl ⟨rfl,h.symm⟩
 |some x=>
  simp only [e6] at h
  split at h
  ·rename_i k m hx
   simp only [Option.some.injEq] at h
   subst h
   have hv:a.eval x=.int k m:=bN hs hx
   exact .inr ⟨k,m,rfl,by simp [hv]⟩
  cases h
theorem ci (t:TypeId) (x:Operand) (lo hi:Option Operand) (ho:o.op=.slice t x lo hi none) {v:Value} {w':World} (h:(Instr.sliceAt t (a.eval x) (lo.map a.eval) (hi.map a.eval) none).run P w=.ok v w'):(execOp a.eval o).run P w=.ok (.value v) w':=by
 unfold execOp
 rw [ho]
 simp only [Option.map_none,Sem.run_bind,h,Result.andThen_ok]
 rfl
theorem du {t:TypeId} (ht:sU P t=true) (l:List UInt8) (lo hi:Option Value) (m n:Nat) (hb:(Instr.sliceBounds false l.length l.length lo hi none).run P w=.ok (m,n,l.length) w):
  (Instr.sliceAt t (.string ⟨l.toArray⟩) lo hi none).run P w=.ok (.string ⟨((l.take n).drop m).toArray⟩) w:=by
 rw [run_sliceAt_string w t _ lo hi none (jh ht)]
 have hz:(ByteArray.mk l.toArray).size=l.length:=rfl
 simp only [Instr.slice,Sem.run_bind,run_underlying (jh ht),Result.andThen_ok,Option.isSome_none,Bool.false_eq_true,if_false,Sem.run_pure,hz,hb]
 congr 2
 apply ByteArray.ext
 apply Array.ext'
 simp [ByteArray.data_extract,List.extract_eq_take_drop,List.take_drop]
 by_cases hmn:m<=n
 ·rw [Nat.add_sub_cancel' hmn]
 rw [List.drop_eq_nil_of_le (by simp;omega),List.drop_eq_nil_of_le (by simp;omega)]
theorem gy (b:Bool) (len cap:Nat):(Instr.sliceBounds b len cap none none none).run P w=.ok (0,len,cap) w:=by simp [Instr.sliceBounds]
theorem iD (b:Bool) (len cap:Nat) (k:IntKind) (m:Int) (h0:0<=m) (h1:m<=len):(Instr.sliceBounds b len cap (some (.int k m)) none none).run P w=.ok (m.toNat,len,cap) w:=by
 simp [Instr.sliceBounds,run_sliceBound,h0,h1]
theorem iE (b:Bool) (len cap:Nat) (k:IntKind) (m:Int) (h0:0<=m) (h1:m<=cap):(Instr.sliceBounds b len cap none (some (.int k m)) none).run P w=.ok (0,m.toNat,cap) w:=by
 simp [Instr.sliceBounds,run_sliceBound,h0,h1]
theorem gz (b:Bool) (len cap:Nat) (k k':IntKind) (m n:Int) (h0:0<=m) (h1:m<=n) (h2:n<=cap):(Instr.sliceBounds b len cap (some (.int k m)) (some (.int k' n)) none).run P w=.ok (m.toNat,n.toNat,cap) w:=by
 have h3:0<=n:=by omega
 have h4:m<=(n.toNat:Int):=by omega
 have e1:=run_sliceBound (P:=P) w k m n.toNat .sliceB h0 h4
 have e2:∀ c,(Instr.sliceBound (.int k' n) cap c).run P w=.ok n.toNat w:=fun c=>run_sliceBound (P:=P) w k' n cap c h3 h2
 cases b<;>simp [Instr.sliceBounds,e1,e2]
theorem dI {t e:TypeId} (ht:Bp P t=some e) (hk:cR P e=true) (ad:Option Addr) (len cap:Nat) (lo hi:Option Value) (m n:Nat) (hb:(Instr.sliceBounds true len cap lo hi none).run P w=.ok (m,n,cap) w):
  (Instr.sliceAt t (.slice ad len cap) lo hi none).run P w=.ok (sliced ad m n cap (bZ P e)) w:=by
 have hel:P.elem t=e:=by simp [Program.elem,dH ht]
 have hu:P.underlying t=some (.slice (P.elem t)):=by rw [hel];exact dH ht
 rw [run_sliceAt_slice w t _ lo hi none hu]
 have:=run_slice_any w t ad len cap hu lo hi none
 rw [this,hb]
 simp only [Result.andThen_ok,hel,cA w (gG hk)]
theorem jl {n off len esz:Nat} {ad:Option Addr} {cap m q:Nat} (hlc:len<=cap) (hcm:cap<=maxLen) (h:cap=0\/∃ p,β[n]? =some (some p)/\ad=some ⟨p.blk,p.base+off*p.esz,none⟩/\(off+cap)*p.esz<=p.avail)
  (hp:∀ p,β[n]? =some (some p)->p.esz=esz) (hmq:m<=q) (hq:q<=len):ScR β (.sl n (off+m) (q - m)) (sliced ad m q cap esz):=by
 refine⟨_,cap - m,rfl,by omega,by omega,?_⟩
 by_cases hc:cap=m
 ·exact .inl (by omega)
 rcases h with h|⟨p,hp',rfl,hav⟩
 ·exact .inl (by omega)
 refine .inr ⟨p,hp',?_,?_⟩
 ·rw [if_neg hc,<-hp p hp']
  simp [Addr.add_lit,Nat.add_mul,Nat.add_assoc]
 rw [show off+m+(cap - m)=off+cap from by omega];exact hav
theorem xU (hs:HSim β s.hp w) (hsl:SlotsR β s.sl a.tmps) (t:TypeId) (x:Operand) (lo hi:Option Operand) (ho:o.op=.slice t x lo hi none) (h:aI P s ty (.slice t x lo hi none)=some r) (hc:r.c):dW β s r w ((execOp a.eval o).run P w):=by
 simp only [aI] at h
 split at h
 ·rename_i v lo' hi' hx hlo hhi
  have hlo':=qQ hsl hlo
  have hhi':=qQ hsl hhi
  split at h
  ·rename_i l
   have hv:a.eval x=.string ⟨l.toArray⟩:=bN hsl hx
   split at h
   ·rename_i ht
    rcases hlo' with⟨rfl,rfl⟩|⟨k,m,rfl,hm⟩
    ·rcases hhi' with⟨rfl,rfl⟩|⟨k',n,rfl,hn⟩
     ·simp only [cS,Option.some.injEq] at h
      subst h
      refine aD hs (ci t x none none ho (by rw [hv];exact du ht l none none 0 l.length (gy _ _ _))) ?_
      show Value.string _=_
      simp
     simp only [cS,Option.some.injEq] at h
     subst h
     obtain⟨h0,h1⟩:0<=n/\n<=l.length:=hc
     refine bV hs (ci t x none hi ho (by rw [hv,hn];exact du ht l none _ 0 n.toNat (iE _ _ _ _ _ h0 h1))) ?_
     show Value.string _=_
     simp
    rcases hhi' with⟨rfl,rfl⟩|⟨k',n,rfl,hn⟩
    ·simp only [cS,Option.some.injEq] at h
     subst h
     obtain⟨h0,h1⟩:0<=m/\m<=l.length:=hc
     refine bV hs (ci t x lo none ho (by rw [hv,hm];exact du ht l _ none m.toNat l.length (iD _ _ _ _ _ h0 h1))) ?_
     show Value.string _=_
     simp
    simp only [cS,Option.some.injEq] at h
    subst h
    obtain⟨h0,h1,h2⟩:0<=m/\m<=n/\n<=l.length:=hc
    refine bV hs (ci t x lo hi ho (by rw [hv,hm,hn];exact du ht l _ _ m.toNat n.toNat (gz _ _ _ _ _ _ _ h0 h1 h2))) ?_
    rfl
   cases h
  ·rename_i n off len
   have hvx:ScR β (.sl n off len) (a.eval x):=bN hsl hx
   split at h
   ·rename_i e sz ob he0 hob
    obtain⟨he,hkn,rfl⟩:=d0 he0
    split at h
    ·rename_i hesz
     obtain⟨ad,cap,hxe,hlc,hcm,hor⟩:=hvx
     have hp:∀ p,β[n]? =some (some p)->p.esz=bZ P e:=fun p hp=>by
      obtain⟨he',_⟩:=eI hs (bu hob) hp
      rw [he',hesz]
     rcases hlo' with⟨rfl,rfl⟩|⟨k,m,rfl,hm⟩
     ·rcases hhi' with⟨rfl,rfl⟩|⟨k',q,rfl,hn⟩
      ·simp only [cS,Option.some.injEq] at h
       subst h
       refine aD hs (ci t x none none ho (by rw [hxe];exact dI he hkn ad len cap none none 0 len (gy _ _ _))) ?_
       have:=jl (m:=0) (q:=len) hlc hcm hor hp (Nat.zero_le _) (Nat.le_refl _)
       show ScR β (Sc.sl n off len) _
       simpa using this
      simp only [cS,Option.some.injEq] at h
      subst h
      obtain⟨h0,h1⟩:0<=q/\q<=len:=hc
      refine bV hs (ci t x none hi ho (by rw [hxe,hn];exact dI he hkn ad len cap none _ 0 q.toNat (iE _ _ _ _ _ h0 (by omega)))) ?_
      have:=jl (m:=0) (q:=q.toNat) hlc hcm hor hp (Nat.zero_le _) (by omega)
      show ScR β (Sc.sl n off q.toNat) _
      simpa using this
     rcases hhi' with⟨rfl,rfl⟩|⟨k',q,rfl,hn⟩
     ·simp only [cS,Option.some.injEq] at h
      subst h
      obtain⟨h0,h1⟩:0<=m/\m<=len:=hc
      refine bV hs (ci t x lo none ho (by rw [hxe,hm];exact dI he hkn ad len cap _ none m.toNat len (iD _ _ _ _ _ h0 h1))) ?_
      exact jl hlc hcm hor hp (by omega) (Nat.le_refl _)
     simp only [cS,Option.some.injEq] at h
     subst h
     obtain⟨h0,h1,h2⟩:0<=m/\m<=q/\q<=len:=hc
     refine bV hs (ci t x lo hi ho (by rw [hxe,hm,hn];exact dI he hkn ad len cap _ _ m.toNat q.toNat (gz _ _ _ _ _ _ _ h0 h1 (by omega)))) ?_
     exact jl hlc hcm hor hp (by omega) (by omega)
    cases h
   cases h
  cases h
 cases h
end
end
section
open Go.RowKit
section
variable {P:Program} {β:Be} {s:S} {a:Act} {w:World} {o:Oper} {r:OpR} {ty:TypeId}
theorem dv {t e:TypeId} (ht:Bp P t=some e) (hi:(P.info? e).isSome=true) (ty:TypeId) (ad ad':Option Addr) (n c' c:Nat) (h:n<=c'):
  (Builtin.append_ #[t,t] ty #[.slice ad' n c',.slice ad 0 c]).run P w=.ok (.slice ad' n c') w:=by
 obtain⟨i,hi⟩:=Option.isSome_iff_exists.1 hi
 cases ad<;>cases ad'<;>simp [Builtin.append_,run_underlying (dH ht),sizeOf,typeInfo,hi,Builtin.lenOf,h,Builtin.firstCells,loadCells,loadCellsFrom,storeCells]
theorem gI {arr:Array Value} {base esz:Nat} {cs:List (List Sc)} (hc:bY β arr base esz cs) (off len:Nat) (hb:off+len<=cs.length):
  ∃ news:List Value,news.length=len*esz/\(∀ j u,news[j]? =some u->arr[base+off*esz+j]? =some u)/\(∀ u∈news,u.oneCell'=true)/\
   (∀ k c,((cs.drop off).take len)[k]? =some c->c.length=esz/\∀ j x,c[j]? =some x->∃ v,news[k*esz+j]? =some v/\ScR β x v):=by
 have key:∀ i,i < len*esz->∃ v x,arr[base+off*esz+i]? =some v/\ScR β x v:=by
  intro i hi
  have hpos:0 < esz:=by
   rcases Nat.eq_zero_or_pos esz with h|h
   ·subst h;simp at hi
   exact h
  have hk:i / esz < len:=Nat.div_lt_of_lt_mul (by rw [Nat.mul_comm];exact hi)
  obtain⟨c,x,v,_,_,h3,h4⟩:=kE hc hb hk (Nat.mod_lt i hpos)
  refine⟨v,x,?_,h4⟩
  rw [<-h3]
  congr 1
  have:=Nat.div_add_mod i esz
  rw [Nat.add_mul]
  rw [Nat.mul_comm esz] at this
  omega
 refine⟨(List.range (len*esz)).map fun i=>(arr[base+off*esz+i]?).getD undef,by simp,?_,?_,?_⟩
 ·intro j u hu
  have hj:j < len*esz:=by have:=(List.getElem?_eq_some_iff.1 hu).1;simpa using this
  simp only [List.getElem?_map,List.getElem?_range hj,Option.map_some,Option.some.injEq] at hu
  obtain⟨v,x,hv,_⟩:=key j hj
  rw [hv] at hu⊢
  simpa using hu
 ·intro u hu
  simp only [List.mem_map,List.mem_range] at hu
  obtain⟨i,hi,rfl⟩:=hu
  obtain⟨v,x,hv,hr⟩:=key i hi
  rw [hv]
  exact hr.one
 intro k c hk
 have hkl:k < len:=by have:=(List.getElem?_eq_some_iff.1 hk).1;simp at this;omega
 rw [List.getElem?_take_of_lt hkl,List.getElem?_drop] at hk
 obtain⟨hl,hcell⟩:=hc _ _ hk
 refine⟨hl,fun j x hj=>?_⟩
 obtain⟨v,hv,hr⟩:=hcell j x hj
 have hjl:j < esz:=by have:=(List.getElem?_eq_some_iff.1 hj).1;omega
 have hlt:k*esz+j < len*esz:=by
  have:(k+1)*esz<=len*esz:=Nat.mul_le_mul_right _ hkl
  rw [Nat.add_mul] at this
  omega
 refine⟨v,?_,hr⟩
 simp only [List.getElem?_map,List.getElem?_range hlt,Option.map_some]
 rw [show base+off*esz+(k*esz+j)=base+(off+k)*esz+j from by rw [Nat.add_mul];omega,hv]
 rfl
theorem fB {arr:Array Value} {esz:Nat} {cs ds:List (List Sc)} {olds news:List Value} (ho:olds.length=cs.length*esz)
  (h1:∀ (k:Nat) (c:List Sc),cs[k]? =some c->c.length=esz/\∀ (j:Nat) (x:Sc),c[j]? =some x->∃ v,olds[k*esz+j]? =some v/\ScR β x v)
  (h2:∀ (k:Nat) (c:List Sc),ds[k]? =some c->c.length=esz/\∀ (j:Nat) (x:Sc),c[j]? =some x->∃ v,news[k*esz+j]? =some v/\ScR β x v)
  (ha:∀ (i:Nat) (v:Value),(olds++news)[i]? =some v->arr[i]? =some v):bY β arr 0 esz (cs++ds):=by
 intro k c hk
 rcases Nat.lt_or_ge k cs.length with hlt|hge
 ·rw [List.getElem?_append_left hlt] at hk
  obtain⟨hl,hc⟩:=h1 k c hk
  refine⟨hl,fun j x hj=>?_⟩
  obtain⟨v,hv,hr⟩:=hc j x hj
  refine⟨v,?_,hr⟩
  rw [Nat.zero_add]
  refine ha _ _ ?_
  rw [List.getElem?_append_left (List.getElem?_eq_some_iff.1 hv).1]
  exact hv
 rw [List.getElem?_append_right hge] at hk
 obtain⟨hl,hc⟩:=h2 _ c hk
 refine⟨hl,fun j x hj=>?_⟩
 obtain⟨v,hv,hr⟩:=hc j x hj
 refine⟨v,?_,hr⟩
 rw [Nat.zero_add]
 refine ha _ _ ?_
 have e:k*esz+j=olds.length+((k - cs.length)*esz+j):=by
  have:k*esz=(cs.length+(k - cs.length))*esz:=by congr 1;omega
  rw [Nat.add_mul] at this
  omega
 rw [e,List.getElem?_append_right (by omega),Nat.add_sub_cancel_left]
 exact hv
theorem tc (hl:β.length=s.hp.length) (n:Nat):StepR β β s.hp (s.hp.set n none) w w:=
 ⟨Be.le.refl _,rfl,rfl,rfl,Nat.le_refl _,fun _ _ _=>rfl,by simp,fun o ob' hlt ho=>by
  rw [List.getElem?_set] at ho
  split at ho
  ·split at ho<;>cases ho
  ·exact⟨ob',ho,id⟩,fun o ob p hge ho _=>by
  rw [List.getElem?_eq_none (by simpa using hge)] at ho
  cases ho⟩
theorem d7 {h:Hp} {n:Nat} {new:AObj} {o:Nat} {x:AObj} (hx:(h.set n none++[some new])[o]? =some (some x)):(o < h.length/\o≠n/\h[o]? =some (some x))\/(o=h.length/\x=new):=by
 have hl:(h.set n none).length=h.length:=by simp
 rcases Nat.lt_trichotomy o h.length with hlt|he|hgt
 ·rw [List.getElem?_append_left (by omega),List.getElem?_set] at hx
  split at hx
  ·split at hx<;>cases hx
  rename_i hne
  exact .inl ⟨hlt,Ne.symm hne,hx⟩
 ·subst he
  rw [List.getElem?_append_right (by omega)] at hx
  simp at hx
  exact .inr ⟨rfl,hx.symm⟩
 rw [List.getElem?_append_right (by omega),List.getElem?_eq_none (by simp;omega)] at hx
 cases hx
theorem lV {h:Hp} (hs:HSim β h w) {n:Nat} {ob:AObj} {p:Pl} (ho:h[n]? =some (some ob)) (hown:ob.own=true) (hp:β[n]? =some (some p)) {w':World} {arr':Array Value} {T:TypeId}
  (hh:w'.heap[p.blk]? =some (.cells arr' T (0,0))) (hk:∀ k,k≠p.blk->w'.heap[k]? =w.heap[k]?) (new:AObj) (he:p.esz=new.esz) (hc:bY (β++[some p]) arr' 0 new.esz new.cs) (hT:T=new.ty) (hbase:p.base=0) (hav:p.avail=arr'.size) (hfl:new.fl=true->FlatL new.cs):
  HSim (β++[some p]) (h.set n none++[some new]) w':=by
 have hle:=Be.le_append β [some p]
 have kb:∀ {o:Nat} {q:Option Pl},o < h.length->(β++[some p])[o]? =some q->β[o]? =some q:=by
  intro o q ho hq
  rwa [List.getElem?_append_left (by rw [hs.len];exact ho)] at hq
 have kn:(β++[some p])[h.length]? =some (some p):=by rw [<-hs.len];simp
 refine⟨by simp [hs.len],fun o x hx=>?_,fun o x hx hf=>by rcases d7 hx with⟨_,_,hx⟩|⟨_,rfl⟩;exact hs.flat o x hx hf;exact hfl hf,fun o o' x x' q q' hx hx' hxo hq hq' hne=>?_⟩
 ·rcases d7 hx with⟨hlt,hne,hx⟩|⟨rfl,rfl⟩
  ·obtain⟨q,hq,hr⟩:=hs.ob o x hx
   refine⟨q,hle _ _ hq,(hr.world fun q' hq'=>?_).mono hle⟩
   subst hq'
   exact hk _ (hs.apart n o ob x p q' ho hx hown hp hq (Ne.symm hne)).symm
  exact⟨some p,kn,he,arr',T,(0,0),hh,by rw [hbase];exact hc,fun _=>⟨hT,rfl,hbase,hav⟩⟩
 rcases d7 hx with⟨hlt,h1,h1'⟩|⟨rfl,rfl⟩
 ·rcases d7 hx' with⟨hlt',h2,h2'⟩|⟨rfl,rfl⟩
  ·exact hs.apart o o' x x' q q' h1' h2' hxo (kb hlt hq) (kb hlt' hq') hne
  rw [kn] at hq'
  simp only [Option.some.injEq] at hq'
  subst hq'
  exact (hs.apart n o ob x p q ho h1' hown hp (kb hlt hq) (Ne.symm h1)).symm
 rw [kn] at hq
 simp only [Option.some.injEq] at hq
 subst hq
 rcases d7 hx' with⟨hlt',h2,h2'⟩|⟨rfl,rfl⟩
 ·exact hs.apart n o' ob x' p q' ho h2' hown hp (kb hlt' hq') (Ne.symm h2)
 exact absurd rfl hne
theorem kF {h:Hp} (hs:HSim β h w) {n:Nat} (hn:n < h.length) {ob:AObj} {p:Pl} (ho:h[n]? =some (some ob)) (hown:ob.own=true) (hp:β[n]? =some (some p)) {w':World}
  (hlike:World.like w w') (hsz:w.heap.size<=w'.heap.size) (hk:∀ k,k≠p.blk->w'.heap[k]? =w.heap[k]?) (new:AObj):StepR β (β++[some p]) h (h.set n none++[some new]) w w':=
 ⟨Be.le_append _ _,hlike.1,hlike.2.1,hlike.2.2,hsz,fun k _ hno=>hk k (fun hb=>hno ⟨n,ob,p,ho,hown,hp,hb.symm⟩),by simp,fun o ob' hlt ho'=>by
  rcases d7 ho' with⟨_,_,h1⟩|⟨rfl,_⟩
  ·exact⟨ob',h1,id⟩
  ·omega,fun o ob' q hge ho' hq=>by
  rcases d7 ho' with⟨h1,_,_⟩|⟨rfl,_⟩
  ·omega
  rw [<-hs.len] at hq
  simp at hq
  subst hq
  exact .inl ⟨n,ob,p,ho,hown,hp,rfl⟩⟩
theorem bS (x y:Operand) (t:TypeId) (ho:o.op=.call ⟨.builtin .append,#[x,y],#[t,t]⟩) {v:Value} {w':World} (h:(Builtin.append_ #[t,t] o.type #[a.eval x,a.eval y]).run P w=.ok v w'):(execOp a.eval o).run P w=.ok (.value v) w':=by
 unfold execOp
 rw [ho]
 simp only [resolve,invoke,builtin,Sem.run_bind,Sem.run_pure,Result.andThen_ok,List.map_toArray,List.map_cons,List.map_nil,h]
theorem ot {h h':Hp} (hs:HSim β h w) (hs':HSim β h' w) (hst:StepR β β h h' w w) {t e:TypeId} {i:TypeInfo} {z:Value} (ht:Bp P t=some e) (hi:P.info? e=some i) (hz:i.zero=some z) (hzs:z.cells.size=i.size)
  {ad':Option Addr} {n cap':Nat} {olds:List Value} (hlo:olds.length=n*i.size) (holds:(ad'=none/\n=0)\/∃ b,ad'=some b/\∀ j v,olds[j]? =some v->w.cell? (b.add j)=some v) (hnn:ad'=none->n=0/\cap'=0)
  {b:Addr} {m c:Nat} {news:List Value} (hl:news.length=m*i.size) (hnews:∀ j v,news[j]? =some v->w.cell? (b.add j)=some v) (hg:cap' < n+m) (hm:0 < m) (hsm:n+m<=1073741824) (hby:i.bytes<=131072)
  {cs:List (List Sc)} {fl:Bool} (hcs:bY β (olds++news).toArray 0 i.size cs) (hfl:fl=true->FlatL cs) (ty:TypeId):
  ∃ β' w' v,(Builtin.append_ #[t,t] ty #[.slice ad' n cap',.slice (some b) m c]).run P w=.ok v w'/\StepR β β' h (h'++[some ⟨cs,i.size,e,true,fl⟩]) w w'/\HSim β' (h'++[some ⟨cs,i.size,e,true,fl⟩]) w'/\ScR β' (.sl h'.length 0 (n+m)) v:=by
 have hbytes:(n+m)*i.bytes<=140737488355328:=by
  have:(n+m)*i.bytes<=1073741824*131072:=Nat.mul_le_mul hsm hby
  omega
 have hge:=grownCap_ge w (n+m) cap' e
 have hcm:grownCap w (n+m) cap' e<=maxLen:=grownCap_le_maxLen w (n+m) cap' e (by unfold maxLen;omega)
 have hrun:(Builtin.append_ #[t,t] ty #[.slice ad' n cap',.slice (some b) m c]).run P w=
   .ok (.slice (some ⟨w.heap.size,0,none⟩) (n+m) (grownCap w (n+m) cap' e)) (w.drew.alloc (.cells (olds.toArray++news.toArray++Builtin.zeroCells z.cells (grownCap w (n+m) cap' e - (n+m))) e)):=by
  cases ad' with
  |none=>
   obtain⟨rfl,rfl⟩:=hnn rfl
   have ho0:olds=[]:=List.eq_nil_of_length_eq_zero (by simpa using hlo)
   subst ho0
   have:=run_append_nil (P:=P) w t ty e i z (dH ht) hi hz b m c news hl hnews hm (by omega) (by have hb:=hbytes;simp only [Nat.zero_add] at hb;omega)
   simp only [Nat.zero_add,Array.empty_append] at this⊢
   exact this
  |some b'=>
   rcases holds with⟨h0,_⟩|⟨b'',hb'',hold⟩
   ·cases h0
   cases hb''
   exact run_append_grow (P:=P) w t ty e i z (dH ht) hi hz b' n cap' olds hlo hold b m c news hl hnews hg (by omega) (growslice_fits hg hbytes)
 let arr:Array Value:=olds.toArray++news.toArray++Builtin.zeroCells z.cells (grownCap w (n+m) cap' e - (n+m))
 have hsize:arr.size=grownCap w (n+m) cap' e*i.size:=by
  show (olds.toArray++news.toArray++Builtin.zeroCells z.cells (grownCap w (n+m) cap' e - (n+m))).size=_
  simp only [Array.size_append,List.size_toArray,size_zeroCells,hzs,hlo,hl,<-Nat.add_mul]
  congr 1
  omega
 let p:Pl:=⟨w.heap.size,0,i.size,arr.size⟩
 let w':World:=w.drew.alloc (.cells arr e)
 have hle:=Be.le_append β [some p]
 have hlike:World.like w w':=⟨rfl,rfl,rfl⟩
 have hold':∀ k,k < w.heap.size->w'.heap[k]? =w.heap[k]? :=fun k hk=>(by first|exact heap_alloc_old w.drew _ k hk|exact heap_alloc_old w.drew _ hk)
 have hca:bY β arr 0 i.size cs:=by
  intro k c hk
  obtain⟨h1,h2⟩:=hcs k c hk
  refine⟨h1,fun j x hj=>?_⟩
  obtain⟨v,hv,hr⟩:=h2 j x hj
  refine⟨v,?_,hr⟩
  have hv':(olds.toArray++news.toArray)[0+k*i.size+j]? =some v:=by
   rw [List.append_toArray];exact hv
  show (olds.toArray++news.toArray++Builtin.zeroCells z.cells (grownCap w (n+m) cap' e - (n+m)))[0+k*i.size+j]? =some v
  rw [Array.getElem?_append_left (Array.getElem?_eq_some_iff.1 hv').1]
  exact hv'
 have hsz':w.heap.size<=w'.heap.size:=by
  show w.heap.size<=(w.drew.alloc _).heap.size
  simp
 refine⟨β++[some p],w',_,hrun,?_,?_,?_⟩
 ·exact StepR.trans hs.len hs'.len hst (gE hs'.len hlike hsz' hold' p _ (Nat.le_refl _))
 ·exact iR hs' hold' (Nat.le_refl _) ⟨rfl,arr,e,(0,0),heap_alloc_new w.drew _,hca.mono hle,fun _=>⟨rfl,rfl,rfl,rfl⟩⟩ hfl
 exact⟨_,_,rfl,hge,hcm,.inr ⟨p,by rw [<-hs'.len];simp,by simp [p],by simp [p,hsize]⟩⟩
theorem vZ (hs:HSim β s.hp w) (hsl:SlotsR β s.sl a.tmps) (args:Array Operand) (at_:Array TypeId) (ho:o.op=.call ⟨.builtin .append,args,at_⟩) (h:aI P s ty (.call ⟨.builtin .append,args,at_⟩)=some r) (hc:r.c):dW β s r w ((execOp a.eval o).run P w):=by
 simp only [aI] at h
 split at h
 ·rename_i x y t t' ha ht
  have ha':=fp ha
  have ht':=fp ht
  subst ha';subst ht'
  split at h
  ·rename_i htt
   subst htt
   split at h
   ·rename_i u v hx hy
    have hvx:=bN hsl hx
    have hvy:=bN hsl hy
    unfold ip at h
    split at h
    ·cases h
    rename_i e sz he0
    obtain⟨he,_,rfl⟩:=d0 he0
    split at h
    ·cases h
    rename_i z hz0
    obtain⟨hz,hzl,hpos,_,hby,_⟩:=gF hz0
    obtain⟨i,zv,zs,hi,hzv,hvc,hsc⟩:=e8 hz
    have hti:=lR hi
    have hinfo:(P.info? e).isSome=true:=by simp [hi]
    have hzs:zv.cells.size=i.size:=by
     have:=(lQ β hsc).length
     rw [hvc];simp;omega
    have hby':i.bytes<=131072:=by
     have:Cd P e=i.bytes:=by simp [Cd,hi]
     omega
    split at h
    ·
     rename_i n off len
     simp only [Option.some.injEq] at h
     subst h
     have hv1:ScR β (.sl n off len) (a.eval x):=hvx
     obtain⟨ad,hye⟩:ScR β .nil (a.eval y):=hvy
     obtain⟨ad',cap',hxe,hlc,hrest⟩:=hv1
     exact aD hs (bS x y t ho (by rw [hxe,hye];exact dv he hinfo _ _ _ _ _ _ hlc)) ⟨ad',cap',rfl,hlc,hrest⟩
    ·simp only [Option.some.injEq] at h
     subst h
     obtain⟨ad',hxe⟩:ScR β .nil (a.eval x):=hvx
     obtain⟨ad,hye⟩:ScR β .nil (a.eval y):=hvy
     exact aD hs (bS x y t ho (by rw [hxe,hye];exact dv he hinfo _ _ _ _ _ _ (Nat.le_refl _))) ⟨ad',rfl⟩
    ·rename_i n off len
     obtain⟨ad',hxe⟩:ScR β .nil (a.eval x):=hvx
     obtain⟨ad,cap,hye,hlc,hcm,hor⟩:ScR β (.sl n off len) (a.eval y):=hvy
     split at h
     ·rename_i ob hob
      split at h
      ·rename_i hesz
       simp only [Option.some.injEq] at h
       subst h
       obtain⟨hb,hsm⟩:off+len<=ob.cs.length/\len<=1073741824:=hc
       by_cases hl0:len=0
       ·subst hl0
        refine⟨β++[none],w,?_,od hs (by simp),.inl ⟨_,_,bS x y t ho (by rw [hxe,hye];exact dv he hinfo _ _ _ _ _ _ (Nat.le_refl _)),rfl,⟨ad',0,rfl,Nat.le_refl _,Nat.zero_le _,.inl rfl⟩⟩⟩
        exact⟨Be.le_append _ _,rfl,rfl,rfl,Nat.le_refl _,fun _ _ _=>rfl,by simp,fun o ob' hlt ho=>by
         rw [List.getElem?_append_left hlt] at ho;exact⟨ob',ho,id⟩,fun o ob' q hge ho hq=>by
         exfalso
         have he:o=s.hp.length:=by
          rcases Nat.lt_trichotomy o s.hp.length with h1|h1|h1
          ·omega
          ·exact h1
          rw [List.getElem?_append_right (by omega),List.getElem?_eq_none (by simp;omega)] at ho;cases ho
         subst he
         rw [<-hs.len] at hq
         simp at hq⟩
       rcases hor with hcap|⟨p,hp,rfl,hav⟩
       ·omega
       obtain⟨he',arr,T,fz,hh,hcr,_⟩:=eI hs (bu hob) hp
       obtain⟨news,hnl,hnc,hn1,hnr⟩:=gI hcr off len hb
       rw [hesz,hti] at hnl hnr hnc
       obtain⟨β',w',v,hrun,hst,hsim,hr⟩:=ot (P:=P) hs hs (StepR.refl β s.hp w hs.len) he hi hzv hzs (ad':=ad') (n:=0) (cap':=0) (olds:=[]) (by simp) (by
        cases ad' with
        |none=>exact .inl ⟨rfl,rfl⟩
        |some b=>exact .inr ⟨b,rfl,by simp⟩) (fun _=>⟨rfl,rfl⟩) (b:=⟨p.blk,p.base+off*p.esz,none⟩) (m:=len) (c:=cap) hnl (fun j u hu=>by
         rw [Addr.add_lit,iq hh,he',hesz,hti];exact hnc j u hu) (by omega) (by omega) (by omega) hby' (cs:=(ob.cs.drop off).take len) (by
         have:=fB (arr:=([]++news).toArray) (cs:=[]) (ds:=(ob.cs.drop off).take len) (olds:=[]) (news:=news) (esz:=i.size) (by simp) (by simp) hnr (fun i v hv=>by simpa using hv)
         simpa using this) (fl:=ob.fl) (fun hf c hm=>hs.flat n ob (bu hob) hf c (List.mem_of_mem_drop (List.mem_of_mem_take hm))) o.type
       rw [Nat.zero_add] at hr
       refine⟨β',w',?_,?_,.inl ⟨v,_,bS x y t ho (by rw [hxe,hye];exact hrun),rfl,hr⟩⟩
       ·rw [hti];exact hst
       rw [hti];exact hsim
      cases h
     cases h
    ·rename_i n' off' len' n off len
     obtain⟨ad',cap',hxe,hlc',hcm',hor'⟩:ScR β (.sl n' off' len') (a.eval x):=hvx
     obtain⟨ad,cap,hye,hlc,hcm,hor⟩:ScR β (.sl n off len) (a.eval y):=hvy
     split at h
     ·rename_i ob' ob hob' hob
      split at h
      ·rename_i hcond2
       obtain⟨hesz,hesz',hown,hty,hoff,hne⟩:=hcond2
       subst hoff
       simp only [Option.some.injEq] at h
       subst h
       obtain⟨hcl,hb,hsm⟩:ob'.cs.length=len'/\off+len<=ob.cs.length/\len'+len<=1073741824:=hc
       have hflat:(ob'.fl && ob.fl)=true->FlatL (ob'.cs++(ob.cs.drop off).take len):=fun hf c hm=>by
        simp only [Bool.and_eq_true] at hf
        rcases List.mem_append.1 hm with hm|hm
        ·exact hs.flat n' ob' (bu hob') hf.1 c hm
        exact hs.flat n ob (bu hob) hf.2 c (List.mem_of_mem_drop (List.mem_of_mem_take hm))
       have hkill:=vT hs n'
       have hstk:=tc (w:=w) hs.len n' (s:=s)
       have hlen':(s.hp.set n' none).length=s.hp.length:=by simp
       have hn':n' < s.hp.length:=(List.getElem?_eq_some_iff.1 (bu hob')).1
       -- where the old row lies
       have hplace:(cap'=0/\len'=0/\ob'.cs=[])\/∃ p',β[n']? =some (some p')/\ad'=some ⟨p'.blk,p'.base+0*p'.esz,none⟩/\(0+cap')*p'.esz<=p'.avail:=by
        rcases hor' with h0|h0
        ·exact .inl ⟨h0,by omega,List.eq_nil_of_length_eq_zero (by omega)⟩
        exact .inr h0
       by_cases hl0:len=0
       ·subst hl0
        have hrun:=dv (P:=P) (w:=w) he hinfo o.type ad ad' len' cap' cap hlc'
        rcases hplace with⟨hc0,hl0',hcs0⟩|⟨p',hp',had',hav'⟩
        ·subst hc0;subst hl0'
         refine⟨β++[none],w,?_,od hkill (by simp [hcs0]),.inl ⟨_,_,bS x y t ho (by rw [hxe,hye];exact hrun),rfl,⟨ad',0,rfl,Nat.le_refl _,Nat.zero_le _,.inl rfl⟩⟩⟩
         refine StepR.trans hs.len hkill.len hstk ⟨Be.le_append _ _,rfl,rfl,rfl,Nat.le_refl _,fun _ _ _=>rfl,by simp,fun o ob' hlt ho=>by
          rw [List.getElem?_append_left hlt] at ho;exact⟨ob',ho,id⟩,fun o ob' q hge ho hq=>by
          exfalso
          have he:o=(s.hp.set n' none).length:=by
           rcases Nat.lt_trichotomy o (s.hp.set n' none).length with h1|h1|h1
           ·omega
           ·exact h1
           rw [List.getElem?_append_right (by omega),List.getElem?_eq_none (by simp at h1⊢;omega)] at ho;cases ho
          subst he
          rw [<-hkill.len] at hq
          simp at hq⟩
        obtain⟨he',arr,T,fz,hh,hcr,hown'⟩:=eI hs (bu hob') hp'
        obtain⟨hT,hf0,hbase,hav⟩:=hown' hown
        subst hf0
        have hcr':bY β arr 0 (bZ P e) (ob'.cs++(ob.cs.drop off).take 0):=by
         rw [List.take_zero,List.append_nil,<-hesz',<-hbase];exact hcr
        refine⟨β++[some p'],w,?_,?_,.inl ⟨_,_,bS x y t ho (by rw [hxe,hye];exact hrun),rfl,?_⟩⟩
        ·exact kF hs hn' (bu hob') hown hp' (w':=w) ⟨rfl,rfl,rfl⟩ (Nat.le_refl _) (fun k _=>rfl) _
        ·exact lV hs (bu hob') hown hp' (w':=w) (arr':=arr) (T:=T) (by simpa using hh) (fun k _=>rfl) ⟨_,bZ P e,e,true,ob'.fl && ob.fl⟩ (by rw [he',hesz']) (hcr'.mono (Be.le_append _ _)) (by rw [hT,hty]) hbase hav hflat
        refine⟨ad',cap',by rw [Nat.add_zero],by omega,hcm',.inr ⟨p',by rw [<-hs.len];simp,had',hav'⟩⟩
       rcases hor with hcap|⟨p,hp,rfl,hav⟩
       ·omega
       obtain⟨hep,arr,T,fz,hh,hcr,_⟩:=eI hs (bu hob) hp
       obtain⟨news,hnl,hnc,hn1,hnr⟩:=gI hcr off len hb
       rw [hesz] at hnl hnr hnc
       have hnews:∀ j u,news[j]? =some u->w.cell? ((⟨p.blk,p.base+off*p.esz,none⟩:Addr).add j)=some u:=fun j u hu=>by
        rw [Addr.add_lit,iq hh,hep,hesz];exact hnc j u hu
       by_cases hroom:len'+len<=cap'
       ·rcases hplace with⟨hc0,_,_⟩|⟨p',hp',had',hav'⟩
        ·omega
        obtain⟨hep',arr',T',fz',hh',hcr',hown'⟩:=eI hs (bu hob') hp'
        obtain⟨hT,hf0,hbase,havl⟩:=hown' hown
        subst hf0
        have hfit:len'*i.size+news.length<=arr'.size:=by
         have h1:(len'+len)*i.size<=cap'*i.size:=Nat.mul_le_mul_right _ hroom
         rw [Nat.add_mul] at h1
         rw [Nat.zero_add,hep',hesz',hti] at hav'
         rw [hnl,hti]
         omega
        have hrun:=run_append_room (P:=P) w t o.type e i (dH he) hi p'.blk len' cap' arr' (by rw [<-hT.trans hty];exact hh') ⟨p.blk,p.base+off*p.esz,none⟩ len cap news (by rw [hnl,hti]) hnews hn1 hroom hfit
        let arr2:Array Value:=(arr'.toList.take (len'*i.size)++news++arr'.toList.drop (len'*i.size+news.length)).toArray
        have hsz2:arr2.size=arr'.size:=by
         show ((arr'.toList.take (len'*i.size)++news++arr'.toList.drop (len'*i.size+news.length)).toArray).size=_
         simp
         omega
        have hcr2:bY β arr2 0 (bZ P e) (ob'.cs++(ob.cs.drop off).take len):=by
         refine fB (olds:=arr'.toList.take (len'*i.size)) (news:=news) ?_ ?_ hnr ?_
         ·simp
          rw [hcl,hti]
          omega
         ·intro k c hk
          obtain⟨h1,h2⟩:=hcr' k c hk
          refine⟨by rw [h1,hesz'],fun j q hj=>?_⟩
          obtain⟨v,hv,hr⟩:=h2 j q hj
          refine⟨v,?_,hr⟩
          rw [hbase,Nat.zero_add,hesz'] at hv
          have hkl:k < len':=by rw [<-hcl];exact (List.getElem?_eq_some_iff.1 hk).1
          have hjl:j < bZ P e:=by have:=(List.getElem?_eq_some_iff.1 hj).1;omega
          have:k*bZ P e+j < len'*i.size:=by
           have h3:(k+1)*bZ P e<=len'*bZ P e:=Nat.mul_le_mul_right _ hkl
           rw [Nat.add_mul] at h3
           rw [<-hti]
           omega
          rw [List.getElem?_take_of_lt this,Array.getElem?_toList]
          exact hv
         intro q v hv
         show ((arr'.toList.take (len'*i.size)++news++arr'.toList.drop (len'*i.size+news.length)).toArray)[q]? =some v
         rw [List.getElem?_toArray,List.getElem?_append_left (List.getElem?_eq_some_iff.1 hv).1]
         exact hv
        refine⟨β++[some p'],w.setRow p'.blk arr2,?_,?_,.inl ⟨_,_,bS x y t ho (by rw [hxe,hye,had',hbase,Nat.zero_mul];exact hrun),rfl,?_⟩⟩
        ·exact kF hs hn' (bu hob') hown hp' (w':=w.setRow p'.blk arr2) ⟨rfl,rfl,rfl⟩ (by simp) (fun k hk=>setRow_other w p'.blk k arr2 hk) _
        ·exact lV hs (bu hob') hown hp' (w':=w.setRow p'.blk arr2) (arr':=arr2) (T:=T') (setRow_heap w p'.blk arr' arr2 T' _ hh') (fun k hk=>setRow_other w p'.blk k arr2 hk) ⟨_,bZ P e,e,true,ob'.fl && ob.fl⟩ (by rw [hep',hesz']) (hcr2.mono (Be.le_append _ _)) (by rw [hT,hty]) hbase (by rw [hsz2];exact havl) hflat
        refine⟨_,cap',rfl,hroom,hcm',.inr ⟨p',by rw [<-hs.len];simp,by rw [hbase];simp,hav'⟩⟩
       have hold:∃ olds:List Value,olds.length=len'*i.size/\((ad'=none/\len'=0)\/∃ b,ad'=some b/\∀ j v,olds[j]? =some v->w.cell? (b.add j)=some v)/\(ad'=none->len'=0/\cap'=0)/\
         (∀ (k:Nat) (c:List Sc),ob'.cs[k]? =some c->c.length=i.size/\∀ (j:Nat) (x:Sc),c[j]? =some x->∃ v,olds[k*i.size+j]? =some v/\ScR β x v):=by
        rcases hplace with⟨hc0,hl0',hcs0⟩|⟨p',hp',had',hav'⟩
        ·refine⟨[],by simp [hl0'],?_,fun _=>⟨hl0',hc0⟩,by simp [hcs0]⟩
         cases ad' with
         |none=>exact .inl ⟨rfl,hl0'⟩
         |some b=>exact .inr ⟨b,rfl,by simp⟩
        obtain⟨hep',arr',T',fz',hh',hcr',_⟩:=eI hs (bu hob') hp'
        obtain⟨olds,h1,h2,h3,h4⟩:=gI hcr' 0 len' (by omega)
        rw [hesz',hti] at h1 h2 h4
        refine⟨olds,h1,.inr ⟨_,had',fun j v hv=>?_⟩,(fun hn=>by rw [had'] at hn;cases hn),?_⟩
        ·rw [Addr.add_lit,iq hh',hep',hesz',hti];exact h2 j v hv
        rw [List.drop_zero,List.take_of_length_le (by omega)] at h4
        exact h4
       obtain⟨olds,hol,holds,hnn,hor2⟩:=hold
       rw [hti] at hnl hnr
       obtain⟨β',w',v,hrun,hst,hsim,hr⟩:=ot (P:=P) hs hkill hstk he hi hzv hzs hol holds hnn hnl hnews (c:=cap) (by omega) (by omega) hsm hby' (cs:=ob'.cs++(ob.cs.drop off).take len)
        (fB (by rw [hol,hcl]) hor2 hnr (fun q v hv=>by simpa using hv)) (fl:=ob'.fl && ob.fl) hflat o.type
       rw [hlen'] at hr
       refine⟨β',w',?_,?_,.inl ⟨v,_,bS x y t ho (by rw [hxe,hye];exact hrun),rfl,hr⟩⟩
       ·rw [hti];exact hst
       rw [hti];exact hsim
      cases h
     cases h
    cases h
   cases h
  cases h
 cases h
end
end
section
open Go.RowKit
theorem j1 {P:Program} {β:Be} {s:S} {a:Act} {w:World} {o:Oper} {r:OpR} {ty:TypeId} (hs:HSim β s.hp w) (hsl:SlotsR β s.sl a.tmps) (h:aI P s ty o.op=some r) (hc:r.c):dW β s r w ((execOp a.eval o).run P w):=by
 generalize ho:o.op=op at h
 cases op with
 |move x=>exact uZ hs hsl x (.inl ho) h
 |assign x=>exact uZ (ty:=ty) hs hsl x (.inr ho) (by simpa only [aI] using h)
 |pick c x y=>exact zW hs hsl c x y ho h
 |alloc e=>exact xP hs e ho h
 |box e x=>exact Br hs hsl e x ho h
 |build t parts=>exact xQ hs hsl t parts ho h
 |buildSlice t len parts=>exact nE hs hsl t len parts ho h
 |load t x=>exact zX hs hsl t x ho h
 |store t x y=>exact xR hs hsl t x y ho h
 |nilCheck x=>exact qz hs hsl x ho h
 |binOp op t x y u=>exact Bs hs hsl op t u x y ho h hc
 |unOp op t x=>exact Cl hs hsl op t x ho h
 |convert src dst x=>exact s_ hs hsl src dst x ho h hc
 |makeSlice t x y=>exact pu hs hsl t x y ho h hc
 |slice t x lo hi mx=>
  cases mx with
  |none=>exact xU hs hsl t x lo hi ho h hc
  |some m=>simp only [aI] at h;cases h
 |fieldAddr t x f=>exact pp hs hsl t x f ho h
 |field t x f=>exact xS hs hsl t x f ho h
 |indexAddr t x i=>exact pq hs hsl t x i ho h hc
 |index t x i=>exact xT hs hsl t x i ho h hc
 |extract x i=>exact s9 hs hsl x i ho h
 |makeFunc f first caps=>
  cases f with
  |func f=>exact qL hs hsl f first caps ho h
  |_=>simp only [aI] at h;cases h
 |call c=>
  obtain⟨callee,args,at_⟩:=c
  cases callee with
  |builtin b=>
   cases b with
   |len=>exact Bt hs hsl args at_ ho h
   |append=>exact vZ hs hsl args at_ ho h hc
   |min=>exact Bu hs hsl args at_ ho h
   |max=>exact Bv hs hsl args at_ ho h
   |_=>simp only [aI] at h;cases h
  |_=>simp only [aI] at h;cases h
 |_=>simp only [aI] at h;cases h
structure Entry where
 β:Be
 h:Hp
 w:World
structure Sim (E:Entry) (β:Be) (s:S) (a:Act) (w:World):Prop where
 dfr:a.defers=[]
 sl:SlotsR β s.sl a.tmps
 hp:HSim β s.hp w
 ent:E.β.length=E.h.length
 st:StepR E.β β E.h s.hp E.w w
def td (P:Program) (f:FuncId):Prop:=∃ fn,P.funcs[f]? =some fn/\(fn.name == "runtime.NumGoroutine")=false/\fn.body.isNone=false
def dp (P:Program) (f:FuncId) (args:List AV) (h:Hp) (res:AV) (h':Hp):Prop:=
 td P f/\∀ β w vs,HSim β h w->L2 (dG β) args vs->Calls P f vs.toArray w fun e w'=>∃ β' v,e=.returned v/\dG β' res v/\HSim β' h' w'/\StepR β β' h h' w w'
def xV (P:Program) (E:Entry) (f:FuncId) (args:List AV) (h:Hp) (res:AV) (h':Hp):Prop:=
 td P f/\∀ β w vs,E.β.length=E.h.length->StepR E.β β E.h h E.w w->HSim β h w->L2 (dG β) args vs->Calls P f vs.toArray w fun e w'=>∃ β' v,e=.returned v/\dG β' res v/\HSim β' h' w'/\StepR β β' h h' w w'
theorem dp.e {P:Program} {E:Entry} {f:FuncId} {args:List AV} {h:Hp} {res:AV} {h':Hp} (ct:dp P f args h res h'):xV P E f args h res h':=
 ⟨ct.1,fun β w vs _ _ hs hv=>ct.2 β w vs hs hv⟩
def xW (P:Program) (E:Entry) (f:FuncId) (args:List AV) (h:Hp) (R:AV->Hp->Prop):Prop:=
 td P f/\∀ β w vs,E.β.length=E.h.length->StepR E.β β E.h h E.w w->HSim β h w->L2 (dG β) args vs->Calls P f vs.toArray w fun e w'=>∃ res h',R res h'/\∃ β' v,e=.returned v/\dG β' res v/\HSim β' h' w'/\StepR β β' h h' w w'
theorem xV.r {P:Program} {E:Entry} {f:FuncId} {args:List AV} {h:Hp} {res:AV} {h':Hp} {R:AV->Hp->Prop} (ct:xV P E f args h res h') (hR:R res h'):xW P E f args h R:=
 ⟨ct.1,fun β w vs h1 h2 h3 h4=>(ct.2 β w vs h1 h2 h3 h4).mono fun e w' hh=>⟨res,h',hR,hh⟩⟩
def S.evs (s:S):List Operand->Option (List AV)
 |[]=>some []
 |x::r=>match s.ev x,s.evs r with
  |some v,some l=>some (v::l)
  |_,_=>none
theorem vb {β:Be} {s:S} {a:Act} (hs:SlotsR β s.sl a.tmps):∀ {xs:List Operand} {l:List AV},s.evs xs=some l->L2 (dG β) l (xs.map a.eval)
 |[],l,h=>by simp only [S.evs,Option.some.injEq] at h;subst h;trivial
 |x::r,l,h=>by
  simp only [S.evs] at h
  split at h
  ·rename_i v m hv hm
   simp only [Option.some.injEq] at h
   subst h
   exact⟨bN hs hv,vb hs hm⟩
  cases h
def gJ:List Sc->List AV
 |[]=>[]
 |c::r=>.sc c::gJ r
theorem lz {β:Be}:∀ {l:List Sc} {vs:List Value},L2 (ScR β) l vs->L2 (dG β) (gJ l) vs
 |[],[],_=>trivial
 |_::_,_::_,h=>⟨h.1,lz h.2⟩
 |[],_::_,h=>h.elim
 |_::_,[],h=>h.elim
def cN (r:Array Oper) (s:S) (o:Oper):Option Bool:=
 match o.guard with
 |none=>some true
 |some (j,want)=>match r[j]? with
  |some oj=>match oj.dst with
   |some d=>match s.sl.get d with
    |some (.sc (.bo b))=>some (b == want)
    |some (.tu [])=>some false
    |_=>none
   |none=>none
  |none=>none
theorem fV {β:Be} {r:Array Oper} {s:S} {a:Act} {o:Oper} {b:Bool} (hs:SlotsR β s.sl a.tmps) (h:cN r s o=some b):Region.wanted o (yielded r a.tmps)=b:=by
 unfold cN at h
 unfold Region.wanted
 split at h
 ·rename_i hg
  simp only [Option.some.injEq] at h
  subst h
  rw [hg]
 rename_i j want hg
 rw [hg]
 dsimp only
 split at h
 ·rename_i oj hj
  split at h
  ·rename_i d hd
   split at h
   ·rename_i x hx
    obtain⟨u,hu,hr⟩:=hs.2 d _ hx
    have hu':u=.bool x:=hr
    subst hu'
    simp only [Option.some.injEq] at h
    subst h
    simp only [yielded,hj,hd,Option.bind_some,hu]
    cases x<;>cases want<;>rfl
   ·rename_i hx
    obtain⟨u,hu,vs,hr,hl⟩:=hs.2 d _ hx
    simp only [Option.some.injEq] at h
    subst h
    cases vs with
    |nil=>
     subst hr
     simp [yielded,hj,hd,hu]
    |cons=>exact hl.elim
   cases h
  cases h
 cases h
def pv (P:Program) (E:Entry) (r:Array Oper) (l:List Oper) (s:S) (K:S->Prop):Prop:=
 ∀ β a w,Sim E β s a w->∀ Q:Exit->Act->World->Prop,(∀ s' β' a' w',K s'->Sim E β' s' a' w'->Q .normal a' w')->wpList P r Q l a w
def kG (P:Program) (E:Entry) (C:Code) (s:S) (K:Exit->S->Prop):Prop:=
 ∀ β a w,Sim E β s a w->∀ Q:Exit->Act->World->Prop,(∀ e s' β' a' w',K e s'->Sim E β' s' a' w'->Q e a' w')->C.wp P Q a w
theorem eS {E:Entry} {β β':Be} {s:S} {a:Act} {w w':World} {h':Hp} (hs:Sim E β s a w) (hst:StepR β β' s.hp h' w w') (hh:HSim β' h' w') (d:Option Tmp) {av:AV} {v:Value} (hv:dG β' av v):
  Sim E β' (s.put d (some av) h') (a.put d v) w':=by
 have hstep:StepR E.β β' E.h h' E.w w':=StepR.trans hs.ent hs.hp.len hs.st hst
 cases d with
 |none=>exact⟨hs.dfr,hs.sl.mono hst.le,hh,hs.ent,hstep⟩
 |some d=>exact⟨hs.dfr,(hs.sl.mono hst.le).put d hv,hh,hs.ent,hstep⟩
theorem gK {E:Entry} {β β':Be} {s:S} {a:Act} {w w':World} {h':Hp} (hs:Sim E β s a w) (hst:StepR β β' s.hp h' w w') (hh:HSim β' h' w') (d:Option Tmp) (v:Value):
  Sim E β' (s.put d none h') (a.put d v) w':=by
 have hstep:StepR E.β β' E.h h' E.w w':=StepR.trans hs.ent hs.hp.len hs.st hst
 cases d with
 |none=>exact⟨hs.dfr,hs.sl.mono hst.le,hh,hs.ent,hstep⟩
 |some d=>exact⟨hs.dfr,(hs.sl.mono hst.le).putNone d v,hh,hs.ent,hstep⟩
theorem lW {P:Program} {ops:Array Oper} {Q:Exit->Act->World->Prop} {o:Oper} {l:List Oper} {a:Act} {w:World} (hg:Region.wanted o (yielded ops a.tmps)=true) (h:o.wp P a w (wpList P ops Q l) Q):wpList P ops Q (o::l) a w:=by
 unfold wpList
 rw [if_pos hg]
 exact .inl h
theorem qS {P:Program} {ops:Array Oper} {Q:Exit->Act->World->Prop} {o:Oper} {l:List Oper} {a:Act} {w:World} (hg:Region.wanted o (yielded ops a.tmps)=false) (h:wpList P ops Q l (a.put o.dst undef) w):wpList P ops Q (o::l) a w:=by
 unfold wpList
 rw [if_neg (by simp [hg])]
 exact h
theorem xX {P:Program} {E:Entry} {r:Array Oper} {s:S} {K:S->Prop} (h:K s):pv P E r [] s K:=fun β a w hs Q hQ=>hQ s β a w h hs
theorem z6 {P:Program} {E:Entry} {r:Array Oper} {o:Oper} {l:List Oper} {s:S} {K:S->Prop} {x:OpR} (hg:cN r s o=some true) (h:aI P s o.type o.op=some x) (hc:x.c) (hk:pv P E r l (s.put o.dst x.v x.hp) K):pv P E r (o::l) s K:=by
 intro β a w hs Q hQ
 refine lW (fV hs.sl hg) ?_
 unfold Oper.wp
 obtain⟨β',w',hst,hh,hx⟩:=j1 hs.hp hs.sl h hc
 rcases hx with⟨v,av,hrun,hv,hr⟩|⟨hrun,hv⟩
 ·rw [hrun]
  rw [hv] at hk
  exact hk β' _ w' (eS hs hst hh o.dst hr) Q hQ
 rw [hrun]
 rw [hv] at hk
 exact hk β' _ w' (gK hs hst hh o.dst undef) Q hQ
theorem v_ {P:Program} {E:Entry} {r:Array Oper} {o:Oper} {l:List Oper} {s:S} {K:S->Prop} (hg:cN r s o=some false) (hk:pv P E r l (s.put o.dst (some (.tu [])) s.hp) K):pv P E r (o::l) s K:=by
 intro β a w hs Q hQ
 refine qS (fV hs.sl hg) ?_
 exact hk β _ w (eS hs (StepR.refl β s.hp w hs.hp.len) hs.hp o.dst ⟨[],rfl,trivial⟩) Q hQ
theorem wc {P:Program} {E:Entry} {r:Array Oper} {o:Oper} {l:List Oper} {s:S} {K:S->Prop} {x:Operand} {args:Array Operand} {at_:Array TypeId} {f:Nat} {caps:List Sc} {avs:List AV}
  (hg:cN r s o=some true) (ho:o.op=.call ⟨.value x,args,at_⟩) (hx:s.ev x=some (.cl f caps)) (ha:s.evs args.toList=some avs) (hc:xW P E f (avs++gJ caps) s.hp fun res h'=>pv P E r l (s.put o.dst (some res) h') K):pv P E r (o::l) s K:=by
 intro β a w hs Q hQ
 refine lW (fV hs.sl hg) ?_
 obtain⟨⟨fn,hfn,hname,hbody⟩,hcall⟩:=hc
 obtain⟨cvs,hxe,hcl⟩:dG β (.cl f caps) (a.eval x):=bN hs.sl hx
 have hav:=vb hs.sl ha
 have hvs:L2 (dG β) (avs++gJ caps) (args.toList.map a.eval++cvs):=hav.append (lz hcl)
 have hrun:(execOp a.eval o).run P w=.ok (.enter f (args.toList.map a.eval++cvs).toArray) w:=by
  unfold execOp
  rw [ho]
  have e1:args.map a.eval=(args.toList.map a.eval).toArray:=by apply Array.ext';simp
  have hname':¬ fn.name= "runtime.NumGoroutine":=by simpa using hname
  simp only [resolve,hxe,Deferred.ofValue,invoke,callFunc,Sem.run_bind,run_program,Sem.run_pure,Result.andThen_ok,hfn,e1]
  simp [hname',hbody]
 unfold Oper.wp
 rw [hrun]
 rw [Oper.upon_enter]
 refine (hcall β w _ hs.ent hs.st hs.hp hvs).mono fun e w' ⟨res,h',hk,β',v,he,hr,hh,hst⟩=>?_
 subst he
 exact hk β' _ w' (eS hs hst hh o.dst hr) Q hQ
inductive Item where
 |code (c:Code)
 |ops (r:Array Oper) (l:List Oper)
 |inB (id:Nat)
 |hook (N:S->Prop)
def KK (P:Program) (E:Entry) (F:Exit->S->Prop):List Item->Exit->S->Prop
 |[],e,s=>F e s
 | .code c::k,.normal,s=>kG P E c s (KK P E F k)
 | .code _::k,e,s=>KK P E F k e s
 | .ops r l::k,.normal,s=>pv P E r l s (KK P E F k .normal)
 | .ops _ _::k,e,s=>KK P E F k e s
 | .inB id::k,.exit id',s=>if id'=id then KK P E F k .normal s else KK P E F k (.exit id') s
 | .inB _::k,e,s=>KK P E F k e s
 | .hook N::k,.normal,s=>N s
 | .hook _::k,e,s=>KK P E F k e s
theorem dJ {P:Program} {E:Entry} {C:Code} {s:S} {K K':Exit->S->Prop} (h:kG P E C s K) (hk:∀ e s,K e s->K' e s):kG P E C s K':=
 fun β a w hs Q hQ=>h β a w hs Q fun e s' β' a' w' hK=>hQ e s' β' a' w' (hk _ _ hK)
theorem xY {P:Program} {E:Entry} {s:S} {K:Exit->S->Prop} (h:K .normal s):kG P E .skip s K:=fun β a w hs Q hQ=>wp_skip (hQ .normal s β a w h hs)
theorem z7 {P:Program} {E:Entry} {s:S} {K:Exit->S->Prop} (h:K .ret s):kG P E .ret s K:=fun β a w hs Q hQ=>wp_ret (hQ .ret s β a w h hs)
theorem xZ {P:Program} {E:Entry} {s:S} {id:Nat} {K:Exit->S->Prop} (h:K (.exit id) s):kG P E (.exit id) s K:=fun β a w hs Q hQ=>wp_exit (hQ (.exit id) s β a w h hs)
theorem z8 {P:Program} {E:Entry} {x y:Code} {s:S} {K:Exit->S->Prop} (h:kG P E x s fun e s'=>match e with| .normal=>kG P E y s' K|e=>K e s'):kG P E (.seq x y) s K:=
 fun β a w hs Q hQ=>wp_seq (h β a w hs _ fun e s' β' a' w' hK hs'=>by
  cases e with
  |normal=>exact hK β' a' w' hs' Q hQ
  |_=>exact hQ _ s' β' a' w' hK hs')
theorem qT {P:Program} {E:Entry} {t:Operand} {x y:Code} {s:S} {b:Bool} {K:Exit->S->Prop} (ht:s.ev t=some (.sc (.bo b))) (h:kG P E (if b then x else y) s K):kG P E (.cond t x y) s K:=
 fun β a w hs Q hQ=>wp_cond (t:=b) (show a.eval t=.bool b from bN hs.sl ht) (h β a w hs Q hQ)
theorem wd {P:Program} {E:Entry} {id:Nat} {x:Code} {s:S} {K:Exit->S->Prop} (h:kG P E x s fun e s'=>match e with| .exit id'=>if id'=id then K .normal s' else K (.exit id') s'|e=>K e s'):kG P E (.block id x) s K:=
 fun β a w hs Q hQ=>wp_block (h β a w hs _ fun e s' β' a' w' hK hs'=>by
  cases e with
  |exit id'=>
   simp only [Exit.inBlock]
   dsimp only at hK
   split at hK
   ·rename_i he;rw [if_pos he];exact hQ _ s' β' a' w' hK hs'
   rename_i he;rw [if_neg he];exact hQ _ s' β' a' w' hK hs'
  |_=>exact hQ _ s' β' a' w' hK hs')
theorem te {P:Program} {E:Entry} {id:Nat} {r:Array Oper} {s:S} {K:Exit->S->Prop} (h:pv P E r r.toList s (K .normal)):kG P E (.region id r false) s K:=
 fun β a w hs Q hQ=>wp_region_list (h β a w hs Q fun s' β' a' w' hK hs'=>hQ .normal s' β' a' w' hK hs')
theorem qW {P:Program} {E:Entry} {c:Code} {s:S} {K:Exit->S->Prop} (I:S->Prop) (μ:S->Nat->Prop) (n₀:Nat) (h0:I s/\μ s n₀)
  (h:∀ s n,I s->μ s n->kG P E c s fun e s'=>match e with| .normal=>I s'/\∃ m,m < n/\μ s' m|e=>K e s'):kG P E (.loop c) s K:=by
 intro β a w hs Q hQ b k cs
 have key:∀ (n:Nat) (s:S) (β:Be) (a:Act) (w:World),I s->μ s n->Sim E β s a w->
   ∃ e a' w',Q e a' w'/\Arrives P (lone (b.at a (.code c::.inLoop c::k)) cs w) b k cs e a' w':=by
  intro n
  induction n using Nat.strongRecOn with
  |_ n ih=>
   intro s β a w hI hm hs
   obtain⟨e,a₁,w₁,hq,harr⟩:=h s n hI hm β a w hs (Exit.then (fun a' w'=>∃ s' β' m,I s'/\m < n/\μ s' m/\Sim E β' s' a' w') Q) (fun e s' β' a' w' hK hs'=>by
    cases e with
    |normal=>
     obtain⟨hI',m,hlt,hm'⟩:=hK
     exact⟨s',β',m,hI',hlt,hm',hs'⟩
    |_=>exact hQ _ s' β' a' w' hK hs') b (.inLoop c::k) cs
   cases e with
   |normal=>
    obtain⟨s',β',m,hI',hlt,hm',hs'⟩:=hq
    obtain⟨e₂,a₂,w₂,hq₂,harr₂⟩:=ih m hlt s' β' a₁ w₁ hI' hm' hs'
    exact⟨e₂,a₂,w₂,hq₂,.of_steps (Steps.trans harr (.one step_inLoop)) harr₂⟩
   |exit id=>exact⟨_,a₁,w₁,hq,.pass (x:=.inLoop c) rfl (fun _ _=>.inl (by simp)) harr⟩
   |goto l=>exact⟨_,a₁,w₁,hq,.pass (x:=.inLoop c) rfl (fun _ _=>.inl (by simp)) harr⟩
   |ret=>exact⟨_,a₁,w₁,hq,.pass (x:=.inLoop c) rfl (fun _ _=>.inl (by simp)) harr⟩
   |panic ch=>exact⟨_,a₁,w₁,hq,.pass (x:=.inLoop c) rfl (fun _ _=>.inl (by simp)) harr⟩
   |outgrown=>exact⟨_,a₁,w₁,hq,.pass (x:=.inLoop c) rfl (fun _ _=>.inl (by simp)) harr⟩
 obtain⟨e,a',w',hq,harr⟩:=key n₀ s β a w h0.1 h0.2 hs
 exact⟨e,a',w',hq,.of_steps (.one step_loop) harr⟩
inductive St where
 |go (k:List Item) (s:S) (c:Prop)
 |fin (s:S) (c:Prop)
 |call (f:Nat) (args:List AV) (d:Option Tmp) (k:List Item) (s:S) (c:Prop)
 |lp (b:Code) (k:List Item) (s:S) (c:Prop)
 |hk (N:S->Prop) (s:S) (c:Prop)
 |draw (id:Nat) (r:Array Oper) (k:List Item) (s:S) (c:Prop)
 /-- An operation that the machine does not know: a lemma of its own goes on from here. -/
 |gl (r:Array Oper) (o:Oper) (l:List Oper) (k:List Item) (s:S) (c:Prop)
 |bad
def kH (id:Nat):List Item->Option (List Item)
 |[]=>none
 | .inB id'::k=>if id'=id then some k else kH id k
 | .code _::k=>kH id k
 | .ops _ _::k=>kH id k
 | .hook _::k=>kH id k
def px (P:Program) (r:Array Oper) (o:Oper) (l:List Oper) (k:List Item) (s:S) (c:Prop):St:=
 match o.op with
 | .call ⟨.value x,args,_⟩=>match s.ev x,s.evs args.toList with
  |some (.cl f caps),some avs=>.call f (avs++gJ caps) o.dst (.ops r l::k) s c
  |_,_=>.bad
 |op=>match aI P s o.type op with
  |some ⟨v,h,d⟩=>.go (.ops r l::k) (s.put o.dst v h) (c/\d)
  |none=>.gl r o l k s c
def lX (P:Program):List Item->S->Prop->St
 |[],s,c=>.fin s c
 | .hook N::k,s,c=>.hk N s c
 | .inB _::k,s,c=>.go k s c
 | .ops r []::k,s,c=>.go k s c
 | .ops r (o::l)::k,s,c=>match cN r s o with
  |some b=>match b with
   |true=>px P r o l k s c
   |false=>.go (.ops r l::k) (s.put o.dst (some (.tu [])) s.hp) c
  |none=>.bad
 | .code .skip::k,s,c=>.go k s c
 | .code (.seq a b)::k,s,c=>.go (.code a::.code b::k) s c
 | .code (.cond t a b)::k,s,c=>match s.ev t with
  |some (.sc (.bo x))=>match x with
   |true=>.go (.code a::k) s c
   |false=>.go (.code b::k) s c
  |_=>.bad
 | .code (.block id a)::k,s,c=>.go (.code a::.inB id::k) s c
 | .code (.exit id)::k,s,c=>match kH id k with
  |some k'=>.go k' s c
  |none=>.bad
 | .code .ret::k,s,c=>.fin s c
 | .code (.region id r d)::k,s,c=>match d with
  |false=>.go (.ops r r.toList::k) s c
  |true=>.draw id r k s c
 | .code (.loop b)::k,s,c=>.lp b k s c
 |_,_,_=>.bad
def run (P:Program):Nat->St->St
 |0,x=>x
 |n+1,.go k s c=>run P n (lX P k s c)
 |_+1,.fin s c=>.fin s c
 |_+1,.call f a d k s c=>.call f a d k s c
 |_+1,.lp b k s c=>.lp b k s c
 |_+1,.hk N s c=>.hk N s c
 |_+1,.draw id r k s c=>.draw id r k s c
 |_+1,.gl r o l k s c=>.gl r o l k s c
 |_+1,.bad=>.bad
def we (F:S->Prop):Exit->S->Prop
 | .normal,s| .ret,s=>F s
 |_,_=>False
def dX (P:Program) (E:Entry) (F:S->Prop):St->Prop
 | .go k s c=>c/\KK P E (we F) k .normal s
 | .fin s c=>c/\F s
 | .call f args d k s c=>c/\xW P E f args s.hp fun res h'=>KK P E (we F) k .normal (s.put d (some res) h')
 | .lp b k s c=>c/\kG P E (.loop b) s (KK P E (we F) k)
 | .hk N s c=>c/\N s
 | .draw id r k s c=>c/\kG P E (.region id r true) s (KK P E (we F) k)
 | .gl r o l k s c=>c/\KK P E (we F) (.ops r (o::l)::k) .normal s
 | .bad=>False
theorem lY {P:Program} {E:Entry} {F:Exit->S->Prop}:∀ {k:List Item} {s:S},F .ret s->KK P E F k .ret s
 |[],_,h=>h
 | .code _::k,s,h=>lY (k:=k) h
 | .ops _ _::k,s,h=>lY (k:=k) h
 | .inB _::k,s,h=>lY (k:=k) h
 | .hook _::k,s,h=>lY (k:=k) h
theorem jm {P:Program} {E:Entry} {F:Exit->S->Prop} {id:Nat}:∀ {k k':List Item} {s:S},kH id k=some k'->KK P E F k' .normal s->KK P E F k (.exit id) s
 |[],k',s,h,_=>by cases h
 | .code _::k,k',s,h,hk=>jm (k:=k) h hk
 | .ops _ _::k,k',s,h,hk=>jm (k:=k) h hk
 | .hook _::k,k',s,h,hk=>jm (k:=k) h hk
 | .inB id'::k,k',s,h,hk=>by
  simp only [kH] at h
  simp only [KK]
  split at h
  ·rename_i he
   subst he
   simp only [Option.some.injEq] at h
   subst h
   rw [if_pos rfl]
   exact hk
  rename_i he
  rw [if_neg (Ne.symm he)]
  exact jm (k:=k) h hk
theorem tf {P:Program} {E:Entry} {F:S->Prop} {r:Array Oper} {o:Oper} {l:List Oper} {k:List Item} {s:S} {c:Prop} (hg:cN r s o=some true) (h:dX P E F (px P r o l k s c)):c/\KK P E (we F) (.ops r (o::l)::k) .normal s:=by
 unfold px at h
 split at h
 ·rename_i x args at_ ho
  split at h
  ·rename_i f caps avs hx ha
   obtain⟨hc,hcall⟩:=h
   exact⟨hc,wc hg ho hx ha hcall⟩
  exact h.elim
 split at h
 ·rename_i v hp d hx
  obtain⟨⟨hc,hd⟩,hk⟩:=h
  exact⟨hc,z6 hg hx hd hk⟩
 exact h
theorem x1 {P:Program} {E:Entry} {F:S->Prop}:∀ {k:List Item} {s:S} {c:Prop},dX P E F (lX P k s c)->dX P E F (.go k s c):=by
 intro k s c h
 cases k with
 |nil=>exact h
 |cons i k=>
  cases i with
  |hook N=>exact h
  |inB id=>exact h
  |ops r l=>
   cases l with
   |nil=>exact⟨h.1,xX h.2⟩
   |cons o l=>
    simp only [lX] at h
    split at h
    ·rename_i b hg
     cases b with
     |true=>exact tf hg h
     |false=>exact⟨h.1,v_ hg h.2⟩
    exact h.elim
  |code C=>
   cases C with
   |skip=>exact⟨h.1,xY h.2⟩
   |region id r d=>
    cases d with
    |false=>exact⟨h.1,te h.2⟩
    |true=>exact h
   |seq a b=>
    refine⟨h.1,z8 (dJ h.2 fun e s' hk=>?_)⟩
    cases e<;>exact hk
   |cond t a b=>
    simp only [lX] at h
    split at h
    ·rename_i x ht
     cases x with
     |true=>exact⟨h.1,qT ht h.2⟩
     |false=>exact⟨h.1,qT ht h.2⟩
    exact h.elim
   |block id a=>
    refine⟨h.1,wd (dJ h.2 fun e s' hk=>?_)⟩
    cases e<;>exact hk
   |loop b=>exact h
   |exit id=>
    simp only [lX] at h
    split at h
    ·rename_i k' hk'
     exact⟨h.1,xZ (jm hk' h.2)⟩
    exact h.elim
   |ret=>exact⟨h.1,z7 (lY h.2)⟩
   |rangeFunc=>exact h.elim
   |scope=>exact h.elim
   |label=>exact h.elim
   |goto=>exact h.elim
   |refuse=>exact h.elim
theorem ac {P:Program} {E:Entry} {F:S->Prop}:∀ (n:Nat) {x:St},dX P E F (run P n x)->dX P E F x
 |0,_,h=>h
 |n+1,.go k s c,h=>x1 (ac n h)
 |_+1,.fin ..,h=>h
 |_+1,.call ..,h=>h
 |_+1,.lp ..,h=>h
 |_+1,.hk ..,h=>h
 |_+1,.draw ..,h=>h
 |_+1,.gl ..,h=>h
 |_+1,.bad,h=>h
abbrev Rho:=List (Option (Nat×Option Nat))
def Rho.at (ρ:Rho) (o:Nat):Option (Nat×Option Nat):=ρ.getD o none
def A8 (ρ:Rho):Sc->Sc->Prop
 | .int k n,.int k' n'=>k'=k/\n'=n
 | .bo b,.bo b'=>b'=b
 | .st l,.st l'=>l'=l
 | .nil,.nil=>True
 | .un,.un=>True
 | .un,.pt .. =>True
 | .sl o off len,.sl o' off' len'=>match ρ.at o with
  |some (n,none)=>o'=n/\off'=off/\len'=len
  |some (n,some d)=>o'=n/\off'=off+d/\len'=len
  |none=>False
 | .sl o off len,.nil=>len=0
 | .pt o k j,.pt o' k' j'=>match ρ.at o with
  |some (n,none)=>o'=n/\k'=k/\j'=j
  |some (n,some d)=>o'=n/\k'=k+d/\j'=j
  |none=>False
 |_,_=>False
def cM (ρ:Rho):List Sc->List Sc->Prop
 |[],[]=>True
 |a::l,b::m=>A8 ρ a b/\cM ρ l m
 |_,_=>False
def D2 (ρ:Rho):Co->Co->Prop
 | .sc a,.sc b=>A8 ρ a b
 | .ag a,.ag b=>cM ρ a b
 |_,_=>False
def DK (ρ:Rho):List Co->List Co->Prop
 |[],[]=>True
 |a::l,b::m=>D2 ρ a b/\DK ρ l m
 |_,_=>False
def sP (ρ:Rho):AV->AV->Prop
 | .sc a,.sc b=>A8 ρ a b
 | .ag a,.ag b=>cM ρ a b
 | .tu a,.tu b=>DK ρ a b
 | .cl f a,.cl g b=>g=f/\cM ρ a b
 |_,_=>False
def ln (ρ:Rho):List AV->List AV->Prop
 |[],[]=>True
 |a::l,b::m=>sP ρ a b/\ln ρ l m
 |_,_=>False
def DL (ρ:Rho):List (List Sc)->List (List Sc)->Prop
 |[],[]=>True
 |a::l,b::m=>cM ρ a b/\DL ρ l m
 |_,_=>False
def DM (ρ:Rho) (d:Option Nat) (t s:AObj):Prop:=
 s.esz=t.esz/\match d with
 |none=>s.ty=t.ty/\(t.own=true->s.own=true)/\(match t.fl with
  |true=>s.fl=true/\s.cs=t.cs
  |false=>DL ρ t.cs s.cs)
 |some d=>t.own=false/\t.fl=true/\s.fl=true/\(s.cs.drop d).take t.cs.length=t.cs
def fS (ρ:Rho) (s:Hp):Rho->Hp->Prop
 |[],[]=>True
 |none::ρ',some t::h=>t.cs=[]/\fS ρ s ρ' h
 |some (n,d)::ρ',some t::h=>(match s.getD n none with
  |some ob=>DM ρ d t ob
  |none=>False)/\fS ρ s ρ' h
 |_::ρ',none::h=>fS ρ s ρ' h
 |_,_=>False
def cI (β:Be):Rho->Be
 |[]=>[]
 |none::ρ=>none::cI β ρ
 |some (n,none)::ρ=>β.getD n none::cI β ρ
 |some (n,some d)::ρ=>(β.getD n none).map (fun p=>{ p with base:=p.base+d*p.esz,avail:=p.avail - d*p.esz })::cI β ρ
theorem fq (β:Be):∀ ρ:Rho,(cI β ρ).length=ρ.length
 |[]=>rfl
 |none::ρ=>by simp [cI,fq β ρ]
 |some (n,none)::ρ=>by simp [cI,fq β ρ]
 |some (n,some d)::ρ=>by simp [cI,fq β ρ]
theorem aH (β:Be):∀ {ρ:Rho} {o:Nat} {x:Option (Nat×Option Nat)},ρ[o]? =some x->(cI β ρ)[o]? =some (match x with
  |none=>none
  |some (n,none)=>β.getD n none
  |some (n,some d)=>(β.getD n none).map (fun p=>{ p with base:=p.base+d*p.esz,avail:=p.avail - d*p.esz }))
 |[],o,x,h=>by simp at h
 |y::ρ,0,x,h=>by
  simp only [List.getElem?_cons_zero,Option.some.injEq] at h
  subst h
  cases y with
  |none=>rfl
  |some y=>obtain⟨n,d⟩:=y;cases d<;>rfl
 |y::ρ,o+1,x,h=>by
  simp only [List.getElem?_cons_succ] at h
  have:=aH β h
  cases y with
  |none=>simpa [cI] using this
  |some y=>obtain⟨n,d⟩:=y;cases d<;>simpa [cI] using this
theorem py {ρ:Rho} {o:Nat} {x:Nat×Option Nat} (h:ρ.at o=some x):ρ[o]? =some (some x):=by
 unfold Rho.at at h
 rw [List.getD_eq_getElem?_getD] at h
 cases hx:ρ[o]? with
 |none=>rw [hx] at h;cases h
 |some y=>rw [hx] at h;simp only [Option.getD_some] at h;rw [h]
theorem lA {β:Be} {n:Nat} {p:Pl} (h:β[n]? =some (some p)):β.getD n none=some p:=by rw [List.getD_eq_getElem?_getD,h];rfl
theorem vd {β:Be} {ρ:Rho}:∀ {t s:Sc} {v:Value},A8 ρ t s->ScR β s v->ScR (cI β ρ) t v
 | .int k n,.int k' n',v,h,hv=>by obtain⟨rfl,rfl⟩:=h;exact hv
 | .bo b,.bo b',v,h,hv=>by have h':b'=b:=h;subst h';exact hv
 | .st b,.st b',v,h,hv=>by have h':b'=b:=h;subst h';exact hv
 | .nil,.nil,v,h,hv=>hv
 | .un,.un,v,h,hv=>hv
 | .un,.pt ..,v,h,hv=>let⟨_,_,e⟩:=hv;⟨_,e⟩
 | .un,.int ..,_,h,_=>h.elim
 | .un,.bo _,_,h,_=>h.elim
 | .un,.st _,_,h,_=>h.elim
 | .un,.nil,_,h,_=>h.elim
 | .un,.sl ..,_,h,_=>h.elim
 | .sl o off len,.nil,v,h,hv=>by
  have h':len=0:=h
  subst h'
  obtain⟨a,rfl⟩:=hv
  exact⟨a,0,rfl,Nat.le_refl _,Nat.zero_le _,.inl rfl⟩
 | .sl o off len,.sl o' off' len',v,h,hv=>by
  obtain⟨a,cap,rfl,h1,h2,h3⟩:=hv
  simp only [A8] at h
  split at h
  ·rename_i n hn
   obtain⟨rfl,rfl,rfl⟩:=h
   refine⟨a,cap,rfl,h1,h2,h3.imp id fun⟨p,hp,r⟩=>⟨p,?_,r⟩⟩
   rw [aH β (py hn)]
   dsimp only
   rw [lA hp]
  ·rename_i n d hn
   obtain⟨rfl,rfl,rfl⟩:=h
   refine⟨a,cap,rfl,h1,h2,h3.imp id fun⟨p,hp,ha,hav⟩=>⟨{ p with base:=p.base+d*p.esz,avail:=p.avail - d*p.esz },?_,?_,?_⟩⟩
   ·rw [aH β (py hn)]
    dsimp only
    rw [lA hp]
    rfl
   ·rw [ha]
    simp only [Option.some.injEq,Addr.mk.injEq,and_true,true_and]
    rw [Nat.add_mul]
    omega
   dsimp only
   rw [show off+d+cap=(off+cap)+d from by omega,Nat.add_mul] at hav
   omega
  exact h.elim
 | .pt o k j,.pt o' k' j',v,h,hv=>by
  obtain⟨p,hp,rfl⟩:=hv
  simp only [A8] at h
  split at h
  ·rename_i n hn
   obtain⟨rfl,rfl,rfl⟩:=h
   refine⟨p,?_,rfl⟩
   rw [aH β (py hn)]
   dsimp only
   rw [lA hp]
  ·rename_i n d hn
   obtain⟨rfl,rfl,rfl⟩:=h
   refine⟨{ p with base:=p.base+d*p.esz,avail:=p.avail - d*p.esz },?_,?_⟩
   ·rw [aH β (py hn)]
    dsimp only
    rw [lA hp]
    rfl
   simp only [Value.pointer.injEq,Option.some.injEq,Addr.mk.injEq,and_true,true_and]
   rw [Nat.add_mul]
   omega
  exact h.elim
 | .int ..,.un,_,h,_=>h.elim
 | .bo ..,.un,_,h,_=>h.elim
 | .st ..,.un,_,h,_=>h.elim
 | .nil,.un,_,h,_=>h.elim
 | .sl ..,.un,_,h,_=>h.elim
 | .pt ..,.un,_,h,_=>h.elim
 | .int ..,.bo _,_,h,_=>h.elim
 | .int ..,.st _,_,h,_=>h.elim
 | .int ..,.nil,_,h,_=>h.elim
 | .int ..,.sl ..,_,h,_=>h.elim
 | .int ..,.pt ..,_,h,_=>h.elim
 | .bo _,.int ..,_,h,_=>h.elim
 | .bo _,.st _,_,h,_=>h.elim
 | .bo _,.nil,_,h,_=>h.elim
 | .bo _,.sl ..,_,h,_=>h.elim
 | .bo _,.pt ..,_,h,_=>h.elim
 | .st _,.int ..,_,h,_=>h.elim
 | .st _,.bo _,_,h,_=>h.elim
 | .st _,.nil,_,h,_=>h.elim
 | .st _,.sl ..,_,h,_=>h.elim
 | .st _,.pt ..,_,h,_=>h.elim
 | .nil,.int ..,_,h,_=>h.elim
 | .nil,.bo _,_,h,_=>h.elim
 | .nil,.st _,_,h,_=>h.elim
 | .nil,.sl ..,_,h,_=>h.elim
 | .nil,.pt ..,_,h,_=>h.elim
 | .sl ..,.int ..,_,h,_=>h.elim
 | .sl ..,.bo _,_,h,_=>h.elim
 | .sl ..,.st _,_,h,_=>h.elim
 | .sl ..,.pt ..,_,h,_=>h.elim
 | .pt ..,.int ..,_,h,_=>h.elim
 | .pt ..,.bo _,_,h,_=>h.elim
 | .pt ..,.st _,_,h,_=>h.elim
 | .pt ..,.nil,_,h,_=>h.elim
 | .pt ..,.sl ..,_,h,_=>h.elim
theorem z9 {β:Be} {ρ:Rho}:∀ {t s:List Sc} {vs:List Value},cM ρ t s->L2 (ScR β) s vs->L2 (ScR (cI β ρ)) t vs
 |[],[],[],_,_=>trivial
 |a::l,b::m,v::vs,h,hv=>⟨vd h.1 hv.1,z9 h.2 hv.2⟩
 |[],_::_,_,h,_=>h.elim
 |_::_,[],_,h,_=>h.elim
 |[],[],_::_,_,h=>h.elim
 |_::_,_::_,[],_,h=>h.elim
theorem Cm {β:Be} {ρ:Rho} {t s:Co} {v:Value} (h:D2 ρ t s) (hv:sS β s v):sS (cI β ρ) t v:=by
 cases t<;>cases s
 ·exact vd h hv
 ·exact h.elim
 ·exact h.elim
 obtain⟨vs,rfl,hl⟩:=hv
 exact⟨vs,rfl,z9 h hl⟩
theorem A9 {β:Be} {ρ:Rho}:∀ {t s:List Co} {vs:List Value},DK ρ t s->L2 (sS β) s vs->L2 (sS (cI β ρ)) t vs
 |[],[],[],_,_=>trivial
 |a::l,b::m,v::vs,h,hv=>⟨Cm h.1 hv.1,A9 h.2 hv.2⟩
 |[],_::_,_,h,_=>h.elim
 |_::_,[],_,h,_=>h.elim
 |[],[],_::_,_,h=>h.elim
 |_::_,_::_,[],_,h=>h.elim
theorem qY {β:Be} {ρ:Rho} {t s:AV} {v:Value} (h:sP ρ t s) (hv:dG β s v):dG (cI β ρ) t v:=by
 cases t<;>cases s<;>try exact h.elim
 ·exact vd h hv
 ·obtain⟨vs,rfl,hl⟩:=hv
  exact⟨vs,rfl,z9 h hl⟩
 ·obtain⟨vs,rfl,hl⟩:=hv
  exact⟨vs,rfl,A9 h hl⟩
 obtain⟨rfl,h⟩:=h
 obtain⟨vs,rfl,hl⟩:=hv
 exact⟨vs,rfl,z9 h hl⟩
theorem x2 {β:Be} {ρ:Rho}:∀ {t s:List AV} {vs:List Value},ln ρ t s->L2 (dG β) s vs->L2 (dG (cI β ρ)) t vs
 |[],[],[],_,_=>trivial
 |a::l,b::m,v::vs,h,hv=>⟨qY h.1 hv.1,x2 h.2 hv.2⟩
 |[],_::_,_,h,_=>h.elim
 |_::_,[],_,h,_=>h.elim
 |[],[],_::_,_,h=>h.elim
 |_::_,_::_,[],_,h=>h.elim
theorem ou {ρ:Rho}:∀ {t s:List Sc},cM ρ t s->t.length=s.length
 |[],[],_=>rfl
 |_::_,_::_,h=>by simp [ou h.2]
 |[],_::_,h=>h.elim
 |_::_,[],h=>h.elim
theorem x3 {ρ:Rho}:∀ {t s:List Sc} {i:Nat} {x:Sc},cM ρ t s->t[i]? =some x->∃ y,s[i]? =some y/\A8 ρ x y
 |[],[],i,x,_,h=>by simp at h
 |a::l,b::m,0,x,hm,h=>by simp at h;subst h;exact⟨b,by simp,hm.1⟩
 |a::l,b::m,i+1,x,hm,h=>by simp at h;obtain⟨y,hy,hr⟩:=x3 hm.2 h;exact⟨y,by simpa using hy,hr⟩
 |[],_::_,_,_,hm,_=>hm.elim
 |_::_,[],_,_,hm,_=>hm.elim
theorem ve {ρ:Rho}:∀ {t s:List (List Sc)} {i:Nat} {x:List Sc},DL ρ t s->t[i]? =some x->∃ y,s[i]? =some y/\cM ρ x y
 |[],[],i,x,_,h=>by simp at h
 |a::l,b::m,0,x,hm,h=>by simp at h;subst h;exact⟨b,by simp,hm.1⟩
 |a::l,b::m,i+1,x,hm,h=>by simp at h;obtain⟨y,hy,hr⟩:=ve hm.2 h;exact⟨y,by simpa using hy,hr⟩
 |[],_::_,_,_,hm,_=>hm.elim
 |_::_,[],_,_,hm,_=>hm.elim
theorem pz {β β':Be} {s:Sc} {v:Value} (hf:s.isFlat=true) (h:ScR β s v):ScR β' s v:=by
 cases s<;>first|exact h|cases hf
def qZ (n:Nat) (own:Bool):Rho->Hp->Bool
 |some (m,_)::ρ,some u::h=>(!(own || u.own) || n != m) && qZ n own ρ h
 |_::ρ,_::h=>qZ n own ρ h
 |_,_=>true
def co:Rho->Hp->Bool
 |some (n,_)::ρ,some t::h=>qZ n t.own ρ h && co ρ h
 |_::ρ,_::h=>co ρ h
 |_,_=>true
theorem q0 {n:Nat} {own:Bool}:∀ {ρ:Rho} {h:Hp},qZ n own ρ h=true->∀ {j m:Nat} {d:Option Nat} {u:AObj},ρ[j]? =some (some (m,d))->h[j]? =some (some u)->(own=true\/u.own=true)->n≠m
 |[],_,_,j,m,d,u,hr,_,_=>by simp at hr
 |_::_,[],_,j,m,d,u,_,hh,_=>by simp at hh
 |x::ρ,y::h,hs,0,m,d,u,hr,hh,ho=>by
  simp only [List.getElem?_cons_zero,Option.some.injEq] at hr hh
  subst hr;subst hh
  simp only [qZ,Bool.and_eq_true,Bool.or_eq_true,bne_iff_ne,Bool.not_eq_true'] at hs
  rcases hs.1 with h1|h1
  ·rcases ho with ho|ho<;>simp [ho] at h1
  exact h1
 |x::ρ,y::h,hs,j+1,m,d,u,hr,hh,ho=>by
  simp only [List.getElem?_cons_succ] at hr hh
  refine q0 (ρ:=ρ) (h:=h) ?_ hr hh ho
  cases x with
  |none=>simpa [qZ] using hs
  |some x=>cases y with
   |none=>simpa [qZ] using hs
   |some y=>
    obtain⟨a,b⟩:=x
    simp only [qZ,Bool.and_eq_true] at hs
    exact hs.2
theorem fG {x:Option (Nat×Option Nat)} {y:Option AObj} {ρ:Rho} {h:Hp} (hs:co (x::ρ) (y::h)=true):co ρ h=true:=by
 cases x with
 |none=>simpa [co] using hs
 |some x=>cases y with
  |none=>simpa [co] using hs
  |some y=>
   obtain⟨a,b⟩:=x
   simp only [co,Bool.and_eq_true] at hs
   exact hs.2
theorem jn:∀ {ρ:Rho} {h:Hp},co ρ h=true->∀ {i j n m:Nat} {d e:Option Nat} {t u:AObj},i < j->ρ[i]? =some (some (n,d))->h[i]? =some (some t)->ρ[j]? =some (some (m,e))->h[j]? =some (some u)->(t.own=true\/u.own=true)->n≠m
 |[],_,_,i,j,n,m,d,e,t,u,_,hr,_,_,_,_=>by simp at hr
 |_::_,[],_,i,j,n,m,d,e,t,u,_,_,hh,_,_,_=>by simp at hh
 |x::ρ,y::h,hs,0,j+1,n,m,d,e,t,u,_,hr,hh,hr',hh',ho=>by
  simp only [List.getElem?_cons_zero,List.getElem?_cons_succ,Option.some.injEq] at hr hh hr' hh'
  subst hr;subst hh
  simp only [co,Bool.and_eq_true] at hs
  exact q0 hs.1 hr' hh' ho
 |x::ρ,y::h,hs,i+1,j+1,n,m,d,e,t,u,hlt,hr,hh,hr',hh',ho=>by
  simp only [List.getElem?_cons_succ] at hr hh hr' hh'
  exact jn (ρ:=ρ) (h:=h) (fG hs) (by omega) hr hh hr' hh' ho
theorem vf {ρ:Rho} {h:Hp} (hs:co ρ h=true) {i j n m:Nat} {d e:Option Nat} {t u:AObj} (hij:i≠j) (hr:ρ[i]? =some (some (n,d))) (hh:h[i]? =some (some t)) (hr':ρ[j]? =some (some (m,e))) (hh':h[j]? =some (some u)) (ho:t.own=true\/u.own=true):n≠m:=by
 rcases Nat.lt_or_gt_of_ne hij with h1|h1
 ·exact jn hs h1 hr hh hr' hh' ho
 exact (jn hs h1 hr' hh' hr hh ho.symm).symm
theorem getD_some {h:Hp} {n:Nat} {ob:AObj} (e:h.getD n none=some ob):h[n]? =some (some ob):=by
 rw [List.getD_eq_getElem?_getD] at e
 cases hx:h[n]? with
 |none=>rw [hx] at e;cases e
 |some y=>rw [hx] at e;simp only [Option.getD_some] at e;rw [e]
theorem cX {ρ:Rho} {s:Hp}:∀ {ρ':Rho} {t:Hp},fS ρ s ρ' t->∀ {o:Nat} {ob:AObj},t[o]? =some (some ob)->
  (ρ'[o]? =some none/\ob.cs=[])\/∃ n d ob',ρ'[o]? =some (some (n,d))/\s[n]? =some (some ob')/\DM ρ d ob ob'
 |[],[],_,o,ob,h=>by simp at h
 |x::ρ',y::t,hm,0,ob,h=>by
  simp only [List.getElem?_cons_zero,Option.some.injEq] at h
  subst h
  cases x with
  |none=>exact .inl ⟨rfl,hm.1⟩
  |some x=>
   obtain⟨n,d⟩:=x
   have h1:=hm.1
   split at h1
   ·rename_i ob' hob
    exact .inr ⟨n,d,ob',rfl,getD_some hob,h1⟩
   exact h1.elim
 |x::ρ',y::t,hm,o+1,ob,h=>by
  simp only [List.getElem?_cons_succ] at h⊢
  refine cX (ρ':=ρ') (t:=t) ?_ h
  cases x with
  |none=>cases y with
   |none=>exact hm
   |some y=>exact hm.2
  |some x=>cases y with
   |none=>exact hm
   |some y=>obtain⟨a,b⟩:=x;exact hm.2
 |[],_::_,hm,_,_,_=>by cases hm
 |x::_,[],hm,_,_,_=>by cases x with
  |none=>cases hm
  |some x=>obtain⟨a,b⟩:=x;cases hm
theorem d8 {ρ:Rho} {s:Hp}:∀ {ρ':Rho} {t:Hp},fS ρ s ρ' t->ρ'.length=t.length
 |[],[],_=>rfl
 |x::ρ',y::t,hm=>by
  have:fS ρ s ρ' t:=by
   cases x with
   |none=>cases y with
    |none=>exact hm
    |some y=>exact hm.2
   |some x=>cases y with
    |none=>exact hm
    |some y=>obtain⟨a,b⟩:=x;exact hm.2
  simp [d8 this]
 |[],_::_,hm=>by cases hm
 |x::_,[],hm=>by cases x with
  |none=>cases hm
  |some x=>obtain⟨a,b⟩:=x;cases hm
theorem fW {ρ:Rho} {d:Option Nat} {t s:AObj} (h:DM ρ d t s) (ho:t.own=true):d=none/\s.own=true:=by
 cases d with
 |none=>exact⟨rfl,h.2.2.1 ho⟩
 |some d=>
  have:t.own=false:=h.2.1
  rw [ho] at this;cases this
theorem pA {β:Be} {ρ:Rho} {s t:Hp} {w:World} (hs:HSim β s w) (hm:fS ρ s ρ t) (hsep:co ρ t=true):HSim (cI β ρ) t w:=by
 refine⟨by rw [fq,d8 hm],fun o ob ho=>?_,fun o ob ho hf=>?_,fun o o' ob ob' p p' ho ho' hown hp hp' hne=>?_⟩
 ·rcases cX hm ho with⟨hr,hcs⟩|⟨n,d,ob',hr,hn,hob⟩
  ·exact⟨none,aH β hr,hcs⟩
  obtain⟨q,hq,hR⟩:=hs.ob n ob' hn
  cases d with
  |none=>
   obtain⟨hesz,hty,hown,hcs⟩:=hob
   refine⟨q,by rw [aH β hr];dsimp only;rw [List.getD_eq_getElem?_getD,hq];rfl,?_⟩
   cases q with
   |none=>
    have h0:ob'.cs=[]:=hR
    split at hcs
    ·show ob.cs=[]
     rw [<-hcs.2,h0]
    show ob.cs=[]
    rw [h0] at hcs
    cases hc:ob.cs with
    |nil=>rfl
    |cons=>rw [hc] at hcs;exact hcs.elim
   |some p=>
    obtain⟨he,arr,T,fz,hh,hc,ho2⟩:=hR
    refine⟨he.trans hesz,arr,T,fz,hh,?_,fun h=>?_⟩
    ·split at hcs
     ·rename_i hfl
      intro k c hk
      rw [<-hcs.2] at hk
      obtain⟨h1,h2⟩:=hc k c hk
      rw [hesz] at h1
      refine⟨h1,fun j x hj=>?_⟩
      obtain⟨v,hv,hr'⟩:=h2 j x hj
      rw [hesz] at hv
      exact⟨v,hv,pz (dA.1 (hs.flat n ob' hn hcs.1 c (List.mem_of_getElem? hk)) x (List.mem_of_getElem? hj)) hr'⟩
     intro k c hk
     obtain⟨c',hk',hcm⟩:=ve hcs hk
     obtain⟨h1,h2⟩:=hc k c' hk'
     rw [hesz] at h1
     refine⟨(ou hcm).trans h1,fun j x hj=>?_⟩
     obtain⟨x',hj',hxm⟩:=x3 hcm hj
     obtain⟨v,hv,hr'⟩:=h2 j x' hj'
     rw [hesz] at hv
     exact⟨v,hv,vd hxm hr'⟩
    obtain⟨hT,hf,hb,ha⟩:=ho2 (hown h)
    exact⟨hT.trans hty,hf,hb,ha⟩
  |some d=>
   obtain⟨hesz,hno,hfl,hfl',hcs⟩:=hob
   refine⟨q.map (fun p=>{ p with base:=p.base+d*p.esz,avail:=p.avail - d*p.esz }),by rw [aH β hr];dsimp only;rw [List.getD_eq_getElem?_getD,hq];rfl,?_⟩
   cases q with
   |none=>
    have h0:ob'.cs=[]:=hR
    show ob.cs=[]
    rw [h0] at hcs
    simpa using hcs.symm
   |some p=>
    obtain⟨he,arr,T,fz,hh,hc,ho2⟩:=hR
    refine⟨he.trans hesz,arr,T,fz,hh,?_,fun h=>by rw [hno] at h;cases h⟩
    intro k c hk
    have hkl:k < ob.cs.length:=(List.getElem?_eq_some_iff.1 hk).1
    rw [<-hcs,List.getElem?_take_of_lt hkl,List.getElem?_drop] at hk
    obtain⟨h1,h2⟩:=hc _ c hk
    rw [hesz] at h1
    refine⟨h1,fun j x hj=>?_⟩
    obtain⟨v,hv,hr'⟩:=h2 j x hj
    rw [hesz] at hv
    refine⟨v,?_,pz (dA.1 (hs.flat n ob' hn hfl' c (List.mem_of_getElem? hk)) x (List.mem_of_getElem? hj)) hr'⟩
    dsimp only
    rw [show p.base+d*p.esz+k*ob.esz+j=p.base+(d+k)*ob.esz+j from by rw [he,hesz,Nat.add_mul];omega]
    exact hv
 ·rcases cX hm ho with⟨hr,hcs⟩|⟨n,d,ob',hr,hn,hob⟩
  ·rw [hcs];intro c hc;cases hc
  cases d with
  |none=>
   obtain⟨_,_,_,hcs⟩:=hob
   rw [hf] at hcs
   rw [<-hcs.2]
   exact hs.flat n ob' hn hcs.1
  |some d=>
   obtain⟨_,_,hfl,hfl',hcs⟩:=hob
   rw [<-hcs]
   exact fun c hc=>hs.flat n ob' hn hfl' c (List.mem_of_mem_drop (List.mem_of_mem_take hc))
 rcases cX hm ho with⟨hr,_⟩|⟨n,d,x,hr,hn,hx⟩
 ·rw [aH β hr] at hp;cases hp
 rcases cX hm ho' with⟨hr',_⟩|⟨m,e,y,hr',hm',hy⟩
 ·rw [aH β hr'] at hp';cases hp'
 obtain⟨rfl,hxo⟩:=fW hx hown
 have hnm:=vf hsep hne hr ho hr' ho' (.inl hown)
 rw [aH β hr] at hp
 simp only [Option.some.injEq] at hp
 have hbn:β[n]? =some (some p):=by
  rw [List.getD_eq_getElem?_getD] at hp
  cases h:β[n]? with
  |none=>rw [h] at hp;cases hp
  |some z=>rw [h] at hp;simp only [Option.getD_some] at hp;rw [hp]
 have hbm:∃ q,β[m]? =some (some q)/\q.blk=p'.blk:=by
  rw [aH β hr'] at hp'
  simp only [Option.some.injEq] at hp'
  cases e with
  |none=>
   dsimp only at hp'
   rw [List.getD_eq_getElem?_getD] at hp'
   cases h:β[m]? with
   |none=>rw [h] at hp';cases hp'
   |some z=>rw [h] at hp';simp only [Option.getD_some] at hp';exact⟨p',by rw [hp'],rfl⟩
  |some e=>
   dsimp only at hp'
   rw [List.getD_eq_getElem?_getD] at hp'
   cases h:β[m]? with
   |none=>rw [h] at hp';cases hp'
   |some z=>
    rw [h] at hp'
    cases z with
    |none=>cases hp'
    |some z=>simp only [Option.getD_some,Option.map_some,Option.some.injEq] at hp';exact⟨z,rfl,by rw [<-hp']⟩
 obtain⟨q,hq,hqb⟩:=hbm
 rw [<-hqb]
 exact hs.apart n m x y p q hn hm' hxo hbn hq hnm
def tg (ρ:Rho):List (Option AV)->List (Option AV)->Prop
 |[],[]=>True
 |none::l,_::m=>tg ρ l m
 |some a::l,some b::m=>sP ρ a b/\tg ρ l m
 |_,_=>False
def ti (ρ:Rho):Slots->Slots->Prop
 |[],[]=>True
 |a::l,b::m=>tg ρ a b/\ti ρ l m
 |_,_=>False
theorem gL {ρ:Rho}:∀ {t s:List (Option AV)},tg ρ t s->t.length=s.length
 |[],[],_=>rfl
 |none::l,_::m,h=>by simp [gL (t:=l) (s:=m) h]
 |some a::l,some b::m,h=>by simp [gL h.2]
 |some a::l,none::m,h=>h.elim
 |[],_::_,h=>h.elim
 |none::_,[],h=>h.elim
 |some _::_,[],h=>h.elim
theorem lZ {ρ:Rho}:∀ {t s:List (Option AV)} {i:Nat} {v:AV},tg ρ t s->t[i]? =some (some v)->∃ u,s[i]? =some (some u)/\sP ρ v u
 |[],[],i,v,_,h=>by simp at h
 |none::l,_::m,0,v,_,h=>by simp at h
 |none::l,_::m,i+1,v,hm,h=>by simp at h;obtain⟨u,hu,hr⟩:=lZ (t:=l) (s:=m) hm h;exact⟨u,by simpa using hu,hr⟩
 |some a::l,some b::m,0,v,hm,h=>by simp at h;subst h;exact⟨b,by simp,hm.1⟩
 |some a::l,some b::m,i+1,v,hm,h=>by simp at h;obtain⟨u,hu,hr⟩:=lZ hm.2 h;exact⟨u,by simpa using hu,hr⟩
 |some a::l,none::m,_,_,h,_=>h.elim
 |[],_::_,_,_,h,_=>h.elim
 |none::_,[],_,_,h,_=>h.elim
 |some _::_,[],_,_,h,_=>h.elim
theorem j2 {ρ:Rho}:∀ {t s:Slots} (i:Nat),ti ρ t s->(t[i]? =none/\s[i]? =none)\/∃ a b,t[i]? =some a/\s[i]? =some b/\tg ρ a b
 |[],[],i,_=>.inl ⟨by simp,by simp⟩
 |a::l,b::m,0,h=>.inr ⟨a,b,by simp,by simp,h.1⟩
 |a::l,b::m,i+1,h=>by simpa using j2 i h.2
 |[],_::_,_,h=>h.elim
 |_::_,[],_,h=>h.elim
theorem pB {β:Be} {ρ:Rho} {t s:Slots} {tm:Array Value} (h:ti ρ t s) (hs:SlotsR β s tm):SlotsR (cI β ρ) t tm:=by
 have hhas:∀ i,t.has i->s.has i:=by
  intro i hi
  unfold Slots.has at hi⊢
  rw [List.getD_eq_getElem?_getD] at hi⊢
  rcases j2 (i / 16) h with⟨h1,h2⟩|⟨a,b,h1,h2,h3⟩
  ·rw [h1] at hi;simp at hi
  rw [h1] at hi
  rw [h2]
  simp only [Option.getD_some] at hi⊢
  rw [<-gL h3]
  exact hi
 refine⟨fun i hi=>hs.1 i (hhas i hi),fun i v hv=>?_⟩
 unfold Slots.get at hv
 rw [List.getD_eq_getElem?_getD (l:=t)] at hv
 rcases j2 (i / 16) h with⟨h1,h2⟩|⟨a,b,h1,h2,h3⟩
 ·rw [h1] at hv;simp at hv
 rw [h1,Option.getD_some,List.getD_eq_getElem?_getD] at hv
 have hv':a[i % 16]? =some (some v):=by
  cases hx:a[i % 16]? with
  |none=>rw [hx] at hv;cases hv
  |some y=>rw [hx] at hv;simp only [Option.getD_some] at hv;rw [hv]
 obtain⟨u,hu,hr⟩:=lZ h3 hv'
 have hg:s.get i=some u:=by
  unfold Slots.get
  rw [List.getD_eq_getElem?_getD (l:=s),h2,Option.getD_some,List.getD_eq_getElem?_getD,hu]
  rfl
 obtain⟨x,hx,hxr⟩:=hs.2 i u hg
 exact⟨x,hx,qY hr hxr⟩
def vg:Nat->Nat->Rho->Bool
 |0,n0,ρ=>ρ.all fun|some (n,none)=>decide (n0<=n)|some (_,some _)=>false|none=>true
 |k+1,n0,some (n,none)::ρ=>n == n0 && vg k (n0+1) ρ
 |_,_,_=>false
def gM (ρ:Rho) (n0:Nat) (t s:S):Prop:=vg n0 0 ρ=true/\co ρ t.hp=true/\ti ρ t.sl s.sl/\fS ρ s.hp ρ t.hp
theorem x4:∀ {k n0:Nat} {ρ:Rho},vg k n0 ρ=true->(∀ i,i < k->ρ[i]? =some (some (n0+i,none)))/\(∀ i n d,k<=i->ρ[i]? =some (some (n,d))->d=none/\n0+k<=n)
 |0,n0,ρ,h=>by
  refine⟨fun i hi=>by omega,fun i n d _ hr=>?_⟩
  have:=List.all_eq_true.1 (by simpa [vg] using h) _ (List.mem_of_getElem? hr)
  cases d with
  |none=>exact⟨rfl,by simpa using this⟩
  |some d=>cases this
 |k+1,n0,ρ,h=>by
  cases ρ with
  |nil=>cases h
  |cons x ρ=>
   cases x with
   |none=>cases h
   |some x=>
    obtain⟨n,d⟩:=x
    cases d with
    |some d=>cases h
    |none=>
     simp only [vg,Bool.and_eq_true,beq_iff_eq] at h
     obtain⟨rfl,h⟩:=h
     obtain⟨h1,h2⟩:=x4 h
     refine⟨fun i hi=>?_,fun i m d hi hr=>?_⟩
     ·cases i with
      |zero=>simp
      |succ i=>
       rw [List.getElem?_cons_succ,h1 i (by omega)]
       simp only [Option.some.injEq,Prod.mk.injEq,and_true]
       omega
     cases i with
     |zero=>omega
     |succ i=>
      rw [List.getElem?_cons_succ] at hr
      obtain⟨h3,h4⟩:=h2 i m d (by omega) hr
      exact⟨h3,by omega⟩
theorem q7 {E:Entry} {n0:Nat} (hE:E.h.length=n0) {ρ:Rho} {t s:S} (h:gM ρ n0 t s) {β:Be} {a:Act} {w:World} (hs:Sim E β s a w):Sim E (cI β ρ) t a w:=by
 obtain⟨hid,hsep,hsl,hhp⟩:=h
 obtain⟨hlo,hhi⟩:=x4 hid
 have hlen:=d8 hhp
 have hl0:n0<=t.hp.length:=by
  rw [<-hlen]
  rcases Nat.lt_or_ge ρ.length n0 with h1|h1
  ·have:=hlo ρ.length h1
   rw [List.getElem?_eq_none (Nat.le_refl _)] at this
   cases this
  exact h1
 refine⟨hs.dfr,pB hsl hs.sl,pA hs.hp hhp hsep,hs.ent,?_⟩
 have st:=hs.st
 refine⟨fun o p hp=>?_,st.os,st.tape,st.output,st.size,st.block,by rw [hE];exact hl0,fun o ob hlt ho=>?_,fun o ob p hge ho hp=>?_⟩
 ·have hlt:o < n0:=by rw [<-hE,<-hs.ent];exact (List.getElem?_eq_some_iff.1 hp).1
  have h1:=hlo o hlt
  rw [Nat.zero_add] at h1
  rw [aH β h1]
  dsimp only
  rw [List.getD_eq_getElem?_getD,st.le o p hp]
  rfl
 ·rw [hE] at hlt
  have h1:=hlo o hlt
  rw [Nat.zero_add] at h1
  rcases cX hhp ho with⟨hr,_⟩|⟨n,d,ob',hr,hn,hob⟩
  ·rw [h1] at hr;cases hr
  rw [h1] at hr
  simp only [Option.some.injEq,Prod.mk.injEq] at hr
  obtain⟨rfl,rfl⟩:=hr
  obtain⟨ob0,ho0,hown0⟩:=st.old o ob' (by rw [hE];exact hlt) hn
  exact⟨ob0,ho0,fun h=>hown0 (fW hob h).2⟩
 rw [hE] at hge
 rcases cX hhp ho with⟨hr,_⟩|⟨n,d,ob',hr,hn,hob⟩
 ·rw [aH β hr] at hp;cases hp
 obtain⟨rfl,hge'⟩:=hhi o n d hge hr
 rw [aH β hr] at hp
 simp only [Option.some.injEq] at hp
 rw [List.getD_eq_getElem?_getD] at hp
 have hb:β[n]? =some (some p):=by
  cases h:β[n]? with
  |none=>rw [h] at hp;cases hp
  |some z=>rw [h] at hp;simp only [Option.getD_some] at hp;rw [hp]
 exact st.fresh n ob' p (by rw [hE];omega) hn hb
theorem x5 {P:Program} {E:Entry} {n0:Nat} (hE:E.h.length=n0) {ρ:Rho} {t s:S} (h:gM ρ n0 t s) {C:Code} {K:Exit->S->Prop} (hd:kG P E C t K):kG P E C s K:=
 fun β a w hs Q hQ=>hd _ a w (q7 hE h hs) Q hQ
def S.kill (l:Slots):List Nat->Slots
 |[]=>l
 |k::r=>S.kill (l.put k none) r
def S.sets (l:Slots):List (Nat×AV)->Slots
 |[]=>l
 |(k,v)::r=>S.sets (l.put k (some v)) r
def S.at (s:S) (kill:List Nat) (set:List (Nat×AV)) (h:Hp):S:=⟨S.sets (S.kill s.sl kill) set,h⟩
theorem gN {P:Program} {E:Entry} {F:S->Prop} {b:Code} {k:List Item} {s:S} {c:Prop} {ι:Type} (n0:Nat) (hE:E.h.length=n0) (mk:S->ι->S) (J:ι->Prop) (μ:ι->Nat) (i0:ι) (ρ0:Rho) (hc:c) (hJ:J i0) (h0:gM ρ0 n0 (mk s i0) s)
  (h:∀ i,J i->∀ N:S->Prop,(∀ (s':S) (j:ι) (ρ:Rho),J j->μ j < μ i->gM ρ n0 (mk s j) s'->N s')->dX P E F (.go (.code b::.hook N::k) (mk s i) True)):dX P E F (.lp b k s c):=by
 refine⟨hc,qW (fun _=>True) (fun s' n=>∃ i ρ,J i/\gM ρ n0 (mk s i) s'/\μ i=n) (μ i0) ⟨trivial,i0,ρ0,hJ,h0,rfl⟩ fun s' n _ ⟨i,ρ,hi,hw,hn⟩=>?_⟩
 have hd:=(h i hi (fun s''=>∃ j ρ,J j/\μ j < μ i/\gM ρ n0 (mk s j) s'') fun s'' j ρ' hj hlt hw'=>⟨j,ρ',hj,hlt,hw'⟩).2
 refine x5 hE hw (dJ hd fun e s'' hk=>?_)
 cases e with
 |normal=>
  obtain⟨j,ρ',hj,hlt,hw'⟩:=hk
  exact⟨trivial,μ j,by omega,j,ρ',hj,hw',rfl⟩
 |_=>exact hk
theorem bw {ρ:Rho} {n0:Nat} {t s:S} (h1:vg n0 0 ρ=true) (h2:co ρ t.hp=true) (h:ti ρ t.sl s.sl/\fS ρ s.hp ρ t.hp):gM ρ n0 t s:=⟨h1,h2,h.1,h.2⟩
end
section
open Go.RowKit
def j3 (ρ:Rho) (N o:Nat):Option (Nat×Option Nat):=if o < ρ.length then ρ.at o else some (N+(o - ρ.length),none)
def jo (ρ:Rho) (N:Nat):Sc->Sc
 | .sl o off len=>match j3 ρ N o with
  |some (n,none)=>.sl n off len
  |some (n,some d)=>.sl n (off+d) len
  |none=>.nil
 | .pt o k j=>match j3 ρ N o with
  |some (n,none)=>.pt n k j
  |some (n,some d)=>.pt n (k+d) j
  |none=>.nil
 | .int k n=>.int k n
 | .bo b=>.bo b
 | .st l=>.st l
 | .nil=>.nil
 | .un=>.un
def jp (ρ:Rho) (N:Nat):List Sc->List Sc
 |[]=>[]
 |a::l=>jo ρ N a::jp ρ N l
def x6 (ρ:Rho) (N:Nat):Co->Co
 | .sc a=>.sc (jo ρ N a)
 | .ag l=>.ag (jp ρ N l)
def vh (ρ:Rho) (N:Nat):List Co->List Co
 |[]=>[]
 |a::l=>x6 ρ N a::vh ρ N l
def gO (ρ:Rho) (N:Nat):AV->AV
 | .sc a=>.sc (jo ρ N a)
 | .ag l=>.ag (jp ρ N l)
 | .tu l=>.tu (vh ρ N l)
 | .cl f l=>.cl f (jp ρ N l)
def l5 (ρ:Rho) (N:Nat):List (List Sc)->List (List Sc)
 |[]=>[]
 |a::l=>jp ρ N a::l5 ρ N l
def dY (ρ:Rho) (N:Nat) (ob:AObj):AObj:=
 match ob.fl with
 |true=>ob
 |false=>{ ob with cs:=l5 ρ N ob.cs }
def e9 (ρ:Rho) (N:Nat):Hp->Hp
 |[]=>[]
 |none::h=>none::e9 ρ N h
 |some ob::h=>some (dY ρ N ob)::e9 ρ N h
def gP (ρ:Rho) (N:Nat):Option AObj->Option AObj
 |none=>none
 |some ob=>some (dY ρ N ob)
def cU (ρ0:Rho) (N:Nat):Rho->Hp->Hp->Hp->Hp
 |some (n,_)::ρ,some t::h,t'::h',s=>match t.own with
  |true=>cU ρ0 N ρ h h' (s.set n (gP ρ0 N t'))
  |false=>cU ρ0 N ρ h h' s
 |_::ρ,_::h,_::h',s=>cU ρ0 N ρ h h' s
 |_,_,_,s=>s
def cC (ρ:Rho) (h0 h0' s:Hp):Hp:=cU ρ s.length ρ h0 h0' s++e9 ρ s.length (h0'.drop h0.length)
theorem et (ρ0:Rho) (N:Nat):∀ (ρ:Rho) (h h' s:Hp),(cU ρ0 N ρ h h' s).length=s.length
 |[],_,_,s=>by simp [cU]
 |x::ρ,[],_,s=>by cases x<;>simp [cU]
 |x::ρ,y::h,[],s=>by cases x<;>cases y<;>simp [cU]
 |none::ρ,y::h,z::h',s=>by cases y<;>simp [cU,et ρ0 N ρ h h' s]
 |some x::ρ,none::h,z::h',s=>by simp [cU,et ρ0 N ρ h h' s]
 |some (n,d)::ρ,some t::h,z::h',s=>by
  cases ho:t.own
  ·simp [cU,ho,et ρ0 N ρ h h' s]
  simp [cU,ho,et ρ0 N ρ h h' (s.set n (gP ρ0 N z))]
theorem d9 {ρ0:Rho} {N o:Nat}:∀ {ρ:Rho} {h h' s:Hp},(∀ (i:Nat) (d:Option Nat) (t:AObj),ρ[i]? =some (some (o,d))->h[i]? =some (some t)->t.own=false)->(cU ρ0 N ρ h h' s)[o]? =s[o]?
 |[],_,_,s,_=>by simp [cU]
 |x::ρ,[],_,s,_=>by cases x<;>simp [cU]
 |x::ρ,y::h,[],s,_=>by cases x<;>cases y<;>simp [cU]
 |none::ρ,y::h,z::h',s,hx=>by
  cases y<;>simpa [cU] using d9 (ρ:=ρ) (h:=h) (h':=h') (s:=s) (fun i d t h1 h2=>hx (i+1) d t (by simpa using h1) (by simpa using h2))
 |some x::ρ,none::h,z::h',s,hx=>by
  simpa [cU] using d9 (ρ:=ρ) (h:=h) (h':=h') (s:=s) (fun i d t h1 h2=>hx (i+1) d t (by simpa using h1) (by simpa using h2))
 |some (n,d)::ρ,some t::h,z::h',s,hx=>by
  cases ho:t.own
  ·simpa [cU,ho] using d9 (ρ:=ρ) (h:=h) (h':=h') (s:=s) (fun i d t h1 h2=>hx (i+1) d t (by simpa using h1) (by simpa using h2))
  have hne:n≠o:=fun e=>by
   subst e
   have:=hx 0 d t (by simp) (by simp)
   rw [ho] at this;cases this
  have:=d9 (ρ0:=ρ0) (N:=N) (ρ:=ρ) (h:=h) (h':=h') (s:=s.set n (gP ρ0 N z)) (fun i d t h1 h2=>hx (i+1) d t (by simpa using h1) (by simpa using h2))
  simp only [cU,ho]
  rw [this,List.getElem?_set_ne hne]
theorem gQ {ρ0:Rho} {N o:Nat}:∀ {ρ:Rho} {h h' s:Hp},co ρ h=true->o < s.length->∀ {i:Nat} {d:Option Nat} {t:AObj} {x:Option AObj},ρ[i]? =some (some (o,d))->h[i]? =some (some t)->t.own=true->h'[i]? =some x->(cU ρ0 N ρ h h' s)[o]? =some (gP ρ0 N x)
 |[],_,_,s,_,_,i,d,t,x,h1,_,_,_=>by simp at h1
 |_::_,[],_,s,_,_,i,d,t,x,_,h2,_,_=>by simp at h2
 |_::_,_::_,[],s,_,_,i,d,t,x,_,_,_,h4=>by simp at h4
 |y::ρ,u::h,z::h',s,hs,hlt,0,d,t,x,h1,h2,h3,h4=>by
  simp only [List.getElem?_cons_zero,Option.some.injEq] at h1 h2 h4
  subst h1;subst h2;subst h4
  have hx:∀ (i:Nat) (d':Option Nat) (t':AObj),ρ[i]? =some (some (o,d'))->h[i]? =some (some t')->t'.own=false:=by
   intro i d' t' k1 k2
   cases ho:t'.own with
   |false=>rfl
   |true=>exact absurd rfl (jn (n:=o) (m:=o) (d:=d) (e:=d') (t:=t) (u:=t') hs (show 0 < i+1 by omega) (by simp) (by simp) (by simpa using k1) (by simpa using k2) (.inl h3))
  simp only [cU,h3]
  rw [d9 hx,List.getElem?_set_self hlt]
 |y::ρ,u::h,z::h',s,hs,hlt,i+1,d,t,x,h1,h2,h3,h4=>by
  simp only [List.getElem?_cons_succ] at h1 h2 h4
  cases y with
  |none=>cases u<;>simpa [cU] using gQ (ρ:=ρ) (h:=h) (h':=h') (s:=s) (fG hs) hlt h1 h2 h3 h4
  |some y=>
   obtain⟨n,e⟩:=y
   cases u with
   |none=>simpa [cU] using gQ (ρ:=ρ) (h:=h) (h':=h') (s:=s) (fG hs) hlt h1 h2 h3 h4
   |some u=>
    cases ho:u.own
    ·simpa [cU,ho] using gQ (ρ:=ρ) (h:=h) (h':=h') (s:=s) (fG hs) hlt h1 h2 h3 h4
    simpa [cU,ho] using gQ (ρ:=ρ) (h:=h) (h':=h') (s:=s.set n (gP ρ0 N z)) (fG hs) (by simpa using hlt) h1 h2 h3 h4
theorem j4 (ρ:Rho) (N:Nat):∀ (h:Hp) (o:Nat),(e9 ρ N h)[o]? =(h[o]?).map (gP ρ N)
 |[],o=>by simp [e9]
 |none::h,0=>by simp [e9,gP]
 |some ob::h,0=>by simp [e9,gP]
 |none::h,o+1=>by simpa [e9] using j4 ρ N h o
 |some ob::h,o+1=>by simpa [e9] using j4 ρ N h o
def cJ (β β0':Be) (n:Nat):Be:=β++β0'.drop n
section
variable {β β0':Be} {ρ:Rho} {N:Nat}
theorem l6 (hN:β.length=N) {o:Nat} (ho:ρ.length<=o):(cJ β β0' ρ.length)[N+(o - ρ.length)]? =β0'[o]? :=by
 unfold cJ
 rw [List.getElem?_append_right (by omega),List.getElem?_drop]
 congr 1
 omega
theorem iU {o:Nat} (ho:o < β.length):(cJ β β0' ρ.length)[o]? =β[o]? :=by
 unfold cJ
 rw [List.getElem?_append_left ho]
theorem pC {β:Be} {n:Nat} {p:Pl} (h:β.getD n none=some p):β[n]? =some (some p):=by
 rw [List.getD_eq_getElem?_getD] at h
 cases hx:β[n]? with
 |none=>rw [hx] at h;cases h
 |some y=>rw [hx] at h;simp only [Option.getD_some] at h;rw [h]
theorem l7 (hN:β.length=N) (hle:Be.le (cI β ρ) β0') {o:Nat} {p:Pl} (hp:β0'[o]? =some (some p)):
  ∃ (n:Nat) (d:Option Nat) (q:Pl),j3 ρ N o=some (n,d)/\(cJ β β0' ρ.length)[n]? =some (some q)/\p=(match d with
   |none=>q
   |some d=>{ q with base:=q.base+d*q.esz,avail:=q.avail - d*q.esz }):=by
 unfold j3
 by_cases hlt:o < ρ.length
 ·rw [if_pos hlt]
  have hx:ρ[o]? =some ρ[o]:=List.getElem?_eq_getElem hlt
  have hb:=hle _ _ (aH β hx)
  rw [hp] at hb
  simp only [Option.some.injEq] at hb
  have hat:ρ.at o=ρ[o]:=by unfold Rho.at;rw [List.getD_eq_getElem?_getD,hx];rfl
  rw [hat]
  cases hr:ρ[o] with
  |none=>rw [hr] at hb;cases hb
  |some x=>
   obtain⟨n,d⟩:=x
   rw [hr] at hb
   cases d with
   |none=>
    dsimp only at hb
    have h1:=pC hb.symm
    exact⟨n,none,p,rfl,by rw [iU (List.getElem?_eq_some_iff.1 h1).1];exact h1,rfl⟩
   |some d=>
    dsimp only at hb
    cases hg:β.getD n none with
    |none=>rw [hg] at hb;cases hb
    |some q=>
     rw [hg] at hb
     simp only [Option.map_some,Option.some.injEq] at hb
     have h1:=pC hg
     exact⟨n,some d,q,rfl,by rw [iU (List.getElem?_eq_some_iff.1 h1).1];exact h1,hb⟩
 rw [if_neg hlt]
 exact⟨N+(o - ρ.length),none,p,rfl,by rw [l6 hN (by omega)];exact hp,rfl⟩
theorem lB (hN:β.length=N) (hle:Be.le (cI β ρ) β0'):∀ {s:Sc} {v:Value},ScR β0' s v->ScR (cJ β β0' ρ.length) (jo ρ N s) v
 | .int ..,_,h=>h
 | .bo _,_,h=>h
 | .st _,_,h=>h
 | .nil,_,h=>h
 | .un,_,h=>h
 | .sl o off len,v,⟨a,cap,hv,h1,h2,h3⟩=>by
  rcases h3 with h3|⟨p,hp,ha,hav⟩
  ·subst h3
   have:len=0:=by omega
   subst this
   subst hv
   simp only [jo]
   split
   ·exact⟨a,0,rfl,Nat.le_refl _,h2,.inl rfl⟩
   ·exact⟨a,0,rfl,Nat.le_refl _,h2,.inl rfl⟩
   exact⟨a,rfl⟩
  obtain⟨n,d,q,hn,hq,hpq⟩:=l7 hN hle hp
  simp only [jo,hn]
  cases d with
  |none=>
   dsimp only at hpq
   subst hpq
   exact⟨a,cap,hv,h1,h2,.inr ⟨p,hq,ha,hav⟩⟩
  |some d=>
   dsimp only at hpq
   subst hpq
   dsimp only at ha hav
   by_cases hc:cap=0
   ·exact⟨a,cap,hv,h1,h2,.inl hc⟩
   refine⟨a,cap,hv,h1,h2,?_⟩
   by_cases hz:q.esz=0
   ·refine .inr ⟨q,hq,?_,?_⟩
    ·rw [ha,hz];simp
    rw [hz];simp
   refine .inr ⟨q,hq,?_,?_⟩
   ·rw [ha]
    simp only [Option.some.injEq,Addr.mk.injEq,and_true,true_and]
    rw [Nat.add_mul]
    omega
   have hpos:0 < (off+cap)*q.esz:=Nat.mul_pos (by omega) (by omega)
   rw [show off+d+cap=(off+cap)+d from by omega,Nat.add_mul]
   omega
 | .pt o k j,v,⟨p,hp,hv⟩=>by
  obtain⟨n,d,q,hn,hq,hpq⟩:=l7 hN hle hp
  simp only [jo,hn]
  cases d with
  |none=>
   dsimp only at hpq
   subst hpq
   exact⟨p,hq,hv⟩
  |some d=>
   dsimp only at hpq
   subst hpq
   refine⟨q,hq,?_⟩
   rw [hv]
   simp only [Value.pointer.injEq,Option.some.injEq,Addr.mk.injEq,and_true,true_and]
   rw [Nat.add_mul]
   omega
theorem pD (hN:β.length=N) (hle:Be.le (cI β ρ) β0'):∀ {s:List Sc} {vs:List Value},L2 (ScR β0') s vs->L2 (ScR (cJ β β0' ρ.length)) (jp ρ N s) vs
 |[],[],_=>trivial
 |a::l,v::vs,h=>⟨lB hN hle h.1,pD hN hle h.2⟩
 |[],_::_,h=>h.elim
 |_::_,[],h=>h.elim
theorem z_ (hN:β.length=N) (hle:Be.le (cI β ρ) β0') {s:Co} {v:Value} (h:sS β0' s v):sS (cJ β β0' ρ.length) (x6 ρ N s) v:=by
 cases s with
 |sc s=>exact lB hN hle h
 |ag l=>obtain⟨vs,hv,hl⟩:=h;exact⟨vs,hv,pD hN hle hl⟩
theorem vi (hN:β.length=N) (hle:Be.le (cI β ρ) β0'):∀ {s:List Co} {vs:List Value},L2 (sS β0') s vs->L2 (sS (cJ β β0' ρ.length)) (vh ρ N s) vs
 |[],[],_=>trivial
 |a::l,v::vs,h=>⟨z_ hN hle h.1,vi hN hle h.2⟩
 |[],_::_,h=>h.elim
 |_::_,[],h=>h.elim
theorem Aa (hN:β.length=N) (hle:Be.le (cI β ρ) β0') {s:AV} {v:Value} (h:dG β0' s v):dG (cJ β β0' ρ.length) (gO ρ N s) v:=by
 cases s with
 |sc s=>exact lB hN hle h
 |ag l=>obtain⟨vs,hv,hl⟩:=h;exact⟨vs,hv,pD hN hle hl⟩
 |tu l=>obtain⟨vs,hv,hl⟩:=h;exact⟨vs,hv,vi hN hle hl⟩
 |cl f l=>obtain⟨vs,hv,hl⟩:=h;exact⟨vs,hv,pD hN hle hl⟩
theorem q8 (ρ:Rho) (N:Nat):∀ (l:List Sc) (i:Nat),(jp ρ N l)[i]? =(l[i]?).map (jo ρ N)
 |[],i=>by simp [jp]
 |a::l,0=>by simp [jp]
 |a::l,i+1=>by simpa [jp] using q8 ρ N l i
theorem kI (ρ:Rho) (N:Nat):∀ (l:List Sc),(jp ρ N l).length=l.length
 |[]=>rfl
 |a::l=>by simp [jp,kI ρ N l]
theorem ow (ρ:Rho) (N:Nat):∀ (l:List (List Sc)) (i:Nat),(l5 ρ N l)[i]? =(l[i]?).map (jp ρ N)
 |[],i=>by simp [l5]
 |a::l,0=>by simp [l5]
 |a::l,i+1=>by simpa [l5] using ow ρ N l i
theorem e_ (ob:AObj):(dY ρ N ob).esz=ob.esz/\(dY ρ N ob).ty=ob.ty/\(dY ρ N ob).own=ob.own/\(dY ρ N ob).fl=ob.fl:=by
 unfold dY
 split<;>simp_all
theorem vj (hN:β.length=N) (hle:Be.le (cI β ρ) β0') {w:World} {p:Option Pl} {ob:AObj} (h:ObR β0' w p ob) (hflat:ob.fl=true->FlatL ob.cs):ObR (cJ β β0' ρ.length) w p (dY ρ N ob):=by
 obtain⟨e1,e2,e3,e4⟩:=e_ (ρ:=ρ) (N:=N) ob
 cases p with
 |none=>
  have h0:ob.cs=[]:=h
  show (dY ρ N ob).cs=[]
  unfold dY
  split
  ·exact h0
  rw [h0];rfl
 |some p=>
  obtain⟨he,arr,T,fz,hh,hc,ho⟩:=h
  refine⟨by rw [e1];exact he,arr,T,fz,hh,?_,by rw [e2,e3];exact ho⟩
  rw [e1]
  unfold dY
  split
  ·rename_i hf
   exact fun k c hk=>⟨(hc k c hk).1,fun j s hs=>let⟨v,hv,hr⟩:=(hc k c hk).2 j s hs;⟨v,hv,pz (dA.1 (hflat hf c (List.mem_of_getElem? hk)) s (List.mem_of_getElem? hs)) hr⟩⟩
  intro k c hk
  dsimp only at hk
  rw [ow] at hk
  simp only [Option.map_eq_some_iff] at hk
  obtain⟨c0,hk0,rfl⟩:=hk
  obtain⟨h1,h2⟩:=hc k c0 hk0
  refine⟨by rw [kI];exact h1,fun j s hs=>?_⟩
  rw [q8] at hs
  simp only [Option.map_eq_some_iff] at hs
  obtain⟨s0,hs0,rfl⟩:=hs
  obtain⟨v,hv,hr⟩:=h2 j s0 hs0
  exact⟨v,hv,lB hN hle hr⟩
end
theorem vk {β:Be} {ρ:Rho} {s t:Hp} (hm:fS ρ s ρ t) {k:Nat} (h:Own (cI β ρ) t k):∃ (i n:Nat) (ob':AObj) (p:Pl),ρ[i]? =some (some (n,none))/\s[n]? =some (some ob')/\ob'.own=true/\β[n]? =some (some p)/\(cI β ρ)[i]? =some (some p)/\p.blk=k/\∃ ob:AObj,t[i]? =some (some ob)/\ob.own=true:=by
 obtain⟨i,ob,p,ho,hown,hp,rfl⟩:=h
 rcases cX hm ho with⟨hr,_⟩|⟨n,d,ob',hr,hn,hob⟩
 ·rw [aH β hr] at hp;cases hp
 obtain⟨rfl,hown'⟩:=fW hob hown
 have hp':=hp
 rw [aH β hr] at hp'
 simp only [Option.some.injEq] at hp'
 exact⟨i,n,ob',p,hr,hn,hown',pC hp',hp,rfl,ob,ho,hown⟩
theorem tj {P:Program} {args0 avs:List AV} {h0 h0' s:Hp} {res0:AV} (ρ:Rho) (hargs:ln ρ args0 avs) (hm:fS ρ s ρ h0) (hsep:co ρ h0=true) {β:Be} {w:World} {vs:List Value} (hs:HSim β s w) (hvs:L2 (dG β) avs vs) {e:Ending} {w':World}
  (hend:∃ β' v,e=.returned v/\dG β' res0 v/\HSim β' h0' w'/\StepR (cI β ρ) β' h0 h0' w w'):∃ β' v,e=.returned v/\dG β' (gO ρ s.length res0) v/\HSim β' (cC ρ h0 h0' s) w'/\StepR β β' s (cC ρ h0 h0' s) w w':=by
 have hlen:ρ.length=h0.length:=d8 hm
 obtain⟨β0',v,he,hr,hh,hst⟩:=hend
 have hN:β.length=s.length:=hs.len
 have hle:=hst.le
 have hl0':h0.length<=h0'.length:=hst.len
 -- blocks that were there stay, but for what the callee owned
 have hblk:∀ {o:Nat} {ob:AObj} {p:Pl},s[o]? =some (some ob)->β[o]? =some (some p)->(∀ (i:Nat) (d:Option Nat) (t:AObj),ρ[i]? =some (some (o,d))->h0[i]? =some (some t)->t.own=false)->w'.heap[p.blk]? =w.heap[p.blk]? :=by
  intro o ob p ho hp hx
  obtain⟨q,hq,hR⟩:=hs.ob o ob ho
  rw [hp] at hq;cases hq
  refine hst.block _ hR.lt fun hown=>?_
  obtain⟨i,n,ob',q,hr1,hn,hown',hq,_,hqb,t,ht,hto⟩:=vk hm hown
  by_cases hno:n=o
  ·subst hno
   have:=hx i none t hr1 ht
   rw [hto] at this;cases this
  exact hs.apart n o ob' ob q p hn ho hown' hq hp hno hqb
 -- what stands in the caller's heap behind the call
 have hlenU:(cU ρ s.length ρ h0 h0' s).length=s.length:=et _ _ _ _ _ _
 have kind:∀ {o:Nat} {x:AObj},(cC ρ h0 h0' s)[o]? =some (some x)->
   (o < s.length/\s[o]? =some (some x)/\(∀ (i:Nat) (d:Option Nat) (t:AObj),ρ[i]? =some (some (o,d))->h0[i]? =some (some t)->t.own=false))\/
   (o < s.length/\∃ (i:Nat) (x0 t ob:AObj),ρ[i]? =some (some (o,none))/\h0[i]? =some (some t)/\t.own=true/\s[o]? =some (some ob)/\ob.own=true/\h0'[i]? =some (some x0)/\i < h0.length/\x=dY ρ s.length x0)\/
   (∃ (i:Nat) (x0:AObj),h0.length<=i/\o=s.length+(i - h0.length)/\h0'[i]? =some (some x0)/\x=dY ρ s.length x0):=by
  intro o x hx
  unfold cC at hx
  rcases Nat.lt_or_ge o s.length with hlt|hge
  ·rw [List.getElem?_append_left (by rw [hlenU];exact hlt)] at hx
   by_cases hown:∃ (i:Nat) (d:Option Nat) (t:AObj),ρ[i]? =some (some (o,d))/\h0[i]? =some (some t)/\t.own=true
   ·obtain⟨i,d,t,h1,h2,h3⟩:=hown
    have hil:i < h0.length:=(List.getElem?_eq_some_iff.1 h2).1
    have hx':h0'[i]? =some (h0'[i]'(by omega)):=List.getElem?_eq_getElem (by omega)
    rw [gQ hsep hlt h1 h2 h3 hx'] at hx
    rcases cX hm h2 with⟨hr1,_⟩|⟨n,d',ob',hr1,hn,hob⟩
    ·rw [h1] at hr1;cases hr1
    rw [h1] at hr1
    simp only [Option.some.injEq,Prod.mk.injEq] at hr1
    obtain⟨rfl,rfl⟩:=hr1
    obtain⟨rfl,hown'⟩:=fW hob h3
    cases hz:h0'[i]'(by omega) with
    |none=>rw [hz] at hx;cases hx
    |some x0=>
     rw [hz] at hx
     simp only [gP,Option.some.injEq] at hx
     exact .inr (.inl ⟨hlt,i,x0,t,ob',h1,h2,h3,hn,hown',by rw [hx',hz],hil,hx.symm⟩)
   have hx2:∀ (i:Nat) (d:Option Nat) (t:AObj),ρ[i]? =some (some (o,d))->h0[i]? =some (some t)->t.own=false:=by
    intro i d t h1 h2
    cases h3:t.own with
    |false=>rfl
    |true=>exact absurd ⟨i,d,t,h1,h2,h3⟩ hown
   rw [d9 hx2] at hx
   exact .inl ⟨hlt,hx,hx2⟩
  rw [List.getElem?_append_right (by rw [hlenU];exact hge),hlenU,j4,List.getElem?_drop] at hx
  simp only [Option.map_eq_some_iff] at hx
  obtain⟨y,hy,hxy⟩:=hx
  cases y with
  |none=>cases hxy
  |some x0=>
   simp only [gP,Option.some.injEq] at hxy
   exact .inr (.inr ⟨h0.length+(o - s.length),x0,by omega,by omega,hy,hxy.symm⟩)
 have hnew:∀ {i:Nat},h0.length<=i->(cJ β β0' ρ.length)[s.length+(i - h0.length)]? =β0'[i]? :=by
  intro i hi
  have:=l6 (β:=β) (β0':=β0') (ρ:=ρ) hN (o:=i) (by omega)
  rwa [hlen] at this⊢
 have hold:∀ {o:Nat},o < s.length->(cJ β β0' ρ.length)[o]? =β[o]? :=fun h=>iU (by omega)
 -- the place of what the callee owned
 have hplace:∀ {i o:Nat} {q:Option Pl},ρ[i]? =some (some (o,none))->o < s.length->β0'[i]? =some q->β[o]? =some q:=by
  intro i o q h1 ho hq
  have hb:=hle _ _ (aH β h1)
  rw [hq] at hb
  simp only [Option.some.injEq] at hb
  have:β[o]? =some (β[o]'(by omega)):=List.getElem?_eq_getElem (by omega)
  rw [List.getD_eq_getElem?_getD,this] at hb
  rw [this,hb]
  rfl
 have hfresh:∀ {i:Nat} {x0:AObj} {p:Pl},h0.length<=i->h0'[i]? =some (some x0)->β0'[i]? =some (some p)->Own β s p.blk\/w.heap.size<=p.blk:=by
  intro i x0 p hi hx hp
  rcases hst.fresh i x0 p hi hx hp with h1|h1
  ·obtain⟨j,n,ob',q,hr1,hn,hown',hq,_,hqb,_⟩:=vk hm h1
   exact .inl ⟨n,ob',q,hn,hown',hq,hqb⟩
  exact .inr h1
 refine⟨cJ β β0' ρ.length,v,he,Aa hN hle hr,⟨?_,?_,?_,?_⟩,⟨?_,hst.os,hst.tape,hst.output,hst.size,?_,?_,?_,?_⟩⟩
 ·
  unfold cJ cC
  have hr1:∀ h:Hp,(e9 ρ s.length h).length=h.length:=by
   intro h
   induction h with
   |nil=>rfl
   |cons y h ih=>cases y<;>simp [e9,ih]
  simp only [List.length_append,List.length_drop,hlenU,hr1,hN,hh.len,hlen]
 ·intro o x hx
  rcases kind hx with⟨hlt,hsx,hx2⟩|⟨hlt,i,x0,t,ob,h1,h2,h3,hsx,hown,hx0,hil,rfl⟩|⟨i,x0,hi,rfl,hx0,rfl⟩
  ·obtain⟨q,hq,hR⟩:=hs.ob o x hsx
   refine⟨q,by rw [hold hlt];exact hq,(hR.world fun q' hq'=>?_).mono (Be.le_append _ _)⟩
   subst hq'
   exact hblk hsx hq hx2
  ·obtain⟨q,hq,hR⟩:=hh.ob i x0 hx0
   exact⟨q,by rw [hold hlt];exact hplace h1 hlt hq,vj hN hle hR (hh.flat i x0 hx0)⟩
  obtain⟨q,hq,hR⟩:=hh.ob i x0 hx0
  exact⟨q,by rw [hnew hi];exact hq,vj hN hle hR (hh.flat i x0 hx0)⟩
 ·intro o x hx hf
  have hflat:∀ {i:Nat} {x0:AObj},h0'[i]? =some (some x0)->(dY ρ s.length x0).fl=true->FlatL (dY ρ s.length x0).cs:=by
   intro i x0 hx0 hf
   have h4:=(e_ (ρ:=ρ) (N:=s.length) x0).2.2.2
   rw [h4] at hf
   have:dY ρ s.length x0=x0:=by unfold dY;rw [hf]
   rw [this]
   exact hh.flat i x0 hx0 hf
  rcases kind hx with⟨hlt,hsx,hx2⟩|⟨hlt,i,x0,t,ob,h1,h2,h3,hsx,hown,hx0,hil,rfl⟩|⟨i,x0,hi,rfl,hx0,rfl⟩
  ·exact hs.flat o x hsx hf
  ·exact hflat hx0 hf
  exact hflat hx0 hf
 ·intro o o' x x' p p' hx hx' hxo hp hp' hne
  -- an object of the caller's that was there: its place in β, and that it was owned if it is
  have oldp:∀ {o:Nat} {x:AObj} {p:Pl},(cC ρ h0 h0' s)[o]? =some (some x)->o < s.length->(cJ β β0' ρ.length)[o]? =some (some p)->∃ ob:AObj,s[o]? =some (some ob)/\(x.own=true->ob.own=true)/\β[o]? =some (some p):=by
   intro o x p hx hlt hp
   rw [hold hlt] at hp
   rcases kind hx with⟨_,hsx,_⟩|⟨_,i,x0,t,ob,h1,h2,h3,hsx,hown,hx0,hil,rfl⟩|⟨i,x0,hi,rfl,hx0,rfl⟩
   ·exact⟨x,hsx,id,hp⟩
   ·exact⟨ob,hsx,fun _=>hown,hp⟩
   omega
  have cross:∀ {o o':Nat} {x x':AObj} {p p':Pl},(cC ρ h0 h0' s)[o]? =some (some x)->(cC ρ h0 h0' s)[o']? =some (some x')->o < s.length->s.length<=o'->(x.own=true\/x'.own=true)->
    (cJ β β0' ρ.length)[o]? =some (some p)->(cJ β β0' ρ.length)[o']? =some (some p')->p.blk≠p'.blk:=by
   intro o o' x x' p p' hx hx' hlt hge hor hp hp' hbb
   obtain⟨ob,hsx,hown,hbp⟩:=oldp hx hlt hp
   rcases kind hx' with⟨h1,_⟩|⟨h1,_⟩|⟨i',x0',hi',rfl,hx0',rfl⟩
   ·omega
   ·omega
   rw [hnew hi'] at hp'
   rcases hst.fresh i' x0' p' hi' hx0' hp' with hO|hO
   ·obtain⟨j,n,ob',q,hr1,hn,hown',hq,hbq,hqb,t,ht,hto⟩:=vk hm hO
    by_cases hno:n=o
    ·subst hno
     rcases kind hx with⟨_,_,hx2⟩|⟨_,i,x0,t',ob2,h1,h2,h3,_,_,hx0,hil,rfl⟩|⟨i,x0,hi,he2,_⟩
     ·have:=hx2 j none t hr1 ht
      rw [hto] at this;cases this
     ·have hij:i=j:=by
       by_cases hij:i=j
       ·exact hij
       exact absurd rfl (vf hsep hij h1 h2 hr1 ht (.inl h3))
      subst hij
      have hbi:β0'[i]? =some (some q):=hle _ _ hbq
      have hneq:i≠i':=by omega
      rw [(e_ (ρ:=ρ) (N:=s.length) x0).2.2.1,(e_ (ρ:=ρ) (N:=s.length) x0').2.2.1] at hor
      rcases hor with ho1|ho1
      ·exact hh.apart i i' x0 x0' q p' hx0 hx0' ho1 hbi hp' hneq hqb
      exact hh.apart i' i x0' x0 p' q hx0' hx0 ho1 hp' hbi (Ne.symm hneq) hqb.symm
     omega
    exact hs.apart n o ob' ob q p hn hsx hown' hq hbp hno (by rw [hqb,hbb])
   obtain⟨q,hq,hR⟩:=hs.ob o ob hsx
   rw [hbp] at hq
   cases hq
   have:=hR.lt
   omega
  rcases Nat.lt_or_ge o s.length with hlt|hge
  ·rcases Nat.lt_or_ge o' s.length with hlt'|hge'
   ·obtain⟨ob,hsx,hown,hbp⟩:=oldp hx hlt hp
    obtain⟨ob',hsx',_,hbp'⟩:=oldp hx' hlt' hp'
    exact hs.apart o o' ob ob' p p' hsx hsx' (hown hxo) hbp hbp' hne
   exact cross hx hx' hlt hge' (.inl hxo) hp hp'
  rcases Nat.lt_or_ge o' s.length with hlt'|hge'
  ·exact (cross hx' hx hlt' hge (.inr hxo) hp' hp).symm
  rcases kind hx with⟨h1,_⟩|⟨h1,_⟩|⟨i,x0,hi,rfl,hx0,rfl⟩
  ·omega
  ·omega
  rcases kind hx' with⟨h1,_⟩|⟨h1,_⟩|⟨i',x0',hi',rfl,hx0',rfl⟩
  ·omega
  ·omega
  rw [hnew hi] at hp
  rw [hnew hi'] at hp'
  rw [(e_ (ρ:=ρ) (N:=s.length) x0).2.2.1] at hxo
  exact hh.apart i i' x0 x0' p p' hx0 hx0' hxo hp hp' (fun e=>hne (by rw [e]))
 ·exact Be.le_append _ _
 ·intro k hk hno
  refine hst.block k hk fun hown=>?_
  obtain⟨i,n,ob',q,hr1,hn,hown',hq,_,hqb,_⟩:=vk hm hown
  exact hno ⟨n,ob',q,hn,hown',hq,hqb⟩
 ·unfold cC
  rw [List.length_append,hlenU]
  omega
 ·intro o x hlt hx
  rcases kind hx with⟨_,hsx,_⟩|⟨_,i,x0,t,ob,h1,h2,h3,hsx,hown,hx0,hil,rfl⟩|⟨i,x0,hi,rfl,hx0,rfl⟩
  ·exact⟨x,hsx,id⟩
  ·exact⟨ob,hsx,fun _=>hown⟩
  omega
 intro o x p hge hx hp
 rcases kind hx with⟨h1,_⟩|⟨h1,_⟩|⟨i,x0,hi,rfl,hx0,rfl⟩
 ·omega
 ·omega
 rw [hnew hi] at hp
 exact hfresh hi hx0 hp
theorem x7 {P:Program} {f:FuncId} {args0 avs:List AV} {h0 h0' s:Hp} {res0:AV} (ρ:Rho) (hargs:ln ρ args0 avs) (hm:fS ρ s ρ h0) (hsep:co ρ h0=true) {β:Be} {w:World} {vs:List Value}
  (hcall:∀ vs,HSim (cI β ρ) h0 w->L2 (dG (cI β ρ)) args0 vs->Calls P f vs.toArray w fun e w'=>∃ β' v,e=.returned v/\dG β' res0 v/\HSim β' h0' w'/\StepR (cI β ρ) β' h0 h0' w w') (hs:HSim β s w) (hvs:L2 (dG β) avs vs):
  Calls P f vs.toArray w fun e w'=>∃ β' v,e=.returned v/\dG β' (gO ρ s.length res0) v/\HSim β' (cC ρ h0 h0' s) w'/\StepR β β' s (cC ρ h0 h0' s) w w':=
 (hcall vs (pA hs hm hsep) (x2 hargs hvs)).mono fun e w' h=>tj (P:=P) ρ hargs hm hsep hs hvs h
theorem l8 {P:Program} {f:FuncId} {args0 avs:List AV} {h0 h0' s:Hp} {res0:AV} (ct:dp P f args0 h0 res0 h0') (ρ:Rho) (hargs:ln ρ args0 avs) (hm:fS ρ s ρ h0) (hsep:co ρ h0=true):
  dp P f avs s (gO ρ s.length res0) (cC ρ h0 h0' s):=
 ⟨ct.1,fun β w vs hs hvs=>x7 ρ hargs hm hsep (fun vs h1 h2=>ct.2 _ w vs h1 h2) hs hvs⟩
theorem bc {P:Program} {E:Entry} {F:S->Prop} {f:FuncId} {avs:List AV} {d:Option Tmp} {k:List Item} {s:S} {c:Prop} {args0:List AV} {h0 h0':Hp} {res0:AV} (hc:c) (ct:dp P f args0 h0 res0 h0') (ρ:Rho)
  (hm:ln ρ args0 avs/\fS ρ s.hp ρ h0) (hsep:co ρ h0=true) (hk:dX P E F (.go k (s.put d (some (gO ρ s.hp.length res0)) (cC ρ h0 h0' s.hp)) True)):dX P E F (.call f avs d k s c):=
 ⟨hc,(l8 ct ρ hm.1 hm.2 hsep).e.r hk.2⟩
def dj {α:Type}:Nat->List α->List (List α)
 |0,_=>[]
 |n+1,l=>match l with
  |[]=>[]
  |l=>l.take 16::dj n (l.drop 16)
def j5:Nat->List AV->List (Option AV)
 |0,l=>l.map some
 |n+1,[]=>none::j5 n []
 |n+1,a::l=>some a::j5 n l
theorem jq:∀ (n:Nat) (args:List AV),j5 n args=args.map some++List.replicate (n - args.length) none
 |0,l=>by simp [j5]
 |n+1,[]=>by simp [j5,jq n [],List.replicate_succ]
 |n+1,a::l=>by simp [j5,jq n l]
def iF (n:Nat) (args:List AV):Slots:=dj (n / 16+1) (j5 n args)
theorem iV {α:Type} (d:Option α):∀ (m:Nat) (l:List (Option α)) (i:Nat),l.length<=16*m->((dj m l).getD (i / 16) []).getD (i % 16) none=l.getD i none/\(i % 16 < ((dj m l).getD (i / 16) []).length->i < l.length)
 |0,l,i,h=>by
  have:l=[]:=List.eq_nil_of_length_eq_zero (by omega)
  subst this
  simp [dj]
 |m+1,[],i,h=>by simp [dj]
 |m+1,a::l,i,h=>by
  simp only [dj]
  rcases Nat.lt_or_ge i 16 with hi|hi
  ·have h1:i / 16=0:=by omega
   have h2:i % 16=i:=by omega
   rw [h1,h2]
   simp only [List.getD_cons_zero]
   refine⟨?_,fun h3=>by simp at h3⊢;omega⟩
   rw [List.getD_eq_getElem?_getD,List.getElem?_take_of_lt hi,List.getD_eq_getElem?_getD]
  have h1:i / 16=(i - 16) / 16+1:=by omega
  have h2:i % 16=(i - 16) % 16:=by omega
  rw [h1,h2,List.getD_cons_succ]
  obtain⟨e1,e2⟩:=iV d m ((a::l).drop 16) (i - 16) (by simp at h⊢;omega)
  refine⟨?_,fun h3=>?_⟩
  ·rw [e1,List.getD_eq_getElem?_getD,List.getElem?_drop,List.getD_eq_getElem?_getD]
   congr 2
   omega
  have:=e2 h3
  simp at this⊢
  omega
theorem ox {α:Type}:∀ (m:Nat) (l:List (Option α)) (i:Nat),i % 16 < ((dj m l).getD (i / 16) []).length->i < l.length
 |0,l,i,h=>by simp [dj] at h
 |m+1,[],i,h=>by simp [dj] at h
 |m+1,a::l,i,h=>by
  simp only [dj] at h
  rcases Nat.lt_or_ge i 16 with hi|hi
  ·have h1:i / 16=0:=by omega
   have h2:i % 16=i:=by omega
   rw [h1,h2] at h
   simp only [List.getD_cons_zero] at h
   simp at h⊢
   omega
  have h1:i / 16=(i - 16) / 16+1:=by omega
  have h2:i % 16=(i - 16) % 16:=by omega
  rw [h1,h2,List.getD_cons_succ] at h
  have:=ox m ((a::l).drop 16) (i - 16) h
  simp at this⊢
  omega
theorem kJ {α:Type}:∀ (m:Nat) (l:List (Option α)) (i:Nat) (v:α),((dj m l).getD (i / 16) []).getD (i % 16) none=some v->l[i]? =some (some v)
 |0,l,i,v,h=>by simp [dj] at h
 |m+1,[],i,v,h=>by simp [dj] at h
 |m+1,a::l,i,v,h=>by
  simp only [dj] at h
  rcases Nat.lt_or_ge i 16 with hi|hi
  ·have h1:i / 16=0:=by omega
   have h2:i % 16=i:=by omega
   rw [h1,h2] at h
   simp only [List.getD_cons_zero] at h
   rw [List.getD_eq_getElem?_getD,List.getElem?_take_of_lt hi] at h
   cases hx:(a::l)[i]? with
   |none=>rw [hx] at h;cases h
   |some y=>rw [hx] at h;simp only [Option.getD_some] at h;rw [h]
  have h1:i / 16=(i - 16) / 16+1:=by omega
  have h2:i % 16=(i - 16) % 16:=by omega
  rw [h1,h2,List.getD_cons_succ] at h
  have:=kJ m ((a::l).drop 16) (i - 16) v h
  rw [List.getElem?_drop] at this
  rw [<-this]
  congr 1
  omega
theorem pE {β:Be} {n:Nat} {args:List AV} {vs:List Value} (h:L2 (dG β) args vs):SlotsR β (iF n args) (vs.toArray++Array.replicate (n - vs.toArray.size) undef):=by
 have hl:=h.length
 have hpl:(j5 n args).length=max args.length n:=by simp [jq];omega
 by_cases hn:args.length<=n
 ·have hb:(j5 n args).length<=16*(n / 16+1):=by rw [hpl];omega
  refine⟨fun i hi=>?_,fun i v hv=>?_⟩
  ·have:=(iV (α:=AV) none (n / 16+1) (j5 n args) i hb).2 hi
   rw [hpl] at this
   simp
   omega
  unfold Slots.get iF at hv
  rw [(iV (α:=AV) none (n / 16+1) (j5 n args) i hb).1,List.getD_eq_getElem?_getD] at hv
  rw [jq] at hv
  rcases Nat.lt_or_ge i args.length with hi|hi
  ·rw [List.getElem?_append_left (by simpa using hi),List.getElem?_map] at hv
   have hx:args[i]? =some args[i]:=List.getElem?_eq_getElem hi
   rw [hx] at hv
   simp only [Option.map_some,Option.getD_some,Option.some.injEq] at hv
   obtain⟨u,hu,hr⟩:=h.get hx
   refine⟨u,?_,by rw [<-hv];exact hr⟩
   rw [Array.getElem?_append_left (by simp;omega)]
   simpa using hu
  rw [List.getElem?_append_right (by simpa using hi)] at hv
  rw [List.getElem?_replicate] at hv
  split at hv<;>cases hv
 -- more arguments than slots: nothing is said but by the arguments themselves
 have hrep:n - args.length=0:=by omega
 have hpad:j5 n args=args.map some:=by simp [jq,hrep]
 refine⟨fun i hi=>?_,fun i v hv=>?_⟩
 ·unfold Slots.has iF at hi
  rw [hpad] at hi
  have:=ox (n / 16+1) (args.map some) i hi
  simp at this⊢
  omega
 unfold Slots.get iF at hv
 rw [hpad] at hv
 have hx:=kJ (n / 16+1) (args.map some) i v hv
 rw [List.getElem?_map] at hx
 simp only [Option.map_eq_some_iff] at hx
 obtain⟨y,hy,he⟩:=hx
 simp only [Option.some.injEq] at he
 subst he
 obtain⟨u,hu,hr⟩:=h.get hy
 refine⟨u,?_,hr⟩
 have hlt:=(List.getElem?_eq_some_iff.1 hu).1
 rw [Array.getElem?_append_left (by simpa using hlt)]
 simpa using hu
end
section
open Go.RowKit
def vm (P:Program) (s:S):ResultVar->Option AV
 | .tmp t=>s.sl.get t
 | .cell a t=>match s.sl.get a with
  |some (.sc (.pt o k j))=>match s.obj o with
   |some ob=>match ob.cs[k]? with
    |some c=>match bl P t with
     |true=>if j+bZ P t<=c.length then some (.ag ((c.drop j).take (bZ P t))) else none
     |false=>if cR P t then match c[j]? with
      |some x=>some (.sc x)
      |none=>none else none
    |none=>none
   |none=>none
  |_=>none
def oy (P:Program) (s:S):List ResultVar->Option (List AV)
 |[]=>some []
 |r::l=>match vm P s r,oy P s l with
  |some v,some m=>some (v::m)
  |_,_=>none
def kK:List AV->Option (List Co)
 |[]=>some []
 | .sc x::l=>match kK l with
  |some m=>some (.sc x::m)
  |none=>none
 | .ag x::l=>match kK l with
  |some m=>some (.ag x::m)
  |none=>none
 |_::_=>none
def jr (P:Program) (s:S) (rs:List ResultVar):Option AV:=
 match oy P s rs with
 |some [v]=>some v
 |some l=>match kK l with
  |some m=>some (.tu m)
  |none=>none
 |none=>none
section
variable {P:Program} {β:Be} {s:S} {w:World} {tm:Array Value}
def j6 (tm:Array Value):ResultVar->Sem Value
 | .tmp t=>pure (tm.getD t undef)
 | .cell a t=>do loadVar t (<-asAddr (tm.getD a undef))
theorem Ab (hs:HSim β s.hp w) (hsl:SlotsR β s.sl tm) {r:ResultVar} {v:AV} (h:vm P s r=some v):∃ u,(j6 tm r).run P w=.ok u w/\dG β v u:=by
 have slot:∀ {t:Nat} {x:AV},s.sl.get t=some x->dG β x (tm.getD t undef):=by
  intro t x hx
  obtain⟨u,hu,hr⟩:=hsl.2 t x hx
  have:tm.getD t undef=u:=by simp [Array.getD_eq_getD_getElem?,hu]
  rw [this];exact hr
 cases r with
 |tmp t=>exact⟨_,rfl,slot h⟩
 |cell a t=>
  simp only [vm] at h
  split at h
  ·rename_i o k j hx
   have hv:ScR β (.pt o k j) (tm.getD a undef):=slot hx
   have hrun:∀ {u:Value},(Instr.loadAt t (tm.getD a undef)).run P w=.ok u w->(j6 tm (.cell a t)).run P w=.ok u w:=by
    intro u hu
    obtain⟨p,_,hpe⟩:=hv
    rw [hpe] at hu
    show ((do loadVar t (<-asAddr (tm.getD a undef)):Sem Value)).run P w=.ok u w
    rw [hpe]
    simpa [Instr.loadAt,Instr.sureAddr,asAddr] using hu
   split at h
   ·rename_i ob hob
    split at h
    ·rename_i c hk
     split at h
     ·rename_i hag
      split at h
      ·rename_i hn
       simp only [Option.some.injEq] at h
       subst h
       obtain⟨vs,h1,h2⟩:=ji hs hob hk hag hn hv
       exact⟨_,hrun h1,vs,rfl,h2⟩
      cases h
     rename_i hag
     split at h
     ·rename_i hkn
      split at h
      ·rename_i y hy
       simp only [Option.some.injEq] at h
       subst h
       obtain⟨u,h1,h2⟩:=jj hs hob hk hag hkn hy hv
       exact⟨u,hrun h1,h2⟩
      cases h
     cases h
    cases h
   cases h
  cases h
theorem pF (hs:HSim β s.hp w) (hsl:SlotsR β s.sl tm):∀ {rs:List ResultVar} {l:List AV},oy P s rs=some l->∃ us,(rs.mapM (j6 tm)).run P w=.ok us w/\L2 (dG β) l us
 |[],l,h=>by
  simp only [oy,Option.some.injEq] at h
  subst h
  exact⟨[],rfl,trivial⟩
 |r::rs,l,h=>by
  simp only [oy] at h
  split at h
  ·rename_i v m hv hm
   simp only [Option.some.injEq] at h
   subst h
   obtain⟨u,h1,h2⟩:=Ab hs hsl hv
   obtain⟨us,h3,h4⟩:=pF hs hsl hm
   refine⟨u::us,?_,h2,h4⟩
   simp only [List.mapM_cons,Sem.run_bind,h1,Result.andThen_ok,h3,Sem.run_pure]
  cases h
theorem pG:∀ {l:List AV} {m:List Co} {us:List Value},kK l=some m->L2 (dG β) l us->L2 (sS β) m us
 |[],m,[],h,_=>by simp only [kK,Option.some.injEq] at h;subst h;trivial
 | .sc x::l,m,u::us,h,hu=>by
  simp only [kK] at h
  split at h
  ·rename_i m' hm
   simp only [Option.some.injEq] at h
   subst h
   exact⟨hu.1,pG hm hu.2⟩
  cases h
 | .ag x::l,m,u::us,h,hu=>by
  simp only [kK] at h
  split at h
  ·rename_i m' hm
   simp only [Option.some.injEq] at h
   subst h
   exact⟨hu.1,pG hm hu.2⟩
  cases h
 | .tu x::l,m,us,h,_=>by cases h
 | .cl f x::l,m,us,h,_=>by cases h
 |[],m,_::_,_,hu=>hu.elim
 | .sc _::_,m,[],_,hu=>hu.elim
 | .ag _::_,m,[],_,hu=>hu.elim
theorem l9 (fn:Func) (tm:Array Value):results fn tm=(do let vs <-fn.results.mapM (j6 tm);pure (if h:vs.size=1 then vs[0] else .tuple vs)):=by
 unfold results
 congr 1
theorem tp (hs:HSim β s.hp w) (hsl:SlotsR β s.sl tm) {fn:Func} {v:AV} (h:jr P s fn.results.toList=some v):∃ u,(results fn tm).run P w=.ok u w/\dG β v u:=by
 have harr:∀ {us:List Value},(fn.results.toList.mapM (j6 tm)).run P w=.ok us w->(fn.results.mapM (j6 tm)).run P w=.ok us.toArray w:=by
  intro us hus
  rw [Array.mapM_eq_mapM_toList]
  have e:∀ (m:Sem (List Value)),(List.toArray <$> m)=(do pure (List.toArray (<-m))):=fun m=>rfl
  rw [e,Sem.run_bind,hus]
  rfl
 unfold jr at h
 split at h
 ·rename_i x hx
  simp only [Option.some.injEq] at h
  subst h
  obtain⟨us,h1,h2⟩:=pF (P:=P) hs hsl hx
  match us,h2 with
  |[u],h2=>
   refine⟨u,?_,h2.1⟩
   rw [l9,Sem.run_bind,harr h1]
   rfl
  |[],h2=>exact h2.elim
  |_::_::_,h2=>exact h2.2.elim
 ·rename_i l hne hx
  split at h
  ·rename_i m hm
   simp only [Option.some.injEq] at h
   subst h
   obtain⟨us,h1,h2⟩:=pF (P:=P) hs hsl hx
   refine⟨.tuple us.toArray,?_,us,rfl,pG hm h2⟩
   rw [l9,Sem.run_bind,harr h1]
   have hl:=h2.length
   have h1':us.toArray.size≠1:=by
    intro he
    have:l.length=1:=by simpa [hl] using he
    match l,this with
    |[v],_=>exact hne v rfl
   simp only [Result.andThen_ok,dif_neg h1']
   rfl
  cases h
 cases h
end
def tq (P:Program) (rs:List ResultVar) (n0:Nat) (res:AV) (h':Hp) (s:S):Prop:=
 ∃ v ρ,jr P s rs=some v/\vg n0 0 ρ=true/\co ρ h'=true/\sP ρ res v/\fS ρ s.hp ρ h'
theorem aB {P:Program} {E:Entry} {rs:List ResultVar} {n0:Nat} {res:AV} {h':Hp} {s:S} {c:Prop} (ρ:Rho) (hc:c) (v:AV) (hr:jr P s rs=some v) (hid:vg n0 0 ρ=true) (hsep:co ρ h'=true) (hm:sP ρ res v/\fS ρ s.hp ρ h'):
  dX P E (tq P rs n0 res h') (.fin s c):=⟨hc,v,ρ,hr,hid,hsep,hm.1,hm.2⟩
theorem fc {P:Program} {f:FuncId} {fn:Func} {c:Code} (hf:P.funcs[f]? =some fn) (hname:(fn.name == "runtime.NumGoroutine")=false) (hb:fn.body=some c) {args:List AV} {h h':Hp} {res:AV}
  (H:∀ E:Entry,E.h.length=h.length->dX P E (tq P fn.results.toList h.length res h') (.go [.code c] ⟨iF fn.ntmps args,h⟩ True)):dp P f args h res h':=by
 refine⟨⟨fn,hf,hname,by rw [hb];rfl⟩,fun β w vs hs hvs=>?_⟩
 refine calls_of_wp hf hb ?_
 let E:Entry:=⟨β,h,w⟩
 have hd:=(H E rfl).2
 refine hd β _ w ⟨rfl,pE hvs,hs,hs.len,StepR.refl β h w hs.len⟩ _ fun e s' β' a' w' hK hs'=>?_
 have key:tq P fn.results.toList h.length res h' s'->a'.defers=[]/\∃ v,(results fn a'.tmps).run P w'=.ok v w'/\∃ β'' u,Ending.returned v=.returned u/\dG β'' res u/\HSim β'' h' w'/\StepR β β'' h h' w w':=by
  intro⟨v,ρ,hr,hid,hsep,hav,hhp⟩
  obtain⟨u,hrun,hu⟩:=tp hs'.hp hs'.sl hr
  have hw:gM ρ h.length ⟨[],h'⟩ ⟨[],s'.hp⟩:=⟨hid,hsep,trivial,hhp⟩
  have hsim:=q7 (E:=E) rfl hw (β:=β') (a:=a') (w:=w') ⟨hs'.dfr,⟨fun i hi=>by simp [Slots.has] at hi,fun i x hx=>by simp [Slots.get] at hx⟩,hs'.hp,hs'.ent,hs'.st⟩
  exact⟨hs'.dfr,u,hrun,cI β' ρ,u,rfl,qY hav hu,hsim.hp,hsim.st⟩
 cases e with
 |normal=>exact key hK
 |ret=>exact key hK
 |_=>exact hK.elim
end
section
theorem wg (ρ:Rho) (N o:Nat):j3 ρ N o=match ρ[o]? with
  |some x=>x
  |none=>some (N+(o - ρ.length),none):=by
 unfold j3
 by_cases h:o < ρ.length
 ·rw [if_pos h,List.getElem?_eq_getElem h]
  unfold Rho.at
  rw [List.getD_eq_getElem?_getD,List.getElem?_eq_getElem h]
  rfl
 rw [if_neg h,List.getElem?_eq_none (by omega)]
attribute [go_sem] run lX px kH cN aI fm qx ip cS e6 S.ev S.evs S.put S.obj S.new S.val S.valc S.parts S.scals Slots.get Slots.put Sc.ofV A6 AV.ofV AV.cells Co.av ol om over Bq oe qv DJ gJ eZ qw Sc.isFlat j5 iF dj gO jo jp x6 vh l5 dY e9 gP cU cC wg Rho.at S.kill S.sets S.at Int.toNat_natCast List.length_map jr oy vm kK vU bh sP ln A8 cM D2 DK DL fS DM ti tg beq_self_eq_true
attribute [go_sem] List.map_cons List.map_nil List.cons_append List.nil_append List.append_nil List.take_succ_cons List.take_zero List.take_nil List.drop_succ_cons List.drop_zero List.drop_nil List.getD_cons_zero List.getD_cons_succ List.getD_nil List.set_cons_zero List.set_cons_succ List.getElem?_cons_zero List.getElem?_cons_succ List.getElem?_nil List.length_cons List.length_nil List.getElem?_toArray List.toList_toArray Option.map_some Option.map_none Option.bind_some Bool.and_true Bool.true_and Bool.and_self and_true true_and and_self if_true if_false List.replicate_succ List.replicate_zero Nat.zero_add Nat.add_zero Bool.not_true Bool.not_false beq_true beq_false List.mem_cons
theorem tr {α:Type} (l m:List α):Array.append l.toArray m.toArray=(l++m).toArray:=by simp
attribute [go_sem] tr
theorem Cn:(0:Nat) / 16=0/\(0:Nat) % 16=0/\(1:Nat) / 16=0/\(1:Nat) % 16=1/\(2:Nat) / 16=0/\(2:Nat) % 16=2/\(3:Nat) / 16=0/\(3:Nat) % 16=3/\(4:Nat) / 16=0/\(4:Nat) % 16=4/\(5:Nat) / 16=0/\(5:Nat) % 16=5/\(6:Nat) / 16=0/\(6:Nat) % 16=6/\(7:Nat) / 16=0/\(7:Nat) % 16=7/\(8:Nat) / 16=0/\(8:Nat) % 16=8/\(9:Nat) / 16=0/\(9:Nat) % 16=9/\(10:Nat) / 16=0/\(10:Nat) % 16=10/\(11:Nat) / 16=0/\(11:Nat) % 16=11/\(12:Nat) / 16=0/\(12:Nat) % 16=12/\(13:Nat) / 16=0/\(13:Nat) % 16=13/\(14:Nat) / 16=0/\(14:Nat) % 16=14/\(15:Nat) / 16=0/\(15:Nat) % 16=15/\(16:Nat) / 16=1/\(16:Nat) % 16=0/\(17:Nat) / 16=1/\(17:Nat) % 16=1/\(18:Nat) / 16=1/\(18:Nat) % 16=2/\(19:Nat) / 16=1/\(19:Nat) % 16=3:=by and_intros<;>rfl
attribute [go_sem] Cn
theorem Bw:(20:Nat) / 16=1/\(20:Nat) % 16=4/\(21:Nat) / 16=1/\(21:Nat) % 16=5/\(22:Nat) / 16=1/\(22:Nat) % 16=6/\(23:Nat) / 16=1/\(23:Nat) % 16=7/\(24:Nat) / 16=1/\(24:Nat) % 16=8/\(25:Nat) / 16=1/\(25:Nat) % 16=9/\(26:Nat) / 16=1/\(26:Nat) % 16=10/\(27:Nat) / 16=1/\(27:Nat) % 16=11/\(28:Nat) / 16=1/\(28:Nat) % 16=12/\(29:Nat) / 16=1/\(29:Nat) % 16=13/\(30:Nat) / 16=1/\(30:Nat) % 16=14/\(31:Nat) / 16=1/\(31:Nat) % 16=15/\(32:Nat) / 16=2/\(32:Nat) % 16=0/\(33:Nat) / 16=2/\(33:Nat) % 16=1/\(34:Nat) / 16=2/\(34:Nat) % 16=2/\(35:Nat) / 16=2/\(35:Nat) % 16=3/\(36:Nat) / 16=2/\(36:Nat) % 16=4/\(37:Nat) / 16=2/\(37:Nat) % 16=5/\(38:Nat) / 16=2/\(38:Nat) % 16=6/\(39:Nat) / 16=2/\(39:Nat) % 16=7:=by and_intros<;>rfl
attribute [go_sem] Bw
theorem Bx:(40:Nat) / 16=2/\(40:Nat) % 16=8/\(41:Nat) / 16=2/\(41:Nat) % 16=9/\(42:Nat) / 16=2/\(42:Nat) % 16=10/\(43:Nat) / 16=2/\(43:Nat) % 16=11/\(44:Nat) / 16=2/\(44:Nat) % 16=12/\(45:Nat) / 16=2/\(45:Nat) % 16=13/\(46:Nat) / 16=2/\(46:Nat) % 16=14/\(47:Nat) / 16=2/\(47:Nat) % 16=15/\(48:Nat) / 16=3/\(48:Nat) % 16=0/\(49:Nat) / 16=3/\(49:Nat) % 16=1/\(50:Nat) / 16=3/\(50:Nat) % 16=2/\(51:Nat) / 16=3/\(51:Nat) % 16=3/\(52:Nat) / 16=3/\(52:Nat) % 16=4/\(53:Nat) / 16=3/\(53:Nat) % 16=5/\(54:Nat) / 16=3/\(54:Nat) % 16=6/\(55:Nat) / 16=3/\(55:Nat) % 16=7/\(56:Nat) / 16=3/\(56:Nat) % 16=8/\(57:Nat) / 16=3/\(57:Nat) % 16=9/\(58:Nat) / 16=3/\(58:Nat) % 16=10/\(59:Nat) / 16=3/\(59:Nat) % 16=11:=by and_intros<;>rfl
attribute [go_sem] Bx
theorem Ac:(60:Nat) / 16=3/\(60:Nat) % 16=12/\(61:Nat) / 16=3/\(61:Nat) % 16=13/\(62:Nat) / 16=3/\(62:Nat) % 16=14/\(63:Nat) / 16=3/\(63:Nat) % 16=15/\(64:Nat) / 16=4/\(64:Nat) % 16=0/\(65:Nat) / 16=4/\(65:Nat) % 16=1/\(66:Nat) / 16=4/\(66:Nat) % 16=2/\(67:Nat) / 16=4/\(67:Nat) % 16=3/\(68:Nat) / 16=4/\(68:Nat) % 16=4/\(69:Nat) / 16=4/\(69:Nat) % 16=5/\(70:Nat) / 16=4/\(70:Nat) % 16=6/\(71:Nat) / 16=4/\(71:Nat) % 16=7/\(72:Nat) / 16=4/\(72:Nat) % 16=8/\(73:Nat) / 16=4/\(73:Nat) % 16=9/\(74:Nat) / 16=4/\(74:Nat) % 16=10/\(75:Nat) / 16=4/\(75:Nat) % 16=11/\(76:Nat) / 16=4/\(76:Nat) % 16=12/\(77:Nat) / 16=4/\(77:Nat) % 16=13/\(78:Nat) / 16=4/\(78:Nat) % 16=14/\(79:Nat) / 16=4/\(79:Nat) % 16=15:=by and_intros<;>rfl
attribute [go_sem] Ac
theorem Ad:(80:Nat) / 16=5/\(80:Nat) % 16=0/\(81:Nat) / 16=5/\(81:Nat) % 16=1/\(82:Nat) / 16=5/\(82:Nat) % 16=2/\(83:Nat) / 16=5/\(83:Nat) % 16=3/\(84:Nat) / 16=5/\(84:Nat) % 16=4/\(85:Nat) / 16=5/\(85:Nat) % 16=5/\(86:Nat) / 16=5/\(86:Nat) % 16=6/\(87:Nat) / 16=5/\(87:Nat) % 16=7/\(88:Nat) / 16=5/\(88:Nat) % 16=8/\(89:Nat) / 16=5/\(89:Nat) % 16=9/\(90:Nat) / 16=5/\(90:Nat) % 16=10/\(91:Nat) / 16=5/\(91:Nat) % 16=11/\(92:Nat) / 16=5/\(92:Nat) % 16=12/\(93:Nat) / 16=5/\(93:Nat) % 16=13/\(94:Nat) / 16=5/\(94:Nat) % 16=14/\(95:Nat) / 16=5/\(95:Nat) % 16=15/\(96:Nat) / 16=6/\(96:Nat) % 16=0/\(97:Nat) / 16=6/\(97:Nat) % 16=1/\(98:Nat) / 16=6/\(98:Nat) % 16=2/\(99:Nat) / 16=6/\(99:Nat) % 16=3:=by and_intros<;>rfl
attribute [go_sem] Ad
theorem Ae:(100:Nat) / 16=6/\(100:Nat) % 16=4/\(101:Nat) / 16=6/\(101:Nat) % 16=5/\(102:Nat) / 16=6/\(102:Nat) % 16=6/\(103:Nat) / 16=6/\(103:Nat) % 16=7/\(104:Nat) / 16=6/\(104:Nat) % 16=8/\(105:Nat) / 16=6/\(105:Nat) % 16=9/\(106:Nat) / 16=6/\(106:Nat) % 16=10/\(107:Nat) / 16=6/\(107:Nat) % 16=11/\(108:Nat) / 16=6/\(108:Nat) % 16=12/\(109:Nat) / 16=6/\(109:Nat) % 16=13/\(110:Nat) / 16=6/\(110:Nat) % 16=14/\(111:Nat) / 16=6/\(111:Nat) % 16=15/\(112:Nat) / 16=7/\(112:Nat) % 16=0/\(113:Nat) / 16=7/\(113:Nat) % 16=1/\(114:Nat) / 16=7/\(114:Nat) % 16=2/\(115:Nat) / 16=7/\(115:Nat) % 16=3/\(116:Nat) / 16=7/\(116:Nat) % 16=4/\(117:Nat) / 16=7/\(117:Nat) % 16=5/\(118:Nat) / 16=7/\(118:Nat) % 16=6/\(119:Nat) / 16=7/\(119:Nat) % 16=7:=by and_intros<;>rfl
attribute [go_sem] Ae
theorem Af:(120:Nat) / 16=7/\(120:Nat) % 16=8/\(121:Nat) / 16=7/\(121:Nat) % 16=9/\(122:Nat) / 16=7/\(122:Nat) % 16=10/\(123:Nat) / 16=7/\(123:Nat) % 16=11/\(124:Nat) / 16=7/\(124:Nat) % 16=12/\(125:Nat) / 16=7/\(125:Nat) % 16=13/\(126:Nat) / 16=7/\(126:Nat) % 16=14/\(127:Nat) / 16=7/\(127:Nat) % 16=15/\(128:Nat) / 16=8/\(128:Nat) % 16=0/\(129:Nat) / 16=8/\(129:Nat) % 16=1/\(130:Nat) / 16=8/\(130:Nat) % 16=2/\(131:Nat) / 16=8/\(131:Nat) % 16=3/\(132:Nat) / 16=8/\(132:Nat) % 16=4/\(133:Nat) / 16=8/\(133:Nat) % 16=5/\(134:Nat) / 16=8/\(134:Nat) % 16=6/\(135:Nat) / 16=8/\(135:Nat) % 16=7/\(136:Nat) / 16=8/\(136:Nat) % 16=8/\(137:Nat) / 16=8/\(137:Nat) % 16=9/\(138:Nat) / 16=8/\(138:Nat) % 16=10/\(139:Nat) / 16=8/\(139:Nat) % 16=11:=by and_intros<;>rfl
attribute [go_sem] Af
theorem Ag:(140:Nat) / 16=8/\(140:Nat) % 16=12/\(141:Nat) / 16=8/\(141:Nat) % 16=13/\(142:Nat) / 16=8/\(142:Nat) % 16=14/\(143:Nat) / 16=8/\(143:Nat) % 16=15/\(144:Nat) / 16=9/\(144:Nat) % 16=0/\(145:Nat) / 16=9/\(145:Nat) % 16=1/\(146:Nat) / 16=9/\(146:Nat) % 16=2/\(147:Nat) / 16=9/\(147:Nat) % 16=3/\(148:Nat) / 16=9/\(148:Nat) % 16=4/\(149:Nat) / 16=9/\(149:Nat) % 16=5/\(150:Nat) / 16=9/\(150:Nat) % 16=6/\(151:Nat) / 16=9/\(151:Nat) % 16=7/\(152:Nat) / 16=9/\(152:Nat) % 16=8/\(153:Nat) / 16=9/\(153:Nat) % 16=9/\(154:Nat) / 16=9/\(154:Nat) % 16=10/\(155:Nat) / 16=9/\(155:Nat) % 16=11/\(156:Nat) / 16=9/\(156:Nat) % 16=12/\(157:Nat) / 16=9/\(157:Nat) % 16=13/\(158:Nat) / 16=9/\(158:Nat) % 16=14/\(159:Nat) / 16=9/\(159:Nat) % 16=15:=by and_intros<;>rfl
attribute [go_sem] Ag
theorem Ah:(160:Nat) / 16=10/\(160:Nat) % 16=0/\(161:Nat) / 16=10/\(161:Nat) % 16=1/\(162:Nat) / 16=10/\(162:Nat) % 16=2/\(163:Nat) / 16=10/\(163:Nat) % 16=3/\(164:Nat) / 16=10/\(164:Nat) % 16=4/\(165:Nat) / 16=10/\(165:Nat) % 16=5/\(166:Nat) / 16=10/\(166:Nat) % 16=6/\(167:Nat) / 16=10/\(167:Nat) % 16=7/\(168:Nat) / 16=10/\(168:Nat) % 16=8/\(169:Nat) / 16=10/\(169:Nat) % 16=9/\(170:Nat) / 16=10/\(170:Nat) % 16=10/\(171:Nat) / 16=10/\(171:Nat) % 16=11/\(172:Nat) / 16=10/\(172:Nat) % 16=12/\(173:Nat) / 16=10/\(173:Nat) % 16=13/\(174:Nat) / 16=10/\(174:Nat) % 16=14/\(175:Nat) / 16=10/\(175:Nat) % 16=15/\(176:Nat) / 16=11/\(176:Nat) % 16=0/\(177:Nat) / 16=11/\(177:Nat) % 16=1/\(178:Nat) / 16=11/\(178:Nat) % 16=2/\(179:Nat) / 16=11/\(179:Nat) % 16=3:=by and_intros<;>rfl
attribute [go_sem] Ah
theorem Ai:(180:Nat) / 16=11/\(180:Nat) % 16=4/\(181:Nat) / 16=11/\(181:Nat) % 16=5/\(182:Nat) / 16=11/\(182:Nat) % 16=6/\(183:Nat) / 16=11/\(183:Nat) % 16=7/\(184:Nat) / 16=11/\(184:Nat) % 16=8/\(185:Nat) / 16=11/\(185:Nat) % 16=9/\(186:Nat) / 16=11/\(186:Nat) % 16=10/\(187:Nat) / 16=11/\(187:Nat) % 16=11/\(188:Nat) / 16=11/\(188:Nat) % 16=12/\(189:Nat) / 16=11/\(189:Nat) % 16=13/\(190:Nat) / 16=11/\(190:Nat) % 16=14/\(191:Nat) / 16=11/\(191:Nat) % 16=15/\(192:Nat) / 16=12/\(192:Nat) % 16=0/\(193:Nat) / 16=12/\(193:Nat) % 16=1/\(194:Nat) / 16=12/\(194:Nat) % 16=2/\(195:Nat) / 16=12/\(195:Nat) % 16=3/\(196:Nat) / 16=12/\(196:Nat) % 16=4/\(197:Nat) / 16=12/\(197:Nat) % 16=5/\(198:Nat) / 16=12/\(198:Nat) % 16=6/\(199:Nat) / 16=12/\(199:Nat) % 16=7:=by and_intros<;>rfl
attribute [go_sem] Ai
end
section
open Go.RowKit
def l_ (op:Op):List Tmp:=op.operands.toList.filterMap fun| .tmp t=>some t|_=>none
def dh (r:Array Oper) (o:Oper):List Tmp:=
 l_ o.op++(match o.guard with
  |some (g,_)=>((r[g]?).bind (·.dst)).toList
  |none=>[])
def eO (P:Program) (op:Op):Nat:=
 match op with
 | .convert s d _=>match uV P s d with
  |some (.int _)|some .str=>0
  |some (.s2b _)=>2
  |some .b2s=>1
  |none=>4
 | .move _| .assign _| .pick .. | .build .. | .nilCheck _| .binOp .. | .unOp .. | .fieldAddr .. | .index .. | .extract .. =>0
 | .call ⟨.builtin .len,_,_⟩| .call ⟨.builtin .min,_,_⟩| .call ⟨.builtin .max,_,_⟩=>0
 | .load .. | .indexAddr .. | .slice .. =>1
 | .alloc _| .box .. | .buildSlice .. | .makeSlice .. =>2
 | .call ⟨.value _,_,_⟩=>3
 |_=>4
def iG (P:Program) (o:Oper):Nat:=eO P o.op
def q9 (a b:Option Tmp):Bool:=
 match a,b with
 |some x,some y=>x != y
 |_,_=>true
def kL (a:Option Tmp) (l:List Tmp):Bool:=
 match a with
 |some x=> !l.contains x
 |none=>true
def ma (P:Program) (r:Array Oper) (i j:Oper):Bool:=
 q9 i.dst j.dst && kL i.dst (dh r j) && kL j.dst (dh r i) && (iG P i == 0 && iG P j != 5 || iG P i == 1 && iG P j != 4)
theorem Slots.put_comm (s:Slots) (a b:Nat) (v u:Option AV) (h:a≠b):(s.put a v).put b u=(s.put b u).put a v:=by
 unfold Slots.put
 by_cases hc:a / 16=b / 16
 ·rw [hc]
  by_cases hl:b / 16 < s.length
  ·simp only [List.getD_eq_getElem?_getD,List.getElem?_set_self hl,Option.getD_some,List.set_set]
   congr 1
   exact List.set_comm _ _ (by omega)
  have h1:∀ x,s.set (b / 16) x=s:=fun x=>List.set_eq_of_length_le (by omega)
  simp only [h1]
 have h1:∀ x,(s.set (a / 16) x).getD (b / 16) []=s.getD (b / 16) []:=fun x=>by
  simp only [List.getD_eq_getElem?_getD,List.getElem?_set_ne hc]
 have h2:∀ x,(s.set (b / 16) x).getD (a / 16) []=s.getD (a / 16) []:=fun x=>by
  simp only [List.getD_eq_getElem?_getD,List.getElem?_set_ne (Ne.symm hc)]
 rw [h1,h2]
 exact List.set_comm _ _ hc
theorem ts (s:Slots) (d t:Nat) (v:Option AV) (h:d≠t):(s.put d v).get t=s.get t:=by
 rw [Slots.get_put,if_neg (Ne.symm h)]
def eu (l:List Tmp) (s s':S):Prop:=∀ t∈l,s.sl.get t=s'.sl.get t
theorem dC {l:List Tmp} {s:S} {d:Option Tmp} {v:Option AV} {h:Hp} (hd:kL d l=true):eu l s (s.put d v h):=by
 intro t ht
 cases d with
 |none=>rfl
 |some d=>
  have hne:d≠t:=fun e=>by
   subst e
   simp only [kL,Bool.not_eq_true',List.contains_eq_mem,decide_eq_false_iff_not] at hd
   exact hd ht
  exact (ts s.sl d t v hne).symm
theorem dK {s s':S} {x:Operand} (h:∀ t,x=.tmp t->s.sl.get t=s'.sl.get t):s.ev x=s'.ev x:=by
 cases x with
 |tmp t=>exact h t rfl
 |_=>rfl
theorem cD {op:Op} {t:Tmp} (h:(.tmp t:Operand)∈op.operands.toList):t∈l_ op:=by
 unfold l_
 rw [List.mem_filterMap]
 exact⟨.tmp t,h,rfl⟩
theorem fr {s s':S}:∀ {l:List (Nat×Operand)},(∀ p∈l,s.ev p.2=s'.ev p.2)->s.parts l=s'.parts l
 |[],_=>rfl
 |(i,x)::l,h=>by
  have h1:=h (i,x) (by simp)
  dsimp only at h1
  simp only [S.parts,h1,fr (l:=l) (fun p hp=>h p (by simp [hp]))]
theorem kM {s s':S}:∀ {l:List Operand},(∀ x∈l,s.ev x=s'.ev x)->s.scals l=s'.scals l
 |[],_=>rfl
 |x::l,h=>by
  have h1:=h x (by simp)
  simp only [S.scals,h1,kM (l:=l) (fun p hp=>h p (by simp [hp]))]
theorem fH {s s':S}:∀ {l:List Operand},(∀ x∈l,s.ev x=s'.ev x)->s.evs l=s'.evs l
 |[],_=>rfl
 |x::l,h=>by
  have h1:=h x (by simp)
  simp only [S.evs,h1,fH (l:=l) (fun p hp=>h p (by simp [hp]))]
theorem fX {s s':S} {x:Option Operand} (h:∀ y,x=some y->s.ev y=s'.ev y):e6 s x=e6 s' x:=by
 cases x with
 |none=>rfl
 |some y=>simp only [e6,h y rfl]
theorem dD {P:Program} {s s':S} {ty:TypeId} {op:Op} (hh:s.hp=s'.hp) (h:eu (l_ op) s s'):aI P s ty op=aI P s' ty op:=by
 have ev:∀ x,x∈op.operands.toList->s.ev x=s'.ev x:=fun x hx=>dK fun t ht=>h t (cD (by rw [<-ht];exact hx))
 have ob:∀ o,s.obj o=s'.obj o:=fun o=>by unfold S.obj;rw [hh]
 have vl:∀ v,s.val v=s'.val v:=fun v=>by unfold S.val;rw [hh]
 have vc:∀ v c,s.valc v c=s'.valc v c:=fun v c=>by unfold S.valc;rw [hh]
 have nw:∀ o v,s.new o v=s'.new o v:=fun o v=>by unfold S.new;rw [hh]
 have sl:∀ v a b,cS s v a b=cS s' v a b:=fun v a b=>by
  unfold cS
  simp only [vl,vc]
 have ap:∀ t a x,ip P s t a x=ip P s' t a x:=fun t a x=>by
  unfold ip
  simp only [vl,ob,hh]
 cases op with
 |move x=>simp only [aI,ev x (by simp [Op.operands]),vl]
 |assign x=>simp only [aI,ev x (by simp [Op.operands]),vl]
 |pick c x y=>simp only [aI,ev c (by simp [Op.operands]),ev x (by simp [Op.operands]),ev y (by simp [Op.operands]),vl]
 |alloc e=>simp only [aI,nw,hh]
 |box e x=>simp only [aI,ev x (by simp [Op.operands]),nw,hh]
 |build t ps=>
  have:=fr (s:=s) (s':=s') (l:=ps.toList) (fun p hp=>ev p.2 (by simp only [Op.operands,List.mem_map];exact⟨p,hp,rfl⟩))
  simp only [aI,this,vl]
 |buildSlice t n ps=>
  have:=fr (s:=s) (s':=s') (l:=ps.toList) (fun p hp=>ev p.2 (by simp only [Op.operands,List.mem_map];exact⟨p,hp,rfl⟩))
  simp only [aI,this,nw,hh]
 |load t x=>simp only [aI,ev x (by simp [Op.operands]),ob,vl]
 |store t x y=>simp only [aI,ev x (by simp [Op.operands]),ev y (by simp [Op.operands]),ob,hh]
 |nilCheck x=>simp only [aI,ev x (by simp [Op.operands]),vl]
 |binOp o t x y u=>simp only [aI,ev x (by simp [Op.operands]),ev y (by simp [Op.operands]),vc]
 |unOp o t x=>simp only [aI,ev x (by simp [Op.operands]),vl]
 |convert a b x=>simp only [aI,ev x (by simp [Op.operands]),vl,vc,ob,hh]
 |makeSlice t x y=>simp only [aI,ev x (by simp [Op.operands]),ev y (by simp [Op.operands]),hh]
 |slice t x lo hi mx=>
  cases mx with
  |none=>
   have h1:=fX (s:=s) (s':=s') (x:=lo) (fun y hy=>ev y (by subst hy;simp [Op.operands]))
   have h2:=fX (s:=s) (s':=s') (x:=hi) (fun y hy=>ev y (by subst hy;simp [Op.operands]))
   simp only [aI,ev x (by simp [Op.operands]),h1,h2,ob,sl]
  |some m=>rfl
 |fieldAddr t x f=>simp only [aI,ev x (by simp [Op.operands]),vl]
 |field t x f=>simp only [aI,ev x (by simp [Op.operands]),vl]
 |indexAddr t x i=>simp only [aI,ev x (by simp [Op.operands]),ev i (by simp [Op.operands]),ob,vc]
 |index t x i=>simp only [aI,ev x (by simp [Op.operands]),ev i (by simp [Op.operands]),vc]
 |extract x i=>simp only [aI,ev x (by simp [Op.operands]),vl]
 |makeFunc f first caps=>
  cases f with
  |func f=>
   have:=kM (s:=s) (s':=s') (l:=caps.toList) (fun x hx=>ev x (by simp [Op.operands];right;simpa using hx))
   simp only [aI,this,vl]
  |_=>rfl
 |call c=>
  obtain⟨callee,args,at_⟩:=c
  cases callee with
  |builtin b=>
   have hx:∀ x,x∈args.toList->s.ev x=s'.ev x:=fun x hx=>ev x (by simp [Op.operands,Call.operands];simpa using hx)
   cases b with
   |len=>
    simp only [aI]
    split
    ·rename_i x t ha ht
     simp only [hx x (by simp [ha]),vl]
    rfl
   |append=>
    simp only [aI]
    split
    ·rename_i x y t t' ha ht
     simp only [hx x (by simp [ha]),hx y (by simp [ha]),ap]
    rfl
   |min=>
    simp only [aI]
    split
    ·rename_i x y ha
     simp only [hx x (by simp [ha]),hx y (by simp [ha]),vl]
    rfl
   |max=>
    simp only [aI]
    split
    ·rename_i x y ha
     simp only [hx x (by simp [ha]),hx y (by simp [ha]),vl]
    rfl
   |_=>rfl
  |_=>rfl
 |_=>rfl
def Hp.ext (s h:Hp):Prop:=∀ (o:Nat) (ob:AObj),s[o]? =some (some ob)->h[o]? =some (some ob)
theorem js {s:S} {h:Hp} (hx:Hp.ext s.hp h) {o:Nat} {ob:AObj} (ho:s.obj o=some ob):S.obj ⟨s.sl,h⟩ o=some ob:=by
 have:=hx o ob (bu ho)
 unfold S.obj
 rw [List.getD_eq_getElem?_getD,this]
 rfl
theorem vn (s:S) (h:Hp) (x:Operand):S.ev ⟨s.sl,h⟩ x=s.ev x:=by cases x<;>rfl
theorem x8 (s:S) (h:Hp):∀ l,S.parts ⟨s.sl,h⟩ l=s.parts l:=fun l=>fr fun p _=>vn s h p.2
theorem eY (s:S) (h:Hp) (x:Option Operand):e6 ⟨s.sl,h⟩ x=e6 s x:=fX fun y _=>vn s h y
theorem gR {P:Program} {s:S} {ty:TypeId} {op:Op} {x:OpR} (hc:eO P op=0) (h:aI P s ty op=some x):x.hp=s.hp/\∀ h',aI P ⟨s.sl,h'⟩ ty op=some ⟨x.v,h',x.c⟩:=by
 have e:=vn s
 have ep:=x8 s
 cases op with
 |move y|assign y=>
  simp only [aI,e] at h
  split at h
  ·rename_i v hv
   simp only [Option.some.injEq] at h
   subst h
   exact⟨rfl,fun h'=>by simp only [aI,e,ep,hv];rfl⟩
  cases h
 |pick c y z=>
  simp only [aI,e] at h
  split at h
  ·rename_i hv
   split at h
   ·rename_i v hv2
    simp only [Option.some.injEq] at h
    subst h
    exact⟨rfl,fun h'=>by simp only [aI,e,ep,hv,hv2];rfl⟩
   cases h
  ·rename_i hv
   split at h
   ·rename_i v hv2
    simp only [Option.some.injEq] at h
    subst h
    exact⟨rfl,fun h'=>by simp only [aI,e,ep,hv,hv2];rfl⟩
   cases h
  cases h
 |build t ps=>
  simp only [aI,ep] at h
  split at h
  ·rename_i z hz
   split at h
   ·rename_i l hl
    split at h
    ·rename_i cs hcs
     simp only [Option.some.injEq] at h
     subst h
     exact⟨rfl,fun h'=>by simp only [aI,e,ep,hz,hl,hcs];rfl⟩
    cases h
   cases h
  cases h
 |nilCheck y=>
  simp only [aI,e] at h
  split at h
  ·rename_i hv
   simp only [Option.some.injEq] at h
   subst h
   exact⟨rfl,fun h'=>by simp only [aI,e,ep,hv];rfl⟩
  ·rename_i hv
   simp only [Option.some.injEq] at h
   subst h
   exact⟨rfl,fun h'=>by simp only [aI,e,ep,hv];rfl⟩
  cases h
 |binOp o t y z u=>
  simp only [aI,e] at h
  split at h
  ·rename_i hy hz
   split at h
   ·rename_i q d hb
    simp only [Option.some.injEq] at h
    subst h
    exact⟨rfl,fun h'=>by simp only [aI,e,ep,hy,hz,hb];rfl⟩
   cases h
  ·rename_i hy hz
   split at h
   ·simp only [Option.some.injEq] at h
    subst h
    exact⟨rfl,fun h'=>by simp only [aI,e,ep,hy,hz];rfl⟩
   ·simp only [Option.some.injEq] at h
    subst h
    exact⟨rfl,fun h'=>by simp only [aI,e,ep,hy,hz];rfl⟩
   cases h
  cases h
 |unOp o t y=>
  simp only [aI,e] at h
  split at h
  ·rename_i hy
   split at h
   ·simp only [Option.some.injEq] at h
    subst h
    exact⟨rfl,fun h'=>by simp only [aI,e,ep,hy];rfl⟩
   cases h
  ·rename_i hy
   split at h
   ·simp only [Option.some.injEq] at h
    subst h
    exact⟨rfl,fun h'=>by simp only [aI,e,ep,hy];rfl⟩
   cases h
  cases h
 |convert a b y=>
  simp only [aI,e] at h
  split at h
  ·rename_i ht hy
   simp only [Option.some.injEq] at h
   subst h
   exact⟨rfl,fun h'=>by simp only [aI,e,ht,hy];rfl⟩
  ·rename_i ht hy
   simp only [Option.some.injEq] at h
   subst h
   exact⟨rfl,fun h'=>by simp only [aI,e,ht,hy];rfl⟩
  ·rename_i ht hy
   simp only [eO,ht] at hc
   cases hc
  ·rename_i ht hy
   simp only [eO,ht] at hc
   cases hc
  ·rename_i ht hy
   simp only [eO,ht] at hc
   cases hc
  cases h
 |fieldAddr t y f=>
  simp only [aI,e] at h
  split at h
  ·rename_i hy hf
   simp only [Option.some.injEq] at h
   subst h
   exact⟨rfl,fun h'=>by simp only [aI,e,ep,hy,hf];rfl⟩
  cases h
 |index t y i=>
  simp only [aI,e] at h
  split at h
  ·rename_i hy hi
   split at h
   ·rename_i ht
    simp only [Option.some.injEq] at h
    subst h
    exact⟨rfl,fun h'=>by simp only [aI,e,ep,hy,hi,ht];rfl⟩
   cases h
  cases h
 |extract y i=>
  simp only [aI,e] at h
  split at h
  ·rename_i hy
   split at h
   ·rename_i hl
    simp only [Option.some.injEq] at h
    subst h
    exact⟨rfl,fun h'=>by simp only [aI,e,ep,hy,hl];rfl⟩
   cases h
  cases h
 |call c=>
  obtain⟨callee,args,at_⟩:=c
  cases callee with
  |builtin b=>
   cases b with
   |len=>
    simp only [aI,e] at h
    split at h
    ·rename_i y t ha ht
     split at h
     ·rename_i hy
      split at h
      ·rename_i hs
       simp only [Option.some.injEq] at h
       subst h
       exact⟨rfl,fun h'=>by simp only [aI,e,ep,ha,ht,hy,hs];rfl⟩
      cases h
     ·rename_i hy
      split at h
      ·rename_i hs
       simp only [Option.some.injEq] at h
       subst h
       exact⟨rfl,fun h'=>by simp only [aI,e,ep,ha,ht,hy,hs];rfl⟩
      cases h
     ·rename_i hy
      split at h
      ·rename_i hs
       simp only [Option.some.injEq] at h
       subst h
       exact⟨rfl,fun h'=>by simp only [aI,e,ep,ha,ht,hy,hs];rfl⟩
      cases h
     cases h
    cases h
   |min=>
    simp only [aI,e] at h
    split at h
    ·rename_i y z ha
     split at h
     ·rename_i hy hz
      simp only [Option.some.injEq] at h
      subst h
      exact⟨rfl,fun h'=>by simp only [aI,e,ep,ha,hy,hz];rfl⟩
     cases h
    cases h
   |max=>
    simp only [aI,e] at h
    split at h
    ·rename_i y z ha
     split at h
     ·rename_i hy hz
      simp only [Option.some.injEq] at h
      subst h
      exact⟨rfl,fun h'=>by simp only [aI,e,ep,ha,hy,hz];rfl⟩
     cases h
    cases h
   |_=>cases hc
  |_=>cases hc
 |_=>cases hc
theorem mb {P:Program} {s:S} {ty:TypeId} {op:Op} {x:OpR} (hc:eO P op=1) (h:aI P s ty op=some x):x.hp=s.hp/\∀ h',Hp.ext s.hp h'->aI P ⟨s.sl,h'⟩ ty op=some ⟨x.v,h',x.c⟩:=by
 have e:=vn s
 cases op with
 |load t y=>
  simp only [aI,e] at h
  split at h
  ·rename_i o k j hy
   split at h
   ·rename_i ob hob
    split at h
    ·rename_i c hk
     split at h
     ·rename_i n ht
      split at h
      ·rename_i hf
       simp only [Option.some.injEq] at h
       subst h
       exact⟨rfl,fun h' hx=>by simp only [aI,e,eY s,hy,js hx hob,hk,ht,hf];rfl⟩
      cases h
     ·rename_i ht
      split at h
      ·rename_i z hz
       simp only [Option.some.injEq] at h
       subst h
       exact⟨rfl,fun h' hx=>by simp only [aI,e,eY s,hy,js hx hob,hk,ht,hz];rfl⟩
      cases h
     cases h
    cases h
   cases h
  cases h
 |convert a b y=>
  simp only [aI,e] at h
  split at h
  ·rename_i ht hy
   simp only [eO,ht] at hc
   cases hc
  ·rename_i ht hy
   simp only [eO,ht] at hc
   cases hc
  ·rename_i ht hy
   simp only [eO,ht] at hc
   cases hc
  ·rename_i ht hy
   split at h
   ·rename_i ob hob
    split at h
    ·rename_i hz
     simp only [Option.some.injEq] at h
     subst h
     exact⟨rfl,fun h' hx=>by simp only [aI,e,ht,hy,js hx hob,hz,if_true];rfl⟩
    cases h
   cases h
  ·rename_i ht hy
   simp only [Option.some.injEq] at h
   subst h
   exact⟨rfl,fun h' hx=>by simp only [aI,e,ht,hy];rfl⟩
  cases h
 |indexAddr t y i=>
  simp only [aI,e] at h
  split at h
  ·rename_i hy hi ht
   split at h
   ·rename_i ob hob
    split at h
    ·rename_i hz
     simp only [Option.some.injEq] at h
     subst h
     exact⟨rfl,fun h' hx=>by simp only [aI,e,eY s,hy,hi,ht,js hx hob,hz,if_true];rfl⟩
    cases h
   cases h
  cases h
 |slice t y lo hi mx=>
  cases mx with
  |some m=>cases h
  |none=>
   have eo:=eY s
   simp only [aI,e,eo] at h
   have sl:∀ {v:AV} {a b:Option Int} {q:OpR},cS s v a b=some q->q.hp=s.hp/\∀ h',cS ⟨s.sl,h'⟩ v a b=some ⟨q.v,h',q.c⟩:=by
    intro v a b q hq
    unfold cS at hq
    split at hq<;>first
     |(simp only [Option.some.injEq] at hq;subst hq;exact⟨rfl,fun h'=>rfl⟩)
     |cases hq
   split at h
   ·rename_i v a b hy ha hb
    split at h
    ·rename_i l
     split at h
     ·rename_i ht
      obtain⟨h1,h2⟩:=sl h
      exact⟨h1,fun h' hx=>by simp only [aI,e,eY s,hy,ha,hb,ht];exact h2 h'⟩
     cases h
    ·rename_i o off len
     split at h
     ·rename_i q sz ob ht hob
      split at h
      ·rename_i hz
       obtain⟨h1,h2⟩:=sl h
       exact⟨h1,fun h' hx=>by simp only [aI,e,eY s,hy,ha,hb,ht,js hx hob,hz,if_true];exact h2 h'⟩
      cases h
     cases h
    cases h
   cases h
 |call c=>
  obtain⟨callee,args,at_⟩:=c
  cases callee with
  |builtin b=>cases b<;>cases hc
  |_=>cases hc
 |_=>cases hc
theorem q_ (h:Hp):Hp.ext h h:=fun _ _ h=>h
theorem d_ (h k:Hp):Hp.ext h (h++k):=fun o ob ho=>by
 rw [List.getElem?_append_left (List.getElem?_eq_some_iff.1 ho).1];exact ho
theorem vo {P:Program} {s:S} {ty:TypeId} {op:Op} {x:OpR} (h:aI P s ty op=some x) (hc:eO P op≠4):Hp.ext s.hp x.hp:=by
 by_cases h0:eO P op=0
 ·rw [(gR h0 h).1];exact q_ _
 by_cases h1:eO P op=1
 ·rw [(mb h1 h).1];exact q_ _
 cases op with
 |alloc e=>
  simp only [aI] at h
  split at h
  ·simp only [Option.some.injEq] at h;subst h;exact d_ _ _
  cases h
 |box e y=>
  simp only [aI] at h
  split at h
  ·split at h
   ·simp only [Option.some.injEq] at h;subst h;exact d_ _ _
   cases h
  cases h
 |buildSlice t n ps=>
  simp only [aI] at h
  split at h
  ·split at h
   ·split at h
    ·split at h
     ·split at h
      ·simp only [Option.some.injEq] at h;subst h;exact d_ _ _
      cases h
     cases h
    cases h
   cases h
  cases h
 |makeSlice t y z=>
  simp only [aI] at h
  split at h
  ·split at h
   ·split at h
    ·simp only [Option.some.injEq] at h;subst h;exact d_ _ _
    cases h
   cases h
  cases h
 |convert a b y=>
  simp only [aI] at h
  split at h
  ·rename_i ht hy
   simp only [eO,ht] at h0
   exact absurd trivial h0
  ·rename_i ht hy
   simp only [eO,ht] at h0
   exact absurd trivial h0
  ·simp only [Option.some.injEq] at h;subst h;exact d_ _ _
  ·rename_i ht hy
   simp only [eO,ht] at h1
   exact absurd trivial h1
  ·rename_i ht hy
   simp only [eO,ht] at h1
   exact absurd trivial h1
  cases h
 |call c=>
  obtain⟨callee,args,at_⟩:=c
  cases callee with
  |value f=>simp only [aI] at h;cases h
  |builtin b=>cases b<;>first|exact absurd rfl h0|exact absurd rfl hc
  |invoke a b=>exact absurd rfl hc
 |move _=>exact absurd rfl h0
 |assign _=>exact absurd rfl h0
 |pick _ _ _=>exact absurd rfl h0
 |build _ _=>exact absurd rfl h0
 |nilCheck _=>exact absurd rfl h0
 |binOp _ _ _ _ _=>exact absurd rfl h0
 |unOp _ _ _=>exact absurd rfl h0
 |fieldAddr _ _ _=>exact absurd rfl h0
 |index _ _ _=>exact absurd rfl h0
 |extract _ _=>exact absurd rfl h0
 |load _ _=>exact absurd rfl h1
 |indexAddr _ _ _=>exact absurd rfl h1
 |slice _ _ _ _ _=>exact absurd rfl h1
 |_=>exact absurd rfl hc
def D3 (P:Program) (o:Oper) (s s':S):Prop:=
 (∃ x,aI P s o.type o.op=some x/\x.c/\s'=s.put o.dst x.v x.hp)\/
 (∃ (y:Operand) (args:Array Operand) (at_:Array TypeId) (f:Nat) (caps:List Sc) (avs:List AV) (res:AV) (h':Hp),o.op=.call ⟨.value y,args,at_⟩/\s.ev y=some (.cl f caps)/\s.evs args.toList=some avs/\
  dp P f (avs++gJ caps) s.hp res h'/\Hp.ext s.hp h'/\s'=s.put o.dst (some res) h')
def bG (P:Program) (r:Array Oper) (i:Nat) (s s':S):Prop:=
 match r[i]? with
 |none=>s'=s
 |some o=>match cN r s o with
  |some true=>D3 P o s s'
  |some false=>s'=s.put o.dst (some (.tu [])) s.hp
  |none=>False
def pH (P:Program) (r:Array Oper):List Nat->S->S->Prop
 |[],s,s'=>s'=s
 |i::l,s,s''=>∃ s',bG P r i s s'/\pH P r l s' s''
theorem aV {r:Array Oper} {s s':S} {o:Oper} (h:eu (dh r o) s s'):cN r s o=cN r s' o:=by
 unfold cN
 split
 ·rfl
 rename_i j want hg
 split
 ·rename_i oj hj
  split
  ·rename_i d hd
   have:=h d (by unfold dh;rw [hg];simp [hj,hd])
   rw [this]
  rfl
 rfl
theorem cf {r:Array Oper} {s s':S} {o:Oper} (h:eu (dh r o) s s'):eu (l_ o.op) s s':=fun t ht=>h t (by unfold dh;exact List.mem_append_left _ ht)
theorem lC (s:S) {a b:Option Tmp} (v u:Option AV) (h h':Hp) (hne:q9 a b=true):(s.put a v h).put b u h'=(s.put b u h').put a v h':=by
 cases a with
 |none=>cases b<;>rfl
 |some a=>cases b with
  |none=>rfl
  |some b=>
   have:a≠b:=by simpa [q9] using hne
   simp only [S.put,Slots.put_comm s.sl a b v u this]
theorem eJ (s:S) (d:Option Tmp) (v:Option AV) (h:Hp):(s.put d v h).hp=h:=by cases d<;>rfl
theorem swap {P:Program} {r:Array Oper} {i j:Nat} {oi oj:Oper} (hi:r[i]? =some oi) (hj:r[j]? =some oj) (hind:ma P r oi oj=true) {s s1 s2:S} (h1:bG P r i s s1) (h2:bG P r j s1 s2):
  ∃ s1',bG P r j s s1'/\bG P r i s1' s2:=by
 simp only [ma,Bool.and_eq_true,Bool.or_eq_true,beq_iff_eq,bne_iff_ne] at hind
 obtain⟨⟨⟨hne,hij⟩,hji⟩,hcls⟩:=hind
 have hci:iG P oi=0\/iG P oi=1:=by rcases hcls with h|h;exact .inl h.1;exact .inr h.1
 unfold bG at h1 h2
 rw [hi] at h1
 rw [hj] at h2
 dsimp only at h1 h2
 -- what step i does: it puts a value, and leaves the heap
 have key:∃ v,s1=s.put oi.dst v s.hp/\∀ (t:S),eu (dh r oi) s t->(iG P oi=0\/Hp.ext s.hp t.hp)->bG P r i t (t.put oi.dst v t.hp):=by
  split at h1
  ·rename_i hg
   rcases h1 with⟨x,hx,hc,rfl⟩|⟨y,args,at_,f,caps,avs,res,h',ho,_⟩
   ·have hx2:x.hp=s.hp/\∀ t:S,eu (dh r oi) s t->(iG P oi=0\/Hp.ext s.hp t.hp)->aI P t oi.type oi.op=some ⟨x.v,t.hp,x.c⟩:=by
     have eqv:∀ t:S,eu (dh r oi) s t->aI P t oi.type oi.op=aI P ⟨s.sl,t.hp⟩ oi.type oi.op:=fun t ha=>(dD (s:=⟨s.sl,t.hp⟩) (s':=t) rfl (fun q hq=>cf ha q hq)).symm
     rcases hci with h0|h0
     ·obtain⟨e1,e2⟩:=gR h0 hx
      exact⟨e1,fun t ha _=>by rw [eqv t ha];exact e2 t.hp⟩
     obtain⟨e1,e2⟩:=mb h0 hx
     exact⟨e1,fun t ha he=>by rw [eqv t ha];exact e2 t.hp (he.resolve_left (by rw [h0];simp))⟩
    refine⟨x.v,by rw [hx2.1],fun t ha he=>?_⟩
    unfold bG
    rw [hi]
    dsimp only
    rw [<-aV ha,hg]
    exact .inl ⟨_,hx2.2 t ha he,hc,rfl⟩
   exfalso
   have:iG P oi=3:=by unfold iG;rw [ho];rfl
   omega
  ·rename_i hg
   refine⟨some (.tu []),h1,fun t ha _=>?_⟩
   unfold bG
   rw [hi]
   dsimp only
   rw [<-aV ha,hg]
  exact h1.elim
 obtain⟨v,rfl,hstep⟩:=key
 have hal:eu (dh r oj) s (s.put oi.dst v s.hp):=dC hij
 have hhp:(s.put oi.dst v s.hp).hp=s.hp:=eJ _ _ _ _
 rw [<-aV hal] at h2
 -- what step j does
 have fin:∀ (u:Option AV) (h':Hp),s2=(s.put oi.dst v s.hp).put oj.dst u h'->(iG P oi=0\/Hp.ext s.hp h')->bG P r j s (s.put oj.dst u h')->∃ s1',bG P r j s s1'/\bG P r i s1' s2:=by
  intro u h' he hx hj'
  refine⟨s.put oj.dst u h',hj',?_⟩
  have h3:=hstep (s.put oj.dst u h') (dC hji) (by rw [eJ];exact hx)
  rw [eJ] at h3
  rw [he,lC s v u s.hp h' hne]
  exact h3
 split at h2
 ·rename_i hg
  rcases h2 with⟨x,hx,hc,rfl⟩|⟨y,args,at_,f,caps,avs,res,h',ho,hy,ha,hcall,hext,rfl⟩
  ·have hx':aI P s oj.type oj.op=some x:=by rw [dD (s:=s) (s':=s.put oi.dst v s.hp) hhp.symm (cf hal)];exact hx
   refine fin x.v x.hp rfl ?_ ?_
   ·rcases hcls with h0|h0
    ·exact .inl h0.1
    right
    have h4:iG P oj≠4:=h0.2
    exact vo hx' h4
   unfold bG
   rw [hj]
   dsimp only
   rw [hg]
   exact .inl ⟨x,hx',hc,rfl⟩
  have hal':=cf hal
  rw [ho] at hal'
  have e1:s.ev y=some (.cl f caps):=by
   rw [dK (s:=s) (s':=s.put oi.dst v s.hp) (x:=y) (fun t ht=>hal' t (cD (by subst ht;simp [Op.operands,Call.operands])))]
   exact hy
  have e2:s.evs args.toList=some avs:=by
   rw [fH (s:=s) (s':=s.put oi.dst v s.hp) (l:=args.toList) (fun z hz=>dK fun t ht=>hal' t (cD (by subst ht;simp [Op.operands,Call.operands];right;simpa using hz)))]
   exact ha
  rw [hhp] at hcall hext
  refine fin (some res) h' rfl (.inr hext) ?_
  unfold bG
  rw [hj]
  dsimp only
  rw [hg]
  exact .inr ⟨y,args,at_,f,caps,avs,res,h',ho,e1,e2,hcall,hext,rfl⟩
 ·rename_i hg
  refine fin (some (.tu [])) s.hp (by rw [h2,hhp]) (.inr fun o ob h=>h) ?_
  unfold bG
  rw [hj]
  dsimp only
  rw [hg]
 exact h2.elim
def fC (P:Program) (r:Array Oper) (i j:Oper):Bool:=
 q9 i.dst j.dst && kL i.dst (dh r j) && kL j.dst (dh r i) && iG P j == 0
theorem Cp {P:Program} {r:Array Oper} {i j:Nat} {oi oj:Oper} (hi:r[i]? =some oi) (hj:r[j]? =some oj) (hind:fC P r oi oj=true) {s s1 s2:S} (h1:bG P r i s s1) (h2:bG P r j s1 s2):
  ∃ s1',bG P r j s s1'/\bG P r i s1' s2:=by
 simp only [fC,Bool.and_eq_true,beq_iff_eq] at hind
 obtain⟨⟨⟨hne,hij⟩,hji⟩,hcj⟩:=hind
 unfold bG at h1 h2
 rw [hi] at h1
 rw [hj] at h2
 dsimp only at h1 h2
 -- what step i does: it puts a value and a heap
 have key:∃ v hp,s1=s.put oi.dst v hp/\∀ (t:S),eu (dh r oi) s t->t.hp=s.hp->bG P r i t (t.put oi.dst v hp):=by
  split at h1
  ·rename_i hg
   rcases h1 with⟨x,hx,hc,rfl⟩|⟨y,args,at_,f,caps,avs,res,h',ho,hy,ha,hcall,hext,rfl⟩
   ·refine⟨x.v,x.hp,rfl,fun t ha he=>?_⟩
    unfold bG
    rw [hi]
    dsimp only
    rw [<-aV ha,hg]
    exact .inl ⟨x,by rw [<-dD he.symm (cf ha)];exact hx,hc,rfl⟩
   refine⟨some res,h',rfl,fun t hal he=>?_⟩
   unfold bG
   rw [hi]
   dsimp only
   rw [<-aV hal,hg]
   have hal':=cf hal
   rw [ho] at hal'
   have e1:t.ev y=some (.cl f caps):=by
    rw [<-dK (s:=s) (s':=t) (x:=y) (fun q hq=>hal' q (cD (by subst hq;simp [Op.operands,Call.operands])))]
    exact hy
   have e2:t.evs args.toList=some avs:=by
    rw [<-fH (s:=s) (s':=t) (l:=args.toList) (fun z hz=>dK fun q hq=>hal' q (cD (by subst hq;simp [Op.operands,Call.operands];right;simpa using hz)))]
    exact ha
   exact .inr ⟨y,args,at_,f,caps,avs,res,h',ho,e1,e2,by rw [he];exact hcall,by rw [he];exact hext,rfl⟩
  ·rename_i hg
   refine⟨some (.tu []),s.hp,h1,fun t ha he=>?_⟩
   unfold bG
   rw [hi]
   dsimp only
   rw [<-aV ha,hg]
   dsimp only
   rw [he]
  exact h1.elim
 obtain⟨v,hp,rfl,hstep⟩:=key
 have hal:eu (dh r oj) s (s.put oi.dst v hp):=dC hij
 rw [<-aV hal] at h2
 have fin:∀ (u:Option AV),s2=(s.put oi.dst v hp).put oj.dst u hp->bG P r j s (s.put oj.dst u s.hp)->∃ s1',bG P r j s s1'/\bG P r i s1' s2:=by
  intro u he hj'
  refine⟨s.put oj.dst u s.hp,hj',?_⟩
  have h3:=hstep (s.put oj.dst u s.hp) (dC hji) (eJ _ _ _ _)
  rw [he,lC s v u hp hp hne]
  have e:∀ (a b:S) (d:Option Tmp) (x:Option AV) (h:Hp),a.sl=b.sl->a.put d x h=b.put d x h:=by
   intro a b d x h hab
   cases d<;>simp [S.put,hab]
  rw [e (s.put oj.dst u hp) (s.put oj.dst u s.hp) oi.dst v hp (by cases oj.dst<;>rfl)]
  exact h3
 split at h2
 ·rename_i hg
  rcases h2 with⟨x,hx,hc,rfl⟩|⟨y,args,at_,f,caps,avs,res,h',ho,_⟩
  ·have hx1:aI P ⟨s.sl,hp⟩ oj.type oj.op=some x:=by
    rw [dD (s:=⟨s.sl,hp⟩) (s':=s.put oi.dst v hp) (by rw [eJ]) (fun q hq=>cf hal q hq)]
    exact hx
   obtain⟨e1,e2⟩:=gR hcj hx1
   have e3:=e2 s.hp
   refine fin x.v (by rw [e1]) ?_
   unfold bG
   rw [hj]
   dsimp only
   rw [hg]
   exact .inl ⟨_,e3,hc,rfl⟩
  exfalso
  have:iG P oj=3:=by unfold iG;rw [ho];rfl
  omega
 ·rename_i hg
  refine fin (some (.tu [])) (by rw [h2,eJ]) ?_
  unfold bG
  rw [hj]
  dsimp only
  rw [hg]
 exact h2.elim
end
end Go.Proofs.YtjghbknhneffjaaGreat
