/-
  Texts merged for this claim by shake.py: what its proof needs.
-/
import Derived.Tactics
import Derived.Below
import Derived.Laws.AppendOwn
import Derived.Laws.OwnMore
import Derived.Laws.Slices
import Derived.Laws.Small
import Derived.Laws.Strings
import Derived.KernelRfl
import Derived.Laws.MakeOwn
import Derived.Laws.BytesString
import Derived.Laws.BytesArg
import Derived.Laws.Build
import Derived.Laws.Concat
import Derived.Laws.StructEq
import Derived.Lib.ConvBytes
import Derived.Orders
import Derived.WalkKit
import Derived.ProofKit
import Derived.ShutString
import Derived.OpenShut
import Derived.ChangeOld
import Derived.Carry
import Derived.Test.YtbgakfbnkkfbkaaGreatChecked
import Derived.Laws.BitsLemmas
import Derived.JoinedOf
set_option maxHeartbeats 16000000
set_option maxRecDepth 100000
set_option linter.unusedVariables false
set_option linter.unusedSimpArgs false
namespace Go.Proofs.YtbgakfbnkkfbkaaGreat
section
open Go.RowKit
def L2 {α β:Type} (R:α→β→Prop):List α→List β→Prop
 |[],[]=>True
 |a::l,b::m=>R a b∧L2 R l m
 |_,_=>False
theorem L2.length {α β:Type} {R:α→β→Prop}:∀ {l:List α} {m:List β},L2 R l m→l.length=m.length
 |[],[],_=>rfl
 |_::_,_::_,h=>by simp [L2.length h.2]
 |[],_::_,h=>h.elim
 |_::_,[],h=>h.elim
theorem L2.get {α β:Type} {R:α→β→Prop}:∀ {l:List α} {m:List β},L2 R l m→∀ {i:Nat} {x:α},l[i]? =some x→∃ y,m[i]? =some y∧R x y
 |[],[],_,i,x,h=>by simp at h
 |a::l,b::m,h,0,x,hx=>by simp at hx;subst hx;exact⟨b,by simp,h.1⟩
 |a::l,b::m,h,i+1,x,hx=>by simp at hx;obtain⟨y,hy,hr⟩:=L2.get h.2 hx;exact⟨y,by simpa using hy,hr⟩
 |[],_::_,h,_,_,_=>h.elim
 |_::_,[],h,_,_,_=>h.elim
theorem L2.mono {α β:Type} {R S:α→β→Prop} (hrs:∀ a b,R a b→S a b):∀ {l:List α} {m:List β},L2 R l m→L2 S l m
 |[],[],_=>trivial
 |_::_,_::_,h=>⟨hrs _ _ h.1,L2.mono hrs h.2⟩
 |[],_::_,h=>h.elim
 |_::_,[],h=>h.elim
theorem L2.of_get {α β:Type} {R:α→β→Prop}:∀ {l:List α} {m:List β},l.length=m.length→(∀ (i:Nat) (x:α) (y:β),l[i]? =some x→m[i]? =some y→R x y)→L2 R l m
 |[],[],_,_=>trivial
 |a::l,b::m,hl,h=>⟨h 0 a b (by simp) (by simp),L2.of_get (by simpa using hl) (fun i x y hx hy=>h (i+1) x y (by simpa using hx) (by simpa using hy))⟩
 |[],_::_,hl,_=>by simp at hl
 |_::_,[],hl,_=>by simp at hl
theorem L2.append {α β:Type} {R:α→β→Prop}:∀ {l:List α} {m:List β} {l':List α} {m':List β},L2 R l m→L2 R l' m'→L2 R (l++l') (m++m')
 |[],[],_,_,_,h=>h
 |_::_,_::_,_,_,h,h'=>⟨h.1,L2.append h.2 h'⟩
 |[],_::_,_,_,h,_=>h.elim
 |_::_,[],_,_,h,_=>h.elim
theorem L2.take {α β:Type} {R:α→β→Prop}:∀ {l:List α} {m:List β} (n:Nat),L2 R l m→L2 R (l.take n) (m.take n)
 |_,_,0,_=>by simp [L2]
 |[],[],_+1,_=>by simp [L2]
 |_::_,_::_,n+1,h=>⟨h.1,L2.take n h.2⟩
 |[],_::_,_,h=>h.elim
 |_::_,[],_,h=>h.elim
theorem L2.drop {α β:Type} {R:α→β→Prop}:∀ {l:List α} {m:List β} (n:Nat),L2 R l m→L2 R (l.drop n) (m.drop n)
 |_,_,0,h=>by simpa using h
 |[],[],_+1,_=>by simp [L2]
 |_::_,_::_,n+1,h=>by simpa using L2.drop n h.2
 |[],_::_,_,h=>h.elim
 |_::_,[],_,h=>h.elim
theorem L2.map {α β γ:Type} {R:α→β→Prop} {S:γ→β→Prop} {f:α→γ} (hf:∀ a b,R a b→S (f a) b):∀ {l:List α} {m:List β},L2 R l m→L2 S (l.map f) m
 |[],[],_=>trivial
 |_::_,_::_,h=>⟨hf _ _ h.1,L2.map hf h.2⟩
 |[],_::_,h=>h.elim
 |_::_,[],h=>h.elim
inductive Sc where
 |int (k:IntKind) (n:Int)
 |bo (b:Bool)
 |st (l:List UInt8)
 |nil
 |sl (o off len:Nat)
 |pt (o k j:Nat)
 |un
inductive Co where
 |sc (s:Sc)
 |ag (cs:List Sc)
inductive AV where
 |sc (s:Sc)
 |ag (cs:List Sc)
 |tu (l:List Co)
 |cl (f:Nat) (caps:List Sc)
def Co.av:Co→AV
 | .sc s=>.sc s
 | .ag cs=>.ag cs
def AV.cells:AV→Option (List Sc)
 | .sc s=>some [s]
 | .ag cs=>some cs
 |_=>none
structure Pl where
 blk:Nat
 base:Nat
 esz:Nat
 avail:Nat
abbrev Be:=List (Option Pl)
def ScR (β:Be):Sc→Value→Prop
 | .int k n,v=>v=.int k n
 | .bo b,v=>v=.bool b
 | .st l,v=>v=.string ⟨l.toArray⟩
 | .nil,v=>∃ a,v=.slice a 0 0
 | .sl o off len,v=>∃ a cap,v=.slice a len cap∧len≤cap∧cap≤maxLen∧
   (cap=0∨∃ p,β[o]? =some (some p)∧a=some ⟨p.blk,p.base+off*p.esz,none⟩∧(off+cap)*p.esz≤p.avail)
 | .pt o k j,v=>∃ p,β[o]? =some (some p)∧v=.pointer (some ⟨p.blk,p.base+k*p.esz+j,none⟩)
 | .un,v=>∃ p,v=.pointer p
def yt (β:Be):Co→Value→Prop
 | .sc s,v=>ScR β s v
 | .ag cs,v=>∃ vs:List Value,v=.agg vs.toArray∧L2 (ScR β) cs vs
def gf (β:Be):AV→Value→Prop
 | .sc s,v=>ScR β s v
 | .ag cs,v=>∃ vs:List Value,v=.agg vs.toArray∧L2 (ScR β) cs vs
 | .tu l,v=>∃ vs:List Value,v=.tuple vs.toArray∧L2 (yt β) l vs
 | .cl f caps,v=>∃ vs:List Value,v=.func (.func f) #[] vs.toArray∧L2 (ScR β) caps vs
def Be.le (β β':Be):Prop:=∀ (o:Nat) (p:Option Pl),β[o]? =some p→β'[o]? =some p
theorem Be.le.refl (β:Be):Be.le β β:=fun _ _ h=>h
theorem Be.le.trans {a b c:Be} (h:Be.le a b) (k:Be.le b c):Be.le a c:=fun o p hp=>k o p (h o p hp)
theorem Be.le_append (β l:Be):Be.le β (β++l):=fun o p h=>by
 have hlt:o < β.length:=(List.getElem?_eq_some_iff.1 h).1
 rw [List.getElem?_append_left hlt];exact h
theorem ScR.mono {β β':Be} (h:Be.le β β'):∀ {s:Sc} {v:Value},ScR β s v→ScR β' s v
 | .int ..,_,hv=>hv
 | .bo ..,_,hv=>hv
 | .st ..,_,hv=>hv
 | .nil,_,hv=>hv
 | .un,_,hv=>hv
 | .sl ..,_,⟨a,cap,hv,h1,h2,h3⟩=>⟨a,cap,hv,h1,h2,h3.imp id fun⟨p,hp,r⟩=>⟨p,h _ _ hp,r⟩⟩
 | .pt ..,_,⟨p,hp,hv⟩=>⟨p,h _ _ hp,hv⟩
theorem yt.mono {β β':Be} (h:Be.le β β'):∀ {s:Co} {v:Value},yt β s v→yt β' s v
 | .sc _,_,hv=>ScR.mono h hv
 | .ag _,_,⟨vs,hv,hl⟩=>⟨vs,hv,hl.mono fun _ _=>ScR.mono h⟩
theorem gf.mono {β β':Be} (h:Be.le β β'):∀ {s:AV} {v:Value},gf β s v→gf β' s v
 | .sc _,_,hv=>ScR.mono h hv
 | .ag _,_,⟨vs,hv,hl⟩=>⟨vs,hv,hl.mono fun _ _=>ScR.mono h⟩
 | .tu _,_,⟨vs,hv,hl⟩=>⟨vs,hv,hl.mono fun _ _=>yt.mono h⟩
 | .cl ..,_,⟨vs,hv,hl⟩=>⟨vs,hv,hl.mono fun _ _=>ScR.mono h⟩
theorem Co.av_R {β:Be} {c:Co} {v:Value} (h:yt β c v):gf β c.av v:=by cases c<;>exact h
theorem ScR.one {β:Be} {s:Sc} {v:Value} (h:ScR β s v):v.oneCell'=true:=by
 cases s with
 |int k n=>subst h;rfl
 |bo b=>subst h;rfl
 |st l=>subst h;rfl
 |nil=>obtain⟨a,rfl⟩:=h;rfl
 |sl o off len=>obtain⟨a,cap,rfl,_⟩:=h;rfl
 |pt o k j=>obtain⟨p,_,rfl⟩:=h;rfl
 |un=>obtain⟨p,rfl⟩:=h;rfl
theorem ScR.cells {β:Be} {s:Sc} {v:Value} (h:ScR β s v):v.cells= #[v]:=by
 cases s with
 |int k n=>subst h;rfl
 |bo b=>subst h;rfl
 |st l=>subst h;rfl
 |nil=>obtain⟨a,rfl⟩:=h;rfl
 |sl o off len=>obtain⟨a,cap,rfl,_⟩:=h;rfl
 |pt o k j=>obtain⟨p,_,rfl⟩:=h;rfl
 |un=>obtain⟨p,rfl⟩:=h;rfl
theorem gf.cells {β:Be} {x:AV} {cs:List Sc} {v:Value} (hc:x.cells=some cs) (h:gf β x v):∃ vs:List Value,v.cells=vs.toArray∧L2 (ScR β) cs vs:=by
 cases x with
 |sc s=>
  simp only [AV.cells,Option.some.injEq] at hc
  subst hc
  exact⟨[v],by rw [ScR.cells h],⟨h,trivial⟩⟩
 |ag l=>
  simp only [AV.cells,Option.some.injEq] at hc
  subst hc
  obtain⟨vs,rfl,hl⟩:=h
  exact⟨vs,rfl,hl⟩
 |tu l=>simp [AV.cells] at hc
 |cl f l=>simp [AV.cells] at hc
theorem L2.one {β:Be} {cs:List Sc} {vs:List Value} (h:L2 (ScR β) cs vs):∀ v∈vs,v.oneCell'=true:=by
 induction cs generalizing vs with
 |nil=>cases vs with
  |nil=>simp
  |cons=>exact h.elim
 |cons s l ih=>cases vs with
  |nil=>simp
  |cons v m=>
   intro x hx
   rcases List.mem_cons.1 hx with rfl|hx
   ·exact h.1.one
   exact ih h.2 x hx
structure AObj where
 cs:List (List Sc)
 esz:Nat
 ty:TypeId
 own:Bool
 fl:Bool
def Sc.isFlat:Sc→Bool
 | .int .. | .bo _| .st _=>true
 |_=>false
def gV:List Sc→Bool
 |[]=>true
 |s::l=>s.isFlat && gV l
def FlatL (cs:List (List Sc)):Prop:=∀ c∈cs,gV c=true
abbrev Hp:=List (Option AObj)
def dl (β:Be) (arr:Array Value) (base esz:Nat) (cs:List (List Sc)):Prop:=
 ∀ k c,cs[k]? =some c→c.length=esz∧∀ j s,c[j]? =some s→∃ v,arr[base+k*esz+j]? =some v∧ScR β s v
def ObR (β:Be) (w:World) (p:Option Pl) (ob:AObj):Prop:=
 match p with
 |none=>ob.cs=[]
 |some p=>p.esz=ob.esz∧∃ arr T fz,w.heap[p.blk]? =some (.cells arr T fz)∧dl β arr p.base ob.esz ob.cs∧
   (ob.own=true→T=ob.ty∧fz=(0,0)∧p.base=0∧p.avail=arr.size)
structure HSim (β:Be) (h:Hp) (w:World):Prop where
 len:β.length=h.length
 ob:∀ (o:Nat) (ob:AObj),h[o]? =some (some ob)→∃ p,β[o]? =some p∧ObR β w p ob
 flat:∀ (o:Nat) (ob:AObj),h[o]? =some (some ob)→ob.fl=true→FlatL ob.cs
 apart:∀ (o o':Nat) (ob ob':AObj) (p p':Pl),h[o]? =some (some ob)→h[o']? =some (some ob')→ob.own=true→β[o]? =some (some p)→β[o']? =some (some p')→o≠o'→p.blk≠p'.blk
theorem dl.mono {β β':Be} (h:Be.le β β') {arr:Array Value} {base esz:Nat} {cs:List (List Sc)} (hc:dl β arr base esz cs):dl β' arr base esz cs:=
 fun k c hk=>⟨(hc k c hk).1,fun j s hs=>let⟨v,hv,hr⟩:=(hc k c hk).2 j s hs;⟨v,hv,hr.mono h⟩⟩
theorem ObR.mono {β β':Be} (h:Be.le β β') {w:World} {p:Option Pl} {ob:AObj} (ho:ObR β w p ob):ObR β' w p ob:=by
 cases p with
 |none=>exact ho
 |some p=>obtain⟨h1,arr,T,fz,h2,h3,h4⟩:=ho;exact⟨h1,arr,T,fz,h2,h3.mono h,h4⟩
theorem ObR.world {β:Be} {w w':World} {p:Option Pl} {ob:AObj} (ho:ObR β w p ob) (hw:∀ q,p=some q→w'.heap[q.blk]? =w.heap[q.blk]?):ObR β w' p ob:=by
 cases p with
 |none=>exact ho
 |some p=>obtain⟨h1,arr,T,fz,h2,h3,h4⟩:=ho;exact⟨h1,arr,T,fz,(hw p rfl).trans h2,h3,h4⟩
theorem ObR.lt {β:Be} {w:World} {p:Pl} {ob:AObj} (ho:ObR β w (some p) ob):p.blk < w.heap.size:=by
 obtain⟨_,arr,T,fz,h2,_⟩:=ho
 exact (Array.getElem?_eq_some_iff.1 h2).1
theorem yu {β:Be} {h:Hp} {w w':World} (hs:HSim β h w) (hw:∀ k,k < w.heap.size→w'.heap[k]? =w.heap[k]?):HSim β h w':=
 ⟨hs.len,fun o ob ho=>let⟨p,hp,hr⟩:=hs.ob o ob ho;⟨p,hp,hr.world fun q hq=>by subst hq;exact hw _ hr.lt⟩,hs.flat,hs.apart⟩
theorem lS {β:Be} {h:Hp} {w w':World} (hs:HSim β h w) (hw:∀ k,k < w.heap.size→w'.heap[k]? =w.heap[k]?) {ob:AObj} {p:Pl} (hp:w.heap.size≤p.blk)
  (hob:ObR (β++[some p]) w' (some p) ob) (hfl:ob.fl=true→FlatL ob.cs):HSim (β++[some p]) (h++[some ob]) w':=by
 have hs':=yu hs hw
 have hle:=Be.le_append β [some p]
 have key:∀ {o:Nat} {x:AObj},(h++[some ob])[o]? =some (some x)→(o < h.length∧h[o]? =some (some x))∨(o=h.length∧x=ob):=by
  intro o x hx
  rcases Nat.lt_trichotomy o h.length with hlt|he|hgt
  ·rw [List.getElem?_append_left hlt] at hx;exact .inl ⟨hlt,hx⟩
  ·subst he;simp at hx;exact .inr ⟨rfl,hx.symm⟩
  rw [List.getElem?_append_right (by omega)] at hx
  rw [List.getElem?_eq_none (by simp;omega)] at hx
  cases hx
 have kb:∀ {o:Nat} {q:Option Pl},o < h.length→(β++[some p])[o]? =some q→β[o]? =some q:=by
  intro o q ho hq
  rwa [List.getElem?_append_left (by rw [hs.len];exact ho)] at hq
 have kn:(β++[some p])[h.length]? =some (some p):=by rw [←hs.len];simp
 have lt:∀ {o:Nat} {x:AObj} {q:Pl},h[o]? =some (some x)→β[o]? =some (some q)→q.blk < w.heap.size:=by
  intro o x q hx hq
  obtain⟨p',hp',hr⟩:=hs.ob o x hx
  rw [hq] at hp'
  cases hp'
  exact hr.lt
 refine⟨by simp [hs.len],fun o x hx=>?_,fun o x hx hf=>by rcases key hx with⟨_,hx⟩|⟨_,rfl⟩;exact hs.flat o x hx hf;exact hfl hf,fun o o' x x' q q' hx hx' hown hq hq' hne=>?_⟩
 ·rcases key hx with⟨hlt,hx⟩|⟨rfl,rfl⟩
  ·obtain⟨q,hq,hr⟩:=hs'.ob o x hx
   exact⟨q,hle _ _ hq,hr.mono hle⟩
  exact⟨some p,kn,hob⟩
 rcases key hx with⟨hlt,h1⟩|⟨rfl,rfl⟩
 ·rcases key hx' with⟨hlt',h1'⟩|⟨rfl,rfl⟩
  ·exact hs.apart o o' x x' q q' h1 h1' hown (kb hlt hq) (kb hlt' hq') hne
  rw [kn] at hq'
  simp only [Option.some.injEq] at hq'
  subst hq'
  have:=lt h1 (kb hlt hq)
  omega
 rw [kn] at hq
 simp only [Option.some.injEq] at hq
 subst hq
 rcases key hx' with⟨hlt',h1'⟩|⟨rfl,rfl⟩
 ·have:=lt h1' (kb hlt' hq')
  omega
 exact absurd rfl hne
theorem tI {β:Be} {h:Hp} {w:World} (hs:HSim β h w) {ob:AObj} (hob:ob.cs=[]):HSim (β++[none]) (h++[some ob]) w:=by
 have hle:=Be.le_append β [none]
 have key:∀ {o:Nat} {x:AObj},(h++[some ob])[o]? =some (some x)→(o < h.length∧h[o]? =some (some x))∨(o=h.length∧x=ob):=by
  intro o x hx
  rcases Nat.lt_trichotomy o h.length with hlt|he|hgt
  ·rw [List.getElem?_append_left hlt] at hx;exact .inl ⟨hlt,hx⟩
  ·subst he;simp at hx;exact .inr ⟨rfl,hx.symm⟩
  rw [List.getElem?_append_right (by omega)] at hx
  rw [List.getElem?_eq_none (by simp;omega)] at hx
  cases hx
 have kb:∀ {o:Nat} {q:Option Pl},o < h.length→(β++[none])[o]? =some q→β[o]? =some q:=by
  intro o q ho hq
  rwa [List.getElem?_append_left (by rw [hs.len];exact ho)] at hq
 have kn:(β++[none])[h.length]? =some none:=by rw [←hs.len];simp
 refine⟨by simp [hs.len],fun o x hx=>?_,fun o x hx hf=>(by rcases key hx with⟨_,hx⟩|⟨_,rfl⟩;exact hs.flat o x hx hf;rw [hob];intro c hc;cases hc),fun o o' x x' q q' hx hx' hown hq hq' hne=>?_⟩
 ·rcases key hx with⟨hlt,hx⟩|⟨rfl,rfl⟩
  ·obtain⟨q,hq,hr⟩:=hs.ob o x hx
   exact⟨q,hle _ _ hq,hr.mono hle⟩
  exact⟨none,kn,hob⟩
 rcases key hx with⟨hlt,h1⟩|⟨rfl,rfl⟩
 ·rcases key hx' with⟨hlt',h1'⟩|⟨rfl,rfl⟩
  ·exact hs.apart o o' x x' q q' h1 h1' hown (kb hlt hq) (kb hlt' hq') hne
  rw [kn] at hq';cases hq'
 rw [kn] at hq;cases hq
theorem Ao {β:Be} {h:Hp} {w:World} (hs:HSim β h w) (n:Nat):HSim β (h.set n none) w:=by
 have key:∀ {o:Nat} {x:AObj},(h.set n none)[o]? =some (some x)→h[o]? =some (some x):=by
  intro o x hx
  rw [List.getElem?_set] at hx
  split at hx
  ·split at hx<;>cases hx
  exact hx
 exact⟨by simp [hs.len],fun o x hx=>hs.ob o x (key hx),fun o x hx=>hs.flat o x (key hx),fun o o' x x' q q' hx hx'=>hs.apart o o' x x' q q' (key hx) (key hx')⟩
end
section
open Go.RowKit
abbrev Slots:=List (List (Option AV))
def Slots.get (s:Slots) (i:Nat):Option AV:=(s.getD (i / 16) []).getD (i % 16) none
def Slots.put (s:Slots) (i:Nat) (v:Option AV):Slots:=s.set (i / 16) ((s.getD (i / 16) []).set (i % 16) v)
def Slots.has (s:Slots) (i:Nat):Prop:=i % 16 < (s.getD (i / 16) []).length
theorem Slots.put_has (s:Slots) (d i:Nat) (v:Option AV):(s.put d v).has i↔s.has i:=by
 unfold Slots.has Slots.put
 simp only [List.getD_eq_getElem?_getD,List.getElem?_set]
 by_cases he:d / 16=i / 16
 ·rw [if_pos he]
  by_cases hl:d / 16 < s.length
  ·simp [hl,←he]
  have:s[i / 16]? =none:=List.getElem?_eq_none (by omega)
  simp [hl,this]
 rw [if_neg he]
theorem Slots.get_put (s:Slots) (d i:Nat) (v:Option AV):(s.put d v).get i=if i=d then (if d % 16 < (s.getD (d / 16) []).length then v else none) else s.get i:=by
 unfold Slots.get Slots.put
 simp only [List.getD_eq_getElem?_getD,List.getElem?_set]
 by_cases he:d / 16=i / 16
 ·rw [if_pos he]
  by_cases hl:d / 16 < s.length
  ·simp only [hl,if_true,Option.getD_some,List.getElem?_set]
   by_cases hm:d % 16=i % 16
   ·have hid:i=d:=by omega
    subst hid
    simp only [if_true]
    split<;>simp
   have hid:¬ i=d:=by omega
   simp [hm,hid,he]
  have h1:s[i / 16]? =none:=List.getElem?_eq_none (by omega)
  have h2:s[d / 16]? =none:=List.getElem?_eq_none (by omega)
  simp [hl,h1,h2]
 have hid:¬ i=d:=by intro e;subst e;exact he rfl
 rw [if_neg he,if_neg hid]
def SlotsR (β:Be) (s:Slots) (t:Array Value):Prop:=
 (∀ i,s.has i→i < t.size)∧∀ i v,s.get i=some v→∃ u,t[i]? =some u∧gf β v u
theorem SlotsR.mono {β β':Be} (h:Be.le β β') {s:Slots} {t:Array Value} (hs:SlotsR β s t):SlotsR β' s t:=
 ⟨hs.1,fun i v hv=>let⟨u,hu,hr⟩:=hs.2 i v hv;⟨u,hu,hr.mono h⟩⟩
theorem SlotsR.put {β:Be} {s:Slots} {t:Array Value} (hs:SlotsR β s t) (d:Nat) {v:AV} {u:Value} (hv:gf β v u):SlotsR β (s.put d (some v)) (t.setIfInBounds d u):=by
 refine⟨fun i hi=>by rw [Slots.put_has] at hi;simpa using hs.1 i hi,fun i x hx=>?_⟩
 rw [Slots.get_put] at hx
 by_cases hid:i=d
 ·subst hid
  simp only [if_true] at hx
  split at hx
  ·rename_i hl
   cases hx
   have hlt:=hs.1 i hl
   exact⟨u,by simp [hlt],hv⟩
  cases hx
 rw [if_neg hid] at hx
 obtain⟨y,hy,hr⟩:=hs.2 i x hx
 exact⟨y,by rw [Array.getElem?_setIfInBounds_ne (Ne.symm hid)];exact hy,hr⟩
theorem SlotsR.putNone {β:Be} {s:Slots} {t:Array Value} (hs:SlotsR β s t) (d:Nat) (u:Value):SlotsR β (s.put d none) (t.setIfInBounds d u):=by
 refine⟨fun i hi=>by rw [Slots.put_has] at hi;simpa using hs.1 i hi,fun i x hx=>?_⟩
 rw [Slots.get_put] at hx
 by_cases hid:i=d
 ·subst hid
  simp only [if_true] at hx
  split at hx<;>cases hx
 rw [if_neg hid] at hx
 obtain⟨y,hy,hr⟩:=hs.2 i x hx
 exact⟨y,by rw [Array.getElem?_setIfInBounds_ne (Ne.symm hid)];exact hy,hr⟩
structure S where
 sl:Slots
 hp:Hp
def S.put (s:S) (d:Option Nat) (v:Option AV) (h:Hp):S:=
 match d with
 |some d=>⟨s.sl.put d v,h⟩
 |none=>⟨s.sl,h⟩
def Own (β:Be) (h:Hp) (k:Nat):Prop:=∃ (o:Nat) (ob:AObj) (p:Pl),h[o]? =some (some ob)∧ob.own=true∧β[o]? =some (some p)∧p.blk=k
structure StepR (β β':Be) (h h':Hp) (w w':World):Prop where
 le:Be.le β β'
 os:w'.os=w.os
 tape:w'.tape=w.tape
 output:w'.output=w.output
 size:w.heap.size≤w'.heap.size
 block:∀ k,k < w.heap.size→¬ Own β h k→w'.heap[k]? =w.heap[k]?
 len:h.length≤h'.length
 old:∀ (o:Nat) (ob':AObj),o < h.length→h'[o]? =some (some ob')→∃ ob,h[o]? =some (some ob)∧(ob'.own=true→ob.own=true)
 fresh:∀ (o:Nat) (ob:AObj) (p:Pl),h.length≤o→h'[o]? =some (some ob)→β'[o]? =some (some p)→Own β h p.blk∨w.heap.size≤p.blk
theorem StepR.own {β β':Be} {h h':Hp} {w w':World} (s:StepR β β' h h' w w') (hl:β.length=h.length) {k:Nat} (hk:Own β' h' k):Own β h k∨w.heap.size≤k:=by
 obtain⟨o,ob,p,ho,hown,hp,rfl⟩:=hk
 rcases Nat.lt_or_ge o h.length with hlt|hge
 ·obtain⟨ob0,ho0,h0⟩:=s.old o ob hlt ho
  have hb:∃ q,β[o]? =some q:=⟨β[o]'(by omega),List.getElem?_eq_getElem (by omega)⟩
  obtain⟨q,hq⟩:=hb
  have:=s.le _ _ hq
  rw [hp] at this
  cases this
  exact .inl ⟨o,ob0,p,ho0,h0 hown,hq,rfl⟩
 exact s.fresh o ob p hge ho hp
theorem StepR.refl (β:Be) (h:Hp) (w:World) (hl:β.length=h.length):StepR β β h h w w:=
 ⟨Be.le.refl _,rfl,rfl,rfl,Nat.le_refl _,fun _ _ _=>rfl,Nat.le_refl _,fun o ob _ h=>⟨ob,h,id⟩,fun o ob p ho h1 _=>by
  rw [List.getElem?_eq_none ho] at h1;cases h1⟩
theorem StepR.trans {a b c:Be} {h1 h2 h3:Hp} {w1 w2 w3:World} (la:a.length=h1.length) (lb:b.length=h2.length) (s:StepR a b h1 h2 w1 w2) (t:StepR b c h2 h3 w2 w3):StepR a c h1 h3 w1 w3:=by
 refine⟨s.le.trans t.le,t.os.trans s.os,t.tape.trans s.tape,t.output.trans s.output,Nat.le_trans s.size t.size,fun k hk hn=>?_,Nat.le_trans s.len t.len,fun o ob hlt ho=>?_,fun o ob p hge ho hp=>?_⟩
 ·rw [t.block k (by have:=s.size;omega) (fun hown=>by rcases s.own la hown with h|h;exact hn h;omega)]
  exact s.block k hk hn
 ·obtain⟨ob2,ho2,h2⟩:=t.old o ob (by have:=s.len;omega) ho
  obtain⟨ob1,ho1,h1⟩:=s.old o ob2 hlt ho2
  exact⟨ob1,ho1,fun h=>h1 (h2 h)⟩
 rcases Nat.lt_or_ge o h2.length with hlt|hge2
 ·obtain⟨ob2,ho2,h2'⟩:=t.old o ob hlt ho
  have hq:b[o]? =some (b[o]'(by omega)):=List.getElem?_eq_getElem (by omega)
  have h4:=t.le _ _ hq
  rw [hp] at h4
  simp only [Option.some.injEq] at h4
  rw [←h4] at hq
  exact s.fresh o ob2 p hge ho2 hq
 rcases t.fresh o ob p hge2 ho hp with h|h
 ·exact s.own la h
 exact .inr (Nat.le_trans s.size h)
def World.like (w w':World):Prop:=w'.os=w.os∧w'.tape=w.tape∧w'.output=w.output
theorem j6 {β:Be} {h:Hp} {w w':World} (hl:β.length=h.length) (hlike:World.like w w') (hsz:w.heap.size≤w'.heap.size) (hw:∀ k,k < w.heap.size→w'.heap[k]? =w.heap[k]?) (p:Pl) (ob:AObj) (hp:w.heap.size≤p.blk):
  StepR β (β++[some p]) h (h++[some ob]) w w':=
 ⟨Be.le_append _ _,hlike.1,hlike.2.1,hlike.2.2,hsz,fun k hk _=>hw k hk,by simp,fun o ob' hlt ho=>by
  rw [List.getElem?_append_left hlt] at ho;exact⟨ob',ho,id⟩,fun o ob' q hge ho hq=>by
  have he:o=h.length:=by
   rcases Nat.lt_trichotomy o h.length with h1|h1|h1
   ·omega
   ·exact h1
   rw [List.getElem?_append_right (by omega),List.getElem?_eq_none (by simp;omega)] at ho;cases ho
  subst he
  rw [←hl] at hq
  simp at hq
  subst hq
  exact .inr hp⟩
def cA (P:Program) (t:TypeId):Nat:=((P.info? t).map (·.size)).getD 0
def Ug (P:Program) (t:TypeId):Nat:=((P.info? t).map (·.bytes)).getD 0
def Sc.ofV:Value→Option Sc
 | .int k n=>some (.int k n)
 | .bool b=>some (.bo b)
 | .string s=>some (.st s.data.toList)
 | .slice none 0 0=>some .nil
 | .pointer none=>some .un
 |_=>none
def Nv:List Value→Option (List Sc)
 |[]=>some []
 |v::r=>match Sc.ofV v,Nv r with
  |some s,some l=>some (s::l)
  |_,_=>none
def zx (P:Program) (t:TypeId):Option (List Sc):=(P.info? t).bind fun i=>i.zero.bind fun v=>Nv v.cells.toList
def bw (P:Program) (t:TypeId):Bool:=
 match P.underlying t with
 |some (.struct _)|some (.array _ _)=>true
 |_=>false
def ew (P:Program) (t:TypeId):Bool:=(P.underlying t).isSome && (P.info? t).isSome
def ai (P:Program) (t:TypeId) (f:Nat):Option (Nat×Nat):=
 match P.underlying t with
 |some (.struct fs)=>match fs[f]? with
  |some x=>if cA P x.type=0 then none else some (x.offset,cA P x.type)
  |none=>none
 |_=>none
def ZK (P:Program) (t:TypeId) (f:Nat):Option Nat:=
 match P.underlying t with
 |some (.struct fs)=>match fs[f]? with
  |some x=>if ew P x.type && !bw P x.type then some x.offset else none
  |none=>none
 |_=>none
def wK (P:Program) (t:TypeId):Bool:=
 match P.underlying t with
 |some (.struct fs)=>fs.toList.all fun x=>cA P x.type != 0
 |_=>false
def NQ (P:Program) (t:TypeId):Option TypeId:=
 match P.underlying t with
 |some (.slice e)=>some e
 |_=>none
def Y9 (P:Program) (t:TypeId):Option IntKind:=
 match P.underlying t with
 |some (.int k)=>some k
 |_=>none
def yv (P:Program) (t:TypeId):Bool:=
 match P.underlying t with
 |some .string=>true
 |_=>false
def pA (P:Program) (t:TypeId):Bool:=
 match P.underlying t with
 |some .bool=>true
 |_=>false
def AV.ofV:Value→Option AV
 | .agg cs=>(Nv cs.toList).map .ag
 | .func (.func f) a b=>if a.size=0∧b.size=0 then some (.cl f []) else none
 |v=>(Sc.ofV v).map .sc
def S.ev (s:S):Operand→Option AV
 | .tmp t=>s.sl.get t
 | .const v=>AV.ofV v
 | .func f=>some (.cl f [])
 | .global _=>none
def S.obj (s:S) (o:Nat):Option AObj:=s.hp.getD o none
def tJ {α:Type}:List α→Nat→Bool
 |[],0=>true
 |_::l,n+1=>tJ l n
 |_,_=>false
theorem mm {α:Type}:∀ {l:List α} {n:Nat},tJ l n=true→l.length=n
 |[],0,_=>rfl
 |_::l,n+1,h=>by simp [mm (l:=l) (n:=n) h]
 |[],_+1,h=>by cases h
 |_::_,0,h=>by cases h
def wL {α:Type}:List α→Nat→Nat→Bool
 |_,0,0=>true
 |_::c,0,n+1=>wL c 0 n
 |_::c,j+1,n=>wL c j n
 |_,_,_=>false
theorem kM {α:Type}:∀ {c:List α} {j n:Nat},wL c j n=true→j+n≤c.length
 |c,0,0,_=>Nat.zero_le _
 |_::c,0,n+1,h=>by have:=kM (c:=c) (j:=0) (n:=n) h;simp;omega
 |_::c,j+1,n,h=>by have:=kM (c:=c) (j:=j) (n:=n) (by cases n<;>exact h);simp;omega
 |[],0,n+1,h=>by cases h
 |[],j+1,n,h=>by cases n<;>cases h
def over:List Sc→List Sc→List Sc
 |c,[]=>c
 |_::c,b::l=>b::over c l
 |[],_=>[]
def NR:List Sc→Nat→List Sc→List Sc
 |c,0,l=>over c l
 |a::c,j+1,l=>a::NR c j l
 |[],_,_=>[]
def Y_:Nat→Nat→Bool
 |0,_=>true
 |n+1,m+1=>Y_ n m
 |_+1,0=>false
theorem Bq:∀ {n m:Nat},Y_ n m=true→n≤m
 |0,_,_=>Nat.zero_le _
 |n+1,m+1,h=>by have:=Bq (n:=n) (m:=m) h;omega
 |_+1,0,h=>by cases h
def tz (P:Program) (e:TypeId):Option (List Sc):=
 match zx P e with
 |some z=>if z.length=cA P e∧0 < cA P e∧cA P e≤65536∧Ug P e≤131072∧ew P e=true then some z else none
 |none=>none
theorem j7 {P:Program} {e:TypeId} {z:List Sc} (h:tz P e=some z):zx P e=some z∧z.length=cA P e∧0 < cA P e∧cA P e≤65536∧Ug P e≤131072∧ew P e=true:=by
 unfold tz at h
 split at h
 ·rename_i z' hz
  split at h
  ·rename_i hc
   simp only [Option.some.injEq] at h
   subst h
   exact⟨hz,hc⟩
  cases h
 cases h
def aF (P:Program) (t:TypeId):Option (Option Nat):=
 if ew P t then (if bw P t then some (some (cA P t)) else some none) else none
def dy (P:Program) (t:TypeId):Option Nat:=if ew P t then some (cA P t) else none
def aY (P:Program) (t:TypeId):Option (List Sc):=if wK P t then tz P t else none
def n8 (P:Program) (t:TypeId):Option (TypeId×Nat):=
 match NQ P t with
 |some e=>if ew P e then some (e,cA P e) else none
 |none=>none
theorem gg {P:Program} {t e:TypeId} {n:Nat} (h:n8 P t=some (e,n)):NQ P t=some e∧ew P e=true∧n=cA P e:=by
 unfold n8 at h
 split at h
 ·rename_i e' he
  split at h
  ·rename_i hk
   simp only [Option.some.injEq,Prod.mk.injEq] at h
   obtain⟨rfl,rfl⟩:=h
   exact⟨he,hk,rfl⟩
  cases h
 cases h
inductive Cv where
 |int (k:IntKind)
 |str
 |s2b (e:TypeId)
 |b2s
def Bp (P:Program) (src dst:TypeId):Option Cv:=
 match P.underlying src,P.underlying dst with
 |some (.int _),some (.int k)=>some (.int k)
 |some .string,some .string=>some .str
 |some .string,some (.slice e)=>if Y9 P e=some .u8 then some (.s2b e) else none
 |some (.slice e),some .string=>if Y9 P e=some .u8 then some .b2s else none
 |_,_=>none
def wM:List (List Sc)→Bool
 |[]=>true
 |c::r=>gV c && wM r
theorem tK:∀ {cs:List (List Sc)},wM cs=true→FlatL cs
 |[],_=>fun c hc=>by cases hc
 |c::r,h=>by
  simp only [wM,Bool.and_eq_true] at h
  intro d hd
  rcases List.mem_cons.1 hd with rfl|hd
  ·exact h.1
  exact tK h.2 d hd
theorem jp:∀ {a b:List Sc},gV a=true→gV b=true→gV (a++b)=true
 |[],_,_,h=>h
 |s::a,b,h,k=>by
  simp only [gV,Bool.and_eq_true,List.cons_append] at h⊢
  exact⟨h.1,jp h.2 k⟩
theorem fy:∀ {a:List Sc},gV a=true↔∀ s∈a,s.isFlat=true
 |[]=>by simp [gV]
 |s::a=>by simp [gV,fy (a:=a)]
structure OpR where
 v:Option AV
 hp:Hp
 c:Prop
def i7 (c:List Sc) (j:Nat) (l:List Sc):List Sc:=c.take j++(l++c.drop (j+l.length))
def Br (P:Program) (t:TypeId) (a b:List Sc) (r:Bool):Prop:=
 ∀ (β:Be) (w:World) (x y:Operand) (vs us:List Value),L2 (ScR β) a vs→L2 (ScR β) b us→
  (do eqGuard .eql t x y (.agg vs.toArray) (.agg us.toArray);binOp .eql t (.agg vs.toArray) (.agg us.toArray)).run P w=.ok (.bool r) w∧
  (do eqGuard .neq t x y (.agg vs.toArray) (.agg us.toArray);binOp .neq t (.agg vs.toArray) (.agg us.toArray)).run P w=.ok (.bool (!r)) w
def Ap:Sc→Sc→Bool
 | .int _ a,.int _ b=>a == b
 | .bo a,.bo b=>a == b
 | .st a,.st b=>a == b
 |_,_=>false
def cq:List Sc→List Sc→Bool
 |[],[]=>true
 |a::l,b::m=>Ap a b && cq l m
 |_,_=>false
def lT (P:Program) (t:TypeId) (a b:List Sc):Prop:=Br P t a b (cq a b)
def Aq (op:BinOp) (k:IntKind) (a b:Int):Option (Sc×Prop):=
 match op with
 | .add=>some (.int k (k.wrap (a+b)),True)
 | .sub=>some (.int k (k.wrap (a - b)),True)
 | .mul=>some (.int k (k.wrap (a*b)),True)
 | .quo=>some (.int k (k.wrap (a.tdiv b)),b≠0)
 | .rem=>some (.int k (a.tmod b),b≠0)
 | .and=>some (.int k (k.wrap (BitVec.ofInt k.bits a &&& BitVec.ofInt k.bits b).toNat),True)
 | .or=>some (.int k (k.wrap (BitVec.ofInt k.bits a |||BitVec.ofInt k.bits b).toNat),True)
 | .xor=>some (.int k (k.wrap (BitVec.ofInt k.bits a ^^^ BitVec.ofInt k.bits b).toNat),True)
 | .eql=>some (.bo (a == b),True)
 | .neq=>some (.bo (a != b),True)
 | .lss=>some (.bo (decide (a < b)),True)
 | .leq=>some (.bo (decide (a≤b)),True)
 | .gtr=>some (.bo (decide (b < a)),True)
 | .geq=>some (.bo (decide (b≤a)),True)
 |_=>none
def iJ (P:Program) (t:TypeId) (op:BinOp):Sc→Sc→Option (Sc×Prop)
 | .int k a,.int k' b=>match op with
  | .shl=>some (.int k (k.wrap (a*2 ^ (min b.toNat k.bits))),0≤b)
  | .shr=>some (.int k (a.fdiv (2 ^ (min b.toNat k.bits))),0≤b)
  |op=>if k=k' then Aq op k a b else none
 | .st a,.st b=>match op with
  | .add=>some (.st (a++b),a.length+b.length≤4611686018427387904)
  | .eql=>some (.bo (a == b),True)
  | .neq=>some (.bo (!(a == b)),True)
  |_=>none
 | .bo a,.bo b=>match op with
  | .eql=>match pA P t with
   |true=>some (.bo (a == b),True)
   |false=>none
  | .neq=>match pA P t with
   |true=>some (.bo (!(a == b)),True)
   |false=>none
  |_=>none
 |_,_=>none
def tL (pl:Nat→Option (Nat×Nat)) (cells:List Sc):List (Nat×List Sc)→Option (List Sc)
 |[]=>some cells
 |(i,v)::rest=>match pl i with
  |none=>none
  |some (off,size)=>match tJ v size && wL cells off size with
   |true=>tL pl (NR cells off v) rest
   |false=>none
def tM (esz:Nat) (cs:List (List Sc)):List (Nat×List Sc)→Option (List (List Sc))
 |[]=>some cs
 |(i,v)::rest=>match tJ v esz && wL cs i 1 with
  |true=>tM esz (cs.set i v) rest
  |false=>none
def S.parts (s:S):List (Nat×Operand)→Option (List (Nat×List Sc))
 |[]=>some []
 |(i,x)::rest=>match s.ev x with
  |some v=>match v.cells with
   |some cs=>match s.parts rest with
    |some l=>some ((i,cs)::l)
    |none=>none
   |none=>none
  |none=>none
def S.scals (s:S):List Operand→Option (List Sc)
 |[]=>some []
 |x::rest=>match s.ev x with
  |some (.sc c)=>match s.scals rest with
   |some l=>some (c::l)
   |none=>none
  |_=>none
def nu:List Sc→UInt8
 |[.int .u8 n]=>UInt8.ofNat n.toNat
 |_=>0
def yw (b:UInt8):List Sc:=[.int .u8 b.toNat]
def j8:List Sc→Bool
 |[.int .u8 _]=>true
 |_=>false
def io (s:S):Option Operand→Option (Option Int)
 |none=>some none
 |some x=>match s.ev x with
  |some (.sc (.int _ n))=>some (some n)
  |_=>none
def S.new (s:S) (ob:AObj) (v:AV):OpR:=⟨some v,s.hp++[some ob],True⟩
def S.val (s:S) (v:AV):OpR:=⟨some v,s.hp,True⟩
def S.valc (s:S) (v:AV) (c:Prop):OpR:=⟨some v,s.hp,c⟩
def ey (s:S):AV→Option Int→Option Int→Option OpR
 | .sc (.st l),none,none=>some (s.val (.sc (.st l)))
 | .sc (.st l),some a,none=>some (s.valc (.sc (.st (l.drop a.toNat))) (0≤a∧a≤l.length))
 | .sc (.st l),none,some b=>some (s.valc (.sc (.st (l.take b.toNat))) (0≤b∧b≤l.length))
 | .sc (.st l),some a,some b=>some (s.valc (.sc (.st ((l.take b.toNat).drop a.toNat))) (0≤a∧a≤b∧b≤l.length))
 | .sc (.sl o off len),none,none=>some (s.val (.sc (.sl o off len)))
 | .sc (.sl o off len),some a,none=>some (s.valc (.sc (.sl o (off+a.toNat) (len - a.toNat))) (0≤a∧a≤len))
 | .sc (.sl o off len),none,some b=>some (s.valc (.sc (.sl o off b.toNat)) (0≤b∧b≤len))
 | .sc (.sl o off len),some a,some b=>some (s.valc (.sc (.sl o (off+a.toNat) (b.toNat - a.toNat))) (0≤a∧a≤b∧b≤len))
 |_,_,_=>none
def kN (P:Program) (s:S) (t:TypeId) (a x:AV):Option OpR:=
 match n8 P t with
 |none=>none
 |some (e,sz)=>match tz P e with
  |none=>none
  |some _=>match a,x with
   | .sc (.sl o off len),.sc .nil=>some (s.val (.sc (.sl o off len)))
   | .sc .nil,.sc .nil=>some (s.val (.sc .nil))
   | .sc .nil,.sc (.sl o off len)=>match s.obj o with
    |some ob=>if ob.esz=sz then some ⟨some (.sc (.sl s.hp.length 0 len)),s.hp++[some ⟨(ob.cs.drop off).take len,sz,e,true,ob.fl⟩],off+len≤ob.cs.length∧len≤1073741824⟩ else none
    |none=>none
   | .sc (.sl o' off' len'),.sc (.sl o off len)=>match s.obj o',s.obj o with
    |some ob',some ob=>if ob.esz=sz∧ob'.esz=sz∧ob'.own=true∧ob'.ty=e∧off'=0∧o'≠o then
      some ⟨some (.sc (.sl s.hp.length 0 (len'+len))),s.hp.set o' none++[some ⟨ob'.cs++(ob.cs.drop off).take len,sz,e,true,ob'.fl && ob.fl⟩],ob'.cs.length=len'∧off+len≤ob.cs.length∧len'+len≤1073741824⟩ else none
    |_,_=>none
   |_,_=>none
def bE (P:Program) (s:S) (ty:TypeId):Op→Option OpR
 | .move x| .assign x=>match s.ev x with
  |some v=>some (s.val v)
  |none=>none
 | .pick c a b=>match s.ev c with
  |some (.sc (.bo true))=>match s.ev a with
   |some v=>some (s.val v)
   |none=>none
  |some (.sc (.bo false))=>match s.ev b with
   |some v=>some (s.val v)
   |none=>none
  |_=>none
 | .alloc e=>match tz P e with
  |some z=>some (s.new ⟨[z],z.length,e,true,false⟩ (.sc (.pt s.hp.length 0 0)))
  |none=>none
 | .box e x=>match s.ev x with
  |some v=>match v.cells with
   |some cs=>some (s.new ⟨[cs],cs.length,e,true,false⟩ (.sc (.pt s.hp.length 0 0)))
   |none=>none
  |none=>none
 | .build t parts=>match aY P t with
  |some z=>match s.parts parts.toList with
   |some l=>match tL (ai P t) z l with
    |some cs=>some (s.val (.ag cs))
    |none=>none
   |none=>none
  |none=>none
 | .buildSlice t len parts=>match n8 P t with
  |some (e,sz)=>match tz P e with
   |some z=>match s.parts parts.toList with
    |some l=>match Y_ len 256 with
     |true=>match tM sz (List.replicate len z) l with
      |some cs=>some (s.new ⟨cs,sz,e,true,wM cs⟩ (.sc (.sl s.hp.length 0 len)))
      |none=>none
     |false=>none
    |none=>none
   |none=>none
  |none=>none
 | .load t a=>match s.ev a with
  |some (.sc (.pt o k j))=>match s.obj o with
   |some ob=>match ob.cs[k]? with
    |some c=>match aF P t with
     |some (some n)=>match wL c j n with
      |true=>some (s.val (.ag ((c.drop j).take n)))
      |false=>none
     |some none=>match c[j]? with
      |some x=>some (s.val (.sc x))
      |none=>none
     |none=>none
    |none=>none
   |none=>none
  |_=>none
 | .store t a x=>match s.ev a with
  |some (.sc (.pt o k j))=>match s.obj o with
   |some ob=>match ob.cs[k]? with
    |some c=>match s.ev x with
     |some v=>match v.cells with
      |some vs=>match dy P t with
       |some n=>match tJ vs n && wL c j n && ob.own with
        |true=>some ⟨none,s.hp.set o (some { ob with cs:=ob.cs.set k (NR c j vs),fl:=ob.fl && gV vs }),True⟩
        |false=>none
       |none=>none
      |none=>none
     |none=>none
    |none=>none
   |none=>none
  |_=>none
 | .nilCheck x=>match s.ev x with
  |some (.sc (.pt o k j))=>some (s.val (.sc (.pt o k j)))
  |some (.cl f caps)=>some (s.val (.cl f caps))
  |_=>none
 | .binOp op t x y _=>match s.ev x,s.ev y with
  |some (.sc a),some (.sc b)=>match iJ P t op a b with
   |some (r,c)=>some (s.valc (.sc r) c)
   |none=>none
  |some (.ag a),some (.ag b)=>match op with
   | .eql=>some (s.valc (.sc (.bo (cq a b))) (lT P t a b))
   | .neq=>some (s.valc (.sc (.bo (!cq a b))) (lT P t a b))
   |_=>none
  |_,_=>none
 | .unOp op _ x=>match s.ev x with
  |some (.sc (.bo b))=>match op with
   | .not=>some (s.val (.sc (.bo (!b))))
   |_=>none
  |some (.sc (.int k n))=>match op with
   | .neg=>some (s.val (.sc (.int k (k.wrap (0 - n)))))
   |_=>none
  |_=>none
 | .convert src dst x=>match Bp P src dst,s.ev x with
  |some (.int k'),some (.sc (.int k n))=>some (s.val (.sc (.int k' (k'.wrap n))))
  |some .str,some (.sc (.st l))=>some (s.val (.sc (.st l)))
  |some (.s2b e),some (.sc (.st l))=>some (⟨some (.sc (.sl s.hp.length 0 l.length)),s.hp++[some ⟨l.map yw,1,e,false,true⟩],l.length≤1073741824⟩)
  |some .b2s,some (.sc (.sl o off len))=>match s.obj o with
   |some ob=>if ob.esz=1 then some (s.valc (.sc (.st (((ob.cs.drop off).take len).map nu))) (off+len≤ob.cs.length∧∀ c∈ob.cs,j8 c=true)) else none
   |none=>none
  |some .b2s,some (.sc .nil)=>some (s.val (.sc (.st [])))
  |_,_=>none
 | .makeSlice t l c=>match n8 P t with
  |some (e,sz)=>match tz P e with
   |some z=>match s.ev l,s.ev c with
    |some (.sc (.int _ l)),some (.sc (.int _ c))=>some ⟨some (.sc (.sl s.hp.length 0 l.toNat)),s.hp++[some ⟨List.replicate l.toNat z,sz,e,true,gV z⟩],0≤l∧l≤c∧c≤1073741824⟩
    |_,_=>none
   |none=>none
  |none=>none
 | .slice t x lo hi none=>match s.ev x,io s lo,io s hi with
  |some v,some lo,some hi=>match v with
   | .sc (.st _)=>match yv P t with
    |true=>ey s v lo hi
    |false=>none
   | .sc (.sl o _ _)=>match n8 P t,s.obj o with
    |some (_,sz),some ob=>if ob.esz=sz then ey s v lo hi else none
    |_,_=>none
   |_=>none
  |_,_,_=>none
 | .fieldAddr t x f=>match s.ev x,ai P t f with
  |some (.sc (.pt o k j)),some (off,_)=>some (s.val (.sc (.pt o k (j+off))))
  |_,_=>none
 | .field t x f=>match s.ev x,ZK P t f with
  |some (.ag cs),some off=>match cs[off]? with
   |some c=>some (s.val (.sc c))
   |none=>none
  |_,_=>none
 | .indexAddr t x i=>match s.ev x,s.ev i,n8 P t with
  |some (.sc (.sl o off len)),some (.sc (.int _ i)),some (_,sz)=>match s.obj o with
   |some ob=>if ob.esz=sz then some (s.valc (.sc (.pt o (off+i.toNat) 0)) (0≤i∧i < len)) else none
   |none=>none
  |_,_,_=>none
 | .index t x i=>match s.ev x,s.ev i with
  |some (.sc (.st l)),some (.sc (.int _ i))=>match yv P t with
   |true=>some (s.valc (.sc (.int .u8 (l.getD i.toNat 0).toNat)) (0≤i∧i < l.length))
   |false=>none
  |_,_=>none
 | .extract x i=>match s.ev x with
  |some (.tu l)=>match l[i]? with
   |some c=>some (s.val c.av)
   |none=>none
  |_=>none
 | .makeFunc (.func f) first caps=>if first.size=0 then match s.scals caps.toList with
   |some l=>some (s.val (.cl f l))
   |none=>none else none
 | .call { callee:=.builtin .len,args,argTypes }=>match args.toList,argTypes.toList with
  |[x],[t]=>match s.ev x with
   |some (.sc (.st l))=>match yv P t with
    |true=>some (s.val (.sc (.int .i64 l.length)))
    |false=>none
   |some (.sc (.sl _ _ len))=>match n8 P t with
    |some _=>some (s.val (.sc (.int .i64 len)))
    |none=>none
   |some (.sc .nil)=>match n8 P t with
    |some _=>some (s.val (.sc (.int .i64 0)))
    |none=>none
   |_=>none
  |_,_=>none
 | .call { callee:=.builtin .append,args,argTypes }=>match args.toList,argTypes.toList with
  |[x,y],[t,t']=>if t=t' then match s.ev x,s.ev y with
   |some a,some b=>kN P s t a b
   |_,_=>none else none
  |_,_=>none
 | .call { callee:=.builtin .min,args,argTypes }=>match args.toList with
  |[x,y]=>match s.ev x,s.ev y with
   |some (.sc (.int k a)),some (.sc (.int k' b))=>some (s.val (.sc (.int k (if b < a then b else a))))
   |_,_=>none
  |_=>none
 | .call { callee:=.builtin .max,args,argTypes }=>match args.toList with
  |[x,y]=>match s.ev x,s.ev y with
   |some (.sc (.int k a)),some (.sc (.int k' b))=>some (s.val (.sc (.int k (if a < b then b else a))))
   |_,_=>none
  |_=>none
 |_=>none
end
section
open Go.RowKit
theorem Nw {v:Value} {s:Sc} (h:Sc.ofV v=some s) (β:Be):ScR β s v:=by
 unfold Sc.ofV at h
 split at h
 all_goals first
  |(simp only [Option.some.injEq] at h;subst h;first|rfl|exact⟨_,rfl⟩)
  |cases h
theorem pB (β:Be):∀ {vs:List Value} {l:List Sc},Nv vs=some l→L2 (ScR β) l vs
 |[],l,h=>by simp only [Nv,Option.some.injEq] at h;subst h;trivial
 |v::r,l,h=>by
  simp only [Nv] at h
  split at h
  ·rename_i s m h1 h2
   simp only [Option.some.injEq] at h
   subst h
   exact⟨Nw h1 β,pB β h2⟩
  cases h
theorem Fm {v:Value} {x:AV} (h:AV.ofV v=some x) (β:Be):gf β x v:=by
 unfold AV.ofV at h
 split at h
 ·rename_i cs
  simp only [Option.map_eq_some_iff] at h
  obtain⟨l,h1,rfl⟩:=h
  exact⟨cs.toList,by simp,pB β h1⟩
 ·rename_i f a b
  split at h
  ·rename_i h0
   simp only [Option.some.injEq] at h
   subst h
   obtain⟨ha,hb⟩:=h0
   have ha':a= #[]:=Array.eq_empty_of_size_eq_zero ha
   have hb':b= #[]:=Array.eq_empty_of_size_eq_zero hb
   subst ha';subst hb'
   exact⟨[],rfl,trivial⟩
  cases h
 simp only [Option.map_eq_some_iff] at h
 obtain⟨l,h1,rfl⟩:=h
 exact Nw h1 β
theorem c9 {β:Be} {s:S} {a:Act} (hs:SlotsR β s.sl a.tmps) {x:Operand} {v:AV} (h:s.ev x=some v):gf β v (a.eval x):=by
 cases x with
 |tmp t=>
  obtain⟨u,hu,hr⟩:=hs.2 t v h
  have:a.eval (.tmp t)=u:=by simp [Act.eval,Array.getD_eq_getD_getElem?,hu]
  rw [this];exact hr
 |const c=>exact Fm h β
 |global g=>cases h
 |func f=>
  simp only [S.ev,Option.some.injEq] at h
  subst h
  exact⟨[],rfl,trivial⟩
theorem cD {s:S} {o:Nat} {ob:AObj} (h:s.obj o=some ob):s.hp[o]? =some (some ob):=by
 unfold S.obj at h
 rw [List.getD_eq_getElem?_getD] at h
 cases hx:s.hp[o]? with
 |none=>rw [hx] at h;cases h
 |some y=>rw [hx] at h;simp only [Option.getD_some] at h;rw [h]
theorem uR {β:Be} {s:S} {a:Act} (hs:SlotsR β s.sl a.tmps):∀ {ps:List (Nat×Operand)} {l:List (Nat×List Sc)},s.parts ps=some l→
  L2 (fun (x:Nat×List Sc) (y:Nat×Value)=>x.1=y.1∧∃ vs:List Value,y.2.cells=vs.toArray∧L2 (ScR β) x.2 vs) l (ps.map fun (i,x)=>(i,a.eval x))
 |[],l,h=>by simp only [S.parts,Option.some.injEq] at h;subst h;trivial
 |(i,x)::rest,l,h=>by
  simp only [S.parts] at h
  split at h
  ·rename_i v hv
   split at h
   ·rename_i cs hcs
    split at h
    ·rename_i m hm
     simp only [Option.some.injEq] at h
     subst h
     exact⟨⟨rfl,gf.cells hcs (c9 hs hv)⟩,uR hs hm⟩
    cases h
   cases h
  cases h
theorem zy {β:Be} {s:S} {a:Act} (hs:SlotsR β s.sl a.tmps):∀ {ps:List Operand} {l:List Sc},s.scals ps=some l→L2 (ScR β) l (ps.map a.eval)
 |[],l,h=>by simp only [S.scals,Option.some.injEq] at h;subst h;trivial
 |x::rest,l,h=>by
  simp only [S.scals] at h
  split at h
  ·rename_i c hc
   split at h
   ·rename_i m hm
    simp only [Option.some.injEq] at h
    subst h
    exact⟨c9 hs hc,zy hs hm⟩
   cases h
  cases h
theorem dW {P:Program} {t:TypeId} (w:World) (h:(P.info? t).isSome=true):(sizeOf t).run P w=.ok (cA P t) w:=by
 obtain⟨i,hi⟩:=Option.isSome_iff_exists.1 h
 simp [sizeOf,typeInfo,hi,cA]
theorem yx {P:Program} {t:TypeId} (h:ew P t=true):∃ d,P.underlying t=some d:=by
 unfold ew at h
 simp only [Bool.and_eq_true] at h
 exact Option.isSome_iff_exists.1 h.1
theorem j9 {P:Program} {t:TypeId} (h:ew P t=true):(P.info? t).isSome=true:=by
 unfold ew at h
 simp only [Bool.and_eq_true] at h
 exact h.2
theorem ip {P:Program} {t:TypeId} (w:World) {d:TypeDesc} (h:P.underlying t=some d):(isAgg t).run P w=.ok (bw P t) w:=by
 simp only [isAgg,Sem.run_bind,run_underlying h,Result.andThen_ok,bw,h]
 cases d<;>rfl
theorem Bs {P:Program} {t:TypeId} (h:bw P t=true):∃ d,P.underlying t=some d:=by
 unfold bw at h
 cases hu:P.underlying t with
 |none=>rw [hu] at h;cases h
 |some d=>exact⟨d,rfl⟩
theorem fQ {P:Program} {t e:TypeId} (h:NQ P t=some e):P.underlying t=some (.slice e):=by
 unfold NQ at h
 split at h
 ·rename_i e' hu;simp only [Option.some.injEq] at h;subst h;exact hu
 cases h
theorem zz {P:Program} {t:TypeId} {k:IntKind} (h:Y9 P t=some k):P.underlying t=some (.int k):=by
 unfold Y9 at h
 split at h
 ·rename_i e' hu;simp only [Option.some.injEq] at h;subst h;exact hu
 cases h
theorem mn {P:Program} {t:TypeId} (h:yv P t=true):P.underlying t=some .string:=by
 unfold yv at h
 split at h
 ·assumption
 cases h
theorem Ar {P:Program} {t:TypeId} (h:pA P t=true):P.underlying t=some .bool:=by
 unfold pA at h
 split at h
 ·assumption
 cases h
theorem pC {P:Program} {t:TypeId} {i:TypeInfo} (h:P.info? t=some i):cA P t=i.size:=by simp [cA,h]
theorem iq {P:Program} {t:TypeId} {z:List Sc} (h:zx P t=some z):∃ i v vs,P.info? t=some i∧i.zero=some v∧v.cells=List.toArray vs∧Nv vs=some z:=by
 unfold zx at h
 rw [Option.bind_eq_some_iff] at h
 obtain⟨i,hi,h⟩:=h
 rw [Option.bind_eq_some_iff] at h
 obtain⟨v,hv,h⟩:=h
 exact⟨i,v,v.cells.toList,hi,hv,by simp,h⟩
theorem zA {P:Program} {t:TypeId} (h:0 < cA P t):(P.info? t).isSome=true:=by
 unfold cA at h
 cases hi:P.info? t with
 |none=>rw [hi] at h;simp at h
 |some i=>rfl
def f_ (β:Be) (s:S) (r:OpR) (w:World) (x:Result Next):Prop:=
 ∃ β' w',StepR β β' s.hp r.hp w w'∧HSim β' r.hp w'∧((∃ v av,x=.ok (.value v) w'∧r.v=some av∧gf β' av v)∨(x=.ok .skip w'∧r.v=none))
theorem bx {β:Be} {s:S} {w:World} (hs:HSim β s.hp w) {x:Result Next} {v:Value} {av:AV} (hx:x=.ok (.value v) w) (hv:gf β av v):f_ β s (s.val av) w x:=
 ⟨β,w,StepR.refl β s.hp w hs.len,hs,.inl ⟨v,av,hx,rfl,hv⟩⟩
theorem dj {β:Be} {s:S} {w:World} (hs:HSim β s.hp w) {x:Result Next} {v:Value} {av:AV} {c:Prop} (hx:x=.ok (.value v) w) (hv:gf β av v):f_ β s (s.valc av c) w x:=
 ⟨β,w,StepR.refl β s.hp w hs.len,hs,.inl ⟨v,av,hx,rfl,hv⟩⟩
theorem gQ {β:Be} {h:Hp} {w:World} (hs:HSim β h w) {o:Nat} {ob:AObj} (ho:h[o]? =some (some ob)) {p:Pl} (hp:β[o]? =some (some p)):
  p.esz=ob.esz∧∃ arr T fz,w.heap[p.blk]? =some (.cells arr T fz)∧dl β arr p.base ob.esz ob.cs∧(ob.own=true→T=ob.ty∧fz=(0,0)∧p.base=0∧p.avail=arr.size):=by
 obtain⟨q,hq,hr⟩:=hs.ob o ob ho
 rw [hp] at hq
 cases hq
 exact hr
theorem kO {w:World} {b off:Nat} {arr:Array Value} {T:TypeId} {fz:Nat×Nat} (h:w.heap[b]? =some (.cells arr T fz)):w.cell? ⟨b,off,none⟩=arr[off]? :=by simp [World.cell?,h]
theorem yy {β:Be} {arr:Array Value} {base esz:Nat} {cs:List (List Sc)} (hc:dl β arr base esz cs) {k:Nat} {c:List Sc} (hk:cs[k]? =some c) (j n:Nat) (hn:j+n≤c.length):
  ∃ vs:List Value,vs.length=n∧L2 (ScR β) ((c.drop j).take n) vs∧∀ i v,vs[i]? =some v→arr[base+k*esz+j+i]? =some v:=by
 obtain⟨hl,hcell⟩:=hc k c hk
 refine⟨(List.range n).map fun i=>(arr[base+k*esz+j+i]?).getD undef,by simp,?_,?_⟩
 ·refine L2.of_get (by simp;omega) fun i x y hx hy=>?_
  have hi:i < n:=by
   have:=(List.getElem?_eq_some_iff.1 hx).1
   simp at this
   omega
  rw [List.getElem?_take_of_lt hi,List.getElem?_drop] at hx
  obtain⟨v,hv,hr⟩:=hcell (j+i) x hx
  simp only [List.getElem?_map,List.getElem?_range hi,Option.map_some,Option.some.injEq] at hy
  rw [←Nat.add_assoc] at hv
  rw [hv] at hy
  simp only [Option.getD_some] at hy
  subst hy
  exact hr
 intro i v hv
 have hi:i < n:=by
  have:=(List.getElem?_eq_some_iff.1 hv).1
  simpa using this
 simp only [List.getElem?_map,List.getElem?_range hi,Option.map_some,Option.some.injEq] at hv
 have hx:c[j+i]? =some (c[j+i]'(by omega)):=List.getElem?_eq_getElem (by omega)
 obtain⟨u,hu,_⟩:=hcell (j+i) _ hx
 rw [←Nat.add_assoc] at hu
 rw [hu] at hv⊢
 simpa using hv
theorem Bt {β:Be} {o k j:Nat} {v:Value} (h:ScR β (.pt o k j) v):∃ p,β[o]? =some (some p)∧v=.pointer (some ⟨p.blk,p.base+k*p.esz+j,none⟩):=h
theorem mo {P:Program} {β:Be} {s:S} {w:World} (hs:HSim β s.hp w) {o k j:Nat} {ob:AObj} {c:List Sc} {t:TypeId} {v:Value}
  (ho:s.obj o=some ob) (hk:ob.cs[k]? =some c) (ht:bw P t=true) (hn:j+cA P t≤c.length) (hv:ScR β (.pt o k j) v):
  ∃ vs:List Value,(Instr.loadAt t v).run P w=.ok (.agg vs.toArray) w∧L2 (ScR β) ((c.drop j).take (cA P t)) vs:=by
 obtain⟨p,hp,rfl⟩:=Bt hv
 obtain⟨he,arr,T,fz,hh,hc,_⟩:=gQ hs (cD ho) hp
 obtain⟨vs,hl,hr,hcell⟩:=yy hc hk j (cA P t) hn
 obtain⟨d,hd⟩:=Bs ht
 have hinfo:(P.info? t).isSome=true:=by
  unfold Program.underlying at hd
  cases hi:P.info? t with
  |none=>rw [hi] at hd;simp at hd
  |some i=>rfl
 refine⟨vs,?_,hr⟩
 have hld:=run_loadCells_list (P:=P) w ⟨p.blk,p.base+k*p.esz+j,none⟩ vs (fun i u hu=>by
  rw [Addr.add_lit,kO hh,he];exact hcell i u hu)
 rw [hl] at hld
 simp only [Instr.loadAt,Instr.sureAddr,loadVar,Sem.run_bind,Sem.run_pure,Result.andThen_ok,ip w hd,ht,if_true,dW w hinfo,hld]
theorem mq {P:Program} {β:Be} {s:S} {w:World} (hs:HSim β s.hp w) {o k j:Nat} {ob:AObj} {c:List Sc} {x:Sc} {t:TypeId} {v:Value}
  (ho:s.obj o=some ob) (hk:ob.cs[k]? =some c) (ht:bw P t=false) (hu:ew P t=true) (hx:c[j]? =some x) (hv:ScR β (.pt o k j) v):
  ∃ u,(Instr.loadAt t v).run P w=.ok u w∧ScR β x u:=by
 obtain⟨p,hp,rfl⟩:=Bt hv
 obtain⟨he,arr,T,fz,hh,hc,_⟩:=gQ hs (cD ho) hp
 obtain⟨u,hcell,hr⟩:=(hc k c hk).2 j x hx
 obtain⟨d,hd⟩:=yx hu
 refine⟨u,?_,hr⟩
 have hl:w.cell? ⟨p.blk,p.base+k*p.esz+j,none⟩=some u:=by rw [kO hh,he];exact hcell
 simp [Instr.loadAt,Instr.sureAddr,loadVar,ip w hd,ht,hl]
theorem fA {β:Be} {cs:List (List Sc)} {esz:Nat} {arr:Array Value} (hl:∀ c∈cs,c.length=esz) (h:∀ (k j:Nat) (c:List Sc) (s:Sc),cs[k]? =some c→c[j]? =some s→∃ v,arr[k*esz+j]? =some v∧ScR β s v):dl β arr 0 esz cs:=
 fun k c hk=>⟨hl c (List.mem_of_getElem? hk),fun j s hs=>by rw [Nat.zero_add];exact h k j c s hk hs⟩
theorem pD {β:Be} {c:List Sc} {vs:List Value} (h:L2 (ScR β) c vs):dl β vs.toArray 0 c.length [c]:=
 fA (by simp) (fun k j c' s hk hs=>by
  have hk0:k=0:=by have:=(List.getElem?_eq_some_iff.1 hk).1;simpa using this
  subst hk0
  simp only [List.getElem?_cons_zero,Option.some.injEq] at hk
  subst hk
  obtain⟨v,hv,hr⟩:=h.get hs
  exact⟨v,by simpa using hv,hr⟩)
theorem yz (w:World) (o:Obj):World.like w (w.alloc o):=⟨rfl,rfl,rfl⟩
theorem tN (w:World) (o:Obj):∀ k,k < w.heap.size→(w.alloc o).heap[k]? =w.heap[k]? :=fun k hk=>(by first|exact heap_alloc_old w o k hk|exact heap_alloc_old w o hk)
theorem mr {β:Be} {s:S} {w:World} (hs:HSim β s.hp w) {arr:Array Value} {ob:AObj} {av:AV} {v:Value} {x:Result Next} {c:Prop}
  (hx:x=.ok (.value v) (w.alloc (.cells arr ob.ty))) (hc:dl β arr 0 ob.esz ob.cs) (hfl:ob.fl=true→FlatL ob.cs)
  (hv:gf (β++[some ⟨w.heap.size,0,ob.esz,arr.size⟩]) av v):f_ β s ⟨some av,s.hp++[some ob],c⟩ w x:=by
 let p:Pl:=⟨w.heap.size,0,ob.esz,arr.size⟩
 have hle:=Be.le_append β [some p]
 refine⟨β++[some p],w.alloc (.cells arr ob.ty),j6 hs.len (yz w _) (by simp) (tN w _) p ob (Nat.le_refl _),lS hs (tN w _) (Nat.le_refl _) ?_ hfl,.inl ⟨v,av,hx,rfl,hv⟩⟩
 exact⟨rfl,arr,ob.ty,(0,0),heap_alloc_new w _,hc.mono hle,fun _=>⟨rfl,rfl,rfl,rfl⟩⟩
theorem Bu {β:Be} {s:S} {w:World} (hs:HSim β s.hp w) (esz n:Nat):ScR (β++[some ⟨w.heap.size,0,esz,n⟩]) (.pt s.hp.length 0 0) (.pointer (some ⟨w.heap.size,0,none⟩)):=
 ⟨⟨w.heap.size,0,esz,n⟩,by rw [←hs.len];simp,by simp⟩
theorem Bv {β:Be} {s:S} {w:World} (hs:HSim β s.hp w) (esz n len cap:Nat) (h1:len≤cap) (h2:cap≤maxLen) (h3:cap*esz≤n):
  ScR (β++[some ⟨w.heap.size,0,esz,n⟩]) (.sl s.hp.length 0 len) (.slice (some ⟨w.heap.size,0,none⟩) len cap):=
 ⟨_,cap,rfl,h1,h2,.inr ⟨⟨w.heap.size,0,esz,n⟩,by rw [←hs.len];simp,by simp,by simpa using h3⟩⟩
end
section
open Go.RowKit
section
variable {P:Program} {β:Be} {s:S} {a:Act} {w:World} {o:Oper} {r:OpR} {ty:TypeId}
theorem zB (hs:HSim β s.hp w) (hsl:SlotsR β s.sl a.tmps) (x:Operand) (ho:o.op=.move x∨o.op=.assign x) (h:bE P s ty (.move x)=some r):f_ β s r w ((execOp a.eval o).run P w):=by
 simp only [bE] at h
 split at h
 ·rename_i v hv
  simp only [Option.some.injEq] at h
  subst h
  refine bx hs (v:=a.eval x) ?_ (c9 hsl hv)
  unfold execOp
  rcases ho with ho|ho<;>rw [ho]<;>rfl
 cases h
theorem Fn (hs:HSim β s.hp w) (hsl:SlotsR β s.sl a.tmps) (c x y:Operand) (ho:o.op=.pick c x y) (h:bE P s ty (.pick c x y)=some r):f_ β s r w ((execOp a.eval o).run P w):=by
 simp only [bE] at h
 split at h
 ·rename_i hc
  have hb:a.eval c=.bool true:=c9 hsl hc
  split at h
  ·rename_i v hv
   simp only [Option.some.injEq] at h
   subst h
   refine bx hs (v:=a.eval x) ?_ (c9 hsl hv)
   unfold execOp
   rw [ho]
   simp [hb,asBool]
  cases h
 ·rename_i hc
  have hb:a.eval c=.bool false:=c9 hsl hc
  split at h
  ·rename_i v hv
   simp only [Option.some.injEq] at h
   subst h
   refine bx hs (v:=a.eval y) ?_ (c9 hsl hv)
   unfold execOp
   rw [ho]
   simp [hb,asBool]
  cases h
 cases h
theorem Bw (hs:HSim β s.hp w) (e:TypeId) (ho:o.op=.alloc e) (h:bE P s ty (.alloc e)=some r):f_ β s r w ((execOp a.eval o).run P w):=by
 simp only [bE] at h
 split at h
 ·rename_i z hz
  simp only [Option.some.injEq] at h
  subst h
  obtain⟨hz,hl,_⟩:=j7 hz
  obtain⟨i,v,vs,hi,hzv,hvc,hsc⟩:=iq hz
  have hr:=pB β hsc
  refine mr hs (arr:=vs.toArray) (v:=.pointer (some ⟨w.heap.size,0,none⟩)) ?_ (pD hr) (fun h=>by cases h) (Bu hs _ _)
  unfold execOp
  rw [ho]
  simp [Instr.alloc,zeroValue,typeInfo,hi,hzv,newVar,newRow,hvc]
 cases h
theorem NS (hs:HSim β s.hp w) (hsl:SlotsR β s.sl a.tmps) (e:TypeId) (x:Operand) (ho:o.op=.box e x) (h:bE P s ty (.box e x)=some r):f_ β s r w ((execOp a.eval o).run P w):=by
 simp only [bE] at h
 split at h
 ·rename_i v hv
  split at h
  ·rename_i cs hcs
   simp only [Option.some.injEq] at h
   subst h
   obtain⟨vs,hvs,hr⟩:=gf.cells hcs (c9 hsl hv)
   refine mr hs (arr:=vs.toArray) (v:=.pointer (some ⟨w.heap.size,0,none⟩)) ?_ (pD hr) (fun h=>by cases h) (Bu hs _ _)
   unfold execOp
   rw [ho]
   simp [Instr.box,newVar,newRow,hvs]
  cases h
 cases h
theorem j_ (off:Nat):∀ (vs:List Value) (n:Nat) (cells:Array Value),
  ((vs.zipIdx n).foldl (fun cs (x:Value×Nat)=>cs.setIfInBounds (off+x.2) x.1) cells).size=cells.size∧
  ∀ m,off+n+vs.length≤cells.size→((vs.zipIdx n).foldl (fun cs (x:Value×Nat)=>cs.setIfInBounds (off+x.2) x.1) cells)[m]? =if off+n≤m∧m < off+n+vs.length then vs[m - (off+n)]? else cells[m]?
 |[],n,cells=>⟨by simp,fun m hm=>by
   simp only [List.zipIdx_nil,List.foldl_nil,List.length_nil,Nat.add_zero]
   rw [if_neg (by omega)]⟩
 |v::vs,n,cells=>by
  obtain⟨h1,h2⟩:=j_ off vs (n+1) (cells.setIfInBounds (off+n) v)
  refine⟨by simpa [List.zipIdx_cons] using h1,fun m hm=>?_⟩
  simp only [List.zipIdx_cons,List.foldl_cons]
  rw [h2 m (by simp at hm⊢;omega)]
  by_cases he:m=off+n
  ·subst he
   rw [if_neg (by omega),if_pos (by simp)]
   simp at hm
   simp [Array.getElem?_setIfInBounds]
   omega
  by_cases hin:off+(n+1)≤m∧m < off+(n+1)+vs.length
  ·rw [if_pos hin,if_pos (by simp;omega)]
   have:m - (off+n)=(m - (off+(n+1)))+1:=by omega
   rw [this,List.getElem?_cons_succ]
  rw [if_neg hin,if_neg (by simp;omega)]
  rw [Array.getElem?_setIfInBounds_ne (Ne.symm he)]
theorem jq (off:Nat) (vs:List Value) (cells:Array Value):
  (vs.toArray.zipIdx.foldl (fun cs (x:Value×Nat)=>cs.setIfInBounds (off+x.2) x.1) cells)=((vs.zipIdx 0).foldl (fun cs (x:Value×Nat)=>cs.setIfInBounds (off+x.2) x.1) cells):=by
 simp [←Array.foldl_toList]
theorem pE (c:List Sc) (j:Nat) (l:List Sc) (h:j+l.length≤c.length) (m:Nat):(i7 c j l)[m]? =if j≤m∧m < j+l.length then l[m - j]? else c[m]? :=by
 unfold i7
 by_cases h1:m < j
 ·rw [List.getElem?_append_left (by simp;omega),List.getElem?_take_of_lt h1,if_neg (by omega)]
 rw [List.getElem?_append_right (by simp;omega)]
 have hl:(c.take j).length=j:=by simp;omega
 rw [hl]
 by_cases h2:m < j+l.length
 ·rw [List.getElem?_append_left (by omega),if_pos (by omega)]
 rw [List.getElem?_append_right (by omega),if_neg (by omega),List.getElem?_drop]
 congr 1
 omega
theorem lk (c:List Sc) (j:Nat) (l:List Sc) (h:j+l.length≤c.length):(i7 c j l).length=c.length:=by
 unfold i7
 simp
 omega
theorem zC:∀ (c l:List Sc),l.length≤c.length→over c l=l++c.drop l.length
 |c,[],_=>by cases c<;>simp [over]
 |_::c,b::l,h=>by simp [over,zC c l (by simpa using h)]
 |[],_::_,h=>by simp at h
theorem yA:∀ (c:List Sc) (j:Nat) (l:List Sc),j+l.length≤c.length→NR c j l=i7 c j l
 |c,0,l,h=>by
  have h1:NR c 0 l=over c l:=by cases c<;>rfl
  rw [h1,zC c l (by omega)]
  simp [i7]
 |a::c,j+1,l,h=>by
  have:=yA c j l (by simp at h;omega)
  simp only [NR,this]
  unfold i7
  rw [show j+1+l.length=(j+l.length)+1 from by omega]
  simp
 |[],j+1,l,h=>by simp at h
theorem zD {P:Program} {t:TypeId} {pl:Nat→Option (Nat×Nat)}:∀ {l:List (Nat×List Sc)} {ps:List (Nat×Value)} {c c':List Sc} {arr:Array Value},
  tL pl c l=some c'→L2 (ScR β) c arr.toList→
  L2 (fun (x:Nat×List Sc) (y:Nat×Value)=>x.1=y.1∧∃ vs:List Value,y.2.cells=vs.toArray∧L2 (ScR β) x.2 vs) l ps→
  ∃ arr':Array Value,Instr.fill pl arr ps=some arr'∧L2 (ScR β) c' arr'.toList
 |[],[],c,c',arr,h,hc,_=>by
  simp only [tL,Option.some.injEq] at h
  subst h
  exact⟨arr,rfl,hc⟩
 |(i,v)::l,(i',u)::ps,c,c',arr,h,hc,hl=>by
  obtain⟨⟨hi,vs,hvs,hr⟩,hl⟩:=hl
  dsimp only at hi hvs hr
  subst hi
  simp only [tL] at h
  split at h
  ·cases h
  rename_i off size hpl
  split at h
  ·rename_i hsz0
   simp only [Bool.and_eq_true] at hsz0
   have hsz:v.length=size∧off+size≤c.length:=⟨mm hsz0.1,kM hsz0.2⟩
   rw [yA c off v (by omega)] at h
   have hlen:=hc.length
   have hvl:=hr.length
   have hbd:off+vs.length≤arr.size:=by rw [←hvl];simp at hlen;omega
   obtain⟨h1,h2⟩:=j_ off vs 0 arr
   have hnew:L2 (ScR β) (i7 c off v) ((vs.toArray.zipIdx.foldl (fun cs (x:Value×Nat)=>cs.setIfInBounds (off+x.2) x.1) arr)).toList:=by
    rw [jq]
    refine L2.of_get (by rw [lk c off v (by omega),hlen];simp only [Array.length_toList];exact h1.symm) fun m x y hx hy=>?_
    rw [pE c off v (by omega)] at hx
    rw [Array.getElem?_toList,h2 m (by simpa using hbd)] at hy
    simp only [Nat.add_zero] at hy
    by_cases hin:off≤m∧m < off+v.length
    ·rw [if_pos hin] at hx
     rw [if_pos (by omega)] at hy
     obtain⟨y',hy',hr'⟩:=hr.get hx
     rw [hy] at hy'
     cases hy'
     exact hr'
    rw [if_neg hin] at hx
    rw [if_neg (by omega)] at hy
    obtain⟨y',hy',hr'⟩:=hc.get hx
    rw [Array.getElem?_toList,hy] at hy'
    cases hy'
    exact hr'
   obtain⟨arr',hf,hr'⟩:=zD (P:=P) (t:=t) h hnew hl
   refine⟨arr',?_,hr'⟩
   simp only [Instr.fill,hpl]
   rw [if_neg]
   ·rw [hvs];exact hf
   rw [hvs]
   simp
   omega
  cases h
 |[],_::_,_,_,_,_,_,hl=>hl.elim
 |_::_,[],_,_,_,_,_,hl=>hl.elim
end
end
section
open Go.RowKit
section
variable {P:Program} {β:Be} {s:S} {a:Act} {w:World} {o:Oper} {r:OpR} {ty:TypeId}
theorem wN (w:World) (fields:List Field) (hf:∀ x∈fields,cA P x.type≠0):
  (fields.mapM (fun f:Field=>(do pure (f.offset,←sizeOf f.type):Sem (Nat×Nat)))).run P w=.ok (fields.map fun f=>(f.offset,cA P f.type)) w:=by
 induction fields with
 |nil=>rfl
 |cons f l ih=>
  have h0:=hf f (by simp)
  have hi:(P.info? f.type).isSome=true:=zA (by omega)
  simp only [List.mapM_cons,Sem.run_bind,dW w hi,Result.andThen_ok,Sem.run_pure,ih (fun x hx=>hf x (by simp [hx])),List.map_cons]
theorem Bx (hs:HSim β s.hp w) (hsl:SlotsR β s.sl a.tmps) (t:TypeId) (parts:Array (Nat×Operand)) (ho:o.op=.build t parts) (h:bE P s ty (.build t parts)=some r):f_ β s r w ((execOp a.eval o).run P w):=by
 simp only [bE] at h
 split at h
 ·rename_i z hz
  split at h
  ·rename_i l hl
   have hz0:=hz
   unfold aY at hz0
   split at hz0
   ·rename_i hall
    obtain⟨hz,hzl,_⟩:=j7 hz0
    split at h
    ·rename_i cs hcs
     simp only [Option.some.injEq] at h
     subst h
     obtain⟨i,v,vs,hi,hzv,hvc,hsc⟩:=iq hz
     have hr:=pB β hsc
     unfold wK at hall
     split at hall
     ·rename_i fs hfs
      have hpl:∀ k,ai P t k=(fs.map fun f=>(f.offset,cA P f.type))[k]? :=by
       intro k
       simp only [ai,hfs,Array.getElem?_map]
       cases hk:fs[k]? with
       |none=>rfl
       |some f=>
        have hm:f∈fs.toList:=by
         rw [←Array.getElem?_toList] at hk
         exact List.mem_of_getElem? hk
        have:=List.all_eq_true.1 hall f hm
        simp only [bne_iff_ne] at this
        simp [this]
      obtain⟨arr,hf,hra⟩:=zD (P:=P) (t:=t) (β:=β) (ps:=parts.toList.map fun (i,x)=>(i,a.eval x)) (arr:=vs.toArray) hcs (by simpa using hr) (uR hsl hl)
      refine bx hs (v:=.agg arr) ?_ ⟨arr.toList,by simp,hra⟩
      unfold execOp
      rw [ho]
      have hm:=wN (P:=P) w fs.toList (fun x hx=>by
       have:=List.all_eq_true.1 hall x hx
       simpa using this)
      have hm':(fs.mapM (fun f:Field=>(do pure (f.offset,←sizeOf f.type):Sem (Nat×Nat)))).run P w=.ok (fs.map fun f=>(f.offset,cA P f.type)) w:=by
       rw [Array.mapM_eq_mapM_toList]
       have e:∀ (m:Sem (List (Nat×Nat))),(List.toArray <$> m)=(do pure (List.toArray (←m))):=fun m=>rfl
       rw [e,Sem.run_bind,hm]
       rw [Result.andThen_ok,Sem.run_pure]
       refine congrArg (fun x=>Result.ok x w) ?_
       apply Array.ext'
       simp
      have hff:Instr.fill (fun x=>(fs.map fun f=>(f.offset,cA P f.type))[x]?) vs.toArray (parts.toList.map fun (i,x)=>(i,a.eval x))=some arr:=by
       have e:(fun x=>(fs.map fun f=>(f.offset,cA P f.type))[x]?)=ai P t:=funext fun k=>(hpl k).symm
       rw [e];exact hf
      have hpt:(parts.map fun (i,x)=>(i,a.eval x)).toList=parts.toList.map fun (i,x)=>(i,a.eval x):=by simp
      simp only [Instr.build,Sem.run_bind,zeroValue,typeInfo,run_program,Result.andThen_ok,hi,hzv,Sem.run_pure,run_underlying hfs,hm',hpt]
      rw [hvc,hff]
      rfl
     cases hall
    cases h
   cases hz0
  cases h
 cases h
theorem tO (z:Array Value) (len k j:Nat) (hk:k < len) (hj:j < z.size):((Array.range (len*z.size)).map (z[· % z.size]!))[k*z.size+j]? =z[j]? :=by
 have hlt:k*z.size+j < len*z.size:=by
  have:(k+1)*z.size≤len*z.size:=Nat.mul_le_mul_right _ hk
  rw [Nat.add_mul] at this
  omega
 rw [Array.getElem?_map,Array.getElem?_range,if_pos hlt]
 simp only [Option.map_some]
 rw [show (k*z.size+j) % z.size=j from by rw [Nat.mul_comm,Nat.mul_add_mod,Nat.mod_eq_of_lt hj]]
 simp [hj]
theorem zE {esz:Nat} (hpos:0 < esz) (len:Nat):∀ {l:List (Nat×List Sc)} {ps:List (Nat×Value)} {cs cs':List (List Sc)} {arr:Array Value},
  tM esz cs l=some cs'→cs.length=len→arr.size=len*esz→dl β arr 0 esz cs→
  L2 (fun (x:Nat×List Sc) (y:Nat×Value)=>x.1=y.1∧∃ vs:List Value,y.2.cells=vs.toArray∧L2 (ScR β) x.2 vs) l ps→
  ∃ arr':Array Value,Instr.fill (fun i=>some (i*esz,esz)) arr ps=some arr'∧arr'.size=len*esz∧cs'.length=len∧dl β arr' 0 esz cs'
 |[],[],cs,cs',arr,h,hl,hsz,hc,_=>by
  simp only [tM,Option.some.injEq] at h
  subst h
  exact⟨arr,rfl,hsz,hl,hc⟩
 |(i,v)::l,(i',u)::ps,cs,cs',arr,h,hl,hsz,hc,hps=>by
  obtain⟨⟨hi,vs,hvs,hr⟩,hps⟩:=hps
  dsimp only at hi hvs hr
  subst hi
  simp only [tM] at h
  split at h
  ·rename_i hcond
   simp only [Bool.and_eq_true] at hcond
   have hvl:=mm hcond.1
   have hil:i < cs.length:=kM hcond.2
   have hvl':=hr.length
   have hend:i*esz+esz≤len*esz:=by
    have:(i+1)*esz≤len*esz:=Nat.mul_le_mul_right _ (by omega)
    rw [Nat.add_mul] at this
    omega
   obtain⟨h1,h2⟩:=j_ (i*esz) vs 0 arr
   simp only [Nat.add_zero] at h2
   have hnew:dl β (vs.toArray.zipIdx.foldl (fun cs (x:Value×Nat)=>cs.setIfInBounds (i*esz+x.2) x.1) arr) 0 esz (cs.set i v):=by
    rw [jq]
    refine fA (fun c hm=>?_) fun k j c x hk hj=>?_
    ·rcases List.mem_or_eq_of_mem_set hm with hm|rfl
     ·obtain⟨k,hk⟩:=List.mem_iff_getElem?.1 hm
      exact (hc k c hk).1
     exact hvl
    rw [h2 _ (by omega)]
    have hjl:j < c.length:=(List.getElem?_eq_some_iff.1 hj).1
    rw [List.getElem?_set] at hk
    by_cases he:i=k
    ·subst he
     rw [if_pos rfl,if_pos hil] at hk
     simp only [Option.some.injEq] at hk
     subst hk
     rw [if_pos (by omega)]
     obtain⟨y,hy,hry⟩:=hr.get hj
     exact⟨y,by rw [Nat.add_sub_cancel_left];exact hy,hry⟩
    rw [if_neg he] at hk
    obtain⟨hlc,hcell⟩:=hc k c hk
    obtain⟨y,hy,hry⟩:=hcell j x hj
    refine⟨y,?_,hry⟩
    rw [Nat.zero_add] at hy
    rw [if_neg]
    ·exact hy
    intro⟨ha,hb⟩
    rcases Nat.lt_or_gt_of_ne he with hlt|hgt
    ·have:(i+1)*esz≤k*esz:=Nat.mul_le_mul_right _ hlt
     rw [Nat.add_mul] at this
     omega
    have:(k+1)*esz≤i*esz:=Nat.mul_le_mul_right _ hgt
    rw [Nat.add_mul] at this
    omega
   obtain⟨arr',hf,hsz',hl',hc'⟩:=zE hpos len h (by simpa using hl) (by rw [jq,h1];exact hsz) hnew hps
   refine⟨arr',?_,hsz',hl',hc'⟩
   simp only [Instr.fill]
   rw [if_neg]
   ·rw [hvs];exact hf
   rw [hvs]
   simp
   omega
  cases h
 |[],_::_,_,_,_,_,_,_,_,hl=>hl.elim
 |_::_,[],_,_,_,_,_,_,_,hl=>hl.elim
theorem sH (hs:HSim β s.hp w) (hsl:SlotsR β s.sl a.tmps) (t:TypeId) (len:Nat) (parts:Array (Nat×Operand)) (ho:o.op=.buildSlice t len parts) (h:bE P s ty (.buildSlice t len parts)=some r):f_ β s r w ((execOp a.eval o).run P w):=by
 simp only [bE] at h
 split at h
 ·rename_i e sz he0
  obtain⟨he,hkn,rfl⟩:=gg he0
  split at h
  ·rename_i z hz
   obtain⟨hz,hzl,hpos,hsm,_⟩:=j7 hz
   split at h
   ·rename_i l hl
    split at h
    ·rename_i hleb
     have hle256:=Bq hleb
     have hbig:len*cA P e≤16777216:=by
      have:len*cA P e≤256*65536:=Nat.mul_le_mul hle256 hsm
      omega
     split at h
     ·rename_i cs hcs
      simp only [Option.some.injEq] at h
      subst h
      obtain⟨i,v,vs,hi,hzv,hvc,hsc⟩:=iq hz
      have hr:=pB β hsc
      have hvl:=hr.length
      have hti:=pC hi
      have hlm:len≤len*cA P e:=Nat.le_mul_of_pos_right _ hpos
      have hstart:∃ arr0:Array Value,((do if len*cA P e=0 then pure #[] else do pure (←zeroValue e).cells):Sem (Array Value)).run P w=.ok arr0 w∧((Array.range (len*cA P e)).map (arr0[· % arr0.size]!)).size=len*cA P e∧
        dl β ((Array.range (len*cA P e)).map (arr0[· % arr0.size]!)) 0 (cA P e) (List.replicate len z):=by
       by_cases h0:len*cA P e=0
       ·refine⟨#[],by simp [h0],by simp,?_⟩
        have hl0:len=0:=by
         rcases Nat.mul_eq_zero.1 h0 with h|h
         ·exact h
         omega
        subst hl0
        intro k c hk
        simp at hk
       refine⟨vs.toArray,by simp [h0,zeroValue,typeInfo,hi,hzv,hvc],by simp,?_⟩
       refine fA (fun c hm=>by rw [List.eq_of_mem_replicate hm];exact hzl) fun k j c x hk hj=>?_
       have hkl:k < len:=by have:=(List.getElem?_eq_some_iff.1 hk).1;simpa using this
       rw [List.getElem?_replicate_of_lt hkl] at hk
       simp only [Option.some.injEq] at hk
       subst hk
       obtain⟨y,hy,hry⟩:=hr.get hj
       have hjl:j < z.length:=(List.getElem?_eq_some_iff.1 hj).1
       refine⟨y,?_,hry⟩
       have hzs:vs.toArray.size=cA P e:=by simp;omega
       have:=tO vs.toArray len k j hkl (by omega)
       rw [hzs] at this
       rw [hzs,this]
       simpa using hy
      obtain⟨arr0,hrun,hsz0,hc0⟩:=hstart
      obtain⟨arr,hf,hsz,hlen,hc⟩:=zE hpos len (ps:=parts.toList.map fun (i,x)=>(i,a.eval x)) hcs (by simp) hsz0 hc0 (uR hsl hl)
      refine mr hs (arr:=arr) (v:=.slice (some ⟨w.heap.size,0,none⟩) len len) ?_ hc (fun h=>tK h) (Bv hs _ _ len len (Nat.le_refl _) (by unfold maxLen;omega) (by show len*cA P e≤arr.size;omega))
      unfold execOp
      rw [ho]
      have hpt:(parts.map fun (i,x)=>(i,a.eval x)).toList=parts.toList.map fun (i,x)=>(i,a.eval x):=by simp
      have hb':¬ (2 ^ 24 < len*cA P e):=by omega
      simp only [Instr.buildSlice,Sem.run_bind,run_underlying (fQ he),Result.andThen_ok,dW w (by simp [hi]:(P.info? e).isSome=true),hb',if_false,hpt]
      by_cases h0:len*cA P e=0
      ·simp only [h0,if_true,Sem.run_pure,Result.ok.injEq,and_true,Result.andThen_ok] at hrun
       subst hrun
       simp only [h0,if_true,Sem.run_bind,Sem.run_pure,Result.andThen_ok]
       simp only [h0] at hf
       rw [hf]
       simp [newRow]
      have hzr:(zeroValue e).run P w=.ok v w:=by simp [zeroValue,typeInfo,hi,hzv]
      simp only [h0,if_false,Sem.run_bind,hzr,Result.andThen_ok,Sem.run_pure,Result.ok.injEq,and_true] at hrun
      simp only [h0,if_false,Sem.run_bind,Sem.run_pure,Result.andThen_ok,hzr]
      rw [hrun,hf]
      simp [newRow]
     cases h
    cases h
   cases h
  cases h
 cases h
theorem As {t:TypeId} {n:Nat} (h:aF P t=some (some n)):bw P t=true∧n=cA P t:=by
 unfold aF at h
 split at h
 ·split at h
  ·rename_i ha
   simp only [Option.some.injEq] at h
   exact⟨ha,h.symm⟩
  cases h
 cases h
theorem At {t:TypeId} (h:aF P t=some none):bw P t=false∧ew P t=true:=by
 unfold aF at h
 split at h
 ·rename_i hk
  split at h
  ·cases h
  rename_i ha
  exact⟨by simpa using ha,hk⟩
 cases h
theorem Au {t:TypeId} {n:Nat} (h:dy P t=some n):ew P t=true∧n=cA P t:=by
 unfold dy at h
 split at h
 ·rename_i hk
  simp only [Option.some.injEq] at h
  exact⟨hk,h.symm⟩
 cases h
theorem Fo (hs:HSim β s.hp w) (hsl:SlotsR β s.sl a.tmps) (t:TypeId) (x:Operand) (ho:o.op=.load t x) (h:bE P s ty (.load t x)=some r):f_ β s r w ((execOp a.eval o).run P w):=by
 simp only [bE] at h
 split at h
 ·rename_i ob k j hx
  have hv:ScR β (.pt ob k j) (a.eval x):=c9 hsl hx
  split at h
  ·rename_i obj hob
   split at h
   ·rename_i c hk
    split at h
    ·rename_i n hag0
     obtain⟨hag,rfl⟩:=As hag0
     split at h
     ·rename_i hn
      simp only [Option.some.injEq] at h
      subst h
      obtain⟨vs,hrun,hr⟩:=mo hs hob hk hag (kM hn) hv
      refine bx hs (v:=.agg vs.toArray) ?_ ⟨vs,rfl,hr⟩
      unfold execOp
      rw [ho]
      simp [hrun]
     cases h
    ·rename_i hag0
     obtain⟨hag,hkn⟩:=At hag0
     split at h
     ·rename_i y hy
      simp only [Option.some.injEq] at h
      subst h
      obtain⟨u,hrun,hr⟩:=mq hs hob hk hag hkn hy hv
      refine bx hs (v:=u) ?_ hr
      unfold execOp
      rw [ho]
      simp [hrun]
     cases h
    cases h
   cases h
  cases h
 cases h
theorem yB {h:Hp} (hs:HSim β h w) {n:Nat} {ob:AObj} {p:Pl} (ho:h[n]? =some (some ob)) (hown:ob.own=true) (hp:β[n]? =some (some p))
  {arr arr':Array Value} {T:TypeId} {fz:Nat×Nat} (hh:w.heap[p.blk]? =some (.cells arr T fz)) (hsz:arr'.size=arr.size) {cs':List (List Sc)} {fl':Bool} (hc:dl β arr' 0 ob.esz cs') (hfl:fl'=true→FlatL cs'):
  HSim β (h.set n (some { ob with cs:=cs',fl:=fl' })) (w.setRow p.blk arr')∧StepR β β h (h.set n (some { ob with cs:=cs',fl:=fl' })) w (w.setRow p.blk arr'):=by
 obtain⟨he,arr0,T0,fz0,hh0,hc0,hown0⟩:=gQ hs ho hp
 obtain⟨hT,hf0,hbase,hav⟩:=hown0 hown
 rw [hh] at hh0
 simp only [Option.some.injEq,Obj.cells.injEq] at hh0
 obtain⟨rfl,rfl,rfl⟩:=hh0
 have hn:n < h.length:=(List.getElem?_eq_some_iff.1 ho).1
 have key:∀ {o:Nat} {x:AObj},(h.set n (some { ob with cs:=cs',fl:=fl' }))[o]? =some (some x)→(o=n∧x={ ob with cs:=cs',fl:=fl' })∨(o≠n∧h[o]? =some (some x)):=by
  intro o x hx
  rw [List.getElem?_set] at hx
  split at hx
  ·rename_i he
   subst he
   simp only [Option.some.injEq] at hx
   exact .inl ⟨rfl,hx.symm⟩
  rename_i he
  exact .inr ⟨Ne.symm he,hx⟩
 refine⟨⟨by simp [hs.len],fun o x hx=>?_,fun o x hx hf=>by rcases key hx with⟨_,rfl⟩|⟨_,hx⟩;exact hfl hf;exact hs.flat o x hx hf,fun o o' x x' q q' hx hx' hxo hq hq' hne=>?_⟩,?_⟩
 ·rcases key hx with⟨rfl,rfl⟩|⟨hne,hx⟩
  ·refine⟨some p,hp,he,arr',T,fz,setRow_heap w p.blk arr arr' T fz hh,?_,fun _=>⟨hT,hf0,hbase,by rw [hsz];exact hav⟩⟩
   rw [hbase]
   exact hc
  obtain⟨q,hq,hr⟩:=hs.ob o x hx
  refine⟨q,hq,hr.world fun q' hq'=>?_⟩
  subst hq'
  exact setRow_other w p.blk q'.blk arr' (fun hb=>hs.apart n o ob x p q' ho hx hown hp hq (Ne.symm hne) hb.symm)
 ·rcases key hx with⟨rfl,rfl⟩|⟨h1,h1'⟩
  ·rcases key hx' with⟨rfl,rfl⟩|⟨h2,h2'⟩
   ·exact absurd rfl hne
   exact hs.apart o o' ob x' q q' ho h2' hown hq hq' hne
  rcases key hx' with⟨rfl,rfl⟩|⟨h2,h2'⟩
  ·exact hs.apart o o' x ob q q' h1' ho hxo hq hq' hne
  exact hs.apart o o' x x' q q' h1' h2' hxo hq hq' hne
 refine⟨Be.le.refl _,rfl,rfl,rfl,by simp,fun k hk hno=>setRow_other w p.blk k arr' (fun hb=>hno ⟨n,ob,p,ho,hown,hp,hb.symm⟩),by simp,fun o x hlt hx=>?_,fun o x q hge hx _=>?_⟩
 ·rcases key hx with⟨rfl,rfl⟩|⟨hne,hx⟩
  ·exact⟨ob,ho,id⟩
  exact⟨x,hx,id⟩
 rw [List.getElem?_eq_none (by simpa using hge)] at hx
 cases hx
theorem By (hs:HSim β s.hp w) (hsl:SlotsR β s.sl a.tmps) (t:TypeId) (x y:Operand) (ho:o.op=.store t x y) (h:bE P s ty (.store t x y)=some r):f_ β s r w ((execOp a.eval o).run P w):=by
 simp only [bE] at h
 split at h
 ·rename_i n k j hx
  have hv:ScR β (.pt n k j) (a.eval x):=c9 hsl hx
  split at h
  ·rename_i ob hob
   split at h
   ·rename_i c hk
    split at h
    ·rename_i v hy
     split at h
     ·rename_i vs hvs
      split at h
      rotate_left
      ·cases h
      rename_i n0 hn0
      obtain⟨hkn,rfl⟩:=Au hn0
      split at h
      ·rename_i hcond
       simp only [Bool.and_eq_true] at hcond
       obtain⟨⟨hl0,hj0⟩,hown⟩:=hcond
       have hl:=mm hl0
       have hj:j+vs.length≤c.length:=by rw [hl];exact kM hj0
       simp only [Option.some.injEq] at h
       rw [yA c j vs hj] at h
       subst h
       obtain⟨us,hus,hr⟩:=gf.cells hvs (c9 hsl hy)
       obtain⟨p,hp,hpe⟩:=Bt hv
       obtain⟨he,arr,T,fz,hh,hc,hown'⟩:=gQ hs (cD hob) hp
       obtain⟨hT,hf0,hbase,hav⟩:=hown' hown
       subst hf0
       have hul:=hr.length
       obtain⟨hcl,hcell⟩:=hc k c hk
       have hbd:k*ob.esz+j+us.length≤arr.size:=by
        by_cases hz:us.length=0
        ·rw [hz]
         by_cases hc0:c.length=0
         ·by_cases hk0:arr.size < k*ob.esz+j
          ·have:j=0:=by omega
           subst this
           rw [←hcl,hc0] at hk0
           omega
          omega
         have hg:c[c.length - 1]? =some (c[c.length - 1]'(by omega)):=List.getElem?_eq_getElem (by omega)
         obtain⟨y',hy',_⟩:=hcell _ _ hg
         have:=(Array.getElem?_eq_some_iff.1 hy').1
         rw [hbase] at this
         omega
        have hg:c[j+us.length - 1]? =some (c[j+us.length - 1]'(by omega)):=List.getElem?_eq_getElem (by omega)
        obtain⟨y',hy',_⟩:=hcell _ _ hg
        have:=(Array.getElem?_eq_some_iff.1 hy').1
        rw [hbase] at this
        omega
       let arr':Array Value:=(arr.toList.take (k*ob.esz+j)++us++arr.toList.drop (k*ob.esz+j+us.length)).toArray
       have hget:∀ m,arr'[m]? =if k*ob.esz+j≤m∧m < k*ob.esz+j+us.length then us[m - (k*ob.esz+j)]? else arr[m]? :=by
        intro m
        show ((arr.toList.take (k*ob.esz+j)++us++arr.toList.drop (k*ob.esz+j+us.length)).toArray)[m]? =_
        rw [List.getElem?_toArray,List.append_assoc]
        by_cases h1:m < k*ob.esz+j
        ·rw [List.getElem?_append_left (by simp;omega),List.getElem?_take_of_lt h1,if_neg (by omega),Array.getElem?_toList]
        have hlen:(arr.toList.take (k*ob.esz+j)).length=k*ob.esz+j:=by simp;omega
        rw [List.getElem?_append_right (by omega),hlen]
        by_cases h2:m < k*ob.esz+j+us.length
        ·rw [List.getElem?_append_left (by omega),if_pos (by omega)]
        rw [List.getElem?_append_right (by omega),if_neg (by omega),List.getElem?_drop,Array.getElem?_toList]
        congr 1
        omega
       have hsz:arr'.size=arr.size:=by
        show ((arr.toList.take (k*ob.esz+j)++us++arr.toList.drop (k*ob.esz+j+us.length)).toArray).size=_
        simp
        omega
       have hnew:dl β arr' 0 ob.esz (ob.cs.set k (i7 c j vs)):=by
        refine fA (fun d hm=>?_) fun k' j' d z hk' hj'=>?_
        ·rcases List.mem_or_eq_of_mem_set hm with hm|rfl
         ·obtain⟨q,hq⟩:=List.mem_iff_getElem?.1 hm
          exact (hc q d hq).1
         rw [lk c j vs hj];exact hcl
        rw [hget]
        rw [List.getElem?_set] at hk'
        by_cases hkk:k=k'
        ·subst hkk
         rw [if_pos rfl,if_pos (List.getElem?_eq_some_iff.1 hk).1] at hk'
         simp only [Option.some.injEq] at hk'
         subst hk'
         rw [pE c j vs hj] at hj'
         by_cases hin:j≤j'∧j' < j+vs.length
         ·rw [if_pos hin] at hj'
          rw [if_pos (by omega)]
          obtain⟨y',hy',hr'⟩:=hr.get hj'
          exact⟨y',by rw [show k*ob.esz+j' - (k*ob.esz+j)=j' - j from by omega];exact hy',hr'⟩
         rw [if_neg hin] at hj'
         rw [if_neg (by omega)]
         obtain⟨y',hy',hr'⟩:=hcell j' z hj'
         rw [hbase,Nat.zero_add] at hy'
         exact⟨y',hy',hr'⟩
        rw [if_neg hkk] at hk'
        obtain⟨hdl,hdc⟩:=hc k' d hk'
        obtain⟨y',hy',hr'⟩:=hdc j' z hj'
        rw [hbase,Nat.zero_add] at hy'
        have hjd:j' < d.length:=(List.getElem?_eq_some_iff.1 hj').1
        refine⟨y',?_,hr'⟩
        rw [if_neg]
        ·exact hy'
        intro⟨ha,hb⟩
        rcases Nat.lt_or_gt_of_ne hkk with hlt|hgt
        ·have:(k+1)*ob.esz≤k'*ob.esz:=Nat.mul_le_mul_right _ hlt
         rw [Nat.add_mul] at this
         omega
        have:(k'+1)*ob.esz≤k*ob.esz:=Nat.mul_le_mul_right _ hgt
        rw [Nat.add_mul] at this
        omega
       obtain⟨hs',hst⟩:=yB hs (cD hob) hown hp hh hsz hnew (fl':=ob.fl && gV vs) (fun hf=>by
        simp only [Bool.and_eq_true] at hf
        have h1:=hs.flat n ob (cD hob) hf.1
        intro d hd
        rcases List.mem_or_eq_of_mem_set hd with hd|rfl
        ·exact h1 d hd
        have h2:=fy.1 (h1 c (List.mem_of_getElem? hk))
        unfold i7
        exact jp (fy.2 fun s hs=>h2 s (List.mem_of_mem_take hs)) (jp hf.2 (fy.2 fun s hs=>h2 s (List.mem_of_mem_drop hs))))
       refine⟨β,_,hst,hs',.inr ⟨?_,rfl⟩⟩
       unfold execOp
       rw [ho]
       have hrun:=run_storeCells_at P p.blk (k*ob.esz+j) T us 0 arr w hh (by omega) (L2.one hr)
       simp only [Nat.add_zero] at hrun
       have husz:us.toArray.size=cA P t:=by simp;omega
       have hpe':a.eval x=.pointer (some ⟨p.blk,k*ob.esz+j,none⟩):=by rw [hpe,hbase,he,Nat.zero_add]
       simp only [hpe',Instr.storeAt,Instr.sureAddr,Sem.run_bind,Sem.run_pure,Result.andThen_ok,storeVar,dW w (j9 hkn),husz,ne_eq,not_true,if_false,hus,List.toList_toArray,hrun]
       rfl
      cases h
     cases h
    cases h
   cases h
  cases h
 cases h
end
end
section
open Go.RowKit
section
variable {P:Program} {β:Be} {s:S} {a:Act} {w:World} {o:Oper} {r:OpR} {ty:TypeId}
theorem wO (hs:HSim β s.hp w) (hsl:SlotsR β s.sl a.tmps) (x:Operand) (ho:o.op=.nilCheck x) (h:bE P s ty (.nilCheck x)=some r):f_ β s r w ((execOp a.eval o).run P w):=by
 simp only [bE] at h
 split at h
 ·rename_i n k j hx
  have hv:ScR β (.pt n k j) (a.eval x):=c9 hsl hx
  simp only [Option.some.injEq] at h
  subst h
  refine bx hs (v:=a.eval x) ?_ hv
  obtain⟨p,hp,hpe⟩:=hv
  unfold execOp
  rw [ho]
  simp [hpe]
 ·rename_i f caps hx
  have hv:gf β (.cl f caps) (a.eval x):=c9 hsl hx
  simp only [Option.some.injEq] at h
  subst h
  refine bx hs (v:=a.eval x) ?_ hv
  obtain⟨vs,hpe,_⟩:=hv
  unfold execOp
  rw [ho]
  simp [hpe]
 cases h
theorem Fp {op:BinOp} {k k':IntKind} {x y:Int} {t:TypeId} {q:Sc} {c:Prop} (h:iJ P t op (.int k x) (.int k' y)=some (q,c)) (hc:c) (X Y:Operand):
  ∃ v,(do eqGuard op t X Y (.int k x) (.int k' y);binOp op t (.int k x) (.int k' y)).run P w=.ok v w∧ScR β q v:=by
 have hg:∀ (m:Sem Value),(do eqGuard op t X Y (.int k x) (.int k' y);m).run P w=m.run P w:=by
  intro m
  cases op<;>simp [eqGuard]
 rw [hg]
 cases op with
 |shl=>
  simp only [iJ,Option.some.injEq,Prod.mk.injEq] at h
  obtain⟨rfl,rfl⟩:=h
  exact⟨_,by simp [binOp,Op.shift,Int.not_lt.2 hc],rfl⟩
 |shr=>
  simp only [iJ,Option.some.injEq,Prod.mk.injEq] at h
  obtain⟨rfl,rfl⟩:=h
  exact⟨_,by simp [binOp,Op.shift,Int.not_lt.2 hc],rfl⟩
 |andNot=>
  simp only [iJ,Aq] at h
  split at h<;>cases h
 |quo=>
  simp only [iJ,Aq] at h
  split at h
  ·rename_i hk
   subst hk
   simp only [Option.some.injEq,Prod.mk.injEq] at h
   obtain⟨rfl,rfl⟩:=h
   exact⟨_,by simp [binOp,Op.intDiv,hc],rfl⟩
  cases h
 |rem=>
  simp only [iJ,Aq] at h
  split at h
  ·rename_i hk
   subst hk
   simp only [Option.some.injEq,Prod.mk.injEq] at h
   obtain⟨rfl,rfl⟩:=h
   exact⟨_,by simp [binOp,Op.intDiv,hc],rfl⟩
  cases h
 |_=>
  simp only [iJ,Aq] at h
  split at h
  ·rename_i hk
   subst hk
   simp only [Option.some.injEq,Prod.mk.injEq] at h
   obtain⟨rfl,rfl⟩:=h
   exact⟨_,by simp [binOp,Op.intArith,Op.intBits,Op.intCmp];try rfl,rfl⟩
  cases h
theorem Fq (x y:List UInt8):(ByteArray.mk x.toArray)++(ByteArray.mk y.toArray)=ByteArray.mk (x++y).toArray:=by
 apply ByteArray.ext
 simp
theorem Fr {op:BinOp} {x y:List UInt8} {t:TypeId} {q:Sc} {c:Prop} (h:iJ P t op (.st x) (.st y)=some (q,c)) (hc:c) (X Y:Operand):
  ∃ v,(do eqGuard op t X Y (.string ⟨x.toArray⟩) (.string ⟨y.toArray⟩);binOp op t (.string ⟨x.toArray⟩) (.string ⟨y.toArray⟩)).run P w=.ok v w∧ScR β q v:=by
 have hg:∀ (m:Sem Value),(do eqGuard op t X Y (.string ⟨x.toArray⟩) (.string ⟨y.toArray⟩);m).run P w=m.run P w:=by
  intro m
  cases op<;>simp [eqGuard]
 rw [hg]
 cases op with
 |add=>
  simp only [iJ,Option.some.injEq,Prod.mk.injEq] at h
  obtain⟨rfl,rfl⟩:=h
  refine⟨.string ⟨(x++y).toArray⟩,?_,rfl⟩
  rw [binOp_string_add,run_string_add_sum w _ _ (by simp [ByteArray.size];omega),Fq]
 |eql=>
  simp only [iJ,Option.some.injEq,Prod.mk.injEq] at h
  obtain⟨rfl,rfl⟩:=h
  exact⟨_,by simp [binOp,Op.stringOp],rfl⟩
 |neq=>
  simp only [iJ,Option.some.injEq,Prod.mk.injEq] at h
  obtain⟨rfl,rfl⟩:=h
  exact⟨_,by simp [binOp,Op.stringOp],rfl⟩
 |_=>simp only [iJ] at h;cases h
theorem sI {t:TypeId} (ht:pA P t=true) (d:Nat) (x y:Bool):(Op.equalIn (d+1) t (.bool x) (.bool y)).run P w=.ok (x == y) w:=by
 simp only [Op.equalIn,Sem.run_bind,run_underlying (Ar ht),Result.andThen_ok,Sem.run_pure]
theorem n9 {t:TypeId} (ht:pA P t=true) (x y:Bool):(Op.equal t (.bool x) (.bool y)).run P w=.ok (x == y) w:=by
 exact sI ht 9999 x y
theorem Fs {op:BinOp} {x y:Bool} {t:TypeId} {q:Sc} {c:Prop} (h:iJ P t op (.bo x) (.bo y)=some (q,c)) (X Y:Operand):
  ∃ v,(do eqGuard op t X Y (.bool x) (.bool y);binOp op t (.bool x) (.bool y)).run P w=.ok v w∧ScR β q v:=by
 have hg:∀ (m:Sem Value),(do eqGuard op t X Y (.bool x) (.bool y);m).run P w=m.run P w:=by
  intro m
  cases op<;>simp [eqGuard]
 rw [hg]
 cases op with
 |eql=>
  simp only [iJ] at h
  split at h
  ·rename_i ht
   simp only [Option.some.injEq,Prod.mk.injEq] at h
   obtain⟨rfl,rfl⟩:=h
   exact⟨_,by simp only [binOp,Sem.run_bind,n9 ht,Result.andThen_ok,Sem.run_pure],rfl⟩
  cases h
 |neq=>
  simp only [iJ] at h
  split at h
  ·rename_i ht
   simp only [Option.some.injEq,Prod.mk.injEq] at h
   obtain⟨rfl,rfl⟩:=h
   exact⟨_,by simp only [binOp,Sem.run_bind,n9 ht,Result.andThen_ok,Sem.run_pure],rfl⟩
  cases h
 |_=>simp only [iJ] at h;cases h
theorem NT (hs:HSim β s.hp w) (hsl:SlotsR β s.sl a.tmps) (op:BinOp) (t u:TypeId) (x y:Operand) (ho:o.op=.binOp op t x y u) (h:bE P s ty (.binOp op t x y u)=some r) (hc:r.c):f_ β s r w ((execOp a.eval o).run P w):=by
 simp only [bE] at h
 split at h
 ·rename_i p q hx hy
  have hvx:ScR β p (a.eval x):=c9 hsl hx
  have hvy:ScR β q (a.eval y):=c9 hsl hy
  split at h
  ·rename_i res c hb
   simp only [Option.some.injEq] at h
   subst h
   have hc':c:=hc
   have key:∃ v,(do eqGuard op t x y (a.eval x) (a.eval y);binOp op t (a.eval x) (a.eval y)).run P w=.ok v w∧ScR β res v:=by
    cases p with
    |int k n=>cases q with
     |int k' m=>
      have e1:a.eval x=.int k n:=hvx
      have e2:a.eval y=.int k' m:=hvy
      rw [e1,e2];exact Fp hb hc' x y
     |_=>simp only [iJ] at hb;cases hb
    |st l=>cases q with
     |st m=>
      have e1:a.eval x=.string ⟨l.toArray⟩:=hvx
      have e2:a.eval y=.string ⟨m.toArray⟩:=hvy
      rw [e1,e2];exact Fr hb hc' x y
     |_=>simp only [iJ] at hb;cases hb
    |bo l=>cases q with
     |bo m=>
      have e1:a.eval x=.bool l:=hvx
      have e2:a.eval y=.bool m:=hvy
      rw [e1,e2];exact Fs hb x y
     |_=>simp only [iJ] at hb;cases hb
    |_=>simp only [iJ] at hb;cases hb
   obtain⟨v,hrun,hr⟩:=key
   refine dj hs (v:=v) ?_ hr
   unfold execOp
   rw [ho]
   simp only [Sem.run_bind] at hrun⊢
   rw [hrun]
   rfl
  cases h
 ·rename_i p q hx hy
  obtain⟨vs,hpe,hl⟩:gf β (.ag p) (a.eval x):=c9 hsl hx
  obtain⟨us,hqe,hm⟩:gf β (.ag q) (a.eval y):=c9 hsl hy
  split at h
  ·simp only [Option.some.injEq] at h
   subst h
   obtain⟨h1,_⟩:=(show Br P t p q (cq p q) from hc) β w x y vs us hl hm
   refine dj hs (v:=.bool (cq p q)) ?_ rfl
   unfold execOp
   rw [ho]
   simp only [Sem.run_bind] at h1⊢
   rw [hpe,hqe,h1]
   rfl
  ·simp only [Option.some.injEq] at h
   subst h
   obtain⟨_,h1⟩:=(show Br P t p q (cq p q) from hc) β w x y vs us hl hm
   refine dj hs (v:=.bool (!cq p q)) ?_ rfl
   unfold execOp
   rw [ho]
   simp only [Sem.run_bind] at h1⊢
   rw [hpe,hqe,h1]
   rfl
  cases h
 cases h
theorem Ui (hs:HSim β s.hp w) (hsl:SlotsR β s.sl a.tmps) (op:UnOp) (t:TypeId) (x:Operand) (ho:o.op=.unOp op t x) (h:bE P s ty (.unOp op t x)=some r):f_ β s r w ((execOp a.eval o).run P w):=by
 simp only [bE] at h
 split at h
 ·rename_i b hx
  have hv:a.eval x=.bool b:=c9 hsl hx
  split at h
  ·simp only [Option.some.injEq] at h
   subst h
   refine bx hs (v:=.bool (!b)) ?_ rfl
   unfold execOp
   rw [ho]
   simp [hv,Op.unary]
  cases h
 ·rename_i k n hx
  have hv:a.eval x=.int k n:=c9 hsl hx
  split at h
  ·simp only [Option.some.injEq] at h
   subst h
   refine bx hs (v:=.int k (k.wrap (0 - n))) ?_ rfl
   unfold execOp
   rw [ho]
   simp [hv,Op.unary,Op.intArith]
  cases h
 cases h
theorem uS (hs:HSim β s.hp w) (hsl:SlotsR β s.sl a.tmps) (t:TypeId) (x:Operand) (f:Nat) (ho:o.op=.fieldAddr t x f) (h:bE P s ty (.fieldAddr t x f)=some r):f_ β s r w ((execOp a.eval o).run P w):=by
 simp only [bE] at h
 split at h
 ·rename_i n k j off sz hx hf
  obtain⟨p,hp,hpe⟩:ScR β (.pt n k j) (a.eval x):=c9 hsl hx
  simp only [Option.some.injEq] at h
  subst h
  unfold ai at hf
  split at hf
  ·rename_i fs hfs
   split at hf
   ·rename_i g hg
    split at hf
    ·cases hf
    rename_i hz
    simp only [Option.some.injEq,Prod.mk.injEq] at hf
    obtain⟨rfl,rfl⟩:=hf
    refine bx hs (v:=.pointer (some ⟨p.blk,p.base+k*p.esz+(j+g.offset),none⟩)) ?_ ⟨p,hp,rfl⟩
    unfold execOp
    rw [ho]
    have hi:(P.info? g.type).isSome=true:=zA (by omega)
    simp [hpe,Instr.fieldAt,run_underlying hfs,hg,Instr.sureAddr,fieldPlace,dW w hi,hz,Addr.add_lit,Nat.add_assoc]
   cases hf
  cases hf
 cases h
theorem Bz (hs:HSim β s.hp w) (hsl:SlotsR β s.sl a.tmps) (t:TypeId) (x:Operand) (f:Nat) (ho:o.op=.field t x f) (h:bE P s ty (.field t x f)=some r):f_ β s r w ((execOp a.eval o).run P w):=by
 simp only [bE] at h
 split at h
 ·rename_i cs off hx hf
  obtain⟨vs,hve,hl⟩:gf β (.ag cs) (a.eval x):=c9 hsl hx
  split at h
  ·rename_i c hc
   simp only [Option.some.injEq] at h
   subst h
   obtain⟨v,hv,hr⟩:=hl.get hc
   unfold ZK at hf
   split at hf
   ·rename_i fs hfs
    split at hf
    ·rename_i g hg
     split at hf
     ·rename_i hk
      simp only [Option.some.injEq] at hf
      subst hf
      simp only [Bool.and_eq_true,Bool.not_eq_true',ew] at hk
      obtain⟨⟨h1,_⟩,h2⟩:=hk
      obtain⟨d,hd⟩:=Option.isSome_iff_exists.1 h1
      refine bx hs (v:=v) ?_ hr
      unfold execOp
      rw [ho]
      simp [hve,Instr.field,run_underlying hfs,hg,part,asAgg,ip w hd,h2,hv]
     cases hf
    cases hf
   cases hf
  cases h
 cases h
theorem uT (hs:HSim β s.hp w) (hsl:SlotsR β s.sl a.tmps) (t:TypeId) (x i:Operand) (ho:o.op=.indexAddr t x i) (h:bE P s ty (.indexAddr t x i)=some r) (hc:r.c):f_ β s r w ((execOp a.eval o).run P w):=by
 simp only [bE] at h
 split at h
 ·rename_i n off len k m e sz hx hi ht0
  obtain⟨ht,hkn,rfl⟩:=gg ht0
  have hvx:ScR β (.sl n off len) (a.eval x):=c9 hsl hx
  have hvi:a.eval i=.int k m:=c9 hsl hi
  split at h
  ·rename_i ob hob
   split at h
   ·rename_i hesz
    simp only [Option.some.injEq] at h
    subst h
    obtain⟨h0,h1⟩:0≤m∧m < len:=hc
    obtain⟨ad,cap,hxe,hlc,hcm,hor⟩:=hvx
    rcases hor with rfl|⟨p,hp,rfl,hav⟩
    ·omega
    obtain⟨he,_⟩:=gQ hs (cD hob) hp
    refine dj hs (v:=.pointer (some ⟨p.blk,p.base+(off+m.toNat)*p.esz+0,none⟩)) ?_ ⟨p,hp,rfl⟩
    unfold execOp
    rw [ho]
    have hes:p.base+(off+m.toNat)*p.esz=p.base+off*p.esz+m.toNat*cA P e:=by rw [←hesz,←he,Nat.add_mul,Nat.add_assoc]
    simp [hxe,hvi,Instr.indexAt,asIntOf,run_underlying (fQ ht),h0,h1,dW w (j9 hkn),Addr.add_lit,hes]
   cases h
  cases h
 cases h
theorem BA (hs:HSim β s.hp w) (hsl:SlotsR β s.sl a.tmps) (t:TypeId) (x i:Operand) (ho:o.op=.index t x i) (h:bE P s ty (.index t x i)=some r) (hc:r.c):f_ β s r w ((execOp a.eval o).run P w):=by
 simp only [bE] at h
 split at h
 ·rename_i l k m hx hi
  have hvx:a.eval x=.string ⟨l.toArray⟩:=c9 hsl hx
  have hvi:a.eval i=.int k m:=c9 hsl hi
  split at h
  ·rename_i ht
   simp only [Option.some.injEq] at h
   subst h
   obtain⟨h0,h1⟩:0≤m∧m < l.length:=hc
   have hlt:m.toNat < l.length:=by omega
   refine dj hs (v:=.int .u8 (l.getD m.toNat 0).toNat) ?_ rfl
   unfold execOp
   rw [ho]
   have hg:(ByteArray.mk l.toArray)[m.toNat]? =some (l[m.toNat]'hlt):=by
    rw [getElem?_pos (ByteArray.mk l.toArray) m.toNat (by simpa [ByteArray.size] using hlt)]
    simp [ByteArray.getElem_eq_getElem_data]
   simp [hvx,hvi,Instr.index,asIntOf,run_underlying (mn ht),h0,hg,List.getD_eq_getElem?_getD,List.getElem?_eq_getElem hlt]
  cases h
 cases h
theorem yC (hs:HSim β s.hp w) (hsl:SlotsR β s.sl a.tmps) (x:Operand) (i:Nat) (ho:o.op=.extract x i) (h:bE P s ty (.extract x i)=some r):f_ β s r w ((execOp a.eval o).run P w):=by
 simp only [bE] at h
 split at h
 ·rename_i l hx
  obtain⟨vs,hpe,hl⟩:gf β (.tu l) (a.eval x):=c9 hsl hx
  split at h
  ·rename_i c hc
   simp only [Option.some.injEq] at h
   subst h
   obtain⟨v,hv,hr⟩:=hl.get hc
   refine bx hs (v:=v) ?_ (Co.av_R hr)
   unfold execOp
   rw [ho]
   simp [hpe,Instr.extract,hv]
  cases h
 cases h
theorem wP (hs:HSim β s.hp w) (hsl:SlotsR β s.sl a.tmps) (f:FuncId) (first caps:Array Operand) (ho:o.op=.makeFunc (.func f) first caps) (h:bE P s ty (.makeFunc (.func f) first caps)=some r):f_ β s r w ((execOp a.eval o).run P w):=by
 simp only [bE] at h
 split at h
 ·rename_i hf
  have hf':first= #[]:=Array.eq_empty_of_size_eq_zero hf
  subst hf'
  split at h
  ·rename_i l hl
   simp only [Option.some.injEq] at h
   subst h
   refine bx hs (v:=.func (.func f) #[] (caps.toList.map a.eval).toArray) ?_ ⟨_,rfl,zy hsl hl⟩
   unfold execOp
   rw [ho]
   have e:caps.map a.eval=(caps.toList.map a.eval).toArray:=by apply Array.ext';simp
   simp [Instr.makeFunc,e]
  cases h
 cases h
theorem iM {α:Type} {l:Array α} {x y:α} (h:l.toList=[x,y]):l= #[x,y]:=by apply Array.ext';simpa using h
theorem n_ {α:Type} {l:Array α} {x:α} (h:l.toList=[x]):l= #[x]:=by apply Array.ext';simpa using h
theorem NU (hs:HSim β s.hp w) (hsl:SlotsR β s.sl a.tmps) (args:Array Operand) (at_:Array TypeId) (ho:o.op=.call ⟨.builtin .len,args,at_⟩) (h:bE P s ty (.call ⟨.builtin .len,args,at_⟩)=some r):f_ β s r w ((execOp a.eval o).run P w):=by
 simp only [bE] at h
 split at h
 ·rename_i x t ha ht
  have ha':=n_ ha
  have ht':=n_ ht
  subst ha';subst ht'
  split at h
  ·rename_i l hx
   have hv:a.eval x=.string ⟨l.toArray⟩:=c9 hsl hx
   split at h
   ·rename_i hs'
    simp only [Option.some.injEq] at h
    subst h
    refine bx hs (v:=.int .i64 l.length) ?_ rfl
    unfold execOp
    rw [ho]
    have hz:(ByteArray.mk l.toArray).size=l.length:=rfl
    simp only [resolve,invoke,builtin,Builtin.len_,hv,run_underlying (mn hs'),goInt,hz,Sem.run_bind,Sem.run_pure,Result.andThen_ok,List.map_toArray,List.map_cons,List.map_nil,List.getElem?_toArray,List.getElem?_cons_zero]
   cases h
  ·rename_i n off len hx
   obtain⟨ad,cap,hxe,_⟩:ScR β (.sl n off len) (a.eval x):=c9 hsl hx
   split at h
   ·rename_i q hs'
    simp only [Option.some.injEq] at h
    subst h
    obtain⟨e,qn⟩:=q
    obtain⟨he,_⟩:=gg hs'
    refine bx hs (v:=.int .i64 len) ?_ rfl
    unfold execOp
    rw [ho]
    simp [resolve,invoke,builtin,Builtin.len_,hxe,run_underlying (fQ he),goInt]
   cases h
  ·rename_i hx
   obtain⟨ad,hxe⟩:ScR β .nil (a.eval x):=c9 hsl hx
   split at h
   ·rename_i q hs'
    simp only [Option.some.injEq] at h
    subst h
    obtain⟨e,qn⟩:=q
    obtain⟨he,_⟩:=gg hs'
    refine bx hs (v:=.int .i64 0) ?_ rfl
    unfold execOp
    rw [ho]
    simp [resolve,invoke,builtin,Builtin.len_,hxe,run_underlying (fQ he),goInt]
   cases h
  cases h
 cases h
theorem NV (hs:HSim β s.hp w) (hsl:SlotsR β s.sl a.tmps) (args:Array Operand) (at_:Array TypeId) (ho:o.op=.call ⟨.builtin .min,args,at_⟩) (h:bE P s ty (.call ⟨.builtin .min,args,at_⟩)=some r):f_ β s r w ((execOp a.eval o).run P w):=by
 simp only [bE] at h
 split at h
 ·rename_i x y ha
  have ha':=iM ha
  subst ha'
  split at h
  ·rename_i k m k' n hx hy
   have hvx:a.eval x=.int k m:=c9 hsl hx
   have hvy:a.eval y=.int k' n:=c9 hsl hy
   simp only [Option.some.injEq] at h
   subst h
   refine bx hs (v:=.int k (if n < m then n else m)) ?_ rfl
   unfold execOp
   rw [ho]
   simp [resolve,invoke,builtin,Builtin.min_,Builtin.min2,hvx,hvy]
  cases h
 cases h
theorem NW (hs:HSim β s.hp w) (hsl:SlotsR β s.sl a.tmps) (args:Array Operand) (at_:Array TypeId) (ho:o.op=.call ⟨.builtin .max,args,at_⟩) (h:bE P s ty (.call ⟨.builtin .max,args,at_⟩)=some r):f_ β s r w ((execOp a.eval o).run P w):=by
 simp only [bE] at h
 split at h
 ·rename_i x y ha
  have ha':=iM ha
  subst ha'
  split at h
  ·rename_i k m k' n hx hy
   have hvx:a.eval x=.int k m:=c9 hsl hx
   have hvy:a.eval y=.int k' n:=c9 hsl hy
   simp only [Option.some.injEq] at h
   subst h
   refine bx hs (v:=.int k (if m < n then n else m)) ?_ rfl
   unfold execOp
   rw [ho]
   simp [resolve,invoke,builtin,Builtin.max_,Builtin.max2,hvx,hvy]
  cases h
 cases h
end
end
section
open Go.RowKit
section
variable {P:Program} {β:Be} {s:S} {a:Act} {w:World} {o:Oper} {r:OpR} {ty:TypeId}
theorem dO (src dst:TypeId) (x:Operand) (ho:o.op=.convert src dst x) {v:Value} {w':World} (h:(convert src dst (a.eval x)).run P w=.ok v w'):(execOp a.eval o).run P w=.ok (.value v) w':=by
 unfold execOp
 rw [ho]
 simp only [Sem.run_bind,h,Result.andThen_ok]
 rfl
theorem oc {arr:Array Value} {base esz:Nat} {cs:List (List Sc)} (hc:dl β arr base esz cs) {off len:Nat} (hb:off+len≤cs.length) {k j:Nat} (hk:k < len) (hj:j < esz):
  ∃ c x v,cs[off+k]? =some c∧c[j]? =some x∧arr[base+(off+k)*esz+j]? =some v∧ScR β x v:=by
 have h1:cs[off+k]? =some (cs[off+k]'(by omega)):=List.getElem?_eq_getElem (by omega)
 obtain⟨hl,hcell⟩:=hc _ _ h1
 have h2:(cs[off+k]'(by omega))[j]? =some ((cs[off+k]'(by omega))[j]'(by omega)):=List.getElem?_eq_getElem (by omega)
 obtain⟨v,hv,hr⟩:=hcell j _ h2
 exact⟨_,_,v,h1,h2,hv,hr⟩
theorem Ft {c:List Sc} {x:Sc} (hb:j8 c=true) (hx:c[0]? =some x):∃ n,c=[.int .u8 n]∧x=.int .u8 n:=by
 unfold j8 at hb
 split at hb
 ·rename_i n
  simp at hx
  exact⟨n,rfl,hx.symm⟩
 cases hb
theorem Fu {src dst:TypeId} {k:IntKind} (h:Bp P src dst=some (.int k)):(∃ d,P.underlying src=some d)∧P.underlying dst=some (.int k):=by
 unfold Bp at h
 split at h
 ·rename_i h1 h2
  simp only [Option.some.injEq,Cv.int.injEq] at h
  subst h
  exact⟨⟨_,h1⟩,h2⟩
 ·cases h
 ·split at h<;>cases h
 ·split at h<;>cases h
 cases h
theorem Fv {src dst:TypeId} (h:Bp P src dst=some .str):P.underlying src=some .string∧P.underlying dst=some .string:=by
 unfold Bp at h
 split at h
 ·cases h
 ·rename_i h1 h2;exact⟨h1,h2⟩
 ·split at h<;>cases h
 ·split at h<;>cases h
 cases h
theorem Fw {src dst e:TypeId} (h:Bp P src dst=some (.s2b e)):P.underlying src=some .string∧P.underlying dst=some (.slice e)∧P.underlying e=some (.int .u8):=by
 unfold Bp at h
 split at h
 ·cases h
 ·cases h
 ·rename_i h1 h2
  split at h
  ·rename_i h3
   simp only [Option.some.injEq,Cv.s2b.injEq] at h
   subst h
   exact⟨h1,h2,zz h3⟩
  cases h
 ·split at h<;>cases h
 cases h
theorem zF {src dst:TypeId} (h:Bp P src dst=some .b2s):∃ e,P.underlying src=some (.slice e)∧P.underlying dst=some .string∧P.underlying e=some (.int .u8):=by
 unfold Bp at h
 split at h
 ·cases h
 ·cases h
 ·split at h<;>cases h
 ·rename_i e h1 h2
  split at h
  ·rename_i h3
   exact⟨e,h1,h2,zz h3⟩
  cases h
 cases h
theorem yD (hs:HSim β s.hp w) (hsl:SlotsR β s.sl a.tmps) (src dst:TypeId) (x:Operand) (ho:o.op=.convert src dst x) (h:bE P s ty (.convert src dst x)=some r) (hc:r.c):f_ β s r w ((execOp a.eval o).run P w):=by
 simp only [bE] at h
 split at h
 ·rename_i k' k n hcv hx
  have hv:a.eval x=.int k n:=c9 hsl hx
  obtain⟨⟨d,hd⟩,hk'⟩:=Fu hcv
  simp only [Option.some.injEq] at h
  subst h
  refine bx hs (v:=.int k' (k'.wrap n)) (dO src dst x ho ?_) rfl
  rw [hv]
  simp [convert,run_underlying hd,run_underlying hk',Conv.intToInt]
 ·rename_i l hcv hx
  have hv:a.eval x=.string ⟨l.toArray⟩:=c9 hsl hx
  obtain⟨hd,hdst⟩:=Fv hcv
  simp only [Option.some.injEq] at h
  subst h
  refine bx hs (v:=.string ⟨l.toArray⟩) (dO src dst x ho ?_) rfl
  rw [hv]
  simp [convert,run_underlying hd,run_underlying hdst]
 ·rename_i e l hcv hx
  have hv:a.eval x=.string ⟨l.toArray⟩:=c9 hsl hx
  obtain⟨hd,hdst,hu8⟩:=Fw hcv
  simp only [Option.some.injEq] at h
  subst h
  have hlen:l.length≤1073741824:=hc
  have hz:(ByteArray.mk l.toArray).size=l.length:=rfl
  have hrun:=Lib.run_convert_string_bytes (P:=P) w src dst e ⟨l.toArray⟩ hd hdst hu8
  have hge:=grownCap_ge w l.length 0 e
  have hle:=grownCap_le_maxLen w l.length 0 e (by unfold maxLen;omega)
  have hcells:(Lib.bytesCells w e ⟨l.toArray⟩).size=grownCap w l.length 0 e:=by
   simp only [Lib.bytesCells,hz,Array.size_append,Array.size_map,Array.size_replicate]
   have:(ByteArray.mk l.toArray).data.size=l.length:=rfl
   rw [this]
   omega
  let p:Pl:=⟨w.heap.size,0,1,grownCap w l.length 0 e⟩
  have hlike:World.like w (Lib.bytesWorld w e ⟨l.toArray⟩):=⟨rfl,rfl,rfl⟩
  refine⟨β++[some p],Lib.bytesWorld w e ⟨l.toArray⟩,j6 hs.len hlike (by rw [Lib.bytesWorld_size];omega) (fun k hk=>Lib.bytesWorld_at_old w e _ k hk) p _ (Nat.le_refl _),
   lS hs (fun k hk=>Lib.bytesWorld_at_old w e _ k hk) (Nat.le_refl _) ?_ (fun _ c hm=>by
    simp only [List.mem_map] at hm
    obtain⟨b,_,rfl⟩:=hm
    rfl),.inl ⟨.slice (some ⟨w.heap.size,0,none⟩) l.length (grownCap w l.length 0 e),_,dO src dst x ho (by rw [hv];exact hrun),rfl,?_⟩⟩
  ·refine⟨rfl,_,_,_,Lib.bytesWorld_at_new w e _,?_,fun hown=>by cases hown⟩
   refine fA (fun c hm=>?_) fun k j c y hk hj=>?_
   ·simp only [List.mem_map] at hm
    obtain⟨b,_,rfl⟩:=hm
    rfl
   simp only [List.getElem?_map,Option.map_eq_some_iff] at hk
   obtain⟨b,hb,rfl⟩:=hk
   have hj0:j=0:=by have:=(List.getElem?_eq_some_iff.1 hj).1;simpa [yw] using this
   subst hj0
   simp only [yw,List.getElem?_cons_zero,Option.some.injEq] at hj
   subst hj
   have hkl:k < l.length:=(List.getElem?_eq_some_iff.1 hb).1
   refine⟨.int .u8 b.toNat,?_,rfl⟩
   simp only [Nat.mul_one,Nat.add_zero,Lib.bytesCells]
   rw [Array.getElem?_append_left (by simpa using hkl)]
   simp [hb]
  exact⟨_,_,rfl,hge,hle,.inr ⟨p,by rw [←hs.len];simp,by simp [p],by simp [p]⟩⟩
 ·rename_i n off len hcv hx
  have hvx:ScR β (.sl n off len) (a.eval x):=c9 hsl hx
  obtain⟨e,hsrc,hdst,hu8⟩:=zF hcv
  split at h
  ·rename_i ob hob
   split at h
   ·rename_i hesz
    simp only [Option.some.injEq] at h
    subst h
    obtain⟨hb,hall⟩:off+len≤ob.cs.length∧∀ c∈ob.cs,j8 c=true:=hc
    obtain⟨ad,cap,hxe,hlc,hcm,hor⟩:=hvx
    rcases hor with hcap|⟨p,hp,rfl,hav⟩
    ·have hl0:len=0:=by omega
     subst hl0
     refine dj hs (v:=.string ⟨#[]⟩) (dO src dst x ho ?_) ?_
     ·rw [hxe]
      cases ad with
      |none=>exact run_convert_bytes_nil w src e hsrc hu8 0 cap dst hdst
      |some b=>
       rw [run_convert_bytes_string w src dst e _ 0 cap hsrc hu8 hdst,run_bytesToString w b 0 cap [] (by simp [loadCells,loadCellsFrom])]
       rfl
     show Value.string _=_
     simp
    obtain⟨he',arr,T,fz,hh,hcr,_⟩:=gQ hs (cD hob) hp
    rw [hesz] at hcr
    let num:List Sc→Int:=fun c=>match c with|[.int .u8 q]=>q|_=>0
    have hw:=run_convert_bytes_arg (P:=P) w src e hsrc hu8 p.blk (p.base+off*p.esz) len cap (((ob.cs.drop off).take len).map num) (by simp;omega) (fun i hi=>by
     obtain⟨c,y,v,h1,h2,h3,h4⟩:=oc hcr hb hi (j:=0) (by omega)
     obtain⟨q,rfl,rfl⟩:=Ft (hall c (List.mem_of_getElem? h1)) h2
     rw [kO hh,he',hesz]
     have h5:(((ob.cs.drop off).take len).map num).getD i 0=q:=by
      rw [List.getD_eq_getElem?_getD,List.getElem?_map,List.getElem?_take_of_lt hi,List.getElem?_drop,h1]
      rfl
     rw [h5]
     rw [show p.base+off*1+i=p.base+(off+i)*1+0 from by omega,h3,h4]) dst hdst
    refine dj hs (v:=.string (strOfNums (((ob.cs.drop off).take len).map num))) (dO src dst x ho (by rw [hxe];exact hw)) ?_
    show Value.string _=_
    congr 1
    unfold strOfNums
    congr 2
    rw [List.map_map]
    refine List.map_congr_left fun c hm=>?_
    have hb':=hall c (List.mem_of_mem_drop (List.mem_of_mem_take hm))
    unfold j8 at hb'
    split at hb'
    ·rfl
    cases hb'
   cases h
  cases h
 ·rename_i hcv hx
  obtain⟨ad,hxe⟩:ScR β .nil (a.eval x):=c9 hsl hx
  obtain⟨e,hsrc,hdst,hu8⟩:=zF hcv
  simp only [Option.some.injEq] at h
  subst h
  refine bx hs (v:=.string ⟨#[]⟩) (dO src dst x ho ?_) rfl
  rw [hxe]
  cases ad with
  |none=>exact run_convert_bytes_nil w src e hsrc hu8 0 0 dst hdst
  |some b=>
   rw [run_convert_bytes_string w src dst e _ 0 0 hsrc hu8 hdst,run_bytesToString w b 0 0 [] (by simp [loadCells,loadCellsFrom])]
   rfl
 cases h
theorem uU (hs:HSim β s.hp w) (hsl:SlotsR β s.sl a.tmps) (t:TypeId) (x y:Operand) (ho:o.op=.makeSlice t x y) (h:bE P s ty (.makeSlice t x y)=some r) (hc:r.c):f_ β s r w ((execOp a.eval o).run P w):=by
 simp only [bE] at h
 split at h
 ·rename_i e sz he0
  obtain⟨he,_,rfl⟩:=gg he0
  split at h
  ·rename_i z hz0
   obtain⟨hz,hzl,hpos,_,hby,_⟩:=j7 hz0
   split at h
   ·rename_i k l k' c hx hy
    have hvx:a.eval x=.int k l:=c9 hsl hx
    have hvy:a.eval y=.int k' c:=c9 hsl hy
    simp only [Option.some.injEq] at h
    subst h
    obtain⟨h0,h1,h2⟩:0≤l∧l≤c∧c≤1073741824:=hc
    obtain⟨i,v,vs,hi,hzv,hvc,hsc⟩:=iq hz
    have hr:=pB β hsc
    have hti:=pC hi
    have hvl:=hr.length
    have hbi:i.bytes≤131072:=by
     have:Ug P e=i.bytes:=by simp [Ug,hi]
     omega
    have hb2:(i.bytes:Int)*c≤281474976710656:=by
     obtain⟨m,rfl⟩:=Int.eq_ofNat_of_zero_le (show 0≤c by omega)
     have:i.bytes*m≤131072*m:=Nat.mul_le_mul_right _ hbi
     have h3:((i.bytes*m:Nat):Int)≤281474976710656:=by omega
     rwa [Int.natCast_mul] at h3
    have hrun:=run_make (P:=P) w t e i v (fQ he) hi hzv k k' l c h0 h1 hb2 (by omega)
    refine mr hs (arr:=madeCells v.cells (c.toNat*i.size)) (v:=.slice (some ⟨w.heap.size,0,none⟩) l.toNat c.toNat) ?_ ?_ (fun h d hm=>by rw [List.eq_of_mem_replicate hm];exact h) (Bv hs _ _ _ _ (by omega) (by unfold maxLen;omega) ?_)
    ·unfold execOp
     rw [ho]
     simp only [hvx,hvy,Sem.run_bind,hrun,Result.andThen_ok]
     rfl
    ·refine fA (fun d hm=>by rw [List.eq_of_mem_replicate hm];exact hzl) fun m j d q hk hj=>?_
     have hkl:m < l.toNat:=by have:=(List.getElem?_eq_some_iff.1 hk).1;simpa using this
     rw [List.getElem?_replicate_of_lt hkl] at hk
     simp only [Option.some.injEq] at hk
     subst hk
     obtain⟨u,hu,hru⟩:=hr.get hj
     have hjl:j < z.length:=(List.getElem?_eq_some_iff.1 hj).1
     refine⟨u,?_,hru⟩
     have hzs:vs.toArray.size=i.size:=by simp;omega
     have hg:=tO vs.toArray c.toNat m j (by omega) (by omega)
     rw [hzs] at hg
     unfold madeCells
     rw [hvc,hzs]
     show ((Array.range (c.toNat*i.size)).map (vs.toArray[· % i.size]!))[m*cA P e+j]? =_
     rw [hti,hg]
     simpa using hu
    show c.toNat*cA P e≤(madeCells v.cells (c.toNat*i.size)).size
    rw [size_madeCells,hti]
    exact Nat.le_refl _
   cases h
  cases h
 cases h
theorem wQ {β:Be} {s:S} {a:Act} (hs:SlotsR β s.sl a.tmps) {x:Option Operand} {n:Option Int} (h:io s x=some n):(x=none∧n=none)∨∃ k m,n=some m∧x.map a.eval=some (.int k m):=by
 cases x with
 |none=>simp only [io,Option.some.injEq] at h;exact .inl ⟨rfl,h.symm⟩
 |some x=>
  simp only [io] at h
  split at h
  ·rename_i k m hx
   simp only [Option.some.injEq] at h
   subst h
   have hv:a.eval x=.int k m:=c9 hs hx
   exact .inr ⟨k,m,rfl,by simp [hv]⟩
  cases h
theorem dz (t:TypeId) (x:Operand) (lo hi:Option Operand) (ho:o.op=.slice t x lo hi none) {v:Value} {w':World} (h:(Instr.sliceAt t (a.eval x) (lo.map a.eval) (hi.map a.eval) none).run P w=.ok v w'):(execOp a.eval o).run P w=.ok (.value v) w':=by
 unfold execOp
 rw [ho]
 simp only [Option.map_none,Sem.run_bind,h,Result.andThen_ok]
 rfl
theorem fh {t:TypeId} (ht:yv P t=true) (l:List UInt8) (lo hi:Option Value) (m n:Nat) (hb:(Instr.sliceBounds false l.length l.length lo hi none).run P w=.ok (m,n,l.length) w):
  (Instr.sliceAt t (.string ⟨l.toArray⟩) lo hi none).run P w=.ok (.string ⟨((l.take n).drop m).toArray⟩) w:=by
 rw [run_sliceAt_string w t _ lo hi none (mn ht)]
 have hz:(ByteArray.mk l.toArray).size=l.length:=rfl
 simp only [Instr.slice,Sem.run_bind,run_underlying (mn ht),Result.andThen_ok,Option.isSome_none,Bool.false_eq_true,if_false,Sem.run_pure,hz,hb]
 congr 2
 apply ByteArray.ext
 apply Array.ext'
 simp [ByteArray.data_extract,List.extract_eq_take_drop,List.take_drop]
 by_cases hmn:m≤n
 ·rw [Nat.add_sub_cancel' hmn]
 rw [List.drop_eq_nil_of_le (by simp;omega),List.drop_eq_nil_of_le (by simp;omega)]
theorem jX (b:Bool) (len cap:Nat):(Instr.sliceBounds b len cap none none none).run P w=.ok (0,len,cap) w:=by simp [Instr.sliceBounds]
theorem ll (b:Bool) (len cap:Nat) (k:IntKind) (m:Int) (h0:0≤m) (h1:m≤len):(Instr.sliceBounds b len cap (some (.int k m)) none none).run P w=.ok (m.toNat,len,cap) w:=by
 simp [Instr.sliceBounds,run_sliceBound,h0,h1]
theorem lm (b:Bool) (len cap:Nat) (k:IntKind) (m:Int) (h0:0≤m) (h1:m≤cap):(Instr.sliceBounds b len cap none (some (.int k m)) none).run P w=.ok (0,m.toNat,cap) w:=by
 simp [Instr.sliceBounds,run_sliceBound,h0,h1]
theorem jY (b:Bool) (len cap:Nat) (k k':IntKind) (m n:Int) (h0:0≤m) (h1:m≤n) (h2:n≤cap):(Instr.sliceBounds b len cap (some (.int k m)) (some (.int k' n)) none).run P w=.ok (m.toNat,n.toNat,cap) w:=by
 have h3:0≤n:=by omega
 have h4:m≤(n.toNat:Int):=by omega
 have e1:=run_sliceBound (P:=P) w k m n.toNat .sliceB h0 h4
 have e2:∀ c,(Instr.sliceBound (.int k' n) cap c).run P w=.ok n.toNat w:=fun c=>run_sliceBound (P:=P) w k' n cap c h3 h2
 cases b<;>simp [Instr.sliceBounds,e1,e2]
theorem fR {t e:TypeId} (ht:NQ P t=some e) (hk:ew P e=true) (ad:Option Addr) (len cap:Nat) (lo hi:Option Value) (m n:Nat) (hb:(Instr.sliceBounds true len cap lo hi none).run P w=.ok (m,n,cap) w):
  (Instr.sliceAt t (.slice ad len cap) lo hi none).run P w=.ok (sliced ad m n cap (cA P e)) w:=by
 have hel:P.elem t=e:=by simp [Program.elem,fQ ht]
 have hu:P.underlying t=some (.slice (P.elem t)):=by rw [hel];exact fQ ht
 rw [run_sliceAt_slice w t _ lo hi none hu]
 have:=run_slice_any w t ad len cap hu lo hi none
 rw [this,hb]
 simp only [Result.andThen_ok,hel,dW w (j9 hk)]
theorem ms {n off len esz:Nat} {ad:Option Addr} {cap m q:Nat} (hlc:len≤cap) (hcm:cap≤maxLen) (h:cap=0∨∃ p,β[n]? =some (some p)∧ad=some ⟨p.blk,p.base+off*p.esz,none⟩∧(off+cap)*p.esz≤p.avail)
  (hp:∀ p,β[n]? =some (some p)→p.esz=esz) (hmq:m≤q) (hq:q≤len):ScR β (.sl n (off+m) (q - m)) (sliced ad m q cap esz):=by
 refine⟨_,cap - m,rfl,by omega,by omega,?_⟩
 by_cases hc:cap=m
 ·exact .inl (by omega)
 rcases h with h|⟨p,hp',rfl,hav⟩
 ·exact .inl (by omega)
 refine .inr ⟨p,hp',?_,?_⟩
 ·rw [if_neg hc,←hp p hp']
  simp [Addr.add_lit,Nat.add_mul,Nat.add_assoc]
 rw [show off+m+(cap - m)=off+cap from by omega];exact hav
theorem BB (hs:HSim β s.hp w) (hsl:SlotsR β s.sl a.tmps) (t:TypeId) (x:Operand) (lo hi:Option Operand) (ho:o.op=.slice t x lo hi none) (h:bE P s ty (.slice t x lo hi none)=some r) (hc:r.c):f_ β s r w ((execOp a.eval o).run P w):=by
 simp only [bE] at h
 split at h
 ·rename_i v lo' hi' hx hlo hhi
  have hlo':=wQ hsl hlo
  have hhi':=wQ hsl hhi
  split at h
  ·rename_i l
   have hv:a.eval x=.string ⟨l.toArray⟩:=c9 hsl hx
   split at h
   ·rename_i ht
    rcases hlo' with⟨rfl,rfl⟩|⟨k,m,rfl,hm⟩
    ·rcases hhi' with⟨rfl,rfl⟩|⟨k',n,rfl,hn⟩
     ·simp only [ey,Option.some.injEq] at h
      subst h
      refine bx hs (dz t x none none ho (by rw [hv];exact fh ht l none none 0 l.length (jX _ _ _))) ?_
      show Value.string _=_
      simp
     simp only [ey,Option.some.injEq] at h
     subst h
     obtain⟨h0,h1⟩:0≤n∧n≤l.length:=hc
     refine dj hs (dz t x none hi ho (by rw [hv,hn];exact fh ht l none _ 0 n.toNat (lm _ _ _ _ _ h0 h1))) ?_
     show Value.string _=_
     simp
    rcases hhi' with⟨rfl,rfl⟩|⟨k',n,rfl,hn⟩
    ·simp only [ey,Option.some.injEq] at h
     subst h
     obtain⟨h0,h1⟩:0≤m∧m≤l.length:=hc
     refine dj hs (dz t x lo none ho (by rw [hv,hm];exact fh ht l _ none m.toNat l.length (ll _ _ _ _ _ h0 h1))) ?_
     show Value.string _=_
     simp
    simp only [ey,Option.some.injEq] at h
    subst h
    obtain⟨h0,h1,h2⟩:0≤m∧m≤n∧n≤l.length:=hc
    refine dj hs (dz t x lo hi ho (by rw [hv,hm,hn];exact fh ht l _ _ m.toNat n.toNat (jY _ _ _ _ _ _ _ h0 h1 h2))) ?_
    rfl
   cases h
  ·rename_i n off len
   have hvx:ScR β (.sl n off len) (a.eval x):=c9 hsl hx
   split at h
   ·rename_i e sz ob he0 hob
    obtain⟨he,hkn,rfl⟩:=gg he0
    split at h
    ·rename_i hesz
     obtain⟨ad,cap,hxe,hlc,hcm,hor⟩:=hvx
     have hp:∀ p,β[n]? =some (some p)→p.esz=cA P e:=fun p hp=>by
      obtain⟨he',_⟩:=gQ hs (cD hob) hp
      rw [he',hesz]
     rcases hlo' with⟨rfl,rfl⟩|⟨k,m,rfl,hm⟩
     ·rcases hhi' with⟨rfl,rfl⟩|⟨k',q,rfl,hn⟩
      ·simp only [ey,Option.some.injEq] at h
       subst h
       refine bx hs (dz t x none none ho (by rw [hxe];exact fR he hkn ad len cap none none 0 len (jX _ _ _))) ?_
       have:=ms (m:=0) (q:=len) hlc hcm hor hp (Nat.zero_le _) (Nat.le_refl _)
       show ScR β (Sc.sl n off len) _
       simpa using this
      simp only [ey,Option.some.injEq] at h
      subst h
      obtain⟨h0,h1⟩:0≤q∧q≤len:=hc
      refine dj hs (dz t x none hi ho (by rw [hxe,hn];exact fR he hkn ad len cap none _ 0 q.toNat (lm _ _ _ _ _ h0 (by omega)))) ?_
      have:=ms (m:=0) (q:=q.toNat) hlc hcm hor hp (Nat.zero_le _) (by omega)
      show ScR β (Sc.sl n off q.toNat) _
      simpa using this
     rcases hhi' with⟨rfl,rfl⟩|⟨k',q,rfl,hn⟩
     ·simp only [ey,Option.some.injEq] at h
      subst h
      obtain⟨h0,h1⟩:0≤m∧m≤len:=hc
      refine dj hs (dz t x lo none ho (by rw [hxe,hm];exact fR he hkn ad len cap _ none m.toNat len (ll _ _ _ _ _ h0 h1))) ?_
      exact ms hlc hcm hor hp (by omega) (Nat.le_refl _)
     simp only [ey,Option.some.injEq] at h
     subst h
     obtain⟨h0,h1,h2⟩:0≤m∧m≤q∧q≤len:=hc
     refine dj hs (dz t x lo hi ho (by rw [hxe,hm,hn];exact fR he hkn ad len cap _ _ m.toNat q.toNat (jY _ _ _ _ _ _ _ h0 h1 (by omega)))) ?_
     exact ms hlc hcm hor hp (by omega) (by omega)
    cases h
   cases h
  cases h
 cases h
end
end
section
open Go.RowKit
section
variable {P:Program} {β:Be} {s:S} {a:Act} {w:World} {o:Oper} {r:OpR} {ty:TypeId}
theorem fi {t e:TypeId} (ht:NQ P t=some e) (hi:(P.info? e).isSome=true) (ty:TypeId) (ad ad':Option Addr) (n c' c:Nat) (h:n≤c'):
  (Builtin.append_ #[t,t] ty #[.slice ad' n c',.slice ad 0 c]).run P w=.ok (.slice ad' n c') w:=by
 obtain⟨i,hi⟩:=Option.isSome_iff_exists.1 hi
 cases ad<;>cases ad'<;>simp [Builtin.append_,run_underlying (fQ ht),sizeOf,typeInfo,hi,Builtin.lenOf,h,Builtin.firstCells,loadCells,loadCellsFrom,storeCells]
theorem ka {arr:Array Value} {base esz:Nat} {cs:List (List Sc)} (hc:dl β arr base esz cs) (off len:Nat) (hb:off+len≤cs.length):
  ∃ news:List Value,news.length=len*esz∧(∀ j u,news[j]? =some u→arr[base+off*esz+j]? =some u)∧(∀ u∈news,u.oneCell'=true)∧
   (∀ k c,((cs.drop off).take len)[k]? =some c→c.length=esz∧∀ j x,c[j]? =some x→∃ v,news[k*esz+j]? =some v∧ScR β x v):=by
 have key:∀ i,i < len*esz→∃ v x,arr[base+off*esz+i]? =some v∧ScR β x v:=by
  intro i hi
  have hpos:0 < esz:=by
   rcases Nat.eq_zero_or_pos esz with h|h
   ·subst h;simp at hi
   exact h
  have hk:i / esz < len:=Nat.div_lt_of_lt_mul (by rw [Nat.mul_comm];exact hi)
  obtain⟨c,x,v,_,_,h3,h4⟩:=oc hc hb hk (Nat.mod_lt i hpos)
  refine⟨v,x,?_,h4⟩
  rw [←h3]
  congr 1
  have:=Nat.div_add_mod i esz
  rw [Nat.add_mul]
  rw [Nat.mul_comm esz] at this
  omega
 refine⟨(List.range (len*esz)).map fun i=>(arr[base+off*esz+i]?).getD undef,by simp,?_,?_,?_⟩
 ·intro j u hu
  have hj:j < len*esz:=by have:=(List.getElem?_eq_some_iff.1 hu).1;simpa using this
  simp only [List.getElem?_map,List.getElem?_range hj,Option.map_some,Option.some.injEq] at hu
  obtain⟨v,x,hv,_⟩:=key j hj
  rw [hv] at hu⊢
  simpa using hu
 ·intro u hu
  simp only [List.mem_map,List.mem_range] at hu
  obtain⟨i,hi,rfl⟩:=hu
  obtain⟨v,x,hv,hr⟩:=key i hi
  rw [hv]
  exact hr.one
 intro k c hk
 have hkl:k < len:=by have:=(List.getElem?_eq_some_iff.1 hk).1;simp at this;omega
 rw [List.getElem?_take_of_lt hkl,List.getElem?_drop] at hk
 obtain⟨hl,hcell⟩:=hc _ _ hk
 refine⟨hl,fun j x hj=>?_⟩
 obtain⟨v,hv,hr⟩:=hcell j x hj
 have hjl:j < esz:=by have:=(List.getElem?_eq_some_iff.1 hj).1;omega
 have hlt:k*esz+j < len*esz:=by
  have:(k+1)*esz≤len*esz:=Nat.mul_le_mul_right _ hkl
  rw [Nat.add_mul] at this
  omega
 refine⟨v,?_,hr⟩
 simp only [List.getElem?_map,List.getElem?_range hlt,Option.map_some]
 rw [show base+off*esz+(k*esz+j)=base+(off+k)*esz+j from by rw [Nat.add_mul];omega,hv]
 rfl
theorem i8 {arr:Array Value} {esz:Nat} {cs ds:List (List Sc)} {olds news:List Value} (ho:olds.length=cs.length*esz)
  (h1:∀ (k:Nat) (c:List Sc),cs[k]? =some c→c.length=esz∧∀ (j:Nat) (x:Sc),c[j]? =some x→∃ v,olds[k*esz+j]? =some v∧ScR β x v)
  (h2:∀ (k:Nat) (c:List Sc),ds[k]? =some c→c.length=esz∧∀ (j:Nat) (x:Sc),c[j]? =some x→∃ v,news[k*esz+j]? =some v∧ScR β x v)
  (ha:∀ (i:Nat) (v:Value),(olds++news)[i]? =some v→arr[i]? =some v):dl β arr 0 esz (cs++ds):=by
 intro k c hk
 rcases Nat.lt_or_ge k cs.length with hlt|hge
 ·rw [List.getElem?_append_left hlt] at hk
  obtain⟨hl,hc⟩:=h1 k c hk
  refine⟨hl,fun j x hj=>?_⟩
  obtain⟨v,hv,hr⟩:=hc j x hj
  refine⟨v,?_,hr⟩
  rw [Nat.zero_add]
  refine ha _ _ ?_
  rw [List.getElem?_append_left (List.getElem?_eq_some_iff.1 hv).1]
  exact hv
 rw [List.getElem?_append_right hge] at hk
 obtain⟨hl,hc⟩:=h2 _ c hk
 refine⟨hl,fun j x hj=>?_⟩
 obtain⟨v,hv,hr⟩:=hc j x hj
 refine⟨v,?_,hr⟩
 rw [Nat.zero_add]
 refine ha _ _ ?_
 have e:k*esz+j=olds.length+((k - cs.length)*esz+j):=by
  have:k*esz=(cs.length+(k - cs.length))*esz:=by congr 1;omega
  rw [Nat.add_mul] at this
  omega
 rw [e,List.getElem?_append_right (by omega),Nat.add_sub_cancel_left]
 exact hv
theorem yE (hl:β.length=s.hp.length) (n:Nat):StepR β β s.hp (s.hp.set n none) w w:=
 ⟨Be.le.refl _,rfl,rfl,rfl,Nat.le_refl _,fun _ _ _=>rfl,by simp,fun o ob' hlt ho=>by
  rw [List.getElem?_set] at ho
  split at ho
  ·split at ho<;>cases ho
  ·exact⟨ob',ho,id⟩,fun o ob p hge ho _=>by
  rw [List.getElem?_eq_none (by simpa using hge)] at ho
  cases ho⟩
theorem gh {h:Hp} {n:Nat} {new:AObj} {o:Nat} {x:AObj} (hx:(h.set n none++[some new])[o]? =some (some x)):(o < h.length∧o≠n∧h[o]? =some (some x))∨(o=h.length∧x=new):=by
 have hl:(h.set n none).length=h.length:=by simp
 rcases Nat.lt_trichotomy o h.length with hlt|he|hgt
 ·rw [List.getElem?_append_left (by omega),List.getElem?_set] at hx
  split at hx
  ·split at hx<;>cases hx
  rename_i hne
  exact .inl ⟨hlt,Ne.symm hne,hx⟩
 ·subst he
  rw [List.getElem?_append_right (by omega)] at hx
  simp at hx
  exact .inr ⟨rfl,hx.symm⟩
 rw [List.getElem?_append_right (by omega),List.getElem?_eq_none (by simp;omega)] at hx
 cases hx
theorem pF {h:Hp} (hs:HSim β h w) {n:Nat} {ob:AObj} {p:Pl} (ho:h[n]? =some (some ob)) (hown:ob.own=true) (hp:β[n]? =some (some p)) {w':World} {arr':Array Value} {T:TypeId}
  (hh:w'.heap[p.blk]? =some (.cells arr' T (0,0))) (hk:∀ k,k≠p.blk→w'.heap[k]? =w.heap[k]?) (new:AObj) (he:p.esz=new.esz) (hc:dl (β++[some p]) arr' 0 new.esz new.cs) (hT:T=new.ty) (hbase:p.base=0) (hav:p.avail=arr'.size) (hfl:new.fl=true→FlatL new.cs):
  HSim (β++[some p]) (h.set n none++[some new]) w':=by
 have hle:=Be.le_append β [some p]
 have kb:∀ {o:Nat} {q:Option Pl},o < h.length→(β++[some p])[o]? =some q→β[o]? =some q:=by
  intro o q ho hq
  rwa [List.getElem?_append_left (by rw [hs.len];exact ho)] at hq
 have kn:(β++[some p])[h.length]? =some (some p):=by rw [←hs.len];simp
 refine⟨by simp [hs.len],fun o x hx=>?_,fun o x hx hf=>by rcases gh hx with⟨_,_,hx⟩|⟨_,rfl⟩;exact hs.flat o x hx hf;exact hfl hf,fun o o' x x' q q' hx hx' hxo hq hq' hne=>?_⟩
 ·rcases gh hx with⟨hlt,hne,hx⟩|⟨rfl,rfl⟩
  ·obtain⟨q,hq,hr⟩:=hs.ob o x hx
   refine⟨q,hle _ _ hq,(hr.world fun q' hq'=>?_).mono hle⟩
   subst hq'
   exact hk _ (hs.apart n o ob x p q' ho hx hown hp hq (Ne.symm hne)).symm
  exact⟨some p,kn,he,arr',T,(0,0),hh,by rw [hbase];exact hc,fun _=>⟨hT,rfl,hbase,hav⟩⟩
 rcases gh hx with⟨hlt,h1,h1'⟩|⟨rfl,rfl⟩
 ·rcases gh hx' with⟨hlt',h2,h2'⟩|⟨rfl,rfl⟩
  ·exact hs.apart o o' x x' q q' h1' h2' hxo (kb hlt hq) (kb hlt' hq') hne
  rw [kn] at hq'
  simp only [Option.some.injEq] at hq'
  subst hq'
  exact (hs.apart n o ob x p q ho h1' hown hp (kb hlt hq) (Ne.symm h1)).symm
 rw [kn] at hq
 simp only [Option.some.injEq] at hq
 subst hq
 rcases gh hx' with⟨hlt',h2,h2'⟩|⟨rfl,rfl⟩
 ·exact hs.apart n o' ob x' p q' ho h2' hown hp (kb hlt' hq') (Ne.symm h2)
 exact absurd rfl hne
theorem od {h:Hp} (hs:HSim β h w) {n:Nat} (hn:n < h.length) {ob:AObj} {p:Pl} (ho:h[n]? =some (some ob)) (hown:ob.own=true) (hp:β[n]? =some (some p)) {w':World}
  (hlike:World.like w w') (hsz:w.heap.size≤w'.heap.size) (hk:∀ k,k≠p.blk→w'.heap[k]? =w.heap[k]?) (new:AObj):StepR β (β++[some p]) h (h.set n none++[some new]) w w':=
 ⟨Be.le_append _ _,hlike.1,hlike.2.1,hlike.2.2,hsz,fun k _ hno=>hk k (fun hb=>hno ⟨n,ob,p,ho,hown,hp,hb.symm⟩),by simp,fun o ob' hlt ho'=>by
  rcases gh ho' with⟨_,_,h1⟩|⟨rfl,_⟩
  ·exact⟨ob',h1,id⟩
  ·omega,fun o ob' q hge ho' hq=>by
  rcases gh ho' with⟨h1,_,_⟩|⟨rfl,_⟩
  ·omega
  rw [←hs.len] at hq
  simp at hq
  subst hq
  exact .inl ⟨n,ob,p,ho,hown,hp,rfl⟩⟩
theorem dg (x y:Operand) (t:TypeId) (ho:o.op=.call ⟨.builtin .append,#[x,y],#[t,t]⟩) {v:Value} {w':World} (h:(Builtin.append_ #[t,t] o.type #[a.eval x,a.eval y]).run P w=.ok v w'):(execOp a.eval o).run P w=.ok (.value v) w':=by
 unfold execOp
 rw [ho]
 simp only [resolve,invoke,builtin,Sem.run_bind,Sem.run_pure,Result.andThen_ok,List.map_toArray,List.map_cons,List.map_nil,h]
theorem tP {h h':Hp} (hs:HSim β h w) (hs':HSim β h' w) (hst:StepR β β h h' w w) {t e:TypeId} {i:TypeInfo} {z:Value} (ht:NQ P t=some e) (hi:P.info? e=some i) (hz:i.zero=some z) (hzs:z.cells.size=i.size)
  {ad':Option Addr} {n cap':Nat} {olds:List Value} (hlo:olds.length=n*i.size) (holds:(ad'=none∧n=0)∨∃ b,ad'=some b∧∀ j v,olds[j]? =some v→w.cell? (b.add j)=some v) (hnn:ad'=none→n=0∧cap'=0)
  {b:Addr} {m c:Nat} {news:List Value} (hl:news.length=m*i.size) (hnews:∀ j v,news[j]? =some v→w.cell? (b.add j)=some v) (hg:cap' < n+m) (hm:0 < m) (hsm:n+m≤1073741824) (hby:i.bytes≤131072)
  {cs:List (List Sc)} {fl:Bool} (hcs:dl β (olds++news).toArray 0 i.size cs) (hfl:fl=true→FlatL cs) (ty:TypeId):
  ∃ β' w' v,(Builtin.append_ #[t,t] ty #[.slice ad' n cap',.slice (some b) m c]).run P w=.ok v w'∧StepR β β' h (h'++[some ⟨cs,i.size,e,true,fl⟩]) w w'∧HSim β' (h'++[some ⟨cs,i.size,e,true,fl⟩]) w'∧ScR β' (.sl h'.length 0 (n+m)) v:=by
 have hbytes:(n+m)*i.bytes≤140737488355328:=by
  have:(n+m)*i.bytes≤1073741824*131072:=Nat.mul_le_mul hsm hby
  omega
 have hge:=grownCap_ge w (n+m) cap' e
 have hcm:grownCap w (n+m) cap' e≤maxLen:=grownCap_le_maxLen w (n+m) cap' e (by unfold maxLen;omega)
 have hrun:(Builtin.append_ #[t,t] ty #[.slice ad' n cap',.slice (some b) m c]).run P w=
   .ok (.slice (some ⟨w.heap.size,0,none⟩) (n+m) (grownCap w (n+m) cap' e)) (w.drew.alloc (.cells (olds.toArray++news.toArray++Builtin.zeroCells z.cells (grownCap w (n+m) cap' e - (n+m))) e)):=by
  cases ad' with
  |none=>
   obtain⟨rfl,rfl⟩:=hnn rfl
   have ho0:olds=[]:=List.eq_nil_of_length_eq_zero (by simpa using hlo)
   subst ho0
   have:=run_append_nil (P:=P) w t ty e i z (fQ ht) hi hz b m c news hl hnews hm (by omega) (by have hb:=hbytes;simp only [Nat.zero_add] at hb;omega)
   simp only [Nat.zero_add,Array.empty_append] at this⊢
   exact this
  |some b'=>
   rcases holds with⟨h0,_⟩|⟨b'',hb'',hold⟩
   ·cases h0
   cases hb''
   exact run_append_grow (P:=P) w t ty e i z (fQ ht) hi hz b' n cap' olds hlo hold b m c news hl hnews hg (by omega) (growslice_fits hg hbytes)
 let arr:Array Value:=olds.toArray++news.toArray++Builtin.zeroCells z.cells (grownCap w (n+m) cap' e - (n+m))
 have hsize:arr.size=grownCap w (n+m) cap' e*i.size:=by
  show (olds.toArray++news.toArray++Builtin.zeroCells z.cells (grownCap w (n+m) cap' e - (n+m))).size=_
  simp only [Array.size_append,List.size_toArray,size_zeroCells,hzs,hlo,hl,←Nat.add_mul]
  congr 1
  omega
 let p:Pl:=⟨w.heap.size,0,i.size,arr.size⟩
 let w':World:=w.drew.alloc (.cells arr e)
 have hle:=Be.le_append β [some p]
 have hlike:World.like w w':=⟨rfl,rfl,rfl⟩
 have hold':∀ k,k < w.heap.size→w'.heap[k]? =w.heap[k]? :=fun k hk=>(by first|exact heap_alloc_old w.drew _ k hk|exact heap_alloc_old w.drew _ hk)
 have hca:dl β arr 0 i.size cs:=by
  intro k c hk
  obtain⟨h1,h2⟩:=hcs k c hk
  refine⟨h1,fun j x hj=>?_⟩
  obtain⟨v,hv,hr⟩:=h2 j x hj
  refine⟨v,?_,hr⟩
  have hv':(olds.toArray++news.toArray)[0+k*i.size+j]? =some v:=by
   rw [List.append_toArray];exact hv
  show (olds.toArray++news.toArray++Builtin.zeroCells z.cells (grownCap w (n+m) cap' e - (n+m)))[0+k*i.size+j]? =some v
  rw [Array.getElem?_append_left (Array.getElem?_eq_some_iff.1 hv').1]
  exact hv'
 have hsz':w.heap.size≤w'.heap.size:=by
  show w.heap.size≤(w.drew.alloc _).heap.size
  simp
 refine⟨β++[some p],w',_,hrun,?_,?_,?_⟩
 ·exact StepR.trans hs.len hs'.len hst (j6 hs'.len hlike hsz' hold' p _ (Nat.le_refl _))
 ·exact lS hs' hold' (Nat.le_refl _) ⟨rfl,arr,e,(0,0),heap_alloc_new w.drew _,hca.mono hle,fun _=>⟨rfl,rfl,rfl,rfl⟩⟩ hfl
 exact⟨_,_,rfl,hge,hcm,.inr ⟨p,by rw [←hs'.len];simp,by simp [p],by simp [p,hsize]⟩⟩
theorem Av (hs:HSim β s.hp w) (hsl:SlotsR β s.sl a.tmps) (args:Array Operand) (at_:Array TypeId) (ho:o.op=.call ⟨.builtin .append,args,at_⟩) (h:bE P s ty (.call ⟨.builtin .append,args,at_⟩)=some r) (hc:r.c):f_ β s r w ((execOp a.eval o).run P w):=by
 simp only [bE] at h
 split at h
 ·rename_i x y t t' ha ht
  have ha':=iM ha
  have ht':=iM ht
  subst ha';subst ht'
  split at h
  ·rename_i htt
   subst htt
   split at h
   ·rename_i u v hx hy
    have hvx:=c9 hsl hx
    have hvy:=c9 hsl hy
    unfold kN at h
    split at h
    ·cases h
    rename_i e sz he0
    obtain⟨he,_,rfl⟩:=gg he0
    split at h
    ·cases h
    rename_i z hz0
    obtain⟨hz,hzl,hpos,_,hby,_⟩:=j7 hz0
    obtain⟨i,zv,zs,hi,hzv,hvc,hsc⟩:=iq hz
    have hti:=pC hi
    have hinfo:(P.info? e).isSome=true:=by simp [hi]
    have hzs:zv.cells.size=i.size:=by
     have:=(pB β hsc).length
     rw [hvc];simp;omega
    have hby':i.bytes≤131072:=by
     have:Ug P e=i.bytes:=by simp [Ug,hi]
     omega
    split at h
    ·
     rename_i n off len
     simp only [Option.some.injEq] at h
     subst h
     have hv1:ScR β (.sl n off len) (a.eval x):=hvx
     obtain⟨ad,hye⟩:ScR β .nil (a.eval y):=hvy
     obtain⟨ad',cap',hxe,hlc,hrest⟩:=hv1
     exact bx hs (dg x y t ho (by rw [hxe,hye];exact fi he hinfo _ _ _ _ _ _ hlc)) ⟨ad',cap',rfl,hlc,hrest⟩
    ·simp only [Option.some.injEq] at h
     subst h
     obtain⟨ad',hxe⟩:ScR β .nil (a.eval x):=hvx
     obtain⟨ad,hye⟩:ScR β .nil (a.eval y):=hvy
     exact bx hs (dg x y t ho (by rw [hxe,hye];exact fi he hinfo _ _ _ _ _ _ (Nat.le_refl _))) ⟨ad',rfl⟩
    ·rename_i n off len
     obtain⟨ad',hxe⟩:ScR β .nil (a.eval x):=hvx
     obtain⟨ad,cap,hye,hlc,hcm,hor⟩:ScR β (.sl n off len) (a.eval y):=hvy
     split at h
     ·rename_i ob hob
      split at h
      ·rename_i hesz
       simp only [Option.some.injEq] at h
       subst h
       obtain⟨hb,hsm⟩:off+len≤ob.cs.length∧len≤1073741824:=hc
       by_cases hl0:len=0
       ·subst hl0
        refine⟨β++[none],w,?_,tI hs (by simp),.inl ⟨_,_,dg x y t ho (by rw [hxe,hye];exact fi he hinfo _ _ _ _ _ _ (Nat.le_refl _)),rfl,⟨ad',0,rfl,Nat.le_refl _,Nat.zero_le _,.inl rfl⟩⟩⟩
        exact⟨Be.le_append _ _,rfl,rfl,rfl,Nat.le_refl _,fun _ _ _=>rfl,by simp,fun o ob' hlt ho=>by
         rw [List.getElem?_append_left hlt] at ho;exact⟨ob',ho,id⟩,fun o ob' q hge ho hq=>by
         exfalso
         have he:o=s.hp.length:=by
          rcases Nat.lt_trichotomy o s.hp.length with h1|h1|h1
          ·omega
          ·exact h1
          rw [List.getElem?_append_right (by omega),List.getElem?_eq_none (by simp;omega)] at ho;cases ho
         subst he
         rw [←hs.len] at hq
         simp at hq⟩
       rcases hor with hcap|⟨p,hp,rfl,hav⟩
       ·omega
       obtain⟨he',arr,T,fz,hh,hcr,_⟩:=gQ hs (cD hob) hp
       obtain⟨news,hnl,hnc,hn1,hnr⟩:=ka hcr off len hb
       rw [hesz,hti] at hnl hnr hnc
       obtain⟨β',w',v,hrun,hst,hsim,hr⟩:=tP (P:=P) hs hs (StepR.refl β s.hp w hs.len) he hi hzv hzs (ad':=ad') (n:=0) (cap':=0) (olds:=[]) (by simp) (by
        cases ad' with
        |none=>exact .inl ⟨rfl,rfl⟩
        |some b=>exact .inr ⟨b,rfl,by simp⟩) (fun _=>⟨rfl,rfl⟩) (b:=⟨p.blk,p.base+off*p.esz,none⟩) (m:=len) (c:=cap) hnl (fun j u hu=>by
         rw [Addr.add_lit,kO hh,he',hesz,hti];exact hnc j u hu) (by omega) (by omega) (by omega) hby' (cs:=(ob.cs.drop off).take len) (by
         have:=i8 (arr:=([]++news).toArray) (cs:=[]) (ds:=(ob.cs.drop off).take len) (olds:=[]) (news:=news) (esz:=i.size) (by simp) (by simp) hnr (fun i v hv=>by simpa using hv)
         simpa using this) (fl:=ob.fl) (fun hf c hm=>hs.flat n ob (cD hob) hf c (List.mem_of_mem_drop (List.mem_of_mem_take hm))) o.type
       rw [Nat.zero_add] at hr
       refine⟨β',w',?_,?_,.inl ⟨v,_,dg x y t ho (by rw [hxe,hye];exact hrun),rfl,hr⟩⟩
       ·rw [hti];exact hst
       rw [hti];exact hsim
      cases h
     cases h
    ·rename_i n' off' len' n off len
     obtain⟨ad',cap',hxe,hlc',hcm',hor'⟩:ScR β (.sl n' off' len') (a.eval x):=hvx
     obtain⟨ad,cap,hye,hlc,hcm,hor⟩:ScR β (.sl n off len) (a.eval y):=hvy
     split at h
     ·rename_i ob' ob hob' hob
      split at h
      ·rename_i hcond2
       obtain⟨hesz,hesz',hown,hty,hoff,hne⟩:=hcond2
       subst hoff
       simp only [Option.some.injEq] at h
       subst h
       obtain⟨hcl,hb,hsm⟩:ob'.cs.length=len'∧off+len≤ob.cs.length∧len'+len≤1073741824:=hc
       have hflat:(ob'.fl && ob.fl)=true→FlatL (ob'.cs++(ob.cs.drop off).take len):=fun hf c hm=>by
        simp only [Bool.and_eq_true] at hf
        rcases List.mem_append.1 hm with hm|hm
        ·exact hs.flat n' ob' (cD hob') hf.1 c hm
        exact hs.flat n ob (cD hob) hf.2 c (List.mem_of_mem_drop (List.mem_of_mem_take hm))
       have hkill:=Ao hs n'
       have hstk:=yE (w:=w) hs.len n' (s:=s)
       have hlen':(s.hp.set n' none).length=s.hp.length:=by simp
       have hn':n' < s.hp.length:=(List.getElem?_eq_some_iff.1 (cD hob')).1
       -- where the old row lies
       have hplace:(cap'=0∧len'=0∧ob'.cs=[])∨∃ p',β[n']? =some (some p')∧ad'=some ⟨p'.blk,p'.base+0*p'.esz,none⟩∧(0+cap')*p'.esz≤p'.avail:=by
        rcases hor' with h0|h0
        ·exact .inl ⟨h0,by omega,List.eq_nil_of_length_eq_zero (by omega)⟩
        exact .inr h0
       by_cases hl0:len=0
       ·subst hl0
        have hrun:=fi (P:=P) (w:=w) he hinfo o.type ad ad' len' cap' cap hlc'
        rcases hplace with⟨hc0,hl0',hcs0⟩|⟨p',hp',had',hav'⟩
        ·subst hc0;subst hl0'
         refine⟨β++[none],w,?_,tI hkill (by simp [hcs0]),.inl ⟨_,_,dg x y t ho (by rw [hxe,hye];exact hrun),rfl,⟨ad',0,rfl,Nat.le_refl _,Nat.zero_le _,.inl rfl⟩⟩⟩
         refine StepR.trans hs.len hkill.len hstk ⟨Be.le_append _ _,rfl,rfl,rfl,Nat.le_refl _,fun _ _ _=>rfl,by simp,fun o ob' hlt ho=>by
          rw [List.getElem?_append_left hlt] at ho;exact⟨ob',ho,id⟩,fun o ob' q hge ho hq=>by
          exfalso
          have he:o=(s.hp.set n' none).length:=by
           rcases Nat.lt_trichotomy o (s.hp.set n' none).length with h1|h1|h1
           ·omega
           ·exact h1
           rw [List.getElem?_append_right (by omega),List.getElem?_eq_none (by simp at h1⊢;omega)] at ho;cases ho
          subst he
          rw [←hkill.len] at hq
          simp at hq⟩
        obtain⟨he',arr,T,fz,hh,hcr,hown'⟩:=gQ hs (cD hob') hp'
        obtain⟨hT,hf0,hbase,hav⟩:=hown' hown
        subst hf0
        have hcr':dl β arr 0 (cA P e) (ob'.cs++(ob.cs.drop off).take 0):=by
         rw [List.take_zero,List.append_nil,←hesz',←hbase];exact hcr
        refine⟨β++[some p'],w,?_,?_,.inl ⟨_,_,dg x y t ho (by rw [hxe,hye];exact hrun),rfl,?_⟩⟩
        ·exact od hs hn' (cD hob') hown hp' (w':=w) ⟨rfl,rfl,rfl⟩ (Nat.le_refl _) (fun k _=>rfl) _
        ·exact pF hs (cD hob') hown hp' (w':=w) (arr':=arr) (T:=T) (by simpa using hh) (fun k _=>rfl) ⟨_,cA P e,e,true,ob'.fl && ob.fl⟩ (by rw [he',hesz']) (hcr'.mono (Be.le_append _ _)) (by rw [hT,hty]) hbase hav hflat
        refine⟨ad',cap',by rw [Nat.add_zero],by omega,hcm',.inr ⟨p',by rw [←hs.len];simp,had',hav'⟩⟩
       rcases hor with hcap|⟨p,hp,rfl,hav⟩
       ·omega
       obtain⟨hep,arr,T,fz,hh,hcr,_⟩:=gQ hs (cD hob) hp
       obtain⟨news,hnl,hnc,hn1,hnr⟩:=ka hcr off len hb
       rw [hesz] at hnl hnr hnc
       have hnews:∀ j u,news[j]? =some u→w.cell? ((⟨p.blk,p.base+off*p.esz,none⟩:Addr).add j)=some u:=fun j u hu=>by
        rw [Addr.add_lit,kO hh,hep,hesz];exact hnc j u hu
       by_cases hroom:len'+len≤cap'
       ·rcases hplace with⟨hc0,_,_⟩|⟨p',hp',had',hav'⟩
        ·omega
        obtain⟨hep',arr',T',fz',hh',hcr',hown'⟩:=gQ hs (cD hob') hp'
        obtain⟨hT,hf0,hbase,havl⟩:=hown' hown
        subst hf0
        have hfit:len'*i.size+news.length≤arr'.size:=by
         have h1:(len'+len)*i.size≤cap'*i.size:=Nat.mul_le_mul_right _ hroom
         rw [Nat.add_mul] at h1
         rw [Nat.zero_add,hep',hesz',hti] at hav'
         rw [hnl,hti]
         omega
        have hrun:=run_append_room (P:=P) w t o.type e i (fQ he) hi p'.blk len' cap' arr' (by rw [←hT.trans hty];exact hh') ⟨p.blk,p.base+off*p.esz,none⟩ len cap news (by rw [hnl,hti]) hnews hn1 hroom hfit
        let arr2:Array Value:=(arr'.toList.take (len'*i.size)++news++arr'.toList.drop (len'*i.size+news.length)).toArray
        have hsz2:arr2.size=arr'.size:=by
         show ((arr'.toList.take (len'*i.size)++news++arr'.toList.drop (len'*i.size+news.length)).toArray).size=_
         simp
         omega
        have hcr2:dl β arr2 0 (cA P e) (ob'.cs++(ob.cs.drop off).take len):=by
         refine i8 (olds:=arr'.toList.take (len'*i.size)) (news:=news) ?_ ?_ hnr ?_
         ·simp
          rw [hcl,hti]
          omega
         ·intro k c hk
          obtain⟨h1,h2⟩:=hcr' k c hk
          refine⟨by rw [h1,hesz'],fun j q hj=>?_⟩
          obtain⟨v,hv,hr⟩:=h2 j q hj
          refine⟨v,?_,hr⟩
          rw [hbase,Nat.zero_add,hesz'] at hv
          have hkl:k < len':=by rw [←hcl];exact (List.getElem?_eq_some_iff.1 hk).1
          have hjl:j < cA P e:=by have:=(List.getElem?_eq_some_iff.1 hj).1;omega
          have:k*cA P e+j < len'*i.size:=by
           have h3:(k+1)*cA P e≤len'*cA P e:=Nat.mul_le_mul_right _ hkl
           rw [Nat.add_mul] at h3
           rw [←hti]
           omega
          rw [List.getElem?_take_of_lt this,Array.getElem?_toList]
          exact hv
         intro q v hv
         show ((arr'.toList.take (len'*i.size)++news++arr'.toList.drop (len'*i.size+news.length)).toArray)[q]? =some v
         rw [List.getElem?_toArray,List.getElem?_append_left (List.getElem?_eq_some_iff.1 hv).1]
         exact hv
        refine⟨β++[some p'],w.setRow p'.blk arr2,?_,?_,.inl ⟨_,_,dg x y t ho (by rw [hxe,hye,had',hbase,Nat.zero_mul];exact hrun),rfl,?_⟩⟩
        ·exact od hs hn' (cD hob') hown hp' (w':=w.setRow p'.blk arr2) ⟨rfl,rfl,rfl⟩ (by simp) (fun k hk=>setRow_other w p'.blk k arr2 hk) _
        ·exact pF hs (cD hob') hown hp' (w':=w.setRow p'.blk arr2) (arr':=arr2) (T:=T') (setRow_heap w p'.blk arr' arr2 T' _ hh') (fun k hk=>setRow_other w p'.blk k arr2 hk) ⟨_,cA P e,e,true,ob'.fl && ob.fl⟩ (by rw [hep',hesz']) (hcr2.mono (Be.le_append _ _)) (by rw [hT,hty]) hbase (by rw [hsz2];exact havl) hflat
        refine⟨_,cap',rfl,hroom,hcm',.inr ⟨p',by rw [←hs.len];simp,by rw [hbase];simp,hav'⟩⟩
       have hold:∃ olds:List Value,olds.length=len'*i.size∧((ad'=none∧len'=0)∨∃ b,ad'=some b∧∀ j v,olds[j]? =some v→w.cell? (b.add j)=some v)∧(ad'=none→len'=0∧cap'=0)∧
         (∀ (k:Nat) (c:List Sc),ob'.cs[k]? =some c→c.length=i.size∧∀ (j:Nat) (x:Sc),c[j]? =some x→∃ v,olds[k*i.size+j]? =some v∧ScR β x v):=by
        rcases hplace with⟨hc0,hl0',hcs0⟩|⟨p',hp',had',hav'⟩
        ·refine⟨[],by simp [hl0'],?_,fun _=>⟨hl0',hc0⟩,by simp [hcs0]⟩
         cases ad' with
         |none=>exact .inl ⟨rfl,hl0'⟩
         |some b=>exact .inr ⟨b,rfl,by simp⟩
        obtain⟨hep',arr',T',fz',hh',hcr',_⟩:=gQ hs (cD hob') hp'
        obtain⟨olds,h1,h2,h3,h4⟩:=ka hcr' 0 len' (by omega)
        rw [hesz',hti] at h1 h2 h4
        refine⟨olds,h1,.inr ⟨_,had',fun j v hv=>?_⟩,(fun hn=>by rw [had'] at hn;cases hn),?_⟩
        ·rw [Addr.add_lit,kO hh',hep',hesz',hti];exact h2 j v hv
        rw [List.drop_zero,List.take_of_length_le (by omega)] at h4
        exact h4
       obtain⟨olds,hol,holds,hnn,hor2⟩:=hold
       rw [hti] at hnl hnr
       obtain⟨β',w',v,hrun,hst,hsim,hr⟩:=tP (P:=P) hs hkill hstk he hi hzv hzs hol holds hnn hnl hnews (c:=cap) (by omega) (by omega) hsm hby' (cs:=ob'.cs++(ob.cs.drop off).take len)
        (i8 (by rw [hol,hcl]) hor2 hnr (fun q v hv=>by simpa using hv)) (fl:=ob'.fl && ob.fl) hflat o.type
       rw [hlen'] at hr
       refine⟨β',w',?_,?_,.inl ⟨v,_,dg x y t ho (by rw [hxe,hye];exact hrun),rfl,hr⟩⟩
       ·rw [hti];exact hst
       rw [hti];exact hsim
      cases h
     cases h
    cases h
   cases h
  cases h
 cases h
end
end
section
open Go.RowKit
theorem nv {P:Program} {β:Be} {s:S} {a:Act} {w:World} {o:Oper} {r:OpR} {ty:TypeId} (hs:HSim β s.hp w) (hsl:SlotsR β s.sl a.tmps) (h:bE P s ty o.op=some r) (hc:r.c):f_ β s r w ((execOp a.eval o).run P w):=by
 generalize ho:o.op=op at h
 cases op with
 |move x=>exact zB hs hsl x (.inl ho) h
 |assign x=>exact zB (ty:=ty) hs hsl x (.inr ho) (by simpa only [bE] using h)
 |pick c x y=>exact Fn hs hsl c x y ho h
 |alloc e=>exact Bw hs e ho h
 |box e x=>exact NS hs hsl e x ho h
 |build t parts=>exact Bx hs hsl t parts ho h
 |buildSlice t len parts=>exact sH hs hsl t len parts ho h
 |load t x=>exact Fo hs hsl t x ho h
 |store t x y=>exact By hs hsl t x y ho h
 |nilCheck x=>exact wO hs hsl x ho h
 |binOp op t x y u=>exact NT hs hsl op t u x y ho h hc
 |unOp op t x=>exact Ui hs hsl op t x ho h
 |convert src dst x=>exact yD hs hsl src dst x ho h hc
 |makeSlice t x y=>exact uU hs hsl t x y ho h hc
 |slice t x lo hi mx=>
  cases mx with
  |none=>exact BB hs hsl t x lo hi ho h hc
  |some m=>simp only [bE] at h;cases h
 |fieldAddr t x f=>exact uS hs hsl t x f ho h
 |field t x f=>exact Bz hs hsl t x f ho h
 |indexAddr t x i=>exact uT hs hsl t x i ho h hc
 |index t x i=>exact BA hs hsl t x i ho h hc
 |extract x i=>exact yC hs hsl x i ho h
 |makeFunc f first caps=>
  cases f with
  |func f=>exact wP hs hsl f first caps ho h
  |_=>simp only [bE] at h;cases h
 |call c=>
  obtain⟨callee,args,at_⟩:=c
  cases callee with
  |builtin b=>
   cases b with
   |len=>exact NU hs hsl args at_ ho h
   |append=>exact Av hs hsl args at_ ho h hc
   |min=>exact NV hs hsl args at_ ho h
   |max=>exact NW hs hsl args at_ ho h
   |_=>simp only [bE] at h;cases h
  |_=>simp only [bE] at h;cases h
 |_=>simp only [bE] at h;cases h
structure Entry where
 β:Be
 h:Hp
 w:World
structure Sim (E:Entry) (β:Be) (s:S) (a:Act) (w:World):Prop where
 dfr:a.defers=[]
 sl:SlotsR β s.sl a.tmps
 hp:HSim β s.hp w
 ent:E.β.length=E.h.length
 st:StepR E.β β E.h s.hp E.w w
def BC (P:Program) (f:FuncId):Prop:=∃ fn,P.funcs[f]? =some fn∧(fn.name == "runtime.NumGoroutine")=false∧fn.body.isNone=false
def ae (P:Program) (f:FuncId) (args:List AV) (h:Hp) (res:AV) (h':Hp):Prop:=
 BC P f∧∀ β w vs,HSim β h w→L2 (gf β) args vs→Calls P f vs.toArray w fun e w'=>∃ β' v,e=.returned v∧gf β' res v∧HSim β' h' w'∧StepR β β' h h' w w'
def BD (P:Program) (E:Entry) (f:FuncId) (args:List AV) (h:Hp) (res:AV) (h':Hp):Prop:=
 BC P f∧∀ β w vs,E.β.length=E.h.length→StepR E.β β E.h h E.w w→HSim β h w→L2 (gf β) args vs→Calls P f vs.toArray w fun e w'=>∃ β' v,e=.returned v∧gf β' res v∧HSim β' h' w'∧StepR β β' h h' w w'
theorem ae.e {P:Program} {E:Entry} {f:FuncId} {args:List AV} {h:Hp} {res:AV} {h':Hp} (ct:ae P f args h res h'):BD P E f args h res h':=
 ⟨ct.1,fun β w vs _ _ hs hv=>ct.2 β w vs hs hv⟩
def S.evs (s:S):List Operand→Option (List AV)
 |[]=>some []
 |x::r=>match s.ev x,s.evs r with
  |some v,some l=>some (v::l)
  |_,_=>none
theorem zG {β:Be} {s:S} {a:Act} (hs:SlotsR β s.sl a.tmps):∀ {xs:List Operand} {l:List AV},s.evs xs=some l→L2 (gf β) l (xs.map a.eval)
 |[],l,h=>by simp only [S.evs,Option.some.injEq] at h;subst h;trivial
 |x::r,l,h=>by
  simp only [S.evs] at h
  split at h
  ·rename_i v m hv hm
   simp only [Option.some.injEq] at h
   subst h
   exact⟨c9 hs hv,zG hs hm⟩
  cases h
def kc:List Sc→List AV
 |[]=>[]
 |c::r=>.sc c::kc r
theorem pk {β:Be}:∀ {l:List Sc} {vs:List Value},L2 (ScR β) l vs→L2 (gf β) (kc l) vs
 |[],[],_=>trivial
 |_::_,_::_,h=>⟨h.1,pk h.2⟩
 |[],_::_,h=>h.elim
 |_::_,[],h=>h.elim
def er (r:Array Oper) (s:S) (o:Oper):Option Bool:=
 match o.guard with
 |none=>some true
 |some (j,want)=>match r[j]? with
  |some oj=>match oj.dst with
   |some d=>match s.sl.get d with
    |some (.sc (.bo b))=>some (b == want)
    |some (.tu [])=>some false
    |_=>none
   |none=>none
  |none=>none
theorem jr {β:Be} {r:Array Oper} {s:S} {a:Act} {o:Oper} {b:Bool} (hs:SlotsR β s.sl a.tmps) (h:er r s o=some b):Region.wanted o (yielded r a.tmps)=b:=by
 unfold er at h
 unfold Region.wanted
 split at h
 ·rename_i hg
  simp only [Option.some.injEq] at h
  subst h
  rw [hg]
 rename_i j want hg
 rw [hg]
 dsimp only
 split at h
 ·rename_i oj hj
  split at h
  ·rename_i d hd
   split at h
   ·rename_i x hx
    obtain⟨u,hu,hr⟩:=hs.2 d _ hx
    have hu':u=.bool x:=hr
    subst hu'
    simp only [Option.some.injEq] at h
    subst h
    simp only [yielded,hj,hd,Option.bind_some,hu]
    cases x<;>cases want<;>rfl
   ·rename_i hx
    obtain⟨u,hu,vs,hr,hl⟩:=hs.2 d _ hx
    simp only [Option.some.injEq] at h
    subst h
    cases vs with
    |nil=>
     subst hr
     simp [yielded,hj,hd,hu]
    |cons=>exact hl.elim
   cases h
  cases h
 cases h
def uV (P:Program) (E:Entry) (r:Array Oper) (l:List Oper) (s:S) (K:S→Prop):Prop:=
 ∀ β a w,Sim E β s a w→∀ Q:Exit→Act→World→Prop,(∀ s' β' a' w',K s'→Sim E β' s' a' w'→Q .normal a' w')→wpList P r Q l a w
def oe (P:Program) (E:Entry) (C:Code) (s:S) (K:Exit→S→Prop):Prop:=
 ∀ β a w,Sim E β s a w→∀ Q:Exit→Act→World→Prop,(∀ e s' β' a' w',K e s'→Sim E β' s' a' w'→Q e a' w')→C.wp P Q a w
theorem gZ {E:Entry} {β β':Be} {s:S} {a:Act} {w w':World} {h':Hp} (hs:Sim E β s a w) (hst:StepR β β' s.hp h' w w') (hh:HSim β' h' w') (d:Option Tmp) {av:AV} {v:Value} (hv:gf β' av v):
  Sim E β' (s.put d (some av) h') (a.put d v) w':=by
 have hstep:StepR E.β β' E.h h' E.w w':=StepR.trans hs.ent hs.hp.len hs.st hst
 cases d with
 |none=>exact⟨hs.dfr,hs.sl.mono hst.le,hh,hs.ent,hstep⟩
 |some d=>exact⟨hs.dfr,(hs.sl.mono hst.le).put d hv,hh,hs.ent,hstep⟩
theorem kd {E:Entry} {β β':Be} {s:S} {a:Act} {w w':World} {h':Hp} (hs:Sim E β s a w) (hst:StepR β β' s.hp h' w w') (hh:HSim β' h' w') (d:Option Tmp) (v:Value):
  Sim E β' (s.put d none h') (a.put d v) w':=by
 have hstep:StepR E.β β' E.h h' E.w w':=StepR.trans hs.ent hs.hp.len hs.st hst
 cases d with
 |none=>exact⟨hs.dfr,hs.sl.mono hst.le,hh,hs.ent,hstep⟩
 |some d=>exact⟨hs.dfr,(hs.sl.mono hst.le).putNone d v,hh,hs.ent,hstep⟩
theorem pG {P:Program} {ops:Array Oper} {Q:Exit→Act→World→Prop} {o:Oper} {l:List Oper} {a:Act} {w:World} (hg:Region.wanted o (yielded ops a.tmps)=true) (h:o.wp P a w (wpList P ops Q l) Q):wpList P ops Q (o::l) a w:=by
 unfold wpList
 rw [if_pos hg]
 exact .inl h
theorem wR {P:Program} {ops:Array Oper} {Q:Exit→Act→World→Prop} {o:Oper} {l:List Oper} {a:Act} {w:World} (hg:Region.wanted o (yielded ops a.tmps)=false) (h:wpList P ops Q l (a.put o.dst undef) w):wpList P ops Q (o::l) a w:=by
 unfold wpList
 rw [if_neg (by simp [hg])]
 exact h
theorem BE {P:Program} {E:Entry} {r:Array Oper} {s:S} {K:S→Prop} (h:K s):uV P E r [] s K:=fun β a w hs Q hQ=>hQ s β a w h hs
theorem Fx {P:Program} {E:Entry} {r:Array Oper} {o:Oper} {l:List Oper} {s:S} {K:S→Prop} {x:OpR} (hg:er r s o=some true) (h:bE P s o.type o.op=some x) (hc:x.c) (hk:uV P E r l (s.put o.dst x.v x.hp) K):uV P E r (o::l) s K:=by
 intro β a w hs Q hQ
 refine pG (jr hs.sl hg) ?_
 unfold Oper.wp
 obtain⟨β',w',hst,hh,hx⟩:=nv hs.hp hs.sl h hc
 rcases hx with⟨v,av,hrun,hv,hr⟩|⟨hrun,hv⟩
 ·rw [hrun]
  rw [hv] at hk
  exact hk β' _ w' (gZ hs hst hh o.dst hr) Q hQ
 rw [hrun]
 rw [hv] at hk
 exact hk β' _ w' (kd hs hst hh o.dst undef) Q hQ
theorem Aw {P:Program} {E:Entry} {r:Array Oper} {o:Oper} {l:List Oper} {s:S} {K:S→Prop} (hg:er r s o=some false) (hk:uV P E r l (s.put o.dst (some (.tu [])) s.hp) K):uV P E r (o::l) s K:=by
 intro β a w hs Q hQ
 refine wR (jr hs.sl hg) ?_
 exact hk β _ w (gZ hs (StepR.refl β s.hp w hs.hp.len) hs.hp o.dst ⟨[],rfl,trivial⟩) Q hQ
theorem Ax {P:Program} {E:Entry} {r:Array Oper} {o:Oper} {l:List Oper} {s:S} {K:S→Prop} {x:Operand} {args:Array Operand} {at_:Array TypeId} {f:Nat} {caps:List Sc} {avs:List AV} {res:AV} {h':Hp}
  (hg:er r s o=some true) (ho:o.op=.call ⟨.value x,args,at_⟩) (hx:s.ev x=some (.cl f caps)) (ha:s.evs args.toList=some avs) (hc:BD P E f (avs++kc caps) s.hp res h')
  (hk:uV P E r l (s.put o.dst (some res) h') K):uV P E r (o::l) s K:=by
 intro β a w hs Q hQ
 refine pG (jr hs.sl hg) ?_
 obtain⟨⟨fn,hfn,hname,hbody⟩,hcall⟩:=hc
 obtain⟨cvs,hxe,hcl⟩:gf β (.cl f caps) (a.eval x):=c9 hs.sl hx
 have hav:=zG hs.sl ha
 have hvs:L2 (gf β) (avs++kc caps) (args.toList.map a.eval++cvs):=hav.append (pk hcl)
 have hrun:(execOp a.eval o).run P w=.ok (.enter f (args.toList.map a.eval++cvs).toArray) w:=by
  unfold execOp
  rw [ho]
  have e1:args.map a.eval=(args.toList.map a.eval).toArray:=by apply Array.ext';simp
  have hname':¬ fn.name= "runtime.NumGoroutine":=by simpa using hname
  simp only [resolve,hxe,Deferred.ofValue,invoke,callFunc,Sem.run_bind,run_program,Sem.run_pure,Result.andThen_ok,hfn,e1]
  simp [hname',hbody]
 unfold Oper.wp
 rw [hrun]
 rw [Oper.upon_enter]
 refine (hcall β w _ hs.ent hs.st hs.hp hvs).mono fun e w' ⟨β',v,he,hr,hh,hst⟩=>?_
 subst he
 exact hk β' _ w' (gZ hs hst hh o.dst hr) Q hQ
inductive Item where
 |code (c:Code)
 |ops (r:Array Oper) (l:List Oper)
 |inB (id:Nat)
 |hook (N:S→Prop)
def KK (P:Program) (E:Entry) (F:Exit→S→Prop):List Item→Exit→S→Prop
 |[],e,s=>F e s
 | .code c::k,.normal,s=>oe P E c s (KK P E F k)
 | .code _::k,e,s=>KK P E F k e s
 | .ops r l::k,.normal,s=>uV P E r l s (KK P E F k .normal)
 | .ops _ _::k,e,s=>KK P E F k e s
 | .inB id::k,.exit id',s=>if id'=id then KK P E F k .normal s else KK P E F k (.exit id') s
 | .inB _::k,e,s=>KK P E F k e s
 | .hook N::k,.normal,s=>N s
 | .hook _::k,e,s=>KK P E F k e s
theorem fS {P:Program} {E:Entry} {C:Code} {s:S} {K K':Exit→S→Prop} (h:oe P E C s K) (hk:∀ e s,K e s→K' e s):oe P E C s K':=
 fun β a w hs Q hQ=>h β a w hs Q fun e s' β' a' w' hK=>hQ e s' β' a' w' (hk _ _ hK)
theorem BF {P:Program} {E:Entry} {s:S} {K:Exit→S→Prop} (h:K .normal s):oe P E .skip s K:=fun β a w hs Q hQ=>wp_skip (hQ .normal s β a w h hs)
theorem Fy {P:Program} {E:Entry} {s:S} {K:Exit→S→Prop} (h:K .ret s):oe P E .ret s K:=fun β a w hs Q hQ=>wp_ret (hQ .ret s β a w h hs)
theorem BG {P:Program} {E:Entry} {s:S} {id:Nat} {K:Exit→S→Prop} (h:K (.exit id) s):oe P E (.exit id) s K:=fun β a w hs Q hQ=>wp_exit (hQ (.exit id) s β a w h hs)
theorem Fz {P:Program} {E:Entry} {x y:Code} {s:S} {K:Exit→S→Prop} (h:oe P E x s fun e s'=>match e with| .normal=>oe P E y s' K|e=>K e s'):oe P E (.seq x y) s K:=
 fun β a w hs Q hQ=>wp_seq (h β a w hs _ fun e s' β' a' w' hK hs'=>by
  cases e with
  |normal=>exact hK β' a' w' hs' Q hQ
  |_=>exact hQ _ s' β' a' w' hK hs')
theorem wS {P:Program} {E:Entry} {t:Operand} {x y:Code} {s:S} {b:Bool} {K:Exit→S→Prop} (ht:s.ev t=some (.sc (.bo b))) (h:oe P E (if b then x else y) s K):oe P E (.cond t x y) s K:=
 fun β a w hs Q hQ=>wp_cond (t:=b) (show a.eval t=.bool b from c9 hs.sl ht) (h β a w hs Q hQ)
theorem Ay {P:Program} {E:Entry} {id:Nat} {x:Code} {s:S} {K:Exit→S→Prop} (h:oe P E x s fun e s'=>match e with| .exit id'=>if id'=id then K .normal s' else K (.exit id') s'|e=>K e s'):oe P E (.block id x) s K:=
 fun β a w hs Q hQ=>wp_block (h β a w hs _ fun e s' β' a' w' hK hs'=>by
  cases e with
  |exit id'=>
   simp only [Exit.inBlock]
   dsimp only at hK
   split at hK
   ·rename_i he;rw [if_pos he];exact hQ _ s' β' a' w' hK hs'
   rename_i he;rw [if_neg he];exact hQ _ s' β' a' w' hK hs'
  |_=>exact hQ _ s' β' a' w' hK hs')
theorem yF {P:Program} {E:Entry} {id:Nat} {r:Array Oper} {s:S} {K:Exit→S→Prop} (h:uV P E r r.toList s (K .normal)):oe P E (.region id r false) s K:=
 fun β a w hs Q hQ=>wp_region_list (h β a w hs Q fun s' β' a' w' hK hs'=>hQ .normal s' β' a' w' hK hs')
theorem wT {P:Program} {E:Entry} {c:Code} {s:S} {K:Exit→S→Prop} (I:S→Prop) (μ:S→Nat→Prop) (n₀:Nat) (h0:I s∧μ s n₀)
  (h:∀ s n,I s→μ s n→oe P E c s fun e s'=>match e with| .normal=>I s'∧∃ m,m < n∧μ s' m|e=>K e s'):oe P E (.loop c) s K:=by
 intro β a w hs Q hQ b k cs
 have key:∀ (n:Nat) (s:S) (β:Be) (a:Act) (w:World),I s→μ s n→Sim E β s a w→
   ∃ e a' w',Q e a' w'∧Arrives P (lone (b.at a (.code c::.inLoop c::k)) cs w) b k cs e a' w':=by
  intro n
  induction n using Nat.strongRecOn with
  |_ n ih=>
   intro s β a w hI hm hs
   obtain⟨e,a₁,w₁,hq,harr⟩:=h s n hI hm β a w hs (Exit.then (fun a' w'=>∃ s' β' m,I s'∧m < n∧μ s' m∧Sim E β' s' a' w') Q) (fun e s' β' a' w' hK hs'=>by
    cases e with
    |normal=>
     obtain⟨hI',m,hlt,hm'⟩:=hK
     exact⟨s',β',m,hI',hlt,hm',hs'⟩
    |_=>exact hQ _ s' β' a' w' hK hs') b (.inLoop c::k) cs
   cases e with
   |normal=>
    obtain⟨s',β',m,hI',hlt,hm',hs'⟩:=hq
    obtain⟨e₂,a₂,w₂,hq₂,harr₂⟩:=ih m hlt s' β' a₁ w₁ hI' hm' hs'
    exact⟨e₂,a₂,w₂,hq₂,.of_steps (Steps.trans harr (.one step_inLoop)) harr₂⟩
   |exit id=>exact⟨_,a₁,w₁,hq,.pass (x:=.inLoop c) rfl (fun _ _=>.inl (by simp)) harr⟩
   |goto l=>exact⟨_,a₁,w₁,hq,.pass (x:=.inLoop c) rfl (fun _ _=>.inl (by simp)) harr⟩
   |ret=>exact⟨_,a₁,w₁,hq,.pass (x:=.inLoop c) rfl (fun _ _=>.inl (by simp)) harr⟩
   |panic ch=>exact⟨_,a₁,w₁,hq,.pass (x:=.inLoop c) rfl (fun _ _=>.inl (by simp)) harr⟩
   |outgrown=>exact⟨_,a₁,w₁,hq,.pass (x:=.inLoop c) rfl (fun _ _=>.inl (by simp)) harr⟩
 obtain⟨e,a',w',hq,harr⟩:=key n₀ s β a w h0.1 h0.2 hs
 exact⟨e,a',w',hq,.of_steps (.one step_loop) harr⟩
end
section
open Go.RowKit
inductive St where
 |go (k:List Item) (s:S) (c:Prop)
 |fin (s:S) (c:Prop)
 |call (f:Nat) (args:List AV) (d:Option Tmp) (k:List Item) (s:S) (c:Prop)
 |lp (b:Code) (k:List Item) (s:S) (c:Prop)
 |hk (N:S→Prop) (s:S) (c:Prop)
 |draw (id:Nat) (r:Array Oper) (k:List Item) (s:S) (c:Prop)
 /-- An operation that the machine does not know: a lemma of its own goes on from here. -/
 |gl (r:Array Oper) (o:Oper) (l:List Oper) (k:List Item) (s:S) (c:Prop)
 |bad
def og (id:Nat):List Item→Option (List Item)
 |[]=>none
 | .inB id'::k=>if id'=id then some k else og id k
 | .code _::k=>og id k
 | .ops _ _::k=>og id k
 | .hook _::k=>og id k
def uW (P:Program) (r:Array Oper) (o:Oper) (l:List Oper) (k:List Item) (s:S) (c:Prop):St:=
 match o.op with
 | .call ⟨.value x,args,_⟩=>match s.ev x,s.evs args.toList with
  |some (.cl f caps),some avs=>.call f (avs++kc caps) o.dst (.ops r l::k) s c
  |_,_=>.bad
 |op=>match bE P s o.type op with
  |some ⟨v,h,d⟩=>.go (.ops r l::k) (s.put o.dst v h) (c∧d)
  |none=>.gl r o l k s c
def pH (P:Program):List Item→S→Prop→St
 |[],s,c=>.fin s c
 | .hook N::k,s,c=>.hk N s c
 | .inB _::k,s,c=>.go k s c
 | .ops r []::k,s,c=>.go k s c
 | .ops r (o::l)::k,s,c=>match er r s o with
  |some b=>match b with
   |true=>uW P r o l k s c
   |false=>.go (.ops r l::k) (s.put o.dst (some (.tu [])) s.hp) c
  |none=>.bad
 | .code .skip::k,s,c=>.go k s c
 | .code (.seq a b)::k,s,c=>.go (.code a::.code b::k) s c
 | .code (.cond t a b)::k,s,c=>match s.ev t with
  |some (.sc (.bo x))=>match x with
   |true=>.go (.code a::k) s c
   |false=>.go (.code b::k) s c
  |_=>.bad
 | .code (.block id a)::k,s,c=>.go (.code a::.inB id::k) s c
 | .code (.exit id)::k,s,c=>match og id k with
  |some k'=>.go k' s c
  |none=>.bad
 | .code .ret::k,s,c=>.fin s c
 | .code (.region id r d)::k,s,c=>match d with
  |false=>.go (.ops r r.toList::k) s c
  |true=>.draw id r k s c
 | .code (.loop b)::k,s,c=>.lp b k s c
 |_,_,_=>.bad
def run (P:Program):Nat→St→St
 |0,x=>x
 |n+1,.go k s c=>run P n (pH P k s c)
 |_+1,.fin s c=>.fin s c
 |_+1,.call f a d k s c=>.call f a d k s c
 |_+1,.lp b k s c=>.lp b k s c
 |_+1,.hk N s c=>.hk N s c
 |_+1,.draw id r k s c=>.draw id r k s c
 |_+1,.gl r o l k s c=>.gl r o l k s c
 |_+1,.bad=>.bad
def Az (F:S→Prop):Exit→S→Prop
 | .normal,s| .ret,s=>F s
 |_,_=>False
def gW (P:Program) (E:Entry) (F:S→Prop):St→Prop
 | .go k s c=>c∧KK P E (Az F) k .normal s
 | .fin s c=>c∧F s
 | .call f args d k s c=>c∧∃ res h',BD P E f args s.hp res h'∧KK P E (Az F) k .normal (s.put d (some res) h')
 | .lp b k s c=>c∧oe P E (.loop b) s (KK P E (Az F) k)
 | .hk N s c=>c∧N s
 | .draw id r k s c=>c∧oe P E (.region id r true) s (KK P E (Az F) k)
 | .gl r o l k s c=>c∧KK P E (Az F) (.ops r (o::l)::k) .normal s
 | .bad=>False
theorem pI {P:Program} {E:Entry} {F:Exit→S→Prop}:∀ {k:List Item} {s:S},F .ret s→KK P E F k .ret s
 |[],_,h=>h
 | .code _::k,s,h=>pI (k:=k) h
 | .ops _ _::k,s,h=>pI (k:=k) h
 | .inB _::k,s,h=>pI (k:=k) h
 | .hook _::k,s,h=>pI (k:=k) h
theorem mt {P:Program} {E:Entry} {F:Exit→S→Prop} {id:Nat}:∀ {k k':List Item} {s:S},og id k=some k'→KK P E F k' .normal s→KK P E F k (.exit id) s
 |[],k',s,h,_=>by cases h
 | .code _::k,k',s,h,hk=>mt (k:=k) h hk
 | .ops _ _::k,k',s,h,hk=>mt (k:=k) h hk
 | .hook _::k,k',s,h,hk=>mt (k:=k) h hk
 | .inB id'::k,k',s,h,hk=>by
  simp only [og] at h
  simp only [KK]
  split at h
  ·rename_i he
   subst he
   simp only [Option.some.injEq] at h
   subst h
   rw [if_pos rfl]
   exact hk
  rename_i he
  rw [if_neg (Ne.symm he)]
  exact mt (k:=k) h hk
theorem yG {P:Program} {E:Entry} {F:S→Prop} {r:Array Oper} {o:Oper} {l:List Oper} {k:List Item} {s:S} {c:Prop} (hg:er r s o=some true) (h:gW P E F (uW P r o l k s c)):c∧KK P E (Az F) (.ops r (o::l)::k) .normal s:=by
 unfold uW at h
 split at h
 ·rename_i x args at_ ho
  split at h
  ·rename_i f caps avs hx ha
   obtain⟨hc,res,h',hcall,hk⟩:=h
   exact⟨hc,Ax hg ho hx ha hcall hk⟩
  exact h.elim
 split at h
 ·rename_i v hp d hx
  obtain⟨⟨hc,hd⟩,hk⟩:=h
  exact⟨hc,Fx hg hx hd hk⟩
 exact h
theorem BH {P:Program} {E:Entry} {F:S→Prop}:∀ {k:List Item} {s:S} {c:Prop},gW P E F (pH P k s c)→gW P E F (.go k s c):=by
 intro k s c h
 cases k with
 |nil=>exact h
 |cons i k=>
  cases i with
  |hook N=>exact h
  |inB id=>exact h
  |ops r l=>
   cases l with
   |nil=>exact⟨h.1,BE h.2⟩
   |cons o l=>
    simp only [pH] at h
    split at h
    ·rename_i b hg
     cases b with
     |true=>exact yG hg h
     |false=>exact⟨h.1,Aw hg h.2⟩
    exact h.elim
  |code C=>
   cases C with
   |skip=>exact⟨h.1,BF h.2⟩
   |region id r d=>
    cases d with
    |false=>exact⟨h.1,yF h.2⟩
    |true=>exact h
   |seq a b=>
    refine⟨h.1,Fz (fS h.2 fun e s' hk=>?_)⟩
    cases e<;>exact hk
   |cond t a b=>
    simp only [pH] at h
    split at h
    ·rename_i x ht
     cases x with
     |true=>exact⟨h.1,wS ht h.2⟩
     |false=>exact⟨h.1,wS ht h.2⟩
    exact h.elim
   |block id a=>
    refine⟨h.1,Ay (fS h.2 fun e s' hk=>?_)⟩
    cases e<;>exact hk
   |loop b=>exact h
   |exit id=>
    simp only [pH] at h
    split at h
    ·rename_i k' hk'
     exact⟨h.1,BG (mt hk' h.2)⟩
    exact h.elim
   |ret=>exact⟨h.1,Fy (pI h.2)⟩
   |rangeFunc=>exact h.elim
   |scope=>exact h.elim
   |label=>exact h.elim
   |goto=>exact h.elim
   |refuse=>exact h.elim
theorem ac {P:Program} {E:Entry} {F:S→Prop}:∀ (n:Nat) {x:St},gW P E F (run P n x)→gW P E F x
 |0,_,h=>h
 |n+1,.go k s c,h=>BH (ac n h)
 |_+1,.fin ..,h=>h
 |_+1,.call ..,h=>h
 |_+1,.lp ..,h=>h
 |_+1,.hk ..,h=>h
 |_+1,.draw ..,h=>h
 |_+1,.gl ..,h=>h
 |_+1,.bad,h=>h
abbrev Rho:=List (Option (Nat×Option Nat))
def Rho.at (ρ:Rho) (o:Nat):Option (Nat×Option Nat):=ρ.getD o none
def Nx (ρ:Rho):Sc→Sc→Prop
 | .int k n,.int k' n'=>k'=k∧n'=n
 | .bo b,.bo b'=>b'=b
 | .st l,.st l'=>l'=l
 | .nil,.nil=>True
 | .un,.un=>True
 | .un,.pt .. =>True
 | .sl o off len,.sl o' off' len'=>match ρ.at o with
  |some (n,none)=>o'=n∧off'=off∧len'=len
  |some (n,some d)=>o'=n∧off'=off+d∧len'=len
  |none=>False
 | .sl o off len,.nil=>len=0
 | .pt o k j,.pt o' k' j'=>match ρ.at o with
  |some (n,none)=>o'=n∧k'=k∧j'=j
  |some (n,some d)=>o'=n∧k'=k+d∧j'=j
  |none=>False
 |_,_=>False
def cM (ρ:Rho):List Sc→List Sc→Prop
 |[],[]=>True
 |a::l,b::m=>Nx ρ a b∧cM ρ l m
 |_,_=>False
def Zd (ρ:Rho):Co→Co→Prop
 | .sc a,.sc b=>Nx ρ a b
 | .ag a,.ag b=>cM ρ a b
 |_,_=>False
def Za (ρ:Rho):List Co→List Co→Prop
 |[],[]=>True
 |a::l,b::m=>Zd ρ a b∧Za ρ l m
 |_,_=>False
def zH (ρ:Rho):AV→AV→Prop
 | .sc a,.sc b=>Nx ρ a b
 | .ag a,.ag b=>cM ρ a b
 | .tu a,.tu b=>Za ρ a b
 | .cl f a,.cl g b=>g=f∧cM ρ a b
 |_,_=>False
def pJ (ρ:Rho):List AV→List AV→Prop
 |[],[]=>True
 |a::l,b::m=>zH ρ a b∧pJ ρ l m
 |_,_=>False
def Zb (ρ:Rho):List (List Sc)→List (List Sc)→Prop
 |[],[]=>True
 |a::l,b::m=>cM ρ a b∧Zb ρ l m
 |_,_=>False
def Zc (ρ:Rho) (d:Option Nat) (t s:AObj):Prop:=
 s.esz=t.esz∧match d with
 |none=>s.ty=t.ty∧(t.own=true→s.own=true)∧(match t.fl with
  |true=>s.fl=true∧s.cs=t.cs
  |false=>Zb ρ t.cs s.cs)
 |some d=>t.own=false∧t.fl=true∧s.fl=true∧(s.cs.drop d).take t.cs.length=t.cs
def lg (ρ:Rho) (s:Hp):Rho→Hp→Prop
 |[],[]=>True
 |none::ρ',some t::h=>t.cs=[]∧lg ρ s ρ' h
 |some (n,d)::ρ',some t::h=>(match s.getD n none with
  |some ob=>Zc ρ d t ob
  |none=>False)∧lg ρ s ρ' h
 |_::ρ',none::h=>lg ρ s ρ' h
 |_,_=>False
def et (β:Be):Rho→Be
 |[]=>[]
 |none::ρ=>none::et β ρ
 |some (n,none)::ρ=>β.getD n none::et β ρ
 |some (n,some d)::ρ=>(β.getD n none).map (fun p=>{ p with base:=p.base+d*p.esz,avail:=p.avail - d*p.esz })::et β ρ
theorem iN (β:Be):∀ ρ:Rho,(et β ρ).length=ρ.length
 |[]=>rfl
 |none::ρ=>by simp [et,iN β ρ]
 |some (n,none)::ρ=>by simp [et,iN β ρ]
 |some (n,some d)::ρ=>by simp [et,iN β ρ]
theorem bB (β:Be):∀ {ρ:Rho} {o:Nat} {x:Option (Nat×Option Nat)},ρ[o]? =some x→(et β ρ)[o]? =some (match x with
  |none=>none
  |some (n,none)=>β.getD n none
  |some (n,some d)=>(β.getD n none).map (fun p=>{ p with base:=p.base+d*p.esz,avail:=p.avail - d*p.esz }))
 |[],o,x,h=>by simp at h
 |y::ρ,0,x,h=>by
  simp only [List.getElem?_cons_zero,Option.some.injEq] at h
  subst h
  cases y with
  |none=>rfl
  |some y=>obtain⟨n,d⟩:=y;cases d<;>rfl
 |y::ρ,o+1,x,h=>by
  simp only [List.getElem?_cons_succ] at h
  have:=bB β h
  cases y with
  |none=>simpa [et] using this
  |some y=>obtain⟨n,d⟩:=y;cases d<;>simpa [et] using this
theorem uX {ρ:Rho} {o:Nat} {x:Nat×Option Nat} (h:ρ.at o=some x):ρ[o]? =some (some x):=by
 unfold Rho.at at h
 rw [List.getD_eq_getElem?_getD] at h
 cases hx:ρ[o]? with
 |none=>rw [hx] at h;cases h
 |some y=>rw [hx] at h;simp only [Option.getD_some] at h;rw [h]
theorem pm {β:Be} {n:Nat} {p:Pl} (h:β[n]? =some (some p)):β.getD n none=some p:=by rw [List.getD_eq_getElem?_getD,h];rfl
theorem zI {β:Be} {ρ:Rho}:∀ {t s:Sc} {v:Value},Nx ρ t s→ScR β s v→ScR (et β ρ) t v
 | .int k n,.int k' n',v,h,hv=>by obtain⟨rfl,rfl⟩:=h;exact hv
 | .bo b,.bo b',v,h,hv=>by have h':b'=b:=h;subst h';exact hv
 | .st b,.st b',v,h,hv=>by have h':b'=b:=h;subst h';exact hv
 | .nil,.nil,v,h,hv=>hv
 | .un,.un,v,h,hv=>hv
 | .un,.pt ..,v,h,hv=>let⟨_,_,e⟩:=hv;⟨_,e⟩
 | .un,.int ..,_,h,_=>h.elim
 | .un,.bo _,_,h,_=>h.elim
 | .un,.st _,_,h,_=>h.elim
 | .un,.nil,_,h,_=>h.elim
 | .un,.sl ..,_,h,_=>h.elim
 | .sl o off len,.nil,v,h,hv=>by
  have h':len=0:=h
  subst h'
  obtain⟨a,rfl⟩:=hv
  exact⟨a,0,rfl,Nat.le_refl _,Nat.zero_le _,.inl rfl⟩
 | .sl o off len,.sl o' off' len',v,h,hv=>by
  obtain⟨a,cap,rfl,h1,h2,h3⟩:=hv
  simp only [Nx] at h
  split at h
  ·rename_i n hn
   obtain⟨rfl,rfl,rfl⟩:=h
   refine⟨a,cap,rfl,h1,h2,h3.imp id fun⟨p,hp,r⟩=>⟨p,?_,r⟩⟩
   rw [bB β (uX hn)]
   dsimp only
   rw [pm hp]
  ·rename_i n d hn
   obtain⟨rfl,rfl,rfl⟩:=h
   refine⟨a,cap,rfl,h1,h2,h3.imp id fun⟨p,hp,ha,hav⟩=>⟨{ p with base:=p.base+d*p.esz,avail:=p.avail - d*p.esz },?_,?_,?_⟩⟩
   ·rw [bB β (uX hn)]
    dsimp only
    rw [pm hp]
    rfl
   ·rw [ha]
    simp only [Option.some.injEq,Addr.mk.injEq,and_true,true_and]
    rw [Nat.add_mul]
    omega
   dsimp only
   rw [show off+d+cap=(off+cap)+d from by omega,Nat.add_mul] at hav
   omega
  exact h.elim
 | .pt o k j,.pt o' k' j',v,h,hv=>by
  obtain⟨p,hp,rfl⟩:=hv
  simp only [Nx] at h
  split at h
  ·rename_i n hn
   obtain⟨rfl,rfl,rfl⟩:=h
   refine⟨p,?_,rfl⟩
   rw [bB β (uX hn)]
   dsimp only
   rw [pm hp]
  ·rename_i n d hn
   obtain⟨rfl,rfl,rfl⟩:=h
   refine⟨{ p with base:=p.base+d*p.esz,avail:=p.avail - d*p.esz },?_,?_⟩
   ·rw [bB β (uX hn)]
    dsimp only
    rw [pm hp]
    rfl
   simp only [Value.pointer.injEq,Option.some.injEq,Addr.mk.injEq,and_true,true_and]
   rw [Nat.add_mul]
   omega
  exact h.elim
 | .int ..,.un,_,h,_=>h.elim
 | .bo ..,.un,_,h,_=>h.elim
 | .st ..,.un,_,h,_=>h.elim
 | .nil,.un,_,h,_=>h.elim
 | .sl ..,.un,_,h,_=>h.elim
 | .pt ..,.un,_,h,_=>h.elim
 | .int ..,.bo _,_,h,_=>h.elim
 | .int ..,.st _,_,h,_=>h.elim
 | .int ..,.nil,_,h,_=>h.elim
 | .int ..,.sl ..,_,h,_=>h.elim
 | .int ..,.pt ..,_,h,_=>h.elim
 | .bo _,.int ..,_,h,_=>h.elim
 | .bo _,.st _,_,h,_=>h.elim
 | .bo _,.nil,_,h,_=>h.elim
 | .bo _,.sl ..,_,h,_=>h.elim
 | .bo _,.pt ..,_,h,_=>h.elim
 | .st _,.int ..,_,h,_=>h.elim
 | .st _,.bo _,_,h,_=>h.elim
 | .st _,.nil,_,h,_=>h.elim
 | .st _,.sl ..,_,h,_=>h.elim
 | .st _,.pt ..,_,h,_=>h.elim
 | .nil,.int ..,_,h,_=>h.elim
 | .nil,.bo _,_,h,_=>h.elim
 | .nil,.st _,_,h,_=>h.elim
 | .nil,.sl ..,_,h,_=>h.elim
 | .nil,.pt ..,_,h,_=>h.elim
 | .sl ..,.int ..,_,h,_=>h.elim
 | .sl ..,.bo _,_,h,_=>h.elim
 | .sl ..,.st _,_,h,_=>h.elim
 | .sl ..,.pt ..,_,h,_=>h.elim
 | .pt ..,.int ..,_,h,_=>h.elim
 | .pt ..,.bo _,_,h,_=>h.elim
 | .pt ..,.st _,_,h,_=>h.elim
 | .pt ..,.nil,_,h,_=>h.elim
 | .pt ..,.sl ..,_,h,_=>h.elim
theorem FA {β:Be} {ρ:Rho}:∀ {t s:List Sc} {vs:List Value},cM ρ t s→L2 (ScR β) s vs→L2 (ScR (et β ρ)) t vs
 |[],[],[],_,_=>trivial
 |a::l,b::m,v::vs,h,hv=>⟨zI h.1 hv.1,FA h.2 hv.2⟩
 |[],_::_,_,h,_=>h.elim
 |_::_,[],_,h,_=>h.elim
 |[],[],_::_,_,h=>h.elim
 |_::_,_::_,[],_,h=>h.elim
theorem Uj {β:Be} {ρ:Rho} {t s:Co} {v:Value} (h:Zd ρ t s) (hv:yt β s v):yt (et β ρ) t v:=by
 cases t<;>cases s
 ·exact zI h hv
 ·exact h.elim
 ·exact h.elim
 obtain⟨vs,rfl,hl⟩:=hv
 exact⟨vs,rfl,FA h hl⟩
theorem Ny {β:Be} {ρ:Rho}:∀ {t s:List Co} {vs:List Value},Za ρ t s→L2 (yt β) s vs→L2 (yt (et β ρ)) t vs
 |[],[],[],_,_=>trivial
 |a::l,b::m,v::vs,h,hv=>⟨Uj h.1 hv.1,Ny h.2 hv.2⟩
 |[],_::_,_,h,_=>h.elim
 |_::_,[],_,h,_=>h.elim
 |[],[],_::_,_,h=>h.elim
 |_::_,_::_,[],_,h=>h.elim
theorem wU {β:Be} {ρ:Rho} {t s:AV} {v:Value} (h:zH ρ t s) (hv:gf β s v):gf (et β ρ) t v:=by
 cases t<;>cases s<;>try exact h.elim
 ·exact zI h hv
 ·obtain⟨vs,rfl,hl⟩:=hv
  exact⟨vs,rfl,FA h hl⟩
 ·obtain⟨vs,rfl,hl⟩:=hv
  exact⟨vs,rfl,Ny h hl⟩
 obtain⟨rfl,h⟩:=h
 obtain⟨vs,rfl,hl⟩:=hv
 exact⟨vs,rfl,FA h hl⟩
theorem BI {β:Be} {ρ:Rho}:∀ {t s:List AV} {vs:List Value},pJ ρ t s→L2 (gf β) s vs→L2 (gf (et β ρ)) t vs
 |[],[],[],_,_=>trivial
 |a::l,b::m,v::vs,h,hv=>⟨wU h.1 hv.1,BI h.2 hv.2⟩
 |[],_::_,_,h,_=>h.elim
 |_::_,[],_,h,_=>h.elim
 |[],[],_::_,_,h=>h.elim
 |_::_,_::_,[],_,h=>h.elim
theorem tQ {ρ:Rho}:∀ {t s:List Sc},cM ρ t s→t.length=s.length
 |[],[],_=>rfl
 |_::_,_::_,h=>by simp [tQ h.2]
 |[],_::_,h=>h.elim
 |_::_,[],h=>h.elim
theorem BJ {ρ:Rho}:∀ {t s:List Sc} {i:Nat} {x:Sc},cM ρ t s→t[i]? =some x→∃ y,s[i]? =some y∧Nx ρ x y
 |[],[],i,x,_,h=>by simp at h
 |a::l,b::m,0,x,hm,h=>by simp at h;subst h;exact⟨b,by simp,hm.1⟩
 |a::l,b::m,i+1,x,hm,h=>by simp at h;obtain⟨y,hy,hr⟩:=BJ hm.2 h;exact⟨y,by simpa using hy,hr⟩
 |[],_::_,_,_,hm,_=>hm.elim
 |_::_,[],_,_,hm,_=>hm.elim
theorem zJ {ρ:Rho}:∀ {t s:List (List Sc)} {i:Nat} {x:List Sc},Zb ρ t s→t[i]? =some x→∃ y,s[i]? =some y∧cM ρ x y
 |[],[],i,x,_,h=>by simp at h
 |a::l,b::m,0,x,hm,h=>by simp at h;subst h;exact⟨b,by simp,hm.1⟩
 |a::l,b::m,i+1,x,hm,h=>by simp at h;obtain⟨y,hy,hr⟩:=zJ hm.2 h;exact⟨y,by simpa using hy,hr⟩
 |[],_::_,_,_,hm,_=>hm.elim
 |_::_,[],_,_,hm,_=>hm.elim
theorem uY {β β':Be} {s:Sc} {v:Value} (hf:s.isFlat=true) (h:ScR β s v):ScR β' s v:=by
 cases s<;>first|exact h|cases hf
end
section
open Go.RowKit
def wV (n:Nat) (own:Bool):Rho→Hp→Bool
 |some (m,_)::ρ,some u::h=>(!(own || u.own) || n != m) && wV n own ρ h
 |_::ρ,_::h=>wV n own ρ h
 |_,_=>true
def eu:Rho→Hp→Bool
 |some (n,_)::ρ,some t::h=>wV n t.own ρ h && eu ρ h
 |_::ρ,_::h=>eu ρ h
 |_,_=>true
theorem wW {n:Nat} {own:Bool}:∀ {ρ:Rho} {h:Hp},wV n own ρ h=true→∀ {j m:Nat} {d:Option Nat} {u:AObj},ρ[j]? =some (some (m,d))→h[j]? =some (some u)→(own=true∨u.own=true)→n≠m
 |[],_,_,j,m,d,u,hr,_,_=>by simp at hr
 |_::_,[],_,j,m,d,u,_,hh,_=>by simp at hh
 |x::ρ,y::h,hs,0,m,d,u,hr,hh,ho=>by
  simp only [List.getElem?_cons_zero,Option.some.injEq] at hr hh
  subst hr;subst hh
  simp only [wV,Bool.and_eq_true,Bool.or_eq_true,bne_iff_ne,Bool.not_eq_true'] at hs
  rcases hs.1 with h1|h1
  ·rcases ho with ho|ho<;>simp [ho] at h1
  exact h1
 |x::ρ,y::h,hs,j+1,m,d,u,hr,hh,ho=>by
  simp only [List.getElem?_cons_succ] at hr hh
  refine wW (ρ:=ρ) (h:=h) ?_ hr hh ho
  cases x with
  |none=>simpa [wV] using hs
  |some x=>cases y with
   |none=>simpa [wV] using hs
   |some y=>
    obtain⟨a,b⟩:=x
    simp only [wV,Bool.and_eq_true] at hs
    exact hs.2
theorem jc {x:Option (Nat×Option Nat)} {y:Option AObj} {ρ:Rho} {h:Hp} (hs:eu (x::ρ) (y::h)=true):eu ρ h=true:=by
 cases x with
 |none=>simpa [eu] using hs
 |some x=>cases y with
  |none=>simpa [eu] using hs
  |some y=>
   obtain⟨a,b⟩:=x
   simp only [eu,Bool.and_eq_true] at hs
   exact hs.2
theorem mu:∀ {ρ:Rho} {h:Hp},eu ρ h=true→∀ {i j n m:Nat} {d e:Option Nat} {t u:AObj},i < j→ρ[i]? =some (some (n,d))→h[i]? =some (some t)→ρ[j]? =some (some (m,e))→h[j]? =some (some u)→(t.own=true∨u.own=true)→n≠m
 |[],_,_,i,j,n,m,d,e,t,u,_,hr,_,_,_,_=>by simp at hr
 |_::_,[],_,i,j,n,m,d,e,t,u,_,_,hh,_,_,_=>by simp at hh
 |x::ρ,y::h,hs,0,j+1,n,m,d,e,t,u,_,hr,hh,hr',hh',ho=>by
  simp only [List.getElem?_cons_zero,List.getElem?_cons_succ,Option.some.injEq] at hr hh hr' hh'
  subst hr;subst hh
  simp only [eu,Bool.and_eq_true] at hs
  exact wW hs.1 hr' hh' ho
 |x::ρ,y::h,hs,i+1,j+1,n,m,d,e,t,u,hlt,hr,hh,hr',hh',ho=>by
  simp only [List.getElem?_cons_succ] at hr hh hr' hh'
  exact mu (ρ:=ρ) (h:=h) (jc hs) (by omega) hr hh hr' hh' ho
theorem zK {ρ:Rho} {h:Hp} (hs:eu ρ h=true) {i j n m:Nat} {d e:Option Nat} {t u:AObj} (hij:i≠j) (hr:ρ[i]? =some (some (n,d))) (hh:h[i]? =some (some t)) (hr':ρ[j]? =some (some (m,e))) (hh':h[j]? =some (some u)) (ho:t.own=true∨u.own=true):n≠m:=by
 rcases Nat.lt_or_gt_of_ne hij with h1|h1
 ·exact mu hs h1 hr hh hr' hh' ho
 exact (mu hs h1 hr' hh' hr hh ho.symm).symm
theorem getD_some {h:Hp} {n:Nat} {ob:AObj} (e:h.getD n none=some ob):h[n]? =some (some ob):=by
 rw [List.getD_eq_getElem?_getD] at e
 cases hx:h[n]? with
 |none=>rw [hx] at e;cases e
 |some y=>rw [hx] at e;simp only [Option.getD_some] at e;rw [e]
theorem eR {ρ:Rho} {s:Hp}:∀ {ρ':Rho} {t:Hp},lg ρ s ρ' t→∀ {o:Nat} {ob:AObj},t[o]? =some (some ob)→
  (ρ'[o]? =some none∧ob.cs=[])∨∃ n d ob',ρ'[o]? =some (some (n,d))∧s[n]? =some (some ob')∧Zc ρ d ob ob'
 |[],[],_,o,ob,h=>by simp at h
 |x::ρ',y::t,hm,0,ob,h=>by
  simp only [List.getElem?_cons_zero,Option.some.injEq] at h
  subst h
  cases x with
  |none=>exact .inl ⟨rfl,hm.1⟩
  |some x=>
   obtain⟨n,d⟩:=x
   have h1:=hm.1
   split at h1
   ·rename_i ob' hob
    exact .inr ⟨n,d,ob',rfl,getD_some hob,h1⟩
   exact h1.elim
 |x::ρ',y::t,hm,o+1,ob,h=>by
  simp only [List.getElem?_cons_succ] at h⊢
  refine eR (ρ':=ρ') (t:=t) ?_ h
  cases x with
  |none=>cases y with
   |none=>exact hm
   |some y=>exact hm.2
  |some x=>cases y with
   |none=>exact hm
   |some y=>obtain⟨a,b⟩:=x;exact hm.2
 |[],_::_,hm,_,_,_=>by cases hm
 |x::_,[],hm,_,_,_=>by cases x with
  |none=>cases hm
  |some x=>obtain⟨a,b⟩:=x;cases hm
theorem gi {ρ:Rho} {s:Hp}:∀ {ρ':Rho} {t:Hp},lg ρ s ρ' t→ρ'.length=t.length
 |[],[],_=>rfl
 |x::ρ',y::t,hm=>by
  have:lg ρ s ρ' t:=by
   cases x with
   |none=>cases y with
    |none=>exact hm
    |some y=>exact hm.2
   |some x=>cases y with
    |none=>exact hm
    |some y=>obtain⟨a,b⟩:=x;exact hm.2
  simp [gi this]
 |[],_::_,hm=>by cases hm
 |x::_,[],hm=>by cases x with
  |none=>cases hm
  |some x=>obtain⟨a,b⟩:=x;cases hm
theorem js {ρ:Rho} {d:Option Nat} {t s:AObj} (h:Zc ρ d t s) (ho:t.own=true):d=none∧s.own=true:=by
 cases d with
 |none=>exact⟨rfl,h.2.2.1 ho⟩
 |some d=>
  have:t.own=false:=h.2.1
  rw [ho] at this;cases this
theorem uZ {β:Be} {ρ:Rho} {s t:Hp} {w:World} (hs:HSim β s w) (hm:lg ρ s ρ t) (hsep:eu ρ t=true):HSim (et β ρ) t w:=by
 refine⟨by rw [iN,gi hm],fun o ob ho=>?_,fun o ob ho hf=>?_,fun o o' ob ob' p p' ho ho' hown hp hp' hne=>?_⟩
 ·rcases eR hm ho with⟨hr,hcs⟩|⟨n,d,ob',hr,hn,hob⟩
  ·exact⟨none,bB β hr,hcs⟩
  obtain⟨q,hq,hR⟩:=hs.ob n ob' hn
  cases d with
  |none=>
   obtain⟨hesz,hty,hown,hcs⟩:=hob
   refine⟨q,by rw [bB β hr];dsimp only;rw [List.getD_eq_getElem?_getD,hq];rfl,?_⟩
   cases q with
   |none=>
    have h0:ob'.cs=[]:=hR
    split at hcs
    ·show ob.cs=[]
     rw [←hcs.2,h0]
    show ob.cs=[]
    rw [h0] at hcs
    cases hc:ob.cs with
    |nil=>rfl
    |cons=>rw [hc] at hcs;exact hcs.elim
   |some p=>
    obtain⟨he,arr,T,fz,hh,hc,ho2⟩:=hR
    refine⟨he.trans hesz,arr,T,fz,hh,?_,fun h=>?_⟩
    ·split at hcs
     ·rename_i hfl
      intro k c hk
      rw [←hcs.2] at hk
      obtain⟨h1,h2⟩:=hc k c hk
      rw [hesz] at h1
      refine⟨h1,fun j x hj=>?_⟩
      obtain⟨v,hv,hr'⟩:=h2 j x hj
      rw [hesz] at hv
      exact⟨v,hv,uY (fy.1 (hs.flat n ob' hn hcs.1 c (List.mem_of_getElem? hk)) x (List.mem_of_getElem? hj)) hr'⟩
     intro k c hk
     obtain⟨c',hk',hcm⟩:=zJ hcs hk
     obtain⟨h1,h2⟩:=hc k c' hk'
     rw [hesz] at h1
     refine⟨(tQ hcm).trans h1,fun j x hj=>?_⟩
     obtain⟨x',hj',hxm⟩:=BJ hcm hj
     obtain⟨v,hv,hr'⟩:=h2 j x' hj'
     rw [hesz] at hv
     exact⟨v,hv,zI hxm hr'⟩
    obtain⟨hT,hf,hb,ha⟩:=ho2 (hown h)
    exact⟨hT.trans hty,hf,hb,ha⟩
  |some d=>
   obtain⟨hesz,hno,hfl,hfl',hcs⟩:=hob
   refine⟨q.map (fun p=>{ p with base:=p.base+d*p.esz,avail:=p.avail - d*p.esz }),by rw [bB β hr];dsimp only;rw [List.getD_eq_getElem?_getD,hq];rfl,?_⟩
   cases q with
   |none=>
    have h0:ob'.cs=[]:=hR
    show ob.cs=[]
    rw [h0] at hcs
    simpa using hcs.symm
   |some p=>
    obtain⟨he,arr,T,fz,hh,hc,ho2⟩:=hR
    refine⟨he.trans hesz,arr,T,fz,hh,?_,fun h=>by rw [hno] at h;cases h⟩
    intro k c hk
    have hkl:k < ob.cs.length:=(List.getElem?_eq_some_iff.1 hk).1
    rw [←hcs,List.getElem?_take_of_lt hkl,List.getElem?_drop] at hk
    obtain⟨h1,h2⟩:=hc _ c hk
    rw [hesz] at h1
    refine⟨h1,fun j x hj=>?_⟩
    obtain⟨v,hv,hr'⟩:=h2 j x hj
    rw [hesz] at hv
    refine⟨v,?_,uY (fy.1 (hs.flat n ob' hn hfl' c (List.mem_of_getElem? hk)) x (List.mem_of_getElem? hj)) hr'⟩
    dsimp only
    rw [show p.base+d*p.esz+k*ob.esz+j=p.base+(d+k)*ob.esz+j from by rw [he,hesz,Nat.add_mul];omega]
    exact hv
 ·rcases eR hm ho with⟨hr,hcs⟩|⟨n,d,ob',hr,hn,hob⟩
  ·rw [hcs];intro c hc;cases hc
  cases d with
  |none=>
   obtain⟨_,_,_,hcs⟩:=hob
   rw [hf] at hcs
   rw [←hcs.2]
   exact hs.flat n ob' hn hcs.1
  |some d=>
   obtain⟨_,_,hfl,hfl',hcs⟩:=hob
   rw [←hcs]
   exact fun c hc=>hs.flat n ob' hn hfl' c (List.mem_of_mem_drop (List.mem_of_mem_take hc))
 rcases eR hm ho with⟨hr,_⟩|⟨n,d,x,hr,hn,hx⟩
 ·rw [bB β hr] at hp;cases hp
 rcases eR hm ho' with⟨hr',_⟩|⟨m,e,y,hr',hm',hy⟩
 ·rw [bB β hr'] at hp';cases hp'
 obtain⟨rfl,hxo⟩:=js hx hown
 have hnm:=zK hsep hne hr ho hr' ho' (.inl hown)
 rw [bB β hr] at hp
 simp only [Option.some.injEq] at hp
 have hbn:β[n]? =some (some p):=by
  rw [List.getD_eq_getElem?_getD] at hp
  cases h:β[n]? with
  |none=>rw [h] at hp;cases hp
  |some z=>rw [h] at hp;simp only [Option.getD_some] at hp;rw [hp]
 have hbm:∃ q,β[m]? =some (some q)∧q.blk=p'.blk:=by
  rw [bB β hr'] at hp'
  simp only [Option.some.injEq] at hp'
  cases e with
  |none=>
   dsimp only at hp'
   rw [List.getD_eq_getElem?_getD] at hp'
   cases h:β[m]? with
   |none=>rw [h] at hp';cases hp'
   |some z=>rw [h] at hp';simp only [Option.getD_some] at hp';exact⟨p',by rw [hp'],rfl⟩
  |some e=>
   dsimp only at hp'
   rw [List.getD_eq_getElem?_getD] at hp'
   cases h:β[m]? with
   |none=>rw [h] at hp';cases hp'
   |some z=>
    rw [h] at hp'
    cases z with
    |none=>cases hp'
    |some z=>simp only [Option.getD_some,Option.map_some,Option.some.injEq] at hp';exact⟨z,rfl,by rw [←hp']⟩
 obtain⟨q,hq,hqb⟩:=hbm
 rw [←hqb]
 exact hs.apart n m x y p q hn hm' hxo hbn hq hnm
def yH (ρ:Rho):List (Option AV)→List (Option AV)→Prop
 |[],[]=>True
 |none::l,_::m=>yH ρ l m
 |some a::l,some b::m=>zH ρ a b∧yH ρ l m
 |_,_=>False
def BK (ρ:Rho):Slots→Slots→Prop
 |[],[]=>True
 |a::l,b::m=>yH ρ a b∧BK ρ l m
 |_,_=>False
theorem ke {ρ:Rho}:∀ {t s:List (Option AV)},yH ρ t s→t.length=s.length
 |[],[],_=>rfl
 |none::l,_::m,h=>by simp [ke (t:=l) (s:=m) h]
 |some a::l,some b::m,h=>by simp [ke h.2]
 |some a::l,none::m,h=>h.elim
 |[],_::_,h=>h.elim
 |none::_,[],h=>h.elim
 |some _::_,[],h=>h.elim
theorem pK {ρ:Rho}:∀ {t s:List (Option AV)} {i:Nat} {v:AV},yH ρ t s→t[i]? =some (some v)→∃ u,s[i]? =some (some u)∧zH ρ v u
 |[],[],i,v,_,h=>by simp at h
 |none::l,_::m,0,v,_,h=>by simp at h
 |none::l,_::m,i+1,v,hm,h=>by simp at h;obtain⟨u,hu,hr⟩:=pK (t:=l) (s:=m) hm h;exact⟨u,by simpa using hu,hr⟩
 |some a::l,some b::m,0,v,hm,h=>by simp at h;subst h;exact⟨b,by simp,hm.1⟩
 |some a::l,some b::m,i+1,v,hm,h=>by simp at h;obtain⟨u,hu,hr⟩:=pK hm.2 h;exact⟨u,by simpa using hu,hr⟩
 |some a::l,none::m,_,_,h,_=>h.elim
 |[],_::_,_,_,h,_=>h.elim
 |none::_,[],_,_,h,_=>h.elim
 |some _::_,[],_,_,h,_=>h.elim
theorem nx {ρ:Rho}:∀ {t s:Slots} (i:Nat),BK ρ t s→(t[i]? =none∧s[i]? =none)∨∃ a b,t[i]? =some a∧s[i]? =some b∧yH ρ a b
 |[],[],i,_=>.inl ⟨by simp,by simp⟩
 |a::l,b::m,0,h=>.inr ⟨a,b,by simp,by simp,h.1⟩
 |a::l,b::m,i+1,h=>by simpa using nx i h.2
 |[],_::_,_,h=>h.elim
 |_::_,[],_,h=>h.elim
theorem u3 {β:Be} {ρ:Rho} {t s:Slots} {tm:Array Value} (h:BK ρ t s) (hs:SlotsR β s tm):SlotsR (et β ρ) t tm:=by
 have hhas:∀ i,t.has i→s.has i:=by
  intro i hi
  unfold Slots.has at hi⊢
  rw [List.getD_eq_getElem?_getD] at hi⊢
  rcases nx (i / 16) h with⟨h1,h2⟩|⟨a,b,h1,h2,h3⟩
  ·rw [h1] at hi;simp at hi
  rw [h1] at hi
  rw [h2]
  simp only [Option.getD_some] at hi⊢
  rw [←ke h3]
  exact hi
 refine⟨fun i hi=>hs.1 i (hhas i hi),fun i v hv=>?_⟩
 unfold Slots.get at hv
 rw [List.getD_eq_getElem?_getD (l:=t)] at hv
 rcases nx (i / 16) h with⟨h1,h2⟩|⟨a,b,h1,h2,h3⟩
 ·rw [h1] at hv;simp at hv
 rw [h1,Option.getD_some,List.getD_eq_getElem?_getD] at hv
 have hv':a[i % 16]? =some (some v):=by
  cases hx:a[i % 16]? with
  |none=>rw [hx] at hv;cases hv
  |some y=>rw [hx] at hv;simp only [Option.getD_some] at hv;rw [hv]
 obtain⟨u,hu,hr⟩:=pK h3 hv'
 have hg:s.get i=some u:=by
  unfold Slots.get
  rw [List.getD_eq_getElem?_getD (l:=s),h2,Option.getD_some,List.getD_eq_getElem?_getD,hu]
  rfl
 obtain⟨x,hx,hxr⟩:=hs.2 i u hg
 exact⟨x,hx,wU hr hxr⟩
def BL:Nat→Nat→Rho→Bool
 |0,n0,ρ=>ρ.all fun|some (n,none)=>decide (n0≤n)|some (_,some _)=>false|none=>true
 |k+1,n0,some (n,none)::ρ=>n == n0 && BL k (n0+1) ρ
 |_,_,_=>false
def mv (ρ:Rho) (n0:Nat) (t s:S):Prop:=BL n0 0 ρ=true∧eu ρ t.hp=true∧BK ρ t.sl s.sl∧lg ρ s.hp ρ t.hp
theorem BM:∀ {k n0:Nat} {ρ:Rho},BL k n0 ρ=true→(∀ i,i < k→ρ[i]? =some (some (n0+i,none)))∧(∀ i n d,k≤i→ρ[i]? =some (some (n,d))→d=none∧n0+k≤n)
 |0,n0,ρ,h=>by
  refine⟨fun i hi=>by omega,fun i n d _ hr=>?_⟩
  have:=List.all_eq_true.1 (by simpa [BL] using h) _ (List.mem_of_getElem? hr)
  cases d with
  |none=>exact⟨rfl,by simpa using this⟩
  |some d=>cases this
 |k+1,n0,ρ,h=>by
  cases ρ with
  |nil=>cases h
  |cons x ρ=>
   cases x with
   |none=>cases h
   |some x=>
    obtain⟨n,d⟩:=x
    cases d with
    |some d=>cases h
    |none=>
     simp only [BL,Bool.and_eq_true,beq_iff_eq] at h
     obtain⟨rfl,h⟩:=h
     obtain⟨h1,h2⟩:=BM h
     refine⟨fun i hi=>?_,fun i m d hi hr=>?_⟩
     ·cases i with
      |zero=>simp
      |succ i=>
       rw [List.getElem?_cons_succ,h1 i (by omega)]
       simp only [Option.some.injEq,Prod.mk.injEq,and_true]
       omega
     cases i with
     |zero=>omega
     |succ i=>
      rw [List.getElem?_cons_succ] at hr
      obtain⟨h3,h4⟩:=h2 i m d (by omega) hr
      exact⟨h3,by omega⟩
theorem wX {E:Entry} {n0:Nat} (hE:E.h.length=n0) {ρ:Rho} {t s:S} (h:mv ρ n0 t s) {β:Be} {a:Act} {w:World} (hs:Sim E β s a w):Sim E (et β ρ) t a w:=by
 obtain⟨hid,hsep,hsl,hhp⟩:=h
 obtain⟨hlo,hhi⟩:=BM hid
 have hlen:=gi hhp
 have hl0:n0≤t.hp.length:=by
  rw [←hlen]
  rcases Nat.lt_or_ge ρ.length n0 with h1|h1
  ·have:=hlo ρ.length h1
   rw [List.getElem?_eq_none (Nat.le_refl _)] at this
   cases this
  exact h1
 refine⟨hs.dfr,u3 hsl hs.sl,uZ hs.hp hhp hsep,hs.ent,?_⟩
 have st:=hs.st
 refine⟨fun o p hp=>?_,st.os,st.tape,st.output,st.size,st.block,by rw [hE];exact hl0,fun o ob hlt ho=>?_,fun o ob p hge ho hp=>?_⟩
 ·have hlt:o < n0:=by rw [←hE,←hs.ent];exact (List.getElem?_eq_some_iff.1 hp).1
  have h1:=hlo o hlt
  rw [Nat.zero_add] at h1
  rw [bB β h1]
  dsimp only
  rw [List.getD_eq_getElem?_getD,st.le o p hp]
  rfl
 ·rw [hE] at hlt
  have h1:=hlo o hlt
  rw [Nat.zero_add] at h1
  rcases eR hhp ho with⟨hr,_⟩|⟨n,d,ob',hr,hn,hob⟩
  ·rw [h1] at hr;cases hr
  rw [h1] at hr
  simp only [Option.some.injEq,Prod.mk.injEq] at hr
  obtain⟨rfl,rfl⟩:=hr
  obtain⟨ob0,ho0,hown0⟩:=st.old o ob' (by rw [hE];exact hlt) hn
  exact⟨ob0,ho0,fun h=>hown0 (js hob h).2⟩
 rw [hE] at hge
 rcases eR hhp ho with⟨hr,_⟩|⟨n,d,ob',hr,hn,hob⟩
 ·rw [bB β hr] at hp;cases hp
 obtain⟨rfl,hge'⟩:=hhi o n d hge hr
 rw [bB β hr] at hp
 simp only [Option.some.injEq] at hp
 rw [List.getD_eq_getElem?_getD] at hp
 have hb:β[n]? =some (some p):=by
  cases h:β[n]? with
  |none=>rw [h] at hp;cases hp
  |some z=>rw [h] at hp;simp only [Option.getD_some] at hp;rw [hp]
 exact st.fresh n ob' p (by rw [hE];omega) hn hb
theorem BN {P:Program} {E:Entry} {n0:Nat} (hE:E.h.length=n0) {ρ:Rho} {t s:S} (h:mv ρ n0 t s) {C:Code} {K:Exit→S→Prop} (hd:oe P E C t K):oe P E C s K:=
 fun β a w hs Q hQ=>hd _ a w (wX hE h hs) Q hQ
def S.kill (l:Slots):List Nat→Slots
 |[]=>l
 |k::r=>S.kill (l.put k none) r
def S.sets (l:Slots):List (Nat×AV)→Slots
 |[]=>l
 |(k,v)::r=>S.sets (l.put k (some v)) r
def S.at (s:S) (kill:List Nat) (set:List (Nat×AV)) (h:Hp):S:=⟨S.sets (S.kill s.sl kill) set,h⟩
theorem an {P:Program} {E:Entry} {F:S→Prop} {b:Code} {k:List Item} {s:S} {c:Prop} {ι:Type} (n0:Nat) (hE:E.h.length=n0) (mk:S→ι→S) (J:ι→Prop) (μ:ι→Nat) (i0:ι) (ρ0:Rho) (hc:c) (hJ:J i0) (h0:mv ρ0 n0 (mk s i0) s)
  (h:∀ i,J i→∀ N:S→Prop,(∀ (s':S) (j:ι) (ρ:Rho),J j→μ j < μ i→mv ρ n0 (mk s j) s'→N s')→gW P E F (.go (.code b::.hook N::k) (mk s i) True)):gW P E F (.lp b k s c):=by
 refine⟨hc,wT (fun _=>True) (fun s' n=>∃ i ρ,J i∧mv ρ n0 (mk s i) s'∧μ i=n) (μ i0) ⟨trivial,i0,ρ0,hJ,h0,rfl⟩ fun s' n _ ⟨i,ρ,hi,hw,hn⟩=>?_⟩
 have hd:=(h i hi (fun s''=>∃ j ρ,J j∧μ j < μ i∧mv ρ n0 (mk s j) s'') fun s'' j ρ' hj hlt hw'=>⟨j,ρ',hj,hlt,hw'⟩).2
 refine BN hE hw (fS hd fun e s'' hk=>?_)
 cases e with
 |normal=>
  obtain⟨j,ρ',hj,hlt,hw'⟩:=hk
  exact⟨trivial,μ j,by omega,j,ρ',hj,hw',rfl⟩
 |_=>exact hk
theorem af {ρ:Rho} {n0:Nat} {t s:S} (h1:BL n0 0 ρ=true) (h2:eu ρ t.hp=true) (h:BK ρ t.sl s.sl∧lg ρ s.hp ρ t.hp):mv ρ n0 t s:=⟨h1,h2,h.1,h.2⟩
end
section
open Go.RowKit
def ny (ρ:Rho) (N o:Nat):Option (Nat×Option Nat):=if o < ρ.length then ρ.at o else some (N+(o - ρ.length),none)
def mw (ρ:Rho) (N:Nat):Sc→Sc
 | .sl o off len=>match ny ρ N o with
  |some (n,none)=>.sl n off len
  |some (n,some d)=>.sl n (off+d) len
  |none=>.nil
 | .pt o k j=>match ny ρ N o with
  |some (n,none)=>.pt n k j
  |some (n,some d)=>.pt n (k+d) j
  |none=>.nil
 | .int k n=>.int k n
 | .bo b=>.bo b
 | .st l=>.st l
 | .nil=>.nil
 | .un=>.un
def my (ρ:Rho) (N:Nat):List Sc→List Sc
 |[]=>[]
 |a::l=>mw ρ N a::my ρ N l
def BO (ρ:Rho) (N:Nat):Co→Co
 | .sc a=>.sc (mw ρ N a)
 | .ag l=>.ag (my ρ N l)
def zL (ρ:Rho) (N:Nat):List Co→List Co
 |[]=>[]
 |a::l=>BO ρ N a::zL ρ N l
def ln (ρ:Rho) (N:Nat):AV→AV
 | .sc a=>.sc (mw ρ N a)
 | .ag l=>.ag (my ρ N l)
 | .tu l=>.tu (zL ρ N l)
 | .cl f l=>.cl f (my ρ N l)
def pL (ρ:Rho) (N:Nat):List (List Sc)→List (List Sc)
 |[]=>[]
 |a::l=>my ρ N a::pL ρ N l
def gc (ρ:Rho) (N:Nat) (ob:AObj):AObj:=
 match ob.fl with
 |true=>ob
 |false=>{ ob with cs:=pL ρ N ob.cs }
def ir (ρ:Rho) (N:Nat):Hp→Hp
 |[]=>[]
 |none::h=>none::ir ρ N h
 |some ob::h=>some (gc ρ N ob)::ir ρ N h
def kg (ρ:Rho) (N:Nat):Option AObj→Option AObj
 |none=>none
 |some ob=>some (gc ρ N ob)
def ez (ρ0:Rho) (N:Nat):Rho→Hp→Hp→Hp→Hp
 |some (n,_)::ρ,some t::h,t'::h',s=>match t.own with
  |true=>ez ρ0 N ρ h h' (s.set n (kg ρ0 N t'))
  |false=>ez ρ0 N ρ h h' s
 |_::ρ,_::h,_::h',s=>ez ρ0 N ρ h h' s
 |_,_,_,s=>s
def eA (ρ:Rho) (h0 h0' s:Hp):Hp:=ez ρ s.length ρ h0 h0' s++ir ρ s.length (h0'.drop h0.length)
theorem gF (ρ0:Rho) (N:Nat):∀ (ρ:Rho) (h h' s:Hp),(ez ρ0 N ρ h h' s).length=s.length
 |[],_,_,s=>by simp [ez]
 |x::ρ,[],_,s=>by cases x<;>simp [ez]
 |x::ρ,y::h,[],s=>by cases x<;>cases y<;>simp [ez]
 |none::ρ,y::h,z::h',s=>by cases y<;>simp [ez,gF ρ0 N ρ h h' s]
 |some x::ρ,none::h,z::h',s=>by simp [ez,gF ρ0 N ρ h h' s]
 |some (n,d)::ρ,some t::h,z::h',s=>by
  cases ho:t.own
  ·simp [ez,ho,gF ρ0 N ρ h h' s]
  simp [ez,ho,gF ρ0 N ρ h h' (s.set n (kg ρ0 N z))]
theorem gj {ρ0:Rho} {N o:Nat}:∀ {ρ:Rho} {h h' s:Hp},(∀ (i:Nat) (d:Option Nat) (t:AObj),ρ[i]? =some (some (o,d))→h[i]? =some (some t)→t.own=false)→(ez ρ0 N ρ h h' s)[o]? =s[o]?
 |[],_,_,s,_=>by simp [ez]
 |x::ρ,[],_,s,_=>by cases x<;>simp [ez]
 |x::ρ,y::h,[],s,_=>by cases x<;>cases y<;>simp [ez]
 |none::ρ,y::h,z::h',s,hx=>by
  cases y<;>simpa [ez] using gj (ρ:=ρ) (h:=h) (h':=h') (s:=s) (fun i d t h1 h2=>hx (i+1) d t (by simpa using h1) (by simpa using h2))
 |some x::ρ,none::h,z::h',s,hx=>by
  simpa [ez] using gj (ρ:=ρ) (h:=h) (h':=h') (s:=s) (fun i d t h1 h2=>hx (i+1) d t (by simpa using h1) (by simpa using h2))
 |some (n,d)::ρ,some t::h,z::h',s,hx=>by
  cases ho:t.own
  ·simpa [ez,ho] using gj (ρ:=ρ) (h:=h) (h':=h') (s:=s) (fun i d t h1 h2=>hx (i+1) d t (by simpa using h1) (by simpa using h2))
  have hne:n≠o:=fun e=>by
   subst e
   have:=hx 0 d t (by simp) (by simp)
   rw [ho] at this;cases this
  have:=gj (ρ0:=ρ0) (N:=N) (ρ:=ρ) (h:=h) (h':=h') (s:=s.set n (kg ρ0 N z)) (fun i d t h1 h2=>hx (i+1) d t (by simpa using h1) (by simpa using h2))
  simp only [ez,ho]
  rw [this,List.getElem?_set_ne hne]
theorem kh {ρ0:Rho} {N o:Nat}:∀ {ρ:Rho} {h h' s:Hp},eu ρ h=true→o < s.length→∀ {i:Nat} {d:Option Nat} {t:AObj} {x:Option AObj},ρ[i]? =some (some (o,d))→h[i]? =some (some t)→t.own=true→h'[i]? =some x→(ez ρ0 N ρ h h' s)[o]? =some (kg ρ0 N x)
 |[],_,_,s,_,_,i,d,t,x,h1,_,_,_=>by simp at h1
 |_::_,[],_,s,_,_,i,d,t,x,_,h2,_,_=>by simp at h2
 |_::_,_::_,[],s,_,_,i,d,t,x,_,_,_,h4=>by simp at h4
 |y::ρ,u::h,z::h',s,hs,hlt,0,d,t,x,h1,h2,h3,h4=>by
  simp only [List.getElem?_cons_zero,Option.some.injEq] at h1 h2 h4
  subst h1;subst h2;subst h4
  have hx:∀ (i:Nat) (d':Option Nat) (t':AObj),ρ[i]? =some (some (o,d'))→h[i]? =some (some t')→t'.own=false:=by
   intro i d' t' k1 k2
   cases ho:t'.own with
   |false=>rfl
   |true=>exact absurd rfl (mu (n:=o) (m:=o) (d:=d) (e:=d') (t:=t) (u:=t') hs (show 0 < i+1 by omega) (by simp) (by simp) (by simpa using k1) (by simpa using k2) (.inl h3))
  simp only [ez,h3]
  rw [gj hx,List.getElem?_set_self hlt]
 |y::ρ,u::h,z::h',s,hs,hlt,i+1,d,t,x,h1,h2,h3,h4=>by
  simp only [List.getElem?_cons_succ] at h1 h2 h4
  cases y with
  |none=>cases u<;>simpa [ez] using kh (ρ:=ρ) (h:=h) (h':=h') (s:=s) (jc hs) hlt h1 h2 h3 h4
  |some y=>
   obtain⟨n,e⟩:=y
   cases u with
   |none=>simpa [ez] using kh (ρ:=ρ) (h:=h) (h':=h') (s:=s) (jc hs) hlt h1 h2 h3 h4
   |some u=>
    cases ho:u.own
    ·simpa [ez,ho] using kh (ρ:=ρ) (h:=h) (h':=h') (s:=s) (jc hs) hlt h1 h2 h3 h4
    simpa [ez,ho] using kh (ρ:=ρ) (h:=h) (h':=h') (s:=s.set n (kg ρ0 N z)) (jc hs) (by simpa using hlt) h1 h2 h3 h4
theorem nz (ρ:Rho) (N:Nat):∀ (h:Hp) (o:Nat),(ir ρ N h)[o]? =(h[o]?).map (kg ρ N)
 |[],o=>by simp [ir]
 |none::h,0=>by simp [ir,kg]
 |some ob::h,0=>by simp [ir,kg]
 |none::h,o+1=>by simpa [ir] using nz ρ N h o
 |some ob::h,o+1=>by simpa [ir] using nz ρ N h o
def ei (β β0':Be) (n:Nat):Be:=β++β0'.drop n
section
variable {β β0':Be} {ρ:Rho} {N:Nat}
theorem pM (hN:β.length=N) {o:Nat} (ho:ρ.length≤o):(ei β β0' ρ.length)[N+(o - ρ.length)]? =β0'[o]? :=by
 unfold ei
 rw [List.getElem?_append_right (by omega),List.getElem?_drop]
 congr 1
 omega
theorem lU {o:Nat} (ho:o < β.length):(ei β β0' ρ.length)[o]? =β[o]? :=by
 unfold ei
 rw [List.getElem?_append_left ho]
theorem u4 {β:Be} {n:Nat} {p:Pl} (h:β.getD n none=some p):β[n]? =some (some p):=by
 rw [List.getD_eq_getElem?_getD] at h
 cases hx:β[n]? with
 |none=>rw [hx] at h;cases h
 |some y=>rw [hx] at h;simp only [Option.getD_some] at h;rw [h]
theorem pN (hN:β.length=N) (hle:Be.le (et β ρ) β0') {o:Nat} {p:Pl} (hp:β0'[o]? =some (some p)):
  ∃ (n:Nat) (d:Option Nat) (q:Pl),ny ρ N o=some (n,d)∧(ei β β0' ρ.length)[n]? =some (some q)∧p=(match d with
   |none=>q
   |some d=>{ q with base:=q.base+d*q.esz,avail:=q.avail - d*q.esz }):=by
 unfold ny
 by_cases hlt:o < ρ.length
 ·rw [if_pos hlt]
  have hx:ρ[o]? =some ρ[o]:=List.getElem?_eq_getElem hlt
  have hb:=hle _ _ (bB β hx)
  rw [hp] at hb
  simp only [Option.some.injEq] at hb
  have hat:ρ.at o=ρ[o]:=by unfold Rho.at;rw [List.getD_eq_getElem?_getD,hx];rfl
  rw [hat]
  cases hr:ρ[o] with
  |none=>rw [hr] at hb;cases hb
  |some x=>
   obtain⟨n,d⟩:=x
   rw [hr] at hb
   cases d with
   |none=>
    dsimp only at hb
    have h1:=u4 hb.symm
    exact⟨n,none,p,rfl,by rw [lU (List.getElem?_eq_some_iff.1 h1).1];exact h1,rfl⟩
   |some d=>
    dsimp only at hb
    cases hg:β.getD n none with
    |none=>rw [hg] at hb;cases hb
    |some q=>
     rw [hg] at hb
     simp only [Option.map_some,Option.some.injEq] at hb
     have h1:=u4 hg
     exact⟨n,some d,q,rfl,by rw [lU (List.getElem?_eq_some_iff.1 h1).1];exact h1,hb⟩
 rw [if_neg hlt]
 exact⟨N+(o - ρ.length),none,p,rfl,by rw [pM hN (by omega)];exact hp,rfl⟩
theorem pn (hN:β.length=N) (hle:Be.le (et β ρ) β0'):∀ {s:Sc} {v:Value},ScR β0' s v→ScR (ei β β0' ρ.length) (mw ρ N s) v
 | .int ..,_,h=>h
 | .bo _,_,h=>h
 | .st _,_,h=>h
 | .nil,_,h=>h
 | .un,_,h=>h
 | .sl o off len,v,⟨a,cap,hv,h1,h2,h3⟩=>by
  rcases h3 with h3|⟨p,hp,ha,hav⟩
  ·subst h3
   have:len=0:=by omega
   subst this
   subst hv
   simp only [mw]
   split
   ·exact⟨a,0,rfl,Nat.le_refl _,h2,.inl rfl⟩
   ·exact⟨a,0,rfl,Nat.le_refl _,h2,.inl rfl⟩
   exact⟨a,rfl⟩
  obtain⟨n,d,q,hn,hq,hpq⟩:=pN hN hle hp
  simp only [mw,hn]
  cases d with
  |none=>
   dsimp only at hpq
   subst hpq
   exact⟨a,cap,hv,h1,h2,.inr ⟨p,hq,ha,hav⟩⟩
  |some d=>
   dsimp only at hpq
   subst hpq
   dsimp only at ha hav
   by_cases hc:cap=0
   ·exact⟨a,cap,hv,h1,h2,.inl hc⟩
   refine⟨a,cap,hv,h1,h2,?_⟩
   by_cases hz:q.esz=0
   ·refine .inr ⟨q,hq,?_,?_⟩
    ·rw [ha,hz];simp
    rw [hz];simp
   refine .inr ⟨q,hq,?_,?_⟩
   ·rw [ha]
    simp only [Option.some.injEq,Addr.mk.injEq,and_true,true_and]
    rw [Nat.add_mul]
    omega
   have hpos:0 < (off+cap)*q.esz:=Nat.mul_pos (by omega) (by omega)
   rw [show off+d+cap=(off+cap)+d from by omega,Nat.add_mul]
   omega
 | .pt o k j,v,⟨p,hp,hv⟩=>by
  obtain⟨n,d,q,hn,hq,hpq⟩:=pN hN hle hp
  simp only [mw,hn]
  cases d with
  |none=>
   dsimp only at hpq
   subst hpq
   exact⟨p,hq,hv⟩
  |some d=>
   dsimp only at hpq
   subst hpq
   refine⟨q,hq,?_⟩
   rw [hv]
   simp only [Value.pointer.injEq,Option.some.injEq,Addr.mk.injEq,and_true,true_and]
   rw [Nat.add_mul]
   omega
theorem u5 (hN:β.length=N) (hle:Be.le (et β ρ) β0'):∀ {s:List Sc} {vs:List Value},L2 (ScR β0') s vs→L2 (ScR (ei β β0' ρ.length)) (my ρ N s) vs
 |[],[],_=>trivial
 |a::l,v::vs,h=>⟨pn hN hle h.1,u5 hN hle h.2⟩
 |[],_::_,h=>h.elim
 |_::_,[],h=>h.elim
theorem FB (hN:β.length=N) (hle:Be.le (et β ρ) β0') {s:Co} {v:Value} (h:yt β0' s v):yt (ei β β0' ρ.length) (BO ρ N s) v:=by
 cases s with
 |sc s=>exact pn hN hle h
 |ag l=>obtain⟨vs,hv,hl⟩:=h;exact⟨vs,hv,u5 hN hle hl⟩
theorem zM (hN:β.length=N) (hle:Be.le (et β ρ) β0'):∀ {s:List Co} {vs:List Value},L2 (yt β0') s vs→L2 (yt (ei β β0' ρ.length)) (zL ρ N s) vs
 |[],[],_=>trivial
 |a::l,v::vs,h=>⟨FB hN hle h.1,zM hN hle h.2⟩
 |[],_::_,h=>h.elim
 |_::_,[],h=>h.elim
theorem FC (hN:β.length=N) (hle:Be.le (et β ρ) β0') {s:AV} {v:Value} (h:gf β0' s v):gf (ei β β0' ρ.length) (ln ρ N s) v:=by
 cases s with
 |sc s=>exact pn hN hle h
 |ag l=>obtain⟨vs,hv,hl⟩:=h;exact⟨vs,hv,u5 hN hle hl⟩
 |tu l=>obtain⟨vs,hv,hl⟩:=h;exact⟨vs,hv,zM hN hle hl⟩
 |cl f l=>obtain⟨vs,hv,hl⟩:=h;exact⟨vs,hv,u5 hN hle hl⟩
theorem wY (ρ:Rho) (N:Nat):∀ (l:List Sc) (i:Nat),(my ρ N l)[i]? =(l[i]?).map (mw ρ N)
 |[],i=>by simp [my]
 |a::l,0=>by simp [my]
 |a::l,i+1=>by simpa [my] using wY ρ N l i
theorem oh (ρ:Rho) (N:Nat):∀ (l:List Sc),(my ρ N l).length=l.length
 |[]=>rfl
 |a::l=>by simp [my,oh ρ N l]
theorem tR (ρ:Rho) (N:Nat):∀ (l:List (List Sc)) (i:Nat),(pL ρ N l)[i]? =(l[i]?).map (my ρ N)
 |[],i=>by simp [pL]
 |a::l,0=>by simp [pL]
 |a::l,i+1=>by simpa [pL] using tR ρ N l i
theorem is (ob:AObj):(gc ρ N ob).esz=ob.esz∧(gc ρ N ob).ty=ob.ty∧(gc ρ N ob).own=ob.own∧(gc ρ N ob).fl=ob.fl:=by
 unfold gc
 split<;>simp_all
theorem zN (hN:β.length=N) (hle:Be.le (et β ρ) β0') {w:World} {p:Option Pl} {ob:AObj} (h:ObR β0' w p ob) (hflat:ob.fl=true→FlatL ob.cs):ObR (ei β β0' ρ.length) w p (gc ρ N ob):=by
 obtain⟨e1,e2,e3,e4⟩:=is (ρ:=ρ) (N:=N) ob
 cases p with
 |none=>
  have h0:ob.cs=[]:=h
  show (gc ρ N ob).cs=[]
  unfold gc
  split
  ·exact h0
  rw [h0];rfl
 |some p=>
  obtain⟨he,arr,T,fz,hh,hc,ho⟩:=h
  refine⟨by rw [e1];exact he,arr,T,fz,hh,?_,by rw [e2,e3];exact ho⟩
  rw [e1]
  unfold gc
  split
  ·rename_i hf
   exact fun k c hk=>⟨(hc k c hk).1,fun j s hs=>let⟨v,hv,hr⟩:=(hc k c hk).2 j s hs;⟨v,hv,uY (fy.1 (hflat hf c (List.mem_of_getElem? hk)) s (List.mem_of_getElem? hs)) hr⟩⟩
  intro k c hk
  dsimp only at hk
  rw [tR] at hk
  simp only [Option.map_eq_some_iff] at hk
  obtain⟨c0,hk0,rfl⟩:=hk
  obtain⟨h1,h2⟩:=hc k c0 hk0
  refine⟨by rw [oh];exact h1,fun j s hs=>?_⟩
  rw [wY] at hs
  simp only [Option.map_eq_some_iff] at hs
  obtain⟨s0,hs0,rfl⟩:=hs
  obtain⟨v,hv,hr⟩:=h2 j s0 hs0
  exact⟨v,hv,pn hN hle hr⟩
end
theorem zO {β:Be} {ρ:Rho} {s t:Hp} (hm:lg ρ s ρ t) {k:Nat} (h:Own (et β ρ) t k):∃ (i n:Nat) (ob':AObj) (p:Pl),ρ[i]? =some (some (n,none))∧s[n]? =some (some ob')∧ob'.own=true∧β[n]? =some (some p)∧(et β ρ)[i]? =some (some p)∧p.blk=k∧∃ ob:AObj,t[i]? =some (some ob)∧ob.own=true:=by
 obtain⟨i,ob,p,ho,hown,hp,rfl⟩:=h
 rcases eR hm ho with⟨hr,_⟩|⟨n,d,ob',hr,hn,hob⟩
 ·rw [bB β hr] at hp;cases hp
 obtain⟨rfl,hown'⟩:=js hob hown
 have hp':=hp
 rw [bB β hr] at hp'
 simp only [Option.some.injEq] at hp'
 exact⟨i,n,ob',p,hr,hn,hown',u4 hp',hp,rfl,ob,ho,hown⟩
theorem BP {P:Program} {f:FuncId} {args0 avs:List AV} {h0 h0' s:Hp} {res0:AV} (ρ:Rho) (hargs:pJ ρ args0 avs) (hm:lg ρ s ρ h0) (hsep:eu ρ h0=true) {β:Be} {w:World} {vs:List Value}
  (hcall:∀ vs,HSim (et β ρ) h0 w→L2 (gf (et β ρ)) args0 vs→Calls P f vs.toArray w fun e w'=>∃ β' v,e=.returned v∧gf β' res0 v∧HSim β' h0' w'∧StepR (et β ρ) β' h0 h0' w w') (hs:HSim β s w) (hvs:L2 (gf β) avs vs):
  Calls P f vs.toArray w fun e w'=>∃ β' v,e=.returned v∧gf β' (ln ρ s.length res0) v∧HSim β' (eA ρ h0 h0' s) w'∧StepR β β' s (eA ρ h0 h0' s) w w':=by
 have hlen:ρ.length=h0.length:=gi hm
 refine (hcall vs (uZ hs hm hsep) (BI hargs hvs)).mono fun e w' ⟨β0',v,he,hr,hh,hst⟩=>?_
 have hN:β.length=s.length:=hs.len
 have hle:=hst.le
 have hl0':h0.length≤h0'.length:=hst.len
 -- blocks that were there stay, but for what the callee owned
 have hblk:∀ {o:Nat} {ob:AObj} {p:Pl},s[o]? =some (some ob)→β[o]? =some (some p)→(∀ (i:Nat) (d:Option Nat) (t:AObj),ρ[i]? =some (some (o,d))→h0[i]? =some (some t)→t.own=false)→w'.heap[p.blk]? =w.heap[p.blk]? :=by
  intro o ob p ho hp hx
  obtain⟨q,hq,hR⟩:=hs.ob o ob ho
  rw [hp] at hq;cases hq
  refine hst.block _ hR.lt fun hown=>?_
  obtain⟨i,n,ob',q,hr1,hn,hown',hq,_,hqb,t,ht,hto⟩:=zO hm hown
  by_cases hno:n=o
  ·subst hno
   have:=hx i none t hr1 ht
   rw [hto] at this;cases this
  exact hs.apart n o ob' ob q p hn ho hown' hq hp hno hqb
 -- what stands in the caller's heap behind the call
 have hlenU:(ez ρ s.length ρ h0 h0' s).length=s.length:=gF _ _ _ _ _ _
 have kind:∀ {o:Nat} {x:AObj},(eA ρ h0 h0' s)[o]? =some (some x)→
   (o < s.length∧s[o]? =some (some x)∧(∀ (i:Nat) (d:Option Nat) (t:AObj),ρ[i]? =some (some (o,d))→h0[i]? =some (some t)→t.own=false))∨
   (o < s.length∧∃ (i:Nat) (x0 t ob:AObj),ρ[i]? =some (some (o,none))∧h0[i]? =some (some t)∧t.own=true∧s[o]? =some (some ob)∧ob.own=true∧h0'[i]? =some (some x0)∧i < h0.length∧x=gc ρ s.length x0)∨
   (∃ (i:Nat) (x0:AObj),h0.length≤i∧o=s.length+(i - h0.length)∧h0'[i]? =some (some x0)∧x=gc ρ s.length x0):=by
  intro o x hx
  unfold eA at hx
  rcases Nat.lt_or_ge o s.length with hlt|hge
  ·rw [List.getElem?_append_left (by rw [hlenU];exact hlt)] at hx
   by_cases hown:∃ (i:Nat) (d:Option Nat) (t:AObj),ρ[i]? =some (some (o,d))∧h0[i]? =some (some t)∧t.own=true
   ·obtain⟨i,d,t,h1,h2,h3⟩:=hown
    have hil:i < h0.length:=(List.getElem?_eq_some_iff.1 h2).1
    have hx':h0'[i]? =some (h0'[i]'(by omega)):=List.getElem?_eq_getElem (by omega)
    rw [kh hsep hlt h1 h2 h3 hx'] at hx
    rcases eR hm h2 with⟨hr1,_⟩|⟨n,d',ob',hr1,hn,hob⟩
    ·rw [h1] at hr1;cases hr1
    rw [h1] at hr1
    simp only [Option.some.injEq,Prod.mk.injEq] at hr1
    obtain⟨rfl,rfl⟩:=hr1
    obtain⟨rfl,hown'⟩:=js hob h3
    cases hz:h0'[i]'(by omega) with
    |none=>rw [hz] at hx;cases hx
    |some x0=>
     rw [hz] at hx
     simp only [kg,Option.some.injEq] at hx
     exact .inr (.inl ⟨hlt,i,x0,t,ob',h1,h2,h3,hn,hown',by rw [hx',hz],hil,hx.symm⟩)
   have hx2:∀ (i:Nat) (d:Option Nat) (t:AObj),ρ[i]? =some (some (o,d))→h0[i]? =some (some t)→t.own=false:=by
    intro i d t h1 h2
    cases h3:t.own with
    |false=>rfl
    |true=>exact absurd ⟨i,d,t,h1,h2,h3⟩ hown
   rw [gj hx2] at hx
   exact .inl ⟨hlt,hx,hx2⟩
  rw [List.getElem?_append_right (by rw [hlenU];exact hge),hlenU,nz,List.getElem?_drop] at hx
  simp only [Option.map_eq_some_iff] at hx
  obtain⟨y,hy,hxy⟩:=hx
  cases y with
  |none=>cases hxy
  |some x0=>
   simp only [kg,Option.some.injEq] at hxy
   exact .inr (.inr ⟨h0.length+(o - s.length),x0,by omega,by omega,hy,hxy.symm⟩)
 have hnew:∀ {i:Nat},h0.length≤i→(ei β β0' ρ.length)[s.length+(i - h0.length)]? =β0'[i]? :=by
  intro i hi
  have:=pM (β:=β) (β0':=β0') (ρ:=ρ) hN (o:=i) (by omega)
  rwa [hlen] at this⊢
 have hold:∀ {o:Nat},o < s.length→(ei β β0' ρ.length)[o]? =β[o]? :=fun h=>lU (by omega)
 -- the place of what the callee owned
 have hplace:∀ {i o:Nat} {q:Option Pl},ρ[i]? =some (some (o,none))→o < s.length→β0'[i]? =some q→β[o]? =some q:=by
  intro i o q h1 ho hq
  have hb:=hle _ _ (bB β h1)
  rw [hq] at hb
  simp only [Option.some.injEq] at hb
  have:β[o]? =some (β[o]'(by omega)):=List.getElem?_eq_getElem (by omega)
  rw [List.getD_eq_getElem?_getD,this] at hb
  rw [this,hb]
  rfl
 have hfresh:∀ {i:Nat} {x0:AObj} {p:Pl},h0.length≤i→h0'[i]? =some (some x0)→β0'[i]? =some (some p)→Own β s p.blk∨w.heap.size≤p.blk:=by
  intro i x0 p hi hx hp
  rcases hst.fresh i x0 p hi hx hp with h1|h1
  ·obtain⟨j,n,ob',q,hr1,hn,hown',hq,_,hqb,_⟩:=zO hm h1
   exact .inl ⟨n,ob',q,hn,hown',hq,hqb⟩
  exact .inr h1
 refine⟨ei β β0' ρ.length,v,he,FC hN hle hr,⟨?_,?_,?_,?_⟩,⟨?_,hst.os,hst.tape,hst.output,hst.size,?_,?_,?_,?_⟩⟩
 ·
  unfold ei eA
  have hr1:∀ h:Hp,(ir ρ s.length h).length=h.length:=by
   intro h
   induction h with
   |nil=>rfl
   |cons y h ih=>cases y<;>simp [ir,ih]
  simp only [List.length_append,List.length_drop,hlenU,hr1,hN,hh.len,hlen]
 ·intro o x hx
  rcases kind hx with⟨hlt,hsx,hx2⟩|⟨hlt,i,x0,t,ob,h1,h2,h3,hsx,hown,hx0,hil,rfl⟩|⟨i,x0,hi,rfl,hx0,rfl⟩
  ·obtain⟨q,hq,hR⟩:=hs.ob o x hsx
   refine⟨q,by rw [hold hlt];exact hq,(hR.world fun q' hq'=>?_).mono (Be.le_append _ _)⟩
   subst hq'
   exact hblk hsx hq hx2
  ·obtain⟨q,hq,hR⟩:=hh.ob i x0 hx0
   exact⟨q,by rw [hold hlt];exact hplace h1 hlt hq,zN hN hle hR (hh.flat i x0 hx0)⟩
  obtain⟨q,hq,hR⟩:=hh.ob i x0 hx0
  exact⟨q,by rw [hnew hi];exact hq,zN hN hle hR (hh.flat i x0 hx0)⟩
 ·intro o x hx hf
  have hflat:∀ {i:Nat} {x0:AObj},h0'[i]? =some (some x0)→(gc ρ s.length x0).fl=true→FlatL (gc ρ s.length x0).cs:=by
   intro i x0 hx0 hf
   have h4:=(is (ρ:=ρ) (N:=s.length) x0).2.2.2
   rw [h4] at hf
   have:gc ρ s.length x0=x0:=by unfold gc;rw [hf]
   rw [this]
   exact hh.flat i x0 hx0 hf
  rcases kind hx with⟨hlt,hsx,hx2⟩|⟨hlt,i,x0,t,ob,h1,h2,h3,hsx,hown,hx0,hil,rfl⟩|⟨i,x0,hi,rfl,hx0,rfl⟩
  ·exact hs.flat o x hsx hf
  ·exact hflat hx0 hf
  exact hflat hx0 hf
 ·intro o o' x x' p p' hx hx' hxo hp hp' hne
  -- an object of the caller's that was there: its place in β, and that it was owned if it is
  have oldp:∀ {o:Nat} {x:AObj} {p:Pl},(eA ρ h0 h0' s)[o]? =some (some x)→o < s.length→(ei β β0' ρ.length)[o]? =some (some p)→∃ ob:AObj,s[o]? =some (some ob)∧(x.own=true→ob.own=true)∧β[o]? =some (some p):=by
   intro o x p hx hlt hp
   rw [hold hlt] at hp
   rcases kind hx with⟨_,hsx,_⟩|⟨_,i,x0,t,ob,h1,h2,h3,hsx,hown,hx0,hil,rfl⟩|⟨i,x0,hi,rfl,hx0,rfl⟩
   ·exact⟨x,hsx,id,hp⟩
   ·exact⟨ob,hsx,fun _=>hown,hp⟩
   omega
  have cross:∀ {o o':Nat} {x x':AObj} {p p':Pl},(eA ρ h0 h0' s)[o]? =some (some x)→(eA ρ h0 h0' s)[o']? =some (some x')→o < s.length→s.length≤o'→(x.own=true∨x'.own=true)→
    (ei β β0' ρ.length)[o]? =some (some p)→(ei β β0' ρ.length)[o']? =some (some p')→p.blk≠p'.blk:=by
   intro o o' x x' p p' hx hx' hlt hge hor hp hp' hbb
   obtain⟨ob,hsx,hown,hbp⟩:=oldp hx hlt hp
   rcases kind hx' with⟨h1,_⟩|⟨h1,_⟩|⟨i',x0',hi',rfl,hx0',rfl⟩
   ·omega
   ·omega
   rw [hnew hi'] at hp'
   rcases hst.fresh i' x0' p' hi' hx0' hp' with hO|hO
   ·obtain⟨j,n,ob',q,hr1,hn,hown',hq,hbq,hqb,t,ht,hto⟩:=zO hm hO
    by_cases hno:n=o
    ·subst hno
     rcases kind hx with⟨_,_,hx2⟩|⟨_,i,x0,t',ob2,h1,h2,h3,_,_,hx0,hil,rfl⟩|⟨i,x0,hi,he2,_⟩
     ·have:=hx2 j none t hr1 ht
      rw [hto] at this;cases this
     ·have hij:i=j:=by
       by_cases hij:i=j
       ·exact hij
       exact absurd rfl (zK hsep hij h1 h2 hr1 ht (.inl h3))
      subst hij
      have hbi:β0'[i]? =some (some q):=hle _ _ hbq
      have hneq:i≠i':=by omega
      rw [(is (ρ:=ρ) (N:=s.length) x0).2.2.1,(is (ρ:=ρ) (N:=s.length) x0').2.2.1] at hor
      rcases hor with ho1|ho1
      ·exact hh.apart i i' x0 x0' q p' hx0 hx0' ho1 hbi hp' hneq hqb
      exact hh.apart i' i x0' x0 p' q hx0' hx0 ho1 hp' hbi (Ne.symm hneq) hqb.symm
     omega
    exact hs.apart n o ob' ob q p hn hsx hown' hq hbp hno (by rw [hqb,hbb])
   obtain⟨q,hq,hR⟩:=hs.ob o ob hsx
   rw [hbp] at hq
   cases hq
   have:=hR.lt
   omega
  rcases Nat.lt_or_ge o s.length with hlt|hge
  ·rcases Nat.lt_or_ge o' s.length with hlt'|hge'
   ·obtain⟨ob,hsx,hown,hbp⟩:=oldp hx hlt hp
    obtain⟨ob',hsx',_,hbp'⟩:=oldp hx' hlt' hp'
    exact hs.apart o o' ob ob' p p' hsx hsx' (hown hxo) hbp hbp' hne
   exact cross hx hx' hlt hge' (.inl hxo) hp hp'
  rcases Nat.lt_or_ge o' s.length with hlt'|hge'
  ·exact (cross hx' hx hlt' hge (.inr hxo) hp' hp).symm
  rcases kind hx with⟨h1,_⟩|⟨h1,_⟩|⟨i,x0,hi,rfl,hx0,rfl⟩
  ·omega
  ·omega
  rcases kind hx' with⟨h1,_⟩|⟨h1,_⟩|⟨i',x0',hi',rfl,hx0',rfl⟩
  ·omega
  ·omega
  rw [hnew hi] at hp
  rw [hnew hi'] at hp'
  rw [(is (ρ:=ρ) (N:=s.length) x0).2.2.1] at hxo
  exact hh.apart i i' x0 x0' p p' hx0 hx0' hxo hp hp' (fun e=>hne (by rw [e]))
 ·exact Be.le_append _ _
 ·intro k hk hno
  refine hst.block k hk fun hown=>?_
  obtain⟨i,n,ob',q,hr1,hn,hown',hq,_,hqb,_⟩:=zO hm hown
  exact hno ⟨n,ob',q,hn,hown',hq,hqb⟩
 ·unfold eA
  rw [List.length_append,hlenU]
  omega
 ·intro o x hlt hx
  rcases kind hx with⟨_,hsx,_⟩|⟨_,i,x0,t,ob,h1,h2,h3,hsx,hown,hx0,hil,rfl⟩|⟨i,x0,hi,rfl,hx0,rfl⟩
  ·exact⟨x,hsx,id⟩
  ·exact⟨ob,hsx,fun _=>hown⟩
  omega
 intro o x p hge hx hp
 rcases kind hx with⟨h1,_⟩|⟨h1,_⟩|⟨i,x0,hi,rfl,hx0,rfl⟩
 ·omega
 ·omega
 rw [hnew hi] at hp
 exact hfresh hi hx0 hp
theorem pO {P:Program} {f:FuncId} {args0 avs:List AV} {h0 h0' s:Hp} {res0:AV} (ct:ae P f args0 h0 res0 h0') (ρ:Rho) (hargs:pJ ρ args0 avs) (hm:lg ρ s ρ h0) (hsep:eu ρ h0=true):
  ae P f avs s (ln ρ s.length res0) (eA ρ h0 h0' s):=
 ⟨ct.1,fun β w vs hs hvs=>BP ρ hargs hm hsep (fun vs h1 h2=>ct.2 _ w vs h1 h2) hs hvs⟩
theorem al {P:Program} {E:Entry} {F:S→Prop} {f:FuncId} {avs:List AV} {d:Option Tmp} {k:List Item} {s:S} {c:Prop} {args0:List AV} {h0 h0':Hp} {res0:AV} (hc:c) (ct:ae P f args0 h0 res0 h0') (ρ:Rho)
  (hm:pJ ρ args0 avs∧lg ρ s.hp ρ h0) (hsep:eu ρ h0=true) (hk:gW P E F (.go k (s.put d (some (ln ρ s.hp.length res0)) (eA ρ h0 h0' s.hp)) True)):gW P E F (.call f avs d k s c):=
 ⟨hc,_,_,(pO ct ρ hm.1 hm.2 hsep).e,hk.2⟩
def e9 {α:Type}:Nat→List α→List (List α)
 |0,_=>[]
 |n+1,l=>match l with
  |[]=>[]
  |l=>l.take 16::e9 n (l.drop 16)
def nA:Nat→List AV→List (Option AV)
 |0,l=>l.map some
 |n+1,[]=>none::nA n []
 |n+1,a::l=>some a::nA n l
theorem mz:∀ (n:Nat) (args:List AV),nA n args=args.map some++List.replicate (n - args.length) none
 |0,l=>by simp [nA]
 |n+1,[]=>by simp [nA,mz n [],List.replicate_succ]
 |n+1,a::l=>by simp [nA,mz n l]
def lq (n:Nat) (args:List AV):Slots:=e9 (n / 16+1) (nA n args)
theorem lV {α:Type} (d:Option α):∀ (m:Nat) (l:List (Option α)) (i:Nat),l.length≤16*m→((e9 m l).getD (i / 16) []).getD (i % 16) none=l.getD i none∧(i % 16 < ((e9 m l).getD (i / 16) []).length→i < l.length)
 |0,l,i,h=>by
  have:l=[]:=List.eq_nil_of_length_eq_zero (by omega)
  subst this
  simp [e9]
 |m+1,[],i,h=>by simp [e9]
 |m+1,a::l,i,h=>by
  simp only [e9]
  rcases Nat.lt_or_ge i 16 with hi|hi
  ·have h1:i / 16=0:=by omega
   have h2:i % 16=i:=by omega
   rw [h1,h2]
   simp only [List.getD_cons_zero]
   refine⟨?_,fun h3=>by simp at h3⊢;omega⟩
   rw [List.getD_eq_getElem?_getD,List.getElem?_take_of_lt hi,List.getD_eq_getElem?_getD]
  have h1:i / 16=(i - 16) / 16+1:=by omega
  have h2:i % 16=(i - 16) % 16:=by omega
  rw [h1,h2,List.getD_cons_succ]
  obtain⟨e1,e2⟩:=lV d m ((a::l).drop 16) (i - 16) (by simp at h⊢;omega)
  refine⟨?_,fun h3=>?_⟩
  ·rw [e1,List.getD_eq_getElem?_getD,List.getElem?_drop,List.getD_eq_getElem?_getD]
   congr 2
   omega
  have:=e2 h3
  simp at this⊢
  omega
theorem tT {α:Type}:∀ (m:Nat) (l:List (Option α)) (i:Nat),i % 16 < ((e9 m l).getD (i / 16) []).length→i < l.length
 |0,l,i,h=>by simp [e9] at h
 |m+1,[],i,h=>by simp [e9] at h
 |m+1,a::l,i,h=>by
  simp only [e9] at h
  rcases Nat.lt_or_ge i 16 with hi|hi
  ·have h1:i / 16=0:=by omega
   have h2:i % 16=i:=by omega
   rw [h1,h2] at h
   simp only [List.getD_cons_zero] at h
   simp at h⊢
   omega
  have h1:i / 16=(i - 16) / 16+1:=by omega
  have h2:i % 16=(i - 16) % 16:=by omega
  rw [h1,h2,List.getD_cons_succ] at h
  have:=tT m ((a::l).drop 16) (i - 16) h
  simp at this⊢
  omega
theorem ol {α:Type}:∀ (m:Nat) (l:List (Option α)) (i:Nat) (v:α),((e9 m l).getD (i / 16) []).getD (i % 16) none=some v→l[i]? =some (some v)
 |0,l,i,v,h=>by simp [e9] at h
 |m+1,[],i,v,h=>by simp [e9] at h
 |m+1,a::l,i,v,h=>by
  simp only [e9] at h
  rcases Nat.lt_or_ge i 16 with hi|hi
  ·have h1:i / 16=0:=by omega
   have h2:i % 16=i:=by omega
   rw [h1,h2] at h
   simp only [List.getD_cons_zero] at h
   rw [List.getD_eq_getElem?_getD,List.getElem?_take_of_lt hi] at h
   cases hx:(a::l)[i]? with
   |none=>rw [hx] at h;cases h
   |some y=>rw [hx] at h;simp only [Option.getD_some] at h;rw [h]
  have h1:i / 16=(i - 16) / 16+1:=by omega
  have h2:i % 16=(i - 16) % 16:=by omega
  rw [h1,h2,List.getD_cons_succ] at h
  have:=ol m ((a::l).drop 16) (i - 16) v h
  rw [List.getElem?_drop] at this
  rw [←this]
  congr 1
  omega
theorem u6 {β:Be} {n:Nat} {args:List AV} {vs:List Value} (h:L2 (gf β) args vs):SlotsR β (lq n args) (vs.toArray++Array.replicate (n - vs.toArray.size) undef):=by
 have hl:=h.length
 have hpl:(nA n args).length=max args.length n:=by simp [mz];omega
 by_cases hn:args.length≤n
 ·have hb:(nA n args).length≤16*(n / 16+1):=by rw [hpl];omega
  refine⟨fun i hi=>?_,fun i v hv=>?_⟩
  ·have:=(lV (α:=AV) none (n / 16+1) (nA n args) i hb).2 hi
   rw [hpl] at this
   simp
   omega
  unfold Slots.get lq at hv
  rw [(lV (α:=AV) none (n / 16+1) (nA n args) i hb).1,List.getD_eq_getElem?_getD] at hv
  rw [mz] at hv
  rcases Nat.lt_or_ge i args.length with hi|hi
  ·rw [List.getElem?_append_left (by simpa using hi),List.getElem?_map] at hv
   have hx:args[i]? =some args[i]:=List.getElem?_eq_getElem hi
   rw [hx] at hv
   simp only [Option.map_some,Option.getD_some,Option.some.injEq] at hv
   obtain⟨u,hu,hr⟩:=h.get hx
   refine⟨u,?_,by rw [←hv];exact hr⟩
   rw [Array.getElem?_append_left (by simp;omega)]
   simpa using hu
  rw [List.getElem?_append_right (by simpa using hi)] at hv
  rw [List.getElem?_replicate] at hv
  split at hv<;>cases hv
 -- more arguments than slots: nothing is said but by the arguments themselves
 have hrep:n - args.length=0:=by omega
 have hpad:nA n args=args.map some:=by simp [mz,hrep]
 refine⟨fun i hi=>?_,fun i v hv=>?_⟩
 ·unfold Slots.has lq at hi
  rw [hpad] at hi
  have:=tT (n / 16+1) (args.map some) i hi
  simp at this⊢
  omega
 unfold Slots.get lq at hv
 rw [hpad] at hv
 have hx:=ol (n / 16+1) (args.map some) i v hv
 rw [List.getElem?_map] at hx
 simp only [Option.map_eq_some_iff] at hx
 obtain⟨y,hy,he⟩:=hx
 simp only [Option.some.injEq] at he
 subst he
 obtain⟨u,hu,hr⟩:=h.get hy
 refine⟨u,?_,hr⟩
 have hlt:=(List.getElem?_eq_some_iff.1 hu).1
 rw [Array.getElem?_append_left (by simpa using hlt)]
 simpa using hu
end
section
open Go.RowKit
def zP (P:Program) (s:S):ResultVar→Option AV
 | .tmp t=>s.sl.get t
 | .cell a t=>match s.sl.get a with
  |some (.sc (.pt o k j))=>match s.obj o with
   |some ob=>match ob.cs[k]? with
    |some c=>match bw P t with
     |true=>if j+cA P t≤c.length then some (.ag ((c.drop j).take (cA P t))) else none
     |false=>if ew P t then match c[j]? with
      |some x=>some (.sc x)
      |none=>none else none
    |none=>none
   |none=>none
  |_=>none
def tU (P:Program) (s:S):List ResultVar→Option (List AV)
 |[]=>some []
 |r::l=>match zP P s r,tU P s l with
  |some v,some m=>some (v::m)
  |_,_=>none
def om:List AV→Option (List Co)
 |[]=>some []
 | .sc x::l=>match om l with
  |some m=>some (.sc x::m)
  |none=>none
 | .ag x::l=>match om l with
  |some m=>some (.ag x::m)
  |none=>none
 |_::_=>none
def o4 (P:Program) (s:S) (rs:List ResultVar):Option AV:=
 match tU P s rs with
 |some [v]=>some v
 |some l=>match om l with
  |some m=>some (.tu m)
  |none=>none
 |none=>none
section
variable {P:Program} {β:Be} {s:S} {w:World} {tm:Array Value}
def nB (tm:Array Value):ResultVar→Sem Value
 | .tmp t=>pure (tm.getD t undef)
 | .cell a t=>do loadVar t (←asAddr (tm.getD a undef))
theorem FD (hs:HSim β s.hp w) (hsl:SlotsR β s.sl tm) {r:ResultVar} {v:AV} (h:zP P s r=some v):∃ u,(nB tm r).run P w=.ok u w∧gf β v u:=by
 have slot:∀ {t:Nat} {x:AV},s.sl.get t=some x→gf β x (tm.getD t undef):=by
  intro t x hx
  obtain⟨u,hu,hr⟩:=hsl.2 t x hx
  have:tm.getD t undef=u:=by simp [Array.getD_eq_getD_getElem?,hu]
  rw [this];exact hr
 cases r with
 |tmp t=>exact⟨_,rfl,slot h⟩
 |cell a t=>
  simp only [zP] at h
  split at h
  ·rename_i o k j hx
   have hv:ScR β (.pt o k j) (tm.getD a undef):=slot hx
   have hrun:∀ {u:Value},(Instr.loadAt t (tm.getD a undef)).run P w=.ok u w→(nB tm (.cell a t)).run P w=.ok u w:=by
    intro u hu
    obtain⟨p,_,hpe⟩:=hv
    rw [hpe] at hu
    show ((do loadVar t (←asAddr (tm.getD a undef)):Sem Value)).run P w=.ok u w
    rw [hpe]
    simpa [Instr.loadAt,Instr.sureAddr,asAddr] using hu
   split at h
   ·rename_i ob hob
    split at h
    ·rename_i c hk
     split at h
     ·rename_i hag
      split at h
      ·rename_i hn
       simp only [Option.some.injEq] at h
       subst h
       obtain⟨vs,h1,h2⟩:=mo hs hob hk hag hn hv
       exact⟨_,hrun h1,vs,rfl,h2⟩
      cases h
     rename_i hag
     split at h
     ·rename_i hkn
      split at h
      ·rename_i y hy
       simp only [Option.some.injEq] at h
       subst h
       obtain⟨u,h1,h2⟩:=mq hs hob hk hag hkn hy hv
       exact⟨u,hrun h1,h2⟩
      cases h
     cases h
    cases h
   cases h
  cases h
theorem u7 (hs:HSim β s.hp w) (hsl:SlotsR β s.sl tm):∀ {rs:List ResultVar} {l:List AV},tU P s rs=some l→∃ us,(rs.mapM (nB tm)).run P w=.ok us w∧L2 (gf β) l us
 |[],l,h=>by
  simp only [tU,Option.some.injEq] at h
  subst h
  exact⟨[],rfl,trivial⟩
 |r::rs,l,h=>by
  simp only [tU] at h
  split at h
  ·rename_i v m hv hm
   simp only [Option.some.injEq] at h
   subst h
   obtain⟨u,h1,h2⟩:=FD hs hsl hv
   obtain⟨us,h3,h4⟩:=u7 hs hsl hm
   refine⟨u::us,?_,h2,h4⟩
   simp only [List.mapM_cons,Sem.run_bind,h1,Result.andThen_ok,h3,Sem.run_pure]
  cases h
theorem u9:∀ {l:List AV} {m:List Co} {us:List Value},om l=some m→L2 (gf β) l us→L2 (yt β) m us
 |[],m,[],h,_=>by simp only [om,Option.some.injEq] at h;subst h;trivial
 | .sc x::l,m,u::us,h,hu=>by
  simp only [om] at h
  split at h
  ·rename_i m' hm
   simp only [Option.some.injEq] at h
   subst h
   exact⟨hu.1,u9 hm hu.2⟩
  cases h
 | .ag x::l,m,u::us,h,hu=>by
  simp only [om] at h
  split at h
  ·rename_i m' hm
   simp only [Option.some.injEq] at h
   subst h
   exact⟨hu.1,u9 hm hu.2⟩
  cases h
 | .tu x::l,m,us,h,_=>by cases h
 | .cl f x::l,m,us,h,_=>by cases h
 |[],m,_::_,_,hu=>hu.elim
 | .sc _::_,m,[],_,hu=>hu.elim
 | .ag _::_,m,[],_,hu=>hu.elim
theorem pP (fn:Func) (tm:Array Value):results fn tm=(do let vs ←fn.results.mapM (nB tm);pure (if h:vs.size=1 then vs[0] else .tuple vs)):=by
 unfold results
 congr 1
theorem yI (hs:HSim β s.hp w) (hsl:SlotsR β s.sl tm) {fn:Func} {v:AV} (h:o4 P s fn.results.toList=some v):∃ u,(results fn tm).run P w=.ok u w∧gf β v u:=by
 have harr:∀ {us:List Value},(fn.results.toList.mapM (nB tm)).run P w=.ok us w→(fn.results.mapM (nB tm)).run P w=.ok us.toArray w:=by
  intro us hus
  rw [Array.mapM_eq_mapM_toList]
  have e:∀ (m:Sem (List Value)),(List.toArray <$> m)=(do pure (List.toArray (←m))):=fun m=>rfl
  rw [e,Sem.run_bind,hus]
  rfl
 unfold o4 at h
 split at h
 ·rename_i x hx
  simp only [Option.some.injEq] at h
  subst h
  obtain⟨us,h1,h2⟩:=u7 (P:=P) hs hsl hx
  match us,h2 with
  |[u],h2=>
   refine⟨u,?_,h2.1⟩
   rw [pP,Sem.run_bind,harr h1]
   rfl
  |[],h2=>exact h2.elim
  |_::_::_,h2=>exact h2.2.elim
 ·rename_i l hne hx
  split at h
  ·rename_i m hm
   simp only [Option.some.injEq] at h
   subst h
   obtain⟨us,h1,h2⟩:=u7 (P:=P) hs hsl hx
   refine⟨.tuple us.toArray,?_,us,rfl,u9 hm h2⟩
   rw [pP,Sem.run_bind,harr h1]
   have hl:=h2.length
   have h1':us.toArray.size≠1:=by
    intro he
    have:l.length=1:=by simpa [hl] using he
    match l,this with
    |[v],_=>exact hne v rfl
   simp only [Result.andThen_ok,dif_neg h1']
   rfl
  cases h
 cases h
end
def AA (P:Program) (rs:List ResultVar) (n0:Nat) (res:AV) (h':Hp) (s:S):Prop:=
 ∃ v ρ,o4 P s rs=some v∧BL n0 0 ρ=true∧eu ρ h'=true∧zH ρ res v∧lg ρ s.hp ρ h'
theorem ah {P:Program} {E:Entry} {rs:List ResultVar} {n0:Nat} {res:AV} {h':Hp} {s:S} {c:Prop} (ρ:Rho) (hc:c) (v:AV) (hr:o4 P s rs=some v) (hid:BL n0 0 ρ=true) (hsep:eu ρ h'=true) (hm:zH ρ res v∧lg ρ s.hp ρ h'):
  gW P E (AA P rs n0 res h') (.fin s c):=⟨hc,v,ρ,hr,hid,hsep,hm.1,hm.2⟩
theorem e_ {P:Program} {f:FuncId} {fn:Func} {c:Code} (hf:P.funcs[f]? =some fn) (hname:(fn.name == "runtime.NumGoroutine")=false) (hb:fn.body=some c) {args:List AV} {h h':Hp} {res:AV}
  (H:∀ E:Entry,E.h.length=h.length→gW P E (AA P fn.results.toList h.length res h') (.go [.code c] ⟨lq fn.ntmps args,h⟩ True)):ae P f args h res h':=by
 refine⟨⟨fn,hf,hname,by rw [hb];rfl⟩,fun β w vs hs hvs=>?_⟩
 refine calls_of_wp hf hb ?_
 let E:Entry:=⟨β,h,w⟩
 have hd:=(H E rfl).2
 refine hd β _ w ⟨rfl,u6 hvs,hs,hs.len,StepR.refl β h w hs.len⟩ _ fun e s' β' a' w' hK hs'=>?_
 have key:AA P fn.results.toList h.length res h' s'→a'.defers=[]∧∃ v,(results fn a'.tmps).run P w'=.ok v w'∧∃ β'' u,Ending.returned v=.returned u∧gf β'' res u∧HSim β'' h' w'∧StepR β β'' h h' w w':=by
  intro⟨v,ρ,hr,hid,hsep,hav,hhp⟩
  obtain⟨u,hrun,hu⟩:=yI hs'.hp hs'.sl hr
  have hw:mv ρ h.length ⟨[],h'⟩ ⟨[],s'.hp⟩:=⟨hid,hsep,trivial,hhp⟩
  have hsim:=wX (E:=E) rfl hw (β:=β') (a:=a') (w:=w') ⟨hs'.dfr,⟨fun i hi=>by simp [Slots.has] at hi,fun i x hx=>by simp [Slots.get] at hx⟩,hs'.hp,hs'.ent,hs'.st⟩
  exact⟨hs'.dfr,u,hrun,et β' ρ,u,rfl,wU hav hu,hsim.hp,hsim.st⟩
 cases e with
 |normal=>exact key hK
 |ret=>exact key hK
 |_=>exact hK.elim
end
section
theorem AB (ρ:Rho) (N o:Nat):ny ρ N o=match ρ[o]? with
  |some x=>x
  |none=>some (N+(o - ρ.length),none):=by
 unfold ny
 by_cases h:o < ρ.length
 ·rw [if_pos h,List.getElem?_eq_getElem h]
  unfold Rho.at
  rw [List.getD_eq_getElem?_getD,List.getElem?_eq_getElem h]
  rfl
 rw [if_neg h,List.getElem?_eq_none (by omega)]
attribute [go_sem] run pH uW og er bE iJ Aq kN ey io S.ev S.evs S.put S.obj S.new S.val S.valc S.parts S.scals Slots.get Slots.put Sc.ofV Nv AV.ofV AV.cells Co.av tL tM over NR tJ wL Y_ kc gV wM Sc.isFlat nA lq e9 ln mw my BO zL pL gc ir kg ez eA AB Rho.at S.kill S.sets S.at Int.toNat_natCast List.length_map o4 tU zP om Ap cq zH pJ Nx cM Zd Za Zb lg Zc BK yH beq_self_eq_true
attribute [go_sem] List.map_cons List.map_nil List.cons_append List.nil_append List.append_nil List.take_succ_cons List.take_zero List.take_nil List.drop_succ_cons List.drop_zero List.drop_nil List.getD_cons_zero List.getD_cons_succ List.getD_nil List.set_cons_zero List.set_cons_succ List.getElem?_cons_zero List.getElem?_cons_succ List.getElem?_nil List.length_cons List.length_nil List.getElem?_toArray List.toList_toArray Option.map_some Option.map_none Option.bind_some Bool.and_true Bool.true_and Bool.and_self and_true true_and and_self if_true if_false List.replicate_succ List.replicate_zero Nat.zero_add Nat.add_zero Bool.not_true Bool.not_false beq_true beq_false List.mem_cons
theorem yJ {α:Type} (l m:List α):Array.append l.toArray m.toArray=(l++m).toArray:=by simp
attribute [go_sem] yJ
theorem Uk:(0:Nat) / 16=0:=rfl
theorem Ul:(0:Nat) % 16=0:=rfl
theorem Um:(1:Nat) / 16=0:=rfl
theorem Un:(1:Nat) % 16=1:=rfl
theorem Uo:(2:Nat) / 16=0:=rfl
theorem Up:(2:Nat) % 16=2:=rfl
theorem Uq:(3:Nat) / 16=0:=rfl
theorem Ur:(3:Nat) % 16=3:=rfl
theorem Us:(4:Nat) / 16=0:=rfl
theorem Ut:(4:Nat) % 16=4:=rfl
theorem Uu:(5:Nat) / 16=0:=rfl
theorem Uv:(5:Nat) % 16=5:=rfl
theorem Uw:(6:Nat) / 16=0:=rfl
theorem Ux:(6:Nat) % 16=6:=rfl
theorem Uy:(7:Nat) / 16=0:=rfl
theorem Uz:(7:Nat) % 16=7:=rfl
theorem UA:(8:Nat) / 16=0:=rfl
theorem UB:(8:Nat) % 16=8:=rfl
theorem UC:(9:Nat) / 16=0:=rfl
theorem UD:(9:Nat) % 16=9:=rfl
theorem NX:(10:Nat) / 16=0:=rfl
theorem NY:(10:Nat) % 16=10:=rfl
theorem NZ:(11:Nat) / 16=0:=rfl
theorem N0:(11:Nat) % 16=11:=rfl
theorem N1:(12:Nat) / 16=0:=rfl
theorem N3:(12:Nat) % 16=12:=rfl
theorem N4:(13:Nat) / 16=0:=rfl
theorem N5:(13:Nat) % 16=13:=rfl
theorem N6:(14:Nat) / 16=0:=rfl
theorem N7:(14:Nat) % 16=14:=rfl
theorem N8:(15:Nat) / 16=0:=rfl
theorem N9:(15:Nat) % 16=15:=rfl
theorem N_:(16:Nat) / 16=1:=rfl
theorem Oa:(16:Nat) % 16=0:=rfl
theorem Ob:(17:Nat) / 16=1:=rfl
theorem Oc:(17:Nat) % 16=1:=rfl
theorem Od:(18:Nat) / 16=1:=rfl
theorem Oe:(18:Nat) % 16=2:=rfl
theorem Of:(19:Nat) / 16=1:=rfl
theorem Og:(19:Nat) % 16=3:=rfl
theorem Oh:(20:Nat) / 16=1:=rfl
theorem Oi:(20:Nat) % 16=4:=rfl
theorem Oj:(21:Nat) / 16=1:=rfl
theorem Ok:(21:Nat) % 16=5:=rfl
theorem Ol:(22:Nat) / 16=1:=rfl
theorem Om:(22:Nat) % 16=6:=rfl
theorem On:(23:Nat) / 16=1:=rfl
theorem Oo:(23:Nat) % 16=7:=rfl
theorem Oq:(24:Nat) / 16=1:=rfl
theorem Or:(24:Nat) % 16=8:=rfl
theorem Ot:(25:Nat) / 16=1:=rfl
theorem Ou:(25:Nat) % 16=9:=rfl
theorem Ov:(26:Nat) / 16=1:=rfl
theorem Ow:(26:Nat) % 16=10:=rfl
theorem Ox:(27:Nat) / 16=1:=rfl
theorem Oy:(27:Nat) % 16=11:=rfl
theorem Oz:(28:Nat) / 16=1:=rfl
theorem OA:(28:Nat) % 16=12:=rfl
theorem OB:(29:Nat) / 16=1:=rfl
theorem OC:(29:Nat) % 16=13:=rfl
theorem OD:(30:Nat) / 16=1:=rfl
theorem OE:(30:Nat) % 16=14:=rfl
theorem OF:(31:Nat) / 16=1:=rfl
theorem OG:(31:Nat) % 16=15:=rfl
theorem OH:(32:Nat) / 16=2:=rfl
theorem OI:(32:Nat) % 16=0:=rfl
theorem OJ:(33:Nat) / 16=2:=rfl
theorem OK:(33:Nat) % 16=1:=rfl
theorem OL:(34:Nat) / 16=2:=rfl
theorem OM:(34:Nat) % 16=2:=rfl
theorem ON:(35:Nat) / 16=2:=rfl
theorem OO:(35:Nat) % 16=3:=rfl
theorem OP:(36:Nat) / 16=2:=rfl
theorem OQ:(36:Nat) % 16=4:=rfl
theorem OR:(37:Nat) / 16=2:=rfl
theorem OS:(37:Nat) % 16=5:=rfl
theorem OT:(38:Nat) / 16=2:=rfl
theorem OU:(38:Nat) % 16=6:=rfl
theorem OV:(39:Nat) / 16=2:=rfl
theorem OW:(39:Nat) % 16=7:=rfl
theorem OX:(40:Nat) / 16=2:=rfl
theorem OY:(40:Nat) % 16=8:=rfl
theorem OZ:(41:Nat) / 16=2:=rfl
theorem O0:(41:Nat) % 16=9:=rfl
theorem O1:(42:Nat) / 16=2:=rfl
theorem O2:(42:Nat) % 16=10:=rfl
theorem O3:(43:Nat) / 16=2:=rfl
theorem O4:(43:Nat) % 16=11:=rfl
theorem O5:(44:Nat) / 16=2:=rfl
theorem O6:(44:Nat) % 16=12:=rfl
theorem O7:(45:Nat) / 16=2:=rfl
theorem O8:(45:Nat) % 16=13:=rfl
theorem O9:(46:Nat) / 16=2:=rfl
theorem O_:(46:Nat) % 16=14:=rfl
theorem Pa:(47:Nat) / 16=2:=rfl
theorem Pb:(47:Nat) % 16=15:=rfl
theorem Pc:(48:Nat) / 16=3:=rfl
theorem Pd:(48:Nat) % 16=0:=rfl
theorem Pe:(49:Nat) / 16=3:=rfl
theorem Pf:(49:Nat) % 16=1:=rfl
theorem Pg:(50:Nat) / 16=3:=rfl
theorem Ph:(50:Nat) % 16=2:=rfl
theorem Pi:(51:Nat) / 16=3:=rfl
theorem Pj:(51:Nat) % 16=3:=rfl
theorem Pk:(52:Nat) / 16=3:=rfl
theorem Pm:(52:Nat) % 16=4:=rfl
theorem Pn:(53:Nat) / 16=3:=rfl
theorem Po:(53:Nat) % 16=5:=rfl
theorem Pp:(54:Nat) / 16=3:=rfl
theorem Pq:(54:Nat) % 16=6:=rfl
theorem Pr:(55:Nat) / 16=3:=rfl
theorem Ps:(55:Nat) % 16=7:=rfl
theorem Pt:(56:Nat) / 16=3:=rfl
theorem Pu:(56:Nat) % 16=8:=rfl
theorem Pv:(57:Nat) / 16=3:=rfl
theorem Pw:(57:Nat) % 16=9:=rfl
theorem Px:(58:Nat) / 16=3:=rfl
theorem Py:(58:Nat) % 16=10:=rfl
theorem Pz:(59:Nat) / 16=3:=rfl
theorem PA:(59:Nat) % 16=11:=rfl
theorem PB:(60:Nat) / 16=3:=rfl
theorem PC:(60:Nat) % 16=12:=rfl
theorem PD:(61:Nat) / 16=3:=rfl
theorem PE:(61:Nat) % 16=13:=rfl
theorem PF:(62:Nat) / 16=3:=rfl
theorem PG:(62:Nat) % 16=14:=rfl
theorem PH:(63:Nat) / 16=3:=rfl
theorem PI:(63:Nat) % 16=15:=rfl
theorem PJ:(64:Nat) / 16=4:=rfl
theorem PK:(64:Nat) % 16=0:=rfl
theorem PL:(65:Nat) / 16=4:=rfl
theorem PM:(65:Nat) % 16=1:=rfl
theorem PN:(66:Nat) / 16=4:=rfl
theorem PO:(66:Nat) % 16=2:=rfl
theorem PP:(67:Nat) / 16=4:=rfl
theorem PQ:(67:Nat) % 16=3:=rfl
theorem PR:(68:Nat) / 16=4:=rfl
theorem PS:(68:Nat) % 16=4:=rfl
theorem PT:(69:Nat) / 16=4:=rfl
theorem PU:(69:Nat) % 16=5:=rfl
theorem PV:(70:Nat) / 16=4:=rfl
theorem PW:(70:Nat) % 16=6:=rfl
theorem PX:(71:Nat) / 16=4:=rfl
theorem PY:(71:Nat) % 16=7:=rfl
theorem PZ:(72:Nat) / 16=4:=rfl
theorem P0:(72:Nat) % 16=8:=rfl
theorem P1:(73:Nat) / 16=4:=rfl
theorem P2:(73:Nat) % 16=9:=rfl
theorem P3:(74:Nat) / 16=4:=rfl
theorem P4:(74:Nat) % 16=10:=rfl
theorem P5:(75:Nat) / 16=4:=rfl
theorem P6:(75:Nat) % 16=11:=rfl
theorem P7:(76:Nat) / 16=4:=rfl
theorem P8:(76:Nat) % 16=12:=rfl
theorem P9:(77:Nat) / 16=4:=rfl
theorem P_:(77:Nat) % 16=13:=rfl
theorem Qa:(78:Nat) / 16=4:=rfl
theorem Qb:(78:Nat) % 16=14:=rfl
theorem Qc:(79:Nat) / 16=4:=rfl
theorem Qd:(79:Nat) % 16=15:=rfl
theorem Qe:(80:Nat) / 16=5:=rfl
theorem Qf:(80:Nat) % 16=0:=rfl
theorem Qg:(81:Nat) / 16=5:=rfl
theorem Qh:(81:Nat) % 16=1:=rfl
theorem Qi:(82:Nat) / 16=5:=rfl
theorem Qj:(82:Nat) % 16=2:=rfl
theorem Qk:(83:Nat) / 16=5:=rfl
theorem Ql:(83:Nat) % 16=3:=rfl
theorem Qm:(84:Nat) / 16=5:=rfl
theorem Qn:(84:Nat) % 16=4:=rfl
theorem Qo:(85:Nat) / 16=5:=rfl
theorem Qp:(85:Nat) % 16=5:=rfl
theorem Qq:(86:Nat) / 16=5:=rfl
theorem Qr:(86:Nat) % 16=6:=rfl
theorem Qs:(87:Nat) / 16=5:=rfl
theorem Qt:(87:Nat) % 16=7:=rfl
theorem Qu:(88:Nat) / 16=5:=rfl
theorem Qv:(88:Nat) % 16=8:=rfl
theorem Qw:(89:Nat) / 16=5:=rfl
theorem Qx:(89:Nat) % 16=9:=rfl
theorem Qy:(90:Nat) / 16=5:=rfl
theorem Qz:(90:Nat) % 16=10:=rfl
theorem QA:(91:Nat) / 16=5:=rfl
theorem QB:(91:Nat) % 16=11:=rfl
theorem QC:(92:Nat) / 16=5:=rfl
theorem QD:(92:Nat) % 16=12:=rfl
theorem QE:(93:Nat) / 16=5:=rfl
theorem QF:(93:Nat) % 16=13:=rfl
theorem QG:(94:Nat) / 16=5:=rfl
theorem QH:(94:Nat) % 16=14:=rfl
theorem QI:(95:Nat) / 16=5:=rfl
theorem QJ:(95:Nat) % 16=15:=rfl
theorem QK:(96:Nat) / 16=6:=rfl
theorem QL:(96:Nat) % 16=0:=rfl
theorem QM:(97:Nat) / 16=6:=rfl
theorem QN:(97:Nat) % 16=1:=rfl
theorem QO:(98:Nat) / 16=6:=rfl
theorem QP:(98:Nat) % 16=2:=rfl
theorem QQ:(99:Nat) / 16=6:=rfl
theorem QR:(99:Nat) % 16=3:=rfl
theorem FE:(100:Nat) / 16=6:=rfl
theorem FF:(100:Nat) % 16=4:=rfl
theorem FG:(101:Nat) / 16=6:=rfl
theorem FH:(101:Nat) % 16=5:=rfl
theorem FI:(102:Nat) / 16=6:=rfl
theorem FJ:(102:Nat) % 16=6:=rfl
theorem FK:(103:Nat) / 16=6:=rfl
theorem FL:(103:Nat) % 16=7:=rfl
theorem FM:(104:Nat) / 16=6:=rfl
theorem FN:(104:Nat) % 16=8:=rfl
theorem FO:(105:Nat) / 16=6:=rfl
theorem FP:(105:Nat) % 16=9:=rfl
theorem FQ:(106:Nat) / 16=6:=rfl
theorem FR:(106:Nat) % 16=10:=rfl
theorem FSq:(107:Nat) / 16=6:=rfl
theorem FT:(107:Nat) % 16=11:=rfl
theorem FU:(108:Nat) / 16=6:=rfl
theorem FV:(108:Nat) % 16=12:=rfl
theorem FW:(109:Nat) / 16=6:=rfl
theorem FX:(109:Nat) % 16=13:=rfl
theorem FY:(110:Nat) / 16=6:=rfl
theorem FZ:(110:Nat) % 16=14:=rfl
theorem F0:(111:Nat) / 16=6:=rfl
theorem F1:(111:Nat) % 16=15:=rfl
theorem F2:(112:Nat) / 16=7:=rfl
theorem F3:(112:Nat) % 16=0:=rfl
theorem F4:(113:Nat) / 16=7:=rfl
theorem F5:(113:Nat) % 16=1:=rfl
theorem F6:(114:Nat) / 16=7:=rfl
theorem F7:(114:Nat) % 16=2:=rfl
theorem F8:(115:Nat) / 16=7:=rfl
theorem F9:(115:Nat) % 16=3:=rfl
theorem F_:(116:Nat) / 16=7:=rfl
theorem Ga:(116:Nat) % 16=4:=rfl
theorem Gb:(117:Nat) / 16=7:=rfl
theorem Gc:(117:Nat) % 16=5:=rfl
theorem Gd:(118:Nat) / 16=7:=rfl
theorem Ge:(118:Nat) % 16=6:=rfl
theorem Gf:(119:Nat) / 16=7:=rfl
theorem Gg:(119:Nat) % 16=7:=rfl
theorem Gh:(120:Nat) / 16=7:=rfl
theorem Gi:(120:Nat) % 16=8:=rfl
theorem Gj:(121:Nat) / 16=7:=rfl
theorem Gk:(121:Nat) % 16=9:=rfl
theorem Gl:(122:Nat) / 16=7:=rfl
theorem Gm:(122:Nat) % 16=10:=rfl
theorem Gn:(123:Nat) / 16=7:=rfl
theorem Gp:(123:Nat) % 16=11:=rfl
theorem Gq:(124:Nat) / 16=7:=rfl
theorem Gr:(124:Nat) % 16=12:=rfl
theorem Gs:(125:Nat) / 16=7:=rfl
theorem Gt:(125:Nat) % 16=13:=rfl
theorem Gu:(126:Nat) / 16=7:=rfl
theorem Gv:(126:Nat) % 16=14:=rfl
theorem Gw:(127:Nat) / 16=7:=rfl
theorem Gx:(127:Nat) % 16=15:=rfl
theorem Gy:(128:Nat) / 16=8:=rfl
theorem Gz:(128:Nat) % 16=0:=rfl
theorem GA:(129:Nat) / 16=8:=rfl
theorem GB:(129:Nat) % 16=1:=rfl
theorem GC:(130:Nat) / 16=8:=rfl
theorem GD:(130:Nat) % 16=2:=rfl
theorem GE:(131:Nat) / 16=8:=rfl
theorem GF:(131:Nat) % 16=3:=rfl
theorem GG:(132:Nat) / 16=8:=rfl
theorem GH:(132:Nat) % 16=4:=rfl
theorem GI:(133:Nat) / 16=8:=rfl
theorem GJ:(133:Nat) % 16=5:=rfl
theorem GK:(134:Nat) / 16=8:=rfl
theorem GL:(134:Nat) % 16=6:=rfl
theorem GM:(135:Nat) / 16=8:=rfl
theorem GN:(135:Nat) % 16=7:=rfl
theorem GO:(136:Nat) / 16=8:=rfl
theorem GP:(136:Nat) % 16=8:=rfl
theorem GQ:(137:Nat) / 16=8:=rfl
theorem GR:(137:Nat) % 16=9:=rfl
theorem GS:(138:Nat) / 16=8:=rfl
theorem GT:(138:Nat) % 16=10:=rfl
theorem GU:(139:Nat) / 16=8:=rfl
theorem GV:(139:Nat) % 16=11:=rfl
theorem GW:(140:Nat) / 16=8:=rfl
theorem GX:(140:Nat) % 16=12:=rfl
theorem GY:(141:Nat) / 16=8:=rfl
theorem GZ:(141:Nat) % 16=13:=rfl
theorem G0:(142:Nat) / 16=8:=rfl
theorem G1:(142:Nat) % 16=14:=rfl
theorem G2:(143:Nat) / 16=8:=rfl
theorem G3:(143:Nat) % 16=15:=rfl
theorem G4:(144:Nat) / 16=9:=rfl
theorem G5:(144:Nat) % 16=0:=rfl
theorem G6:(145:Nat) / 16=9:=rfl
theorem G7:(145:Nat) % 16=1:=rfl
theorem G8:(146:Nat) / 16=9:=rfl
theorem G9:(146:Nat) % 16=2:=rfl
theorem G_:(147:Nat) / 16=9:=rfl
theorem Ha:(147:Nat) % 16=3:=rfl
theorem Hb:(148:Nat) / 16=9:=rfl
theorem Hc:(148:Nat) % 16=4:=rfl
theorem Hd:(149:Nat) / 16=9:=rfl
theorem He:(149:Nat) % 16=5:=rfl
theorem Hf:(150:Nat) / 16=9:=rfl
theorem Hg:(150:Nat) % 16=6:=rfl
theorem Hh:(151:Nat) / 16=9:=rfl
theorem Hi:(151:Nat) % 16=7:=rfl
theorem Hj:(152:Nat) / 16=9:=rfl
theorem Hk:(152:Nat) % 16=8:=rfl
theorem Hl:(153:Nat) / 16=9:=rfl
theorem Hm:(153:Nat) % 16=9:=rfl
theorem Hn:(154:Nat) / 16=9:=rfl
theorem Ho:(154:Nat) % 16=10:=rfl
theorem Hq:(155:Nat) / 16=9:=rfl
theorem Hr:(155:Nat) % 16=11:=rfl
theorem Hs:(156:Nat) / 16=9:=rfl
theorem Ht:(156:Nat) % 16=12:=rfl
theorem Hu:(157:Nat) / 16=9:=rfl
theorem Hv:(157:Nat) % 16=13:=rfl
theorem Hw:(158:Nat) / 16=9:=rfl
theorem Hx:(158:Nat) % 16=14:=rfl
theorem Hy:(159:Nat) / 16=9:=rfl
theorem Hz:(159:Nat) % 16=15:=rfl
theorem HA:(160:Nat) / 16=10:=rfl
theorem HB:(160:Nat) % 16=0:=rfl
theorem HC:(161:Nat) / 16=10:=rfl
theorem HD:(161:Nat) % 16=1:=rfl
theorem HE:(162:Nat) / 16=10:=rfl
theorem HF:(162:Nat) % 16=2:=rfl
theorem HG:(163:Nat) / 16=10:=rfl
theorem HH:(163:Nat) % 16=3:=rfl
theorem HI:(164:Nat) / 16=10:=rfl
theorem HJ:(164:Nat) % 16=4:=rfl
theorem HK:(165:Nat) / 16=10:=rfl
theorem HL:(165:Nat) % 16=5:=rfl
theorem HM:(166:Nat) / 16=10:=rfl
theorem HN:(166:Nat) % 16=6:=rfl
theorem HO:(167:Nat) / 16=10:=rfl
theorem HP:(167:Nat) % 16=7:=rfl
theorem HQ:(168:Nat) / 16=10:=rfl
theorem HR:(168:Nat) % 16=8:=rfl
theorem HS:(169:Nat) / 16=10:=rfl
theorem HT:(169:Nat) % 16=9:=rfl
theorem HU:(170:Nat) / 16=10:=rfl
theorem HV:(170:Nat) % 16=10:=rfl
theorem HW:(171:Nat) / 16=10:=rfl
theorem HX:(171:Nat) % 16=11:=rfl
theorem HY:(172:Nat) / 16=10:=rfl
theorem HZ:(172:Nat) % 16=12:=rfl
theorem H0:(173:Nat) / 16=10:=rfl
theorem H1:(173:Nat) % 16=13:=rfl
theorem H2:(174:Nat) / 16=10:=rfl
theorem H3:(174:Nat) % 16=14:=rfl
theorem H4:(175:Nat) / 16=10:=rfl
theorem H5:(175:Nat) % 16=15:=rfl
theorem H6:(176:Nat) / 16=11:=rfl
theorem H7:(176:Nat) % 16=0:=rfl
theorem H8:(177:Nat) / 16=11:=rfl
theorem H9:(177:Nat) % 16=1:=rfl
theorem H_:(178:Nat) / 16=11:=rfl
theorem Ia:(178:Nat) % 16=2:=rfl
theorem Ib:(179:Nat) / 16=11:=rfl
theorem Ic:(179:Nat) % 16=3:=rfl
theorem Id:(180:Nat) / 16=11:=rfl
theorem Ie:(180:Nat) % 16=4:=rfl
theorem If:(181:Nat) / 16=11:=rfl
theorem Ig:(181:Nat) % 16=5:=rfl
theorem Ih:(182:Nat) / 16=11:=rfl
theorem Ii:(182:Nat) % 16=6:=rfl
theorem Ij:(183:Nat) / 16=11:=rfl
theorem Ik:(183:Nat) % 16=7:=rfl
theorem Il:(184:Nat) / 16=11:=rfl
theorem Im:(184:Nat) % 16=8:=rfl
theorem In:(185:Nat) / 16=11:=rfl
theorem Io:(185:Nat) % 16=9:=rfl
theorem Ip:(186:Nat) / 16=11:=rfl
theorem Iq:(186:Nat) % 16=10:=rfl
theorem Ir:(187:Nat) / 16=11:=rfl
theorem Is:(187:Nat) % 16=11:=rfl
theorem It:(188:Nat) / 16=11:=rfl
theorem Iu:(188:Nat) % 16=12:=rfl
theorem Iv:(189:Nat) / 16=11:=rfl
theorem Iw:(189:Nat) % 16=13:=rfl
theorem Ix:(190:Nat) / 16=11:=rfl
theorem Iy:(190:Nat) % 16=14:=rfl
theorem Iz:(191:Nat) / 16=11:=rfl
theorem IA:(191:Nat) % 16=15:=rfl
theorem IB:(192:Nat) / 16=12:=rfl
theorem IC:(192:Nat) % 16=0:=rfl
theorem ID:(193:Nat) / 16=12:=rfl
theorem IE:(193:Nat) % 16=1:=rfl
theorem IF:(194:Nat) / 16=12:=rfl
theorem IG:(194:Nat) % 16=2:=rfl
theorem IH:(195:Nat) / 16=12:=rfl
theorem II:(195:Nat) % 16=3:=rfl
theorem IJ:(196:Nat) / 16=12:=rfl
theorem IK:(196:Nat) % 16=4:=rfl
theorem IL:(197:Nat) / 16=12:=rfl
theorem IM:(197:Nat) % 16=5:=rfl
theorem IN:(198:Nat) / 16=12:=rfl
theorem a00:(198:Nat) % 16=6:=rfl
theorem IP:(199:Nat) / 16=12:=rfl
theorem IQ:(199:Nat) % 16=7:=rfl
attribute [go_sem] Uk Ul Um Un Uo Up Uq Ur Us Ut Uu Uv Uw Ux Uy Uz UA UB UC UD NX NY NZ N0 N1 N3 N4 N5 N6 N7 N8 N9 N_ Oa Ob Oc Od Oe Of Og Oh Oi Oj Ok Ol Om On Oo Oq Or Ot Ou Ov Ow Ox Oy Oz OA OB OC OD OE OF OG OH OI OJ OK OL OM ON OO OP OQ OR OS OT OU OV OW OX OY OZ O0 O1 O2 O3 O4 O5 O6 O7 O8 O9 O_ Pa Pb Pc Pd Pe Pf Pg Ph Pi Pj Pk Pm Pn Po Pp Pq Pr Ps Pt Pu Pv Pw Px Py Pz PA
attribute [go_sem] PB PC PD PE PF PG PH PI PJ PK PL PM PN PO PP PQ PR PS PT PU PV PW PX PY PZ P0 P1 P2 P3 P4 P5 P6 P7 P8 P9 P_ Qa Qb Qc Qd Qe Qf Qg Qh Qi Qj Qk Ql Qm Qn Qo Qp Qq Qr Qs Qt Qu Qv Qw Qx Qy Qz QA QB QC QD QE QF QG QH QI QJ QK QL QM QN QO QP QQ QR FE FF FG FH FI FJ FK FL FM FN FO FP FQ FR FSq FT FU FV FW FX FY FZ F0 F1 F2 F3 F4 F5 F6 F7 F8 F9 F_ Ga Gb Gc Gd Ge Gf Gg
attribute [go_sem] Gh Gi Gj Gk Gl Gm Gn Gp Gq Gr Gs Gt Gu Gv Gw Gx Gy Gz GA GB GC GD GE GF GG GH GI GJ GK GL GM GN GO GP GQ GR GS GT GU GV GW GX GY GZ G0 G1 G2 G3 G4 G5 G6 G7 G8 G9 G_ Ha Hb Hc Hd He Hf Hg Hh Hi Hj Hk Hl Hm Hn Ho Hq Hr Hs Ht Hu Hv Hw Hx Hy Hz HA HB HC HD HE HF HG HH HI HJ HK HL HM HN HO HP HQ HR HS HT HU HV HW HX HY HZ H0 H1 H2 H3 H4 H5 H6 H7 H8 H9 H_ Ia Ib Ic
attribute [go_sem] Id Ie If Ig Ih Ii Ij Ik Il Im In Io Ip Iq Ir Is It Iu Iv Iw Ix Iy Iz IA IB IC ID IE IF IG IH II IJ IK IL IM IN a00 IP IQ
end
section
open Go.RowKit
def pQ (op:Op):List Tmp:=op.operands.toList.filterMap fun| .tmp t=>some t|_=>none
def eY (r:Array Oper) (o:Oper):List Tmp:=
 pQ o.op++(match o.guard with
  |some (g,_)=>((r[g]?).bind (·.dst)).toList
  |none=>[])
def gX (P:Program) (op:Op):Nat:=
 match op with
 | .convert s d _=>match Bp P s d with
  |some (.int _)|some .str=>0
  |some (.s2b _)=>2
  |some .b2s=>1
  |none=>4
 | .move _| .assign _| .pick .. | .build .. | .nilCheck _| .binOp .. | .unOp .. | .fieldAddr .. | .index .. | .extract .. =>0
 | .call ⟨.builtin .len,_,_⟩| .call ⟨.builtin .min,_,_⟩| .call ⟨.builtin .max,_,_⟩=>0
 | .load .. | .indexAddr .. | .slice .. =>1
 | .alloc _| .box .. | .buildSlice .. | .makeSlice .. =>2
 | .call ⟨.value _,_,_⟩=>3
 |_=>4
def lr (P:Program) (o:Oper):Nat:=gX P o.op
def wZ (a b:Option Tmp):Bool:=
 match a,b with
 |some x,some y=>x != y
 |_,_=>true
def oo (a:Option Tmp) (l:List Tmp):Bool:=
 match a with
 |some x=> !l.contains x
 |none=>true
def pR (P:Program) (r:Array Oper) (i j:Oper):Bool:=
 wZ i.dst j.dst && oo i.dst (eY r j) && oo j.dst (eY r i) && (lr P i == 0 && lr P j != 5 || lr P i == 1 && lr P j != 4)
theorem Slots.put_comm (s:Slots) (a b:Nat) (v u:Option AV) (h:a≠b):(s.put a v).put b u=(s.put b u).put a v:=by
 unfold Slots.put
 by_cases hc:a / 16=b / 16
 ·rw [hc]
  by_cases hl:b / 16 < s.length
  ·simp only [List.getD_eq_getElem?_getD,List.getElem?_set_self hl,Option.getD_some,List.set_set]
   congr 1
   exact List.set_comm _ _ (by omega)
  have h1:∀ x,s.set (b / 16) x=s:=fun x=>List.set_eq_of_length_le (by omega)
  simp only [h1]
 have h1:∀ x,(s.set (a / 16) x).getD (b / 16) []=s.getD (b / 16) []:=fun x=>by
  simp only [List.getD_eq_getElem?_getD,List.getElem?_set_ne hc]
 have h2:∀ x,(s.set (b / 16) x).getD (a / 16) []=s.getD (a / 16) []:=fun x=>by
  simp only [List.getD_eq_getElem?_getD,List.getElem?_set_ne (Ne.symm hc)]
 rw [h1,h2]
 exact List.set_comm _ _ hc
theorem yK (s:Slots) (d t:Nat) (v:Option AV) (h:d≠t):(s.put d v).get t=s.get t:=by
 rw [Slots.get_put,if_neg (Ne.symm h)]
def gG (l:List Tmp) (s s':S):Prop:=∀ t∈l,s.sl.get t=s'.sl.get t
theorem fB {l:List Tmp} {s:S} {d:Option Tmp} {v:Option AV} {h:Hp} (hd:oo d l=true):gG l s (s.put d v h):=by
 intro t ht
 cases d with
 |none=>rfl
 |some d=>
  have hne:d≠t:=fun e=>by
   subst e
   simp only [oo,Bool.not_eq_true',List.contains_eq_mem,decide_eq_false_iff_not] at hd
   exact hd ht
  exact (yK s.sl d t v hne).symm
theorem fT {s s':S} {x:Operand} (h:∀ t,x=.tmp t→s.sl.get t=s'.sl.get t):s.ev x=s'.ev x:=by
 cases x with
 |tmp t=>exact h t rfl
 |_=>rfl
theorem d6 {op:Op} {t:Tmp} (h:(.tmp t:Operand)∈op.operands.toList):t∈pQ op:=by
 unfold pQ
 rw [List.mem_filterMap]
 exact⟨.tmp t,h,rfl⟩
theorem iO {s s':S}:∀ {l:List (Nat×Operand)},(∀ p∈l,s.ev p.2=s'.ev p.2)→s.parts l=s'.parts l
 |[],_=>rfl
 |(i,x)::l,h=>by
  have h1:=h (i,x) (by simp)
  dsimp only at h1
  simp only [S.parts,h1,iO (l:=l) (fun p hp=>h p (by simp [hp]))]
theorem oq {s s':S}:∀ {l:List Operand},(∀ x∈l,s.ev x=s'.ev x)→s.scals l=s'.scals l
 |[],_=>rfl
 |x::l,h=>by
  have h1:=h x (by simp)
  simp only [S.scals,h1,oq (l:=l) (fun p hp=>h p (by simp [hp]))]
theorem jd {s s':S}:∀ {l:List Operand},(∀ x∈l,s.ev x=s'.ev x)→s.evs l=s'.evs l
 |[],_=>rfl
 |x::l,h=>by
  have h1:=h x (by simp)
  simp only [S.evs,h1,jd (l:=l) (fun p hp=>h p (by simp [hp]))]
theorem jt {s s':S} {x:Option Operand} (h:∀ y,x=some y→s.ev y=s'.ev y):io s x=io s' x:=by
 cases x with
 |none=>rfl
 |some y=>simp only [io,h y rfl]
theorem fC {P:Program} {s s':S} {ty:TypeId} {op:Op} (hh:s.hp=s'.hp) (h:gG (pQ op) s s'):bE P s ty op=bE P s' ty op:=by
 have ev:∀ x,x∈op.operands.toList→s.ev x=s'.ev x:=fun x hx=>fT fun t ht=>h t (d6 (by rw [←ht];exact hx))
 have ob:∀ o,s.obj o=s'.obj o:=fun o=>by unfold S.obj;rw [hh]
 have vl:∀ v,s.val v=s'.val v:=fun v=>by unfold S.val;rw [hh]
 have vc:∀ v c,s.valc v c=s'.valc v c:=fun v c=>by unfold S.valc;rw [hh]
 have nw:∀ o v,s.new o v=s'.new o v:=fun o v=>by unfold S.new;rw [hh]
 have sl:∀ v a b,ey s v a b=ey s' v a b:=fun v a b=>by
  unfold ey
  simp only [vl,vc]
 have ap:∀ t a x,kN P s t a x=kN P s' t a x:=fun t a x=>by
  unfold kN
  simp only [vl,ob,hh]
 cases op with
 |move x=>simp only [bE,ev x (by simp [Op.operands]),vl]
 |assign x=>simp only [bE,ev x (by simp [Op.operands]),vl]
 |pick c x y=>simp only [bE,ev c (by simp [Op.operands]),ev x (by simp [Op.operands]),ev y (by simp [Op.operands]),vl]
 |alloc e=>simp only [bE,nw,hh]
 |box e x=>simp only [bE,ev x (by simp [Op.operands]),nw,hh]
 |build t ps=>
  have:=iO (s:=s) (s':=s') (l:=ps.toList) (fun p hp=>ev p.2 (by simp only [Op.operands,List.mem_map];exact⟨p,hp,rfl⟩))
  simp only [bE,this,vl]
 |buildSlice t n ps=>
  have:=iO (s:=s) (s':=s') (l:=ps.toList) (fun p hp=>ev p.2 (by simp only [Op.operands,List.mem_map];exact⟨p,hp,rfl⟩))
  simp only [bE,this,nw,hh]
 |load t x=>simp only [bE,ev x (by simp [Op.operands]),ob,vl]
 |store t x y=>simp only [bE,ev x (by simp [Op.operands]),ev y (by simp [Op.operands]),ob,hh]
 |nilCheck x=>simp only [bE,ev x (by simp [Op.operands]),vl]
 |binOp o t x y u=>simp only [bE,ev x (by simp [Op.operands]),ev y (by simp [Op.operands]),vc]
 |unOp o t x=>simp only [bE,ev x (by simp [Op.operands]),vl]
 |convert a b x=>simp only [bE,ev x (by simp [Op.operands]),vl,vc,ob,hh]
 |makeSlice t x y=>simp only [bE,ev x (by simp [Op.operands]),ev y (by simp [Op.operands]),hh]
 |slice t x lo hi mx=>
  cases mx with
  |none=>
   have h1:=jt (s:=s) (s':=s') (x:=lo) (fun y hy=>ev y (by subst hy;simp [Op.operands]))
   have h2:=jt (s:=s) (s':=s') (x:=hi) (fun y hy=>ev y (by subst hy;simp [Op.operands]))
   simp only [bE,ev x (by simp [Op.operands]),h1,h2,ob,sl]
  |some m=>rfl
 |fieldAddr t x f=>simp only [bE,ev x (by simp [Op.operands]),vl]
 |field t x f=>simp only [bE,ev x (by simp [Op.operands]),vl]
 |indexAddr t x i=>simp only [bE,ev x (by simp [Op.operands]),ev i (by simp [Op.operands]),ob,vc]
 |index t x i=>simp only [bE,ev x (by simp [Op.operands]),ev i (by simp [Op.operands]),vc]
 |extract x i=>simp only [bE,ev x (by simp [Op.operands]),vl]
 |makeFunc f first caps=>
  cases f with
  |func f=>
   have:=oq (s:=s) (s':=s') (l:=caps.toList) (fun x hx=>ev x (by simp [Op.operands];right;simpa using hx))
   simp only [bE,this,vl]
  |_=>rfl
 |call c=>
  obtain⟨callee,args,at_⟩:=c
  cases callee with
  |builtin b=>
   have hx:∀ x,x∈args.toList→s.ev x=s'.ev x:=fun x hx=>ev x (by simp [Op.operands,Call.operands];simpa using hx)
   cases b with
   |len=>
    simp only [bE]
    split
    ·rename_i x t ha ht
     simp only [hx x (by simp [ha]),vl]
    rfl
   |append=>
    simp only [bE]
    split
    ·rename_i x y t t' ha ht
     simp only [hx x (by simp [ha]),hx y (by simp [ha]),ap]
    rfl
   |min=>
    simp only [bE]
    split
    ·rename_i x y ha
     simp only [hx x (by simp [ha]),hx y (by simp [ha]),vl]
    rfl
   |max=>
    simp only [bE]
    split
    ·rename_i x y ha
     simp only [hx x (by simp [ha]),hx y (by simp [ha]),vl]
    rfl
   |_=>rfl
  |_=>rfl
 |_=>rfl
def Hp.ext (s h:Hp):Prop:=∀ (o:Nat) (ob:AObj),s[o]? =some (some ob)→h[o]? =some (some ob)
theorem mA {s:S} {h:Hp} (hx:Hp.ext s.hp h) {o:Nat} {ob:AObj} (ho:s.obj o=some ob):S.obj ⟨s.sl,h⟩ o=some ob:=by
 have:=hx o ob (cD ho)
 unfold S.obj
 rw [List.getD_eq_getElem?_getD,this]
 rfl
theorem zQ (s:S) (h:Hp) (x:Operand):S.ev ⟨s.sl,h⟩ x=s.ev x:=by cases x<;>rfl
theorem BQ (s:S) (h:Hp):∀ l,S.parts ⟨s.sl,h⟩ l=s.parts l:=fun l=>iO fun p _=>zQ s h p.2
theorem ig (s:S) (h:Hp) (x:Option Operand):io ⟨s.sl,h⟩ x=io s x:=jt fun y _=>zQ s h y
theorem ki {P:Program} {s:S} {ty:TypeId} {op:Op} {x:OpR} (hc:gX P op=0) (h:bE P s ty op=some x):x.hp=s.hp∧∀ h',bE P ⟨s.sl,h'⟩ ty op=some ⟨x.v,h',x.c⟩:=by
 have e:=zQ s
 have ep:=BQ s
 cases op with
 |move y|assign y=>
  simp only [bE,e] at h
  split at h
  ·rename_i v hv
   simp only [Option.some.injEq] at h
   subst h
   exact⟨rfl,fun h'=>by simp only [bE,e,ep,hv];rfl⟩
  cases h
 |pick c y z=>
  simp only [bE,e] at h
  split at h
  ·rename_i hv
   split at h
   ·rename_i v hv2
    simp only [Option.some.injEq] at h
    subst h
    exact⟨rfl,fun h'=>by simp only [bE,e,ep,hv,hv2];rfl⟩
   cases h
  ·rename_i hv
   split at h
   ·rename_i v hv2
    simp only [Option.some.injEq] at h
    subst h
    exact⟨rfl,fun h'=>by simp only [bE,e,ep,hv,hv2];rfl⟩
   cases h
  cases h
 |build t ps=>
  simp only [bE,ep] at h
  split at h
  ·rename_i z hz
   split at h
   ·rename_i l hl
    split at h
    ·rename_i cs hcs
     simp only [Option.some.injEq] at h
     subst h
     exact⟨rfl,fun h'=>by simp only [bE,e,ep,hz,hl,hcs];rfl⟩
    cases h
   cases h
  cases h
 |nilCheck y=>
  simp only [bE,e] at h
  split at h
  ·rename_i hv
   simp only [Option.some.injEq] at h
   subst h
   exact⟨rfl,fun h'=>by simp only [bE,e,ep,hv];rfl⟩
  ·rename_i hv
   simp only [Option.some.injEq] at h
   subst h
   exact⟨rfl,fun h'=>by simp only [bE,e,ep,hv];rfl⟩
  cases h
 |binOp o t y z u=>
  simp only [bE,e] at h
  split at h
  ·rename_i hy hz
   split at h
   ·rename_i q d hb
    simp only [Option.some.injEq] at h
    subst h
    exact⟨rfl,fun h'=>by simp only [bE,e,ep,hy,hz,hb];rfl⟩
   cases h
  ·rename_i hy hz
   split at h
   ·simp only [Option.some.injEq] at h
    subst h
    exact⟨rfl,fun h'=>by simp only [bE,e,ep,hy,hz];rfl⟩
   ·simp only [Option.some.injEq] at h
    subst h
    exact⟨rfl,fun h'=>by simp only [bE,e,ep,hy,hz];rfl⟩
   cases h
  cases h
 |unOp o t y=>
  simp only [bE,e] at h
  split at h
  ·rename_i hy
   split at h
   ·simp only [Option.some.injEq] at h
    subst h
    exact⟨rfl,fun h'=>by simp only [bE,e,ep,hy];rfl⟩
   cases h
  ·rename_i hy
   split at h
   ·simp only [Option.some.injEq] at h
    subst h
    exact⟨rfl,fun h'=>by simp only [bE,e,ep,hy];rfl⟩
   cases h
  cases h
 |convert a b y=>
  simp only [bE,e] at h
  split at h
  ·rename_i ht hy
   simp only [Option.some.injEq] at h
   subst h
   exact⟨rfl,fun h'=>by simp only [bE,e,ht,hy];rfl⟩
  ·rename_i ht hy
   simp only [Option.some.injEq] at h
   subst h
   exact⟨rfl,fun h'=>by simp only [bE,e,ht,hy];rfl⟩
  ·rename_i ht hy
   simp only [gX,ht] at hc
   cases hc
  ·rename_i ht hy
   simp only [gX,ht] at hc
   cases hc
  ·rename_i ht hy
   simp only [gX,ht] at hc
   cases hc
  cases h
 |fieldAddr t y f=>
  simp only [bE,e] at h
  split at h
  ·rename_i hy hf
   simp only [Option.some.injEq] at h
   subst h
   exact⟨rfl,fun h'=>by simp only [bE,e,ep,hy,hf];rfl⟩
  cases h
 |index t y i=>
  simp only [bE,e] at h
  split at h
  ·rename_i hy hi
   split at h
   ·rename_i ht
    simp only [Option.some.injEq] at h
    subst h
    exact⟨rfl,fun h'=>by simp only [bE,e,ep,hy,hi,ht];rfl⟩
   cases h
  cases h
 |extract y i=>
  simp only [bE,e] at h
  split at h
  ·rename_i hy
   split at h
   ·rename_i hl
    simp only [Option.some.injEq] at h
    subst h
    exact⟨rfl,fun h'=>by simp only [bE,e,ep,hy,hl];rfl⟩
   cases h
  cases h
 |call c=>
  obtain⟨callee,args,at_⟩:=c
  cases callee with
  |builtin b=>
   cases b with
   |len=>
    simp only [bE,e] at h
    split at h
    ·rename_i y t ha ht
     split at h
     ·rename_i hy
      split at h
      ·rename_i hs
       simp only [Option.some.injEq] at h
       subst h
       exact⟨rfl,fun h'=>by simp only [bE,e,ep,ha,ht,hy,hs];rfl⟩
      cases h
     ·rename_i hy
      split at h
      ·rename_i hs
       simp only [Option.some.injEq] at h
       subst h
       exact⟨rfl,fun h'=>by simp only [bE,e,ep,ha,ht,hy,hs];rfl⟩
      cases h
     ·rename_i hy
      split at h
      ·rename_i hs
       simp only [Option.some.injEq] at h
       subst h
       exact⟨rfl,fun h'=>by simp only [bE,e,ep,ha,ht,hy,hs];rfl⟩
      cases h
     cases h
    cases h
   |min=>
    simp only [bE,e] at h
    split at h
    ·rename_i y z ha
     split at h
     ·rename_i hy hz
      simp only [Option.some.injEq] at h
      subst h
      exact⟨rfl,fun h'=>by simp only [bE,e,ep,ha,hy,hz];rfl⟩
     cases h
    cases h
   |max=>
    simp only [bE,e] at h
    split at h
    ·rename_i y z ha
     split at h
     ·rename_i hy hz
      simp only [Option.some.injEq] at h
      subst h
      exact⟨rfl,fun h'=>by simp only [bE,e,ep,ha,hy,hz];rfl⟩
     cases h
    cases h
   |_=>cases hc
  |_=>cases hc
 |_=>cases hc
theorem pS {P:Program} {s:S} {ty:TypeId} {op:Op} {x:OpR} (hc:gX P op=1) (h:bE P s ty op=some x):x.hp=s.hp∧∀ h',Hp.ext s.hp h'→bE P ⟨s.sl,h'⟩ ty op=some ⟨x.v,h',x.c⟩:=by
 have e:=zQ s
 cases op with
 |load t y=>
  simp only [bE,e] at h
  split at h
  ·rename_i o k j hy
   split at h
   ·rename_i ob hob
    split at h
    ·rename_i c hk
     split at h
     ·rename_i n ht
      split at h
      ·rename_i hf
       simp only [Option.some.injEq] at h
       subst h
       exact⟨rfl,fun h' hx=>by simp only [bE,e,ig s,hy,mA hx hob,hk,ht,hf];rfl⟩
      cases h
     ·rename_i ht
      split at h
      ·rename_i z hz
       simp only [Option.some.injEq] at h
       subst h
       exact⟨rfl,fun h' hx=>by simp only [bE,e,ig s,hy,mA hx hob,hk,ht,hz];rfl⟩
      cases h
     cases h
    cases h
   cases h
  cases h
 |convert a b y=>
  simp only [bE,e] at h
  split at h
  ·rename_i ht hy
   simp only [gX,ht] at hc
   cases hc
  ·rename_i ht hy
   simp only [gX,ht] at hc
   cases hc
  ·rename_i ht hy
   simp only [gX,ht] at hc
   cases hc
  ·rename_i ht hy
   split at h
   ·rename_i ob hob
    split at h
    ·rename_i hz
     simp only [Option.some.injEq] at h
     subst h
     exact⟨rfl,fun h' hx=>by simp only [bE,e,ht,hy,mA hx hob,hz,if_true];rfl⟩
    cases h
   cases h
  ·rename_i ht hy
   simp only [Option.some.injEq] at h
   subst h
   exact⟨rfl,fun h' hx=>by simp only [bE,e,ht,hy];rfl⟩
  cases h
 |indexAddr t y i=>
  simp only [bE,e] at h
  split at h
  ·rename_i hy hi ht
   split at h
   ·rename_i ob hob
    split at h
    ·rename_i hz
     simp only [Option.some.injEq] at h
     subst h
     exact⟨rfl,fun h' hx=>by simp only [bE,e,ig s,hy,hi,ht,mA hx hob,hz,if_true];rfl⟩
    cases h
   cases h
  cases h
 |slice t y lo hi mx=>
  cases mx with
  |some m=>cases h
  |none=>
   have eo:=ig s
   simp only [bE,e,eo] at h
   have sl:∀ {v:AV} {a b:Option Int} {q:OpR},ey s v a b=some q→q.hp=s.hp∧∀ h',ey ⟨s.sl,h'⟩ v a b=some ⟨q.v,h',q.c⟩:=by
    intro v a b q hq
    unfold ey at hq
    split at hq<;>first
     |(simp only [Option.some.injEq] at hq;subst hq;exact⟨rfl,fun h'=>rfl⟩)
     |cases hq
   split at h
   ·rename_i v a b hy ha hb
    split at h
    ·rename_i l
     split at h
     ·rename_i ht
      obtain⟨h1,h2⟩:=sl h
      exact⟨h1,fun h' hx=>by simp only [bE,e,ig s,hy,ha,hb,ht];exact h2 h'⟩
     cases h
    ·rename_i o off len
     split at h
     ·rename_i q sz ob ht hob
      split at h
      ·rename_i hz
       obtain⟨h1,h2⟩:=sl h
       exact⟨h1,fun h' hx=>by simp only [bE,e,ig s,hy,ha,hb,ht,mA hx hob,hz,if_true];exact h2 h'⟩
      cases h
     cases h
    cases h
   cases h
 |call c=>
  obtain⟨callee,args,at_⟩:=c
  cases callee with
  |builtin b=>cases b<;>cases hc
  |_=>cases hc
 |_=>cases hc
theorem w_ (h:Hp):Hp.ext h h:=fun _ _ h=>h
theorem gk (h k:Hp):Hp.ext h (h++k):=fun o ob ho=>by
 rw [List.getElem?_append_left (List.getElem?_eq_some_iff.1 ho).1];exact ho
theorem zR {P:Program} {s:S} {ty:TypeId} {op:Op} {x:OpR} (h:bE P s ty op=some x) (hc:gX P op≠4):Hp.ext s.hp x.hp:=by
 by_cases h0:gX P op=0
 ·rw [(ki h0 h).1];exact w_ _
 by_cases h1:gX P op=1
 ·rw [(pS h1 h).1];exact w_ _
 cases op with
 |alloc e=>
  simp only [bE] at h
  split at h
  ·simp only [Option.some.injEq] at h;subst h;exact gk _ _
  cases h
 |box e y=>
  simp only [bE] at h
  split at h
  ·split at h
   ·simp only [Option.some.injEq] at h;subst h;exact gk _ _
   cases h
  cases h
 |buildSlice t n ps=>
  simp only [bE] at h
  split at h
  ·split at h
   ·split at h
    ·split at h
     ·split at h
      ·simp only [Option.some.injEq] at h;subst h;exact gk _ _
      cases h
     cases h
    cases h
   cases h
  cases h
 |makeSlice t y z=>
  simp only [bE] at h
  split at h
  ·split at h
   ·split at h
    ·simp only [Option.some.injEq] at h;subst h;exact gk _ _
    cases h
   cases h
  cases h
 |convert a b y=>
  simp only [bE] at h
  split at h
  ·rename_i ht hy
   simp only [gX,ht] at h0
   exact absurd trivial h0
  ·rename_i ht hy
   simp only [gX,ht] at h0
   exact absurd trivial h0
  ·simp only [Option.some.injEq] at h;subst h;exact gk _ _
  ·rename_i ht hy
   simp only [gX,ht] at h1
   exact absurd trivial h1
  ·rename_i ht hy
   simp only [gX,ht] at h1
   exact absurd trivial h1
  cases h
 |call c=>
  obtain⟨callee,args,at_⟩:=c
  cases callee with
  |value f=>simp only [bE] at h;cases h
  |builtin b=>cases b<;>first|exact absurd rfl h0|exact absurd rfl hc
  |invoke a b=>exact absurd rfl hc
 |move _=>exact absurd rfl h0
 |assign _=>exact absurd rfl h0
 |pick _ _ _=>exact absurd rfl h0
 |build _ _=>exact absurd rfl h0
 |nilCheck _=>exact absurd rfl h0
 |binOp _ _ _ _ _=>exact absurd rfl h0
 |unOp _ _ _=>exact absurd rfl h0
 |fieldAddr _ _ _=>exact absurd rfl h0
 |index _ _ _=>exact absurd rfl h0
 |extract _ _=>exact absurd rfl h0
 |load _ _=>exact absurd rfl h1
 |indexAddr _ _ _=>exact absurd rfl h1
 |slice _ _ _ _ _=>exact absurd rfl h1
 |_=>exact absurd rfl hc
def Ze (P:Program) (o:Oper) (s s':S):Prop:=
 (∃ x,bE P s o.type o.op=some x∧x.c∧s'=s.put o.dst x.v x.hp)∨
 (∃ (y:Operand) (args:Array Operand) (at_:Array TypeId) (f:Nat) (caps:List Sc) (avs:List AV) (res:AV) (h':Hp),o.op=.call ⟨.value y,args,at_⟩∧s.ev y=some (.cl f caps)∧s.evs args.toList=some avs∧
  ae P f (avs++kc caps) s.hp res h'∧Hp.ext s.hp h'∧s'=s.put o.dst (some res) h')
def cU (P:Program) (r:Array Oper) (i:Nat) (s s':S):Prop:=
 match r[i]? with
 |none=>s'=s
 |some o=>match er r s o with
  |some true=>Ze P o s s'
  |some false=>s'=s.put o.dst (some (.tu [])) s.hp
  |none=>False
def u_ (P:Program) (r:Array Oper):List Nat→S→S→Prop
 |[],s,s'=>s'=s
 |i::l,s,s''=>∃ s',cU P r i s s'∧u_ P r l s' s''
theorem bU {r:Array Oper} {s s':S} {o:Oper} (h:gG (eY r o) s s'):er r s o=er r s' o:=by
 unfold er
 split
 ·rfl
 rename_i j want hg
 split
 ·rename_i oj hj
  split
  ·rename_i d hd
   have:=h d (by unfold eY;rw [hg];simp [hj,hd])
   rw [this]
  rfl
 rfl
theorem du {r:Array Oper} {s s':S} {o:Oper} (h:gG (eY r o) s s'):gG (pQ o.op) s s':=fun t ht=>h t (by unfold eY;exact List.mem_append_left _ ht)
theorem po (s:S) {a b:Option Tmp} (v u:Option AV) (h h':Hp) (hne:wZ a b=true):(s.put a v h).put b u h'=(s.put b u h').put a v h':=by
 cases a with
 |none=>cases b<;>rfl
 |some a=>cases b with
  |none=>rfl
  |some b=>
   have:a≠b:=by simpa [wZ] using hne
   simp only [S.put,Slots.put_comm s.sl a b v u this]
theorem gR (s:S) (d:Option Tmp) (v:Option AV) (h:Hp):(s.put d v h).hp=h:=by cases d<;>rfl
theorem swap {P:Program} {r:Array Oper} {i j:Nat} {oi oj:Oper} (hi:r[i]? =some oi) (hj:r[j]? =some oj) (hind:pR P r oi oj=true) {s s1 s2:S} (h1:cU P r i s s1) (h2:cU P r j s1 s2):
  ∃ s1',cU P r j s s1'∧cU P r i s1' s2:=by
 simp only [pR,Bool.and_eq_true,Bool.or_eq_true,beq_iff_eq,bne_iff_ne] at hind
 obtain⟨⟨⟨hne,hij⟩,hji⟩,hcls⟩:=hind
 have hci:lr P oi=0∨lr P oi=1:=by rcases hcls with h|h;exact .inl h.1;exact .inr h.1
 unfold cU at h1 h2
 rw [hi] at h1
 rw [hj] at h2
 dsimp only at h1 h2
 -- what step i does: it puts a value, and leaves the heap
 have key:∃ v,s1=s.put oi.dst v s.hp∧∀ (t:S),gG (eY r oi) s t→(lr P oi=0∨Hp.ext s.hp t.hp)→cU P r i t (t.put oi.dst v t.hp):=by
  split at h1
  ·rename_i hg
   rcases h1 with⟨x,hx,hc,rfl⟩|⟨y,args,at_,f,caps,avs,res,h',ho,_⟩
   ·have hx2:x.hp=s.hp∧∀ t:S,gG (eY r oi) s t→(lr P oi=0∨Hp.ext s.hp t.hp)→bE P t oi.type oi.op=some ⟨x.v,t.hp,x.c⟩:=by
     have eqv:∀ t:S,gG (eY r oi) s t→bE P t oi.type oi.op=bE P ⟨s.sl,t.hp⟩ oi.type oi.op:=fun t ha=>(fC (s:=⟨s.sl,t.hp⟩) (s':=t) rfl (fun q hq=>du ha q hq)).symm
     rcases hci with h0|h0
     ·obtain⟨e1,e2⟩:=ki h0 hx
      exact⟨e1,fun t ha _=>by rw [eqv t ha];exact e2 t.hp⟩
     obtain⟨e1,e2⟩:=pS h0 hx
     exact⟨e1,fun t ha he=>by rw [eqv t ha];exact e2 t.hp (he.resolve_left (by rw [h0];simp))⟩
    refine⟨x.v,by rw [hx2.1],fun t ha he=>?_⟩
    unfold cU
    rw [hi]
    dsimp only
    rw [←bU ha,hg]
    exact .inl ⟨_,hx2.2 t ha he,hc,rfl⟩
   exfalso
   have:lr P oi=3:=by unfold lr;rw [ho];rfl
   omega
  ·rename_i hg
   refine⟨some (.tu []),h1,fun t ha _=>?_⟩
   unfold cU
   rw [hi]
   dsimp only
   rw [←bU ha,hg]
  exact h1.elim
 obtain⟨v,rfl,hstep⟩:=key
 have hal:gG (eY r oj) s (s.put oi.dst v s.hp):=fB hij
 have hhp:(s.put oi.dst v s.hp).hp=s.hp:=gR _ _ _ _
 rw [←bU hal] at h2
 -- what step j does
 have fin:∀ (u:Option AV) (h':Hp),s2=(s.put oi.dst v s.hp).put oj.dst u h'→(lr P oi=0∨Hp.ext s.hp h')→cU P r j s (s.put oj.dst u h')→∃ s1',cU P r j s s1'∧cU P r i s1' s2:=by
  intro u h' he hx hj'
  refine⟨s.put oj.dst u h',hj',?_⟩
  have h3:=hstep (s.put oj.dst u h') (fB hji) (by rw [gR];exact hx)
  rw [gR] at h3
  rw [he,po s v u s.hp h' hne]
  exact h3
 split at h2
 ·rename_i hg
  rcases h2 with⟨x,hx,hc,rfl⟩|⟨y,args,at_,f,caps,avs,res,h',ho,hy,ha,hcall,hext,rfl⟩
  ·have hx':bE P s oj.type oj.op=some x:=by rw [fC (s:=s) (s':=s.put oi.dst v s.hp) hhp.symm (du hal)];exact hx
   refine fin x.v x.hp rfl ?_ ?_
   ·rcases hcls with h0|h0
    ·exact .inl h0.1
    right
    have h4:lr P oj≠4:=h0.2
    exact zR hx' h4
   unfold cU
   rw [hj]
   dsimp only
   rw [hg]
   exact .inl ⟨x,hx',hc,rfl⟩
  have hal':=du hal
  rw [ho] at hal'
  have e1:s.ev y=some (.cl f caps):=by
   rw [fT (s:=s) (s':=s.put oi.dst v s.hp) (x:=y) (fun t ht=>hal' t (d6 (by subst ht;simp [Op.operands,Call.operands])))]
   exact hy
  have e2:s.evs args.toList=some avs:=by
   rw [jd (s:=s) (s':=s.put oi.dst v s.hp) (l:=args.toList) (fun z hz=>fT fun t ht=>hal' t (d6 (by subst ht;simp [Op.operands,Call.operands];right;simpa using hz)))]
   exact ha
  rw [hhp] at hcall hext
  refine fin (some res) h' rfl (.inr hext) ?_
  unfold cU
  rw [hj]
  dsimp only
  rw [hg]
  exact .inr ⟨y,args,at_,f,caps,avs,res,h',ho,e1,e2,hcall,hext,rfl⟩
 ·rename_i hg
  refine fin (some (.tu [])) s.hp (by rw [h2,hhp]) (.inr fun o ob h=>h) ?_
  unfold cU
  rw [hj]
  dsimp only
  rw [hg]
 exact h2.elim
def i9 (P:Program) (r:Array Oper) (i j:Oper):Bool:=
 wZ i.dst j.dst && oo i.dst (eY r j) && oo j.dst (eY r i) && lr P j == 0
theorem UE {P:Program} {r:Array Oper} {i j:Nat} {oi oj:Oper} (hi:r[i]? =some oi) (hj:r[j]? =some oj) (hind:i9 P r oi oj=true) {s s1 s2:S} (h1:cU P r i s s1) (h2:cU P r j s1 s2):
  ∃ s1',cU P r j s s1'∧cU P r i s1' s2:=by
 simp only [i9,Bool.and_eq_true,beq_iff_eq] at hind
 obtain⟨⟨⟨hne,hij⟩,hji⟩,hcj⟩:=hind
 unfold cU at h1 h2
 rw [hi] at h1
 rw [hj] at h2
 dsimp only at h1 h2
 -- what step i does: it puts a value and a heap
 have key:∃ v hp,s1=s.put oi.dst v hp∧∀ (t:S),gG (eY r oi) s t→t.hp=s.hp→cU P r i t (t.put oi.dst v hp):=by
  split at h1
  ·rename_i hg
   rcases h1 with⟨x,hx,hc,rfl⟩|⟨y,args,at_,f,caps,avs,res,h',ho,hy,ha,hcall,hext,rfl⟩
   ·refine⟨x.v,x.hp,rfl,fun t ha he=>?_⟩
    unfold cU
    rw [hi]
    dsimp only
    rw [←bU ha,hg]
    exact .inl ⟨x,by rw [←fC he.symm (du ha)];exact hx,hc,rfl⟩
   refine⟨some res,h',rfl,fun t hal he=>?_⟩
   unfold cU
   rw [hi]
   dsimp only
   rw [←bU hal,hg]
   have hal':=du hal
   rw [ho] at hal'
   have e1:t.ev y=some (.cl f caps):=by
    rw [←fT (s:=s) (s':=t) (x:=y) (fun q hq=>hal' q (d6 (by subst hq;simp [Op.operands,Call.operands])))]
    exact hy
   have e2:t.evs args.toList=some avs:=by
    rw [←jd (s:=s) (s':=t) (l:=args.toList) (fun z hz=>fT fun q hq=>hal' q (d6 (by subst hq;simp [Op.operands,Call.operands];right;simpa using hz)))]
    exact ha
   exact .inr ⟨y,args,at_,f,caps,avs,res,h',ho,e1,e2,by rw [he];exact hcall,by rw [he];exact hext,rfl⟩
  ·rename_i hg
   refine⟨some (.tu []),s.hp,h1,fun t ha he=>?_⟩
   unfold cU
   rw [hi]
   dsimp only
   rw [←bU ha,hg]
   dsimp only
   rw [he]
  exact h1.elim
 obtain⟨v,hp,rfl,hstep⟩:=key
 have hal:gG (eY r oj) s (s.put oi.dst v hp):=fB hij
 rw [←bU hal] at h2
 have fin:∀ (u:Option AV),s2=(s.put oi.dst v hp).put oj.dst u hp→cU P r j s (s.put oj.dst u s.hp)→∃ s1',cU P r j s s1'∧cU P r i s1' s2:=by
  intro u he hj'
  refine⟨s.put oj.dst u s.hp,hj',?_⟩
  have h3:=hstep (s.put oj.dst u s.hp) (fB hji) (gR _ _ _ _)
  rw [he,po s v u hp hp hne]
  have e:∀ (a b:S) (d:Option Tmp) (x:Option AV) (h:Hp),a.sl=b.sl→a.put d x h=b.put d x h:=by
   intro a b d x h hab
   cases d<;>simp [S.put,hab]
  rw [e (s.put oj.dst u hp) (s.put oj.dst u s.hp) oi.dst v hp (by cases oj.dst<;>rfl)]
  exact h3
 split at h2
 ·rename_i hg
  rcases h2 with⟨x,hx,hc,rfl⟩|⟨y,args,at_,f,caps,avs,res,h',ho,_⟩
  ·have hx1:bE P ⟨s.sl,hp⟩ oj.type oj.op=some x:=by
    rw [fC (s:=⟨s.sl,hp⟩) (s':=s.put oi.dst v hp) (by rw [gR]) (fun q hq=>du hal q hq)]
    exact hx
   obtain⟨e1,e2⟩:=ki hcj hx1
   have e3:=e2 s.hp
   refine fin x.v (by rw [e1]) ?_
   unfold cU
   rw [hj]
   dsimp only
   rw [hg]
   exact .inl ⟨_,e3,hc,rfl⟩
  exfalso
  have:lr P oj=3:=by unfold lr;rw [ho];rfl
  omega
 ·rename_i hg
  refine fin (some (.tu [])) (by rw [h2,gR]) ?_
  unfold cU
  rw [hj]
  dsimp only
  rw [hg]
 exact h2.elim
end
section
open Go.RowKit
theorem BR {P:Program} {E:Entry} {r:Array Oper} {i:Nat} {s s1:S} {β:Be} {a:Act} {w:World} {Q:Exit→Act→World→Prop} {K:Act→World→Prop} (h:cU P r i s s1) (hs:Sim E β s a w) (hK:∀ β' a' w',Sim E β' s1 a' w'→K a' w'):wpOp P r Q i K a w:=by
 unfold wpOp
 unfold cU at h
 split at h
 ·rename_i hi
  subst h
  rw [hi]
  exact hK β a w hs
 rename_i o ho
 rw [ho]
 dsimp only
 split at h
 ·rename_i hg
  rw [if_pos (jr hs.sl hg)]
  refine .inl ?_
  unfold Oper.wp
  rcases h with⟨x,hx,hc,rfl⟩|⟨y,args,at_,f,caps,avs,res,h',hop,hy,ha,⟨⟨fn,hfn,hname,hbody⟩,hcall⟩,_,rfl⟩
  ·obtain⟨β',w',hst,hh,hx'⟩:=nv hs.hp hs.sl hx hc
   rcases hx' with⟨v,av,hrun,hv,hr⟩|⟨hrun,hv⟩
   ·rw [hrun]
    rw [hv] at hK
    exact hK β' _ w' (gZ hs hst hh o.dst hr)
   rw [hrun]
   rw [hv] at hK
   exact hK β' _ w' (kd hs hst hh o.dst undef)
  obtain⟨cvs,hxe,hcl⟩:gf β (.cl f caps) (a.eval y):=c9 hs.sl hy
  have hav:=zG hs.sl ha
  have hvs:L2 (gf β) (avs++kc caps) (args.toList.map a.eval++cvs):=hav.append (pk hcl)
  have hrun:(execOp a.eval o).run P w=.ok (.enter f (args.toList.map a.eval++cvs).toArray) w:=by
   unfold execOp
   rw [hop]
   have e1:args.map a.eval=(args.toList.map a.eval).toArray:=by apply Array.ext';simp
   have hname':¬ fn.name= "runtime.NumGoroutine":=by simpa using hname
   simp only [resolve,hxe,Deferred.ofValue,invoke,callFunc,Sem.run_bind,run_program,Sem.run_pure,Result.andThen_ok,hfn,e1]
   simp [hname',hbody]
  rw [hrun,Oper.upon_enter]
  refine (hcall β w _ hs.hp hvs).mono fun e w' ⟨β',v,he,hr,hh,hst⟩=>?_
  subst he
  exact hK β' _ w' (gZ hs hst hh o.dst hr)
 ·rename_i hg
  rw [jr hs.sl hg]
  subst h
  exact hK β _ w (gZ hs (StepR.refl β s.hp w hs.hp.len) hs.hp o.dst ⟨[],rfl,trivial⟩)
 exact h.elim
def BS (T:List Nat) (o:Oper):Nat:=o.after.toList.foldl (fun m e=>if Region.binds .any e then m |||(1 <<< e.on) |||T.getD e.on 0 else m) 0
def sJ:List Oper→List Nat→List Nat
 |[],T=>T
 |o::l,T=>sJ l (T++[BS T o])
def zS (r:Array Oper):List Nat:=sJ r.toList []
def mB (r:Array Oper):Bool:=(List.range r.size).all fun i=>match r[i]? with
 |some o=>o.after.toList.all fun e=> !Region.binds .any e || decide (e.on < i)
 |none=>true
theorem xa (T:List Nat) (p:Nat):∀ (l:List Edge) (m:Nat),(l.foldl (fun m e=>if Region.binds .any e then m |||(1 <<< e.on) |||T.getD e.on 0 else m) m).testBit p=true↔
  m.testBit p=true∨∃ e∈l,Region.binds .any e=true∧(e.on=p∨(T.getD e.on 0).testBit p=true)
 |[],m=>by simp
 |e::l,m=>by
  rw [List.foldl_cons,xa T p l]
  cases hb:Region.binds .any e
  ·simp [hb]
  simp only [if_true,Nat.testBit_or,Bool.or_eq_true,Nat.one_shiftLeft,Nat.testBit_two_pow,decide_eq_true_eq,List.mem_cons,exists_eq_or_imp,hb,true_and]
  constructor
  ·rintro (((h|h)|h)|h)
   ·exact .inl h
   ·exact .inr (.inl (.inl h))
   ·exact .inr (.inl (.inr h))
   exact .inr (.inr h)
  rintro (h|(h|h)|h)
  ·exact .inl (.inl (.inl h))
  ·exact .inl (.inl (.inr h))
  ·exact .inl (.inr h)
  exact .inr h
theorem pT:∀ (l:List Oper) (T:List Nat) (i:Nat),i < T.length→(sJ l T)[i]? =T[i]?
 |[],T,i,_=>rfl
 |o::l,T,i,h=>by
  rw [sJ,pT l _ i (by simp;omega),List.getElem?_append_left h]
theorem xb:∀ (l:List Oper) (T:List Nat) (j:Nat) (o:Oper),l[j]? =some o→∃ T',(sJ l T)[T.length+j]? =some (BS T' o)∧T'.length=T.length+j∧∀ k,k < T.length+j→T'[k]? =(sJ l T)[k]?
 |[],T,j,o,h=>by simp at h
 |o'::l,T,0,o,h=>by
  simp at h
  subst h
  refine⟨T,?_,by simp,fun k hk=>?_⟩
  ·rw [sJ,pT l _ _ (by simp)]
   simp
  rw [sJ,pT l _ _ (by simp;omega),List.getElem?_append_left (by omega)]
 |o'::l,T,j+1,o,h=>by
  obtain⟨T',h1,h2,h3⟩:=xb l (T++[BS T o']) j o (by simpa using h)
  simp only [List.length_append,List.length_cons,List.length_nil] at h1 h2 h3
  refine⟨T',?_,by omega,fun k hk=>?_⟩
  ·rw [sJ,show T.length+(j+1)=T.length+(0+1)+j from by omega];exact h1
  rw [sJ];exact h3 k (by omega)
theorem pU {r:Array Oper} {i:Nat} {o:Oper} (ho:r[i]? =some o) (p:Nat):((zS r).getD i 0).testBit p=true↔∃ e∈o.after.toList,Region.binds .any e=true∧(e.on=p∨(e.on < i∧((zS r).getD e.on 0).testBit p=true)):=by
 obtain⟨T',h1,h2,h3⟩:=xb r.toList [] i o (by simpa using ho)
 simp only [List.length_nil,Nat.zero_add] at h1 h2 h3
 have e1:(zS r).getD i 0=BS T' o:=by unfold zS;rw [List.getD_eq_getElem?_getD,h1];rfl
 rw [e1]
 unfold BS
 rw [xa]
 simp only [Nat.zero_testBit,Bool.false_eq_true,false_or]
 constructor
 ·rintro⟨e,he,hb,h⟩
  refine⟨e,he,hb,h.imp id fun h=>?_⟩
  rcases Nat.lt_or_ge e.on i with hlt|hge
  ·refine⟨hlt,?_⟩
   rw [List.getD_eq_getElem?_getD,h3 _ hlt] at h
   rw [List.getD_eq_getElem?_getD]
   exact h
  rw [List.getD_eq_getElem?_getD,List.getElem?_eq_none (by omega)] at h
  simp at h
 rintro⟨e,he,hb,h⟩
 refine⟨e,he,hb,h.imp id fun⟨hlt,h⟩=>?_⟩
 rw [List.getD_eq_getElem?_getD,h3 _ hlt]
 rw [List.getD_eq_getElem?_getD] at h
 exact h
def yL (r:Array Oper) (listed:Array Bool):Prop:=∀ (i:Nat) (o:Oper),r[i]? =some o→listed.getD i false=true→∀ e∈o.after.toList,Region.binds .any e=true→listed.getD e.on false=true
theorem pV {r:Array Oper} {listed:Array Bool} (hc:yL r listed):∀ (i:Nat) (o:Oper),r[i]? =some o→(∀ e∈o.after.toList,Region.binds .any e=true→listed.getD e.on false=true)→∀ p,((zS r).getD i 0).testBit p=true→listed.getD p false=true:=by
 intro i
 induction i using Nat.strongRecOn with
 |_ i ih=>
  intro o ho ha p hp
  obtain⟨e,he,hb,h⟩:=(pU ho p).1 hp
  rcases h with rfl|⟨hlt,h⟩
  ·exact ha e he hb
  have hl:=ha e he hb
  cases hr:r[e.on]? with
  |none=>
   exfalso
   have hn:(zS r)[e.on]? =none:=by
    rw [Array.getElem?_eq_none_iff] at hr
    have hlt2:=(Array.getElem?_eq_some_iff.1 ho).1
    omega
   rw [List.getD_eq_getElem?_getD,hn] at h
   simp at h
  |some oj=>exact ih e.on hlt oj hr (hc e.on oj hr hl) p h
def bC:List Nat→Nat→Nat→Bool
 |[],p,q=>decide (p < q)
 |i::l,p,q=>if i=p then true else if i=q then false else bC l p q
theorem ju {p q:Nat} (hne:p≠q):∀ {l:List Nat},bC l p q=true∨bC l q p=true
 |[]=>by simp only [bC,decide_eq_true_eq];omega
 |i::l=>by
  simp only [bC]
  by_cases h1:i=p
  ·exact .inl (by rw [if_pos h1])
  by_cases h2:i=q
  ·exact .inr (by rw [if_pos h2])
  rw [if_neg h1,if_neg h2,if_neg h2,if_neg h1]
  exact ju hne
def QS (P:Program) (r:Array Oper) (T:List Nat) (ex:List (Nat×Nat)) (p q:Nat):Bool:=
 p != q && !(T.getD p 0).testBit q &&
 ((T.getD q 0).testBit p || ex.contains (p,q) || match r[p]?,r[q]? with
  |some x,some y=>pR P r x y || i9 P r x y
  |_,_=>false)
def ys (P:Program) (r:Array Oper) (T:List Nat) (ex:List (Nat×Nat)):List Nat→Bool
 |[]=>true
 |p::l=>l.all (QS P r T ex p) && ys P r T ex l
theorem xc {P:Program} {r:Array Oper} {T:List Nat} {ex:List (Nat×Nat)} {i:Nat}:∀ {l m:List Nat},ys P r T ex (l++i::m)=true→ys P r T ex (l++m)=true
 |[],m,h=>by simp only [List.nil_append,ys,Bool.and_eq_true] at h⊢;exact h.2
 |p::l,m,h=>by
  simp only [List.cons_append,ys,Bool.and_eq_true,List.all_eq_true] at h⊢
  refine⟨fun q hq=>h.1 q ?_,xc h.2⟩
  simp only [List.mem_append,List.mem_cons] at hq⊢
  exact hq.imp id .inr
theorem BT {P:Program} {r:Array Oper} {T:List Nat} {ex:List (Nat×Nat)} {i p:Nat}:∀ {l m:List Nat},ys P r T ex (l++i::m)=true→p∈l→QS P r T ex p i=true
 |[],m,_,h=>by simp at h
 |q::l,m,h,hp=>by
  simp only [List.cons_append,ys,Bool.and_eq_true,List.all_eq_true] at h
  rcases List.mem_cons.1 hp with rfl|hp
  ·exact h.1 i (by simp)
  exact BT h.2 hp
theorem xd {P:Program} {r:Array Oper} {T:List Nat} {ex:List (Nat×Nat)} {i p:Nat} {l:List Nat} (h:ys P r T ex (i::l)=true) (hp:p∈l):QS P r T ex i p=true:=by
 simp only [ys,Bool.and_eq_true,List.all_eq_true] at h
 exact h.1 p hp
theorem tV {P:Program} {r:Array Oper} {T:List Nat} {ex:List (Nat×Nat)}:∀ {l:List Nat},ys P r T ex l=true→l.Nodup
 |[],_=>List.nodup_nil
 |p::l,h=>by
  refine List.nodup_cons.2 ⟨fun hp=>?_,tV (by simp only [ys,Bool.and_eq_true] at h;exact h.2)⟩
  have:=xd h hp
  simp [QS] at this
theorem tW {P:Program} {r:Array Oper} {i:Nat}:∀ {l m:List Nat} {s s':S},(∀ p∈l,∃ x y,r[p]? =some x∧r[i]? =some y∧(pR P r x y || i9 P r x y)=true)→u_ P r (l++i::m) s s'→u_ P r (i::(l++m)) s s'
 |[],m,s,s',_,h=>h
 |p::l,m,s,s',hl,h=>by
  obtain⟨s1,h1,h2⟩:=h
  obtain⟨s2,h3,h4⟩:=tW (fun q hq=>hl q (List.mem_cons_of_mem _ hq)) h2
  obtain⟨x,y,hx,hy,hind⟩:=hl p (by simp)
  rcases (Bool.or_eq_true _ _).mp hind with hind|hind
  ·obtain⟨s1',h5,h6⟩:=swap hx hy hind h1 h3
   exact⟨s1',h5,s2,h6,h4⟩
  obtain⟨s1',h5,h6⟩:=UE hx hy hind h1 h3
  exact⟨s1',h5,s2,h6,h4⟩
def ot (r:Array Oper):Nat→Array Bool→List Nat→Prop
 |fuel,listed,[]=>fuel=0∨Region.ready .any r listed=[]
 |0,_,_::_=>False
 |fuel+1,listed,i::τ=>i∈Region.ready .any r listed∧ot r fuel (listed.setIfInBounds i true) τ
theorem kj {r:Array Oper}:∀ (fuel t:Nat) (listed:Array Bool),ot r fuel listed (Region.linearise.go .any r fuel t listed [])
 |0,t,listed=>by simp [Region.linearise.go,ot]
 |fuel+1,t,listed=>by
  simp only [Region.linearise.go]
  change ot r (fuel+1) listed (match (Region.ready .any r listed)[t % (Region.ready .any r listed).length]? with
   |some i=>Region.linearise.go .any r fuel (t / (Region.ready .any r listed).length) (listed.setIfInBounds i true) [i]
   |none=>[].reverse)
  cases hi:(Region.ready .any r listed)[t % (Region.ready .any r listed).length]? with
  |none=>
   have hnil:Region.ready .any r listed=[]:=by
    cases hr:Region.ready .any r listed with
    |nil=>rfl
    |cons x xs=>
     rw [hr] at hi
     have hlt:t % (x::xs).length < (x::xs).length:=Nat.mod_lt _ (by simp)
     simp at hi
     simp at hlt
     omega
   exact .inr hnil
  |some i=>
   simp only []
   rw [linearise_go_acc,List.reverse_singleton,List.singleton_append]
   exact⟨List.mem_of_getElem? hi,kj fuel _ _⟩
theorem je {r:Array Oper} {listed:Array Bool} {i:Nat}:i∈Region.ready .any r listed↔∃ o,r[i]? =some o∧listed.getD i true=false∧∀ e∈o.after.toList,Region.binds .any e=true→listed.getD e.on false=true:=by
 unfold Region.ready
 simp only [List.mem_filter,List.mem_range,Bool.and_eq_true,Bool.not_eq_true']
 constructor
 ·rintro⟨hlt,h1,h2⟩
  refine⟨r[i],Array.getElem?_eq_getElem hlt,h1,fun e he hb=>?_⟩
  rw [Array.getElem?_eq_getElem hlt] at h2
  simp only [Option.map_some,Option.getD_some,Array.all_eq_true_iff_forall_mem,Bool.or_eq_true,Bool.not_eq_true'] at h2
  rcases h2 e (by simpa using he) with h|h
  ·rw [hb] at h;cases h
  exact h
 rintro⟨o,ho,h1,h2⟩
 refine⟨(Array.getElem?_eq_some_iff.1 ho).1,h1,?_⟩
 rw [ho]
 simp only [Option.map_some,Option.getD_some,Array.all_eq_true_iff_forall_mem,Bool.or_eq_true,Bool.not_eq_true']
 intro e he
 cases hb:Region.binds .any e with
 |false=>exact .inl rfl
 |true=>exact .inr (h2 e (by simpa using he) hb)
theorem pW {l:Array Bool} {i j:Nat} {d:Bool} (hi:i < l.size):(l.setIfInBounds i true).getD j d=if i=j then true else l.getD j d:=by
 simp only [Array.getD_eq_getD_getElem?,Array.getElem?_setIfInBounds]
 by_cases h:i=j
 ·subst h;simp [hi]
 simp [h]
theorem pp {r:Array Oper} (h:mB r=true) {i:Nat} {o:Oper} (ho:r[i]? =some o) {e:Edge} (he:e∈o.after.toList) (hb:Region.binds .any e=true):e.on < i:=by
 unfold mB at h
 rw [List.all_eq_true] at h
 have:=h i (List.mem_range.2 (Array.getElem?_eq_some_iff.1 ho).1)
 rw [ho] at this
 have:=(List.all_eq_true.1 this) e he
 rw [hb] at this
 simpa using this
theorem tX {r:Array Oper} {fuel:Nat} {listed:Array Bool} (h:ot r fuel listed []):fuel=0∨Region.ready .any r listed=[]:=by
 cases fuel<;>exact h
theorem jv {P:Program} {E:Entry} {r:Array Oper} {Q:Exit→Act→World→Prop} {ex:List (Nat×Nat)} {s':S} (hback:mB r=true) (hQ:∀ β' a' w',Sim E β' s' a' w'→Q .normal a' w'):
  ∀ (τ:List Nat) (fuel:Nat) (listed:Array Bool) (σ:List Nat) (s:S) (β:Be) (a:Act) (w:World),ot r fuel listed τ→listed.size=r.size→σ.length≤fuel→(∀ i,i∈σ↔i < r.size∧listed.getD i true=false)→yL r listed→
   ys P r (zS r) ex σ=true→(∀ p q,ex.contains (p,q)=true→p∈σ→q∈σ→bC τ p q=true)→u_ P r σ s s'→Sim E β s a w→wpOps P r Q τ a w
 |[],fuel,listed,σ,s,β,a,w,hd,hsz,hf,hm,hc,hok,hx,hrun,hs=>by
  have hnil:σ=[]:=by
   rcases tX hd with rfl|hd
   ·exact List.length_eq_zero_iff.1 (by omega)
   cases σ with
   |nil=>rfl
   |cons p l=>
    exfalso
    have hp:=(hm p).1 (by simp)
    have:p∈Region.ready .any r listed:=by
     refine je.2 ⟨r[p],Array.getElem?_eq_getElem hp.1,hp.2,fun e he hb=>?_⟩
     have hbit:((zS r).getD p 0).testBit e.on=true:=(pU (Array.getElem?_eq_getElem hp.1) e.on).2 ⟨e,he,hb,.inl rfl⟩
     have hlt0:=pp hback (Array.getElem?_eq_getElem hp.1) he hb
     have hlt:e.on < r.size:=Nat.lt_trans hlt0 hp.1
     cases hl:listed.getD e.on false with
     |true=>rfl
     |false=>
      exfalso
      have hl':listed.getD e.on true=false:=by
       rw [Array.getD_eq_getD_getElem?,Array.getElem?_eq_getElem (by omega)] at hl⊢
       exact hl
      have hmem:e.on∈p::l:=(hm e.on).2 ⟨hlt,hl'⟩
      rcases List.mem_cons.1 hmem with hep|hmem
      ·omega
      have:=xd hok hmem
      simp only [QS,Bool.and_eq_true,Bool.not_eq_true'] at this
      rw [this.1.2] at hbit
      cases hbit
    rw [hd] at this
    simp at this
  subst hnil
  have:s'=s:=hrun
  subst this
  exact hQ β a w hs
 |i::τ,0,listed,σ,s,β,a,w,hd,_,_,_,_,_,_,_,_=>hd.elim
 |i::τ,fuel+1,listed,σ,s,β,a,w,hd,hsz,hf,hm,hc,hok,hx,hrun,hs=>by
  obtain⟨hi,hd⟩:=hd
  obtain⟨o,ho,h1,h2⟩:=je.1 hi
  have hil:i < r.size:=(Array.getElem?_eq_some_iff.1 ho).1
  have hiσ:i∈σ:=(hm i).2 ⟨hil,h1⟩
  obtain⟨l,m,rfl⟩:=List.append_of_mem hiσ
  have hnd:=tV hok
  have hfront:∀ p∈l,∃ x y,r[p]? =some x∧r[i]? =some y∧(pR P r x y || i9 P r x y)=true:=by
   intro p hp
   have hpl:=(hm p).1 (by simp [hp])
   have h3:=BT hok hp
   have hpi:p≠i:=by
    intro e
    subst e
    simp [QS] at h3
   simp only [QS,Bool.and_eq_true,Bool.or_eq_true] at h3
   rcases h3.2 with (h4|h4)|h4
   ·exfalso
    have:=pV hc i o ho h2 p h4
    have h5:=hpl.2
    rw [Array.getD_eq_getD_getElem?,Array.getElem?_eq_getElem (by omega)] at this h5
    simp only [Option.getD_some] at this h5
    rw [this] at h5
    cases h5
   ·exfalso
    have:=hx p i h4 (by simp [hp]) (by simp)
    simp [bC,hpi,Ne.symm hpi] at this
   split at h4
   ·rename_i x y hx hy
    exact⟨x,y,hx,hy,h4⟩
   cases h4
  obtain⟨s1,h3,h4⟩:=tW hfront hrun
  have hset:∀ (j:Nat) (d:Bool),(listed.setIfInBounds i true).getD j d=if i=j then true else listed.getD j d:=fun j d=>pW (by omega)
  rw [wpOps_cons]
  refine BR h3 hs fun β' a' w' hs'=>?_
  refine jv hback hQ τ fuel (listed.setIfInBounds i true) (l++m) s1 β' a' w' hd (by simpa using hsz) ?_ ?_ ?_ (xc hok) ?_ h4 hs'
  ·simp only [List.length_append,List.length_cons] at hf⊢
   omega
  ·intro j
   have hj:=hm j
   rw [hset]
   have hd1:i ∉ l∧i ∉ m:=by
    rw [List.nodup_append] at hnd
    exact⟨fun h=>hnd.2.2 i h i (by simp) rfl,(List.nodup_cons.1 hnd.2.1).1⟩
   simp only [List.mem_append,List.mem_cons] at hj⊢
   by_cases hij:i=j
   ·subst hij
    simp [hd1.1,hd1.2]
   rw [if_neg hij,←hj]
   simp [Ne.symm hij]
  ·intro j oj hj hl e he hb
   rw [hset] at hl⊢
   by_cases hij:i=j
   ·subst hij
    rw [hj] at ho
    cases ho
    split
    ·rfl
    exact h2 e he hb
   rw [if_neg hij] at hl
   split
   ·rfl
   exact hc j oj hj hl e he hb
  intro p q hpq hp hq
  have hd1:i ∉ l∧i ∉ m:=by
   rw [List.nodup_append] at hnd
   exact⟨fun h=>hnd.2.2 i h i (by simp) rfl,(List.nodup_cons.1 hnd.2.1).1⟩
  have hne:∀ x∈l++m,i≠x:=by
   intro x hx e
   subst e
   exact (List.mem_append.1 hx).elim hd1.1 hd1.2
  have hin:∀ x∈l++m,x∈l++i::m:=by
   intro x hx
   simp only [List.mem_append,List.mem_cons] at hx⊢
   exact hx.imp id .inr
  have:=hx p q hpq (hin p hp) (hin q hq)
  simpa [bC,hne p hp,hne q hq] using this
def kP:List (Nat×Nat)→List (List (Nat×Nat))
 |[]=>[[]]
 |(a,b)::U=>(kP U).flatMap fun l=>[(a,b)::l,(b,a)::l]
theorem kQ (τ:List Nat):∀ {U:List (Nat×Nat)},(∀ u∈U,u.1≠u.2)→∃ ex∈kP U,∀ p q,ex.contains (p,q)=true→bC τ p q=true
 |[],_=>⟨[],by simp [kP],fun p q h=>by simp at h⟩
 |(a,b)::U,h=>by
  obtain⟨ex,h1,h2⟩:=kQ τ (U:=U) fun u hu=>h u (by simp [hu])
  have hne:a≠b:=h (a,b) (by simp)
  rcases ju hne (l:=τ) with h3|h3
  ·refine⟨(a,b)::ex,List.mem_flatMap.2 ⟨ex,h1,by simp⟩,fun p q hpq=>?_⟩
   simp only [List.contains_cons,Bool.or_eq_true,beq_iff_eq,Prod.mk.injEq] at hpq
   rcases hpq with⟨rfl,rfl⟩|hpq
   ·exact h3
   exact h2 p q hpq
  refine⟨(b,a)::ex,List.mem_flatMap.2 ⟨ex,h1,by simp⟩,fun p q hpq=>?_⟩
  simp only [List.contains_cons,Bool.or_eq_true,beq_iff_eq,Prod.mk.injEq] at hpq
  rcases hpq with⟨rfl,rfl⟩|hpq
  ·exact h3
  exact h2 p q hpq
def pX (P:Program) (r:Array Oper) (U:List (Nat×Nat)) (os:List (List Nat)):Bool:=
 mB r && U.all (fun u=>u.1 != u.2) && os.all (fun σ=>σ.length == r.size && (List.range r.size).all σ.contains && σ.all fun i=>decide (i < r.size)) &&
 (let T:=zS r;(kP U).all fun ex=>os.any fun σ=>ys P r T ex σ)
theorem BU {P:Program} {E:Entry} {id:Nat} {r:Array Oper} {U:List (Nat×Nat)} {os:List (List Nat)} (hP:P.follows .mixedOrders=true) (hcov:pX P r U os=true) {s:S} {K:S→Prop}
  (h:∀ σ∈os,∃ s',u_ P r σ s s'∧∀ β a w,Sim E β s' a w→∃ β' t,K t∧Sim E β' t a w):oe P E (.region id r true) s fun e s'=>e=.normal∧K s':=by
 intro β a w hs Q hQ
 refine wp_region_draw fun t=>?_
 simp only [Region.schedule,hP,Bool.true_or,if_true]
 simp only [pX,Bool.and_eq_true] at hcov
 obtain⟨⟨⟨hback,hU⟩,hperm⟩,hch⟩:=hcov
 have hd:=kj (r:=r) r.size t (Array.replicate r.size false)
 obtain⟨ex,hex,hbef⟩:=kQ (Region.linearise .any r t) (U:=U) fun u hu=>by
  have:=List.all_eq_true.1 hU u hu
  simpa using this
 obtain⟨σ,hσ,hok⟩:=List.any_eq_true.1 (List.all_eq_true.1 hch ex hex)
 have hp:=List.all_eq_true.1 hperm σ hσ
 simp only [Bool.and_eq_true,beq_iff_eq,List.all_eq_true,List.mem_range,decide_eq_true_eq] at hp
 obtain⟨⟨hlen,hall⟩,hlt⟩:=hp
 obtain⟨s',hrun,hK⟩:=h σ hσ
 have hs2:Sim E β s a { w with drawn:=w.drawn+1 }:=⟨hs.dfr,hs.sl,⟨hs.hp.len,hs.hp.ob,hs.hp.flat,hs.hp.apart⟩,hs.ent,⟨hs.st.le,hs.st.os,hs.st.tape,hs.st.output,hs.st.size,hs.st.block,hs.st.len,hs.st.old,hs.st.fresh⟩⟩
 refine jv hback (fun β' a' w' hs'=>let⟨β2,t2,hk2,hs2⟩:=hK β' a' w' hs';hQ .normal t2 β2 a' w' ⟨rfl,hk2⟩ hs2) (Region.linearise .any r t) r.size _ σ s β a _ hd (by simp) (by omega) (fun i=>?_) (fun i o ho hl=>?_) hok (fun p q hpq _ _=>hbef p q hpq) hrun hs2
 ·constructor
  ·intro hi
   refine⟨hlt i hi,?_⟩
   simp [Array.getD_eq_getD_getElem?,hlt i hi]
  rintro⟨hi,_⟩
  simpa using hall i hi
 exfalso
 simp only [Array.getD_eq_getD_getElem?,Array.getElem?_replicate] at hl
 split at hl<;>cases hl
inductive StD where
 |go (l:List Nat) (s:S) (c:Prop)
 |call (f:Nat) (args:List AV) (d:Option Tmp) (l:List Nat) (s:S) (c:Prop)
 |fin (s:S) (c:Prop)
 |bad
def pq (P:Program) (o:Oper) (l:List Nat) (s:S) (c:Prop):StD:=
 match o.op with
 | .call ⟨.value x,args,_⟩=>match s.ev x,s.evs args.toList with
  |some (.cl f caps),some avs=>.call f (avs++kc caps) o.dst l s c
  |_,_=>.bad
 |op=>match bE P s o.type op with
  |some ⟨v,h,d⟩=>.go l (s.put o.dst v h) (c∧d)
  |none=>.bad
def tY (P:Program) (r:Array Oper):List Nat→S→Prop→StD
 |[],s,c=>.fin s c
 |i::l,s,c=>match r[i]? with
  |some o=>match er r s o with
   |some b=>match b with
    |true=>pq P o l s c
    |false=>.go l (s.put o.dst (some (.tu [])) s.hp) c
   |none=>.bad
  |none=>.bad
def AC (P:Program) (r:Array Oper):Nat→StD→StD
 |0,x=>x
 |n+1,.go l s c=>AC P r n (tY P r l s c)
 |_+1,.call f a d l s c=>.call f a d l s c
 |_+1,.fin s c=>.fin s c
 |_+1,.bad=>.bad
def nC (P:Program) (r:Array Oper) (G:S→Prop):StD→Prop
 | .go l s c=>c∧∃ s',u_ P r l s s'∧G s'
 | .call f args d l s c=>c∧∃ res h',ae P f args s.hp res h'∧Hp.ext s.hp h'∧∃ s',u_ P r l (s.put d (some res) h') s'∧G s'
 | .fin s c=>c∧G s
 | .bad=>False
theorem AD {P:Program} {r:Array Oper} {G:S→Prop} {l:List Nat} {s:S} {c:Prop} (h:nC P r G (tY P r l s c)):nC P r G (.go l s c):=by
 cases l with
 |nil=>exact⟨h.1,s,rfl,h.2⟩
 |cons i l=>
  simp only [tY] at h
  split at h
  ·rename_i o ho
   split at h
   ·rename_i b hg
    cases b with
    |true=>
     unfold pq at h
     dsimp only at h
     split at h
     ·rename_i x args at_ hop
      split at h
      ·rename_i f caps avs hx ha
       obtain⟨hc,res,h',hcall,hext,s',hrun,hG⟩:=h
       refine⟨hc,s',⟨_,?_,hrun⟩,hG⟩
       unfold cU
       rw [ho]
       dsimp only
       rw [hg]
       exact .inr ⟨x,args,at_,f,caps,avs,res,h',hop,hx,ha,hcall,hext,rfl⟩
      exact h.elim
     split at h
     ·rename_i v hp d hx
      obtain⟨⟨hc,hd⟩,s',hrun,hG⟩:=h
      refine⟨hc,s',⟨_,?_,hrun⟩,hG⟩
      unfold cU
      rw [ho]
      dsimp only
      rw [hg]
      exact .inl ⟨_,hx,hd,rfl⟩
     exact h.elim
    |false=>
     obtain⟨hc,s',hrun,hG⟩:=h
     refine⟨hc,s',⟨_,?_,hrun⟩,hG⟩
     unfold cU
     rw [ho]
     dsimp only
     rw [hg]
   exact h.elim
  exact h.elim
theorem aa {P:Program} {r:Array Oper} {G:S→Prop}:∀ (n:Nat) {x:StD},nC P r G (AC P r n x)→nC P r G x
 |0,x,h=>h
 |n+1,.go l s c,h=>AD (aa n h)
 |n+1,.call ..,h=>h
 |n+1,.fin ..,h=>h
 |n+1,.bad,h=>h
def ou:Hp→Bool
 |[]=>true
 |some ob::h=> !ob.own && ou h
 |none::h=>ou h
theorem nD:∀ {h:Hp} {i:Nat} {t:AObj},ou h=true→h[i]? =some (some t)→t.own=false
 |[],i,t,_,h=>by simp at h
 |some ob::l,0,t,hn,h=>by
  simp at h
  subst h
  simp [ou] at hn
  exact hn.1
 |none::l,0,t,hn,h=>by simp at h
 |some ob::l,i+1,t,hn,h=>nD (h:=l) (by simp [ou] at hn;exact hn.2) (by simpa using h)
 |none::l,i+1,t,hn,h=>nD (h:=l) (by simpa [ou] using hn) (by simpa using h)
theorem am {P:Program} {r:Array Oper} {G:S→Prop} {f:Nat} {avs:List AV} {d:Option Tmp} {l:List Nat} {s:S} {c:Prop} {args0:List AV} {h0 h0':Hp} {res0:AV} (hc:c) (ct:ae P f args0 h0 res0 h0') (ρ:Rho)
  (hm:pJ ρ args0 avs∧lg ρ s.hp ρ h0) (hsep:eu ρ h0=true) (hno:ou h0=true) (h:nC P r G (.go l (s.put d (some (ln ρ s.hp.length res0)) (s.hp++ir ρ s.hp.length (h0'.drop h0.length))) True)):nC P r G (.call f avs d l s c):=by
 have hu:∀ (ρ':Rho) (h h' s':Hp),(∀ (i:Nat) (t:AObj),h[i]? =some (some t)→t.own=false)→ez ρ s.hp.length ρ' h h' s'=s':=by
  intro ρ'
  induction ρ' with
  |nil=>intro h h' s' _;simp [ez]
  |cons x ρ' ih=>
   intro h h' s' hn
   cases h with
   |nil=>cases x<;>simp [ez]
   |cons y h=>
    have hn':∀ (i:Nat) (t:AObj),h[i]? =some (some t)→t.own=false:=fun i t ht=>hn (i+1) t (by simpa using ht)
    cases h' with
    |nil=>cases x<;>cases y<;>simp [ez]
    |cons z h'=>
     cases x with
     |none=>cases y<;>simpa [ez] using ih h h' s' hn'
     |some x=>
      cases y with
      |none=>simpa [ez] using ih h h' s' hn'
      |some y=>
       obtain⟨n,e⟩:=x
       have ho:=hn 0 y (by simp)
       simpa [ez,ho] using ih h h' s' hn'
 have hcall:eA ρ h0 h0' s.hp=s.hp++ir ρ s.hp.length (h0'.drop h0.length):=by
  unfold eA
  rw [hu ρ h0 h0' s.hp fun i t ht=>nD hno ht]
 obtain⟨_,s',hrun,hG⟩:=h
 refine⟨hc,_,_,pO ct ρ hm.1 hm.2 hsep,?_,s',by rw [hcall];exact hrun,hG⟩
 rw [hcall]
 exact gk _ _
def aQ (f:List Nat→Prop):List (List Nat)→Prop
 |[]=>True
 |[σ]=>f σ
 |σ::l=>f σ∧aQ f l
theorem jf {f:List Nat→Prop}:∀ {l:List (List Nat)},aQ f l→∀ σ∈l,f σ
 |[σ],h,_,hm=>by simp at hm;subst hm;exact h
 |σ::τ::l,h,x,hm=>by
  rcases List.mem_cons.1 hm with rfl|hm
  ·exact h.1
  exact jf h.2 x hm
theorem BV {P:Program} {E:Entry} {F:S→Prop} {id:Nat} {r:Array Oper} {k:List Item} {s:S} {c:Prop} (U:List (Nat×Nat)) (os:List (List Nat)) (hP:P.follows .mixedOrders=true) (hc:c) (hcov:pX P r U os=true)
  (h:aQ (fun σ=>nC P r (fun s'=>gW P E F (.go k s' True)) (.go σ s True)) os):gW P E F (.draw id r k s c):=by
 refine⟨hc,fS (BU hP hcov (K:=fun s'=>gW P E F (.go k s' True)) fun σ hσ=>let⟨s',h1,h2⟩:=(jf h σ hσ).2;⟨s',h1,fun β a w hs=>⟨β,s',h2,hs⟩⟩) fun e s' hk=>?_⟩
 obtain⟨rfl,hk⟩:=hk
 exact hk.2
theorem ar {P:Program} {E:Entry} {F:S→Prop} {id:Nat} {r:Array Oper} {k:List Item} {s:S} {c:Prop} (σ:List Nat) (hP:P.follows .mixedOrders=true) (hc:c) (hcov:pX P r [] [σ]=true)
  (h:nC P r (fun s'=>gW P E F (.go k s' True)) (.go σ s True)):gW P E F (.draw id r k s c):=
 BV [] [σ] hP hc hcov h
attribute [go_sem] AC tY pq aQ
end
end Go.Proofs.YtbgakfbnkkfbkaaGreat
