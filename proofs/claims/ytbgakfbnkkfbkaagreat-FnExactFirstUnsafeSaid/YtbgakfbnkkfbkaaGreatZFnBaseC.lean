/-
  Texts merged for this claim by shake.py: what its proof needs.
-/
import Derived.Tactics
import Derived.Below
import Derived.Laws.AppendOwn
import Derived.Laws.OwnMore
import Derived.Laws.Slices
import Derived.Laws.Small
import Derived.Laws.Strings
import Derived.KernelRfl
import Derived.Laws.MakeOwn
import Derived.Laws.BytesString
import Derived.Laws.BytesArg
import Derived.Laws.Build
import Derived.Laws.Concat
import Derived.Laws.StructEq
import Derived.Lib.ConvBytes
import Derived.Orders
import Derived.WalkKit
import Derived.ProofKit
import Derived.ShutString
import Derived.OpenShut
import Derived.ChangeOld
import Derived.Carry
import Derived.Test.YtbgakfbnkkfbkaaGreatChecked
import Derived.Laws.BitsLemmas
import Derived.JoinedOf
import Derived.Test.YtbgakfbnkkfbkaaGreatZFnBaseA
set_option maxHeartbeats 16000000
set_option maxRecDepth 100000
set_option linter.unusedVariables false
set_option linter.unusedSimpArgs false
namespace Go.Proofs.YtbgakfbnkkfbkaaGreat
section
open Go.RowKit
theorem g0 {r:Array Oper} (hb:mB r=true):∀ {τ:List Nat} {fuel:Nat} {listed:Array Bool},ot r fuel listed τ→∀ {p q:Nat} {o:Oper} {e:Edge},r[q]? =some o→e∈o.after.toList→Region.binds .any e=true→e.on=p→listed.size=r.size→listed.getD p true=false→bC τ p q=true
 |[],fuel,listed,_,p,q,o,e,ho,he,hbd,hp,_,_=>by
  have:=pp hb ho he hbd
  simp only [bC,decide_eq_true_eq]
  omega
 |i::τ,0,listed,h,_,_,_,_,_,_,_,_,_,_=>h.elim
 |i::τ,fuel+1,listed,⟨hi,hd⟩,p,q,o,e,ho,he,hbd,hp,hsz,hl=>by
  obtain⟨oi,hoi,h1,h2⟩:=je.1 hi
  have hil:i < listed.size:=by rw [hsz];exact (Array.getElem?_eq_some_iff.1 hoi).1
  simp only [bC]
  by_cases h3:i=p
  ·rw [if_pos h3]
  rw [if_neg h3]
  by_cases h4:i=q
  ·exfalso
   subst h4
   rw [ho] at hoi
   cases hoi
   have h5:=h2 e he hbd
   rw [hp] at h5
   have hlt:p < listed.size:=by
    have:=pp hb ho he hbd
    have:=(Array.getElem?_eq_some_iff.1 ho).1
    omega
   rw [Array.getD_eq_getD_getElem?,Array.getElem?_eq_getElem hlt] at h5 hl
   simp only [Option.getD_some] at h5 hl
   rw [h5] at hl
   cases hl
  rw [if_neg h4]
  exact g0 hb hd ho he hbd hp (by simpa using hsz) (by rw [pW hil,if_neg h3];exact hl)
theorem lW {a b c:Nat} (h1:a≠b) (h2:b≠c) (h3:a≠c):∀ {l:List Nat},bC l a b=true→bC l b c=true→bC l c a=true→False
 |[],x,y,z=>by
  simp only [bC,decide_eq_true_eq] at x y z
  omega
 |i::l,x,y,z=>by
  simp only [bC] at x y z
  by_cases ha:i=a
  ·subst ha
   rw [if_neg h3,if_pos rfl] at z
   cases z
  rw [if_neg ha] at x
  by_cases hb:i=b
  ·rw [if_pos hb] at x
   cases x
  rw [if_neg hb] at x y
  by_cases hc:i=c
  ·rw [if_pos hc] at y
   cases y
  rw [if_neg hc] at y z
  rw [if_neg ha] at z
  exact lW h1 h2 h3 x y z
def xe (r:Array Oper) (b c:Nat):Bool:=match r[c]? with
 |some o=>o.after.toList.any fun e=>Region.binds .any e && e.on == b
 |none=>false
def UF (r:Array Oper) (ex:List (Nat×Nat)):Bool:=ex.any fun u=>ex.any fun v=>v.2 == u.1 && (u.1 != v.1 && (u.2 != v.1 && (u.1 != u.2 && (xe r u.2 v.1 && decide (u.2 < r.size)))))
def yM (P:Program) (r:Array Oper) (U:List (Nat×Nat)) (os:List (List Nat)):Bool:=
 mB r && U.all (fun u=>u.1 != u.2) && os.all (fun σ=>σ.length == r.size && (List.range r.size).all σ.contains && σ.all fun i=>decide (i < r.size)) &&
 (let T:=zS r;(kP U).all fun ex=>UF r ex || os.any fun σ=>ys P r T ex σ)
theorem AE {P:Program} {E:Entry} {id:Nat} {r:Array Oper} {U:List (Nat×Nat)} {os:List (List Nat)} (hP:P.follows .mixedOrders=true) (hcov:yM P r U os=true) {s:S} {K:S→Prop}
  (h:∀ σ∈os,∃ s',u_ P r σ s s'∧∀ β a w,Sim E β s' a w→∃ β' t,K t∧Sim E β' t a w):oe P E (.region id r true) s fun e s'=>e=.normal∧K s':=by
 intro β a w hs Q hQ
 refine wp_region_draw fun t=>?_
 simp only [Region.schedule,hP,Bool.true_or,if_true]
 simp only [yM,Bool.and_eq_true] at hcov
 obtain⟨⟨⟨hback,hU⟩,hperm⟩,hch⟩:=hcov
 have hd:=kj (r:=r) r.size t (Array.replicate r.size false)
 obtain⟨ex,hex,hbef⟩:=kQ (Region.linearise .any r t) (U:=U) fun u hu=>by
  have:=List.all_eq_true.1 hU u hu
  simpa using this
 have hsome:=List.all_eq_true.1 hch ex hex
 rcases Bool.or_eq_true_iff.1 hsome with hbad|hsome
 ·exfalso
  obtain⟨u,hu,hbad⟩:=List.any_eq_true.1 hbad
  obtain⟨v,hv,hbad⟩:=List.any_eq_true.1 hbad
  simp only [Bool.and_eq_true,beq_iff_eq,bne_iff_ne,ne_eq,decide_eq_true_eq] at hbad
  obtain⟨h1,h2,h3,h4,h5,h6⟩:=hbad
  have b1:=hbef u.1 u.2 (by rw [List.contains_iff_mem];exact hu)
  have b2:=hbef v.1 v.2 (by rw [List.contains_iff_mem];exact hv)
  rw [h1] at b2
  unfold xe at h5
  split at h5
  ·rename_i o ho
   obtain⟨e,he,he2⟩:=List.any_eq_true.1 h5
   simp only [Bool.and_eq_true,beq_iff_eq] at he2
   have b3:=g0 hback hd ho he he2.1 he2.2 (by simp) (by simp [Array.getD_eq_getD_getElem?,h6])
   exact lW h4 h3 h2 b1 b3 b2
  cases h5
 obtain⟨σ,hσ,hok⟩:=List.any_eq_true.1 hsome
 have hp:=List.all_eq_true.1 hperm σ hσ
 simp only [Bool.and_eq_true,beq_iff_eq,List.all_eq_true,List.mem_range,decide_eq_true_eq] at hp
 obtain⟨⟨hlen,hall⟩,hlt⟩:=hp
 obtain⟨s',hrun,hK⟩:=h σ hσ
 have hs2:Sim E β s a { w with drawn:=w.drawn+1 }:=⟨hs.dfr,hs.sl,⟨hs.hp.len,hs.hp.ob,hs.hp.flat,hs.hp.apart⟩,hs.ent,⟨hs.st.le,hs.st.os,hs.st.tape,hs.st.output,hs.st.size,hs.st.block,hs.st.len,hs.st.old,hs.st.fresh⟩⟩
 refine jv hback (fun β' a' w' hs'=>let⟨β2,t2,hk2,hs2⟩:=hK β' a' w' hs';hQ .normal t2 β2 a' w' ⟨rfl,hk2⟩ hs2) (Region.linearise .any r t) r.size _ σ s β a _ hd (by simp) (by omega) (fun i=>?_) (fun i o ho hl=>?_) hok (fun p q hpq _ _=>hbef p q hpq) hrun hs2
 ·constructor
  ·intro hi
   refine⟨hlt i hi,?_⟩
   simp [Array.getD_eq_getD_getElem?,hlt i hi]
  rintro⟨hi,_⟩
  simpa using hall i hi
 exfalso
 simp only [Array.getD_eq_getD_getElem?,Array.getElem?_replicate] at hl
 split at hl<;>cases hl
theorem aT {P:Program} {E:Entry} {F:S→Prop} {id:Nat} {r:Array Oper} {k:List Item} {s:S} {c:Prop} (U:List (Nat×Nat)) (os:List (List Nat)) (hP:P.follows .mixedOrders=true) (hc:c) (hcov:yM P r U os=true)
  (h:aQ (fun σ=>nC P r (fun s'=>gW P E F (.go k s' True)) (.go σ s True)) os):gW P E F (.draw id r k s c):=by
 refine⟨hc,fS (AE hP hcov (K:=fun s'=>gW P E F (.go k s' True)) fun σ hσ=>let⟨s',h1,h2⟩:=(jf h σ hσ).2;⟨s',h1,fun β a w hs=>⟨β,s',h2,hs⟩⟩) fun e s' hk=>?_⟩
 obtain⟨rfl,hk⟩:=hk
 exact hk.2
end
section
open Go.RowKit
def pY (P:Program) (r:Array Oper) (i j:Oper):Bool:=
 wZ i.dst j.dst && oo i.dst (eY r j) && oo j.dst (eY r i) && (lr P i == 0 && lr P j != 5 || lr P i == 1 && (lr P j != 4 && lr P j != 3))
def Zf (P:Program) (o:Oper) (s s':S):Prop:=
 (∃ x,bE P s o.type o.op=some x∧x.c∧s'=s.put o.dst x.v x.hp)∨
 (∃ (y:Operand) (args:Array Operand) (at_:Array TypeId) (f:Nat) (caps:List Sc) (avs:List AV) (res:AV) (h':Hp),o.op=.call ⟨.value y,args,at_⟩∧s.ev y=some (.cl f caps)∧s.evs args.toList=some avs∧
  ae P f (avs++kc caps) s.hp res h'∧s'=s.put o.dst (some res) h')
def cV (P:Program) (r:Array Oper) (i:Nat) (s s':S):Prop:=
 match r[i]? with
 |none=>s'=s
 |some o=>match er r s o with
  |some true=>Zf P o s s'
  |some false=>s'=s.put o.dst (some (.tu [])) s.hp
  |none=>False
def yN (P:Program) (r:Array Oper):List Nat→S→S→Prop
 |[],s,s'=>s'=s
 |i::l,s,s''=>∃ s',cV P r i s s'∧yN P r l s' s''
theorem UG {P:Program} {r:Array Oper} {i j:Nat} {oi oj:Oper} (hi:r[i]? =some oi) (hj:r[j]? =some oj) (hind:pY P r oi oj=true) {s s1 s2:S} (h1:cV P r i s s1) (h2:cV P r j s1 s2):
  ∃ s1',cV P r j s s1'∧cV P r i s1' s2:=by
 simp only [pY,Bool.and_eq_true,Bool.or_eq_true,beq_iff_eq,bne_iff_ne] at hind
 obtain⟨⟨⟨hne,hij⟩,hji⟩,hcls⟩:=hind
 have hci:lr P oi=0∨lr P oi=1:=by rcases hcls with h|h;exact .inl h.1;exact .inr h.1
 unfold cV at h1 h2
 rw [hi] at h1
 rw [hj] at h2
 dsimp only at h1 h2
 -- what step i does: it puts a value, and leaves the heap
 have key:∃ v,s1=s.put oi.dst v s.hp∧∀ (t:S),gG (eY r oi) s t→(lr P oi=0∨Hp.ext s.hp t.hp)→cV P r i t (t.put oi.dst v t.hp):=by
  split at h1
  ·rename_i hg
   rcases h1 with⟨x,hx,hc,rfl⟩|⟨y,args,at_,f,caps,avs,res,h',ho,_⟩
   ·have hx2:x.hp=s.hp∧∀ t:S,gG (eY r oi) s t→(lr P oi=0∨Hp.ext s.hp t.hp)→bE P t oi.type oi.op=some ⟨x.v,t.hp,x.c⟩:=by
     have eqv:∀ t:S,gG (eY r oi) s t→bE P t oi.type oi.op=bE P ⟨s.sl,t.hp⟩ oi.type oi.op:=fun t ha=>(fC (s:=⟨s.sl,t.hp⟩) (s':=t) rfl (fun q hq=>du ha q hq)).symm
     rcases hci with h0|h0
     ·obtain⟨e1,e2⟩:=ki h0 hx
      exact⟨e1,fun t ha _=>by rw [eqv t ha];exact e2 t.hp⟩
     obtain⟨e1,e2⟩:=pS h0 hx
     exact⟨e1,fun t ha he=>by rw [eqv t ha];exact e2 t.hp (he.resolve_left (by rw [h0];simp))⟩
    refine⟨x.v,by rw [hx2.1],fun t ha he=>?_⟩
    unfold cV
    rw [hi]
    dsimp only
    rw [←bU ha,hg]
    exact .inl ⟨_,hx2.2 t ha he,hc,rfl⟩
   exfalso
   have:lr P oi=3:=by unfold lr;rw [ho];rfl
   omega
  ·rename_i hg
   refine⟨some (.tu []),h1,fun t ha _=>?_⟩
   unfold cV
   rw [hi]
   dsimp only
   rw [←bU ha,hg]
  exact h1.elim
 obtain⟨v,rfl,hstep⟩:=key
 have hal:gG (eY r oj) s (s.put oi.dst v s.hp):=fB hij
 have hhp:(s.put oi.dst v s.hp).hp=s.hp:=gR _ _ _ _
 rw [←bU hal] at h2
 -- what step j does
 have fin:∀ (u:Option AV) (h':Hp),s2=(s.put oi.dst v s.hp).put oj.dst u h'→(lr P oi=0∨Hp.ext s.hp h')→cV P r j s (s.put oj.dst u h')→∃ s1',cV P r j s s1'∧cV P r i s1' s2:=by
  intro u h' he hx hj'
  refine⟨s.put oj.dst u h',hj',?_⟩
  have h3:=hstep (s.put oj.dst u h') (fB hji) (by rw [gR];exact hx)
  rw [gR] at h3
  rw [he,po s v u s.hp h' hne]
  exact h3
 split at h2
 ·rename_i hg
  rcases h2 with⟨x,hx,hc,rfl⟩|⟨y,args,at_,f,caps,avs,res,h',ho,hy,ha,hcall,rfl⟩
  ·have hx':bE P s oj.type oj.op=some x:=by rw [fC (s:=s) (s':=s.put oi.dst v s.hp) hhp.symm (du hal)];exact hx
   refine fin x.v x.hp rfl ?_ ?_
   ·rcases hcls with h0|h0
    ·exact .inl h0.1
    right
    have h4:lr P oj≠4:=h0.2.1
    exact zR hx' h4
   unfold cV
   rw [hj]
   dsimp only
   rw [hg]
   exact .inl ⟨x,hx',hc,rfl⟩
  have hal':=du hal
  rw [ho] at hal'
  have e1:s.ev y=some (.cl f caps):=by
   rw [fT (s:=s) (s':=s.put oi.dst v s.hp) (x:=y) (fun t ht=>hal' t (d6 (by subst ht;simp [Op.operands,Call.operands])))]
   exact hy
  have e2:s.evs args.toList=some avs:=by
   rw [jd (s:=s) (s':=s.put oi.dst v s.hp) (l:=args.toList) (fun z hz=>fT fun t ht=>hal' t (d6 (by subst ht;simp [Op.operands,Call.operands];right;simpa using hz)))]
   exact ha
  rw [hhp] at hcall
  refine fin (some res) h' rfl (.inl (by
   have h3:lr P oj=3:=by unfold lr;rw [ho];rfl
   rcases hcls with h|h
   ·exact h.1
   exact absurd h3 h.2.2)) ?_
  unfold cV
  rw [hj]
  dsimp only
  rw [hg]
  exact .inr ⟨y,args,at_,f,caps,avs,res,h',ho,e1,e2,hcall,rfl⟩
 ·rename_i hg
  refine fin (some (.tu [])) s.hp (by rw [h2,hhp]) (.inr fun o ob h=>h) ?_
  unfold cV
  rw [hj]
  dsimp only
  rw [hg]
 exact h2.elim
theorem QT {P:Program} {r:Array Oper} {i j:Nat} {oi oj:Oper} (hi:r[i]? =some oi) (hj:r[j]? =some oj) (hind:i9 P r oi oj=true) {s s1 s2:S} (h1:cV P r i s s1) (h2:cV P r j s1 s2):
  ∃ s1',cV P r j s s1'∧cV P r i s1' s2:=by
 simp only [i9,Bool.and_eq_true,beq_iff_eq] at hind
 obtain⟨⟨⟨hne,hij⟩,hji⟩,hcj⟩:=hind
 unfold cV at h1 h2
 rw [hi] at h1
 rw [hj] at h2
 dsimp only at h1 h2
 -- what step i does: it puts a value and a heap
 have key:∃ v hp,s1=s.put oi.dst v hp∧∀ (t:S),gG (eY r oi) s t→t.hp=s.hp→cV P r i t (t.put oi.dst v hp):=by
  split at h1
  ·rename_i hg
   rcases h1 with⟨x,hx,hc,rfl⟩|⟨y,args,at_,f,caps,avs,res,h',ho,hy,ha,hcall,rfl⟩
   ·refine⟨x.v,x.hp,rfl,fun t ha he=>?_⟩
    unfold cV
    rw [hi]
    dsimp only
    rw [←bU ha,hg]
    exact .inl ⟨x,by rw [←fC he.symm (du ha)];exact hx,hc,rfl⟩
   refine⟨some res,h',rfl,fun t hal he=>?_⟩
   unfold cV
   rw [hi]
   dsimp only
   rw [←bU hal,hg]
   have hal':=du hal
   rw [ho] at hal'
   have e1:t.ev y=some (.cl f caps):=by
    rw [←fT (s:=s) (s':=t) (x:=y) (fun q hq=>hal' q (d6 (by subst hq;simp [Op.operands,Call.operands])))]
    exact hy
   have e2:t.evs args.toList=some avs:=by
    rw [←jd (s:=s) (s':=t) (l:=args.toList) (fun z hz=>fT fun q hq=>hal' q (d6 (by subst hq;simp [Op.operands,Call.operands];right;simpa using hz)))]
    exact ha
   exact .inr ⟨y,args,at_,f,caps,avs,res,h',ho,e1,e2,by rw [he];exact hcall,rfl⟩
  ·rename_i hg
   refine⟨some (.tu []),s.hp,h1,fun t ha he=>?_⟩
   unfold cV
   rw [hi]
   dsimp only
   rw [←bU ha,hg]
   dsimp only
   rw [he]
  exact h1.elim
 obtain⟨v,hp,rfl,hstep⟩:=key
 have hal:gG (eY r oj) s (s.put oi.dst v hp):=fB hij
 rw [←bU hal] at h2
 have fin:∀ (u:Option AV),s2=(s.put oi.dst v hp).put oj.dst u hp→cV P r j s (s.put oj.dst u s.hp)→∃ s1',cV P r j s s1'∧cV P r i s1' s2:=by
  intro u he hj'
  refine⟨s.put oj.dst u s.hp,hj',?_⟩
  have h3:=hstep (s.put oj.dst u s.hp) (fB hji) (gR _ _ _ _)
  rw [he,po s v u hp hp hne]
  have e:∀ (a b:S) (d:Option Tmp) (x:Option AV) (h:Hp),a.sl=b.sl→a.put d x h=b.put d x h:=by
   intro a b d x h hab
   cases d<;>simp [S.put,hab]
  rw [e (s.put oj.dst u hp) (s.put oj.dst u s.hp) oi.dst v hp (by cases oj.dst<;>rfl)]
  exact h3
 split at h2
 ·rename_i hg
  rcases h2 with⟨x,hx,hc,rfl⟩|⟨y,args,at_,f,caps,avs,res,h',ho,_⟩
  ·have hx1:bE P ⟨s.sl,hp⟩ oj.type oj.op=some x:=by
    rw [fC (s:=⟨s.sl,hp⟩) (s':=s.put oi.dst v hp) (by rw [gR]) (fun q hq=>du hal q hq)]
    exact hx
   obtain⟨e1,e2⟩:=ki hcj hx1
   have e3:=e2 s.hp
   refine fin x.v (by rw [e1]) ?_
   unfold cV
   rw [hj]
   dsimp only
   rw [hg]
   exact .inl ⟨_,e3,hc,rfl⟩
  exfalso
  have:lr P oj=3:=by unfold lr;rw [ho];rfl
  omega
 ·rename_i hg
  refine fin (some (.tu [])) (by rw [h2,gR]) ?_
  unfold cV
  rw [hj]
  dsimp only
  rw [hg]
 exact h2.elim
def yO (P:Program) (r:Array Oper) (T:List Nat) (ex:List (Nat×Nat)) (p q:Nat):Bool:=
 p != q && !(T.getD p 0).testBit q &&
 ((T.getD q 0).testBit p || ex.contains (p,q) || match r[p]?,r[q]? with
  |some x,some y=>pY P r x y || i9 P r x y
  |_,_=>false)
def nE (P:Program) (r:Array Oper) (T:List Nat) (ex:List (Nat×Nat)):List Nat→Bool
 |[]=>true
 |p::l=>l.all (yO P r T ex p) && nE P r T ex l
theorem tZ {P:Program} {r:Array Oper} {T:List Nat} {ex:List (Nat×Nat)} {i:Nat}:∀ {l m:List Nat},nE P r T ex (l++i::m)=true→nE P r T ex (l++m)=true
 |[],m,h=>by simp only [List.nil_append,nE,Bool.and_eq_true] at h⊢;exact h.2
 |p::l,m,h=>by
  simp only [List.cons_append,nE,Bool.and_eq_true,List.all_eq_true] at h⊢
  refine⟨fun q hq=>h.1 q ?_,tZ h.2⟩
  simp only [List.mem_append,List.mem_cons] at hq⊢
  exact hq.imp id .inr
theorem zT {P:Program} {r:Array Oper} {T:List Nat} {ex:List (Nat×Nat)} {i p:Nat}:∀ {l m:List Nat},nE P r T ex (l++i::m)=true→p∈l→yO P r T ex p i=true
 |[],m,_,h=>by simp at h
 |q::l,m,h,hp=>by
  simp only [List.cons_append,nE,Bool.and_eq_true,List.all_eq_true] at h
  rcases List.mem_cons.1 hp with rfl|hp
  ·exact h.1 i (by simp)
  exact zT h.2 hp
theorem t_ {P:Program} {r:Array Oper} {T:List Nat} {ex:List (Nat×Nat)} {i p:Nat} {l:List Nat} (h:nE P r T ex (i::l)=true) (hp:p∈l):yO P r T ex i p=true:=by
 simp only [nE,Bool.and_eq_true,List.all_eq_true] at h
 exact h.1 p hp
theorem pZ {P:Program} {r:Array Oper} {T:List Nat} {ex:List (Nat×Nat)}:∀ {l:List Nat},nE P r T ex l=true→l.Nodup
 |[],_=>List.nodup_nil
 |p::l,h=>by
  refine List.nodup_cons.2 ⟨fun hp=>?_,pZ (by simp only [nE,Bool.and_eq_true] at h;exact h.2)⟩
  have:=t_ h hp
  simp [yO] at this
theorem p_ {P:Program} {r:Array Oper} {i:Nat}:∀ {l m:List Nat} {s s':S},(∀ p∈l,∃ x y,r[p]? =some x∧r[i]? =some y∧(pY P r x y || i9 P r x y)=true)→yN P r (l++i::m) s s'→yN P r (i::(l++m)) s s'
 |[],m,s,s',_,h=>h
 |p::l,m,s,s',hl,h=>by
  obtain⟨s1,h1,h2⟩:=h
  obtain⟨s2,h3,h4⟩:=p_ (fun q hq=>hl q (List.mem_cons_of_mem _ hq)) h2
  obtain⟨x,y,hx,hy,hind⟩:=hl p (by simp)
  rcases (Bool.or_eq_true _ _).mp hind with hind|hind
  ·obtain⟨s1',h5,h6⟩:=UG hx hy hind h1 h3
   exact⟨s1',h5,s2,h6,h4⟩
  obtain⟨s1',h5,h6⟩:=QT hx hy hind h1 h3
  exact⟨s1',h5,s2,h6,h4⟩
theorem BW {P:Program} {E:Entry} {r:Array Oper} {i:Nat} {s s1:S} {β:Be} {a:Act} {w:World} {Q:Exit→Act→World→Prop} {K:Act→World→Prop} (h:cV P r i s s1) (hs:Sim E β s a w) (hK:∀ β' a' w',Sim E β' s1 a' w'→K a' w'):wpOp P r Q i K a w:=by
 unfold wpOp
 unfold cV at h
 split at h
 ·rename_i hi
  subst h
  rw [hi]
  exact hK β a w hs
 rename_i o ho
 rw [ho]
 dsimp only
 split at h
 ·rename_i hg
  rw [if_pos (jr hs.sl hg)]
  refine .inl ?_
  unfold Oper.wp
  rcases h with⟨x,hx,hc,rfl⟩|⟨y,args,at_,f,caps,avs,res,h',hop,hy,ha,⟨⟨fn,hfn,hname,hbody⟩,hcall⟩,rfl⟩
  ·obtain⟨β',w',hst,hh,hx'⟩:=nv hs.hp hs.sl hx hc
   rcases hx' with⟨v,av,hrun,hv,hr⟩|⟨hrun,hv⟩
   ·rw [hrun]
    rw [hv] at hK
    exact hK β' _ w' (gZ hs hst hh o.dst hr)
   rw [hrun]
   rw [hv] at hK
   exact hK β' _ w' (kd hs hst hh o.dst undef)
  obtain⟨cvs,hxe,hcl⟩:gf β (.cl f caps) (a.eval y):=c9 hs.sl hy
  have hav:=zG hs.sl ha
  have hvs:L2 (gf β) (avs++kc caps) (args.toList.map a.eval++cvs):=hav.append (pk hcl)
  have hrun:(execOp a.eval o).run P w=.ok (.enter f (args.toList.map a.eval++cvs).toArray) w:=by
   unfold execOp
   rw [hop]
   have e1:args.map a.eval=(args.toList.map a.eval).toArray:=by apply Array.ext';simp
   have hname':¬ fn.name= "runtime.NumGoroutine":=by simpa using hname
   simp only [resolve,hxe,Deferred.ofValue,invoke,callFunc,Sem.run_bind,run_program,Sem.run_pure,Result.andThen_ok,hfn,e1]
   simp [hname',hbody]
  rw [hrun,Oper.upon_enter]
  refine (hcall β w _ hs.hp hvs).mono fun e w' ⟨β',v,he,hr,hh,hst⟩=>?_
  subst he
  exact hK β' _ w' (gZ hs hst hh o.dst hr)
 ·rename_i hg
  rw [jr hs.sl hg]
  subst h
  exact hK β _ w (gZ hs (StepR.refl β s.hp w hs.hp.len) hs.hp o.dst ⟨[],rfl,trivial⟩)
 exact h.elim
theorem ov {P:Program} {E:Entry} {r:Array Oper} {Q:Exit→Act→World→Prop} {ex:List (Nat×Nat)} {s':S} (hback:mB r=true) (hQ:∀ β' a' w',Sim E β' s' a' w'→Q .normal a' w'):
  ∀ (τ:List Nat) (fuel:Nat) (listed:Array Bool) (σ:List Nat) (s:S) (β:Be) (a:Act) (w:World),ot r fuel listed τ→listed.size=r.size→σ.length≤fuel→(∀ i,i∈σ↔i < r.size∧listed.getD i true=false)→yL r listed→
   nE P r (zS r) ex σ=true→(∀ p q,ex.contains (p,q)=true→p∈σ→q∈σ→bC τ p q=true)→yN P r σ s s'→Sim E β s a w→wpOps P r Q τ a w
 |[],fuel,listed,σ,s,β,a,w,hd,hsz,hf,hm,hc,hok,hx,hrun,hs=>by
  have hnil:σ=[]:=by
   rcases tX hd with rfl|hd
   ·exact List.length_eq_zero_iff.1 (by omega)
   cases σ with
   |nil=>rfl
   |cons p l=>
    exfalso
    have hp:=(hm p).1 (by simp)
    have:p∈Region.ready .any r listed:=by
     refine je.2 ⟨r[p],Array.getElem?_eq_getElem hp.1,hp.2,fun e he hb=>?_⟩
     have hbit:((zS r).getD p 0).testBit e.on=true:=(pU (Array.getElem?_eq_getElem hp.1) e.on).2 ⟨e,he,hb,.inl rfl⟩
     have hlt0:=pp hback (Array.getElem?_eq_getElem hp.1) he hb
     have hlt:e.on < r.size:=Nat.lt_trans hlt0 hp.1
     cases hl:listed.getD e.on false with
     |true=>rfl
     |false=>
      exfalso
      have hl':listed.getD e.on true=false:=by
       rw [Array.getD_eq_getD_getElem?,Array.getElem?_eq_getElem (by omega)] at hl⊢
       exact hl
      have hmem:e.on∈p::l:=(hm e.on).2 ⟨hlt,hl'⟩
      rcases List.mem_cons.1 hmem with hep|hmem
      ·omega
      have:=t_ hok hmem
      simp only [yO,Bool.and_eq_true,Bool.not_eq_true'] at this
      rw [this.1.2] at hbit
      cases hbit
    rw [hd] at this
    simp at this
  subst hnil
  have:s'=s:=hrun
  subst this
  exact hQ β a w hs
 |i::τ,0,listed,σ,s,β,a,w,hd,_,_,_,_,_,_,_,_=>hd.elim
 |i::τ,fuel+1,listed,σ,s,β,a,w,hd,hsz,hf,hm,hc,hok,hx,hrun,hs=>by
  obtain⟨hi,hd⟩:=hd
  obtain⟨o,ho,h1,h2⟩:=je.1 hi
  have hil:i < r.size:=(Array.getElem?_eq_some_iff.1 ho).1
  have hiσ:i∈σ:=(hm i).2 ⟨hil,h1⟩
  obtain⟨l,m,rfl⟩:=List.append_of_mem hiσ
  have hnd:=pZ hok
  have hfront:∀ p∈l,∃ x y,r[p]? =some x∧r[i]? =some y∧(pY P r x y || i9 P r x y)=true:=by
   intro p hp
   have hpl:=(hm p).1 (by simp [hp])
   have h3:=zT hok hp
   have hpi:p≠i:=by
    intro e
    subst e
    simp [yO] at h3
   simp only [yO,Bool.and_eq_true,Bool.or_eq_true] at h3
   rcases h3.2 with (h4|h4)|h4
   ·exfalso
    have:=pV hc i o ho h2 p h4
    have h5:=hpl.2
    rw [Array.getD_eq_getD_getElem?,Array.getElem?_eq_getElem (by omega)] at this h5
    simp only [Option.getD_some] at this h5
    rw [this] at h5
    cases h5
   ·exfalso
    have:=hx p i h4 (by simp [hp]) (by simp)
    simp [bC,hpi,Ne.symm hpi] at this
   split at h4
   ·rename_i x y hx hy
    exact⟨x,y,hx,hy,h4⟩
   cases h4
  obtain⟨s1,h3,h4⟩:=p_ hfront hrun
  have hset:∀ (j:Nat) (d:Bool),(listed.setIfInBounds i true).getD j d=if i=j then true else listed.getD j d:=fun j d=>pW (by omega)
  rw [wpOps_cons]
  refine BW h3 hs fun β' a' w' hs'=>?_
  refine ov hback hQ τ fuel (listed.setIfInBounds i true) (l++m) s1 β' a' w' hd (by simpa using hsz) ?_ ?_ ?_ (tZ hok) ?_ h4 hs'
  ·simp only [List.length_append,List.length_cons] at hf⊢
   omega
  ·intro j
   have hj:=hm j
   rw [hset]
   have hd1:i ∉ l∧i ∉ m:=by
    rw [List.nodup_append] at hnd
    exact⟨fun h=>hnd.2.2 i h i (by simp) rfl,(List.nodup_cons.1 hnd.2.1).1⟩
   simp only [List.mem_append,List.mem_cons] at hj⊢
   by_cases hij:i=j
   ·subst hij
    simp [hd1.1,hd1.2]
   rw [if_neg hij,←hj]
   simp [Ne.symm hij]
  ·intro j oj hj hl e he hb
   rw [hset] at hl⊢
   by_cases hij:i=j
   ·subst hij
    rw [hj] at ho
    cases ho
    split
    ·rfl
    exact h2 e he hb
   rw [if_neg hij] at hl
   split
   ·rfl
   exact hc j oj hj hl e he hb
  intro p q hpq hp hq
  have hd1:i ∉ l∧i ∉ m:=by
   rw [List.nodup_append] at hnd
   exact⟨fun h=>hnd.2.2 i h i (by simp) rfl,(List.nodup_cons.1 hnd.2.1).1⟩
  have hne:∀ x∈l++m,i≠x:=by
   intro x hx e
   subst e
   exact (List.mem_append.1 hx).elim hd1.1 hd1.2
  have hin:∀ x∈l++m,x∈l++i::m:=by
   intro x hx
   simp only [List.mem_append,List.mem_cons] at hx⊢
   exact hx.imp id .inr
  have:=hx p q hpq (hin p hp) (hin q hq)
  simpa [bC,hne p hp,hne q hq] using this
def yP (P:Program) (r:Array Oper) (U:List (Nat×Nat)) (os:List (List Nat)):Bool:=
 mB r && U.all (fun u=>u.1 != u.2) && os.all (fun σ=>σ.length == r.size && (List.range r.size).all σ.contains && σ.all fun i=>decide (i < r.size)) &&
 (let T:=zS r;(kP U).all fun ex=>UF r ex || os.any fun σ=>nE P r T ex σ)
theorem AF {P:Program} {E:Entry} {id:Nat} {r:Array Oper} {U:List (Nat×Nat)} {os:List (List Nat)} (hP:P.follows .mixedOrders=true) (hcov:yP P r U os=true) {s:S} {K:S→Prop}
  (h:∀ σ∈os,∃ s',yN P r σ s s'∧∀ β a w,Sim E β s' a w→∃ β' t,K t∧Sim E β' t a w):oe P E (.region id r true) s fun e s'=>e=.normal∧K s':=by
 intro β a w hs Q hQ
 refine wp_region_draw fun t=>?_
 simp only [Region.schedule,hP,Bool.true_or,if_true]
 simp only [yP,Bool.and_eq_true] at hcov
 obtain⟨⟨⟨hback,hU⟩,hperm⟩,hch⟩:=hcov
 have hd:=kj (r:=r) r.size t (Array.replicate r.size false)
 obtain⟨ex,hex,hbef⟩:=kQ (Region.linearise .any r t) (U:=U) fun u hu=>by
  have:=List.all_eq_true.1 hU u hu
  simpa using this
 have hsome:=List.all_eq_true.1 hch ex hex
 rcases Bool.or_eq_true_iff.1 hsome with hbad|hsome
 ·exfalso
  obtain⟨u,hu,hbad⟩:=List.any_eq_true.1 hbad
  obtain⟨v,hv,hbad⟩:=List.any_eq_true.1 hbad
  simp only [Bool.and_eq_true,beq_iff_eq,bne_iff_ne,ne_eq,decide_eq_true_eq] at hbad
  obtain⟨h1,h2,h3,h4,h5,h6⟩:=hbad
  have b1:=hbef u.1 u.2 (by rw [List.contains_iff_mem];exact hu)
  have b2:=hbef v.1 v.2 (by rw [List.contains_iff_mem];exact hv)
  rw [h1] at b2
  unfold xe at h5
  split at h5
  ·rename_i o ho
   obtain⟨e,he,he2⟩:=List.any_eq_true.1 h5
   simp only [Bool.and_eq_true,beq_iff_eq] at he2
   have b3:=g0 hback hd ho he he2.1 he2.2 (by simp) (by simp [Array.getD_eq_getD_getElem?,h6])
   exact lW h4 h3 h2 b1 b3 b2
  cases h5
 obtain⟨σ,hσ,hok⟩:=List.any_eq_true.1 hsome
 have hp:=List.all_eq_true.1 hperm σ hσ
 simp only [Bool.and_eq_true,beq_iff_eq,List.all_eq_true,List.mem_range,decide_eq_true_eq] at hp
 obtain⟨⟨hlen,hall⟩,hlt⟩:=hp
 obtain⟨s',hrun,hK⟩:=h σ hσ
 have hs2:Sim E β s a { w with drawn:=w.drawn+1 }:=⟨hs.dfr,hs.sl,⟨hs.hp.len,hs.hp.ob,hs.hp.flat,hs.hp.apart⟩,hs.ent,⟨hs.st.le,hs.st.os,hs.st.tape,hs.st.output,hs.st.size,hs.st.block,hs.st.len,hs.st.old,hs.st.fresh⟩⟩
 refine ov hback (fun β' a' w' hs'=>let⟨β2,t2,hk2,hs2⟩:=hK β' a' w' hs';hQ .normal t2 β2 a' w' ⟨rfl,hk2⟩ hs2) (Region.linearise .any r t) r.size _ σ s β a _ hd (by simp) (by omega) (fun i=>?_) (fun i o ho hl=>?_) hok (fun p q hpq _ _=>hbef p q hpq) hrun hs2
 ·constructor
  ·intro hi
   refine⟨hlt i hi,?_⟩
   simp [Array.getD_eq_getD_getElem?,hlt i hi]
  rintro⟨hi,_⟩
  simpa using hall i hi
 exfalso
 simp only [Array.getD_eq_getD_getElem?,Array.getElem?_replicate] at hl
 split at hl<;>cases hl
def yQ (P:Program) (r:Array Oper) (G:S→Prop):StD→Prop
 | .go l s c=>c∧∃ s',yN P r l s s'∧G s'
 | .call f args d l s c=>c∧∃ res h',ae P f args s.hp res h'∧∃ s',yN P r l (s.put d (some res) h') s'∧G s'
 | .fin s c=>c∧G s
 | .bad=>False
theorem AG {P:Program} {r:Array Oper} {G:S→Prop} {l:List Nat} {s:S} {c:Prop} (h:yQ P r G (tY P r l s c)):yQ P r G (.go l s c):=by
 cases l with
 |nil=>exact⟨h.1,s,rfl,h.2⟩
 |cons i l=>
  simp only [tY] at h
  split at h
  ·rename_i o ho
   split at h
   ·rename_i b hg
    cases b with
    |true=>
     unfold pq at h
     dsimp only at h
     split at h
     ·rename_i x args at_ hop
      split at h
      ·rename_i f caps avs hx ha
       obtain⟨hc,res,h',hcall,s',hrun,hG⟩:=h
       refine⟨hc,s',⟨_,?_,hrun⟩,hG⟩
       unfold cV
       rw [ho]
       dsimp only
       rw [hg]
       exact .inr ⟨x,args,at_,f,caps,avs,res,h',hop,hx,ha,hcall,rfl⟩
      exact h.elim
     split at h
     ·rename_i v hp d hx
      obtain⟨⟨hc,hd⟩,s',hrun,hG⟩:=h
      refine⟨hc,s',⟨_,?_,hrun⟩,hG⟩
      unfold cV
      rw [ho]
      dsimp only
      rw [hg]
      exact .inl ⟨_,hx,hd,rfl⟩
     exact h.elim
    |false=>
     obtain⟨hc,s',hrun,hG⟩:=h
     refine⟨hc,s',⟨_,?_,hrun⟩,hG⟩
     unfold cV
     rw [ho]
     dsimp only
     rw [hg]
   exact h.elim
  exact h.elim
theorem it {P:Program} {r:Array Oper} {G:S→Prop}:∀ (n:Nat) {x:StD},yQ P r G (AC P r n x)→yQ P r G x
 |0,x,h=>h
 |n+1,.go l s c,h=>AG (it n h)
 |n+1,.call ..,h=>h
 |n+1,.fin ..,h=>h
 |n+1,.bad,h=>h
theorem AH {P:Program} {E:Entry} {F:S→Prop} {id:Nat} {r:Array Oper} {k:List Item} {s:S} {c:Prop} (U:List (Nat×Nat)) (os:List (List Nat)) (hP:P.follows .mixedOrders=true) (hc:c) (hcov:yP P r U os=true)
  (h:aQ (fun σ=>yQ P r (fun s'=>gW P E F (.go k s' True)) (.go σ s True)) os):gW P E F (.draw id r k s c):=by
 refine⟨hc,fS (AF hP hcov (K:=fun s'=>gW P E F (.go k s' True)) fun σ hσ=>let⟨s',h1,h2⟩:=(jf h σ hσ).2;⟨s',h1,fun β a w hs=>⟨β,s',h2,hs⟩⟩) fun e s' hk=>?_⟩
 obtain⟨rfl,hk⟩:=hk
 exact hk.2
theorem uc {P:Program} {r:Array Oper} {G:S→Prop} {f:Nat} {avs:List AV} {d:Option Tmp} {l:List Nat} {s:S} {c:Prop} {args0:List AV} {h0 h0':Hp} {res0:AV} (hc:c) (ct:ae P f args0 h0 res0 h0') (ρ:Rho)
  (hm:pJ ρ args0 avs∧lg ρ s.hp ρ h0) (hsep:eu ρ h0=true) (h:yQ P r G (.go l (s.put d (some (ln ρ s.hp.length res0)) (eA ρ h0 h0' s.hp)) True)):yQ P r G (.call f avs d l s c):=by
 obtain⟨_,s',hrun,hG⟩:=h
 exact⟨hc,_,_,pO ct ρ hm.1 hm.2 hsep,s',hrun,hG⟩
end
section
open Go
theorem iI {P:Program} {S:FuncId→Prop} (hS:∀ g,S g→∀ h∈(P.funcs[g]?).elim [] P.leadsTo,S h):∀ (n:Nat) (todo seen:List FuncId),(∀ x∈todo,S x)→(∀ x∈seen,S x)→∀ x∈P.closureVia n todo seen,S x
 |0,todo,seen,_,hs,x,hx=>by
  unfold Program.closureVia at hx
  exact hs x (List.mem_reverse.1 hx)
 |n+1,[],seen,_,hs,x,hx=>by
  unfold Program.closureVia at hx
  exact hs x (List.mem_reverse.1 hx)
 |n+1,f::todo,seen,ht,hs,x,hx=>by
  unfold Program.closureVia at hx
  split at hx
  ·exact iI hS n todo seen (fun y hy=>ht y (List.mem_cons_of_mem _ hy)) hs x hx
  refine iI hS n _ (f::seen) (fun y hy=>?_) (fun y hy=>?_) x hx
  ·rcases List.mem_append.1 hy with hy|hy
   ·exact hS f (ht f (List.mem_cons_self ..)) y hy
   exact ht y (List.mem_cons_of_mem _ hy)
  rcases List.mem_cons.1 hy with rfl|hy
  ·exact ht y (List.mem_cons_self ..)
  exact hs y hy
theorem o3 {P:Program} {S:FuncId→Prop} (hS:∀ g,S g→∀ h∈(P.funcs[g]?).elim [] P.leadsTo,S h) {f:FuncId} (hf:S f):∀ x∈P.closure f,S x:=
 iI hS _ [f] [] (fun x hx=>by rw [List.mem_singleton.1 hx];exact hf) (fun x hx=>by cases hx)
def tH (l:List Nat):List Char:=l.map Char.ofNat
theorem wJ (a b:List Nat):tH (a++b)=tH a++tH b:=by simp [tH]
theorem sE (a:Nat) (b:List Nat):tH (a::b)=Char.ofNat a::tH b:=rfl
theorem pj {c:Char} (h:c≠Char.ofNat 32) (r:List Char):wordsSigns (c::r)=match wordsSigns r with
  |w::ws=>(c::w)::ws
  |[]=>[[c]]:=by
 conv=>lhs;unfold wordsSigns
 split
 ·rename_i e
  simp at e
 ·rename_i r' e
  obtain⟨e1,_⟩:=List.cons.inj e
  exact absurd e1 h
 rename_i c' r' _ e
 obtain⟨e1,e2⟩:=List.cons.inj e
 subst e1;subst e2
 rfl
theorem fo:∀ {w:List Char} (r:List Char),(∀ c∈w,c≠Char.ofNat 32)→wordsSigns (w++Char.ofNat 32::r)=w::wordsSigns r
 |[],r,_=>by
  show wordsSigns (Char.ofNat 32::r)=[]::wordsSigns r
  conv=>lhs;unfold wordsSigns
  rfl
 |c::w,r,h=>by
  rw [List.cons_append,pj (h c (List.mem_cons_self ..)),fo r (fun x hx=>h x (List.mem_cons_of_mem _ hx))]
def pz (l:List Nat):Bool:=(tH l).all fun c=>c != Char.ofNat 32
theorem kL {l:List Nat} (h:pz l=true):∀ c∈tH l,c≠Char.ofNat 32:=by
 intro c hc
 have:=List.all_eq_true.1 h c hc
 simpa using this
theorem zw {P:Program} {a b c r:List Nat} (h:P.initOrder=String.ofList (tH (a++32::(b++32::(c++32::r))))) (ha:pz a=true) (hb:pz b=true) (hc:pz c=true)
  (hm:((tH a == "harness".toList || tH a == "ownmain".toList) && isSumSigns (tH b))=true):∃ rest,behindMainWord (wordsSigns P.initOrder.toList)=tH c::rest:=by
 refine⟨wordsSigns (tH r),?_⟩
 rw [h,String.toList_ofList,wJ,sE,wJ,sE,wJ,sE,fo _ (kL ha),fo _ (kL hb),fo _ (kL hc)]
 exact if_pos hm
def yr:List Nat:=[99,117,116]
theorem Fi {P:Program} {rest:List (List Char)} (h:behindMainWord (wordsSigns P.initOrder.toList)=tH yr::rest):P.make=some .cut:=by
 unfold Program.make
 rw [h]
 rfl
theorem Bl {P:Program} {rest:List (List Char)} (h:behindMainWord (wordsSigns P.initOrder.toList)=tH yr::rest):P.liftsFinal=false:=by
 unfold Program.liftsFinal Program.headLifts
 rw [h]
 rfl
theorem Ns {P:Program} {rest:List (List Char)} (h:behindMainWord (wordsSigns P.initOrder.toList)=tH yr::rest) (l1:P.laysLater=false) (l2:P.bearsReflect=false) (l3:P.doorRows=[]):P.mayEnter=true:=by
 have l4:P.doorFits []=true:=by
  unfold Program.doorFits
  rw [l3]
  rfl
 unfold Program.mayEnter
 rw [h]
 show ((_ || _) || _)=true
 have e:stripLifts liftWords (tH yr::rest)=([],tH yr::rest):=rfl
 rw [e,l1,l2,l4]
 simp only [List.contains_nil,Bool.and_true,Bool.not_false,Bool.or_true,List.head?_cons]
 rw [show (some (tH yr) == some "cut".toList)=true from by kernel_rfl]
 simp
def uQ (P:Program) (f:FuncId) (fn:Func) (s:ChangeSpec) (c:OpenClaim):Bool:=
 c.wf (OpenSpec.ofChange s) && laidOutB P && mapsRowed P &&
 fn.params.all (P.readableRec ·) && namedTie P c.named s.vars &&
 (c.stops == []) && (P.stops == []) && (c.knobs == []) && (P.stopKnobs == []) &&
 (c.maps == (fn.params.toList++s.plain.varTypes P).any (P.mapsRec ·)) && (c.ifaces == (fn.params.toList++s.plain.varTypes P).any (P.ifacesRec ·)) && (c.mapsOut == P.mapsAmong fn.resultTypes.toList) &&
 (c.loops == (fn.params.toList++s.plain.varTypes P).any (P.loopsFrom ·)) && (c.wideKeys == (fn.params.toList++s.plain.varTypes P++fn.resultTypes.toList).any (P.wideKeysFrom ·)) &&
 s.vars.all (P.varReadable ·) && fn.resultTypes.all (fun t=>P.readableRec t && decide (t < P.types.size)) && (c.ifacesOut == fn.resultTypes.toList.any (P.ifacesRec ·)) && (c.loopsOut == fn.resultTypes.toList.any (P.loopsFrom ·)) && (c.plainKeys == P.plainKeys) && c.shortTexts.isNone && P.stopsHeard && (c.kinds == (if c.domain.isEmpty then [] else fn.params.toList.map fun t=>match P.underlying t with|some (.int k)=>some k|_=>none)) && (c.pinned == c.pinnedBy) &&
 (c.veiled == (fn.params.toList++s.plain.varTypes P++fn.resultTypes.toList).any (P.veiledRec ·)) && c.veiledFits P fn.params.toList (fn.params.toList++s.plain.varTypes P++fn.resultTypes.toList)
end
section
open Go
theorem n7:∃ rest,behindMainWord (wordsSigns Tryz.prog.initOrder.toList)=tH yr::rest:=
 zw (a:=[104,97,114,110,101,115,115]) (b:=[98,50,49,51,99,48,57,53,51,54,102,50,51,102,100,51,57,57,102,56,52,48,56,57,100,102,57,56,48,54,98,55,98,100,101,48,48,50,101,55,102,97,53,48,48,56,101,100,102,51,99,102,51,55,56,99,57,54,49,56,50,98,100,101]) (c:=yr) (r:=[97,116,32,108,111,111,112,46,101,120,97,109,112,108,101,47,103,48,48,57,54,55,47,108,97,119,115,46,70,110,69,120,97,99,116,70,105,114,115,116,85,110,115,97,102,101,32,108,111,111,112,46,101,120,97,109,112,108,101,47,103,48,48,57,54,55,47,108,97,119,115,46,70,110,69,120,97,99,116,76,105,118,101,100,32,108,111,111,112,46,101,120,97,109,112,108,101,47,103,48,48,57,54,55,47,108,97,119,115,46,70,110,69,120,97,99,116,68,111,110,101,32,108,111,111,112,46,101,120,97,109,112,108,101,47,103,48,48,57,54,55,47,108,97,119,115,46,70,110,69,120,97,99,116,67,97,108,109,82,111,117,110,100,32,108,111,111,112,46,101,120,97,109,112,108,101,47,103,48,48,57,54,55,47,108,97,119,115,46,70,110,69,120,97,99,116,67,97,108,109,82,111,117,110,100,115]) (by kernel_rfl) (by kernel_rfl) (by kernel_rfl) (by kernel_rfl) (by kernel_rfl)
theorem Ud:Tryz.prog.laysLater=false:=by kernel_rfl
theorem Ue:Tryz.prog.bearsReflect=false:=by kernel_rfl
theorem Uf:Tryz.prog.doorRows=[]:=by kernel_rfl
theorem Nu:Tryz.prog.mayEnter=true:=n7.elim fun _ h=>Ns h Ud Ue Uf
theorem Bn:Tryz.prog.liftsFinal=false:=n7.elim fun _ h=>Bl h
theorem Fj:Tryz.prog.make=some .cut:=n7.elim fun _ h=>Fi h
end
end Go.Proofs.YtbgakfbnkkfbkaaGreat
