/-
  Texts merged for this claim by shake.py: what its proof needs.
-/
import Derived.Tactics
import Derived.Below
import Derived.Laws.AppendOwn
import Derived.Laws.OwnMore
import Derived.Laws.Slices
import Derived.Laws.Small
import Derived.Laws.Strings
import Derived.KernelRfl
import Derived.Laws.MakeOwn
import Derived.Laws.BytesString
import Derived.Laws.BytesArg
import Derived.Laws.Build
import Derived.Laws.Concat
import Derived.Laws.StructEq
import Derived.Lib.ConvBytes
import Derived.Orders
import Derived.WalkKit
import Derived.ProofKit
import Derived.ShutString
import Derived.OpenShut
import Derived.ChangeOld
import Derived.Carry
import Derived.Test.YtbgakfbnkkfbkaaGreatChecked
import Derived.Laws.BitsLemmas
import Derived.JoinedOf
import Derived.Test.YtbgakfbnkkfbkaaGreatZFnBaseA
import Derived.Test.YtbgakfbnkkfbkaaGreatZFnBaseB
import Derived.Test.YtbgakfbnkkfbkaaGreatZFnBaseC
set_option maxHeartbeats 16000000
set_option maxRecDepth 100000
set_option linter.unusedVariables false
set_option linter.unusedSimpArgs false
namespace Go.Proofs.YtbgakfbnkkfbkaaGreat
section
open Go.RowKit
theorem kl {a b:Nat} (h:a≠b):∀ {l:List Nat},bC l a b=true→bC l b a=true→False
 |[],x,y=>by
  simp only [bC,decide_eq_true_eq] at x y
  omega
 |i::l,x,y=>by
  simp only [bC] at x y
  by_cases ha:i=a
  ·subst ha
   rw [if_neg h,if_pos rfl] at y
   cases y
  rw [if_neg ha] at x
  by_cases hb:i=b
  ·rw [if_pos hb] at x
   cases x
  rw [if_neg hb] at x
  rw [if_neg hb,if_neg ha] at y
  exact kl h x y
theorem mC {a b c:Nat} (h1:a≠b) (h2:b≠c) (h3:a≠c):∀ {l:List Nat},bC l a b=true→bC l b c=true→bC l a c=true
 |[],x,y=>by
  simp only [bC,decide_eq_true_eq] at x y⊢
  omega
 |i::l,x,y=>by
  simp only [bC] at x y⊢
  by_cases ha:i=a
  ·rw [if_pos ha]
  rw [if_neg ha] at x⊢
  by_cases hb:i=b
  ·rw [if_pos hb] at x
   cases x
  rw [if_neg hb] at x y
  by_cases hc:i=c
  ·rw [if_pos hc] at y
   cases y
  rw [if_neg hc] at y⊢
  exact mC h1 h2 h3 x y
def xg (C:List (Nat×Nat)):Nat→Nat→Nat→Bool
 |0,_,_=>false
 |n+1,a,b=>C.any fun u=>u.1 == a && (u.2 == b || xg C n u.2 b)
theorem mD {C:List (Nat×Nat)} {l:List Nat} (hC:∀ u∈C,u.1≠u.2∧bC l u.1 u.2=true):∀ (n a b:Nat),xg C n a b=true→a≠b∧bC l a b=true
 |0,_,_,h=>by simp [xg] at h
 |n+1,a,b,h=>by
  simp only [xg] at h
  obtain⟨u,hu,hh⟩:=List.any_eq_true.1 h
  simp only [Bool.and_eq_true,Bool.or_eq_true,beq_iff_eq] at hh
  obtain⟨h0,hh⟩:=hh
  obtain⟨h1,h2⟩:=hC u hu
  rw [h0] at h1 h2
  rcases hh with h5|h5
  ·rw [h5] at h1 h2
   exact⟨h1,h2⟩
  obtain⟨h3,h4⟩:=mD hC n _ _ h5
  by_cases he:a=b
  ·rw [he] at h1 h2
   exact (kl h1 h2 h4).elim
  exact⟨he,mC h1 h3 he h2 h4⟩
def B4 (X:List (Nat×Nat)):List (Nat×Nat)→Bool
 |[]=>false
 |u::ex=>xg (ex++X) 8 u.2 u.1
def AK (P:Program) (r:Array Oper) (T:List Nat) (X:List (Nat×Nat)) (os:List (List Nat)):List (Nat×Nat)→List (Nat×Nat)→Bool
 |[],ex=>B4 X ex || os.any fun σ=>ys P r T ex σ
 |u::U,ex=>B4 X ex || (AK P r T X os U (u::ex) && AK P r T X os U ((u.2,u.1)::ex))
theorem qa {X ex:List (Nat×Nat)} {l:List Nat} (hX:∀ u∈X,u.1≠u.2∧bC l u.1 u.2=true) (hex:∀ u∈ex,u.1≠u.2∧bC l u.1 u.2=true) (h:B4 X ex=true):False:=by
 cases ex with
 |nil=>simp [B4] at h
 |cons u ex=>
  simp only [B4] at h
  obtain⟨h1,h2⟩:=mD (l:=l) (fun v hv=>by
   rcases List.mem_append.1 hv with hv|hv
   ·exact hex v (List.mem_cons_of_mem _ hv)
   exact hX v hv) _ _ _ h
  exact kl h1 h2 (hex u (List.mem_cons_self ..)).2
theorem lX {P:Program} {r:Array Oper} {T:List Nat} {X:List (Nat×Nat)} {os:List (List Nat)} {l:List Nat} (hX:∀ u∈X,u.1≠u.2∧bC l u.1 u.2=true):
  ∀ {U ex:List (Nat×Nat)},(∀ u∈U,u.1≠u.2)→(∀ u∈ex,u.1≠u.2∧bC l u.1 u.2=true)→AK P r T X os U ex=true→∃ ex':List (Nat×Nat),(∀ u∈ex',u.1≠u.2∧bC l u.1 u.2=true)∧∃ σ∈os,ys P r T ex' σ=true
 |[],ex,hU,hex,h=>by
  simp only [AK,Bool.or_eq_true] at h
  rcases h with h|h
  ·exact (qa hX hex h).elim
  obtain⟨σ,h1,h2⟩:=List.any_eq_true.1 h
  exact⟨ex,hex,σ,h1,h2⟩
 |(x,y)::U,ex,hU,hex,h=>by
  simp only [AK,Bool.or_eq_true,Bool.and_eq_true] at h
  rcases h with h|⟨ha,hb⟩
  ·exact (qa hX hex h).elim
  have hne:x≠y:=hU (x,y) (List.mem_cons_self ..)
  rcases ju hne (l:=l) with h3|h3
  ·refine lX hX (fun u hu=>hU u (List.mem_cons_of_mem _ hu)) (fun u hu=>?_) ha
   rcases List.mem_cons.1 hu with rfl|hu
   ·exact⟨hne,h3⟩
   exact hex u hu
  refine lX hX (fun u hu=>hU u (List.mem_cons_of_mem _ hu)) (fun u hu=>?_) hb
  rcases List.mem_cons.1 hu with rfl|hu
  ·exact⟨hne.symm,h3⟩
  exact hex u hu
def yR (P:Program) (r:Array Oper) (U X:List (Nat×Nat)) (os:List (List Nat)):Bool:=
 mB r && U.all (fun u=>u.1 != u.2) && X.all (fun u=>u.1 != u.2 && (xe r u.1 u.2 && decide (u.1 < r.size))) && os.all (fun σ=>σ.length == r.size && (List.range r.size).all σ.contains && σ.all fun i=>decide (i < r.size)) &&
 (let T:=zS r;AK P r T X os U [])
theorem AL {P:Program} {E:Entry} {id:Nat} {r:Array Oper} {U X:List (Nat×Nat)} {os:List (List Nat)} (hP:P.follows .mixedOrders=true) (hcov:yR P r U X os=true) {s:S} {K:S→Prop}
  (h:∀ σ∈os,∃ s',u_ P r σ s s'∧∀ β a w,Sim E β s' a w→∃ β' t,K t∧Sim E β' t a w):oe P E (.region id r true) s fun e s'=>e=.normal∧K s':=by
 intro β a w hs Q hQ
 refine wp_region_draw fun t=>?_
 simp only [Region.schedule,hP,Bool.true_or,if_true]
 simp only [yR,Bool.and_eq_true] at hcov
 obtain⟨⟨⟨⟨hback,hU⟩,hX⟩,hperm⟩,hch⟩:=hcov
 have hd:=kj (r:=r) r.size t (Array.replicate r.size false)
 have hXb:∀ v∈X,v.1≠v.2∧bC (Region.linearise .any r t) v.1 v.2=true:=by
  intro v hv
  have hx:=List.all_eq_true.1 hX v hv
  simp only [Bool.and_eq_true,bne_iff_ne,ne_eq,decide_eq_true_eq] at hx
  obtain⟨h1,h5,h6⟩:=hx
  refine⟨h1,?_⟩
  unfold xe at h5
  split at h5
  ·rename_i o ho
   obtain⟨e,he,he2⟩:=List.any_eq_true.1 h5
   simp only [Bool.and_eq_true,beq_iff_eq] at he2
   exact g0 hback hd ho he he2.1 he2.2 (by simp) (by simp [Array.getD_eq_getD_getElem?,h6])
  cases h5
 obtain⟨ex,hbef,σ,hσ,hok⟩:=lX hXb (fun u hu=>by
  have:=List.all_eq_true.1 hU u hu
  simpa using this) (fun u hu=>by cases hu) hch
 have hp:=List.all_eq_true.1 hperm σ hσ
 simp only [Bool.and_eq_true,beq_iff_eq,List.all_eq_true,List.mem_range,decide_eq_true_eq] at hp
 obtain⟨⟨hlen,hall⟩,hlt⟩:=hp
 obtain⟨s',hrun,hK⟩:=h σ hσ
 have hs2:Sim E β s a { w with drawn:=w.drawn+1 }:=⟨hs.dfr,hs.sl,⟨hs.hp.len,hs.hp.ob,hs.hp.flat,hs.hp.apart⟩,hs.ent,⟨hs.st.le,hs.st.os,hs.st.tape,hs.st.output,hs.st.size,hs.st.block,hs.st.len,hs.st.old,hs.st.fresh⟩⟩
 refine jv hback (fun β' a' w' hs'=>let⟨β2,t2,hk2,hs2⟩:=hK β' a' w' hs';hQ .normal t2 β2 a' w' ⟨rfl,hk2⟩ hs2) (Region.linearise .any r t) r.size _ σ s β a _ hd (by simp) (by omega) (fun i=>?_) (fun i o ho hl=>?_) hok (fun p q hpq _ _=>(hbef (p,q) (List.contains_iff_mem.1 hpq)).2) hrun hs2
 ·constructor
  ·intro hi
   refine⟨hlt i hi,?_⟩
   simp [Array.getD_eq_getD_getElem?,hlt i hi]
  rintro⟨hi,_⟩
  simpa using hall i hi
 exfalso
 simp only [Array.getD_eq_getD_getElem?,Array.getElem?_replicate] at hl
 split at hl<;>cases hl
theorem aI {P:Program} {E:Entry} {F:S→Prop} {id:Nat} {r:Array Oper} {C:Code} {k:List Item} {s:S} {c:Prop} (U X:List (Nat×Nat)) (os:List (List Nat)) (n0:Nat) (hE:E.h.length=n0) (mk:S→S) (hP:P.follows .mixedOrders=true) (hc:c) (hcov:yR P r U X os=true)
  (h:aQ (fun σ=>nC P r (fun s'=>∃ ρ,jg ρ n0 (mk s) s') (.go σ s True)) os) (ht:gW P E F (.go (.code C::k) (mk s) True)):gW P E F (.draw id r (.code C::k) s c):=by
 refine⟨hc,fS (AL hP hcov (K:=fun s'=>∃ ρ,jg ρ n0 (mk s) s') fun σ hσ=>let⟨s',h1,h2⟩:=(jf h σ hσ).2;⟨s',h1,fun β a w hs=>⟨β,s',h2,hs⟩⟩) fun e s' hk=>?_⟩
 obtain⟨rfl,ρ,hw⟩:=hk
 exact nF hE hw ht.2
end
section
open Go.RowKit
theorem dC (n:Int):ae Tryz.prog 151 [.sc (.int .i64 n)] [] (.sc (.int .i64 (aZ n))) []:=by
 refine qE Tryz.func151 Tryz.ntmps151 Tryz.results151 fun E hE=>?_
 refine qK (aO _ _ _) [] ?_
 refine qB (fun h1=>?_) fun h1=>?_
 ·refine qJ [] ?_
  simp [aZ,h1]
 refine qK (aO _ _ _) [] ?_
 refine qB (fun h2=>?_) fun h2=>?_
 ·refine qJ [] ?_
  simp [aZ,h1,h2]
 refine qJ [] ?_
 simp [aZ,h1,h2]
theorem dD (n:Int):ae Tryz.prog 58 [.sc (.int .i64 n)] [] (.sc (.int .i64 (aZ n))) []:=by
 refine qE Tryz.func58 Tryz.ntmps58 Tryz.results58 fun E hE=>?_
 refine qK (aM _ _ _) [] ?_
 refine qB (fun h1=>?_) fun h1=>?_
 ·have h1':=h1
  simp only [cr,Bool.and_eq_true,decide_eq_true_eq] at h1'
  have hd:n.tdiv 10=n / 10:=Int.tdiv_eq_ediv_of_nonneg (by omega)
  refine qJ [] ?_
  rw [aZ]
  by_cases h2:n≤19
  ·rw [if_pos (by simp [cr];omega)];omega
  rw [if_neg (by simp [cr];omega),if_pos (by simp [cr];omega)];omega
 have h1':=h1
 simp only [cr,Bool.and_eq_false_iff,decide_eq_false_iff_not] at h1'
 refine qJ [] ?_
 rw [aZ,if_neg (by simp [cr];omega),if_neg (by simp [cr];omega)]
theorem gB (e:EndD) (n:Int) (hl:e.own.length≤1048576):ae Tryz.prog 263 [.ag (e.cs 0),.sc (.int .i64 n)] (e.hp false) (.sc (.bo (gH e.own n))) (e.hp false):=by
 refine qE Tryz.func263 Tryz.ntmps263 Tryz.results263 fun E hE=>?_
 refine an 7 hE (fun s (k:Nat)=>s.at (qU [0,1,2,1,4,1,6,2,11,8]) [(10,.sc (.int .i64 (k:Nat)))] (s.hp)) (fun (k:Nat)=>k≤e.own.length∧(e.own.drop k).any (fun a=>a.addr == n)=gH e.own n) (fun (k:Nat)=>e.own.length - k) 0 (qI 0 8) (qC) (⟨Nat.zero_le _,rfl⟩) (af (by rfl) (by rfl) ?_) fun k hk N hN=>?_
 ·exact qY
 obtain⟨hk1,hk2⟩:=hk
 refine qR ?_
 refine qB (fun h=>?_) fun h=>?_
 ·rw [eB h] at hk2
  refine qX ?_
  refine qB (fun h2=>?_) fun h2=>?_
  ·have hp:(e.own[k].addr == n)=true:=by simp [h2]
   rw [hp] at hk2
   refine qJ (qI 0 7) ?_
   exact hk2
  have hp:(e.own[k].addr == n)=false:=by simp [h2]
  rw [hp] at hk2
  exact qN hN (k+1) (qI 0 8) (by (try dsimp only);exact⟨by omega,hk2⟩)
 rw [d7 (by omega)] at hk2
 refine qJ (qI 0 7) ?_
 exact hk2
theorem eH (l:List Int) (n:Int) (hl:l.length≤1048576):ae Tryz.prog 242 [.sc (.sl 0 0 l.length),.sc (.int .i64 n)] [some ⟨l.map aC,1,3,false,true⟩] (.sc (.bo (lY l n))) [some ⟨l.map aC,1,3,false,true⟩]:=by
 refine qE Tryz.func242 Tryz.ntmps242 Tryz.results242 fun E hE=>?_
 refine an 1 hE (fun s (k:Nat)=>s.at (qU [0,1,4,1,6,1,10,7]) [(9,.sc (.int .i64 (k:Nat)))] (s.hp)) (fun (k:Nat)=>k≤l.length∧(l.drop k).any (fun a=>a == n)=lY l n) (fun (k:Nat)=>l.length - k) 0 (qI 0 1) (qC) (⟨Nat.zero_le _,rfl⟩) (af (by rfl) (by rfl) ?_) fun k hk N hN=>?_
 ·exact qY
 obtain⟨hk1,hk2⟩:=hk
 refine qR ?_
 refine qB (fun h=>?_) fun h=>?_
 ·rw [eB h] at hk2
  refine qX ?_
  refine qB (fun h2=>?_) fun h2=>?_
  ·have hp:(l[k] == n)=true:=by simp [h2]
   rw [hp] at hk2
   refine qJ (qI 0 1) ?_
   exact hk2
  have hp:(l[k] == n)=false:=by simp [h2]
  rw [hp] at hk2
  exact qN hN (k+1) (qI 0 1) (by (try dsimp only);exact⟨by omega,hk2⟩)
 rw [d7 (by omega)] at hk2
 refine qJ (qI 0 1) ?_
 exact hk2
theorem gC (e:EndD) (n:Int) (hl:e.own.length≤1048576):ae Tryz.prog 254 [.ag (e.cs 0),.sc (.int .i64 n)] (e.hp false) (.sc (.bo (gH e.own n))) (e.hp false):=by
 refine qE Tryz.func254 Tryz.ntmps254 Tryz.results254 fun E hE=>?_
 refine an 7 hE (fun s (k:Nat)=>s.at (qU [0,1,4,1,6,15]) [(5,.sc (.int .i64 (k:Nat)))] (s.hp)) (fun (k:Nat)=>k≤e.own.length∧(e.own.drop k).any (fun a=>a.addr == n)=gH e.own n) (fun (k:Nat)=>e.own.length - k) 0 (qI 0 8) (qC) (⟨Nat.zero_le _,rfl⟩) (af (by rfl) (by rfl) ?_) fun k hk N hN=>?_
 ·exact qY
 obtain⟨hk1,hk2⟩:=hk
 refine qR ?_
 refine qB (fun h=>?_) fun h=>?_
 ·rw [eB h] at hk2
  refine qX ?_
  refine qB (fun h2=>?_) fun h2=>?_
  ·have hp:(e.own[k].addr == n)=true:=by simp [h2]
   rw [hp] at hk2
   refine qJ (qI 0 7) ?_
   exact hk2
  have hp:(e.own[k].addr == n)=false:=by simp [h2]
  rw [hp] at hk2
  exact qN hN (k+1) (qI 0 8) (by (try dsimp only);exact⟨by omega,hk2⟩)
 rw [d7 (by omega)] at hk2
 refine qJ (qI 0 7) ?_
 exact hk2
theorem fF (l:List Int) (n:Int) (hl:l.length≤1048576):ae Tryz.prog 127 [.sc (.sl 0 0 l.length),.sc (.int .i64 n)] [some ⟨l.map aC,1,3,false,true⟩] (.sc (.bo (lY l n))) [some ⟨l.map aC,1,3,false,true⟩]:=by
 refine qE Tryz.func127 Tryz.ntmps127 Tryz.results127 fun E hE=>?_
 refine an 1 hE (fun s (k:Nat)=>s.at (qU [4,1,6,12]) [(5,.sc (.int .i64 (k:Nat)))] (s.hp)) (fun (k:Nat)=>k≤l.length∧(l.drop k).any (fun a=>a == n)=lY l n) (fun (k:Nat)=>l.length - k) 0 (qI 0 1) (qC) (⟨Nat.zero_le _,rfl⟩) (af (by rfl) (by rfl) ?_) fun k hk N hN=>?_
 ·exact qY
 obtain⟨hk1,hk2⟩:=hk
 refine qR ?_
 refine qB (fun h=>?_) fun h=>?_
 ·rw [eB h] at hk2
  refine qX ?_
  refine qB (fun h2=>?_) fun h2=>?_
  ·have hp:(l[k] == n)=true:=by simp [h2]
   rw [hp] at hk2
   refine qJ (qI 0 1) ?_
   exact hk2
  have hp:(l[k] == n)=false:=by simp [h2]
  rw [hp] at hk2
  exact qN hN (k+1) (qI 0 1) (by (try dsimp only);exact⟨by omega,hk2⟩)
 rw [d7 (by omega)] at hk2
 refine qJ (qI 0 1) ?_
 exact hk2
end
section
open Go.RowKit
theorem bt (x:LetterD):ae Tryz.prog 249 [.ag x.cs] [] (.sc (.bo (eb x))) []:=by
 refine qE Tryz.func249 Tryz.ntmps249 Tryz.results249 fun E hE=>?_
 refine qK (aO _ _ _) [] ?_
 refine qB (fun h1=>?_) fun h1=>?_
 ·refine qK (cu (jw x) (by show 16≤1000000;omega)) (qI 2 1) ?_
  refine qB (fun h2=>?_) fun h2=>?_
  ·refine qJ [] ?_
   simp [eb,h1,h2]
   omega
  refine qJ [] ?_
  simp [eb,h1,h2]
 refine qJ [] ?_
 simp [eb,h1]
theorem cL (x:LetterD):ae Tryz.prog 125 [.ag x.cs] [] (.sc (.bo (eb x))) []:=by
 refine qE Tryz.func125 Tryz.ntmps125 Tryz.results125 fun E hE=>?_
 refine qK (aM _ _ _) [] ?_
 refine qB (fun h1=>?_) fun h1=>?_
 ·refine qB (fun h2=>?_) fun h2=>?_
  ·refine qJ [] ?_
   simp [eb]
   omega
  have hlen:(jw x).length=16:=rfl
  refine an 0 hE (fun s (k:Nat)=>s.at (qU [0,3,5,60]) [(4,.sc (.int .i64 (k:Nat))),(3,.sc (.sl 0 0 16))] ([some ⟨(jw x).map aC,1,3,true,true⟩])) (fun (k:Nat)=>k≤16∧(jw x).all iQ=((jw x).drop k).all iQ) (fun (k:Nat)=>16 - k) 0 (qI 1 1) (qC) (⟨Nat.zero_le _,rfl⟩) (af (by rfl) (by rfl) ?_) fun k hk N hN=>?_
  ·refine qX ?_
   rfl
  obtain⟨hk1,hk2⟩:=hk
  refine qR ?_
  refine qB (fun h=>?_) fun h=>?_
  ·have h':k < (jw x).length:=by omega
   rw [List.drop_eq_getElem_cons h',List.all_cons] at hk2
   refine qK (aP _) [] ?_
   refine qB (fun h3=>?_) fun h3=>?_
   ·refine qJ [] ?_
    rw [eb,hk2,h3]
    simp
   rw [h3,Bool.true_and] at hk2
   exact qN hN (k+1) (qI 0 1) (by (try dsimp only);exact⟨by omega,hk2⟩)
  refine qJ [] ?_
  rw [List.drop_eq_nil_of_le (by omega)] at hk2
  simp [eb,h1,hk2]
  omega
 refine qJ [] ?_
 simp [eb,h1]
end
section
open Go.RowKit
theorem bf (e:EndD) (h0:e.own.length≤1048576) (h1:e.far.length≤1048576) (h2:e.subs.length≤1048576) (h3:e.halfs.length≤1048576) (h4:e.inp.list.length≤1048576) (h5:e.done.length≤1048576) (h6:e.over.length≤1048576):ae Tryz.prog 80 [.ag (e.cs 0)] (e.hp false) (.sc (.bo (aj e))) (e.hp false):=by
 refine qE Tryz.func80 Tryz.ntmps80 Tryz.results80 fun E hE=>?_
 refine qK (aO _ _ _) [] ?_
 refine qB (fun g1=>?_) fun g1=>?_
 ·skip
  refine qK (aO _ _ _) [] ?_
  refine qB (fun g2=>?_) fun g2=>?_
  ·skip
   refine qK (lw e.policy) [] ?_
   refine qB (fun g3=>?_) fun g3=>?_
   ·skip
    refine qK (jz e.own (by omega)) (qI 0 1) ?_
    refine qB (fun g4=>?_) fun g4=>?_
    ·skip
     refine qK (jz e.far (by omega)) (qI 1 1) ?_
     refine qB (fun g5=>?_) fun g5=>?_
     ·skip
      refine qK (mJ e.halfs h3) (qI 3 1) ?_
      refine qB (fun g6=>?_) fun g6=>?_
      ·skip
       refine qK (i_ e.bucket) [] ?_
       refine qB (fun g7=>?_) fun g7=>?_
       ·skip
        refine qK (iv e.out) [] ?_
        refine qB (fun g8=>?_) fun g8=>?_
        ·skip
         refine qK (bY e.inp h4) (qI 4 1) ?_
         refine qB (fun g9=>?_) fun g9=>?_
         ·skip
          have hr:aj e=false:=by first|(simp [aj,g9];done)|(simp [aj];intros;omega)
          rw [hr]
          exact qF (qI 0 7)
         skip
         refine qX ?_
         refine qK (oD e.done e.own h5 h0) (qI 5 1++qI 0 1) ?_
         refine qB (fun g10=>?_) fun g10=>?_
         ·skip
          refine qK (oD e.over e.far h6 h1) (qI 6 1++qI 1 1) ?_
          refine qB (fun g11=>?_) fun g11=>?_
          ·skip
           refine qB (fun g12=>?_) fun g12=>?_
           ·skip
            refine qK (cu [e.key,e.peer,e.draw,e.now,e.pick] (by simp)) (qI 8 1) ?_
            generalize hq:[e.key,e.peer,e.draw,e.now,e.pick].all iQ=q
            refine qB (fun g13=>?_) fun g13=>?_
            ·skip
             have hr:aj e=false:=by first|(simp [aj,hq,g13];done)|(simp [aj];intros;omega)
             rw [hr]
             exact qF (qI 0 7)
            skip
            refine qX ?_
            refine an 7 hE (fun s (k:Nat)=>s.at (qU [0,1,2,91,96,41]) [(95,.sc (.int .i64 (k:Nat)))] (s.hp)) (fun (k:Nat)=>k≤e.subs.length∧∀ j,j < k→cH e.subs j=true) (fun (k:Nat)=>e.subs.length - k) 0 (qI 0 9) (qC) (⟨Nat.zero_le _,fun j hj=>absurd hj (Nat.not_lt_zero _)⟩) (af (by rfl) (by rfl) ?_) fun k hk N hN=>?_
            ·exact qY
            obtain⟨hk1,hk2⟩:=hk
            refine qR ?_
            refine qB (fun h=>?_) fun h=>?_
            ·have hA:=ii h
             refine qX ?_
             refine qK (aO _ _ _) [] ?_
             refine qB (fun s1=>?_) fun s1=>?_
             ·skip
              refine qK (fW e.subs[k].road) [] ?_
              refine qB (fun s2=>?_) fun s2=>?_
              ·skip
               refine qK (cu [e.subs[k].mine,e.subs[k].theirs,e.subs[k].give,e.subs[k].take,e.subs[k].tries] (by simp)) (qI 10 1) ?_
               generalize hsq:[e.subs[k].mine,e.subs[k].theirs,e.subs[k].give,e.subs[k].take,e.subs[k].tries].all iQ=sq
               refine qB (fun s3=>?_) fun s3=>?_
               ·skip
                have hb:cH e.subs k=false:=by simp [cH,hA,hsq,s3]
                have hu:=au h hb
                have hr:aj e=false:=by simp [aj,hu]
                rw [hr]
                exact qF (qI 0 7)
               skip
               refine qX ?_
               refine qB (fun s4=>?_) fun s4=>?_
               ·refine qK (eI e e.subs[k].road h2) (qI 0 7) ?_
                refine qB (fun s5=>?_) fun s5=>?_
                ·skip
                 have hb:cH e.subs k=false:=by simp [cH,hA,s1,s2,hsq,s3,s4,s5]
                 have hu:=au h hb
                 have hr:aj e=false:=by simp [aj,hu]
                 rw [hr]
                 exact qF (qI 0 7)
                skip
                have hg:cH e.subs k=true:=by first|(simp [cH,hA,s1,s2,hsq,s3,s4,s5];done)|(simp [cH,hA,s1,s2,hsq,s3,s4,s5];decide)
                exact qN hN (k+1) (qI 0 9) (by (try dsimp only);exact⟨by omega,cW hk2 hg⟩)
               skip
               have hg:cH e.subs k=true:=by first|(simp [cH,hA,s1,s2,hsq,s3,s4];done)|(simp [cH,hA,s1,s2,hsq,s3,s4];decide)
               exact qN hN (k+1) (qI 0 9) (by (try dsimp only);exact⟨by omega,cW hk2 hg⟩)
              skip
              have hb:cH e.subs k=false:=by simp [cH,hA,s2]
              have hu:=au h hb
              have hr:aj e=false:=by simp [aj,hu]
              rw [hr]
              exact qF (qI 0 7)
             skip
             have hb:cH e.subs k=false:=by simp [cH,hA,s1]
             have hu:=au h hb
             have hr:aj e=false:=by simp [aj,hu]
             rw [hr]
             exact qF (qI 0 7)
            have ek:k=e.subs.length:=by omega
            subst ek
            have hu:=dR hk2
            have g12':(e.subs.length:Int)≤8:=by omega
            have hr:aj e=true:=by simp [aj,g1,g2,g3,g4,g5,g6,g7,g8,g9,g10,g11,g12',hq,g13,hu]
            rw [hr]
            exact qF (qI 0 7)
           skip
           have hr:aj e=false:=by first|(simp [aj,g12];done)|(simp [aj];intros;omega)
           rw [hr]
           exact qF (qI 0 7)
          skip
          have hr:aj e=false:=by first|(simp [aj,g11];done)|(simp [aj];intros;omega)
          rw [hr]
          exact qF (qI 0 7)
         skip
         have hr:aj e=false:=by first|(simp [aj,g10];done)|(simp [aj];intros;omega)
         rw [hr]
         exact qF (qI 0 7)
        skip
        have hr:aj e=false:=by first|(simp [aj,g8];done)|(simp [aj];intros;omega)
        rw [hr]
        exact qF (qI 0 7)
       skip
       have hr:aj e=false:=by first|(simp [aj,g7];done)|(simp [aj];intros;omega)
       rw [hr]
       exact qF (qI 0 7)
      skip
      have hr:aj e=false:=by first|(simp [aj,g6];done)|(simp [aj];intros;omega)
      rw [hr]
      exact qF (qI 0 7)
     skip
     have hr:aj e=false:=by first|(simp [aj,g5];done)|(simp [aj];intros;omega)
     rw [hr]
     exact qF (qI 0 7)
    skip
    have hr:aj e=false:=by first|(simp [aj,g4];done)|(simp [aj];intros;omega)
    rw [hr]
    exact qF (qI 0 7)
   skip
   have hr:aj e=false:=by first|(simp [aj,g3];done)|(simp [aj];intros;omega)
   rw [hr]
   exact qF (qI 0 7)
  skip
  have hr:aj e=false:=by first|(simp [aj,g2];done)|(simp [aj];intros;omega)
  rw [hr]
  exact qF (qI 0 7)
 skip
 have hr:aj e=false:=by first|(simp [aj,g1];done)|(simp [aj];intros;omega)
 rw [hr]
 exact qF (qI 0 7)
theorem be (e:EndD) (h0:e.own.length≤1048576) (h1:e.far.length≤1048576) (h2:e.subs.length≤1048576) (h3:e.halfs.length≤1048576) (h4:e.inp.list.length≤1048576) (h5:e.done.length≤1048576) (h6:e.over.length≤1048576):ae Tryz.prog 73 [.ag (e.cs 0)] (e.hp false) (.sc (.bo (aj e))) (e.hp false):=by
 refine qE Tryz.func73 Tryz.ntmps73 Tryz.results73 fun E hE=>?_
 refine qK (aM _ _ _) [] ?_
 refine qB (fun g1=>?_) fun g1=>?_
 ·skip
  refine qK (aM _ _ _) [] ?_
  refine qB (fun g2=>?_) fun g2=>?_
  ·skip
   refine qK (lx e.policy) [] ?_
   refine qB (fun g3=>?_) fun g3=>?_
   ·skip
    refine qK (jA e.own (by omega)) (qI 0 1) ?_
    refine qB (fun g4=>?_) fun g4=>?_
    ·skip
     refine qK (jA e.far (by omega)) (qI 1 1) ?_
     refine qB (fun g5=>?_) fun g5=>?_
     ·skip
      refine qK (mK e.halfs h3) (qI 3 1) ?_
      refine qB (fun g6=>?_) fun g6=>?_
      ·skip
       refine qK (ja e.bucket) [] ?_
       refine qB (fun g7=>?_) fun g7=>?_
       ·skip
        refine qK (iw e.out) [] ?_
        refine qB (fun g8=>?_) fun g8=>?_
        ·skip
         refine qK (bZ e.inp h4) (qI 4 1) ?_
         refine qB (fun g9=>?_) fun g9=>?_
         ·skip
          refine qB (fun g12=>?_) fun g12=>?_
          ·skip
           have hr:aj e=false:=by first|(simp [aj,g12];done)|(simp [aj];intros;omega)
           rw [hr]
           exact qF (qI 0 7)
          skip
          refine qX ?_
          refine an 7 hE (fun s (k:Nat)=>s.at (qU [0,1,2,1,4,122]) [(3,.sc (.int .i64 (k:Nat)))] (s.hp)) (fun (k:Nat)=>k≤e.subs.length∧∀ j,j < k→cH e.subs j=true) (fun (k:Nat)=>e.subs.length - k) 0 (qI 0 8) (qC) (⟨Nat.zero_le _,fun j hj=>absurd hj (Nat.not_lt_zero _)⟩) (af (by rfl) (by rfl) ?_) fun k hk N hN=>?_
          ·exact qY
          obtain⟨hk1,hk2⟩:=hk
          refine qR ?_
          refine qB (fun h=>?_) fun h=>?_
          ·have hA:=ii h
           refine qX ?_
           refine qB (fun s4=>?_) fun s4=>?_
           ·refine qK (eJ e e.subs[k].road h2) (qI 0 7) ?_
            refine qB (fun s5=>?_) fun s5=>?_
            ·skip
             have hb:cH e.subs k=false:=by simp [cH,hA,s4,s5]
             have hu:=au h hb
             have hr:aj e=false:=by simp [aj,hu]
             rw [hr]
             exact qF (qI 0 7)
            refine qX ?_
            refine qK (aM _ _ _) [] ?_
            refine qB (fun s1=>?_) fun s1=>?_
            ·skip
             refine qK (g_ e.subs[k].road) [] ?_
             refine qB (fun s2=>?_) fun s2=>?_
             ·skip
              refine qK (aP e.subs[k].mine) [] ?_
              refine qB (fun s30=>?_) fun s30=>?_
              ·skip
               refine qK (aP e.subs[k].theirs) [] ?_
               refine qB (fun s31=>?_) fun s31=>?_
               ·skip
                refine qK (aP e.subs[k].give) [] ?_
                refine qB (fun s32=>?_) fun s32=>?_
                ·skip
                 refine qK (aP e.subs[k].take) [] ?_
                 refine qB (fun s33=>?_) fun s33=>?_
                 ·skip
                  refine qK (aP e.subs[k].tries) [] ?_
                  refine qB (fun s34=>?_) fun s34=>?_
                  ·skip
                   have hb:cH e.subs k=false:=by simp [cH,hA,s34]
                   have hu:=au h hb
                   have hr:aj e=false:=by simp [aj,hu]
                   rw [hr]
                   exact qF (qI 0 7)
                  skip
                  have hg:cH e.subs k=true:=by first|(simp [cH,hA,s1,s2,s30,s31,s32,s33,s34,s4,s5];done)|(simp [cH,hA,s1,s2,s30,s31,s32,s33,s34,s4,s5];decide)
                  exact qN hN (k+1) (qI 0 8) (by (try dsimp only);exact⟨by omega,cW hk2 hg⟩)
                 skip
                 have hb:cH e.subs k=false:=by simp [cH,hA,s33]
                 have hu:=au h hb
                 have hr:aj e=false:=by simp [aj,hu]
                 rw [hr]
                 exact qF (qI 0 7)
                skip
                have hb:cH e.subs k=false:=by simp [cH,hA,s32]
                have hu:=au h hb
                have hr:aj e=false:=by simp [aj,hu]
                rw [hr]
                exact qF (qI 0 7)
               skip
               have hb:cH e.subs k=false:=by simp [cH,hA,s31]
               have hu:=au h hb
               have hr:aj e=false:=by simp [aj,hu]
               rw [hr]
               exact qF (qI 0 7)
              skip
              have hb:cH e.subs k=false:=by simp [cH,hA,s30]
              have hu:=au h hb
              have hr:aj e=false:=by simp [aj,hu]
              rw [hr]
              exact qF (qI 0 7)
             skip
             have hb:cH e.subs k=false:=by simp [cH,hA,s2]
             have hu:=au h hb
             have hr:aj e=false:=by simp [aj,hu]
             rw [hr]
             exact qF (qI 0 7)
            skip
            have hb:cH e.subs k=false:=by simp [cH,hA,s1]
            have hu:=au h hb
            have hr:aj e=false:=by simp [aj,hu]
            rw [hr]
            exact qF (qI 0 7)
           refine qX ?_
           refine qK (aM _ _ _) [] ?_
           refine qB (fun s1=>?_) fun s1=>?_
           ·skip
            refine qK (g_ e.subs[k].road) [] ?_
            refine qB (fun s2=>?_) fun s2=>?_
            ·skip
             refine qK (aP e.subs[k].mine) [] ?_
             refine qB (fun s30=>?_) fun s30=>?_
             ·skip
              refine qK (aP e.subs[k].theirs) [] ?_
              refine qB (fun s31=>?_) fun s31=>?_
              ·skip
               refine qK (aP e.subs[k].give) [] ?_
               refine qB (fun s32=>?_) fun s32=>?_
               ·skip
                refine qK (aP e.subs[k].take) [] ?_
                refine qB (fun s33=>?_) fun s33=>?_
                ·skip
                 refine qK (aP e.subs[k].tries) [] ?_
                 refine qB (fun s34=>?_) fun s34=>?_
                 ·skip
                  have hb:cH e.subs k=false:=by simp [cH,hA,s34]
                  have hu:=au h hb
                  have hr:aj e=false:=by simp [aj,hu]
                  rw [hr]
                  exact qF (qI 0 7)
                 skip
                 have hg:cH e.subs k=true:=by first|(simp [cH,hA,s1,s2,s30,s31,s32,s33,s34,s4];done)|(simp [cH,hA,s1,s2,s30,s31,s32,s33,s34,s4];decide)
                 exact qN hN (k+1) (qI 0 8) (by (try dsimp only);exact⟨by omega,cW hk2 hg⟩)
                skip
                have hb:cH e.subs k=false:=by simp [cH,hA,s33]
                have hu:=au h hb
                have hr:aj e=false:=by simp [aj,hu]
                rw [hr]
                exact qF (qI 0 7)
               skip
               have hb:cH e.subs k=false:=by simp [cH,hA,s32]
               have hu:=au h hb
               have hr:aj e=false:=by simp [aj,hu]
               rw [hr]
               exact qF (qI 0 7)
              skip
              have hb:cH e.subs k=false:=by simp [cH,hA,s31]
              have hu:=au h hb
              have hr:aj e=false:=by simp [aj,hu]
              rw [hr]
              exact qF (qI 0 7)
             skip
             have hb:cH e.subs k=false:=by simp [cH,hA,s30]
             have hu:=au h hb
             have hr:aj e=false:=by simp [aj,hu]
             rw [hr]
             exact qF (qI 0 7)
            skip
            have hb:cH e.subs k=false:=by simp [cH,hA,s2]
            have hu:=au h hb
            have hr:aj e=false:=by simp [aj,hu]
            rw [hr]
            exact qF (qI 0 7)
           skip
           have hb:cH e.subs k=false:=by simp [cH,hA,s1]
           have hu:=au h hb
           have hr:aj e=false:=by simp [aj,hu]
           rw [hr]
           exact qF (qI 0 7)
          have ek:k=e.subs.length:=by omega
          subst ek
          have hu:=dR hk2
          have g12':(e.subs.length:Int)≤8:=by omega
          refine qX ?_
          refine qK (oE e.done e.own h5 h0) (qI 5 1++qI 0 1) ?_
          refine qB (fun g10=>?_) fun g10=>?_
          ·skip
           refine qK (oE e.over e.far h6 h1) (qI 6 1++qI 1 1) ?_
           refine qB (fun g11=>?_) fun g11=>?_
           ·skip
            have hr:aj e=false:=by first|(simp [aj,g11];done)|(simp [aj];intros;omega)
            rw [hr]
            exact qF (qI 0 7)
           skip
           refine qX ?_
           refine qK (aP e.key) [] ?_
           refine qB (fun n0=>?_) fun n0=>?_
           ·skip
            refine qK (aP e.peer) [] ?_
            refine qB (fun n1=>?_) fun n1=>?_
            ·skip
             refine qK (aP e.draw) [] ?_
             refine qB (fun n2=>?_) fun n2=>?_
             ·skip
              refine qK (aP e.now) [] ?_
              refine qB (fun n3=>?_) fun n3=>?_
              ·skip
               refine qK (aP e.pick) [] ?_
               refine qJ (qI 0 7) ?_
               simp [aj,g1,g2,g3,g4,g5,g6,g7,g8,g9,g10,g11,g12',hu,n0,n1,n2,n3]
              skip
              have hr:aj e=false:=by first|(simp [aj,n3];done)|(simp [aj];intros;omega)
              rw [hr]
              exact qF (qI 0 7)
             skip
             have hr:aj e=false:=by first|(simp [aj,n2];done)|(simp [aj];intros;omega)
             rw [hr]
             exact qF (qI 0 7)
            skip
            have hr:aj e=false:=by first|(simp [aj,n1];done)|(simp [aj];intros;omega)
            rw [hr]
            exact qF (qI 0 7)
           skip
           have hr:aj e=false:=by first|(simp [aj,n0];done)|(simp [aj];intros;omega)
           rw [hr]
           exact qF (qI 0 7)
          skip
          have hr:aj e=false:=by first|(simp [aj,g10];done)|(simp [aj];intros;omega)
          rw [hr]
          exact qF (qI 0 7)
         skip
         have hr:aj e=false:=by first|(simp [aj,g9];done)|(simp [aj];intros;omega)
         rw [hr]
         exact qF (qI 0 7)
        skip
        have hr:aj e=false:=by first|(simp [aj,g8];done)|(simp [aj];intros;omega)
        rw [hr]
        exact qF (qI 0 7)
       skip
       have hr:aj e=false:=by first|(simp [aj,g7];done)|(simp [aj];intros;omega)
       rw [hr]
       exact qF (qI 0 7)
      skip
      have hr:aj e=false:=by first|(simp [aj,g6];done)|(simp [aj];intros;omega)
      rw [hr]
      exact qF (qI 0 7)
     skip
     have hr:aj e=false:=by first|(simp [aj,g5];done)|(simp [aj];intros;omega)
     rw [hr]
     exact qF (qI 0 7)
    skip
    have hr:aj e=false:=by first|(simp [aj,g4];done)|(simp [aj];intros;omega)
    rw [hr]
    exact qF (qI 0 7)
   skip
   have hr:aj e=false:=by first|(simp [aj,g3];done)|(simp [aj];intros;omega)
   rw [hr]
   exact qF (qI 0 7)
  skip
  have hr:aj e=false:=by first|(simp [aj,g2];done)|(simp [aj];intros;omega)
  rw [hr]
  exact qF (qI 0 7)
 skip
 have hr:aj e=false:=by first|(simp [aj,g1];done)|(simp [aj];intros;omega)
 rw [hr]
 exact qF (qI 0 7)
end
section
open Go.RowKit
def pu:EndD:=⟨0,0,0,0,⟨0,0⟩,[],[],[],[],⟨0,0,0⟩,⟨[],0,0,0⟩,⟨0,[],[]⟩,[],[],0,0,0⟩
def cG (w:WorldD) (side:Int):EndD:=if side=1 then w.a else if side=2 then w.b else pu
theorem b_ (l:List AddrD) (hl:l.length≤1048576):ae Tryz.prog 224 [.sc (.sl 0 0 l.length)] [some ⟨l.map AddrD.cs,4,88,false,true⟩] (.sc (.sl 1 0 l.length)) [some ⟨l.map AddrD.cs,4,88,false,true⟩,some ⟨l.map AddrD.cs,4,88,true,true⟩]:=by
 refine qE Tryz.func224 Tryz.ntmps224 Tryz.results224 fun E hE=>?_
 exact qF (qI 0 1++qI 2 1)
theorem dS (l:List HalfD) (hl:l.length≤1048576):ae Tryz.prog 225 [.sc (.sl 0 0 l.length)] [some ⟨l.map HalfD.cs,8,213,false,true⟩] (.sc (.sl 1 0 l.length)) [some ⟨l.map HalfD.cs,8,213,false,true⟩,some ⟨l.map HalfD.cs,8,213,true,true⟩]:=by
 refine qE Tryz.func225 Tryz.ntmps225 Tryz.results225 fun E hE=>?_
 exact qF (qI 0 1++qI 2 1)
theorem cv (l:List Int) (hl:l.length≤1048576):ae Tryz.prog 143 [.sc (.sl 0 0 l.length)] [some ⟨l.map aC,1,3,false,true⟩] (.sc (.sl 1 0 l.length)) [some ⟨l.map aC,1,3,false,true⟩,some ⟨l.map aC,1,3,true,true⟩]:=by
 refine qE Tryz.func143 Tryz.ntmps143 Tryz.results143 fun E hE=>?_
 exact qF (qI 0 1++qI 2 1)
theorem ay (p:PiecesD) (hl:p.list.length≤1048576):ae Tryz.prog 226 [.ag (p.cs 0)] (p.hp false) (.ag (p.cs 1)) (p.hp false++p.hp true):=by
 refine qE Tryz.func226 Tryz.ntmps226 Tryz.results226 fun E hE=>?_
 exact qF (qI 0 1++qI 4 1)
theorem jD (p:PiecesD) (hl:p.list.length≤1048576):ae Tryz.prog 199 [.ag (p.cs 0)] (p.hp false) (.ag (p.cs 1)) (p.hp false++p.hp true):=by
 refine qE Tryz.func199 Tryz.ntmps199 Tryz.results199 fun E hE=>?_
 refine an 1 hE (fun s (x:Nat×List PieceD)=>s.at (qU [0,1,5,16]) [(4,.sc (.int .i64 (x.1:Nat))),(3,.sc (.sl 3 0 x.2.length))] (p.hp false++[some ⟨[p.cs 0],3,42,true,false⟩,some ⟨[[.int .i64 0,.st [],.nil]],3,42,true,false⟩,some ⟨x.2.map PieceD.cs,2,256,true,true⟩])) (fun (x:Nat×List PieceD)=>x.1≤p.list.length∧x.2=p.list.take x.1) (fun (x:Nat×List PieceD)=>p.list.length - x.1) (0,[]) (qI 0 4) (qC) (⟨Nat.zero_le _,rfl⟩) (af (by rfl) (by rfl) ?_) fun x hx N hN=>?_
 ·try simp (disch:=omega) only [go_sem,seval]
  try rfl
 obtain⟨k,acc⟩:=x
 obtain⟨hk1,hk2⟩:=hx
 dsimp only at hk1 hk2
 have ha:acc.length=k:=by rw [hk2,List.length_take];omega
 refine qR ?_
 refine qB (fun h=>?_) fun h=>?_
 ·refine qX ?_
  refine⟨qC,hN _ (k+1,acc++[p.list[k]]) (qI 0 3++qI 5 1) (by (try dsimp only);exact⟨by omega,by rw [hk2,List.take_succ_eq_append_getElem h]⟩) (by (try dsimp only);omega) (af (by rfl) (by rfl) ?_)⟩
  try simp (disch:=omega) only [go_sem,seval]
  try simp [PieceD.cs]
 have ek:k=p.list.length:=by omega
 rw [ek,List.take_length] at hk2
 subst hk2
 refine qX ?_
 exact qF (qI 0 1++qI 3 1)
theorem aK (e:EndD) (h0:e.own.length≤1048576) (h1:e.far.length≤1048576) (h2:e.subs.length≤1048576) (h3:e.halfs.length≤1048576) (h4:e.inp.list.length≤1048576) (h5:e.done.length≤1048576) (h6:e.over.length≤1048576):ae Tryz.prog 140 [.ag (e.cs 0)] (e.hp false) (.ag (e.cs 7)) (e.hp false++e.hp true):=by
 refine qE Tryz.func140 Tryz.ntmps140 Tryz.results140 fun E hE=>?_
 refine qK (b_ e.own h0) (qI 0 1) ?_
 refine qK (b_ e.far h1) (qI 1 1) ?_
 refine qK (dS e.halfs h3) (qI 3 1) ?_
 refine qK (ay e.inp h4) (qI 4 1) ?_
 refine qK (cv e.done h5) (qI 5 1) ?_
 refine qK (cv e.over h6) (qI 6 1) ?_
 exact qF (qI 0 7++qI 9 2++qI 12 5)
theorem aD (e:EndD) (h0:e.own.length≤1048576) (h1:e.far.length≤1048576) (h2:e.subs.length≤1048576) (h3:e.halfs.length≤1048576) (h4:e.inp.list.length≤1048576) (h5:e.done.length≤1048576) (h6:e.over.length≤1048576):ae Tryz.prog 111 [.ag (e.cs 0)] (e.hp false) (.ag (e.cs 7)) (e.hp false++e.hp true):=by
 refine qE Tryz.func111 Tryz.ntmps111 Tryz.results111 fun E hE=>?_
 refine qK (jD e.inp h4) (qI 4 1) ?_
 exact qF (qI 0 7++qI 14 1++qI 16 1++qI 18 1++qI 20 2++qI 10 1++qI 12 1)
theorem bF (w:WorldD) (side:Int) (a0:w.a.own.length≤1048576) (a1:w.a.far.length≤1048576) (a2:w.a.subs.length≤1048576) (a3:w.a.halfs.length≤1048576) (a4:w.a.inp.list.length≤1048576) (a5:w.a.done.length≤1048576) (a6:w.a.over.length≤1048576) (b0:w.b.own.length≤1048576) (b1:w.b.far.length≤1048576) (b2:w.b.subs.length≤1048576) (b3:w.b.halfs.length≤1048576) (b4:w.b.inp.list.length≤1048576) (b5:w.b.done.length≤1048576) (b6:w.b.over.length≤1048576):ae Tryz.prog 144 [.ag (w.cs 0),.sc (.int .i64 side)] (w.hp false) (.ag ((cG w side).cs 21)) (w.hp false++(cG w side).hp true):=by
 obtain⟨e,he⟩:∃ e,e=cG w side:=⟨_,rfl⟩
 rw [←he]
 rw [cG] at he
 refine qE Tryz.func144 Tryz.ntmps144 Tryz.results144 fun E hE=>?_
 refine qB (fun h1=>?_) fun h1=>?_
 ·rw [if_pos h1] at he
  subst he
  refine qK (aK w.a a0 a1 a2 a3 a4 a5 a6) (qI 0 7) ?_
  exact qF (qI 0 21++qI 23 7)
 rw [if_neg h1] at he
 refine qB (fun h2=>?_) fun h2=>?_
 ·rw [if_pos h2] at he
  subst he
  refine qK (aK w.b b0 b1 b2 b3 b4 b5 b6) (qI 7 7) ?_
  exact qF (qI 0 21++qI 23 7)
 rw [if_neg h2] at he
 subst he
 refine ah (qI 0 21++qO 7) (qC) _ (by simp only [go_sem];rfl) (by rfl) (by rfl) ?_
 simp (disch:=omega) only [go_sem,seval]
 try simp [pu]
theorem bG (w:WorldD) (side:Int) (a0:w.a.own.length≤1048576) (a1:w.a.far.length≤1048576) (a2:w.a.subs.length≤1048576) (a3:w.a.halfs.length≤1048576) (a4:w.a.inp.list.length≤1048576) (a5:w.a.done.length≤1048576) (a6:w.a.over.length≤1048576) (b0:w.b.own.length≤1048576) (b1:w.b.far.length≤1048576) (b2:w.b.subs.length≤1048576) (b3:w.b.halfs.length≤1048576) (b4:w.b.inp.list.length≤1048576) (b5:w.b.done.length≤1048576) (b6:w.b.over.length≤1048576):ae Tryz.prog 113 [.ag (w.cs 0),.sc (.int .i64 side)] (w.hp false) (.ag ((cG w side).cs 21)) (w.hp false++(cG w side).hp true):=by
 obtain⟨e,he⟩:∃ e,e=cG w side:=⟨_,rfl⟩
 rw [←he]
 rw [cG] at he
 refine qE Tryz.func113 Tryz.ntmps113 Tryz.results113 fun E hE=>?_
 refine qB (fun h1=>?_) fun h1=>?_
 ·rw [if_pos h1] at he
  subst he
  refine qK (aD w.a a0 a1 a2 a3 a4 a5 a6) (qI 0 7) ?_
  exact qF (qI 0 21++qI 23 7)
 rw [if_neg h1] at he
 refine qB (fun h2=>?_) fun h2=>?_
 ·rw [if_pos h2] at he
  subst he
  refine qK (aD w.b b0 b1 b2 b3 b4 b5 b6) (qI 7 7) ?_
  exact qF (qI 0 21++qI 23 7)
 rw [if_neg h2] at he
 subst he
 refine ah (qI 0 21++qO 7) (qC) _ (by simp only [go_sem];rfl) (by rfl) (by rfl) ?_
 simp (disch:=omega) only [go_sem,seval]
 try simp [pu]
end
section
open Go.RowKit
attribute [go_sem] decide_true decide_false set_option linter.unusedSimpArgs false set_option maxRecDepth 20000
theorem di (x:LetterD):ae Tryz.prog 262 [.ag x.cs] [] (.ag (ak x).cs) []:=by
 refine qE Tryz.func262 Tryz.ntmps262 Tryz.results262 fun E hE=>?_
 refine ah [] (qC) _ (by simp only [go_sem];rfl) (by rfl) (by rfl) ?_
 simp (disch:=omega) only [go_sem,seval]
 try simp [ak]
theorem bg (r:RoadD) (x:LetterD):ae Tryz.prog 246 [.ag r.cs,.ag x.cs] [] (.ag (bc r x).cs) []:=by
 refine qE Tryz.func246 Tryz.ntmps246 Tryz.results246 fun E hE=>?_
 refine ah [] (qC) _ (by simp only [go_sem];rfl) (by rfl) (by rfl) ?_
 simp (disch:=omega) only [go_sem,seval]
 try simp [bc]
theorem fY (a b c d:Int):ae Tryz.prog 326 [.sc (.int .i64 a),.sc (.int .i64 b),.sc (.int .i64 c),.sc (.int .i64 d)] [] (.ag (TagD.cs ⟨1,a,b,c,d⟩)) []:=by
 refine qE Tryz.func326 Tryz.ntmps326 Tryz.results326 fun E hE=>?_
 exact qF []
theorem eT (a b c d:Int):ae Tryz.prog 298 [.sc (.int .i64 a),.sc (.int .i64 b),.sc (.int .i64 c),.sc (.int .i64 d)] [] (.ag (TagD.cs ⟨2,a,b,c,d⟩)) []:=by
 refine qE Tryz.func298 Tryz.ntmps298 Tryz.results298 fun E hE=>?_
 exact qF []
theorem mP (a b c d:Int):ae Tryz.prog 323 [.sc (.int .i64 a),.sc (.int .i64 b),.sc (.int .i64 c),.sc (.int .i64 d)] [] (.ag (TagD.cs ⟨3,a,b,c,d⟩)) []:=by
 refine qE Tryz.func323 Tryz.ntmps323 Tryz.results323 fun E hE=>?_
 exact qF []
theorem lC (s:Int):ae Tryz.prog 297 [.sc (.int .i64 s)] [] (.sc (.int .i64 (dB s))) []:=by
 obtain⟨R,hR⟩:∃ R,R=dB s:=⟨_,rfl⟩
 rw [←hR]
 refine qE Tryz.func297 Tryz.ntmps297 Tryz.results297 fun E hE=>?_
 refine qK (aO _ _ _) [] ?_
 refine qB (fun h1=>?_) fun h1=>?_
 ·refine qJ [] ?_
  rw [hR,dB,if_neg (by simp [h1])]
 have h1':=h1
 simp only [cr,Bool.and_eq_true,decide_eq_true_eq] at h1'
 refine qJ [] ?_
 rw [hR,dB,if_pos h1]
theorem vy (b:BucketD):ae Tryz.prog 324 [.ag b.cs] [] (.tu [.ag (bV b).1.cs,.sc (.bo (bV b).2)]) []:=by
 obtain⟨R,hR⟩:∃ R,R=bV b:=⟨_,rfl⟩
 rw [←hR]
 refine qE Tryz.func324 Tryz.ntmps324 Tryz.results324 fun E hE=>?_
 refine qK (i_ b) [] ?_
 refine qB (fun h1=>?_) fun h1=>?_
 ·refine qB (fun h2=>?_) fun h2=>?_
  ·rw [bV,if_neg (by omega)] at hR
   subst hR
   exact qF []
  rw [bV,if_pos ⟨h1,h2⟩] at hR
  subst hR
  have h1':=h1
  simp only [cP,cr,Bool.and_eq_true,decide_eq_true_eq] at h1'
  exact qF []
 rw [bV,if_neg (by simp [h1])] at hR
 subst hR
 exact qF []
theorem ee (e:EndD) (x:LetterD) (hl:e.subs.length≤1048576):ae Tryz.prog 329 [.ag (e.cs 0),.ag x.cs] (e.hp false) (.sc (.int .i64 (cQ e x))) (e.hp false):=by
 obtain⟨R,hR⟩:∃ R,R=cQ e x:=⟨_,rfl⟩
 rw [←hR]
 have hS:=eI e (ak x) hl
 simp only [cQ] at hR
 generalize hk:bO e.subs (ak x)=k at hS hR
 have hbd:=eF e.subs (ak x)
 rw [hk] at hbd
 refine qE Tryz.func329 Tryz.ntmps329 Tryz.results329 fun E hE=>?_
 refine qD [0,1,2,3,4] ?_
 refine az (di x) [] ?_
 refine az (hS) (qI 0 7) ?_
 refine qG ?_
 rcases hbd with rfl|⟨hb0,hb1⟩
 ·refine qD [0,1,2,3,4,5,6,7,8,9,10,11,12,13,14,15,16,17,18,19,20,21] ?_
  refine qG ?_
  refine qJ (qI 0 7) ?_
  rw [hR]
  rfl
 obtain⟨n,rfl⟩:=Int.eq_ofNat_of_zero_le hb0
 have hn:n < e.subs.length:=by omega
 have hsub:bq e.subs (n:Int).toNat=e.subs[n]:=by simp [bq,List.getD_eq_getElem?_getD,hn]
 rw [if_neg (by omega),hsub] at hR
 refine qD [0,1,2,3,4,5,6,7,8,9,10,11,12,13,14,15,16,17,18,19,20,21] ?_
 refine qB (fun h1=>?_) fun h1=>?_
 ·refine qG ?_
  refine qB (fun h2=>?_) fun h2=>?_
  ·rw [if_neg (fun h=>h2 h.2)] at hR
   refine qJ (qI 0 7) ?_
   exact hR.symm
  rw [if_pos ⟨h1,h2⟩] at hR
  refine qJ (qI 0 7) ?_
  exact hR.symm
 rw [if_neg (fun h=>h1 h.1)] at hR
 refine qG ?_
 refine qJ (qI 0 7) ?_
 exact hR.symm
theorem ci (x:LetterD):ae Tryz.prog 255 [.ag x.cs] [] (.ag (ak x).cs) []:=by
 refine qE Tryz.func255 Tryz.ntmps255 Tryz.results255 fun E hE=>?_
 refine ah [] (qC) _ (by simp only [go_sem];rfl) (by rfl) (by rfl) ?_
 simp (disch:=omega) only [go_sem,seval]
 try simp [ak]
theorem aX (r:RoadD) (x:LetterD):ae Tryz.prog 217 [.ag r.cs,.ag x.cs] [] (.ag (bc r x).cs) []:=by
 refine qE Tryz.func217 Tryz.ntmps217 Tryz.results217 fun E hE=>?_
 refine ah [] (qC) _ (by simp only [go_sem];rfl) (by rfl) (by rfl) ?_
 simp (disch:=omega) only [go_sem,seval]
 try simp [bc]
theorem fZ (a b c d:Int):ae Tryz.prog 313 [.sc (.int .i64 a),.sc (.int .i64 b),.sc (.int .i64 c),.sc (.int .i64 d)] [] (.ag (TagD.cs ⟨1,a,b,c,d⟩)) []:=by
 refine qE Tryz.func313 Tryz.ntmps313 Tryz.results313 fun E hE=>?_
 exact qF []
theorem eU (a b c d:Int):ae Tryz.prog 278 [.sc (.int .i64 a),.sc (.int .i64 b),.sc (.int .i64 c),.sc (.int .i64 d)] [] (.ag (TagD.cs ⟨2,a,b,c,d⟩)) []:=by
 refine qE Tryz.func278 Tryz.ntmps278 Tryz.results278 fun E hE=>?_
 exact qF []
theorem mQ (a b c d:Int):ae Tryz.prog 280 [.sc (.int .i64 a),.sc (.int .i64 b),.sc (.int .i64 c),.sc (.int .i64 d)] [] (.ag (TagD.cs ⟨3,a,b,c,d⟩)) []:=by
 refine qE Tryz.func280 Tryz.ntmps280 Tryz.results280 fun E hE=>?_
 exact qF []
theorem lD (s:Int):ae Tryz.prog 277 [.sc (.int .i64 s)] [] (.sc (.int .i64 (dB s))) []:=by
 obtain⟨R,hR⟩:∃ R,R=dB s:=⟨_,rfl⟩
 rw [←hR]
 refine qE Tryz.func277 Tryz.ntmps277 Tryz.results277 fun E hE=>?_
 refine qK (aM _ _ _) [] ?_
 refine qB (fun h1=>?_) fun h1=>?_
 ·refine qJ [] ?_
  rw [hR,dB,if_neg (by simp [h1])]
 have h1':=h1
 simp only [cr,Bool.and_eq_true,decide_eq_true_eq] at h1'
 refine qJ [] ?_
 rw [hR,dB,if_pos h1]
theorem vz (b:BucketD):ae Tryz.prog 311 [.ag b.cs] [] (.tu [.ag (bV b).1.cs,.sc (.bo (bV b).2)]) []:=by
 obtain⟨R,hR⟩:∃ R,R=bV b:=⟨_,rfl⟩
 rw [←hR]
 refine qE Tryz.func311 Tryz.ntmps311 Tryz.results311 fun E hE=>?_
 refine qK (ja b) [] ?_
 refine qB (fun h1=>?_) fun h1=>?_
 ·refine qB (fun h2=>?_) fun h2=>?_
  ·rw [bV,if_neg (by omega)] at hR
   subst hR
   exact qF []
  rw [bV,if_pos ⟨h1,h2⟩] at hR
  subst hR
  have h1':=h1
  simp only [cP,cr,Bool.and_eq_true,decide_eq_true_eq] at h1'
  exact qF []
 rw [bV,if_neg (by simp [h1])] at hR
 subst hR
 exact qF []
theorem sX (e:EndD) (x:LetterD) (hl:e.subs.length≤1048576):ae Tryz.prog 332 [.ag (e.cs 0),.ag x.cs] (e.hp false) (.sc (.int .i64 (cQ e x))) (e.hp false):=by
 obtain⟨R,hR⟩:∃ R,R=cQ e x:=⟨_,rfl⟩
 rw [←hR]
 have hS:=eJ e (ak x) hl
 simp only [cQ] at hR
 generalize hk:bO e.subs (ak x)=k at hS hR
 have hbd:=eF e.subs (ak x)
 rw [hk] at hbd
 refine qE Tryz.func332 Tryz.ntmps332 Tryz.results332 fun E hE=>?_
 refine qD [0,1,2,3,4] ?_
 refine az (ci x) [] ?_
 refine az (hS) (qI 0 7) ?_
 refine qG ?_
 rcases hbd with rfl|⟨hb0,hb1⟩
 ·refine qD [0,1,2,3,4,5,6,7,8,9,10,11,12,13,14,15,16,17,18,19,20,21] ?_
  refine qG ?_
  refine qJ (qI 0 7) ?_
  rw [hR]
  rfl
 obtain⟨n,rfl⟩:=Int.eq_ofNat_of_zero_le hb0
 have hn:n < e.subs.length:=by omega
 have hsub:bq e.subs (n:Int).toNat=e.subs[n]:=by simp [bq,List.getD_eq_getElem?_getD,hn]
 rw [if_neg (by omega),hsub] at hR
 refine qD [0,1,2,3,4,5,6,7,8,9,10,11,12,13,14,15,16,17,18,19,20,21] ?_
 refine qB (fun h1=>?_) fun h1=>?_
 ·refine qG ?_
  refine qB (fun h2=>?_) fun h2=>?_
  ·rw [if_neg (fun h=>h2 h.2)] at hR
   refine qJ (qI 0 7) ?_
   exact hR.symm
  rw [if_pos ⟨h1,h2⟩] at hR
  refine qJ (qI 0 7) ?_
  exact hR.symm
 rw [if_neg (fun h=>h1 h.1)] at hR
 refine qG ?_
 refine qJ (qI 0 7) ?_
 exact hR.symm
theorem dr {e:EndD} (h:aj e=true):e.subs.length≤8:=by
 simp only [aj,Bool.and_eq_true,decide_eq_true_eq] at h
 omega
theorem xB (l:List HalfD) (k:Nat) (h:HalfD):(l.map HalfD.cs).set k h.cs=(l.set k h).map HalfD.cs:=(List.map_set ..).symm
theorem xC (l:List AddrD) (k:Nat) (h:AddrD):(l.map AddrD.cs).set k h.cs=(l.set k h).map AddrD.cs:=(List.map_set ..).symm
theorem iT (l:List SubD) (k:Nat) (h:SubD):(l.map SubD.cs).set k h.cs=(l.set k h).map SubD.cs:=(List.map_set ..).symm
theorem xD (l:List HalfD) (h:HalfD):l.map HalfD.cs++[h.cs]=(l++[h]).map HalfD.cs:=by simp
theorem jE (l:List HalfD) (h:HalfD) (hl:l.length≤1000000):ae Tryz.prog 325 [.sc (.sl 0 0 l.length),.ag h.cs] [some ⟨l.map HalfD.cs,8,213,false,true⟩]
  (.tu [.sc (.sl 1 0 (bQ l h).1.length),.sc (.bo (bQ l h).2)]) [some ⟨l.map HalfD.cs,8,213,false,true⟩,some ⟨(bQ l h).1.map HalfD.cs,8,213,true,true⟩]:=by
 have hA:=gK l h.road (by omega)
 have hbd:=fE l h.road
 have hO:=mJ (dn l h) (by have:=cK l h;omega)
 have hll:=cK l h
 have hL:=dn.eq_1 l h
 have ht:=nJ (l:=l) (h:=h)
 have hf:=ui (l:=l) (h:=h)
 generalize dn l h=L at*
 generalize bQ l h=R at*
 generalize bP l h.road=k at hA hbd hL
 refine qE Tryz.func325 Tryz.ntmps325 Tryz.results325 fun E hE=>?_
 refine qK (dS l (by omega)) (qI 0 1) ?_
 refine qK (hA) (qI 0 1) ?_
 rcases hbd with rfl|⟨hb0,hb1⟩
 ·rw [if_neg (by omega)] at hL
  subst hL
  have e:=xD l h
  simp only [HalfD.cs] at e
  rw [List.length_append] at hO
  try simp (disch:=omega) only [go_sem,seval,e]
  refine qK (hO) (qI 4 1) ?_
  refine qB (fun h1=>?_) fun h1=>?_
  ·rw [hf h1]
   refine qK (dS l (by omega)) (qI 0 1) ?_
   exact qF (qI 0 1++qI 5 1)
  rw [ht h1]
  try simp only [List.length_set]
  exact qF (qI 0 1++qI 4 1)
 obtain⟨n,rfl⟩:=Int.eq_ofNat_of_zero_le hb0
 rw [if_pos hb0,Int.toNat_natCast] at hL
 subst hL
 have e:=xB l n h
 simp only [HalfD.cs] at e
 rw [List.length_set] at hO
 try simp (disch:=omega) only [go_sem,seval,e]
 refine qK (hO) (qI 2 1) ?_
 refine qB (fun h1=>?_) fun h1=>?_
 ·rw [hf h1]
  refine qK (dS l (by omega)) (qI 0 1) ?_
  exact qF (qI 0 1++qI 3 1)
 rw [ht h1]
 try simp only [List.length_set]
 exact qF (qI 0 1++qI 2 1)
theorem ia (l:List HalfD) (h:HalfD) (hl:l.length≤1000000):ae Tryz.prog 312 [.sc (.sl 0 0 l.length),.ag h.cs] [some ⟨l.map HalfD.cs,8,213,false,true⟩]
  (.tu [.sc (.sl 1 0 (bQ l h).1.length),.sc (.bo (bQ l h).2)]) [some ⟨l.map HalfD.cs,8,213,false,true⟩,some ⟨(bQ l h).1.map HalfD.cs,8,213,true,true⟩]:=by
 have hA:=gL l h.road (by omega)
 have hbd:=fE l h.road
 have hO:=mK (dn l h) (by have:=cK l h;omega)
 have hll:=cK l h
 have hL:=dn.eq_1 l h
 have ht:=nJ (l:=l) (h:=h)
 have hf:=ui (l:=l) (h:=h)
 generalize dn l h=L at*
 generalize bQ l h=R at*
 generalize bP l h.road=k at hA hbd hL
 refine qE Tryz.func312 Tryz.ntmps312 Tryz.results312 fun E hE=>?_
 refine qK (hA) (qI 0 1) ?_
 rcases hbd with rfl|⟨hb0,hb1⟩
 ·rw [if_neg (by omega)] at hL
  subst hL
  have e:=xD l h
  simp only [HalfD.cs] at e
  rw [List.length_append] at hO
  try simp (disch:=omega) only [go_sem,seval,e]
  refine qK (hO) (qI 5 1) ?_
  refine qB (fun h1=>?_) fun h1=>?_
  ·rw [hf h1]
   exact qF (qI 0 1++qI 7 1)
  rw [ht h1]
  try simp only [List.length_set]
  exact qF (qI 0 1++qI 5 1)
 obtain⟨n,rfl⟩:=Int.eq_ofNat_of_zero_le hb0
 rw [if_pos hb0,Int.toNat_natCast] at hL
 subst hL
 have e:=xB l n h
 simp only [HalfD.cs] at e
 rw [List.length_set] at hO
 try simp (disch:=omega) only [go_sem,seval,e]
 refine qK (hO) (qI 3 1) ?_
 refine qB (fun h1=>?_) fun h1=>?_
 ·rw [hf h1]
  exact qF (qI 0 1++qI 5 1)
 rw [ht h1]
 try simp only [List.length_set]
 exact qF (qI 0 1++qI 3 1)
end
section
open Go.RowKit
theorem fk (e:EndD):ae Tryz.prog 260 [.ag (e.cs 0)] (e.hp false) (.sc (.bo (cr e.draw 1 999999996))) (e.hp false):=by
 refine qE Tryz.func260 Tryz.ntmps260 Tryz.results260 fun E hE=>?_
 refine qK (aO _ _ _) [] ?_
 exact qF (qI 0 7)
theorem gD (e:EndD):ae Tryz.prog 251 [.ag (e.cs 0),.sc (.int .i64 2)] (e.hp false) (.sc (.bo (cr e.draw 1 999999996))) (e.hp false):=by
 refine e_ Tryz.func251 (by kernel_rfl) rfl fun E hE=>ac 400 ?_
 simp (disch:=omega) only [Tryz.ntmps251,Tryz.results251,go_sem,Nat.reduceEqDiff,Nat.reduceAdd,Nat.reduceSub,Int.reduceAdd,Int.reduceSub,Int.reduceToNat]
 refine al (qC) (aM _ _ _) [] qM (by rfl) (ac 400 ?_)
 simp (disch:=omega) only [go_sem,Nat.reduceEqDiff,Nat.reduceAdd,Nat.reduceSub,Int.reduceAdd,Int.reduceSub,Int.reduceToNat]
 refine ah (qI 0 7) (qC) _ (by simp only [go_sem];rfl) (by rfl) (by rfl) ?_
 simp (disch:=omega) only [go_sem,Nat.reduceEqDiff,Nat.reduceAdd,Nat.reduceSub,Int.reduceAdd,Int.reduceSub,Int.reduceToNat]
 rfl
theorem xE (n:Int):ae Tryz.prog 264 [.sc (.int .i64 n)] [] (.sc (.sl 0 0 1)) [some ⟨(gp n).map AddrD.cs,4,88,true,true⟩]:=by
 refine qE Tryz.func264 Tryz.ntmps264 Tryz.results264 fun E hE=>?_
 refine qJ (qI 0 1) ?_
 rfl
theorem oK (n:Int):ae Tryz.prog 256 [.sc (.int .i64 n)] [] (.sc (.sl 0 0 1)) [some ⟨(gp n).map AddrD.cs,4,88,true,true⟩]:=by
 refine qE Tryz.func256 Tryz.ntmps256 Tryz.results256 fun E hE=>?_
 refine qJ (qI 0 1) ?_
 rfl
def YE (e:EndD) (a b c d i f g:Nat):List Sc:=[.int .i64 e.side,.int .i64 e.state,.int .i64 e.key,.int .i64 e.peer,.int .i64 e.policy.kind,.int .i64 e.policy.many,.sl a 0 e.own.length,.sl b 0 e.far.length,.sl c 0 e.subs.length,.sl d 0 e.halfs.length,.int .i64 e.bucket.rate,.int .i64 e.bucket.burst,.int .i64 e.bucket.cur,.st e.out.text,.int .i64 e.out.base,.int .i64 e.out.sent,.int .i64 e.out.room,.int .i64 e.inp.read,.st e.inp.ready,.sl i 0 e.inp.list.length,.sl f 0 e.done.length,.sl g 0 e.over.length,.int .i64 e.draw,.int .i64 e.now,.int .i64 e.pick]
attribute [go_sem] YE
theorem f6 (e:EndD) (h:cr e.draw 1 999999996=true):ae Tryz.prog 261 [.sc (.pt 7 0 0)] (e.hp false++[some ⟨[e.cs 0],25,45,true,false⟩]) (.tu [.sc (.int .i64 e.draw),.sc (.int .i64 (e.draw+2))])
  (e.hp false++[some ⟨[EndD.cs { e with draw:=e.draw+4 } 0],25,45,true,false⟩]):=by
 simp only [cr,Bool.and_eq_true,decide_eq_true_eq] at h
 refine qE Tryz.func261 Tryz.ntmps261 Tryz.results261 fun E hE=>?_
 exact qF (qI 0 8)
theorem qs (e:EndD) (x:LetterD) (hs:Small e):ae Tryz.prog 179 [.ag (e.cs 0),.ag x.cs] (e.hp false) (.tu [.ag ((bX e x).1.cs 7),.sc (.sl 14 0 (bX e x).2.length)])
  (e.hp false++((bX e x).1.hp true++[some ⟨(bX e x).2.map LetterD.cs,19,91,true,true⟩])):=by
 have hC:=(qH (aK e))
 have hK:=(qH (bf e))
 have hO:=gB e x.to (by have:=hs.own;omega)
 have hS:=eI e (ak x) (by have:=hs.subs;omega)
 have hf:=oA (e:=e) (x:=x)
 have ht:=oz (e:=e) (x:=x)
 have hk:=kR.eq_1 e x
 generalize bX e x=R at*
 refine qE Tryz.func179 Tryz.ntmps179 Tryz.results179 fun E hE=>?_
 refine qK (hC) (qI 0 7) ?_
 refine qK (di x) [] ?_
 refine qK (hK) (qI 0 7) ?_
 refine qB (fun h1=>?_) fun h1=>?_
 ·refine qK (bt x) [] ?_
  refine qB (fun h2=>?_) fun h2=>?_
  ·refine qB (fun h3=>?_) fun h3=>?_
   ·refine qK (hO) (qI 0 7) ?_
    refine qB (fun h4=>?_) fun h4=>?_
    ·refine qK (aO _ _ _) [] ?_
     refine qB (fun h5=>?_) fun h5=>?_
     ·refine qK (hS) (qI 0 7) ?_
      refine qB (fun h6=>?_) fun h6=>?_
      ·refine qB (fun h7=>?_) fun h7=>?_
       ·refine qK (fk e) (qI 0 7) ?_
        refine qB (fun h8=>?_) fun h8=>?_
        ·rw [hf (by rw [hk];first|(simp [h8];done)|(simp [h8];intros;omega))]
         exact qF (qI 0 7++qI 10 7++qO 1)
        rw [ht (by rw [hk];simp [h1,h2,h3,h4,h5,h8];omega)]
        refine qK (f6 e h8) (qI 10 8) ?_
        refine qK (xE x.frm) [] ?_
        refine aT [(6,7)] [(qU [0,9]),[0,1,2,3,4,5,7,6,8]] (by kernel_rfl) (qC) (by kernel_rfl) ?_
        simp only [aQ]
        refine⟨aa 400 ?_,aa 400 ?_⟩
        all_goals simp (disch:=omega) only [go_sem,seval]
        all_goals
         refine az (bg (ak x) { aw with kind:=2,key:=e.draw,give:=e.draw+2 }) [] ?_
         refine qG ?_
         refine ah (qI 0 7++qI 10 1++qI 19 1++qI 21 1++qI 13 4++qI 22 1) (qC) _ (by simp only [go_sem];rfl) (by rfl) (by rfl) ?_
         simp (disch:=omega) only [go_sem,seval]
         try simp [gp,SubD.cs,LetterD.cs,ak,bc,aw]
       rw [hf (by rw [hk];first|(simp [h7];done)|(simp [h7];intros;omega))]
       exact qF (qI 0 7++qI 10 7++qO 1)
      rw [hf (by rw [hk];first|(simp [h6];done)|(simp [h6];intros;omega))]
      exact qF (qI 0 7++qI 10 7++qO 1)
     rw [hf (by rw [hk];first|(simp [h5];done)|(simp [h5];intros;omega))]
     exact qF (qI 0 7++qI 10 7++qO 1)
    rw [hf (by rw [hk];first|(simp [h4];done)|(simp [h4];intros;omega))]
    exact qF (qI 0 7++qI 10 7++qO 1)
   rw [hf (by rw [hk];first|(simp [h3];done)|(simp [h3];intros;omega))]
   exact qF (qI 0 7++qI 10 7++qO 1)
  rw [hf (by rw [hk];first|(simp [h2];done)|(simp [h2];intros;omega))]
  exact qF (qI 0 7++qI 10 7++qO 1)
 rw [hf (by rw [hk];first|(simp [h1];done)|(simp [h1];intros;omega))]
 exact qF (qI 0 7++qI 10 7++qO 1)
def zY (e:EndD):Hp:=[some ⟨e.own.map AddrD.cs,4,88,false,true⟩,some ⟨e.far.map AddrD.cs,4,88,false,true⟩,some ⟨e.subs.map SubD.cs,10,201,true,true⟩,some ⟨e.halfs.map HalfD.cs,8,213,false,true⟩,some ⟨e.inp.list.map PieceD.cs,2,256,false,true⟩,some ⟨e.done.map aC,1,3,false,true⟩,some ⟨e.over.map aC,1,3,false,true⟩]
attribute [go_sem] zY
theorem iU (e:EndD) (s:SubD) (hl:e.subs.length≤1000000):ae Tryz.prog 253 [.ag (e.cs 0),.ag s.cs] (zY e) (.ag (YE { e with subs:=e.subs++[s] } 0 1 7 3 4 5 6))
  [some ⟨e.own.map AddrD.cs,4,88,false,true⟩,some ⟨e.far.map AddrD.cs,4,88,false,true⟩,none,some ⟨e.halfs.map HalfD.cs,8,213,false,true⟩,some ⟨e.inp.list.map PieceD.cs,2,256,false,true⟩,some ⟨e.done.map aC,1,3,false,true⟩,some ⟨e.over.map aC,1,3,false,true⟩,some ⟨(e.subs++[s]).map SubD.cs,10,201,true,true⟩]:=by
 refine qE Tryz.func253 Tryz.ntmps253 Tryz.results253 fun E hE=>?_
 refine qJ (qI 0 7++qI 11 1) ?_
 simp [SubD.cs]
theorem y2 (e:EndD) (hs:Small e) (h:cr e.draw 1 999999998=true):ae Tryz.prog 310 [.ag (e.cs 0)] (e.hp false) (.tu [.ag (EndD.cs { e with draw:=e.draw+2 } 7),.sc (.int .i64 e.draw)]) (e.hp false++e.hp true):=by
 have hC:=(qH (aD e))
 have hr:=aM e.draw 1 999999998
 rw [h] at hr
 simp only [cr,Bool.and_eq_true,decide_eq_true_eq] at h
 refine qE Tryz.func310 Tryz.ntmps310 Tryz.results310 fun E hE=>?_
 refine qK (hC) (qI 0 7) ?_
 refine qK (hr) [] ?_
 refine aT [(2,3)] [[0,1,2,3,4],[0,1,3,2,4]] (by kernel_rfl) (qC) (by kernel_rfl) ?_
 simp only [aQ]
 refine⟨aa 400 ?_,aa 400 ?_⟩
 all_goals simp (disch:=omega) only [go_sem,seval]
 all_goals
  refine qG ?_
  exact qF (qI 0 7++qI 9 7)
theorem cO (e:EndD) (hs:Small e) (h:cr e.draw 1 999999998=true):ae Tryz.prog 252 [.ag (e.cs 0)] (e.hp false) (.tu [.ag (EndD.cs { e with draw:=e.draw+2 } 7),.sc (.int .i64 e.draw)]) (e.hp false++e.hp true):=by
 have hC:=y2 e hs h
 refine qE Tryz.func252 Tryz.ntmps252 Tryz.results252 fun E hE=>?_
 refine qK (hC) (qI 0 7) ?_
 exact qF (qI 0 7++qI 9 7)
theorem qt (e:EndD) (x:LetterD) (hs:Small e):ae Tryz.prog 162 [.ag (e.cs 0),.ag x.cs] (e.hp false) (.tu [.ag ((bX e x).1.cs 7),.sc (.sl 14 0 (bX e x).2.length)])
  (e.hp false++((bX e x).1.hp true++[some ⟨(bX e x).2.map LetterD.cs,19,91,true,true⟩])):=by
 have hC:=(qH (aD e))
 have hK:=(qH (be e))
 have hO:=gC e x.to (by have:=hs.own;omega)
 have hS:=eJ e (ak x) (by have:=hs.subs;omega)
 have hf:=oA (e:=e) (x:=x)
 have ht:=oz (e:=e) (x:=x)
 have hk:=kR.eq_1 e x
 generalize bX e x=R at*
 refine qE Tryz.func162 Tryz.ntmps162 Tryz.results162 fun E hE=>?_
 refine qK (hC) (qI 0 7) ?_
 refine qD [0,1,2,3,4,5,6,7,8,9,10,11,12,13,14,15,16,17,18,19,20,21,22,23,24,25,26,27,28,29,30,31,32,33,34,35,36,37,38,39,40,41,42,43] ?_
 refine az (hK) (qI 0 7) ?_
 refine qB (fun h1=>?_) fun h1=>?_
 ·refine az (cL x) [] ?_
  refine qB (fun h2=>?_) fun h2=>?_
  ·refine qB (fun h3=>?_) fun h3=>?_
   ·refine az (hO) (qI 0 7) ?_
    refine qB (fun h4=>?_) fun h4=>?_
    ·refine az (aM _ _ _) [] ?_
     refine qB (fun h5=>?_) fun h5=>?_
     ·refine az (ci x) [] ?_
      refine az (hS) (qI 0 7) ?_
      refine qB (fun h6=>?_) fun h6=>?_
      ·refine qB (fun h7=>?_) fun h7=>?_
       ·refine az (gD e) (qI 0 7) ?_
        refine qG ?_
        refine qB (fun h8=>?_) fun h8=>?_
        ·rw [hf (by rw [hk];first|(simp [h8];done)|(simp [h8];intros;omega))]
         exact qF (qI 0 7++qI 10 7++qI 18 1)
        rw [ht (by rw [hk];have:=dr h1;simp [h1,h2,h3,h4,h5,h8];omega)]
        have h8':=h8
        simp only [cr,Bool.and_eq_true,decide_eq_true_eq] at h8'
        have hd1:cr e.draw 1 999999998=true:=by simp only [cr,Bool.and_eq_true,decide_eq_true_eq];omega
        have hd2:cr (e.draw+2) 1 999999998=true:=by simp only [cr,Bool.and_eq_true,decide_eq_true_eq];omega
        refine qK (cO e hs hd1) (qI 10 7) ?_
        refine qK (cO { e with draw:=e.draw+2 } ⟨hs.own,hs.far,hs.subs,hs.halfs,hs.list,hs.done,hs.over⟩ hd2) (qI 19 7) ?_
        refine qK (oK x.frm) [] ?_
        refine AH [(0,2),(2,4)] [[1,3,5,0,2,4,6,7,8],[1,3,5,0,4,2,6,7,8],[1,3,5,2,0,4,6,7,8],[1,3,5,4,2,0,6,7,8]] (by kernel_rfl) (qC) (by kernel_rfl) ?_
        simp only [aQ]
        refine⟨it 400 ?_,it 400 ?_,it 400 ?_,it 400 ?_⟩
        all_goals simp (disch:=omega) only [go_sem,seval]
        all_goals
         refine uc (qC) (ci x) [] qM (by rfl) (it 400 ?_)
         simp (disch:=omega) only [go_sem,seval]
         refine uc (qC) (iU { e with state:=2,key:=e.draw,peer:=x.key,far:=gp x.frm,draw:=e.draw+2+2 } ⟨ak x,3,false,0,0,x.give,e.draw+2,0⟩ (by have:=dr h1;dsimp only;omega)) (qI 26 1++qI 33 1++qI 28 5) qM (by rfl) (it 400 ?_)
         simp (disch:=omega) only [go_sem,seval]
         refine qG ?_
         refine aT [(0,9),(3,0),(7,0),(8,0)] [[1,2,4,5,6,3,7,8,0,9,10,11],[1,2,4,5,6,3,7,0,8,9,10,11],[1,2,4,5,6,3,0,7,8,9,10,11],[1,2,4,5,6,0,3,7,8,9,10,11],[1,2,4,5,6,3,7,8,9,0,10,11]] (by kernel_rfl) (qC) (by kernel_rfl) ?_
         simp only [aQ]
         refine⟨aa 400 ?_,aa 400 ?_,aa 400 ?_,aa 400 ?_,aa 400 ?_⟩
         all_goals simp (disch:=omega) only [go_sem,seval]
         all_goals
          refine az (ci x) [] ?_
          refine az (aX (ak x) { aw with kind:=2,key:=e.draw,give:=e.draw+2 }) [] ?_
          refine qG ?_
          refine ah (qI 0 7++qI 26 1++qI 33 2++qI 29 4++qI 36 1) (qC) _ (by simp only [go_sem];rfl) (by rfl) (by rfl) ?_
          simp (disch:=omega) only [go_sem,seval]
          try simp [gp,SubD.cs,LetterD.cs,ak,bc,aw]
          try omega
       rw [hf (by rw [hk];first|(simp [h7];done)|(simp [h7];intros;omega))]
       refine qG ?_
       exact qF (qI 0 7++qI 10 7++qI 18 1)
      rw [hf (by rw [hk];first|(simp [h6];done)|(simp [h6];intros;omega))]
      refine qG ?_
      exact qF (qI 0 7++qI 10 7++qI 18 1)
     rw [hf (by rw [hk];first|(simp [h5];done)|(simp [h5];intros;omega))]
     refine qG ?_
     exact qF (qI 0 7++qI 10 7++qI 18 1)
    rw [hf (by rw [hk];first|(simp [h4];done)|(simp [h4];intros;omega))]
    refine qG ?_
    exact qF (qI 0 7++qI 10 7++qI 18 1)
   rw [hf (by rw [hk];first|(simp [h3];done)|(simp [h3];intros;omega))]
   refine qG ?_
   exact qF (qI 0 7++qI 10 7++qI 18 1)
  rw [hf (by rw [hk];first|(simp [h2];done)|(simp [h2];intros;omega))]
  refine qG ?_
  exact qF (qI 0 7++qI 10 7++qI 18 1)
 rw [hf (by rw [hk];first|(simp [h1];done)|(simp [h1];intros;omega))]
 refine qG ?_
 exact qF (qI 0 7++qI 10 7++qI 18 1)
end
section
open Go.RowKit
theorem A0 (o:OutD) (n:Int):ae Tryz.prog 331 [.ag o.cs,.sc (.int .i64 n)] [] (.ag (mI o n).cs) []:=by
 obtain⟨R,hR⟩:∃ R,R=mI o n:=⟨_,rfl⟩
 rw [←hR]
 refine e_ Tryz.func331 (by kernel_rfl) rfl fun E hE=>ac 400 ?_
 simp (disch:=omega) only [Tryz.ntmps331,Tryz.results331,go_sem,Nat.reduceEqDiff,Nat.reduceAdd,Nat.reduceSub,Int.reduceAdd,Int.reduceSub,Int.reduceToNat]
 refine al (qC) (iv o) [] qM (by rfl) (ac 400 ?_)
 simp (disch:=omega) only [go_sem,Nat.reduceEqDiff,Nat.reduceAdd,Nat.reduceSub,Int.reduceAdd,Int.reduceSub,Int.reduceToNat]
 split<;>rename_i h1<;>(try simp only [beq_true,beq_false,Bool.not_eq_true',Bool.not_eq_false'] at h1)<;>simp (disch:=omega) only [go_sem,Nat.reduceEqDiff,Nat.reduceAdd,Nat.reduceSub,Int.reduceAdd,Int.reduceSub,Int.reduceToNat,h1]<;>(try simp only [decide_eq_true_eq,decide_eq_false_iff_not,beq_iff_eq,beq_eq_false_iff_ne,bne_iff_ne,bne_eq_false_iff_eq,ne_eq,Decidable.not_not,Bool.and_eq_true,Bool.and_eq_false_iff,Bool.or_eq_true,Bool.or_eq_false_iff,Int.ofNat_lt,Int.ofNat_le,Bool.not_eq_eq_eq_not,Bool.not_true,Bool.not_false] at h1)<;>try simp (disch:=omega) only [go_sem,Nat.reduceEqDiff,Nat.reduceAdd,Nat.reduceSub,Int.reduceAdd,Int.reduceSub,Int.reduceToNat]
 ·have h1':=h1
  simp only [fb,iQ,cr,Bool.and_eq_true,decide_eq_true_eq] at h1'
  obtain⟨⟨⟨⟨b0,b1⟩,r0,r1⟩,t0⟩,s0,s1⟩:=h1'
  rw [AO (by omega)] at s1
  split<;>rename_i h2<;>(try simp only [beq_true,beq_false,Bool.not_eq_true',Bool.not_eq_false'] at h2)<;>simp (disch:=omega) only [go_sem,Nat.reduceEqDiff,Nat.reduceAdd,Nat.reduceSub,Int.reduceAdd,Int.reduceSub,Int.reduceToNat,h2]<;>(try simp only [decide_eq_true_eq,decide_eq_false_iff_not,beq_iff_eq,beq_eq_false_iff_ne,bne_iff_ne,bne_eq_false_iff_eq,ne_eq,Decidable.not_not,Bool.and_eq_true,Bool.and_eq_false_iff,Bool.or_eq_true,Bool.or_eq_false_iff,Int.ofNat_lt,Int.ofNat_le,Bool.not_eq_eq_eq_not,Bool.not_true,Bool.not_false] at h2)<;>try simp (disch:=omega) only [go_sem,Nat.reduceEqDiff,Nat.reduceAdd,Nat.reduceSub,Int.reduceAdd,Int.reduceSub,Int.reduceToNat]
  ·split<;>rename_i h3<;>(try simp only [beq_true,beq_false,Bool.not_eq_true',Bool.not_eq_false'] at h3)<;>simp (disch:=omega) only [go_sem,Nat.reduceEqDiff,Nat.reduceAdd,Nat.reduceSub,Int.reduceAdd,Int.reduceSub,Int.reduceToNat,h3]<;>(try simp only [decide_eq_true_eq,decide_eq_false_iff_not,beq_iff_eq,beq_eq_false_iff_ne,bne_iff_ne,bne_eq_false_iff_eq,ne_eq,Decidable.not_not,Bool.and_eq_true,Bool.and_eq_false_iff,Bool.or_eq_true,Bool.or_eq_false_iff,Int.ofNat_lt,Int.ofNat_le,Bool.not_eq_eq_eq_not,Bool.not_true,Bool.not_false] at h3)<;>try simp (disch:=omega) only [go_sem,Nat.reduceEqDiff,Nat.reduceAdd,Nat.reduceSub,Int.reduceAdd,Int.reduceSub,Int.reduceToNat]
   ·rw [mI,if_neg (by rw [AO (by omega)];omega)] at hR
    subst hR
    refine ah [] (qC) _ (by simp only [go_sem];rfl) (by rfl) (by rfl) ?_
    simp (disch:=omega) only [go_sem,Nat.reduceEqDiff,Nat.reduceAdd,Nat.reduceSub,Int.reduceAdd,Int.reduceSub,Int.reduceToNat]
   rw [mI,if_pos ⟨h1,by omega,by rw [AO (by omega)];omega⟩] at hR
   subst hR
   by_cases h4:o.sent < n
   ·try simp (disch:=omega) only [go_sem,Nat.reduceEqDiff,Nat.reduceAdd,Nat.reduceSub,Int.reduceAdd,Int.reduceSub,Int.reduceToNat,h4]
    refine ah [] (qC) _ (by simp only [go_sem];rfl) (by rfl) (by rfl) ?_
    simp (disch:=omega) only [go_sem,Nat.reduceEqDiff,Nat.reduceAdd,Nat.reduceSub,Int.reduceAdd,Int.reduceSub,Int.reduceToNat]
    all_goals (try simp only [h4,if_true,if_false,go_sem])
    all_goals (repeat' first|rfl|constructor)
    try simp
   try simp (disch:=omega) only [go_sem,Nat.reduceEqDiff,Nat.reduceAdd,Nat.reduceSub,Int.reduceAdd,Int.reduceSub,Int.reduceToNat,h4]
   refine ah [] (qC) _ (by simp only [go_sem];rfl) (by rfl) (by rfl) ?_
   simp (disch:=omega) only [go_sem,Nat.reduceEqDiff,Nat.reduceAdd,Nat.reduceSub,Int.reduceAdd,Int.reduceSub,Int.reduceToNat]
   all_goals (try simp only [h4,if_true,if_false,go_sem])
   all_goals (repeat' first|rfl|constructor)
   try simp
  rw [mI,if_neg (by omega)] at hR
  subst hR
  refine ah [] (qC) _ (by simp only [go_sem];rfl) (by rfl) (by rfl) ?_
  simp (disch:=omega) only [go_sem,Nat.reduceEqDiff,Nat.reduceAdd,Nat.reduceSub,Int.reduceAdd,Int.reduceSub,Int.reduceToNat]
 rw [mI,if_neg (by simp [h1])] at hR
 subst hR
 refine ah [] (qC) _ (by simp only [go_sem];rfl) (by rfl) (by rfl) ?_
 simp (disch:=omega) only [go_sem,Nat.reduceEqDiff,Nat.reduceAdd,Nat.reduceSub,Int.reduceAdd,Int.reduceSub,Int.reduceToNat]
theorem A1 (o:OutD) (n:Int):ae Tryz.prog 318 [.ag o.cs,.sc (.int .i64 n)] [] (.ag (mI o n).cs) []:=by
 obtain⟨R,hR⟩:∃ R,R=mI o n:=⟨_,rfl⟩
 rw [←hR]
 refine e_ Tryz.func318 (by kernel_rfl) rfl fun E hE=>ac 400 ?_
 simp (disch:=omega) only [Tryz.ntmps318,Tryz.results318,go_sem,Nat.reduceEqDiff,Nat.reduceAdd,Nat.reduceSub,Int.reduceAdd,Int.reduceSub,Int.reduceToNat]
 refine al (qC) (iw o) [] qM (by rfl) (ac 400 ?_)
 simp (disch:=omega) only [go_sem,Nat.reduceEqDiff,Nat.reduceAdd,Nat.reduceSub,Int.reduceAdd,Int.reduceSub,Int.reduceToNat]
 split<;>rename_i h1<;>(try simp only [beq_true,beq_false,Bool.not_eq_true',Bool.not_eq_false'] at h1)<;>simp (disch:=omega) only [go_sem,Nat.reduceEqDiff,Nat.reduceAdd,Nat.reduceSub,Int.reduceAdd,Int.reduceSub,Int.reduceToNat,h1]<;>(try simp only [decide_eq_true_eq,decide_eq_false_iff_not,beq_iff_eq,beq_eq_false_iff_ne,bne_iff_ne,bne_eq_false_iff_eq,ne_eq,Decidable.not_not,Bool.and_eq_true,Bool.and_eq_false_iff,Bool.or_eq_true,Bool.or_eq_false_iff,Int.ofNat_lt,Int.ofNat_le,Bool.not_eq_eq_eq_not,Bool.not_true,Bool.not_false] at h1)<;>try simp (disch:=omega) only [go_sem,Nat.reduceEqDiff,Nat.reduceAdd,Nat.reduceSub,Int.reduceAdd,Int.reduceSub,Int.reduceToNat]
 ·have h1':=h1
  simp only [fb,iQ,cr,Bool.and_eq_true,decide_eq_true_eq] at h1'
  obtain⟨⟨⟨⟨b0,b1⟩,r0,r1⟩,t0⟩,s0,s1⟩:=h1'
  rw [AO (by omega)] at s1
  split<;>rename_i h2<;>(try simp only [beq_true,beq_false,Bool.not_eq_true',Bool.not_eq_false'] at h2)<;>simp (disch:=omega) only [go_sem,Nat.reduceEqDiff,Nat.reduceAdd,Nat.reduceSub,Int.reduceAdd,Int.reduceSub,Int.reduceToNat,h2]<;>(try simp only [decide_eq_true_eq,decide_eq_false_iff_not,beq_iff_eq,beq_eq_false_iff_ne,bne_iff_ne,bne_eq_false_iff_eq,ne_eq,Decidable.not_not,Bool.and_eq_true,Bool.and_eq_false_iff,Bool.or_eq_true,Bool.or_eq_false_iff,Int.ofNat_lt,Int.ofNat_le,Bool.not_eq_eq_eq_not,Bool.not_true,Bool.not_false] at h2)<;>try simp (disch:=omega) only [go_sem,Nat.reduceEqDiff,Nat.reduceAdd,Nat.reduceSub,Int.reduceAdd,Int.reduceSub,Int.reduceToNat]
  ·split<;>rename_i h3<;>(try simp only [beq_true,beq_false,Bool.not_eq_true',Bool.not_eq_false'] at h3)<;>simp (disch:=omega) only [go_sem,Nat.reduceEqDiff,Nat.reduceAdd,Nat.reduceSub,Int.reduceAdd,Int.reduceSub,Int.reduceToNat,h3]<;>(try simp only [decide_eq_true_eq,decide_eq_false_iff_not,beq_iff_eq,beq_eq_false_iff_ne,bne_iff_ne,bne_eq_false_iff_eq,ne_eq,Decidable.not_not,Bool.and_eq_true,Bool.and_eq_false_iff,Bool.or_eq_true,Bool.or_eq_false_iff,Int.ofNat_lt,Int.ofNat_le,Bool.not_eq_eq_eq_not,Bool.not_true,Bool.not_false] at h3)<;>try simp (disch:=omega) only [go_sem,Nat.reduceEqDiff,Nat.reduceAdd,Nat.reduceSub,Int.reduceAdd,Int.reduceSub,Int.reduceToNat]
   ·rw [mI,if_neg (by rw [AO (by omega)];omega)] at hR
    subst hR
    refine ah [] (qC) _ (by simp only [go_sem];rfl) (by rfl) (by rfl) ?_
    simp (disch:=omega) only [go_sem,Nat.reduceEqDiff,Nat.reduceAdd,Nat.reduceSub,Int.reduceAdd,Int.reduceSub,Int.reduceToNat]
   rw [mI,if_pos ⟨h1,by omega,by rw [AO (by omega)];omega⟩] at hR
   subst hR
   by_cases h4:o.sent < n
   ·try simp (disch:=omega) only [go_sem,Nat.reduceEqDiff,Nat.reduceAdd,Nat.reduceSub,Int.reduceAdd,Int.reduceSub,Int.reduceToNat,h4]
    refine ah [] (qC) _ (by simp only [go_sem];rfl) (by rfl) (by rfl) ?_
    simp (disch:=omega) only [go_sem,Nat.reduceEqDiff,Nat.reduceAdd,Nat.reduceSub,Int.reduceAdd,Int.reduceSub,Int.reduceToNat]
    all_goals (try simp only [h4,if_true,if_false,go_sem])
    all_goals (repeat' first|rfl|constructor)
    try simp
   try simp (disch:=omega) only [go_sem,Nat.reduceEqDiff,Nat.reduceAdd,Nat.reduceSub,Int.reduceAdd,Int.reduceSub,Int.reduceToNat,h4]
   refine ah [] (qC) _ (by simp only [go_sem];rfl) (by rfl) (by rfl) ?_
   simp (disch:=omega) only [go_sem,Nat.reduceEqDiff,Nat.reduceAdd,Nat.reduceSub,Int.reduceAdd,Int.reduceSub,Int.reduceToNat]
   all_goals (try simp only [h4,if_true,if_false,go_sem])
   all_goals (repeat' first|rfl|constructor)
   try simp
  rw [mI,if_neg (by omega)] at hR
  subst hR
  refine ah [] (qC) _ (by simp only [go_sem];rfl) (by rfl) (by rfl) ?_
  simp (disch:=omega) only [go_sem,Nat.reduceEqDiff,Nat.reduceAdd,Nat.reduceSub,Int.reduceAdd,Int.reduceSub,Int.reduceToNat]
 rw [mI,if_neg (by simp [h1])] at hR
 subst hR
 refine ah [] (qC) _ (by simp only [go_sem];rfl) (by rfl) (by rfl) ?_
 simp (disch:=omega) only [go_sem,Nat.reduceEqDiff,Nat.reduceAdd,Nat.reduceSub,Int.reduceAdd,Int.reduceSub,Int.reduceToNat]
theorem gr (e:EndD) (x:LetterD) (hs:Small e):ae Tryz.prog 316 [.ag (e.cs 0),.ag x.cs] (e.hp false) (.sc (.int .i64 (gI e x))) (e.hp false):=by
 have hK:=(qH (be e))
 have hS:=sX e x (by have:=hs.subs;omega)
 obtain⟨R,hR⟩:∃ R,R=gI e x:=⟨_,rfl⟩
 rw [←hR]
 rw [gI] at hR
 refine qE Tryz.func316 Tryz.ntmps316 Tryz.results316 fun E hE=>?_
 refine qK (hK) (qI 0 7) ?_
 refine qB (fun h1=>?_) fun h1=>?_
 ·refine qK (cL x) [] ?_
  refine qB (fun h2=>?_) fun h2=>?_
  ·rw [if_neg (by simp [h1,h2])] at hR
   refine qJ (qI 0 7) ?_
   exact hR.symm
  rw [if_pos (by simp [h1,h2])] at hR
  refine qK (hS) (qI 0 7) ?_
  refine qJ (qI 0 7) ?_
  exact hR.symm
 rw [if_neg (by simp [h1])] at hR
 refine qJ (qI 0 7) ?_
 exact hR.symm
theorem qu (e:EndD) (x:LetterD) (hs:Small e):ae Tryz.prog 309 [.ag (e.cs 0),.ag x.cs] (e.hp false) (.tu [.ag ((bK e x).1.cs 7),.sc (.sl 14 0 (bK e x).2.length)])
  (e.hp false++((bK e x).1.hp true++[some ⟨(bK e x).2.map LetterD.cs,19,91,true,true⟩])):=by
 have hC:=(qH (aK e))
 have hK:=(qH (bf e))
 have hS:=ee e x (by have:=hs.subs;omega)
 have hbd:=eG e x
 have hL:=bt x
 have hf:=oB (e:=e) (x:=x)
 have ht:=fun (n:Nat)=> @oC e x n
 generalize bK e x=R at*
 refine qE Tryz.func309 Tryz.ntmps309 Tryz.results309 fun E hE=>?_
 refine qK (hC) (qI 0 7) ?_
 refine qK (hS) (qI 0 7) ?_
 refine qK (hK) (qI 0 7) ?_
 refine qB (fun h1=>?_) fun h1=>?_
 ·refine qK (hL) [] ?_
  refine qB (fun h2=>?_) fun h2=>?_
  ·rcases hbd with hk|⟨hb0,hb1⟩
   ·rw [hf (cb (by rintro⟨_,_,hh⟩;omega))]
    rw [hk]
    refine qX ?_
    exact qF (qI 0 7++qI 10 7++qO 1)
   obtain⟨n,hk⟩:=Int.eq_ofNat_of_zero_le hb0
   have hn:n < e.subs.length:=by omega
   rw [ht _ (kq h1 h2 hk) hk,gJ hn,hk]
   have e1:=iT e.subs n { e.subs[n] with state:=4 }
   simp only [SubD.cs] at e1
   try simp (disch:=omega) only [go_sem,seval,e1]
   refine ah (qI 0 7++qI 10 7++qO 1) (qC) _ (by simp only [go_sem];rfl) (by rfl) (by rfl) ?_
   simp (disch:=omega) only [go_sem,seval]
   try simp
  rw [hf (cb (by rintro⟨_,hh,_⟩;rw [h2] at hh;cases hh))]
  refine qX ?_
  exact qF (qI 0 7++qI 10 7++qO 1)
 rw [hf (cb (by rintro⟨hh,_⟩;rw [h1] at hh;cases hh))]
 refine qX ?_
 exact qF (qI 0 7++qI 10 7++qO 1)
theorem qv (e:EndD) (x:LetterD) (hs:Small e):ae Tryz.prog 292 [.ag (e.cs 0),.ag x.cs] (e.hp false) (.tu [.ag ((bK e x).1.cs 7),.sc (.sl 14 0 (bK e x).2.length)])
  (e.hp false++((bK e x).1.hp true++[some ⟨(bK e x).2.map LetterD.cs,19,91,true,true⟩])):=by
 have hC:=(qH (aD e))
 have hK:=(qH (be e))
 have hS:=gr e x hs
 have hbd:=fV e x
 have hf:=oB (e:=e) (x:=x)
 have ht:=fun (n:Nat)=> @oC e x n
 generalize bK e x=R at*
 refine qE Tryz.func292 Tryz.ntmps292 Tryz.results292 fun E hE=>?_
 refine qK (hC) (qI 0 7) ?_
 refine qK (hS) (qI 0 7) ?_
 rcases hbd with hon|⟨n,hon,hk,hn,_,_⟩
 ·rw [hf (by omega),hon]
  refine qX ?_
  exact qF (qI 0 7++qI 10 7++qI 18 1)
 rw [ht _ hon hk,gJ hn,hon]
 have e1:=iT e.subs n { e.subs[n] with state:=4 }
 simp only [SubD.cs] at e1
 try simp (disch:=omega) only [go_sem,seval,e1]
 refine ah (qI 0 7++qI 10 7++qI 18 1) (qC) _ (by simp only [go_sem];rfl) (by rfl) (by rfl) ?_
 simp (disch:=omega) only [go_sem,seval]
 try simp
theorem sY (e:EndD) (x:LetterD) (hs:Small e):ae Tryz.prog 308 [.ag (e.cs 0),.ag x.cs] (e.hp false) (.tu [.ag ((ce e x).1.cs 7),.sc (.sl 14 0 (ce e x).2.length)])
  (e.hp false++((ce e x).1.hp true++[some ⟨(ce e x).2.map LetterD.cs,19,91,true,true⟩])):=by
 have hC:=(qH (aK e))
 have hK:=(qH (bf e))
 have hS:=ee e x (by have:=hs.subs;omega)
 have hbd:=eG e x
 have hL:=bt x
 have hf:=qf (e:=e) (x:=x)
 have ht:= @qg e x
 generalize ce e x=R at*
 refine qE Tryz.func308 Tryz.ntmps308 Tryz.results308 fun E hE=>?_
 refine qK (hC) (qI 0 7) ?_
 refine qK (hK) (qI 0 7) ?_
 refine qB (fun h1=>?_) fun h1=>?_
 ·refine qK (hL) [] ?_
  refine qB (fun h2=>?_) fun h2=>?_
  ·refine qK (hS) (qI 0 7) ?_
   rcases hbd with hk|⟨hb0,hb1⟩
   ·rw [hf (cb (by rintro⟨_,_,hh⟩;omega))]
    rw [hk]
    refine qX ?_
    exact qF (qI 0 7++qI 10 7++qO 1)
   obtain⟨n,hk⟩:=Int.eq_ofNat_of_zero_le hb0
   rw [ht (by rw [kq h1 h2 hk];omega),hk]
   refine qX ?_
   refine qK (A0 e.out x.pos) [] ?_
   exact qF (qI 0 7++qI 10 7++qO 1)
  rw [hf (cb (by rintro⟨_,hh,_⟩;rw [h2] at hh;cases hh))]
  refine qX ?_
  exact qF (qI 0 7++qI 10 7++qO 1)
 rw [hf (cb (by rintro⟨hh,_⟩;rw [h1] at hh;cases hh))]
 refine qX ?_
 exact qF (qI 0 7++qI 10 7++qO 1)
theorem sZ (e:EndD) (x:LetterD) (hs:Small e):ae Tryz.prog 291 [.ag (e.cs 0),.ag x.cs] (e.hp false) (.tu [.ag ((ce e x).1.cs 7),.sc (.sl 14 0 (ce e x).2.length)])
  (e.hp false++((ce e x).1.hp true++[some ⟨(ce e x).2.map LetterD.cs,19,91,true,true⟩])):=by
 have hC:=(qH (aD e))
 have hK:=(qH (be e))
 have hS:=gr e x hs
 have hbd:=fV e x
 have hf:=qf (e:=e) (x:=x)
 have ht:= @qg e x
 generalize ce e x=R at*
 refine qE Tryz.func291 Tryz.ntmps291 Tryz.results291 fun E hE=>?_
 refine qK (hC) (qI 0 7) ?_
 refine qK (hS) (qI 0 7) ?_
 rcases hbd with hon|⟨n,hon,hk,hn,_,_⟩
 ·rw [hf (by omega),hon]
  refine qX ?_
  exact qF (qI 0 7++qI 10 7++qI 18 1)
 rw [ht (by omega),hon]
 refine qX ?_
 refine qK (A1 e.out x.pos) [] ?_
 exact qF (qI 0 7++qI 10 7++qI 18 1)
theorem nP (e:EndD) (x:LetterD) (hs:Small e):ae Tryz.prog 303 [.ag (e.cs 0),.ag x.cs] (e.hp false) (.tu [.ag ((bh e x).1.cs 7),.sc (.sl 14 0 (bh e x).2.length)])
  (e.hp false++((bh e x).1.hp true++[some ⟨(bh e x).2.map LetterD.cs,19,91,true,true⟩])):=by
 have hC:=(qH (aK e))
 have hK:=(qH (bf e))
 have hS:=eI e (ak x) (by have:=hs.subs;omega)
 have hL:=bt x
 have hbd:=eF e.subs (ak x)
 have hf:=NB (e:=e) (x:=x)
 have ht:=fun (n:Nat)=> @NC e x n
 generalize bh e x=R at*
 refine qE Tryz.func303 Tryz.ntmps303 Tryz.results303 fun E hE=>?_
 refine qK (hC) (qI 0 7) ?_
 refine qD [0,1,2,3,4] ?_
 refine az (di x) [] ?_
 refine az (hS) (qI 0 7) ?_
 refine qG ?_
 rcases hbd with hk|⟨hb0,hb1⟩
 ·rw [hf (EE hk),hk]
  refine qD [0,1,2,3,4,5,6,7,8,9,10,11,12,13,14,15,16,17,18,19,20,21,22,23,24,25,26,27,28,29] ?_
  refine az (hK) (qI 0 7) ?_
  refine qB (fun h1=>?_) fun h1=>?_
  ·refine az (hL) [] ?_
   refine qB (fun h2=>?_) fun h2=>?_
   ·refine qG ?_
    exact qF (qI 0 7++qI 10 7++qO 1)
   refine qG ?_
   exact qF (qI 0 7++qI 10 7++qO 1)
  refine qG ?_
  exact qF (qI 0 7++qI 10 7++qO 1)
 obtain⟨n,hk⟩:=Int.eq_ofNat_of_zero_le hb0
 have hn:n < e.subs.length:=by omega
 have ha:=ED hk hn
 rw [hk]
 refine qD [0,1,2,3,4,5,6,7,8,9,10,11,12,13,14,15,16,17,18,19,20,21,22,23,24,25,26,27,28,29] ?_
 refine az (hK) (qI 0 7) ?_
 refine qB (fun h1=>?_) fun h1=>?_
 ·refine az (hL) [] ?_
  refine qB (fun h2=>?_) fun h2=>?_
  ·refine qB (fun h3=>?_) fun h3=>?_
   ·refine qG ?_
    refine qB (fun h4=>?_) fun h4=>?_
    ·rw [ht _ (by rw [ha];simp [h1,h2,h3,h4]) hk,gJ hn]
     have e1:=iT e.subs n { e.subs[n] with state:=3 }
     simp only [SubD.cs] at e1
     try simp (disch:=omega) only [go_sem,seval,e1]
     refine ah (qI 0 7++qI 10 7++qO 1) (qC) _ (by simp only [go_sem];rfl) (by rfl) (by rfl) ?_
     simp (disch:=omega) only [go_sem,seval]
     try simp
    rw [hf (by rw [ha];simp [h1,h2,h3,h4])]
    refine qX ?_
    exact qF (qI 0 7++qI 10 7++qO 1)
   rw [hf (by rw [ha];simp [h1,h2,h3])]
   refine qG ?_
   exact qF (qI 0 7++qI 10 7++qO 1)
  rw [hf (by rw [ha];simp [h1,h2])]
  refine qG ?_
  exact qF (qI 0 7++qI 10 7++qO 1)
 rw [hf (by rw [ha];simp [h1])]
 refine qG ?_
 exact qF (qI 0 7++qI 10 7++qO 1)
theorem nQ (e:EndD) (x:LetterD) (hs:Small e):ae Tryz.prog 286 [.ag (e.cs 0),.ag x.cs] (e.hp false) (.tu [.ag ((bh e x).1.cs 7),.sc (.sl 14 0 (bh e x).2.length)])
  (e.hp false++((bh e x).1.hp true++[some ⟨(bh e x).2.map LetterD.cs,19,91,true,true⟩])):=by
 have hC:=(qH (aD e))
 have hK:=(qH (be e))
 have hS:=eJ e (ak x) (by have:=hs.subs;omega)
 have hL:=cL x
 have hbd:=eF e.subs (ak x)
 have hf:=NB (e:=e) (x:=x)
 have ht:=fun (n:Nat)=> @NC e x n
 generalize bh e x=R at*
 refine qE Tryz.func286 Tryz.ntmps286 Tryz.results286 fun E hE=>?_
 refine qK (hC) (qI 0 7) ?_
 refine qD [0,1,2,3,4] ?_
 refine az (ci x) [] ?_
 refine az (hS) (qI 0 7) ?_
 refine qG ?_
 rcases hbd with hk|⟨hb0,hb1⟩
 ·rw [hf (EE hk),hk]
  refine qD [0,1,2,3,4,5,6,7,8,9,10,11,12,13,14,15,16,17,18,19,20,21,22,23,24,25,26,27,28,29] ?_
  refine az (hK) (qI 0 7) ?_
  refine qB (fun h1=>?_) fun h1=>?_
  ·refine az (hL) [] ?_
   refine qB (fun h2=>?_) fun h2=>?_
   ·refine qG ?_
    exact qF (qI 0 7++qI 10 7++qI 18 1)
   refine qG ?_
   exact qF (qI 0 7++qI 10 7++qI 18 1)
  refine qG ?_
  exact qF (qI 0 7++qI 10 7++qI 18 1)
 obtain⟨n,hk⟩:=Int.eq_ofNat_of_zero_le hb0
 have hn:n < e.subs.length:=by omega
 have ha:=ED hk hn
 rw [hk]
 refine qD [0,1,2,3,4,5,6,7,8,9,10,11,12,13,14,15,16,17,18,19,20,21,22,23,24,25,26,27,28,29] ?_
 refine az (hK) (qI 0 7) ?_
 refine qB (fun h1=>?_) fun h1=>?_
 ·refine az (hL) [] ?_
  refine qB (fun h2=>?_) fun h2=>?_
  ·refine qB (fun h3=>?_) fun h3=>?_
   ·refine qG ?_
    refine qB (fun h4=>?_) fun h4=>?_
    ·rw [ht _ (by rw [ha];simp [h1,h2,h3,h4]) hk,gJ hn]
     have e1:=iT e.subs n { e.subs[n] with state:=3 }
     simp only [SubD.cs] at e1
     try simp (disch:=omega) only [go_sem,seval,e1]
     refine ah (qI 0 7++qI 10 7++qI 18 1) (qC) _ (by simp only [go_sem];rfl) (by rfl) (by rfl) ?_
     simp (disch:=omega) only [go_sem,seval]
     try simp
    rw [hf (by rw [ha];simp [h1,h2,h3,h4])]
    refine qX ?_
    exact qF (qI 0 7++qI 10 7++qI 18 1)
   rw [hf (by rw [ha];simp [h1,h2,h3])]
   refine qG ?_
   exact qF (qI 0 7++qI 10 7++qI 18 1)
  rw [hf (by rw [ha];simp [h1,h2])]
  refine qG ?_
  exact qF (qI 0 7++qI 10 7++qI 18 1)
 rw [hf (by rw [ha];simp [h1])]
 refine qG ?_
 exact qF (qI 0 7++qI 10 7++qI 18 1)
theorem s_ (e:EndD) (x:LetterD) (hs:Small e):ae Tryz.prog 180 [.ag (e.cs 0),.ag x.cs] (e.hp false) (.tu [.ag ((cf e x).1.cs 7),.sc (.sl 14 0 (cf e x).2.length)])
  (e.hp false++((cf e x).1.hp true++[some ⟨(cf e x).2.map LetterD.cs,19,91,true,true⟩])):=by
 have hC:=(qH (aK e))
 have hK:=(qH (bf e))
 have hS:=eI e (ak x) (by have:=hs.subs;omega)
 have hL:=bt x
 have hbd:=eF e.subs (ak x)
 have hf:=EF (e:=e) (x:=x)
 have ht:=fun (n:Nat)=> @EG e x n
 generalize cf e x=R at*
 refine qE Tryz.func180 Tryz.ntmps180 Tryz.results180 fun E hE=>?_
 refine qK (hC) (qI 0 7) ?_
 refine qK (di x) [] ?_
 refine qK (hS) (qI 0 7) ?_
 rcases hbd with hk|⟨hb0,hb1⟩
 ·rw [hf (zW hk),hk]
  refine qX ?_
  refine qK (hK) (qI 0 7) ?_
  refine qB (fun h1=>?_) fun h1=>?_
  ·refine qK (hL) [] ?_
   refine qB (fun h2=>?_) fun h2=>?_
   ·refine qB (fun h3=>?_) fun h3=>?_
    ·refine qX ?_
     exact qF (qI 0 7++qI 10 7++qO 1)
    refine qX ?_
    exact qF (qI 0 7++qI 10 7++qO 1)
   refine qX ?_
   exact qF (qI 0 7++qI 10 7++qO 1)
  refine qX ?_
  exact qF (qI 0 7++qI 10 7++qO 1)
 obtain⟨n,hk⟩:=Int.eq_ofNat_of_zero_le hb0
 have hn:n < e.subs.length:=by omega
 have ha:=zV hk hn
 rw [hk]
 refine qX ?_
 refine qK (hK) (qI 0 7) ?_
 refine qB (fun h1=>?_) fun h1=>?_
 ·refine qK (hL) [] ?_
  refine qB (fun h2=>?_) fun h2=>?_
  ·refine qB (fun h3=>?_) fun h3=>?_
   ·refine qB (fun h4=>?_) fun h4=>?_
    ·refine qK (aO _ _ _) [] ?_
     refine qB (fun h5=>?_) fun h5=>?_
     ·rw [hf (by rw [ha];simp [h1,h2,h3,h4,h5])]
      refine qX ?_
      exact qF (qI 0 7++qI 10 7++qO 1)
     rw [ht _ (by rw [ha];simp [h1,h2,h3,h4,h5]) hk hn]
     have e1:=iT e.subs n { e.subs[n] with state:=3 }
     have e2:=iT (e.subs.set n { e.subs[n] with state:=3 }) n { e.subs[n] with state:=3,give:=x.give }
     rw [List.set_set] at e2
     simp only [SubD.cs] at e1 e2
     refine qX ?_
     refine qK (xE x.frm) [] ?_
     try simp (disch:=omega) only [go_sem,seval,e1,e2]
     refine aT [(4,5)] [(qU [0,7]),[0,1,2,3,5,4,6]] (by kernel_rfl) (qC) (by kernel_rfl) ?_
     simp only [aQ]
     refine⟨aa 400 ?_,aa 400 ?_⟩
     all_goals simp (disch:=omega) only [go_sem,seval]
     all_goals
      refine az (bg (ak x) { aw with kind:=3 }) [] ?_
      refine qG ?_
      refine ah (qI 0 7++qI 10 1++qI 19 1++qI 12 5++qI 20 1) (qC) _ (by simp only [go_sem];rfl) (by rfl) (by rfl) ?_
      simp (disch:=omega) only [go_sem,seval]
      try simp [gp,SubD.cs,LetterD.cs,ak,bc,aw]
      try omega
    rw [hf (by rw [ha];simp [h1,h2,h3,h4])]
    refine qX ?_
    exact qF (qI 0 7++qI 10 7++qO 1)
   rw [hf (by rw [ha];simp [h1,h2,h3])]
   refine qX ?_
   exact qF (qI 0 7++qI 10 7++qO 1)
  rw [hf (by rw [ha];simp [h1,h2])]
  refine qX ?_
  exact qF (qI 0 7++qI 10 7++qO 1)
 rw [hf (by rw [ha];simp [h1])]
 refine qX ?_
 exact qF (qI 0 7++qI 10 7++qO 1)
theorem ta (e:EndD) (x:LetterD) (hs:Small e):ae Tryz.prog 163 [.ag (e.cs 0),.ag x.cs] (e.hp false) (.tu [.ag ((cf e x).1.cs 7),.sc (.sl 14 0 (cf e x).2.length)])
  (e.hp false++((cf e x).1.hp true++[some ⟨(cf e x).2.map LetterD.cs,19,91,true,true⟩])):=by
 have hC:=(qH (aD e))
 have hK:=(qH (be e))
 have hS:=eJ e (ak x) (by have:=hs.subs;omega)
 have hL:=cL x
 have hbd:=eF e.subs (ak x)
 have hf:=EF (e:=e) (x:=x)
 have ht:=fun (n:Nat)=> @EG e x n
 generalize cf e x=R at*
 refine qE Tryz.func163 Tryz.ntmps163 Tryz.results163 fun E hE=>?_
 refine qK (hC) (qI 0 7) ?_
 refine qD [0,1,2,3,4] ?_
 refine az (ci x) [] ?_
 refine az (hS) (qI 0 7) ?_
 refine qG ?_
 rcases hbd with hk|⟨hb0,hb1⟩
 ·rw [hf (zW hk),hk]
  refine qX ?_
  refine qK (hK) (qI 0 7) ?_
  refine qB (fun h1=>?_) fun h1=>?_
  ·refine qK (hL) [] ?_
   refine qB (fun h2=>?_) fun h2=>?_
   ·refine qB (fun h3=>?_) fun h3=>?_
    ·refine qX ?_
     exact qF (qI 0 7++qI 10 7++qI 18 1)
    refine qX ?_
    exact qF (qI 0 7++qI 10 7++qI 18 1)
   refine qX ?_
   exact qF (qI 0 7++qI 10 7++qI 18 1)
  refine qX ?_
  exact qF (qI 0 7++qI 10 7++qI 18 1)
 obtain⟨n,hk⟩:=Int.eq_ofNat_of_zero_le hb0
 have hn:n < e.subs.length:=by omega
 have ha:=zV hk hn
 rw [hk]
 refine qX ?_
 refine qK (hK) (qI 0 7) ?_
 refine qB (fun h1=>?_) fun h1=>?_
 ·refine qK (hL) [] ?_
  refine qB (fun h2=>?_) fun h2=>?_
  ·refine qB (fun h3=>?_) fun h3=>?_
   ·refine qB (fun h4=>?_) fun h4=>?_
    ·refine qK (aM _ _ _) [] ?_
     refine qB (fun h5=>?_) fun h5=>?_
     ·rw [hf (by rw [ha];simp [h1,h2,h3,h4,h5])]
      refine qX ?_
      exact qF (qI 0 7++qI 10 7++qI 18 1)
     rw [ht _ (by rw [ha];simp [h1,h2,h3,h4,h5]) hk hn]
     have e1:=iT e.subs n { e.subs[n] with state:=3 }
     have e2:=iT (e.subs.set n { e.subs[n] with state:=3 }) n { e.subs[n] with state:=3,give:=x.give }
     rw [List.set_set] at e2
     simp only [SubD.cs] at e1 e2
     refine qX ?_
     refine qK (oK x.frm) [] ?_
     try simp (disch:=omega) only [go_sem,seval,e1,e2]
     refine aT [(0,7),(3,0),(5,0),(6,0)] [[1,2,4,3,5,6,0,7,8,9],[1,2,4,3,5,0,6,7,8,9],[1,2,4,3,0,5,6,7,8,9],[1,2,4,0,3,5,6,7,8,9],[1,2,4,3,5,6,7,0,8,9]] (by kernel_rfl) (qC) (by kernel_rfl) ?_
     simp only [aQ]
     refine⟨aa 400 ?_,aa 400 ?_,aa 400 ?_,aa 400 ?_,aa 400 ?_⟩
     all_goals simp (disch:=omega) only [go_sem,seval]
     all_goals
      refine az (ci x) [] ?_
      refine az (aX (ak x) { aw with kind:=3 }) [] ?_
      refine qG ?_
      refine ah (qI 0 7++qI 10 1++qI 19 1++qI 12 5++qI 21 1) (qC) _ (by simp only [go_sem];rfl) (by rfl) (by rfl) ?_
      simp (disch:=omega) only [go_sem,seval]
      try simp [gp,SubD.cs,LetterD.cs,ak,bc,aw]
      try omega
    rw [hf (by rw [ha];simp [h1,h2,h3,h4])]
    refine qX ?_
    exact qF (qI 0 7++qI 10 7++qI 18 1)
   rw [hf (by rw [ha];simp [h1,h2,h3])]
   refine qX ?_
   exact qF (qI 0 7++qI 10 7++qI 18 1)
  rw [hf (by rw [ha];simp [h1,h2])]
  refine qX ?_
  exact qF (qI 0 7++qI 10 7++qI 18 1)
 rw [hf (by rw [ha];simp [h1])]
 refine qX ?_
 exact qF (qI 0 7++qI 10 7++qI 18 1)
end
section
open Go.RowKit
theorem m_ (k:KnownD) (t:TagD) (h0:k.keys.length≤1048576) (h1:k.tags.length≤1048576):ae Tryz.prog 250 [.ag (k.cs 0),.ag t.cs] (k.hp false) (.sc (.bo (fU k t))) (k.hp false):=by
 obtain⟨R,hR⟩:∃ R,R=fU k t:=⟨_,rfl⟩
 rw [←hR]
 rw [fU] at hR
 have hcmp:=TagD.cmp t jy
 simp only [TagD.cs,jy,go_sem] at hcmp
 have ht:jy=⟨0,0,0,0,0⟩:=rfl
 refine qE Tryz.func250 Tryz.ntmps250 Tryz.results250 fun E hE=>?_
 try simp (disch:=omega) only [go_sem,seval,hcmp]
 refine qB (fun b1=>?_) fun b1=>?_
 ·have b1':=of_decide_eq_false b1
  refine qK (eH k.keys t.one h0) (qI 0 1) ?_
  refine qB (fun b2=>?_) fun b2=>?_
  ·refine qK (eH k.keys t.two h0) (qI 0 1) ?_
   refine qB (fun b3=>?_) fun b3=>?_
   ·have hR':R=true:=by rw [hR];simp [b2,b3]
    subst hR'
    refine qX ?_
    exact qF (qI 0 2)
   have hR':R=(k.tags.take 300).any (fun u=>decide (u=t)):=by rw [hR,ht];simp [b1',b2,b3]
   refine qX ?_
   refine an 2 hE (fun s (i:Nat)=>s.at (qU [0,2,4,1,6,35]) [(5,.sc (.int .i64 (i:Nat)))] (s.hp)) (fun (i:Nat)=>i≤k.tags.length∧i≤300∧((k.tags.take 300).drop i).any (fun u=>decide (u=t))=R) (fun (i:Nat)=>k.tags.length - i) 0 (qI 0 4) (qC) (⟨Nat.zero_le _,Nat.zero_le _,by rw [hR'];rfl⟩) (af (by rfl) (by rfl) ?_) fun i hi N hN=>?_
   ·exact qY
   obtain⟨hi1,hi2,hi3⟩:=hi
   refine qR ?_
   refine qB (fun h=>?_) fun h=>?_
   ·refine qB (fun h2=>?_) fun h2=>?_
    ·rw [eB (by simp;omega),List.getElem_take] at hi3
     have hcm:=TagD.cmp k.tags[i] t
     simp only [TagD.cs,go_sem] at hcm
     refine qX ?_
     refine qD [0,1,2,3,4,5,6] ?_
     refine⟨qC,ac 400 ?_⟩
     try simp (disch:=omega) only [go_sem,seval,hcm]
     refine qB (fun h3=>?_) fun h3=>?_
     ·rw [decide_eq_true h3,Bool.true_or] at hi3
      subst hi3
      refine qX ?_
      exact qF (qI 0 2)
     rw [decide_eq_false h3,Bool.false_or] at hi3
     exact qN hN (i+1) (qI 0 4) (by (try dsimp only);exact⟨by omega,by omega,hi3⟩)
    rw [d7 (by simp;omega)] at hi3
    subst hi3
    refine qX ?_
    exact qF (qI 0 2)
   rw [d7 (by simp;omega)] at hi3
   subst hi3
   refine qX ?_
   exact qF (qI 0 2)
  have hR':R=(k.tags.take 300).any (fun u=>decide (u=t)):=by rw [hR,ht];simp [b1',b2]
  refine qX ?_
  refine an 2 hE (fun s (i:Nat)=>s.at (qU [0,2,4,1,6,35]) [(5,.sc (.int .i64 (i:Nat)))] (s.hp)) (fun (i:Nat)=>i≤k.tags.length∧i≤300∧((k.tags.take 300).drop i).any (fun u=>decide (u=t))=R) (fun (i:Nat)=>k.tags.length - i) 0 (qI 0 4) (qC) (⟨Nat.zero_le _,Nat.zero_le _,by rw [hR'];rfl⟩) (af (by rfl) (by rfl) ?_) fun i hi N hN=>?_
  ·exact qY
  obtain⟨hi1,hi2,hi3⟩:=hi
  refine qR ?_
  refine qB (fun h=>?_) fun h=>?_
  ·refine qB (fun h2=>?_) fun h2=>?_
   ·rw [eB (by simp;omega),List.getElem_take] at hi3
    have hcm:=TagD.cmp k.tags[i] t
    simp only [TagD.cs,go_sem] at hcm
    refine qX ?_
    refine qD [0,1,2,3,4,5,6] ?_
    refine⟨qC,ac 400 ?_⟩
    try simp (disch:=omega) only [go_sem,seval,hcm]
    refine qB (fun h3=>?_) fun h3=>?_
    ·rw [decide_eq_true h3,Bool.true_or] at hi3
     subst hi3
     refine qX ?_
     exact qF (qI 0 2)
    rw [decide_eq_false h3,Bool.false_or] at hi3
    exact qN hN (i+1) (qI 0 4) (by (try dsimp only);exact⟨by omega,by omega,hi3⟩)
   rw [d7 (by simp;omega)] at hi3
   subst hi3
   refine qX ?_
   exact qF (qI 0 2)
  rw [d7 (by simp;omega)] at hi3
  subst hi3
  refine qX ?_
  exact qF (qI 0 2)
 have b1':=of_decide_eq_true b1
 have hR':R=true:=by rw [hR,ht];simp [b1']
 subst hR'
 refine qX ?_
 exact qF (qI 0 2)
theorem na (k:KnownD) (t:TagD) (h0:k.keys.length≤1048576) (h1:k.tags.length≤1048576):ae Tryz.prog 126 [.ag (k.cs 0),.ag t.cs] (k.hp false) (.sc (.bo (fU k t))) (k.hp false):=by
 obtain⟨R,hR⟩:∃ R,R=fU k t:=⟨_,rfl⟩
 rw [←hR]
 rw [fU] at hR
 have hcmp:=TagD.cmp t jy
 simp only [TagD.cs,jy,go_sem] at hcmp
 have ht:jy=⟨0,0,0,0,0⟩:=rfl
 refine qE Tryz.func126 Tryz.ntmps126 Tryz.results126 fun E hE=>?_
 try simp (disch:=omega) only [go_sem,seval,hcmp]
 refine qB (fun b1=>?_) fun b1=>?_
 ·have b1':=of_decide_eq_false b1
  refine qK (fF k.keys t.one h0) (qI 0 1) ?_
  refine qB (fun b2=>?_) fun b2=>?_
  ·refine qK (fF k.keys t.two h0) (qI 0 1) ?_
   refine qB (fun b3=>?_) fun b3=>?_
   ·have hR':R=true:=by rw [hR];simp [b2,b3]
    subst hR'
    refine qX ?_
    exact qF (qI 0 2)
   have hR':R=(k.tags.take 300).any (fun u=>decide (u=t)):=by rw [hR,ht];simp [b1',b2,b3]
   refine qX ?_
   refine an 2 hE (fun s (i:Nat)=>s.at (qU [0,2,4,1,6,35]) [(5,.sc (.int .i64 (i:Nat)))] (s.hp)) (fun (i:Nat)=>i≤k.tags.length∧i≤300∧((k.tags.take 300).drop i).any (fun u=>decide (u=t))=R) (fun (i:Nat)=>k.tags.length - i) 0 (qI 0 4) (qC) (⟨Nat.zero_le _,Nat.zero_le _,by rw [hR'];rfl⟩) (af (by rfl) (by rfl) ?_) fun i hi N hN=>?_
   ·exact qY
   obtain⟨hi1,hi2,hi3⟩:=hi
   refine qR ?_
   refine qB (fun h=>?_) fun h=>?_
   ·refine qB (fun h2=>?_) fun h2=>?_
    ·rw [eB (by simp;omega),List.getElem_take] at hi3
     have hcm:=TagD.cmp k.tags[i] t
     simp only [TagD.cs,go_sem] at hcm
     refine qX ?_
     refine qD [0,1,2,3,4,5,6] ?_
     refine⟨qC,ac 400 ?_⟩
     try simp (disch:=omega) only [go_sem,seval,hcm]
     refine qB (fun h3=>?_) fun h3=>?_
     ·rw [decide_eq_true h3,Bool.true_or] at hi3
      subst hi3
      refine qX ?_
      exact qF (qI 0 2)
     rw [decide_eq_false h3,Bool.false_or] at hi3
     exact qN hN (i+1) (qI 0 4) (by (try dsimp only);exact⟨by omega,by omega,hi3⟩)
    rw [d7 (by simp;omega)] at hi3
    subst hi3
    refine qX ?_
    exact qF (qI 0 2)
   rw [d7 (by simp;omega)] at hi3
   subst hi3
   refine qX ?_
   exact qF (qI 0 2)
  have hR':R=(k.tags.take 300).any (fun u=>decide (u=t)):=by rw [hR,ht];simp [b1',b2]
  refine qX ?_
  refine an 2 hE (fun s (i:Nat)=>s.at (qU [0,2,4,1,6,35]) [(5,.sc (.int .i64 (i:Nat)))] (s.hp)) (fun (i:Nat)=>i≤k.tags.length∧i≤300∧((k.tags.take 300).drop i).any (fun u=>decide (u=t))=R) (fun (i:Nat)=>k.tags.length - i) 0 (qI 0 4) (qC) (⟨Nat.zero_le _,Nat.zero_le _,by rw [hR'];rfl⟩) (af (by rfl) (by rfl) ?_) fun i hi N hN=>?_
  ·exact qY
  obtain⟨hi1,hi2,hi3⟩:=hi
  refine qR ?_
  refine qB (fun h=>?_) fun h=>?_
  ·refine qB (fun h2=>?_) fun h2=>?_
   ·rw [eB (by simp;omega),List.getElem_take] at hi3
    have hcm:=TagD.cmp k.tags[i] t
    simp only [TagD.cs,go_sem] at hcm
    refine qX ?_
    refine qD [0,1,2,3,4,5,6] ?_
    refine⟨qC,ac 400 ?_⟩
    try simp (disch:=omega) only [go_sem,seval,hcm]
    refine qB (fun h3=>?_) fun h3=>?_
    ·rw [decide_eq_true h3,Bool.true_or] at hi3
     subst hi3
     refine qX ?_
     exact qF (qI 0 2)
    rw [decide_eq_false h3,Bool.false_or] at hi3
    exact qN hN (i+1) (qI 0 4) (by (try dsimp only);exact⟨by omega,by omega,hi3⟩)
   rw [d7 (by simp;omega)] at hi3
   subst hi3
   refine qX ?_
   exact qF (qI 0 2)
  rw [d7 (by simp;omega)] at hi3
  subst hi3
  refine qX ?_
  exact qF (qI 0 2)
 have b1':=of_decide_eq_true b1
 have hR':R=true:=by rw [hR,ht];simp [b1']
 subst hR'
 refine qX ?_
 exact qF (qI 0 2)
theorem eV (l:List LetterD) (hl:l.length≤1048576):ae Tryz.prog 141 [.sc (.sl 0 0 l.length)] [some ⟨l.map LetterD.cs,19,91,false,true⟩] (.sc (.sl 1 0 l.length)) [some ⟨l.map LetterD.cs,19,91,false,true⟩,some ⟨l.map LetterD.cs,19,91,true,true⟩]:=by
 refine qE Tryz.func141 Tryz.ntmps141 Tryz.results141 fun E hE=>?_
 exact qF (qI 0 1++qI 2 1)
theorem kA (k:KnownD) (h0:k.keys.length≤1048576) (h1:k.tags.length≤1048576):ae Tryz.prog 142 [.ag (k.cs 0)] (k.hp false) (.ag (k.cs 2)) (k.hp false++k.hp true):=by
 refine qE Tryz.func142 Tryz.ntmps142 Tryz.results142 fun E hE=>?_
 refine aT [(2,3)] [[0,1,4,5,2,3,6,7,8],[0,1,4,5,3,2,6,7,8]] (by kernel_rfl) (qC) (by kernel_rfl) ?_
 simp only [aQ]
 refine⟨aa 400 ?_,aa 400 ?_⟩
 all_goals simp (disch:=omega) only [go_sem,seval]
 ·refine az (cv k.keys h0) (qI 0 1) ?_
  refine qG ?_
  exact qF (qI 0 2++qI 4 1++qI 6 1)
 refine az (cv k.keys h0) (qI 0 1) ?_
 refine qG ?_
 exact qF (qI 0 2++qI 5 2)
theorem z2 (l:List TagD) (h:TagD):l.map TagD.cs++[h.cs]=(l++[h]).map TagD.cs:=by simp
theorem z3 {k:KnownD} {t:TagD} (h:fU k t=false) (h2:k.tags.length < 300):dY k t={ k with tags:=k.tags++[t] }:=if_pos ⟨h,h2⟩
theorem xP {k:KnownD} {t:TagD} (h:fU k t=true):dY k t=k:=if_neg (by simp [h])
theorem xQ {k:KnownD} {t:TagD} (h2:¬ k.tags.length < 300):dY k t=k:=if_neg (fun h=>h2 h.2)
theorem ru (k:KnownD) (t:TagD) (h0:k.keys.length≤1048576) (h1:k.tags.length≤1048576):ae Tryz.prog 247 [.ag (k.cs 0),.ag t.cs] (k.hp false) (.ag ((dY k t).cs 2)) (k.hp false++(dY k t).hp true):=by
 have hM:=m_ k t h0 h1
 have ht:=z3 (k:=k) (t:=t)
 have hf1:=xP (k:=k) (t:=t)
 have hf2:=xQ (k:=k) (t:=t)
 generalize dY k t=R at*
 refine qE Tryz.func247 Tryz.ntmps247 Tryz.results247 fun E hE=>?_
 refine qK (kA k h0 h1) (qI 0 2) ?_
 refine qK (hM) (qI 0 2) ?_
 refine qB (fun b1=>?_) fun b1=>?_
 ·refine qB (fun b2=>?_) fun b2=>?_
  ·rw [ht b1 (by omega)]
   have e:=z2 k.tags t
   simp only [TagD.cs] at e
   try simp (disch:=omega) only [go_sem,seval,e]
   refine ah (qI 0 2++qI 5 1++qI 9 1) (qC) _ (by simp only [go_sem];rfl) (by rfl) (by rfl) ?_
   simp (disch:=omega) only [go_sem,seval]
   try simp
  rw [hf2 (by omega)]
  refine qX ?_
  exact qF (qI 0 2++qI 5 2)
 rw [hf1 b1]
 refine qX ?_
 exact qF (qI 0 2++qI 5 2)
end
section
open Go.RowKit
def c7 (x:WorldD) (p0 p1 p2 p3 p4 p5 p6 p7 p8 p9 p10 p11 p12 p13 p14 p15 p16 p17 p18 p19 p20:Nat):List Sc:=[.int .i64 x.a.side,.int .i64 x.a.state,.int .i64 x.a.key,.int .i64 x.a.peer,.int .i64 x.a.policy.kind,.int .i64 x.a.policy.many,.sl p0 0 x.a.own.length,.sl p1 0 x.a.far.length,.sl p2 0 x.a.subs.length,.sl p3 0 x.a.halfs.length,.int .i64 x.a.bucket.rate,.int .i64 x.a.bucket.burst,.int .i64 x.a.bucket.cur,.st x.a.out.text,.int .i64 x.a.out.base,.int .i64 x.a.out.sent,.int .i64 x.a.out.room,.int .i64 x.a.inp.read,.st x.a.inp.ready,.sl p4 0 x.a.inp.list.length,.sl p5 0 x.a.done.length,.sl p6 0 x.a.over.length,.int .i64 x.a.draw,.int .i64 x.a.now,.int .i64 x.a.pick,.int .i64 x.b.side,.int .i64 x.b.state,.int .i64 x.b.key,.int .i64 x.b.peer,.int .i64 x.b.policy.kind,.int .i64 x.b.policy.many,.sl p7 0 x.b.own.length,.sl p8 0 x.b.far.length,.sl p9 0 x.b.subs.length,.sl p10 0 x.b.halfs.length,.int .i64 x.b.bucket.rate,.int .i64 x.b.bucket.burst,.int .i64 x.b.bucket.cur,.st x.b.out.text,.int .i64 x.b.out.base,.int .i64 x.b.out.sent,.int .i64 x.b.out.room,.int .i64 x.b.inp.read,.st x.b.inp.ready,.sl p11 0 x.b.inp.list.length,.sl p12 0 x.b.done.length,.sl p13 0 x.b.over.length,.int .i64 x.b.draw,.int .i64 x.b.now,.int .i64 x.b.pick,.sl p14 0 x.bag.length,.sl p15 0 x.past.length,.st x.wroteA,.st x.wroteB,.st x.readA,.st x.readB,.sl p16 0 x.known.keys.length,.sl p17 0 x.known.tags.length,.sl p18 0 x.nums.length,.sl p19 0 x.answersA.length,.sl p20 0 x.answersB.length]
attribute [go_sem] c7
structure SmallW (w:WorldD):Prop where
 a:Small w.a
 b:Small w.b
 bag:w.bag.length≤1048576
 past:w.past.length≤1048576
 keys:w.known.keys.length≤1048576
 tags:w.known.tags.length≤1048576
 nums:w.nums.length≤1048576
 ansA:w.answersA.length≤1048576
 ansB:w.answersB.length≤1048576
theorem rv (k:KnownD) (t:TagD) (h0:k.keys.length≤1048576) (h1:k.tags.length≤1048576):ae Tryz.prog 218 [.ag (k.cs 0),.ag t.cs] (k.hp false) (.ag ((dY k t).cs 2)) (k.hp false++(dY k t).hp true):=by
 have hM:=na k t h0 h1
 have ht:=z3 (k:=k) (t:=t)
 have hf1:=xP (k:=k) (t:=t)
 have hf2:=xQ (k:=k) (t:=t)
 generalize dY k t=R at*
 refine qE Tryz.func218 Tryz.ntmps218 Tryz.results218 fun E hE=>?_
 refine aI [(0,6),(0,4),(0,9),(3,6),(3,4),(3,9),(4,9),(7,9),(9,6),(4,6)] [(0,3),(3,7),(4,7),(6,7)] [[1,2,5,0,3,4,6,7,8,9,10],[1,2,5,0,3,6,4,7,8,9,10],[1,2,5,0,3,4,9,6,7,8,10],[1,2,5,0,3,4,6,9,7,8,10],[1,2,5,0,3,6,4,9,7,8,10],[1,2,5,0,3,9,4,6,7,8,10],[1,2,5,0,3,9,6,4,7,8,10],[1,2,5,0,3,6,9,4,7,8,10],[1,2,5,0,9,3,4,6,7,8,10],[1,2,5,0,9,3,6,4,7,8,10],[1,2,5,0,4,3,6,7,8,9,10],[1,2,5,0,4,3,9,6,7,8,10],[1,2,5,0,4,3,6,9,7,8,10],[1,2,5,0,4,9,3,6,7,8,10],[1,2,5,0,9,4,3,6,7,8,10],[1,2,5,0,6,3,4,7,8,9,10],[1,2,5,0,6,3,4,9,7,8,10],[1,2,5,0,6,3,9,4,7,8,10],[1,2,5,0,9,6,3,4,7,8,10],[1,2,5,0,6,9,3,4,7,8,10],[1,2,5,0,4,6,3,7,8,9,10],[1,2,5,0,6,4,3,7,8,9,10],[1,2,5,0,4,6,3,9,7,8,10],[1,2,5,0,6,4,3,9,7,8,10],[1,2,5,0,4,9,6,3,7,8,10],[1,2,5,0,4,6,9,3,7,8,10],[1,2,5,0,6,4,9,3,7,8,10],[1,2,5,0,9,4,6,3,7,8,10],[1,2,5,0,9,6,4,3,7,8,10],[1,2,5,0,6,9,4,3,7,8,10],[1,2,5,9,0,3,4,6,7,8,10],[1,2,5,9,0,3,6,4,7,8,10],[1,2,5,9,0,4,3,6,7,8,10],[1,2,5,9,0,6,3,4,7,8,10],[1,2,5,9,0,4,6,3,7,8,10],[1,2,5,9,0,6,4,3,7,8,10],[1,2,5,4,0,3,6,7,8,9,10],[1,2,5,4,0,3,9,6,7,8,10],[1,2,5,4,0,3,6,9,7,8,10],[1,2,5,4,0,9,3,6,7,8,10],[1,2,5,4,0,6,3,7,8,9,10],[1,2,5,4,0,6,3,9,7,8,10],[1,2,5,4,0,9,6,3,7,8,10],[1,2,5,4,0,6,9,3,7,8,10],[1,2,5,4,9,0,3,6,7,8,10],[1,2,5,9,4,0,3,6,7,8,10],[1,2,5,4,9,0,6,3,7,8,10],[1,2,5,9,4,0,6,3,7,8,10],[1,2,5,6,0,3,4,7,8,9,10],[1,2,5,6,0,3,4,9,7,8,10],[1,2,5,6,0,3,9,4,7,8,10],[1,2,5,6,0,9,3,4,7,8,10],[1,2,5,6,0,4,3,7,8,9,10],[1,2,5,6,0,4,3,9,7,8,10],[1,2,5,6,0,4,9,3,7,8,10],[1,2,5,6,0,9,4,3,7,8,10],[1,2,5,9,6,0,3,4,7,8,10],[1,2,5,6,9,0,3,4,7,8,10],[1,2,5,9,6,0,4,3,7,8,10],[1,2,5,6,9,0,4,3,7,8,10],[1,2,5,4,6,0,3,7,8,9,10],[1,2,5,6,4,0,3,7,8,9,10],[1,2,5,4,6,0,3,9,7,8,10],[1,2,5,6,4,0,3,9,7,8,10],[1,2,5,4,6,0,9,3,7,8,10],[1,2,5,6,4,0,9,3,7,8,10],[1,2,5,4,9,6,0,3,7,8,10],[1,2,5,4,6,9,0,3,7,8,10],[1,2,5,6,4,9,0,3,7,8,10],[1,2,5,9,4,6,0,3,7,8,10],[1,2,5,9,6,4,0,3,7,8,10],[1,2,5,6,9,4,0,3,7,8,10]] 2 hE (fun s=>s.at (qU [6,9]) [(5,.sc (.pt 7 0 0))] (s.hp++[some ⟨k.keys.map aC,1,3,true,true⟩,some ⟨k.tags.map TagD.cs,5,89,true,true⟩,some ⟨[[.sl 5 0 k.keys.length,.sl 6 0 k.tags.length]],2,49,true,false⟩])) (by kernel_rfl) (qC) (by kernel_rfl) ?_ ?_
 ·simp only [aQ]
  refine⟨aa 400 ?_,aa 400 ?_,aa 400 ?_,aa 400 ?_,aa 400 ?_,aa 400 ?_,aa 400 ?_,aa 400 ?_,aa 400 ?_,aa 400 ?_,aa 400 ?_,aa 400 ?_,aa 400 ?_,aa 400 ?_,aa 400 ?_,aa 400 ?_,aa 400 ?_,aa 400 ?_,aa 400 ?_,aa 400 ?_,aa 400 ?_,aa 400 ?_,aa 400 ?_,aa 400 ?_,aa 400 ?_,aa 400 ?_,aa 400 ?_,aa 400 ?_,aa 400 ?_,aa 400 ?_,aa 400 ?_,aa 400 ?_,aa 400 ?_,aa 400 ?_,aa 400 ?_,aa 400 ?_,aa 400 ?_,aa 400 ?_,aa 400 ?_,aa 400 ?_,aa 400 ?_,aa 400 ?_,aa 400 ?_,aa 400 ?_,aa 400 ?_,aa 400 ?_,aa 400 ?_,aa 400 ?_,aa 400 ?_,aa 400 ?_,aa 400 ?_,aa 400 ?_,aa 400 ?_,aa 400 ?_,aa 400 ?_,aa 400 ?_,aa 400 ?_,aa 400 ?_,aa 400 ?_,aa 400 ?_,aa 400 ?_,aa 400 ?_,aa 400 ?_,aa 400 ?_,aa 400 ?_,aa 400 ?_,aa 400 ?_,aa 400 ?_,aa 400 ?_,aa 400 ?_,aa 400 ?_,aa 400 ?_⟩
  ·simp (disch:=omega) only [go_sem,seval]
   refine⟨qC,(qI 0 5++qI 6 1++qI 8 2),ab (by rfl) (by rfl) ?_⟩
   try simp (disch:=omega) only [go_sem,seval]
  ·simp (disch:=omega) only [go_sem,seval]
   refine⟨qC,(qI 0 5++qI 6 1++qI 8 2),ab (by rfl) (by rfl) ?_⟩
   try simp (disch:=omega) only [go_sem,seval]
  ·simp (disch:=omega) only [go_sem,seval]
   refine⟨qC,(qI 0 5++qI 6 1++qI 9 1++qI 8 1),ab (by rfl) (by rfl) ?_⟩
   try simp (disch:=omega) only [go_sem,seval]
  ·simp (disch:=omega) only [go_sem,seval]
   refine⟨qC,(qI 0 5++qI 6 1++qI 9 1++qI 8 1),ab (by rfl) (by rfl) ?_⟩
   try simp (disch:=omega) only [go_sem,seval]
  ·simp (disch:=omega) only [go_sem,seval]
   refine⟨qC,(qI 0 5++qI 6 1++qI 9 1++qI 8 1),ab (by rfl) (by rfl) ?_⟩
   try simp (disch:=omega) only [go_sem,seval]
  ·simp (disch:=omega) only [go_sem,seval]
   refine⟨qC,(qI 0 5++qI 6 1++qI 9 1++qI 7 1),ab (by rfl) (by rfl) ?_⟩
   try simp (disch:=omega) only [go_sem,seval]
  ·simp (disch:=omega) only [go_sem,seval]
   refine⟨qC,(qI 0 5++qI 6 1++qI 9 1++qI 7 1),ab (by rfl) (by rfl) ?_⟩
   try simp (disch:=omega) only [go_sem,seval]
  ·simp (disch:=omega) only [go_sem,seval]
   refine⟨qC,(qI 0 5++qI 6 1++qI 9 1++qI 7 1),ab (by rfl) (by rfl) ?_⟩
   try simp (disch:=omega) only [go_sem,seval]
  ·simp (disch:=omega) only [go_sem,seval]
   refine⟨qC,(qI 0 5++qI 7 1++qI 9 1++qI 6 1),ab (by rfl) (by rfl) ?_⟩
   try simp (disch:=omega) only [go_sem,seval]
  ·simp (disch:=omega) only [go_sem,seval]
   refine⟨qC,(qI 0 5++qI 7 1++qI 9 1++qI 6 1),ab (by rfl) (by rfl) ?_⟩
   try simp (disch:=omega) only [go_sem,seval]
  ·simp (disch:=omega) only [go_sem,seval]
   refine⟨qC,(qI 0 5++qI 7 3),ab (by rfl) (by rfl) ?_⟩
   try simp (disch:=omega) only [go_sem,seval]
  ·simp (disch:=omega) only [go_sem,seval]
   refine⟨qC,(qI 0 5++qI 7 1++qI 9 1++qI 8 1),ab (by rfl) (by rfl) ?_⟩
   try simp (disch:=omega) only [go_sem,seval]
  ·simp (disch:=omega) only [go_sem,seval]
   refine⟨qC,(qI 0 5++qI 7 1++qI 9 1++qI 8 1),ab (by rfl) (by rfl) ?_⟩
   try simp (disch:=omega) only [go_sem,seval]
  ·simp (disch:=omega) only [go_sem,seval]
   refine⟨qC,(qI 0 5++qI 8 2++qI 7 1),ab (by rfl) (by rfl) ?_⟩
   try simp (disch:=omega) only [go_sem,seval]
  ·simp (disch:=omega) only [go_sem,seval]
   refine⟨qC,(qI 0 5++qI 8 2++qI 6 1),ab (by rfl) (by rfl) ?_⟩
   try simp (disch:=omega) only [go_sem,seval]
  ·simp (disch:=omega) only [go_sem,seval]
   refine⟨qC,(qI 0 5++qI 6 1++qI 8 2),ab (by rfl) (by rfl) ?_⟩
   try simp (disch:=omega) only [go_sem,seval]
  ·simp (disch:=omega) only [go_sem,seval]
   refine⟨qC,(qI 0 5++qI 6 1++qI 9 1++qI 8 1),ab (by rfl) (by rfl) ?_⟩
   try simp (disch:=omega) only [go_sem,seval]
  ·simp (disch:=omega) only [go_sem,seval]
   refine⟨qC,(qI 0 5++qI 6 1++qI 9 1++qI 7 1),ab (by rfl) (by rfl) ?_⟩
   try simp (disch:=omega) only [go_sem,seval]
  ·simp (disch:=omega) only [go_sem,seval]
   refine⟨qC,(qI 0 5++qI 7 1++qI 9 1++qI 6 1),ab (by rfl) (by rfl) ?_⟩
   try simp (disch:=omega) only [go_sem,seval]
  ·simp (disch:=omega) only [go_sem,seval]
   refine⟨qC,(qI 0 5++qI 7 1++qI 9 1++qI 6 1),ab (by rfl) (by rfl) ?_⟩
   try simp (disch:=omega) only [go_sem,seval]
  ·simp (disch:=omega) only [go_sem,seval]
   refine⟨qC,(qI 0 5++qI 7 3),ab (by rfl) (by rfl) ?_⟩
   try simp (disch:=omega) only [go_sem,seval]
  ·simp (disch:=omega) only [go_sem,seval]
   refine⟨qC,(qI 0 5++qI 7 3),ab (by rfl) (by rfl) ?_⟩
   try simp (disch:=omega) only [go_sem,seval]
  ·simp (disch:=omega) only [go_sem,seval]
   refine⟨qC,(qI 0 5++qI 7 1++qI 9 1++qI 8 1),ab (by rfl) (by rfl) ?_⟩
   try simp (disch:=omega) only [go_sem,seval]
  ·simp (disch:=omega) only [go_sem,seval]
   refine⟨qC,(qI 0 5++qI 7 1++qI 9 1++qI 8 1),ab (by rfl) (by rfl) ?_⟩
   try simp (disch:=omega) only [go_sem,seval]
  ·simp (disch:=omega) only [go_sem,seval]
   refine⟨qC,(qI 0 5++qI 8 2++qI 7 1),ab (by rfl) (by rfl) ?_⟩
   try simp (disch:=omega) only [go_sem,seval]
  ·simp (disch:=omega) only [go_sem,seval]
   refine⟨qC,(qI 0 5++qI 8 2++qI 7 1),ab (by rfl) (by rfl) ?_⟩
   try simp (disch:=omega) only [go_sem,seval]
  ·simp (disch:=omega) only [go_sem,seval]
   refine⟨qC,(qI 0 5++qI 8 2++qI 7 1),ab (by rfl) (by rfl) ?_⟩
   try simp (disch:=omega) only [go_sem,seval]
  ·simp (disch:=omega) only [go_sem,seval]
   refine⟨qC,(qI 0 5++qI 8 2++qI 6 1),ab (by rfl) (by rfl) ?_⟩
   try simp (disch:=omega) only [go_sem,seval]
  ·simp (disch:=omega) only [go_sem,seval]
   refine⟨qC,(qI 0 5++qI 8 2++qI 6 1),ab (by rfl) (by rfl) ?_⟩
   try simp (disch:=omega) only [go_sem,seval]
  ·simp (disch:=omega) only [go_sem,seval]
   refine⟨qC,(qI 0 5++qI 8 2++qI 6 1),ab (by rfl) (by rfl) ?_⟩
   try simp (disch:=omega) only [go_sem,seval]
  ·simp (disch:=omega) only [go_sem,seval]
   refine⟨qC,(qI 0 5++qI 7 1++qI 9 1++qI 5 1),ab (by rfl) (by rfl) ?_⟩
   try simp (disch:=omega) only [go_sem,seval]
  ·simp (disch:=omega) only [go_sem,seval]
   refine⟨qC,(qI 0 5++qI 7 1++qI 9 1++qI 5 1),ab (by rfl) (by rfl) ?_⟩
   try simp (disch:=omega) only [go_sem,seval]
  ·simp (disch:=omega) only [go_sem,seval]
   refine⟨qC,(qI 0 5++qI 8 2++qI 5 1),ab (by rfl) (by rfl) ?_⟩
   try simp (disch:=omega) only [go_sem,seval]
  ·simp (disch:=omega) only [go_sem,seval]
   refine⟨qC,(qI 0 5++qI 7 1++qI 9 1++qI 5 1),ab (by rfl) (by rfl) ?_⟩
   try simp (disch:=omega) only [go_sem,seval]
  ·simp (disch:=omega) only [go_sem,seval]
   refine⟨qC,(qI 0 5++qI 8 2++qI 5 1),ab (by rfl) (by rfl) ?_⟩
   try simp (disch:=omega) only [go_sem,seval]
  ·simp (disch:=omega) only [go_sem,seval]
   refine⟨qC,(qI 0 5++qI 8 2++qI 5 1),ab (by rfl) (by rfl) ?_⟩
   try simp (disch:=omega) only [go_sem,seval]
  ·simp (disch:=omega) only [go_sem,seval]
   refine⟨qC,(qI 0 5++qI 7 3),ab (by rfl) (by rfl) ?_⟩
   try simp (disch:=omega) only [go_sem,seval]
  ·simp (disch:=omega) only [go_sem,seval]
   refine⟨qC,(qI 0 5++qI 7 1++qI 9 1++qI 8 1),ab (by rfl) (by rfl) ?_⟩
   try simp (disch:=omega) only [go_sem,seval]
  ·simp (disch:=omega) only [go_sem,seval]
   refine⟨qC,(qI 0 5++qI 7 1++qI 9 1++qI 8 1),ab (by rfl) (by rfl) ?_⟩
   try simp (disch:=omega) only [go_sem,seval]
  ·simp (disch:=omega) only [go_sem,seval]
   refine⟨qC,(qI 0 5++qI 8 2++qI 7 1),ab (by rfl) (by rfl) ?_⟩
   try simp (disch:=omega) only [go_sem,seval]
  ·simp (disch:=omega) only [go_sem,seval]
   refine⟨qC,(qI 0 5++qI 7 3),ab (by rfl) (by rfl) ?_⟩
   try simp (disch:=omega) only [go_sem,seval]
  ·simp (disch:=omega) only [go_sem,seval]
   refine⟨qC,(qI 0 5++qI 7 1++qI 9 1++qI 8 1),ab (by rfl) (by rfl) ?_⟩
   try simp (disch:=omega) only [go_sem,seval]
  ·simp (disch:=omega) only [go_sem,seval]
   refine⟨qC,(qI 0 5++qI 8 2++qI 7 1),ab (by rfl) (by rfl) ?_⟩
   try simp (disch:=omega) only [go_sem,seval]
  ·simp (disch:=omega) only [go_sem,seval]
   refine⟨qC,(qI 0 5++qI 8 2++qI 7 1),ab (by rfl) (by rfl) ?_⟩
   try simp (disch:=omega) only [go_sem,seval]
  ·simp (disch:=omega) only [go_sem,seval]
   refine⟨qC,(qI 0 5++qI 8 2++qI 6 1),ab (by rfl) (by rfl) ?_⟩
   try simp (disch:=omega) only [go_sem,seval]
  ·simp (disch:=omega) only [go_sem,seval]
   refine⟨qC,(qI 0 5++qI 8 2++qI 5 1),ab (by rfl) (by rfl) ?_⟩
   try simp (disch:=omega) only [go_sem,seval]
  ·simp (disch:=omega) only [go_sem,seval]
   refine⟨qC,(qI 0 5++qI 8 2++qI 6 1),ab (by rfl) (by rfl) ?_⟩
   try simp (disch:=omega) only [go_sem,seval]
  ·simp (disch:=omega) only [go_sem,seval]
   refine⟨qC,(qI 0 5++qI 8 2++qI 5 1),ab (by rfl) (by rfl) ?_⟩
   try simp (disch:=omega) only [go_sem,seval]
  ·simp (disch:=omega) only [go_sem,seval]
   refine⟨qC,(qI 0 5++qI 6 1++qI 8 2),ab (by rfl) (by rfl) ?_⟩
   try simp (disch:=omega) only [go_sem,seval]
  ·simp (disch:=omega) only [go_sem,seval]
   refine⟨qC,(qI 0 5++qI 6 1++qI 9 1++qI 8 1),ab (by rfl) (by rfl) ?_⟩
   try simp (disch:=omega) only [go_sem,seval]
  ·simp (disch:=omega) only [go_sem,seval]
   refine⟨qC,(qI 0 5++qI 6 1++qI 9 1++qI 7 1),ab (by rfl) (by rfl) ?_⟩
   try simp (disch:=omega) only [go_sem,seval]
  ·simp (disch:=omega) only [go_sem,seval]
   refine⟨qC,(qI 0 5++qI 7 1++qI 9 1++qI 6 1),ab (by rfl) (by rfl) ?_⟩
   try simp (disch:=omega) only [go_sem,seval]
  ·simp (disch:=omega) only [go_sem,seval]
   refine⟨qC,(qI 0 5++qI 7 3),ab (by rfl) (by rfl) ?_⟩
   try simp (disch:=omega) only [go_sem,seval]
  ·simp (disch:=omega) only [go_sem,seval]
   refine⟨qC,(qI 0 5++qI 7 1++qI 9 1++qI 8 1),ab (by rfl) (by rfl) ?_⟩
   try simp (disch:=omega) only [go_sem,seval]
  ·simp (disch:=omega) only [go_sem,seval]
   refine⟨qC,(qI 0 5++qI 8 2++qI 7 1),ab (by rfl) (by rfl) ?_⟩
   try simp (disch:=omega) only [go_sem,seval]
  ·simp (disch:=omega) only [go_sem,seval]
   refine⟨qC,(qI 0 5++qI 8 2++qI 6 1),ab (by rfl) (by rfl) ?_⟩
   try simp (disch:=omega) only [go_sem,seval]
  ·simp (disch:=omega) only [go_sem,seval]
   refine⟨qC,(qI 0 5++qI 7 1++qI 9 1++qI 5 1),ab (by rfl) (by rfl) ?_⟩
   try simp (disch:=omega) only [go_sem,seval]
  ·simp (disch:=omega) only [go_sem,seval]
   refine⟨qC,(qI 0 5++qI 7 1++qI 9 1++qI 5 1),ab (by rfl) (by rfl) ?_⟩
   try simp (disch:=omega) only [go_sem,seval]
  ·simp (disch:=omega) only [go_sem,seval]
   refine⟨qC,(qI 0 5++qI 8 2++qI 5 1),ab (by rfl) (by rfl) ?_⟩
   try simp (disch:=omega) only [go_sem,seval]
  ·simp (disch:=omega) only [go_sem,seval]
   refine⟨qC,(qI 0 5++qI 8 2++qI 5 1),ab (by rfl) (by rfl) ?_⟩
   try simp (disch:=omega) only [go_sem,seval]
  ·simp (disch:=omega) only [go_sem,seval]
   refine⟨qC,(qI 0 5++qI 7 3),ab (by rfl) (by rfl) ?_⟩
   try simp (disch:=omega) only [go_sem,seval]
  ·simp (disch:=omega) only [go_sem,seval]
   refine⟨qC,(qI 0 5++qI 7 3),ab (by rfl) (by rfl) ?_⟩
   try simp (disch:=omega) only [go_sem,seval]
  ·simp (disch:=omega) only [go_sem,seval]
   refine⟨qC,(qI 0 5++qI 7 1++qI 9 1++qI 8 1),ab (by rfl) (by rfl) ?_⟩
   try simp (disch:=omega) only [go_sem,seval]
  ·simp (disch:=omega) only [go_sem,seval]
   refine⟨qC,(qI 0 5++qI 7 1++qI 9 1++qI 8 1),ab (by rfl) (by rfl) ?_⟩
   try simp (disch:=omega) only [go_sem,seval]
  ·simp (disch:=omega) only [go_sem,seval]
   refine⟨qC,(qI 0 5++qI 8 2++qI 7 1),ab (by rfl) (by rfl) ?_⟩
   try simp (disch:=omega) only [go_sem,seval]
  ·simp (disch:=omega) only [go_sem,seval]
   refine⟨qC,(qI 0 5++qI 8 2++qI 7 1),ab (by rfl) (by rfl) ?_⟩
   try simp (disch:=omega) only [go_sem,seval]
  ·simp (disch:=omega) only [go_sem,seval]
   refine⟨qC,(qI 0 5++qI 8 2++qI 6 1),ab (by rfl) (by rfl) ?_⟩
   try simp (disch:=omega) only [go_sem,seval]
  ·simp (disch:=omega) only [go_sem,seval]
   refine⟨qC,(qI 0 5++qI 8 2++qI 6 1),ab (by rfl) (by rfl) ?_⟩
   try simp (disch:=omega) only [go_sem,seval]
  ·simp (disch:=omega) only [go_sem,seval]
   refine⟨qC,(qI 0 5++qI 8 2++qI 6 1),ab (by rfl) (by rfl) ?_⟩
   try simp (disch:=omega) only [go_sem,seval]
  ·simp (disch:=omega) only [go_sem,seval]
   refine⟨qC,(qI 0 5++qI 8 2++qI 5 1),ab (by rfl) (by rfl) ?_⟩
   try simp (disch:=omega) only [go_sem,seval]
  ·simp (disch:=omega) only [go_sem,seval]
   refine⟨qC,(qI 0 5++qI 8 2++qI 5 1),ab (by rfl) (by rfl) ?_⟩
   try simp (disch:=omega) only [go_sem,seval]
  simp (disch:=omega) only [go_sem,seval]
  refine⟨qC,(qI 0 5++qI 8 2++qI 5 1),ab (by rfl) (by rfl) ?_⟩
  try simp (disch:=omega) only [go_sem,seval]
 refine qR ?_
 refine qK (hM) (qI 0 2) ?_
 refine qB (fun b1=>?_) fun b1=>?_
 ·refine qB (fun b2=>?_) fun b2=>?_
  ·rw [ht b1 (by omega)]
   have e:=z2 k.tags t
   simp only [TagD.cs] at e
   try simp (disch:=omega) only [go_sem,seval,e]
   refine ah (qI 0 2++qI 5 1++qI 9 1) (qC) _ (by simp only [go_sem];rfl) (by rfl) (by rfl) ?_
   simp (disch:=omega) only [go_sem,seval]
   try simp
  rw [hf2 (by omega)]
  refine qX ?_
  exact qF (qI 0 2++qI 5 2)
 rw [hf1 b1]
 refine qX ?_
 exact qF (qI 0 2++qI 5 2)
theorem kB (w:WorldD) (hs:SmallW w):ae Tryz.prog 67 [.ag (w.cs 0)] (w.hp false) (.ag (w.cs 21)) (w.hp false++w.hp true):=by
 have ha:=hs.a
 have hb:=hs.b
 refine qE Tryz.func67 Tryz.ntmps67 Tryz.results67 fun E hE=>?_
 refine qK (aK w.a (by have:=ha.own;omega) (by have:=ha.far;omega) (by have:=ha.subs;omega) (by have:=ha.halfs;omega) (by have:=ha.list;omega) (by have:=ha.done;omega) (by have:=ha.over;omega)) (qI 0 7) ?_
 refine qK (aK w.b (by have:=hb.own;omega) (by have:=hb.far;omega) (by have:=hb.subs;omega) (by have:=hb.halfs;omega) (by have:=hb.list;omega) (by have:=hb.done;omega) (by have:=hb.over;omega)) (qI 7 7) ?_
 refine qK (eV w.bag hs.bag) (qI 14 1) ?_
 refine qK (eV w.past hs.past) (qI 15 1) ?_
 refine qK (kA w.known hs.keys hs.tags) (qI 16 2) ?_
 refine qK (cv w.nums hs.nums) (qI 18 1) ?_
 refine qK (cv w.answersA hs.ansA) (qI 19 1) ?_
 refine qK (cv w.answersB hs.ansB) (qI 20 1) ?_
 exact qF (qI 0 21++qI 23 21)
theorem ib (w:WorldD) (hs:SmallW w):ae Tryz.prog 53 [.ag (w.cs 0)] (w.hp false) (.ag (w.cs 21)) (w.hp false++w.hp true):=by
 have ha:=hs.a
 have hb:=hs.b
 have h1:=hs.bag
 have h2:=hs.past
 have h3:=hs.keys
 have h4:=hs.tags
 have h5:=hs.nums
 have h6:=hs.ansA
 have h7:=hs.ansB
 refine qE Tryz.func53 Tryz.ntmps53 Tryz.results53 fun E hE=>?_
 refine qK (aD w.a (by have:=ha.own;omega) (by have:=ha.far;omega) (by have:=ha.subs;omega) (by have:=ha.halfs;omega) (by have:=ha.list;omega) (by have:=ha.done;omega) (by have:=ha.over;omega)) (qI 0 7) ?_
 refine qK (aD w.b (by have:=hb.own;omega) (by have:=hb.far;omega) (by have:=hb.subs;omega) (by have:=hb.halfs;omega) (by have:=hb.list;omega) (by have:=hb.done;omega) (by have:=hb.over;omega)) (qI 7 7) ?_
 refine aI [(0,8),(0,5),(4,8),(4,5),(5,8)] [(0,4)] [(qU [1,3,6,2,0,1,4,2,8,5]),[1,2,3,6,7,0,4,8,5,9,10,11,12],[1,2,3,6,7,0,5,4,8,9,10,11,12],[1,2,3,6,7,0,8,4,5,9,10,11,12],[1,2,3,6,7,0,5,8,4,9,10,11,12],[1,2,3,6,7,0,8,5,4,9,10,11,12],[1,2,3,6,7,5,0,4,8,9,10,11,12],[1,2,3,6,7,5,0,8,4,9,10,11,12],(qU [1,3,6,3,0,1,4,2,9,4]),[1,2,3,6,7,8,0,5,4,9,10,11,12],[1,2,3,6,7,5,8,0,4,9,10,11,12],[1,2,3,6,7,8,5,0,4,9,10,11,12]] 21 hE (fun s=>s.at (qU [21,12]) [] (s.hp.set 21 (some ⟨[c7 w 23 24 25 26 27 28 29 30 31 32 33 34 35 36 38 40 41 42 18 19 20],61,51,true,false⟩)++[some ⟨w.known.keys.map aC,1,3,true,true⟩,some ⟨w.known.tags.map TagD.cs,5,89,true,true⟩])) (by kernel_rfl) (qC) (by kernel_rfl) ?_ ?_
 ·simp only [aQ]
  refine⟨aa 400 ?_,aa 400 ?_,aa 400 ?_,aa 400 ?_,aa 400 ?_,aa 400 ?_,aa 400 ?_,aa 400 ?_,aa 400 ?_,aa 400 ?_,aa 400 ?_,aa 400 ?_⟩
  ·simp (disch:=omega) only [go_sem,seval]
   refine⟨qC,(qI 0 41++qI 42 1++qI 44 1),ab (by rfl) (by rfl) ?_⟩
   try simp (disch:=omega) only [go_sem,seval]
  ·simp (disch:=omega) only [go_sem,seval]
   refine⟨qC,(qI 0 41++qI 42 1++qI 44 1),ab (by rfl) (by rfl) ?_⟩
   try simp (disch:=omega) only [go_sem,seval]
  ·simp (disch:=omega) only [go_sem,seval]
   refine⟨qC,(qI 0 41++qI 43 2),ab (by rfl) (by rfl) ?_⟩
   try simp (disch:=omega) only [go_sem,seval]
  ·simp (disch:=omega) only [go_sem,seval]
   refine⟨qC,(qI 0 41++qI 42 1++qI 44 1),ab (by rfl) (by rfl) ?_⟩
   try simp (disch:=omega) only [go_sem,seval]
  ·simp (disch:=omega) only [go_sem,seval]
   refine⟨qC,(qI 0 41++qI 43 2),ab (by rfl) (by rfl) ?_⟩
   try simp (disch:=omega) only [go_sem,seval]
  ·simp (disch:=omega) only [go_sem,seval]
   refine⟨qC,(qI 0 41++qI 43 2),ab (by rfl) (by rfl) ?_⟩
   try simp (disch:=omega) only [go_sem,seval]
  ·simp (disch:=omega) only [go_sem,seval]
   refine⟨qC,(qI 0 41++qI 43 2),ab (by rfl) (by rfl) ?_⟩
   try simp (disch:=omega) only [go_sem,seval]
  ·simp (disch:=omega) only [go_sem,seval]
   refine⟨qC,(qI 0 41++qI 43 2),ab (by rfl) (by rfl) ?_⟩
   try simp (disch:=omega) only [go_sem,seval]
  ·simp (disch:=omega) only [go_sem,seval]
   refine⟨qC,(qI 0 41++qI 42 1++qI 44 1),ab (by rfl) (by rfl) ?_⟩
   try simp (disch:=omega) only [go_sem,seval]
  ·simp (disch:=omega) only [go_sem,seval]
   refine⟨qC,(qI 0 41++qI 43 2),ab (by rfl) (by rfl) ?_⟩
   try simp (disch:=omega) only [go_sem,seval]
  ·simp (disch:=omega) only [go_sem,seval]
   refine⟨qC,(qI 0 41++qI 43 2),ab (by rfl) (by rfl) ?_⟩
   try simp (disch:=omega) only [go_sem,seval]
  simp (disch:=omega) only [go_sem,seval]
  refine⟨qC,(qI 0 41++qI 43 2),ab (by rfl) (by rfl) ?_⟩
  try simp (disch:=omega) only [go_sem,seval]
 refine qR ?_
 exact qF (qI 0 21++qI 23 14++qI 38 1++qI 40 3++qI 44 1++qI 46 1++qI 48 1)
end
section
open Go.RowKit
theorem kT (n:Int):aZ n=0∨aZ n=1∨aZ n=2:=by
 rw [aZ]
 split
 ·exact .inr (.inl rfl)
 split
 ·exact .inr (.inr rfl)
 exact .inl rfl
def el (w:WorldD) (side:Int) (e:EndD):WorldD:=if side=1 then { w with a:=e } else { w with b:=e }
def dk (l:List Int) (n:Int):List Int:=if 0 < n∧lY l n=false∧l.length < 300 then l++[n] else l
theorem zd {l:List Int} {n:Int} (h1:0 < n) (h2:lY l n=false) (h3:l.length < 300):dk l n=l++[n]:=if_pos ⟨h1,h2,h3⟩
theorem vL {l:List Int} {n:Int} (h1:¬ 0 < n):dk l n=l:=if_neg (fun h=>h1 h.1)
theorem vM {l:List Int} {n:Int} (h2:lY l n=true):dk l n=l:=if_neg (by simp [h2])
theorem vN {l:List Int} {n:Int} (h3:¬ l.length < 300):dk l n=l:=if_neg (fun h=>h3 h.2.2)
theorem d_ {l:List Int} {n:Int} (h:l.length≤1048576):(dk l n).length≤1048576:=by
 rw [dk];split
 ·rename_i hh;have:=hh.2.2;simp;omega
 exact h
def nb (l:List LetterD) (x:LetterD):List LetterD:=if l.length < 150 then l++[x] else l
def vO (l:List LetterD) (x:LetterD):List LetterD:=if l.length < 40 then l++[x] else l
def ma (l:List Int) (yes:Bool) (n:Int):List Int:=if yes=true∧l.length < 300 then l++[n] else l
theorem pw {l:List LetterD} {x:LetterD} (h:l.length < 150):nb l x=l++[x]:=if_pos h
theorem px {l:List LetterD} {x:LetterD} (h:¬ l.length < 150):nb l x=l:=if_neg h
theorem vP {l:List LetterD} {x:LetterD} (h:l.length < 40):vO l x=l++[x]:=if_pos h
theorem vQ {l:List LetterD} {x:LetterD} (h:¬ l.length < 40):vO l x=l:=if_neg h
theorem vR {l:List Int} {n:Int} (h:l.length < 300):ma l true n=l++[n]:=if_pos ⟨rfl,h⟩
theorem vS {l:List Int} {b:Bool} {n:Int} (h:¬ l.length < 300):ma l b n=l:=if_neg (fun hh=>h hh.2)
theorem iX {l:List Int} {n:Int}:ma l false n=l:=if_neg (by simp)
theorem xR {l:List LetterD} {x:LetterD} (h:l.length≤1048576):(nb l x).length≤1048576:=by
 rw [nb];split
 ·simp;omega
 exact h
theorem Nn {l:List LetterD} {x:LetterD} (h:l.length≤1048576):(vO l x).length≤1048576:=by
 rw [vO];split
 ·simp;omega
 exact h
theorem py {l:List Int} {b:Bool} {n:Int} (h:l.length≤1048576):(ma l b n).length≤1048576:=by
 rw [ma];split
 ·rename_i hh;have:=hh.2;simp;omega
 exact h
theorem kC {k:KnownD} {t:TagD} (h:k.tags.length≤1048576):(dY k t).tags.length≤1048576:=by
 rw [dY];split
 ·rename_i hh;have:=hh.2;simp;omega
 exact h
theorem iB {k:KnownD} {t:TagD}:(dY k t).keys=k.keys:=by
 rw [dY];split<;>rfl
def lj (side k:Int) (x:LetterD):Bool:=decide (x.kind=5) && decide (side=k)
theorem vT {side k:Int} {x:LetterD} (h:¬ x.kind=5):lj side k x=false:=by simp [lj,h]
theorem vU {side k:Int} {x:LetterD} (h:¬ side=k):lj side k x=false:=by simp [lj,h]
theorem vV {k:Int} {x:LetterD} (h:x.kind=5):lj k k x=true:=by simp [lj,h]
def jm (side:Int) (w:WorldD) (x:LetterD):WorldD:=
 { w with past:=nb w.past x,answersA:=ma w.answersA (lj side 1 x) w.a.now,answersB:=ma w.answersB (lj side 2 x) w.b.now }
def oR (w:WorldD) (x:LetterD):WorldD:={ w with known:=dY w.known x.tag,nums:=dk (dk (dk w.nums x.nonce) x.give) x.sgn }
def c_ (side:Int) (w:WorldD) (x:LetterD):WorldD:=
 if aZ x.to=0 then oR (jm side w x) x else { jm side w x with bag:=vO w.bag x }
def aq (side:Int) (w:WorldD) (l:List LetterD):WorldD:=l.foldl (c_ side) w
theorem jK {side:Int} {w:WorldD} {l:List LetterD} {k:Nat} (h:k < l.length):aq side w (l.drop k)=aq side (c_ side w l[k]) (l.drop (k+1)):=by
 rw [List.drop_eq_getElem_cons h];rfl
theorem kU {side:Int} {w:WorldD} {l:List LetterD} {k:Nat} (h:l.length≤k):aq side w (l.drop k)=w:=by
 rw [List.drop_eq_nil_of_le h];rfl
def TX (w:WorldD) (side:Int) (l:List LetterD):WorldD:=if side=1∨side=2 then aq side w l else w
def gN (w:WorldD) (x:LetterD):WorldD:=
 if aZ x.to=0 then w else TX (el w (aZ x.to) (cZ (cG w (aZ x.to)) x).1) (aZ x.to) (cZ (cG w (aZ x.to)) x).2
structure SmallP2 (w:WorldD):Prop where
 bag:w.bag.length≤1048576
 past:w.past.length≤1048576
 keys:w.known.keys.length≤1048576
 tags:w.known.tags.length≤1048576
 nums:w.nums.length≤1048576
 ansA:w.answersA.length≤1048576
 ansB:w.answersB.length≤1048576
theorem SmallW.rest {w:WorldD} (h:SmallW w):SmallP2 w:=⟨h.bag,h.past,h.keys,h.tags,h.nums,h.ansA,h.ansB⟩
theorem ze {side:Int} {w:WorldD} {x:LetterD}:(c_ side w x).a=w.a∧(c_ side w x).b=w.b∧(c_ side w x).wroteA=w.wroteA∧(c_ side w x).wroteB=w.wroteB∧(c_ side w x).readA=w.readA∧(c_ side w x).readB=w.readB:=by
 rw [c_];split<;>exact⟨rfl,rfl,rfl,rfl,rfl,rfl⟩
theorem dE {side:Int} {w:WorldD} {x:LetterD} (h:SmallP2 w):SmallP2 (c_ side w x):=by
 rw [c_];split
 ·exact⟨h.bag,xR h.past,by rw [oR,jm,iB];exact h.keys,kC h.tags,d_ (d_ (d_ h.nums)),py h.ansA,py h.ansB⟩
 exact⟨Nn h.bag,xR h.past,h.keys,h.tags,h.nums,py h.ansA,py h.ansB⟩
theorem aE {side:Int}:∀ {l:List LetterD} {w:WorldD},(aq side w l).a=w.a∧(aq side w l).b=w.b∧(aq side w l).wroteA=w.wroteA∧(aq side w l).wroteB=w.wroteB∧(aq side w l).readA=w.readA∧(aq side w l).readB=w.readB
 |[],w=>⟨rfl,rfl,rfl,rfl,rfl,rfl⟩
 |x::l,w=>by
  have h1:=aE (side:=side) (l:=l) (w:=c_ side w x)
  have h2:=ze (side:=side) (w:=w) (x:=x)
  rw [show aq side w (x::l)=aq side (c_ side w x) l from rfl]
  exact⟨h1.1.trans h2.1,h1.2.1.trans h2.2.1,h1.2.2.1.trans h2.2.2.1,h1.2.2.2.1.trans h2.2.2.2.1,h1.2.2.2.2.1.trans h2.2.2.2.2.1,h1.2.2.2.2.2.trans h2.2.2.2.2.2⟩
theorem oS {side:Int}:∀ {l:List LetterD} {w:WorldD},SmallP2 w→SmallP2 (aq side w l)
 |[],w,h=>h
 |x::l,w,h=>oS (l:=l) (dE h)
end
section
open Go.RowKit
def dK (w:WorldD) (own:Bool):Hp:=[some ⟨w.a.own.map AddrD.cs,4,88,own,true⟩,some ⟨w.a.far.map AddrD.cs,4,88,own,true⟩,some ⟨w.a.subs.map SubD.cs,10,201,own,true⟩,some ⟨w.a.halfs.map HalfD.cs,8,213,own,true⟩,some ⟨w.a.inp.list.map PieceD.cs,2,256,own,true⟩,some ⟨w.a.done.map aC,1,3,own,true⟩,some ⟨w.a.over.map aC,1,3,own,true⟩,some ⟨w.b.own.map AddrD.cs,4,88,own,true⟩,some ⟨w.b.far.map AddrD.cs,4,88,own,true⟩,some ⟨w.b.subs.map SubD.cs,10,201,own,true⟩,some ⟨w.b.halfs.map HalfD.cs,8,213,own,true⟩,some ⟨w.b.inp.list.map PieceD.cs,2,256,own,true⟩,some ⟨w.b.done.map aC,1,3,own,true⟩,some ⟨w.b.over.map aC,1,3,own,true⟩]
def dL (w:WorldD) (own:Bool):Hp:=[some ⟨w.bag.map LetterD.cs,19,91,own,true⟩,some ⟨w.past.map LetterD.cs,19,91,own,true⟩,some ⟨w.known.keys.map aC,1,3,own,true⟩,some ⟨w.known.tags.map TagD.cs,5,89,own,true⟩,some ⟨w.nums.map aC,1,3,own,true⟩,some ⟨w.answersA.map aC,1,3,own,true⟩,some ⟨w.answersB.map aC,1,3,own,true⟩]
attribute [go_sem] dK dL
theorem fL (w:WorldD) (e:EndD):ae Tryz.prog 154 [.sc (.pt 28 0 0),.sc (.int .i64 1),.ag (e.cs 21)] (w.hp false++(e.hp false++[some ⟨[w.cs 0],61,51,true,false⟩])) (.tu [])
  (w.hp false++(e.hp false++[some ⟨[(c7 { w with a:=e } 21 22 23 24 25 26 27 7 8 9 10 11 12 13 14 15 16 17 18 19 20)],61,51,true,false⟩])):=by
 refine ga Tryz.func154 Tryz.ntmps154 Tryz.results154 fun E hE=>?_
 exact cc (qI 0 29)
theorem fM (w:WorldD) (e:EndD):ae Tryz.prog 154 [.sc (.pt 28 0 0),.sc (.int .i64 2),.ag (e.cs 21)] (w.hp false++(e.hp false++[some ⟨[w.cs 0],61,51,true,false⟩])) (.tu [])
  (w.hp false++(e.hp false++[some ⟨[(c7 { w with b:=e } 0 1 2 3 4 5 6 21 22 23 24 25 26 27 14 15 16 17 18 19 20)],61,51,true,false⟩])):=by
 refine ga Tryz.func154 Tryz.ntmps154 Tryz.results154 fun E hE=>?_
 exact cc (qI 0 29)
theorem dF (w:WorldD) (e:EndD):ae Tryz.prog 124 [.ag (w.cs 0),.sc (.int .i64 1),.ag (e.cs 21)] (w.hp false++e.hp false) (.ag (c7 { w with a:=e } 21 22 23 24 25 26 27 7 8 9 10 11 12 13 14 15 16 17 18 19 20)) (w.hp false++e.hp false):=by
 refine ga Tryz.func124 Tryz.ntmps124 Tryz.results124 fun E hE=>?_
 exact cc (qI 0 28)
theorem dG (w:WorldD) (e:EndD):ae Tryz.prog 124 [.ag (w.cs 0),.sc (.int .i64 2),.ag (e.cs 21)] (w.hp false++e.hp false) (.ag (c7 { w with b:=e } 0 1 2 3 4 5 6 21 22 23 24 25 26 27 14 15 16 17 18 19 20)) (w.hp false++e.hp false):=by
 refine ga Tryz.func124 Tryz.ntmps124 Tryz.results124 fun E hE=>?_
 exact cc (qI 0 28)
theorem eh (w:WorldD) (n:Int) (h0:w.nums.length≤1048576):ae Tryz.prog 219 [.ag (w.cs 0),.sc (.int .i64 n)] [some ⟨w.a.own.map AddrD.cs,4,88,false,true⟩,some ⟨w.a.far.map AddrD.cs,4,88,false,true⟩,some ⟨w.a.subs.map SubD.cs,10,201,false,true⟩,some ⟨w.a.halfs.map HalfD.cs,8,213,false,true⟩,some ⟨w.a.inp.list.map PieceD.cs,2,256,false,true⟩,some ⟨w.a.done.map aC,1,3,false,true⟩,some ⟨w.a.over.map aC,1,3,false,true⟩,some ⟨w.b.own.map AddrD.cs,4,88,false,true⟩,some ⟨w.b.far.map AddrD.cs,4,88,false,true⟩,some ⟨w.b.subs.map SubD.cs,10,201,false,true⟩,some ⟨w.b.halfs.map HalfD.cs,8,213,false,true⟩,some ⟨w.b.inp.list.map PieceD.cs,2,256,false,true⟩,some ⟨w.b.done.map aC,1,3,false,true⟩,some ⟨w.b.over.map aC,1,3,false,true⟩,some ⟨w.bag.map LetterD.cs,19,91,false,true⟩,some ⟨w.past.map LetterD.cs,19,91,false,true⟩,some ⟨w.known.keys.map aC,1,3,false,true⟩,some ⟨w.known.tags.map TagD.cs,5,89,false,true⟩,some ⟨w.nums.map aC,1,3,true,true⟩,some ⟨w.answersA.map aC,1,3,false,true⟩,some ⟨w.answersB.map aC,1,3,false,true⟩] (.ag (c7 { w with nums:=dk w.nums n } 0 1 2 3 4 5 6 7 8 9 10 11 12 13 14 15 16 17 21 19 20))
  [some ⟨w.a.own.map AddrD.cs,4,88,false,true⟩,some ⟨w.a.far.map AddrD.cs,4,88,false,true⟩,some ⟨w.a.subs.map SubD.cs,10,201,false,true⟩,some ⟨w.a.halfs.map HalfD.cs,8,213,false,true⟩,some ⟨w.a.inp.list.map PieceD.cs,2,256,false,true⟩,some ⟨w.a.done.map aC,1,3,false,true⟩,some ⟨w.a.over.map aC,1,3,false,true⟩,some ⟨w.b.own.map AddrD.cs,4,88,false,true⟩,some ⟨w.b.far.map AddrD.cs,4,88,false,true⟩,some ⟨w.b.subs.map SubD.cs,10,201,false,true⟩,some ⟨w.b.halfs.map HalfD.cs,8,213,false,true⟩,some ⟨w.b.inp.list.map PieceD.cs,2,256,false,true⟩,some ⟨w.b.done.map aC,1,3,false,true⟩,some ⟨w.b.over.map aC,1,3,false,true⟩,some ⟨w.bag.map LetterD.cs,19,91,false,true⟩,some ⟨w.past.map LetterD.cs,19,91,false,true⟩,some ⟨w.known.keys.map aC,1,3,false,true⟩,some ⟨w.known.tags.map TagD.cs,5,89,false,true⟩,none,some ⟨w.answersA.map aC,1,3,false,true⟩,some ⟨w.answersB.map aC,1,3,false,true⟩,some ⟨(dk w.nums n).map aC,1,3,true,true⟩]:=by
 have hH:=fF w.nums n h0
 have ht:=zd (l:=w.nums) (n:=n)
 have hf1:=vL (l:=w.nums) (n:=n)
 have hf2:=vM (l:=w.nums) (n:=n)
 have hf3:=vN (l:=w.nums) (n:=n)
 generalize dk w.nums n=R at*
 refine ga Tryz.func219 Tryz.ntmps219 Tryz.results219 fun E hE=>?_
 refine qB (fun b1=>?_) fun b1=>?_
 ·refine qB (fun b2=>?_) fun b2=>?_
  ·refine qK (hH) (qI 18 1) ?_
   refine qB (fun b3=>?_) fun b3=>?_
   ·rw [ht b1 b3 (by omega)]
    refine qX ?_
    refine aA (qI 0 21++qI 24 1) (qC) _ (by simp only [go_sem];rfl) (by rfl) (by rfl) ?_
    simp (disch:=omega) only [go_sem,seval]
    try simp [aC]
   rw [hf2 b3]
   refine qX ?_
   exact cc (qI 0 21++qI 18 1)
  rw [hf3 (by omega)]
  refine qX ?_
  exact cc (qI 0 21++qI 18 1)
 rw [hf1 b1]
 refine qX ?_
 exact cc (qI 0 21++qI 18 1)
end
end Go.Proofs.YtbgakfbnkkfbkaaGreat
