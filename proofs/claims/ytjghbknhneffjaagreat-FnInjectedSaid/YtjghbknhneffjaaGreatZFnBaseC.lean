/-
  Texts merged for this claim by shake.py: what its proof needs.
-/
import Derived.Test.YtjghbknhneffjaaGreatZFnBaseA
import Derived.Test.YtjghbknhneffjaaGreatZFnBaseB
set_option maxHeartbeats 16000000
set_option maxRecDepth 100000
set_option linter.unusedVariables false
set_option linter.unusedSimpArgs false
namespace Go.Proofs.YtjghbknhneffjaaGreat
section
open Go.RowKit
theorem gT {a b:Nat} (h:a≠b):∀ {l:List Nat},aL l a b=true->aL l b a=true->False
 |[],x,y=>by
  simp only [aL,decide_eq_true_eq] at x y
  omega
 |i::l,x,y=>by
  simp only [aL] at x y
  by_cases ha:i=a
  ·subst ha
   rw [if_neg h,if_pos rfl] at y
   cases y
  rw [if_neg ha] at x
  by_cases hb:i=b
  ·rw [if_pos hb] at x
   cases x
  rw [if_neg hb] at x
  rw [if_neg hb,if_neg ha] at y
  exact gT h x y
theorem jv {a b c:Nat} (h1:a≠b) (h2:b≠c) (h3:a≠c):∀ {l:List Nat},aL l a b=true->aL l b c=true->aL l a c=true
 |[],x,y=>by
  simp only [aL,decide_eq_true_eq] at x y⊢
  omega
 |i::l,x,y=>by
  simp only [aL] at x y⊢
  by_cases ha:i=a
  ·rw [if_pos ha]
  rw [if_neg ha] at x⊢
  by_cases hb:i=b
  ·rw [if_pos hb] at x
   cases x
  rw [if_neg hb] at x y
  by_cases hc:i=c
  ·rw [if_pos hc] at y
   cases y
  rw [if_neg hc] at y⊢
  exact jv h1 h2 h3 x y
def ri (C:List (Nat×Nat)):Nat->Nat->Nat->Bool
 |0,_,_=>false
 |n+1,a,b=>C.any fun u=>u.1 == a && (u.2 == b || ri C n u.2 b)
theorem jw {C:List (Nat×Nat)} {l:List Nat} (hC:∀ u∈C,u.1≠u.2/\aL l u.1 u.2=true):∀ (n a b:Nat),ri C n a b=true->a≠b/\aL l a b=true
 |0,_,_,h=>by simp [ri] at h
 |n+1,a,b,h=>by
  simp only [ri] at h
  obtain⟨u,hu,hh⟩:=List.any_eq_true.1 h
  simp only [Bool.and_eq_true,Bool.or_eq_true,beq_iff_eq] at hh
  obtain⟨h0,hh⟩:=hh
  obtain⟨h1,h2⟩:=hC u hu
  rw [h0] at h1 h2
  rcases hh with h5|h5
  ·rw [h5] at h1 h2
   exact⟨h1,h2⟩
  obtain⟨h3,h4⟩:=jw hC n _ _ h5
  by_cases he:a=b
  ·rw [he] at h1 h2
   exact (gT h1 h2 h4).elim
  exact⟨he,jv h1 h3 he h2 h4⟩
def yk (X:List (Nat×Nat)):List (Nat×Nat)->Bool
 |[]=>false
 |u::ex=>ri (ex++X) 8 u.2 u.1
def wt (P:Program) (r:Array Oper) (T:List Nat) (X:List (Nat×Nat)) (os:List (List Nat)):List (Nat×Nat)->List (Nat×Nat)->Bool
 |[],ex=>yk X ex || os.any fun σ=>sQ P r T ex σ
 |u::U,ex=>yk X ex || (wt P r T X os U (u::ex) && wt P r T X os U ((u.2,u.1)::ex))
theorem ml {X ex:List (Nat×Nat)} {l:List Nat} (hX:∀ u∈X,u.1≠u.2/\aL l u.1 u.2=true) (hex:∀ u∈ex,u.1≠u.2/\aL l u.1 u.2=true) (h:yk X ex=true):False:=by
 cases ex with
 |nil=>simp [yk] at h
 |cons u ex=>
  simp only [yk] at h
  obtain⟨h1,h2⟩:=jw (l:=l) (fun v hv=>by
   rcases List.mem_append.1 hv with hv|hv
   ·exact hex v (List.mem_cons_of_mem _ hv)
   exact hX v hv) _ _ _ h
  exact gT h1 h2 (hex u (List.mem_cons_self ..)).2
theorem iX {P:Program} {r:Array Oper} {T:List Nat} {X:List (Nat×Nat)} {os:List (List Nat)} {l:List Nat} (hX:∀ u∈X,u.1≠u.2/\aL l u.1 u.2=true):
  ∀ {U ex:List (Nat×Nat)},(∀ u∈U,u.1≠u.2)->(∀ u∈ex,u.1≠u.2/\aL l u.1 u.2=true)->wt P r T X os U ex=true->∃ ex':List (Nat×Nat),(∀ u∈ex',u.1≠u.2/\aL l u.1 u.2=true)/\∃ σ∈os,sQ P r T ex' σ=true
 |[],ex,hU,hex,h=>by
  simp only [wt,Bool.or_eq_true] at h
  rcases h with h|h
  ·exact (ml hX hex h).elim
  obtain⟨σ,h1,h2⟩:=List.any_eq_true.1 h
  exact⟨ex,hex,σ,h1,h2⟩
 |(x,y)::U,ex,hU,hex,h=>by
  simp only [wt,Bool.or_eq_true,Bool.and_eq_true] at h
  rcases h with h|⟨ha,hb⟩
  ·exact (ml hX hex h).elim
  have hne:x≠y:=hU (x,y) (List.mem_cons_self ..)
  rcases fY hne (l:=l) with h3|h3
  ·refine iX hX (fun u hu=>hU u (List.mem_cons_of_mem _ hu)) (fun u hu=>?_) ha
   rcases List.mem_cons.1 hu with rfl|hu
   ·exact⟨hne,h3⟩
   exact hex u hu
  refine iX hX (fun u hu=>hU u (List.mem_cons_of_mem _ hu)) (fun u hu=>?_) hb
  rcases List.mem_cons.1 hu with rfl|hu
  ·exact⟨hne.symm,h3⟩
  exact hex u hu
def tC (P:Program) (r:Array Oper) (U X:List (Nat×Nat)) (os:List (List Nat)):Bool:=
 jt r && U.all (fun u=>u.1 != u.2) && X.all (fun u=>u.1 != u.2 && (rg r u.1 u.2 && decide (u.1 < r.size))) && os.all (fun σ=>σ.length == r.size && (List.range r.size).all σ.contains && σ.all fun i=>decide (i < r.size)) &&
 (let T:=vp r;wt P r T X os U [])
theorem wu {P:Program} {E:Entry} {id:Nat} {r:Array Oper} {U X:List (Nat×Nat)} {os:List (List Nat)} (hP:P.follows .mixedOrders=true) (hcov:tC P r U X os=true) {s:S} {K:S->Prop}
  (h:∀ σ∈os,∃ s',pH P r σ s s'/\∀ β a w,Sim E β s' a w->∃ β' t,K t/\Sim E β' t a w):kG P E (.region id r true) s fun e s'=>e=.normal/\K s':=by
 intro β a w hs Q hQ
 refine wp_region_draw fun t=>?_
 simp only [Region.schedule,hP,Bool.true_or,if_true]
 simp only [tC,Bool.and_eq_true] at hcov
 obtain⟨⟨⟨⟨hback,hU⟩,hX⟩,hperm⟩,hch⟩:=hcov
 have hd:=gS (r:=r) r.size t (Array.replicate r.size false)
 have hXb:∀ v∈X,v.1≠v.2/\aL (Region.linearise .any r t) v.1 v.2=true:=by
  intro v hv
  have hx:=List.all_eq_true.1 hX v hv
  simp only [Bool.and_eq_true,bne_iff_ne,ne_eq,decide_eq_true_eq] at hx
  obtain⟨h1,h5,h6⟩:=hx
  refine⟨h1,?_⟩
  unfold rg at h5
  split at h5
  ·rename_i o ho
   obtain⟨e,he,he2⟩:=List.any_eq_true.1 h5
   simp only [Bool.and_eq_true,beq_iff_eq] at he2
   exact eT hback hd ho he he2.1 he2.2 (by simp) (by simp [Array.getD_eq_getD_getElem?,h6])
  cases h5
 obtain⟨ex,hbef,σ,hσ,hok⟩:=iX hXb (fun u hu=>by
  have:=List.all_eq_true.1 hU u hu
  simpa using this) (fun u hu=>by cases hu) hch
 have hp:=List.all_eq_true.1 hperm σ hσ
 simp only [Bool.and_eq_true,beq_iff_eq,List.all_eq_true,List.mem_range,decide_eq_true_eq] at hp
 obtain⟨⟨hlen,hall⟩,hlt⟩:=hp
 obtain⟨s',hrun,hK⟩:=h σ hσ
 have hs2:Sim E β s a { w with drawn:=w.drawn+1 }:=⟨hs.dfr,hs.sl,⟨hs.hp.len,hs.hp.ob,hs.hp.flat,hs.hp.apart⟩,hs.ent,⟨hs.st.le,hs.st.os,hs.st.tape,hs.st.output,hs.st.size,hs.st.block,hs.st.len,hs.st.old,hs.st.fresh⟩⟩
 refine fZ hback (fun β' a' w' hs'=>let⟨β2,t2,hk2,hs2⟩:=hK β' a' w' hs';hQ .normal t2 β2 a' w' ⟨rfl,hk2⟩ hs2) (Region.linearise .any r t) r.size _ σ s β a _ hd (by simp) (by omega) (fun i=>?_) (fun i o ho hl=>?_) hok (fun p q hpq _ _=>(hbef (p,q) (List.contains_iff_mem.1 hpq)).2) hrun hs2
 ·constructor
  ·intro hi
   refine⟨hlt i hi,?_⟩
   simp [Array.getD_eq_getD_getElem?,hlt i hi]
  rintro⟨hi,_⟩
  simpa using hall i hi
 exfalso
 simp only [Array.getD_eq_getD_getElem?,Array.getElem?_replicate] at hl
 split at hl<;>cases hl
theorem cG {P:Program} {E:Entry} {F:S->Prop} {id:Nat} {r:Array Oper} {C:Code} {k:List Item} {s:S} {c:Prop} (U X:List (Nat×Nat)) (os:List (List Nat)) (n0:Nat) (hE:E.h.length=n0) (mk:S->S) (hP:P.follows .mixedOrders=true) (hc:c) (hcov:tC P r U X os=true)
  (h:bm (fun σ=>j7 P r (fun s'=>∃ ρ,fd ρ n0 (mk s) s') (.go σ s True)) os) (ht:dX P E F (.go (.code C::k) (mk s) True)):dX P E F (.draw id r (.code C::k) s c):=by
 refine⟨hc,dJ (wu hP hcov (K:=fun s'=>∃ ρ,fd ρ n0 (mk s) s') fun σ hσ=>let⟨s',h1,h2⟩:=(fJ h σ hσ).2;⟨s',h1,fun β a w hs=>⟨β,s',h2,hs⟩⟩) fun e s' hk=>?_⟩
 obtain⟨rfl,ρ,hw⟩:=hk
 exact j_ hE hw ht.2
end
section
def Bf (l:List SubD) (n:Nat):Bool:= !(aN l n).spare
def eP (l:List SubD):List Nat:=if ((j0 l).filter (Bf l)).length=0 then j0 l else (j0 l).filter (Bf l)
theorem yH {l:List SubD} {n:Nat} (h:n∈eP l):n < l.length:=by
 rw [eP] at h
 split at h
 ·exact (pN h).1
 exact (pN (List.mem_filter.1 h).1).1
theorem wD (l:List SubD):(eP l).length<=l.length:=by
 rw [eP]
 split
 ·exact pO l
 exact Nat.le_trans (List.length_filter_le _ _) (pO l)
end
section
open Go.RowKit
theorem qc (k:KnownD) (t:TagD) (h0:k.keys.length<=1048576) (h1:k.tags.length<=1048576):aP 62 [.ag (k.cs 0),.ag t.cs] (k.hp false) (.sc (.bo (f7 k t))) (k.hp false):=by
 obtain⟨R,hR⟩:∃ R,R=f7 k t:=⟨_,rfl⟩
 rw [<-hR]
 rw [f7] at hR
 have hcmp:=TagD.cmp t lF
 simp only [TagD.cs,lF,go_sem] at hcmp
 have ht:lF=⟨0,0,0,0,0⟩:=rfl
 refine qE Tryz.func62 Tryz.ntmps62 Tryz.results62 fun E hE=>?_
 try simp (disch:=omega) only [go_sem,seval,hcmp]
 refine qB (fun b1=>?_) fun b1=>?_
 ·have b1':=of_decide_eq_false b1
  refine qK (eA k.keys t.one h0) (qI 0 1) ?_
  refine qB (fun b2=>?_) fun b2=>?_
  ·refine qK (eA k.keys t.two h0) (qI 0 1) ?_
   refine qB (fun b3=>?_) fun b3=>?_
   ·have hR':R=true:=by rw [hR];simp [b2,b3]
    subst hR'
    refine qX ?_
    exact qF (qI 0 2)
   have hR':R=(k.tags.take 300).any (fun u=>decide (u=t)):=by rw [hR,ht];simp [b1',b2,b3]
   refine qX ?_
   refine jx 2 hE (fun s (i:Nat)=>s.at (qU [0,2,4,1,6,35]) [(5,.sc (.int .i64 (i:Nat)))] (s.hp)) (fun (i:Nat)=>i<=k.tags.length/\i<=300/\((k.tags.take 300).drop i).any (fun u=>decide (u=t))=R) (fun (i:Nat)=>k.tags.length - i) 0 (qI 0 4) (⟨Nat.zero_le _,Nat.zero_le _,by rw [hR'];rfl⟩) fun i hi N hN=>?_
   obtain⟨hi1,hi2,hi3⟩:=hi
   refine qR ?_
   refine qB (fun h=>?_) fun h=>?_
   ·refine qB (fun h2=>?_) fun h2=>?_
    ·rw [fM (by simp;omega),List.getElem_take] at hi3
     have hcm:=TagD.cmp k.tags[i] t
     simp only [TagD.cs,go_sem] at hcm
     refine qX ?_
     refine qD [0,1,2,3,4,5,6] ?_
     refine⟨qC,ac 400 ?_⟩
     try simp (disch:=omega) only [go_sem,seval,hcm]
     refine qB (fun h3=>?_) fun h3=>?_
     ·rw [decide_eq_true h3,Bool.true_or] at hi3
      subst hi3
      refine qX ?_
      exact qF (qI 0 2)
     rw [decide_eq_false h3,Bool.false_or] at hi3
     exact qN hN (i+1) (qI 0 4) (by (try dsimp only);exact⟨by omega,by omega,hi3⟩)
    rw [fu (by simp;omega)] at hi3
    subst hi3
    refine qX ?_
    exact qF (qI 0 2)
   rw [fu (by simp;omega)] at hi3
   subst hi3
   refine qX ?_
   exact qF (qI 0 2)
  have hR':R=(k.tags.take 300).any (fun u=>decide (u=t)):=by rw [hR,ht];simp [b1',b2]
  refine qX ?_
  refine jx 2 hE (fun s (i:Nat)=>s.at (qU [0,2,4,1,6,35]) [(5,.sc (.int .i64 (i:Nat)))] (s.hp)) (fun (i:Nat)=>i<=k.tags.length/\i<=300/\((k.tags.take 300).drop i).any (fun u=>decide (u=t))=R) (fun (i:Nat)=>k.tags.length - i) 0 (qI 0 4) (⟨Nat.zero_le _,Nat.zero_le _,by rw [hR'];rfl⟩) fun i hi N hN=>?_
  obtain⟨hi1,hi2,hi3⟩:=hi
  refine qR ?_
  refine qB (fun h=>?_) fun h=>?_
  ·refine qB (fun h2=>?_) fun h2=>?_
   ·rw [fM (by simp;omega),List.getElem_take] at hi3
    have hcm:=TagD.cmp k.tags[i] t
    simp only [TagD.cs,go_sem] at hcm
    refine qX ?_
    refine qD [0,1,2,3,4,5,6] ?_
    refine⟨qC,ac 400 ?_⟩
    try simp (disch:=omega) only [go_sem,seval,hcm]
    refine qB (fun h3=>?_) fun h3=>?_
    ·rw [decide_eq_true h3,Bool.true_or] at hi3
     subst hi3
     refine qX ?_
     exact qF (qI 0 2)
    rw [decide_eq_false h3,Bool.false_or] at hi3
    exact qN hN (i+1) (qI 0 4) (by (try dsimp only);exact⟨by omega,by omega,hi3⟩)
   rw [fu (by simp;omega)] at hi3
   subst hi3
   refine qX ?_
   exact qF (qI 0 2)
  rw [fu (by simp;omega)] at hi3
  subst hi3
  refine qX ?_
  exact qF (qI 0 2)
 have b1':=of_decide_eq_true b1
 have hR':R=true:=by rw [hR,ht];simp [b1']
 subst hR'
 refine qX ?_
 exact qF (qI 0 2)
theorem AF (l:List TagD) (h:TagD):l.map TagD.cs++[h.cs]=(l++[h]).map TagD.cs:=by simp
theorem AG {k:KnownD} {t:TagD} (h:f7 k t=false) (h2:k.tags.length < 300):ez k t={ k with tags:=k.tags++[t] }:=if_pos ⟨h,h2⟩
theorem za {k:KnownD} {t:TagD} (h:f7 k t=true):ez k t=k:=if_neg (by simp [h])
theorem zb {k:KnownD} {t:TagD} (h2:¬ k.tags.length < 300):ez k t=k:=if_neg (fun h=>h2 h.2)
def eg (x:WorldD) (p0 p1 p2 p3 p4 p5 p6 p7 p8 p9 p10 p11 p12 p13 p14 p15 p16 p17 p18 p19 p20:Nat):List Sc:=[.int .i64 x.a.side,.int .i64 x.a.state,.int .i64 x.a.key,.int .i64 x.a.peer,.int .i64 x.a.policy.kind,.int .i64 x.a.policy.many,.sl p0 0 x.a.own.length,.sl p1 0 x.a.far.length,.sl p2 0 x.a.subs.length,.sl p3 0 x.a.halfs.length,.int .i64 x.a.bucket.rate,.int .i64 x.a.bucket.burst,.int .i64 x.a.bucket.cur,.st x.a.out.text,.int .i64 x.a.out.base,.int .i64 x.a.out.sent,.int .i64 x.a.out.room,.int .i64 x.a.inp.read,.st x.a.inp.ready,.sl p4 0 x.a.inp.list.length,.sl p5 0 x.a.done.length,.sl p6 0 x.a.over.length,.int .i64 x.a.draw,.int .i64 x.a.now,.int .i64 x.a.pick,.int .i64 x.b.side,.int .i64 x.b.state,.int .i64 x.b.key,.int .i64 x.b.peer,.int .i64 x.b.policy.kind,.int .i64 x.b.policy.many,.sl p7 0 x.b.own.length,.sl p8 0 x.b.far.length,.sl p9 0 x.b.subs.length,.sl p10 0 x.b.halfs.length,.int .i64 x.b.bucket.rate,.int .i64 x.b.bucket.burst,.int .i64 x.b.bucket.cur,.st x.b.out.text,.int .i64 x.b.out.base,.int .i64 x.b.out.sent,.int .i64 x.b.out.room,.int .i64 x.b.inp.read,.st x.b.inp.ready,.sl p11 0 x.b.inp.list.length,.sl p12 0 x.b.done.length,.sl p13 0 x.b.over.length,.int .i64 x.b.draw,.int .i64 x.b.now,.int .i64 x.b.pick,.sl p14 0 x.bag.length,.sl p15 0 x.past.length,.st x.wroteA,.st x.wroteB,.st x.readA,.st x.readB,.sl p16 0 x.known.keys.length,.sl p17 0 x.known.tags.length,.sl p18 0 x.nums.length,.sl p19 0 x.answersA.length,.sl p20 0 x.answersB.length]
attribute [go_sem] eg
structure SmallW (w:WorldD):Prop where
 a:Small w.a
 b:Small w.b
 bag:w.bag.length<=1048576
 past:w.past.length<=1048576
 keys:w.known.keys.length<=1048576
 tags:w.known.tags.length<=1048576
 nums:w.nums.length<=1048576
 ansA:w.answersA.length<=1048576
 ansB:w.answersB.length<=1048576
theorem mR (k:KnownD) (t:TagD) (h0:k.keys.length<=1048576) (h1:k.tags.length<=1048576):aP 155 [.ag (k.cs 0),.ag t.cs] (k.hp false) (.ag ((ez k t).cs 2)) (k.hp false++(ez k t).hp true):=by
 have hM:=qc k t h0 h1
 have ht:=AG (k:=k) (t:=t)
 have hf1:=za (k:=k) (t:=t)
 have hf2:=zb (k:=k) (t:=t)
 generalize ez k t=R at*
 refine fc Tryz.func155 (by kernel_rfl) rfl fun E hE=>ac 400 ?_
 simp (disch:=omega) only [Tryz.ntmps155,Tryz.results155,go_sem,seval]
 refine cG [(0,6),(0,4),(0,9),(3,6),(3,4),(3,9),(4,9),(7,9),(9,6),(4,6)] [(0,3),(3,7),(4,7),(6,7)] [[1,2,5,0,3,4,6,7,8,9,10],[1,2,5,0,3,6,4,7,8,9,10],[1,2,5,0,3,4,9,6,7,8,10],[1,2,5,0,3,4,6,9,7,8,10],[1,2,5,0,3,6,4,9,7,8,10],[1,2,5,0,3,9,4,6,7,8,10],[1,2,5,0,3,9,6,4,7,8,10],[1,2,5,0,3,6,9,4,7,8,10],[1,2,5,0,9,3,4,6,7,8,10],[1,2,5,0,9,3,6,4,7,8,10],[1,2,5,0,4,3,6,7,8,9,10],[1,2,5,0,4,3,9,6,7,8,10],[1,2,5,0,4,3,6,9,7,8,10],[1,2,5,0,4,9,3,6,7,8,10],[1,2,5,0,9,4,3,6,7,8,10],[1,2,5,0,6,3,4,7,8,9,10],[1,2,5,0,6,3,4,9,7,8,10],[1,2,5,0,6,3,9,4,7,8,10],[1,2,5,0,9,6,3,4,7,8,10],[1,2,5,0,6,9,3,4,7,8,10],[1,2,5,0,4,6,3,7,8,9,10],[1,2,5,0,6,4,3,7,8,9,10],[1,2,5,0,4,6,3,9,7,8,10],[1,2,5,0,6,4,3,9,7,8,10],[1,2,5,0,4,9,6,3,7,8,10],[1,2,5,0,4,6,9,3,7,8,10],[1,2,5,0,6,4,9,3,7,8,10],[1,2,5,0,9,4,6,3,7,8,10],[1,2,5,0,9,6,4,3,7,8,10],[1,2,5,0,6,9,4,3,7,8,10],[1,2,5,9,0,3,4,6,7,8,10],[1,2,5,9,0,3,6,4,7,8,10],[1,2,5,9,0,4,3,6,7,8,10],[1,2,5,9,0,6,3,4,7,8,10],[1,2,5,9,0,4,6,3,7,8,10],[1,2,5,9,0,6,4,3,7,8,10],[1,2,5,4,0,3,6,7,8,9,10],[1,2,5,4,0,3,9,6,7,8,10],[1,2,5,4,0,3,6,9,7,8,10],[1,2,5,4,0,9,3,6,7,8,10],[1,2,5,4,0,6,3,7,8,9,10],[1,2,5,4,0,6,3,9,7,8,10],[1,2,5,4,0,9,6,3,7,8,10],[1,2,5,4,0,6,9,3,7,8,10],[1,2,5,4,9,0,3,6,7,8,10],[1,2,5,9,4,0,3,6,7,8,10],[1,2,5,4,9,0,6,3,7,8,10],[1,2,5,9,4,0,6,3,7,8,10],[1,2,5,6,0,3,4,7,8,9,10],[1,2,5,6,0,3,4,9,7,8,10],[1,2,5,6,0,3,9,4,7,8,10],[1,2,5,6,0,9,3,4,7,8,10],[1,2,5,6,0,4,3,7,8,9,10],[1,2,5,6,0,4,3,9,7,8,10],[1,2,5,6,0,4,9,3,7,8,10],[1,2,5,6,0,9,4,3,7,8,10],[1,2,5,9,6,0,3,4,7,8,10],[1,2,5,6,9,0,3,4,7,8,10],[1,2,5,9,6,0,4,3,7,8,10],[1,2,5,6,9,0,4,3,7,8,10],[1,2,5,4,6,0,3,7,8,9,10],[1,2,5,6,4,0,3,7,8,9,10],[1,2,5,4,6,0,3,9,7,8,10],[1,2,5,6,4,0,3,9,7,8,10],[1,2,5,4,6,0,9,3,7,8,10],[1,2,5,6,4,0,9,3,7,8,10],[1,2,5,4,9,6,0,3,7,8,10],[1,2,5,4,6,9,0,3,7,8,10],[1,2,5,6,4,9,0,3,7,8,10],[1,2,5,9,4,6,0,3,7,8,10],[1,2,5,9,6,4,0,3,7,8,10],[1,2,5,6,9,4,0,3,7,8,10]] 2 hE (fun s=>s.at (qU [6,9]) [(5,.sc (.pt 7 0 0))] (s.hp++[some ⟨k.keys.map aM,1,3,true,true⟩,some ⟨k.tags.map TagD.cs,5,46,true,true⟩,some ⟨[[.sl 5 0 k.keys.length,.sl 6 0 k.tags.length]],2,42,true,false⟩])) (by kernel_rfl) (qC) (by kernel_rfl) ?_ ?_
 ·simp only [bm]
  refine⟨aa 400 ?_,aa 400 ?_,aa 400 ?_,aa 400 ?_,aa 400 ?_,aa 400 ?_,aa 400 ?_,aa 400 ?_,aa 400 ?_,aa 400 ?_,aa 400 ?_,aa 400 ?_,aa 400 ?_,aa 400 ?_,aa 400 ?_,aa 400 ?_,aa 400 ?_,aa 400 ?_,aa 400 ?_,aa 400 ?_,aa 400 ?_,aa 400 ?_,aa 400 ?_,aa 400 ?_,aa 400 ?_,aa 400 ?_,aa 400 ?_,aa 400 ?_,aa 400 ?_,aa 400 ?_,aa 400 ?_,aa 400 ?_,aa 400 ?_,aa 400 ?_,aa 400 ?_,aa 400 ?_,aa 400 ?_,aa 400 ?_,aa 400 ?_,aa 400 ?_,aa 400 ?_,aa 400 ?_,aa 400 ?_,aa 400 ?_,aa 400 ?_,aa 400 ?_,aa 400 ?_,aa 400 ?_,aa 400 ?_,aa 400 ?_,aa 400 ?_,aa 400 ?_,aa 400 ?_,aa 400 ?_,aa 400 ?_,aa 400 ?_,aa 400 ?_,aa 400 ?_,aa 400 ?_,aa 400 ?_,aa 400 ?_,aa 400 ?_,aa 400 ?_,aa 400 ?_,aa 400 ?_,aa 400 ?_,aa 400 ?_,aa 400 ?_,aa 400 ?_,aa 400 ?_,aa 400 ?_,aa 400 ?_⟩
  ·simp (disch:=omega) only [go_sem,seval]
   refine⟨qC,(qI 0 5++qI 6 1++qI 8 2),ab (by rfl) (by rfl) ?_⟩
   try simp (disch:=omega) only [go_sem,seval]
  ·simp (disch:=omega) only [go_sem,seval]
   refine⟨qC,(qI 0 5++qI 6 1++qI 8 2),ab (by rfl) (by rfl) ?_⟩
   try simp (disch:=omega) only [go_sem,seval]
  ·simp (disch:=omega) only [go_sem,seval]
   refine⟨qC,(qI 0 5++qI 6 1++qI 9 1++qI 8 1),ab (by rfl) (by rfl) ?_⟩
   try simp (disch:=omega) only [go_sem,seval]
  ·simp (disch:=omega) only [go_sem,seval]
   refine⟨qC,(qI 0 5++qI 6 1++qI 9 1++qI 8 1),ab (by rfl) (by rfl) ?_⟩
   try simp (disch:=omega) only [go_sem,seval]
  ·simp (disch:=omega) only [go_sem,seval]
   refine⟨qC,(qI 0 5++qI 6 1++qI 9 1++qI 8 1),ab (by rfl) (by rfl) ?_⟩
   try simp (disch:=omega) only [go_sem,seval]
  ·simp (disch:=omega) only [go_sem,seval]
   refine⟨qC,(qI 0 5++qI 6 1++qI 9 1++qI 7 1),ab (by rfl) (by rfl) ?_⟩
   try simp (disch:=omega) only [go_sem,seval]
  ·simp (disch:=omega) only [go_sem,seval]
   refine⟨qC,(qI 0 5++qI 6 1++qI 9 1++qI 7 1),ab (by rfl) (by rfl) ?_⟩
   try simp (disch:=omega) only [go_sem,seval]
  ·simp (disch:=omega) only [go_sem,seval]
   refine⟨qC,(qI 0 5++qI 6 1++qI 9 1++qI 7 1),ab (by rfl) (by rfl) ?_⟩
   try simp (disch:=omega) only [go_sem,seval]
  ·simp (disch:=omega) only [go_sem,seval]
   refine⟨qC,(qI 0 5++qI 7 1++qI 9 1++qI 6 1),ab (by rfl) (by rfl) ?_⟩
   try simp (disch:=omega) only [go_sem,seval]
  ·simp (disch:=omega) only [go_sem,seval]
   refine⟨qC,(qI 0 5++qI 7 1++qI 9 1++qI 6 1),ab (by rfl) (by rfl) ?_⟩
   try simp (disch:=omega) only [go_sem,seval]
  ·simp (disch:=omega) only [go_sem,seval]
   refine⟨qC,(qI 0 5++qI 7 3),ab (by rfl) (by rfl) ?_⟩
   try simp (disch:=omega) only [go_sem,seval]
  ·simp (disch:=omega) only [go_sem,seval]
   refine⟨qC,(qI 0 5++qI 7 1++qI 9 1++qI 8 1),ab (by rfl) (by rfl) ?_⟩
   try simp (disch:=omega) only [go_sem,seval]
  ·simp (disch:=omega) only [go_sem,seval]
   refine⟨qC,(qI 0 5++qI 7 1++qI 9 1++qI 8 1),ab (by rfl) (by rfl) ?_⟩
   try simp (disch:=omega) only [go_sem,seval]
  ·simp (disch:=omega) only [go_sem,seval]
   refine⟨qC,(qI 0 5++qI 8 2++qI 7 1),ab (by rfl) (by rfl) ?_⟩
   try simp (disch:=omega) only [go_sem,seval]
  ·simp (disch:=omega) only [go_sem,seval]
   refine⟨qC,(qI 0 5++qI 8 2++qI 6 1),ab (by rfl) (by rfl) ?_⟩
   try simp (disch:=omega) only [go_sem,seval]
  ·simp (disch:=omega) only [go_sem,seval]
   refine⟨qC,(qI 0 5++qI 6 1++qI 8 2),ab (by rfl) (by rfl) ?_⟩
   try simp (disch:=omega) only [go_sem,seval]
  ·simp (disch:=omega) only [go_sem,seval]
   refine⟨qC,(qI 0 5++qI 6 1++qI 9 1++qI 8 1),ab (by rfl) (by rfl) ?_⟩
   try simp (disch:=omega) only [go_sem,seval]
  ·simp (disch:=omega) only [go_sem,seval]
   refine⟨qC,(qI 0 5++qI 6 1++qI 9 1++qI 7 1),ab (by rfl) (by rfl) ?_⟩
   try simp (disch:=omega) only [go_sem,seval]
  ·simp (disch:=omega) only [go_sem,seval]
   refine⟨qC,(qI 0 5++qI 7 1++qI 9 1++qI 6 1),ab (by rfl) (by rfl) ?_⟩
   try simp (disch:=omega) only [go_sem,seval]
  ·simp (disch:=omega) only [go_sem,seval]
   refine⟨qC,(qI 0 5++qI 7 1++qI 9 1++qI 6 1),ab (by rfl) (by rfl) ?_⟩
   try simp (disch:=omega) only [go_sem,seval]
  ·simp (disch:=omega) only [go_sem,seval]
   refine⟨qC,(qI 0 5++qI 7 3),ab (by rfl) (by rfl) ?_⟩
   try simp (disch:=omega) only [go_sem,seval]
  ·simp (disch:=omega) only [go_sem,seval]
   refine⟨qC,(qI 0 5++qI 7 3),ab (by rfl) (by rfl) ?_⟩
   try simp (disch:=omega) only [go_sem,seval]
  ·simp (disch:=omega) only [go_sem,seval]
   refine⟨qC,(qI 0 5++qI 7 1++qI 9 1++qI 8 1),ab (by rfl) (by rfl) ?_⟩
   try simp (disch:=omega) only [go_sem,seval]
  ·simp (disch:=omega) only [go_sem,seval]
   refine⟨qC,(qI 0 5++qI 7 1++qI 9 1++qI 8 1),ab (by rfl) (by rfl) ?_⟩
   try simp (disch:=omega) only [go_sem,seval]
  ·simp (disch:=omega) only [go_sem,seval]
   refine⟨qC,(qI 0 5++qI 8 2++qI 7 1),ab (by rfl) (by rfl) ?_⟩
   try simp (disch:=omega) only [go_sem,seval]
  ·simp (disch:=omega) only [go_sem,seval]
   refine⟨qC,(qI 0 5++qI 8 2++qI 7 1),ab (by rfl) (by rfl) ?_⟩
   try simp (disch:=omega) only [go_sem,seval]
  ·simp (disch:=omega) only [go_sem,seval]
   refine⟨qC,(qI 0 5++qI 8 2++qI 7 1),ab (by rfl) (by rfl) ?_⟩
   try simp (disch:=omega) only [go_sem,seval]
  ·simp (disch:=omega) only [go_sem,seval]
   refine⟨qC,(qI 0 5++qI 8 2++qI 6 1),ab (by rfl) (by rfl) ?_⟩
   try simp (disch:=omega) only [go_sem,seval]
  ·simp (disch:=omega) only [go_sem,seval]
   refine⟨qC,(qI 0 5++qI 8 2++qI 6 1),ab (by rfl) (by rfl) ?_⟩
   try simp (disch:=omega) only [go_sem,seval]
  ·simp (disch:=omega) only [go_sem,seval]
   refine⟨qC,(qI 0 5++qI 8 2++qI 6 1),ab (by rfl) (by rfl) ?_⟩
   try simp (disch:=omega) only [go_sem,seval]
  ·simp (disch:=omega) only [go_sem,seval]
   refine⟨qC,(qI 0 5++qI 7 1++qI 9 1++qI 5 1),ab (by rfl) (by rfl) ?_⟩
   try simp (disch:=omega) only [go_sem,seval]
  ·simp (disch:=omega) only [go_sem,seval]
   refine⟨qC,(qI 0 5++qI 7 1++qI 9 1++qI 5 1),ab (by rfl) (by rfl) ?_⟩
   try simp (disch:=omega) only [go_sem,seval]
  ·simp (disch:=omega) only [go_sem,seval]
   refine⟨qC,(qI 0 5++qI 8 2++qI 5 1),ab (by rfl) (by rfl) ?_⟩
   try simp (disch:=omega) only [go_sem,seval]
  ·simp (disch:=omega) only [go_sem,seval]
   refine⟨qC,(qI 0 5++qI 7 1++qI 9 1++qI 5 1),ab (by rfl) (by rfl) ?_⟩
   try simp (disch:=omega) only [go_sem,seval]
  ·simp (disch:=omega) only [go_sem,seval]
   refine⟨qC,(qI 0 5++qI 8 2++qI 5 1),ab (by rfl) (by rfl) ?_⟩
   try simp (disch:=omega) only [go_sem,seval]
  ·simp (disch:=omega) only [go_sem,seval]
   refine⟨qC,(qI 0 5++qI 8 2++qI 5 1),ab (by rfl) (by rfl) ?_⟩
   try simp (disch:=omega) only [go_sem,seval]
  ·simp (disch:=omega) only [go_sem,seval]
   refine⟨qC,(qI 0 5++qI 7 3),ab (by rfl) (by rfl) ?_⟩
   try simp (disch:=omega) only [go_sem,seval]
  ·simp (disch:=omega) only [go_sem,seval]
   refine⟨qC,(qI 0 5++qI 7 1++qI 9 1++qI 8 1),ab (by rfl) (by rfl) ?_⟩
   try simp (disch:=omega) only [go_sem,seval]
  ·simp (disch:=omega) only [go_sem,seval]
   refine⟨qC,(qI 0 5++qI 7 1++qI 9 1++qI 8 1),ab (by rfl) (by rfl) ?_⟩
   try simp (disch:=omega) only [go_sem,seval]
  ·simp (disch:=omega) only [go_sem,seval]
   refine⟨qC,(qI 0 5++qI 8 2++qI 7 1),ab (by rfl) (by rfl) ?_⟩
   try simp (disch:=omega) only [go_sem,seval]
  ·simp (disch:=omega) only [go_sem,seval]
   refine⟨qC,(qI 0 5++qI 7 3),ab (by rfl) (by rfl) ?_⟩
   try simp (disch:=omega) only [go_sem,seval]
  ·simp (disch:=omega) only [go_sem,seval]
   refine⟨qC,(qI 0 5++qI 7 1++qI 9 1++qI 8 1),ab (by rfl) (by rfl) ?_⟩
   try simp (disch:=omega) only [go_sem,seval]
  ·simp (disch:=omega) only [go_sem,seval]
   refine⟨qC,(qI 0 5++qI 8 2++qI 7 1),ab (by rfl) (by rfl) ?_⟩
   try simp (disch:=omega) only [go_sem,seval]
  ·simp (disch:=omega) only [go_sem,seval]
   refine⟨qC,(qI 0 5++qI 8 2++qI 7 1),ab (by rfl) (by rfl) ?_⟩
   try simp (disch:=omega) only [go_sem,seval]
  ·simp (disch:=omega) only [go_sem,seval]
   refine⟨qC,(qI 0 5++qI 8 2++qI 6 1),ab (by rfl) (by rfl) ?_⟩
   try simp (disch:=omega) only [go_sem,seval]
  ·simp (disch:=omega) only [go_sem,seval]
   refine⟨qC,(qI 0 5++qI 8 2++qI 5 1),ab (by rfl) (by rfl) ?_⟩
   try simp (disch:=omega) only [go_sem,seval]
  ·simp (disch:=omega) only [go_sem,seval]
   refine⟨qC,(qI 0 5++qI 8 2++qI 6 1),ab (by rfl) (by rfl) ?_⟩
   try simp (disch:=omega) only [go_sem,seval]
  ·simp (disch:=omega) only [go_sem,seval]
   refine⟨qC,(qI 0 5++qI 8 2++qI 5 1),ab (by rfl) (by rfl) ?_⟩
   try simp (disch:=omega) only [go_sem,seval]
  ·simp (disch:=omega) only [go_sem,seval]
   refine⟨qC,(qI 0 5++qI 6 1++qI 8 2),ab (by rfl) (by rfl) ?_⟩
   try simp (disch:=omega) only [go_sem,seval]
  ·simp (disch:=omega) only [go_sem,seval]
   refine⟨qC,(qI 0 5++qI 6 1++qI 9 1++qI 8 1),ab (by rfl) (by rfl) ?_⟩
   try simp (disch:=omega) only [go_sem,seval]
  ·simp (disch:=omega) only [go_sem,seval]
   refine⟨qC,(qI 0 5++qI 6 1++qI 9 1++qI 7 1),ab (by rfl) (by rfl) ?_⟩
   try simp (disch:=omega) only [go_sem,seval]
  ·simp (disch:=omega) only [go_sem,seval]
   refine⟨qC,(qI 0 5++qI 7 1++qI 9 1++qI 6 1),ab (by rfl) (by rfl) ?_⟩
   try simp (disch:=omega) only [go_sem,seval]
  ·simp (disch:=omega) only [go_sem,seval]
   refine⟨qC,(qI 0 5++qI 7 3),ab (by rfl) (by rfl) ?_⟩
   try simp (disch:=omega) only [go_sem,seval]
  ·simp (disch:=omega) only [go_sem,seval]
   refine⟨qC,(qI 0 5++qI 7 1++qI 9 1++qI 8 1),ab (by rfl) (by rfl) ?_⟩
   try simp (disch:=omega) only [go_sem,seval]
  ·simp (disch:=omega) only [go_sem,seval]
   refine⟨qC,(qI 0 5++qI 8 2++qI 7 1),ab (by rfl) (by rfl) ?_⟩
   try simp (disch:=omega) only [go_sem,seval]
  ·simp (disch:=omega) only [go_sem,seval]
   refine⟨qC,(qI 0 5++qI 8 2++qI 6 1),ab (by rfl) (by rfl) ?_⟩
   try simp (disch:=omega) only [go_sem,seval]
  ·simp (disch:=omega) only [go_sem,seval]
   refine⟨qC,(qI 0 5++qI 7 1++qI 9 1++qI 5 1),ab (by rfl) (by rfl) ?_⟩
   try simp (disch:=omega) only [go_sem,seval]
  ·simp (disch:=omega) only [go_sem,seval]
   refine⟨qC,(qI 0 5++qI 7 1++qI 9 1++qI 5 1),ab (by rfl) (by rfl) ?_⟩
   try simp (disch:=omega) only [go_sem,seval]
  ·simp (disch:=omega) only [go_sem,seval]
   refine⟨qC,(qI 0 5++qI 8 2++qI 5 1),ab (by rfl) (by rfl) ?_⟩
   try simp (disch:=omega) only [go_sem,seval]
  ·simp (disch:=omega) only [go_sem,seval]
   refine⟨qC,(qI 0 5++qI 8 2++qI 5 1),ab (by rfl) (by rfl) ?_⟩
   try simp (disch:=omega) only [go_sem,seval]
  ·simp (disch:=omega) only [go_sem,seval]
   refine⟨qC,(qI 0 5++qI 7 3),ab (by rfl) (by rfl) ?_⟩
   try simp (disch:=omega) only [go_sem,seval]
  ·simp (disch:=omega) only [go_sem,seval]
   refine⟨qC,(qI 0 5++qI 7 3),ab (by rfl) (by rfl) ?_⟩
   try simp (disch:=omega) only [go_sem,seval]
  ·simp (disch:=omega) only [go_sem,seval]
   refine⟨qC,(qI 0 5++qI 7 1++qI 9 1++qI 8 1),ab (by rfl) (by rfl) ?_⟩
   try simp (disch:=omega) only [go_sem,seval]
  ·simp (disch:=omega) only [go_sem,seval]
   refine⟨qC,(qI 0 5++qI 7 1++qI 9 1++qI 8 1),ab (by rfl) (by rfl) ?_⟩
   try simp (disch:=omega) only [go_sem,seval]
  ·simp (disch:=omega) only [go_sem,seval]
   refine⟨qC,(qI 0 5++qI 8 2++qI 7 1),ab (by rfl) (by rfl) ?_⟩
   try simp (disch:=omega) only [go_sem,seval]
  ·simp (disch:=omega) only [go_sem,seval]
   refine⟨qC,(qI 0 5++qI 8 2++qI 7 1),ab (by rfl) (by rfl) ?_⟩
   try simp (disch:=omega) only [go_sem,seval]
  ·simp (disch:=omega) only [go_sem,seval]
   refine⟨qC,(qI 0 5++qI 8 2++qI 6 1),ab (by rfl) (by rfl) ?_⟩
   try simp (disch:=omega) only [go_sem,seval]
  ·simp (disch:=omega) only [go_sem,seval]
   refine⟨qC,(qI 0 5++qI 8 2++qI 6 1),ab (by rfl) (by rfl) ?_⟩
   try simp (disch:=omega) only [go_sem,seval]
  ·simp (disch:=omega) only [go_sem,seval]
   refine⟨qC,(qI 0 5++qI 8 2++qI 6 1),ab (by rfl) (by rfl) ?_⟩
   try simp (disch:=omega) only [go_sem,seval]
  ·simp (disch:=omega) only [go_sem,seval]
   refine⟨qC,(qI 0 5++qI 8 2++qI 5 1),ab (by rfl) (by rfl) ?_⟩
   try simp (disch:=omega) only [go_sem,seval]
  ·simp (disch:=omega) only [go_sem,seval]
   refine⟨qC,(qI 0 5++qI 8 2++qI 5 1),ab (by rfl) (by rfl) ?_⟩
   try simp (disch:=omega) only [go_sem,seval]
  simp (disch:=omega) only [go_sem,seval]
  refine⟨qC,(qI 0 5++qI 8 2++qI 5 1),ab (by rfl) (by rfl) ?_⟩
  try simp (disch:=omega) only [go_sem,seval]
 refine ac 400 ?_
 try simp (disch:=omega) only [go_sem,seval]
 refine bc (qC) (hM) (qI 0 2) qM (by rfl) (ac 400 ?_)
 simp (disch:=omega) only [go_sem,seval]
 split<;>rename_i b1<;>(try simp only [beq_true,beq_false,Bool.not_eq_true',Bool.not_eq_false'] at b1)<;>simp (disch:=omega) only [go_sem,seval,b1]<;>(try simp only [decide_eq_true_eq,decide_eq_false_iff_not,beq_iff_eq,beq_eq_false_iff_ne,bne_iff_ne,bne_eq_false_iff_eq,ne_eq,Decidable.not_not,Bool.and_eq_true,Bool.and_eq_false_iff,Bool.or_eq_true,Bool.or_eq_false_iff,Int.ofNat_lt,Int.ofNat_le,Bool.not_eq_eq_eq_not,Bool.not_true,Bool.not_false] at b1)<;>try simp (disch:=omega) only [go_sem,seval]
 ·split<;>rename_i b2<;>(try simp only [beq_true,beq_false,Bool.not_eq_true',Bool.not_eq_false'] at b2)<;>simp (disch:=omega) only [go_sem,seval,b2]<;>(try simp only [decide_eq_true_eq,decide_eq_false_iff_not,beq_iff_eq,beq_eq_false_iff_ne,bne_iff_ne,bne_eq_false_iff_eq,ne_eq,Decidable.not_not,Bool.and_eq_true,Bool.and_eq_false_iff,Bool.or_eq_true,Bool.or_eq_false_iff,Int.ofNat_lt,Int.ofNat_le,Bool.not_eq_eq_eq_not,Bool.not_true,Bool.not_false] at b2)<;>try simp (disch:=omega) only [go_sem,seval]
  ·rw [ht b1 (by omega)]
   have e:=AF k.tags t
   simp only [TagD.cs] at e
   try simp (disch:=omega) only [go_sem,seval,e]
   refine aB (qI 0 2++qI 5 1++qI 9 1) (qC) _ (by simp only [go_sem];rfl) (by rfl) (by rfl) ?_
   simp (disch:=omega) only [go_sem,seval]
   try simp
  rw [hf2 (by omega)]
  try simp (disch:=omega) only [go_sem,seval]
  refine aB (qI 0 2++qI 5 2) (qC) _ (by simp only [go_sem];rfl) (by rfl) (by rfl) ?_
  simp (disch:=omega) only [go_sem,seval]
 rw [hf1 b1]
 try simp (disch:=omega) only [go_sem,seval]
 refine aB (qI 0 2++qI 5 2) (qC) _ (by simp only [go_sem];rfl) (by rfl) (by rfl) ?_
 simp (disch:=omega) only [go_sem,seval]
theorem gi (w:WorldD) (hs:SmallW w):aP 72 [.ag (w.cs 0)] (w.hp false) (.ag (w.cs 21)) (w.hp false++w.hp true):=by
 have ha:=hs.a
 have hb:=hs.b
 have h1:=hs.bag
 have h2:=hs.past
 have h3:=hs.keys
 have h4:=hs.tags
 have h5:=hs.nums
 have h6:=hs.ansA
 have h7:=hs.ansB
 refine fc Tryz.func72 (by kernel_rfl) rfl fun E hE=>ac 400 ?_
 simp (disch:=omega) only [Tryz.ntmps72,Tryz.results72,go_sem,seval]
 refine bc (qC) (aj w.a (by have:=ha.own;omega) (by have:=ha.far;omega) (by have:=ha.subs;omega) (by have:=ha.halfs;omega) (by have:=ha.list;omega) (by have:=ha.done;omega) (by have:=ha.over;omega)) (qI 0 7) qM (by rfl) (ac 400 ?_)
 simp (disch:=omega) only [go_sem,seval]
 refine bc (qC) (aj w.b (by have:=hb.own;omega) (by have:=hb.far;omega) (by have:=hb.subs;omega) (by have:=hb.halfs;omega) (by have:=hb.list;omega) (by have:=hb.done;omega) (by have:=hb.over;omega)) (qI 7 7) qM (by rfl) (ac 400 ?_)
 simp (disch:=omega) only [go_sem,seval]
 refine cG [(0,8),(0,5),(4,8),(4,5),(5,8)] [(0,4)] [(qU [1,3,6,2,0,1,4,2,8,5]),[1,2,3,6,7,0,4,8,5,9,10,11,12],[1,2,3,6,7,0,5,4,8,9,10,11,12],[1,2,3,6,7,0,8,4,5,9,10,11,12],[1,2,3,6,7,0,5,8,4,9,10,11,12],[1,2,3,6,7,0,8,5,4,9,10,11,12],[1,2,3,6,7,5,0,4,8,9,10,11,12],[1,2,3,6,7,5,0,8,4,9,10,11,12],(qU [1,3,6,3,0,1,4,2,9,4]),[1,2,3,6,7,8,0,5,4,9,10,11,12],[1,2,3,6,7,5,8,0,4,9,10,11,12],[1,2,3,6,7,8,5,0,4,9,10,11,12]] 21 hE (fun s=>s.at (qU [21,12]) [] (s.hp.set 21 (some ⟨[eg w 23 24 25 26 27 28 29 30 31 32 33 34 35 36 38 40 41 42 18 19 20],61,44,true,false⟩)++[some ⟨w.known.keys.map aM,1,3,true,true⟩,some ⟨w.known.tags.map TagD.cs,5,46,true,true⟩])) (by kernel_rfl) (qC) (by kernel_rfl) ?_ ?_
 ·simp only [bm]
  refine⟨aa 400 ?_,aa 400 ?_,aa 400 ?_,aa 400 ?_,aa 400 ?_,aa 400 ?_,aa 400 ?_,aa 400 ?_,aa 400 ?_,aa 400 ?_,aa 400 ?_,aa 400 ?_⟩
  ·simp (disch:=omega) only [go_sem,seval]
   refine⟨qC,(qI 0 41++qI 42 1++qI 44 1),ab (by rfl) (by rfl) ?_⟩
   try simp (disch:=omega) only [go_sem,seval]
  ·simp (disch:=omega) only [go_sem,seval]
   refine⟨qC,(qI 0 41++qI 42 1++qI 44 1),ab (by rfl) (by rfl) ?_⟩
   try simp (disch:=omega) only [go_sem,seval]
  ·simp (disch:=omega) only [go_sem,seval]
   refine⟨qC,(qI 0 41++qI 43 2),ab (by rfl) (by rfl) ?_⟩
   try simp (disch:=omega) only [go_sem,seval]
  ·simp (disch:=omega) only [go_sem,seval]
   refine⟨qC,(qI 0 41++qI 42 1++qI 44 1),ab (by rfl) (by rfl) ?_⟩
   try simp (disch:=omega) only [go_sem,seval]
  ·simp (disch:=omega) only [go_sem,seval]
   refine⟨qC,(qI 0 41++qI 43 2),ab (by rfl) (by rfl) ?_⟩
   try simp (disch:=omega) only [go_sem,seval]
  ·simp (disch:=omega) only [go_sem,seval]
   refine⟨qC,(qI 0 41++qI 43 2),ab (by rfl) (by rfl) ?_⟩
   try simp (disch:=omega) only [go_sem,seval]
  ·simp (disch:=omega) only [go_sem,seval]
   refine⟨qC,(qI 0 41++qI 43 2),ab (by rfl) (by rfl) ?_⟩
   try simp (disch:=omega) only [go_sem,seval]
  ·simp (disch:=omega) only [go_sem,seval]
   refine⟨qC,(qI 0 41++qI 43 2),ab (by rfl) (by rfl) ?_⟩
   try simp (disch:=omega) only [go_sem,seval]
  ·simp (disch:=omega) only [go_sem,seval]
   refine⟨qC,(qI 0 41++qI 42 1++qI 44 1),ab (by rfl) (by rfl) ?_⟩
   try simp (disch:=omega) only [go_sem,seval]
  ·simp (disch:=omega) only [go_sem,seval]
   refine⟨qC,(qI 0 41++qI 43 2),ab (by rfl) (by rfl) ?_⟩
   try simp (disch:=omega) only [go_sem,seval]
  ·simp (disch:=omega) only [go_sem,seval]
   refine⟨qC,(qI 0 41++qI 43 2),ab (by rfl) (by rfl) ?_⟩
   try simp (disch:=omega) only [go_sem,seval]
  simp (disch:=omega) only [go_sem,seval]
  refine⟨qC,(qI 0 41++qI 43 2),ab (by rfl) (by rfl) ?_⟩
  try simp (disch:=omega) only [go_sem,seval]
 refine ac 400 ?_
 try simp (disch:=omega) only [go_sem,seval]
 refine aB (qI 0 21++qI 23 14++qI 38 1++qI 40 3++qI 44 1++qI 46 1++qI 48 1) (qC) _ (by simp only [go_sem];rfl) (by rfl) (by rfl) ?_
 simp (disch:=omega) only [go_sem,seval]
theorem oU (n:Int):sideAt n=0\/sideAt n=1\/sideAt n=2:=by
 rw [sideAt]
 split
 ·exact .inr (.inl rfl)
 split
 ·exact .inr (.inr rfl)
 exact .inl rfl
def cq (w:WorldD) (side:Int) (e:EndD):WorldD:=if side=1 then { w with a:=e } else { w with b:=e }
def cP (l:List Int) (n:Int):List Int:=if 0 < n/\mq l n=false/\l.length < 300 then l++[n] else l
theorem BW {l:List Int} {n:Int} (h1:0 < n) (h2:mq l n=false) (h3:l.length < 300):cP l n=l++[n]:=if_pos ⟨h1,h2,h3⟩
theorem AH {l:List Int} {n:Int} (h1:¬ 0 < n):cP l n=l:=if_neg (fun h=>h1 h.1)
theorem AI {l:List Int} {n:Int} (h2:mq l n=true):cP l n=l:=if_neg (by simp [h2])
theorem AJ {l:List Int} {n:Int} (h3:¬ l.length < 300):cP l n=l:=if_neg (fun h=>h3 h.2.2)
theorem gj {l:List Int} {n:Int} (h:l.length<=1048576):(cP l n).length<=1048576:=by
 rw [cP];split
 ·rename_i hh;have:=hh.2.2;simp;omega
 exact h
def mS (l:List LetterD) (x:LetterD):List LetterD:=if l.length < 150 then l++[x] else l
def ut (l:List LetterD) (x:LetterD):List LetterD:=if l.length < 40 then l++[x] else l
def h_ (l:List Int) (yes:Bool) (n:Int):List Int:=if yes=true/\l.length < 300 then l++[n] else l
theorem vF {l:List LetterD} {x:LetterD} (h:l.length < 150):mS l x=l++[x]:=if_pos h
theorem vG {l:List LetterD} {x:LetterD} (h:¬ l.length < 150):mS l x=l:=if_neg h
theorem zc {l:List LetterD} {x:LetterD} (h:l.length < 40):ut l x=l++[x]:=if_pos h
theorem zd {l:List LetterD} {x:LetterD} (h:¬ l.length < 40):ut l x=l:=if_neg h
theorem ze {l:List Int} {n:Int} (h:l.length < 300):h_ l true n=l++[n]:=if_pos ⟨rfl,h⟩
theorem zf {l:List Int} {b:Bool} {n:Int} (h:¬ l.length < 300):h_ l b n=l:=if_neg (fun hh=>h hh.2)
theorem gk {l:List Int} {n:Int}:h_ l false n=l:=if_neg (by simp)
theorem rY {l:List LetterD} {x:LetterD} (h:l.length<=1048576):(mS l x).length<=1048576:=by
 rw [mS];split
 ·simp;omega
 exact h
theorem AK {l:List LetterD} {x:LetterD} (h:l.length<=1048576):(ut l x).length<=1048576:=by
 rw [ut];split
 ·simp;omega
 exact h
theorem lK {l:List Int} {b:Bool} {n:Int} (h:l.length<=1048576):(h_ l b n).length<=1048576:=by
 rw [h_];split
 ·rename_i hh;have:=hh.2;simp;omega
 exact h
theorem mT {k:KnownD} {t:TagD} (h:k.tags.length<=1048576):(ez k t).tags.length<=1048576:=by
 rw [ez];split
 ·rename_i hh;have:=hh.2;simp;omega
 exact h
theorem i4 {k:KnownD} {t:TagD}:(ez k t).keys=k.keys:=by
 rw [ez];split<;>rfl
def ia (side k:Int) (x:LetterD):Bool:=decide (x.kind=5) && decide (side=k)
theorem uu {side k:Int} {x:LetterD} (h:¬ x.kind=5):ia side k x=false:=by simp [ia,h]
theorem qd {side k:Int} {x:LetterD} (h:¬ side=k):ia side k x=false:=by simp [ia,h]
theorem zg {k:Int} {x:LetterD} (h:x.kind=5):ia k k x=true:=by simp [ia,h]
def mU (side:Int) (w:WorldD) (x:LetterD):WorldD:=
 { w with past:=mS w.past x,answersA:=h_ w.answersA (ia side 1 x) w.a.now,answersB:=h_ w.answersB (ia side 2 x) w.b.now }
def vH (w:WorldD) (x:LetterD):WorldD:={ w with known:=ez w.known x.tag,nums:=cP (cP (cP w.nums x.nonce) x.give) x.sgn }
def cn (side:Int) (w:WorldD) (x:LetterD):WorldD:=
 if sideAt x.to=0 then vH (mU side w x) x else { mU side w x with bag:=ut w.bag x }
def an (side:Int) (w:WorldD) (l:List LetterD):WorldD:=l.foldl (cn side) w
theorem mV {side:Int} {w:WorldD} {l:List LetterD} {k:Nat} (h:k < l.length):an side w (l.drop k)=an side (cn side w l[k]) (l.drop (k+1)):=by
 rw [List.drop_eq_getElem_cons h];rfl
theorem oV {side:Int} {w:WorldD} {l:List LetterD} {k:Nat} (h:l.length<=k):an side w (l.drop k)=w:=by
 rw [List.drop_eq_nil_of_le h];rfl
def qe (w:WorldD) (side:Int) (l:List LetterD):WorldD:=if side=1\/side=2 then an side w l else w
def eF (w:WorldD) (x:LetterD):WorldD:=
 if sideAt x.to=0 then w else qe (cq w (sideAt x.to) (bM (bB w (sideAt x.to)) x).1) (sideAt x.to) (bM (bB w (sideAt x.to)) x).2
structure SmallP2 (w:WorldD):Prop where
 bag:w.bag.length<=1048576
 past:w.past.length<=1048576
 keys:w.known.keys.length<=1048576
 tags:w.known.tags.length<=1048576
 nums:w.nums.length<=1048576
 ansA:w.answersA.length<=1048576
 ansB:w.answersB.length<=1048576
theorem SmallW.rest {w:WorldD} (h:SmallW w):SmallP2 w:=⟨h.bag,h.past,h.keys,h.tags,h.nums,h.ansA,h.ansB⟩
theorem gm {side:Int} {w:WorldD} {x:LetterD}:(cn side w x).a=w.a/\(cn side w x).b=w.b/\(cn side w x).wroteA=w.wroteA/\(cn side w x).wroteB=w.wroteB/\(cn side w x).readA=w.readA/\(cn side w x).readB=w.readB:=by
 rw [cn];split<;>exact⟨rfl,rfl,rfl,rfl,rfl,rfl⟩
theorem eG {side:Int} {w:WorldD} {x:LetterD} (h:SmallP2 w):SmallP2 (cn side w x):=by
 rw [cn];split
 ·exact⟨h.bag,rY h.past,by rw [vH,mU,i4];exact h.keys,mT h.tags,gj (gj (gj h.nums)),lK h.ansA,lK h.ansB⟩
 exact⟨AK h.bag,rY h.past,h.keys,h.tags,h.nums,lK h.ansA,lK h.ansB⟩
theorem ba {side:Int}:∀ {l:List LetterD} {w:WorldD},(an side w l).a=w.a/\(an side w l).b=w.b/\(an side w l).wroteA=w.wroteA/\(an side w l).wroteB=w.wroteB/\(an side w l).readA=w.readA/\(an side w l).readB=w.readB
 |[],w=>⟨rfl,rfl,rfl,rfl,rfl,rfl⟩
 |x::l,w=>by
  have h1:=ba (side:=side) (l:=l) (w:=cn side w x)
  have h2:=gm (side:=side) (w:=w) (x:=x)
  rw [show an side w (x::l)=an side (cn side w x) l from rfl]
  exact⟨h1.1.trans h2.1,h1.2.1.trans h2.2.1,h1.2.2.1.trans h2.2.2.1,h1.2.2.2.1.trans h2.2.2.2.1,h1.2.2.2.2.1.trans h2.2.2.2.2.1,h1.2.2.2.2.2.trans h2.2.2.2.2.2⟩
theorem kY {side:Int}:∀ {l:List LetterD} {w:WorldD},SmallP2 w->SmallP2 (an side w l)
 |[],w,h=>h
 |x::l,w,h=>kY (l:=l) (eG h)
theorem uv {l:List HalfD} {h:HalfD} (hl:l.length<=1048576):(bJ l h).1.length<=1048576:=by
 rw [bJ];split
 ·rename_i hh;have:=ca hh;dsimp only;omega
 exact hl
theorem mW {l:List AddrD} {a:AddrD} (hl:l.length<=1048576):(aJ l a).1.length<=1048576:=by
 rw [aJ];split
 ·rename_i hh;have:=gg hh;dsimp only;omega
 exact hl
theorem kZ {l:List AddrD} {n:Int} (hl:l.length<=1048576):(be l n).1.length<=1048576:=by
 rw [be];split
 ·exact hl
 simp only [List.length_append,List.length_take,List.length_drop];omega
theorem rZ {l:List HalfD} {r:RoadD} (hl:l.length<=1048576):(bz l r).length<=1048576:=by
 rw [bz];split
 ·exact hl
 simp only [List.length_append,List.length_take,List.length_drop];omega
theorem oW {e:EndD} (h:af e=true):e.done.length<=256/\e.over.length<=256:=by
 simp only [af,Bool.and_eq_true] at h
 exact⟨by have:=mK (l:=e.done) (m:=e.own) (by simp_all);omega,by have:=mK (l:=e.over) (m:=e.far) (by simp_all);omega⟩
theorem AL {e:EndD} {x:LetterD} (h:0<=fo e x):af e=true:=by
 rcases f9 e x with h1|⟨n,_,_,_,h2,_⟩
 ·omega
 exact h2
theorem lu {e:EndD} {x:LetterD} (hs:Small e):Small (ax e x).1:=by
 rw [ax];split
 ·rename_i h
  simp only [f8,Bool.and_eq_true,decide_eq_true_eq] at h
  exact⟨hs.own,by simp [dO],by simp only [List.length_append,List.length_singleton];omega,hs.halfs,hs.list,hs.done,hs.over⟩
 exact hs
theorem mX {e:EndD} {x:LetterD} (hs:Small e):Small (aS e x).1:=by
 rw [aS];split
 ·exact⟨hs.own,by simp [dO],by simpa only [List.length_set] using hs.subs,hs.halfs,hs.list,hs.done,hs.over⟩
 exact hs
theorem mY {e:EndD} {x:LetterD} (hs:Small e):Small (br e x).1:=by
 rw [br];split
 ·split
  ·exact⟨hs.own,hs.far,hs.subs,by simpa only [List.length_set] using hs.halfs,hs.list,hs.done,hs.over⟩
  exact⟨hs.own,hs.far,hs.subs,uv hs.halfs,hs.list,hs.done,hs.over⟩
 exact hs
theorem i5 {e:EndD} {x:LetterD} (hs:Small e):Small (ay e x).1:=by
 rw [ay];split
 ·exact⟨hs.own,hs.far,by simpa only [List.length_set] using hs.subs,hs.halfs,hs.list,hs.done,hs.over⟩
 exact hs
theorem i6 {e:EndD} {x:LetterD} (hs:Small e):Small (ao e x).1:=by
 rw [ao];split
 ·split
  ·rename_i h
   simp only [rE,Bool.and_eq_true,decide_eq_true_eq] at h
   refine⟨hs.own,hs.far,?_,rZ hs.halfs,hs.list,hs.done,hs.over⟩
   split<;>simp only [bP,List.length_append,List.length_set,List.length_singleton]<;>omega
  split<;>exact hs
 exact hs
theorem jR {e:EndD} {x:LetterD} (hs:Small e):Small (aE e x).1:=by
 rw [aE];dsimp only;split
 ·exact⟨hs.own,hs.far,by simpa only [bP,List.length_set] using hs.subs,hs.halfs,hs.list,hs.done,hs.over⟩
 exact hs
theorem mZ {e:EndD} {x:LetterD} (hs:Small e):Small (bC e x).1:=by
 rw [bC];split
 ·exact⟨hs.own,mW hs.far,hs.subs,hs.halfs,hs.list,hs.done,hs.over⟩
 exact hs
theorem m0 {e:EndD} {x:LetterD} (hs:Small e):Small (bD e x).1:=by
 rw [bD];dsimp only;split
 ·exact⟨by simpa only [List.length_set] using hs.own,hs.far,hs.subs,hs.halfs,hs.list,hs.done,hs.over⟩
 exact hs
theorem m5 {e:EndD} {x:LetterD} (hs:Small e):Small (bE e x).1:=by
 rw [bE];dsimp only;split
 ·rename_i h
  simp only [mJ,Bool.and_eq_true,decide_eq_true_eq] at h
  have:=(oW (AL h.1)).2
  exact⟨hs.own,kZ hs.far,by simpa only [List.length_map] using hs.subs,hs.halfs,hs.list,hs.done,by have:=jJ e.over x.id;dsimp only;omega⟩
 exact hs
theorem m7 {e:EndD} {x:LetterD} (hs:Small e):Small (bF e x).1:=by
 rw [bF];split
 ·exact⟨hs.own,hs.far,hs.subs,hs.halfs,kX hs.list,hs.done,hs.over⟩
 exact hs
theorem m8 {e:EndD} {x:LetterD} (hs:Small e):Small (bA e x).1:=by
 rw [bA];dsimp only;split
 ·exact⟨hs.own,hs.far,hs.subs,hs.halfs,hs.list,hs.done,hs.over⟩
 exact hs
theorem lv {e:EndD} {x:LetterD} (hs:Small e):Small (bf e x).1:=by
 rw [bf];dsimp only;split
 ·exact⟨hs.own,hs.far,by simpa only [bP,List.length_set] using hs.subs,hs.halfs,hs.list,hs.done,hs.over⟩
 exact hs
theorem jS {e:EndD} {x:LetterD} {Q:EndD×List LetterD->Prop} (h0:Q (e,[])) (h1:Q (ax e x)) (h2:Q (aS e x)) (h4:Q (br e x)) (h5:Q (ay e x)) (h6:Q (ao e x)) (h7:Q (aE e x)) (h8:Q (bC e x)) (h9:Q (bD e x)) (h10:Q (bE e x)) (h11:Q (bF e x)) (h12:Q (bA e x)) (h13:Q (bf e x)):Q (bM e x):=by
 by_cases hc:cp e x=true
 ·by_cases k1:x.kind=1
  ·rw [y3 hc k1];exact h1
  by_cases k2:x.kind=2
  ·rw [y4 hc k2];exact h2
  by_cases k4:x.kind=4
  ·rw [y5 hc k4];exact h4
  by_cases k5:x.kind=5
  ·rw [y6 hc k5];exact h5
  by_cases k6:x.kind=6
  ·rw [y7 hc k6];exact h6
  by_cases k7:x.kind=7
  ·rw [y8 hc k7];exact h7
  by_cases k8:x.kind=8
  ·rw [y9 hc k8];exact h8
  by_cases k9:x.kind=9
  ·rw [y_ hc k9];exact h9
  by_cases k10:x.kind=10
  ·rw [vB hc k10];exact h10
  by_cases k11:x.kind=11
  ·rw [vC hc k11];exact h11
  by_cases k12:x.kind=12
  ·rw [vD hc k12];exact h12
  by_cases k13:x.kind=13
  ·rw [vE hc k13];exact h13
  rw [y2 (by intro k hk;omega)];exact h0
 rw [ur (by simpa using hc)];exact h0
theorem gn {e:EndD} {x:LetterD} (hs:Small e):Small (bM e x).1:=
 jS (Q:=fun r=>Small r.1) hs (lu hs) (mX hs) (mY hs) (i5 hs) (i6 hs) (jR hs) (mZ hs) (m0 hs) (m5 hs) (m7 hs) (m8 hs) (lv hs)
theorem r_ {e:EndD} {x:LetterD}:(bM e x).2.length<=1:=by
 refine jS (Q:=fun r=>r.2.length<=1) (by simp) ?_ ?_ ?_ ?_ ?_ ?_ ?_ ?_ ?_ ?_ ?_ ?_
 ·rw [ax];split<;>simp
 ·rw [aS];split<;>simp
 ·rw [br];split
  ·split<;>simp
  simp
 ·rw [ay];split<;>simp
 ·rw [ao];split
  ·split
   ·simp
   split<;>simp
  simp
 ·rw [aE];simp
 ·rw [bC];split<;>simp
 ·rw [bD];simp
 ·rw [bE];simp
 ·rw [bF];split<;>simp
 ·rw [bA];simp
 rw [bf];simp
theorem zh {k:Nat} {g:PpS} {x:PieceD} (h:PpI k g) (hk:k<=20) (hx:x.text.length<=200/\0<=x.pos/\x.pos<=2000000000):PpI (k+1) (gh g x):=by
 rw [gh];split
 ·exact vz h hx.1
 split
 ·cases hl:g.laid with
  |true=>simp only [if_true];exact ul h hl hx.1
  |false=>simp only [Bool.false_eq_true,if_false];exact um h hk hl hx.1
 exact y0 h hx.1 hx.2.1 hx.2.2
theorem zi:∀ {l:List PieceD} {k:Nat} {g:PpS},PpI k g->k+l.length<=20->(∀ x∈l,x.text.length<=200/\0<=x.pos/\x.pos<=2000000000)->PpI (k+l.length) (mO g l)
 |[],k,g,h,_,_=>h
 |x::r,k,g,h,hk,hx=>by
  simp only [List.length_cons] at hk⊢
  have:=zi (l:=r) (zh h (by omega) (hx x (by simp))) (by omega) (fun y hy=>hx y (by simp [hy]))
  rw [show k+(r.length+1)=k+1+r.length by omega]
  exact this
theorem AM {k:Nat} {g:PpS} (h:PpI k g) (hk:k<=20):(∀ z∈iN g,z.text.length<=5000)/\(iN g).length<=100:=by
 have ho:=h.own
 have ha:=h.acc
 rw [iN];split
 ·refine⟨h.texts,?_⟩
  split at ha<;>omega
 refine⟨fun z hz=>?_,?_⟩
 ·rcases List.mem_append.1 hz with hz|hz
  ·exact h.texts z hz
  simp only [List.mem_singleton] at hz;subst hz;omega
 simp only [List.length_append,List.length_singleton]
 split at ha<;>omega
theorem k_ {p:PiecesD} {n:Int} {t:List UInt8} (hs:SmallP p) (hp:piecesOk p=true) (h0:0<=n) (h1:n<=2000000000) (ht:t.length<=200):SmallP (kW p n t):=by
 have F:=dt hp hs
 have hI:=zi (l:=p.list) (mP h0 h1 ht) (by have:=F.list;omega) F.texts
 obtain⟨h2,h3⟩:=AM hI (by have:=F.list;omega)
 rw [kW]
 generalize iN (mO ⟨⟨n,t⟩,false,[]⟩ p.list)=l at h2 h3
 rw [iO];split
 ·have hr:=F.ready
  rw [kV]
  cases l with
  |nil=>split<;>exact⟨by simp,by simp [List.headD];first|omega|exact hs.ready,by simp⟩
  |cons y r=>
   have hy:=h2 y (by simp)
   simp only [List.length_cons] at h3
   split
   ·exact⟨by simp only [List.tail_cons];omega,by simp only [List.headD_cons,List.length_append];omega,fun z hz=>by have:=h2 z (List.mem_cons_of_mem _ hz);omega⟩
   exact⟨by simp only [List.length_cons];omega,by dsimp only;omega,fun z hz=>by have:=h2 z hz;omega⟩
 exact hs
theorem m9 {p:PiecesD} {n:Int} {t:List UInt8} (hs:SmallP p):SmallP (bs p n t):=by
 rw [bs];split
 ·rename_i h
  simp only [qa,gA,bj,Bool.and_eq_true,decide_eq_true_eq] at h
  obtain⟨⟨hp,hn⟩,ht⟩:=h
  split
  ·exact hs
  split
  ·have F:=dt hp hs
   have hr:=F.ready
   have:=F.next
   have:=F.r0
   have:=F.r1
   exact k_ hs hp (by omega) (by omega) (by rw [List.length_drop];omega)
  exact k_ hs hp (by omega) (by omega) (by omega)
 exact hs
structure GoodE (e:EndD):Prop where
 s:Small e
 p:SmallP e.inp
 o:e.out.text.length<=1048576
theorem zj (o:OutD) (n:Int):(nI o n).text.length<=o.text.length:=by
 rw [nI];split
 ·simp only [List.length_drop];omega
 exact Nat.le_refl _
theorem w5 {e:EndD} {x:LetterD} (h:GoodE e):GoodE (bM e x).1:=by
 have io:(bM e x).1.inp=e.inp/\(bM e x).1.out=e.out\/SmallP (bM e x).1.inp/\(bM e x).1.out.text.length<=1048576:=by
  refine jS (Q:=fun r=>r.1.inp=e.inp/\r.1.out=e.out\/SmallP r.1.inp/\r.1.out.text.length<=1048576) (.inl ⟨rfl,rfl⟩) ?_ ?_ ?_ ?_ ?_ ?_ ?_ ?_ ?_ ?_ ?_ ?_
  ·unfold ax;repeat' split
   all_goals exact .inl ⟨rfl,rfl⟩
  ·unfold aS;repeat' split
   all_goals exact .inl ⟨rfl,rfl⟩
  ·unfold br;repeat' split
   all_goals exact .inl ⟨rfl,rfl⟩
  ·unfold ay;repeat' split
   all_goals exact .inl ⟨rfl,rfl⟩
  ·unfold ao;repeat' split
   all_goals exact .inl ⟨rfl,rfl⟩
  ·unfold aE;dsimp only;split
   all_goals exact .inl ⟨rfl,rfl⟩
  ·unfold bC;repeat' split
   all_goals exact .inl ⟨rfl,rfl⟩
  ·unfold bD;dsimp only;split
   all_goals exact .inl ⟨rfl,rfl⟩
  ·unfold bE;dsimp only;split
   all_goals exact .inl ⟨rfl,rfl⟩
  ·unfold bF;split
   ·exact .inr ⟨m9 h.p,h.o⟩
   exact .inl ⟨rfl,rfl⟩
  ·unfold bA;dsimp only;split
   ·exact .inr ⟨h.p,Nat.le_trans (zj _ _) h.o⟩
   exact .inl ⟨rfl,rfl⟩
  unfold bf;dsimp only;split
  all_goals exact .inl ⟨rfl,rfl⟩
 rcases io with⟨h1,h2⟩|⟨h1,h2⟩
 ·exact⟨gn h.s,by rw [h1];exact h.p,by rw [h2];exact h.o⟩
 exact⟨gn h.s,h1,h2⟩
def bt (e:EndD):Int:=if af e=true/\(eP e.subs).length≠0 then (((eP e.subs).getD (e.pick.toNat % (eP e.subs).length) 0:Nat):Int) else -1
theorem nU (e:EndD):bt e= -1\/∃ m:Nat,m < e.subs.length/\bt e=(m:Int):=by
 rw [bt]
 split
 ·rename_i h
  right
  have hz:e.pick.toNat % (eP e.subs).length < (eP e.subs).length:=Nat.mod_lt _ (by omega)
  refine⟨_,?_,rfl⟩
  rw [List.getD_eq_getElem?_getD,List.getElem?_eq_getElem hz]
  exact yH (List.getElem_mem hz)
 exact .inl rfl
theorem i7 {e:EndD} (h:af e=true):0<=e.pick/\e.pick<=1000000000:=by
 simp only [af,Bool.and_eq_true] at h
 have h1:=h.1.2
 simp only [List.all_cons,Bool.and_eq_true,gA,decide_eq_true_eq] at h1
 exact h1.2.2.2.2.1
theorem se {p:Int} {n:Nat} (hp:0<=p) (hn:0 < n):∃ z:Nat,p.tmod (n:Int)=(z:Int)/\z < n/\z=p.toNat % n:=by
 obtain⟨q,rfl⟩:=Int.eq_ofNat_of_zero_le hp
 refine⟨q % n,?_,Nat.mod_lt _ hn,by simp⟩
 rw [Int.tmod_eq_emod_of_nonneg (by omega)]
 omega
theorem m_ {e:EndD} {z:Nat} (h1:af e=true) (hz:z < (eP e.subs).length) (hz2:z=e.pick.toNat % (eP e.subs).length):bt e=(((eP e.subs)[z]:Nat):Int):=by
 rw [bt,if_pos ⟨h1,by omega⟩,<-hz2,List.getD_eq_getElem?_getD,List.getElem?_eq_getElem hz]
 rfl
def i8 (n:Int):Int:=if 1000000000<=n then 0 else n+1
def vI (e:EndD):Nat->List Int->List Int
 |0,out=>out
 |f+1,out=>vI { e with pick:=i8 e.pick } f (if 0<=bt e then out.set (bt e).toNat (IntKind.i64.wrap (out.getD (bt e).toNat 0+1)) else out)
def EP (e:EndD) (n:Int):List Int:=if af e && bj n 0 100 then vI e n.toNat (List.replicate e.subs.length 0) else []
theorem qf (e:EndD) (h0:e.own.length<=1048576) (h1:e.far.length<=1048576) (h2:e.subs.length<=1048576) (h3:e.halfs.length<=1048576) (h4:e.inp.list.length<=1048576) (h5:e.done.length<=1048576) (h6:e.over.length<=1048576):aP 289 [.ag (e.cs 0)] (e.hp false) (.sc (.int .i64 (bt e))) (e.hp false):=by
 have hcl:=wD e.subs
 have hon:=pO e.subs
 obtain⟨q,hq⟩:∃ q,q=(j0 e.subs).filter (Bf e.subs):=⟨_,rfl⟩
 have hc:eP e.subs=if q.length=0 then j0 e.subs else q:=by rw [eP,hq]
 have hqn:q.length<=1048576:=by rw [hq];exact Nat.le_trans (List.length_filter_le _ _) (by omega)
 refine qE Tryz.func289 Tryz.ntmps289 Tryz.results289 fun E hE=>?_
 refine qK (au e h0 h1 h2 h3 h4 h5 h6) (qI 0 7) ?_
 refine qB (fun g1=>?_) fun g1=>?_
 ·have hr:bt e= -1:=by rw [bt,if_neg (by simp [g1])]
  rw [hr]
  exact qF (qI 0 7)
 refine qK (oK e h2) (qI 0 7) ?_
 refine jx 7 hE (fun s (x:Nat×List Nat)=>s.at (qU [0,1,6,29]) [(5,.sc (.int .i64 (x.1:Nat))),(4,.sc (.sl 9 0 x.2.length))] (e.hp false++[some ⟨[e.cs 0],25,38,true,false⟩,some ⟨(j0 e.subs).map pM,1,3,true,true⟩,some ⟨x.2.map pM,1,3,true,true⟩])) (fun (x:Nat×List Nat)=>x.1<=(j0 e.subs).length/\x.2.length<=x.1/\x.2++((j0 e.subs).drop x.1).filter (Bf e.subs)=q) (fun (x:Nat×List Nat)=>(j0 e.subs).length - x.1) (0,[]) (qI 0 10) (⟨Nat.zero_le _,Nat.zero_le _,by rw [hq];rfl⟩) fun x hx N hN=>?_
 obtain⟨k,acc⟩:=x
 obtain⟨hk1,hk2,hk3⟩:=hx
 dsimp only at hk1 hk2 hk3
 refine qR ?_
 refine qB (fun h=>?_) fun h=>?_
 ·have hlt:=yD h
  rw [kQ h] at hk3
  refine qD [0,1,2,3,4,5,6,7,8,9] ?_
  refine qX ?_
  refine qG ?_
  cases h8:e.subs[(j0 e.subs)[k]].spare with
  |false=>
   have hp:Bf e.subs (j0 e.subs)[k]=true:=by rw [Bf,ke hlt,h8];rfl
   rw [if_pos hp] at hk3
   try simp (disch:=omega) only [go_sem,seval,h8]
   refine sR hN (k+1,acc++[(j0 e.subs)[k]]) (qI 0 9++qI 11 1) (by (try dsimp only);exact⟨by omega,by simp;omega,by simpa using hk3⟩) ?_
   first|exact⟨⟩|simp [pM]
  |true=>
   have hp:Bf e.subs (j0 e.subs)[k]=false:=by rw [Bf,ke hlt,h8];rfl
   rw [if_neg (by simp [hp])] at hk3
   try simp (disch:=omega) only [go_sem,seval,h8]
   exact qN hN (k+1,acc) (qI 0 10) (by (try dsimp only);exact⟨by omega,by omega,hk3⟩)
 rw [List.drop_eq_nil_of_le (by omega),List.filter_nil,List.append_nil] at hk3
 subst hk3
 refine qX ?_
 refine qB (fun h8=>?_) fun h8=>?_
 ·rw [if_pos (by omega)] at hc
  refine qX ?_
  refine qB (fun h9=>?_) fun h9=>?_
  ·have hr:bt e= -1:=by rw [bt,if_neg (by rw [hc];omega)]
   rw [hr]
   exact qF (qI 0 7)
  rw [hc] at hcl
  have hl0:0 < (eP e.subs).length:=by rw [hc];omega
  have hpk:=i7 g1
  obtain⟨z,hz,hz1,hz2⟩:=se hpk.1 hl0
  have hn:=m_ g1 hz1 hz2
  simp only [hc] at hz hz1 hn
  rw [hn]
  try simp (disch:=omega) only [go_sem,seval,hz,aT hz1]
  exact qF (qI 0 7)
 rw [if_neg (by omega)] at hc
 refine qX ?_
 have hl0:0 < (eP e.subs).length:=by rw [hc];omega
 have hpk:=i7 g1
 obtain⟨z,hz,hz1,hz2⟩:=se hpk.1 hl0
 have hn:=m_ g1 hz1 hz2
 simp only [hc] at hz hz1 hn
 rw [hn]
 try simp (disch:=omega) only [go_sem,seval,hz,aT hz1]
 exact qF (qI 0 7)
structure FineO (o:OutD):Prop where
 base:0<=o.base/\o.base<=1000000000
 room:1<=o.room/\o.room<=200
 len:(o.text.length:Int)<=o.room
 sent:o.base<=o.sent/\o.sent<=o.base+(o.text.length:Int)
theorem gp {o:OutD} (h:outOk o=true):FineO o:=by
 simp only [outOk,gA,bj,Bool.and_eq_true,decide_eq_true_eq] at h
 obtain⟨⟨⟨h1,h2⟩,h3⟩,h4,h5⟩:=h
 rw [ym (by omega)] at h5
 exact⟨h1,h2,h3,h4,h5⟩
def i9 (o:OutD) (t:List UInt8):Nat:=min t.length (o.room - (o.text.length:Int)).toNat
def ib (o:OutD) (t:List UInt8):Bool:=outOk o && decide (o.base+(o.text.length:Int)+(i9 o t:Int)<=1000000000)
def eL (o:OutD) (t:List UInt8):OutD×Nat:=if ib o t then ({ o with text:=o.text++t.take (i9 o t) },i9 o t) else (o,0)
theorem zk {o:OutD} {t:List UInt8} (h:ib o t=true):eL o t=({ o with text:=o.text++t.take (i9 o t) },i9 o t):=if_pos h
theorem zl {o:OutD} {t:List UInt8} (h:ib o t=false):eL o t=(o,0):=if_neg (by simp [h])
def cc (e:EndD) (t:List UInt8):EndD×Nat:=if af e then ({ e with out:=(eL e.out t).1 },(eL e.out t).2) else (e,0)
theorem AN {e:EndD} {t:List UInt8} (h:af e=true):cc e t=({ e with out:=(eL e.out t).1 },(eL e.out t).2):=if_pos h
theorem AO {e:EndD} {t:List UInt8} (h:af e=false):cc e t=(e,0):=if_neg (by simp [h])
theorem vJ (o:OutD) (t:List UInt8):i9 o t<=t.length:=Nat.min_le_left _ _
theorem w7 (o:OutD) (t:List UInt8):(eL o t).2<=t.length:=by
 rw [eL];split
 ·exact vJ o t
 exact Nat.zero_le _
theorem sf (e:EndD) (t:List UInt8):(cc e t).2<=t.length:=by
 rw [cc];split
 ·exact w7 _ _
 exact Nat.zero_le _
def w9 (p:PiecesD) (many:Int):Nat:=min many.toNat p.ready.length
def sg (p:PiecesD) (many:Int):Bool:=piecesOk p && decide (0<=many) && decide (p.read+(w9 p many:Int)<=1000000000)
def bK (p:PiecesD) (many:Int):PiecesD×List UInt8:=if sg p many then (⟨p.read+(w9 p many:Int),p.ready.drop (w9 p many),p.list⟩,p.ready.take (w9 p many)) else (p,[])
theorem EB {p:PiecesD} {m:Int} (h:sg p m=true):bK p m=(⟨p.read+(w9 p m:Int),p.ready.drop (w9 p m),p.list⟩,p.ready.take (w9 p m)):=if_pos h
theorem EC {p:PiecesD} {m:Int} (h:sg p m=false):bK p m=(p,[]):=if_neg (by simp [h])
def bi (e:EndD) (many:Int):EndD×List UInt8:=if af e then ({ e with inp:=(bK e.inp many).1 },(bK e.inp many).2) else (e,[])
theorem AP {e:EndD} {m:Int} (h:af e=true):bi e m=({ e with inp:=(bK e.inp m).1 },(bK e.inp m).2):=if_pos h
theorem AQ {e:EndD} {m:Int} (h:af e=false):bi e m=(e,[]):=if_neg (by simp [h])
def gC (o:OutD):Bool:=outOk o && !decide (o.sent=o.base+(o.text.length:Int))
def cy (o:OutD):List UInt8:=(o.text.drop (o.sent - o.base).toNat).take 20
def dF (o:OutD):PieceD×Bool:=if gC o then (⟨o.sent,cy o⟩,true) else (⟨0,[]⟩,false)
theorem BX {o:OutD} (h:gC o=true):dF o=(⟨o.sent,cy o⟩,true):=if_pos h
theorem Ds {o:OutD} (h:gC o=false):dF o=(⟨0,[]⟩,false):=if_neg (by simp [h])
def qg (o:OutD):OutD:=if gC o then { o with sent:=o.sent+((cy o).length:Int) } else o
theorem ED {o:OutD} (h:gC o=true):qg o={ o with sent:=o.sent+((cy o).length:Int) }:=if_pos h
def kr (e:EndD):Bool:=gC e.out && decide (0<=bt e)
def vK (s:SubD) (o:OutD):LetterD:=aq s.road { ah with kind:=11,sgn:=s.give,pos:=o.sent,text:=cy o }
def cL (e:EndD):EndD×List LetterD:=
 if kr e then ({ e with out:=qg e.out,pick:=i8 e.pick },[vK (aN e.subs (bt e).toNat) e.out]) else (e,[])
theorem BY {e:EndD} (h:kr e=false):cL e=(e,[]):=if_neg (by simp [h])
theorem BZ {e:EndD} {n:Nat} (h:kr e=true) (hk:bt e=(n:Int)) (hn:n < e.subs.length):
  cL e=({ e with out:={ e.out with sent:=e.out.sent+((cy e.out).length:Int) },pick:=i8 e.pick },[vK e.subs[n] e.out]):=by
 have h1:gC e.out=true:=by simp only [kr,Bool.and_eq_true] at h;exact h.1
 rw [cL,if_pos h,ED h1,hk,Int.toNat_natCast,bW hn]
def cu:Nat->EndD->EndD×List LetterD
 |0,e=>(e,[])
 |k+1,e=>((cu k (cL e).1).1,(cL e).2++(cu k (cL e).1).2)
def aA (e:EndD) (t:List UInt8):EndD×List LetterD:=cu 3 (cc e t).1
def EE (e:EndD) (k:Int):Bool:=af e && bj k 0 ((e.subs.length:Int) - 1) && decide ((aN e.subs k.toNat).state=3)
def ks (e:EndD) (k:Int):EndD×List LetterD:=
 if EE e k then ({ e with subs:=bP e.subs k.toNat 4 },[aq (aN e.subs k.toNat).road { ah with kind:=13,sgn:=(aN e.subs k.toNat).give }]) else (e,[])
def AR (e:EndD) (a:AddrD):Bool:=af e && decide (aG e.own a.id < 0) && !mq e.done a.id
def az (e:EndD) (a:AddrD):EndD×Bool:=
 if AR e a then ({ e with own:=(aJ e.own { a with told:=false }).1 },(aJ e.own { a with told:=false }).2) else (e,false)
def sh (e:EndD) (s:SubD) (a:AddrD):LetterD:=aq s.road { ah with kind:=8,tag:=⟨3,e.key,e.peer,a.id,a.addr⟩,sgn:=s.give,id:=a.id,addr:=a.addr,spare:=a.spare }
def AS (e:EndD):Bool:=af e && decide (e.state=2) && !decide ((j0 e.subs).length=0)
def bX (e:EndD):List LetterD:=if AS e then (e.own.filter fun a=> !a.told).map (sh e (aN e.subs ((j0 e.subs).headD 0))) else []
def Dt (a:Int) (s:SubD):SubD:=if s.road.own=a then { s with state:=4 } else s
def Bj (id:Int) (s:SubD):LetterD:=aq s.road { ah with kind:=10,sgn:=s.give,id:=id }
def Du (e:EndD) (n:Int):Bool:=af e && decide (e.state=2) && decide (0<=aG e.own n)
def ic (e:EndD) (n:Int):List SubD:=e.subs.map (Dt (kU e.own (aG e.own n).toNat).addr)
def iA (e:EndD) (n:Int):EndD×List LetterD:=
 if Du e n then ({ e with own:=(be e.own n).1,done:=gf e.done n,subs:=ic e n },(j0 (ic e n)).map fun k=>Bj n (aN (ic e n) k)) else (e,[])
def cr (b:BucketD):BucketD:=if bucketOk b then { b with cur:=min b.burst (b.cur+b.rate) } else b
def bx (l:List HalfD) (now:Int):List HalfD:=l.filter fun h=>decide (now < h.till)
def fi (o:OutD):OutD:=if outOk o then { o with sent:=o.base } else o
def AT (e:EndD):Bool:=af e && decide (e.now < 1000000000) && e.subs.all fun s=>decide (s.tries < 1000000000)
def eM (e:EndD) (s:SubD):LetterD:=aq s.road { ah with kind:=4,token:=ey (3 - e.side),nonce:=s.mine,give:=s.take,spare:=s.spare }
def cW (s:SubD):SubD:=if s.state=1\/s.state=2 then (if s.state=2/\9<=s.tries+1 then { s with tries:=s.tries+1,state:=4 } else { s with tries:=s.tries+1 }) else s
def di (e:EndD) (s:SubD):List LetterD:=
 if s.state=1\/s.state=2 then (if s.state=2/\9<=s.tries+1 then [] else if (s.tries+1).tmod 3≠0 then [] else if s.state=1 then [eM e s] else [cb e s]) else []
def eR (e:EndD):EndD:={ e with now:=e.now+1,bucket:=cr e.bucket,halfs:=bx e.halfs (e.now+1),out:=fi e.out }
def bQ (e:EndD) (l:List LetterD):EndD×List LetterD:=((cu 3 e).1,l++bX e++(cu 3 e).2)
def cQ (e:EndD):EndD×List LetterD:=
 if AT e then (if e.state=2 then bQ { eR e with subs:=e.subs.map cW } (e.subs.flatMap (di e)) else bQ (eR e) []) else (e,[])
def fj (l:List SubD):List RoadD:=(l.filter fun s=>s.state != 4).map SubD.road
def eh (l:List AddrD) (n:Int):Bool:=l.any fun a=>a.addr == n
def aZ (l:List AddrD) (n:Int):Bool:=l.foldl (fun b a=>if a.addr=n then a.spare else b) false
def w_ (e:EndD) (r:RoadD):Bool:=
 af e && decide (e.state=2) && ms r && decide (aU e.subs r < 0) && fN e.own r.own && eh e.far r.far && decide (e.subs.length < 8) && bj e.draw 1 999999996
def eN (e:EndD) (r:RoadD) (spare:Bool):SubD:=⟨r,1,spare,e.draw,0,0,e.draw+2,0⟩
def dz (e:EndD) (r:RoadD) (spare:Bool):EndD×List LetterD:=
 if w_ e r then ({ e with subs:=e.subs++[eN e r spare],draw:=e.draw+4 },[eM e (eN e r spare)]) else (e,[])
def dS (far:List AddrD):EndD->List RoadD->EndD×List LetterD
 |e,[]=>(e,[])
 |e,r::l=>((dS far (dz e r (aZ far r.far)).1 l).1,(dz e r (aZ far r.far)).2++(dS far (dz e r (aZ far r.far)).1 l).2)
def bb (e:EndD):EndD×List LetterD:=
 if af e=true/\e.side=1 then dS e.far e (ei (wanted e.policy e.own e.far) (fj e.subs)) else (e,[])
def dT (w:WorldD) (side:Int) (t:List UInt8):WorldD:=if side=1 then { w with wroteA:=w.wroteA++t } else { w with wroteB:=w.wroteB++t }
def bR (w:WorldD) (side:Int) (t:List UInt8):WorldD:=if side=1 then { w with readA:=w.readA++t } else { w with readB:=w.readB++t }
def xa (w:WorldD) (x:LetterD):Bool:=dZ x && !decide (sideAt x.to=0) && f7 w.known x.tag && [x.key,x.nonce,x.give,x.sgn].all fun n=>decide (n < 1000) || mq w.nums n
def ie (e:EndD) (a:ActD):EndD×List LetterD:=
 if a.kind=1 then aA e a.text else if a.kind=2 then ((bi e a.many).1,[]) else if a.kind=3 then cQ e else if a.kind=4 then bb e
 else if a.kind=5 then ((az e a.addr).1,[]) else if a.kind=6 then iA e a.pos else ks e a.pos
def gD (w:WorldD) (a:ActD):WorldD:=
 if a.kind=1 then dT w a.side (a.text.take (cc (bB w a.side) a.text).2) else if a.kind=2 then bR w a.side (bi (bB w a.side) a.many).2 else w
def dl (w:WorldD) (a:ActD):Bool:=decide (a.kind=5) && (!decide (sideAt a.addr.addr=a.side) || !(az (bB w a.side) a.addr).2)
def eX (w:WorldD) (a:ActD):WorldD×Int:=
 if dl w a then (w,1) else (an a.side (cq (gD w a) a.side (ie (bB w a.side) a).1) (ie (bB w a.side) a).2,0)
def fF (l:List LetterD) (n:Int):List LetterD:=l.take n.toNat++l.drop (n.toNat+1)
def oX (l:List LetterD) (n:Nat):LetterD:=l.getD n default
def ce (w:WorldD) (a:ActD):WorldD×Int:=
 if a.kind=8\/a.kind=9 then
  if (w.bag.length:Int)<=a.pos then (w,1)
  else if a.kind=8 then (eF { w with bag:=fF w.bag a.pos } (oX w.bag a.pos.toNat),0) else ({ w with bag:=fF w.bag a.pos },0)
 else if a.kind=10 then
  if (w.bag.length:Int)<=a.pos\/40<=w.bag.length then (w,1) else ({ w with bag:=w.bag++[oX w.bag a.pos.toNat] },0)
 else if a.kind=11 then
  if xa w a.letter=false then (w,2) else if 40<=w.bag.length then (w,1) else ({ w with bag:=w.bag++[a.letter] },0)
 else
  if (w.past.length:Int)<=a.pos\/sideAt (oX w.past a.pos.toNat).to=0\/40<=w.bag.length then (w,1) else ({ w with bag:=w.bag++[oX w.past a.pos.toNat] },0)
def iP (w:WorldD) (a:ActD):WorldD×Int:=if cO a then (if a.kind<=7 then eX w a else ce w a) else (w,3)
def gq (w:WorldD) (own:Bool):Hp:=[some ⟨w.a.own.map AddrD.cs,4,103,own,true⟩,some ⟨w.a.far.map AddrD.cs,4,103,own,true⟩,some ⟨w.a.subs.map SubD.cs,10,101,own,true⟩,some ⟨w.a.halfs.map HalfD.cs,8,121,own,true⟩,some ⟨w.a.inp.list.map PieceD.cs,2,150,own,true⟩,some ⟨w.a.done.map aM,1,3,own,true⟩,some ⟨w.a.over.map aM,1,3,own,true⟩,some ⟨w.b.own.map AddrD.cs,4,103,own,true⟩,some ⟨w.b.far.map AddrD.cs,4,103,own,true⟩,some ⟨w.b.subs.map SubD.cs,10,101,own,true⟩,some ⟨w.b.halfs.map HalfD.cs,8,121,own,true⟩,some ⟨w.b.inp.list.map PieceD.cs,2,150,own,true⟩,some ⟨w.b.done.map aM,1,3,own,true⟩,some ⟨w.b.over.map aM,1,3,own,true⟩]
def gr (w:WorldD) (own:Bool):Hp:=[some ⟨w.bag.map LetterD.cs,19,48,own,true⟩,some ⟨w.past.map LetterD.cs,19,48,own,true⟩,some ⟨w.known.keys.map aM,1,3,own,true⟩,some ⟨w.known.tags.map TagD.cs,5,46,own,true⟩,some ⟨w.nums.map aM,1,3,own,true⟩,some ⟨w.answersA.map aM,1,3,own,true⟩,some ⟨w.answersB.map aM,1,3,own,true⟩]
attribute [go_sem] gq gr
theorem dc (w:WorldD) (e:EndD):aP 76 [.ag (w.cs 0),.sc (.int .i64 1),.ag (e.cs 21)] (w.hp false++e.hp false) (.ag (eg { w with a:=e } 21 22 23 24 25 26 27 7 8 9 10 11 12 13 14 15 16 17 18 19 20)) (w.hp false++e.hp false):=by
 refine gU Tryz.func76 Tryz.ntmps76 Tryz.results76 fun E hE=>?_
 exact dk (qI 0 28)
theorem de (w:WorldD) (e:EndD):aP 76 [.ag (w.cs 0),.sc (.int .i64 2),.ag (e.cs 21)] (w.hp false++e.hp false) (.ag (eg { w with b:=e } 0 1 2 3 4 5 6 21 22 23 24 25 26 27 14 15 16 17 18 19 20)) (w.hp false++e.hp false):=by
 refine gU Tryz.func76 Tryz.ntmps76 Tryz.results76 fun E hE=>?_
 exact dk (qI 0 28)
theorem cH (w:WorldD) (n:Int) (h0:w.nums.length<=1048576):aP 156 [.ag (w.cs 0),.sc (.int .i64 n)] [some ⟨w.a.own.map AddrD.cs,4,103,false,true⟩,some ⟨w.a.far.map AddrD.cs,4,103,false,true⟩,some ⟨w.a.subs.map SubD.cs,10,101,false,true⟩,some ⟨w.a.halfs.map HalfD.cs,8,121,false,true⟩,some ⟨w.a.inp.list.map PieceD.cs,2,150,false,true⟩,some ⟨w.a.done.map aM,1,3,false,true⟩,some ⟨w.a.over.map aM,1,3,false,true⟩,some ⟨w.b.own.map AddrD.cs,4,103,false,true⟩,some ⟨w.b.far.map AddrD.cs,4,103,false,true⟩,some ⟨w.b.subs.map SubD.cs,10,101,false,true⟩,some ⟨w.b.halfs.map HalfD.cs,8,121,false,true⟩,some ⟨w.b.inp.list.map PieceD.cs,2,150,false,true⟩,some ⟨w.b.done.map aM,1,3,false,true⟩,some ⟨w.b.over.map aM,1,3,false,true⟩,some ⟨w.bag.map LetterD.cs,19,48,false,true⟩,some ⟨w.past.map LetterD.cs,19,48,false,true⟩,some ⟨w.known.keys.map aM,1,3,false,true⟩,some ⟨w.known.tags.map TagD.cs,5,46,false,true⟩,some ⟨w.nums.map aM,1,3,true,true⟩,some ⟨w.answersA.map aM,1,3,false,true⟩,some ⟨w.answersB.map aM,1,3,false,true⟩] (.ag (eg { w with nums:=cP w.nums n } 0 1 2 3 4 5 6 7 8 9 10 11 12 13 14 15 16 17 21 19 20))
  [some ⟨w.a.own.map AddrD.cs,4,103,false,true⟩,some ⟨w.a.far.map AddrD.cs,4,103,false,true⟩,some ⟨w.a.subs.map SubD.cs,10,101,false,true⟩,some ⟨w.a.halfs.map HalfD.cs,8,121,false,true⟩,some ⟨w.a.inp.list.map PieceD.cs,2,150,false,true⟩,some ⟨w.a.done.map aM,1,3,false,true⟩,some ⟨w.a.over.map aM,1,3,false,true⟩,some ⟨w.b.own.map AddrD.cs,4,103,false,true⟩,some ⟨w.b.far.map AddrD.cs,4,103,false,true⟩,some ⟨w.b.subs.map SubD.cs,10,101,false,true⟩,some ⟨w.b.halfs.map HalfD.cs,8,121,false,true⟩,some ⟨w.b.inp.list.map PieceD.cs,2,150,false,true⟩,some ⟨w.b.done.map aM,1,3,false,true⟩,some ⟨w.b.over.map aM,1,3,false,true⟩,some ⟨w.bag.map LetterD.cs,19,48,false,true⟩,some ⟨w.past.map LetterD.cs,19,48,false,true⟩,some ⟨w.known.keys.map aM,1,3,false,true⟩,some ⟨w.known.tags.map TagD.cs,5,46,false,true⟩,none,some ⟨w.answersA.map aM,1,3,false,true⟩,some ⟨w.answersB.map aM,1,3,false,true⟩,some ⟨(cP w.nums n).map aM,1,3,true,true⟩]:=by
 have hH:=eA w.nums n h0
 have ht:=BW (l:=w.nums) (n:=n)
 have hf1:=AH (l:=w.nums) (n:=n)
 have hf2:=AI (l:=w.nums) (n:=n)
 have hf3:=AJ (l:=w.nums) (n:=n)
 generalize cP w.nums n=R at*
 refine gU Tryz.func156 Tryz.ntmps156 Tryz.results156 fun E hE=>?_
 refine qB (fun b1=>?_) fun b1=>?_
 ·refine qB (fun b2=>?_) fun b2=>?_
  ·refine qK (hH) (qI 18 1) ?_
   refine qB (fun b3=>?_) fun b3=>?_
   ·rw [ht b1 b3 (by omega)]
    refine qX ?_
    refine ES (qI 0 21++qI 24 1) ?_
    first|exact⟨⟩|simp [aM]
   rw [hf2 b3]
   refine qX ?_
   exact dk (qI 0 21++qI 18 1)
  rw [hf3 (by omega)]
  refine qX ?_
  exact dk (qI 0 21++qI 18 1)
 rw [hf1 b1]
 refine qX ?_
 exact dk (qI 0 21++qI 18 1)
theorem df (w:WorldD) (l:List LetterD) (hw:SmallW w) (hl:l.length<=1048576):aP 75 [.ag (w.cs 0),.sc (.int .i64 1),.sc (.sl 21 0 l.length)]
  (w.hp false++[some ⟨l.map LetterD.cs,19,48,false,true⟩]) (.ag ((an 1 w l).cs 22)) (w.hp false++([some ⟨l.map LetterD.cs,19,48,false,true⟩]++(an 1 w l).hp true)):=by
 obtain⟨R,hR⟩:∃ R,R=an 1 w l:=⟨_,rfl⟩
 rw [<-hR]
 have hl2:l.length<=9223372036854775807:=by omega
 have hC:=gi w hw
 refine kc Tryz.func75 (by kernel_rfl) rfl fun E hE=>ac 400 ?_
 simp (disch:=omega) only [Tryz.ntmps75,Tryz.results75,go_sem,seval]
 refine bc (qC) (hC) (qI 0 21) qM (by rfl) (ac 400 ?_)
 simp (disch:=omega) only [go_sem,seval]
 refine ju 22 hE (fun s (y:Nat×WorldD)=>s.at (qU [0,1,8,105]) [(7,.sc (.int .i64 (y.1:Nat)))] (((s.hp.take 24).set 22 (some ⟨[(eg y.2 24 25 26 27 28 29 30 31 32 33 34 35 36 37 38 39 40 41 42 43 44)],61,44,true,false⟩))++(gq w true++(gr y.2 true)))) (fun (y:Nat×WorldD)=>y.1<=l.length/\y.2.a=w.a/\y.2.b=w.b/\SmallP2 y.2/\R=an 1 y.2 (l.drop y.1)) (fun (y:Nat×WorldD)=>l.length - y.1) (0,w) (qI 0 45) (qC) (⟨Nat.zero_le _,rfl,rfl,hw.rest,hR⟩) (ab (by rfl) (by rfl) ?_) fun y hy N hN=>?_
 ·try simp (disch:=omega) only [go_sem,seval]
 obtain⟨i,u⟩:=y
 obtain⟨hi,ha,hb,hS,hu⟩:=hy
 obtain⟨ua,ub,bag,past,wA,wB,rA,rB,known,nums,nsA,nsB⟩:=u
 obtain⟨keys,tags⟩:=known
 dsimp only at hi ha hb hu
 subst ha hb
 have s1:=hS.bag
 have s2:=hS.past
 have s3:=hS.keys
 have s4:=hS.tags
 have s5:=hS.nums
 have s6:=hS.ansA
 have s7:=hS.ansB
 dsimp only at s1 s2 s3 s4 s5 s6 s7
 refine dL 1006 400 ?_
 try simp (disch:=omega) only [go_sem,seval]
 split<;>rename_i h<;>(try simp only [decide_eq_true_eq,decide_eq_false_iff_not,Int.ofNat_lt] at h)
 rotate_left
 ·have e:i=l.length:=by omega
  subst e
  rw [oV (Nat.le_refl _)] at hu
  subst hu
  try simp (disch:=omega) only [go_sem,seval]
  refine fL (qI 0 22++qI 24 21) (qC) _ (by simp only [go_sem];rfl) (by rfl) (by rfl) ?_
  simp (disch:=omega) only [go_sem,seval]
 rw [mV h] at hu
 generalize hx:l[i]=x at hu
 have hget:=aT (enc:=LetterD.cs) h
 rw [hx] at hget
 try simp (disch:=omega) only [go_sem,seval,hget]
 obtain⟨p1,hp1⟩:∃ p,p=mS past x:=⟨_,rfl⟩
 refine ec 22 hE (fun s=>s.at (qU [9,14,25,14]) [] (((s.hp.take 24).set 22 (some ⟨[(eg (⟨w.a,w.b,bag,p1,wA,wB,rA,rB,⟨keys,tags⟩,nums,nsA,nsB⟩:WorldD) 24 25 26 27 28 29 30 31 32 33 34 35 36 37 38 39 40 41 42 43 44)],61,44,true,false⟩))++(gq w true++(gr (⟨w.a,w.b,bag,p1,wA,wB,rA,rB,⟨keys,tags⟩,nums,nsA,nsB⟩:WorldD) true++[some ⟨[x.cs],19,48,true,false⟩])))) (qC) (by rfl) (fun N hN=>ac 401 ?_) (dL 1008 400 ?_)
 ·try simp (disch:=omega) only [go_sem,seval]
  split<;>rename_i b1<;>(try simp only [beq_true,beq_false,Bool.not_eq_true',Bool.not_eq_false'] at b1)<;>simp (disch:=omega) only [go_sem,seval,b1]<;>(try simp only [decide_eq_true_eq,decide_eq_false_iff_not,beq_iff_eq,beq_eq_false_iff_ne,bne_iff_ne,bne_eq_false_iff_eq,ne_eq,Decidable.not_not,Bool.and_eq_true,Bool.and_eq_false_iff,Bool.or_eq_true,Bool.or_eq_false_iff,Int.ofNat_lt,Int.ofNat_le,Bool.not_eq_eq_eq_not,Bool.not_true,Bool.not_false] at b1)<;>try simp (disch:=omega) only [go_sem,seval]
  ·rw [vF (by omega)] at hp1
   subst hp1
   try simp (disch:=omega) only [go_sem,seval]
   refine⟨qC,hN _ (qI 0 39++qI 47 1++qI 40 6) (ab (by rfl) (by rfl) ?_)⟩
   simp (disch:=omega) only [go_sem,seval]
   try simp [LetterD.cs]
  rw [vG (by omega)] at hp1
  subst hp1
  try simp (disch:=omega) only [go_sem,seval]
  refine⟨qC,hN _ (qI 0 46) (ab (by rfl) (by rfl) ?_)⟩
  simp (disch:=omega) only [go_sem,seval]
 try simp (disch:=omega) only [go_sem,seval]
 obtain⟨q1,hq1⟩:∃ q,q=h_ nsA (ia 1 1 x) w.a.now:=⟨_,rfl⟩
 refine ec 22 hE (fun s=>s.at (qU [9,14,25,35]) [] (((s.hp.take 24).set 22 (some ⟨[(eg (⟨w.a,w.b,bag,p1,wA,wB,rA,rB,⟨keys,tags⟩,nums,q1,nsB⟩:WorldD) 24 25 26 27 28 29 30 31 32 33 34 35 36 37 38 39 40 41 42 43 44)],61,44,true,false⟩))++(gq w true++(gr (⟨w.a,w.b,bag,p1,wA,wB,rA,rB,⟨keys,tags⟩,nums,q1,nsB⟩:WorldD) true++[some ⟨[x.cs],19,48,true,false⟩])))) (qC) (by rfl) (fun N hN=>ac 401 ?_) (dL 1010 400 ?_)
 ·try simp (disch:=omega) only [go_sem,seval]
  split<;>rename_i b2<;>(try simp only [beq_true,beq_false,Bool.not_eq_true',Bool.not_eq_false'] at b2)<;>simp (disch:=omega) only [go_sem,seval,b2]<;>(try simp only [decide_eq_true_eq,decide_eq_false_iff_not,beq_iff_eq,beq_eq_false_iff_ne,bne_iff_ne,bne_eq_false_iff_eq,ne_eq,Decidable.not_not,Bool.and_eq_true,Bool.and_eq_false_iff,Bool.or_eq_true,Bool.or_eq_false_iff,Int.ofNat_lt,Int.ofNat_le,Bool.not_eq_eq_eq_not,Bool.not_true,Bool.not_false] at b2)<;>try simp (disch:=omega) only [go_sem,seval]
  ·rw [zg b2] at hq1
   split<;>rename_i b3<;>(try simp only [beq_true,beq_false,Bool.not_eq_true',Bool.not_eq_false'] at b3)<;>simp (disch:=omega) only [go_sem,seval,b3]<;>(try simp only [decide_eq_true_eq,decide_eq_false_iff_not,beq_iff_eq,beq_eq_false_iff_ne,bne_iff_ne,bne_eq_false_iff_eq,ne_eq,Decidable.not_not,Bool.and_eq_true,Bool.and_eq_false_iff,Bool.or_eq_true,Bool.or_eq_false_iff,Int.ofNat_lt,Int.ofNat_le,Bool.not_eq_eq_eq_not,Bool.not_true,Bool.not_false] at b3)<;>try simp (disch:=omega) only [go_sem,seval]
   ·rw [ze (by omega)] at hq1
    subst hq1
    try simp (disch:=omega) only [go_sem,seval]
    refine⟨qC,hN _ (qI 0 43++qI 47 1++qI 44 2) (ab (by rfl) (by rfl) ?_)⟩
    simp (disch:=omega) only [go_sem,seval]
    try simp [aM]
   rw [zf (by omega)] at hq1
   subst hq1
   try simp (disch:=omega) only [go_sem,seval]
   refine⟨qC,hN _ (qI 0 46) (ab (by rfl) (by rfl) ?_)⟩
   simp (disch:=omega) only [go_sem,seval]
  rw [uu b2,gk] at hq1
  subst hq1
  try simp (disch:=omega) only [go_sem,seval]
  refine⟨qC,hN _ (qI 0 46) (ab (by rfl) (by rfl) ?_)⟩
  simp (disch:=omega) only [go_sem,seval]
 try simp (disch:=omega) only [go_sem,seval]
 refine ec 22 hE (fun s=>s.at (qU [9,14,25,56]) [] (((s.hp.take 24).set 22 (some ⟨[(eg (⟨w.a,w.b,bag,p1,wA,wB,rA,rB,⟨keys,tags⟩,nums,q1,nsB⟩:WorldD) 24 25 26 27 28 29 30 31 32 33 34 35 36 37 38 39 40 41 42 43 44)],61,44,true,false⟩))++(gq w true++(gr (⟨w.a,w.b,bag,p1,wA,wB,rA,rB,⟨keys,tags⟩,nums,q1,nsB⟩:WorldD) true++[some ⟨[x.cs],19,48,true,false⟩])))) (qC) (by rfl) (fun N hN=>ac 401 ?_) (ac 400 ?_)
 ·try simp (disch:=omega) only [go_sem,seval]
  split<;>rename_i b6<;>(try simp only [beq_true,beq_false,Bool.not_eq_true',Bool.not_eq_false'] at b6)<;>simp (disch:=omega) only [go_sem,seval,b6]<;>(try simp only [decide_eq_true_eq,decide_eq_false_iff_not,beq_iff_eq,beq_eq_false_iff_ne,bne_iff_ne,bne_eq_false_iff_eq,ne_eq,Decidable.not_not,Bool.and_eq_true,Bool.and_eq_false_iff,Bool.or_eq_true,Bool.or_eq_false_iff,Int.ofNat_lt,Int.ofNat_le,Bool.not_eq_eq_eq_not,Bool.not_true,Bool.not_false] at b6)<;>try simp (disch:=omega) only [go_sem,seval]
  ·try simp (disch:=omega) only [go_sem,seval]
   refine⟨qC,hN _ (qI 0 46) (ab (by rfl) (by rfl) ?_)⟩
   simp (disch:=omega) only [go_sem,seval]
  try simp (disch:=omega) only [go_sem,seval]
  refine⟨qC,hN _ (qI 0 46) (ab (by rfl) (by rfl) ?_)⟩
  simp (disch:=omega) only [go_sem,seval]
 try simp (disch:=omega) only [go_sem,seval]
 refine bc (qC) (cV x.to) [] qM (by rfl) (ac 400 ?_)
 simp (disch:=omega) only [go_sem,seval]
 have hoth:h_ nsB (ia 1 2 x) w.b.now=nsB:=by rw [qd (by decide),gk]
 split<;>rename_i b4<;>(try simp only [beq_true,beq_false,Bool.not_eq_true',Bool.not_eq_false'] at b4)<;>simp (disch:=omega) only [go_sem,seval,b4]<;>(try simp only [decide_eq_true_eq,decide_eq_false_iff_not,beq_iff_eq,beq_eq_false_iff_ne,bne_iff_ne,bne_eq_false_iff_eq,ne_eq,Decidable.not_not,Bool.and_eq_true,Bool.and_eq_false_iff,Bool.or_eq_true,Bool.or_eq_false_iff,Int.ofNat_lt,Int.ofNat_le,Bool.not_eq_eq_eq_not,Bool.not_true,Bool.not_false] at b4)<;>try simp (disch:=omega) only [go_sem,seval]
 ·have hK:=mR ⟨keys,tags⟩ x.tag (by dsimp only;omega) (by dsimp only;omega)
  have hky:(ez ⟨keys,tags⟩ x.tag).keys.length<=1048576:=by rw [i4];exact s3
  have hkt:(ez ⟨keys,tags⟩ x.tag).tags.length<=1048576:=mT s4
  obtain⟨kk,hkk⟩:∃ k,k=ez ⟨keys,tags⟩ x.tag:=⟨_,rfl⟩
  rw [<-hkk] at hK hky hkt
  obtain⟨k1,t1⟩:=kk
  dsimp only at hky hkt
  have t5a:(cP nums x.nonce).length<=1048576:=gj s5
  have t5b:(cP (cP nums x.nonce) x.give).length<=1048576:=gj t5a
  have hh1:=cH (⟨w.a,w.b,bag,p1,wA,wB,rA,rB,⟨k1,t1⟩,nums,q1,nsB⟩:WorldD) x.nonce (by dsimp only;omega)
  have hh2:=cH (⟨w.a,w.b,bag,p1,wA,wB,rA,rB,⟨k1,t1⟩,(cP nums x.nonce),q1,nsB⟩:WorldD) x.give (by dsimp only;omega)
  have hh3:=cH (⟨w.a,w.b,bag,p1,wA,wB,rA,rB,⟨k1,t1⟩,(cP (cP nums x.nonce) x.give),q1,nsB⟩:WorldD) x.sgn (by dsimp only;omega)
  dsimp only at hh1 hh2 hh3
  have e:cn 1 (⟨w.a,w.b,bag,past,wA,wB,rA,rB,⟨keys,tags⟩,nums,nsA,nsB⟩:WorldD) x=(⟨w.a,w.b,bag,p1,wA,wB,rA,rB,⟨k1,t1⟩,(cP (cP (cP nums x.nonce) x.give) x.sgn),q1,nsB⟩:WorldD):=by
   rw [cn,if_pos b4,vH,mU]
   dsimp only
   rw [<-hkk,hoth,<-hp1,<-hq1]
  rw [e] at hu
  have hS1:=eG (side:=1) (x:=x) hS
  rw [e] at hS1
  generalize cP nums x.nonce=m1 at*
  generalize cP m1 x.give=m2 at*
  generalize cP m2 x.sgn=m3 at*
  try simp (disch:=omega) only [go_sem,seval]
  refine bc (qC) (hK) (qI 40 2) qM (by rfl) (ac 400 ?_)
  simp (disch:=omega) only [go_sem,seval]
  refine bc (qC) (hh1) (qI 24 16++qI 46 2++qI 42 3) qM (by rfl) (ac 400 ?_)
  simp (disch:=omega) only [go_sem,seval]
  refine bc (qC) (hh2) (qI 24 16++qI 46 3++qI 43 2) qM (by rfl) (ac 400 ?_)
  simp (disch:=omega) only [go_sem,seval]
  refine bc (qC) (hh3) (qI 24 16++qI 46 2++qI 49 1++qI 43 2) qM (by rfl) (ac 400 ?_)
  simp (disch:=omega) only [go_sem,seval]
  refine⟨qC,hN _ (i+1,(⟨w.a,w.b,bag,p1,wA,wB,rA,rB,⟨k1,t1⟩,m3,q1,nsB⟩:WorldD)) (qI 0 40++qI 46 2++qI 50 1++qI 43 2) (by (try dsimp only);exact⟨by omega,rfl,rfl,hS1,hu⟩) (by (try dsimp only);omega) (ab (by rfl) (by rfl) ?_)⟩
  try simp (disch:=omega) only [go_sem,seval]
 obtain⟨g1,hg1⟩:∃ g,g=ut bag x:=⟨_,rfl⟩
 have e:cn 1 (⟨w.a,w.b,bag,past,wA,wB,rA,rB,⟨keys,tags⟩,nums,nsA,nsB⟩:WorldD) x=(⟨w.a,w.b,g1,p1,wA,wB,rA,rB,⟨keys,tags⟩,nums,q1,nsB⟩:WorldD):=by
  rw [cn,if_neg b4,mU]
  dsimp only
  rw [hoth,<-hp1,<-hq1,<-hg1]
 rw [e] at hu
 have hS1:=eG (side:=1) (x:=x) hS
 rw [e] at hS1
 try simp (disch:=omega) only [go_sem,seval]
 split<;>rename_i b5<;>(try simp only [beq_true,beq_false,Bool.not_eq_true',Bool.not_eq_false'] at b5)<;>simp (disch:=omega) only [go_sem,seval,b5]<;>(try simp only [decide_eq_true_eq,decide_eq_false_iff_not,beq_iff_eq,beq_eq_false_iff_ne,bne_iff_ne,bne_eq_false_iff_eq,ne_eq,Decidable.not_not,Bool.and_eq_true,Bool.and_eq_false_iff,Bool.or_eq_true,Bool.or_eq_false_iff,Int.ofNat_lt,Int.ofNat_le,Bool.not_eq_eq_eq_not,Bool.not_true,Bool.not_false] at b5)<;>try simp (disch:=omega) only [go_sem,seval]
 ·rw [zc (by omega)] at hg1
  subst hg1
  try simp (disch:=omega) only [go_sem,seval]
  refine⟨qC,hN _ (i+1,(⟨w.a,w.b,(bag++[x]),p1,wA,wB,rA,rB,⟨keys,tags⟩,nums,q1,nsB⟩:WorldD)) (qI 0 38++qI 47 1++qI 39 6) (by (try dsimp only);exact⟨by omega,rfl,rfl,hS1,hu⟩) (by (try dsimp only);omega) (ab (by rfl) (by rfl) ?_)⟩
  try simp (disch:=omega) only [go_sem,seval]
  try simp [LetterD.cs]
 rw [zd (by omega)] at hg1
 subst hg1
 try simp (disch:=omega) only [go_sem,seval]
 refine⟨qC,hN _ (i+1,(⟨w.a,w.b,g1,p1,wA,wB,rA,rB,⟨keys,tags⟩,nums,q1,nsB⟩:WorldD)) (qI 0 45) (by (try dsimp only);exact⟨by omega,rfl,rfl,hS1,hu⟩) (by (try dsimp only);omega) (ab (by rfl) (by rfl) ?_)⟩
 try simp (disch:=omega) only [go_sem,seval]
theorem dg (w:WorldD) (l:List LetterD) (hw:SmallW w) (hl:l.length<=1048576):aP 75 [.ag (w.cs 0),.sc (.int .i64 2),.sc (.sl 21 0 l.length)]
  (w.hp false++[some ⟨l.map LetterD.cs,19,48,false,true⟩]) (.ag ((an 2 w l).cs 22)) (w.hp false++([some ⟨l.map LetterD.cs,19,48,false,true⟩]++(an 2 w l).hp true)):=by
 obtain⟨R,hR⟩:∃ R,R=an 2 w l:=⟨_,rfl⟩
 rw [<-hR]
 have hl2:l.length<=9223372036854775807:=by omega
 have hC:=gi w hw
 refine kc Tryz.func75 (by kernel_rfl) rfl fun E hE=>ac 400 ?_
 simp (disch:=omega) only [Tryz.ntmps75,Tryz.results75,go_sem,seval]
 refine bc (qC) (hC) (qI 0 21) qM (by rfl) (ac 400 ?_)
 simp (disch:=omega) only [go_sem,seval]
 refine ju 22 hE (fun s (y:Nat×WorldD)=>s.at (qU [0,1,8,105]) [(7,.sc (.int .i64 (y.1:Nat)))] (((s.hp.take 24).set 22 (some ⟨[(eg y.2 24 25 26 27 28 29 30 31 32 33 34 35 36 37 38 39 40 41 42 43 44)],61,44,true,false⟩))++(gq w true++(gr y.2 true)))) (fun (y:Nat×WorldD)=>y.1<=l.length/\y.2.a=w.a/\y.2.b=w.b/\SmallP2 y.2/\R=an 2 y.2 (l.drop y.1)) (fun (y:Nat×WorldD)=>l.length - y.1) (0,w) (qI 0 45) (qC) (⟨Nat.zero_le _,rfl,rfl,hw.rest,hR⟩) (ab (by rfl) (by rfl) ?_) fun y hy N hN=>?_
 ·try simp (disch:=omega) only [go_sem,seval]
 obtain⟨i,u⟩:=y
 obtain⟨hi,ha,hb,hS,hu⟩:=hy
 obtain⟨ua,ub,bag,past,wA,wB,rA,rB,known,nums,nsA,nsB⟩:=u
 obtain⟨keys,tags⟩:=known
 dsimp only at hi ha hb hu
 subst ha hb
 have s1:=hS.bag
 have s2:=hS.past
 have s3:=hS.keys
 have s4:=hS.tags
 have s5:=hS.nums
 have s6:=hS.ansA
 have s7:=hS.ansB
 dsimp only at s1 s2 s3 s4 s5 s6 s7
 refine dL 1006 400 ?_
 try simp (disch:=omega) only [go_sem,seval]
 split<;>rename_i h<;>(try simp only [decide_eq_true_eq,decide_eq_false_iff_not,Int.ofNat_lt] at h)
 rotate_left
 ·have e:i=l.length:=by omega
  subst e
  rw [oV (Nat.le_refl _)] at hu
  subst hu
  try simp (disch:=omega) only [go_sem,seval]
  refine fL (qI 0 22++qI 24 21) (qC) _ (by simp only [go_sem];rfl) (by rfl) (by rfl) ?_
  simp (disch:=omega) only [go_sem,seval]
 rw [mV h] at hu
 generalize hx:l[i]=x at hu
 have hget:=aT (enc:=LetterD.cs) h
 rw [hx] at hget
 try simp (disch:=omega) only [go_sem,seval,hget]
 obtain⟨p1,hp1⟩:∃ p,p=mS past x:=⟨_,rfl⟩
 refine ec 22 hE (fun s=>s.at (qU [9,14,25,14]) [] (((s.hp.take 24).set 22 (some ⟨[(eg (⟨w.a,w.b,bag,p1,wA,wB,rA,rB,⟨keys,tags⟩,nums,nsA,nsB⟩:WorldD) 24 25 26 27 28 29 30 31 32 33 34 35 36 37 38 39 40 41 42 43 44)],61,44,true,false⟩))++(gq w true++(gr (⟨w.a,w.b,bag,p1,wA,wB,rA,rB,⟨keys,tags⟩,nums,nsA,nsB⟩:WorldD) true++[some ⟨[x.cs],19,48,true,false⟩])))) (qC) (by rfl) (fun N hN=>ac 401 ?_) (dL 1008 400 ?_)
 ·try simp (disch:=omega) only [go_sem,seval]
  split<;>rename_i b1<;>(try simp only [beq_true,beq_false,Bool.not_eq_true',Bool.not_eq_false'] at b1)<;>simp (disch:=omega) only [go_sem,seval,b1]<;>(try simp only [decide_eq_true_eq,decide_eq_false_iff_not,beq_iff_eq,beq_eq_false_iff_ne,bne_iff_ne,bne_eq_false_iff_eq,ne_eq,Decidable.not_not,Bool.and_eq_true,Bool.and_eq_false_iff,Bool.or_eq_true,Bool.or_eq_false_iff,Int.ofNat_lt,Int.ofNat_le,Bool.not_eq_eq_eq_not,Bool.not_true,Bool.not_false] at b1)<;>try simp (disch:=omega) only [go_sem,seval]
  ·rw [vF (by omega)] at hp1
   subst hp1
   try simp (disch:=omega) only [go_sem,seval]
   refine⟨qC,hN _ (qI 0 39++qI 47 1++qI 40 6) (ab (by rfl) (by rfl) ?_)⟩
   simp (disch:=omega) only [go_sem,seval]
   try simp [LetterD.cs]
  rw [vG (by omega)] at hp1
  subst hp1
  try simp (disch:=omega) only [go_sem,seval]
  refine⟨qC,hN _ (qI 0 46) (ab (by rfl) (by rfl) ?_)⟩
  simp (disch:=omega) only [go_sem,seval]
 try simp (disch:=omega) only [go_sem,seval]
 obtain⟨q1,hq1⟩:∃ q,q=h_ nsB (ia 2 2 x) w.b.now:=⟨_,rfl⟩
 refine ec 22 hE (fun s=>s.at (qU [9,14,25,35]) [] (((s.hp.take 24).set 22 (some ⟨[(eg (⟨w.a,w.b,bag,p1,wA,wB,rA,rB,⟨keys,tags⟩,nums,nsA,nsB⟩:WorldD) 24 25 26 27 28 29 30 31 32 33 34 35 36 37 38 39 40 41 42 43 44)],61,44,true,false⟩))++(gq w true++(gr (⟨w.a,w.b,bag,p1,wA,wB,rA,rB,⟨keys,tags⟩,nums,nsA,nsB⟩:WorldD) true++[some ⟨[x.cs],19,48,true,false⟩])))) (qC) (by rfl) (fun N hN=>ac 401 ?_) (dL 1010 400 ?_)
 ·try simp (disch:=omega) only [go_sem,seval]
  split<;>rename_i b6<;>(try simp only [beq_true,beq_false,Bool.not_eq_true',Bool.not_eq_false'] at b6)<;>simp (disch:=omega) only [go_sem,seval,b6]<;>(try simp only [decide_eq_true_eq,decide_eq_false_iff_not,beq_iff_eq,beq_eq_false_iff_ne,bne_iff_ne,bne_eq_false_iff_eq,ne_eq,Decidable.not_not,Bool.and_eq_true,Bool.and_eq_false_iff,Bool.or_eq_true,Bool.or_eq_false_iff,Int.ofNat_lt,Int.ofNat_le,Bool.not_eq_eq_eq_not,Bool.not_true,Bool.not_false] at b6)<;>try simp (disch:=omega) only [go_sem,seval]
  ·try simp (disch:=omega) only [go_sem,seval]
   refine⟨qC,hN _ (qI 0 46) (ab (by rfl) (by rfl) ?_)⟩
   simp (disch:=omega) only [go_sem,seval]
  try simp (disch:=omega) only [go_sem,seval]
  refine⟨qC,hN _ (qI 0 46) (ab (by rfl) (by rfl) ?_)⟩
  simp (disch:=omega) only [go_sem,seval]
 try simp (disch:=omega) only [go_sem,seval]
 refine ec 22 hE (fun s=>s.at (qU [9,14,25,56]) [] (((s.hp.take 24).set 22 (some ⟨[(eg (⟨w.a,w.b,bag,p1,wA,wB,rA,rB,⟨keys,tags⟩,nums,nsA,q1⟩:WorldD) 24 25 26 27 28 29 30 31 32 33 34 35 36 37 38 39 40 41 42 43 44)],61,44,true,false⟩))++(gq w true++(gr (⟨w.a,w.b,bag,p1,wA,wB,rA,rB,⟨keys,tags⟩,nums,nsA,q1⟩:WorldD) true++[some ⟨[x.cs],19,48,true,false⟩])))) (qC) (by rfl) (fun N hN=>ac 401 ?_) (ac 400 ?_)
 ·try simp (disch:=omega) only [go_sem,seval]
  split<;>rename_i b2<;>(try simp only [beq_true,beq_false,Bool.not_eq_true',Bool.not_eq_false'] at b2)<;>simp (disch:=omega) only [go_sem,seval,b2]<;>(try simp only [decide_eq_true_eq,decide_eq_false_iff_not,beq_iff_eq,beq_eq_false_iff_ne,bne_iff_ne,bne_eq_false_iff_eq,ne_eq,Decidable.not_not,Bool.and_eq_true,Bool.and_eq_false_iff,Bool.or_eq_true,Bool.or_eq_false_iff,Int.ofNat_lt,Int.ofNat_le,Bool.not_eq_eq_eq_not,Bool.not_true,Bool.not_false] at b2)<;>try simp (disch:=omega) only [go_sem,seval]
  ·rw [zg b2] at hq1
   split<;>rename_i b3<;>(try simp only [beq_true,beq_false,Bool.not_eq_true',Bool.not_eq_false'] at b3)<;>simp (disch:=omega) only [go_sem,seval,b3]<;>(try simp only [decide_eq_true_eq,decide_eq_false_iff_not,beq_iff_eq,beq_eq_false_iff_ne,bne_iff_ne,bne_eq_false_iff_eq,ne_eq,Decidable.not_not,Bool.and_eq_true,Bool.and_eq_false_iff,Bool.or_eq_true,Bool.or_eq_false_iff,Int.ofNat_lt,Int.ofNat_le,Bool.not_eq_eq_eq_not,Bool.not_true,Bool.not_false] at b3)<;>try simp (disch:=omega) only [go_sem,seval]
   ·rw [ze (by omega)] at hq1
    subst hq1
    try simp (disch:=omega) only [go_sem,seval]
    refine⟨qC,hN _ (qI 0 44++qI 47 1++qI 45 1) (ab (by rfl) (by rfl) ?_)⟩
    simp (disch:=omega) only [go_sem,seval]
    try simp [aM]
   rw [zf (by omega)] at hq1
   subst hq1
   try simp (disch:=omega) only [go_sem,seval]
   refine⟨qC,hN _ (qI 0 46) (ab (by rfl) (by rfl) ?_)⟩
   simp (disch:=omega) only [go_sem,seval]
  rw [uu b2,gk] at hq1
  subst hq1
  try simp (disch:=omega) only [go_sem,seval]
  refine⟨qC,hN _ (qI 0 46) (ab (by rfl) (by rfl) ?_)⟩
  simp (disch:=omega) only [go_sem,seval]
 try simp (disch:=omega) only [go_sem,seval]
 refine bc (qC) (cV x.to) [] qM (by rfl) (ac 400 ?_)
 simp (disch:=omega) only [go_sem,seval]
 have hoth:h_ nsA (ia 2 1 x) w.a.now=nsA:=by rw [qd (by decide),gk]
 split<;>rename_i b4<;>(try simp only [beq_true,beq_false,Bool.not_eq_true',Bool.not_eq_false'] at b4)<;>simp (disch:=omega) only [go_sem,seval,b4]<;>(try simp only [decide_eq_true_eq,decide_eq_false_iff_not,beq_iff_eq,beq_eq_false_iff_ne,bne_iff_ne,bne_eq_false_iff_eq,ne_eq,Decidable.not_not,Bool.and_eq_true,Bool.and_eq_false_iff,Bool.or_eq_true,Bool.or_eq_false_iff,Int.ofNat_lt,Int.ofNat_le,Bool.not_eq_eq_eq_not,Bool.not_true,Bool.not_false] at b4)<;>try simp (disch:=omega) only [go_sem,seval]
 ·have hK:=mR ⟨keys,tags⟩ x.tag (by dsimp only;omega) (by dsimp only;omega)
  have hky:(ez ⟨keys,tags⟩ x.tag).keys.length<=1048576:=by rw [i4];exact s3
  have hkt:(ez ⟨keys,tags⟩ x.tag).tags.length<=1048576:=mT s4
  obtain⟨kk,hkk⟩:∃ k,k=ez ⟨keys,tags⟩ x.tag:=⟨_,rfl⟩
  rw [<-hkk] at hK hky hkt
  obtain⟨k1,t1⟩:=kk
  dsimp only at hky hkt
  have t5a:(cP nums x.nonce).length<=1048576:=gj s5
  have t5b:(cP (cP nums x.nonce) x.give).length<=1048576:=gj t5a
  have hh1:=cH (⟨w.a,w.b,bag,p1,wA,wB,rA,rB,⟨k1,t1⟩,nums,nsA,q1⟩:WorldD) x.nonce (by dsimp only;omega)
  have hh2:=cH (⟨w.a,w.b,bag,p1,wA,wB,rA,rB,⟨k1,t1⟩,(cP nums x.nonce),nsA,q1⟩:WorldD) x.give (by dsimp only;omega)
  have hh3:=cH (⟨w.a,w.b,bag,p1,wA,wB,rA,rB,⟨k1,t1⟩,(cP (cP nums x.nonce) x.give),nsA,q1⟩:WorldD) x.sgn (by dsimp only;omega)
  dsimp only at hh1 hh2 hh3
  have e:cn 2 (⟨w.a,w.b,bag,past,wA,wB,rA,rB,⟨keys,tags⟩,nums,nsA,nsB⟩:WorldD) x=(⟨w.a,w.b,bag,p1,wA,wB,rA,rB,⟨k1,t1⟩,(cP (cP (cP nums x.nonce) x.give) x.sgn),nsA,q1⟩:WorldD):=by
   rw [cn,if_pos b4,vH,mU]
   dsimp only
   rw [<-hkk,hoth,<-hp1,<-hq1]
  rw [e] at hu
  have hS1:=eG (side:=2) (x:=x) hS
  rw [e] at hS1
  generalize cP nums x.nonce=m1 at*
  generalize cP m1 x.give=m2 at*
  generalize cP m2 x.sgn=m3 at*
  try simp (disch:=omega) only [go_sem,seval]
  refine bc (qC) (hK) (qI 40 2) qM (by rfl) (ac 400 ?_)
  simp (disch:=omega) only [go_sem,seval]
  refine bc (qC) (hh1) (qI 24 16++qI 46 2++qI 42 3) qM (by rfl) (ac 400 ?_)
  simp (disch:=omega) only [go_sem,seval]
  refine bc (qC) (hh2) (qI 24 16++qI 46 3++qI 43 2) qM (by rfl) (ac 400 ?_)
  simp (disch:=omega) only [go_sem,seval]
  refine bc (qC) (hh3) (qI 24 16++qI 46 2++qI 49 1++qI 43 2) qM (by rfl) (ac 400 ?_)
  simp (disch:=omega) only [go_sem,seval]
  refine⟨qC,hN _ (i+1,(⟨w.a,w.b,bag,p1,wA,wB,rA,rB,⟨k1,t1⟩,m3,nsA,q1⟩:WorldD)) (qI 0 40++qI 46 2++qI 50 1++qI 43 2) (by (try dsimp only);exact⟨by omega,rfl,rfl,hS1,hu⟩) (by (try dsimp only);omega) (ab (by rfl) (by rfl) ?_)⟩
  try simp (disch:=omega) only [go_sem,seval]
 obtain⟨g1,hg1⟩:∃ g,g=ut bag x:=⟨_,rfl⟩
 have e:cn 2 (⟨w.a,w.b,bag,past,wA,wB,rA,rB,⟨keys,tags⟩,nums,nsA,nsB⟩:WorldD) x=(⟨w.a,w.b,g1,p1,wA,wB,rA,rB,⟨keys,tags⟩,nums,nsA,q1⟩:WorldD):=by
  rw [cn,if_neg b4,mU]
  dsimp only
  rw [hoth,<-hp1,<-hq1,<-hg1]
 rw [e] at hu
 have hS1:=eG (side:=2) (x:=x) hS
 rw [e] at hS1
 try simp (disch:=omega) only [go_sem,seval]
 split<;>rename_i b5<;>(try simp only [beq_true,beq_false,Bool.not_eq_true',Bool.not_eq_false'] at b5)<;>simp (disch:=omega) only [go_sem,seval,b5]<;>(try simp only [decide_eq_true_eq,decide_eq_false_iff_not,beq_iff_eq,beq_eq_false_iff_ne,bne_iff_ne,bne_eq_false_iff_eq,ne_eq,Decidable.not_not,Bool.and_eq_true,Bool.and_eq_false_iff,Bool.or_eq_true,Bool.or_eq_false_iff,Int.ofNat_lt,Int.ofNat_le,Bool.not_eq_eq_eq_not,Bool.not_true,Bool.not_false] at b5)<;>try simp (disch:=omega) only [go_sem,seval]
 ·rw [zc (by omega)] at hg1
  subst hg1
  try simp (disch:=omega) only [go_sem,seval]
  refine⟨qC,hN _ (i+1,(⟨w.a,w.b,(bag++[x]),p1,wA,wB,rA,rB,⟨keys,tags⟩,nums,nsA,q1⟩:WorldD)) (qI 0 38++qI 47 1++qI 39 6) (by (try dsimp only);exact⟨by omega,rfl,rfl,hS1,hu⟩) (by (try dsimp only);omega) (ab (by rfl) (by rfl) ?_)⟩
  try simp (disch:=omega) only [go_sem,seval]
  try simp [LetterD.cs]
 rw [zd (by omega)] at hg1
 subst hg1
 try simp (disch:=omega) only [go_sem,seval]
 refine⟨qC,hN _ (i+1,(⟨w.a,w.b,g1,p1,wA,wB,rA,rB,⟨keys,tags⟩,nums,nsA,q1⟩:WorldD)) (qI 0 45) (by (try dsimp only);exact⟨by omega,rfl,rfl,hS1,hu⟩) (by (try dsimp only);omega) (ab (by rfl) (by rfl) ?_)⟩
 try simp (disch:=omega) only [go_sem,seval]
theorem AY {o:OutD} {t:List UInt8} (h:FineO o) (h2:o.room - (o.text.length:Int) < (t.length:Int)):o.room - (o.text.length:Int)=(i9 o t:Int):=by
 have:=h.len
 rw [i9];omega
theorem vL {o:OutD} {t:List UInt8} (h:FineO o) (h2:¬ o.room - (o.text.length:Int) < (t.length:Int)):i9 o t=t.length:=by
 have:=h.len
 rw [i9];omega
theorem oY {o:OutD} {t:List UInt8} (h:FineO o):(i9 o t:Int)<=o.room - (o.text.length:Int):=by
 have:=h.len
 rw [i9];omega
theorem si (o:OutD) (t:List UInt8) (ht:t.length<=1048576):aP 275 [.ag o.cs,.sc (.st t)] [] (.tu [.ag (eL o t).1.cs,.sc (.int .i64 ((eL o t).2:Nat))]) []:=by
 have hf:=zl (o:=o) (t:=t)
 have htt:=zk (o:=o) (t:=t)
 have hK:=ff o
 generalize eL o t=R at*
 refine qE Tryz.func275 Tryz.ntmps275 Tryz.results275 fun E hE=>?_
 refine qK (hK) [] ?_
 refine qB (fun b1=>?_) fun b1=>?_
 ·rw [hf (by simp [ib,b1])]
  refine qX ?_
  exact qF []
 have F:=gp b1
 have f1:=F.base
 have f2:=F.room
 have f3:=F.len
 have f4:=F.sent
 have hr:=oY (t:=t) F
 have hle:=vJ o t
 have htl:(t.take (i9 o t)).length=i9 o t:=by rw [List.length_take];omega
 have htt2:(t.take t.length).length=t.length:=by simp
 refine qX ?_
 refine qB (fun b3=>?_) fun b3=>?_
 ·have e:=vL (t:=t) F (by omega)
  rw [e] at hr
  refine qB (fun b2=>?_) fun b2=>?_
  ·rw [hf (by simp only [ib,b1,Bool.true_and,decide_eq_false_iff_not,e];omega)]
   refine qX ?_
   exact qF []
  rw [htt (by simp only [ib,b1,Bool.true_and,decide_eq_true_eq,e];omega),e]
  refine qX ?_
  refine qD [0,1,2,3,4,5,6,7] ?_
  refine qG ?_
  exact qF []
 by_cases hlt:o.room - (o.text.length:Int) < (t.length:Int)
 ·have e:=AY (t:=t) F hlt
  try simp (disch:=omega) only [go_sem,seval,e]
  refine qB (fun b2=>?_) fun b2=>?_
  ·rw [hf (by simp only [ib,b1,Bool.true_and,decide_eq_false_iff_not];omega)]
   refine qX ?_
   exact qF []
  rw [htt (by simp only [ib,b1,Bool.true_and,decide_eq_true_eq];omega)]
  refine qX ?_
  refine qD [0,1,2,3,4,5,6,7] ?_
  refine qG ?_
  exact qF []
 have e:=vL (t:=t) F hlt
 have e2:o.room - (o.text.length:Int)=(i9 o t:Int):=by omega
 try simp (disch:=omega) only [go_sem,seval,e2]
 refine qB (fun b2=>?_) fun b2=>?_
 ·rw [hf (by simp only [ib,b1,Bool.true_and,decide_eq_false_iff_not];omega)]
  refine qX ?_
  exact qF []
 rw [htt (by simp only [ib,b1,Bool.true_and,decide_eq_true_eq];omega)]
 refine qX ?_
 refine qD [0,1,2,3,4,5,6,7] ?_
 refine qG ?_
 exact qF []
theorem ux {o:OutD} (F:FineO o):(cy o).length<=20/\((cy o).length:Int)<=o.base+(o.text.length:Int) - o.sent:=by
 have:=F.sent
 simp only [cy,List.length_take,List.length_drop]
 omega
theorem ig (o:OutD) (ho:o.text.length<=1048576):aP 290 [.ag o.cs] [] (.tu [.ag (dF o).1.cs,.sc (.bo (dF o).2)]) []:=by
 have hf:=Ds (o:=o)
 have ht:=BX (o:=o)
 have hK:=ff o
 generalize dF o=R at*
 refine qE Tryz.func290 Tryz.ntmps290 Tryz.results290 fun E hE=>?_
 refine qK (hK) [] ?_
 refine qB (fun b1=>?_) fun b1=>?_
 ·have F:=gp b1
  have f1:=F.base
  have f2:=F.room
  have f3:=F.len
  obtain⟨k,hk⟩:∃ k:Nat,o.sent - o.base=(k:Int):=⟨(o.sent - o.base).toNat,by have:=F.sent;omega⟩
  have f4:=F.sent
  refine qX ?_
  refine qB (fun b2=>?_) fun b2=>?_
  ·rw [hf (by simp [gC,b2])]
   refine qX ?_
   exact qF []
  have hnt:cy o=(o.text.drop k).take 20:=by rw [cy,hk,Int.toNat_natCast]
  rw [ht (by simp [gC,b1];omega),hnt]
  try simp (disch:=omega) only [go_sem,seval,hk]
  refine qB (fun b3=>?_) fun b3=>?_
  ·refine qX ?_
   exact qF []
  have h6:(o.text.drop k).take 20=o.text.drop k:=List.take_of_length_le (by simp only [List.length_drop] at b3⊢;omega)
  rw [h6]
  refine qX ?_
  exact qF []
 rw [hf (by simp [gC,b1])]
 refine qX ?_
 exact qF []
theorem xb (o:OutD):aP 280 [.ag o.cs] [] (.ag (fi o).cs) []:=by
 have hK:=ff o
 obtain⟨R,hR⟩:∃ R,R=fi o:=⟨_,rfl⟩
 rw [<-hR]
 refine qE Tryz.func280 Tryz.ntmps280 Tryz.results280 fun E hE=>?_
 refine qK (hK) [] ?_
 refine qB (fun b1=>?_) fun b1=>?_
 ·rw [fi,if_pos b1] at hR
  subst hR
  refine qX ?_
  exact qF []
 rw [fi,if_neg (by simp [b1])] at hR
 subst hR
 refine qX ?_
 exact qF []
theorem qh (o:OutD) (ho:o.text.length<=1048576) (h:gC o=true):aP 291 [.ag o.cs] [] (.ag (OutD.cs { o with sent:=o.sent+((cy o).length:Int) })) []:=by
 have hN:=ig o ho
 rw [BX h] at hN
 have F:=gp (by simp only [gC,Bool.and_eq_true] at h;exact h.1:outOk o=true)
 have hl:=ux F
 have f1:=F.base
 have f2:=F.room
 have f3:=F.len
 have f4:=F.sent
 refine qE Tryz.func291 Tryz.ntmps291 Tryz.results291 fun E hE=>?_
 refine qK (hN) [] ?_
 exact qF []
theorem B0 {p:PiecesD} {m:Int}:w9 p m<=p.ready.length:=Nat.min_le_right _ _
theorem B1 {p:PiecesD} {m:Int} (h:(p.ready.length:Int) < m):w9 p m=p.ready.length:=by rw [w9];omega
theorem B2 {p:PiecesD} {m:Int} (h0:0<=m) (h:¬ (p.ready.length:Int) < m):m=(w9 p m:Int):=by rw [w9];omega
theorem nc (p:PiecesD) (m:Int) (hs:SmallP p):aP 277 [.ag (p.cs 0),.sc (.int .i64 m)] (p.hp false) (.tu [.ag ((bK p m).1.cs 1),.sc (.st (bK p m).2)]) (p.hp false++(bK p m).1.hp true):=by
 have hf:=EC (p:=p) (m:=m)
 have ht:=EB (p:=p) (m:=m)
 have hC:=ga p hs.list
 have hK:=aW p hs.list
 have hsl:=hs.list
 have hsr:=hs.ready
 generalize bK p m=R at*
 by_cases h0:0<=m
 ·obtain⟨N,hN⟩:∃ N,N=w9 p m:=⟨_,rfl⟩
  have hle:N<=p.ready.length:=by rw [hN];exact B0
  have hok:piecesOk p=true->sg p m=decide (p.read+(N:Int)<=1000000000):=fun b1=>by rw [sg,b1,decide_eq_true h0,hN];rfl
  rw [<-hN] at ht
  have key:∀ M:Int,M=(N:Int)->(M=(p.ready.length:Int)\/M=m)->True:=fun _ _ _=>trivial
  refine gU Tryz.func277 Tryz.ntmps277 Tryz.results277 fun E hE=>?_
  refine qK (hC) (qI 0 1) ?_
  by_cases hlt:(p.ready.length:Int) < m
  ·have e:=B1 hlt
   rw [<-hN] at e
   subst e
   try simp (disch:=omega) only [go_sem,seval,hlt]
   refine qK (hK) (qI 0 1) ?_
   refine qB (fun b1=>?_) fun b1=>?_
   ·have F:=dt b1 hs
    have f0:=F.r0
    have f1:=F.r1
    have f2:=F.ready
    have hok':=hok b1
    refine qX ?_
    refine qB (fun b3=>?_) fun b3=>?_
    ·rw [hf (by rw [hok'];simp;omega)]
     refine qX ?_
     exact dk (qI 0 1++qI 3 1)
    rw [ht (by rw [hok'];simp;omega)]
    refine qX ?_
    refine cG [(2,5),(4,5)] [(2,4)] [[0,1,3,2,4,5,6],[0,1,3,2,5,4,6],[0,1,3,5,2,4,6]] 1 hE (fun s=>s.at (qU [42,5]) [(5,.sc (.st (p.ready.take p.ready.length)))] (s.hp.set 2 (some ⟨[[.int .i64 (p.read+(p.ready.length:Int)),.st (p.ready.drop p.ready.length),.sl 3 0 p.list.length]],3,35,true,false⟩))) (by kernel_rfl) (qC) (by kernel_rfl) ?_ (ac 400 ?_)
    rotate_left
    rotate_right
    simp only [bm]
    refine⟨aa 400 ?_,aa 400 ?_,aa 400 ?_⟩
    ·simp (disch:=omega) only [go_sem]
     refine⟨qC,(qI 0 5),ab (by rfl) (by rfl) ?_⟩
     try simp (disch:=omega) only [go_sem,seval]
    ·simp (disch:=omega) only [go_sem]
     refine⟨qC,(qI 0 5),ab (by rfl) (by rfl) ?_⟩
     try simp (disch:=omega) only [go_sem,seval]
    ·simp (disch:=omega) only [go_sem]
     refine⟨qC,(qI 0 5),ab (by rfl) (by rfl) ?_⟩
     try simp (disch:=omega) only [go_sem,seval]
    refine qX ?_
    exact dk (qI 0 1++qI 3 1)
   rw [hf (by simp [sg,b1])]
   refine qX ?_
   exact dk (qI 0 1++qI 3 1)
  have e:=B2 h0 hlt
  rw [<-hN] at e
  subst e
  refine qX ?_
  refine qK (hK) (qI 0 1) ?_
  refine qB (fun b1=>?_) fun b1=>?_
  ·have F:=dt b1 hs
   have f0:=F.r0
   have f1:=F.r1
   have f2:=F.ready
   have hok':=hok b1
   refine qX ?_
   refine qB (fun b3=>?_) fun b3=>?_
   ·rw [hf (by rw [hok'];simp;omega)]
    refine qX ?_
    exact dk (qI 0 1++qI 3 1)
   rw [ht (by rw [hok'];simp;omega)]
   refine qX ?_
   refine cG [(2,5),(4,5)] [(2,4)] [[0,1,3,2,4,5,6],[0,1,3,2,5,4,6],[0,1,3,5,2,4,6]] 1 hE (fun s=>s.at (qU [42,5]) [(5,.sc (.st (p.ready.take N)))] (s.hp.set 2 (some ⟨[[.int .i64 (p.read+(N:Int)),.st (p.ready.drop N),.sl 3 0 p.list.length]],3,35,true,false⟩))) (by kernel_rfl) (qC) (by kernel_rfl) ?_ (ac 400 ?_)
   rotate_left
   rotate_right
   simp only [bm]
   refine⟨aa 400 ?_,aa 400 ?_,aa 400 ?_⟩
   ·simp (disch:=omega) only [go_sem]
    refine⟨qC,(qI 0 5),ab (by rfl) (by rfl) ?_⟩
    try simp (disch:=omega) only [go_sem,seval]
   ·simp (disch:=omega) only [go_sem]
    refine⟨qC,(qI 0 5),ab (by rfl) (by rfl) ?_⟩
    try simp (disch:=omega) only [go_sem,seval]
   ·simp (disch:=omega) only [go_sem]
    refine⟨qC,(qI 0 5),ab (by rfl) (by rfl) ?_⟩
    try simp (disch:=omega) only [go_sem,seval]
   refine qX ?_
   exact dk (qI 0 1++qI 3 1)
  rw [hf (by simp [sg,b1])]
  refine qX ?_
  exact dk (qI 0 1++qI 3 1)
 rw [hf (by simp [sg,h0])]
 refine gU Tryz.func277 Tryz.ntmps277 Tryz.results277 fun E hE=>?_
 refine qK (hC) (qI 0 1) ?_
 refine qK (hK) (qI 0 1) ?_
 refine qB (fun b1=>?_) fun b1=>?_
 ·refine qX ?_
  exact dk (qI 0 1++qI 3 1)
 refine qX ?_
 exact dk (qI 0 1++qI 3 1)
theorem i_ (e:EndD) (t:List UInt8) (hs:Small e) (ht:t.length<=1048576):aP 248 [.ag (e.cs 0),.sc (.st t)] (e.hp false) (.tu [.ag ((cc e t).1.cs 7),.sc (.int .i64 ((cc e t).2:Nat))]) (e.hp false++(cc e t).1.hp true):=by
 have hC:=(qH (aj e))
 have hK:=(qH (au e))
 have hA:=si e.out t ht
 have hf:=AO (e:=e) (t:=t)
 have htt:=AN (e:=e) (t:=t)
 generalize cc e t=R at*
 refine qE Tryz.func248 Tryz.ntmps248 Tryz.results248 fun E hE=>?_
 refine qK (hC) (qI 0 7) ?_
 refine qK (hK) (qI 0 7) ?_
 refine qB (fun b1=>?_) fun b1=>?_
 ·rw [hf b1]
  refine qX ?_
  exact qF (qI 0 7++qI 9 7)
 rw [htt b1]
 refine qX ?_
 refine qK (hA) [] ?_
 exact qF (qI 0 7++qI 9 7)
theorem oZ (e:EndD) (m:Int) (hs:Small e) (hsp:SmallP e.inp):aP 251 [.ag (e.cs 0),.sc (.int .i64 m)] (e.hp false) (.tu [.ag ((bi e m).1.cs 7),.sc (.st (bi e m).2)]) (e.hp false++(bi e m).1.hp true):=by
 have hC:=(qH (aj e))
 have hK:=(qH (au e))
 have hA:=nc e.inp m hsp
 have hf:=AQ (e:=e) (m:=m)
 have htt:=AP (e:=e) (m:=m)
 generalize bi e m=R at*
 refine qE Tryz.func251 Tryz.ntmps251 Tryz.results251 fun E hE=>?_
 refine qK (hC) (qI 0 7) ?_
 refine qK (hK) (qI 0 7) ?_
 refine qB (fun b1=>?_) fun b1=>?_
 ·rw [hf b1]
  refine qX ?_
  exact qF (qI 0 7++qI 9 7)
 rw [htt b1]
 refine qX ?_
 refine qK (hA) (qI 4 1) ?_
 exact qF (qI 0 7++qI 9 4++qI 17 1++qI 14 2)
theorem ja {e:EndD} (hs:Small e):Small (cL e).1:=by
 rw [cL];split
 ·exact⟨hs.own,hs.far,hs.subs,hs.halfs,hs.list,hs.done,hs.over⟩
 exact hs
theorem nd (e:EndD):(cL e).2.length<=1:=by
 rw [cL];split<;>simp
theorem zm (e:EndD):(cL e).1.inp=e.inp:=by
 rw [cL];split<;>rfl
theorem kt (e:EndD):(cL e).1.out.text=e.out.text:=by
 rw [cL];split
 ·dsimp only;rw [qg];split<;>rfl
 rfl
theorem o0 (e:EndD) (hs:Small e) (ht:e.out.text.length<=1048576):aP 276 [.ag (e.cs 0)] (e.hp false) (.tu [.ag ((cL e).1.cs 7),.sc (.sl 14 0 (cL e).2.length)])
  (e.hp false++((cL e).1.hp true++[some ⟨(cL e).2.map LetterD.cs,19,48,true,true⟩])):=by
 have hC:=(qH (aj e))
 have hN:=ig e.out ht
 have hX:=(qH (qf e))
 have hf:=BY (e:=e)
 have hpt:= @BZ e
 have hpk:gC e.out=true->dF e.out=(⟨e.out.sent,cy e.out⟩,true):=BX
 have hpf:gC e.out=false->dF e.out=(⟨0,[]⟩,false):=Ds
 have hW:=fun h=>qh e.out ht h
 have hcase:=nU e
 have hpo:kr e=(gC e.out && decide (0<=bt e)):=rfl
 have hpick:0<=bt e->0<=e.pick/\e.pick<=1000000000:=fun h=>by
  rw [bt] at h
  split at h
  ·rename_i hh;exact i7 hh.1
  omega
 generalize cL e=R at*
 generalize dF e.out=np at*
 obtain⟨⟨npos,ntext⟩,nok⟩:=np
 refine gU Tryz.func276 Tryz.ntmps276 Tryz.results276 fun E hE=>?_
 refine qK (hC) (qI 0 7) ?_
 refine qK (hX) (qI 0 7) ?_
 refine qK (hN) [] ?_
 by_cases h1:gC e.out=true/\0<=bt e
 ·obtain⟨h1,h2⟩:=h1
  have hok:nok=true:=by have:=hpk h1;simp only [Prod.mk.injEq] at this;exact this.2
  have hps:npos=e.out.sent:=by have:=hpk h1;simp only [Prod.mk.injEq,PieceD.mk.injEq] at this;exact this.1.1
  have htx:ntext=cy e.out:=by have:=hpk h1;simp only [Prod.mk.injEq,PieceD.mk.injEq] at this;exact this.1.2
  subst hok hps htx
  have hW:=hW h1
  have hpick:=hpick (by omega)
  obtain⟨n,hn,hk⟩:∃ m:Nat,m < e.subs.length/\bt e=(m:Int):=by rcases hcase with h|h;omega;exact h
  rw [hpt (by rw [hpo,h1,decide_eq_true (by omega)];rfl) hk hn]
  have hg:=aT (enc:=SubD.cs) hn
  generalize bt e=z at*
  subst hk
  have hpk2:i8 e.pick=if 1000000000 < e.pick+1 then 0 else e.pick+1:=by rw [i8];split<;>split<;>omega
  refine qX ?_
  refine ER 39 (hW) [] ?_
  refine ec 7 hE (fun s=>s.at (qU [8,1,10,31]) [] (s.hp.set 16 (some ⟨[[.int .i64 e.side,.int .i64 e.state,.int .i64 e.key,.int .i64 e.peer,.int .i64 e.policy.kind,.int .i64 e.policy.many,.sl 9 0 e.own.length,.sl 10 0 e.far.length,.sl 11 0 e.subs.length,.sl 12 0 e.halfs.length,.int .i64 e.bucket.rate,.int .i64 e.bucket.burst,.int .i64 e.bucket.cur,.st e.out.text,.int .i64 e.out.base,.int .i64 (e.out.sent+((cy e.out).length:Int)),.int .i64 e.out.room,.int .i64 e.inp.read,.st e.inp.ready,.sl 13 0 e.inp.list.length,.sl 14 0 e.done.length,.sl 15 0 e.over.length,.int .i64 e.draw,.int .i64 e.now,.int .i64 (i8 e.pick)]],25,38,true,false⟩))) (qC) (by rfl) (fun N hN=>ac 401 ?_) (dL 39 400 ?_)
  ·refine qX ?_
   refine qB (fun b9=>?_) fun b9=>?_
   ·rw [if_pos (by omega)] at hpk2
    refine qX ?_
    refine⟨qC,hN _ (qI 0 19) (ab (by rfl) (by rfl) ?_)⟩
    simp (disch:=omega) only [go_sem,seval]
    exact hpk2.symm
   rw [if_neg (by omega)] at hpk2
   refine qX ?_
   refine⟨qC,hN _ (qI 0 19) (ab (by rfl) (by rfl) ?_)⟩
   simp (disch:=omega) only [go_sem,seval]
   exact hpk2.symm
  try simp (disch:=omega) only [go_sem,seval,hg]
  refine cG [(0,13),(11,0),(12,0)] [(11,12),(11,13),(12,13)] [(qU [1,12,0,1,13,3]),(qU [1,11,0,1,12,4]),(qU [1,10,0,1,11,5]),(qU [1,13,0,1,14,2])] 7 hE (fun s=>s.at (qU [5,1,46,14]) [(3,.sc (.sl 20 0 1))] (((s.hp.set 8 (some ⟨[[.int .i64 e.side,.int .i64 e.state,.int .i64 e.key,.int .i64 e.peer,.int .i64 e.policy.kind,.int .i64 e.policy.many,.sl 9 0 e.own.length,.sl 10 0 e.far.length,.sl 11 0 e.subs.length,.sl 12 0 e.halfs.length,.int .i64 e.bucket.rate,.int .i64 e.bucket.burst,.int .i64 e.bucket.cur,.st e.out.text,.int .i64 e.out.base,.int .i64 (e.out.sent+((cy e.out).length:Int)),.int .i64 e.out.room,.int .i64 e.inp.read,.st e.inp.ready,.sl 13 0 e.inp.list.length,.sl 14 0 e.done.length,.sl 15 0 e.over.length,.int .i64 e.draw,.int .i64 e.now,.int .i64 (i8 e.pick)]],25,38,true,false⟩)).set 17 none)++[some ⟨[(vK e.subs[n] e.out).cs],19,48,true,true⟩])) (by kernel_rfl) (qC) (by kernel_rfl) ?_ (ac 400 ?_)
  rotate_left
  rotate_right
  simp only [bm]
  refine⟨aa 400 ?_,aa 400 ?_,aa 400 ?_,aa 400 ?_⟩
  ·simp (disch:=omega) only [go_sem]
   refine aQ (aw e.subs[n].road { ah with kind:=11,sgn:=e.subs[n].give,pos:=e.out.sent,text:=cy e.out }) [] ?_
   refine⟨qC,(qI 0 20++qI 21 1),ab (by rfl) (by rfl) ?_⟩
   try simp (disch:=omega) only [go_sem,seval]
   try rfl
  ·simp (disch:=omega) only [go_sem]
   refine aQ (aw e.subs[n].road { ah with kind:=11,sgn:=e.subs[n].give,pos:=e.out.sent,text:=cy e.out }) [] ?_
   refine⟨qC,(qI 0 20++qI 21 1),ab (by rfl) (by rfl) ?_⟩
   try simp (disch:=omega) only [go_sem,seval]
   try rfl
  ·simp (disch:=omega) only [go_sem]
   refine aQ (aw e.subs[n].road { ah with kind:=11,sgn:=e.subs[n].give,pos:=e.out.sent,text:=cy e.out }) [] ?_
   refine⟨qC,(qI 0 20++qI 21 1),ab (by rfl) (by rfl) ?_⟩
   try simp (disch:=omega) only [go_sem,seval]
   try rfl
  ·simp (disch:=omega) only [go_sem]
   refine aQ (aw e.subs[n].road { ah with kind:=11,sgn:=e.subs[n].give,pos:=e.out.sent,text:=cy e.out }) [] ?_
   refine⟨qC,(qI 0 20++qI 21 1),ab (by rfl) (by rfl) ?_⟩
   try simp (disch:=omega) only [go_sem,seval]
   try rfl
  refine qX ?_
  exact dk (qI 0 7++qI 9 7++qI 20 1)
 have hpn:kr e=false:=by
  rw [hpo]
  by_cases h3:gC e.out=true
  ·rw [h3,decide_eq_false (fun h=>h1 ⟨h3,h⟩)];rfl
  rw [Bool.not_eq_true] at h3;rw [h3];rfl
 rw [hf hpn]
 have hno:nok=false\/bt e= -1:=by
  by_cases h3:gC e.out=true
  ·right;rcases hcase with h|⟨m,_,h⟩
   ·exact h
   exact absurd ⟨h3,by omega⟩ h1
  left;have:=hpf (by simpa using h3);simp only [Prod.mk.injEq] at this;exact this.2
 rcases hno with hno|hno
 ·subst hno
  refine qX ?_
  rcases hcase with h|⟨m,_,h⟩
  ·try simp (disch:=omega) only [go_sem,seval,h]
   exact dk (qI 0 7++qI 9 7++qI 17 1)
  try simp (disch:=omega) only [go_sem,seval,h]
  exact dk (qI 0 7++qI 9 7++qI 17 1)
 rw [hno] at*
 refine qX ?_
 exact dk (qI 0 7++qI 9 7++qI 17 1)
theorem ne {n:Nat} {e:EndD} (h:n < 3):cu (3 - n) e=((cu (3 - (n+1)) (cL e).1).1,(cL e).2++(cu (3 - (n+1)) (cL e).1).2):=by
 rw [show 3 - n=(3 - (n+1))+1 by omega];rfl
theorem eH:∀ {k:Nat} {e:EndD},Small e->Small (cu k e).1
 |0,_,h=>h
 |k+1,e,h=>eH (k:=k) (ja h)
theorem iB:∀ {k:Nat} {e:EndD},(cu k e).1.inp=e.inp
 |0,_=>rfl
 |k+1,e=>by rw [show (cu (k+1) e).1=(cu k (cL e).1).1 from rfl,iB,zm]
theorem gs:∀ {k:Nat} {e:EndD},(cu k e).1.out.text=e.out.text
 |0,_=>rfl
 |k+1,e=>by rw [show (cu (k+1) e).1=(cu k (cL e).1).1 from rfl,gs,kt]
theorem ku:∀ {k:Nat} {e:EndD},(cu k e).2.length<=k
 |0,_=>Nat.le_refl _
 |k+1,e=>by
  have h1:=nd e
  have h2:=ku (k:=k) (e:=(cL e).1)
  rw [show (cu (k+1) e).2=(cL e).2++(cu k (cL e).1).2 from rfl,List.length_append]
  omega
theorem iQ (e:EndD) (t:List UInt8) (hs:Small e) (ht:t.length<=1048576) (ho:(cc e t).1.out.text.length<=1048576):aP 250 [.ag (e.cs 0),.sc (.st t)] (e.hp false) (.tu [.ag ((aA e t).1.cs 7),.sc (.sl 14 0 (aA e t).2.length)])
  (e.hp false++((aA e t).1.hp true++[some ⟨(aA e t).2.map LetterD.cs,19,48,true,true⟩])):=by
 have hW:=i_ e t hs ht
 have hsw:Small (cc e t).1:=by
  rw [cc];split
  ·exact⟨hs.own,hs.far,hs.subs,hs.halfs,hs.list,hs.done,hs.over⟩
  exact hs
 obtain⟨R,hR⟩:∃ R,R=aA e t:=⟨_,rfl⟩
 rw [<-hR]
 rw [aA] at hR
 generalize cc e t=w1 at*
 obtain⟨e0,n1⟩:=w1
 dsimp only at hsw ho hW hR
 refine gU Tryz.func250 Tryz.ntmps250 Tryz.results250 fun E hE=>?_
 refine qK (hW) (qI 0 7) ?_
 refine tD 7 hE (fun s (y:Nat×EndD×List LetterD)=>s.at (qU [0,3,7,1,10,21]) [(9,.sc (.int .i64 (y.1:Nat))),(8,.sc (.sl 17 0 y.2.2.length))] ((s.hp.take 9)++(y.2.1.hp true++[some ⟨[y.2.1.cs 9],25,38,true,false⟩,some ⟨y.2.2.map LetterD.cs,19,48,true,true⟩]))) (fun (y:Nat×EndD×List LetterD)=>y.1<=3/\Small y.2.1/\y.2.1.out.text.length<=1048576/\y.2.2.length<=y.1/\R=((cu (3 - y.1) y.2.1).1,y.2.2++(cu (3 - y.1) y.2.1).2)) (fun (y:Nat×EndD×List LetterD)=>3 - y.1) (0,e0,[]) (qI 0 18) (⟨by omega,hsw,ho,Nat.le_refl _,hR⟩) fun y hy N hN=>?_
 obtain⟨n,e1,l⟩:=y
 obtain⟨h1,h2,h3,h4,h5⟩:=hy
 dsimp only at h1 h2 h3 h4 h5
 have hP:=o0 e1 h2 h3
 have hp1:=nd e1
 have hps:=ja h2
 have hpt:(cL e1).1.out.text.length<=1048576:=by rw [kt];exact h3
 refine qR ?_
 refine qB (fun b=>?_) fun b=>?_
 ·rw [ne (by omega)] at h5
  obtain⟨pr,hpr⟩:∃ p,p=cL e1:=⟨_,rfl⟩
  rw [<-hpr] at hP hp1 hps hpt h5
  obtain⟨e2,l2⟩:=pr
  dsimp only at hP hp1 hps hpt h5
  rw [<-List.append_assoc] at h5
  refine qX ?_
  refine qK (hP) (qI 9 7) ?_
  refine BE hN (n+1,e2,l++l2) (qI 0 9++qI 19 7++qI 16 1++qI 27 1) (by (try dsimp only);exact⟨by omega,hps,hpt,by simp only [List.length_append];omega,h5⟩) ?_
  first|exact⟨⟩|simp
 have e3:n=3:=by omega
 subst e3
 simp only [Nat.sub_self,cu,List.append_nil] at h5
 subst h5
 refine qX ?_
 exact dk (qI 0 7++qI 9 7++qI 17 1)
theorem kv {α:Type} {l:List α} {p:α->Bool} {k:Nat} (h:k < l.length):(l.drop k).filter p=if p l[k] then l[k]::(l.drop (k+1)).filter p else (l.drop (k+1)).filter p:=by
 rw [List.drop_eq_getElem_cons h,List.filter_cons]
theorem nf {α:Type} {l:List α} {p:α->Bool} {k:Nat} (h:l.length<=k):(l.drop k).filter p=[]:=by
 rw [List.drop_eq_nil_of_le h];rfl
theorem nV {b:BucketD} (h:bucketOk b=true):0<=b.rate/\b.rate<=100/\1<=b.burst/\b.burst<=100/\0<=b.cur/\b.cur<=b.burst:=by
 simp only [bucketOk,bj,Bool.and_eq_true,decide_eq_true_eq] at h
 omega
theorem zn {b:BucketD} (h:bucketOk b=true):cr b={ b with cur:=min b.burst (b.cur+b.rate) }:=if_pos h
theorem zo {b:BucketD} (h:bucketOk b=false):cr b=b:=if_neg (by simp [h])
theorem sj (b:BucketD):aP 278 [.ag b.cs,.sc (.int .i64 1)] [] (.ag (cr b).cs) []:=by
 have hK:=er b
 have hN:=ak 1 0 1000000000
 have hf:=zo (b:=b)
 have ht:=zn (b:=b)
 generalize cr b=R at*
 refine qE Tryz.func278 Tryz.ntmps278 Tryz.results278 fun E hE=>?_
 refine qK (hK) [] ?_
 refine qB (fun b1=>?_) fun b1=>?_
 ·have F:=nV b1
  rw [show bj 1 0 1000000000=true from rfl] at hN
  refine qK (hN) [] ?_
  rw [ht b1]
  have hB:aP 292 [.sc (.int .i64 (b.cur+b.rate)),.sc (.int .i64 0),.sc (.int .i64 b.burst)] [] (.sc (.int .i64 (min b.burst (b.cur+b.rate)))) []:=by
   refine qE Tryz.func292 Tryz.ntmps292 Tryz.results292 fun E hE=>?_
   refine qB (fun c1=>?_) fun c1=>?_
   ·rw [show min b.burst (b.cur+b.rate)=b.burst by omega]
    refine qX ?_
    exact qF []
   rw [show min b.burst (b.cur+b.rate)=b.cur+b.rate by omega]
   refine qX ?_
   exact qF []
  try simp (disch:=omega) only [go_sem,seval,Int.mul_one]
  refine qK (hB) [] ?_
  exact qF []
 rw [hf b1]
 refine qX ?_
 exact qF []
theorem qi (l:List HalfD) (now:Int) (hl:l.length<=1048576):aP 279 [.sc (.sl 0 0 l.length),.sc (.int .i64 now)] [some ⟨l.map HalfD.cs,8,121,false,true⟩] (.sc (.sl 1 0 (bx l now).length)) [some ⟨l.map HalfD.cs,8,121,false,true⟩,some ⟨(bx l now).map HalfD.cs,8,121,true,true⟩]:=by
 obtain⟨R,hR⟩:∃ R,R=bx l now:=⟨_,rfl⟩
 rw [<-hR]
 rw [bx] at hR
 refine qE Tryz.func279 Tryz.ntmps279 Tryz.results279 fun E hE=>?_
 refine jx 1 hE (fun s (x:Nat×List HalfD)=>s.at (qU [7,21]) [(6,.sc (.int .i64 (x.1:Nat))),(5,.sc (.sl 1 0 x.2.length))] ((s.hp.take 1)++[some ⟨x.2.map HalfD.cs,8,121,true,true⟩])) (fun (x:Nat×List HalfD)=>x.1<=l.length/\x.2.length<=x.1/\R=x.2++(l.drop x.1).filter (fun h=>decide (now < h.till))) (fun (x:Nat×List HalfD)=>l.length - x.1) (0,[]) (qI 0 2) (⟨Nat.zero_le _,Nat.zero_le _,hR⟩) fun x hx N hN=>?_
 obtain⟨k,acc⟩:=x
 obtain⟨h1,h2,h3⟩:=hx
 dsimp only at h1 h2 h3
 refine qR ?_
 refine qB (fun h=>?_) fun h=>?_
 ·rw [kv h] at h3
  have hg:=aT (enc:=HalfD.cs) h
  try simp (disch:=omega) only [go_sem,seval,hg]
  refine qB (fun b2=>?_) fun b2=>?_
  ·rw [if_pos (by simpa using b2)] at h3
   try simp (disch:=omega) only [go_sem,seval,hg]
   refine⟨qC,hN _ (k+1,acc++[l[k]]) (qI 0 1++qI 3 1) (by (try dsimp only);exact⟨by omega,by simp;omega,by simpa using h3⟩) (by (try dsimp only);omega) (bw (by rfl) (by rfl) ?_)⟩
   refine qX ?_
   simp [HalfD.cs]
  rw [if_neg (by simpa using b2)] at h3
  exact qN hN (k+1,acc) (qI 0 2) (by (try dsimp only);exact⟨by omega,by omega,h3⟩)
 rw [nf (by omega),List.append_nil] at h3
 subst h3
 exact qF (qI 0 2)
theorem jT (e:EndD) (s:SubD) (h:bj e.side 1 2=true):aP 281 [.ag (e.cs 0),.ag s.cs] (e.hp false) (.ag (eM e s).cs) (e.hp false):=by
 have hT:=iL (3 - e.side)
 have hB:aP 221 [.ag s.road.cs,.ag (LetterD.cs { ah with kind:=4,token:=ey (3 - e.side),nonce:=s.mine,give:=s.take,spare:=s.spare })] [] (.ag (eM e s).cs) []:=aw s.road { ah with kind:=4,token:=ey (3 - e.side),nonce:=s.mine,give:=s.take,spare:=s.spare }
 simp only [bj,Bool.and_eq_true,decide_eq_true_eq] at h
 refine qE Tryz.func281 Tryz.ntmps281 Tryz.results281 fun E hE=>?_
 refine qD [0,1,2,3,4,6,7,8,9,10,11,5,12,13,14] ?_
 refine aQ (hT) [] ?_
 refine aQ (hB) [] ?_
 refine qG ?_
 refine qP (qI 0 7) ?_
 first|exact⟨⟩|rfl
theorem sk (e:EndD) (hl:e.subs.length<=1048576):aP 285 [.ag (e.cs 0)] (e.hp false) (.sc (.sl 7 0 (fj e.subs).length)) (e.hp false++[some ⟨(fj e.subs).map RoadD.cs,3,99,true,true⟩]):=by
 obtain⟨R,hR⟩:∃ R,R=fj e.subs:=⟨_,rfl⟩
 rw [<-hR]
 rw [fj] at hR
 refine qE Tryz.func285 Tryz.ntmps285 Tryz.results285 fun E hE=>?_
 refine jx 7 hE (fun s (x:Nat×List RoadD)=>s.at (qU [0,1,5,24]) [(4,.sc (.int .i64 (x.1:Nat))),(3,.sc (.sl 8 0 x.2.length))] ((s.hp.take 8)++[some ⟨x.2.map RoadD.cs,3,99,true,true⟩])) (fun (x:Nat×List RoadD)=>x.1<=e.subs.length/\x.2.length<=x.1/\R=x.2++((e.subs.drop x.1).filter (fun s=>s.state != 4)).map SubD.road) (fun (x:Nat×List RoadD)=>e.subs.length - x.1) (0,[]) (qI 0 9) (⟨Nat.zero_le _,Nat.zero_le _,hR⟩) fun x hx N hN=>?_
 obtain⟨k,acc⟩:=x
 obtain⟨h1,h2,h3⟩:=hx
 dsimp only at h1 h2 h3
 refine qR ?_
 refine qB (fun h=>?_) fun h=>?_
 ·rw [kv h] at h3
  have hg:=aT (enc:=SubD.cs) h
  try simp (disch:=omega) only [go_sem,seval,hg]
  refine qB (fun b2=>?_) fun b2=>?_
  ·rw [if_pos (by simpa using b2),List.map_cons] at h3
   try simp (disch:=omega) only [go_sem,seval,hg]
   refine⟨qC,hN _ (k+1,acc++[e.subs[k].road]) (qI 0 8++qI 10 1) (by (try dsimp only);exact⟨by omega,by simp;omega,by simpa using h3⟩) (by (try dsimp only);omega) (bw (by rfl) (by rfl) ?_)⟩
   refine qX ?_
   simp [RoadD.cs]
  rw [if_neg (by simpa using b2)] at h3
  exact qN hN (k+1,acc) (qI 0 9) (by (try dsimp only);exact⟨by omega,by omega,h3⟩)
 rw [nf (by omega),List.map_nil,List.append_nil] at h3
 subst h3
 exact qF (qI 0 7++qI 8 1)
def ng (l:List AddrD) (n:Int):Nat->Int
 |0=> -1
 |k+1=>if (kU l k).addr=n then (k:Int) else ng l n k
theorem sm {l:List AddrD} {n:Int} {k:Nat} (h:k < l.length):eh (l.take (k+1)) n=(eh (l.take k) n || l[k].addr == n):=by
 rw [eh,List.take_succ_eq_append_getElem h,List.any_append];simp [eh]
theorem jU {l:List AddrD} {n:Int} {k:Nat} (h:k < l.length):aZ (l.take (k+1)) n=if l[k].addr=n then l[k].spare else aZ (l.take k) n:=by
 rw [aZ,List.take_succ_eq_append_getElem h,List.foldl_append];rfl
theorem jV {l:List AddrD} {n:Int}:∀ (k:Nat),k<=l.length->(ng l n k= -1/\eh (l.take k) n=false/\aZ (l.take k) n=false)\/∃ j:Nat,∃ hj:j < l.length,j < k/\ng l n k=(j:Int)/\eh (l.take k) n=true/\aZ (l.take k) n=l[j].spare
 |0,_=>.inl ⟨rfl,by simp [eh],by simp [aZ]⟩
 |k+1,h=>by
  have hk:k < l.length:=by omega
  rw [sm hk,jU hk,ng,hV hk]
  by_cases he:l[k].addr=n
  ·right
   exact⟨k,hk,Nat.lt_succ_self k,by rw [if_pos he],by rw [Bool.or_eq_true];exact .inr (by simpa using he),by rw [if_pos he]⟩
  rw [if_neg he,if_neg he]
  have hb:(l[k].addr == n)=false:=by simpa using he
  rw [hb,Bool.or_false]
  rcases jV (l:=l) (n:=n) k (by omega) with h1|⟨j,hj,h2,h3⟩
  ·exact .inl h1
  exact .inr ⟨j,hj,Nat.lt_succ_of_lt h2,h3⟩
def Bk (l:List AddrD) (n:Int):Int:=ng l n l.length
theorem sn (l:List AddrD) (n:Int):(Bk l n= -1/\eh l n=false/\aZ l n=false)\/∃ j:Nat,∃ hj:j < l.length,Bk l n=(j:Int)/\eh l n=true/\aZ l n=l[j].spare:=by
 have:=jV (l:=l) (n:=n) l.length (Nat.le_refl _)
 rw [List.take_length] at this
 rcases this with h|⟨j,hj,_,h⟩
 ·exact .inl h
 exact .inr ⟨j,hj,h⟩
theorem so (e:EndD) (n:Int) (hl:e.far.length<=1048576):aP 295 [.ag (e.cs 0),.sc (.int .i64 n)] (e.hp false) (.sc (.bo (eh e.far n))) (e.hp false):=by
 obtain⟨R,hR⟩:∃ R,R=eh e.far n:=⟨_,rfl⟩
 rw [<-hR]
 rw [eh] at hR
 refine qE Tryz.func295 Tryz.ntmps295 Tryz.results295 fun E hE=>?_
 refine jx 7 hE (fun s (k:Nat)=>s.at (qU [0,1,4,1,6,15]) [(5,.sc (.int .i64 (k:Nat)))] (s.hp)) (fun (k:Nat)=>k<=e.far.length/\R=(e.far.drop k).any (fun a=>a.addr == n)) (fun (k:Nat)=>e.far.length - k) 0 (qI 0 8) (⟨Nat.zero_le _,hR⟩) fun k hk N hN=>?_
 obtain⟨h1,h2⟩:=hk
 refine qR ?_
 refine qB (fun h=>?_) fun h=>?_
 ·rw [fM h] at h2
  have hg:=aT (enc:=AddrD.cs) h
  try simp (disch:=omega) only [go_sem,seval,hg]
  refine qB (fun b=>?_) fun b=>?_
  ·rw [show (e.far[k].addr == n)=true by simpa using b,Bool.true_or] at h2
   subst h2
   refine qX ?_
   exact qF (qI 0 7)
  rw [show (e.far[k].addr == n)=false by simpa using b,Bool.false_or] at h2
  exact qN hN (k+1) (qI 0 8) (by (try dsimp only);exact⟨by omega,h2⟩)
 rw [fu (by omega)] at h2
 subst h2
 refine qX ?_
 exact qF (qI 0 7)
theorem EF {e:EndD} {r:RoadD} {b:Bool} (h:w_ e r=false):dz e r b=(e,[]):=if_neg (by simp [h])
theorem EG {e:EndD} {r:RoadD} {b:Bool} (h:w_ e r=true):dz e r b=({ e with subs:=e.subs++[eN e r b],draw:=e.draw+4 },[eM e (eN e r b)]):=if_pos h
theorem nh {e:EndD} (h:af e=true):bj e.side 1 2=true:=by
 simp only [af,Bool.and_eq_true] at h
 simp_all
theorem xc (e:EndD) (r:RoadD) (sp:Bool) (hs:Small e):aP 286 [.ag (e.cs 0),.ag r.cs,.sc (.bo sp)] (e.hp false) (.tu [.ag ((dz e r sp).1.cs 7),.sc (.sl 14 0 (dz e r sp).2.length)])
  (e.hp false++((dz e r sp).1.hp true++[some ⟨(dz e r sp).2.map LetterD.cs,19,48,true,true⟩])):=by
 have hC:=(qH (aj e))
 have hK:=(qH (au e))
 have hO:=ej e r.own (by have:=hs.own;omega)
 have hS:=cE e r (by have:=hs.subs;omega)
 have hsub:=hs.subs
 have hF:=so e r.far (by have:=hs.far;omega)
 have hcase:=sn e.far r.far
 have hf:=EF (e:=e) (r:=r) (b:=sp)
 have ht:=EG (e:=e) (r:=r) (b:=sp)
 have hk:=w_.eq_1 e r
 generalize dz e r sp=R at*
 refine gU Tryz.func286 Tryz.ntmps286 Tryz.results286 fun E hE=>?_
 refine qK (hC) (qI 0 7) ?_
 refine qK (hK) (qI 0 7) ?_
 refine qB (fun h1=>?_) fun h1=>?_
 ·refine qB (fun h2=>?_) fun h2=>?_
  ·refine qK (eU r) [] ?_
   refine qB (fun h3=>?_) fun h3=>?_
   ·refine qK (hS) (qI 0 7) ?_
    refine qB (fun h4=>?_) fun h4=>?_
    ·refine qK (hO) (qI 0 7) ?_
     refine qB (fun h5=>?_) fun h5=>?_
     ·refine qK (hF) (qI 0 7) ?_
      refine qB (fun h6=>?_) fun h6=>?_
      ·refine qB (fun h7=>?_) fun h7=>?_
       ·refine qK (dq e) (qI 0 7) ?_
        refine qB (fun h8=>?_) fun h8=>?_
        ·rw [hf (by rw [hk];simp [h8])]
         refine qX ?_
         exact dk (qI 0 7++qI 10 7++qI 18 1)
        rw [ht (by rw [hk];have:=b_ h1;simp [h1,h2,h3,h5,h6,h8];omega)]
        have h8':=h8
        simp only [bj,Bool.and_eq_true,decide_eq_true_eq] at h8'
        have hd1:bj e.draw 1 999999998=true:=by simp only [bj,Bool.and_eq_true,decide_eq_true_eq];omega
        have hd2:bj (e.draw+2) 1 999999998=true:=by simp only [bj,Bool.and_eq_true,decide_eq_true_eq];omega
        have hJ:aP 281 [.ag (EndD.cs { e with draw:=e.draw+2+2,subs:=e.subs++[eN e r sp] } 0),.ag (eN e r sp).cs] (EndD.hp { e with draw:=e.draw+2+2,subs:=e.subs++[eN e r sp] } false) (.ag (eM e (eN e r sp)).cs) (EndD.hp { e with draw:=e.draw+2+2,subs:=e.subs++[eN e r sp] } false):=jT _ _ (show bj e.side 1 2=true from nh h1)
        refine qX ?_
        refine qK (aY e hs hd1) (qI 10 7) ?_
        refine qK (aY { e with draw:=e.draw+2 } ⟨hs.own,hs.far,hs.subs,hs.halfs,hs.list,hs.done,hs.over⟩ hd2) (qI 19 7) ?_
        refine qK (eC { e with draw:=e.draw+2+2 } (eN e r sp) (by have:=b_ h1;dsimp only;omega)) (qI 26 7) ?_
        refine cG [(0,6),(4,0),(5,0)] [(4,5),(4,6),(5,6)] [[1,2,3,4,5,0,6,7,8],[1,2,3,4,0,5,6,7,8],[1,2,3,0,4,5,6,7,8],[1,2,3,4,5,6,0,7,8]] 7 hE (fun s=>s.at (qU [9,1,62,25]) [(7,.sc (.sl 35 0 1))] (((s.hp.set 9 (some ⟨[[.int .i64 e.side,.int .i64 e.state,.int .i64 e.key,.int .i64 e.peer,.int .i64 e.policy.kind,.int .i64 e.policy.many,.sl 26 0 e.own.length,.sl 27 0 e.far.length,.sl 34 0 (e.subs.length+1),.sl 29 0 e.halfs.length,.int .i64 e.bucket.rate,.int .i64 e.bucket.burst,.int .i64 e.bucket.cur,.st e.out.text,.int .i64 e.out.base,.int .i64 e.out.sent,.int .i64 e.out.room,.int .i64 e.inp.read,.st e.inp.ready,.sl 30 0 e.inp.list.length,.sl 31 0 e.done.length,.sl 32 0 e.over.length,.int .i64 (e.draw+2+2),.int .i64 e.now,.int .i64 e.pick]],25,38,true,false⟩)).set 18 none)++[some ⟨[(eM e (eN e r sp)).cs],19,48,true,true⟩])) (by kernel_rfl) (qC) (by kernel_rfl) ?_ (ac 400 ?_)
        rotate_left
        rotate_right
        simp only [bm]
        refine⟨aa 400 ?_,aa 400 ?_,aa 400 ?_,aa 400 ?_⟩
        ·simp (disch:=omega) only [go_sem]
         refine aQ (hJ) (qI 26 2++qI 34 1++qI 29 4) ?_
         refine⟨qC,(qI 0 35++qI 36 1),ab (by rfl) (by rfl) ?_⟩
         try simp (disch:=omega) only [go_sem,seval]
         try rfl
        ·simp (disch:=omega) only [go_sem]
         refine aQ (hJ) (qI 26 2++qI 34 1++qI 29 4) ?_
         refine⟨qC,(qI 0 35++qI 36 1),ab (by rfl) (by rfl) ?_⟩
         try simp (disch:=omega) only [go_sem,seval]
         try rfl
        ·simp (disch:=omega) only [go_sem]
         refine aQ (hJ) (qI 26 2++qI 34 1++qI 29 4) ?_
         refine⟨qC,(qI 0 35++qI 36 1),ab (by rfl) (by rfl) ?_⟩
         try simp (disch:=omega) only [go_sem,seval]
         try rfl
        ·simp (disch:=omega) only [go_sem]
         refine aQ (hJ) (qI 26 2++qI 34 1++qI 29 4) ?_
         refine⟨qC,(qI 0 35++qI 36 1),ab (by rfl) (by rfl) ?_⟩
         try simp (disch:=omega) only [go_sem,seval]
         try rfl
        refine qX ?_
        refine fL (qI 0 7++qI 26 2++qI 34 1++qI 29 4++qI 35 1) (qC) _ (by simp only [go_sem];rfl) (by rfl) (by rfl) ?_
        simp (disch:=omega) only [go_sem,seval]
        try simp [SubD.cs,eN]
        try omega
       rw [hf (by rw [hk];first|(simp [h7];done)|(simp [h7];intros;omega))]
       refine qX ?_
       exact dk (qI 0 7++qI 10 7++qI 18 1)
      rw [hf (by rw [hk];simp [h6])]
      refine qX ?_
      exact dk (qI 0 7++qI 10 7++qI 18 1)
     rw [hf (by rw [hk];first|(simp [h5];done)|(simp [h5];intros;omega))]
     refine qX ?_
     exact dk (qI 0 7++qI 10 7++qI 18 1)
    rw [hf (by rw [hk];first|(simp [h4];done)|(simp [h4];intros;omega))]
    refine qX ?_
    exact dk (qI 0 7++qI 10 7++qI 18 1)
   rw [hf (by rw [hk];first|(simp [h3];done)|(simp [h3];intros;omega))]
   refine qX ?_
   exact dk (qI 0 7++qI 10 7++qI 18 1)
  rw [hf (by rw [hk];first|(simp [h2];done)|(simp [h2];intros;omega))]
  refine qX ?_
  exact dk (qI 0 7++qI 10 7++qI 18 1)
 rw [hf (by rw [hk];first|(simp [h1];done)|(simp [h1];intros;omega))]
 refine qX ?_
 exact dk (qI 0 7++qI 10 7++qI 18 1)
theorem gt {l:List AddrD} (h:aX l=true):∀ (d i:Nat) (hj:i+d+1 < l.length),l[i].id < l[i+d+1].id
 |0,i,hj=>by
  simp only [aX,Bool.and_eq_true] at h
  have:=iz h.2 (show i+1 < l.length by omega)
  simp only [gB,Bool.and_eq_true,Bool.or_eq_true,beq_iff_eq,decide_eq_true_eq,Nat.add_sub_cancel] at this
  have h1:=this.1.2
  rw [zU,zU,List.getD_eq_getElem?_getD,List.getD_eq_getElem?_getD,List.getElem?_eq_getElem (show i < l.length by omega),List.getElem?_eq_getElem (show i+1 < l.length by omega)] at h1
  simp only [Option.getD_some] at h1
  simp only [Nat.add_zero]
  omega
 |d+1,i,hj=>by
  have h1:=gt h 0 i (by omega)
  have h2:=gt h d (i+1) (by omega)
  simp only [Nat.add_zero] at h1
  have e:i+1+d+1=i+(d+1)+1:=by omega
  simp only [e] at h2
  omega
theorem su {l:List AddrD} (h:aX l=true) {i j:Nat} (hi:i < l.length) (hj:j < l.length) (he:l[i].id=l[j].id):i=j:=by
 rcases Nat.lt_trichotomy i j with hl|hl|hl
 ·have:=gt h (j - i - 1) i (by omega)
  have e:i+(j - i - 1)+1=j:=by omega
  simp only [e] at this
  omega
 ·exact hl
 have:=gt h (i - j - 1) j (by omega)
 have e:j+(i - j - 1)+1=i:=by omega
 simp only [e] at this
 omega
theorem uA {l:List AddrD} (h:aX l=true) {a:AddrD} (ha:a∈l):∃ j:Nat,∃ hj:j < l.length,aG l a.id=(j:Int)/\l[j]=a:=by
 obtain⟨i,hi,rfl⟩:=List.getElem_of_mem ha
 rcases jD (p:=fun b:AddrD=>b.id == l[i].id) (l:=l) with h1|⟨h1,h2⟩
 ·exfalso
  have hx:∀ (m:List AddrD) (k:Nat) (b:AddrD),b∈m->(b.id == l[i].id)=true->ck (fun b:AddrD=>b.id == l[i].id) k m≠ -1:=by
   intro m
   induction m with
   |nil=>intro k b hb;cases hb
   |cons c m ih=>
    intro k b hb hp
    rw [ck]
    split
    ·omega
    rename_i hc
    rcases List.mem_cons.1 hb with rfl|hb
    ·exact absurd hp hc
    exact ih (k+1) b hb hp
  exact hx l 0 l[i] ha (by simp) h1
 obtain⟨n,hn⟩:=Int.eq_ofNat_of_zero_le h1
 obtain⟨hl,hp⟩:=mC hn
 have hid:l[n].id=l[i].id:=by simpa using hp
 obtain rfl:=su h hl hi hid
 exact⟨n,hi,hn,rfl⟩
def ii (l:List AddrD):List AddrD:=l.filter fun a=> !a.told
theorem EH {e:EndD} (h:AS e=false):bX e=[]:=if_neg (by simp [h])
theorem EI {e:EndD} {k:Nat} (h:AS e=true) (hk:(j0 e.subs).headD 0=k) (hl:k < e.subs.length):bX e=(ii e.own).map (sh e e.subs[k]):=by rw [bX,if_pos h,hk,bW hl];rfl
theorem xg {l:List Nat} (h:0 < l.length):l.headD 0=l[0]:=by cases l with|nil=>simp at h|cons a r=>rfl
theorem nX (l:List AddrD) (hl:l.length<=1048576):aP 293 [.sc (.sl 0 0 l.length)] [some ⟨l.map AddrD.cs,4,103,false,true⟩] (.sc (.sl 1 0 (ii l).length)) [some ⟨l.map AddrD.cs,4,103,false,true⟩,some ⟨((ii l).map AddrD.id).map aM,1,3,true,true⟩]:=by
 obtain⟨R,hR⟩:∃ R,R=ii l:=⟨_,rfl⟩
 rw [<-hR]
 rw [ii] at hR
 refine qE Tryz.func293 Tryz.ntmps293 Tryz.results293 fun E hE=>?_
 refine jx 1 hE (fun s (x:Nat×List AddrD)=>s.at (qU [5,21]) [(4,.sc (.int .i64 (x.1:Nat))),(3,.sc (.sl 1 0 x.2.length))] ((s.hp.take 1)++[some ⟨(x.2.map AddrD.id).map aM,1,3,true,true⟩])) (fun (x:Nat×List AddrD)=>x.1<=l.length/\x.2.length<=x.1/\R=x.2++(l.drop x.1).filter (fun a=> !a.told)) (fun (x:Nat×List AddrD)=>l.length - x.1) (0,[]) (qI 0 2) (⟨Nat.zero_le _,Nat.zero_le _,hR⟩) fun x hx N hN=>?_
 obtain⟨k,acc⟩:=x
 obtain⟨h1,h2,h3⟩:=hx
 dsimp only at h1 h2 h3
 refine qR ?_
 refine qB (fun h=>?_) fun h=>?_
 ·rw [kv h] at h3
  have hg:=aT (enc:=AddrD.cs) h
  try simp (disch:=omega) only [go_sem,seval,hg]
  cases ht:l[k].told with
  |true=>
   rw [if_neg (by simp [ht])] at h3
   try simp (disch:=omega) only [go_sem,seval,ht]
   exact qN hN (k+1,acc) (qI 0 2) (by (try dsimp only);exact⟨by omega,by omega,h3⟩)
  |false=>
   rw [if_pos (by simp [ht])] at h3
   try simp (disch:=omega) only [go_sem,seval,ht,hg]
   refine⟨qC,hN _ (k+1,acc++[l[k]]) (qI 0 1++qI 3 1) (by (try dsimp only);exact⟨by omega,by simp;omega,by simpa using h3⟩) (by (try dsimp only);omega) (bw (by rfl) (by rfl) ?_)⟩
   refine qX ?_
   simp [aM]
 rw [nf (by omega),List.append_nil] at h3
 subst h3
 exact qF (qI 0 2)
theorem sv {e:EndD} (h:af e=true):aX e.own=true:=by
 simp only [af,Bool.and_eq_true] at h
 simp_all
theorem nl (e:EndD) (hs:Small e):aP 282 [.ag (e.cs 0)] (e.hp false) (.sc (.sl 7 0 (bX e).length)) (e.hp false++[some ⟨(bX e).map LetterD.cs,19,48,true,true⟩]):=by
 have hN:=oK e (by have:=hs.subs;omega)
 have hK:=(qH (au e))
 have hown:=hs.own
 have hf:=EH (e:=e)
 have ht:= @EI e
 have hok:AS e=(af e && decide (e.state=2) && !decide ((j0 e.subs).length=0)):=rfl
 obtain⟨R,hR⟩:∃ R,R=bX e:=⟨_,rfl⟩
 rw [<-hR] at hf ht
 rw [<-hR]
 clear hR
 refine gU Tryz.func282 Tryz.ntmps282 Tryz.results282 fun E hE=>?_
 refine qK (hN) (qI 0 7) ?_
 refine qK (hK) (qI 0 7) ?_
 refine qB (fun h1=>?_) fun h1=>?_
 ·refine qB (fun h2=>?_) fun h2=>?_
  ·by_cases h3:(j0 e.subs).length=0
   ·rw [hf (by rw [hok];simp [h3])]
    try simp (disch:=omega) only [go_sem,seval,h3]
    exact dk (qI 0 7++qI 8 1)
   have hpos:0 < (j0 e.subs).length:=by omega
   have hk:=yD hpos
   have hR:=ht (by rw [hok];simp [h1,h2,h3]) (xg hpos) hk
   have hgo:=aT (enc:=pM) hpos
   generalize hk0:(j0 e.subs)[0]=k0 at*
   have hgs:=aT (enc:=SubD.cs) hk
   generalize hss:e.subs[k0]=s0 at*
   refine qX ?_
   refine qD [0,1,2,3,4,5,6,7,8] ?_
   try simp (disch:=omega) only [go_sem,seval,hgo,hk0,pM,hgs,hss]
   refine qG ?_
   have hU:=nX e.own hown
   have hul:(ii e.own).length<=e.own.length:=List.length_filter_le _ _
   have hmem:∀ a∈ii e.own,a∈e.own:=fun a ha=>(List.mem_filter.1 ha).1
   generalize ii e.own=U at*
   refine qK (hU) (qI 0 1) ?_
   refine tD 7 hE (fun s (y:Nat×List LetterD)=>s.at (qU [0,1,4,1,8,69]) [(7,.sc (.int .i64 (y.1:Nat))),(5,.sc (.pt 9 0 0)),(6,.sc (.sl 10 0 U.length)),(3,.sc (.sl 11 0 y.2.length))] ((s.hp.take 8)++(((s.hp.drop 9).take 3)++[some ⟨y.2.map LetterD.cs,19,48,true,true⟩]))) (fun (y:Nat×List LetterD)=>y.1<=U.length/\y.2.length<=y.1/\R=y.2++(U.drop y.1).map (sh e s0)) (fun (y:Nat×List LetterD)=>U.length - y.1) (0,[]) (qI 0 8++qI 9 3++qI 8 1) (⟨Nat.zero_le _,Nat.zero_le _,hR⟩) fun y hy N hN=>?_
   obtain⟨i,l⟩:=y
   obtain⟨g1,g2,g3⟩:=hy
   dsimp only at g1 g2 g3
   refine qR ?_
   refine qB (fun b=>?_) fun b=>?_
   ·rw [List.drop_eq_getElem_cons b,List.map_cons] at g3
    have hbl:i < (U.map AddrD.id).length:=by simpa using b
    have hg:=aT (enc:=aM) hbl
    rw [List.getElem_map] at hg
    obtain⟨j,hj,hat,hja⟩:=uA (sv h1) (hmem U[i] (List.getElem_mem b))
    have hA:=cm e.own U[i].id hown
    rw [hat] at hA
    have hgj:=aT (enc:=AddrD.cs) hj
    rw [hja] at hgj
    generalize hae:U[i]=a at*
    simp only [aM] at hg
    have hel:e.own[j]=a:=hja
    refine qX ?_
    refine cG [(8,11),(11,9),(11,10)] [(8,9),(9,10)] [(qU [0,9,11,1,9,2,12,1]),(qU [0,10,11,1,10,1,12,1]),(qU [0,13]),(qU [0,8,11,1,8,3,12,1])] 7 hE (fun s=>s.at (qU [42,11]) [(8,.sc (.pt 12 0 0))] (s.hp++[some ⟨[a.cs],4,103,true,false⟩])) (by kernel_rfl) (qC) (by kernel_rfl) ?_ (ac 400 ?_)
    rotate_left
    rotate_right
    simp only [bm]
    refine⟨aa 400 ?_,aa 400 ?_,aa 400 ?_,aa 400 ?_⟩
    ·simp (disch:=omega) only [go_sem,hg,hae]
     refine aQ (hA) (qI 0 1) ?_
     simp (disch:=omega) only [go_sem,hgj,hel]
     refine⟨by (try simp (disch:=omega) only [go_sem,List.length_set,seval,hgj,hel])<;>omega,(qI 0 13),ab (by rfl) (by rfl) ?_⟩
     try simp (disch:=omega) only [go_sem,seval]
    ·simp (disch:=omega) only [go_sem,hg,hae]
     refine aQ (hA) (qI 0 1) ?_
     simp (disch:=omega) only [go_sem,hgj,hel]
     refine⟨by (try simp (disch:=omega) only [go_sem,List.length_set,seval,hgj,hel])<;>omega,(qI 0 13),ab (by rfl) (by rfl) ?_⟩
     try simp (disch:=omega) only [go_sem,seval]
    ·simp (disch:=omega) only [go_sem,hg,hae]
     refine aQ (hA) (qI 0 1) ?_
     simp (disch:=omega) only [go_sem,hgj,hel]
     refine⟨by (try simp (disch:=omega) only [go_sem,List.length_set,seval,hgj,hel])<;>omega,(qI 0 13),ab (by rfl) (by rfl) ?_⟩
     try simp (disch:=omega) only [go_sem,seval]
    ·simp (disch:=omega) only [go_sem,hg,hae]
     refine aQ (hA) (qI 0 1) ?_
     simp (disch:=omega) only [go_sem,hgj,hel]
     refine⟨by (try simp (disch:=omega) only [go_sem,List.length_set,seval,hgj,hel])<;>omega,(qI 0 13),ab (by rfl) (by rfl) ?_⟩
     try simp (disch:=omega) only [go_sem,seval]
    refine qX ?_
    refine qD [0,1,2,3,4,5,6,7,8,9,10,11,12,13,14,15,16,17,18,19,20,21,22,23,24] ?_
    refine aQ (jH e.key e.peer a.id a.addr) [] ?_
    refine aQ (aw s0.road { ah with kind:=8,tag:=⟨3,e.key,e.peer,a.id,a.addr⟩,sgn:=s0.give,id:=a.id,addr:=a.addr,spare:=a.spare }) [] ?_
    refine qG ?_
    refine⟨qC,hN _ (i+1,l++[sh e s0 a]) (qI 0 11++qI 14 1) (by (try dsimp only);exact⟨by omega,by simp;omega,by simpa using g3⟩) (by (try dsimp only);omega) (ab (by rfl) (by rfl) ?_)⟩
    refine qX ?_
    rw [List.map_append]
    rfl
   rw [List.drop_eq_nil_of_le (by omega),List.map_nil,List.append_nil] at g3
   subst g3
   refine qX ?_
   exact dk (qI 0 7++qI 11 1)
  rw [hf (by rw [hok];simp [h2])]
  refine qX ?_
  exact dk (qI 0 7++qI 8 1)
 rw [hf (by rw [hok];simp [h1])]
 refine qX ?_
 exact dk (qI 0 7++qI 8 1)
def EL (e:EndD):Prop:=e.subs.length<=100/\e.far.length<=100
def gw:List ActD->WorldD->List Int->WorldD×List Int
 |[],w,cs=>(w,cs)
 |a::l,w,cs=>gw l (iP w a).1 (cs++[(iP w a).2])
theorem Bn {l:List ActD} {k:Nat} {w:WorldD} {cs:List Int} (h:k < l.length):gw (l.drop k) w cs=gw (l.drop (k+1)) (iP w l[k]).1 (cs++[(iP w l[k]).2]):=by
 rw [List.drop_eq_getElem_cons h,gw]
theorem B9 {l:List ActD} {k:Nat} {w:WorldD} {cs:List Int} (h:l.length<=k):gw (l.drop k) w cs=(w,cs):=by
 rw [List.drop_eq_nil_of_le h,gw]
theorem sH {Q:WorldD->Nat->Prop} {P:ActD->Prop} (hQ:∀ w k a,Q w k->P a->Q (iP w a).1 (k+1)):∀ {l:List ActD} {w:WorldD} {cs:List Int} {k:Nat},Q w k->(∀ a∈l,P a)->Q (gw l w cs).1 (k+l.length)/\(gw l w cs).2.length=cs.length+l.length
 |[],w,cs,k,h,_=>⟨h,rfl⟩
 |a::l,w,cs,k,h,hl=>by
  have h1:=sH hQ (l:=l) (cs:=cs++[(iP w a).2]) (hQ w k a h (hl a (by simp))) (fun x hx=>hl x (by simp [hx]))
  rw [gw,List.length_cons]
  refine⟨by rw [show k+(l.length+1)=k+1+l.length by omega];exact h1.1,by rw [h1.2,List.length_append,List.length_singleton];omega⟩
end
end Go.Proofs.YtjghbknhneffjaaGreat
